/- The Go functions refine their models, part 1. -/
import Derived.Test.YtldfdainhdiffaaMailApartR0
set_option linter.unusedVariables false
set_option linter.unusedSimpArgs false
set_option maxRecDepth 100000
set_option maxHeartbeats 4000000
namespace Go.Proofs.Ytldfdainhdiffaa
open Go Go.V
open _root_.Go.Proofs.Try IntKind
attribute [local irreducible] wpList Code.wp wpQuiet Calls bodyPost Oper.wp wpS Nx PendOK YieldsIn
theorem ref12_Tape_Val_ref {w0 w : World} {I : HL} {R : SP} {a0 : ref12_Tape} {p0 : Value}  (hst : St w0 w I [at_ref12_Tape p0 a0] R) {r : ((List Int) × ref12_Tape)} (hm : ref12_Tape_Val a0 = some r) :
  Calls prog 29 #[p0] w fun e w' => ∃ (q0_0 : Value), e = .returned (q0_0) ∧ St w0 w' I [ownS (tyInt .u8) q0_0 r.1, at_ref12_Tape p0 r.2] R := by {
 unfold ref12_Tape_Val at hm
 refine calls_start (args := [p0]) func29 z ntmps29 (Nat.le_of_ble_eq_true z) ?_
 refine wp_seq (wrl (wv ((.slice none 0 0)) z z z (wl_nil (tn (wp_seq (wrl (wv ((.slice none 0 0)) z z z (wl_nil (tn (wp_seq (wrl (wv (p0) z z z ?_))))))))))))
 obtain ⟨t238, ht239, hm⟩ := bind_some hm
 refine wc call28 [p0, I6 (4:Int)] z z z ?_
 refine (ref12_Tape_Next_ref hst.to1 ht239).mono ?_
 rintro _ w240 ⟨rfl, hst⟩
 refine ⟨_, z, ?_⟩
 replace hst := hst.of1
 refine wv (.int .i64 t238.1) z z z (wl_nil (tn (wp_seq (wp_seq (wrl (wv (.int .i64 (0:Int)) z z z (wl_nil (tn (wp_block ?_)))))))))
 replace hst := hst.own_nil (tyInt .u8)
 obtain ⟨n299, hm⟩ := loopO_some hm
 refine wp_loop_n (fun n a w => ∃ (z293 : ref12_Tape) (z294 : (List Int)) (z297 : Int) (v295 : Value) (σ298 : Nat → Value), loopN (ref12_Tape_Val_l0 t238) n (z293, z294, z297) = some r ∧ a = Fr 21 (upd (upd (upd (upd σ298 0 (p0)) 3 (v295)) 4 (.int .i64 t238.1)) 5 (.int .i64 z297)) ∧ St w0 w I [ownS (tyInt .u8) v295 z294, at_ref12_Tape p0 z293] R) n299 ⟨t238.2, [], (0:Int), Zs, _, hm, (fu 0 p0 z (fu 3 (.slice none 0 0) z (fu 4 (.int .i64 t238.1) z (fu 5 (.int .i64 (0:Int)) z z)))), hst⟩ ?_
 rintro n305 _ w300 ⟨z293, z294, z297, v295, σ298, hm, rfl, hst⟩
 obtain ⟨n302, y303, rfl, hm, hx304⟩ := loopN_some hm
 dsimp only [ref12_Tape_Val_l0] at hm
 refine wp_seq (wp_seq (wrl (wv (.int .i64 z297) z z z (wv (.int .i64 t238.1) z z z (wv (.bool (decide (z297 < t238.1))) z z z (wl_nil (tn ?_)))))))
 refine bsplit (decide (z297 < t238.1)) (fun hc306 => ?_) (fun hc306 => ?_)
 {
 replace hm := bif_t hc306 hm
 refine wp_ift (cvb hc306) ?_
 refine wp_skip (tn (wp_seq (wp_block (wrl ?_))))
 refine wv (v295) z z z (wv (p0) z z z ?_)
 replace hst := hst.pull1
 obtain ⟨t307, ht308, hm⟩ := bind_some hm
 refine wc call28 [p0, I6 (26:Int)] z z z ?_
 refine (ref12_Tape_Next_ref hst.to1 ht308).mono ?_
 rintro _ w309 ⟨rfl, hst⟩
 refine ⟨_, z, ?_⟩
 replace hst := hst.of1
 refine wv (.int .i64 (i64.wrap ((97:Int) + t307.1))) z z z (wv (.int .u8 (u8.wrap (i64.wrap ((97:Int) + t307.1)))) z z (by kernel_rfl) ?_)
 obtain ⟨b312, w313, ew314, eb315, hst⟩ := hst.lits (E := (tyInt .u8)) (xs := [(u8.wrap (i64.wrap ((97:Int) + t307.1)))]) [[U1 (u8.wrap (i64.wrap ((97:Int) + t307.1)))]] 5 1 z (Reps.cons z Reps.nil)
 refine wl_run (v := (.slice (some ⟨b312, 0, none⟩) 1 1)) (w' := w313) z z (x_als (by kernel_rfl) ew314 eb315) ?_
 obtain ⟨hg317, hm⟩ := gd_some hm
 replace hst := hst.pull2
 obtain ⟨v318, w319, hr320, hst⟩ := run_append elem_22 underlying22 hst hst.src1 (room_of hg317 z) 22
 refine wl_run (v := v318) (w' := w319) z z (x_append z z hr320) ?_
 refine wv (v318) z z z (wl_nil (blk_n (tn (wrl (wv (.int .i64 z297) z z z (wv (.int .i64 (i64.wrap (z297 + (1:Int)))) z z z (wv (.int .i64 (i64.wrap (z297 + (1:Int)))) z z z (wl_nil (tn ?_)))))))))
 replace hst := hst.pull2.pull1.keep2
 obtain rfl := some_inj hm
 exact ⟨_, Nat.lt_succ_self _, t307.2, (z294 ++ ([(u8.wrap (i64.wrap ((97:Int) + t307.1)))])), (i64.wrap (z297 + (1:Int))), v318, _, hx304, (fu 0 p0 z (fu 3 v318 z (fu 4 (.int .i64 t238.1) z (fu 5 (.int .i64 (i64.wrap (z297 + (1:Int)))) z z)))), hst⟩
}
 {
 replace hm := bif_f hc306 hm
 refine wp_iff (cvb hc306) ?_
 refine wp_exit (then_x (then_x ?_))
 replace hm := inr_up hm hx304
 refine blk_x (tn (wp_seq (wrl ?_)))
 refine wv (v295) z z z (wv (v295) z z z (wl_nil (tn (wp_ret ?_))))
 obtain rfl := some_inj hm
 refine post_ret (vs := [v295]) results29 (rvs_cons (rv_tmp z) rvs_nil) ?_
 replace hst := hst.pull1.pull1
 exact ⟨v295, z, hst.keep2⟩
}
}

theorem ref12_Tape_Of_ref {w0 w : World} {I : HL} {R : SP} {a0 : ref12_Tape} {p0 : Value}  (hst : St w0 w I [at_ref12_Tape p0 a0] R) {r : (api_ID × ref12_Tape)} (hm : ref12_Tape_Of a0 = some r) :
  Calls prog 32 #[p0] w fun e w' => e = .returned (.agg #[U6 r.1.Session, U6 r.1.Seq]) ∧ St w0 w' I [at_ref12_Tape p0 r.2] R := by {
 unfold ref12_Tape_Of at hm
 refine calls_start (args := [p0]) func32 z ntmps32 (Nat.le_of_ble_eq_true z) ?_
 refine wp_seq (wrl ?_)
 obtain ⟨b378, w379, ew380, eb381, hst⟩ := hst.box [Zu, Zu] 32
 refine wl_run (v := Pt b378 0) (w' := w379) z z (x_al (by kernel_rfl) ew380 eb381) ?_
 refine wl_nil (tn (wp_seq (wrl (wv (p0) z z z ?_))))
 replace hst := hst.pull1
 obtain ⟨t383, ht384, hm⟩ := bind_some hm
 refine wc call28 [p0, I6 (4:Int)] z z z ?_
 refine (ref12_Tape_Next_ref hst.to1 ht384).mono ?_
 rintro _ w385 ⟨rfl, hst⟩
 refine ⟨_, z, ?_⟩
 replace hst := hst.of1
 refine wv (.int .u64 (u64.wrap t383.1)) z z (by kernel_rfl) (wv (p0) z z z ?_)
 obtain ⟨t388, ht389, hm⟩ := bind_some hm
 refine wc call28 [p0, I6 (4:Int)] z z z ?_
 refine (ref12_Tape_Next_ref hst.to1 ht389).mono ?_
 rintro _ w390 ⟨rfl, hst⟩
 refine ⟨_, z, ?_⟩
 replace hst := hst.of1
 refine wv (.int .i64 (i64.wrap ((1:Int) + t388.1))) z z z (wv (.int .u64 (u64.wrap (i64.wrap ((1:Int) + t388.1)))) z z (by kernel_rfl) (wv (.agg #[U6 (u64.wrap t383.1), U6 (u64.wrap (i64.wrap ((1:Int) + t388.1)))]) z z (by kernel_rfl) ?_))
 replace hst := hst.pull1
 obtain ⟨w393, hr394, hst⟩ := hst.bx [U6 (u64.wrap t383.1), U6 (u64.wrap (i64.wrap ((1:Int) + t388.1)))] sizeOf32 z (oC z (oC z oN)) (by kernel_rfl)
 refine wl_unit z z (x_unit hr394) ?_
 refine wl_nil (tn (wp_ret ?_))
 obtain rfl := some_inj hm
 refine post_ret (vs := [.agg #[U6 (u64.wrap t383.1), U6 (u64.wrap (i64.wrap ((1:Int) + t388.1)))]]) results32 (rvs_cons (rv_cell (cs := [U6 (u64.wrap t383.1), U6 (u64.wrap (i64.wrap ((1:Int) + t388.1)))]) z isAgg32 sizeOf32 (hst.bcs0 0 z)) rvs_nil) ?_
 replace hst := hst.pull1
 exact ⟨z, hst.keep1⟩
}

theorem ref12_small_ref {w0 w : World} {I : HL} {R : SP} {a0 : Int}  (hst : St w0 w I [] R) {r : (Nat)} (hm : ref12_small a0 = some r) :
  Calls prog 70 #[U1 a0] w fun e w' => e = .returned (.float .f64 r) ∧ St w0 w' I [] R := by {
 unfold ref12_small at hm
 refine calls_start (args := [U1 a0]) func70 z ntmps70 (Nat.le_of_ble_eq_true z) ?_
 refine wp_seq (wrl (wv (.float .f64 (0:Nat)) z z z (wl_nil (tn (wp_seq (wrl ?_))))))
 obtain ⟨b406, w407, ew408, eb409, hst⟩ := hst.lits (E := tyF64) (xs := [(0:Nat), (4607182418800017408:Nat), (13830554455654793216:Nat), (4612811918334230528:Nat), (9094988921128908188:Nat), (18318360957983683996:Nat), (4602678819172646912:Nat), (4613937818241073152:Nat)]) [[Zf], [F6 (4607182418800017408:Nat)], [F6 (13830554455654793216:Nat)], [F6 (4612811918334230528:Nat)], [F6 (9094988921128908188:Nat)], [F6 (18318360957983683996:Nat)], [F6 (4602678819172646912:Nat)], [F6 (4613937818241073152:Nat)]] 44 8 z (Reps.cons z (Reps.cons z (Reps.cons z (Reps.cons z (Reps.cons z (Reps.cons z (Reps.cons z (Reps.cons z Reps.nil))))))))
 refine wl_run (v := (.slice (some ⟨b406, 0, none⟩) 8 8)) (w' := w407) z z (x_als (by kernel_rfl) ew408 eb409) ?_
 refine wv ((.slice (some ⟨b406, 0, none⟩) 8 8)) z z z (wl_nil (tn (wp_seq (wrl (wv ((.slice (some ⟨b406, 0, none⟩) 8 8)) z z z (wv (.int .u8 a0) z z z (wv (.int .u8 (Int.tmod a0 (8:Int))) z z (x_rem (by decide) z z) ?_)))))))
 obtain ⟨x411, hx412, hm⟩ := bind_some hm
 obtain ⟨h413, h414, hi415⟩ := geto_some hx412
 refine wv (.pointer (some (eAddr (.slice (some ⟨b406, 0, none⟩) 8 8) ((Int.tmod a0 (8:Int)).toNat * 1 + 0)))) z z (x_index z z underlying33 sizeOf44 hst.sv0 h413 h414) (wv (.float .f64 x411) z z (x_load z isAgg44 (hst.ol0 hi415 (by rintro _ rfl; rfl))) (wv (.float .f64 x411) z z z (wl_nil (tn (wp_ret ?_)))))
 obtain rfl := some_inj hm
 refine post_ret (vs := [F6 x411]) results70 (rvs_cons (rv_tmp z) rvs_nil) ?_
 exact ⟨z, hst.keep0⟩
}

theorem ref12_Tape_Float_ref {w0 w : World} {I : HL} {R : SP} {a0 : ref12_Tape} {p0 : Value}  (hst : St w0 w I [at_ref12_Tape p0 a0] R) {r : (Nat × ref12_Tape)} (hm : ref12_Tape_Float a0 = some r) :
  Calls prog 59 #[p0] w fun e w' => e = .returned (.float .f64 r.1) ∧ St w0 w' I [at_ref12_Tape p0 r.2] R := by {
 unfold ref12_Tape_Float at hm
 refine calls_start (args := [p0]) func59 z ntmps59 (Nat.le_of_ble_eq_true z) ?_
 refine wp_seq (wrl (wv (.float .f64 (0:Nat)) z z z (wl_nil (tn (wp_seq (wrl (wv (p0) z z z ?_)))))))
 obtain ⟨t402, ht403, hm⟩ := bind_some hm
 refine wc call28 [p0, I6 (8:Int)] z z z ?_
 refine (ref12_Tape_Next_ref hst.to1 ht403).mono ?_
 rintro _ w404 ⟨rfl, hst⟩
 refine ⟨_, z, ?_⟩
 replace hst := hst.of1
 refine wv (.int .u8 (u8.wrap t402.1)) z z (by kernel_rfl) ?_
 obtain ⟨t407, ht408, hm⟩ := bind_some hm
 refine wc call70 [U1 (u8.wrap t402.1)] z z z ?_
 refine (ref12_small_ref hst.to0 ht408).mono ?_
 rintro _ w409 ⟨rfl, hst⟩
 refine ⟨_, z, ?_⟩
 replace hst := hst.of0
 refine wv (.float .f64 t407) z z z (wl_nil (tn (wp_ret ?_)))
 obtain rfl := some_inj hm
 refine post_ret (vs := [F6 t407]) results59 (rvs_cons (rv_tmp z) rvs_nil) ?_
 exact ⟨z, hst.keep1⟩
}

theorem ref12_Tape_Hold_ref {w0 w : World} {I : HL} {R : SP} {a0 : ref12_Tape} {p0 : Value}  (hst : St w0 w I [at_ref12_Tape p0 a0] R) {r : (api_Hold × ref12_Tape)} (hm : ref12_Tape_Hold a0 = some r) :
  Calls prog 30 #[p0] w fun e w' => ∃ (q0_0 : Value) (q0_1 : Value) (q0_2 : Value) (q0_3 : Value), e = .returned (.agg #[U6 r.1.ID.Session, U6 r.1.ID.Seq, U6 r.1.Epoch, q0_0, q0_1, q0_2, q0_3]) ∧ St w0 w' I [ownS tyF64 q0_0 r.1.Gets, ownS tyF2 q0_1 r.1.Scans, ownS tyF64 q0_2 r.1.Puts, ownS (tyInt .u8) q0_3 r.1.Data, at_ref12_Tape p0 r.2] R := by {
 unfold ref12_Tape_Hold at hm
 refine calls_start (args := [p0]) func30 z ntmps30 (Nat.le_of_ble_eq_true z) ?_
 refine wp_seq (wrl ?_)
 obtain ⟨b728, w729, ew730, eb731, hst⟩ := hst.box [Zu, Zu, Zu, Zs, Zs, Zs, Zs] 36
 refine wl_run (v := Pt b728 0) (w' := w729) z z (x_al (by kernel_rfl) ew730 eb731) ?_
 refine wl_nil (tn (wp_seq (wrl (wv (p0) z z z ?_))))
 replace hst := hst.pull1
 obtain ⟨t733, ht734, hm⟩ := bind_some hm
 refine wc call32 [p0] z z z ?_
 refine (ref12_Tape_Of_ref hst.to1 ht734).mono ?_
 rintro _ w735 ⟨rfl, hst⟩
 refine ⟨_, z, ?_⟩
 replace hst := hst.of1
 refine wv (p0) z z z ?_
 obtain ⟨t738, ht739, hm⟩ := bind_some hm
 refine wc call28 [p0, I6 (4:Int)] z z z ?_
 refine (ref12_Tape_Next_ref hst.to1 ht739).mono ?_
 rintro _ w740 ⟨rfl, hst⟩
 refine ⟨_, z, ?_⟩
 replace hst := hst.of1
 refine wv (.int .i64 (i64.wrap ((1:Int) + t738.1))) z z z (wv (.int .u64 (u64.wrap (i64.wrap ((1:Int) + t738.1)))) z z (by kernel_rfl) (wv (.agg #[U6 t733.1.Session, U6 t733.1.Seq, U6 (u64.wrap (i64.wrap ((1:Int) + t738.1))), Zs, Zs, Zs, Zs]) z z (by kernel_rfl) ?_))
 obtain ⟨b751, w752, ew753, eb754, hst⟩ := hst.box [Zu, Zu, Zu, Zs, Zs, Zs, Zs] 36
 refine wl_run (v := Pt b751 0) (w' := w752) z z (x_al (by kernel_rfl) ew753 eb754) ?_
 obtain ⟨w756, hr757, hst⟩ := hst.bx [U6 t733.1.Session, U6 t733.1.Seq, U6 (u64.wrap (i64.wrap ((1:Int) + t738.1))), Zs, Zs, Zs, Zs] sizeOf36 z (oC z (oC z (oC z (oC z (oC z (oC z (oC z oN))))))) (by kernel_rfl)
 refine wl_unit z z (x_unit hr757) ?_
 refine wl_nil (tn (wp_seq (wrl (wv (p0) z z z ?_))))
 replace hst := hst.pull1
 obtain ⟨t758, ht759, hm⟩ := bind_some hm
 refine wc call28 [p0, I6 (3:Int)] z z z ?_
 refine (ref12_Tape_Next_ref hst.to1 ht759).mono ?_
 rintro _ w760 ⟨rfl, hst⟩
 refine ⟨_, z, ?_⟩
 replace hst := hst.of1
 refine wv (.int .i64 t758.1) z z z (wl_nil (tn ?_))
 obtain ⟨y855, hm, hx856⟩ := bind_some hm
 refine wp_cut (fun a w => ∃ (z849 : ref12_Tape) (z852 : (List Nat)) (v851 : Value) (σ853 : Nat → Value), (ref12_Tape_Hold_j0 t733 t738) (z849, z852) = some r ∧ a = Fr 68 (upd (upd (upd σ853 0 (p0)) 2 (Pt b728 0)) 3 (Pt b751 0)) ∧ St w0 w I [at_ref12_Tape p0 z849, cells b728 [Zu, Zu, Zu, Zs, Zs, Zs, Zs], cells b751 [U6 t733.1.Session, U6 t733.1.Seq, U6 (u64.wrap (i64.wrap ((1:Int) + t738.1))), v851, Zs, Zs, Zs], ownS tyF64 v851 z852] R) ?_ ?_
 {
 refine wp_seq (wrl (wv (.int .i64 (0:Int)) z z z (wl_nil (tn (wp_block ?_)))))
 replace hst := hst.own_nil tyF64
 obtain ⟨n825, hm⟩ := loopO_some hm
 refine wp_loop_n (fun n a w => ∃ (z819 : (List Nat)) (z822 : ref12_Tape) (z823 : Int) (v820 : Value) (σ824 : Nat → Value), loopN (ref12_Tape_Hold_l1 t758) n (z819, z822, z823) = some y855 ∧ a = Fr 68 (upd (upd (upd (upd (upd σ824 0 (p0)) 2 (Pt b728 0)) 3 (Pt b751 0)) 4 (.int .i64 t758.1)) 5 (.int .i64 z823)) ∧ St w0 w I [ownS tyF64 v820 z819, at_ref12_Tape p0 z822, cells b751 [U6 t733.1.Session, U6 t733.1.Seq, U6 (u64.wrap (i64.wrap ((1:Int) + t738.1))), v820, Zs, Zs, Zs], cells b728 [Zu, Zu, Zu, Zs, Zs, Zs, Zs]] R) n825 ⟨[], t758.2, (0:Int), Zs, _, hm, (fu 0 p0 z (fu 2 (Pt b728 0) z (fu 3 (Pt b751 0) z (fu 4 (.int .i64 t758.1) z (fu 5 (.int .i64 (0:Int)) z z))))), hst⟩ ?_
 rintro n831 _ w826 ⟨z819, z822, z823, v820, σ824, hm, rfl, hst⟩
 obtain ⟨n828, y829, rfl, hm, hx830⟩ := loopN_some hm
 dsimp only [ref12_Tape_Hold_l1] at hm
 refine wp_seq (wp_seq (wrl (wv (.int .i64 z823) z z z (wv (.int .i64 t758.1) z z z (wv (.bool (decide (z823 < t758.1))) z z z (wl_nil (tn ?_)))))))
 refine bsplit (decide (z823 < t758.1)) (fun hc832 => ?_) (fun hc832 => ?_)
 {
 replace hm := bif_t hc832 hm
 refine wp_ift (cvb hc832) ?_
 refine wp_skip (tn (wp_seq (wp_block ?_)))
 refine wp_region_St hst 8 [0, 1, 2, 3, 4, 5, 6, 7] [0, 1, 0, 4, 12, 31, 63, 127] [] z (by kernel_rfl) (by kernel_rfl) Try.mixed (by kernel_rfl) ?_
 refine wsr (Pt b751 3) 0 z z z (by kernel_rfl) (fun w hst => x_field z underlying36 z sizeOf33 z) (wsr (v820) 1 z z z (by kernel_rfl) (fun w hst => x_load z isAgg33 (hst.bc2 z)) (wsr (p0) 2 z z z (by kernel_rfl) (fun w hst => z) ?_))
 refine ws_e1 3 (by kernel_rfl) ?_
 refine nxe [4, 5, 6, 7] (by kernel_rfl) z z ?_
 clear hst
 intro w hst
 replace hst := hst.pull1
 obtain ⟨t833, ht834, hm⟩ := bind_some hm
 refine wec call59 [p0] z z ?_
 refine (ref12_Tape_Float_ref hst.to1 ht834).mono ?_
 rintro _ w835 ⟨rfl, hst⟩
 refine ⟨_, z, ?_⟩
 replace hst := hst.of1
 refine ws_next (pend' := [(1, v820), (0, Pt b751 3)]) hst (by kernel_rfl) (pkr z z (fun w hst => x_load z isAgg33 (hst.bc2 z)) (pkr z z (fun w hst => x_field z underlying36 z sizeOf33 z) pk_nil)) ?_
 refine ws_e1 4 (by kernel_rfl) ?_
 refine nxe [5, 6, 7] (by kernel_rfl) z z ?_
 clear hst
 intro w hst
 obtain ⟨b838, w839, ew840, eb841, hst⟩ := hst.lits (E := tyF64) (xs := [t833.1]) [[F6 t833.1]] 44 1 z (Reps.cons z Reps.nil)
 refine we_run (v := (.slice (some ⟨b838, 0, none⟩) 1 1)) (w' := w839) z (x_als (by kernel_rfl) ew840 eb841) ?_
 refine ws_next (pend' := [(1, v820), (0, Pt b751 3)]) hst (by kernel_rfl) (pkr z z (fun w hst => x_load z isAgg33 (hst.bc3 z)) (pkr z z (fun w hst => x_field z underlying36 z sizeOf33 z) pk_nil)) ?_
 refine ws_e1 5 (by kernel_rfl) ?_
 refine nxe [6, 7] (by kernel_rfl) z z ?_
 clear hst
 intro w hst
 obtain ⟨hg843, hm⟩ := gd_some hm
 replace hst := hst.pull2
 obtain ⟨v844, w845, hr846, hst⟩ := run_append elem_33 underlying33 hst hst.src1 (room_of hg843 z) 33
 refine we_run (v := v844) (w' := w845) z (x_append z z hr846) ?_
 refine ws_next (pend' := []) hst (by kernel_rfl) pk_nil ?_
 refine wsr (Pt b751 3) 6 z z z (by kernel_rfl) (fun w hst => x_field z underlying36 z sizeOf33 z) ?_
 refine ws_e1 7 (by kernel_rfl) ?_
 refine nxe [] (by kernel_rfl) z z ?_
 clear hst
 intro w hst
 replace hst := hst.pull3
 obtain ⟨w847, hr848, hst⟩ := hst.boxStore1 (P := prog) (t := 33) (cs' := [U6 t733.1.Session, U6 t733.1.Seq, U6 (u64.wrap (i64.wrap ((1:Int) + t738.1))), v844, Zs, Zs, Zs]) 3 v844 (one_of_sliceV hst.sv1) sizeOf33 z z
 refine we_unit z (x_unit hr848) ?_
 refine ws_next (pend' := []) hst (by kernel_rfl) pk_nil ?_
 refine ws_nil ?_
 intro w hst
 refine blk_n (tn (wrl ?_))
 refine wv (.int .i64 z823) z z z (wv (.int .i64 (i64.wrap (z823 + (1:Int)))) z z z (wv (.int .i64 (i64.wrap (z823 + (1:Int)))) z z z (wl_nil (tn ?_))))
 replace hst := hst.pull4.pull1.pull4.pull3.keep4
 obtain rfl := some_inj hm
 exact ⟨_, Nat.lt_succ_self _, (z819 ++ ([t833.1])), t833.2, (i64.wrap (z823 + (1:Int))), v844, _, hx830, (fu 0 p0 z (fu 2 (Pt b728 0) z (fu 3 (Pt b751 0) z (fu 4 (.int .i64 t758.1) z (fu 5 (.int .i64 (i64.wrap (z823 + (1:Int)))) z z))))), hst⟩
}
 {
 replace hm := bif_f hc832 hm
 refine wp_iff (cvb hc832) ?_
 refine wp_exit (then_x (then_x ?_))
 replace hm := inr_up hm hx830
 refine blk_x (tn ?_)
 replace hst := hst.pull2.pull3.pull3.keep4
 obtain rfl := some_inj hm
 exact ⟨z822, z819, v820, _, hx856, (fu 0 p0 z (fu 2 (Pt b728 0) z (fu 3 (Pt b751 0) z z))), hst⟩
}
}
 {
 clear hst
 rintro _ w857 ⟨z849, z852, v851, σ853, hm, rfl, hst⟩
 dsimp only [ref12_Tape_Hold_j0] at hm
 refine wp_seq (wrl (wv (p0) z z z ?_))
 obtain ⟨t858, ht859, hm⟩ := bind_some hm
 refine wc call28 [p0, I6 (3:Int)] z z z ?_
 refine (ref12_Tape_Next_ref hst.to1 ht859).mono ?_
 rintro _ w860 ⟨rfl, hst⟩
 refine ⟨_, z, ?_⟩
 replace hst := hst.of1
 refine wv (.int .i64 (i64.wrap (Int.tdiv t858.1 (2:Int)))) z z (x_quo (by decide) z z) (wv (.int .i64 (i64.wrap (Int.tdiv t858.1 (2:Int)))) z z z (wl_nil (tn ?_)))
 obtain ⟨y975, hm, hx976⟩ := bind_some hm
 refine wp_cut (fun a w => ∃ (z969 : ref12_Tape) (z972 : (List (Nat × Nat))) (v971 : Value) (σ973 : Nat → Value), (ref12_Tape_Hold_j2 t733 t738 z852) (z969, z972) = some r ∧ a = Fr 68 (upd (upd (upd σ973 0 (p0)) 2 (Pt b728 0)) 3 (Pt b751 0)) ∧ St w0 w I [at_ref12_Tape p0 z969, cells b728 [Zu, Zu, Zu, Zs, Zs, Zs, Zs], cells b751 [U6 t733.1.Session, U6 t733.1.Seq, U6 (u64.wrap (i64.wrap ((1:Int) + t738.1))), v851, v971, Zs, Zs], ownS tyF64 v851 z852, ownS tyF2 v971 z972] R) ?_ ?_
 {
 refine wp_seq (wrl (wv (.int .i64 (0:Int)) z z z (wl_nil (tn (wp_block ?_)))))
 replace hst := hst.own_nil tyF2
 obtain ⟨n940, hm⟩ := loopO_some hm
 refine wp_loop_n (fun n a w => ∃ (z934 : (List (Nat × Nat))) (z937 : ref12_Tape) (z938 : Int) (v935 : Value) (σ939 : Nat → Value), loopN (ref12_Tape_Hold_l3 t858) n (z934, z937, z938) = some y975 ∧ a = Fr 68 (upd (upd (upd (upd (upd σ939 0 (p0)) 2 (Pt b728 0)) 3 (Pt b751 0)) 4 (.int .i64 (i64.wrap (Int.tdiv t858.1 (2:Int))))) 6 (.int .i64 z938)) ∧ St w0 w I [ownS tyF2 v935 z934, at_ref12_Tape p0 z937, cells b728 [Zu, Zu, Zu, Zs, Zs, Zs, Zs], cells b751 [U6 t733.1.Session, U6 t733.1.Seq, U6 (u64.wrap (i64.wrap ((1:Int) + t738.1))), v851, v935, Zs, Zs], ownS tyF64 v851 z852] R) n940 ⟨[], t858.2, (0:Int), Zs, _, hm, (fu 0 p0 z (fu 2 (Pt b728 0) z (fu 3 (Pt b751 0) z (fu 4 (.int .i64 (i64.wrap (Int.tdiv t858.1 (2:Int)))) z (fu 6 (.int .i64 (0:Int)) z z))))), hst⟩ ?_
 rintro n946 _ w941 ⟨z934, z937, z938, v935, σ939, hm, rfl, hst⟩
 obtain ⟨n943, y944, rfl, hm, hx945⟩ := loopN_some hm
 dsimp only [ref12_Tape_Hold_l3] at hm
 refine wp_seq (wp_seq (wrl (wv (.int .i64 z938) z z z (wv (.int .i64 (i64.wrap (Int.tdiv t858.1 (2:Int)))) z z z (wv (.bool (decide (z938 < (i64.wrap (Int.tdiv t858.1 (2:Int)))))) z z z (wl_nil (tn ?_)))))))
 refine bsplit (decide (z938 < (i64.wrap (Int.tdiv t858.1 (2:Int))))) (fun hc947 => ?_) (fun hc947 => ?_)
 {
 replace hm := bif_t hc947 hm
 refine wp_ift (cvb hc947) ?_
 refine wp_skip (tn (wp_seq (wp_block ?_)))
 refine wp_region_St hst 11 [0, 1, 2, 3, 4, 5, 6, 7, 8, 9, 10] [0, 1, 0, 4, 0, 28, 60, 124, 255, 511, 1023] [] z (by kernel_rfl) (by kernel_rfl) Try.mixed (by kernel_rfl) ?_
 refine wsr (Pt b751 4) 0 z z z (by kernel_rfl) (fun w hst => x_field z underlying36 z sizeOf34 z) (wsr (v935) 1 z z z (by kernel_rfl) (fun w hst => x_load z isAgg34 (hst.bc3 z)) (wsr (p0) 2 z z z (by kernel_rfl) (fun w hst => z) (wsr (p0) 4 z z z (by kernel_rfl) (fun w hst => z) ?_)))
 refine ws_e1 3 (by kernel_rfl) ?_
 refine nxe [5, 6, 7, 8, 9, 10] (by kernel_rfl) z z ?_
 clear hst
 intro w hst
 replace hst := hst.pull1
 obtain ⟨t948, ht949, hm⟩ := bind_some hm
 refine wec call59 [p0] z z ?_
 refine (ref12_Tape_Float_ref hst.to1 ht949).mono ?_
 rintro _ w950 ⟨rfl, hst⟩
 refine ⟨_, z, ?_⟩
 replace hst := hst.of1
 refine ws_next (pend' := [(4, p0), (1, v935), (0, Pt b751 4)]) hst (by kernel_rfl) (pkr z z (fun w hst => z) (pkr z z (fun w hst => x_load z isAgg34 (hst.bc3 z)) (pkr z z (fun w hst => x_field z underlying36 z sizeOf34 z) pk_nil))) ?_
 refine ws_e1 5 (by kernel_rfl) ?_
 refine nxe [6, 7, 8, 9, 10] (by kernel_rfl) z z ?_
 clear hst
 intro w hst
 obtain ⟨t953, ht954, hm⟩ := bind_some hm
 refine wec call59 [p0] z z ?_
 refine (ref12_Tape_Float_ref hst.to1 ht954).mono ?_
 rintro _ w955 ⟨rfl, hst⟩
 refine ⟨_, z, ?_⟩
 replace hst := hst.of1
 refine ws_next (pend' := [(1, v935), (0, Pt b751 4)]) hst (by kernel_rfl) (pkr z z (fun w hst => x_load z isAgg34 (hst.bc3 z)) (pkr z z (fun w hst => x_field z underlying36 z sizeOf34 z) pk_nil)) ?_
 refine wsr (.agg #[F6 t948.1, F6 t953.1]) 6 z z z (by kernel_rfl) (fun w hst => by kernel_rfl) ?_
 refine ws_e1 7 (by kernel_rfl) ?_
 refine nxe [8, 9, 10] (by kernel_rfl) z z ?_
 clear hst
 intro w hst
 obtain ⟨b958, w959, ew960, eb961, hst⟩ := hst.lits (E := tyF2) (xs := [(t948.1, t953.1)]) [[F6 t948.1, F6 t953.1]] 102 1 z (Reps.cons z Reps.nil)
 refine we_run (v := (.slice (some ⟨b958, 0, none⟩) 1 1)) (w' := w959) z (x_als (by kernel_rfl) ew960 eb961) ?_
 refine ws_next (pend' := [(1, v935), (0, Pt b751 4)]) hst (by kernel_rfl) (pkr z z (fun w hst => x_load z isAgg34 (hst.bc4 z)) (pkr z z (fun w hst => x_field z underlying36 z sizeOf34 z) pk_nil)) ?_
 refine ws_e1 8 (by kernel_rfl) ?_
 refine nxe [9, 10] (by kernel_rfl) z z ?_
 clear hst
 intro w hst
 obtain ⟨hg963, hm⟩ := gd_some hm
 replace hst := hst.pull2
 obtain ⟨v964, w965, hr966, hst⟩ := run_append elem_34 underlying34 hst hst.src1 (room_of hg963 z) 34
 refine we_run (v := v964) (w' := w965) z (x_append z z hr966) ?_
 refine ws_next (pend' := []) hst (by kernel_rfl) pk_nil ?_
 refine wsr (Pt b751 4) 9 z z z (by kernel_rfl) (fun w hst => x_field z underlying36 z sizeOf34 z) ?_
 refine ws_e1 10 (by kernel_rfl) ?_
 refine nxe [] (by kernel_rfl) z z ?_
 clear hst
 intro w hst
 replace hst := hst.pull4
 obtain ⟨w967, hr968, hst⟩ := hst.boxStore1 (P := prog) (t := 34) (cs' := [U6 t733.1.Session, U6 t733.1.Seq, U6 (u64.wrap (i64.wrap ((1:Int) + t738.1))), v851, v964, Zs, Zs]) 4 v964 (one_of_sliceV hst.sv1) sizeOf34 z z
 refine we_unit z (x_unit hr968) ?_
 refine ws_next (pend' := []) hst (by kernel_rfl) pk_nil ?_
 refine ws_nil ?_
 intro w hst
 refine blk_n (tn (wrl ?_))
 refine wv (.int .i64 z938) z z z (wv (.int .i64 (i64.wrap (z938 + (1:Int)))) z z z (wv (.int .i64 (i64.wrap (z938 + (1:Int)))) z z z (wl_nil (tn ?_))))
 replace hst := hst.pull5.pull1.pull5.pull5.pull4.keep5
 obtain rfl := some_inj hm
 exact ⟨_, Nat.lt_succ_self _, (z934 ++ ([(t948.1, t953.1)])), t953.2, (i64.wrap (z938 + (1:Int))), v964, _, hx945, (fu 0 p0 z (fu 2 (Pt b728 0) z (fu 3 (Pt b751 0) z (fu 4 (.int .i64 (i64.wrap (Int.tdiv t858.1 (2:Int)))) z (fu 6 (.int .i64 (i64.wrap (z938 + (1:Int)))) z z))))), hst⟩
}
 {
 replace hm := bif_f hc947 hm
 refine wp_iff (cvb hc947) ?_
 refine wp_exit (then_x (then_x ?_))
 replace hm := inr_up hm hx945
 refine blk_x (tn ?_)
 replace hst := hst.pull4.pull4.pull4.pull4.keep5
 obtain rfl := some_inj hm
 exact ⟨z937, z934, v935, _, hx976, (fu 0 p0 z (fu 2 (Pt b728 0) z (fu 3 (Pt b751 0) z z))), hst⟩
}
}
 {
 clear hst
 rintro _ w977 ⟨z969, z972, v971, σ973, hm, rfl, hst⟩
 dsimp only [ref12_Tape_Hold_j2] at hm
 refine wp_seq (wrl (wv (p0) z z z ?_))
 obtain ⟨t978, ht979, hm⟩ := bind_some hm
 refine wc call28 [p0, I6 (3:Int)] z z z ?_
 refine (ref12_Tape_Next_ref hst.to1 ht979).mono ?_
 rintro _ w980 ⟨rfl, hst⟩
 refine ⟨_, z, ?_⟩
 replace hst := hst.of1
 refine wv (.int .i64 t978.1) z z z (wl_nil (tn ?_))
 obtain ⟨y1075, hm, hx1076⟩ := bind_some hm
 refine wp_cut (fun a w => ∃ (z1069 : ref12_Tape) (z1072 : (List Nat)) (v1071 : Value) (σ1073 : Nat → Value), (ref12_Tape_Hold_j4 t733 t738 z852 z972) (z1069, z1072) = some r ∧ a = Fr 68 (upd (upd (upd σ1073 0 (p0)) 2 (Pt b728 0)) 3 (Pt b751 0)) ∧ St w0 w I [at_ref12_Tape p0 z1069, cells b728 [Zu, Zu, Zu, Zs, Zs, Zs, Zs], cells b751 [U6 t733.1.Session, U6 t733.1.Seq, U6 (u64.wrap (i64.wrap ((1:Int) + t738.1))), v851, v971, v1071, Zs], ownS tyF64 v851 z852, ownS tyF2 v971 z972, ownS tyF64 v1071 z1072] R) ?_ ?_
 {
 refine wp_seq (wrl (wv (.int .i64 (0:Int)) z z z (wl_nil (tn (wp_block ?_)))))
 replace hst := hst.own_nil tyF64
 obtain ⟨n1045, hm⟩ := loopO_some hm
 refine wp_loop_n (fun n a w => ∃ (z1039 : (List Nat)) (z1042 : ref12_Tape) (z1043 : Int) (v1040 : Value) (σ1044 : Nat → Value), loopN (ref12_Tape_Hold_l5 t978) n (z1039, z1042, z1043) = some y1075 ∧ a = Fr 68 (upd (upd (upd (upd (upd σ1044 0 (p0)) 2 (Pt b728 0)) 3 (Pt b751 0)) 4 (.int .i64 t978.1)) 7 (.int .i64 z1043)) ∧ St w0 w I [ownS tyF64 v1040 z1039, at_ref12_Tape p0 z1042, cells b728 [Zu, Zu, Zu, Zs, Zs, Zs, Zs], cells b751 [U6 t733.1.Session, U6 t733.1.Seq, U6 (u64.wrap (i64.wrap ((1:Int) + t738.1))), v851, v971, v1040, Zs], ownS tyF64 v851 z852, ownS tyF2 v971 z972] R) n1045 ⟨[], t978.2, (0:Int), Zs, _, hm, (fu 0 p0 z (fu 2 (Pt b728 0) z (fu 3 (Pt b751 0) z (fu 4 (.int .i64 t978.1) z (fu 7 (.int .i64 (0:Int)) z z))))), hst⟩ ?_
 rintro n1051 _ w1046 ⟨z1039, z1042, z1043, v1040, σ1044, hm, rfl, hst⟩
 obtain ⟨n1048, y1049, rfl, hm, hx1050⟩ := loopN_some hm
 dsimp only [ref12_Tape_Hold_l5] at hm
 refine wp_seq (wp_seq (wrl (wv (.int .i64 z1043) z z z (wv (.int .i64 t978.1) z z z (wv (.bool (decide (z1043 < t978.1))) z z z (wl_nil (tn ?_)))))))
 refine bsplit (decide (z1043 < t978.1)) (fun hc1052 => ?_) (fun hc1052 => ?_)
 {
 replace hm := bif_t hc1052 hm
 refine wp_ift (cvb hc1052) ?_
 refine wp_skip (tn (wp_seq (wp_block ?_)))
 refine wp_region_St hst 8 [0, 1, 2, 3, 4, 5, 6, 7] [0, 1, 0, 4, 12, 31, 63, 127] [] z (by kernel_rfl) (by kernel_rfl) Try.mixed (by kernel_rfl) ?_
 refine wsr (Pt b751 5) 0 z z z (by kernel_rfl) (fun w hst => x_field z underlying36 z sizeOf33 z) (wsr (v1040) 1 z z z (by kernel_rfl) (fun w hst => x_load z isAgg33 (hst.bc3 z)) (wsr (p0) 2 z z z (by kernel_rfl) (fun w hst => z) ?_))
 refine ws_e1 3 (by kernel_rfl) ?_
 refine nxe [4, 5, 6, 7] (by kernel_rfl) z z ?_
 clear hst
 intro w hst
 replace hst := hst.pull1
 obtain ⟨t1053, ht1054, hm⟩ := bind_some hm
 refine wec call59 [p0] z z ?_
 refine (ref12_Tape_Float_ref hst.to1 ht1054).mono ?_
 rintro _ w1055 ⟨rfl, hst⟩
 refine ⟨_, z, ?_⟩
 replace hst := hst.of1
 refine ws_next (pend' := [(1, v1040), (0, Pt b751 5)]) hst (by kernel_rfl) (pkr z z (fun w hst => x_load z isAgg33 (hst.bc3 z)) (pkr z z (fun w hst => x_field z underlying36 z sizeOf33 z) pk_nil)) ?_
 refine ws_e1 4 (by kernel_rfl) ?_
 refine nxe [5, 6, 7] (by kernel_rfl) z z ?_
 clear hst
 intro w hst
 obtain ⟨b1058, w1059, ew1060, eb1061, hst⟩ := hst.lits (E := tyF64) (xs := [t1053.1]) [[F6 t1053.1]] 44 1 z (Reps.cons z Reps.nil)
 refine we_run (v := (.slice (some ⟨b1058, 0, none⟩) 1 1)) (w' := w1059) z (x_als (by kernel_rfl) ew1060 eb1061) ?_
 refine ws_next (pend' := [(1, v1040), (0, Pt b751 5)]) hst (by kernel_rfl) (pkr z z (fun w hst => x_load z isAgg33 (hst.bc4 z)) (pkr z z (fun w hst => x_field z underlying36 z sizeOf33 z) pk_nil)) ?_
 refine ws_e1 5 (by kernel_rfl) ?_
 refine nxe [6, 7] (by kernel_rfl) z z ?_
 clear hst
 intro w hst
 obtain ⟨hg1063, hm⟩ := gd_some hm
 replace hst := hst.pull2
 obtain ⟨v1064, w1065, hr1066, hst⟩ := run_append elem_33 underlying33 hst hst.src1 (room_of hg1063 z) 33
 refine we_run (v := v1064) (w' := w1065) z (x_append z z hr1066) ?_
 refine ws_next (pend' := []) hst (by kernel_rfl) pk_nil ?_
 refine wsr (Pt b751 5) 6 z z z (by kernel_rfl) (fun w hst => x_field z underlying36 z sizeOf33 z) ?_
 refine ws_e1 7 (by kernel_rfl) ?_
 refine nxe [] (by kernel_rfl) z z ?_
 clear hst
 intro w hst
 replace hst := hst.pull4
 obtain ⟨w1067, hr1068, hst⟩ := hst.boxStore1 (P := prog) (t := 33) (cs' := [U6 t733.1.Session, U6 t733.1.Seq, U6 (u64.wrap (i64.wrap ((1:Int) + t738.1))), v851, v971, v1064, Zs]) 5 v1064 (one_of_sliceV hst.sv1) sizeOf33 z z
 refine we_unit z (x_unit hr1068) ?_
 refine ws_next (pend' := []) hst (by kernel_rfl) pk_nil ?_
 refine ws_nil ?_
 intro w hst
 refine blk_n (tn (wrl ?_))
 refine wv (.int .i64 z1043) z z z (wv (.int .i64 (i64.wrap (z1043 + (1:Int)))) z z z (wv (.int .i64 (i64.wrap (z1043 + (1:Int)))) z z z (wl_nil (tn ?_))))
 replace hst := hst.pull6.pull6.pull2.pull6.pull6.pull5.keep6
 obtain rfl := some_inj hm
 exact ⟨_, Nat.lt_succ_self _, (z1039 ++ ([t1053.1])), t1053.2, (i64.wrap (z1043 + (1:Int))), v1064, _, hx1050, (fu 0 p0 z (fu 2 (Pt b728 0) z (fu 3 (Pt b751 0) z (fu 4 (.int .i64 t978.1) z (fu 7 (.int .i64 (i64.wrap (z1043 + (1:Int)))) z z))))), hst⟩
}
 {
 replace hm := bif_f hc1052 hm
 refine wp_iff (cvb hc1052) ?_
 refine wp_exit (then_x (then_x ?_))
 replace hm := inr_up hm hx1050
 refine blk_x (tn ?_)
 replace hst := hst.pull5.pull5.pull5.pull5.pull5.keep6
 obtain rfl := some_inj hm
 exact ⟨z1042, z1039, v1040, _, hx1076, (fu 0 p0 z (fu 2 (Pt b728 0) z (fu 3 (Pt b751 0) z z))), hst⟩
}
}
 {
 clear hst
 rintro _ w1077 ⟨z1069, z1072, v1071, σ1073, hm, rfl, hst⟩
 dsimp only [ref12_Tape_Hold_j4] at hm
 refine wp_seq (wp_seq (wrl (wv (p0) z z z ?_)))
 obtain ⟨t1078, ht1079, hm⟩ := bind_some hm
 refine wc call28 [p0, I6 (4:Int)] z z z ?_
 refine (ref12_Tape_Next_ref hst.to1 ht1079).mono ?_
 rintro _ w1080 ⟨rfl, hst⟩
 refine ⟨_, z, ?_⟩
 replace hst := hst.of1
 refine wv (.bool (t1078.1 == (0:Int))) z z z (wl_nil (tn ?_))
 refine bsplit (t1078.1 == (0:Int)) (fun hc1083 => ?_) (fun hc1083 => ?_)
 {
 replace hm := bif_t hc1083 hm
 refine wp_ift (cvb hc1083) ?_
 refine wrl (wv (p0) z z z ?_)
 obtain ⟨t1084, ht1085, hm⟩ := bind_some hm
 refine wc call29 [p0] z z z ?_
 refine (ref12_Tape_Val_ref hst.to1 ht1085).mono ?_
 rintro _ w1086 ⟨v1089, rfl, hst⟩
 refine ⟨_, z, ?_⟩
 replace hst := hst.of2
 refine wv (Pt b751 6) z z (x_field z underlying36 z sizeOf22 z) ?_
 replace hst := hst.pull3
 obtain ⟨w1091, hr1092, hst⟩ := hst.boxStore1 (P := prog) (t := 22) (cs' := [U6 t733.1.Session, U6 t733.1.Seq, U6 (u64.wrap (i64.wrap ((1:Int) + t738.1))), v851, v971, v1071, v1089]) 6 v1089 (one_of_sliceV hst.sv1) sizeOf22 z z
 refine wl_unit z z (x_unit hr1092) ?_
 refine wl_nil (tn (wp_seq (wrl (wv (.agg #[U6 t733.1.Session, U6 t733.1.Seq, U6 (u64.wrap (i64.wrap ((1:Int) + t738.1))), v851, v971, v1071, v1089]) z z (x_loadN (cs := [U6 t733.1.Session, U6 t733.1.Seq, U6 (u64.wrap (i64.wrap ((1:Int) + t738.1))), v851, v971, v1071, v1089]) z isAgg36 sizeOf36 (hst.bcs0 0 z)) ?_))))
 replace hst := hst.pull3
 obtain ⟨w1093, hr1094, hst⟩ := hst.bx [U6 t733.1.Session, U6 t733.1.Seq, U6 (u64.wrap (i64.wrap ((1:Int) + t738.1))), v851, v971, v1071, v1089] sizeOf36 z (oC z (oC z (oC z (oC (one_of_sliceV hst.sv4) (oC (one_of_sliceV hst.sv5) (oC (one_of_sliceV hst.sv6) (oC (one_of_sliceV hst.sv2) oN))))))) (by kernel_rfl)
 refine wl_unit z z (x_unit hr1094) ?_
 refine wl_nil (tn (wp_ret ?_))
 obtain rfl := some_inj hm
 refine post_ret (vs := [.agg #[U6 t733.1.Session, U6 t733.1.Seq, U6 (u64.wrap (i64.wrap ((1:Int) + t738.1))), v851, v971, v1071, v1089]]) results30 (rvs_cons (rv_cell (cs := [U6 t733.1.Session, U6 t733.1.Seq, U6 (u64.wrap (i64.wrap ((1:Int) + t738.1))), v851, v971, v1071, v1089]) z isAgg36 sizeOf36 (hst.bcs0 0 z)) rvs_nil) ?_
 replace hst := hst.pull3.pull3.pull6.pull6.pull6
 exact ⟨v851, v971, v1071, v1089, z, hst.keep5⟩
}
 {
 replace hm := bif_f hc1083 hm
 refine wp_iff (cvb hc1083) ?_
 refine wp_skip (tn (wp_seq (wrl ?_)))
 refine wv (.agg #[U6 t733.1.Session, U6 t733.1.Seq, U6 (u64.wrap (i64.wrap ((1:Int) + t738.1))), v851, v971, v1071, Zs]) z z (x_loadN (cs := [U6 t733.1.Session, U6 t733.1.Seq, U6 (u64.wrap (i64.wrap ((1:Int) + t738.1))), v851, v971, v1071, Zs]) z isAgg36 sizeOf36 (hst.bcs2 0 z)) ?_
 replace hst := hst.pull1
 obtain ⟨w1095, hr1096, hst⟩ := hst.bx [U6 t733.1.Session, U6 t733.1.Seq, U6 (u64.wrap (i64.wrap ((1:Int) + t738.1))), v851, v971, v1071, Zs] sizeOf36 z (oC z (oC z (oC z (oC (one_of_sliceV hst.sv3) (oC (one_of_sliceV hst.sv4) (oC (one_of_sliceV hst.sv5) (oC z oN))))))) (by kernel_rfl)
 refine wl_unit z z (x_unit hr1096) ?_
 refine wl_nil (tn (wp_ret ?_))
 replace hst := hst.own_nil (tyInt .u8)
 obtain rfl := some_inj hm
 refine post_ret (vs := [.agg #[U6 t733.1.Session, U6 t733.1.Seq, U6 (u64.wrap (i64.wrap ((1:Int) + t738.1))), v851, v971, v1071, Zs]]) results30 (rvs_cons (rv_cell (cs := [U6 t733.1.Session, U6 t733.1.Seq, U6 (u64.wrap (i64.wrap ((1:Int) + t738.1))), v851, v971, v1071, Zs]) z isAgg36 sizeOf36 (hst.bcs1 0 z)) rvs_nil) ?_
 replace hst := hst.pull2.pull1.pull6.pull6.pull6
 exact ⟨v851, v971, v1071, Zs, z, hst.keep5⟩
}
}
}
}
}

theorem ref13_OfReply_ref {w0 w : World} {I : HL} {R : SP} {a0 : ref12_Tape} {p0 : Value}  (hst : St w0 w I [at_ref12_Tape p0 a0] R) {r : (api_Reply × ref12_Tape)} (hm : ref13_OfReply a0 = some r) :
  Calls prog 31 #[p0] w fun e w' => ∃ (I' : HL) (q0_0 : Value) (q0_1 : Value), e = .returned (.agg #[I6 r.1.E, U6 r.1.Epoch, U6 r.1.Index, q0_0, q0_1]) ∧ I.le I' ∧ St w0 w' I' [ownS ty_api_Got q0_0 r.1.Gots, ownS (tySl ty_api_Pair) q0_1 r.1.Scans, at_ref12_Tape p0 r.2] R := by {
 unfold ref13_OfReply at hm
 refine calls_start (args := [p0]) func31 z ntmps31 (Nat.le_of_ble_eq_true z) ?_
 have hI0 := HL.le.refl I
 refine wp_seq (wrl ?_)
 obtain ⟨b1325, w1326, ew1327, eb1328, hst⟩ := hst.box [Zi, Zu, Zu, Zs, Zs] 41
 refine wl_run (v := Pt b1325 0) (w' := w1326) z z (x_al (by kernel_rfl) ew1327 eb1328) ?_
 refine wl_nil (tn (wp_seq (wrl ?_)))
 obtain ⟨b1330, w1331, ew1332, eb1333, hst⟩ := hst.lits (E := (tyInt .i64)) (xs := [(0:Int), (0:Int), (0:Int), (8:Int), (9:Int), (3:Int)]) [[Zi], [Zi], [Zi], [I6 (8:Int)], [I6 (9:Int)], [I6 (3:Int)]] 37 6 z (Reps.cons z (Reps.cons z (Reps.cons z (Reps.cons z (Reps.cons z (Reps.cons z Reps.nil))))))
 refine wl_run (v := (.slice (some ⟨b1330, 0, none⟩) 6 6)) (w' := w1331) z z (x_als (by kernel_rfl) ew1332 eb1333) ?_
 refine wv ((.slice (some ⟨b1330, 0, none⟩) 6 6)) z z z (wl_nil (tn (wp_seq ?_)))
 obtain ⟨y1442, hm, hx1443⟩ := bind_some hm
 refine wp_mid (fun a w => ∃ (z1434 : ref12_Tape) (z1437 : Int) (z1438 : Int) (z1439 : Int) (b1436 : Nat) (σ1440 : Nat → Value), (ref13_OfReply_j0) (z1434, z1437, z1438, z1439) = some r ∧ a = Fr 72 (upd (upd (upd σ1440 0 (p0)) 2 (Pt b1325 0)) 4 (Pt b1436 0)) ∧ St w0 w I [at_ref12_Tape p0 z1434, cells b1325 [Zi, Zu, Zu, Zs, Zs], cells b1436 [I6 z1437, U6 z1438, U6 z1439, Zs, Zs]] R) ?_ ?_
 {
 refine wp_region_St hst 14 [0, 1, 2, 3, 4, 5, 6, 7, 8, 9, 10, 11, 12, 13] [0, 0, 2, 7, 15, 0, 38, 102, 0, 358, 870, 2047, 0, 8191] [] z (by kernel_rfl) (by kernel_rfl) Try.mixed (by kernel_rfl) ?_
 refine wsr ((.slice (some ⟨b1330, 0, none⟩) 6 6)) 0 z z z (by kernel_rfl) (fun w hst => z) (wsr (p0) 1 z z z (by kernel_rfl) (fun w hst => z) (wsr (p0) 5 z z z (by kernel_rfl) (fun w hst => z) (wsr (p0) 8 z z z (by kernel_rfl) (fun w hst => z) ?_)))
 refine ws_e2 2 12 (by kernel_rfl) ?_ ?_
 {
 refine nxe [3, 4, 6, 7, 9, 10, 11, 12, 13] (by kernel_rfl) z z ?_
 clear hst
 intro w hst
 replace hst := hst.pull2
 obtain ⟨t1335, ht1336, hm⟩ := bind_some hm
 refine wec call28 [p0, I6 (6:Int)] z z ?_
 refine (ref12_Tape_Next_ref hst.to1 ht1336).mono ?_
 rintro _ w1337 ⟨rfl, hst⟩
 refine ⟨_, z, ?_⟩
 replace hst := hst.of1
 refine ws_next (pend' := [(8, p0), (5, p0), (0, (.slice (some ⟨b1330, 0, none⟩) 6 6))]) hst (by kernel_rfl) (pkr z z (fun w hst => z) (pkr z z (fun w hst => z) (pkr z z (fun w hst => z) pk_nil))) ?_
 obtain ⟨x1340, hx1341, hm⟩ := bind_some hm
 obtain ⟨h1342, h1343, hi1344⟩ := geto_some hx1341
 refine wsr (.pointer (some (eAddr (.slice (some ⟨b1330, 0, none⟩) 6 6) (t1335.1.toNat * 1 + 0)))) 3 z z z (by kernel_rfl) (fun w hst => x_index z z underlying118 sizeOf37 hst.sv1 h1342 h1343) (wsr (.int .i64 x1340) 4 z z z (by kernel_rfl) (fun w hst => x_load z isAgg37 (hst.ol1 hi1344 (by rintro _ rfl; rfl))) ?_)
 refine ws_e2 6 12 (by kernel_rfl) ?_ ?_
 {
 refine nxe [7, 9, 10, 11, 12, 13] (by kernel_rfl) z z ?_
 clear hst
 intro w hst
 obtain ⟨t1345, ht1346, hm⟩ := bind_some hm
 refine wec call28 [p0, I6 (4:Int)] z z ?_
 refine (ref12_Tape_Next_ref hst.to1 ht1346).mono ?_
 rintro _ w1347 ⟨rfl, hst⟩
 refine ⟨_, z, ?_⟩
 replace hst := hst.of1
 refine ws_next (pend' := [(4, I6 x1340), (3, .pointer (some (eAddr (.slice (some ⟨b1330, 0, none⟩) 6 6) (t1335.1.toNat * 1 + 0)))), (8, p0), (0, (.slice (some ⟨b1330, 0, none⟩) 6 6))]) hst (by kernel_rfl) (pkr z z (fun w hst => x_load z isAgg37 (hst.ol1 hi1344 (by rintro _ rfl; rfl))) (pkr z z (fun w hst => x_index z z underlying118 sizeOf37 hst.sv1 h1342 h1343) (pkr z z (fun w hst => z) (pkr z z (fun w hst => z) pk_nil)))) ?_
 refine wsr (.int .u64 (u64.wrap t1345.1)) 7 z z z (by kernel_rfl) (fun w hst => by kernel_rfl) ?_
 refine ws_e2 9 12 (by kernel_rfl) ?_ ?_
 {
 refine nxe [10, 11, 12, 13] (by kernel_rfl) z z ?_
 clear hst
 intro w hst
 obtain ⟨t1350, ht1351, hm⟩ := bind_some hm
 refine wec call28 [p0, I6 (9:Int)] z z ?_
 refine (ref12_Tape_Next_ref hst.to1 ht1351).mono ?_
 rintro _ w1352 ⟨rfl, hst⟩
 refine ⟨_, z, ?_⟩
 replace hst := hst.of1
 refine ws_next (pend' := [(7, U6 (u64.wrap t1345.1)), (4, I6 x1340), (3, .pointer (some (eAddr (.slice (some ⟨b1330, 0, none⟩) 6 6) (t1335.1.toNat * 1 + 0)))), (0, (.slice (some ⟨b1330, 0, none⟩) 6 6))]) hst (by kernel_rfl) (pkr z z (fun w hst => by kernel_rfl) (pkr z z (fun w hst => x_load z isAgg37 (hst.ol1 hi1344 (by rintro _ rfl; rfl))) (pkr z z (fun w hst => x_index z z underlying118 sizeOf37 hst.sv1 h1342 h1343) (pkr z z (fun w hst => z) pk_nil)))) ?_
 refine wsr (.int .u64 (u64.wrap t1350.1)) 10 z z z (by kernel_rfl) (fun w hst => by kernel_rfl) (wsr (.agg #[I6 x1340, U6 (u64.wrap t1345.1), U6 (u64.wrap t1350.1), Zs, Zs]) 11 z z z (by kernel_rfl) (fun w hst => by kernel_rfl) ?_)
 refine ws_e1 12 (by kernel_rfl) ?_
 refine nxe [13] (by kernel_rfl) z z ?_
 clear hst
 intro w hst
 obtain ⟨b1359, w1360, ew1361, eb1362, hst⟩ := hst.box [Zi, Zu, Zu, Zs, Zs] 41
 refine we_run (v := Pt b1359 0) (w' := w1360) z (x_al (by kernel_rfl) ew1361 eb1362) ?_
 refine ws_next (pend' := [(11, .agg #[I6 x1340, U6 (u64.wrap t1345.1), U6 (u64.wrap t1350.1), Zs, Zs]), (10, U6 (u64.wrap t1350.1)), (7, U6 (u64.wrap t1345.1)), (4, I6 x1340), (3, .pointer (some (eAddr (.slice (some ⟨b1330, 0, none⟩) 6 6) (t1335.1.toNat * 1 + 0)))), (0, (.slice (some ⟨b1330, 0, none⟩) 6 6))]) hst (by kernel_rfl) (pkr z z (fun w hst => by kernel_rfl) (pkr z z (fun w hst => by kernel_rfl) (pkr z z (fun w hst => by kernel_rfl) (pkr z z (fun w hst => x_load z isAgg37 (hst.ol2 hi1344 (by rintro _ rfl; rfl))) (pkr z z (fun w hst => x_index z z underlying118 sizeOf37 hst.sv2 h1342 h1343) (pkr z z (fun w hst => z) pk_nil)))))) ?_
 refine ws_e1 13 (by kernel_rfl) ?_
 refine nxe [] (by kernel_rfl) z z ?_
 clear hst
 intro w hst
 obtain ⟨w1364, hr1365, hst⟩ := hst.bx [I6 x1340, U6 (u64.wrap t1345.1), U6 (u64.wrap t1350.1), Zs, Zs] sizeOf41 z (oC z (oC z (oC z (oC z (oC z oN))))) (by kernel_rfl)
 refine we_unit z (x_unit hr1365) ?_
 refine ws_next (pend' := []) hst (by kernel_rfl) pk_nil ?_
 refine ws_nil ?_
 intro w hst
 refine ⟨z, ?_⟩
 replace hst := hst.pull3.pull2.keep3
 obtain rfl := some_inj hm
 exact ⟨t1350.2, x1340, (u64.wrap t1345.1), (u64.wrap t1350.1), b1359, _, hx1443, (fu 0 p0 z (fu 2 (Pt b1325 0) z (fu 4 (Pt b1359 0) z z))), hst⟩
}
 {
 refine nxe [9, 10, 11, 13] (by kernel_rfl) z z ?_
 clear hst
 intro w hst
 obtain ⟨b1368, w1369, ew1370, eb1371, hst⟩ := hst.box [Zi, Zu, Zu, Zs, Zs] 41
 refine we_run (v := Pt b1368 0) (w' := w1369) z (x_al (by kernel_rfl) ew1370 eb1371) ?_
 refine ws_next (pend' := [(7, U6 (u64.wrap t1345.1)), (4, I6 x1340), (3, .pointer (some (eAddr (.slice (some ⟨b1330, 0, none⟩) 6 6) (t1335.1.toNat * 1 + 0)))), (8, p0), (0, (.slice (some ⟨b1330, 0, none⟩) 6 6))]) hst (by kernel_rfl) (pkr z z (fun w hst => by kernel_rfl) (pkr z z (fun w hst => x_load z isAgg37 (hst.ol2 hi1344 (by rintro _ rfl; rfl))) (pkr z z (fun w hst => x_index z z underlying118 sizeOf37 hst.sv2 h1342 h1343) (pkr z z (fun w hst => z) (pkr z z (fun w hst => z) pk_nil))))) ?_
 refine ws_e1 9 (by kernel_rfl) ?_
 refine nxe [10, 11, 13] (by kernel_rfl) z z ?_
 clear hst
 intro w hst
 replace hst := hst.pull1
 obtain ⟨t1373, ht1374, hm⟩ := bind_some hm
 refine wec call28 [p0, I6 (9:Int)] z z ?_
 refine (ref12_Tape_Next_ref hst.to1 ht1374).mono ?_
 rintro _ w1375 ⟨rfl, hst⟩
 refine ⟨_, z, ?_⟩
 replace hst := hst.of1
 refine ws_next (pend' := [(7, U6 (u64.wrap t1345.1)), (4, I6 x1340), (3, .pointer (some (eAddr (.slice (some ⟨b1330, 0, none⟩) 6 6) (t1335.1.toNat * 1 + 0)))), (0, (.slice (some ⟨b1330, 0, none⟩) 6 6))]) hst (by kernel_rfl) (pkr z z (fun w hst => by kernel_rfl) (pkr z z (fun w hst => x_load z isAgg37 (hst.ol2 hi1344 (by rintro _ rfl; rfl))) (pkr z z (fun w hst => x_index z z underlying118 sizeOf37 hst.sv2 h1342 h1343) (pkr z z (fun w hst => z) pk_nil)))) ?_
 refine wsr (.int .u64 (u64.wrap t1373.1)) 10 z z z (by kernel_rfl) (fun w hst => by kernel_rfl) (wsr (.agg #[I6 x1340, U6 (u64.wrap t1345.1), U6 (u64.wrap t1373.1), Zs, Zs]) 11 z z z (by kernel_rfl) (fun w hst => by kernel_rfl) ?_)
 refine ws_e1 13 (by kernel_rfl) ?_
 refine nxe [] (by kernel_rfl) z z ?_
 clear hst
 intro w hst
 replace hst := hst.pull1
 obtain ⟨w1380, hr1381, hst⟩ := hst.bx [I6 x1340, U6 (u64.wrap t1345.1), U6 (u64.wrap t1373.1), Zs, Zs] sizeOf41 z (oC z (oC z (oC z (oC z (oC z oN))))) (by kernel_rfl)
 refine we_unit z (x_unit hr1381) ?_
 refine ws_next (pend' := []) hst (by kernel_rfl) pk_nil ?_
 refine ws_nil ?_
 intro w hst
 refine ⟨z, ?_⟩
 replace hst := hst.pull3.pull2.keep3
 obtain rfl := some_inj hm
 exact ⟨t1373.2, x1340, (u64.wrap t1345.1), (u64.wrap t1373.1), b1368, _, hx1443, (fu 0 p0 z (fu 2 (Pt b1325 0) z (fu 4 (Pt b1368 0) z z))), hst⟩
}
}
 {
 refine nxe [6, 7, 9, 10, 11, 13] (by kernel_rfl) z z ?_
 clear hst
 intro w hst
 obtain ⟨b1384, w1385, ew1386, eb1387, hst⟩ := hst.box [Zi, Zu, Zu, Zs, Zs] 41
 refine we_run (v := Pt b1384 0) (w' := w1385) z (x_al (by kernel_rfl) ew1386 eb1387) ?_
 refine ws_next (pend' := [(4, I6 x1340), (3, .pointer (some (eAddr (.slice (some ⟨b1330, 0, none⟩) 6 6) (t1335.1.toNat * 1 + 0)))), (8, p0), (5, p0), (0, (.slice (some ⟨b1330, 0, none⟩) 6 6))]) hst (by kernel_rfl) (pkr z z (fun w hst => x_load z isAgg37 (hst.ol2 hi1344 (by rintro _ rfl; rfl))) (pkr z z (fun w hst => x_index z z underlying118 sizeOf37 hst.sv2 h1342 h1343) (pkr z z (fun w hst => z) (pkr z z (fun w hst => z) (pkr z z (fun w hst => z) pk_nil))))) ?_
 refine ws_e1 6 (by kernel_rfl) ?_
 refine nxe [7, 9, 10, 11, 13] (by kernel_rfl) z z ?_
 clear hst
 intro w hst
 replace hst := hst.pull1
 obtain ⟨t1389, ht1390, hm⟩ := bind_some hm
 refine wec call28 [p0, I6 (4:Int)] z z ?_
 refine (ref12_Tape_Next_ref hst.to1 ht1390).mono ?_
 rintro _ w1391 ⟨rfl, hst⟩
 refine ⟨_, z, ?_⟩
 replace hst := hst.of1
 refine ws_next (pend' := [(4, I6 x1340), (3, .pointer (some (eAddr (.slice (some ⟨b1330, 0, none⟩) 6 6) (t1335.1.toNat * 1 + 0)))), (8, p0), (0, (.slice (some ⟨b1330, 0, none⟩) 6 6))]) hst (by kernel_rfl) (pkr z z (fun w hst => x_load z isAgg37 (hst.ol2 hi1344 (by rintro _ rfl; rfl))) (pkr z z (fun w hst => x_index z z underlying118 sizeOf37 hst.sv2 h1342 h1343) (pkr z z (fun w hst => z) (pkr z z (fun w hst => z) pk_nil)))) ?_
 refine wsr (.int .u64 (u64.wrap t1389.1)) 7 z z z (by kernel_rfl) (fun w hst => by kernel_rfl) ?_
 refine ws_e1 9 (by kernel_rfl) ?_
 refine nxe [10, 11, 13] (by kernel_rfl) z z ?_
 clear hst
 intro w hst
 obtain ⟨t1394, ht1395, hm⟩ := bind_some hm
 refine wec call28 [p0, I6 (9:Int)] z z ?_
 refine (ref12_Tape_Next_ref hst.to1 ht1395).mono ?_
 rintro _ w1396 ⟨rfl, hst⟩
 refine ⟨_, z, ?_⟩
 replace hst := hst.of1
 refine ws_next (pend' := [(7, U6 (u64.wrap t1389.1)), (4, I6 x1340), (3, .pointer (some (eAddr (.slice (some ⟨b1330, 0, none⟩) 6 6) (t1335.1.toNat * 1 + 0)))), (0, (.slice (some ⟨b1330, 0, none⟩) 6 6))]) hst (by kernel_rfl) (pkr z z (fun w hst => by kernel_rfl) (pkr z z (fun w hst => x_load z isAgg37 (hst.ol2 hi1344 (by rintro _ rfl; rfl))) (pkr z z (fun w hst => x_index z z underlying118 sizeOf37 hst.sv2 h1342 h1343) (pkr z z (fun w hst => z) pk_nil)))) ?_
 refine wsr (.int .u64 (u64.wrap t1394.1)) 10 z z z (by kernel_rfl) (fun w hst => by kernel_rfl) (wsr (.agg #[I6 x1340, U6 (u64.wrap t1389.1), U6 (u64.wrap t1394.1), Zs, Zs]) 11 z z z (by kernel_rfl) (fun w hst => by kernel_rfl) ?_)
 refine ws_e1 13 (by kernel_rfl) ?_
 refine nxe [] (by kernel_rfl) z z ?_
 clear hst
 intro w hst
 replace hst := hst.pull1
 obtain ⟨w1401, hr1402, hst⟩ := hst.bx [I6 x1340, U6 (u64.wrap t1389.1), U6 (u64.wrap t1394.1), Zs, Zs] sizeOf41 z (oC z (oC z (oC z (oC z (oC z oN))))) (by kernel_rfl)
 refine we_unit z (x_unit hr1402) ?_
 refine ws_next (pend' := []) hst (by kernel_rfl) pk_nil ?_
 refine ws_nil ?_
 intro w hst
 refine ⟨z, ?_⟩
 replace hst := hst.pull3.pull2.keep3
 obtain rfl := some_inj hm
 exact ⟨t1394.2, x1340, (u64.wrap t1389.1), (u64.wrap t1394.1), b1384, _, hx1443, (fu 0 p0 z (fu 2 (Pt b1325 0) z (fu 4 (Pt b1384 0) z z))), hst⟩
}
}
 {
 refine nxe [2, 3, 4, 6, 7, 9, 10, 11, 13] (by kernel_rfl) z z ?_
 clear hst
 intro w hst
 obtain ⟨b1405, w1406, ew1407, eb1408, hst⟩ := hst.box [Zi, Zu, Zu, Zs, Zs] 41
 refine we_run (v := Pt b1405 0) (w' := w1406) z (x_al (by kernel_rfl) ew1407 eb1408) ?_
 refine ws_next (pend' := [(8, p0), (5, p0), (1, p0), (0, (.slice (some ⟨b1330, 0, none⟩) 6 6))]) hst (by kernel_rfl) (pkr z z (fun w hst => z) (pkr z z (fun w hst => z) (pkr z z (fun w hst => z) (pkr z z (fun w hst => z) pk_nil)))) ?_
 refine ws_e1 2 (by kernel_rfl) ?_
 refine nxe [3, 4, 6, 7, 9, 10, 11, 13] (by kernel_rfl) z z ?_
 clear hst
 intro w hst
 replace hst := hst.pull3
 obtain ⟨t1410, ht1411, hm⟩ := bind_some hm
 refine wec call28 [p0, I6 (6:Int)] z z ?_
 refine (ref12_Tape_Next_ref hst.to1 ht1411).mono ?_
 rintro _ w1412 ⟨rfl, hst⟩
 refine ⟨_, z, ?_⟩
 replace hst := hst.of1
 refine ws_next (pend' := [(8, p0), (5, p0), (0, (.slice (some ⟨b1330, 0, none⟩) 6 6))]) hst (by kernel_rfl) (pkr z z (fun w hst => z) (pkr z z (fun w hst => z) (pkr z z (fun w hst => z) pk_nil))) ?_
 obtain ⟨x1415, hx1416, hm⟩ := bind_some hm
 obtain ⟨h1417, h1418, hi1419⟩ := geto_some hx1416
 refine wsr (.pointer (some (eAddr (.slice (some ⟨b1330, 0, none⟩) 6 6) (t1410.1.toNat * 1 + 0)))) 3 z z z (by kernel_rfl) (fun w hst => x_index z z underlying118 sizeOf37 hst.sv2 h1417 h1418) (wsr (.int .i64 x1415) 4 z z z (by kernel_rfl) (fun w hst => x_load z isAgg37 (hst.ol2 hi1419 (by rintro _ rfl; rfl))) ?_)
 refine ws_e1 6 (by kernel_rfl) ?_
 refine nxe [7, 9, 10, 11, 13] (by kernel_rfl) z z ?_
 clear hst
 intro w hst
 obtain ⟨t1420, ht1421, hm⟩ := bind_some hm
 refine wec call28 [p0, I6 (4:Int)] z z ?_
 refine (ref12_Tape_Next_ref hst.to1 ht1421).mono ?_
 rintro _ w1422 ⟨rfl, hst⟩
 refine ⟨_, z, ?_⟩
 replace hst := hst.of1
 refine ws_next (pend' := [(4, I6 x1415), (3, .pointer (some (eAddr (.slice (some ⟨b1330, 0, none⟩) 6 6) (t1410.1.toNat * 1 + 0)))), (8, p0), (0, (.slice (some ⟨b1330, 0, none⟩) 6 6))]) hst (by kernel_rfl) (pkr z z (fun w hst => x_load z isAgg37 (hst.ol2 hi1419 (by rintro _ rfl; rfl))) (pkr z z (fun w hst => x_index z z underlying118 sizeOf37 hst.sv2 h1417 h1418) (pkr z z (fun w hst => z) (pkr z z (fun w hst => z) pk_nil)))) ?_
 refine wsr (.int .u64 (u64.wrap t1420.1)) 7 z z z (by kernel_rfl) (fun w hst => by kernel_rfl) ?_
 refine ws_e1 9 (by kernel_rfl) ?_
 refine nxe [10, 11, 13] (by kernel_rfl) z z ?_
 clear hst
 intro w hst
 obtain ⟨t1425, ht1426, hm⟩ := bind_some hm
 refine wec call28 [p0, I6 (9:Int)] z z ?_
 refine (ref12_Tape_Next_ref hst.to1 ht1426).mono ?_
 rintro _ w1427 ⟨rfl, hst⟩
 refine ⟨_, z, ?_⟩
 replace hst := hst.of1
 refine ws_next (pend' := [(7, U6 (u64.wrap t1420.1)), (4, I6 x1415), (3, .pointer (some (eAddr (.slice (some ⟨b1330, 0, none⟩) 6 6) (t1410.1.toNat * 1 + 0)))), (0, (.slice (some ⟨b1330, 0, none⟩) 6 6))]) hst (by kernel_rfl) (pkr z z (fun w hst => by kernel_rfl) (pkr z z (fun w hst => x_load z isAgg37 (hst.ol2 hi1419 (by rintro _ rfl; rfl))) (pkr z z (fun w hst => x_index z z underlying118 sizeOf37 hst.sv2 h1417 h1418) (pkr z z (fun w hst => z) pk_nil)))) ?_
 refine wsr (.int .u64 (u64.wrap t1425.1)) 10 z z z (by kernel_rfl) (fun w hst => by kernel_rfl) (wsr (.agg #[I6 x1415, U6 (u64.wrap t1420.1), U6 (u64.wrap t1425.1), Zs, Zs]) 11 z z z (by kernel_rfl) (fun w hst => by kernel_rfl) ?_)
 refine ws_e1 13 (by kernel_rfl) ?_
 refine nxe [] (by kernel_rfl) z z ?_
 clear hst
 intro w hst
 replace hst := hst.pull1
 obtain ⟨w1432, hr1433, hst⟩ := hst.bx [I6 x1415, U6 (u64.wrap t1420.1), U6 (u64.wrap t1425.1), Zs, Zs] sizeOf41 z (oC z (oC z (oC z (oC z (oC z oN))))) (by kernel_rfl)
 refine we_unit z (x_unit hr1433) ?_
 refine ws_next (pend' := []) hst (by kernel_rfl) pk_nil ?_
 refine ws_nil ?_
 intro w hst
 refine ⟨z, ?_⟩
 replace hst := hst.pull3.pull2.keep3
 obtain rfl := some_inj hm
 exact ⟨t1425.2, x1415, (u64.wrap t1420.1), (u64.wrap t1425.1), b1405, _, hx1443, (fu 0 p0 z (fu 2 (Pt b1325 0) z (fu 4 (Pt b1405 0) z z))), hst⟩
}
}
 {
 clear hst
 rintro _ w1444 ⟨z1434, z1437, z1438, z1439, b1436, σ1440, hm, rfl, hst⟩
 dsimp only [ref13_OfReply_j0] at hm
 refine tn (wp_seq (wrl (wv (p0) z z z ?_)))
 obtain ⟨t1445, ht1446, hm⟩ := bind_some hm
 refine wc call28 [p0, I6 (3:Int)] z z z ?_
 refine (ref12_Tape_Next_ref hst.to1 ht1446).mono ?_
 rintro _ w1447 ⟨rfl, hst⟩
 refine ⟨_, z, ?_⟩
 replace hst := hst.of1
 refine wv (.int .i64 t1445.1) z z z (wl_nil (tn ?_))
 obtain ⟨y1592, hm, hx1593⟩ := bind_some hm
 refine wp_cut (fun a w => ∃ (I1589 : HL) (z1585 : ref12_Tape) (z1588 : (List api_Got)) (v1587 : Value) (σ1590 : Nat → Value), (ref13_OfReply_j1 z1437 z1438 z1439) (z1585, z1588) = some r ∧ a = Fr 72 (upd (upd (upd σ1590 0 (p0)) 2 (Pt b1325 0)) 4 (Pt b1436 0)) ∧ I.le I1589 ∧ St w0 w I1589 [at_ref12_Tape p0 z1585, cells b1325 [Zi, Zu, Zu, Zs, Zs], cells b1436 [I6 z1437, U6 z1438, U6 z1439, v1587, Zs], ownS ty_api_Got v1587 z1588] R) ?_ ?_
 {
 have hL1594 := HL.le.refl I
 refine wp_seq (wrl (wv (.int .i64 (0:Int)) z z z (wl_nil (tn (wp_block ?_)))))
 replace hst := hst.own_nil ty_api_Got
 obtain ⟨n1549, hm⟩ := loopO_some hm
 refine wp_loop_n (fun n a w => ∃ (I1547 : HL) (z1542 : (List api_Got)) (z1545 : ref12_Tape) (z1546 : Int) (v1543 : Value) (σ1548 : Nat → Value), loopN (ref13_OfReply_l2 t1445) n (z1542, z1545, z1546) = some y1592 ∧ a = Fr 72 (upd (upd (upd (upd (upd σ1548 0 (p0)) 2 (Pt b1325 0)) 4 (Pt b1436 0)) 5 (.int .i64 t1445.1)) 6 (.int .i64 z1546)) ∧ I.le I1547 ∧ St w0 w I1547 [ownS ty_api_Got v1543 z1542, at_ref12_Tape p0 z1545, cells b1325 [Zi, Zu, Zu, Zs, Zs], cells b1436 [I6 z1437, U6 z1438, U6 z1439, v1543, Zs]] R) n1549 ⟨_, [], t1445.2, (0:Int), Zs, _, hm, (fu 0 p0 z (fu 2 (Pt b1325 0) z (fu 4 (Pt b1436 0) z (fu 5 (.int .i64 t1445.1) z (fu 6 (.int .i64 (0:Int)) z z))))), (HL.le.refl _), hst⟩ ?_
 rintro n1555 _ w1550 ⟨I1547, z1542, z1545, z1546, v1543, σ1548, hm, rfl, hL1551, hst⟩
 obtain ⟨n1552, y1553, rfl, hm, hx1554⟩ := loopN_some hm
 dsimp only [ref13_OfReply_l2] at hm
 replace hI0 := hI0.trans hL1551
 replace hL1594 := hL1594.trans hL1551
 refine wp_seq (wp_seq (wrl (wv (.int .i64 z1546) z z z (wv (.int .i64 t1445.1) z z z (wv (.bool (decide (z1546 < t1445.1))) z z z (wl_nil (tn ?_)))))))
 refine bsplit (decide (z1546 < t1445.1)) (fun hc1556 => ?_) (fun hc1556 => ?_)
 {
 replace hm := bif_t hc1556 hm
 refine wp_ift (cvb hc1556) ?_
 refine wp_skip (tn (wp_seq (wp_block ?_)))
 refine wp_region_St hst 12 [0, 1, 2, 3, 4, 5, 6, 7, 8, 9, 10, 11] [0, 1, 0, 4, 12, 0, 44, 124, 252, 511, 1023, 2047] [] z (by kernel_rfl) (by kernel_rfl) Try.mixed (by kernel_rfl) ?_
 refine wsr (Pt b1436 3) 0 z z z (by kernel_rfl) (fun w hst => x_field z underlying41 z sizeOf38 z) (wsr (v1543) 1 z z z (by kernel_rfl) (fun w hst => x_load z isAgg38 (hst.bc3 z)) (wsr (p0) 2 z z z (by kernel_rfl) (fun w hst => z) (wsr (p0) 5 z z z (by kernel_rfl) (fun w hst => z) ?_)))
 refine ws_e1 3 (by kernel_rfl) ?_
 refine nxe [4, 6, 7, 8, 9, 10, 11] (by kernel_rfl) z z ?_
 clear hst
 intro w hst
 replace hst := hst.pull1
 obtain ⟨t1557, ht1558, hm⟩ := bind_some hm
 refine wec call28 [p0, I6 (2:Int)] z z ?_
 refine (ref12_Tape_Next_ref hst.to1 ht1558).mono ?_
 rintro _ w1559 ⟨rfl, hst⟩
 refine ⟨_, z, ?_⟩
 replace hst := hst.of1
 refine ws_next (pend' := [(5, p0), (1, v1543), (0, Pt b1436 3)]) hst (by kernel_rfl) (pkr z z (fun w hst => z) (pkr z z (fun w hst => x_load z isAgg38 (hst.bc3 z)) (pkr z z (fun w hst => x_field z underlying41 z sizeOf38 z) pk_nil))) ?_
 refine wsr (.bool (t1557.1 == (0:Int))) 4 z z z (by kernel_rfl) (fun w hst => z) ?_
 refine ws_e1 6 (by kernel_rfl) ?_
 refine nxe [7, 8, 9, 10, 11] (by kernel_rfl) z z ?_
 clear hst
 intro w hst
 obtain ⟨t1562, ht1563, hm⟩ := bind_some hm
 refine wec call29 [p0] z z ?_
 refine (ref12_Tape_Val_ref hst.to1 ht1563).mono ?_
 rintro _ w1564 ⟨v1567, rfl, hst⟩
 refine ⟨_, z, ?_⟩
 replace hst := hst.of2
 refine ws_next (pend' := [(4, .bool (t1557.1 == (0:Int))), (1, v1543), (0, Pt b1436 3)]) hst (by kernel_rfl) (pkr z z (fun w hst => z) (pkr z z (fun w hst => x_load z isAgg38 (hst.bc4 z)) (pkr z z (fun w hst => x_field z underlying41 z sizeOf38 z) pk_nil))) ?_
 refine wsr (.agg #[.bool (t1557.1 == (0:Int)), v1567]) 7 rfl rfl rfl (by kernel_rfl) (fun w hst => by obtain ⟨_, _, hv_, _⟩ := hst.sv0; rw [hv_]; kernel_rfl) ?_
 refine ws_e1 8 (by kernel_rfl) ?_
 refine nxe [9, 10, 11] (by kernel_rfl) z z ?_
 clear hst
 intro w hst
 obtain ⟨I1571, hI1572, f1573, hst⟩ := hst.own_fix
 replace hI0 := hI0.trans hI1572
 replace hL1594 := hL1594.trans hI1572
 replace hL1551 := hL1551.trans hI1572
 obtain ⟨b1574, w1575, ew1576, eb1577, hst⟩ := hst.lits (E := ty_api_Got) (xs := [({ Has := (t1557.1 == (0:Int)), Val := t1562.1 } : api_Got)]) [[.bool (t1557.1 == (0:Int)), v1567]] 104 1 z (Reps.cons ⟨_, z, f1573, one_of_sliceV (ro_sliceV f1573)⟩ Reps.nil)
 refine we_run (v := (.slice (some ⟨b1574, 0, none⟩) 1 1)) (w' := w1575) z (x_als (by kernel_rfl) ew1576 eb1577) ?_
 refine ws_next (pend' := [(1, v1543), (0, Pt b1436 3)]) hst (by kernel_rfl) (pkr z z (fun w hst => x_load z isAgg38 (hst.bc4 z)) (pkr z z (fun w hst => x_field z underlying41 z sizeOf38 z) pk_nil)) ?_
 refine ws_e1 9 (by kernel_rfl) ?_
 refine nxe [10, 11] (by kernel_rfl) z z ?_
 clear hst
 intro w hst
 obtain ⟨hg1579, hm⟩ := gd_some hm
 replace hst := hst.pull2
 obtain ⟨v1580, w1581, hr1582, hst⟩ := run_append elem_38 underlying38 hst hst.src1 (room_of hg1579 z) 38
 refine we_run (v := v1580) (w' := w1581) z (x_append z z hr1582) ?_
 refine ws_next (pend' := []) hst (by kernel_rfl) pk_nil ?_
 refine wsr (Pt b1436 3) 10 z z z (by kernel_rfl) (fun w hst => x_field z underlying41 z sizeOf38 z) ?_
 refine ws_e1 11 (by kernel_rfl) ?_
 refine nxe [] (by kernel_rfl) z z ?_
 clear hst
 intro w hst
 replace hst := hst.pull4
 obtain ⟨w1583, hr1584, hst⟩ := hst.boxStore1 (P := prog) (t := 38) (cs' := [I6 z1437, U6 z1438, U6 z1439, v1580, Zs]) 3 v1580 (one_of_sliceV hst.sv1) sizeOf38 z z
 refine we_unit z (x_unit hr1584) ?_
 refine ws_next (pend' := []) hst (by kernel_rfl) pk_nil ?_
 refine ws_nil ?_
 intro w hst
 refine blk_n (tn (wrl ?_))
 refine wv (.int .i64 z1546) z z z (wv (.int .i64 (i64.wrap (z1546 + (1:Int)))) z z z (wv (.int .i64 (i64.wrap (z1546 + (1:Int)))) z z z (wl_nil (tn ?_))))
 replace hst := hst.pull4.pull4.pull3.keep4
 obtain rfl := some_inj hm
 exact ⟨_, Nat.lt_succ_self _, _, (z1542 ++ ([({ Has := (t1557.1 == (0:Int)), Val := t1562.1 } : api_Got)])), t1562.2, (i64.wrap (z1546 + (1:Int))), v1580, _, hx1554, (fu 0 p0 z (fu 2 (Pt b1325 0) z (fu 4 (Pt b1436 0) z (fu 5 (.int .i64 t1445.1) z (fu 6 (.int .i64 (i64.wrap (z1546 + (1:Int)))) z z))))), hL1551, hst⟩
}
 {
 replace hm := bif_f hc1556 hm
 refine wp_iff (cvb hc1556) ?_
 refine wp_exit (then_x (then_x ?_))
 replace hm := inr_up hm hx1554
 refine blk_x (tn ?_)
 replace hst := hst.pull3.pull3.pull3.keep4
 obtain rfl := some_inj hm
 exact ⟨_, z1545, z1542, v1543, _, hx1593, (fu 0 p0 z (fu 2 (Pt b1325 0) z (fu 4 (Pt b1436 0) z z))), hL1594, hst⟩
}
}
 {
 clear hst
 rintro _ w1595 ⟨I1589, z1585, z1588, v1587, σ1590, hm, rfl, hL1591, hst⟩
 dsimp only [ref13_OfReply_j1] at hm
 replace hI0 := hI0.trans hL1591
 refine wp_seq (wrl (wv (p0) z z z ?_))
 obtain ⟨t1596, ht1597, hm⟩ := bind_some hm
 refine wc call28 [p0, I6 (3:Int)] z z z ?_
 refine (ref12_Tape_Next_ref hst.to1 ht1597).mono ?_
 rintro _ w1598 ⟨rfl, hst⟩
 refine ⟨_, z, ?_⟩
 replace hst := hst.of1
 refine wv (.int .i64 (i64.wrap (Int.tdiv t1596.1 (2:Int)))) z z (x_quo (by decide) z z) (wv (.int .i64 (i64.wrap (Int.tdiv t1596.1 (2:Int)))) z z z (wl_nil (tn (wp_seq (wp_seq (wrl (wv (.int .i64 (0:Int)) z z z (wl_nil (tn (wp_block ?_))))))))))
 replace hst := hst.own_nil (tySl ty_api_Pair)
 obtain ⟨n2093, hm⟩ := loopO_some hm
 refine wp_loop_n (fun n a w => ∃ (I2091 : HL) (z2086 : (List (List api_Pair))) (z2089 : ref12_Tape) (z2090 : Int) (v2087 : Value) (σ2092 : Nat → Value), loopN (ref13_OfReply_l3 t1596 z1437 z1438 z1439 z1588) n (z2086, z2089, z2090) = some r ∧ a = Fr 72 (upd (upd (upd (upd (upd σ2092 0 (p0)) 2 (Pt b1325 0)) 4 (Pt b1436 0)) 5 (.int .i64 (i64.wrap (Int.tdiv t1596.1 (2:Int))))) 7 (.int .i64 z2090)) ∧ I1589.le I2091 ∧ St w0 w I2091 [ownS (tySl ty_api_Pair) v2087 z2086, at_ref12_Tape p0 z2089, cells b1325 [Zi, Zu, Zu, Zs, Zs], cells b1436 [I6 z1437, U6 z1438, U6 z1439, v1587, v2087], ownS ty_api_Got v1587 z1588] R) n2093 ⟨_, [], t1596.2, (0:Int), Zs, _, hm, (fu 0 p0 z (fu 2 (Pt b1325 0) z (fu 4 (Pt b1436 0) z (fu 5 (.int .i64 (i64.wrap (Int.tdiv t1596.1 (2:Int)))) z (fu 7 (.int .i64 (0:Int)) z z))))), (HL.le.refl _), hst⟩ ?_
 rintro n2099 _ w2094 ⟨I2091, z2086, z2089, z2090, v2087, σ2092, hm, rfl, hL2095, hst⟩
 obtain ⟨n2096, y2097, rfl, hm, hx2098⟩ := loopN_some hm
 dsimp only [ref13_OfReply_l3] at hm
 replace hI0 := hI0.trans hL2095
 refine wp_seq (wp_seq (wrl (wv (.int .i64 z2090) z z z (wv (.int .i64 (i64.wrap (Int.tdiv t1596.1 (2:Int)))) z z z (wv (.bool (decide (z2090 < (i64.wrap (Int.tdiv t1596.1 (2:Int)))))) z z z (wl_nil (tn ?_)))))))
 refine bsplit (decide (z2090 < (i64.wrap (Int.tdiv t1596.1 (2:Int))))) (fun hc2100 => ?_) (fun hc2100 => ?_)
 {
 replace hm := bif_t hc2100 hm
 refine wp_ift (cvb hc2100) ?_
 refine wp_skip (tn (wp_seq (wp_block (wp_seq (wrl ?_)))))
 refine wv ((.slice none 0 0)) z z z (wl_nil (tn (wp_seq (wrl (wv (p0) z z z ?_)))))
 replace hst := hst.pull1
 obtain ⟨t2102, ht2103, hm⟩ := bind_some hm
 refine wc call28 [p0, I6 (3:Int)] z z z ?_
 refine (ref12_Tape_Next_ref hst.to1 ht2103).mono ?_
 rintro _ w2104 ⟨rfl, hst⟩
 refine ⟨_, z, ?_⟩
 replace hst := hst.of1
 refine wv (.int .i64 t2102.1) z z z (wl_nil (tn ?_))
 obtain ⟨y2241, hm, hx2242⟩ := bind_some hm
 refine wp_cut (fun a w => ∃ (I2238 : HL) (z2234 : ref12_Tape) (z2237 : (List api_Pair)) (v2236 : Value) (σ2239 : Nat → Value), (ref13_OfReply_j4 z2086 z2090) (z2234, z2237) = some y2097 ∧ a = Fr 72 (upd (upd (upd (upd (upd (upd σ2239 0 (p0)) 2 (Pt b1325 0)) 4 (Pt b1436 0)) 5 (.int .i64 (i64.wrap (Int.tdiv t1596.1 (2:Int))))) 7 (.int .i64 z2090)) 8 (v2236)) ∧ I2091.le I2238 ∧ St w0 w I2238 [at_ref12_Tape p0 z2234, cells b1325 [Zi, Zu, Zu, Zs, Zs], cells b1436 [I6 z1437, U6 z1438, U6 z1439, v1587, v2087], ownS ty_api_Got v1587 z1588, ownS (tySl ty_api_Pair) v2087 z2086, ownS ty_api_Pair v2236 z2237] R) ?_ ?_
 {
 have hL2243 := HL.le.refl I2091
 refine wp_seq (wrl (wv (.int .i64 (0:Int)) z z z (wl_nil (tn (wp_block ?_)))))
 replace hst := hst.own_nil ty_api_Pair
 obtain ⟨n2200, hm⟩ := loopO_some hm
 refine wp_loop_n (fun n a w => ∃ (I2198 : HL) (z2193 : ref12_Tape) (z2194 : Int) (z2195 : (List api_Pair)) (v2196 : Value) (σ2199 : Nat → Value), loopN (ref13_OfReply_l5 t2102) n (z2193, z2194, z2195) = some y2241 ∧ a = Fr 72 (upd (upd (upd (upd (upd (upd (upd (upd σ2199 0 (p0)) 2 (Pt b1325 0)) 4 (Pt b1436 0)) 5 (.int .i64 (i64.wrap (Int.tdiv t1596.1 (2:Int))))) 7 (.int .i64 z2090)) 8 (v2196)) 9 (.int .i64 t2102.1)) 10 (.int .i64 z2194)) ∧ I2091.le I2198 ∧ St w0 w I2198 [ownS ty_api_Pair v2196 z2195, at_ref12_Tape p0 z2193, ownS (tySl ty_api_Pair) v2087 z2086, cells b1325 [Zi, Zu, Zu, Zs, Zs], cells b1436 [I6 z1437, U6 z1438, U6 z1439, v1587, v2087], ownS ty_api_Got v1587 z1588] R) n2200 ⟨_, t2102.2, (0:Int), [], Zs, _, hm, (fu 0 p0 z (fu 2 (Pt b1325 0) z (fu 4 (Pt b1436 0) z (fu 5 (.int .i64 (i64.wrap (Int.tdiv t1596.1 (2:Int)))) z (fu 7 (.int .i64 z2090) z (fu 8 (.slice none 0 0) z (fu 9 (.int .i64 t2102.1) z (fu 10 (.int .i64 (0:Int)) z z)))))))), (HL.le.refl _), hst⟩ ?_
 rintro n2206 _ w2201 ⟨I2198, z2193, z2194, z2195, v2196, σ2199, hm, rfl, hL2202, hst⟩
 obtain ⟨n2203, y2204, rfl, hm, hx2205⟩ := loopN_some hm
 dsimp only [ref13_OfReply_l5] at hm
 replace hI0 := hI0.trans hL2202
 replace hL2095 := hL2095.trans hL2202
 replace hL2243 := hL2243.trans hL2202
 refine wp_seq (wp_seq (wrl (wv (.int .i64 z2194) z z z (wv (.int .i64 t2102.1) z z z (wv (.bool (decide (z2194 < t2102.1))) z z z (wl_nil (tn ?_)))))))
 refine bsplit (decide (z2194 < t2102.1)) (fun hc2207 => ?_) (fun hc2207 => ?_)
 {
 replace hm := bif_t hc2207 hm
 refine wp_ift (cvb hc2207) ?_
 refine wp_skip (tn (wp_seq (wp_block (wrl ?_))))
 refine wv (v2196) z z z (wv (p0) z z z ?_)
 replace hst := hst.pull1
 obtain ⟨t2208, ht2209, hm⟩ := bind_some hm
 refine wc call59 [p0] z z z ?_
 refine (ref12_Tape_Float_ref hst.to1 ht2209).mono ?_
 rintro _ w2210 ⟨rfl, hst⟩
 refine ⟨_, z, ?_⟩
 replace hst := hst.of1
 refine wv (p0) z z z ?_
 obtain ⟨t2213, ht2214, hm⟩ := bind_some hm
 refine wc call29 [p0] z z z ?_
 refine (ref12_Tape_Val_ref hst.to1 ht2214).mono ?_
 rintro _ w2215 ⟨v2218, rfl, hst⟩
 refine ⟨_, z, ?_⟩
 replace hst := hst.of2
 refine wv (.agg #[F6 t2208.1, v2218]) z z (by obtain ⟨_, _, hv_, _⟩ := hst.sv0; rw [hv_]; kernel_rfl) ?_
 obtain ⟨I2222, hI2223, f2224, hst⟩ := hst.own_fix
 replace hI0 := hI0.trans hI2223
 replace hL2095 := hL2095.trans hI2223
 replace hL2243 := hL2243.trans hI2223
 replace hL2202 := hL2202.trans hI2223
 obtain ⟨b2225, w2226, ew2227, eb2228, hst⟩ := hst.lits (E := ty_api_Pair) (xs := [({ At := t2208.1, Val := t2213.1 } : api_Pair)]) [[F6 t2208.1, v2218]] 107 1 z (Reps.cons ⟨_, z, f2224, one_of_sliceV (ro_sliceV f2224)⟩ Reps.nil)
 refine wl_run (v := (.slice (some ⟨b2225, 0, none⟩) 1 1)) (w' := w2226) z z (x_als (by kernel_rfl) ew2227 eb2228) ?_
 obtain ⟨hg2230, hm⟩ := gd_some hm
 replace hst := hst.pull2
 obtain ⟨v2231, w2232, hr2233, hst⟩ := run_append elem_105 underlying105 hst hst.src1 (room_of hg2230 z) 105
 refine wl_run (v := v2231) (w' := w2232) z z (x_append z z hr2233) ?_
 refine wv (v2231) z z z (wl_nil (blk_n (tn (wrl (wv (.int .i64 z2194) z z z (wv (.int .i64 (i64.wrap (z2194 + (1:Int)))) z z z (wv (.int .i64 (i64.wrap (z2194 + (1:Int)))) z z z (wl_nil (tn ?_)))))))))
 replace hst := hst.pull6.pull6.pull6.pull6.pull6.pull5.keep6
 obtain rfl := some_inj hm
 exact ⟨_, Nat.lt_succ_self _, _, t2213.2, (i64.wrap (z2194 + (1:Int))), (z2195 ++ ([({ At := t2208.1, Val := t2213.1 } : api_Pair)])), v2231, _, hx2205, (fu 0 p0 z (fu 2 (Pt b1325 0) z (fu 4 (Pt b1436 0) z (fu 5 (.int .i64 (i64.wrap (Int.tdiv t1596.1 (2:Int)))) z (fu 7 (.int .i64 z2090) z (fu 8 v2231 z (fu 9 (.int .i64 t2102.1) z (fu 10 (.int .i64 (i64.wrap (z2194 + (1:Int)))) z z)))))))), hL2202, hst⟩
}
 {
 replace hm := bif_f hc2207 hm
 refine wp_iff (cvb hc2207) ?_
 refine wp_exit (then_x (then_x ?_))
 replace hm := inr_up hm hx2205
 refine blk_x (tn ?_)
 replace hst := hst.pull2.pull5.pull5.pull5.pull5.keep6
 obtain rfl := some_inj hm
 exact ⟨_, z2193, z2195, v2196, _, hx2242, (fu 0 p0 z (fu 2 (Pt b1325 0) z (fu 4 (Pt b1436 0) z (fu 5 (.int .i64 (i64.wrap (Int.tdiv t1596.1 (2:Int)))) z (fu 7 (.int .i64 z2090) z (fu 8 v2196 z z)))))), hL2243, hst⟩
}
}
 {
 clear hst
 rintro _ w2244 ⟨I2238, z2234, z2237, v2236, σ2239, hm, rfl, hL2240, hst⟩
 dsimp only [ref13_OfReply_j4] at hm
 replace hI0 := hI0.trans hL2240
 replace hL2095 := hL2095.trans hL2240
 refine wrl (wv (Pt b1436 4) z z (x_field z underlying41 z sizeOf39 z) (wv (v2087) z z (x_load z isAgg39 (hst.bc2 z)) (wv (v2236) z z z ?_)))
 replace hst := hst.pull5
 obtain ⟨I2246, hI2247, f2248, hst⟩ := hst.own_fix
 replace hI0 := hI0.trans hI2247
 replace hL2095 := hL2095.trans hI2247
 obtain ⟨b2249, w2250, ew2251, eb2252, hst⟩ := hst.lits (E := (tySl ty_api_Pair)) (xs := [z2237]) [[v2236]] 105 1 z (Reps.cons ⟨_, z, f2248, one_of_sliceV (ro_sliceV f2248)⟩ Reps.nil)
 refine wl_run (v := (.slice (some ⟨b2249, 0, none⟩) 1 1)) (w' := w2250) z z (x_als (by obtain ⟨_, _, hv_, _⟩ := (ro_sliceV f2248); rw [hv_]; kernel_rfl) ew2251 eb2252) ?_
 obtain ⟨hg2254, hm⟩ := gd_some hm
 replace hst := hst.pull5
 obtain ⟨v2255, w2256, hr2257, hst⟩ := run_append elem_39 underlying39 hst hst.src1 (room_of hg2254 z) 39
 refine wl_run (v := v2255) (w' := w2256) z z (x_append z z hr2257) ?_
 refine wv (Pt b1436 4) z z (x_field z underlying41 z sizeOf39 z) ?_
 replace hst := hst.pull4
 obtain ⟨w2258, hr2259, hst⟩ := hst.boxStore1 (P := prog) (t := 39) (cs' := [I6 z1437, U6 z1438, U6 z1439, v1587, v2255]) 4 v2255 (one_of_sliceV hst.sv1) sizeOf39 z z
 refine wl_unit z z (x_unit hr2259) ?_
 refine wl_nil (blk_n (tn (wrl (wv (.int .i64 z2090) z z z (wv (.int .i64 (i64.wrap (z2090 + (1:Int)))) z z z (wv (.int .i64 (i64.wrap (z2090 + (1:Int)))) z z z (wl_nil (tn ?_))))))))
 replace hst := hst.pull5.pull1.pull5.pull5.pull4.keep5
 obtain rfl := some_inj hm
 exact ⟨_, Nat.lt_succ_self _, _, (z2086 ++ ([z2237])), z2234, (i64.wrap (z2090 + (1:Int))), v2255, _, hx2098, (fu 0 p0 z (fu 2 (Pt b1325 0) z (fu 4 (Pt b1436 0) z (fu 5 (.int .i64 (i64.wrap (Int.tdiv t1596.1 (2:Int)))) z (fu 7 (.int .i64 (i64.wrap (z2090 + (1:Int)))) z z))))), hL2095, hst⟩
}
}
 {
 replace hm := bif_f hc2100 hm
 refine wp_iff (cvb hc2100) ?_
 refine wp_exit (then_x (then_x ?_))
 replace hm := inr_up hm hx2098
 refine blk_x (tn (wp_seq (wrl ?_)))
 refine wv (.agg #[I6 z1437, U6 z1438, U6 z1439, v1587, v2087]) z z (x_loadN (cs := [I6 z1437, U6 z1438, U6 z1439, v1587, v2087]) z isAgg41 sizeOf41 (hst.bcs3 0 z)) ?_
 replace hst := hst.pull2
 obtain ⟨w2260, hr2261, hst⟩ := hst.bx [I6 z1437, U6 z1438, U6 z1439, v1587, v2087] sizeOf41 z (oC z (oC z (oC z (oC (one_of_sliceV hst.sv4) (oC (one_of_sliceV hst.sv1) oN))))) (by kernel_rfl)
 refine wl_unit z z (x_unit hr2261) ?_
 refine wl_nil (tn (wp_ret ?_))
 obtain rfl := some_inj hm
 refine post_ret (vs := [.agg #[I6 z1437, U6 z1438, U6 z1439, v1587, v2087]]) results31 (rvs_cons (rv_cell (cs := [I6 z1437, U6 z1438, U6 z1439, v1587, v2087]) z isAgg41 sizeOf41 (hst.bcs0 0 z)) rvs_nil) ?_
 replace hst := hst.pull2.pull2.pull4
 exact ⟨_, v1587, v2087, z, hI0, hst.keep3⟩
}
}
}
}

theorem ref13_OfWrites_ref {w0 w : World} {I : HL} {R : SP} {a0 : ref12_Tape} {p0 : Value}  (hst : St w0 w I [at_ref12_Tape p0 a0] R) {r : ((List api_Write) × ref12_Tape)} (hm : ref13_OfWrites a0 = some r) :
  Calls prog 33 #[p0] w fun e w' => ∃ (I' : HL) (q0_0 : Value), e = .returned (q0_0) ∧ I.le I' ∧ St w0 w' I' [ownS ty_api_Write q0_0 r.1, at_ref12_Tape p0 r.2] R := by {
 unfold ref13_OfWrites at hm
 refine calls_start (args := [p0]) func33 z ntmps33 (Nat.le_of_ble_eq_true z) ?_
 have hI0 := HL.le.refl I
 refine wp_seq (wrl (wv ((.slice none 0 0)) z z z (wl_nil (tn (wp_seq (wrl (wv ((.slice none 0 0)) z z z (wl_nil (tn (wp_seq (wrl (wv (p0) z z z ?_))))))))))))
 obtain ⟨t654, ht655, hm⟩ := bind_some hm
 refine wc call28 [p0, I6 (3:Int)] z z z ?_
 refine (ref12_Tape_Next_ref hst.to1 ht655).mono ?_
 rintro _ w656 ⟨rfl, hst⟩
 refine ⟨_, z, ?_⟩
 replace hst := hst.of1
 refine wv (.int .i64 t654.1) z z z (wl_nil (tn (wp_seq (wp_seq (wrl (wv (.int .i64 (0:Int)) z z z (wl_nil (tn (wp_block ?_)))))))))
 replace hst := hst.own_nil ty_api_Write
 obtain ⟨n827, hm⟩ := loopO_some hm
 refine wp_loop_n (fun n a w => ∃ (I825 : HL) (z820 : ref12_Tape) (z821 : (List api_Write)) (z824 : Int) (v822 : Value) (σ826 : Nat → Value), loopN (ref13_OfWrites_l0 t654) n (z820, z821, z824) = some r ∧ a = Fr 31 (upd (upd (upd (upd σ826 0 (p0)) 3 (v822)) 4 (.int .i64 t654.1)) 5 (.int .i64 z824)) ∧ I.le I825 ∧ St w0 w I825 [ownS ty_api_Write v822 z821, at_ref12_Tape p0 z820] R) n827 ⟨_, t654.2, [], (0:Int), Zs, _, hm, (fu 0 p0 z (fu 3 (.slice none 0 0) z (fu 4 (.int .i64 t654.1) z (fu 5 (.int .i64 (0:Int)) z z)))), (HL.le.refl _), hst⟩ ?_
 rintro n833 _ w828 ⟨I825, z820, z821, z824, v822, σ826, hm, rfl, hL829, hst⟩
 obtain ⟨n830, y831, rfl, hm, hx832⟩ := loopN_some hm
 dsimp only [ref13_OfWrites_l0] at hm
 replace hI0 := hI0.trans hL829
 refine wp_seq (wp_seq (wrl (wv (.int .i64 z824) z z z (wv (.int .i64 t654.1) z z z (wv (.bool (decide (z824 < t654.1))) z z z (wl_nil (tn ?_)))))))
 refine bsplit (decide (z824 < t654.1)) (fun hc834 => ?_) (fun hc834 => ?_)
 {
 replace hm := bif_t hc834 hm
 refine wp_ift (cvb hc834) ?_
 refine wp_skip (tn (wp_seq (wp_block (wp_seq (wrl ?_)))))
 refine wv (p0) z z z ?_
 replace hst := hst.pull1
 obtain ⟨t835, ht836, hm⟩ := bind_some hm
 refine wc call59 [p0] z z z ?_
 refine (ref12_Tape_Float_ref hst.to1 ht836).mono ?_
 rintro _ w837 ⟨rfl, hst⟩
 refine ⟨_, z, ?_⟩
 replace hst := hst.of1
 refine wv (p0) z z z ?_
 obtain ⟨t840, ht841, hm⟩ := bind_some hm
 refine wc call28 [p0, I6 (4:Int)] z z z ?_
 refine (ref12_Tape_Next_ref hst.to1 ht841).mono ?_
 rintro _ w842 ⟨rfl, hst⟩
 refine ⟨_, z, ?_⟩
 replace hst := hst.of1
 refine wv (.bool (t840.1 == (0:Int))) z z z (wv (.agg #[F6 t835.1, .bool (t840.1 == (0:Int)), Zs]) z z (by kernel_rfl) ?_)
 obtain ⟨b847, w848, ew849, eb850, hst⟩ := hst.box [Zf, .bool false, Zs] 120
 refine wl_run (v := Pt b847 0) (w' := w848) z z (x_al (by kernel_rfl) ew849 eb850) ?_
 obtain ⟨w852, hr853, hst⟩ := hst.bx [F6 t835.1, .bool (t840.1 == (0:Int)), Zs] sizeOf120 z (oC z (oC z (oC z oN))) (by kernel_rfl)
 refine wl_unit z z (x_unit hr853) ?_
 refine wl_nil (tn ?_)
 obtain ⟨y870, hm, hx871⟩ := bind_some hm
 refine wp_cut (fun a w => ∃ (z864 : ref12_Tape) (z867 : (List Int)) (v866 : Value) (σ868 : Nat → Value), (ref13_OfWrites_j1 z821 t835 t840 z824) (z864, z867) = some y831 ∧ a = Fr 31 (upd (upd (upd (upd (upd σ868 0 (p0)) 3 (v822)) 4 (.int .i64 t654.1)) 5 (.int .i64 z824)) 6 (Pt b847 0)) ∧ St w0 w I825 [at_ref12_Tape p0 z864, ownS ty_api_Write v822 z821, cells b847 [F6 t835.1, .bool (t840.1 == (0:Int)), v866], ownS (tyInt .u8) v866 z867] R) ?_ ?_
 {
 refine wp_seq (wrl (wv (Pt b847 1) z z (x_field z underlying120 z sizeOf4 z) (wv (.bool (t840.1 == (0:Int))) z z (x_load z isAgg4 (hst.bc0 z)) (wv (.bool (!(t840.1 == (0:Int)))) z z z (wl_nil (tn ?_))))))
 refine bsplit (!(t840.1 == (0:Int))) (fun hc854 => ?_) (fun hc854 => ?_)
 {
 replace hm := bif_t hc854 hm
 refine wp_ift (cvb hc854) ?_
 refine wrl (wv (p0) z z z ?_)
 replace hst := hst.pull1
 obtain ⟨t855, ht856, hm⟩ := bind_some hm
 refine wc call29 [p0] z z z ?_
 refine (ref12_Tape_Val_ref hst.to1 ht856).mono ?_
 rintro _ w857 ⟨v860, rfl, hst⟩
 refine ⟨_, z, ?_⟩
 replace hst := hst.of2
 refine wv (Pt b847 2) z z (x_field z underlying120 z sizeOf22 z) ?_
 replace hst := hst.pull2
 obtain ⟨w862, hr863, hst⟩ := hst.boxStore1 (P := prog) (t := 22) (cs' := [F6 t835.1, .bool (t840.1 == (0:Int)), v860]) 2 v860 (one_of_sliceV hst.sv1) sizeOf22 z z
 refine wl_unit z z (x_unit hr863) ?_
 refine wl_nil (tn ?_)
 replace hst := hst.pull1.pull1.pull3.pull3.keep4
 obtain rfl := some_inj hm
 exact ⟨t855.2, t855.1, v860, _, hx871, (fu 0 p0 z (fu 3 v822 z (fu 4 (.int .i64 t654.1) z (fu 5 (.int .i64 z824) z (fu 6 (Pt b847 0) z z))))), hst⟩
}
 {
 replace hm := bif_f hc854 hm
 refine wp_iff (cvb hc854) ?_
 refine wp_skip (tn ?_)
 replace hst := hst.own_nil (tyInt .u8)
 replace hst := hst.pull1.pull3.pull3.keep4
 obtain rfl := some_inj hm
 exact ⟨t840.2, ([]), Zs, _, hx871, (fu 0 p0 z (fu 3 v822 z (fu 4 (.int .i64 t654.1) z (fu 5 (.int .i64 z824) z (fu 6 (Pt b847 0) z z))))), hst⟩
}
}
 {
 clear hst
 rintro _ w872 ⟨z864, z867, v866, σ868, hm, rfl, hst⟩
 dsimp only [ref13_OfWrites_j1] at hm
 refine wrl (wv (v822) z z z (wv (.agg #[F6 t835.1, .bool (t840.1 == (0:Int)), v866]) z z (x_loadN (cs := [F6 t835.1, .bool (t840.1 == (0:Int)), v866]) z isAgg120 sizeOf120 (hst.bcs2 0 z)) ?_))
 replace hst := hst.pull3
 obtain ⟨I874, hI875, f876, hst⟩ := hst.own_fix
 replace hI0 := hI0.trans hI875
 replace hL829 := hL829.trans hI875
 obtain ⟨b877, w878, ew879, eb880, hst⟩ := hst.lits (E := ty_api_Write) (xs := [({ At := t835.1, Del := (t840.1 == (0:Int)), Val := z867 } : api_Write)]) [[F6 t835.1, .bool (t840.1 == (0:Int)), v866]] 120 1 z (Reps.cons ⟨_, z, f876, one_of_sliceV (ro_sliceV f876)⟩ Reps.nil)
 refine wl_run (v := (.slice (some ⟨b877, 0, none⟩) 1 1)) (w' := w878) z z (x_als (by kernel_rfl) ew879 eb880) ?_
 obtain ⟨hg882, hm⟩ := gd_some hm
 replace hst := hst.pull2
 obtain ⟨v883, w884, hr885, hst⟩ := run_append elem_42 underlying42 hst hst.src1 (room_of hg882 z) 42
 refine wl_run (v := v883) (w' := w884) z z (x_append z z hr885) ?_
 refine wv (v883) z z z (wl_nil (blk_n (tn (wrl (wv (.int .i64 z824) z z z (wv (.int .i64 (i64.wrap (z824 + (1:Int)))) z z z (wv (.int .i64 (i64.wrap (z824 + (1:Int)))) z z z (wl_nil (tn ?_)))))))))
 replace hst := hst.pull2.pull1.keep2
 obtain rfl := some_inj hm
 exact ⟨_, Nat.lt_succ_self _, _, z864, (z821 ++ ([({ At := t835.1, Del := (t840.1 == (0:Int)), Val := z867 } : api_Write)])), (i64.wrap (z824 + (1:Int))), v883, _, hx832, (fu 0 p0 z (fu 3 v883 z (fu 4 (.int .i64 t654.1) z (fu 5 (.int .i64 (i64.wrap (z824 + (1:Int)))) z z)))), hL829, hst⟩
}
}
 {
 replace hm := bif_f hc834 hm
 refine wp_iff (cvb hc834) ?_
 refine wp_exit (then_x (then_x ?_))
 replace hm := inr_up hm hx832
 refine blk_x (tn (wp_seq (wrl ?_)))
 refine wv (v822) z z z (wv (v822) z z z (wl_nil (tn (wp_ret ?_))))
 obtain rfl := some_inj hm
 refine post_ret (vs := [v822]) results33 (rvs_cons (rv_tmp z) rvs_nil) ?_
 replace hst := hst.pull1.pull1
 exact ⟨_, v822, z, hI0, hst.keep2⟩
}
}

theorem law17_make1_ref {w0 w : World} {I : HL} {R : SP} {a0 : ref12_Tape} {p0 : Value}  (hst : St w0 w I [at_ref12_Tape p0 a0] R) {r : (api_Mail × ref12_Tape)} (hm : law17_make1 a0 = some r) :
  Calls prog 9 #[p0] w fun e w' => ∃ (I' : HL) (q0_0 : Value) (q0_1 : Value) (q0_2 : Value) (q0_3 : Value) (q0_4 : Value) (q0_5 : Value) (q0_6 : Value) (q0_7 : Value) (q0_8 : Value) (q0_9 : Value) (q0_10 : Value) (q0_11 : Value) (q0_12 : Value) (q0_13 : Value) (q0_14 : Value) (q0_15 : Value), e = .returned (.agg #[U1 r.1.Kind, U1 r.1.M.Kind, I6 r.1.M.From, I6 r.1.M.To, U6 r.1.M.Term, U6 r.1.M.Index, U6 r.1.M.LogTerm, U6 r.1.M.Commit, .bool r.1.M.OK, q0_0, U6 r.1.M.S.Index, U6 r.1.M.S.Term, U6 r.1.M.S.Voters, q0_1, U6 r.1.H.ID.Session, U6 r.1.H.ID.Seq, U6 r.1.H.Epoch, q0_2, q0_3, q0_4, q0_5, U6 r.1.ID.Session, U6 r.1.ID.Seq, I6 r.1.R.E, U6 r.1.R.Epoch, U6 r.1.R.Index, q0_6, q0_7, U1 r.1.C.Kind, U6 r.1.C.ID.Session, U6 r.1.C.ID.Seq, U6 r.1.C.Epoch, U6 r.1.C.Index, I6 r.1.C.E, U6 r.1.C.Hold.ID.Session, U6 r.1.C.Hold.ID.Seq, U6 r.1.C.Hold.Epoch, q0_8, q0_9, q0_10, q0_11, q0_12, I6 r.1.C.R.E, U6 r.1.C.R.Epoch, U6 r.1.C.R.Index, q0_13, q0_14, U6 r.1.C.Shards, q0_15, U6 r.1.C.Rule.ID, I6 r.1.C.Rule.From, I6 r.1.C.Rule.To, F6 r.1.C.Rule.Lo, F6 r.1.C.Rule.Hi, U6 r.1.C.Rule.Authority, I6 r.1.C.Rule.Quota, .bool r.1.C.On]) ∧ I.le I' ∧ St w0 w' I' [ownS ty_api_Entry q0_0 r.1.M.Entries, ownS (tyInt .u8) q0_1 r.1.M.S.Data, ownS tyF64 q0_2 r.1.H.Gets, ownS tyF2 q0_3 r.1.H.Scans, ownS tyF64 q0_4 r.1.H.Puts, ownS (tyInt .u8) q0_5 r.1.H.Data, ownS ty_api_Got q0_6 r.1.R.Gots, ownS (tySl ty_api_Pair) q0_7 r.1.R.Scans, ownS tyF64 q0_8 r.1.C.Hold.Gets, ownS tyF2 q0_9 r.1.C.Hold.Scans, ownS tyF64 q0_10 r.1.C.Hold.Puts, ownS (tyInt .u8) q0_11 r.1.C.Hold.Data, ownS ty_api_Write q0_12 r.1.C.Writes, ownS ty_api_Got q0_13 r.1.C.R.Gots, ownS (tySl ty_api_Pair) q0_14 r.1.C.R.Scans, ownS ty_api_Part q0_15 r.1.C.Parts, at_ref12_Tape p0 r.2] R := by {
 unfold law17_make1 at hm
 refine calls_start (args := [p0]) func9 z ntmps9 (Nat.le_of_ble_eq_true z) ?_
 have hI0 := HL.le.refl I
 refine wp_seq (wrl ?_)
 obtain ⟨b464, w465, ew466, eb467, hst⟩ := hst.box [Zb, Zb, Zi, Zi, Zu, Zu, Zu, Zu, .bool false, Zs, Zu, Zu, Zu, Zs, Zu, Zu, Zu, Zs, Zs, Zs, Zs, Zu, Zu, Zi, Zu, Zu, Zs, Zs, Zb, Zu, Zu, Zu, Zu, Zi, Zu, Zu, Zu, Zs, Zs, Zs, Zs, Zs, Zi, Zu, Zu, Zs, Zs, Zu, Zs, Zu, Zi, Zi, Zf, Zf, Zu, Zi, .bool false] 50
 refine wl_run (v := Pt b464 0) (w' := w465) z z (x_al (by kernel_rfl) ew466 eb467) ?_
 refine wl_nil (tn (wp_seq (wrl (wv (p0) z z z ?_))))
 replace hst := hst.pull1
 obtain ⟨t469, ht470, hm⟩ := bind_some hm
 refine wc call28 [p0, I6 (6:Int)] z z z ?_
 refine (ref12_Tape_Next_ref hst.to1 ht470).mono ?_
 rintro _ w471 ⟨rfl, hst⟩
 refine ⟨_, z, ?_⟩
 replace hst := hst.of1
 refine wv (.int .i64 (i64.wrap ((1:Int) + t469.1))) z z z (wv (.int .u8 (u8.wrap (i64.wrap ((1:Int) + t469.1)))) z z (by kernel_rfl) (wv (.agg #[U1 (u8.wrap (i64.wrap ((1:Int) + t469.1))), Zb, Zi, Zi, Zu, Zu, Zu, Zu, .bool false, Zs, Zu, Zu, Zu, Zs, Zu, Zu, Zu, Zs, Zs, Zs, Zs, Zu, Zu, Zi, Zu, Zu, Zs, Zs, Zb, Zu, Zu, Zu, Zu, Zi, Zu, Zu, Zu, Zs, Zs, Zs, Zs, Zs, Zi, Zu, Zu, Zs, Zs, Zu, Zs, Zu, Zi, Zi, Zf, Zf, Zu, Zi, .bool false]) z z (by kernel_rfl) ?_))
 obtain ⟨b506, w507, ew508, eb509, hst⟩ := hst.box [Zb, Zb, Zi, Zi, Zu, Zu, Zu, Zu, .bool false, Zs, Zu, Zu, Zu, Zs, Zu, Zu, Zu, Zs, Zs, Zs, Zs, Zu, Zu, Zi, Zu, Zu, Zs, Zs, Zb, Zu, Zu, Zu, Zu, Zi, Zu, Zu, Zu, Zs, Zs, Zs, Zs, Zs, Zi, Zu, Zu, Zs, Zs, Zu, Zs, Zu, Zi, Zi, Zf, Zf, Zu, Zi, .bool false] 50
 refine wl_run (v := Pt b506 0) (w' := w507) z z (x_al (by kernel_rfl) ew508 eb509) ?_
 obtain ⟨w511, hr512, hst⟩ := hst.bx [U1 (u8.wrap (i64.wrap ((1:Int) + t469.1))), Zb, Zi, Zi, Zu, Zu, Zu, Zu, .bool false, Zs, Zu, Zu, Zu, Zs, Zu, Zu, Zu, Zs, Zs, Zs, Zs, Zu, Zu, Zi, Zu, Zu, Zs, Zs, Zb, Zu, Zu, Zu, Zu, Zi, Zu, Zu, Zu, Zs, Zs, Zs, Zs, Zs, Zi, Zu, Zu, Zs, Zs, Zu, Zs, Zu, Zi, Zi, Zf, Zf, Zu, Zi, .bool false] sizeOf50 z (oC z (oC z (oC z (oC z (oC z (oC z (oC z (oC z (oC z (oC z (oC z (oC z (oC z (oC z (oC z (oC z (oC z (oC z (oC z (oC z (oC z (oC z (oC z (oC z (oC z (oC z (oC z (oC z (oC z (oC z (oC z (oC z (oC z (oC z (oC z (oC z (oC z (oC z (oC z (oC z (oC z (oC z (oC z (oC z (oC z (oC z (oC z (oC z (oC z (oC z (oC z (oC z (oC z (oC z (oC z (oC z (oC z oN))))))))))))))))))))))))))))))))))))))))))))))))))))))))) (by kernel_rfl)
 refine wl_unit z z (x_unit hr512) ?_
 refine wl_nil (tn (wp_seq (wp_seq (wrl (wv (Pt b506 0) z z (x_field z underlying50 z sizeOf5 z) (wv (.int .u8 (u8.wrap (i64.wrap ((1:Int) + t469.1)))) z z (x_load z isAgg5 (hst.bc0 z)) (wl_nil (tn (wp_block (wp_seq (wrl (wv (.bool ((u8.wrap (i64.wrap ((1:Int) + t469.1))) == (1:Int))) z z z (wv (.bool ((u8.wrap (i64.wrap ((1:Int) + t469.1))) == (1:Int))) z z z (wl_nil (tn ?_)))))))))))))))
 refine bsplit ((u8.wrap (i64.wrap ((1:Int) + t469.1))) == (1:Int)) (fun hc513 => ?_) (fun hc513 => ?_)
 {
 replace hm := bif_t hc513 hm
 refine wp_ift (cvb hc513) ?_
 refine wp_seq (wrl (wv (p0) z z z ?_))
 replace hst := hst.pull1
 obtain ⟨t514, ht515, hm⟩ := bind_some hm
 refine wc call28 [p0, I6 (7:Int)] z z z ?_
 refine (ref12_Tape_Next_ref hst.to1 ht515).mono ?_
 rintro _ w516 ⟨rfl, hst⟩
 refine ⟨_, z, ?_⟩
 replace hst := hst.of1
 refine wv (.int .i64 (i64.wrap ((1:Int) + t514.1))) z z z (wv (.int .u8 (u8.wrap (i64.wrap ((1:Int) + t514.1)))) z z (by kernel_rfl) (wv (p0) z z z ?_))
 obtain ⟨t519, ht520, hm⟩ := bind_some hm
 refine wc call28 [p0, I6 (5:Int)] z z z ?_
 refine (ref12_Tape_Next_ref hst.to1 ht520).mono ?_
 rintro _ w521 ⟨rfl, hst⟩
 refine ⟨_, z, ?_⟩
 replace hst := hst.of1
 refine wv (p0) z z z ?_
 obtain ⟨t524, ht525, hm⟩ := bind_some hm
 refine wc call28 [p0, I6 (5:Int)] z z z ?_
 refine (ref12_Tape_Next_ref hst.to1 ht525).mono ?_
 rintro _ w526 ⟨rfl, hst⟩
 refine ⟨_, z, ?_⟩
 replace hst := hst.of1
 refine wv (p0) z z z ?_
 obtain ⟨t529, ht530, hm⟩ := bind_some hm
 refine wc call28 [p0, I6 (250:Int)] z z z ?_
 refine (ref12_Tape_Next_ref hst.to1 ht530).mono ?_
 rintro _ w531 ⟨rfl, hst⟩
 refine ⟨_, z, ?_⟩
 replace hst := hst.of1
 refine wv (.int .u64 (u64.wrap t529.1)) z z (by kernel_rfl) (wv (p0) z z z ?_)
 obtain ⟨t534, ht535, hm⟩ := bind_some hm
 refine wc call28 [p0, I6 (250:Int)] z z z ?_
 refine (ref12_Tape_Next_ref hst.to1 ht535).mono ?_
 rintro _ w536 ⟨rfl, hst⟩
 refine ⟨_, z, ?_⟩
 replace hst := hst.of1
 refine wv (.int .u64 (u64.wrap t534.1)) z z (by kernel_rfl) (wv (p0) z z z ?_)
 obtain ⟨t539, ht540, hm⟩ := bind_some hm
 refine wc call28 [p0, I6 (9:Int)] z z z ?_
 refine (ref12_Tape_Next_ref hst.to1 ht540).mono ?_
 rintro _ w541 ⟨rfl, hst⟩
 refine ⟨_, z, ?_⟩
 replace hst := hst.of1
 refine wv (.int .u64 (u64.wrap t539.1)) z z (by kernel_rfl) (wv (p0) z z z ?_)
 obtain ⟨t544, ht545, hm⟩ := bind_some hm
 refine wc call28 [p0, I6 (99:Int)] z z z ?_
 refine (ref12_Tape_Next_ref hst.to1 ht545).mono ?_
 rintro _ w546 ⟨rfl, hst⟩
 refine ⟨_, z, ?_⟩
 replace hst := hst.of1
 refine wv (.int .u64 (u64.wrap t544.1)) z z (by kernel_rfl) (wv (p0) z z z ?_)
 obtain ⟨t549, ht550, hm⟩ := bind_some hm
 refine wc call28 [p0, I6 (2:Int)] z z z ?_
 refine (ref12_Tape_Next_ref hst.to1 ht550).mono ?_
 rintro _ w551 ⟨rfl, hst⟩
 refine ⟨_, z, ?_⟩
 replace hst := hst.of1
 refine wv (.bool (t549.1 == (0:Int))) z z z (wv (.agg #[U1 (u8.wrap (i64.wrap ((1:Int) + t514.1))), I6 t519.1, I6 t524.1, U6 (u64.wrap t529.1), U6 (u64.wrap t534.1), U6 (u64.wrap t539.1), U6 (u64.wrap t544.1), .bool (t549.1 == (0:Int)), Zs, Zu, Zu, Zu, Zs]) z z (by kernel_rfl) (wv (Pt b506 1) z z (x_field z underlying50 z sizeOf30 z) ?_))
 replace hst := hst.pull1
 obtain ⟨w556, hr557, hst⟩ := hst.by_ [U1 (u8.wrap (i64.wrap ((1:Int) + t469.1))), U1 (u8.wrap (i64.wrap ((1:Int) + t514.1))), I6 t519.1, I6 t524.1, U6 (u64.wrap t529.1), U6 (u64.wrap t534.1), U6 (u64.wrap t539.1), U6 (u64.wrap t544.1), .bool (t549.1 == (0:Int)), Zs, Zu, Zu, Zu, Zs, Zu, Zu, Zu, Zs, Zs, Zs, Zs, Zu, Zu, Zi, Zu, Zu, Zs, Zs, Zb, Zu, Zu, Zu, Zu, Zi, Zu, Zu, Zu, Zs, Zs, Zs, Zs, Zs, Zi, Zu, Zu, Zs, Zs, Zu, Zs, Zu, Zi, Zi, Zf, Zf, Zu, Zi, .bool false] 1 (.agg #[U1 (u8.wrap (i64.wrap ((1:Int) + t514.1))), I6 t519.1, I6 t524.1, U6 (u64.wrap t529.1), U6 (u64.wrap t534.1), U6 (u64.wrap t539.1), U6 (u64.wrap t544.1), .bool (t549.1 == (0:Int)), Zs, Zu, Zu, Zu, Zs]) sizeOf30 z (oC z (oC z (oC z (oC z (oC z (oC z (oC z (oC z (oC z (oC z (oC z (oC z (oC z oN))))))))))))) (by kernel_rfl)
 refine wl_unit z z (x_unit hr557) ?_
 refine wl_nil (tn (wp_seq (wrl (wv (p0) z z z ?_))))
 replace hst := hst.pull1
 obtain ⟨t558, ht559, hm⟩ := bind_some hm
 refine wc call28 [p0, I6 (4:Int)] z z z ?_
 refine (ref12_Tape_Next_ref hst.to1 ht559).mono ?_
 rintro _ w560 ⟨rfl, hst⟩
 refine ⟨_, z, ?_⟩
 replace hst := hst.of1
 refine wv (.int .i64 t558.1) z z z (wl_nil (tn ?_))
 obtain ⟨y725, hm, hx726⟩ := bind_some hm
 refine wp_cut (fun a w => ∃ (I722 : HL) (z718 : ref12_Tape) (z721 : (List api_Entry)) (v720 : Value) (σ723 : Nat → Value), (law17_make1_j0 t469 t514 t519 t524 t529 t534 t539 t544 t549) (z718, z721) = some r ∧ a = Fr 115 (upd (upd (upd σ723 0 (p0)) 2 (Pt b464 0)) 3 (Pt b506 0)) ∧ I.le I722 ∧ St w0 w I722 [at_ref12_Tape p0 z718, cells b464 [Zb, Zb, Zi, Zi, Zu, Zu, Zu, Zu, .bool false, Zs, Zu, Zu, Zu, Zs, Zu, Zu, Zu, Zs, Zs, Zs, Zs, Zu, Zu, Zi, Zu, Zu, Zs, Zs, Zb, Zu, Zu, Zu, Zu, Zi, Zu, Zu, Zu, Zs, Zs, Zs, Zs, Zs, Zi, Zu, Zu, Zs, Zs, Zu, Zs, Zu, Zi, Zi, Zf, Zf, Zu, Zi, .bool false], cells b506 [U1 (u8.wrap (i64.wrap ((1:Int) + t469.1))), U1 (u8.wrap (i64.wrap ((1:Int) + t514.1))), I6 t519.1, I6 t524.1, U6 (u64.wrap t529.1), U6 (u64.wrap t534.1), U6 (u64.wrap t539.1), U6 (u64.wrap t544.1), .bool (t549.1 == (0:Int)), v720, Zu, Zu, Zu, Zs, Zu, Zu, Zu, Zs, Zs, Zs, Zs, Zu, Zu, Zi, Zu, Zu, Zs, Zs, Zb, Zu, Zu, Zu, Zu, Zi, Zu, Zu, Zu, Zs, Zs, Zs, Zs, Zs, Zi, Zu, Zu, Zs, Zs, Zu, Zs, Zu, Zi, Zi, Zf, Zf, Zu, Zi, .bool false], ownS ty_api_Entry v720 z721] R) ?_ ?_
 {
 have hL727 := HL.le.refl I
 refine wp_seq (wrl (wv (.int .i64 (0:Int)) z z z (wl_nil (tn (wp_block ?_)))))
 replace hst := hst.own_nil ty_api_Entry
 obtain ⟨n677, hm⟩ := loopO_some hm
 refine wp_loop_n (fun n a w => ∃ (I675 : HL) (z670 : (List api_Entry)) (z673 : ref12_Tape) (z674 : Int) (v671 : Value) (σ676 : Nat → Value), loopN (law17_make1_l1 t558) n (z670, z673, z674) = some y725 ∧ a = Fr 115 (upd (upd (upd (upd (upd σ676 0 (p0)) 2 (Pt b464 0)) 3 (Pt b506 0)) 4 (.int .i64 t558.1)) 5 (.int .i64 z674)) ∧ I.le I675 ∧ St w0 w I675 [ownS ty_api_Entry v671 z670, at_ref12_Tape p0 z673, cells b506 [U1 (u8.wrap (i64.wrap ((1:Int) + t469.1))), U1 (u8.wrap (i64.wrap ((1:Int) + t514.1))), I6 t519.1, I6 t524.1, U6 (u64.wrap t529.1), U6 (u64.wrap t534.1), U6 (u64.wrap t539.1), U6 (u64.wrap t544.1), .bool (t549.1 == (0:Int)), v671, Zu, Zu, Zu, Zs, Zu, Zu, Zu, Zs, Zs, Zs, Zs, Zu, Zu, Zi, Zu, Zu, Zs, Zs, Zb, Zu, Zu, Zu, Zu, Zi, Zu, Zu, Zu, Zs, Zs, Zs, Zs, Zs, Zi, Zu, Zu, Zs, Zs, Zu, Zs, Zu, Zi, Zi, Zf, Zf, Zu, Zi, .bool false], cells b464 [Zb, Zb, Zi, Zi, Zu, Zu, Zu, Zu, .bool false, Zs, Zu, Zu, Zu, Zs, Zu, Zu, Zu, Zs, Zs, Zs, Zs, Zu, Zu, Zi, Zu, Zu, Zs, Zs, Zb, Zu, Zu, Zu, Zu, Zi, Zu, Zu, Zu, Zs, Zs, Zs, Zs, Zs, Zi, Zu, Zu, Zs, Zs, Zu, Zs, Zu, Zi, Zi, Zf, Zf, Zu, Zi, .bool false]] R) n677 ⟨_, [], t558.2, (0:Int), Zs, _, hm, (fu 0 p0 z (fu 2 (Pt b464 0) z (fu 3 (Pt b506 0) z (fu 4 (.int .i64 t558.1) z (fu 5 (.int .i64 (0:Int)) z z))))), (HL.le.refl _), hst⟩ ?_
 rintro n683 _ w678 ⟨I675, z670, z673, z674, v671, σ676, hm, rfl, hL679, hst⟩
 obtain ⟨n680, y681, rfl, hm, hx682⟩ := loopN_some hm
 dsimp only [law17_make1_l1] at hm
 replace hI0 := hI0.trans hL679
 replace hL727 := hL727.trans hL679
 refine wp_seq (wp_seq (wrl (wv (.int .i64 z674) z z z (wv (.int .i64 t558.1) z z z (wv (.bool (decide (z674 < t558.1))) z z z (wl_nil (tn ?_)))))))
 refine bsplit (decide (z674 < t558.1)) (fun hc684 => ?_) (fun hc684 => ?_)
 {
 replace hm := bif_t hc684 hm
 refine wp_ift (cvb hc684) ?_
 refine wp_skip (tn (wp_seq (wp_block ?_)))
 refine wp_region_St hst 19 [0, 1, 2, 3, 4, 5, 6, 7, 8, 9, 10, 11, 12, 13, 14, 15, 16, 17, 18] [0, 1, 3, 0, 8, 0, 32, 96, 0, 352, 864, 0, 2912, 8184, 16376, 32767, 65535, 131071, 262143] [] z (by kernel_rfl) (by kernel_rfl) Try.mixed (by kernel_rfl) ?_
 refine wsr (Pt b506 1) 0 z z z (by kernel_rfl) (fun w hst => x_field z underlying50 z sizeOf30 z) (wsr (Pt b506 9) 1 z z z (by kernel_rfl) (fun w hst => x_field z underlying30 z sizeOf26 z) (wsr (v671) 2 z z z (by kernel_rfl) (fun w hst => x_load z isAgg26 (hst.bc2 z)) (wsr (.int .i64 z674) 3 z z z (by kernel_rfl) (fun w hst => z) (wsr (.int .u64 (u64.wrap z674)) 4 z z z (by kernel_rfl) (fun w hst => by kernel_rfl) (wsr (p0) 5 z z z (by kernel_rfl) (fun w hst => z) (wsr (p0) 8 z z z (by kernel_rfl) (fun w hst => z) (wsr (p0) 11 z z z (by kernel_rfl) (fun w hst => z) ?_)))))))
 refine ws_e1 6 (by kernel_rfl) ?_
 refine nxe [7, 9, 10, 12, 13, 14, 15, 16, 17, 18] (by kernel_rfl) z z ?_
 clear hst
 intro w hst
 replace hst := hst.pull1
 obtain ⟨t685, ht686, hm⟩ := bind_some hm
 refine wec call28 [p0, I6 (9:Int)] z z ?_
 refine (ref12_Tape_Next_ref hst.to1 ht686).mono ?_
 rintro _ w687 ⟨rfl, hst⟩
 refine ⟨_, z, ?_⟩
 replace hst := hst.of1
 refine ws_next (pend' := [(11, p0), (8, p0), (4, U6 (u64.wrap z674)), (3, I6 z674), (2, v671), (1, Pt b506 9), (0, Pt b506 1)]) hst (by kernel_rfl) (pkr z z (fun w hst => z) (pkr z z (fun w hst => z) (pkr z z (fun w hst => by kernel_rfl) (pkr z z (fun w hst => z) (pkr z z (fun w hst => x_load z isAgg26 (hst.bc2 z)) (pkr z z (fun w hst => x_field z underlying30 z sizeOf26 z) (pkr z z (fun w hst => x_field z underlying50 z sizeOf30 z) pk_nil))))))) ?_
 refine wsr (.int .u64 (u64.wrap t685.1)) 7 z z z (by kernel_rfl) (fun w hst => by kernel_rfl) ?_
 refine ws_e1 9 (by kernel_rfl) ?_
 refine nxe [10, 12, 13, 14, 15, 16, 17, 18] (by kernel_rfl) z z ?_
 clear hst
 intro w hst
 obtain ⟨t690, ht691, hm⟩ := bind_some hm
 refine wec call28 [p0, I6 (2:Int)] z z ?_
 refine (ref12_Tape_Next_ref hst.to1 ht691).mono ?_
 rintro _ w692 ⟨rfl, hst⟩
 refine ⟨_, z, ?_⟩
 replace hst := hst.of1
 refine ws_next (pend' := [(7, U6 (u64.wrap t685.1)), (11, p0), (4, U6 (u64.wrap z674)), (3, I6 z674), (2, v671), (1, Pt b506 9), (0, Pt b506 1)]) hst (by kernel_rfl) (pkr z z (fun w hst => by kernel_rfl) (pkr z z (fun w hst => z) (pkr z z (fun w hst => by kernel_rfl) (pkr z z (fun w hst => z) (pkr z z (fun w hst => x_load z isAgg26 (hst.bc2 z)) (pkr z z (fun w hst => x_field z underlying30 z sizeOf26 z) (pkr z z (fun w hst => x_field z underlying50 z sizeOf30 z) pk_nil))))))) ?_
 refine wsr (.int .u8 (u8.wrap t690.1)) 10 z z z (by kernel_rfl) (fun w hst => by kernel_rfl) ?_
 refine ws_e1 12 (by kernel_rfl) ?_
 refine nxe [13, 14, 15, 16, 17, 18] (by kernel_rfl) z z ?_
 clear hst
 intro w hst
 obtain ⟨t695, ht696, hm⟩ := bind_some hm
 refine wec call29 [p0] z z ?_
 refine (ref12_Tape_Val_ref hst.to1 ht696).mono ?_
 rintro _ w697 ⟨v700, rfl, hst⟩
 refine ⟨_, z, ?_⟩
 replace hst := hst.of2
 refine ws_next (pend' := [(10, U1 (u8.wrap t690.1)), (7, U6 (u64.wrap t685.1)), (4, U6 (u64.wrap z674)), (3, I6 z674), (2, v671), (1, Pt b506 9), (0, Pt b506 1)]) hst (by kernel_rfl) (pkr z z (fun w hst => by kernel_rfl) (pkr z z (fun w hst => by kernel_rfl) (pkr z z (fun w hst => by kernel_rfl) (pkr z z (fun w hst => z) (pkr z z (fun w hst => x_load z isAgg26 (hst.bc3 z)) (pkr z z (fun w hst => x_field z underlying30 z sizeOf26 z) (pkr z z (fun w hst => x_field z underlying50 z sizeOf30 z) pk_nil))))))) ?_
 refine wsr (.agg #[U6 (u64.wrap z674), U6 (u64.wrap t685.1), U1 (u8.wrap t690.1), v700]) 13 rfl rfl rfl (by kernel_rfl) (fun w hst => by obtain ⟨_, _, hv_, _⟩ := hst.sv0; rw [hv_]; kernel_rfl) ?_
 refine ws_e1 14 (by kernel_rfl) ?_
 refine nxe [15, 16, 17, 18] (by kernel_rfl) z z ?_
 clear hst
 intro w hst
 obtain ⟨I704, hI705, f706, hst⟩ := hst.own_fix
 replace hI0 := hI0.trans hI705
 replace hL727 := hL727.trans hI705
 replace hL679 := hL679.trans hI705
 obtain ⟨b707, w708, ew709, eb710, hst⟩ := hst.lits (E := ty_api_Entry) (xs := [({ Index := (u64.wrap z674), Term := (u64.wrap t685.1), Kind := (u8.wrap t690.1), Data := t695.1 } : api_Entry)]) [[U6 (u64.wrap z674), U6 (u64.wrap t685.1), U1 (u8.wrap t690.1), v700]] 84 1 z (Reps.cons ⟨_, z, f706, one_of_sliceV (ro_sliceV f706)⟩ Reps.nil)
 refine we_run (v := (.slice (some ⟨b707, 0, none⟩) 1 1)) (w' := w708) z (x_als (by kernel_rfl) ew709 eb710) ?_
 refine ws_next (pend' := [(2, v671), (1, Pt b506 9), (0, Pt b506 1)]) hst (by kernel_rfl) (pkr z z (fun w hst => x_load z isAgg26 (hst.bc3 z)) (pkr z z (fun w hst => x_field z underlying30 z sizeOf26 z) (pkr z z (fun w hst => x_field z underlying50 z sizeOf30 z) pk_nil))) ?_
 refine ws_e1 15 (by kernel_rfl) ?_
 refine nxe [16, 17, 18] (by kernel_rfl) z z ?_
 clear hst
 intro w hst
 obtain ⟨hg712, hm⟩ := gd_some hm
 replace hst := hst.pull2
 obtain ⟨v713, w714, hr715, hst⟩ := run_append elem_26 underlying26 hst hst.src1 (room_of hg712 z) 26
 refine we_run (v := v713) (w' := w714) z (x_append z z hr715) ?_
 refine ws_next (pend' := []) hst (by kernel_rfl) pk_nil ?_
 refine wsr (Pt b506 1) 16 z z z (by kernel_rfl) (fun w hst => x_field z underlying50 z sizeOf30 z) (wsr (Pt b506 9) 17 z z z (by kernel_rfl) (fun w hst => x_field z underlying30 z sizeOf26 z) ?_)
 refine ws_e1 18 (by kernel_rfl) ?_
 refine nxe [] (by kernel_rfl) z z ?_
 clear hst
 intro w hst
 replace hst := hst.pull3
 obtain ⟨w716, hr717, hst⟩ := hst.boxStore1 (P := prog) (t := 26) (cs' := [U1 (u8.wrap (i64.wrap ((1:Int) + t469.1))), U1 (u8.wrap (i64.wrap ((1:Int) + t514.1))), I6 t519.1, I6 t524.1, U6 (u64.wrap t529.1), U6 (u64.wrap t534.1), U6 (u64.wrap t539.1), U6 (u64.wrap t544.1), .bool (t549.1 == (0:Int)), v713, Zu, Zu, Zu, Zs, Zu, Zu, Zu, Zs, Zs, Zs, Zs, Zu, Zu, Zi, Zu, Zu, Zs, Zs, Zb, Zu, Zu, Zu, Zu, Zi, Zu, Zu, Zu, Zs, Zs, Zs, Zs, Zs, Zi, Zu, Zu, Zs, Zs, Zu, Zs, Zu, Zi, Zi, Zf, Zf, Zu, Zi, .bool false]) 9 v713 (one_of_sliceV hst.sv1) sizeOf26 z z
 refine we_unit z (x_unit hr717) ?_
 refine ws_next (pend' := []) hst (by kernel_rfl) pk_nil ?_
 refine ws_nil ?_
 intro w hst
 refine blk_n (tn (wrl ?_))
 refine wv (.int .i64 z674) z z z (wv (.int .i64 (i64.wrap (z674 + (1:Int)))) z z z (wv (.int .i64 (i64.wrap (z674 + (1:Int)))) z z z (wl_nil (tn ?_))))
 replace hst := hst.pull4.pull1.pull4.pull3.keep4
 obtain rfl := some_inj hm
 exact ⟨_, Nat.lt_succ_self _, _, (z670 ++ ([({ Index := (u64.wrap z674), Term := (u64.wrap t685.1), Kind := (u8.wrap t690.1), Data := t695.1 } : api_Entry)])), t695.2, (i64.wrap (z674 + (1:Int))), v713, _, hx682, (fu 0 p0 z (fu 2 (Pt b464 0) z (fu 3 (Pt b506 0) z (fu 4 (.int .i64 t558.1) z (fu 5 (.int .i64 (i64.wrap (z674 + (1:Int)))) z z))))), hL679, hst⟩
}
 {
 replace hm := bif_f hc684 hm
 refine wp_iff (cvb hc684) ?_
 refine wp_exit (then_x (then_x ?_))
 replace hm := inr_up hm hx682
 refine blk_x (tn ?_)
 replace hst := hst.pull2.pull3.pull3.keep4
 obtain rfl := some_inj hm
 exact ⟨_, z673, z670, v671, _, hx726, (fu 0 p0 z (fu 2 (Pt b464 0) z (fu 3 (Pt b506 0) z z))), hL727, hst⟩
}
}
 {
 clear hst
 rintro _ w728 ⟨I722, z718, z721, v720, σ723, hm, rfl, hL724, hst⟩
 dsimp only [law17_make1_j0] at hm
 replace hI0 := hI0.trans hL724
 refine wrl (wv (p0) z z z ?_)
 obtain ⟨t729, ht730, hm⟩ := bind_some hm
 refine wc call28 [p0, I6 (9:Int)] z z z ?_
 refine (ref12_Tape_Next_ref hst.to1 ht730).mono ?_
 rintro _ w731 ⟨rfl, hst⟩
 refine ⟨_, z, ?_⟩
 replace hst := hst.of1
 refine wv (.int .u64 (u64.wrap t729.1)) z z (by kernel_rfl) (wv (p0) z z z ?_)
 obtain ⟨t734, ht735, hm⟩ := bind_some hm
 refine wc call28 [p0, I6 (9:Int)] z z z ?_
 refine (ref12_Tape_Next_ref hst.to1 ht735).mono ?_
 rintro _ w736 ⟨rfl, hst⟩
 refine ⟨_, z, ?_⟩
 replace hst := hst.of1
 refine wv (.int .u64 (u64.wrap t734.1)) z z (by kernel_rfl) (wv (p0) z z z ?_)
 obtain ⟨t739, ht740, hm⟩ := bind_some hm
 refine wc call28 [p0, I6 (9:Int)] z z z ?_
 refine (ref12_Tape_Next_ref hst.to1 ht740).mono ?_
 rintro _ w741 ⟨rfl, hst⟩
 refine ⟨_, z, ?_⟩
 replace hst := hst.of1
 refine wv (.int .u64 (u64.wrap t739.1)) z z (by kernel_rfl) (wv (p0) z z z ?_)
 obtain ⟨t744, ht745, hm⟩ := bind_some hm
 refine wc call29 [p0] z z z ?_
 refine (ref12_Tape_Val_ref hst.to1 ht745).mono ?_
 rintro _ w746 ⟨v749, rfl, hst⟩
 refine ⟨_, z, ?_⟩
 replace hst := hst.of2
 refine wv (.agg #[U6 (u64.wrap t729.1), U6 (u64.wrap t734.1), U6 (u64.wrap t739.1), v749]) z z (by obtain ⟨_, _, hv_, _⟩ := hst.sv0; rw [hv_]; kernel_rfl) (wv (Pt b506 1) z z (x_field z underlying50 z sizeOf30 z) (wv (Pt b506 10) z z (x_field z underlying30 z sizeOf28 z) ?_))
 replace hst := hst.pull3
 obtain ⟨w752, hr753, hst⟩ := hst.by_ [U1 (u8.wrap (i64.wrap ((1:Int) + t469.1))), U1 (u8.wrap (i64.wrap ((1:Int) + t514.1))), I6 t519.1, I6 t524.1, U6 (u64.wrap t529.1), U6 (u64.wrap t534.1), U6 (u64.wrap t539.1), U6 (u64.wrap t544.1), .bool (t549.1 == (0:Int)), v720, U6 (u64.wrap t729.1), U6 (u64.wrap t734.1), U6 (u64.wrap t739.1), v749, Zu, Zu, Zu, Zs, Zs, Zs, Zs, Zu, Zu, Zi, Zu, Zu, Zs, Zs, Zb, Zu, Zu, Zu, Zu, Zi, Zu, Zu, Zu, Zs, Zs, Zs, Zs, Zs, Zi, Zu, Zu, Zs, Zs, Zu, Zs, Zu, Zi, Zi, Zf, Zf, Zu, Zi, .bool false] 10 (.agg #[U6 (u64.wrap t729.1), U6 (u64.wrap t734.1), U6 (u64.wrap t739.1), v749]) sizeOf28 z (oC z (oC z (oC z (oC (one_of_sliceV hst.sv1) oN)))) (by kernel_rfl)
 refine wl_unit z z (x_unit hr753) ?_
 refine wl_nil (blk_n (tn (wp_seq (wrl (wv (.agg #[U1 (u8.wrap (i64.wrap ((1:Int) + t469.1))), U1 (u8.wrap (i64.wrap ((1:Int) + t514.1))), I6 t519.1, I6 t524.1, U6 (u64.wrap t529.1), U6 (u64.wrap t534.1), U6 (u64.wrap t539.1), U6 (u64.wrap t544.1), .bool (t549.1 == (0:Int)), v720, U6 (u64.wrap t729.1), U6 (u64.wrap t734.1), U6 (u64.wrap t739.1), v749, Zu, Zu, Zu, Zs, Zs, Zs, Zs, Zu, Zu, Zi, Zu, Zu, Zs, Zs, Zb, Zu, Zu, Zu, Zu, Zi, Zu, Zu, Zu, Zs, Zs, Zs, Zs, Zs, Zi, Zu, Zu, Zs, Zs, Zu, Zs, Zu, Zi, Zi, Zf, Zf, Zu, Zi, .bool false]) z z (x_loadN (cs := [U1 (u8.wrap (i64.wrap ((1:Int) + t469.1))), U1 (u8.wrap (i64.wrap ((1:Int) + t514.1))), I6 t519.1, I6 t524.1, U6 (u64.wrap t529.1), U6 (u64.wrap t534.1), U6 (u64.wrap t539.1), U6 (u64.wrap t544.1), .bool (t549.1 == (0:Int)), v720, U6 (u64.wrap t729.1), U6 (u64.wrap t734.1), U6 (u64.wrap t739.1), v749, Zu, Zu, Zu, Zs, Zs, Zs, Zs, Zu, Zu, Zi, Zu, Zu, Zs, Zs, Zb, Zu, Zu, Zu, Zu, Zi, Zu, Zu, Zu, Zs, Zs, Zs, Zs, Zs, Zi, Zu, Zu, Zs, Zs, Zu, Zs, Zu, Zi, Zi, Zf, Zf, Zu, Zi, .bool false]) z isAgg50 sizeOf50 (hst.bcs0 0 z)) ?_)))))
 replace hst := hst.pull3
 obtain ⟨w754, hr755, hst⟩ := hst.bx [U1 (u8.wrap (i64.wrap ((1:Int) + t469.1))), U1 (u8.wrap (i64.wrap ((1:Int) + t514.1))), I6 t519.1, I6 t524.1, U6 (u64.wrap t529.1), U6 (u64.wrap t534.1), U6 (u64.wrap t539.1), U6 (u64.wrap t544.1), .bool (t549.1 == (0:Int)), v720, U6 (u64.wrap t729.1), U6 (u64.wrap t734.1), U6 (u64.wrap t739.1), v749, Zu, Zu, Zu, Zs, Zs, Zs, Zs, Zu, Zu, Zi, Zu, Zu, Zs, Zs, Zb, Zu, Zu, Zu, Zu, Zi, Zu, Zu, Zu, Zs, Zs, Zs, Zs, Zs, Zi, Zu, Zu, Zs, Zs, Zu, Zs, Zu, Zi, Zi, Zf, Zf, Zu, Zi, .bool false] sizeOf50 z (oC z (oC z (oC z (oC z (oC z (oC z (oC z (oC z (oC z (oC (one_of_sliceV hst.sv4) (oC z (oC z (oC z (oC (one_of_sliceV hst.sv2) (oC z (oC z (oC z (oC z (oC z (oC z (oC z (oC z (oC z (oC z (oC z (oC z (oC z (oC z (oC z (oC z (oC z (oC z (oC z (oC z (oC z (oC z (oC z (oC z (oC z (oC z (oC z (oC z (oC z (oC z (oC z (oC z (oC z (oC z (oC z (oC z (oC z (oC z (oC z (oC z (oC z (oC z (oC z oN))))))))))))))))))))))))))))))))))))))))))))))))))))))))) (by kernel_rfl)
 refine wl_unit z z (x_unit hr755) ?_
 refine wl_nil (tn (wp_ret ?_))
 replace hst := hst.own_nil tyF64
 replace hst := hst.own_nil tyF2
 replace hst := hst.own_nil tyF64
 replace hst := hst.own_nil (tyInt .u8)
 replace hst := hst.own_nil ty_api_Got
 replace hst := hst.own_nil (tySl ty_api_Pair)
 replace hst := hst.own_nil tyF64
 replace hst := hst.own_nil tyF2
 replace hst := hst.own_nil tyF64
 replace hst := hst.own_nil (tyInt .u8)
 replace hst := hst.own_nil ty_api_Write
 replace hst := hst.own_nil ty_api_Got
 replace hst := hst.own_nil (tySl ty_api_Pair)
 replace hst := hst.own_nil ty_api_Part
 obtain rfl := some_inj hm
 refine post_ret (vs := [.agg #[U1 (u8.wrap (i64.wrap ((1:Int) + t469.1))), U1 (u8.wrap (i64.wrap ((1:Int) + t514.1))), I6 t519.1, I6 t524.1, U6 (u64.wrap t529.1), U6 (u64.wrap t534.1), U6 (u64.wrap t539.1), U6 (u64.wrap t544.1), .bool (t549.1 == (0:Int)), v720, U6 (u64.wrap t729.1), U6 (u64.wrap t734.1), U6 (u64.wrap t739.1), v749, Zu, Zu, Zu, Zs, Zs, Zs, Zs, Zu, Zu, Zi, Zu, Zu, Zs, Zs, Zb, Zu, Zu, Zu, Zu, Zi, Zu, Zu, Zu, Zs, Zs, Zs, Zs, Zs, Zi, Zu, Zu, Zs, Zs, Zu, Zs, Zu, Zi, Zi, Zf, Zf, Zu, Zi, .bool false]]) results9 (rvs_cons (rv_cell (cs := [U1 (u8.wrap (i64.wrap ((1:Int) + t469.1))), U1 (u8.wrap (i64.wrap ((1:Int) + t514.1))), I6 t519.1, I6 t524.1, U6 (u64.wrap t529.1), U6 (u64.wrap t534.1), U6 (u64.wrap t539.1), U6 (u64.wrap t544.1), .bool (t549.1 == (0:Int)), v720, U6 (u64.wrap t729.1), U6 (u64.wrap t734.1), U6 (u64.wrap t739.1), v749, Zu, Zu, Zu, Zs, Zs, Zs, Zs, Zu, Zu, Zi, Zu, Zu, Zs, Zs, Zb, Zu, Zu, Zu, Zu, Zi, Zu, Zu, Zu, Zs, Zs, Zs, Zs, Zs, Zi, Zu, Zu, Zs, Zs, Zu, Zs, Zu, Zi, Zi, Zf, Zf, Zu, Zi, .bool false]) z isAgg50 sizeOf50 (hst.bcs14 0 z)) rvs_nil) ?_
 replace hst := hst.pull17.pull1.pull2.pull3.pull4.pull5.pull6.pull7.pull8.pull9.pull10.pull11.pull12.pull13.pull14.pull17.pull18
 exact ⟨_, v720, v749, Zs, Zs, Zs, Zs, Zs, Zs, Zs, Zs, Zs, Zs, Zs, Zs, Zs, Zs, z, hI0, hst.keep17⟩
}
}
 {
 replace hm := bif_f hc513 hm
 refine wp_iff (cvb hc513) ?_
 obtain ⟨y760, hm, hx761⟩ := bind_some hm
 refine wp_cut (fun a w => ∃ (z757 : Bool) (σ758 : Nat → Value), (law17_make1_j2 t469) z757 = some r ∧ a = Fr 115 (upd (upd (upd (upd (upd σ758 0 (p0)) 2 (Pt b464 0)) 3 (Pt b506 0)) 12 (.int .u8 (u8.wrap (i64.wrap ((1:Int) + t469.1))))) 79 (.bool z757)) ∧ St w0 w I [at_ref12_Tape p0 t469.2, cells b464 [Zb, Zb, Zi, Zi, Zu, Zu, Zu, Zu, .bool false, Zs, Zu, Zu, Zu, Zs, Zu, Zu, Zu, Zs, Zs, Zs, Zs, Zu, Zu, Zi, Zu, Zu, Zs, Zs, Zb, Zu, Zu, Zu, Zu, Zi, Zu, Zu, Zu, Zs, Zs, Zs, Zs, Zs, Zi, Zu, Zu, Zs, Zs, Zu, Zs, Zu, Zi, Zi, Zf, Zf, Zu, Zi, .bool false], cells b506 [U1 (u8.wrap (i64.wrap ((1:Int) + t469.1))), Zb, Zi, Zi, Zu, Zu, Zu, Zu, .bool false, Zs, Zu, Zu, Zu, Zs, Zu, Zu, Zu, Zs, Zs, Zs, Zs, Zu, Zu, Zi, Zu, Zu, Zs, Zs, Zb, Zu, Zu, Zu, Zu, Zi, Zu, Zu, Zu, Zs, Zs, Zs, Zs, Zs, Zi, Zu, Zu, Zs, Zs, Zu, Zs, Zu, Zi, Zi, Zf, Zf, Zu, Zi, .bool false]] R) ?_ ?_
 {
 refine wp_seq (wrl (wv (.bool ((u8.wrap (i64.wrap ((1:Int) + t469.1))) == (2:Int))) z z z (wv (.bool ((u8.wrap (i64.wrap ((1:Int) + t469.1))) == (2:Int))) z z z (wl_nil (tn ?_)))))
 refine bsplit ((u8.wrap (i64.wrap ((1:Int) + t469.1))) == (2:Int)) (fun hc756 => ?_) (fun hc756 => ?_)
 {
 replace hm := bif_t hc756 hm
 refine wp_ift (cvb hc756) ?_
 refine wp_skip (tn ?_)
 replace hst := hst.pull2.pull2.keep3
 obtain rfl := some_inj hm
 exact ⟨((u8.wrap (i64.wrap ((1:Int) + t469.1))) == (2:Int)), _, hx761, (fu 0 p0 z (fu 2 (Pt b464 0) z (fu 3 (Pt b506 0) z (fu 12 (.int .u8 (u8.wrap (i64.wrap ((1:Int) + t469.1)))) z (fu 79 (.bool ((u8.wrap (i64.wrap ((1:Int) + t469.1))) == (2:Int))) z z))))), hst⟩
}
 {
 replace hm := bif_f hc756 hm
 refine wp_iff (cvb hc756) ?_
 refine wrl (wv (.bool ((u8.wrap (i64.wrap ((1:Int) + t469.1))) == (6:Int))) z z z (wv (.bool ((u8.wrap (i64.wrap ((1:Int) + t469.1))) == (6:Int))) z z z (wl_nil (tn ?_))))
 replace hst := hst.pull2.pull2.keep3
 obtain rfl := some_inj hm
 exact ⟨((u8.wrap (i64.wrap ((1:Int) + t469.1))) == (6:Int)), _, hx761, (fu 0 p0 z (fu 2 (Pt b464 0) z (fu 3 (Pt b506 0) z (fu 12 (.int .u8 (u8.wrap (i64.wrap ((1:Int) + t469.1)))) z (fu 79 (.bool ((u8.wrap (i64.wrap ((1:Int) + t469.1))) == (6:Int))) z z))))), hst⟩
}
}
 {
 clear hst
 rintro _ w762 ⟨z757, σ758, hm, rfl, hst⟩
 dsimp only [law17_make1_j2] at hm
 refine bsplit z757 (fun hc763 => ?_) (fun hc763 => ?_)
 {
 replace hm := bif_t hc763 hm
 refine wp_ift (cvb hc763) ?_
 refine wrl (wv (p0) z z z ?_)
 obtain ⟨t764, ht765, hm⟩ := bind_some hm
 refine wc call30 [p0] z z z ?_
 refine (ref12_Tape_Hold_ref hst.to1 ht765).mono ?_
 rintro _ w766 ⟨v769, v771, v773, v775, rfl, hst⟩
 refine ⟨_, z, ?_⟩
 replace hst := hst.of5
 refine wv (Pt b506 14) z z (x_field z underlying50 z sizeOf36 z) ?_
 replace hst := hst.pull6
 obtain ⟨w777, hr778, hst⟩ := hst.by_ [U1 (u8.wrap (i64.wrap ((1:Int) + t469.1))), Zb, Zi, Zi, Zu, Zu, Zu, Zu, .bool false, Zs, Zu, Zu, Zu, Zs, U6 t764.1.ID.Session, U6 t764.1.ID.Seq, U6 t764.1.Epoch, v769, v771, v773, v775, Zu, Zu, Zi, Zu, Zu, Zs, Zs, Zb, Zu, Zu, Zu, Zu, Zi, Zu, Zu, Zu, Zs, Zs, Zs, Zs, Zs, Zi, Zu, Zu, Zs, Zs, Zu, Zs, Zu, Zi, Zi, Zf, Zf, Zu, Zi, .bool false] 14 (.agg #[U6 t764.1.ID.Session, U6 t764.1.ID.Seq, U6 t764.1.Epoch, v769, v771, v773, v775]) sizeOf36 z (oC z (oC z (oC z (oC (one_of_sliceV hst.sv1) (oC (one_of_sliceV hst.sv2) (oC (one_of_sliceV hst.sv3) (oC (one_of_sliceV hst.sv4) oN))))))) (by kernel_rfl)
 refine wl_unit z z (x_unit hr778) ?_
 refine wl_nil (blk_n (tn (wp_seq (wrl (wv (.agg #[U1 (u8.wrap (i64.wrap ((1:Int) + t469.1))), Zb, Zi, Zi, Zu, Zu, Zu, Zu, .bool false, Zs, Zu, Zu, Zu, Zs, U6 t764.1.ID.Session, U6 t764.1.ID.Seq, U6 t764.1.Epoch, v769, v771, v773, v775, Zu, Zu, Zi, Zu, Zu, Zs, Zs, Zb, Zu, Zu, Zu, Zu, Zi, Zu, Zu, Zu, Zs, Zs, Zs, Zs, Zs, Zi, Zu, Zu, Zs, Zs, Zu, Zs, Zu, Zi, Zi, Zf, Zf, Zu, Zi, .bool false]) z z (x_loadN (cs := [U1 (u8.wrap (i64.wrap ((1:Int) + t469.1))), Zb, Zi, Zi, Zu, Zu, Zu, Zu, .bool false, Zs, Zu, Zu, Zu, Zs, U6 t764.1.ID.Session, U6 t764.1.ID.Seq, U6 t764.1.Epoch, v769, v771, v773, v775, Zu, Zu, Zi, Zu, Zu, Zs, Zs, Zb, Zu, Zu, Zu, Zu, Zi, Zu, Zu, Zu, Zs, Zs, Zs, Zs, Zs, Zi, Zu, Zu, Zs, Zs, Zu, Zs, Zu, Zi, Zi, Zf, Zf, Zu, Zi, .bool false]) z isAgg50 sizeOf50 (hst.bcs0 0 z)) ?_)))))
 replace hst := hst.pull6
 obtain ⟨w779, hr780, hst⟩ := hst.bx [U1 (u8.wrap (i64.wrap ((1:Int) + t469.1))), Zb, Zi, Zi, Zu, Zu, Zu, Zu, .bool false, Zs, Zu, Zu, Zu, Zs, U6 t764.1.ID.Session, U6 t764.1.ID.Seq, U6 t764.1.Epoch, v769, v771, v773, v775, Zu, Zu, Zi, Zu, Zu, Zs, Zs, Zb, Zu, Zu, Zu, Zu, Zi, Zu, Zu, Zu, Zs, Zs, Zs, Zs, Zs, Zi, Zu, Zu, Zs, Zs, Zu, Zs, Zu, Zi, Zi, Zf, Zf, Zu, Zi, .bool false] sizeOf50 z (oC z (oC z (oC z (oC z (oC z (oC z (oC z (oC z (oC z (oC z (oC z (oC z (oC z (oC z (oC z (oC z (oC z (oC (one_of_sliceV hst.sv2) (oC (one_of_sliceV hst.sv3) (oC (one_of_sliceV hst.sv4) (oC (one_of_sliceV hst.sv5) (oC z (oC z (oC z (oC z (oC z (oC z (oC z (oC z (oC z (oC z (oC z (oC z (oC z (oC z (oC z (oC z (oC z (oC z (oC z (oC z (oC z (oC z (oC z (oC z (oC z (oC z (oC z (oC z (oC z (oC z (oC z (oC z (oC z (oC z (oC z (oC z oN))))))))))))))))))))))))))))))))))))))))))))))))))))))))) (by kernel_rfl)
 refine wl_unit z z (x_unit hr780) ?_
 refine wl_nil (tn (wp_ret ?_))
 replace hst := hst.own_nil ty_api_Entry
 replace hst := hst.own_nil (tyInt .u8)
 replace hst := hst.own_nil ty_api_Got
 replace hst := hst.own_nil (tySl ty_api_Pair)
 replace hst := hst.own_nil tyF64
 replace hst := hst.own_nil tyF2
 replace hst := hst.own_nil tyF64
 replace hst := hst.own_nil (tyInt .u8)
 replace hst := hst.own_nil ty_api_Write
 replace hst := hst.own_nil ty_api_Got
 replace hst := hst.own_nil (tySl ty_api_Pair)
 replace hst := hst.own_nil ty_api_Part
 obtain rfl := some_inj hm
 refine post_ret (vs := [.agg #[U1 (u8.wrap (i64.wrap ((1:Int) + t469.1))), Zb, Zi, Zi, Zu, Zu, Zu, Zu, .bool false, Zs, Zu, Zu, Zu, Zs, U6 t764.1.ID.Session, U6 t764.1.ID.Seq, U6 t764.1.Epoch, v769, v771, v773, v775, Zu, Zu, Zi, Zu, Zu, Zs, Zs, Zb, Zu, Zu, Zu, Zu, Zi, Zu, Zu, Zu, Zs, Zs, Zs, Zs, Zs, Zi, Zu, Zu, Zs, Zs, Zu, Zs, Zu, Zi, Zi, Zf, Zf, Zu, Zi, .bool false]]) results9 (rvs_cons (rv_cell (cs := [U1 (u8.wrap (i64.wrap ((1:Int) + t469.1))), Zb, Zi, Zi, Zu, Zu, Zu, Zu, .bool false, Zs, Zu, Zu, Zu, Zs, U6 t764.1.ID.Session, U6 t764.1.ID.Seq, U6 t764.1.Epoch, v769, v771, v773, v775, Zu, Zu, Zi, Zu, Zu, Zs, Zs, Zb, Zu, Zu, Zu, Zu, Zi, Zu, Zu, Zu, Zs, Zs, Zs, Zs, Zs, Zi, Zu, Zu, Zs, Zs, Zu, Zs, Zu, Zi, Zi, Zf, Zf, Zu, Zi, .bool false]) z isAgg50 sizeOf50 (hst.bcs12 0 z)) rvs_nil) ?_
 replace hst := hst.pull18.pull1.pull2.pull3.pull4.pull5.pull6.pull7.pull8.pull9.pull10.pull18.pull18.pull18.pull18.pull15.pull16
 exact ⟨_, Zs, Zs, v769, v771, v773, v775, Zs, Zs, Zs, Zs, Zs, Zs, Zs, Zs, Zs, Zs, z, hI0, hst.keep17⟩
}
 {
 replace hm := bif_f hc763 hm
 refine wp_iff (cvb hc763) ?_
 refine wp_seq (wrl (wv (.bool ((u8.wrap (i64.wrap ((1:Int) + t469.1))) == (3:Int))) z z z (wv (.bool ((u8.wrap (i64.wrap ((1:Int) + t469.1))) == (3:Int))) z z z (wl_nil (tn ?_)))))
 refine bsplit ((u8.wrap (i64.wrap ((1:Int) + t469.1))) == (3:Int)) (fun hc781 => ?_) (fun hc781 => ?_)
 {
 replace hm := bif_t hc781 hm
 refine wp_ift (cvb hc781) ?_
 refine wp_seq (wrl (wv (p0) z z z ?_))
 obtain ⟨t782, ht783, hm⟩ := bind_some hm
 refine wc call30 [p0] z z z ?_
 refine (ref12_Tape_Hold_ref hst.to1 ht783).mono ?_
 rintro _ w784 ⟨v787, v789, v791, v793, rfl, hst⟩
 refine ⟨_, z, ?_⟩
 replace hst := hst.of5
 refine wv (Pt b506 14) z z (x_field z underlying50 z sizeOf36 z) ?_
 replace hst := hst.pull6
 obtain ⟨w795, hr796, hst⟩ := hst.by_ [U1 (u8.wrap (i64.wrap ((1:Int) + t469.1))), Zb, Zi, Zi, Zu, Zu, Zu, Zu, .bool false, Zs, Zu, Zu, Zu, Zs, U6 t782.1.ID.Session, U6 t782.1.ID.Seq, U6 t782.1.Epoch, v787, v789, v791, v793, Zu, Zu, Zi, Zu, Zu, Zs, Zs, Zb, Zu, Zu, Zu, Zu, Zi, Zu, Zu, Zu, Zs, Zs, Zs, Zs, Zs, Zi, Zu, Zu, Zs, Zs, Zu, Zs, Zu, Zi, Zi, Zf, Zf, Zu, Zi, .bool false] 14 (.agg #[U6 t782.1.ID.Session, U6 t782.1.ID.Seq, U6 t782.1.Epoch, v787, v789, v791, v793]) sizeOf36 z (oC z (oC z (oC z (oC (one_of_sliceV hst.sv1) (oC (one_of_sliceV hst.sv2) (oC (one_of_sliceV hst.sv3) (oC (one_of_sliceV hst.sv4) oN))))))) (by kernel_rfl)
 refine wl_unit z z (x_unit hr796) ?_
 refine wl_nil (tn (wrl (wv (p0) z z z ?_)))
 replace hst := hst.pull5
 obtain ⟨t797, ht798, hm⟩ := bind_some hm
 refine wc call31 [p0] z z z ?_
 refine (ref13_OfReply_ref hst.to1 ht798).mono ?_
 rintro _ w799 ⟨I800, v802, v804, rfl, hI801, hst⟩
 refine ⟨_, z, ?_⟩
 replace hst := hst.of3
 replace hI0 := hI0.trans hI801
 refine wv (Pt b506 23) z z (x_field z underlying50 z sizeOf41 z) ?_
 replace hst := hst.pull3
 obtain ⟨w806, hr807, hst⟩ := hst.by_ [U1 (u8.wrap (i64.wrap ((1:Int) + t469.1))), Zb, Zi, Zi, Zu, Zu, Zu, Zu, .bool false, Zs, Zu, Zu, Zu, Zs, U6 t782.1.ID.Session, U6 t782.1.ID.Seq, U6 t782.1.Epoch, v787, v789, v791, v793, Zu, Zu, I6 t797.1.E, U6 t797.1.Epoch, U6 t797.1.Index, v802, v804, Zb, Zu, Zu, Zu, Zu, Zi, Zu, Zu, Zu, Zs, Zs, Zs, Zs, Zs, Zi, Zu, Zu, Zs, Zs, Zu, Zs, Zu, Zi, Zi, Zf, Zf, Zu, Zi, .bool false] 23 (.agg #[I6 t797.1.E, U6 t797.1.Epoch, U6 t797.1.Index, v802, v804]) sizeOf41 z (oC z (oC z (oC z (oC (one_of_sliceV hst.sv1) (oC (one_of_sliceV hst.sv2) oN))))) (by kernel_rfl)
 refine wl_unit z z (x_unit hr807) ?_
 refine wl_nil (blk_n (tn (wp_seq (wrl (wv (.agg #[U1 (u8.wrap (i64.wrap ((1:Int) + t469.1))), Zb, Zi, Zi, Zu, Zu, Zu, Zu, .bool false, Zs, Zu, Zu, Zu, Zs, U6 t782.1.ID.Session, U6 t782.1.ID.Seq, U6 t782.1.Epoch, v787, v789, v791, v793, Zu, Zu, I6 t797.1.E, U6 t797.1.Epoch, U6 t797.1.Index, v802, v804, Zb, Zu, Zu, Zu, Zu, Zi, Zu, Zu, Zu, Zs, Zs, Zs, Zs, Zs, Zi, Zu, Zu, Zs, Zs, Zu, Zs, Zu, Zi, Zi, Zf, Zf, Zu, Zi, .bool false]) z z (x_loadN (cs := [U1 (u8.wrap (i64.wrap ((1:Int) + t469.1))), Zb, Zi, Zi, Zu, Zu, Zu, Zu, .bool false, Zs, Zu, Zu, Zu, Zs, U6 t782.1.ID.Session, U6 t782.1.ID.Seq, U6 t782.1.Epoch, v787, v789, v791, v793, Zu, Zu, I6 t797.1.E, U6 t797.1.Epoch, U6 t797.1.Index, v802, v804, Zb, Zu, Zu, Zu, Zu, Zi, Zu, Zu, Zu, Zs, Zs, Zs, Zs, Zs, Zi, Zu, Zu, Zs, Zs, Zu, Zs, Zu, Zi, Zi, Zf, Zf, Zu, Zi, .bool false]) z isAgg50 sizeOf50 (hst.bcs0 0 z)) ?_)))))
 replace hst := hst.pull8
 obtain ⟨w808, hr809, hst⟩ := hst.bx [U1 (u8.wrap (i64.wrap ((1:Int) + t469.1))), Zb, Zi, Zi, Zu, Zu, Zu, Zu, .bool false, Zs, Zu, Zu, Zu, Zs, U6 t782.1.ID.Session, U6 t782.1.ID.Seq, U6 t782.1.Epoch, v787, v789, v791, v793, Zu, Zu, I6 t797.1.E, U6 t797.1.Epoch, U6 t797.1.Index, v802, v804, Zb, Zu, Zu, Zu, Zu, Zi, Zu, Zu, Zu, Zs, Zs, Zs, Zs, Zs, Zi, Zu, Zu, Zs, Zs, Zu, Zs, Zu, Zi, Zi, Zf, Zf, Zu, Zi, .bool false] sizeOf50 z (oC z (oC z (oC z (oC z (oC z (oC z (oC z (oC z (oC z (oC z (oC z (oC z (oC z (oC z (oC z (oC z (oC z (oC (one_of_sliceV hst.sv5) (oC (one_of_sliceV hst.sv6) (oC (one_of_sliceV hst.sv7) (oC (one_of_sliceV hst.sv8) (oC z (oC z (oC z (oC z (oC z (oC (one_of_sliceV hst.sv2) (oC (one_of_sliceV hst.sv3) (oC z (oC z (oC z (oC z (oC z (oC z (oC z (oC z (oC z (oC z (oC z (oC z (oC z (oC z (oC z (oC z (oC z (oC z (oC z (oC z (oC z (oC z (oC z (oC z (oC z (oC z (oC z (oC z (oC z oN))))))))))))))))))))))))))))))))))))))))))))))))))))))))) (by kernel_rfl)
 refine wl_unit z z (x_unit hr809) ?_
 refine wl_nil (tn (wp_ret ?_))
 replace hst := hst.own_nil ty_api_Entry
 replace hst := hst.own_nil (tyInt .u8)
 replace hst := hst.own_nil tyF64
 replace hst := hst.own_nil tyF2
 replace hst := hst.own_nil tyF64
 replace hst := hst.own_nil (tyInt .u8)
 replace hst := hst.own_nil ty_api_Write
 replace hst := hst.own_nil ty_api_Got
 replace hst := hst.own_nil (tySl ty_api_Pair)
 replace hst := hst.own_nil ty_api_Part
 obtain rfl := some_inj hm
 refine post_ret (vs := [.agg #[U1 (u8.wrap (i64.wrap ((1:Int) + t469.1))), Zb, Zi, Zi, Zu, Zu, Zu, Zu, .bool false, Zs, Zu, Zu, Zu, Zs, U6 t782.1.ID.Session, U6 t782.1.ID.Seq, U6 t782.1.Epoch, v787, v789, v791, v793, Zu, Zu, I6 t797.1.E, U6 t797.1.Epoch, U6 t797.1.Index, v802, v804, Zb, Zu, Zu, Zu, Zu, Zi, Zu, Zu, Zu, Zs, Zs, Zs, Zs, Zs, Zi, Zu, Zu, Zs, Zs, Zu, Zs, Zu, Zi, Zi, Zf, Zf, Zu, Zi, .bool false]]) results9 (rvs_cons (rv_cell (cs := [U1 (u8.wrap (i64.wrap ((1:Int) + t469.1))), Zb, Zi, Zi, Zu, Zu, Zu, Zu, .bool false, Zs, Zu, Zu, Zu, Zs, U6 t782.1.ID.Session, U6 t782.1.ID.Seq, U6 t782.1.Epoch, v787, v789, v791, v793, Zu, Zu, I6 t797.1.E, U6 t797.1.Epoch, U6 t797.1.Index, v802, v804, Zb, Zu, Zu, Zu, Zu, Zi, Zu, Zu, Zu, Zs, Zs, Zs, Zs, Zs, Zi, Zu, Zu, Zs, Zs, Zu, Zs, Zu, Zi, Zi, Zf, Zf, Zu, Zi, .bool false]) z isAgg50 sizeOf50 (hst.bcs10 0 z)) rvs_nil) ?_
 replace hst := hst.pull14.pull1.pull2.pull3.pull4.pull5.pull6.pull7.pull8.pull14.pull14.pull18.pull18.pull18.pull18.pull15.pull16
 exact ⟨_, Zs, Zs, v787, v789, v791, v793, v802, v804, Zs, Zs, Zs, Zs, Zs, Zs, Zs, Zs, z, hI0, hst.keep17⟩
}
 {
 replace hm := bif_f hc781 hm
 refine wp_iff (cvb hc781) ?_
 refine wp_seq (wrl (wv (.bool ((u8.wrap (i64.wrap ((1:Int) + t469.1))) == (4:Int))) z z z (wv (.bool ((u8.wrap (i64.wrap ((1:Int) + t469.1))) == (4:Int))) z z z (wl_nil (tn ?_)))))
 refine bsplit ((u8.wrap (i64.wrap ((1:Int) + t469.1))) == (4:Int)) (fun hc810 => ?_) (fun hc810 => ?_)
 {
 replace hm := bif_t hc810 hm
 refine wp_ift (cvb hc810) ?_
 refine wrl (wv (p0) z z z ?_)
 obtain ⟨t811, ht812, hm⟩ := bind_some hm
 refine wc call32 [p0] z z z ?_
 refine (ref12_Tape_Of_ref hst.to1 ht812).mono ?_
 rintro _ w813 ⟨rfl, hst⟩
 refine ⟨_, z, ?_⟩
 replace hst := hst.of1
 refine wv (p0) z z z ?_
 obtain ⟨t816, ht817, hm⟩ := bind_some hm
 refine wc call28 [p0, I6 (9:Int)] z z z ?_
 refine (ref12_Tape_Next_ref hst.to1 ht817).mono ?_
 rintro _ w818 ⟨rfl, hst⟩
 refine ⟨_, z, ?_⟩
 replace hst := hst.of1
 refine wv (p0) z z z ?_
 obtain ⟨t821, ht822, hm⟩ := bind_some hm
 refine wc call28 [p0, I6 (9:Int)] z z z ?_
 refine (ref12_Tape_Next_ref hst.to1 ht822).mono ?_
 rintro _ w823 ⟨rfl, hst⟩
 refine ⟨_, z, ?_⟩
 replace hst := hst.of1
 refine wv (.int .u64 (u64.wrap t821.1)) z z (by kernel_rfl) (wv (p0) z z z ?_)
 obtain ⟨t826, ht827, hm⟩ := bind_some hm
 refine wc call28 [p0, I6 (9:Int)] z z z ?_
 refine (ref12_Tape_Next_ref hst.to1 ht827).mono ?_
 rintro _ w828 ⟨rfl, hst⟩
 refine ⟨_, z, ?_⟩
 replace hst := hst.of1
 refine wv (.int .u64 (u64.wrap t826.1)) z z (by kernel_rfl) (wv (p0) z z z ?_)
 obtain ⟨t831, ht832, hm⟩ := bind_some hm
 refine wc call33 [p0] z z z ?_
 refine (ref13_OfWrites_ref hst.to1 ht832).mono ?_
 rintro _ w833 ⟨I834, v836, rfl, hI835, hst⟩
 refine ⟨_, z, ?_⟩
 replace hst := hst.of2
 replace hI0 := hI0.trans hI835
 refine wv (.agg #[U1 (3:Int), U6 t811.1.Session, U6 t811.1.Seq, U6 (u64.wrap t821.1), U6 (u64.wrap t826.1), I6 t816.1, Zu, Zu, Zu, Zs, Zs, Zs, Zs, v836, Zi, Zu, Zu, Zs, Zs, Zu, Zs, Zu, Zi, Zi, Zf, Zf, Zu, Zi, .bool false]) z z (by obtain ⟨_, _, hv_, _⟩ := hst.sv0; rw [hv_]; kernel_rfl) (wv (Pt b506 28) z z (x_field z underlying50 z sizeOf48 z) ?_)
 replace hst := hst.pull3
 obtain ⟨w846, hr847, hst⟩ := hst.by_ [U1 (u8.wrap (i64.wrap ((1:Int) + t469.1))), Zb, Zi, Zi, Zu, Zu, Zu, Zu, .bool false, Zs, Zu, Zu, Zu, Zs, Zu, Zu, Zu, Zs, Zs, Zs, Zs, Zu, Zu, Zi, Zu, Zu, Zs, Zs, U1 (3:Int), U6 t811.1.Session, U6 t811.1.Seq, U6 (u64.wrap t821.1), U6 (u64.wrap t826.1), I6 t816.1, Zu, Zu, Zu, Zs, Zs, Zs, Zs, v836, Zi, Zu, Zu, Zs, Zs, Zu, Zs, Zu, Zi, Zi, Zf, Zf, Zu, Zi, .bool false] 28 (.agg #[U1 (3:Int), U6 t811.1.Session, U6 t811.1.Seq, U6 (u64.wrap t821.1), U6 (u64.wrap t826.1), I6 t816.1, Zu, Zu, Zu, Zs, Zs, Zs, Zs, v836, Zi, Zu, Zu, Zs, Zs, Zu, Zs, Zu, Zi, Zi, Zf, Zf, Zu, Zi, .bool false]) sizeOf48 z (oC z (oC z (oC z (oC z (oC z (oC z (oC z (oC z (oC z (oC z (oC z (oC z (oC z (oC (one_of_sliceV hst.sv1) (oC z (oC z (oC z (oC z (oC z (oC z (oC z (oC z (oC z (oC z (oC z (oC z (oC z (oC z (oC z oN))))))))))))))))))))))))))))) (by kernel_rfl)
 refine wl_unit z z (x_unit hr847) ?_
 refine wl_nil (blk_n (tn (wp_seq (wrl (wv (.agg #[U1 (u8.wrap (i64.wrap ((1:Int) + t469.1))), Zb, Zi, Zi, Zu, Zu, Zu, Zu, .bool false, Zs, Zu, Zu, Zu, Zs, Zu, Zu, Zu, Zs, Zs, Zs, Zs, Zu, Zu, Zi, Zu, Zu, Zs, Zs, U1 (3:Int), U6 t811.1.Session, U6 t811.1.Seq, U6 (u64.wrap t821.1), U6 (u64.wrap t826.1), I6 t816.1, Zu, Zu, Zu, Zs, Zs, Zs, Zs, v836, Zi, Zu, Zu, Zs, Zs, Zu, Zs, Zu, Zi, Zi, Zf, Zf, Zu, Zi, .bool false]) z z (x_loadN (cs := [U1 (u8.wrap (i64.wrap ((1:Int) + t469.1))), Zb, Zi, Zi, Zu, Zu, Zu, Zu, .bool false, Zs, Zu, Zu, Zu, Zs, Zu, Zu, Zu, Zs, Zs, Zs, Zs, Zu, Zu, Zi, Zu, Zu, Zs, Zs, U1 (3:Int), U6 t811.1.Session, U6 t811.1.Seq, U6 (u64.wrap t821.1), U6 (u64.wrap t826.1), I6 t816.1, Zu, Zu, Zu, Zs, Zs, Zs, Zs, v836, Zi, Zu, Zu, Zs, Zs, Zu, Zs, Zu, Zi, Zi, Zf, Zf, Zu, Zi, .bool false]) z isAgg50 sizeOf50 (hst.bcs0 0 z)) ?_)))))
 replace hst := hst.pull3
 obtain ⟨w848, hr849, hst⟩ := hst.bx [U1 (u8.wrap (i64.wrap ((1:Int) + t469.1))), Zb, Zi, Zi, Zu, Zu, Zu, Zu, .bool false, Zs, Zu, Zu, Zu, Zs, Zu, Zu, Zu, Zs, Zs, Zs, Zs, Zu, Zu, Zi, Zu, Zu, Zs, Zs, U1 (3:Int), U6 t811.1.Session, U6 t811.1.Seq, U6 (u64.wrap t821.1), U6 (u64.wrap t826.1), I6 t816.1, Zu, Zu, Zu, Zs, Zs, Zs, Zs, v836, Zi, Zu, Zu, Zs, Zs, Zu, Zs, Zu, Zi, Zi, Zf, Zf, Zu, Zi, .bool false] sizeOf50 z (oC z (oC z (oC z (oC z (oC z (oC z (oC z (oC z (oC z (oC z (oC z (oC z (oC z (oC z (oC z (oC z (oC z (oC z (oC z (oC z (oC z (oC z (oC z (oC z (oC z (oC z (oC z (oC z (oC z (oC z (oC z (oC z (oC z (oC z (oC z (oC z (oC z (oC z (oC z (oC z (oC z (oC (one_of_sliceV hst.sv2) (oC z (oC z (oC z (oC z (oC z (oC z (oC z (oC z (oC z (oC z (oC z (oC z (oC z (oC z (oC z oN))))))))))))))))))))))))))))))))))))))))))))))))))))))))) (by kernel_rfl)
 refine wl_unit z z (x_unit hr849) ?_
 refine wl_nil (tn (wp_ret ?_))
 replace hst := hst.own_nil ty_api_Entry
 replace hst := hst.own_nil (tyInt .u8)
 replace hst := hst.own_nil tyF64
 replace hst := hst.own_nil tyF2
 replace hst := hst.own_nil tyF64
 replace hst := hst.own_nil (tyInt .u8)
 replace hst := hst.own_nil ty_api_Got
 replace hst := hst.own_nil (tySl ty_api_Pair)
 replace hst := hst.own_nil tyF64
 replace hst := hst.own_nil tyF2
 replace hst := hst.own_nil tyF64
 replace hst := hst.own_nil (tyInt .u8)
 replace hst := hst.own_nil ty_api_Got
 replace hst := hst.own_nil (tySl ty_api_Pair)
 replace hst := hst.own_nil ty_api_Part
 obtain rfl := some_inj hm
 refine post_ret (vs := [.agg #[U1 (u8.wrap (i64.wrap ((1:Int) + t469.1))), Zb, Zi, Zi, Zu, Zu, Zu, Zu, .bool false, Zs, Zu, Zu, Zu, Zs, Zu, Zu, Zu, Zs, Zs, Zs, Zs, Zu, Zu, Zi, Zu, Zu, Zs, Zs, U1 (3:Int), U6 t811.1.Session, U6 t811.1.Seq, U6 (u64.wrap t821.1), U6 (u64.wrap t826.1), I6 t816.1, Zu, Zu, Zu, Zs, Zs, Zs, Zs, v836, Zi, Zu, Zu, Zs, Zs, Zu, Zs, Zu, Zi, Zi, Zf, Zf, Zu, Zi, .bool false]]) results9 (rvs_cons (rv_cell (cs := [U1 (u8.wrap (i64.wrap ((1:Int) + t469.1))), Zb, Zi, Zi, Zu, Zu, Zu, Zu, .bool false, Zs, Zu, Zu, Zu, Zs, Zu, Zu, Zu, Zs, Zs, Zs, Zs, Zu, Zu, Zi, Zu, Zu, Zs, Zs, U1 (3:Int), U6 t811.1.Session, U6 t811.1.Seq, U6 (u64.wrap t821.1), U6 (u64.wrap t826.1), I6 t816.1, Zu, Zu, Zu, Zs, Zs, Zs, Zs, v836, Zi, Zu, Zu, Zs, Zs, Zu, Zs, Zu, Zi, Zi, Zf, Zf, Zu, Zi, .bool false]) z isAgg50 sizeOf50 (hst.bcs15 0 z)) rvs_nil) ?_
 replace hst := hst.pull18.pull1.pull2.pull3.pull18.pull5.pull6.pull7.pull8.pull9.pull10.pull11.pull12.pull13.pull14.pull15.pull16
 exact ⟨_, Zs, Zs, Zs, Zs, Zs, Zs, Zs, Zs, Zs, Zs, Zs, Zs, v836, Zs, Zs, Zs, z, hI0, hst.keep17⟩
}
 {
 replace hm := bif_f hc810 hm
 refine wp_iff (cvb hc810) ?_
 refine wp_seq (wrl (wv (.bool ((u8.wrap (i64.wrap ((1:Int) + t469.1))) == (5:Int))) z z z (wv (.bool ((u8.wrap (i64.wrap ((1:Int) + t469.1))) == (5:Int))) z z z (wl_nil (tn ?_)))))
 refine bsplit ((u8.wrap (i64.wrap ((1:Int) + t469.1))) == (5:Int)) (fun hc850 => ?_) (fun hc850 => ?_)
 {
 replace hm := bif_t hc850 hm
 refine wp_ift (cvb hc850) ?_
 refine wrl (wv (p0) z z z ?_)
 obtain ⟨t851, ht852, hm⟩ := bind_some hm
 refine wc call32 [p0] z z z ?_
 refine (ref12_Tape_Of_ref hst.to1 ht852).mono ?_
 rintro _ w853 ⟨rfl, hst⟩
 refine ⟨_, z, ?_⟩
 replace hst := hst.of1
 refine wv (Pt b506 21) z z (x_field z underlying50 z sizeOf32 z) ?_
 replace hst := hst.pull2
 obtain ⟨w856, hr857, hst⟩ := hst.by_ [U1 (u8.wrap (i64.wrap ((1:Int) + t469.1))), Zb, Zi, Zi, Zu, Zu, Zu, Zu, .bool false, Zs, Zu, Zu, Zu, Zs, Zu, Zu, Zu, Zs, Zs, Zs, Zs, U6 t851.1.Session, U6 t851.1.Seq, Zi, Zu, Zu, Zs, Zs, Zb, Zu, Zu, Zu, Zu, Zi, Zu, Zu, Zu, Zs, Zs, Zs, Zs, Zs, Zi, Zu, Zu, Zs, Zs, Zu, Zs, Zu, Zi, Zi, Zf, Zf, Zu, Zi, .bool false] 21 (.agg #[U6 t851.1.Session, U6 t851.1.Seq]) sizeOf32 z (oC z (oC z oN)) (by kernel_rfl)
 refine wl_unit z z (x_unit hr857) ?_
 refine wl_nil (blk_n (tn (wp_seq (wrl (wv (.agg #[U1 (u8.wrap (i64.wrap ((1:Int) + t469.1))), Zb, Zi, Zi, Zu, Zu, Zu, Zu, .bool false, Zs, Zu, Zu, Zu, Zs, Zu, Zu, Zu, Zs, Zs, Zs, Zs, U6 t851.1.Session, U6 t851.1.Seq, Zi, Zu, Zu, Zs, Zs, Zb, Zu, Zu, Zu, Zu, Zi, Zu, Zu, Zu, Zs, Zs, Zs, Zs, Zs, Zi, Zu, Zu, Zs, Zs, Zu, Zs, Zu, Zi, Zi, Zf, Zf, Zu, Zi, .bool false]) z z (x_loadN (cs := [U1 (u8.wrap (i64.wrap ((1:Int) + t469.1))), Zb, Zi, Zi, Zu, Zu, Zu, Zu, .bool false, Zs, Zu, Zu, Zu, Zs, Zu, Zu, Zu, Zs, Zs, Zs, Zs, U6 t851.1.Session, U6 t851.1.Seq, Zi, Zu, Zu, Zs, Zs, Zb, Zu, Zu, Zu, Zu, Zi, Zu, Zu, Zu, Zs, Zs, Zs, Zs, Zs, Zi, Zu, Zu, Zs, Zs, Zu, Zs, Zu, Zi, Zi, Zf, Zf, Zu, Zi, .bool false]) z isAgg50 sizeOf50 (hst.bcs0 0 z)) ?_)))))
 replace hst := hst.pull2
 obtain ⟨w858, hr859, hst⟩ := hst.bx [U1 (u8.wrap (i64.wrap ((1:Int) + t469.1))), Zb, Zi, Zi, Zu, Zu, Zu, Zu, .bool false, Zs, Zu, Zu, Zu, Zs, Zu, Zu, Zu, Zs, Zs, Zs, Zs, U6 t851.1.Session, U6 t851.1.Seq, Zi, Zu, Zu, Zs, Zs, Zb, Zu, Zu, Zu, Zu, Zi, Zu, Zu, Zu, Zs, Zs, Zs, Zs, Zs, Zi, Zu, Zu, Zs, Zs, Zu, Zs, Zu, Zi, Zi, Zf, Zf, Zu, Zi, .bool false] sizeOf50 z (oC z (oC z (oC z (oC z (oC z (oC z (oC z (oC z (oC z (oC z (oC z (oC z (oC z (oC z (oC z (oC z (oC z (oC z (oC z (oC z (oC z (oC z (oC z (oC z (oC z (oC z (oC z (oC z (oC z (oC z (oC z (oC z (oC z (oC z (oC z (oC z (oC z (oC z (oC z (oC z (oC z (oC z (oC z (oC z (oC z (oC z (oC z (oC z (oC z (oC z (oC z (oC z (oC z (oC z (oC z (oC z (oC z oN))))))))))))))))))))))))))))))))))))))))))))))))))))))))) (by kernel_rfl)
 refine wl_unit z z (x_unit hr859) ?_
 refine wl_nil (tn (wp_ret ?_))
 replace hst := hst.own_nil ty_api_Entry
 replace hst := hst.own_nil (tyInt .u8)
 replace hst := hst.own_nil tyF64
 replace hst := hst.own_nil tyF2
 replace hst := hst.own_nil tyF64
 replace hst := hst.own_nil (tyInt .u8)
 replace hst := hst.own_nil ty_api_Got
 replace hst := hst.own_nil (tySl ty_api_Pair)
 replace hst := hst.own_nil tyF64
 replace hst := hst.own_nil tyF2
 replace hst := hst.own_nil tyF64
 replace hst := hst.own_nil (tyInt .u8)
 replace hst := hst.own_nil ty_api_Write
 replace hst := hst.own_nil ty_api_Got
 replace hst := hst.own_nil (tySl ty_api_Pair)
 replace hst := hst.own_nil ty_api_Part
 obtain rfl := some_inj hm
 refine post_ret (vs := [.agg #[U1 (u8.wrap (i64.wrap ((1:Int) + t469.1))), Zb, Zi, Zi, Zu, Zu, Zu, Zu, .bool false, Zs, Zu, Zu, Zu, Zs, Zu, Zu, Zu, Zs, Zs, Zs, Zs, U6 t851.1.Session, U6 t851.1.Seq, Zi, Zu, Zu, Zs, Zs, Zb, Zu, Zu, Zu, Zu, Zi, Zu, Zu, Zu, Zs, Zs, Zs, Zs, Zs, Zi, Zu, Zu, Zs, Zs, Zu, Zs, Zu, Zi, Zi, Zf, Zf, Zu, Zi, .bool false]]) results9 (rvs_cons (rv_cell (cs := [U1 (u8.wrap (i64.wrap ((1:Int) + t469.1))), Zb, Zi, Zi, Zu, Zu, Zu, Zu, .bool false, Zs, Zu, Zu, Zu, Zs, Zu, Zu, Zu, Zs, Zs, Zs, Zs, U6 t851.1.Session, U6 t851.1.Seq, Zi, Zu, Zu, Zs, Zs, Zb, Zu, Zu, Zu, Zu, Zi, Zu, Zu, Zu, Zs, Zs, Zs, Zs, Zs, Zi, Zu, Zu, Zs, Zs, Zu, Zs, Zu, Zi, Zi, Zf, Zf, Zu, Zi, .bool false]) z isAgg50 sizeOf50 (hst.bcs16 0 z)) rvs_nil) ?_
 replace hst := hst.pull18.pull1.pull2.pull3.pull4.pull5.pull6.pull7.pull8.pull9.pull10.pull11.pull12.pull13.pull14.pull15.pull16
 exact ⟨_, Zs, Zs, Zs, Zs, Zs, Zs, Zs, Zs, Zs, Zs, Zs, Zs, Zs, Zs, Zs, Zs, z, hI0, hst.keep17⟩
}
 {
 replace hm := bif_f hc850 hm
 refine wp_iff (cvb hc850) ?_
 refine wp_skip (blk_n (tn (wp_seq (wrl ?_))))
 refine wv (.agg #[U1 (u8.wrap (i64.wrap ((1:Int) + t469.1))), Zb, Zi, Zi, Zu, Zu, Zu, Zu, .bool false, Zs, Zu, Zu, Zu, Zs, Zu, Zu, Zu, Zs, Zs, Zs, Zs, Zu, Zu, Zi, Zu, Zu, Zs, Zs, Zb, Zu, Zu, Zu, Zu, Zi, Zu, Zu, Zu, Zs, Zs, Zs, Zs, Zs, Zi, Zu, Zu, Zs, Zs, Zu, Zs, Zu, Zi, Zi, Zf, Zf, Zu, Zi, .bool false]) z z (x_loadN (cs := [U1 (u8.wrap (i64.wrap ((1:Int) + t469.1))), Zb, Zi, Zi, Zu, Zu, Zu, Zu, .bool false, Zs, Zu, Zu, Zu, Zs, Zu, Zu, Zu, Zs, Zs, Zs, Zs, Zu, Zu, Zi, Zu, Zu, Zs, Zs, Zb, Zu, Zu, Zu, Zu, Zi, Zu, Zu, Zu, Zs, Zs, Zs, Zs, Zs, Zi, Zu, Zu, Zs, Zs, Zu, Zs, Zu, Zi, Zi, Zf, Zf, Zu, Zi, .bool false]) z isAgg50 sizeOf50 (hst.bcs2 0 z)) ?_
 replace hst := hst.pull1
 obtain ⟨w860, hr861, hst⟩ := hst.bx [U1 (u8.wrap (i64.wrap ((1:Int) + t469.1))), Zb, Zi, Zi, Zu, Zu, Zu, Zu, .bool false, Zs, Zu, Zu, Zu, Zs, Zu, Zu, Zu, Zs, Zs, Zs, Zs, Zu, Zu, Zi, Zu, Zu, Zs, Zs, Zb, Zu, Zu, Zu, Zu, Zi, Zu, Zu, Zu, Zs, Zs, Zs, Zs, Zs, Zi, Zu, Zu, Zs, Zs, Zu, Zs, Zu, Zi, Zi, Zf, Zf, Zu, Zi, .bool false] sizeOf50 z (oC z (oC z (oC z (oC z (oC z (oC z (oC z (oC z (oC z (oC z (oC z (oC z (oC z (oC z (oC z (oC z (oC z (oC z (oC z (oC z (oC z (oC z (oC z (oC z (oC z (oC z (oC z (oC z (oC z (oC z (oC z (oC z (oC z (oC z (oC z (oC z (oC z (oC z (oC z (oC z (oC z (oC z (oC z (oC z (oC z (oC z (oC z (oC z (oC z (oC z (oC z (oC z (oC z (oC z (oC z (oC z (oC z oN))))))))))))))))))))))))))))))))))))))))))))))))))))))))) (by kernel_rfl)
 refine wl_unit z z (x_unit hr861) ?_
 refine wl_nil (tn (wp_ret ?_))
 replace hst := hst.own_nil ty_api_Entry
 replace hst := hst.own_nil (tyInt .u8)
 replace hst := hst.own_nil tyF64
 replace hst := hst.own_nil tyF2
 replace hst := hst.own_nil tyF64
 replace hst := hst.own_nil (tyInt .u8)
 replace hst := hst.own_nil ty_api_Got
 replace hst := hst.own_nil (tySl ty_api_Pair)
 replace hst := hst.own_nil tyF64
 replace hst := hst.own_nil tyF2
 replace hst := hst.own_nil tyF64
 replace hst := hst.own_nil (tyInt .u8)
 replace hst := hst.own_nil ty_api_Write
 replace hst := hst.own_nil ty_api_Got
 replace hst := hst.own_nil (tySl ty_api_Pair)
 replace hst := hst.own_nil ty_api_Part
 obtain rfl := some_inj hm
 refine post_ret (vs := [.agg #[U1 (u8.wrap (i64.wrap ((1:Int) + t469.1))), Zb, Zi, Zi, Zu, Zu, Zu, Zu, .bool false, Zs, Zu, Zu, Zu, Zs, Zu, Zu, Zu, Zs, Zs, Zs, Zs, Zu, Zu, Zi, Zu, Zu, Zs, Zs, Zb, Zu, Zu, Zu, Zu, Zi, Zu, Zu, Zu, Zs, Zs, Zs, Zs, Zs, Zi, Zu, Zu, Zs, Zs, Zu, Zs, Zu, Zi, Zi, Zf, Zf, Zu, Zi, .bool false]]) results9 (rvs_cons (rv_cell (cs := [U1 (u8.wrap (i64.wrap ((1:Int) + t469.1))), Zb, Zi, Zi, Zu, Zu, Zu, Zu, .bool false, Zs, Zu, Zu, Zu, Zs, Zu, Zu, Zu, Zs, Zs, Zs, Zs, Zu, Zu, Zi, Zu, Zu, Zs, Zs, Zb, Zu, Zu, Zu, Zu, Zi, Zu, Zu, Zu, Zs, Zs, Zs, Zs, Zs, Zi, Zu, Zu, Zs, Zs, Zu, Zs, Zu, Zi, Zi, Zf, Zf, Zu, Zi, .bool false]) z isAgg50 sizeOf50 (hst.bcs16 0 z)) rvs_nil) ?_
 replace hst := hst.pull17.pull1.pull2.pull3.pull4.pull5.pull6.pull7.pull8.pull9.pull10.pull11.pull12.pull13.pull14.pull15.pull16
 exact ⟨_, Zs, Zs, Zs, Zs, Zs, Zs, Zs, Zs, Zs, Zs, Zs, Zs, Zs, Zs, Zs, Zs, z, hI0, hst.keep17⟩
}
}
}
}
}
}
}

theorem ref02_Num_ref {w0 w : World} {I : HL} {R : SP} {a0 : (List Int)} {r0_0 : Value} {a1 : Int} {a2 : Int} (f0_0 : Rd (tyInt .u8) R I r0_0 a0) (hst : St w0 w I [] R) {r : ((List Int))} (hm : ref02_Num a0 a1 a2 = some r) :
  Calls prog 34 #[r0_0, U6 a1, I6 a2] w fun e w' => ∃ (q0_0 : Value), e = .returned (q0_0) ∧ St w0 w' I [ownS (tyInt .u8) q0_0 r] R := by {
 unfold ref02_Num at hm
 refine calls_start (args := [r0_0, U6 a1, I6 a2]) func34 z ntmps34 (Nat.le_of_ble_eq_true z) ?_
 refine wp_seq (wrl (wv ((.slice none 0 0)) z z z (wl_nil (tn (wp_seq (wrl (wv ((.slice none 0 0)) z z z (wl_nil (tn (wp_seq (wrl (wv ((.slice none 0 0)) z z z (wv (r0_0) z z z ?_)))))))))))))
 replace hst := hst.own_nil (tyInt .u8)
 obtain ⟨hg277, hm⟩ := gd_some hm
 obtain ⟨v278, w279, hr280, hst⟩ := run_append elem_22 underlying22 hst (Src.of_rd hst f0_0 flat_int) (room_of hg277 z) 22
 replace hst := St.nil_app hst
 refine wl_run (v := v278) (w' := w279) z z (x_append z z hr280) ?_
 refine wv (v278) z z z (wl_nil (tn (wp_seq (wp_seq (wrl (wv (.int .i64 (0:Int)) z z z (wl_nil (tn (wp_block ?_)))))))))
 obtain ⟨n312, hm⟩ := loopO_some hm
 refine wp_loop_n (fun n a w => ∃ (z306 : Int) (z307 : (List Int)) (z310 : Int) (v308 : Value) (σ311 : Nat → Value), loopN (ref02_Num_l0 a2) n (z306, z307, z310) = some r ∧ a = Fr 26 (upd (upd (upd (upd σ311 1 (.int .u64 z306)) 2 (.int .i64 a2)) 7 (v308)) 8 (.int .i64 z310)) ∧ St w0 w I [ownS (tyInt .u8) v308 z307] R) n312 ⟨a1, a0, (0:Int), v278, _, hm, (fu 1 (.int .u64 a1) z (fu 2 (.int .i64 a2) z (fu 7 v278 z (fu 8 (.int .i64 (0:Int)) z z)))), hst⟩ ?_
 rintro n318 _ w313 ⟨z306, z307, z310, v308, σ311, hm, rfl, hst⟩
 obtain ⟨n315, y316, rfl, hm, hx317⟩ := loopN_some hm
 dsimp only [ref02_Num_l0] at hm
 refine wp_seq (wp_seq (wrl (wv (.int .i64 z310) z z z (wv (.int .i64 a2) z z z (wv (.bool (decide (z310 < a2))) z z z (wl_nil (tn ?_)))))))
 refine bsplit (decide (z310 < a2)) (fun hc319 => ?_) (fun hc319 => ?_)
 {
 replace hm := bif_t hc319 hm
 refine wp_ift (cvb hc319) ?_
 refine wp_skip (tn (wp_seq (wp_block (wp_seq (wrl ?_)))))
 refine wv (v308) z z z (wv (.int .u64 z306) z z z (wv (.int .u64 (bAnd .u64 z306 (255:Int))) z z z (wv (.int .u8 (u8.wrap (bAnd .u64 z306 (255:Int)))) z z (by kernel_rfl) ?_)))
 obtain ⟨b320, w321, ew322, eb323, hst⟩ := hst.lits (E := (tyInt .u8)) (xs := [(u8.wrap (bAnd .u64 z306 (255:Int)))]) [[U1 (u8.wrap (bAnd .u64 z306 (255:Int)))]] 5 1 z (Reps.cons z Reps.nil)
 refine wl_run (v := (.slice (some ⟨b320, 0, none⟩) 1 1)) (w' := w321) z z (x_als (by kernel_rfl) ew322 eb323) ?_
 obtain ⟨hg325, hm⟩ := gd_some hm
 replace hst := hst.pull1
 obtain ⟨v326, w327, hr328, hst⟩ := run_append elem_22 underlying22 hst hst.src1 (room_of hg325 z) 22
 refine wl_run (v := v326) (w' := w327) z z (x_append z z hr328) ?_
 refine wv (v326) z z z (wl_nil (tn (wrl (wv (.int .u64 z306) z z z (wv (.int .u64 (iShr .u64 z306 (8:Int))) z z (x_shr (by decide) z z) (wv (.int .u64 (iShr .u64 z306 (8:Int))) z z z (wl_nil (blk_n (tn (wrl (wv (.int .i64 z310) z z z (wv (.int .i64 (i64.wrap (z310 + (1:Int)))) z z z (wv (.int .i64 (i64.wrap (z310 + (1:Int)))) z z z (wl_nil (tn ?_)))))))))))))))
 replace hst := hst.keep1
 obtain rfl := some_inj hm
 exact ⟨_, Nat.lt_succ_self _, (iShr .u64 z306 (8:Int)), (z307 ++ ([(u8.wrap (bAnd .u64 z306 (255:Int)))])), (i64.wrap (z310 + (1:Int))), v326, _, hx317, (fu 1 (.int .u64 (iShr .u64 z306 (8:Int))) z (fu 2 (.int .i64 a2) z (fu 7 v326 z (fu 8 (.int .i64 (i64.wrap (z310 + (1:Int)))) z z)))), hst⟩
}
 {
 replace hm := bif_f hc319 hm
 refine wp_iff (cvb hc319) ?_
 refine wp_exit (then_x (then_x ?_))
 replace hm := inr_up hm hx317
 refine blk_x (tn (wp_seq (wrl ?_)))
 refine wv (v308) z z z (wv (v308) z z z (wl_nil (tn (wp_ret ?_))))
 obtain rfl := some_inj hm
 refine post_ret (vs := [v308]) results34 (rvs_cons (rv_tmp z) rvs_nil) ?_
 exact ⟨v308, z, hst.keep1⟩
}
}

theorem ref02_Flag_ref {w0 w : World} {I : HL} {R : SP} {a0 : (List Int)} {r0_0 : Value} {a1 : Bool} (f0_0 : Rd (tyInt .u8) R I r0_0 a0) (hst : St w0 w I [] R) {r : ((List Int))} (hm : ref02_Flag a0 a1 = some r) :
  Calls prog 60 #[r0_0, .bool a1] w fun e w' => ∃ (q0_0 : Value), e = .returned (q0_0) ∧ St w0 w' I [ownS (tyInt .u8) q0_0 r] R := by {
 unfold ref02_Flag at hm
 refine calls_start (args := [r0_0, .bool a1]) func60 z ntmps60 (Nat.le_of_ble_eq_true z) ?_
 refine wp_seq (wrl (wv ((.slice none 0 0)) z z z (wl_nil (tn (wp_seq (wp_seq (wrl (wv (.bool a1) z z z (wl_nil (tn ?_))))))))))
 refine bsplit a1 (fun hc318 => ?_) (fun hc318 => ?_)
 {
 replace hm := bif_t hc318 hm
 refine wp_ift (cvb hc318) ?_
 refine wp_seq (wrl (wv (r0_0) z z z ?_))
 obtain ⟨t319, ht320, hm⟩ := bind_some hm
 refine wc call34 [r0_0, U6 (1:Int), I6 (1:Int)] z z z ?_
 refine (ref02_Num_ref (f0_0.mono (rd_weak _)) hst.to0 ht320).mono ?_
 rintro _ w321 ⟨v324, rfl, hst⟩
 refine ⟨_, z, ?_⟩
 replace hst := hst.of1
 refine wv (v324) z z z (wl_nil (tn (wp_ret (then_r ?_))))
 obtain rfl := some_inj hm
 refine post_ret (vs := [v324]) results60 (rvs_cons (rv_tmp z) rvs_nil) ?_
 exact ⟨v324, z, hst.keep1⟩
}
 {
 replace hm := bif_f hc318 hm
 refine wp_iff (cvb hc318) ?_
 refine wp_skip (tn (wp_seq (wrl ?_)))
 refine wv (r0_0) z z z ?_
 obtain ⟨t326, ht327, hm⟩ := bind_some hm
 refine wc call34 [r0_0, Zu, I6 (1:Int)] z z z ?_
 refine (ref02_Num_ref (f0_0.mono (rd_weak _)) hst.to0 ht327).mono ?_
 rintro _ w328 ⟨v331, rfl, hst⟩
 refine ⟨_, z, ?_⟩
 replace hst := hst.of1
 refine wv (v331) z z z (wl_nil (tn (wp_ret ?_)))
 obtain rfl := some_inj hm
 refine post_ret (vs := [v331]) results60 (rvs_cons (rv_tmp z) rvs_nil) ?_
 exact ⟨v331, z, hst.keep1⟩
}
}

theorem ref02_Bytes_ref {w0 w : World} {I : HL} {R : SP} {a0 : (List Int)} {r0_0 : Value} {a1 : (List Int)} {r1_0 : Value} (f0_0 : Rd (tyInt .u8) R I r0_0 a0) (f1_0 : Rd (tyInt .u8) R I r1_0 a1) (hst : St w0 w I [] R) {r : ((List Int))} (hm : ref02_Bytes a0 a1 = some r) :
  Calls prog 38 #[r0_0, r1_0] w fun e w' => ∃ (q0_0 : Value), e = .returned (q0_0) ∧ St w0 w' I [ownS (tyInt .u8) q0_0 r] R := by {
 unfold ref02_Bytes at hm
 refine calls_start (args := [r0_0, r1_0]) func38 z ntmps38 (Nat.le_of_ble_eq_true z) ?_
 refine wp_seq (wrl (wv ((.slice none 0 0)) z z z (wl_nil (tn (wp_seq (wrl (wv (r0_0) z z z (wv (r1_0) z z z (wv (.int .i64 ((a1).length : Int)) z z (x_len z underlying22 (rd_sliceV f1_0)) (wv (.int .u64 (u64.wrap ((a1).length : Int))) z z (by kernel_rfl) ?_))))))))))
 obtain ⟨t372, ht373, hm⟩ := bind_some hm
 refine wc call34 [r0_0, U6 (u64.wrap ((a1).length : Int)), I6 (4:Int)] z z z ?_
 refine (ref02_Num_ref (f0_0.mono (rd_weak _)) hst.to0 ht373).mono ?_
 rintro _ w374 ⟨v377, rfl, hst⟩
 refine ⟨_, z, ?_⟩
 replace hst := hst.of1
 refine wv (r1_0) z z z ?_
 obtain ⟨hg379, hm⟩ := gd_some hm
 obtain ⟨v380, w381, hr382, hst⟩ := run_append elem_22 underlying22 hst (Src.of_rd hst f1_0 flat_int) (room_of hg379 z) 22
 refine wl_run (v := v380) (w' := w381) z z (x_append z z hr382) ?_
 refine wv (v380) z z z (wl_nil (tn (wp_ret ?_)))
 obtain rfl := some_inj hm
 refine post_ret (vs := [v380]) results38 (rvs_cons (rv_tmp z) rvs_nil) ?_
 exact ⟨v380, z, hst.keep1⟩
}

end Go.Proofs.Ytldfdainhdiffaa
