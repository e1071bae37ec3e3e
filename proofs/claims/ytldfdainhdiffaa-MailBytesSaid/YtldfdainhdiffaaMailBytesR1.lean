/- The Go functions refine their models, part 1. -/
import Derived.Test.YtldfdainhdiffaaMailBytesR0
set_option linter.unusedVariables false
set_option linter.unusedSimpArgs false
set_option maxRecDepth 100000
set_option maxHeartbeats 4000000
namespace Go.Proofs.Ytldfdainhdiffaa
open Go Go.V
open _root_.Go.Proofs.Try IntKind
attribute [local irreducible] wpList Code.wp wpQuiet Calls bodyPost Oper.wp wpS Nx PendOK YieldsIn
theorem ref12_Tape_Val_ref {w0 w : World} {I : HL} {R : SP} {a0 : ref12_Tape} {p0 : Value}  (hst : St w0 w I [at_ref12_Tape p0 a0] R) {r : ((List Int) × ref12_Tape)} (hm : ref12_Tape_Val a0 = some r) :
  Calls prog 29 #[p0] w fun e w' => ∃ (q0_0 : Value), e = .returned (q0_0) ∧ St w0 w' I [ownS (tyInt .u8) q0_0 r.1, at_ref12_Tape p0 r.2] R := by {
 unfold ref12_Tape_Val at hm
 refine calls_start (args := [p0]) func29 z ntmps29 (Nat.le_of_ble_eq_true z) ?_
 refine wp_seq (wrl (wv ((.slice none 0 0)) z z z (wl_nil (tn (wp_seq (wrl (wv ((.slice none 0 0)) z z z (wl_nil (tn (wp_seq (wrl (wv (p0) z z z ?_))))))))))))
 obtain ⟨t232, ht233, hm⟩ := bind_some hm
 refine wc call28 [p0, I6 (4:Int)] z z z ?_
 refine (ref12_Tape_Next_ref hst.to1 ht233).mono ?_
 rintro _ w234 ⟨rfl, hst⟩
 refine ⟨_, z, ?_⟩
 replace hst := hst.of1
 refine wv (.int .i64 t232.1) z z z (wl_nil (tn (wp_seq (wp_seq (wrl (wv (.int .i64 (0:Int)) z z z (wl_nil (tn (wp_block ?_)))))))))
 replace hst := hst.own_nil (tyInt .u8)
 obtain ⟨n293, hm⟩ := loopO_some hm
 refine wp_loop_n (fun n a w => ∃ (z287 : ref12_Tape) (z288 : (List Int)) (z291 : Int) (v289 : Value) (σ292 : Nat → Value), loopN (ref12_Tape_Val_l0 t232) n (z287, z288, z291) = some r ∧ a = Fr 21 (upd (upd (upd (upd σ292 0 (p0)) 3 (v289)) 4 (.int .i64 t232.1)) 5 (.int .i64 z291)) ∧ St w0 w I [ownS (tyInt .u8) v289 z288, at_ref12_Tape p0 z287] R) n293 ⟨t232.2, [], (0:Int), Zs, _, hm, (fu 0 p0 z (fu 3 (.slice none 0 0) z (fu 4 (.int .i64 t232.1) z (fu 5 (.int .i64 (0:Int)) z z)))), hst⟩ ?_
 rintro n299 _ w294 ⟨z287, z288, z291, v289, σ292, hm, rfl, hst⟩
 obtain ⟨n296, y297, rfl, hm, hx298⟩ := loopN_some hm
 dsimp only [ref12_Tape_Val_l0] at hm
 refine wp_seq (wp_seq (wrl (wv (.int .i64 z291) z z z (wv (.int .i64 t232.1) z z z (wv (.bool (decide (z291 < t232.1))) z z z (wl_nil (tn ?_)))))))
 refine bsplit (decide (z291 < t232.1)) (fun hc300 => ?_) (fun hc300 => ?_)
 {
 replace hm := bif_t hc300 hm
 refine wp_ift (cvb hc300) ?_
 refine wp_skip (tn (wp_seq (wp_block (wrl ?_))))
 refine wv (v289) z z z (wv (p0) z z z ?_)
 replace hst := hst.pull1
 obtain ⟨t301, ht302, hm⟩ := bind_some hm
 refine wc call28 [p0, I6 (26:Int)] z z z ?_
 refine (ref12_Tape_Next_ref hst.to1 ht302).mono ?_
 rintro _ w303 ⟨rfl, hst⟩
 refine ⟨_, z, ?_⟩
 replace hst := hst.of1
 refine wv (.int .i64 (i64.wrap ((97:Int) + t301.1))) z z z (wv (.int .u8 (u8.wrap (i64.wrap ((97:Int) + t301.1)))) z z (by kernel_rfl) ?_)
 obtain ⟨b306, w307, ew308, eb309, hst⟩ := hst.lits (E := (tyInt .u8)) (xs := [(u8.wrap (i64.wrap ((97:Int) + t301.1)))]) [[U1 (u8.wrap (i64.wrap ((97:Int) + t301.1)))]] 5 1 z (Reps.cons z Reps.nil)
 refine wl_run (v := (.slice (some ⟨b306, 0, none⟩) 1 1)) (w' := w307) z z (x_als (by kernel_rfl) ew308 eb309) ?_
 obtain ⟨hg311, hm⟩ := gd_some hm
 replace hst := hst.pull2
 obtain ⟨v312, w313, hr314, hst⟩ := run_append elem_22 underlying22 hst hst.src1 (room_of hg311 z) 22
 refine wl_run (v := v312) (w' := w313) z z (x_append z z hr314) ?_
 refine wv (v312) z z z (wl_nil (blk_n (tn (wrl (wv (.int .i64 z291) z z z (wv (.int .i64 (i64.wrap (z291 + (1:Int)))) z z z (wv (.int .i64 (i64.wrap (z291 + (1:Int)))) z z z (wl_nil (tn ?_)))))))))
 replace hst := hst.pull2.pull1.keep2
 obtain rfl := some_inj hm
 exact ⟨_, Nat.lt_succ_self _, t301.2, (z288 ++ ([(u8.wrap (i64.wrap ((97:Int) + t301.1)))])), (i64.wrap (z291 + (1:Int))), v312, _, hx298, (fu 0 p0 z (fu 3 v312 z (fu 4 (.int .i64 t232.1) z (fu 5 (.int .i64 (i64.wrap (z291 + (1:Int)))) z z)))), hst⟩
}
 {
 replace hm := bif_f hc300 hm
 refine wp_iff (cvb hc300) ?_
 refine wp_exit (then_x (then_x ?_))
 replace hm := inr_up hm hx298
 refine blk_x (tn (wp_seq (wrl ?_)))
 refine wv (v289) z z z (wv (v289) z z z (wl_nil (tn (wp_ret ?_))))
 obtain rfl := some_inj hm
 refine post_ret (vs := [v289]) results29 (rvs_cons (rv_tmp z) rvs_nil) ?_
 replace hst := hst.pull1.pull1
 exact ⟨v289, z, hst.keep2⟩
}
}

theorem ref12_Tape_Of_ref {w0 w : World} {I : HL} {R : SP} {a0 : ref12_Tape} {p0 : Value}  (hst : St w0 w I [at_ref12_Tape p0 a0] R) {r : (api_ID × ref12_Tape)} (hm : ref12_Tape_Of a0 = some r) :
  Calls prog 32 #[p0] w fun e w' => e = .returned (.agg #[U6 r.1.Session, U6 r.1.Seq]) ∧ St w0 w' I [at_ref12_Tape p0 r.2] R := by {
 unfold ref12_Tape_Of at hm
 refine calls_start (args := [p0]) func32 z ntmps32 (Nat.le_of_ble_eq_true z) ?_
 refine wp_seq (wrl ?_)
 obtain ⟨b372, w373, ew374, eb375, hst⟩ := hst.box [Zu, Zu] 32
 refine wl_run (v := Pt b372 0) (w' := w373) z z (x_al (by kernel_rfl) ew374 eb375) ?_
 refine wl_nil (tn (wp_seq (wrl (wv (p0) z z z ?_))))
 replace hst := hst.pull1
 obtain ⟨t377, ht378, hm⟩ := bind_some hm
 refine wc call28 [p0, I6 (4:Int)] z z z ?_
 refine (ref12_Tape_Next_ref hst.to1 ht378).mono ?_
 rintro _ w379 ⟨rfl, hst⟩
 refine ⟨_, z, ?_⟩
 replace hst := hst.of1
 refine wv (.int .u64 (u64.wrap t377.1)) z z (by kernel_rfl) (wv (p0) z z z ?_)
 obtain ⟨t382, ht383, hm⟩ := bind_some hm
 refine wc call28 [p0, I6 (4:Int)] z z z ?_
 refine (ref12_Tape_Next_ref hst.to1 ht383).mono ?_
 rintro _ w384 ⟨rfl, hst⟩
 refine ⟨_, z, ?_⟩
 replace hst := hst.of1
 refine wv (.int .i64 (i64.wrap ((1:Int) + t382.1))) z z z (wv (.int .u64 (u64.wrap (i64.wrap ((1:Int) + t382.1)))) z z (by kernel_rfl) (wv (.agg #[U6 (u64.wrap t377.1), U6 (u64.wrap (i64.wrap ((1:Int) + t382.1)))]) z z (by kernel_rfl) ?_))
 replace hst := hst.pull1
 obtain ⟨w387, hr388, hst⟩ := hst.bx [U6 (u64.wrap t377.1), U6 (u64.wrap (i64.wrap ((1:Int) + t382.1)))] sizeOf32 z (oC z (oC z oN)) (by kernel_rfl)
 refine wl_unit z z (x_unit hr388) ?_
 refine wl_nil (tn (wp_ret ?_))
 obtain rfl := some_inj hm
 refine post_ret (vs := [.agg #[U6 (u64.wrap t377.1), U6 (u64.wrap (i64.wrap ((1:Int) + t382.1)))]]) results32 (rvs_cons (rv_cell (cs := [U6 (u64.wrap t377.1), U6 (u64.wrap (i64.wrap ((1:Int) + t382.1)))]) z isAgg32 sizeOf32 (hst.bcs0 0 z)) rvs_nil) ?_
 replace hst := hst.pull1
 exact ⟨z, hst.keep1⟩
}

theorem ref12_small_ref {w0 w : World} {I : HL} {R : SP} {a0 : Int}  (hst : St w0 w I [] R) {r : (Nat)} (hm : ref12_small a0 = some r) :
  Calls prog 70 #[U1 a0] w fun e w' => e = .returned (.float .f64 r) ∧ St w0 w' I [] R := by {
 unfold ref12_small at hm
 refine calls_start (args := [U1 a0]) func70 z ntmps70 (Nat.le_of_ble_eq_true z) ?_
 refine wp_seq (wrl (wv (.float .f64 (0:Nat)) z z z (wl_nil (tn (wp_seq (wrl ?_))))))
 obtain ⟨b400, w401, ew402, eb403, hst⟩ := hst.lits (E := tyF64) (xs := [(0:Nat), (4607182418800017408:Nat), (13830554455654793216:Nat), (4612811918334230528:Nat), (9094988921128908188:Nat), (18318360957983683996:Nat), (4602678819172646912:Nat), (4613937818241073152:Nat)]) [[Zf], [F6 (4607182418800017408:Nat)], [F6 (13830554455654793216:Nat)], [F6 (4612811918334230528:Nat)], [F6 (9094988921128908188:Nat)], [F6 (18318360957983683996:Nat)], [F6 (4602678819172646912:Nat)], [F6 (4613937818241073152:Nat)]] 44 8 z (Reps.cons z (Reps.cons z (Reps.cons z (Reps.cons z (Reps.cons z (Reps.cons z (Reps.cons z (Reps.cons z Reps.nil))))))))
 refine wl_run (v := (.slice (some ⟨b400, 0, none⟩) 8 8)) (w' := w401) z z (x_als (by kernel_rfl) ew402 eb403) ?_
 refine wv ((.slice (some ⟨b400, 0, none⟩) 8 8)) z z z (wl_nil (tn (wp_seq (wrl (wv ((.slice (some ⟨b400, 0, none⟩) 8 8)) z z z (wv (.int .u8 a0) z z z (wv (.int .u8 (Int.tmod a0 (8:Int))) z z (x_rem (by decide) z z) ?_)))))))
 obtain ⟨x405, hx406, hm⟩ := bind_some hm
 obtain ⟨h407, h408, hi409⟩ := geto_some hx406
 refine wv (.pointer (some (eAddr (.slice (some ⟨b400, 0, none⟩) 8 8) ((Int.tmod a0 (8:Int)).toNat * 1 + 0)))) z z (x_index z z underlying33 sizeOf44 hst.sv0 h407 h408) (wv (.float .f64 x405) z z (x_load z isAgg44 (hst.ol0 hi409 (by rintro _ rfl; rfl))) (wv (.float .f64 x405) z z z (wl_nil (tn (wp_ret ?_)))))
 obtain rfl := some_inj hm
 refine post_ret (vs := [F6 x405]) results70 (rvs_cons (rv_tmp z) rvs_nil) ?_
 exact ⟨z, hst.keep0⟩
}

theorem ref12_Tape_Float_ref {w0 w : World} {I : HL} {R : SP} {a0 : ref12_Tape} {p0 : Value}  (hst : St w0 w I [at_ref12_Tape p0 a0] R) {r : (Nat × ref12_Tape)} (hm : ref12_Tape_Float a0 = some r) :
  Calls prog 59 #[p0] w fun e w' => e = .returned (.float .f64 r.1) ∧ St w0 w' I [at_ref12_Tape p0 r.2] R := by {
 unfold ref12_Tape_Float at hm
 refine calls_start (args := [p0]) func59 z ntmps59 (Nat.le_of_ble_eq_true z) ?_
 refine wp_seq (wrl (wv (.float .f64 (0:Nat)) z z z (wl_nil (tn (wp_seq (wrl (wv (p0) z z z ?_)))))))
 obtain ⟨t396, ht397, hm⟩ := bind_some hm
 refine wc call28 [p0, I6 (8:Int)] z z z ?_
 refine (ref12_Tape_Next_ref hst.to1 ht397).mono ?_
 rintro _ w398 ⟨rfl, hst⟩
 refine ⟨_, z, ?_⟩
 replace hst := hst.of1
 refine wv (.int .u8 (u8.wrap t396.1)) z z (by kernel_rfl) ?_
 obtain ⟨t401, ht402, hm⟩ := bind_some hm
 refine wc call70 [U1 (u8.wrap t396.1)] z z z ?_
 refine (ref12_small_ref hst.to0 ht402).mono ?_
 rintro _ w403 ⟨rfl, hst⟩
 refine ⟨_, z, ?_⟩
 replace hst := hst.of0
 refine wv (.float .f64 t401) z z z (wl_nil (tn (wp_ret ?_)))
 obtain rfl := some_inj hm
 refine post_ret (vs := [F6 t401]) results59 (rvs_cons (rv_tmp z) rvs_nil) ?_
 exact ⟨z, hst.keep1⟩
}

theorem ref12_Tape_Hold_ref {w0 w : World} {I : HL} {R : SP} {a0 : ref12_Tape} {p0 : Value}  (hst : St w0 w I [at_ref12_Tape p0 a0] R) {r : (api_Hold × ref12_Tape)} (hm : ref12_Tape_Hold a0 = some r) :
  Calls prog 30 #[p0] w fun e w' => ∃ (q0_0 : Value) (q0_1 : Value) (q0_2 : Value) (q0_3 : Value), e = .returned (.agg #[U6 r.1.ID.Session, U6 r.1.ID.Seq, U6 r.1.Epoch, q0_0, q0_1, q0_2, q0_3]) ∧ St w0 w' I [ownS tyF64 q0_0 r.1.Gets, ownS tyF2 q0_1 r.1.Scans, ownS tyF64 q0_2 r.1.Puts, ownS (tyInt .u8) q0_3 r.1.Data, at_ref12_Tape p0 r.2] R := by {
 unfold ref12_Tape_Hold at hm
 refine calls_start (args := [p0]) func30 z ntmps30 (Nat.le_of_ble_eq_true z) ?_
 refine wp_seq (wrl ?_)
 obtain ⟨b722, w723, ew724, eb725, hst⟩ := hst.box [Zu, Zu, Zu, Zs, Zs, Zs, Zs] 36
 refine wl_run (v := Pt b722 0) (w' := w723) z z (x_al (by kernel_rfl) ew724 eb725) ?_
 refine wl_nil (tn (wp_seq (wrl (wv (p0) z z z ?_))))
 replace hst := hst.pull1
 obtain ⟨t727, ht728, hm⟩ := bind_some hm
 refine wc call32 [p0] z z z ?_
 refine (ref12_Tape_Of_ref hst.to1 ht728).mono ?_
 rintro _ w729 ⟨rfl, hst⟩
 refine ⟨_, z, ?_⟩
 replace hst := hst.of1
 refine wv (p0) z z z ?_
 obtain ⟨t732, ht733, hm⟩ := bind_some hm
 refine wc call28 [p0, I6 (4:Int)] z z z ?_
 refine (ref12_Tape_Next_ref hst.to1 ht733).mono ?_
 rintro _ w734 ⟨rfl, hst⟩
 refine ⟨_, z, ?_⟩
 replace hst := hst.of1
 refine wv (.int .i64 (i64.wrap ((1:Int) + t732.1))) z z z (wv (.int .u64 (u64.wrap (i64.wrap ((1:Int) + t732.1)))) z z (by kernel_rfl) (wv (.agg #[U6 t727.1.Session, U6 t727.1.Seq, U6 (u64.wrap (i64.wrap ((1:Int) + t732.1))), Zs, Zs, Zs, Zs]) z z (by kernel_rfl) ?_))
 obtain ⟨b745, w746, ew747, eb748, hst⟩ := hst.box [Zu, Zu, Zu, Zs, Zs, Zs, Zs] 36
 refine wl_run (v := Pt b745 0) (w' := w746) z z (x_al (by kernel_rfl) ew747 eb748) ?_
 obtain ⟨w750, hr751, hst⟩ := hst.bx [U6 t727.1.Session, U6 t727.1.Seq, U6 (u64.wrap (i64.wrap ((1:Int) + t732.1))), Zs, Zs, Zs, Zs] sizeOf36 z (oC z (oC z (oC z (oC z (oC z (oC z (oC z oN))))))) (by kernel_rfl)
 refine wl_unit z z (x_unit hr751) ?_
 refine wl_nil (tn (wp_seq (wrl (wv (p0) z z z ?_))))
 replace hst := hst.pull1
 obtain ⟨t752, ht753, hm⟩ := bind_some hm
 refine wc call28 [p0, I6 (3:Int)] z z z ?_
 refine (ref12_Tape_Next_ref hst.to1 ht753).mono ?_
 rintro _ w754 ⟨rfl, hst⟩
 refine ⟨_, z, ?_⟩
 replace hst := hst.of1
 refine wv (.int .i64 t752.1) z z z (wl_nil (tn ?_))
 obtain ⟨y849, hm, hx850⟩ := bind_some hm
 refine wp_cut (fun a w => ∃ (z843 : ref12_Tape) (z846 : (List Nat)) (v845 : Value) (σ847 : Nat → Value), (ref12_Tape_Hold_j0 t727 t732) (z843, z846) = some r ∧ a = Fr 68 (upd (upd (upd σ847 0 (p0)) 2 (Pt b722 0)) 3 (Pt b745 0)) ∧ St w0 w I [at_ref12_Tape p0 z843, cells b722 [Zu, Zu, Zu, Zs, Zs, Zs, Zs], cells b745 [U6 t727.1.Session, U6 t727.1.Seq, U6 (u64.wrap (i64.wrap ((1:Int) + t732.1))), v845, Zs, Zs, Zs], ownS tyF64 v845 z846] R) ?_ ?_
 {
 refine wp_seq (wrl (wv (.int .i64 (0:Int)) z z z (wl_nil (tn (wp_block ?_)))))
 replace hst := hst.own_nil tyF64
 obtain ⟨n819, hm⟩ := loopO_some hm
 refine wp_loop_n (fun n a w => ∃ (z813 : (List Nat)) (z816 : ref12_Tape) (z817 : Int) (v814 : Value) (σ818 : Nat → Value), loopN (ref12_Tape_Hold_l1 t752) n (z813, z816, z817) = some y849 ∧ a = Fr 68 (upd (upd (upd (upd (upd σ818 0 (p0)) 2 (Pt b722 0)) 3 (Pt b745 0)) 4 (.int .i64 t752.1)) 5 (.int .i64 z817)) ∧ St w0 w I [ownS tyF64 v814 z813, at_ref12_Tape p0 z816, cells b745 [U6 t727.1.Session, U6 t727.1.Seq, U6 (u64.wrap (i64.wrap ((1:Int) + t732.1))), v814, Zs, Zs, Zs], cells b722 [Zu, Zu, Zu, Zs, Zs, Zs, Zs]] R) n819 ⟨[], t752.2, (0:Int), Zs, _, hm, (fu 0 p0 z (fu 2 (Pt b722 0) z (fu 3 (Pt b745 0) z (fu 4 (.int .i64 t752.1) z (fu 5 (.int .i64 (0:Int)) z z))))), hst⟩ ?_
 rintro n825 _ w820 ⟨z813, z816, z817, v814, σ818, hm, rfl, hst⟩
 obtain ⟨n822, y823, rfl, hm, hx824⟩ := loopN_some hm
 dsimp only [ref12_Tape_Hold_l1] at hm
 refine wp_seq (wp_seq (wrl (wv (.int .i64 z817) z z z (wv (.int .i64 t752.1) z z z (wv (.bool (decide (z817 < t752.1))) z z z (wl_nil (tn ?_)))))))
 refine bsplit (decide (z817 < t752.1)) (fun hc826 => ?_) (fun hc826 => ?_)
 {
 replace hm := bif_t hc826 hm
 refine wp_ift (cvb hc826) ?_
 refine wp_skip (tn (wp_seq (wp_block ?_)))
 refine wp_region_St hst 8 [0, 1, 2, 3, 4, 5, 6, 7] [0, 1, 0, 4, 12, 31, 63, 127] [] z (by kernel_rfl) (by kernel_rfl) Try.mixed (by kernel_rfl) ?_
 refine wsr (Pt b745 3) 0 z z z (by kernel_rfl) (fun w hst => x_field z underlying36 z sizeOf33 z) (wsr (v814) 1 z z z (by kernel_rfl) (fun w hst => x_load z isAgg33 (hst.bc2 z)) (wsr (p0) 2 z z z (by kernel_rfl) (fun w hst => z) ?_))
 refine ws_e1 3 (by kernel_rfl) ?_
 refine nxe [4, 5, 6, 7] (by kernel_rfl) z z ?_
 clear hst
 intro w hst
 replace hst := hst.pull1
 obtain ⟨t827, ht828, hm⟩ := bind_some hm
 refine wec call59 [p0] z z ?_
 refine (ref12_Tape_Float_ref hst.to1 ht828).mono ?_
 rintro _ w829 ⟨rfl, hst⟩
 refine ⟨_, z, ?_⟩
 replace hst := hst.of1
 refine ws_next (pend' := [(1, v814), (0, Pt b745 3)]) hst (by kernel_rfl) (pkr z z (fun w hst => x_load z isAgg33 (hst.bc2 z)) (pkr z z (fun w hst => x_field z underlying36 z sizeOf33 z) pk_nil)) ?_
 refine ws_e1 4 (by kernel_rfl) ?_
 refine nxe [5, 6, 7] (by kernel_rfl) z z ?_
 clear hst
 intro w hst
 obtain ⟨b832, w833, ew834, eb835, hst⟩ := hst.lits (E := tyF64) (xs := [t827.1]) [[F6 t827.1]] 44 1 z (Reps.cons z Reps.nil)
 refine we_run (v := (.slice (some ⟨b832, 0, none⟩) 1 1)) (w' := w833) z (x_als (by kernel_rfl) ew834 eb835) ?_
 refine ws_next (pend' := [(1, v814), (0, Pt b745 3)]) hst (by kernel_rfl) (pkr z z (fun w hst => x_load z isAgg33 (hst.bc3 z)) (pkr z z (fun w hst => x_field z underlying36 z sizeOf33 z) pk_nil)) ?_
 refine ws_e1 5 (by kernel_rfl) ?_
 refine nxe [6, 7] (by kernel_rfl) z z ?_
 clear hst
 intro w hst
 obtain ⟨hg837, hm⟩ := gd_some hm
 replace hst := hst.pull2
 obtain ⟨v838, w839, hr840, hst⟩ := run_append elem_33 underlying33 hst hst.src1 (room_of hg837 z) 33
 refine we_run (v := v838) (w' := w839) z (x_append z z hr840) ?_
 refine ws_next (pend' := []) hst (by kernel_rfl) pk_nil ?_
 refine wsr (Pt b745 3) 6 z z z (by kernel_rfl) (fun w hst => x_field z underlying36 z sizeOf33 z) ?_
 refine ws_e1 7 (by kernel_rfl) ?_
 refine nxe [] (by kernel_rfl) z z ?_
 clear hst
 intro w hst
 replace hst := hst.pull3
 obtain ⟨w841, hr842, hst⟩ := hst.boxStore1 (P := prog) (t := 33) (cs' := [U6 t727.1.Session, U6 t727.1.Seq, U6 (u64.wrap (i64.wrap ((1:Int) + t732.1))), v838, Zs, Zs, Zs]) 3 v838 (one_of_sliceV hst.sv1) sizeOf33 z z
 refine we_unit z (x_unit hr842) ?_
 refine ws_next (pend' := []) hst (by kernel_rfl) pk_nil ?_
 refine ws_nil ?_
 intro w hst
 refine blk_n (tn (wrl ?_))
 refine wv (.int .i64 z817) z z z (wv (.int .i64 (i64.wrap (z817 + (1:Int)))) z z z (wv (.int .i64 (i64.wrap (z817 + (1:Int)))) z z z (wl_nil (tn ?_))))
 replace hst := hst.pull4.pull1.pull4.pull3.keep4
 obtain rfl := some_inj hm
 exact ⟨_, Nat.lt_succ_self _, (z813 ++ ([t827.1])), t827.2, (i64.wrap (z817 + (1:Int))), v838, _, hx824, (fu 0 p0 z (fu 2 (Pt b722 0) z (fu 3 (Pt b745 0) z (fu 4 (.int .i64 t752.1) z (fu 5 (.int .i64 (i64.wrap (z817 + (1:Int)))) z z))))), hst⟩
}
 {
 replace hm := bif_f hc826 hm
 refine wp_iff (cvb hc826) ?_
 refine wp_exit (then_x (then_x ?_))
 replace hm := inr_up hm hx824
 refine blk_x (tn ?_)
 replace hst := hst.pull2.pull3.pull3.keep4
 obtain rfl := some_inj hm
 exact ⟨z816, z813, v814, _, hx850, (fu 0 p0 z (fu 2 (Pt b722 0) z (fu 3 (Pt b745 0) z z))), hst⟩
}
}
 {
 clear hst
 rintro _ w851 ⟨z843, z846, v845, σ847, hm, rfl, hst⟩
 dsimp only [ref12_Tape_Hold_j0] at hm
 refine wp_seq (wrl (wv (p0) z z z ?_))
 obtain ⟨t852, ht853, hm⟩ := bind_some hm
 refine wc call28 [p0, I6 (3:Int)] z z z ?_
 refine (ref12_Tape_Next_ref hst.to1 ht853).mono ?_
 rintro _ w854 ⟨rfl, hst⟩
 refine ⟨_, z, ?_⟩
 replace hst := hst.of1
 refine wv (.int .i64 (i64.wrap (Int.tdiv t852.1 (2:Int)))) z z (x_quo (by decide) z z) (wv (.int .i64 (i64.wrap (Int.tdiv t852.1 (2:Int)))) z z z (wl_nil (tn ?_)))
 obtain ⟨y969, hm, hx970⟩ := bind_some hm
 refine wp_cut (fun a w => ∃ (z963 : ref12_Tape) (z966 : (List (Nat × Nat))) (v965 : Value) (σ967 : Nat → Value), (ref12_Tape_Hold_j2 t727 t732 z846) (z963, z966) = some r ∧ a = Fr 68 (upd (upd (upd σ967 0 (p0)) 2 (Pt b722 0)) 3 (Pt b745 0)) ∧ St w0 w I [at_ref12_Tape p0 z963, cells b722 [Zu, Zu, Zu, Zs, Zs, Zs, Zs], cells b745 [U6 t727.1.Session, U6 t727.1.Seq, U6 (u64.wrap (i64.wrap ((1:Int) + t732.1))), v845, v965, Zs, Zs], ownS tyF64 v845 z846, ownS tyF2 v965 z966] R) ?_ ?_
 {
 refine wp_seq (wrl (wv (.int .i64 (0:Int)) z z z (wl_nil (tn (wp_block ?_)))))
 replace hst := hst.own_nil tyF2
 obtain ⟨n934, hm⟩ := loopO_some hm
 refine wp_loop_n (fun n a w => ∃ (z928 : (List (Nat × Nat))) (z931 : ref12_Tape) (z932 : Int) (v929 : Value) (σ933 : Nat → Value), loopN (ref12_Tape_Hold_l3 t852) n (z928, z931, z932) = some y969 ∧ a = Fr 68 (upd (upd (upd (upd (upd σ933 0 (p0)) 2 (Pt b722 0)) 3 (Pt b745 0)) 4 (.int .i64 (i64.wrap (Int.tdiv t852.1 (2:Int))))) 6 (.int .i64 z932)) ∧ St w0 w I [ownS tyF2 v929 z928, at_ref12_Tape p0 z931, cells b722 [Zu, Zu, Zu, Zs, Zs, Zs, Zs], cells b745 [U6 t727.1.Session, U6 t727.1.Seq, U6 (u64.wrap (i64.wrap ((1:Int) + t732.1))), v845, v929, Zs, Zs], ownS tyF64 v845 z846] R) n934 ⟨[], t852.2, (0:Int), Zs, _, hm, (fu 0 p0 z (fu 2 (Pt b722 0) z (fu 3 (Pt b745 0) z (fu 4 (.int .i64 (i64.wrap (Int.tdiv t852.1 (2:Int)))) z (fu 6 (.int .i64 (0:Int)) z z))))), hst⟩ ?_
 rintro n940 _ w935 ⟨z928, z931, z932, v929, σ933, hm, rfl, hst⟩
 obtain ⟨n937, y938, rfl, hm, hx939⟩ := loopN_some hm
 dsimp only [ref12_Tape_Hold_l3] at hm
 refine wp_seq (wp_seq (wrl (wv (.int .i64 z932) z z z (wv (.int .i64 (i64.wrap (Int.tdiv t852.1 (2:Int)))) z z z (wv (.bool (decide (z932 < (i64.wrap (Int.tdiv t852.1 (2:Int)))))) z z z (wl_nil (tn ?_)))))))
 refine bsplit (decide (z932 < (i64.wrap (Int.tdiv t852.1 (2:Int))))) (fun hc941 => ?_) (fun hc941 => ?_)
 {
 replace hm := bif_t hc941 hm
 refine wp_ift (cvb hc941) ?_
 refine wp_skip (tn (wp_seq (wp_block ?_)))
 refine wp_region_St hst 11 [0, 1, 2, 3, 4, 5, 6, 7, 8, 9, 10] [0, 1, 0, 4, 0, 28, 60, 124, 255, 511, 1023] [] z (by kernel_rfl) (by kernel_rfl) Try.mixed (by kernel_rfl) ?_
 refine wsr (Pt b745 4) 0 z z z (by kernel_rfl) (fun w hst => x_field z underlying36 z sizeOf34 z) (wsr (v929) 1 z z z (by kernel_rfl) (fun w hst => x_load z isAgg34 (hst.bc3 z)) (wsr (p0) 2 z z z (by kernel_rfl) (fun w hst => z) (wsr (p0) 4 z z z (by kernel_rfl) (fun w hst => z) ?_)))
 refine ws_e1 3 (by kernel_rfl) ?_
 refine nxe [5, 6, 7, 8, 9, 10] (by kernel_rfl) z z ?_
 clear hst
 intro w hst
 replace hst := hst.pull1
 obtain ⟨t942, ht943, hm⟩ := bind_some hm
 refine wec call59 [p0] z z ?_
 refine (ref12_Tape_Float_ref hst.to1 ht943).mono ?_
 rintro _ w944 ⟨rfl, hst⟩
 refine ⟨_, z, ?_⟩
 replace hst := hst.of1
 refine ws_next (pend' := [(4, p0), (1, v929), (0, Pt b745 4)]) hst (by kernel_rfl) (pkr z z (fun w hst => z) (pkr z z (fun w hst => x_load z isAgg34 (hst.bc3 z)) (pkr z z (fun w hst => x_field z underlying36 z sizeOf34 z) pk_nil))) ?_
 refine ws_e1 5 (by kernel_rfl) ?_
 refine nxe [6, 7, 8, 9, 10] (by kernel_rfl) z z ?_
 clear hst
 intro w hst
 obtain ⟨t947, ht948, hm⟩ := bind_some hm
 refine wec call59 [p0] z z ?_
 refine (ref12_Tape_Float_ref hst.to1 ht948).mono ?_
 rintro _ w949 ⟨rfl, hst⟩
 refine ⟨_, z, ?_⟩
 replace hst := hst.of1
 refine ws_next (pend' := [(1, v929), (0, Pt b745 4)]) hst (by kernel_rfl) (pkr z z (fun w hst => x_load z isAgg34 (hst.bc3 z)) (pkr z z (fun w hst => x_field z underlying36 z sizeOf34 z) pk_nil)) ?_
 refine wsr (.agg #[F6 t942.1, F6 t947.1]) 6 z z z (by kernel_rfl) (fun w hst => by kernel_rfl) ?_
 refine ws_e1 7 (by kernel_rfl) ?_
 refine nxe [8, 9, 10] (by kernel_rfl) z z ?_
 clear hst
 intro w hst
 obtain ⟨b952, w953, ew954, eb955, hst⟩ := hst.lits (E := tyF2) (xs := [(t942.1, t947.1)]) [[F6 t942.1, F6 t947.1]] 102 1 z (Reps.cons z Reps.nil)
 refine we_run (v := (.slice (some ⟨b952, 0, none⟩) 1 1)) (w' := w953) z (x_als (by kernel_rfl) ew954 eb955) ?_
 refine ws_next (pend' := [(1, v929), (0, Pt b745 4)]) hst (by kernel_rfl) (pkr z z (fun w hst => x_load z isAgg34 (hst.bc4 z)) (pkr z z (fun w hst => x_field z underlying36 z sizeOf34 z) pk_nil)) ?_
 refine ws_e1 8 (by kernel_rfl) ?_
 refine nxe [9, 10] (by kernel_rfl) z z ?_
 clear hst
 intro w hst
 obtain ⟨hg957, hm⟩ := gd_some hm
 replace hst := hst.pull2
 obtain ⟨v958, w959, hr960, hst⟩ := run_append elem_34 underlying34 hst hst.src1 (room_of hg957 z) 34
 refine we_run (v := v958) (w' := w959) z (x_append z z hr960) ?_
 refine ws_next (pend' := []) hst (by kernel_rfl) pk_nil ?_
 refine wsr (Pt b745 4) 9 z z z (by kernel_rfl) (fun w hst => x_field z underlying36 z sizeOf34 z) ?_
 refine ws_e1 10 (by kernel_rfl) ?_
 refine nxe [] (by kernel_rfl) z z ?_
 clear hst
 intro w hst
 replace hst := hst.pull4
 obtain ⟨w961, hr962, hst⟩ := hst.boxStore1 (P := prog) (t := 34) (cs' := [U6 t727.1.Session, U6 t727.1.Seq, U6 (u64.wrap (i64.wrap ((1:Int) + t732.1))), v845, v958, Zs, Zs]) 4 v958 (one_of_sliceV hst.sv1) sizeOf34 z z
 refine we_unit z (x_unit hr962) ?_
 refine ws_next (pend' := []) hst (by kernel_rfl) pk_nil ?_
 refine ws_nil ?_
 intro w hst
 refine blk_n (tn (wrl ?_))
 refine wv (.int .i64 z932) z z z (wv (.int .i64 (i64.wrap (z932 + (1:Int)))) z z z (wv (.int .i64 (i64.wrap (z932 + (1:Int)))) z z z (wl_nil (tn ?_))))
 replace hst := hst.pull5.pull1.pull5.pull5.pull4.keep5
 obtain rfl := some_inj hm
 exact ⟨_, Nat.lt_succ_self _, (z928 ++ ([(t942.1, t947.1)])), t947.2, (i64.wrap (z932 + (1:Int))), v958, _, hx939, (fu 0 p0 z (fu 2 (Pt b722 0) z (fu 3 (Pt b745 0) z (fu 4 (.int .i64 (i64.wrap (Int.tdiv t852.1 (2:Int)))) z (fu 6 (.int .i64 (i64.wrap (z932 + (1:Int)))) z z))))), hst⟩
}
 {
 replace hm := bif_f hc941 hm
 refine wp_iff (cvb hc941) ?_
 refine wp_exit (then_x (then_x ?_))
 replace hm := inr_up hm hx939
 refine blk_x (tn ?_)
 replace hst := hst.pull4.pull4.pull4.pull4.keep5
 obtain rfl := some_inj hm
 exact ⟨z931, z928, v929, _, hx970, (fu 0 p0 z (fu 2 (Pt b722 0) z (fu 3 (Pt b745 0) z z))), hst⟩
}
}
 {
 clear hst
 rintro _ w971 ⟨z963, z966, v965, σ967, hm, rfl, hst⟩
 dsimp only [ref12_Tape_Hold_j2] at hm
 refine wp_seq (wrl (wv (p0) z z z ?_))
 obtain ⟨t972, ht973, hm⟩ := bind_some hm
 refine wc call28 [p0, I6 (3:Int)] z z z ?_
 refine (ref12_Tape_Next_ref hst.to1 ht973).mono ?_
 rintro _ w974 ⟨rfl, hst⟩
 refine ⟨_, z, ?_⟩
 replace hst := hst.of1
 refine wv (.int .i64 t972.1) z z z (wl_nil (tn ?_))
 obtain ⟨y1069, hm, hx1070⟩ := bind_some hm
 refine wp_cut (fun a w => ∃ (z1063 : ref12_Tape) (z1066 : (List Nat)) (v1065 : Value) (σ1067 : Nat → Value), (ref12_Tape_Hold_j4 t727 t732 z846 z966) (z1063, z1066) = some r ∧ a = Fr 68 (upd (upd (upd σ1067 0 (p0)) 2 (Pt b722 0)) 3 (Pt b745 0)) ∧ St w0 w I [at_ref12_Tape p0 z1063, cells b722 [Zu, Zu, Zu, Zs, Zs, Zs, Zs], cells b745 [U6 t727.1.Session, U6 t727.1.Seq, U6 (u64.wrap (i64.wrap ((1:Int) + t732.1))), v845, v965, v1065, Zs], ownS tyF64 v845 z846, ownS tyF2 v965 z966, ownS tyF64 v1065 z1066] R) ?_ ?_
 {
 refine wp_seq (wrl (wv (.int .i64 (0:Int)) z z z (wl_nil (tn (wp_block ?_)))))
 replace hst := hst.own_nil tyF64
 obtain ⟨n1039, hm⟩ := loopO_some hm
 refine wp_loop_n (fun n a w => ∃ (z1033 : (List Nat)) (z1036 : ref12_Tape) (z1037 : Int) (v1034 : Value) (σ1038 : Nat → Value), loopN (ref12_Tape_Hold_l5 t972) n (z1033, z1036, z1037) = some y1069 ∧ a = Fr 68 (upd (upd (upd (upd (upd σ1038 0 (p0)) 2 (Pt b722 0)) 3 (Pt b745 0)) 4 (.int .i64 t972.1)) 7 (.int .i64 z1037)) ∧ St w0 w I [ownS tyF64 v1034 z1033, at_ref12_Tape p0 z1036, cells b722 [Zu, Zu, Zu, Zs, Zs, Zs, Zs], cells b745 [U6 t727.1.Session, U6 t727.1.Seq, U6 (u64.wrap (i64.wrap ((1:Int) + t732.1))), v845, v965, v1034, Zs], ownS tyF64 v845 z846, ownS tyF2 v965 z966] R) n1039 ⟨[], t972.2, (0:Int), Zs, _, hm, (fu 0 p0 z (fu 2 (Pt b722 0) z (fu 3 (Pt b745 0) z (fu 4 (.int .i64 t972.1) z (fu 7 (.int .i64 (0:Int)) z z))))), hst⟩ ?_
 rintro n1045 _ w1040 ⟨z1033, z1036, z1037, v1034, σ1038, hm, rfl, hst⟩
 obtain ⟨n1042, y1043, rfl, hm, hx1044⟩ := loopN_some hm
 dsimp only [ref12_Tape_Hold_l5] at hm
 refine wp_seq (wp_seq (wrl (wv (.int .i64 z1037) z z z (wv (.int .i64 t972.1) z z z (wv (.bool (decide (z1037 < t972.1))) z z z (wl_nil (tn ?_)))))))
 refine bsplit (decide (z1037 < t972.1)) (fun hc1046 => ?_) (fun hc1046 => ?_)
 {
 replace hm := bif_t hc1046 hm
 refine wp_ift (cvb hc1046) ?_
 refine wp_skip (tn (wp_seq (wp_block ?_)))
 refine wp_region_St hst 8 [0, 1, 2, 3, 4, 5, 6, 7] [0, 1, 0, 4, 12, 31, 63, 127] [] z (by kernel_rfl) (by kernel_rfl) Try.mixed (by kernel_rfl) ?_
 refine wsr (Pt b745 5) 0 z z z (by kernel_rfl) (fun w hst => x_field z underlying36 z sizeOf33 z) (wsr (v1034) 1 z z z (by kernel_rfl) (fun w hst => x_load z isAgg33 (hst.bc3 z)) (wsr (p0) 2 z z z (by kernel_rfl) (fun w hst => z) ?_))
 refine ws_e1 3 (by kernel_rfl) ?_
 refine nxe [4, 5, 6, 7] (by kernel_rfl) z z ?_
 clear hst
 intro w hst
 replace hst := hst.pull1
 obtain ⟨t1047, ht1048, hm⟩ := bind_some hm
 refine wec call59 [p0] z z ?_
 refine (ref12_Tape_Float_ref hst.to1 ht1048).mono ?_
 rintro _ w1049 ⟨rfl, hst⟩
 refine ⟨_, z, ?_⟩
 replace hst := hst.of1
 refine ws_next (pend' := [(1, v1034), (0, Pt b745 5)]) hst (by kernel_rfl) (pkr z z (fun w hst => x_load z isAgg33 (hst.bc3 z)) (pkr z z (fun w hst => x_field z underlying36 z sizeOf33 z) pk_nil)) ?_
 refine ws_e1 4 (by kernel_rfl) ?_
 refine nxe [5, 6, 7] (by kernel_rfl) z z ?_
 clear hst
 intro w hst
 obtain ⟨b1052, w1053, ew1054, eb1055, hst⟩ := hst.lits (E := tyF64) (xs := [t1047.1]) [[F6 t1047.1]] 44 1 z (Reps.cons z Reps.nil)
 refine we_run (v := (.slice (some ⟨b1052, 0, none⟩) 1 1)) (w' := w1053) z (x_als (by kernel_rfl) ew1054 eb1055) ?_
 refine ws_next (pend' := [(1, v1034), (0, Pt b745 5)]) hst (by kernel_rfl) (pkr z z (fun w hst => x_load z isAgg33 (hst.bc4 z)) (pkr z z (fun w hst => x_field z underlying36 z sizeOf33 z) pk_nil)) ?_
 refine ws_e1 5 (by kernel_rfl) ?_
 refine nxe [6, 7] (by kernel_rfl) z z ?_
 clear hst
 intro w hst
 obtain ⟨hg1057, hm⟩ := gd_some hm
 replace hst := hst.pull2
 obtain ⟨v1058, w1059, hr1060, hst⟩ := run_append elem_33 underlying33 hst hst.src1 (room_of hg1057 z) 33
 refine we_run (v := v1058) (w' := w1059) z (x_append z z hr1060) ?_
 refine ws_next (pend' := []) hst (by kernel_rfl) pk_nil ?_
 refine wsr (Pt b745 5) 6 z z z (by kernel_rfl) (fun w hst => x_field z underlying36 z sizeOf33 z) ?_
 refine ws_e1 7 (by kernel_rfl) ?_
 refine nxe [] (by kernel_rfl) z z ?_
 clear hst
 intro w hst
 replace hst := hst.pull4
 obtain ⟨w1061, hr1062, hst⟩ := hst.boxStore1 (P := prog) (t := 33) (cs' := [U6 t727.1.Session, U6 t727.1.Seq, U6 (u64.wrap (i64.wrap ((1:Int) + t732.1))), v845, v965, v1058, Zs]) 5 v1058 (one_of_sliceV hst.sv1) sizeOf33 z z
 refine we_unit z (x_unit hr1062) ?_
 refine ws_next (pend' := []) hst (by kernel_rfl) pk_nil ?_
 refine ws_nil ?_
 intro w hst
 refine blk_n (tn (wrl ?_))
 refine wv (.int .i64 z1037) z z z (wv (.int .i64 (i64.wrap (z1037 + (1:Int)))) z z z (wv (.int .i64 (i64.wrap (z1037 + (1:Int)))) z z z (wl_nil (tn ?_))))
 replace hst := hst.pull6.pull6.pull2.pull6.pull6.pull5.keep6
 obtain rfl := some_inj hm
 exact ⟨_, Nat.lt_succ_self _, (z1033 ++ ([t1047.1])), t1047.2, (i64.wrap (z1037 + (1:Int))), v1058, _, hx1044, (fu 0 p0 z (fu 2 (Pt b722 0) z (fu 3 (Pt b745 0) z (fu 4 (.int .i64 t972.1) z (fu 7 (.int .i64 (i64.wrap (z1037 + (1:Int)))) z z))))), hst⟩
}
 {
 replace hm := bif_f hc1046 hm
 refine wp_iff (cvb hc1046) ?_
 refine wp_exit (then_x (then_x ?_))
 replace hm := inr_up hm hx1044
 refine blk_x (tn ?_)
 replace hst := hst.pull5.pull5.pull5.pull5.pull5.keep6
 obtain rfl := some_inj hm
 exact ⟨z1036, z1033, v1034, _, hx1070, (fu 0 p0 z (fu 2 (Pt b722 0) z (fu 3 (Pt b745 0) z z))), hst⟩
}
}
 {
 clear hst
 rintro _ w1071 ⟨z1063, z1066, v1065, σ1067, hm, rfl, hst⟩
 dsimp only [ref12_Tape_Hold_j4] at hm
 refine wp_seq (wp_seq (wrl (wv (p0) z z z ?_)))
 obtain ⟨t1072, ht1073, hm⟩ := bind_some hm
 refine wc call28 [p0, I6 (4:Int)] z z z ?_
 refine (ref12_Tape_Next_ref hst.to1 ht1073).mono ?_
 rintro _ w1074 ⟨rfl, hst⟩
 refine ⟨_, z, ?_⟩
 replace hst := hst.of1
 refine wv (.bool (t1072.1 == (0:Int))) z z z (wl_nil (tn ?_))
 refine bsplit (t1072.1 == (0:Int)) (fun hc1077 => ?_) (fun hc1077 => ?_)
 {
 replace hm := bif_t hc1077 hm
 refine wp_ift (cvb hc1077) ?_
 refine wrl (wv (p0) z z z ?_)
 obtain ⟨t1078, ht1079, hm⟩ := bind_some hm
 refine wc call29 [p0] z z z ?_
 refine (ref12_Tape_Val_ref hst.to1 ht1079).mono ?_
 rintro _ w1080 ⟨v1083, rfl, hst⟩
 refine ⟨_, z, ?_⟩
 replace hst := hst.of2
 refine wv (Pt b745 6) z z (x_field z underlying36 z sizeOf22 z) ?_
 replace hst := hst.pull3
 obtain ⟨w1085, hr1086, hst⟩ := hst.boxStore1 (P := prog) (t := 22) (cs' := [U6 t727.1.Session, U6 t727.1.Seq, U6 (u64.wrap (i64.wrap ((1:Int) + t732.1))), v845, v965, v1065, v1083]) 6 v1083 (one_of_sliceV hst.sv1) sizeOf22 z z
 refine wl_unit z z (x_unit hr1086) ?_
 refine wl_nil (tn (wp_seq (wrl (wv (.agg #[U6 t727.1.Session, U6 t727.1.Seq, U6 (u64.wrap (i64.wrap ((1:Int) + t732.1))), v845, v965, v1065, v1083]) z z (x_loadN (cs := [U6 t727.1.Session, U6 t727.1.Seq, U6 (u64.wrap (i64.wrap ((1:Int) + t732.1))), v845, v965, v1065, v1083]) z isAgg36 sizeOf36 (hst.bcs0 0 z)) ?_))))
 replace hst := hst.pull3
 obtain ⟨w1087, hr1088, hst⟩ := hst.bx [U6 t727.1.Session, U6 t727.1.Seq, U6 (u64.wrap (i64.wrap ((1:Int) + t732.1))), v845, v965, v1065, v1083] sizeOf36 z (oC z (oC z (oC z (oC (one_of_sliceV hst.sv4) (oC (one_of_sliceV hst.sv5) (oC (one_of_sliceV hst.sv6) (oC (one_of_sliceV hst.sv2) oN))))))) (by kernel_rfl)
 refine wl_unit z z (x_unit hr1088) ?_
 refine wl_nil (tn (wp_ret ?_))
 obtain rfl := some_inj hm
 refine post_ret (vs := [.agg #[U6 t727.1.Session, U6 t727.1.Seq, U6 (u64.wrap (i64.wrap ((1:Int) + t732.1))), v845, v965, v1065, v1083]]) results30 (rvs_cons (rv_cell (cs := [U6 t727.1.Session, U6 t727.1.Seq, U6 (u64.wrap (i64.wrap ((1:Int) + t732.1))), v845, v965, v1065, v1083]) z isAgg36 sizeOf36 (hst.bcs0 0 z)) rvs_nil) ?_
 replace hst := hst.pull3.pull3.pull6.pull6.pull6
 exact ⟨v845, v965, v1065, v1083, z, hst.keep5⟩
}
 {
 replace hm := bif_f hc1077 hm
 refine wp_iff (cvb hc1077) ?_
 refine wp_skip (tn (wp_seq (wrl ?_)))
 refine wv (.agg #[U6 t727.1.Session, U6 t727.1.Seq, U6 (u64.wrap (i64.wrap ((1:Int) + t732.1))), v845, v965, v1065, Zs]) z z (x_loadN (cs := [U6 t727.1.Session, U6 t727.1.Seq, U6 (u64.wrap (i64.wrap ((1:Int) + t732.1))), v845, v965, v1065, Zs]) z isAgg36 sizeOf36 (hst.bcs2 0 z)) ?_
 replace hst := hst.pull1
 obtain ⟨w1089, hr1090, hst⟩ := hst.bx [U6 t727.1.Session, U6 t727.1.Seq, U6 (u64.wrap (i64.wrap ((1:Int) + t732.1))), v845, v965, v1065, Zs] sizeOf36 z (oC z (oC z (oC z (oC (one_of_sliceV hst.sv3) (oC (one_of_sliceV hst.sv4) (oC (one_of_sliceV hst.sv5) (oC z oN))))))) (by kernel_rfl)
 refine wl_unit z z (x_unit hr1090) ?_
 refine wl_nil (tn (wp_ret ?_))
 replace hst := hst.own_nil (tyInt .u8)
 obtain rfl := some_inj hm
 refine post_ret (vs := [.agg #[U6 t727.1.Session, U6 t727.1.Seq, U6 (u64.wrap (i64.wrap ((1:Int) + t732.1))), v845, v965, v1065, Zs]]) results30 (rvs_cons (rv_cell (cs := [U6 t727.1.Session, U6 t727.1.Seq, U6 (u64.wrap (i64.wrap ((1:Int) + t732.1))), v845, v965, v1065, Zs]) z isAgg36 sizeOf36 (hst.bcs1 0 z)) rvs_nil) ?_
 replace hst := hst.pull2.pull1.pull6.pull6.pull6
 exact ⟨v845, v965, v1065, Zs, z, hst.keep5⟩
}
}
}
}
}

theorem ref13_OfReply_ref {w0 w : World} {I : HL} {R : SP} {a0 : ref12_Tape} {p0 : Value}  (hst : St w0 w I [at_ref12_Tape p0 a0] R) {r : (api_Reply × ref12_Tape)} (hm : ref13_OfReply a0 = some r) :
  Calls prog 31 #[p0] w fun e w' => ∃ (I' : HL) (q0_0 : Value) (q0_1 : Value), e = .returned (.agg #[I6 r.1.E, U6 r.1.Epoch, U6 r.1.Index, q0_0, q0_1]) ∧ I.le I' ∧ St w0 w' I' [ownS ty_api_Got q0_0 r.1.Gots, ownS (tySl ty_api_Pair) q0_1 r.1.Scans, at_ref12_Tape p0 r.2] R := by {
 unfold ref13_OfReply at hm
 refine calls_start (args := [p0]) func31 z ntmps31 (Nat.le_of_ble_eq_true z) ?_
 have hI0 := HL.le.refl I
 refine wp_seq (wrl ?_)
 obtain ⟨b1319, w1320, ew1321, eb1322, hst⟩ := hst.box [Zi, Zu, Zu, Zs, Zs] 41
 refine wl_run (v := Pt b1319 0) (w' := w1320) z z (x_al (by kernel_rfl) ew1321 eb1322) ?_
 refine wl_nil (tn (wp_seq (wrl ?_)))
 obtain ⟨b1324, w1325, ew1326, eb1327, hst⟩ := hst.lits (E := (tyInt .i64)) (xs := [(0:Int), (0:Int), (0:Int), (8:Int), (9:Int), (3:Int)]) [[Zi], [Zi], [Zi], [I6 (8:Int)], [I6 (9:Int)], [I6 (3:Int)]] 37 6 z (Reps.cons z (Reps.cons z (Reps.cons z (Reps.cons z (Reps.cons z (Reps.cons z Reps.nil))))))
 refine wl_run (v := (.slice (some ⟨b1324, 0, none⟩) 6 6)) (w' := w1325) z z (x_als (by kernel_rfl) ew1326 eb1327) ?_
 refine wv ((.slice (some ⟨b1324, 0, none⟩) 6 6)) z z z (wl_nil (tn (wp_seq ?_)))
 obtain ⟨y1436, hm, hx1437⟩ := bind_some hm
 refine wp_mid (fun a w => ∃ (z1428 : ref12_Tape) (z1431 : Int) (z1432 : Int) (z1433 : Int) (b1430 : Nat) (σ1434 : Nat → Value), (ref13_OfReply_j0) (z1428, z1431, z1432, z1433) = some r ∧ a = Fr 72 (upd (upd (upd σ1434 0 (p0)) 2 (Pt b1319 0)) 4 (Pt b1430 0)) ∧ St w0 w I [at_ref12_Tape p0 z1428, cells b1319 [Zi, Zu, Zu, Zs, Zs], cells b1430 [I6 z1431, U6 z1432, U6 z1433, Zs, Zs]] R) ?_ ?_
 {
 refine wp_region_St hst 14 [0, 1, 2, 3, 4, 5, 6, 7, 8, 9, 10, 11, 12, 13] [0, 0, 2, 7, 15, 0, 38, 102, 0, 358, 870, 2047, 0, 8191] [] z (by kernel_rfl) (by kernel_rfl) Try.mixed (by kernel_rfl) ?_
 refine wsr ((.slice (some ⟨b1324, 0, none⟩) 6 6)) 0 z z z (by kernel_rfl) (fun w hst => z) (wsr (p0) 1 z z z (by kernel_rfl) (fun w hst => z) (wsr (p0) 5 z z z (by kernel_rfl) (fun w hst => z) (wsr (p0) 8 z z z (by kernel_rfl) (fun w hst => z) ?_)))
 refine ws_e2 2 12 (by kernel_rfl) ?_ ?_
 {
 refine nxe [3, 4, 6, 7, 9, 10, 11, 12, 13] (by kernel_rfl) z z ?_
 clear hst
 intro w hst
 replace hst := hst.pull2
 obtain ⟨t1329, ht1330, hm⟩ := bind_some hm
 refine wec call28 [p0, I6 (6:Int)] z z ?_
 refine (ref12_Tape_Next_ref hst.to1 ht1330).mono ?_
 rintro _ w1331 ⟨rfl, hst⟩
 refine ⟨_, z, ?_⟩
 replace hst := hst.of1
 refine ws_next (pend' := [(8, p0), (5, p0), (0, (.slice (some ⟨b1324, 0, none⟩) 6 6))]) hst (by kernel_rfl) (pkr z z (fun w hst => z) (pkr z z (fun w hst => z) (pkr z z (fun w hst => z) pk_nil))) ?_
 obtain ⟨x1334, hx1335, hm⟩ := bind_some hm
 obtain ⟨h1336, h1337, hi1338⟩ := geto_some hx1335
 refine wsr (.pointer (some (eAddr (.slice (some ⟨b1324, 0, none⟩) 6 6) (t1329.1.toNat * 1 + 0)))) 3 z z z (by kernel_rfl) (fun w hst => x_index z z underlying118 sizeOf37 hst.sv1 h1336 h1337) (wsr (.int .i64 x1334) 4 z z z (by kernel_rfl) (fun w hst => x_load z isAgg37 (hst.ol1 hi1338 (by rintro _ rfl; rfl))) ?_)
 refine ws_e2 6 12 (by kernel_rfl) ?_ ?_
 {
 refine nxe [7, 9, 10, 11, 12, 13] (by kernel_rfl) z z ?_
 clear hst
 intro w hst
 obtain ⟨t1339, ht1340, hm⟩ := bind_some hm
 refine wec call28 [p0, I6 (4:Int)] z z ?_
 refine (ref12_Tape_Next_ref hst.to1 ht1340).mono ?_
 rintro _ w1341 ⟨rfl, hst⟩
 refine ⟨_, z, ?_⟩
 replace hst := hst.of1
 refine ws_next (pend' := [(4, I6 x1334), (3, .pointer (some (eAddr (.slice (some ⟨b1324, 0, none⟩) 6 6) (t1329.1.toNat * 1 + 0)))), (8, p0), (0, (.slice (some ⟨b1324, 0, none⟩) 6 6))]) hst (by kernel_rfl) (pkr z z (fun w hst => x_load z isAgg37 (hst.ol1 hi1338 (by rintro _ rfl; rfl))) (pkr z z (fun w hst => x_index z z underlying118 sizeOf37 hst.sv1 h1336 h1337) (pkr z z (fun w hst => z) (pkr z z (fun w hst => z) pk_nil)))) ?_
 refine wsr (.int .u64 (u64.wrap t1339.1)) 7 z z z (by kernel_rfl) (fun w hst => by kernel_rfl) ?_
 refine ws_e2 9 12 (by kernel_rfl) ?_ ?_
 {
 refine nxe [10, 11, 12, 13] (by kernel_rfl) z z ?_
 clear hst
 intro w hst
 obtain ⟨t1344, ht1345, hm⟩ := bind_some hm
 refine wec call28 [p0, I6 (9:Int)] z z ?_
 refine (ref12_Tape_Next_ref hst.to1 ht1345).mono ?_
 rintro _ w1346 ⟨rfl, hst⟩
 refine ⟨_, z, ?_⟩
 replace hst := hst.of1
 refine ws_next (pend' := [(7, U6 (u64.wrap t1339.1)), (4, I6 x1334), (3, .pointer (some (eAddr (.slice (some ⟨b1324, 0, none⟩) 6 6) (t1329.1.toNat * 1 + 0)))), (0, (.slice (some ⟨b1324, 0, none⟩) 6 6))]) hst (by kernel_rfl) (pkr z z (fun w hst => by kernel_rfl) (pkr z z (fun w hst => x_load z isAgg37 (hst.ol1 hi1338 (by rintro _ rfl; rfl))) (pkr z z (fun w hst => x_index z z underlying118 sizeOf37 hst.sv1 h1336 h1337) (pkr z z (fun w hst => z) pk_nil)))) ?_
 refine wsr (.int .u64 (u64.wrap t1344.1)) 10 z z z (by kernel_rfl) (fun w hst => by kernel_rfl) (wsr (.agg #[I6 x1334, U6 (u64.wrap t1339.1), U6 (u64.wrap t1344.1), Zs, Zs]) 11 z z z (by kernel_rfl) (fun w hst => by kernel_rfl) ?_)
 refine ws_e1 12 (by kernel_rfl) ?_
 refine nxe [13] (by kernel_rfl) z z ?_
 clear hst
 intro w hst
 obtain ⟨b1353, w1354, ew1355, eb1356, hst⟩ := hst.box [Zi, Zu, Zu, Zs, Zs] 41
 refine we_run (v := Pt b1353 0) (w' := w1354) z (x_al (by kernel_rfl) ew1355 eb1356) ?_
 refine ws_next (pend' := [(11, .agg #[I6 x1334, U6 (u64.wrap t1339.1), U6 (u64.wrap t1344.1), Zs, Zs]), (10, U6 (u64.wrap t1344.1)), (7, U6 (u64.wrap t1339.1)), (4, I6 x1334), (3, .pointer (some (eAddr (.slice (some ⟨b1324, 0, none⟩) 6 6) (t1329.1.toNat * 1 + 0)))), (0, (.slice (some ⟨b1324, 0, none⟩) 6 6))]) hst (by kernel_rfl) (pkr z z (fun w hst => by kernel_rfl) (pkr z z (fun w hst => by kernel_rfl) (pkr z z (fun w hst => by kernel_rfl) (pkr z z (fun w hst => x_load z isAgg37 (hst.ol2 hi1338 (by rintro _ rfl; rfl))) (pkr z z (fun w hst => x_index z z underlying118 sizeOf37 hst.sv2 h1336 h1337) (pkr z z (fun w hst => z) pk_nil)))))) ?_
 refine ws_e1 13 (by kernel_rfl) ?_
 refine nxe [] (by kernel_rfl) z z ?_
 clear hst
 intro w hst
 obtain ⟨w1358, hr1359, hst⟩ := hst.bx [I6 x1334, U6 (u64.wrap t1339.1), U6 (u64.wrap t1344.1), Zs, Zs] sizeOf41 z (oC z (oC z (oC z (oC z (oC z oN))))) (by kernel_rfl)
 refine we_unit z (x_unit hr1359) ?_
 refine ws_next (pend' := []) hst (by kernel_rfl) pk_nil ?_
 refine ws_nil ?_
 intro w hst
 refine ⟨z, ?_⟩
 replace hst := hst.pull3.pull2.keep3
 obtain rfl := some_inj hm
 exact ⟨t1344.2, x1334, (u64.wrap t1339.1), (u64.wrap t1344.1), b1353, _, hx1437, (fu 0 p0 z (fu 2 (Pt b1319 0) z (fu 4 (Pt b1353 0) z z))), hst⟩
}
 {
 refine nxe [9, 10, 11, 13] (by kernel_rfl) z z ?_
 clear hst
 intro w hst
 obtain ⟨b1362, w1363, ew1364, eb1365, hst⟩ := hst.box [Zi, Zu, Zu, Zs, Zs] 41
 refine we_run (v := Pt b1362 0) (w' := w1363) z (x_al (by kernel_rfl) ew1364 eb1365) ?_
 refine ws_next (pend' := [(7, U6 (u64.wrap t1339.1)), (4, I6 x1334), (3, .pointer (some (eAddr (.slice (some ⟨b1324, 0, none⟩) 6 6) (t1329.1.toNat * 1 + 0)))), (8, p0), (0, (.slice (some ⟨b1324, 0, none⟩) 6 6))]) hst (by kernel_rfl) (pkr z z (fun w hst => by kernel_rfl) (pkr z z (fun w hst => x_load z isAgg37 (hst.ol2 hi1338 (by rintro _ rfl; rfl))) (pkr z z (fun w hst => x_index z z underlying118 sizeOf37 hst.sv2 h1336 h1337) (pkr z z (fun w hst => z) (pkr z z (fun w hst => z) pk_nil))))) ?_
 refine ws_e1 9 (by kernel_rfl) ?_
 refine nxe [10, 11, 13] (by kernel_rfl) z z ?_
 clear hst
 intro w hst
 replace hst := hst.pull1
 obtain ⟨t1367, ht1368, hm⟩ := bind_some hm
 refine wec call28 [p0, I6 (9:Int)] z z ?_
 refine (ref12_Tape_Next_ref hst.to1 ht1368).mono ?_
 rintro _ w1369 ⟨rfl, hst⟩
 refine ⟨_, z, ?_⟩
 replace hst := hst.of1
 refine ws_next (pend' := [(7, U6 (u64.wrap t1339.1)), (4, I6 x1334), (3, .pointer (some (eAddr (.slice (some ⟨b1324, 0, none⟩) 6 6) (t1329.1.toNat * 1 + 0)))), (0, (.slice (some ⟨b1324, 0, none⟩) 6 6))]) hst (by kernel_rfl) (pkr z z (fun w hst => by kernel_rfl) (pkr z z (fun w hst => x_load z isAgg37 (hst.ol2 hi1338 (by rintro _ rfl; rfl))) (pkr z z (fun w hst => x_index z z underlying118 sizeOf37 hst.sv2 h1336 h1337) (pkr z z (fun w hst => z) pk_nil)))) ?_
 refine wsr (.int .u64 (u64.wrap t1367.1)) 10 z z z (by kernel_rfl) (fun w hst => by kernel_rfl) (wsr (.agg #[I6 x1334, U6 (u64.wrap t1339.1), U6 (u64.wrap t1367.1), Zs, Zs]) 11 z z z (by kernel_rfl) (fun w hst => by kernel_rfl) ?_)
 refine ws_e1 13 (by kernel_rfl) ?_
 refine nxe [] (by kernel_rfl) z z ?_
 clear hst
 intro w hst
 replace hst := hst.pull1
 obtain ⟨w1374, hr1375, hst⟩ := hst.bx [I6 x1334, U6 (u64.wrap t1339.1), U6 (u64.wrap t1367.1), Zs, Zs] sizeOf41 z (oC z (oC z (oC z (oC z (oC z oN))))) (by kernel_rfl)
 refine we_unit z (x_unit hr1375) ?_
 refine ws_next (pend' := []) hst (by kernel_rfl) pk_nil ?_
 refine ws_nil ?_
 intro w hst
 refine ⟨z, ?_⟩
 replace hst := hst.pull3.pull2.keep3
 obtain rfl := some_inj hm
 exact ⟨t1367.2, x1334, (u64.wrap t1339.1), (u64.wrap t1367.1), b1362, _, hx1437, (fu 0 p0 z (fu 2 (Pt b1319 0) z (fu 4 (Pt b1362 0) z z))), hst⟩
}
}
 {
 refine nxe [6, 7, 9, 10, 11, 13] (by kernel_rfl) z z ?_
 clear hst
 intro w hst
 obtain ⟨b1378, w1379, ew1380, eb1381, hst⟩ := hst.box [Zi, Zu, Zu, Zs, Zs] 41
 refine we_run (v := Pt b1378 0) (w' := w1379) z (x_al (by kernel_rfl) ew1380 eb1381) ?_
 refine ws_next (pend' := [(4, I6 x1334), (3, .pointer (some (eAddr (.slice (some ⟨b1324, 0, none⟩) 6 6) (t1329.1.toNat * 1 + 0)))), (8, p0), (5, p0), (0, (.slice (some ⟨b1324, 0, none⟩) 6 6))]) hst (by kernel_rfl) (pkr z z (fun w hst => x_load z isAgg37 (hst.ol2 hi1338 (by rintro _ rfl; rfl))) (pkr z z (fun w hst => x_index z z underlying118 sizeOf37 hst.sv2 h1336 h1337) (pkr z z (fun w hst => z) (pkr z z (fun w hst => z) (pkr z z (fun w hst => z) pk_nil))))) ?_
 refine ws_e1 6 (by kernel_rfl) ?_
 refine nxe [7, 9, 10, 11, 13] (by kernel_rfl) z z ?_
 clear hst
 intro w hst
 replace hst := hst.pull1
 obtain ⟨t1383, ht1384, hm⟩ := bind_some hm
 refine wec call28 [p0, I6 (4:Int)] z z ?_
 refine (ref12_Tape_Next_ref hst.to1 ht1384).mono ?_
 rintro _ w1385 ⟨rfl, hst⟩
 refine ⟨_, z, ?_⟩
 replace hst := hst.of1
 refine ws_next (pend' := [(4, I6 x1334), (3, .pointer (some (eAddr (.slice (some ⟨b1324, 0, none⟩) 6 6) (t1329.1.toNat * 1 + 0)))), (8, p0), (0, (.slice (some ⟨b1324, 0, none⟩) 6 6))]) hst (by kernel_rfl) (pkr z z (fun w hst => x_load z isAgg37 (hst.ol2 hi1338 (by rintro _ rfl; rfl))) (pkr z z (fun w hst => x_index z z underlying118 sizeOf37 hst.sv2 h1336 h1337) (pkr z z (fun w hst => z) (pkr z z (fun w hst => z) pk_nil)))) ?_
 refine wsr (.int .u64 (u64.wrap t1383.1)) 7 z z z (by kernel_rfl) (fun w hst => by kernel_rfl) ?_
 refine ws_e1 9 (by kernel_rfl) ?_
 refine nxe [10, 11, 13] (by kernel_rfl) z z ?_
 clear hst
 intro w hst
 obtain ⟨t1388, ht1389, hm⟩ := bind_some hm
 refine wec call28 [p0, I6 (9:Int)] z z ?_
 refine (ref12_Tape_Next_ref hst.to1 ht1389).mono ?_
 rintro _ w1390 ⟨rfl, hst⟩
 refine ⟨_, z, ?_⟩
 replace hst := hst.of1
 refine ws_next (pend' := [(7, U6 (u64.wrap t1383.1)), (4, I6 x1334), (3, .pointer (some (eAddr (.slice (some ⟨b1324, 0, none⟩) 6 6) (t1329.1.toNat * 1 + 0)))), (0, (.slice (some ⟨b1324, 0, none⟩) 6 6))]) hst (by kernel_rfl) (pkr z z (fun w hst => by kernel_rfl) (pkr z z (fun w hst => x_load z isAgg37 (hst.ol2 hi1338 (by rintro _ rfl; rfl))) (pkr z z (fun w hst => x_index z z underlying118 sizeOf37 hst.sv2 h1336 h1337) (pkr z z (fun w hst => z) pk_nil)))) ?_
 refine wsr (.int .u64 (u64.wrap t1388.1)) 10 z z z (by kernel_rfl) (fun w hst => by kernel_rfl) (wsr (.agg #[I6 x1334, U6 (u64.wrap t1383.1), U6 (u64.wrap t1388.1), Zs, Zs]) 11 z z z (by kernel_rfl) (fun w hst => by kernel_rfl) ?_)
 refine ws_e1 13 (by kernel_rfl) ?_
 refine nxe [] (by kernel_rfl) z z ?_
 clear hst
 intro w hst
 replace hst := hst.pull1
 obtain ⟨w1395, hr1396, hst⟩ := hst.bx [I6 x1334, U6 (u64.wrap t1383.1), U6 (u64.wrap t1388.1), Zs, Zs] sizeOf41 z (oC z (oC z (oC z (oC z (oC z oN))))) (by kernel_rfl)
 refine we_unit z (x_unit hr1396) ?_
 refine ws_next (pend' := []) hst (by kernel_rfl) pk_nil ?_
 refine ws_nil ?_
 intro w hst
 refine ⟨z, ?_⟩
 replace hst := hst.pull3.pull2.keep3
 obtain rfl := some_inj hm
 exact ⟨t1388.2, x1334, (u64.wrap t1383.1), (u64.wrap t1388.1), b1378, _, hx1437, (fu 0 p0 z (fu 2 (Pt b1319 0) z (fu 4 (Pt b1378 0) z z))), hst⟩
}
}
 {
 refine nxe [2, 3, 4, 6, 7, 9, 10, 11, 13] (by kernel_rfl) z z ?_
 clear hst
 intro w hst
 obtain ⟨b1399, w1400, ew1401, eb1402, hst⟩ := hst.box [Zi, Zu, Zu, Zs, Zs] 41
 refine we_run (v := Pt b1399 0) (w' := w1400) z (x_al (by kernel_rfl) ew1401 eb1402) ?_
 refine ws_next (pend' := [(8, p0), (5, p0), (1, p0), (0, (.slice (some ⟨b1324, 0, none⟩) 6 6))]) hst (by kernel_rfl) (pkr z z (fun w hst => z) (pkr z z (fun w hst => z) (pkr z z (fun w hst => z) (pkr z z (fun w hst => z) pk_nil)))) ?_
 refine ws_e1 2 (by kernel_rfl) ?_
 refine nxe [3, 4, 6, 7, 9, 10, 11, 13] (by kernel_rfl) z z ?_
 clear hst
 intro w hst
 replace hst := hst.pull3
 obtain ⟨t1404, ht1405, hm⟩ := bind_some hm
 refine wec call28 [p0, I6 (6:Int)] z z ?_
 refine (ref12_Tape_Next_ref hst.to1 ht1405).mono ?_
 rintro _ w1406 ⟨rfl, hst⟩
 refine ⟨_, z, ?_⟩
 replace hst := hst.of1
 refine ws_next (pend' := [(8, p0), (5, p0), (0, (.slice (some ⟨b1324, 0, none⟩) 6 6))]) hst (by kernel_rfl) (pkr z z (fun w hst => z) (pkr z z (fun w hst => z) (pkr z z (fun w hst => z) pk_nil))) ?_
 obtain ⟨x1409, hx1410, hm⟩ := bind_some hm
 obtain ⟨h1411, h1412, hi1413⟩ := geto_some hx1410
 refine wsr (.pointer (some (eAddr (.slice (some ⟨b1324, 0, none⟩) 6 6) (t1404.1.toNat * 1 + 0)))) 3 z z z (by kernel_rfl) (fun w hst => x_index z z underlying118 sizeOf37 hst.sv2 h1411 h1412) (wsr (.int .i64 x1409) 4 z z z (by kernel_rfl) (fun w hst => x_load z isAgg37 (hst.ol2 hi1413 (by rintro _ rfl; rfl))) ?_)
 refine ws_e1 6 (by kernel_rfl) ?_
 refine nxe [7, 9, 10, 11, 13] (by kernel_rfl) z z ?_
 clear hst
 intro w hst
 obtain ⟨t1414, ht1415, hm⟩ := bind_some hm
 refine wec call28 [p0, I6 (4:Int)] z z ?_
 refine (ref12_Tape_Next_ref hst.to1 ht1415).mono ?_
 rintro _ w1416 ⟨rfl, hst⟩
 refine ⟨_, z, ?_⟩
 replace hst := hst.of1
 refine ws_next (pend' := [(4, I6 x1409), (3, .pointer (some (eAddr (.slice (some ⟨b1324, 0, none⟩) 6 6) (t1404.1.toNat * 1 + 0)))), (8, p0), (0, (.slice (some ⟨b1324, 0, none⟩) 6 6))]) hst (by kernel_rfl) (pkr z z (fun w hst => x_load z isAgg37 (hst.ol2 hi1413 (by rintro _ rfl; rfl))) (pkr z z (fun w hst => x_index z z underlying118 sizeOf37 hst.sv2 h1411 h1412) (pkr z z (fun w hst => z) (pkr z z (fun w hst => z) pk_nil)))) ?_
 refine wsr (.int .u64 (u64.wrap t1414.1)) 7 z z z (by kernel_rfl) (fun w hst => by kernel_rfl) ?_
 refine ws_e1 9 (by kernel_rfl) ?_
 refine nxe [10, 11, 13] (by kernel_rfl) z z ?_
 clear hst
 intro w hst
 obtain ⟨t1419, ht1420, hm⟩ := bind_some hm
 refine wec call28 [p0, I6 (9:Int)] z z ?_
 refine (ref12_Tape_Next_ref hst.to1 ht1420).mono ?_
 rintro _ w1421 ⟨rfl, hst⟩
 refine ⟨_, z, ?_⟩
 replace hst := hst.of1
 refine ws_next (pend' := [(7, U6 (u64.wrap t1414.1)), (4, I6 x1409), (3, .pointer (some (eAddr (.slice (some ⟨b1324, 0, none⟩) 6 6) (t1404.1.toNat * 1 + 0)))), (0, (.slice (some ⟨b1324, 0, none⟩) 6 6))]) hst (by kernel_rfl) (pkr z z (fun w hst => by kernel_rfl) (pkr z z (fun w hst => x_load z isAgg37 (hst.ol2 hi1413 (by rintro _ rfl; rfl))) (pkr z z (fun w hst => x_index z z underlying118 sizeOf37 hst.sv2 h1411 h1412) (pkr z z (fun w hst => z) pk_nil)))) ?_
 refine wsr (.int .u64 (u64.wrap t1419.1)) 10 z z z (by kernel_rfl) (fun w hst => by kernel_rfl) (wsr (.agg #[I6 x1409, U6 (u64.wrap t1414.1), U6 (u64.wrap t1419.1), Zs, Zs]) 11 z z z (by kernel_rfl) (fun w hst => by kernel_rfl) ?_)
 refine ws_e1 13 (by kernel_rfl) ?_
 refine nxe [] (by kernel_rfl) z z ?_
 clear hst
 intro w hst
 replace hst := hst.pull1
 obtain ⟨w1426, hr1427, hst⟩ := hst.bx [I6 x1409, U6 (u64.wrap t1414.1), U6 (u64.wrap t1419.1), Zs, Zs] sizeOf41 z (oC z (oC z (oC z (oC z (oC z oN))))) (by kernel_rfl)
 refine we_unit z (x_unit hr1427) ?_
 refine ws_next (pend' := []) hst (by kernel_rfl) pk_nil ?_
 refine ws_nil ?_
 intro w hst
 refine ⟨z, ?_⟩
 replace hst := hst.pull3.pull2.keep3
 obtain rfl := some_inj hm
 exact ⟨t1419.2, x1409, (u64.wrap t1414.1), (u64.wrap t1419.1), b1399, _, hx1437, (fu 0 p0 z (fu 2 (Pt b1319 0) z (fu 4 (Pt b1399 0) z z))), hst⟩
}
}
 {
 clear hst
 rintro _ w1438 ⟨z1428, z1431, z1432, z1433, b1430, σ1434, hm, rfl, hst⟩
 dsimp only [ref13_OfReply_j0] at hm
 refine tn (wp_seq (wrl (wv (p0) z z z ?_)))
 obtain ⟨t1439, ht1440, hm⟩ := bind_some hm
 refine wc call28 [p0, I6 (3:Int)] z z z ?_
 refine (ref12_Tape_Next_ref hst.to1 ht1440).mono ?_
 rintro _ w1441 ⟨rfl, hst⟩
 refine ⟨_, z, ?_⟩
 replace hst := hst.of1
 refine wv (.int .i64 t1439.1) z z z (wl_nil (tn ?_))
 obtain ⟨y1586, hm, hx1587⟩ := bind_some hm
 refine wp_cut (fun a w => ∃ (I1583 : HL) (z1579 : ref12_Tape) (z1582 : (List api_Got)) (v1581 : Value) (σ1584 : Nat → Value), (ref13_OfReply_j1 z1431 z1432 z1433) (z1579, z1582) = some r ∧ a = Fr 72 (upd (upd (upd σ1584 0 (p0)) 2 (Pt b1319 0)) 4 (Pt b1430 0)) ∧ I.le I1583 ∧ St w0 w I1583 [at_ref12_Tape p0 z1579, cells b1319 [Zi, Zu, Zu, Zs, Zs], cells b1430 [I6 z1431, U6 z1432, U6 z1433, v1581, Zs], ownS ty_api_Got v1581 z1582] R) ?_ ?_
 {
 have hL1588 := HL.le.refl I
 refine wp_seq (wrl (wv (.int .i64 (0:Int)) z z z (wl_nil (tn (wp_block ?_)))))
 replace hst := hst.own_nil ty_api_Got
 obtain ⟨n1543, hm⟩ := loopO_some hm
 refine wp_loop_n (fun n a w => ∃ (I1541 : HL) (z1536 : (List api_Got)) (z1539 : ref12_Tape) (z1540 : Int) (v1537 : Value) (σ1542 : Nat → Value), loopN (ref13_OfReply_l2 t1439) n (z1536, z1539, z1540) = some y1586 ∧ a = Fr 72 (upd (upd (upd (upd (upd σ1542 0 (p0)) 2 (Pt b1319 0)) 4 (Pt b1430 0)) 5 (.int .i64 t1439.1)) 6 (.int .i64 z1540)) ∧ I.le I1541 ∧ St w0 w I1541 [ownS ty_api_Got v1537 z1536, at_ref12_Tape p0 z1539, cells b1319 [Zi, Zu, Zu, Zs, Zs], cells b1430 [I6 z1431, U6 z1432, U6 z1433, v1537, Zs]] R) n1543 ⟨_, [], t1439.2, (0:Int), Zs, _, hm, (fu 0 p0 z (fu 2 (Pt b1319 0) z (fu 4 (Pt b1430 0) z (fu 5 (.int .i64 t1439.1) z (fu 6 (.int .i64 (0:Int)) z z))))), (HL.le.refl _), hst⟩ ?_
 rintro n1549 _ w1544 ⟨I1541, z1536, z1539, z1540, v1537, σ1542, hm, rfl, hL1545, hst⟩
 obtain ⟨n1546, y1547, rfl, hm, hx1548⟩ := loopN_some hm
 dsimp only [ref13_OfReply_l2] at hm
 replace hI0 := hI0.trans hL1545
 replace hL1588 := hL1588.trans hL1545
 refine wp_seq (wp_seq (wrl (wv (.int .i64 z1540) z z z (wv (.int .i64 t1439.1) z z z (wv (.bool (decide (z1540 < t1439.1))) z z z (wl_nil (tn ?_)))))))
 refine bsplit (decide (z1540 < t1439.1)) (fun hc1550 => ?_) (fun hc1550 => ?_)
 {
 replace hm := bif_t hc1550 hm
 refine wp_ift (cvb hc1550) ?_
 refine wp_skip (tn (wp_seq (wp_block ?_)))
 refine wp_region_St hst 12 [0, 1, 2, 3, 4, 5, 6, 7, 8, 9, 10, 11] [0, 1, 0, 4, 12, 0, 44, 124, 252, 511, 1023, 2047] [] z (by kernel_rfl) (by kernel_rfl) Try.mixed (by kernel_rfl) ?_
 refine wsr (Pt b1430 3) 0 z z z (by kernel_rfl) (fun w hst => x_field z underlying41 z sizeOf38 z) (wsr (v1537) 1 z z z (by kernel_rfl) (fun w hst => x_load z isAgg38 (hst.bc3 z)) (wsr (p0) 2 z z z (by kernel_rfl) (fun w hst => z) (wsr (p0) 5 z z z (by kernel_rfl) (fun w hst => z) ?_)))
 refine ws_e1 3 (by kernel_rfl) ?_
 refine nxe [4, 6, 7, 8, 9, 10, 11] (by kernel_rfl) z z ?_
 clear hst
 intro w hst
 replace hst := hst.pull1
 obtain ⟨t1551, ht1552, hm⟩ := bind_some hm
 refine wec call28 [p0, I6 (2:Int)] z z ?_
 refine (ref12_Tape_Next_ref hst.to1 ht1552).mono ?_
 rintro _ w1553 ⟨rfl, hst⟩
 refine ⟨_, z, ?_⟩
 replace hst := hst.of1
 refine ws_next (pend' := [(5, p0), (1, v1537), (0, Pt b1430 3)]) hst (by kernel_rfl) (pkr z z (fun w hst => z) (pkr z z (fun w hst => x_load z isAgg38 (hst.bc3 z)) (pkr z z (fun w hst => x_field z underlying41 z sizeOf38 z) pk_nil))) ?_
 refine wsr (.bool (t1551.1 == (0:Int))) 4 z z z (by kernel_rfl) (fun w hst => z) ?_
 refine ws_e1 6 (by kernel_rfl) ?_
 refine nxe [7, 8, 9, 10, 11] (by kernel_rfl) z z ?_
 clear hst
 intro w hst
 obtain ⟨t1556, ht1557, hm⟩ := bind_some hm
 refine wec call29 [p0] z z ?_
 refine (ref12_Tape_Val_ref hst.to1 ht1557).mono ?_
 rintro _ w1558 ⟨v1561, rfl, hst⟩
 refine ⟨_, z, ?_⟩
 replace hst := hst.of2
 refine ws_next (pend' := [(4, .bool (t1551.1 == (0:Int))), (1, v1537), (0, Pt b1430 3)]) hst (by kernel_rfl) (pkr z z (fun w hst => z) (pkr z z (fun w hst => x_load z isAgg38 (hst.bc4 z)) (pkr z z (fun w hst => x_field z underlying41 z sizeOf38 z) pk_nil))) ?_
 refine wsr (.agg #[.bool (t1551.1 == (0:Int)), v1561]) 7 rfl rfl rfl (by kernel_rfl) (fun w hst => by obtain ⟨_, _, hv_, _⟩ := hst.sv0; rw [hv_]; kernel_rfl) ?_
 refine ws_e1 8 (by kernel_rfl) ?_
 refine nxe [9, 10, 11] (by kernel_rfl) z z ?_
 clear hst
 intro w hst
 obtain ⟨I1565, hI1566, f1567, hst⟩ := hst.own_fix
 replace hI0 := hI0.trans hI1566
 replace hL1588 := hL1588.trans hI1566
 replace hL1545 := hL1545.trans hI1566
 obtain ⟨b1568, w1569, ew1570, eb1571, hst⟩ := hst.lits (E := ty_api_Got) (xs := [({ Has := (t1551.1 == (0:Int)), Val := t1556.1 } : api_Got)]) [[.bool (t1551.1 == (0:Int)), v1561]] 104 1 z (Reps.cons ⟨_, z, f1567, one_of_sliceV (ro_sliceV f1567)⟩ Reps.nil)
 refine we_run (v := (.slice (some ⟨b1568, 0, none⟩) 1 1)) (w' := w1569) z (x_als (by kernel_rfl) ew1570 eb1571) ?_
 refine ws_next (pend' := [(1, v1537), (0, Pt b1430 3)]) hst (by kernel_rfl) (pkr z z (fun w hst => x_load z isAgg38 (hst.bc4 z)) (pkr z z (fun w hst => x_field z underlying41 z sizeOf38 z) pk_nil)) ?_
 refine ws_e1 9 (by kernel_rfl) ?_
 refine nxe [10, 11] (by kernel_rfl) z z ?_
 clear hst
 intro w hst
 obtain ⟨hg1573, hm⟩ := gd_some hm
 replace hst := hst.pull2
 obtain ⟨v1574, w1575, hr1576, hst⟩ := run_append elem_38 underlying38 hst hst.src1 (room_of hg1573 z) 38
 refine we_run (v := v1574) (w' := w1575) z (x_append z z hr1576) ?_
 refine ws_next (pend' := []) hst (by kernel_rfl) pk_nil ?_
 refine wsr (Pt b1430 3) 10 z z z (by kernel_rfl) (fun w hst => x_field z underlying41 z sizeOf38 z) ?_
 refine ws_e1 11 (by kernel_rfl) ?_
 refine nxe [] (by kernel_rfl) z z ?_
 clear hst
 intro w hst
 replace hst := hst.pull4
 obtain ⟨w1577, hr1578, hst⟩ := hst.boxStore1 (P := prog) (t := 38) (cs' := [I6 z1431, U6 z1432, U6 z1433, v1574, Zs]) 3 v1574 (one_of_sliceV hst.sv1) sizeOf38 z z
 refine we_unit z (x_unit hr1578) ?_
 refine ws_next (pend' := []) hst (by kernel_rfl) pk_nil ?_
 refine ws_nil ?_
 intro w hst
 refine blk_n (tn (wrl ?_))
 refine wv (.int .i64 z1540) z z z (wv (.int .i64 (i64.wrap (z1540 + (1:Int)))) z z z (wv (.int .i64 (i64.wrap (z1540 + (1:Int)))) z z z (wl_nil (tn ?_))))
 replace hst := hst.pull4.pull4.pull3.keep4
 obtain rfl := some_inj hm
 exact ⟨_, Nat.lt_succ_self _, _, (z1536 ++ ([({ Has := (t1551.1 == (0:Int)), Val := t1556.1 } : api_Got)])), t1556.2, (i64.wrap (z1540 + (1:Int))), v1574, _, hx1548, (fu 0 p0 z (fu 2 (Pt b1319 0) z (fu 4 (Pt b1430 0) z (fu 5 (.int .i64 t1439.1) z (fu 6 (.int .i64 (i64.wrap (z1540 + (1:Int)))) z z))))), hL1545, hst⟩
}
 {
 replace hm := bif_f hc1550 hm
 refine wp_iff (cvb hc1550) ?_
 refine wp_exit (then_x (then_x ?_))
 replace hm := inr_up hm hx1548
 refine blk_x (tn ?_)
 replace hst := hst.pull3.pull3.pull3.keep4
 obtain rfl := some_inj hm
 exact ⟨_, z1539, z1536, v1537, _, hx1587, (fu 0 p0 z (fu 2 (Pt b1319 0) z (fu 4 (Pt b1430 0) z z))), hL1588, hst⟩
}
}
 {
 clear hst
 rintro _ w1589 ⟨I1583, z1579, z1582, v1581, σ1584, hm, rfl, hL1585, hst⟩
 dsimp only [ref13_OfReply_j1] at hm
 replace hI0 := hI0.trans hL1585
 refine wp_seq (wrl (wv (p0) z z z ?_))
 obtain ⟨t1590, ht1591, hm⟩ := bind_some hm
 refine wc call28 [p0, I6 (3:Int)] z z z ?_
 refine (ref12_Tape_Next_ref hst.to1 ht1591).mono ?_
 rintro _ w1592 ⟨rfl, hst⟩
 refine ⟨_, z, ?_⟩
 replace hst := hst.of1
 refine wv (.int .i64 (i64.wrap (Int.tdiv t1590.1 (2:Int)))) z z (x_quo (by decide) z z) (wv (.int .i64 (i64.wrap (Int.tdiv t1590.1 (2:Int)))) z z z (wl_nil (tn (wp_seq (wp_seq (wrl (wv (.int .i64 (0:Int)) z z z (wl_nil (tn (wp_block ?_))))))))))
 replace hst := hst.own_nil (tySl ty_api_Pair)
 obtain ⟨n2087, hm⟩ := loopO_some hm
 refine wp_loop_n (fun n a w => ∃ (I2085 : HL) (z2080 : (List (List api_Pair))) (z2083 : ref12_Tape) (z2084 : Int) (v2081 : Value) (σ2086 : Nat → Value), loopN (ref13_OfReply_l3 t1590 z1431 z1432 z1433 z1582) n (z2080, z2083, z2084) = some r ∧ a = Fr 72 (upd (upd (upd (upd (upd σ2086 0 (p0)) 2 (Pt b1319 0)) 4 (Pt b1430 0)) 5 (.int .i64 (i64.wrap (Int.tdiv t1590.1 (2:Int))))) 7 (.int .i64 z2084)) ∧ I1583.le I2085 ∧ St w0 w I2085 [ownS (tySl ty_api_Pair) v2081 z2080, at_ref12_Tape p0 z2083, cells b1319 [Zi, Zu, Zu, Zs, Zs], cells b1430 [I6 z1431, U6 z1432, U6 z1433, v1581, v2081], ownS ty_api_Got v1581 z1582] R) n2087 ⟨_, [], t1590.2, (0:Int), Zs, _, hm, (fu 0 p0 z (fu 2 (Pt b1319 0) z (fu 4 (Pt b1430 0) z (fu 5 (.int .i64 (i64.wrap (Int.tdiv t1590.1 (2:Int)))) z (fu 7 (.int .i64 (0:Int)) z z))))), (HL.le.refl _), hst⟩ ?_
 rintro n2093 _ w2088 ⟨I2085, z2080, z2083, z2084, v2081, σ2086, hm, rfl, hL2089, hst⟩
 obtain ⟨n2090, y2091, rfl, hm, hx2092⟩ := loopN_some hm
 dsimp only [ref13_OfReply_l3] at hm
 replace hI0 := hI0.trans hL2089
 refine wp_seq (wp_seq (wrl (wv (.int .i64 z2084) z z z (wv (.int .i64 (i64.wrap (Int.tdiv t1590.1 (2:Int)))) z z z (wv (.bool (decide (z2084 < (i64.wrap (Int.tdiv t1590.1 (2:Int)))))) z z z (wl_nil (tn ?_)))))))
 refine bsplit (decide (z2084 < (i64.wrap (Int.tdiv t1590.1 (2:Int))))) (fun hc2094 => ?_) (fun hc2094 => ?_)
 {
 replace hm := bif_t hc2094 hm
 refine wp_ift (cvb hc2094) ?_
 refine wp_skip (tn (wp_seq (wp_block (wp_seq (wrl ?_)))))
 refine wv ((.slice none 0 0)) z z z (wl_nil (tn (wp_seq (wrl (wv (p0) z z z ?_)))))
 replace hst := hst.pull1
 obtain ⟨t2096, ht2097, hm⟩ := bind_some hm
 refine wc call28 [p0, I6 (3:Int)] z z z ?_
 refine (ref12_Tape_Next_ref hst.to1 ht2097).mono ?_
 rintro _ w2098 ⟨rfl, hst⟩
 refine ⟨_, z, ?_⟩
 replace hst := hst.of1
 refine wv (.int .i64 t2096.1) z z z (wl_nil (tn ?_))
 obtain ⟨y2235, hm, hx2236⟩ := bind_some hm
 refine wp_cut (fun a w => ∃ (I2232 : HL) (z2228 : ref12_Tape) (z2231 : (List api_Pair)) (v2230 : Value) (σ2233 : Nat → Value), (ref13_OfReply_j4 z2080 z2084) (z2228, z2231) = some y2091 ∧ a = Fr 72 (upd (upd (upd (upd (upd (upd σ2233 0 (p0)) 2 (Pt b1319 0)) 4 (Pt b1430 0)) 5 (.int .i64 (i64.wrap (Int.tdiv t1590.1 (2:Int))))) 7 (.int .i64 z2084)) 8 (v2230)) ∧ I2085.le I2232 ∧ St w0 w I2232 [at_ref12_Tape p0 z2228, cells b1319 [Zi, Zu, Zu, Zs, Zs], cells b1430 [I6 z1431, U6 z1432, U6 z1433, v1581, v2081], ownS ty_api_Got v1581 z1582, ownS (tySl ty_api_Pair) v2081 z2080, ownS ty_api_Pair v2230 z2231] R) ?_ ?_
 {
 have hL2237 := HL.le.refl I2085
 refine wp_seq (wrl (wv (.int .i64 (0:Int)) z z z (wl_nil (tn (wp_block ?_)))))
 replace hst := hst.own_nil ty_api_Pair
 obtain ⟨n2194, hm⟩ := loopO_some hm
 refine wp_loop_n (fun n a w => ∃ (I2192 : HL) (z2187 : ref12_Tape) (z2188 : Int) (z2189 : (List api_Pair)) (v2190 : Value) (σ2193 : Nat → Value), loopN (ref13_OfReply_l5 t2096) n (z2187, z2188, z2189) = some y2235 ∧ a = Fr 72 (upd (upd (upd (upd (upd (upd (upd (upd σ2193 0 (p0)) 2 (Pt b1319 0)) 4 (Pt b1430 0)) 5 (.int .i64 (i64.wrap (Int.tdiv t1590.1 (2:Int))))) 7 (.int .i64 z2084)) 8 (v2190)) 9 (.int .i64 t2096.1)) 10 (.int .i64 z2188)) ∧ I2085.le I2192 ∧ St w0 w I2192 [ownS ty_api_Pair v2190 z2189, at_ref12_Tape p0 z2187, ownS (tySl ty_api_Pair) v2081 z2080, cells b1319 [Zi, Zu, Zu, Zs, Zs], cells b1430 [I6 z1431, U6 z1432, U6 z1433, v1581, v2081], ownS ty_api_Got v1581 z1582] R) n2194 ⟨_, t2096.2, (0:Int), [], Zs, _, hm, (fu 0 p0 z (fu 2 (Pt b1319 0) z (fu 4 (Pt b1430 0) z (fu 5 (.int .i64 (i64.wrap (Int.tdiv t1590.1 (2:Int)))) z (fu 7 (.int .i64 z2084) z (fu 8 (.slice none 0 0) z (fu 9 (.int .i64 t2096.1) z (fu 10 (.int .i64 (0:Int)) z z)))))))), (HL.le.refl _), hst⟩ ?_
 rintro n2200 _ w2195 ⟨I2192, z2187, z2188, z2189, v2190, σ2193, hm, rfl, hL2196, hst⟩
 obtain ⟨n2197, y2198, rfl, hm, hx2199⟩ := loopN_some hm
 dsimp only [ref13_OfReply_l5] at hm
 replace hI0 := hI0.trans hL2196
 replace hL2089 := hL2089.trans hL2196
 replace hL2237 := hL2237.trans hL2196
 refine wp_seq (wp_seq (wrl (wv (.int .i64 z2188) z z z (wv (.int .i64 t2096.1) z z z (wv (.bool (decide (z2188 < t2096.1))) z z z (wl_nil (tn ?_)))))))
 refine bsplit (decide (z2188 < t2096.1)) (fun hc2201 => ?_) (fun hc2201 => ?_)
 {
 replace hm := bif_t hc2201 hm
 refine wp_ift (cvb hc2201) ?_
 refine wp_skip (tn (wp_seq (wp_block (wrl ?_))))
 refine wv (v2190) z z z (wv (p0) z z z ?_)
 replace hst := hst.pull1
 obtain ⟨t2202, ht2203, hm⟩ := bind_some hm
 refine wc call59 [p0] z z z ?_
 refine (ref12_Tape_Float_ref hst.to1 ht2203).mono ?_
 rintro _ w2204 ⟨rfl, hst⟩
 refine ⟨_, z, ?_⟩
 replace hst := hst.of1
 refine wv (p0) z z z ?_
 obtain ⟨t2207, ht2208, hm⟩ := bind_some hm
 refine wc call29 [p0] z z z ?_
 refine (ref12_Tape_Val_ref hst.to1 ht2208).mono ?_
 rintro _ w2209 ⟨v2212, rfl, hst⟩
 refine ⟨_, z, ?_⟩
 replace hst := hst.of2
 refine wv (.agg #[F6 t2202.1, v2212]) z z (by obtain ⟨_, _, hv_, _⟩ := hst.sv0; rw [hv_]; kernel_rfl) ?_
 obtain ⟨I2216, hI2217, f2218, hst⟩ := hst.own_fix
 replace hI0 := hI0.trans hI2217
 replace hL2089 := hL2089.trans hI2217
 replace hL2237 := hL2237.trans hI2217
 replace hL2196 := hL2196.trans hI2217
 obtain ⟨b2219, w2220, ew2221, eb2222, hst⟩ := hst.lits (E := ty_api_Pair) (xs := [({ At := t2202.1, Val := t2207.1 } : api_Pair)]) [[F6 t2202.1, v2212]] 107 1 z (Reps.cons ⟨_, z, f2218, one_of_sliceV (ro_sliceV f2218)⟩ Reps.nil)
 refine wl_run (v := (.slice (some ⟨b2219, 0, none⟩) 1 1)) (w' := w2220) z z (x_als (by kernel_rfl) ew2221 eb2222) ?_
 obtain ⟨hg2224, hm⟩ := gd_some hm
 replace hst := hst.pull2
 obtain ⟨v2225, w2226, hr2227, hst⟩ := run_append elem_105 underlying105 hst hst.src1 (room_of hg2224 z) 105
 refine wl_run (v := v2225) (w' := w2226) z z (x_append z z hr2227) ?_
 refine wv (v2225) z z z (wl_nil (blk_n (tn (wrl (wv (.int .i64 z2188) z z z (wv (.int .i64 (i64.wrap (z2188 + (1:Int)))) z z z (wv (.int .i64 (i64.wrap (z2188 + (1:Int)))) z z z (wl_nil (tn ?_)))))))))
 replace hst := hst.pull6.pull6.pull6.pull6.pull6.pull5.keep6
 obtain rfl := some_inj hm
 exact ⟨_, Nat.lt_succ_self _, _, t2207.2, (i64.wrap (z2188 + (1:Int))), (z2189 ++ ([({ At := t2202.1, Val := t2207.1 } : api_Pair)])), v2225, _, hx2199, (fu 0 p0 z (fu 2 (Pt b1319 0) z (fu 4 (Pt b1430 0) z (fu 5 (.int .i64 (i64.wrap (Int.tdiv t1590.1 (2:Int)))) z (fu 7 (.int .i64 z2084) z (fu 8 v2225 z (fu 9 (.int .i64 t2096.1) z (fu 10 (.int .i64 (i64.wrap (z2188 + (1:Int)))) z z)))))))), hL2196, hst⟩
}
 {
 replace hm := bif_f hc2201 hm
 refine wp_iff (cvb hc2201) ?_
 refine wp_exit (then_x (then_x ?_))
 replace hm := inr_up hm hx2199
 refine blk_x (tn ?_)
 replace hst := hst.pull2.pull5.pull5.pull5.pull5.keep6
 obtain rfl := some_inj hm
 exact ⟨_, z2187, z2189, v2190, _, hx2236, (fu 0 p0 z (fu 2 (Pt b1319 0) z (fu 4 (Pt b1430 0) z (fu 5 (.int .i64 (i64.wrap (Int.tdiv t1590.1 (2:Int)))) z (fu 7 (.int .i64 z2084) z (fu 8 v2190 z z)))))), hL2237, hst⟩
}
}
 {
 clear hst
 rintro _ w2238 ⟨I2232, z2228, z2231, v2230, σ2233, hm, rfl, hL2234, hst⟩
 dsimp only [ref13_OfReply_j4] at hm
 replace hI0 := hI0.trans hL2234
 replace hL2089 := hL2089.trans hL2234
 refine wrl (wv (Pt b1430 4) z z (x_field z underlying41 z sizeOf39 z) (wv (v2081) z z (x_load z isAgg39 (hst.bc2 z)) (wv (v2230) z z z ?_)))
 replace hst := hst.pull5
 obtain ⟨I2240, hI2241, f2242, hst⟩ := hst.own_fix
 replace hI0 := hI0.trans hI2241
 replace hL2089 := hL2089.trans hI2241
 obtain ⟨b2243, w2244, ew2245, eb2246, hst⟩ := hst.lits (E := (tySl ty_api_Pair)) (xs := [z2231]) [[v2230]] 105 1 z (Reps.cons ⟨_, z, f2242, one_of_sliceV (ro_sliceV f2242)⟩ Reps.nil)
 refine wl_run (v := (.slice (some ⟨b2243, 0, none⟩) 1 1)) (w' := w2244) z z (x_als (by obtain ⟨_, _, hv_, _⟩ := (ro_sliceV f2242); rw [hv_]; kernel_rfl) ew2245 eb2246) ?_
 obtain ⟨hg2248, hm⟩ := gd_some hm
 replace hst := hst.pull5
 obtain ⟨v2249, w2250, hr2251, hst⟩ := run_append elem_39 underlying39 hst hst.src1 (room_of hg2248 z) 39
 refine wl_run (v := v2249) (w' := w2250) z z (x_append z z hr2251) ?_
 refine wv (Pt b1430 4) z z (x_field z underlying41 z sizeOf39 z) ?_
 replace hst := hst.pull4
 obtain ⟨w2252, hr2253, hst⟩ := hst.boxStore1 (P := prog) (t := 39) (cs' := [I6 z1431, U6 z1432, U6 z1433, v1581, v2249]) 4 v2249 (one_of_sliceV hst.sv1) sizeOf39 z z
 refine wl_unit z z (x_unit hr2253) ?_
 refine wl_nil (blk_n (tn (wrl (wv (.int .i64 z2084) z z z (wv (.int .i64 (i64.wrap (z2084 + (1:Int)))) z z z (wv (.int .i64 (i64.wrap (z2084 + (1:Int)))) z z z (wl_nil (tn ?_))))))))
 replace hst := hst.pull5.pull1.pull5.pull5.pull4.keep5
 obtain rfl := some_inj hm
 exact ⟨_, Nat.lt_succ_self _, _, (z2080 ++ ([z2231])), z2228, (i64.wrap (z2084 + (1:Int))), v2249, _, hx2092, (fu 0 p0 z (fu 2 (Pt b1319 0) z (fu 4 (Pt b1430 0) z (fu 5 (.int .i64 (i64.wrap (Int.tdiv t1590.1 (2:Int)))) z (fu 7 (.int .i64 (i64.wrap (z2084 + (1:Int)))) z z))))), hL2089, hst⟩
}
}
 {
 replace hm := bif_f hc2094 hm
 refine wp_iff (cvb hc2094) ?_
 refine wp_exit (then_x (then_x ?_))
 replace hm := inr_up hm hx2092
 refine blk_x (tn (wp_seq (wrl ?_)))
 refine wv (.agg #[I6 z1431, U6 z1432, U6 z1433, v1581, v2081]) z z (x_loadN (cs := [I6 z1431, U6 z1432, U6 z1433, v1581, v2081]) z isAgg41 sizeOf41 (hst.bcs3 0 z)) ?_
 replace hst := hst.pull2
 obtain ⟨w2254, hr2255, hst⟩ := hst.bx [I6 z1431, U6 z1432, U6 z1433, v1581, v2081] sizeOf41 z (oC z (oC z (oC z (oC (one_of_sliceV hst.sv4) (oC (one_of_sliceV hst.sv1) oN))))) (by kernel_rfl)
 refine wl_unit z z (x_unit hr2255) ?_
 refine wl_nil (tn (wp_ret ?_))
 obtain rfl := some_inj hm
 refine post_ret (vs := [.agg #[I6 z1431, U6 z1432, U6 z1433, v1581, v2081]]) results31 (rvs_cons (rv_cell (cs := [I6 z1431, U6 z1432, U6 z1433, v1581, v2081]) z isAgg41 sizeOf41 (hst.bcs0 0 z)) rvs_nil) ?_
 replace hst := hst.pull2.pull2.pull4
 exact ⟨_, v1581, v2081, z, hI0, hst.keep3⟩
}
}
}
}

theorem ref13_OfWrites_ref {w0 w : World} {I : HL} {R : SP} {a0 : ref12_Tape} {p0 : Value}  (hst : St w0 w I [at_ref12_Tape p0 a0] R) {r : ((List api_Write) × ref12_Tape)} (hm : ref13_OfWrites a0 = some r) :
  Calls prog 33 #[p0] w fun e w' => ∃ (I' : HL) (q0_0 : Value), e = .returned (q0_0) ∧ I.le I' ∧ St w0 w' I' [ownS ty_api_Write q0_0 r.1, at_ref12_Tape p0 r.2] R := by {
 unfold ref13_OfWrites at hm
 refine calls_start (args := [p0]) func33 z ntmps33 (Nat.le_of_ble_eq_true z) ?_
 have hI0 := HL.le.refl I
 refine wp_seq (wrl (wv ((.slice none 0 0)) z z z (wl_nil (tn (wp_seq (wrl (wv ((.slice none 0 0)) z z z (wl_nil (tn (wp_seq (wrl (wv (p0) z z z ?_))))))))))))
 obtain ⟨t648, ht649, hm⟩ := bind_some hm
 refine wc call28 [p0, I6 (3:Int)] z z z ?_
 refine (ref12_Tape_Next_ref hst.to1 ht649).mono ?_
 rintro _ w650 ⟨rfl, hst⟩
 refine ⟨_, z, ?_⟩
 replace hst := hst.of1
 refine wv (.int .i64 t648.1) z z z (wl_nil (tn (wp_seq (wp_seq (wrl (wv (.int .i64 (0:Int)) z z z (wl_nil (tn (wp_block ?_)))))))))
 replace hst := hst.own_nil ty_api_Write
 obtain ⟨n821, hm⟩ := loopO_some hm
 refine wp_loop_n (fun n a w => ∃ (I819 : HL) (z814 : ref12_Tape) (z815 : (List api_Write)) (z818 : Int) (v816 : Value) (σ820 : Nat → Value), loopN (ref13_OfWrites_l0 t648) n (z814, z815, z818) = some r ∧ a = Fr 31 (upd (upd (upd (upd σ820 0 (p0)) 3 (v816)) 4 (.int .i64 t648.1)) 5 (.int .i64 z818)) ∧ I.le I819 ∧ St w0 w I819 [ownS ty_api_Write v816 z815, at_ref12_Tape p0 z814] R) n821 ⟨_, t648.2, [], (0:Int), Zs, _, hm, (fu 0 p0 z (fu 3 (.slice none 0 0) z (fu 4 (.int .i64 t648.1) z (fu 5 (.int .i64 (0:Int)) z z)))), (HL.le.refl _), hst⟩ ?_
 rintro n827 _ w822 ⟨I819, z814, z815, z818, v816, σ820, hm, rfl, hL823, hst⟩
 obtain ⟨n824, y825, rfl, hm, hx826⟩ := loopN_some hm
 dsimp only [ref13_OfWrites_l0] at hm
 replace hI0 := hI0.trans hL823
 refine wp_seq (wp_seq (wrl (wv (.int .i64 z818) z z z (wv (.int .i64 t648.1) z z z (wv (.bool (decide (z818 < t648.1))) z z z (wl_nil (tn ?_)))))))
 refine bsplit (decide (z818 < t648.1)) (fun hc828 => ?_) (fun hc828 => ?_)
 {
 replace hm := bif_t hc828 hm
 refine wp_ift (cvb hc828) ?_
 refine wp_skip (tn (wp_seq (wp_block (wp_seq (wrl ?_)))))
 refine wv (p0) z z z ?_
 replace hst := hst.pull1
 obtain ⟨t829, ht830, hm⟩ := bind_some hm
 refine wc call59 [p0] z z z ?_
 refine (ref12_Tape_Float_ref hst.to1 ht830).mono ?_
 rintro _ w831 ⟨rfl, hst⟩
 refine ⟨_, z, ?_⟩
 replace hst := hst.of1
 refine wv (p0) z z z ?_
 obtain ⟨t834, ht835, hm⟩ := bind_some hm
 refine wc call28 [p0, I6 (4:Int)] z z z ?_
 refine (ref12_Tape_Next_ref hst.to1 ht835).mono ?_
 rintro _ w836 ⟨rfl, hst⟩
 refine ⟨_, z, ?_⟩
 replace hst := hst.of1
 refine wv (.bool (t834.1 == (0:Int))) z z z (wv (.agg #[F6 t829.1, .bool (t834.1 == (0:Int)), Zs]) z z (by kernel_rfl) ?_)
 obtain ⟨b841, w842, ew843, eb844, hst⟩ := hst.box [Zf, .bool false, Zs] 120
 refine wl_run (v := Pt b841 0) (w' := w842) z z (x_al (by kernel_rfl) ew843 eb844) ?_
 obtain ⟨w846, hr847, hst⟩ := hst.bx [F6 t829.1, .bool (t834.1 == (0:Int)), Zs] sizeOf120 z (oC z (oC z (oC z oN))) (by kernel_rfl)
 refine wl_unit z z (x_unit hr847) ?_
 refine wl_nil (tn ?_)
 obtain ⟨y864, hm, hx865⟩ := bind_some hm
 refine wp_cut (fun a w => ∃ (z858 : ref12_Tape) (z861 : (List Int)) (v860 : Value) (σ862 : Nat → Value), (ref13_OfWrites_j1 z815 t829 t834 z818) (z858, z861) = some y825 ∧ a = Fr 31 (upd (upd (upd (upd (upd σ862 0 (p0)) 3 (v816)) 4 (.int .i64 t648.1)) 5 (.int .i64 z818)) 6 (Pt b841 0)) ∧ St w0 w I819 [at_ref12_Tape p0 z858, ownS ty_api_Write v816 z815, cells b841 [F6 t829.1, .bool (t834.1 == (0:Int)), v860], ownS (tyInt .u8) v860 z861] R) ?_ ?_
 {
 refine wp_seq (wrl (wv (Pt b841 1) z z (x_field z underlying120 z sizeOf4 z) (wv (.bool (t834.1 == (0:Int))) z z (x_load z isAgg4 (hst.bc0 z)) (wv (.bool (!(t834.1 == (0:Int)))) z z z (wl_nil (tn ?_))))))
 refine bsplit (!(t834.1 == (0:Int))) (fun hc848 => ?_) (fun hc848 => ?_)
 {
 replace hm := bif_t hc848 hm
 refine wp_ift (cvb hc848) ?_
 refine wrl (wv (p0) z z z ?_)
 replace hst := hst.pull1
 obtain ⟨t849, ht850, hm⟩ := bind_some hm
 refine wc call29 [p0] z z z ?_
 refine (ref12_Tape_Val_ref hst.to1 ht850).mono ?_
 rintro _ w851 ⟨v854, rfl, hst⟩
 refine ⟨_, z, ?_⟩
 replace hst := hst.of2
 refine wv (Pt b841 2) z z (x_field z underlying120 z sizeOf22 z) ?_
 replace hst := hst.pull2
 obtain ⟨w856, hr857, hst⟩ := hst.boxStore1 (P := prog) (t := 22) (cs' := [F6 t829.1, .bool (t834.1 == (0:Int)), v854]) 2 v854 (one_of_sliceV hst.sv1) sizeOf22 z z
 refine wl_unit z z (x_unit hr857) ?_
 refine wl_nil (tn ?_)
 replace hst := hst.pull1.pull1.pull3.pull3.keep4
 obtain rfl := some_inj hm
 exact ⟨t849.2, t849.1, v854, _, hx865, (fu 0 p0 z (fu 3 v816 z (fu 4 (.int .i64 t648.1) z (fu 5 (.int .i64 z818) z (fu 6 (Pt b841 0) z z))))), hst⟩
}
 {
 replace hm := bif_f hc848 hm
 refine wp_iff (cvb hc848) ?_
 refine wp_skip (tn ?_)
 replace hst := hst.own_nil (tyInt .u8)
 replace hst := hst.pull1.pull3.pull3.keep4
 obtain rfl := some_inj hm
 exact ⟨t834.2, ([]), Zs, _, hx865, (fu 0 p0 z (fu 3 v816 z (fu 4 (.int .i64 t648.1) z (fu 5 (.int .i64 z818) z (fu 6 (Pt b841 0) z z))))), hst⟩
}
}
 {
 clear hst
 rintro _ w866 ⟨z858, z861, v860, σ862, hm, rfl, hst⟩
 dsimp only [ref13_OfWrites_j1] at hm
 refine wrl (wv (v816) z z z (wv (.agg #[F6 t829.1, .bool (t834.1 == (0:Int)), v860]) z z (x_loadN (cs := [F6 t829.1, .bool (t834.1 == (0:Int)), v860]) z isAgg120 sizeOf120 (hst.bcs2 0 z)) ?_))
 replace hst := hst.pull3
 obtain ⟨I868, hI869, f870, hst⟩ := hst.own_fix
 replace hI0 := hI0.trans hI869
 replace hL823 := hL823.trans hI869
 obtain ⟨b871, w872, ew873, eb874, hst⟩ := hst.lits (E := ty_api_Write) (xs := [({ At := t829.1, Del := (t834.1 == (0:Int)), Val := z861 } : api_Write)]) [[F6 t829.1, .bool (t834.1 == (0:Int)), v860]] 120 1 z (Reps.cons ⟨_, z, f870, one_of_sliceV (ro_sliceV f870)⟩ Reps.nil)
 refine wl_run (v := (.slice (some ⟨b871, 0, none⟩) 1 1)) (w' := w872) z z (x_als (by kernel_rfl) ew873 eb874) ?_
 obtain ⟨hg876, hm⟩ := gd_some hm
 replace hst := hst.pull2
 obtain ⟨v877, w878, hr879, hst⟩ := run_append elem_42 underlying42 hst hst.src1 (room_of hg876 z) 42
 refine wl_run (v := v877) (w' := w878) z z (x_append z z hr879) ?_
 refine wv (v877) z z z (wl_nil (blk_n (tn (wrl (wv (.int .i64 z818) z z z (wv (.int .i64 (i64.wrap (z818 + (1:Int)))) z z z (wv (.int .i64 (i64.wrap (z818 + (1:Int)))) z z z (wl_nil (tn ?_)))))))))
 replace hst := hst.pull2.pull1.keep2
 obtain rfl := some_inj hm
 exact ⟨_, Nat.lt_succ_self _, _, z858, (z815 ++ ([({ At := t829.1, Del := (t834.1 == (0:Int)), Val := z861 } : api_Write)])), (i64.wrap (z818 + (1:Int))), v877, _, hx826, (fu 0 p0 z (fu 3 v877 z (fu 4 (.int .i64 t648.1) z (fu 5 (.int .i64 (i64.wrap (z818 + (1:Int)))) z z)))), hL823, hst⟩
}
}
 {
 replace hm := bif_f hc828 hm
 refine wp_iff (cvb hc828) ?_
 refine wp_exit (then_x (then_x ?_))
 replace hm := inr_up hm hx826
 refine blk_x (tn (wp_seq (wrl ?_)))
 refine wv (v816) z z z (wv (v816) z z z (wl_nil (tn (wp_ret ?_))))
 obtain rfl := some_inj hm
 refine post_ret (vs := [v816]) results33 (rvs_cons (rv_tmp z) rvs_nil) ?_
 replace hst := hst.pull1.pull1
 exact ⟨_, v816, z, hI0, hst.keep2⟩
}
}

theorem law17_make1_ref {w0 w : World} {I : HL} {R : SP} {a0 : ref12_Tape} {p0 : Value}  (hst : St w0 w I [at_ref12_Tape p0 a0] R) {r : (api_Mail × ref12_Tape)} (hm : law17_make1 a0 = some r) :
  Calls prog 9 #[p0] w fun e w' => ∃ (I' : HL) (q0_0 : Value) (q0_1 : Value) (q0_2 : Value) (q0_3 : Value) (q0_4 : Value) (q0_5 : Value) (q0_6 : Value) (q0_7 : Value) (q0_8 : Value) (q0_9 : Value) (q0_10 : Value) (q0_11 : Value) (q0_12 : Value) (q0_13 : Value) (q0_14 : Value) (q0_15 : Value), e = .returned (.agg #[U1 r.1.Kind, U1 r.1.M.Kind, I6 r.1.M.From, I6 r.1.M.To, U6 r.1.M.Term, U6 r.1.M.Index, U6 r.1.M.LogTerm, U6 r.1.M.Commit, .bool r.1.M.OK, q0_0, U6 r.1.M.S.Index, U6 r.1.M.S.Term, U6 r.1.M.S.Voters, q0_1, U6 r.1.H.ID.Session, U6 r.1.H.ID.Seq, U6 r.1.H.Epoch, q0_2, q0_3, q0_4, q0_5, U6 r.1.ID.Session, U6 r.1.ID.Seq, I6 r.1.R.E, U6 r.1.R.Epoch, U6 r.1.R.Index, q0_6, q0_7, U1 r.1.C.Kind, U6 r.1.C.ID.Session, U6 r.1.C.ID.Seq, U6 r.1.C.Epoch, U6 r.1.C.Index, I6 r.1.C.E, U6 r.1.C.Hold.ID.Session, U6 r.1.C.Hold.ID.Seq, U6 r.1.C.Hold.Epoch, q0_8, q0_9, q0_10, q0_11, q0_12, I6 r.1.C.R.E, U6 r.1.C.R.Epoch, U6 r.1.C.R.Index, q0_13, q0_14, U6 r.1.C.Shards, q0_15, U6 r.1.C.Rule.ID, I6 r.1.C.Rule.From, I6 r.1.C.Rule.To, F6 r.1.C.Rule.Lo, F6 r.1.C.Rule.Hi, U6 r.1.C.Rule.Authority, I6 r.1.C.Rule.Quota, .bool r.1.C.On]) ∧ I.le I' ∧ St w0 w' I' [ownS ty_api_Entry q0_0 r.1.M.Entries, ownS (tyInt .u8) q0_1 r.1.M.S.Data, ownS tyF64 q0_2 r.1.H.Gets, ownS tyF2 q0_3 r.1.H.Scans, ownS tyF64 q0_4 r.1.H.Puts, ownS (tyInt .u8) q0_5 r.1.H.Data, ownS ty_api_Got q0_6 r.1.R.Gots, ownS (tySl ty_api_Pair) q0_7 r.1.R.Scans, ownS tyF64 q0_8 r.1.C.Hold.Gets, ownS tyF2 q0_9 r.1.C.Hold.Scans, ownS tyF64 q0_10 r.1.C.Hold.Puts, ownS (tyInt .u8) q0_11 r.1.C.Hold.Data, ownS ty_api_Write q0_12 r.1.C.Writes, ownS ty_api_Got q0_13 r.1.C.R.Gots, ownS (tySl ty_api_Pair) q0_14 r.1.C.R.Scans, ownS ty_api_Part q0_15 r.1.C.Parts, at_ref12_Tape p0 r.2] R := by {
 unfold law17_make1 at hm
 refine calls_start (args := [p0]) func9 z ntmps9 (Nat.le_of_ble_eq_true z) ?_
 have hI0 := HL.le.refl I
 refine wp_seq (wrl ?_)
 obtain ⟨b458, w459, ew460, eb461, hst⟩ := hst.box [Zb, Zb, Zi, Zi, Zu, Zu, Zu, Zu, .bool false, Zs, Zu, Zu, Zu, Zs, Zu, Zu, Zu, Zs, Zs, Zs, Zs, Zu, Zu, Zi, Zu, Zu, Zs, Zs, Zb, Zu, Zu, Zu, Zu, Zi, Zu, Zu, Zu, Zs, Zs, Zs, Zs, Zs, Zi, Zu, Zu, Zs, Zs, Zu, Zs, Zu, Zi, Zi, Zf, Zf, Zu, Zi, .bool false] 50
 refine wl_run (v := Pt b458 0) (w' := w459) z z (x_al (by kernel_rfl) ew460 eb461) ?_
 refine wl_nil (tn (wp_seq (wrl (wv (p0) z z z ?_))))
 replace hst := hst.pull1
 obtain ⟨t463, ht464, hm⟩ := bind_some hm
 refine wc call28 [p0, I6 (6:Int)] z z z ?_
 refine (ref12_Tape_Next_ref hst.to1 ht464).mono ?_
 rintro _ w465 ⟨rfl, hst⟩
 refine ⟨_, z, ?_⟩
 replace hst := hst.of1
 refine wv (.int .i64 (i64.wrap ((1:Int) + t463.1))) z z z (wv (.int .u8 (u8.wrap (i64.wrap ((1:Int) + t463.1)))) z z (by kernel_rfl) (wv (.agg #[U1 (u8.wrap (i64.wrap ((1:Int) + t463.1))), Zb, Zi, Zi, Zu, Zu, Zu, Zu, .bool false, Zs, Zu, Zu, Zu, Zs, Zu, Zu, Zu, Zs, Zs, Zs, Zs, Zu, Zu, Zi, Zu, Zu, Zs, Zs, Zb, Zu, Zu, Zu, Zu, Zi, Zu, Zu, Zu, Zs, Zs, Zs, Zs, Zs, Zi, Zu, Zu, Zs, Zs, Zu, Zs, Zu, Zi, Zi, Zf, Zf, Zu, Zi, .bool false]) z z (by kernel_rfl) ?_))
 obtain ⟨b500, w501, ew502, eb503, hst⟩ := hst.box [Zb, Zb, Zi, Zi, Zu, Zu, Zu, Zu, .bool false, Zs, Zu, Zu, Zu, Zs, Zu, Zu, Zu, Zs, Zs, Zs, Zs, Zu, Zu, Zi, Zu, Zu, Zs, Zs, Zb, Zu, Zu, Zu, Zu, Zi, Zu, Zu, Zu, Zs, Zs, Zs, Zs, Zs, Zi, Zu, Zu, Zs, Zs, Zu, Zs, Zu, Zi, Zi, Zf, Zf, Zu, Zi, .bool false] 50
 refine wl_run (v := Pt b500 0) (w' := w501) z z (x_al (by kernel_rfl) ew502 eb503) ?_
 obtain ⟨w505, hr506, hst⟩ := hst.bx [U1 (u8.wrap (i64.wrap ((1:Int) + t463.1))), Zb, Zi, Zi, Zu, Zu, Zu, Zu, .bool false, Zs, Zu, Zu, Zu, Zs, Zu, Zu, Zu, Zs, Zs, Zs, Zs, Zu, Zu, Zi, Zu, Zu, Zs, Zs, Zb, Zu, Zu, Zu, Zu, Zi, Zu, Zu, Zu, Zs, Zs, Zs, Zs, Zs, Zi, Zu, Zu, Zs, Zs, Zu, Zs, Zu, Zi, Zi, Zf, Zf, Zu, Zi, .bool false] sizeOf50 z (oC z (oC z (oC z (oC z (oC z (oC z (oC z (oC z (oC z (oC z (oC z (oC z (oC z (oC z (oC z (oC z (oC z (oC z (oC z (oC z (oC z (oC z (oC z (oC z (oC z (oC z (oC z (oC z (oC z (oC z (oC z (oC z (oC z (oC z (oC z (oC z (oC z (oC z (oC z (oC z (oC z (oC z (oC z (oC z (oC z (oC z (oC z (oC z (oC z (oC z (oC z (oC z (oC z (oC z (oC z (oC z (oC z oN))))))))))))))))))))))))))))))))))))))))))))))))))))))))) (by kernel_rfl)
 refine wl_unit z z (x_unit hr506) ?_
 refine wl_nil (tn (wp_seq (wp_seq (wrl (wv (Pt b500 0) z z (x_field z underlying50 z sizeOf5 z) (wv (.int .u8 (u8.wrap (i64.wrap ((1:Int) + t463.1)))) z z (x_load z isAgg5 (hst.bc0 z)) (wl_nil (tn (wp_block (wp_seq (wrl (wv (.bool ((u8.wrap (i64.wrap ((1:Int) + t463.1))) == (1:Int))) z z z (wv (.bool ((u8.wrap (i64.wrap ((1:Int) + t463.1))) == (1:Int))) z z z (wl_nil (tn ?_)))))))))))))))
 refine bsplit ((u8.wrap (i64.wrap ((1:Int) + t463.1))) == (1:Int)) (fun hc507 => ?_) (fun hc507 => ?_)
 {
 replace hm := bif_t hc507 hm
 refine wp_ift (cvb hc507) ?_
 refine wp_seq (wrl (wv (p0) z z z ?_))
 replace hst := hst.pull1
 obtain ⟨t508, ht509, hm⟩ := bind_some hm
 refine wc call28 [p0, I6 (7:Int)] z z z ?_
 refine (ref12_Tape_Next_ref hst.to1 ht509).mono ?_
 rintro _ w510 ⟨rfl, hst⟩
 refine ⟨_, z, ?_⟩
 replace hst := hst.of1
 refine wv (.int .i64 (i64.wrap ((1:Int) + t508.1))) z z z (wv (.int .u8 (u8.wrap (i64.wrap ((1:Int) + t508.1)))) z z (by kernel_rfl) (wv (p0) z z z ?_))
 obtain ⟨t513, ht514, hm⟩ := bind_some hm
 refine wc call28 [p0, I6 (5:Int)] z z z ?_
 refine (ref12_Tape_Next_ref hst.to1 ht514).mono ?_
 rintro _ w515 ⟨rfl, hst⟩
 refine ⟨_, z, ?_⟩
 replace hst := hst.of1
 refine wv (p0) z z z ?_
 obtain ⟨t518, ht519, hm⟩ := bind_some hm
 refine wc call28 [p0, I6 (5:Int)] z z z ?_
 refine (ref12_Tape_Next_ref hst.to1 ht519).mono ?_
 rintro _ w520 ⟨rfl, hst⟩
 refine ⟨_, z, ?_⟩
 replace hst := hst.of1
 refine wv (p0) z z z ?_
 obtain ⟨t523, ht524, hm⟩ := bind_some hm
 refine wc call28 [p0, I6 (250:Int)] z z z ?_
 refine (ref12_Tape_Next_ref hst.to1 ht524).mono ?_
 rintro _ w525 ⟨rfl, hst⟩
 refine ⟨_, z, ?_⟩
 replace hst := hst.of1
 refine wv (.int .u64 (u64.wrap t523.1)) z z (by kernel_rfl) (wv (p0) z z z ?_)
 obtain ⟨t528, ht529, hm⟩ := bind_some hm
 refine wc call28 [p0, I6 (250:Int)] z z z ?_
 refine (ref12_Tape_Next_ref hst.to1 ht529).mono ?_
 rintro _ w530 ⟨rfl, hst⟩
 refine ⟨_, z, ?_⟩
 replace hst := hst.of1
 refine wv (.int .u64 (u64.wrap t528.1)) z z (by kernel_rfl) (wv (p0) z z z ?_)
 obtain ⟨t533, ht534, hm⟩ := bind_some hm
 refine wc call28 [p0, I6 (9:Int)] z z z ?_
 refine (ref12_Tape_Next_ref hst.to1 ht534).mono ?_
 rintro _ w535 ⟨rfl, hst⟩
 refine ⟨_, z, ?_⟩
 replace hst := hst.of1
 refine wv (.int .u64 (u64.wrap t533.1)) z z (by kernel_rfl) (wv (p0) z z z ?_)
 obtain ⟨t538, ht539, hm⟩ := bind_some hm
 refine wc call28 [p0, I6 (99:Int)] z z z ?_
 refine (ref12_Tape_Next_ref hst.to1 ht539).mono ?_
 rintro _ w540 ⟨rfl, hst⟩
 refine ⟨_, z, ?_⟩
 replace hst := hst.of1
 refine wv (.int .u64 (u64.wrap t538.1)) z z (by kernel_rfl) (wv (p0) z z z ?_)
 obtain ⟨t543, ht544, hm⟩ := bind_some hm
 refine wc call28 [p0, I6 (2:Int)] z z z ?_
 refine (ref12_Tape_Next_ref hst.to1 ht544).mono ?_
 rintro _ w545 ⟨rfl, hst⟩
 refine ⟨_, z, ?_⟩
 replace hst := hst.of1
 refine wv (.bool (t543.1 == (0:Int))) z z z (wv (.agg #[U1 (u8.wrap (i64.wrap ((1:Int) + t508.1))), I6 t513.1, I6 t518.1, U6 (u64.wrap t523.1), U6 (u64.wrap t528.1), U6 (u64.wrap t533.1), U6 (u64.wrap t538.1), .bool (t543.1 == (0:Int)), Zs, Zu, Zu, Zu, Zs]) z z (by kernel_rfl) (wv (Pt b500 1) z z (x_field z underlying50 z sizeOf30 z) ?_))
 replace hst := hst.pull1
 obtain ⟨w550, hr551, hst⟩ := hst.by_ [U1 (u8.wrap (i64.wrap ((1:Int) + t463.1))), U1 (u8.wrap (i64.wrap ((1:Int) + t508.1))), I6 t513.1, I6 t518.1, U6 (u64.wrap t523.1), U6 (u64.wrap t528.1), U6 (u64.wrap t533.1), U6 (u64.wrap t538.1), .bool (t543.1 == (0:Int)), Zs, Zu, Zu, Zu, Zs, Zu, Zu, Zu, Zs, Zs, Zs, Zs, Zu, Zu, Zi, Zu, Zu, Zs, Zs, Zb, Zu, Zu, Zu, Zu, Zi, Zu, Zu, Zu, Zs, Zs, Zs, Zs, Zs, Zi, Zu, Zu, Zs, Zs, Zu, Zs, Zu, Zi, Zi, Zf, Zf, Zu, Zi, .bool false] 1 (.agg #[U1 (u8.wrap (i64.wrap ((1:Int) + t508.1))), I6 t513.1, I6 t518.1, U6 (u64.wrap t523.1), U6 (u64.wrap t528.1), U6 (u64.wrap t533.1), U6 (u64.wrap t538.1), .bool (t543.1 == (0:Int)), Zs, Zu, Zu, Zu, Zs]) sizeOf30 z (oC z (oC z (oC z (oC z (oC z (oC z (oC z (oC z (oC z (oC z (oC z (oC z (oC z oN))))))))))))) (by kernel_rfl)
 refine wl_unit z z (x_unit hr551) ?_
 refine wl_nil (tn (wp_seq (wrl (wv (p0) z z z ?_))))
 replace hst := hst.pull1
 obtain ⟨t552, ht553, hm⟩ := bind_some hm
 refine wc call28 [p0, I6 (4:Int)] z z z ?_
 refine (ref12_Tape_Next_ref hst.to1 ht553).mono ?_
 rintro _ w554 ⟨rfl, hst⟩
 refine ⟨_, z, ?_⟩
 replace hst := hst.of1
 refine wv (.int .i64 t552.1) z z z (wl_nil (tn ?_))
 obtain ⟨y719, hm, hx720⟩ := bind_some hm
 refine wp_cut (fun a w => ∃ (I716 : HL) (z712 : ref12_Tape) (z715 : (List api_Entry)) (v714 : Value) (σ717 : Nat → Value), (law17_make1_j0 t463 t508 t513 t518 t523 t528 t533 t538 t543) (z712, z715) = some r ∧ a = Fr 115 (upd (upd (upd σ717 0 (p0)) 2 (Pt b458 0)) 3 (Pt b500 0)) ∧ I.le I716 ∧ St w0 w I716 [at_ref12_Tape p0 z712, cells b458 [Zb, Zb, Zi, Zi, Zu, Zu, Zu, Zu, .bool false, Zs, Zu, Zu, Zu, Zs, Zu, Zu, Zu, Zs, Zs, Zs, Zs, Zu, Zu, Zi, Zu, Zu, Zs, Zs, Zb, Zu, Zu, Zu, Zu, Zi, Zu, Zu, Zu, Zs, Zs, Zs, Zs, Zs, Zi, Zu, Zu, Zs, Zs, Zu, Zs, Zu, Zi, Zi, Zf, Zf, Zu, Zi, .bool false], cells b500 [U1 (u8.wrap (i64.wrap ((1:Int) + t463.1))), U1 (u8.wrap (i64.wrap ((1:Int) + t508.1))), I6 t513.1, I6 t518.1, U6 (u64.wrap t523.1), U6 (u64.wrap t528.1), U6 (u64.wrap t533.1), U6 (u64.wrap t538.1), .bool (t543.1 == (0:Int)), v714, Zu, Zu, Zu, Zs, Zu, Zu, Zu, Zs, Zs, Zs, Zs, Zu, Zu, Zi, Zu, Zu, Zs, Zs, Zb, Zu, Zu, Zu, Zu, Zi, Zu, Zu, Zu, Zs, Zs, Zs, Zs, Zs, Zi, Zu, Zu, Zs, Zs, Zu, Zs, Zu, Zi, Zi, Zf, Zf, Zu, Zi, .bool false], ownS ty_api_Entry v714 z715] R) ?_ ?_
 {
 have hL721 := HL.le.refl I
 refine wp_seq (wrl (wv (.int .i64 (0:Int)) z z z (wl_nil (tn (wp_block ?_)))))
 replace hst := hst.own_nil ty_api_Entry
 obtain ⟨n671, hm⟩ := loopO_some hm
 refine wp_loop_n (fun n a w => ∃ (I669 : HL) (z664 : (List api_Entry)) (z667 : ref12_Tape) (z668 : Int) (v665 : Value) (σ670 : Nat → Value), loopN (law17_make1_l1 t552) n (z664, z667, z668) = some y719 ∧ a = Fr 115 (upd (upd (upd (upd (upd σ670 0 (p0)) 2 (Pt b458 0)) 3 (Pt b500 0)) 4 (.int .i64 t552.1)) 5 (.int .i64 z668)) ∧ I.le I669 ∧ St w0 w I669 [ownS ty_api_Entry v665 z664, at_ref12_Tape p0 z667, cells b500 [U1 (u8.wrap (i64.wrap ((1:Int) + t463.1))), U1 (u8.wrap (i64.wrap ((1:Int) + t508.1))), I6 t513.1, I6 t518.1, U6 (u64.wrap t523.1), U6 (u64.wrap t528.1), U6 (u64.wrap t533.1), U6 (u64.wrap t538.1), .bool (t543.1 == (0:Int)), v665, Zu, Zu, Zu, Zs, Zu, Zu, Zu, Zs, Zs, Zs, Zs, Zu, Zu, Zi, Zu, Zu, Zs, Zs, Zb, Zu, Zu, Zu, Zu, Zi, Zu, Zu, Zu, Zs, Zs, Zs, Zs, Zs, Zi, Zu, Zu, Zs, Zs, Zu, Zs, Zu, Zi, Zi, Zf, Zf, Zu, Zi, .bool false], cells b458 [Zb, Zb, Zi, Zi, Zu, Zu, Zu, Zu, .bool false, Zs, Zu, Zu, Zu, Zs, Zu, Zu, Zu, Zs, Zs, Zs, Zs, Zu, Zu, Zi, Zu, Zu, Zs, Zs, Zb, Zu, Zu, Zu, Zu, Zi, Zu, Zu, Zu, Zs, Zs, Zs, Zs, Zs, Zi, Zu, Zu, Zs, Zs, Zu, Zs, Zu, Zi, Zi, Zf, Zf, Zu, Zi, .bool false]] R) n671 ⟨_, [], t552.2, (0:Int), Zs, _, hm, (fu 0 p0 z (fu 2 (Pt b458 0) z (fu 3 (Pt b500 0) z (fu 4 (.int .i64 t552.1) z (fu 5 (.int .i64 (0:Int)) z z))))), (HL.le.refl _), hst⟩ ?_
 rintro n677 _ w672 ⟨I669, z664, z667, z668, v665, σ670, hm, rfl, hL673, hst⟩
 obtain ⟨n674, y675, rfl, hm, hx676⟩ := loopN_some hm
 dsimp only [law17_make1_l1] at hm
 replace hI0 := hI0.trans hL673
 replace hL721 := hL721.trans hL673
 refine wp_seq (wp_seq (wrl (wv (.int .i64 z668) z z z (wv (.int .i64 t552.1) z z z (wv (.bool (decide (z668 < t552.1))) z z z (wl_nil (tn ?_)))))))
 refine bsplit (decide (z668 < t552.1)) (fun hc678 => ?_) (fun hc678 => ?_)
 {
 replace hm := bif_t hc678 hm
 refine wp_ift (cvb hc678) ?_
 refine wp_skip (tn (wp_seq (wp_block ?_)))
 refine wp_region_St hst 19 [0, 1, 2, 3, 4, 5, 6, 7, 8, 9, 10, 11, 12, 13, 14, 15, 16, 17, 18] [0, 1, 3, 0, 8, 0, 32, 96, 0, 352, 864, 0, 2912, 8184, 16376, 32767, 65535, 131071, 262143] [] z (by kernel_rfl) (by kernel_rfl) Try.mixed (by kernel_rfl) ?_
 refine wsr (Pt b500 1) 0 z z z (by kernel_rfl) (fun w hst => x_field z underlying50 z sizeOf30 z) (wsr (Pt b500 9) 1 z z z (by kernel_rfl) (fun w hst => x_field z underlying30 z sizeOf26 z) (wsr (v665) 2 z z z (by kernel_rfl) (fun w hst => x_load z isAgg26 (hst.bc2 z)) (wsr (.int .i64 z668) 3 z z z (by kernel_rfl) (fun w hst => z) (wsr (.int .u64 (u64.wrap z668)) 4 z z z (by kernel_rfl) (fun w hst => by kernel_rfl) (wsr (p0) 5 z z z (by kernel_rfl) (fun w hst => z) (wsr (p0) 8 z z z (by kernel_rfl) (fun w hst => z) (wsr (p0) 11 z z z (by kernel_rfl) (fun w hst => z) ?_)))))))
 refine ws_e1 6 (by kernel_rfl) ?_
 refine nxe [7, 9, 10, 12, 13, 14, 15, 16, 17, 18] (by kernel_rfl) z z ?_
 clear hst
 intro w hst
 replace hst := hst.pull1
 obtain ⟨t679, ht680, hm⟩ := bind_some hm
 refine wec call28 [p0, I6 (9:Int)] z z ?_
 refine (ref12_Tape_Next_ref hst.to1 ht680).mono ?_
 rintro _ w681 ⟨rfl, hst⟩
 refine ⟨_, z, ?_⟩
 replace hst := hst.of1
 refine ws_next (pend' := [(11, p0), (8, p0), (4, U6 (u64.wrap z668)), (3, I6 z668), (2, v665), (1, Pt b500 9), (0, Pt b500 1)]) hst (by kernel_rfl) (pkr z z (fun w hst => z) (pkr z z (fun w hst => z) (pkr z z (fun w hst => by kernel_rfl) (pkr z z (fun w hst => z) (pkr z z (fun w hst => x_load z isAgg26 (hst.bc2 z)) (pkr z z (fun w hst => x_field z underlying30 z sizeOf26 z) (pkr z z (fun w hst => x_field z underlying50 z sizeOf30 z) pk_nil))))))) ?_
 refine wsr (.int .u64 (u64.wrap t679.1)) 7 z z z (by kernel_rfl) (fun w hst => by kernel_rfl) ?_
 refine ws_e1 9 (by kernel_rfl) ?_
 refine nxe [10, 12, 13, 14, 15, 16, 17, 18] (by kernel_rfl) z z ?_
 clear hst
 intro w hst
 obtain ⟨t684, ht685, hm⟩ := bind_some hm
 refine wec call28 [p0, I6 (2:Int)] z z ?_
 refine (ref12_Tape_Next_ref hst.to1 ht685).mono ?_
 rintro _ w686 ⟨rfl, hst⟩
 refine ⟨_, z, ?_⟩
 replace hst := hst.of1
 refine ws_next (pend' := [(7, U6 (u64.wrap t679.1)), (11, p0), (4, U6 (u64.wrap z668)), (3, I6 z668), (2, v665), (1, Pt b500 9), (0, Pt b500 1)]) hst (by kernel_rfl) (pkr z z (fun w hst => by kernel_rfl) (pkr z z (fun w hst => z) (pkr z z (fun w hst => by kernel_rfl) (pkr z z (fun w hst => z) (pkr z z (fun w hst => x_load z isAgg26 (hst.bc2 z)) (pkr z z (fun w hst => x_field z underlying30 z sizeOf26 z) (pkr z z (fun w hst => x_field z underlying50 z sizeOf30 z) pk_nil))))))) ?_
 refine wsr (.int .u8 (u8.wrap t684.1)) 10 z z z (by kernel_rfl) (fun w hst => by kernel_rfl) ?_
 refine ws_e1 12 (by kernel_rfl) ?_
 refine nxe [13, 14, 15, 16, 17, 18] (by kernel_rfl) z z ?_
 clear hst
 intro w hst
 obtain ⟨t689, ht690, hm⟩ := bind_some hm
 refine wec call29 [p0] z z ?_
 refine (ref12_Tape_Val_ref hst.to1 ht690).mono ?_
 rintro _ w691 ⟨v694, rfl, hst⟩
 refine ⟨_, z, ?_⟩
 replace hst := hst.of2
 refine ws_next (pend' := [(10, U1 (u8.wrap t684.1)), (7, U6 (u64.wrap t679.1)), (4, U6 (u64.wrap z668)), (3, I6 z668), (2, v665), (1, Pt b500 9), (0, Pt b500 1)]) hst (by kernel_rfl) (pkr z z (fun w hst => by kernel_rfl) (pkr z z (fun w hst => by kernel_rfl) (pkr z z (fun w hst => by kernel_rfl) (pkr z z (fun w hst => z) (pkr z z (fun w hst => x_load z isAgg26 (hst.bc3 z)) (pkr z z (fun w hst => x_field z underlying30 z sizeOf26 z) (pkr z z (fun w hst => x_field z underlying50 z sizeOf30 z) pk_nil))))))) ?_
 refine wsr (.agg #[U6 (u64.wrap z668), U6 (u64.wrap t679.1), U1 (u8.wrap t684.1), v694]) 13 rfl rfl rfl (by kernel_rfl) (fun w hst => by obtain ⟨_, _, hv_, _⟩ := hst.sv0; rw [hv_]; kernel_rfl) ?_
 refine ws_e1 14 (by kernel_rfl) ?_
 refine nxe [15, 16, 17, 18] (by kernel_rfl) z z ?_
 clear hst
 intro w hst
 obtain ⟨I698, hI699, f700, hst⟩ := hst.own_fix
 replace hI0 := hI0.trans hI699
 replace hL721 := hL721.trans hI699
 replace hL673 := hL673.trans hI699
 obtain ⟨b701, w702, ew703, eb704, hst⟩ := hst.lits (E := ty_api_Entry) (xs := [({ Index := (u64.wrap z668), Term := (u64.wrap t679.1), Kind := (u8.wrap t684.1), Data := t689.1 } : api_Entry)]) [[U6 (u64.wrap z668), U6 (u64.wrap t679.1), U1 (u8.wrap t684.1), v694]] 84 1 z (Reps.cons ⟨_, z, f700, one_of_sliceV (ro_sliceV f700)⟩ Reps.nil)
 refine we_run (v := (.slice (some ⟨b701, 0, none⟩) 1 1)) (w' := w702) z (x_als (by kernel_rfl) ew703 eb704) ?_
 refine ws_next (pend' := [(2, v665), (1, Pt b500 9), (0, Pt b500 1)]) hst (by kernel_rfl) (pkr z z (fun w hst => x_load z isAgg26 (hst.bc3 z)) (pkr z z (fun w hst => x_field z underlying30 z sizeOf26 z) (pkr z z (fun w hst => x_field z underlying50 z sizeOf30 z) pk_nil))) ?_
 refine ws_e1 15 (by kernel_rfl) ?_
 refine nxe [16, 17, 18] (by kernel_rfl) z z ?_
 clear hst
 intro w hst
 obtain ⟨hg706, hm⟩ := gd_some hm
 replace hst := hst.pull2
 obtain ⟨v707, w708, hr709, hst⟩ := run_append elem_26 underlying26 hst hst.src1 (room_of hg706 z) 26
 refine we_run (v := v707) (w' := w708) z (x_append z z hr709) ?_
 refine ws_next (pend' := []) hst (by kernel_rfl) pk_nil ?_
 refine wsr (Pt b500 1) 16 z z z (by kernel_rfl) (fun w hst => x_field z underlying50 z sizeOf30 z) (wsr (Pt b500 9) 17 z z z (by kernel_rfl) (fun w hst => x_field z underlying30 z sizeOf26 z) ?_)
 refine ws_e1 18 (by kernel_rfl) ?_
 refine nxe [] (by kernel_rfl) z z ?_
 clear hst
 intro w hst
 replace hst := hst.pull3
 obtain ⟨w710, hr711, hst⟩ := hst.boxStore1 (P := prog) (t := 26) (cs' := [U1 (u8.wrap (i64.wrap ((1:Int) + t463.1))), U1 (u8.wrap (i64.wrap ((1:Int) + t508.1))), I6 t513.1, I6 t518.1, U6 (u64.wrap t523.1), U6 (u64.wrap t528.1), U6 (u64.wrap t533.1), U6 (u64.wrap t538.1), .bool (t543.1 == (0:Int)), v707, Zu, Zu, Zu, Zs, Zu, Zu, Zu, Zs, Zs, Zs, Zs, Zu, Zu, Zi, Zu, Zu, Zs, Zs, Zb, Zu, Zu, Zu, Zu, Zi, Zu, Zu, Zu, Zs, Zs, Zs, Zs, Zs, Zi, Zu, Zu, Zs, Zs, Zu, Zs, Zu, Zi, Zi, Zf, Zf, Zu, Zi, .bool false]) 9 v707 (one_of_sliceV hst.sv1) sizeOf26 z z
 refine we_unit z (x_unit hr711) ?_
 refine ws_next (pend' := []) hst (by kernel_rfl) pk_nil ?_
 refine ws_nil ?_
 intro w hst
 refine blk_n (tn (wrl ?_))
 refine wv (.int .i64 z668) z z z (wv (.int .i64 (i64.wrap (z668 + (1:Int)))) z z z (wv (.int .i64 (i64.wrap (z668 + (1:Int)))) z z z (wl_nil (tn ?_))))
 replace hst := hst.pull4.pull1.pull4.pull3.keep4
 obtain rfl := some_inj hm
 exact ⟨_, Nat.lt_succ_self _, _, (z664 ++ ([({ Index := (u64.wrap z668), Term := (u64.wrap t679.1), Kind := (u8.wrap t684.1), Data := t689.1 } : api_Entry)])), t689.2, (i64.wrap (z668 + (1:Int))), v707, _, hx676, (fu 0 p0 z (fu 2 (Pt b458 0) z (fu 3 (Pt b500 0) z (fu 4 (.int .i64 t552.1) z (fu 5 (.int .i64 (i64.wrap (z668 + (1:Int)))) z z))))), hL673, hst⟩
}
 {
 replace hm := bif_f hc678 hm
 refine wp_iff (cvb hc678) ?_
 refine wp_exit (then_x (then_x ?_))
 replace hm := inr_up hm hx676
 refine blk_x (tn ?_)
 replace hst := hst.pull2.pull3.pull3.keep4
 obtain rfl := some_inj hm
 exact ⟨_, z667, z664, v665, _, hx720, (fu 0 p0 z (fu 2 (Pt b458 0) z (fu 3 (Pt b500 0) z z))), hL721, hst⟩
}
}
 {
 clear hst
 rintro _ w722 ⟨I716, z712, z715, v714, σ717, hm, rfl, hL718, hst⟩
 dsimp only [law17_make1_j0] at hm
 replace hI0 := hI0.trans hL718
 refine wrl (wv (p0) z z z ?_)
 obtain ⟨t723, ht724, hm⟩ := bind_some hm
 refine wc call28 [p0, I6 (9:Int)] z z z ?_
 refine (ref12_Tape_Next_ref hst.to1 ht724).mono ?_
 rintro _ w725 ⟨rfl, hst⟩
 refine ⟨_, z, ?_⟩
 replace hst := hst.of1
 refine wv (.int .u64 (u64.wrap t723.1)) z z (by kernel_rfl) (wv (p0) z z z ?_)
 obtain ⟨t728, ht729, hm⟩ := bind_some hm
 refine wc call28 [p0, I6 (9:Int)] z z z ?_
 refine (ref12_Tape_Next_ref hst.to1 ht729).mono ?_
 rintro _ w730 ⟨rfl, hst⟩
 refine ⟨_, z, ?_⟩
 replace hst := hst.of1
 refine wv (.int .u64 (u64.wrap t728.1)) z z (by kernel_rfl) (wv (p0) z z z ?_)
 obtain ⟨t733, ht734, hm⟩ := bind_some hm
 refine wc call28 [p0, I6 (9:Int)] z z z ?_
 refine (ref12_Tape_Next_ref hst.to1 ht734).mono ?_
 rintro _ w735 ⟨rfl, hst⟩
 refine ⟨_, z, ?_⟩
 replace hst := hst.of1
 refine wv (.int .u64 (u64.wrap t733.1)) z z (by kernel_rfl) (wv (p0) z z z ?_)
 obtain ⟨t738, ht739, hm⟩ := bind_some hm
 refine wc call29 [p0] z z z ?_
 refine (ref12_Tape_Val_ref hst.to1 ht739).mono ?_
 rintro _ w740 ⟨v743, rfl, hst⟩
 refine ⟨_, z, ?_⟩
 replace hst := hst.of2
 refine wv (.agg #[U6 (u64.wrap t723.1), U6 (u64.wrap t728.1), U6 (u64.wrap t733.1), v743]) z z (by obtain ⟨_, _, hv_, _⟩ := hst.sv0; rw [hv_]; kernel_rfl) (wv (Pt b500 1) z z (x_field z underlying50 z sizeOf30 z) (wv (Pt b500 10) z z (x_field z underlying30 z sizeOf28 z) ?_))
 replace hst := hst.pull3
 obtain ⟨w746, hr747, hst⟩ := hst.by_ [U1 (u8.wrap (i64.wrap ((1:Int) + t463.1))), U1 (u8.wrap (i64.wrap ((1:Int) + t508.1))), I6 t513.1, I6 t518.1, U6 (u64.wrap t523.1), U6 (u64.wrap t528.1), U6 (u64.wrap t533.1), U6 (u64.wrap t538.1), .bool (t543.1 == (0:Int)), v714, U6 (u64.wrap t723.1), U6 (u64.wrap t728.1), U6 (u64.wrap t733.1), v743, Zu, Zu, Zu, Zs, Zs, Zs, Zs, Zu, Zu, Zi, Zu, Zu, Zs, Zs, Zb, Zu, Zu, Zu, Zu, Zi, Zu, Zu, Zu, Zs, Zs, Zs, Zs, Zs, Zi, Zu, Zu, Zs, Zs, Zu, Zs, Zu, Zi, Zi, Zf, Zf, Zu, Zi, .bool false] 10 (.agg #[U6 (u64.wrap t723.1), U6 (u64.wrap t728.1), U6 (u64.wrap t733.1), v743]) sizeOf28 z (oC z (oC z (oC z (oC (one_of_sliceV hst.sv1) oN)))) (by kernel_rfl)
 refine wl_unit z z (x_unit hr747) ?_
 refine wl_nil (blk_n (tn (wp_seq (wrl (wv (.agg #[U1 (u8.wrap (i64.wrap ((1:Int) + t463.1))), U1 (u8.wrap (i64.wrap ((1:Int) + t508.1))), I6 t513.1, I6 t518.1, U6 (u64.wrap t523.1), U6 (u64.wrap t528.1), U6 (u64.wrap t533.1), U6 (u64.wrap t538.1), .bool (t543.1 == (0:Int)), v714, U6 (u64.wrap t723.1), U6 (u64.wrap t728.1), U6 (u64.wrap t733.1), v743, Zu, Zu, Zu, Zs, Zs, Zs, Zs, Zu, Zu, Zi, Zu, Zu, Zs, Zs, Zb, Zu, Zu, Zu, Zu, Zi, Zu, Zu, Zu, Zs, Zs, Zs, Zs, Zs, Zi, Zu, Zu, Zs, Zs, Zu, Zs, Zu, Zi, Zi, Zf, Zf, Zu, Zi, .bool false]) z z (x_loadN (cs := [U1 (u8.wrap (i64.wrap ((1:Int) + t463.1))), U1 (u8.wrap (i64.wrap ((1:Int) + t508.1))), I6 t513.1, I6 t518.1, U6 (u64.wrap t523.1), U6 (u64.wrap t528.1), U6 (u64.wrap t533.1), U6 (u64.wrap t538.1), .bool (t543.1 == (0:Int)), v714, U6 (u64.wrap t723.1), U6 (u64.wrap t728.1), U6 (u64.wrap t733.1), v743, Zu, Zu, Zu, Zs, Zs, Zs, Zs, Zu, Zu, Zi, Zu, Zu, Zs, Zs, Zb, Zu, Zu, Zu, Zu, Zi, Zu, Zu, Zu, Zs, Zs, Zs, Zs, Zs, Zi, Zu, Zu, Zs, Zs, Zu, Zs, Zu, Zi, Zi, Zf, Zf, Zu, Zi, .bool false]) z isAgg50 sizeOf50 (hst.bcs0 0 z)) ?_)))))
 replace hst := hst.pull3
 obtain ⟨w748, hr749, hst⟩ := hst.bx [U1 (u8.wrap (i64.wrap ((1:Int) + t463.1))), U1 (u8.wrap (i64.wrap ((1:Int) + t508.1))), I6 t513.1, I6 t518.1, U6 (u64.wrap t523.1), U6 (u64.wrap t528.1), U6 (u64.wrap t533.1), U6 (u64.wrap t538.1), .bool (t543.1 == (0:Int)), v714, U6 (u64.wrap t723.1), U6 (u64.wrap t728.1), U6 (u64.wrap t733.1), v743, Zu, Zu, Zu, Zs, Zs, Zs, Zs, Zu, Zu, Zi, Zu, Zu, Zs, Zs, Zb, Zu, Zu, Zu, Zu, Zi, Zu, Zu, Zu, Zs, Zs, Zs, Zs, Zs, Zi, Zu, Zu, Zs, Zs, Zu, Zs, Zu, Zi, Zi, Zf, Zf, Zu, Zi, .bool false] sizeOf50 z (oC z (oC z (oC z (oC z (oC z (oC z (oC z (oC z (oC z (oC (one_of_sliceV hst.sv4) (oC z (oC z (oC z (oC (one_of_sliceV hst.sv2) (oC z (oC z (oC z (oC z (oC z (oC z (oC z (oC z (oC z (oC z (oC z (oC z (oC z (oC z (oC z (oC z (oC z (oC z (oC z (oC z (oC z (oC z (oC z (oC z (oC z (oC z (oC z (oC z (oC z (oC z (oC z (oC z (oC z (oC z (oC z (oC z (oC z (oC z (oC z (oC z (oC z (oC z (oC z oN))))))))))))))))))))))))))))))))))))))))))))))))))))))))) (by kernel_rfl)
 refine wl_unit z z (x_unit hr749) ?_
 refine wl_nil (tn (wp_ret ?_))
 replace hst := hst.own_nil tyF64
 replace hst := hst.own_nil tyF2
 replace hst := hst.own_nil tyF64
 replace hst := hst.own_nil (tyInt .u8)
 replace hst := hst.own_nil ty_api_Got
 replace hst := hst.own_nil (tySl ty_api_Pair)
 replace hst := hst.own_nil tyF64
 replace hst := hst.own_nil tyF2
 replace hst := hst.own_nil tyF64
 replace hst := hst.own_nil (tyInt .u8)
 replace hst := hst.own_nil ty_api_Write
 replace hst := hst.own_nil ty_api_Got
 replace hst := hst.own_nil (tySl ty_api_Pair)
 replace hst := hst.own_nil ty_api_Part
 obtain rfl := some_inj hm
 refine post_ret (vs := [.agg #[U1 (u8.wrap (i64.wrap ((1:Int) + t463.1))), U1 (u8.wrap (i64.wrap ((1:Int) + t508.1))), I6 t513.1, I6 t518.1, U6 (u64.wrap t523.1), U6 (u64.wrap t528.1), U6 (u64.wrap t533.1), U6 (u64.wrap t538.1), .bool (t543.1 == (0:Int)), v714, U6 (u64.wrap t723.1), U6 (u64.wrap t728.1), U6 (u64.wrap t733.1), v743, Zu, Zu, Zu, Zs, Zs, Zs, Zs, Zu, Zu, Zi, Zu, Zu, Zs, Zs, Zb, Zu, Zu, Zu, Zu, Zi, Zu, Zu, Zu, Zs, Zs, Zs, Zs, Zs, Zi, Zu, Zu, Zs, Zs, Zu, Zs, Zu, Zi, Zi, Zf, Zf, Zu, Zi, .bool false]]) results9 (rvs_cons (rv_cell (cs := [U1 (u8.wrap (i64.wrap ((1:Int) + t463.1))), U1 (u8.wrap (i64.wrap ((1:Int) + t508.1))), I6 t513.1, I6 t518.1, U6 (u64.wrap t523.1), U6 (u64.wrap t528.1), U6 (u64.wrap t533.1), U6 (u64.wrap t538.1), .bool (t543.1 == (0:Int)), v714, U6 (u64.wrap t723.1), U6 (u64.wrap t728.1), U6 (u64.wrap t733.1), v743, Zu, Zu, Zu, Zs, Zs, Zs, Zs, Zu, Zu, Zi, Zu, Zu, Zs, Zs, Zb, Zu, Zu, Zu, Zu, Zi, Zu, Zu, Zu, Zs, Zs, Zs, Zs, Zs, Zi, Zu, Zu, Zs, Zs, Zu, Zs, Zu, Zi, Zi, Zf, Zf, Zu, Zi, .bool false]) z isAgg50 sizeOf50 (hst.bcs14 0 z)) rvs_nil) ?_
 replace hst := hst.pull17.pull1.pull2.pull3.pull4.pull5.pull6.pull7.pull8.pull9.pull10.pull11.pull12.pull13.pull14.pull17.pull18
 exact ⟨_, v714, v743, Zs, Zs, Zs, Zs, Zs, Zs, Zs, Zs, Zs, Zs, Zs, Zs, Zs, Zs, z, hI0, hst.keep17⟩
}
}
 {
 replace hm := bif_f hc507 hm
 refine wp_iff (cvb hc507) ?_
 obtain ⟨y754, hm, hx755⟩ := bind_some hm
 refine wp_cut (fun a w => ∃ (z751 : Bool) (σ752 : Nat → Value), (law17_make1_j2 t463) z751 = some r ∧ a = Fr 115 (upd (upd (upd (upd (upd σ752 0 (p0)) 2 (Pt b458 0)) 3 (Pt b500 0)) 12 (.int .u8 (u8.wrap (i64.wrap ((1:Int) + t463.1))))) 79 (.bool z751)) ∧ St w0 w I [at_ref12_Tape p0 t463.2, cells b458 [Zb, Zb, Zi, Zi, Zu, Zu, Zu, Zu, .bool false, Zs, Zu, Zu, Zu, Zs, Zu, Zu, Zu, Zs, Zs, Zs, Zs, Zu, Zu, Zi, Zu, Zu, Zs, Zs, Zb, Zu, Zu, Zu, Zu, Zi, Zu, Zu, Zu, Zs, Zs, Zs, Zs, Zs, Zi, Zu, Zu, Zs, Zs, Zu, Zs, Zu, Zi, Zi, Zf, Zf, Zu, Zi, .bool false], cells b500 [U1 (u8.wrap (i64.wrap ((1:Int) + t463.1))), Zb, Zi, Zi, Zu, Zu, Zu, Zu, .bool false, Zs, Zu, Zu, Zu, Zs, Zu, Zu, Zu, Zs, Zs, Zs, Zs, Zu, Zu, Zi, Zu, Zu, Zs, Zs, Zb, Zu, Zu, Zu, Zu, Zi, Zu, Zu, Zu, Zs, Zs, Zs, Zs, Zs, Zi, Zu, Zu, Zs, Zs, Zu, Zs, Zu, Zi, Zi, Zf, Zf, Zu, Zi, .bool false]] R) ?_ ?_
 {
 refine wp_seq (wrl (wv (.bool ((u8.wrap (i64.wrap ((1:Int) + t463.1))) == (2:Int))) z z z (wv (.bool ((u8.wrap (i64.wrap ((1:Int) + t463.1))) == (2:Int))) z z z (wl_nil (tn ?_)))))
 refine bsplit ((u8.wrap (i64.wrap ((1:Int) + t463.1))) == (2:Int)) (fun hc750 => ?_) (fun hc750 => ?_)
 {
 replace hm := bif_t hc750 hm
 refine wp_ift (cvb hc750) ?_
 refine wp_skip (tn ?_)
 replace hst := hst.pull2.pull2.keep3
 obtain rfl := some_inj hm
 exact ⟨((u8.wrap (i64.wrap ((1:Int) + t463.1))) == (2:Int)), _, hx755, (fu 0 p0 z (fu 2 (Pt b458 0) z (fu 3 (Pt b500 0) z (fu 12 (.int .u8 (u8.wrap (i64.wrap ((1:Int) + t463.1)))) z (fu 79 (.bool ((u8.wrap (i64.wrap ((1:Int) + t463.1))) == (2:Int))) z z))))), hst⟩
}
 {
 replace hm := bif_f hc750 hm
 refine wp_iff (cvb hc750) ?_
 refine wrl (wv (.bool ((u8.wrap (i64.wrap ((1:Int) + t463.1))) == (6:Int))) z z z (wv (.bool ((u8.wrap (i64.wrap ((1:Int) + t463.1))) == (6:Int))) z z z (wl_nil (tn ?_))))
 replace hst := hst.pull2.pull2.keep3
 obtain rfl := some_inj hm
 exact ⟨((u8.wrap (i64.wrap ((1:Int) + t463.1))) == (6:Int)), _, hx755, (fu 0 p0 z (fu 2 (Pt b458 0) z (fu 3 (Pt b500 0) z (fu 12 (.int .u8 (u8.wrap (i64.wrap ((1:Int) + t463.1)))) z (fu 79 (.bool ((u8.wrap (i64.wrap ((1:Int) + t463.1))) == (6:Int))) z z))))), hst⟩
}
}
 {
 clear hst
 rintro _ w756 ⟨z751, σ752, hm, rfl, hst⟩
 dsimp only [law17_make1_j2] at hm
 refine bsplit z751 (fun hc757 => ?_) (fun hc757 => ?_)
 {
 replace hm := bif_t hc757 hm
 refine wp_ift (cvb hc757) ?_
 refine wrl (wv (p0) z z z ?_)
 obtain ⟨t758, ht759, hm⟩ := bind_some hm
 refine wc call30 [p0] z z z ?_
 refine (ref12_Tape_Hold_ref hst.to1 ht759).mono ?_
 rintro _ w760 ⟨v763, v765, v767, v769, rfl, hst⟩
 refine ⟨_, z, ?_⟩
 replace hst := hst.of5
 refine wv (Pt b500 14) z z (x_field z underlying50 z sizeOf36 z) ?_
 replace hst := hst.pull6
 obtain ⟨w771, hr772, hst⟩ := hst.by_ [U1 (u8.wrap (i64.wrap ((1:Int) + t463.1))), Zb, Zi, Zi, Zu, Zu, Zu, Zu, .bool false, Zs, Zu, Zu, Zu, Zs, U6 t758.1.ID.Session, U6 t758.1.ID.Seq, U6 t758.1.Epoch, v763, v765, v767, v769, Zu, Zu, Zi, Zu, Zu, Zs, Zs, Zb, Zu, Zu, Zu, Zu, Zi, Zu, Zu, Zu, Zs, Zs, Zs, Zs, Zs, Zi, Zu, Zu, Zs, Zs, Zu, Zs, Zu, Zi, Zi, Zf, Zf, Zu, Zi, .bool false] 14 (.agg #[U6 t758.1.ID.Session, U6 t758.1.ID.Seq, U6 t758.1.Epoch, v763, v765, v767, v769]) sizeOf36 z (oC z (oC z (oC z (oC (one_of_sliceV hst.sv1) (oC (one_of_sliceV hst.sv2) (oC (one_of_sliceV hst.sv3) (oC (one_of_sliceV hst.sv4) oN))))))) (by kernel_rfl)
 refine wl_unit z z (x_unit hr772) ?_
 refine wl_nil (blk_n (tn (wp_seq (wrl (wv (.agg #[U1 (u8.wrap (i64.wrap ((1:Int) + t463.1))), Zb, Zi, Zi, Zu, Zu, Zu, Zu, .bool false, Zs, Zu, Zu, Zu, Zs, U6 t758.1.ID.Session, U6 t758.1.ID.Seq, U6 t758.1.Epoch, v763, v765, v767, v769, Zu, Zu, Zi, Zu, Zu, Zs, Zs, Zb, Zu, Zu, Zu, Zu, Zi, Zu, Zu, Zu, Zs, Zs, Zs, Zs, Zs, Zi, Zu, Zu, Zs, Zs, Zu, Zs, Zu, Zi, Zi, Zf, Zf, Zu, Zi, .bool false]) z z (x_loadN (cs := [U1 (u8.wrap (i64.wrap ((1:Int) + t463.1))), Zb, Zi, Zi, Zu, Zu, Zu, Zu, .bool false, Zs, Zu, Zu, Zu, Zs, U6 t758.1.ID.Session, U6 t758.1.ID.Seq, U6 t758.1.Epoch, v763, v765, v767, v769, Zu, Zu, Zi, Zu, Zu, Zs, Zs, Zb, Zu, Zu, Zu, Zu, Zi, Zu, Zu, Zu, Zs, Zs, Zs, Zs, Zs, Zi, Zu, Zu, Zs, Zs, Zu, Zs, Zu, Zi, Zi, Zf, Zf, Zu, Zi, .bool false]) z isAgg50 sizeOf50 (hst.bcs0 0 z)) ?_)))))
 replace hst := hst.pull6
 obtain ⟨w773, hr774, hst⟩ := hst.bx [U1 (u8.wrap (i64.wrap ((1:Int) + t463.1))), Zb, Zi, Zi, Zu, Zu, Zu, Zu, .bool false, Zs, Zu, Zu, Zu, Zs, U6 t758.1.ID.Session, U6 t758.1.ID.Seq, U6 t758.1.Epoch, v763, v765, v767, v769, Zu, Zu, Zi, Zu, Zu, Zs, Zs, Zb, Zu, Zu, Zu, Zu, Zi, Zu, Zu, Zu, Zs, Zs, Zs, Zs, Zs, Zi, Zu, Zu, Zs, Zs, Zu, Zs, Zu, Zi, Zi, Zf, Zf, Zu, Zi, .bool false] sizeOf50 z (oC z (oC z (oC z (oC z (oC z (oC z (oC z (oC z (oC z (oC z (oC z (oC z (oC z (oC z (oC z (oC z (oC z (oC (one_of_sliceV hst.sv2) (oC (one_of_sliceV hst.sv3) (oC (one_of_sliceV hst.sv4) (oC (one_of_sliceV hst.sv5) (oC z (oC z (oC z (oC z (oC z (oC z (oC z (oC z (oC z (oC z (oC z (oC z (oC z (oC z (oC z (oC z (oC z (oC z (oC z (oC z (oC z (oC z (oC z (oC z (oC z (oC z (oC z (oC z (oC z (oC z (oC z (oC z (oC z (oC z (oC z (oC z oN))))))))))))))))))))))))))))))))))))))))))))))))))))))))) (by kernel_rfl)
 refine wl_unit z z (x_unit hr774) ?_
 refine wl_nil (tn (wp_ret ?_))
 replace hst := hst.own_nil ty_api_Entry
 replace hst := hst.own_nil (tyInt .u8)
 replace hst := hst.own_nil ty_api_Got
 replace hst := hst.own_nil (tySl ty_api_Pair)
 replace hst := hst.own_nil tyF64
 replace hst := hst.own_nil tyF2
 replace hst := hst.own_nil tyF64
 replace hst := hst.own_nil (tyInt .u8)
 replace hst := hst.own_nil ty_api_Write
 replace hst := hst.own_nil ty_api_Got
 replace hst := hst.own_nil (tySl ty_api_Pair)
 replace hst := hst.own_nil ty_api_Part
 obtain rfl := some_inj hm
 refine post_ret (vs := [.agg #[U1 (u8.wrap (i64.wrap ((1:Int) + t463.1))), Zb, Zi, Zi, Zu, Zu, Zu, Zu, .bool false, Zs, Zu, Zu, Zu, Zs, U6 t758.1.ID.Session, U6 t758.1.ID.Seq, U6 t758.1.Epoch, v763, v765, v767, v769, Zu, Zu, Zi, Zu, Zu, Zs, Zs, Zb, Zu, Zu, Zu, Zu, Zi, Zu, Zu, Zu, Zs, Zs, Zs, Zs, Zs, Zi, Zu, Zu, Zs, Zs, Zu, Zs, Zu, Zi, Zi, Zf, Zf, Zu, Zi, .bool false]]) results9 (rvs_cons (rv_cell (cs := [U1 (u8.wrap (i64.wrap ((1:Int) + t463.1))), Zb, Zi, Zi, Zu, Zu, Zu, Zu, .bool false, Zs, Zu, Zu, Zu, Zs, U6 t758.1.ID.Session, U6 t758.1.ID.Seq, U6 t758.1.Epoch, v763, v765, v767, v769, Zu, Zu, Zi, Zu, Zu, Zs, Zs, Zb, Zu, Zu, Zu, Zu, Zi, Zu, Zu, Zu, Zs, Zs, Zs, Zs, Zs, Zi, Zu, Zu, Zs, Zs, Zu, Zs, Zu, Zi, Zi, Zf, Zf, Zu, Zi, .bool false]) z isAgg50 sizeOf50 (hst.bcs12 0 z)) rvs_nil) ?_
 replace hst := hst.pull18.pull1.pull2.pull3.pull4.pull5.pull6.pull7.pull8.pull9.pull10.pull18.pull18.pull18.pull18.pull15.pull16
 exact ⟨_, Zs, Zs, v763, v765, v767, v769, Zs, Zs, Zs, Zs, Zs, Zs, Zs, Zs, Zs, Zs, z, hI0, hst.keep17⟩
}
 {
 replace hm := bif_f hc757 hm
 refine wp_iff (cvb hc757) ?_
 refine wp_seq (wrl (wv (.bool ((u8.wrap (i64.wrap ((1:Int) + t463.1))) == (3:Int))) z z z (wv (.bool ((u8.wrap (i64.wrap ((1:Int) + t463.1))) == (3:Int))) z z z (wl_nil (tn ?_)))))
 refine bsplit ((u8.wrap (i64.wrap ((1:Int) + t463.1))) == (3:Int)) (fun hc775 => ?_) (fun hc775 => ?_)
 {
 replace hm := bif_t hc775 hm
 refine wp_ift (cvb hc775) ?_
 refine wp_seq (wrl (wv (p0) z z z ?_))
 obtain ⟨t776, ht777, hm⟩ := bind_some hm
 refine wc call30 [p0] z z z ?_
 refine (ref12_Tape_Hold_ref hst.to1 ht777).mono ?_
 rintro _ w778 ⟨v781, v783, v785, v787, rfl, hst⟩
 refine ⟨_, z, ?_⟩
 replace hst := hst.of5
 refine wv (Pt b500 14) z z (x_field z underlying50 z sizeOf36 z) ?_
 replace hst := hst.pull6
 obtain ⟨w789, hr790, hst⟩ := hst.by_ [U1 (u8.wrap (i64.wrap ((1:Int) + t463.1))), Zb, Zi, Zi, Zu, Zu, Zu, Zu, .bool false, Zs, Zu, Zu, Zu, Zs, U6 t776.1.ID.Session, U6 t776.1.ID.Seq, U6 t776.1.Epoch, v781, v783, v785, v787, Zu, Zu, Zi, Zu, Zu, Zs, Zs, Zb, Zu, Zu, Zu, Zu, Zi, Zu, Zu, Zu, Zs, Zs, Zs, Zs, Zs, Zi, Zu, Zu, Zs, Zs, Zu, Zs, Zu, Zi, Zi, Zf, Zf, Zu, Zi, .bool false] 14 (.agg #[U6 t776.1.ID.Session, U6 t776.1.ID.Seq, U6 t776.1.Epoch, v781, v783, v785, v787]) sizeOf36 z (oC z (oC z (oC z (oC (one_of_sliceV hst.sv1) (oC (one_of_sliceV hst.sv2) (oC (one_of_sliceV hst.sv3) (oC (one_of_sliceV hst.sv4) oN))))))) (by kernel_rfl)
 refine wl_unit z z (x_unit hr790) ?_
 refine wl_nil (tn (wrl (wv (p0) z z z ?_)))
 replace hst := hst.pull5
 obtain ⟨t791, ht792, hm⟩ := bind_some hm
 refine wc call31 [p0] z z z ?_
 refine (ref13_OfReply_ref hst.to1 ht792).mono ?_
 rintro _ w793 ⟨I794, v796, v798, rfl, hI795, hst⟩
 refine ⟨_, z, ?_⟩
 replace hst := hst.of3
 replace hI0 := hI0.trans hI795
 refine wv (Pt b500 23) z z (x_field z underlying50 z sizeOf41 z) ?_
 replace hst := hst.pull3
 obtain ⟨w800, hr801, hst⟩ := hst.by_ [U1 (u8.wrap (i64.wrap ((1:Int) + t463.1))), Zb, Zi, Zi, Zu, Zu, Zu, Zu, .bool false, Zs, Zu, Zu, Zu, Zs, U6 t776.1.ID.Session, U6 t776.1.ID.Seq, U6 t776.1.Epoch, v781, v783, v785, v787, Zu, Zu, I6 t791.1.E, U6 t791.1.Epoch, U6 t791.1.Index, v796, v798, Zb, Zu, Zu, Zu, Zu, Zi, Zu, Zu, Zu, Zs, Zs, Zs, Zs, Zs, Zi, Zu, Zu, Zs, Zs, Zu, Zs, Zu, Zi, Zi, Zf, Zf, Zu, Zi, .bool false] 23 (.agg #[I6 t791.1.E, U6 t791.1.Epoch, U6 t791.1.Index, v796, v798]) sizeOf41 z (oC z (oC z (oC z (oC (one_of_sliceV hst.sv1) (oC (one_of_sliceV hst.sv2) oN))))) (by kernel_rfl)
 refine wl_unit z z (x_unit hr801) ?_
 refine wl_nil (blk_n (tn (wp_seq (wrl (wv (.agg #[U1 (u8.wrap (i64.wrap ((1:Int) + t463.1))), Zb, Zi, Zi, Zu, Zu, Zu, Zu, .bool false, Zs, Zu, Zu, Zu, Zs, U6 t776.1.ID.Session, U6 t776.1.ID.Seq, U6 t776.1.Epoch, v781, v783, v785, v787, Zu, Zu, I6 t791.1.E, U6 t791.1.Epoch, U6 t791.1.Index, v796, v798, Zb, Zu, Zu, Zu, Zu, Zi, Zu, Zu, Zu, Zs, Zs, Zs, Zs, Zs, Zi, Zu, Zu, Zs, Zs, Zu, Zs, Zu, Zi, Zi, Zf, Zf, Zu, Zi, .bool false]) z z (x_loadN (cs := [U1 (u8.wrap (i64.wrap ((1:Int) + t463.1))), Zb, Zi, Zi, Zu, Zu, Zu, Zu, .bool false, Zs, Zu, Zu, Zu, Zs, U6 t776.1.ID.Session, U6 t776.1.ID.Seq, U6 t776.1.Epoch, v781, v783, v785, v787, Zu, Zu, I6 t791.1.E, U6 t791.1.Epoch, U6 t791.1.Index, v796, v798, Zb, Zu, Zu, Zu, Zu, Zi, Zu, Zu, Zu, Zs, Zs, Zs, Zs, Zs, Zi, Zu, Zu, Zs, Zs, Zu, Zs, Zu, Zi, Zi, Zf, Zf, Zu, Zi, .bool false]) z isAgg50 sizeOf50 (hst.bcs0 0 z)) ?_)))))
 replace hst := hst.pull8
 obtain ⟨w802, hr803, hst⟩ := hst.bx [U1 (u8.wrap (i64.wrap ((1:Int) + t463.1))), Zb, Zi, Zi, Zu, Zu, Zu, Zu, .bool false, Zs, Zu, Zu, Zu, Zs, U6 t776.1.ID.Session, U6 t776.1.ID.Seq, U6 t776.1.Epoch, v781, v783, v785, v787, Zu, Zu, I6 t791.1.E, U6 t791.1.Epoch, U6 t791.1.Index, v796, v798, Zb, Zu, Zu, Zu, Zu, Zi, Zu, Zu, Zu, Zs, Zs, Zs, Zs, Zs, Zi, Zu, Zu, Zs, Zs, Zu, Zs, Zu, Zi, Zi, Zf, Zf, Zu, Zi, .bool false] sizeOf50 z (oC z (oC z (oC z (oC z (oC z (oC z (oC z (oC z (oC z (oC z (oC z (oC z (oC z (oC z (oC z (oC z (oC z (oC (one_of_sliceV hst.sv5) (oC (one_of_sliceV hst.sv6) (oC (one_of_sliceV hst.sv7) (oC (one_of_sliceV hst.sv8) (oC z (oC z (oC z (oC z (oC z (oC (one_of_sliceV hst.sv2) (oC (one_of_sliceV hst.sv3) (oC z (oC z (oC z (oC z (oC z (oC z (oC z (oC z (oC z (oC z (oC z (oC z (oC z (oC z (oC z (oC z (oC z (oC z (oC z (oC z (oC z (oC z (oC z (oC z (oC z (oC z (oC z (oC z (oC z oN))))))))))))))))))))))))))))))))))))))))))))))))))))))))) (by kernel_rfl)
 refine wl_unit z z (x_unit hr803) ?_
 refine wl_nil (tn (wp_ret ?_))
 replace hst := hst.own_nil ty_api_Entry
 replace hst := hst.own_nil (tyInt .u8)
 replace hst := hst.own_nil tyF64
 replace hst := hst.own_nil tyF2
 replace hst := hst.own_nil tyF64
 replace hst := hst.own_nil (tyInt .u8)
 replace hst := hst.own_nil ty_api_Write
 replace hst := hst.own_nil ty_api_Got
 replace hst := hst.own_nil (tySl ty_api_Pair)
 replace hst := hst.own_nil ty_api_Part
 obtain rfl := some_inj hm
 refine post_ret (vs := [.agg #[U1 (u8.wrap (i64.wrap ((1:Int) + t463.1))), Zb, Zi, Zi, Zu, Zu, Zu, Zu, .bool false, Zs, Zu, Zu, Zu, Zs, U6 t776.1.ID.Session, U6 t776.1.ID.Seq, U6 t776.1.Epoch, v781, v783, v785, v787, Zu, Zu, I6 t791.1.E, U6 t791.1.Epoch, U6 t791.1.Index, v796, v798, Zb, Zu, Zu, Zu, Zu, Zi, Zu, Zu, Zu, Zs, Zs, Zs, Zs, Zs, Zi, Zu, Zu, Zs, Zs, Zu, Zs, Zu, Zi, Zi, Zf, Zf, Zu, Zi, .bool false]]) results9 (rvs_cons (rv_cell (cs := [U1 (u8.wrap (i64.wrap ((1:Int) + t463.1))), Zb, Zi, Zi, Zu, Zu, Zu, Zu, .bool false, Zs, Zu, Zu, Zu, Zs, U6 t776.1.ID.Session, U6 t776.1.ID.Seq, U6 t776.1.Epoch, v781, v783, v785, v787, Zu, Zu, I6 t791.1.E, U6 t791.1.Epoch, U6 t791.1.Index, v796, v798, Zb, Zu, Zu, Zu, Zu, Zi, Zu, Zu, Zu, Zs, Zs, Zs, Zs, Zs, Zi, Zu, Zu, Zs, Zs, Zu, Zs, Zu, Zi, Zi, Zf, Zf, Zu, Zi, .bool false]) z isAgg50 sizeOf50 (hst.bcs10 0 z)) rvs_nil) ?_
 replace hst := hst.pull14.pull1.pull2.pull3.pull4.pull5.pull6.pull7.pull8.pull14.pull14.pull18.pull18.pull18.pull18.pull15.pull16
 exact ⟨_, Zs, Zs, v781, v783, v785, v787, v796, v798, Zs, Zs, Zs, Zs, Zs, Zs, Zs, Zs, z, hI0, hst.keep17⟩
}
 {
 replace hm := bif_f hc775 hm
 refine wp_iff (cvb hc775) ?_
 refine wp_seq (wrl (wv (.bool ((u8.wrap (i64.wrap ((1:Int) + t463.1))) == (4:Int))) z z z (wv (.bool ((u8.wrap (i64.wrap ((1:Int) + t463.1))) == (4:Int))) z z z (wl_nil (tn ?_)))))
 refine bsplit ((u8.wrap (i64.wrap ((1:Int) + t463.1))) == (4:Int)) (fun hc804 => ?_) (fun hc804 => ?_)
 {
 replace hm := bif_t hc804 hm
 refine wp_ift (cvb hc804) ?_
 refine wrl (wv (p0) z z z ?_)
 obtain ⟨t805, ht806, hm⟩ := bind_some hm
 refine wc call32 [p0] z z z ?_
 refine (ref12_Tape_Of_ref hst.to1 ht806).mono ?_
 rintro _ w807 ⟨rfl, hst⟩
 refine ⟨_, z, ?_⟩
 replace hst := hst.of1
 refine wv (p0) z z z ?_
 obtain ⟨t810, ht811, hm⟩ := bind_some hm
 refine wc call28 [p0, I6 (9:Int)] z z z ?_
 refine (ref12_Tape_Next_ref hst.to1 ht811).mono ?_
 rintro _ w812 ⟨rfl, hst⟩
 refine ⟨_, z, ?_⟩
 replace hst := hst.of1
 refine wv (p0) z z z ?_
 obtain ⟨t815, ht816, hm⟩ := bind_some hm
 refine wc call28 [p0, I6 (9:Int)] z z z ?_
 refine (ref12_Tape_Next_ref hst.to1 ht816).mono ?_
 rintro _ w817 ⟨rfl, hst⟩
 refine ⟨_, z, ?_⟩
 replace hst := hst.of1
 refine wv (.int .u64 (u64.wrap t815.1)) z z (by kernel_rfl) (wv (p0) z z z ?_)
 obtain ⟨t820, ht821, hm⟩ := bind_some hm
 refine wc call28 [p0, I6 (9:Int)] z z z ?_
 refine (ref12_Tape_Next_ref hst.to1 ht821).mono ?_
 rintro _ w822 ⟨rfl, hst⟩
 refine ⟨_, z, ?_⟩
 replace hst := hst.of1
 refine wv (.int .u64 (u64.wrap t820.1)) z z (by kernel_rfl) (wv (p0) z z z ?_)
 obtain ⟨t825, ht826, hm⟩ := bind_some hm
 refine wc call33 [p0] z z z ?_
 refine (ref13_OfWrites_ref hst.to1 ht826).mono ?_
 rintro _ w827 ⟨I828, v830, rfl, hI829, hst⟩
 refine ⟨_, z, ?_⟩
 replace hst := hst.of2
 replace hI0 := hI0.trans hI829
 refine wv (.agg #[U1 (3:Int), U6 t805.1.Session, U6 t805.1.Seq, U6 (u64.wrap t815.1), U6 (u64.wrap t820.1), I6 t810.1, Zu, Zu, Zu, Zs, Zs, Zs, Zs, v830, Zi, Zu, Zu, Zs, Zs, Zu, Zs, Zu, Zi, Zi, Zf, Zf, Zu, Zi, .bool false]) z z (by obtain ⟨_, _, hv_, _⟩ := hst.sv0; rw [hv_]; kernel_rfl) (wv (Pt b500 28) z z (x_field z underlying50 z sizeOf48 z) ?_)
 replace hst := hst.pull3
 obtain ⟨w840, hr841, hst⟩ := hst.by_ [U1 (u8.wrap (i64.wrap ((1:Int) + t463.1))), Zb, Zi, Zi, Zu, Zu, Zu, Zu, .bool false, Zs, Zu, Zu, Zu, Zs, Zu, Zu, Zu, Zs, Zs, Zs, Zs, Zu, Zu, Zi, Zu, Zu, Zs, Zs, U1 (3:Int), U6 t805.1.Session, U6 t805.1.Seq, U6 (u64.wrap t815.1), U6 (u64.wrap t820.1), I6 t810.1, Zu, Zu, Zu, Zs, Zs, Zs, Zs, v830, Zi, Zu, Zu, Zs, Zs, Zu, Zs, Zu, Zi, Zi, Zf, Zf, Zu, Zi, .bool false] 28 (.agg #[U1 (3:Int), U6 t805.1.Session, U6 t805.1.Seq, U6 (u64.wrap t815.1), U6 (u64.wrap t820.1), I6 t810.1, Zu, Zu, Zu, Zs, Zs, Zs, Zs, v830, Zi, Zu, Zu, Zs, Zs, Zu, Zs, Zu, Zi, Zi, Zf, Zf, Zu, Zi, .bool false]) sizeOf48 z (oC z (oC z (oC z (oC z (oC z (oC z (oC z (oC z (oC z (oC z (oC z (oC z (oC z (oC (one_of_sliceV hst.sv1) (oC z (oC z (oC z (oC z (oC z (oC z (oC z (oC z (oC z (oC z (oC z (oC z (oC z (oC z (oC z oN))))))))))))))))))))))))))))) (by kernel_rfl)
 refine wl_unit z z (x_unit hr841) ?_
 refine wl_nil (blk_n (tn (wp_seq (wrl (wv (.agg #[U1 (u8.wrap (i64.wrap ((1:Int) + t463.1))), Zb, Zi, Zi, Zu, Zu, Zu, Zu, .bool false, Zs, Zu, Zu, Zu, Zs, Zu, Zu, Zu, Zs, Zs, Zs, Zs, Zu, Zu, Zi, Zu, Zu, Zs, Zs, U1 (3:Int), U6 t805.1.Session, U6 t805.1.Seq, U6 (u64.wrap t815.1), U6 (u64.wrap t820.1), I6 t810.1, Zu, Zu, Zu, Zs, Zs, Zs, Zs, v830, Zi, Zu, Zu, Zs, Zs, Zu, Zs, Zu, Zi, Zi, Zf, Zf, Zu, Zi, .bool false]) z z (x_loadN (cs := [U1 (u8.wrap (i64.wrap ((1:Int) + t463.1))), Zb, Zi, Zi, Zu, Zu, Zu, Zu, .bool false, Zs, Zu, Zu, Zu, Zs, Zu, Zu, Zu, Zs, Zs, Zs, Zs, Zu, Zu, Zi, Zu, Zu, Zs, Zs, U1 (3:Int), U6 t805.1.Session, U6 t805.1.Seq, U6 (u64.wrap t815.1), U6 (u64.wrap t820.1), I6 t810.1, Zu, Zu, Zu, Zs, Zs, Zs, Zs, v830, Zi, Zu, Zu, Zs, Zs, Zu, Zs, Zu, Zi, Zi, Zf, Zf, Zu, Zi, .bool false]) z isAgg50 sizeOf50 (hst.bcs0 0 z)) ?_)))))
 replace hst := hst.pull3
 obtain ⟨w842, hr843, hst⟩ := hst.bx [U1 (u8.wrap (i64.wrap ((1:Int) + t463.1))), Zb, Zi, Zi, Zu, Zu, Zu, Zu, .bool false, Zs, Zu, Zu, Zu, Zs, Zu, Zu, Zu, Zs, Zs, Zs, Zs, Zu, Zu, Zi, Zu, Zu, Zs, Zs, U1 (3:Int), U6 t805.1.Session, U6 t805.1.Seq, U6 (u64.wrap t815.1), U6 (u64.wrap t820.1), I6 t810.1, Zu, Zu, Zu, Zs, Zs, Zs, Zs, v830, Zi, Zu, Zu, Zs, Zs, Zu, Zs, Zu, Zi, Zi, Zf, Zf, Zu, Zi, .bool false] sizeOf50 z (oC z (oC z (oC z (oC z (oC z (oC z (oC z (oC z (oC z (oC z (oC z (oC z (oC z (oC z (oC z (oC z (oC z (oC z (oC z (oC z (oC z (oC z (oC z (oC z (oC z (oC z (oC z (oC z (oC z (oC z (oC z (oC z (oC z (oC z (oC z (oC z (oC z (oC z (oC z (oC z (oC z (oC (one_of_sliceV hst.sv2) (oC z (oC z (oC z (oC z (oC z (oC z (oC z (oC z (oC z (oC z (oC z (oC z (oC z (oC z (oC z oN))))))))))))))))))))))))))))))))))))))))))))))))))))))))) (by kernel_rfl)
 refine wl_unit z z (x_unit hr843) ?_
 refine wl_nil (tn (wp_ret ?_))
 replace hst := hst.own_nil ty_api_Entry
 replace hst := hst.own_nil (tyInt .u8)
 replace hst := hst.own_nil tyF64
 replace hst := hst.own_nil tyF2
 replace hst := hst.own_nil tyF64
 replace hst := hst.own_nil (tyInt .u8)
 replace hst := hst.own_nil ty_api_Got
 replace hst := hst.own_nil (tySl ty_api_Pair)
 replace hst := hst.own_nil tyF64
 replace hst := hst.own_nil tyF2
 replace hst := hst.own_nil tyF64
 replace hst := hst.own_nil (tyInt .u8)
 replace hst := hst.own_nil ty_api_Got
 replace hst := hst.own_nil (tySl ty_api_Pair)
 replace hst := hst.own_nil ty_api_Part
 obtain rfl := some_inj hm
 refine post_ret (vs := [.agg #[U1 (u8.wrap (i64.wrap ((1:Int) + t463.1))), Zb, Zi, Zi, Zu, Zu, Zu, Zu, .bool false, Zs, Zu, Zu, Zu, Zs, Zu, Zu, Zu, Zs, Zs, Zs, Zs, Zu, Zu, Zi, Zu, Zu, Zs, Zs, U1 (3:Int), U6 t805.1.Session, U6 t805.1.Seq, U6 (u64.wrap t815.1), U6 (u64.wrap t820.1), I6 t810.1, Zu, Zu, Zu, Zs, Zs, Zs, Zs, v830, Zi, Zu, Zu, Zs, Zs, Zu, Zs, Zu, Zi, Zi, Zf, Zf, Zu, Zi, .bool false]]) results9 (rvs_cons (rv_cell (cs := [U1 (u8.wrap (i64.wrap ((1:Int) + t463.1))), Zb, Zi, Zi, Zu, Zu, Zu, Zu, .bool false, Zs, Zu, Zu, Zu, Zs, Zu, Zu, Zu, Zs, Zs, Zs, Zs, Zu, Zu, Zi, Zu, Zu, Zs, Zs, U1 (3:Int), U6 t805.1.Session, U6 t805.1.Seq, U6 (u64.wrap t815.1), U6 (u64.wrap t820.1), I6 t810.1, Zu, Zu, Zu, Zs, Zs, Zs, Zs, v830, Zi, Zu, Zu, Zs, Zs, Zu, Zs, Zu, Zi, Zi, Zf, Zf, Zu, Zi, .bool false]) z isAgg50 sizeOf50 (hst.bcs15 0 z)) rvs_nil) ?_
 replace hst := hst.pull18.pull1.pull2.pull3.pull18.pull5.pull6.pull7.pull8.pull9.pull10.pull11.pull12.pull13.pull14.pull15.pull16
 exact ⟨_, Zs, Zs, Zs, Zs, Zs, Zs, Zs, Zs, Zs, Zs, Zs, Zs, v830, Zs, Zs, Zs, z, hI0, hst.keep17⟩
}
 {
 replace hm := bif_f hc804 hm
 refine wp_iff (cvb hc804) ?_
 refine wp_seq (wrl (wv (.bool ((u8.wrap (i64.wrap ((1:Int) + t463.1))) == (5:Int))) z z z (wv (.bool ((u8.wrap (i64.wrap ((1:Int) + t463.1))) == (5:Int))) z z z (wl_nil (tn ?_)))))
 refine bsplit ((u8.wrap (i64.wrap ((1:Int) + t463.1))) == (5:Int)) (fun hc844 => ?_) (fun hc844 => ?_)
 {
 replace hm := bif_t hc844 hm
 refine wp_ift (cvb hc844) ?_
 refine wrl (wv (p0) z z z ?_)
 obtain ⟨t845, ht846, hm⟩ := bind_some hm
 refine wc call32 [p0] z z z ?_
 refine (ref12_Tape_Of_ref hst.to1 ht846).mono ?_
 rintro _ w847 ⟨rfl, hst⟩
 refine ⟨_, z, ?_⟩
 replace hst := hst.of1
 refine wv (Pt b500 21) z z (x_field z underlying50 z sizeOf32 z) ?_
 replace hst := hst.pull2
 obtain ⟨w850, hr851, hst⟩ := hst.by_ [U1 (u8.wrap (i64.wrap ((1:Int) + t463.1))), Zb, Zi, Zi, Zu, Zu, Zu, Zu, .bool false, Zs, Zu, Zu, Zu, Zs, Zu, Zu, Zu, Zs, Zs, Zs, Zs, U6 t845.1.Session, U6 t845.1.Seq, Zi, Zu, Zu, Zs, Zs, Zb, Zu, Zu, Zu, Zu, Zi, Zu, Zu, Zu, Zs, Zs, Zs, Zs, Zs, Zi, Zu, Zu, Zs, Zs, Zu, Zs, Zu, Zi, Zi, Zf, Zf, Zu, Zi, .bool false] 21 (.agg #[U6 t845.1.Session, U6 t845.1.Seq]) sizeOf32 z (oC z (oC z oN)) (by kernel_rfl)
 refine wl_unit z z (x_unit hr851) ?_
 refine wl_nil (blk_n (tn (wp_seq (wrl (wv (.agg #[U1 (u8.wrap (i64.wrap ((1:Int) + t463.1))), Zb, Zi, Zi, Zu, Zu, Zu, Zu, .bool false, Zs, Zu, Zu, Zu, Zs, Zu, Zu, Zu, Zs, Zs, Zs, Zs, U6 t845.1.Session, U6 t845.1.Seq, Zi, Zu, Zu, Zs, Zs, Zb, Zu, Zu, Zu, Zu, Zi, Zu, Zu, Zu, Zs, Zs, Zs, Zs, Zs, Zi, Zu, Zu, Zs, Zs, Zu, Zs, Zu, Zi, Zi, Zf, Zf, Zu, Zi, .bool false]) z z (x_loadN (cs := [U1 (u8.wrap (i64.wrap ((1:Int) + t463.1))), Zb, Zi, Zi, Zu, Zu, Zu, Zu, .bool false, Zs, Zu, Zu, Zu, Zs, Zu, Zu, Zu, Zs, Zs, Zs, Zs, U6 t845.1.Session, U6 t845.1.Seq, Zi, Zu, Zu, Zs, Zs, Zb, Zu, Zu, Zu, Zu, Zi, Zu, Zu, Zu, Zs, Zs, Zs, Zs, Zs, Zi, Zu, Zu, Zs, Zs, Zu, Zs, Zu, Zi, Zi, Zf, Zf, Zu, Zi, .bool false]) z isAgg50 sizeOf50 (hst.bcs0 0 z)) ?_)))))
 replace hst := hst.pull2
 obtain ⟨w852, hr853, hst⟩ := hst.bx [U1 (u8.wrap (i64.wrap ((1:Int) + t463.1))), Zb, Zi, Zi, Zu, Zu, Zu, Zu, .bool false, Zs, Zu, Zu, Zu, Zs, Zu, Zu, Zu, Zs, Zs, Zs, Zs, U6 t845.1.Session, U6 t845.1.Seq, Zi, Zu, Zu, Zs, Zs, Zb, Zu, Zu, Zu, Zu, Zi, Zu, Zu, Zu, Zs, Zs, Zs, Zs, Zs, Zi, Zu, Zu, Zs, Zs, Zu, Zs, Zu, Zi, Zi, Zf, Zf, Zu, Zi, .bool false] sizeOf50 z (oC z (oC z (oC z (oC z (oC z (oC z (oC z (oC z (oC z (oC z (oC z (oC z (oC z (oC z (oC z (oC z (oC z (oC z (oC z (oC z (oC z (oC z (oC z (oC z (oC z (oC z (oC z (oC z (oC z (oC z (oC z (oC z (oC z (oC z (oC z (oC z (oC z (oC z (oC z (oC z (oC z (oC z (oC z (oC z (oC z (oC z (oC z (oC z (oC z (oC z (oC z (oC z (oC z (oC z (oC z (oC z (oC z oN))))))))))))))))))))))))))))))))))))))))))))))))))))))))) (by kernel_rfl)
 refine wl_unit z z (x_unit hr853) ?_
 refine wl_nil (tn (wp_ret ?_))
 replace hst := hst.own_nil ty_api_Entry
 replace hst := hst.own_nil (tyInt .u8)
 replace hst := hst.own_nil tyF64
 replace hst := hst.own_nil tyF2
 replace hst := hst.own_nil tyF64
 replace hst := hst.own_nil (tyInt .u8)
 replace hst := hst.own_nil ty_api_Got
 replace hst := hst.own_nil (tySl ty_api_Pair)
 replace hst := hst.own_nil tyF64
 replace hst := hst.own_nil tyF2
 replace hst := hst.own_nil tyF64
 replace hst := hst.own_nil (tyInt .u8)
 replace hst := hst.own_nil ty_api_Write
 replace hst := hst.own_nil ty_api_Got
 replace hst := hst.own_nil (tySl ty_api_Pair)
 replace hst := hst.own_nil ty_api_Part
 obtain rfl := some_inj hm
 refine post_ret (vs := [.agg #[U1 (u8.wrap (i64.wrap ((1:Int) + t463.1))), Zb, Zi, Zi, Zu, Zu, Zu, Zu, .bool false, Zs, Zu, Zu, Zu, Zs, Zu, Zu, Zu, Zs, Zs, Zs, Zs, U6 t845.1.Session, U6 t845.1.Seq, Zi, Zu, Zu, Zs, Zs, Zb, Zu, Zu, Zu, Zu, Zi, Zu, Zu, Zu, Zs, Zs, Zs, Zs, Zs, Zi, Zu, Zu, Zs, Zs, Zu, Zs, Zu, Zi, Zi, Zf, Zf, Zu, Zi, .bool false]]) results9 (rvs_cons (rv_cell (cs := [U1 (u8.wrap (i64.wrap ((1:Int) + t463.1))), Zb, Zi, Zi, Zu, Zu, Zu, Zu, .bool false, Zs, Zu, Zu, Zu, Zs, Zu, Zu, Zu, Zs, Zs, Zs, Zs, U6 t845.1.Session, U6 t845.1.Seq, Zi, Zu, Zu, Zs, Zs, Zb, Zu, Zu, Zu, Zu, Zi, Zu, Zu, Zu, Zs, Zs, Zs, Zs, Zs, Zi, Zu, Zu, Zs, Zs, Zu, Zs, Zu, Zi, Zi, Zf, Zf, Zu, Zi, .bool false]) z isAgg50 sizeOf50 (hst.bcs16 0 z)) rvs_nil) ?_
 replace hst := hst.pull18.pull1.pull2.pull3.pull4.pull5.pull6.pull7.pull8.pull9.pull10.pull11.pull12.pull13.pull14.pull15.pull16
 exact ⟨_, Zs, Zs, Zs, Zs, Zs, Zs, Zs, Zs, Zs, Zs, Zs, Zs, Zs, Zs, Zs, Zs, z, hI0, hst.keep17⟩
}
 {
 replace hm := bif_f hc844 hm
 refine wp_iff (cvb hc844) ?_
 refine wp_skip (blk_n (tn (wp_seq (wrl ?_))))
 refine wv (.agg #[U1 (u8.wrap (i64.wrap ((1:Int) + t463.1))), Zb, Zi, Zi, Zu, Zu, Zu, Zu, .bool false, Zs, Zu, Zu, Zu, Zs, Zu, Zu, Zu, Zs, Zs, Zs, Zs, Zu, Zu, Zi, Zu, Zu, Zs, Zs, Zb, Zu, Zu, Zu, Zu, Zi, Zu, Zu, Zu, Zs, Zs, Zs, Zs, Zs, Zi, Zu, Zu, Zs, Zs, Zu, Zs, Zu, Zi, Zi, Zf, Zf, Zu, Zi, .bool false]) z z (x_loadN (cs := [U1 (u8.wrap (i64.wrap ((1:Int) + t463.1))), Zb, Zi, Zi, Zu, Zu, Zu, Zu, .bool false, Zs, Zu, Zu, Zu, Zs, Zu, Zu, Zu, Zs, Zs, Zs, Zs, Zu, Zu, Zi, Zu, Zu, Zs, Zs, Zb, Zu, Zu, Zu, Zu, Zi, Zu, Zu, Zu, Zs, Zs, Zs, Zs, Zs, Zi, Zu, Zu, Zs, Zs, Zu, Zs, Zu, Zi, Zi, Zf, Zf, Zu, Zi, .bool false]) z isAgg50 sizeOf50 (hst.bcs2 0 z)) ?_
 replace hst := hst.pull1
 obtain ⟨w854, hr855, hst⟩ := hst.bx [U1 (u8.wrap (i64.wrap ((1:Int) + t463.1))), Zb, Zi, Zi, Zu, Zu, Zu, Zu, .bool false, Zs, Zu, Zu, Zu, Zs, Zu, Zu, Zu, Zs, Zs, Zs, Zs, Zu, Zu, Zi, Zu, Zu, Zs, Zs, Zb, Zu, Zu, Zu, Zu, Zi, Zu, Zu, Zu, Zs, Zs, Zs, Zs, Zs, Zi, Zu, Zu, Zs, Zs, Zu, Zs, Zu, Zi, Zi, Zf, Zf, Zu, Zi, .bool false] sizeOf50 z (oC z (oC z (oC z (oC z (oC z (oC z (oC z (oC z (oC z (oC z (oC z (oC z (oC z (oC z (oC z (oC z (oC z (oC z (oC z (oC z (oC z (oC z (oC z (oC z (oC z (oC z (oC z (oC z (oC z (oC z (oC z (oC z (oC z (oC z (oC z (oC z (oC z (oC z (oC z (oC z (oC z (oC z (oC z (oC z (oC z (oC z (oC z (oC z (oC z (oC z (oC z (oC z (oC z (oC z (oC z (oC z (oC z oN))))))))))))))))))))))))))))))))))))))))))))))))))))))))) (by kernel_rfl)
 refine wl_unit z z (x_unit hr855) ?_
 refine wl_nil (tn (wp_ret ?_))
 replace hst := hst.own_nil ty_api_Entry
 replace hst := hst.own_nil (tyInt .u8)
 replace hst := hst.own_nil tyF64
 replace hst := hst.own_nil tyF2
 replace hst := hst.own_nil tyF64
 replace hst := hst.own_nil (tyInt .u8)
 replace hst := hst.own_nil ty_api_Got
 replace hst := hst.own_nil (tySl ty_api_Pair)
 replace hst := hst.own_nil tyF64
 replace hst := hst.own_nil tyF2
 replace hst := hst.own_nil tyF64
 replace hst := hst.own_nil (tyInt .u8)
 replace hst := hst.own_nil ty_api_Write
 replace hst := hst.own_nil ty_api_Got
 replace hst := hst.own_nil (tySl ty_api_Pair)
 replace hst := hst.own_nil ty_api_Part
 obtain rfl := some_inj hm
 refine post_ret (vs := [.agg #[U1 (u8.wrap (i64.wrap ((1:Int) + t463.1))), Zb, Zi, Zi, Zu, Zu, Zu, Zu, .bool false, Zs, Zu, Zu, Zu, Zs, Zu, Zu, Zu, Zs, Zs, Zs, Zs, Zu, Zu, Zi, Zu, Zu, Zs, Zs, Zb, Zu, Zu, Zu, Zu, Zi, Zu, Zu, Zu, Zs, Zs, Zs, Zs, Zs, Zi, Zu, Zu, Zs, Zs, Zu, Zs, Zu, Zi, Zi, Zf, Zf, Zu, Zi, .bool false]]) results9 (rvs_cons (rv_cell (cs := [U1 (u8.wrap (i64.wrap ((1:Int) + t463.1))), Zb, Zi, Zi, Zu, Zu, Zu, Zu, .bool false, Zs, Zu, Zu, Zu, Zs, Zu, Zu, Zu, Zs, Zs, Zs, Zs, Zu, Zu, Zi, Zu, Zu, Zs, Zs, Zb, Zu, Zu, Zu, Zu, Zi, Zu, Zu, Zu, Zs, Zs, Zs, Zs, Zs, Zi, Zu, Zu, Zs, Zs, Zu, Zs, Zu, Zi, Zi, Zf, Zf, Zu, Zi, .bool false]) z isAgg50 sizeOf50 (hst.bcs16 0 z)) rvs_nil) ?_
 replace hst := hst.pull17.pull1.pull2.pull3.pull4.pull5.pull6.pull7.pull8.pull9.pull10.pull11.pull12.pull13.pull14.pull15.pull16
 exact ⟨_, Zs, Zs, Zs, Zs, Zs, Zs, Zs, Zs, Zs, Zs, Zs, Zs, Zs, Zs, Zs, Zs, z, hI0, hst.keep17⟩
}
}
}
}
}
}
}

theorem octet_Read_ref {w0 w : World} {I : HL} {R : SP} {a0 : (List Int)} {r0_0 : Value} (f0_0 : Ro (tyInt .u8) I r0_0 a0) (hst : St w0 w I [] R) {r : (octet_Reader)} (hm : octet_Read a0 = some r) :
  Calls prog 12 #[r0_0] w fun e w' => ∃ (q0 : Value), e = .returned (q0) ∧ St w0 w' I [at_octet_Reader q0 r] R := by {
 unfold octet_Read at hm
 refine calls_start (args := [r0_0]) func12 z ntmps12 (Nat.le_of_ble_eq_true z) ?_
 refine wp_seq (wrl (wv (.pointer none) z z z (wl_nil (tn (wp_seq (wrl (wv (r0_0) z z z (wv (.agg #[r0_0, .bool false]) z z (by obtain ⟨_, _, hv_, _⟩ := (ro_sliceV f0_0); rw [hv_]; kernel_rfl) ?_))))))))
 obtain ⟨b156, w157, ew158, eb159, hst⟩ := hst.box [r0_0, .bool false] 99
 refine wl_run (v := Pt b156 0) (w' := w157) z z (x_al (by kernel_rfl) ew158 eb159) ?_
 refine wv (Pt b156 0) z z z (wl_nil (tn (wp_ret ?_)))
 replace hst := at_octet_Reader_close (pv := Pt b156 0) (x := ({ p := a0, bad := false } : octet_Reader)) hst ⟨z, f0_0⟩
 obtain rfl := some_inj hm
 refine post_ret (vs := [Pt b156 0]) results12 (rvs_cons (rv_tmp z) rvs_nil) ?_
 exact ⟨.pointer (some ⟨b156, 0, none⟩), z, hst.keep1⟩
}

theorem octet_Reader_spoil_ref {w0 w : World} {I : HL} {R : SP} {a0 : octet_Reader} {p0 : Value}  (hst : St w0 w I [at_octet_Reader p0 a0] R) {r : (octet_Reader)} (hm : octet_Reader_spoil a0 = some r) :
  Calls prog 44 #[p0] w fun e w' => e = .returned (.tuple #[]) ∧ St w0 w' I [at_octet_Reader p0 r] R := by {
 unfold octet_Reader_spoil at hm
 refine calls_start (args := [p0]) func44 z ntmps44 (Nat.le_of_ble_eq_true z) ?_
 refine wp_seq (wrl (wv (p0) z z z ?_))
 obtain ⟨b168, v169, ⟨rfl, f171⟩, hst'⟩ := at_octet_Reader_open hst
 clear hst
 have hst := hst'
 clear hst'
 refine wv (.bool true) z z (by kernel_rfl) (wl_nil (tn ?_))
 refine wp_ift z ?_
 refine wrl (wv (Pt b168 0) z z z (wv (Pt b168 0) z z z (wv (Pt b168 1) z z (x_field z underlying99 z sizeOf4 z) ?_)))
 obtain ⟨w172, hr173, hst⟩ := hst.by_ [v169, .bool true] 1 (.bool true) sizeOf4 z (oC z oN) (by kernel_rfl)
 refine wl_unit z z (x_unit hr173) ?_
 refine wl_nil ?_
 replace hst := at_octet_Reader_close (pv := Pt b168 0) (x := ({ p := a0.p, bad := true } : octet_Reader)) hst ⟨z, f171⟩
 obtain rfl := some_inj hm
 refine post_end (vs := []) results44 rvs_nil ?_
 exact ⟨z, hst.keep1⟩
}

end Go.Proofs.Ytldfdainhdiffaa
