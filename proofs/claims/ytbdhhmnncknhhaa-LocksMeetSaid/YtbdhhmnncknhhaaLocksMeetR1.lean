/- The Go functions refine their models, part 1. -/
import Derived.Test.YtbdhhmnncknhhaaLocksMeetR0
set_option linter.unusedVariables false
set_option linter.unusedSimpArgs false
set_option maxRecDepth 100000
set_option maxHeartbeats 4000000
namespace Go.Proofs.Ytbdhhmnncknhhaa
open Go Go.V
open _root_.Go.Proofs.Try IntKind
attribute [local irreducible] wpList Code.wp wpQuiet Calls bodyPost Oper.wp wpS Nx PendOK YieldsIn
theorem ref12_Tape_Hold_ref {w0 w : World} {I : HL} {R : SP} {a0 : ref12_Tape} {p0 : Value}  (hst : St w0 w I [at_ref12_Tape p0 a0] R) {r : (api_Hold × ref12_Tape)} (hm : ref12_Tape_Hold a0 = some r) :
  Calls prog 16 #[p0] w fun e w' => ∃ (q0_0 : Value) (q0_1 : Value) (q0_2 : Value) (q0_3 : Value), e = .returned (.agg #[U6 r.1.ID.Session, U6 r.1.ID.Seq, U6 r.1.Epoch, q0_0, q0_1, q0_2, q0_3]) ∧ St w0 w' I [ownS tyF64 q0_0 r.1.Gets, ownS tyF2 q0_1 r.1.Scans, ownS tyF64 q0_2 r.1.Puts, ownS (tyInt .u8) q0_3 r.1.Data, at_ref12_Tape p0 r.2] R := by {
 unfold ref12_Tape_Hold at hm
 refine calls_start (args := [p0]) func16 z ntmps16 (Nat.le_of_ble_eq_true z) ?_
 refine wp_seq (wrl ?_)
 obtain ⟨b456, w457, ew458, eb459, hst⟩ := hst.box [Zu, Zu, Zu, Zs, Zs, Zs, Zs] 34
 refine wl_run (v := Pt b456 0) (w' := w457) z z (x_al (by kernel_rfl) ew458 eb459) ?_
 refine wl_nil (tn (wp_seq (wrl (wv (p0) z z z ?_))))
 replace hst := hst.pull1
 obtain ⟨t461, ht462, hm⟩ := bind_some hm
 refine wc call21 [p0] z z z ?_
 refine (ref12_Tape_Of_ref hst.to1 ht462).mono ?_
 rintro _ w463 ⟨rfl, hst⟩
 refine ⟨_, z, ?_⟩
 replace hst := hst.of1
 refine wv (p0) z z z ?_
 obtain ⟨t466, ht467, hm⟩ := bind_some hm
 refine wc call20 [p0, I6 (4:Int)] z z z ?_
 refine (ref12_Tape_Next_ref hst.to1 ht467).mono ?_
 rintro _ w468 ⟨rfl, hst⟩
 refine ⟨_, z, ?_⟩
 replace hst := hst.of1
 refine wv (.int .i64 (i64.wrap ((1:Int) + t466.1))) z z z (wv (.int .u64 (u64.wrap (i64.wrap ((1:Int) + t466.1)))) z z (by kernel_rfl) (wv (.agg #[U6 t461.1.Session, U6 t461.1.Seq, U6 (u64.wrap (i64.wrap ((1:Int) + t466.1))), Zs, Zs, Zs, Zs]) z z (by kernel_rfl) ?_))
 obtain ⟨b479, w480, ew481, eb482, hst⟩ := hst.box [Zu, Zu, Zu, Zs, Zs, Zs, Zs] 34
 refine wl_run (v := Pt b479 0) (w' := w480) z z (x_al (by kernel_rfl) ew481 eb482) ?_
 obtain ⟨w484, hr485, hst⟩ := hst.bx [U6 t461.1.Session, U6 t461.1.Seq, U6 (u64.wrap (i64.wrap ((1:Int) + t466.1))), Zs, Zs, Zs, Zs] sizeOf34 z (oC z (oC z (oC z (oC z (oC z (oC z (oC z oN))))))) (by kernel_rfl)
 refine wl_unit z z (x_unit hr485) ?_
 refine wl_nil (tn (wp_seq (wrl (wv (p0) z z z ?_))))
 replace hst := hst.pull1
 obtain ⟨t486, ht487, hm⟩ := bind_some hm
 refine wc call20 [p0, I6 (3:Int)] z z z ?_
 refine (ref12_Tape_Next_ref hst.to1 ht487).mono ?_
 rintro _ w488 ⟨rfl, hst⟩
 refine ⟨_, z, ?_⟩
 replace hst := hst.of1
 refine wv (.int .i64 t486.1) z z z (wl_nil (tn ?_))
 obtain ⟨y587, hm, hx588⟩ := bind_some hm
 refine wp_cut (fun a w => ∃ (z581 : ref12_Tape) (z584 : (List Nat)) (v583 : Value) (σ585 : Nat → Value), (ref12_Tape_Hold_j0 t461 t466) (z581, z584) = some r ∧ a = Fr 68 (upd (upd (upd σ585 0 (p0)) 2 (Pt b456 0)) 3 (Pt b479 0)) ∧ St w0 w I [at_ref12_Tape p0 z581, cells b456 [Zu, Zu, Zu, Zs, Zs, Zs, Zs], cells b479 [U6 t461.1.Session, U6 t461.1.Seq, U6 (u64.wrap (i64.wrap ((1:Int) + t466.1))), v583, Zs, Zs, Zs], ownS tyF64 v583 z584] R) ?_ ?_
 {
 refine wp_seq (wrl (wv (.int .i64 (0:Int)) z z z (wl_nil (tn (wp_block ?_)))))
 replace hst := hst.own_nil tyF64
 obtain ⟨n556, hm⟩ := loopO_some hm
 refine wp_loop_n (fun n a w => ∃ (z550 : (List Nat)) (z553 : ref12_Tape) (z554 : Int) (v551 : Value) (σ555 : Nat → Value), loopN (ref12_Tape_Hold_l1 t486) n (z550, z553, z554) = some y587 ∧ a = Fr 68 (upd (upd (upd (upd (upd σ555 0 (p0)) 2 (Pt b456 0)) 3 (Pt b479 0)) 4 (.int .i64 t486.1)) 5 (.int .i64 z554)) ∧ St w0 w I [ownS tyF64 v551 z550, at_ref12_Tape p0 z553, cells b479 [U6 t461.1.Session, U6 t461.1.Seq, U6 (u64.wrap (i64.wrap ((1:Int) + t466.1))), v551, Zs, Zs, Zs], cells b456 [Zu, Zu, Zu, Zs, Zs, Zs, Zs]] R) n556 ⟨[], t486.2, (0:Int), Zs, _, hm, (fu 0 p0 z (fu 2 (Pt b456 0) z (fu 3 (Pt b479 0) z (fu 4 (.int .i64 t486.1) z (fu 5 (.int .i64 (0:Int)) z z))))), hst⟩ ?_
 rintro n562 _ w557 ⟨z550, z553, z554, v551, σ555, hm, rfl, hst⟩
 obtain ⟨n559, y560, rfl, hm, hx561⟩ := loopN_some hm
 dsimp only [ref12_Tape_Hold_l1] at hm
 refine wp_seq (wp_seq (wrl (wv (.int .i64 z554) z z z (wv (.int .i64 t486.1) z z z (wv (.bool (decide (z554 < t486.1))) z z z (wl_nil (tn ?_)))))))
 refine bsplit (decide (z554 < t486.1)) (fun hc563 => ?_) (fun hc563 => ?_)
 {
 replace hm := bif_t hc563 hm
 refine wp_ift (cvb hc563) ?_
 refine wp_skip (tn (wp_seq (wp_block ?_)))
 refine wp_region_St hst 8 [0, 1, 2, 3, 4, 5, 6, 7] [0, 1, 0, 4, 12, 31, 63, 127] [] z (by kernel_rfl) (by kernel_rfl) Try.mixed (by kernel_rfl) ?_
 refine wsr (Pt b479 3) 0 z z z (by kernel_rfl) (fun w hst => x_field z underlying34 z sizeOf30 z) (wsr (v551) 1 z z z (by kernel_rfl) (fun w hst => x_load z isAgg30 (hst.bc2 z)) (wsr (p0) 2 z z z (by kernel_rfl) (fun w hst => z) ?_))
 refine ws_e1 3 (by kernel_rfl) ?_
 refine nxe [4, 5, 6, 7] (by kernel_rfl) z z ?_
 clear hst
 intro w hst
 replace hst := hst.pull1
 obtain ⟨t564, ht565, hm⟩ := bind_some hm
 refine wec call44 [p0] z z ?_
 refine (ref12_Tape_Float_ref hst.to1 ht565).mono ?_
 rintro _ w566 ⟨rfl, hst⟩
 refine ⟨_, z, ?_⟩
 replace hst := hst.of1
 refine ws_next (pend' := [(1, v551), (0, Pt b479 3)]) hst (by kernel_rfl) (pkr z z (fun w hst => x_load z isAgg30 (hst.bc2 z)) (pkr z z (fun w hst => x_field z underlying34 z sizeOf30 z) pk_nil)) ?_
 refine ws_e1 4 (by kernel_rfl) ?_
 refine nxe [5, 6, 7] (by kernel_rfl) z z ?_
 clear hst
 intro w hst
 obtain ⟨b569, w570, ew571, eb572, hst⟩ := hst.lits (E := tyF64) (xs := [t564.1]) [[F6 t564.1]] 57 1 z (Reps.cons z Reps.nil)
 refine we_run (v := (.slice (some ⟨b569, 0, none⟩) 1 1)) (w' := w570) z (x_als (by kernel_rfl) ew571 eb572) ?_
 refine ws_next (pend' := [(1, v551), (0, Pt b479 3)]) hst (by kernel_rfl) (pkr z z (fun w hst => x_load z isAgg30 (hst.bc3 z)) (pkr z z (fun w hst => x_field z underlying34 z sizeOf30 z) pk_nil)) ?_
 refine ws_e1 5 (by kernel_rfl) ?_
 refine nxe [6, 7] (by kernel_rfl) z z ?_
 clear hst
 intro w hst
 obtain ⟨hg574, hm⟩ := gd_some hm
 replace hst := hst.pull2
 obtain ⟨v575, w576, hr577, hst⟩ := run_append elem_30 underlying30 hst hst.src1 (room_of hg574 z) 30
 refine we_run (v := v575) (w' := w576) z (x_append z z hr577) ?_
 refine ws_next (pend' := []) hst (by kernel_rfl) pk_nil ?_
 refine wsr (Pt b479 3) 6 z z z (by kernel_rfl) (fun w hst => x_field z underlying34 z sizeOf30 z) ?_
 refine ws_e1 7 (by kernel_rfl) ?_
 refine nxe [] (by kernel_rfl) z z ?_
 clear hst
 intro w hst
 replace hst := hst.pull3
 obtain ⟨w579, hr580, hst⟩ := hst.boxStore1 (P := prog) (t := 30) (cs' := [U6 t461.1.Session, U6 t461.1.Seq, U6 (u64.wrap (i64.wrap ((1:Int) + t466.1))), v575, Zs, Zs, Zs]) 3 v575 (one_of_sliceV hst.sv1) sizeOf30 z z
 refine we_unit z (x_unit hr580) ?_
 refine ws_next (pend' := []) hst (by kernel_rfl) pk_nil ?_
 refine ws_nil ?_
 intro w hst
 refine blk_n (tn (wrl ?_))
 refine wv (.int .i64 z554) z z z (wv (.int .i64 (i64.wrap (z554 + (1:Int)))) z z z (wv (.int .i64 (i64.wrap (z554 + (1:Int)))) z z z (wl_nil (tn ?_))))
 replace hst := hst.pull4.pull1.pull4.pull3.keep4
 obtain rfl := some_inj hm
 exact ⟨_, Nat.lt_succ_self _, (z550 ++ ([t564.1])), t564.2, (i64.wrap (z554 + (1:Int))), v575, _, hx561, (fu 0 p0 z (fu 2 (Pt b456 0) z (fu 3 (Pt b479 0) z (fu 4 (.int .i64 t486.1) z (fu 5 (.int .i64 (i64.wrap (z554 + (1:Int)))) z z))))), hst⟩
}
 {
 replace hm := bif_f hc563 hm
 refine wp_iff (cvb hc563) ?_
 refine wp_exit (then_x (then_x ?_))
 replace hm := inr_up hm hx561
 refine blk_x (tn ?_)
 replace hst := hst.pull2.pull3.pull3.keep4
 obtain rfl := some_inj hm
 exact ⟨z553, z550, v551, _, hx588, (fu 0 p0 z (fu 2 (Pt b456 0) z (fu 3 (Pt b479 0) z z))), hst⟩
}
}
 {
 clear hst
 rintro _ w589 ⟨z581, z584, v583, σ585, hm, rfl, hst⟩
 dsimp only [ref12_Tape_Hold_j0] at hm
 refine wp_seq (wrl (wv (p0) z z z ?_))
 obtain ⟨t590, ht591, hm⟩ := bind_some hm
 refine wc call20 [p0, I6 (3:Int)] z z z ?_
 refine (ref12_Tape_Next_ref hst.to1 ht591).mono ?_
 rintro _ w592 ⟨rfl, hst⟩
 refine ⟨_, z, ?_⟩
 replace hst := hst.of1
 refine wv (.int .i64 (i64.wrap (Int.tdiv t590.1 (2:Int)))) z z (x_quo (by decide) z z) (wv (.int .i64 (i64.wrap (Int.tdiv t590.1 (2:Int)))) z z z (wl_nil (tn ?_)))
 obtain ⟨y711, hm, hx712⟩ := bind_some hm
 refine wp_cut (fun a w => ∃ (z705 : ref12_Tape) (z708 : (List (Nat × Nat))) (v707 : Value) (σ709 : Nat → Value), (ref12_Tape_Hold_j2 t461 t466 z584) (z705, z708) = some r ∧ a = Fr 68 (upd (upd (upd σ709 0 (p0)) 2 (Pt b456 0)) 3 (Pt b479 0)) ∧ St w0 w I [at_ref12_Tape p0 z705, cells b456 [Zu, Zu, Zu, Zs, Zs, Zs, Zs], cells b479 [U6 t461.1.Session, U6 t461.1.Seq, U6 (u64.wrap (i64.wrap ((1:Int) + t466.1))), v583, v707, Zs, Zs], ownS tyF64 v583 z584, ownS tyF2 v707 z708] R) ?_ ?_
 {
 refine wp_seq (wrl (wv (.int .i64 (0:Int)) z z z (wl_nil (tn (wp_block ?_)))))
 replace hst := hst.own_nil tyF2
 obtain ⟨n675, hm⟩ := loopO_some hm
 refine wp_loop_n (fun n a w => ∃ (z669 : (List (Nat × Nat))) (z672 : ref12_Tape) (z673 : Int) (v670 : Value) (σ674 : Nat → Value), loopN (ref12_Tape_Hold_l3 t590) n (z669, z672, z673) = some y711 ∧ a = Fr 68 (upd (upd (upd (upd (upd σ674 0 (p0)) 2 (Pt b456 0)) 3 (Pt b479 0)) 4 (.int .i64 (i64.wrap (Int.tdiv t590.1 (2:Int))))) 6 (.int .i64 z673)) ∧ St w0 w I [ownS tyF2 v670 z669, at_ref12_Tape p0 z672, cells b456 [Zu, Zu, Zu, Zs, Zs, Zs, Zs], cells b479 [U6 t461.1.Session, U6 t461.1.Seq, U6 (u64.wrap (i64.wrap ((1:Int) + t466.1))), v583, v670, Zs, Zs], ownS tyF64 v583 z584] R) n675 ⟨[], t590.2, (0:Int), Zs, _, hm, (fu 0 p0 z (fu 2 (Pt b456 0) z (fu 3 (Pt b479 0) z (fu 4 (.int .i64 (i64.wrap (Int.tdiv t590.1 (2:Int)))) z (fu 6 (.int .i64 (0:Int)) z z))))), hst⟩ ?_
 rintro n681 _ w676 ⟨z669, z672, z673, v670, σ674, hm, rfl, hst⟩
 obtain ⟨n678, y679, rfl, hm, hx680⟩ := loopN_some hm
 dsimp only [ref12_Tape_Hold_l3] at hm
 refine wp_seq (wp_seq (wrl (wv (.int .i64 z673) z z z (wv (.int .i64 (i64.wrap (Int.tdiv t590.1 (2:Int)))) z z z (wv (.bool (decide (z673 < (i64.wrap (Int.tdiv t590.1 (2:Int)))))) z z z (wl_nil (tn ?_)))))))
 refine bsplit (decide (z673 < (i64.wrap (Int.tdiv t590.1 (2:Int))))) (fun hc682 => ?_) (fun hc682 => ?_)
 {
 replace hm := bif_t hc682 hm
 refine wp_ift (cvb hc682) ?_
 refine wp_skip (tn (wp_seq (wp_block ?_)))
 refine wp_region_St hst 11 [0, 1, 2, 3, 4, 5, 6, 7, 8, 9, 10] [0, 1, 0, 4, 0, 28, 60, 124, 255, 511, 1023] [] z (by kernel_rfl) (by kernel_rfl) Try.mixed (by kernel_rfl) ?_
 refine wsr (Pt b479 4) 0 z z z (by kernel_rfl) (fun w hst => x_field z underlying34 z sizeOf31 z) (wsr (v670) 1 z z z (by kernel_rfl) (fun w hst => x_load z isAgg31 (hst.bc3 z)) (wsr (p0) 2 z z z (by kernel_rfl) (fun w hst => z) (wsr (p0) 4 z z z (by kernel_rfl) (fun w hst => z) ?_)))
 refine ws_e1 3 (by kernel_rfl) ?_
 refine nxe [5, 6, 7, 8, 9, 10] (by kernel_rfl) z z ?_
 clear hst
 intro w hst
 replace hst := hst.pull1
 obtain ⟨t683, ht684, hm⟩ := bind_some hm
 refine wec call44 [p0] z z ?_
 refine (ref12_Tape_Float_ref hst.to1 ht684).mono ?_
 rintro _ w685 ⟨rfl, hst⟩
 refine ⟨_, z, ?_⟩
 replace hst := hst.of1
 refine ws_next (pend' := [(4, p0), (1, v670), (0, Pt b479 4)]) hst (by kernel_rfl) (pkr z z (fun w hst => z) (pkr z z (fun w hst => x_load z isAgg31 (hst.bc3 z)) (pkr z z (fun w hst => x_field z underlying34 z sizeOf31 z) pk_nil))) ?_
 refine ws_e1 5 (by kernel_rfl) ?_
 refine nxe [6, 7, 8, 9, 10] (by kernel_rfl) z z ?_
 clear hst
 intro w hst
 obtain ⟨t688, ht689, hm⟩ := bind_some hm
 refine wec call44 [p0] z z ?_
 refine (ref12_Tape_Float_ref hst.to1 ht689).mono ?_
 rintro _ w690 ⟨rfl, hst⟩
 refine ⟨_, z, ?_⟩
 replace hst := hst.of1
 refine ws_next (pend' := [(1, v670), (0, Pt b479 4)]) hst (by kernel_rfl) (pkr z z (fun w hst => x_load z isAgg31 (hst.bc3 z)) (pkr z z (fun w hst => x_field z underlying34 z sizeOf31 z) pk_nil)) ?_
 refine wsr (.agg #[F6 t683.1, F6 t688.1]) 6 z z z (by kernel_rfl) (fun w hst => by kernel_rfl) ?_
 refine ws_e1 7 (by kernel_rfl) ?_
 refine nxe [8, 9, 10] (by kernel_rfl) z z ?_
 clear hst
 intro w hst
 obtain ⟨b693, w694, ew695, eb696, hst⟩ := hst.lits (E := tyF2) (xs := [(t683.1, t688.1)]) [[F6 t683.1, F6 t688.1]] 75 1 z (Reps.cons z Reps.nil)
 refine we_run (v := (.slice (some ⟨b693, 0, none⟩) 1 1)) (w' := w694) z (x_als (by kernel_rfl) ew695 eb696) ?_
 refine ws_next (pend' := [(1, v670), (0, Pt b479 4)]) hst (by kernel_rfl) (pkr z z (fun w hst => x_load z isAgg31 (hst.bc4 z)) (pkr z z (fun w hst => x_field z underlying34 z sizeOf31 z) pk_nil)) ?_
 refine ws_e1 8 (by kernel_rfl) ?_
 refine nxe [9, 10] (by kernel_rfl) z z ?_
 clear hst
 intro w hst
 obtain ⟨hg698, hm⟩ := gd_some hm
 replace hst := hst.pull2
 obtain ⟨v699, w700, hr701, hst⟩ := run_append elem_31 underlying31 hst hst.src1 (room_of hg698 z) 31
 refine we_run (v := v699) (w' := w700) z (x_append z z hr701) ?_
 refine ws_next (pend' := []) hst (by kernel_rfl) pk_nil ?_
 refine wsr (Pt b479 4) 9 z z z (by kernel_rfl) (fun w hst => x_field z underlying34 z sizeOf31 z) ?_
 refine ws_e1 10 (by kernel_rfl) ?_
 refine nxe [] (by kernel_rfl) z z ?_
 clear hst
 intro w hst
 replace hst := hst.pull4
 obtain ⟨w703, hr704, hst⟩ := hst.boxStore1 (P := prog) (t := 31) (cs' := [U6 t461.1.Session, U6 t461.1.Seq, U6 (u64.wrap (i64.wrap ((1:Int) + t466.1))), v583, v699, Zs, Zs]) 4 v699 (one_of_sliceV hst.sv1) sizeOf31 z z
 refine we_unit z (x_unit hr704) ?_
 refine ws_next (pend' := []) hst (by kernel_rfl) pk_nil ?_
 refine ws_nil ?_
 intro w hst
 refine blk_n (tn (wrl ?_))
 refine wv (.int .i64 z673) z z z (wv (.int .i64 (i64.wrap (z673 + (1:Int)))) z z z (wv (.int .i64 (i64.wrap (z673 + (1:Int)))) z z z (wl_nil (tn ?_))))
 replace hst := hst.pull5.pull1.pull5.pull5.pull4.keep5
 obtain rfl := some_inj hm
 exact ⟨_, Nat.lt_succ_self _, (z669 ++ ([(t683.1, t688.1)])), t688.2, (i64.wrap (z673 + (1:Int))), v699, _, hx680, (fu 0 p0 z (fu 2 (Pt b456 0) z (fu 3 (Pt b479 0) z (fu 4 (.int .i64 (i64.wrap (Int.tdiv t590.1 (2:Int)))) z (fu 6 (.int .i64 (i64.wrap (z673 + (1:Int)))) z z))))), hst⟩
}
 {
 replace hm := bif_f hc682 hm
 refine wp_iff (cvb hc682) ?_
 refine wp_exit (then_x (then_x ?_))
 replace hm := inr_up hm hx680
 refine blk_x (tn ?_)
 replace hst := hst.pull4.pull4.pull4.pull4.keep5
 obtain rfl := some_inj hm
 exact ⟨z672, z669, v670, _, hx712, (fu 0 p0 z (fu 2 (Pt b456 0) z (fu 3 (Pt b479 0) z z))), hst⟩
}
}
 {
 clear hst
 rintro _ w713 ⟨z705, z708, v707, σ709, hm, rfl, hst⟩
 dsimp only [ref12_Tape_Hold_j2] at hm
 refine wp_seq (wrl (wv (p0) z z z ?_))
 obtain ⟨t714, ht715, hm⟩ := bind_some hm
 refine wc call20 [p0, I6 (3:Int)] z z z ?_
 refine (ref12_Tape_Next_ref hst.to1 ht715).mono ?_
 rintro _ w716 ⟨rfl, hst⟩
 refine ⟨_, z, ?_⟩
 replace hst := hst.of1
 refine wv (.int .i64 t714.1) z z z (wl_nil (tn ?_))
 obtain ⟨y815, hm, hx816⟩ := bind_some hm
 refine wp_cut (fun a w => ∃ (z809 : ref12_Tape) (z812 : (List Nat)) (v811 : Value) (σ813 : Nat → Value), (ref12_Tape_Hold_j4 t461 t466 z584 z708) (z809, z812) = some r ∧ a = Fr 68 (upd (upd (upd σ813 0 (p0)) 2 (Pt b456 0)) 3 (Pt b479 0)) ∧ St w0 w I [at_ref12_Tape p0 z809, cells b456 [Zu, Zu, Zu, Zs, Zs, Zs, Zs], cells b479 [U6 t461.1.Session, U6 t461.1.Seq, U6 (u64.wrap (i64.wrap ((1:Int) + t466.1))), v583, v707, v811, Zs], ownS tyF64 v583 z584, ownS tyF2 v707 z708, ownS tyF64 v811 z812] R) ?_ ?_
 {
 refine wp_seq (wrl (wv (.int .i64 (0:Int)) z z z (wl_nil (tn (wp_block ?_)))))
 replace hst := hst.own_nil tyF64
 obtain ⟨n784, hm⟩ := loopO_some hm
 refine wp_loop_n (fun n a w => ∃ (z778 : (List Nat)) (z781 : ref12_Tape) (z782 : Int) (v779 : Value) (σ783 : Nat → Value), loopN (ref12_Tape_Hold_l5 t714) n (z778, z781, z782) = some y815 ∧ a = Fr 68 (upd (upd (upd (upd (upd σ783 0 (p0)) 2 (Pt b456 0)) 3 (Pt b479 0)) 4 (.int .i64 t714.1)) 7 (.int .i64 z782)) ∧ St w0 w I [ownS tyF64 v779 z778, at_ref12_Tape p0 z781, cells b456 [Zu, Zu, Zu, Zs, Zs, Zs, Zs], cells b479 [U6 t461.1.Session, U6 t461.1.Seq, U6 (u64.wrap (i64.wrap ((1:Int) + t466.1))), v583, v707, v779, Zs], ownS tyF64 v583 z584, ownS tyF2 v707 z708] R) n784 ⟨[], t714.2, (0:Int), Zs, _, hm, (fu 0 p0 z (fu 2 (Pt b456 0) z (fu 3 (Pt b479 0) z (fu 4 (.int .i64 t714.1) z (fu 7 (.int .i64 (0:Int)) z z))))), hst⟩ ?_
 rintro n790 _ w785 ⟨z778, z781, z782, v779, σ783, hm, rfl, hst⟩
 obtain ⟨n787, y788, rfl, hm, hx789⟩ := loopN_some hm
 dsimp only [ref12_Tape_Hold_l5] at hm
 refine wp_seq (wp_seq (wrl (wv (.int .i64 z782) z z z (wv (.int .i64 t714.1) z z z (wv (.bool (decide (z782 < t714.1))) z z z (wl_nil (tn ?_)))))))
 refine bsplit (decide (z782 < t714.1)) (fun hc791 => ?_) (fun hc791 => ?_)
 {
 replace hm := bif_t hc791 hm
 refine wp_ift (cvb hc791) ?_
 refine wp_skip (tn (wp_seq (wp_block ?_)))
 refine wp_region_St hst 8 [0, 1, 2, 3, 4, 5, 6, 7] [0, 1, 0, 4, 12, 31, 63, 127] [] z (by kernel_rfl) (by kernel_rfl) Try.mixed (by kernel_rfl) ?_
 refine wsr (Pt b479 5) 0 z z z (by kernel_rfl) (fun w hst => x_field z underlying34 z sizeOf30 z) (wsr (v779) 1 z z z (by kernel_rfl) (fun w hst => x_load z isAgg30 (hst.bc3 z)) (wsr (p0) 2 z z z (by kernel_rfl) (fun w hst => z) ?_))
 refine ws_e1 3 (by kernel_rfl) ?_
 refine nxe [4, 5, 6, 7] (by kernel_rfl) z z ?_
 clear hst
 intro w hst
 replace hst := hst.pull1
 obtain ⟨t792, ht793, hm⟩ := bind_some hm
 refine wec call44 [p0] z z ?_
 refine (ref12_Tape_Float_ref hst.to1 ht793).mono ?_
 rintro _ w794 ⟨rfl, hst⟩
 refine ⟨_, z, ?_⟩
 replace hst := hst.of1
 refine ws_next (pend' := [(1, v779), (0, Pt b479 5)]) hst (by kernel_rfl) (pkr z z (fun w hst => x_load z isAgg30 (hst.bc3 z)) (pkr z z (fun w hst => x_field z underlying34 z sizeOf30 z) pk_nil)) ?_
 refine ws_e1 4 (by kernel_rfl) ?_
 refine nxe [5, 6, 7] (by kernel_rfl) z z ?_
 clear hst
 intro w hst
 obtain ⟨b797, w798, ew799, eb800, hst⟩ := hst.lits (E := tyF64) (xs := [t792.1]) [[F6 t792.1]] 57 1 z (Reps.cons z Reps.nil)
 refine we_run (v := (.slice (some ⟨b797, 0, none⟩) 1 1)) (w' := w798) z (x_als (by kernel_rfl) ew799 eb800) ?_
 refine ws_next (pend' := [(1, v779), (0, Pt b479 5)]) hst (by kernel_rfl) (pkr z z (fun w hst => x_load z isAgg30 (hst.bc4 z)) (pkr z z (fun w hst => x_field z underlying34 z sizeOf30 z) pk_nil)) ?_
 refine ws_e1 5 (by kernel_rfl) ?_
 refine nxe [6, 7] (by kernel_rfl) z z ?_
 clear hst
 intro w hst
 obtain ⟨hg802, hm⟩ := gd_some hm
 replace hst := hst.pull2
 obtain ⟨v803, w804, hr805, hst⟩ := run_append elem_30 underlying30 hst hst.src1 (room_of hg802 z) 30
 refine we_run (v := v803) (w' := w804) z (x_append z z hr805) ?_
 refine ws_next (pend' := []) hst (by kernel_rfl) pk_nil ?_
 refine wsr (Pt b479 5) 6 z z z (by kernel_rfl) (fun w hst => x_field z underlying34 z sizeOf30 z) ?_
 refine ws_e1 7 (by kernel_rfl) ?_
 refine nxe [] (by kernel_rfl) z z ?_
 clear hst
 intro w hst
 replace hst := hst.pull4
 obtain ⟨w807, hr808, hst⟩ := hst.boxStore1 (P := prog) (t := 30) (cs' := [U6 t461.1.Session, U6 t461.1.Seq, U6 (u64.wrap (i64.wrap ((1:Int) + t466.1))), v583, v707, v803, Zs]) 5 v803 (one_of_sliceV hst.sv1) sizeOf30 z z
 refine we_unit z (x_unit hr808) ?_
 refine ws_next (pend' := []) hst (by kernel_rfl) pk_nil ?_
 refine ws_nil ?_
 intro w hst
 refine blk_n (tn (wrl ?_))
 refine wv (.int .i64 z782) z z z (wv (.int .i64 (i64.wrap (z782 + (1:Int)))) z z z (wv (.int .i64 (i64.wrap (z782 + (1:Int)))) z z z (wl_nil (tn ?_))))
 replace hst := hst.pull6.pull6.pull2.pull6.pull6.pull5.keep6
 obtain rfl := some_inj hm
 exact ⟨_, Nat.lt_succ_self _, (z778 ++ ([t792.1])), t792.2, (i64.wrap (z782 + (1:Int))), v803, _, hx789, (fu 0 p0 z (fu 2 (Pt b456 0) z (fu 3 (Pt b479 0) z (fu 4 (.int .i64 t714.1) z (fu 7 (.int .i64 (i64.wrap (z782 + (1:Int)))) z z))))), hst⟩
}
 {
 replace hm := bif_f hc791 hm
 refine wp_iff (cvb hc791) ?_
 refine wp_exit (then_x (then_x ?_))
 replace hm := inr_up hm hx789
 refine blk_x (tn ?_)
 replace hst := hst.pull5.pull5.pull5.pull5.pull5.keep6
 obtain rfl := some_inj hm
 exact ⟨z781, z778, v779, _, hx816, (fu 0 p0 z (fu 2 (Pt b456 0) z (fu 3 (Pt b479 0) z z))), hst⟩
}
}
 {
 clear hst
 rintro _ w817 ⟨z809, z812, v811, σ813, hm, rfl, hst⟩
 dsimp only [ref12_Tape_Hold_j4] at hm
 refine wp_seq (wp_seq (wrl (wv (p0) z z z ?_)))
 obtain ⟨t818, ht819, hm⟩ := bind_some hm
 refine wc call20 [p0, I6 (4:Int)] z z z ?_
 refine (ref12_Tape_Next_ref hst.to1 ht819).mono ?_
 rintro _ w820 ⟨rfl, hst⟩
 refine ⟨_, z, ?_⟩
 replace hst := hst.of1
 refine wv (.bool (t818.1 == (0:Int))) z z z (wl_nil (tn ?_))
 refine bsplit (t818.1 == (0:Int)) (fun hc823 => ?_) (fun hc823 => ?_)
 {
 replace hm := bif_t hc823 hm
 refine wp_ift (cvb hc823) ?_
 refine wrl (wv (p0) z z z ?_)
 obtain ⟨t824, ht825, hm⟩ := bind_some hm
 refine wc call45 [p0] z z z ?_
 refine (ref12_Tape_Val_ref hst.to1 ht825).mono ?_
 rintro _ w826 ⟨v829, rfl, hst⟩
 refine ⟨_, z, ?_⟩
 replace hst := hst.of2
 refine wv (Pt b479 6) z z (x_field z underlying34 z sizeOf32 z) ?_
 replace hst := hst.pull3
 obtain ⟨w831, hr832, hst⟩ := hst.boxStore1 (P := prog) (t := 32) (cs' := [U6 t461.1.Session, U6 t461.1.Seq, U6 (u64.wrap (i64.wrap ((1:Int) + t466.1))), v583, v707, v811, v829]) 6 v829 (one_of_sliceV hst.sv1) sizeOf32 z z
 refine wl_unit z z (x_unit hr832) ?_
 refine wl_nil (tn (wp_seq (wrl (wv (.agg #[U6 t461.1.Session, U6 t461.1.Seq, U6 (u64.wrap (i64.wrap ((1:Int) + t466.1))), v583, v707, v811, v829]) z z (x_loadN (cs := [U6 t461.1.Session, U6 t461.1.Seq, U6 (u64.wrap (i64.wrap ((1:Int) + t466.1))), v583, v707, v811, v829]) z isAgg34 sizeOf34 (hst.bcs0 0 z)) ?_))))
 replace hst := hst.pull3
 obtain ⟨w833, hr834, hst⟩ := hst.bx [U6 t461.1.Session, U6 t461.1.Seq, U6 (u64.wrap (i64.wrap ((1:Int) + t466.1))), v583, v707, v811, v829] sizeOf34 z (oC z (oC z (oC z (oC (one_of_sliceV hst.sv4) (oC (one_of_sliceV hst.sv5) (oC (one_of_sliceV hst.sv6) (oC (one_of_sliceV hst.sv2) oN))))))) (by kernel_rfl)
 refine wl_unit z z (x_unit hr834) ?_
 refine wl_nil (tn (wp_ret ?_))
 obtain rfl := some_inj hm
 refine post_ret (vs := [.agg #[U6 t461.1.Session, U6 t461.1.Seq, U6 (u64.wrap (i64.wrap ((1:Int) + t466.1))), v583, v707, v811, v829]]) results16 (rvs_cons (rv_cell (cs := [U6 t461.1.Session, U6 t461.1.Seq, U6 (u64.wrap (i64.wrap ((1:Int) + t466.1))), v583, v707, v811, v829]) z isAgg34 sizeOf34 (hst.bcs0 0 z)) rvs_nil) ?_
 replace hst := hst.pull3.pull3.pull6.pull6.pull6
 exact ⟨v583, v707, v811, v829, z, hst.keep5⟩
}
 {
 replace hm := bif_f hc823 hm
 refine wp_iff (cvb hc823) ?_
 refine wp_skip (tn (wp_seq (wrl ?_)))
 refine wv (.agg #[U6 t461.1.Session, U6 t461.1.Seq, U6 (u64.wrap (i64.wrap ((1:Int) + t466.1))), v583, v707, v811, Zs]) z z (x_loadN (cs := [U6 t461.1.Session, U6 t461.1.Seq, U6 (u64.wrap (i64.wrap ((1:Int) + t466.1))), v583, v707, v811, Zs]) z isAgg34 sizeOf34 (hst.bcs2 0 z)) ?_
 replace hst := hst.pull1
 obtain ⟨w835, hr836, hst⟩ := hst.bx [U6 t461.1.Session, U6 t461.1.Seq, U6 (u64.wrap (i64.wrap ((1:Int) + t466.1))), v583, v707, v811, Zs] sizeOf34 z (oC z (oC z (oC z (oC (one_of_sliceV hst.sv3) (oC (one_of_sliceV hst.sv4) (oC (one_of_sliceV hst.sv5) (oC z oN))))))) (by kernel_rfl)
 refine wl_unit z z (x_unit hr836) ?_
 refine wl_nil (tn (wp_ret ?_))
 replace hst := hst.own_nil (tyInt .u8)
 obtain rfl := some_inj hm
 refine post_ret (vs := [.agg #[U6 t461.1.Session, U6 t461.1.Seq, U6 (u64.wrap (i64.wrap ((1:Int) + t466.1))), v583, v707, v811, Zs]]) results16 (rvs_cons (rv_cell (cs := [U6 t461.1.Session, U6 t461.1.Seq, U6 (u64.wrap (i64.wrap ((1:Int) + t466.1))), v583, v707, v811, Zs]) z isAgg34 sizeOf34 (hst.bcs1 0 z)) rvs_nil) ?_
 replace hst := hst.pull2.pull1.pull6.pull6.pull6
 exact ⟨v583, v707, v811, Zs, z, hst.keep5⟩
}
}
}
}
}

theorem locks_Same_1_ref {w0 w : World} {I : HL} {R : SP} {a0 : (Nat × Nat)} {a1 : (Nat × Nat)}  (hst : St w0 w I [] R) {r : (Bool)} (hm : locks_Same_1 a0 a1 = some r) :
  Calls prog 46 #[.agg #[F6 a0.1, F6 a0.2], .agg #[F6 a1.1, F6 a1.2]] w fun e w' => e = .returned (.bool r) ∧ St w0 w' I [] R := by {
 unfold locks_Same_1 at hm
 refine calls_start (args := [.agg #[F6 a0.1, F6 a0.2], .agg #[F6 a1.1, F6 a1.2]]) func46 z ntmps46 (Nat.le_of_ble_eq_true z) ?_
 refine wp_seq (wrl ?_)
 obtain ⟨b248, w249, ew250, eb251, hst⟩ := hst.box [F6 a0.1, F6 a0.2] 75
 refine wl_run (v := Pt b248 0) (w' := w249) z z (x_al (by kernel_rfl) ew250 eb251) ?_
 obtain ⟨b253, w254, ew255, eb256, hst⟩ := hst.box [F6 a1.1, F6 a1.2] 75
 refine wl_run (v := Pt b253 0) (w' := w254) z z (x_al (by kernel_rfl) ew255 eb256) ?_
 refine wv (.bool false) z z z (wl_nil (tn (wp_seq (wrl (wv (Pt b248 0) z z (x_index_arr (i := (0:Int)) z z underlying75 sizeOf57 (by decide) (by decide)) (wv (.float .f64 a0.1) z z (x_load z isAgg57 (hst.bc1 z)) (wv (Pt b253 0) z z (x_index_arr (i := (0:Int)) z z underlying75 sizeOf57 (by decide) (by decide)) (wv (.float .f64 a1.1) z z (x_load z isAgg57 (hst.bc0 z)) ?_))))))))
 obtain ⟨t258, ht259, hm⟩ := bind_some hm
 refine wc call47 [F6 a0.1, F6 a1.1] z z z ?_
 refine (number_Same_ref hst.to0 ht259).mono ?_
 rintro _ w260 ⟨rfl, hst⟩
 refine ⟨_, z, ?_⟩
 replace hst := hst.of0
 refine wv (.bool t258) z z z ?_
 refine bsplit t258 (fun hc263 => ?_) (fun hc263 => ?_)
 {
 replace hm := bif_t hc263 hm
 refine wv (Pt b248 1) ((wanted_eq z z z (cvb hc263)).trans z) z (x_index_arr (i := (1:Int)) z z underlying75 sizeOf57 (by decide) (by decide)) (wv (.float .f64 a0.2) ((wanted_eq z z z (cvb hc263)).trans z) z (x_load z isAgg57 (hst.bc1 z)) (wv (Pt b253 1) ((wanted_eq z z z (cvb hc263)).trans z) z (x_index_arr (i := (1:Int)) z z underlying75 sizeOf57 (by decide) (by decide)) (wv (.float .f64 a1.2) ((wanted_eq z z z (cvb hc263)).trans z) z (x_load z isAgg57 (hst.bc0 z)) ?_)))
 obtain ⟨t264, ht265, hm⟩ := bind_some hm
 refine wl_call ((wanted_eq z z z (cvb hc263)).trans z) z (x_call call47 z (vs := [F6 a0.2, F6 a1.2]) z) ?_
 refine (number_Same_ref hst.to0 ht265).mono ?_
 rintro _ w266 ⟨rfl, hst⟩
 refine ⟨_, z, ?_⟩
 replace hst := hst.of0
 refine wv (.bool t264) z z (x_pick_t hc263 z z) (wv (.bool t264) z z z (wl_nil (tn (wp_ret ?_))))
 obtain rfl := some_inj hm
 refine post_ret (vs := [.bool t264]) results46 (rvs_cons (rv_tmp z) rvs_nil) ?_
 exact ⟨z, hst.keep0⟩
}
 {
 replace hm := bif_f hc263 hm
 refine wo hc263 z z z z z z (wo hc263 z z z z z z (wo hc263 z z z z z z (wo hc263 z z z z z z (wo hc263 z z z z z z (wv (.bool false) z z (x_pick_f hc263 z z) (wv (.bool false) z z z (wl_nil (tn (wp_ret ?_)))))))))
 obtain rfl := some_inj hm
 refine post_ret (vs := [.bool false]) results46 (rvs_cons (rv_tmp z) rvs_nil) ?_
 exact ⟨z, hst.keep0⟩
}
}

theorem slices_Equal_byte_byte_ref {w0 w : World} {I : HL} {R : SP} {a0 : (List Int)} {r0_0 : Value} {a1 : (List Int)} {r1_0 : Value} (f0_0 : Rd (tyInt .u8) R I r0_0 a0) (f1_0 : Rd (tyInt .u8) R I r1_0 a1) (hst : St w0 w I [] R) {r : (Bool)} (hm : slices_Equal_byte_byte a0 a1 = some r) :
  Calls prog 50 #[r0_0, r1_0] w fun e w' => e = .returned (.bool r) ∧ St w0 w' I [] R := by {
 unfold slices_Equal_byte_byte at hm
 refine calls_start (args := [r0_0, r1_0]) func50 z ntmps50 (Nat.le_of_ble_eq_true z) ?_
 refine wp_seq (wrl (wv (.bool false) z z z (wl_nil (tn (wp_seq (wp_seq (wrl (wv (r0_0) z z z (wv (.int .i64 ((a0).length : Int)) z z (x_len z underlying32 (rd_sliceV f0_0)) (wv (r1_0) z z z (wv (.int .i64 ((a1).length : Int)) z z (x_len z underlying32 (rd_sliceV f1_0)) (wv (.bool (((a0).length : Int) != ((a1).length : Int))) z z z (wl_nil (tn ?_))))))))))))))
 refine bsplit (((a0).length : Int) != ((a1).length : Int)) (fun hc430 => ?_) (fun hc430 => ?_)
 {
 replace hm := bif_t hc430 hm
 refine wp_ift (cvb hc430) ?_
 refine wp_seq (wrl (wv (.bool false) z z z (wl_nil (tn (wp_ret (then_r ?_))))))
 obtain rfl := some_inj hm
 refine post_ret (vs := [.bool false]) results50 (rvs_cons (rv_tmp z) rvs_nil) ?_
 exact ⟨z, hst.keep0⟩
}
 {
 replace hm := bif_f hc430 hm
 refine wp_iff (cvb hc430) ?_
 refine wp_skip (tn (wp_seq (wp_seq (wrl ?_))))
 refine wv (r0_0) z z z (wv (.int .i64 ((a0).length : Int)) z z (x_len z underlying32 (rd_sliceV f0_0)) (wv (.int .i64 (0:Int)) z z z (wl_nil (tn (wp_block ?_)))))
 obtain ⟨n458, hm⟩ := loopO_some hm
 refine wp_loop_n (fun n a w => ∃ (z456 : Int) (σ457 : Nat → Value), loopN (slices_Equal_byte_byte_l0 a0 a1) n z456 = some r ∧ a = Fr 26 (upd (upd (upd (upd σ457 0 (r0_0)) 1 (r1_0)) 12 (.int .i64 ((a0).length : Int))) 13 (.int .i64 z456)) ∧ St w0 w I [] R) n458 ⟨(0:Int), _, hm, (fu 0 r0_0 z (fu 1 r1_0 z (fu 12 (.int .i64 ((a0).length : Int)) z (fu 13 (.int .i64 (0:Int)) z z)))), hst⟩ ?_
 rintro n464 _ w459 ⟨z456, σ457, hm, rfl, hst⟩
 obtain ⟨n461, y462, rfl, hm, hx463⟩ := loopN_some hm
 dsimp only [slices_Equal_byte_byte_l0] at hm
 refine wp_seq (wrl (wv (.bool (decide (z456 < ((a0).length : Int)))) z z z (wl_nil (tn (wp_seq ?_)))))
 refine bsplit (decide (z456 < ((a0).length : Int))) (fun hc465 => ?_) (fun hc465 => ?_)
 {
 replace hm := bif_t hc465 hm
 refine wp_ift (cvb hc465) ?_
 refine wp_skip (tn (wp_seq (wp_block (wp_seq (wrl ?_)))))
 refine wv (.int .i64 z456) z z z (wv (.int .i64 z456) z z z (wl_nil (tn (wp_seq ?_))))
 refine wq_regionS hst Try.mixed (by kernel_rfl) ?_
 refine wq_run (v := r0_0) z z (fun w hst => z) ?_
 refine wq_run (v := .int .i64 z456) z z (fun w hst => z) ?_
 obtain ⟨x466, hx467, hm⟩ := bind_some hm
 obtain ⟨h468, h469, hi470⟩ := geto_some hx467
 refine wq_run (v := .pointer (some (eAddr r0_0 (z456.toNat * 1 + 0)))) z z (fun w hst => x_index z z underlying32 sizeOf5 (rd_sliceV f0_0) h468 h469) ?_
 refine wq_run (v := .int .u8 x466) z z (fun w hst => x_load z isAgg5 (rd_load f0_0 (HL.le.refl _) hst hi470 (by rintro _ rfl; rfl))) ?_
 refine wq_run (v := r1_0) z z (fun w hst => z) ?_
 refine wq_run (v := .int .i64 z456) z z (fun w hst => z) ?_
 obtain ⟨x471, hx472, hm⟩ := bind_some hm
 obtain ⟨h473, h474, hi475⟩ := geto_some hx472
 refine wq_run (v := .pointer (some (eAddr r1_0 (z456.toNat * 1 + 0)))) z z (fun w hst => x_index z z underlying32 sizeOf5 (rd_sliceV f1_0) h473 h474) ?_
 refine wq_run (v := .int .u8 x471) z z (fun w hst => x_load z isAgg5 (rd_load f1_0 (HL.le.refl _) hst hi475 (by rintro _ rfl; rfl))) ?_
 refine wq_run (v := .bool (x466 != x471)) z z (fun w hst => z) ?_
 refine wq_nil ?_
 intro w hst
 refine tn ?_
 refine bsplit (x466 != x471) (fun hc476 => ?_) (fun hc476 => ?_)
 {
 replace hm := bif_t hc476 hm
 refine wp_ift (cvb hc476) ?_
 refine wp_seq (wrl (wv (.bool false) z z z (wl_nil (tn (wp_ret (blk_r (then_r (then_r ?_))))))))
 replace hm := inr_up hm hx463
 refine blk_r (then_r ?_)
 obtain rfl := some_inj hm
 refine post_ret (vs := [.bool false]) results50 (rvs_cons (rv_tmp z) rvs_nil) ?_
 exact ⟨z, hst.keep0⟩
}
 {
 replace hm := bif_f hc476 hm
 refine wp_iff (cvb hc476) ?_
 refine wp_skip (blk_n (tn (wrl ?_)))
 refine wv (.int .i64 (i64.wrap (z456 + (1:Int)))) z z z (wv (.int .i64 (i64.wrap (z456 + (1:Int)))) z z z (wl_nil (tn ?_)))
 replace hst := hst.keep0
 obtain rfl := some_inj hm
 exact ⟨_, Nat.lt_succ_self _, (i64.wrap (z456 + (1:Int))), _, hx463, (fu 0 r0_0 z (fu 1 r1_0 z (fu 12 (.int .i64 ((a0).length : Int)) z (fu 13 (.int .i64 (i64.wrap (z456 + (1:Int)))) z z)))), hst⟩
}
}
 {
 replace hm := bif_f hc465 hm
 refine wp_iff (cvb hc465) ?_
 refine wp_exit (then_x (then_x ?_))
 replace hm := inr_up hm hx463
 refine blk_x (tn (wp_seq (wrl ?_)))
 refine wv (.bool true) z z z (wl_nil (tn (wp_ret ?_)))
 obtain rfl := some_inj hm
 refine post_ret (vs := [.bool true]) results50 (rvs_cons (rv_tmp z) rvs_nil) ?_
 exact ⟨z, hst.keep0⟩
}
}
}

theorem locks_Same_ref {w0 w : World} {I : HL} {R : SP} {a0 : api_Hold} {r0_0 : Value} {r0_1 : Value} {r0_2 : Value} {r0_3 : Value} {a1 : api_Hold} {r1_0 : Value} {r1_1 : Value} {r1_2 : Value} {r1_3 : Value} (f0_0 : Rd tyF64 R I r0_0 a0.Gets) (f0_1 : Rd tyF2 R I r0_1 a0.Scans) (f0_2 : Rd tyF64 R I r0_2 a0.Puts) (f0_3 : Rd (tyInt .u8) R I r0_3 a0.Data) (f1_0 : Rd tyF64 R I r1_0 a1.Gets) (f1_1 : Rd tyF2 R I r1_1 a1.Scans) (f1_2 : Rd tyF64 R I r1_2 a1.Puts) (f1_3 : Rd (tyInt .u8) R I r1_3 a1.Data) (hst : St w0 w I [] R) {r : (Bool)} (hm : locks_Same a0 a1 = some r) :
  Calls prog 17 #[.agg #[U6 a0.ID.Session, U6 a0.ID.Seq, U6 a0.Epoch, r0_0, r0_1, r0_2, r0_3], .agg #[U6 a1.ID.Session, U6 a1.ID.Seq, U6 a1.Epoch, r1_0, r1_1, r1_2, r1_3]] w fun e w' => e = .returned (.bool r) ∧ St w0 w' I [] R := by {
 unfold locks_Same at hm
 refine calls_start (args := [.agg #[U6 a0.ID.Session, U6 a0.ID.Seq, U6 a0.Epoch, r0_0, r0_1, r0_2, r0_3], .agg #[U6 a1.ID.Session, U6 a1.ID.Seq, U6 a1.Epoch, r1_0, r1_1, r1_2, r1_3]]) func17 z ntmps17 (Nat.le_of_ble_eq_true z) ?_
 refine wp_seq (wrl ?_)
 obtain ⟨b392, w393, ew394, eb395, hst⟩ := hst.box [U6 a0.ID.Session, U6 a0.ID.Seq, U6 a0.Epoch, r0_0, r0_1, r0_2, r0_3] 34
 refine wl_run (v := Pt b392 0) (w' := w393) z z (x_al (by kernel_rfl) ew394 eb395) ?_
 obtain ⟨b397, w398, ew399, eb400, hst⟩ := hst.box [U6 a1.ID.Session, U6 a1.ID.Seq, U6 a1.Epoch, r1_0, r1_1, r1_2, r1_3] 34
 refine wl_run (v := Pt b397 0) (w' := w398) z z (x_al (by kernel_rfl) ew399 eb400) ?_
 refine wv (.bool false) z z z (wl_nil (tn (wp_seq (wrl (wv (.func (.func 46) #[] #[]) z z z (wl_nil (tn (wp_seq (wrl (wv (Pt b392 0) z z (x_field z underlying34 z sizeOf29 z) (wv (.agg #[U6 a0.ID.Session, U6 a0.ID.Seq]) z z (x_loadN (cs := [U6 a0.ID.Session, U6 a0.ID.Seq]) z isAgg29 sizeOf29 (hst.bcs1 0 z)) (wv (Pt b397 0) z z (x_field z underlying34 z sizeOf29 z) (wv (.agg #[U6 a1.ID.Session, U6 a1.ID.Seq]) z z (x_loadN (cs := [U6 a1.ID.Session, U6 a1.ID.Seq]) z isAgg29 sizeOf29 (hst.bcs0 0 z)) (wv (.bool ((a0.ID.Session == a1.ID.Session) && (a0.ID.Seq == a1.ID.Seq))) z z (x_aggeq2 z z (by kernel_rfl) underlying29 (by kernel_rfl) (by kernel_rfl) (by kernel_rfl) underlying27 underlying27 (fun _ _ _ => by kernel_rfl) (fun _ _ _ => by kernel_rfl)) (wv (.bool ((a0.ID.Session == a1.ID.Session) && (a0.ID.Seq == a1.ID.Seq))) z z z ?_)))))))))))))))
 refine bsplit ((a0.ID.Session == a1.ID.Session) && (a0.ID.Seq == a1.ID.Seq)) (fun hc402 => ?_) (fun hc402 => ?_)
 {
 replace hm := bif_t hc402 hm
 refine wv (Pt b392 2) ((wanted_eq z z z (cvb hc402)).trans z) z (x_field z underlying34 z sizeOf27 z) (wv (.int .u64 a0.Epoch) ((wanted_eq z z z (cvb hc402)).trans z) z (x_load z isAgg27 (hst.bc1 z)) (wv (Pt b397 2) ((wanted_eq z z z (cvb hc402)).trans z) z (x_field z underlying34 z sizeOf27 z) (wv (.int .u64 a1.Epoch) ((wanted_eq z z z (cvb hc402)).trans z) z (x_load z isAgg27 (hst.bc0 z)) (wv (.bool (a0.Epoch == a1.Epoch)) ((wanted_eq z z z (cvb hc402)).trans z) z z (wv (.bool (a0.Epoch == a1.Epoch)) z z (x_pick_t hc402 z z) (wv (.bool (a0.Epoch == a1.Epoch)) z z z ?_))))))
 refine bsplit (a0.Epoch == a1.Epoch) (fun hc403 => ?_) (fun hc403 => ?_)
 {
 replace hm := bif_t hc403 hm
 refine wv (Pt b392 3) ((wanted_eq z z z (cvb hc403)).trans z) z (x_field z underlying34 z sizeOf30 z) (wv (r0_0) ((wanted_eq z z z (cvb hc403)).trans z) z (x_load z isAgg30 (hst.bc1 z)) (wv (Pt b397 3) ((wanted_eq z z z (cvb hc403)).trans z) z (x_field z underlying34 z sizeOf30 z) (wv (r1_0) ((wanted_eq z z z (cvb hc403)).trans z) z (x_load z isAgg30 (hst.bc0 z)) ?_)))
 obtain ⟨y468, hq469, hm⟩ := bind_some hm
 refine wl_call ((wanted_eq z z z (cvb hc403)).trans z) z (x_callv call48 (caps := []) z (vs := [r0_0, r1_0, .func (.func 47) #[] #[]]) z) ?_
 refine Calls.mono (show Calls prog 48 #[r0_0, r1_0, .func (.func 47) #[] #[]] _ (fun e w' => ∃ (z466 : Bool), z466 = y468 ∧ e = .returned (.bool z466) ∧ St w0 w' I [cells b392 [U6 a0.ID.Session, U6 a0.ID.Seq, U6 a0.Epoch, r0_0, r0_1, r0_2, r0_3], cells b397 [U6 a1.ID.Session, U6 a1.ID.Seq, U6 a1.Epoch, r1_0, r1_1, r1_2, r1_3]] R) from ?_) ?_
 {
 clear hm; have hm := hq469
 refine calls_start (args := [r0_0, r1_0, .func (.func 47) #[] #[]]) func48 z ntmps48 (Nat.le_of_ble_eq_true z) ?_
 refine wp_seq (wrl (wv (.bool false) z z z (wl_nil (tn (wp_seq (wp_seq (wrl (wv (r0_0) z z z (wv (.int .i64 ((a0.Gets).length : Int)) z z (x_len z underlying30 (rd_sliceV f0_0)) (wv (r1_0) z z z (wv (.int .i64 ((a1.Gets).length : Int)) z z (x_len z underlying30 (rd_sliceV f1_0)) (wv (.bool (((a0.Gets).length : Int) != ((a1.Gets).length : Int))) z z z (wl_nil (tn ?_))))))))))))))
 refine bsplit (((a0.Gets).length : Int) != ((a1.Gets).length : Int)) (fun hc404 => ?_) (fun hc404 => ?_)
 {
 replace hm := bif_t hc404 hm
 refine wp_ift (cvb hc404) ?_
 refine wp_seq (wrl (wv (.bool false) z z z (wl_nil (tn (wp_ret (then_r ?_))))))
 refine post_ret (vs := [.bool false]) results48 (rvs_cons (rv_tmp z) rvs_nil) ?_
 replace hst := hst.pull1.keep2
 obtain rfl := some_inj hm
 exact ⟨false, z, z, hst⟩
}
 {
 replace hm := bif_f hc404 hm
 refine wp_iff (cvb hc404) ?_
 refine wp_skip (tn (wp_seq (wp_seq (wrl ?_))))
 refine wv (r0_0) z z z (wv (.int .i64 ((a0.Gets).length : Int)) z z (x_len z underlying30 (rd_sliceV f0_0)) (wv (.int .i64 (0:Int)) z z z (wl_nil (tn (wp_block ?_)))))
 obtain ⟨n442, hm⟩ := loopO_some hm
 refine wp_loop_n (fun n a w => ∃ (z440 : Int) (σ441 : Nat → Value), loopN (locks_Same_l0 a0 a1) n z440 = some y468 ∧ a = Fr 32 (upd (upd (upd (upd (upd σ441 1 (r1_0)) 2 (.func (.func 47) #[] #[])) 15 (r0_0)) 16 (.int .i64 ((a0.Gets).length : Int))) 17 (.int .i64 z440)) ∧ St w0 w I [cells b397 [U6 a1.ID.Session, U6 a1.ID.Seq, U6 a1.Epoch, r1_0, r1_1, r1_2, r1_3], cells b392 [U6 a0.ID.Session, U6 a0.ID.Seq, U6 a0.Epoch, r0_0, r0_1, r0_2, r0_3]] R) n442 ⟨(0:Int), _, hm, (fu 1 r1_0 z (fu 2 (.func (.func 47) #[] #[]) z (fu 15 r0_0 z (fu 16 (.int .i64 ((a0.Gets).length : Int)) z (fu 17 (.int .i64 (0:Int)) z z))))), hst⟩ ?_
 rintro n448 _ w443 ⟨z440, σ441, hm, rfl, hst⟩
 obtain ⟨n445, y446, rfl, hm, hx447⟩ := loopN_some hm
 dsimp only [locks_Same_l0] at hm
 refine wp_seq (wrl (wv (.bool (decide (z440 < ((a0.Gets).length : Int)))) z z z (wl_nil (tn (wp_seq ?_)))))
 refine bsplit (decide (z440 < ((a0.Gets).length : Int))) (fun hc449 => ?_) (fun hc449 => ?_)
 {
 replace hm := bif_t hc449 hm
 refine wp_ift (cvb hc449) ?_
 refine wp_skip (tn (wp_seq (wp_block (wp_seq (wrl ?_)))))
 refine wv (.int .i64 z440) z z z ?_
 obtain ⟨x450, hx451, hm⟩ := bind_some hm
 obtain ⟨h452, h453, hi454⟩ := geto_some hx451
 refine wv (.pointer (some (eAddr r0_0 (z440.toNat * 1 + 0)))) z z (x_index z z underlying30 sizeOf57 (rd_sliceV f0_0) h452 h453) (wv (.float .f64 x450) z z (x_load z isAgg57 (rd_load f0_0 (HL.le.refl _) hst hi454 (by rintro _ rfl; rfl))) (wv (.int .i64 z440) z z z (wv (.float .f64 x450) z z z (wl_nil (tn (wp_seq (wrl (wv (r1_0) z z z (wv (.int .i64 z440) z z z ?_)))))))))
 obtain ⟨x455, hx456, hm⟩ := bind_some hm
 obtain ⟨h457, h458, hi459⟩ := geto_some hx456
 refine wv (.pointer (some (eAddr r1_0 (z440.toNat * 1 + 0)))) z z (x_index z z underlying30 sizeOf57 (rd_sliceV f1_0) h457 h458) (wv (.float .f64 x455) z z (x_load z isAgg57 (rd_load f1_0 (HL.le.refl _) hst hi459 (by rintro _ rfl; rfl))) (wv (.float .f64 x455) z z z (wl_nil (tn (wp_seq (wrl (wv (.func (.func 47) #[] #[]) z z z (wv (.float .f64 x450) z z z (wv (.float .f64 x455) z z z ?_)))))))))
 obtain ⟨t460, ht461, hm⟩ := bind_some hm
 refine wl_call z z (x_callv call47 (caps := []) z (vs := [F6 x450, F6 x455]) z) ?_
 refine (number_Same_ref hst.to0 ht461).mono ?_
 rintro _ w462 ⟨rfl, hst⟩
 refine ⟨_, z, ?_⟩
 replace hst := hst.of0
 refine wv (.bool (!t460)) z z z (wl_nil (tn ?_))
 refine bsplit (!t460) (fun hc465 => ?_) (fun hc465 => ?_)
 {
 replace hm := bif_t hc465 hm
 refine wp_ift (cvb hc465) ?_
 refine wp_seq (wrl (wv (.bool false) z z z (wl_nil (tn (wp_ret (blk_r (then_r (then_r ?_))))))))
 replace hm := inr_up hm hx447
 refine blk_r (then_r ?_)
 refine post_ret (vs := [.bool false]) results48 (rvs_cons (rv_tmp z) rvs_nil) ?_
 replace hst := hst.pull1.keep2
 obtain rfl := some_inj hm
 exact ⟨false, z, z, hst⟩
}
 {
 replace hm := bif_f hc465 hm
 refine wp_iff (cvb hc465) ?_
 refine wp_skip (blk_n (tn (wrl ?_)))
 refine wv (.int .i64 (i64.wrap (z440 + (1:Int)))) z z z (wv (.int .i64 (i64.wrap (z440 + (1:Int)))) z z z (wl_nil (tn ?_)))
 replace hst := hst.pull1.pull1.keep2
 obtain rfl := some_inj hm
 exact ⟨_, Nat.lt_succ_self _, (i64.wrap (z440 + (1:Int))), _, hx447, (fu 1 r1_0 z (fu 2 (.func (.func 47) #[] #[]) z (fu 15 r0_0 z (fu 16 (.int .i64 ((a0.Gets).length : Int)) z (fu 17 (.int .i64 (i64.wrap (z440 + (1:Int)))) z z))))), hst⟩
}
}
 {
 replace hm := bif_f hc449 hm
 refine wp_iff (cvb hc449) ?_
 refine wp_exit (then_x (then_x ?_))
 replace hm := inr_up hm hx447
 refine blk_x (tn (wp_seq (wrl ?_)))
 refine wv (.bool true) z z z (wl_nil (tn (wp_ret ?_)))
 refine post_ret (vs := [.bool true]) results48 (rvs_cons (rv_tmp z) rvs_nil) ?_
 replace hst := hst.pull1.keep2
 obtain rfl := some_inj hm
 exact ⟨true, z, z, hst⟩
}
}
}
 clear hst
 rintro _ w470 ⟨z466, rfl, rfl, hst⟩
 refine ⟨_, z, ?_⟩
 try dsimp only at hm
 refine wv (.bool z466) z z (x_pick_t hc403 z z) (wv (.bool z466) z z z ?_)
 refine bsplit z466 (fun hc471 => ?_) (fun hc471 => ?_)
 {
 replace hm := bif_t hc471 hm
 refine wv (Pt b392 4) ((wanted_eq z z z (cvb hc471)).trans z) z (x_field z underlying34 z sizeOf31 z) (wv (r0_1) ((wanted_eq z z z (cvb hc471)).trans z) z (x_load z isAgg31 (hst.bc0 z)) (wv (Pt b397 4) ((wanted_eq z z z (cvb hc471)).trans z) z (x_field z underlying34 z sizeOf31 z) (wv (r1_1) ((wanted_eq z z z (cvb hc471)).trans z) z (x_load z isAgg31 (hst.bc1 z)) (wv (.func (.func 46) #[] #[]) ((wanted_eq z z z (cvb hc471)).trans z) z z ?_))))
 obtain ⟨y578, hq579, hm⟩ := bind_some hm
 refine wl_call ((wanted_eq z z z (cvb hc471)).trans z) z (x_callv call49 (caps := []) z (vs := [r0_1, r1_1, .func (.func 46) #[] #[]]) z) ?_
 refine Calls.mono (show Calls prog 49 #[r0_1, r1_1, .func (.func 46) #[] #[]] _ (fun e w' => ∃ (z576 : Bool), z576 = y578 ∧ e = .returned (.bool z576) ∧ St w0 w' I [cells b392 [U6 a0.ID.Session, U6 a0.ID.Seq, U6 a0.Epoch, r0_0, r0_1, r0_2, r0_3], cells b397 [U6 a1.ID.Session, U6 a1.ID.Seq, U6 a1.Epoch, r1_0, r1_1, r1_2, r1_3]] R) from ?_) ?_
 {
 clear hm; have hm := hq579
 refine calls_start (args := [r0_1, r1_1, .func (.func 46) #[] #[]]) func49 z ntmps49 (Nat.le_of_ble_eq_true z) ?_
 refine wp_seq (wrl (wv (.bool false) z z z (wl_nil (tn (wp_seq (wp_seq (wrl (wv (r0_1) z z z (wv (.int .i64 ((a0.Scans).length : Int)) z z (x_len z underlying31 (rd_sliceV f0_1)) (wv (r1_1) z z z (wv (.int .i64 ((a1.Scans).length : Int)) z z (x_len z underlying31 (rd_sliceV f1_1)) (wv (.bool (((a0.Scans).length : Int) != ((a1.Scans).length : Int))) z z z (wl_nil (tn ?_))))))))))))))
 refine bsplit (((a0.Scans).length : Int) != ((a1.Scans).length : Int)) (fun hc472 => ?_) (fun hc472 => ?_)
 {
 replace hm := bif_t hc472 hm
 refine wp_ift (cvb hc472) ?_
 refine wp_seq (wrl (wv (.bool false) z z z (wl_nil (tn (wp_ret (then_r ?_))))))
 refine post_ret (vs := [.bool false]) results49 (rvs_cons (rv_tmp z) rvs_nil) ?_
 replace hst := hst.pull1.pull1.keep2
 obtain rfl := some_inj hm
 exact ⟨false, z, z, hst⟩
}
 {
 replace hm := bif_f hc472 hm
 refine wp_iff (cvb hc472) ?_
 refine wp_skip (tn (wp_seq (wp_seq (wrl ?_))))
 refine wv (r0_1) z z z (wv (.int .i64 ((a0.Scans).length : Int)) z z (x_len z underlying31 (rd_sliceV f0_1)) (wv (.int .i64 (0:Int)) z z z (wl_nil (tn (wp_block ?_)))))
 obtain ⟨n538, hm⟩ := loopO_some hm
 refine wp_loop_n (fun n a w => ∃ (z536 : Int) (σ537 : Nat → Value), loopN (locks_Same_l1 a0 a1) n z536 = some y578 ∧ a = Fr 32 (upd (upd (upd (upd (upd σ537 1 (r1_1)) 2 (.func (.func 46) #[] #[])) 15 (r0_1)) 16 (.int .i64 ((a0.Scans).length : Int))) 17 (.int .i64 z536)) ∧ St w0 w I [cells b392 [U6 a0.ID.Session, U6 a0.ID.Seq, U6 a0.Epoch, r0_0, r0_1, r0_2, r0_3], cells b397 [U6 a1.ID.Session, U6 a1.ID.Seq, U6 a1.Epoch, r1_0, r1_1, r1_2, r1_3]] R) n538 ⟨(0:Int), _, hm, (fu 1 r1_1 z (fu 2 (.func (.func 46) #[] #[]) z (fu 15 r0_1 z (fu 16 (.int .i64 ((a0.Scans).length : Int)) z (fu 17 (.int .i64 (0:Int)) z z))))), hst⟩ ?_
 rintro n544 _ w539 ⟨z536, σ537, hm, rfl, hst⟩
 obtain ⟨n541, y542, rfl, hm, hx543⟩ := loopN_some hm
 dsimp only [locks_Same_l1] at hm
 refine wp_seq (wrl (wv (.bool (decide (z536 < ((a0.Scans).length : Int)))) z z z (wl_nil (tn (wp_seq ?_)))))
 refine bsplit (decide (z536 < ((a0.Scans).length : Int))) (fun hc545 => ?_) (fun hc545 => ?_)
 {
 replace hm := bif_t hc545 hm
 refine wp_ift (cvb hc545) ?_
 refine wp_skip (tn (wp_seq (wp_block (wp_seq (wrl ?_)))))
 refine wv (.int .i64 z536) z z z ?_
 obtain ⟨x546, hx547, hm⟩ := bind_some hm
 obtain ⟨h548, h549, hi550⟩ := geto_some hx547
 refine wv (.pointer (some (eAddr r0_1 (z536.toNat * 2 + 0)))) z z (x_index z z underlying31 sizeOf75 (rd_sliceV f0_1) h548 h549) (wv (.agg #[F6 x546.1, F6 x546.2]) z z (x_loadN (cs := [F6 x546.1, F6 x546.2]) z isAgg75 sizeOf75 (rd_loadN f0_1 (HL.le.refl _) hst hi550 0 (by rintro _ rfl; rfl))) ?_)
 obtain ⟨b551, w552, ew553, eb554, hst⟩ := hst.box [Zf, Zf] 75
 refine wl_run (v := Pt b551 0) (w' := w552) z z (x_al (by kernel_rfl) ew553 eb554) ?_
 refine wv (.int .i64 z536) z z z ?_
 obtain ⟨w556, hr557, hst⟩ := hst.bx [F6 x546.1, F6 x546.2] sizeOf75 z (oC z (oC z oN)) (by kernel_rfl)
 refine wl_unit z z (x_unit hr557) ?_
 refine wl_nil (tn (wp_seq (wrl (wv (r1_1) z z z (wv (.int .i64 z536) z z z ?_)))))
 obtain ⟨x558, hx559, hm⟩ := bind_some hm
 obtain ⟨h560, h561, hi562⟩ := geto_some hx559
 refine wv (.pointer (some (eAddr r1_1 (z536.toNat * 2 + 0)))) z z (x_index z z underlying31 sizeOf75 (rd_sliceV f1_1) h560 h561) (wv (.agg #[F6 x558.1, F6 x558.2]) z z (x_loadN (cs := [F6 x558.1, F6 x558.2]) z isAgg75 sizeOf75 (rd_loadN f1_1 (HL.le.refl _) hst hi562 0 (by rintro _ rfl; rfl))) ?_)
 obtain ⟨b563, w564, ew565, eb566, hst⟩ := hst.box [Zf, Zf] 75
 refine wl_run (v := Pt b563 0) (w' := w564) z z (x_al (by kernel_rfl) ew565 eb566) ?_
 obtain ⟨w568, hr569, hst⟩ := hst.bx [F6 x558.1, F6 x558.2] sizeOf75 z (oC z (oC z oN)) (by kernel_rfl)
 refine wl_unit z z (x_unit hr569) ?_
 refine wl_nil (tn (wp_seq (wrl (wv (.func (.func 46) #[] #[]) z z z (wv (.agg #[F6 x546.1, F6 x546.2]) z z (x_loadN (cs := [F6 x546.1, F6 x546.2]) z isAgg75 sizeOf75 (hst.bcs1 0 z)) (wv (.agg #[F6 x558.1, F6 x558.2]) z z (x_loadN (cs := [F6 x558.1, F6 x558.2]) z isAgg75 sizeOf75 (hst.bcs0 0 z)) ?_))))))
 obtain ⟨t570, ht571, hm⟩ := bind_some hm
 refine wl_call z z (x_callv call46 (caps := []) z (vs := [.agg #[F6 x546.1, F6 x546.2], .agg #[F6 x558.1, F6 x558.2]]) z) ?_
 refine (locks_Same_1_ref hst.to0 ht571).mono ?_
 rintro _ w572 ⟨rfl, hst⟩
 refine ⟨_, z, ?_⟩
 replace hst := hst.of0
 refine wv (.bool (!t570)) z z z (wl_nil (tn ?_))
 refine bsplit (!t570) (fun hc575 => ?_) (fun hc575 => ?_)
 {
 replace hm := bif_t hc575 hm
 refine wp_ift (cvb hc575) ?_
 refine wp_seq (wrl (wv (.bool false) z z z (wl_nil (tn (wp_ret (blk_r (then_r (then_r ?_))))))))
 replace hm := inr_up hm hx543
 refine blk_r (then_r ?_)
 refine post_ret (vs := [.bool false]) results49 (rvs_cons (rv_tmp z) rvs_nil) ?_
 replace hst := hst.pull3.pull3.keep2
 obtain rfl := some_inj hm
 exact ⟨false, z, z, hst⟩
}
 {
 replace hm := bif_f hc575 hm
 refine wp_iff (cvb hc575) ?_
 refine wp_skip (blk_n (tn (wrl ?_)))
 refine wv (.int .i64 (i64.wrap (z536 + (1:Int)))) z z z (wv (.int .i64 (i64.wrap (z536 + (1:Int)))) z z z (wl_nil (tn ?_)))
 replace hst := hst.pull3.pull3.keep2
 obtain rfl := some_inj hm
 exact ⟨_, Nat.lt_succ_self _, (i64.wrap (z536 + (1:Int))), _, hx543, (fu 1 r1_1 z (fu 2 (.func (.func 46) #[] #[]) z (fu 15 r0_1 z (fu 16 (.int .i64 ((a0.Scans).length : Int)) z (fu 17 (.int .i64 (i64.wrap (z536 + (1:Int)))) z z))))), hst⟩
}
}
 {
 replace hm := bif_f hc545 hm
 refine wp_iff (cvb hc545) ?_
 refine wp_exit (then_x (then_x ?_))
 replace hm := inr_up hm hx543
 refine blk_x (tn (wp_seq (wrl ?_)))
 refine wv (.bool true) z z z (wl_nil (tn (wp_ret ?_)))
 refine post_ret (vs := [.bool true]) results49 (rvs_cons (rv_tmp z) rvs_nil) ?_
 replace hst := hst.pull1.pull1.keep2
 obtain rfl := some_inj hm
 exact ⟨true, z, z, hst⟩
}
}
}
 clear hst
 rintro _ w580 ⟨z576, rfl, rfl, hst⟩
 refine ⟨_, z, ?_⟩
 try dsimp only at hm
 refine wv (.bool z576) z z (x_pick_t hc471 z z) (wv (.bool z576) z z z ?_)
 refine bsplit z576 (fun hc581 => ?_) (fun hc581 => ?_)
 {
 replace hm := bif_t hc581 hm
 refine wv (Pt b392 5) ((wanted_eq z z z (cvb hc581)).trans z) z (x_field z underlying34 z sizeOf30 z) (wv (r0_2) ((wanted_eq z z z (cvb hc581)).trans z) z (x_load z isAgg30 (hst.bc0 z)) (wv (Pt b397 5) ((wanted_eq z z z (cvb hc581)).trans z) z (x_field z underlying34 z sizeOf30 z) (wv (r1_2) ((wanted_eq z z z (cvb hc581)).trans z) z (x_load z isAgg30 (hst.bc1 z)) ?_)))
 obtain ⟨y646, hq647, hm⟩ := bind_some hm
 refine wl_call ((wanted_eq z z z (cvb hc581)).trans z) z (x_callv call48 (caps := []) z (vs := [r0_2, r1_2, .func (.func 47) #[] #[]]) z) ?_
 refine Calls.mono (show Calls prog 48 #[r0_2, r1_2, .func (.func 47) #[] #[]] _ (fun e w' => ∃ (z644 : Bool), z644 = y646 ∧ e = .returned (.bool z644) ∧ St w0 w' I [cells b392 [U6 a0.ID.Session, U6 a0.ID.Seq, U6 a0.Epoch, r0_0, r0_1, r0_2, r0_3], cells b397 [U6 a1.ID.Session, U6 a1.ID.Seq, U6 a1.Epoch, r1_0, r1_1, r1_2, r1_3]] R) from ?_) ?_
 {
 clear hm; have hm := hq647
 refine calls_start (args := [r0_2, r1_2, .func (.func 47) #[] #[]]) func48 z ntmps48 (Nat.le_of_ble_eq_true z) ?_
 refine wp_seq (wrl (wv (.bool false) z z z (wl_nil (tn (wp_seq (wp_seq (wrl (wv (r0_2) z z z (wv (.int .i64 ((a0.Puts).length : Int)) z z (x_len z underlying30 (rd_sliceV f0_2)) (wv (r1_2) z z z (wv (.int .i64 ((a1.Puts).length : Int)) z z (x_len z underlying30 (rd_sliceV f1_2)) (wv (.bool (((a0.Puts).length : Int) != ((a1.Puts).length : Int))) z z z (wl_nil (tn ?_))))))))))))))
 refine bsplit (((a0.Puts).length : Int) != ((a1.Puts).length : Int)) (fun hc582 => ?_) (fun hc582 => ?_)
 {
 replace hm := bif_t hc582 hm
 refine wp_ift (cvb hc582) ?_
 refine wp_seq (wrl (wv (.bool false) z z z (wl_nil (tn (wp_ret (then_r ?_))))))
 refine post_ret (vs := [.bool false]) results48 (rvs_cons (rv_tmp z) rvs_nil) ?_
 replace hst := hst.pull1.pull1.keep2
 obtain rfl := some_inj hm
 exact ⟨false, z, z, hst⟩
}
 {
 replace hm := bif_f hc582 hm
 refine wp_iff (cvb hc582) ?_
 refine wp_skip (tn (wp_seq (wp_seq (wrl ?_))))
 refine wv (r0_2) z z z (wv (.int .i64 ((a0.Puts).length : Int)) z z (x_len z underlying30 (rd_sliceV f0_2)) (wv (.int .i64 (0:Int)) z z z (wl_nil (tn (wp_block ?_)))))
 obtain ⟨n620, hm⟩ := loopO_some hm
 refine wp_loop_n (fun n a w => ∃ (z618 : Int) (σ619 : Nat → Value), loopN (locks_Same_l2 a0 a1) n z618 = some y646 ∧ a = Fr 32 (upd (upd (upd (upd (upd σ619 1 (r1_2)) 2 (.func (.func 47) #[] #[])) 15 (r0_2)) 16 (.int .i64 ((a0.Puts).length : Int))) 17 (.int .i64 z618)) ∧ St w0 w I [cells b392 [U6 a0.ID.Session, U6 a0.ID.Seq, U6 a0.Epoch, r0_0, r0_1, r0_2, r0_3], cells b397 [U6 a1.ID.Session, U6 a1.ID.Seq, U6 a1.Epoch, r1_0, r1_1, r1_2, r1_3]] R) n620 ⟨(0:Int), _, hm, (fu 1 r1_2 z (fu 2 (.func (.func 47) #[] #[]) z (fu 15 r0_2 z (fu 16 (.int .i64 ((a0.Puts).length : Int)) z (fu 17 (.int .i64 (0:Int)) z z))))), hst⟩ ?_
 rintro n626 _ w621 ⟨z618, σ619, hm, rfl, hst⟩
 obtain ⟨n623, y624, rfl, hm, hx625⟩ := loopN_some hm
 dsimp only [locks_Same_l2] at hm
 refine wp_seq (wrl (wv (.bool (decide (z618 < ((a0.Puts).length : Int)))) z z z (wl_nil (tn (wp_seq ?_)))))
 refine bsplit (decide (z618 < ((a0.Puts).length : Int))) (fun hc627 => ?_) (fun hc627 => ?_)
 {
 replace hm := bif_t hc627 hm
 refine wp_ift (cvb hc627) ?_
 refine wp_skip (tn (wp_seq (wp_block (wp_seq (wrl ?_)))))
 refine wv (.int .i64 z618) z z z ?_
 obtain ⟨x628, hx629, hm⟩ := bind_some hm
 obtain ⟨h630, h631, hi632⟩ := geto_some hx629
 refine wv (.pointer (some (eAddr r0_2 (z618.toNat * 1 + 0)))) z z (x_index z z underlying30 sizeOf57 (rd_sliceV f0_2) h630 h631) (wv (.float .f64 x628) z z (x_load z isAgg57 (rd_load f0_2 (HL.le.refl _) hst hi632 (by rintro _ rfl; rfl))) (wv (.int .i64 z618) z z z (wv (.float .f64 x628) z z z (wl_nil (tn (wp_seq (wrl (wv (r1_2) z z z (wv (.int .i64 z618) z z z ?_)))))))))
 obtain ⟨x633, hx634, hm⟩ := bind_some hm
 obtain ⟨h635, h636, hi637⟩ := geto_some hx634
 refine wv (.pointer (some (eAddr r1_2 (z618.toNat * 1 + 0)))) z z (x_index z z underlying30 sizeOf57 (rd_sliceV f1_2) h635 h636) (wv (.float .f64 x633) z z (x_load z isAgg57 (rd_load f1_2 (HL.le.refl _) hst hi637 (by rintro _ rfl; rfl))) (wv (.float .f64 x633) z z z (wl_nil (tn (wp_seq (wrl (wv (.func (.func 47) #[] #[]) z z z (wv (.float .f64 x628) z z z (wv (.float .f64 x633) z z z ?_)))))))))
 obtain ⟨t638, ht639, hm⟩ := bind_some hm
 refine wl_call z z (x_callv call47 (caps := []) z (vs := [F6 x628, F6 x633]) z) ?_
 refine (number_Same_ref hst.to0 ht639).mono ?_
 rintro _ w640 ⟨rfl, hst⟩
 refine ⟨_, z, ?_⟩
 replace hst := hst.of0
 refine wv (.bool (!t638)) z z z (wl_nil (tn ?_))
 refine bsplit (!t638) (fun hc643 => ?_) (fun hc643 => ?_)
 {
 replace hm := bif_t hc643 hm
 refine wp_ift (cvb hc643) ?_
 refine wp_seq (wrl (wv (.bool false) z z z (wl_nil (tn (wp_ret (blk_r (then_r (then_r ?_))))))))
 replace hm := inr_up hm hx625
 refine blk_r (then_r ?_)
 refine post_ret (vs := [.bool false]) results48 (rvs_cons (rv_tmp z) rvs_nil) ?_
 replace hst := hst.pull1.pull1.keep2
 obtain rfl := some_inj hm
 exact ⟨false, z, z, hst⟩
}
 {
 replace hm := bif_f hc643 hm
 refine wp_iff (cvb hc643) ?_
 refine wp_skip (blk_n (tn (wrl ?_)))
 refine wv (.int .i64 (i64.wrap (z618 + (1:Int)))) z z z (wv (.int .i64 (i64.wrap (z618 + (1:Int)))) z z z (wl_nil (tn ?_)))
 replace hst := hst.pull1.pull1.keep2
 obtain rfl := some_inj hm
 exact ⟨_, Nat.lt_succ_self _, (i64.wrap (z618 + (1:Int))), _, hx625, (fu 1 r1_2 z (fu 2 (.func (.func 47) #[] #[]) z (fu 15 r0_2 z (fu 16 (.int .i64 ((a0.Puts).length : Int)) z (fu 17 (.int .i64 (i64.wrap (z618 + (1:Int)))) z z))))), hst⟩
}
}
 {
 replace hm := bif_f hc627 hm
 refine wp_iff (cvb hc627) ?_
 refine wp_exit (then_x (then_x ?_))
 replace hm := inr_up hm hx625
 refine blk_x (tn (wp_seq (wrl ?_)))
 refine wv (.bool true) z z z (wl_nil (tn (wp_ret ?_)))
 refine post_ret (vs := [.bool true]) results48 (rvs_cons (rv_tmp z) rvs_nil) ?_
 replace hst := hst.pull1.pull1.keep2
 obtain rfl := some_inj hm
 exact ⟨true, z, z, hst⟩
}
}
}
 clear hst
 rintro _ w648 ⟨z644, rfl, rfl, hst⟩
 refine ⟨_, z, ?_⟩
 try dsimp only at hm
 refine wv (.bool z644) z z (x_pick_t hc581 z z) (wv (.bool z644) z z z ?_)
 refine bsplit z644 (fun hc649 => ?_) (fun hc649 => ?_)
 {
 replace hm := bif_t hc649 hm
 refine wv (Pt b392 6) ((wanted_eq z z z (cvb hc649)).trans z) z (x_field z underlying34 z sizeOf32 z) (wv (r0_3) ((wanted_eq z z z (cvb hc649)).trans z) z (x_load z isAgg32 (hst.bc0 z)) (wv (Pt b397 6) ((wanted_eq z z z (cvb hc649)).trans z) z (x_field z underlying34 z sizeOf32 z) (wv (r1_3) ((wanted_eq z z z (cvb hc649)).trans z) z (x_load z isAgg32 (hst.bc1 z)) ?_)))
 obtain ⟨t650, ht651, hm⟩ := bind_some hm
 refine wl_call ((wanted_eq z z z (cvb hc649)).trans z) z (x_call call50 z (vs := [r0_3, r1_3]) z) ?_
 refine (slices_Equal_byte_byte_ref (f0_3.mono (rd_weak _)) (f1_3.mono (rd_weak _)) hst.to0 ht651).mono ?_
 rintro _ w652 ⟨rfl, hst⟩
 refine ⟨_, z, ?_⟩
 replace hst := hst.of0
 refine wv (.bool t650) z z (x_pick_t hc649 z z) (wv (.bool t650) z z z (wl_nil (tn (wp_ret ?_))))
 obtain rfl := some_inj hm
 refine post_ret (vs := [.bool t650]) results17 (rvs_cons (rv_tmp z) rvs_nil) ?_
 exact ⟨z, hst.keep0⟩
}
 {
 replace hm := bif_f hc649 hm
 refine wo hc649 z z z z z z (wo hc649 z z z z z z (wo hc649 z z z z z z (wo hc649 z z z z z z (wo hc649 z z z z z z (wv (.bool false) z z (x_pick_f hc649 z z) (wv (.bool false) z z z (wl_nil (tn (wp_ret ?_)))))))))
 obtain rfl := some_inj hm
 refine post_ret (vs := [.bool false]) results17 (rvs_cons (rv_tmp z) rvs_nil) ?_
 exact ⟨z, hst.keep0⟩
}
}
 {
 replace hm := bif_f hc581 hm
 refine wo hc581 z z z z z z (wo hc581 z z z z z z (wo hc581 z z z z z z (wo hc581 z z z z z z (wo hc581 z z z z z z (wv (.bool false) z z (x_pick_f hc581 z z) (wv (.bool false) z z z (wz z z z z z z (wz z z z z z z (wz z z z z z z (wz z z z z z z (wz z z z z z z (wv (.bool false) z z (x_pick_f z z z) ?_))))))))))))
 refine wv (.bool false) z z z (wl_nil (tn (wp_ret ?_)))
 obtain rfl := some_inj hm
 refine post_ret (vs := [.bool false]) results17 (rvs_cons (rv_tmp z) rvs_nil) ?_
 exact ⟨z, hst.keep0⟩
}
}
 {
 replace hm := bif_f hc471 hm
 refine wo hc471 z z z z z z (wo hc471 z z z z z z (wo hc471 z z z z z z (wo hc471 z z z z z z (wo hc471 z z z z z z (wo hc471 z z z z z z (wv (.bool false) z z (x_pick_f hc471 z z) (wv (.bool false) z z z (wz z z z z z z (wz z z z z z z (wz z z z z z z (wz z z z z z z (wz z z z z z z ?_))))))))))))
 refine wv (.bool false) z z (x_pick_f z z z) (wv (.bool false) z z z (wz z z z z z z (wz z z z z z z (wz z z z z z z (wz z z z z z z (wz z z z z z z (wv (.bool false) z z (x_pick_f z z z) (wv (.bool false) z z z (wl_nil (tn (wp_ret ?_)))))))))))
 obtain rfl := some_inj hm
 refine post_ret (vs := [.bool false]) results17 (rvs_cons (rv_tmp z) rvs_nil) ?_
 exact ⟨z, hst.keep0⟩
}
}
 {
 replace hm := bif_f hc403 hm
 refine wo hc403 z z z z z z (wo hc403 z z z z z z (wo hc403 z z z z z z (wo hc403 z z z z z z (wo hc403 z z z z z z (wv (.bool false) z z (x_pick_f hc403 z z) (wv (.bool false) z z z (wz z z z z z z (wz z z z z z z (wz z z z z z z (wz z z z z z z (wz z z z z z z (wz z z z z z z ?_))))))))))))
 refine wv (.bool false) z z (x_pick_f z z z) (wv (.bool false) z z z (wz z z z z z z (wz z z z z z z (wz z z z z z z (wz z z z z z z (wz z z z z z z (wv (.bool false) z z (x_pick_f z z z) (wv (.bool false) z z z (wz z z z z z z (wz z z z z z z (wz z z z z z z (wz z z z z z z ?_))))))))))))
 refine wz z z z z z z (wv (.bool false) z z (x_pick_f z z z) (wv (.bool false) z z z (wl_nil (tn (wp_ret ?_)))))
 obtain rfl := some_inj hm
 refine post_ret (vs := [.bool false]) results17 (rvs_cons (rv_tmp z) rvs_nil) ?_
 exact ⟨z, hst.keep0⟩
}
}
 {
 replace hm := bif_f hc402 hm
 refine wo hc402 z z z z z z (wo hc402 z z z z z z (wo hc402 z z z z z z (wo hc402 z z z z z z (wo hc402 z z z z z z (wv (.bool false) z z (x_pick_f hc402 z z) (wv (.bool false) z z z (wz z z z z z z (wz z z z z z z (wz z z z z z z (wz z z z z z z (wz z z z z z z (wv (.bool false) z z (x_pick_f z z z) ?_))))))))))))
 refine wv (.bool false) z z z (wz z z z z z z (wz z z z z z z (wz z z z z z z (wz z z z z z z (wz z z z z z z (wz z z z z z z (wv (.bool false) z z (x_pick_f z z z) (wv (.bool false) z z z (wz z z z z z z (wz z z z z z z (wz z z z z z z (wz z z z z z z ?_))))))))))))
 refine wz z z z z z z (wv (.bool false) z z (x_pick_f z z z) (wv (.bool false) z z z (wz z z z z z z (wz z z z z z z (wz z z z z z z (wz z z z z z z (wz z z z z z z (wv (.bool false) z z (x_pick_f z z z) (wv (.bool false) z z z (wl_nil (tn (wp_ret ?_))))))))))))
 obtain rfl := some_inj hm
 refine post_ret (vs := [.bool false]) results17 (rvs_cons (rv_tmp z) rvs_nil) ?_
 exact ⟨z, hst.keep0⟩
}
}

theorem math_Signbit_ref {w0 w : World} {I : HL} {R : SP} {a0 : Nat}  (hst : St w0 w I [] R) {r : (Bool)} (hm : math_Signbit a0 = some r) :
  Calls prog 92 #[F6 a0] w fun e w' => e = .returned (.bool r) ∧ St w0 w' I [] R := by {
 unfold math_Signbit at hm
 refine calls_start (args := [F6 a0]) func92 z ntmps92 (Nat.le_of_ble_eq_true z) ?_
 refine wp_seq (wrl (wv (.bool false) z z z (wl_nil (tn (wp_seq (wrl (wv (.float .f64 a0) z z z (wv (.int .u64 (Int.ofNat a0)) z z (by kernel_rfl) (wv (.int .i64 (i64.wrap (Int.ofNat a0))) z z (by kernel_rfl) (wv (.bool (decide ((i64.wrap (Int.ofNat a0)) < (0:Int)))) z z z (wv (.bool (decide ((i64.wrap (Int.ofNat a0)) < (0:Int)))) z z z (wl_nil (tn (wp_ret ?_))))))))))))))
 obtain rfl := some_inj hm
 refine post_ret (vs := [.bool (decide ((i64.wrap (Int.ofNat a0)) < (0:Int)))]) results92 (rvs_cons (rv_tmp z) rvs_nil) ?_
 exact ⟨z, hst.keep0⟩
}

theorem ref01_Ahead_ref {w0 w : World} {I : HL} {R : SP} {a0 : Nat} {a1 : Nat}  (hst : St w0 w I [] R) {r : (Bool)} (hm : ref01_Ahead a0 a1 = some r) :
  Calls prog 76 #[F6 a0, F6 a1] w fun e w' => e = .returned (.bool r) ∧ St w0 w' I [] R := by {
 unfold ref01_Ahead at hm
 refine calls_start (args := [F6 a0, F6 a1]) func76 z ntmps76 (Nat.le_of_ble_eq_true z) ?_
 refine wp_seq (wrl (wv (.bool false) z z z (wl_nil (tn (wp_seq (wp_seq (wrl (wv (.float .f64 a0) z z z (wv (.float .f64 a0) z z z (wv (.bool (fNe a0 a0)) z z z (wl_nil (tn ?_))))))))))))
 refine bsplit (fNe a0 a0) (fun hc158 => ?_) (fun hc158 => ?_)
 {
 replace hm := bif_t hc158 hm
 refine wp_ift (cvb hc158) ?_
 refine wp_seq (wrl (wv (.bool false) z z z (wl_nil (tn (wp_ret (then_r ?_))))))
 obtain rfl := some_inj hm
 refine post_ret (vs := [.bool false]) results76 (rvs_cons (rv_tmp z) rvs_nil) ?_
 exact ⟨z, hst.keep0⟩
}
 {
 replace hm := bif_f hc158 hm
 refine wp_iff (cvb hc158) ?_
 refine wp_skip (tn (wp_seq (wp_seq (wrl ?_))))
 refine wv (.float .f64 a1) z z z (wv (.float .f64 a1) z z z (wv (.bool (fNe a1 a1)) z z z (wl_nil (tn ?_))))
 refine bsplit (fNe a1 a1) (fun hc159 => ?_) (fun hc159 => ?_)
 {
 replace hm := bif_t hc159 hm
 refine wp_ift (cvb hc159) ?_
 refine wp_seq (wrl (wv (.bool true) z z z (wl_nil (tn (wp_ret (then_r ?_))))))
 obtain rfl := some_inj hm
 refine post_ret (vs := [.bool true]) results76 (rvs_cons (rv_tmp z) rvs_nil) ?_
 exact ⟨z, hst.keep0⟩
}
 {
 replace hm := bif_f hc159 hm
 refine wp_iff (cvb hc159) ?_
 refine wp_skip (tn ?_)
 obtain ⟨y175, hm, hx176⟩ := joinO_some hm
 refine wp_cut (fun a w => ∃ (σ173 : Nat → Value), (ref01_Ahead_j0 a0 a1) () = some r ∧ a = Fr 27 (upd (upd σ173 0 (.float .f64 a0)) 1 (.float .f64 a1)) ∧ St w0 w I [] R) ?_ ?_
 {
 refine wp_seq (wrl (wv (.float .f64 a0) z z z (wv (.bool (fEq a0 (0:Nat))) z z z (wv (.bool (fEq a0 (0:Nat))) z z z ?_))))
 refine bsplit (fEq a0 (0:Nat)) (fun hc160 => ?_) (fun hc160 => ?_)
 {
 replace hm := bif_t hc160 hm
 refine wv (.float .f64 a1) ((wanted_eq z z z (cvb hc160)).trans z) z z (wv (.bool (fEq a1 (0:Nat))) ((wanted_eq z z z (cvb hc160)).trans z) z z (wv (.bool (fEq a1 (0:Nat))) z z (x_pick_t hc160 z z) (wl_nil (tn ?_))))
 refine bsplit (fEq a1 (0:Nat)) (fun hc161 => ?_) (fun hc161 => ?_)
 {
 replace hm := bif_t hc161 hm
 refine wp_ift (cvb hc161) ?_
 refine wp_seq (wrl (wv (.float .f64 a0) z z z ?_))
 obtain ⟨t162, ht163, hm⟩ := bind_some hm
 refine wc call92 [F6 a0] z z z ?_
 refine (math_Signbit_ref hst.to0 ht163).mono ?_
 rintro _ w164 ⟨rfl, hst⟩
 refine ⟨_, z, ?_⟩
 replace hst := hst.of0
 refine wv (.bool t162) z z z ?_
 refine bsplit t162 (fun hc167 => ?_) (fun hc167 => ?_)
 {
 replace hm := bif_t hc167 hm
 refine wv (.float .f64 a1) ((wanted_eq z z z (cvb hc167)).trans z) z z ?_
 obtain ⟨t168, ht169, hm⟩ := bind_some hm
 refine wl_call ((wanted_eq z z z (cvb hc167)).trans z) z (x_call call92 z (vs := [F6 a1]) z) ?_
 refine (math_Signbit_ref hst.to0 ht169).mono ?_
 rintro _ w170 ⟨rfl, hst⟩
 refine ⟨_, z, ?_⟩
 replace hst := hst.of0
 refine wv (.bool (!t168)) ((wanted_eq z z z (cvb hc167)).trans z) z z (wv (.bool (!t168)) z z (x_pick_t hc167 z z) (wv (.bool (!t168)) z z z (wl_nil (tn (wp_ret (then_r ?_))))))
 replace hm := inr_up hm hx176
 obtain rfl := some_inj hm
 refine post_ret (vs := [.bool (!t168)]) results76 (rvs_cons (rv_tmp z) rvs_nil) ?_
 exact ⟨z, hst.keep0⟩
}
 {
 replace hm := bif_f hc167 hm
 refine wo hc167 z z z z z z (wo hc167 z z z z z z (wo hc167 z z z z z z (wv (.bool false) z z (x_pick_f hc167 z z) (wv (.bool false) z z z (wl_nil (tn (wp_ret (then_r ?_))))))))
 replace hm := inr_up hm hx176
 obtain rfl := some_inj hm
 refine post_ret (vs := [.bool false]) results76 (rvs_cons (rv_tmp z) rvs_nil) ?_
 exact ⟨z, hst.keep0⟩
}
}
 {
 replace hm := bif_f hc161 hm
 refine wp_iff (cvb hc161) ?_
 refine wp_skip (tn ?_)
 replace hst := hst.keep0
 obtain rfl := some_inj hm
 exact ⟨_, hx176, (fu 0 (.float .f64 a0) z (fu 1 (.float .f64 a1) z z)), hst⟩
}
}
 {
 replace hm := bif_f hc160 hm
 refine wo hc160 z z z z z z (wo hc160 z z z z z z (wv (.bool false) z z (x_pick_f hc160 z z) (wl_nil (tn ?_))))
 refine wp_iff z ?_
 refine wp_skip (tn ?_)
 replace hst := hst.keep0
 obtain rfl := some_inj hm
 exact ⟨_, hx176, (fu 0 (.float .f64 a0) z (fu 1 (.float .f64 a1) z z)), hst⟩
}
}
 {
 clear hst
 rintro _ w177 ⟨σ173, hm, rfl, hst⟩
 dsimp only [ref01_Ahead_j0] at hm
 refine wp_seq (wrl (wv (.float .f64 a0) z z z (wv (.float .f64 a1) z z z (wv (.bool (fLt a0 a1)) z z z (wv (.bool (fLt a0 a1)) z z z (wl_nil (tn (wp_ret ?_))))))))
 obtain rfl := some_inj hm
 refine post_ret (vs := [.bool (fLt a0 a1)]) results76 (rvs_cons (rv_tmp z) rvs_nil) ?_
 exact ⟨z, hst.keep0⟩
}
}
}
}

theorem ref01_Same_ref {w0 w : World} {I : HL} {R : SP} {a0 : Nat} {a1 : Nat}  (hst : St w0 w I [] R) {r : (Bool)} (hm : ref01_Same a0 a1 = some r) :
  Calls prog 51 #[F6 a0, F6 a1] w fun e w' => e = .returned (.bool r) ∧ St w0 w' I [] R := by {
 unfold ref01_Same at hm
 refine calls_start (args := [F6 a0, F6 a1]) func51 z ntmps51 (Nat.le_of_ble_eq_true z) ?_
 refine wp_seq (wrl (wv (.bool false) z z z (wl_nil (tn (wp_seq (wrl (wv (.float .f64 a0) z z z (wv (.float .f64 a1) z z z ?_))))))))
 obtain ⟨t149, ht150, hm⟩ := bind_some hm
 refine wc call76 [F6 a0, F6 a1] z z z ?_
 refine (ref01_Ahead_ref hst.to0 ht150).mono ?_
 rintro _ w151 ⟨rfl, hst⟩
 refine ⟨_, z, ?_⟩
 replace hst := hst.of0
 refine wv (.bool (!t149)) z z z (wv (.bool (!t149)) z z z ?_)
 refine bsplit (!t149) (fun hc154 => ?_) (fun hc154 => ?_)
 {
 replace hm := bif_t hc154 hm
 refine wv (.float .f64 a1) ((wanted_eq z z z (cvb hc154)).trans z) z z (wv (.float .f64 a0) ((wanted_eq z z z (cvb hc154)).trans z) z z ?_)
 obtain ⟨t155, ht156, hm⟩ := bind_some hm
 refine wl_call ((wanted_eq z z z (cvb hc154)).trans z) z (x_call call76 z (vs := [F6 a1, F6 a0]) z) ?_
 refine (ref01_Ahead_ref hst.to0 ht156).mono ?_
 rintro _ w157 ⟨rfl, hst⟩
 refine ⟨_, z, ?_⟩
 replace hst := hst.of0
 refine wv (.bool (!t155)) ((wanted_eq z z z (cvb hc154)).trans z) z z (wv (.bool (!t155)) z z (x_pick_t hc154 z z) (wv (.bool (!t155)) z z z (wl_nil (tn (wp_ret ?_)))))
 obtain rfl := some_inj hm
 refine post_ret (vs := [.bool (!t155)]) results51 (rvs_cons (rv_tmp z) rvs_nil) ?_
 exact ⟨z, hst.keep0⟩
}
 {
 replace hm := bif_f hc154 hm
 refine wo hc154 z z z z z z (wo hc154 z z z z z z (wo hc154 z z z z z z (wo hc154 z z z z z z (wv (.bool false) z z (x_pick_f hc154 z z) (wv (.bool false) z z z (wl_nil (tn (wp_ret ?_))))))))
 obtain rfl := some_inj hm
 refine post_ret (vs := [.bool false]) results51 (rvs_cons (rv_tmp z) rvs_nil) ?_
 exact ⟨z, hst.keep0⟩
}
}

theorem ref11_SameHold_ref {w0 w : World} {I : HL} {R : SP} {a0 : api_Hold} {r0_0 : Value} {r0_1 : Value} {r0_2 : Value} {r0_3 : Value} {a1 : api_Hold} {r1_0 : Value} {r1_1 : Value} {r1_2 : Value} {r1_3 : Value} (f0_0 : Rd tyF64 R I r0_0 a0.Gets) (f0_1 : Rd tyF2 R I r0_1 a0.Scans) (f0_2 : Rd tyF64 R I r0_2 a0.Puts) (f0_3 : Rd (tyInt .u8) R I r0_3 a0.Data) (f1_0 : Rd tyF64 R I r1_0 a1.Gets) (f1_1 : Rd tyF2 R I r1_1 a1.Scans) (f1_2 : Rd tyF64 R I r1_2 a1.Puts) (f1_3 : Rd (tyInt .u8) R I r1_3 a1.Data) (hst : St w0 w I [] R) {r : (Bool)} (hm : ref11_SameHold a0 a1 = some r) :
  Calls prog 18 #[.agg #[U6 a0.ID.Session, U6 a0.ID.Seq, U6 a0.Epoch, r0_0, r0_1, r0_2, r0_3], .agg #[U6 a1.ID.Session, U6 a1.ID.Seq, U6 a1.Epoch, r1_0, r1_1, r1_2, r1_3]] w fun e w' => e = .returned (.bool r) ∧ St w0 w' I [] R := by {
 unfold ref11_SameHold at hm
 refine calls_start (args := [.agg #[U6 a0.ID.Session, U6 a0.ID.Seq, U6 a0.Epoch, r0_0, r0_1, r0_2, r0_3], .agg #[U6 a1.ID.Session, U6 a1.ID.Seq, U6 a1.Epoch, r1_0, r1_1, r1_2, r1_3]]) func18 z ntmps18 (Nat.le_of_ble_eq_true z) ?_
 refine wp_seq (wrl ?_)
 obtain ⟨b356, w357, ew358, eb359, hst⟩ := hst.box [U6 a0.ID.Session, U6 a0.ID.Seq, U6 a0.Epoch, r0_0, r0_1, r0_2, r0_3] 34
 refine wl_run (v := Pt b356 0) (w' := w357) z z (x_al (by kernel_rfl) ew358 eb359) ?_
 obtain ⟨b361, w362, ew363, eb364, hst⟩ := hst.box [U6 a1.ID.Session, U6 a1.ID.Seq, U6 a1.Epoch, r1_0, r1_1, r1_2, r1_3] 34
 refine wl_run (v := Pt b361 0) (w' := w362) z z (x_al (by kernel_rfl) ew363 eb364) ?_
 refine wv (.bool false) z z z (wl_nil (tn (wp_seq (wp_seq (wrl (wv (Pt b356 0) z z (x_field z underlying34 z sizeOf29 z) (wv (.agg #[U6 a0.ID.Session, U6 a0.ID.Seq]) z z (x_loadN (cs := [U6 a0.ID.Session, U6 a0.ID.Seq]) z isAgg29 sizeOf29 (hst.bcs1 0 z)) (wv (Pt b361 0) z z (x_field z underlying34 z sizeOf29 z) (wv (.agg #[U6 a1.ID.Session, U6 a1.ID.Seq]) z z (x_loadN (cs := [U6 a1.ID.Session, U6 a1.ID.Seq]) z isAgg29 sizeOf29 (hst.bcs0 0 z)) (wv (.bool (!((a0.ID.Session == a1.ID.Session) && (a0.ID.Seq == a1.ID.Seq)))) z z (x_aggne2 z z (by kernel_rfl) underlying29 (by kernel_rfl) (by kernel_rfl) (by kernel_rfl) underlying27 underlying27 (fun _ _ _ => by kernel_rfl) (fun _ _ _ => by kernel_rfl)) (wv (.bool (!((a0.ID.Session == a1.ID.Session) && (a0.ID.Seq == a1.ID.Seq)))) z z z ?_)))))))))))
 refine bsplit (!((a0.ID.Session == a1.ID.Session) && (a0.ID.Seq == a1.ID.Seq))) (fun hc366 => ?_) (fun hc366 => ?_)
 {
 replace hm := bif_t hc366 hm
 refine wo hc366 z z z z z z (wo hc366 z z z z z z (wo hc366 z z z z z z (wo hc366 z z z z z z (wo hc366 z z z z z z (wv (.bool true) z z (x_pick_t hc366 z z) (wv (.bool true) z z z (wz z z z z z z (wz z z z z z z (wz z z z z z z (wz z z z z z z (wz z z z z z z (wz z z z z z z ?_))))))))))))
 refine wz z z z z z z (wv (.bool true) z z (x_pick_t z z z) (wv (.bool true) z z z (wz z z z z z z (wz z z z z z z (wz z z z z z z (wz z z z z z z (wz z z z z z z (wz z z z z z z (wz z z z z z z (wv (.bool true) z z (x_pick_t z z z) (wv (.bool true) z z z (wz z z z z z z ?_))))))))))))
 refine wz z z z z z z (wz z z z z z z (wz z z z z z z (wz z z z z z z (wz z z z z z z (wz z z z z z z (wv (.bool true) z z (x_pick_t z z z) (wv (.bool true) z z z (wz z z z z z z (wz z z z z z z (wz z z z z z z (wz z z z z z z (wz z z z z z z ?_))))))))))))
 refine wz z z z z z z (wz z z z z z z (wv (.bool true) z z (x_pick_t z z z) (wl_nil (tn ?_))))
 refine wp_ift z ?_
 refine wp_seq (wrl (wv (.bool false) z z z (wl_nil (tn (wp_ret (then_r ?_))))))
 obtain rfl := some_inj hm
 refine post_ret (vs := [.bool false]) results18 (rvs_cons (rv_tmp z) rvs_nil) ?_
 exact ⟨z, hst.keep0⟩
}
 {
 replace hm := bif_f hc366 hm
 refine wv (Pt b356 2) ((wanted_eq z z z (cvb hc366)).trans z) z (x_field z underlying34 z sizeOf27 z) (wv (.int .u64 a0.Epoch) ((wanted_eq z z z (cvb hc366)).trans z) z (x_load z isAgg27 (hst.bc1 z)) (wv (Pt b361 2) ((wanted_eq z z z (cvb hc366)).trans z) z (x_field z underlying34 z sizeOf27 z) (wv (.int .u64 a1.Epoch) ((wanted_eq z z z (cvb hc366)).trans z) z (x_load z isAgg27 (hst.bc0 z)) (wv (.bool (a0.Epoch != a1.Epoch)) ((wanted_eq z z z (cvb hc366)).trans z) z z (wv (.bool (a0.Epoch != a1.Epoch)) z z (x_pick_f hc366 z z) (wv (.bool (a0.Epoch != a1.Epoch)) z z z ?_))))))
 refine bsplit (a0.Epoch != a1.Epoch) (fun hc367 => ?_) (fun hc367 => ?_)
 {
 replace hm := bif_t hc367 hm
 refine wo hc367 z z z z z z (wo hc367 z z z z z z (wo hc367 z z z z z z (wo hc367 z z z z z z (wo hc367 z z z z z z (wo hc367 z z z z z z (wo hc367 z z z z z z (wv (.bool true) z z (x_pick_t hc367 z z) (wv (.bool true) z z z (wz z z z z z z (wz z z z z z z (wz z z z z z z (wz z z z z z z ?_))))))))))))
 refine wz z z z z z z (wz z z z z z z (wz z z z z z z (wv (.bool true) z z (x_pick_t z z z) (wv (.bool true) z z z (wz z z z z z z (wz z z z z z z (wz z z z z z z (wz z z z z z z (wz z z z z z z (wz z z z z z z (wz z z z z z z (wv (.bool true) z z (x_pick_t z z z) ?_))))))))))))
 refine wv (.bool true) z z z (wz z z z z z z (wz z z z z z z (wz z z z z z z (wz z z z z z z (wz z z z z z z (wz z z z z z z (wz z z z z z z (wv (.bool true) z z (x_pick_t z z z) (wl_nil (tn ?_))))))))))
 refine wp_ift z ?_
 refine wp_seq (wrl (wv (.bool false) z z z (wl_nil (tn (wp_ret (then_r ?_))))))
 obtain rfl := some_inj hm
 refine post_ret (vs := [.bool false]) results18 (rvs_cons (rv_tmp z) rvs_nil) ?_
 exact ⟨z, hst.keep0⟩
}
 {
 replace hm := bif_f hc367 hm
 refine wv (Pt b356 3) ((wanted_eq z z z (cvb hc367)).trans z) z (x_field z underlying34 z sizeOf30 z) (wv (r0_0) ((wanted_eq z z z (cvb hc367)).trans z) z (x_load z isAgg30 (hst.bc1 z)) (wv (.int .i64 ((a0.Gets).length : Int)) ((wanted_eq z z z (cvb hc367)).trans z) z (x_len z underlying30 (rd_sliceV f0_0)) (wv (Pt b361 3) ((wanted_eq z z z (cvb hc367)).trans z) z (x_field z underlying34 z sizeOf30 z) (wv (r1_0) ((wanted_eq z z z (cvb hc367)).trans z) z (x_load z isAgg30 (hst.bc0 z)) (wv (.int .i64 ((a1.Gets).length : Int)) ((wanted_eq z z z (cvb hc367)).trans z) z (x_len z underlying30 (rd_sliceV f1_0)) (wv (.bool (((a0.Gets).length : Int) != ((a1.Gets).length : Int))) ((wanted_eq z z z (cvb hc367)).trans z) z z (wv (.bool (((a0.Gets).length : Int) != ((a1.Gets).length : Int))) z z (x_pick_f hc367 z z) (wv (.bool (((a0.Gets).length : Int) != ((a1.Gets).length : Int))) z z z ?_))))))))
 refine bsplit (((a0.Gets).length : Int) != ((a1.Gets).length : Int)) (fun hc368 => ?_) (fun hc368 => ?_)
 {
 replace hm := bif_t hc368 hm
 refine wo hc368 z z z z z z (wo hc368 z z z z z z (wo hc368 z z z z z z (wo hc368 z z z z z z (wo hc368 z z z z z z (wo hc368 z z z z z z (wo hc368 z z z z z z (wv (.bool true) z z (x_pick_t hc368 z z) (wv (.bool true) z z z (wz z z z z z z (wz z z z z z z (wz z z z z z z (wz z z z z z z ?_))))))))))))
 refine wz z z z z z z (wz z z z z z z (wz z z z z z z (wv (.bool true) z z (x_pick_t z z z) (wv (.bool true) z z z (wz z z z z z z (wz z z z z z z (wz z z z z z z (wz z z z z z z (wz z z z z z z (wz z z z z z z (wz z z z z z z (wv (.bool true) z z (x_pick_t z z z) ?_))))))))))))
 refine wl_nil (tn ?_)
 refine wp_ift z ?_
 refine wp_seq (wrl (wv (.bool false) z z z (wl_nil (tn (wp_ret (then_r ?_))))))
 obtain rfl := some_inj hm
 refine post_ret (vs := [.bool false]) results18 (rvs_cons (rv_tmp z) rvs_nil) ?_
 exact ⟨z, hst.keep0⟩
}
 {
 replace hm := bif_f hc368 hm
 refine wv (Pt b356 4) ((wanted_eq z z z (cvb hc368)).trans z) z (x_field z underlying34 z sizeOf31 z) (wv (r0_1) ((wanted_eq z z z (cvb hc368)).trans z) z (x_load z isAgg31 (hst.bc1 z)) (wv (.int .i64 ((a0.Scans).length : Int)) ((wanted_eq z z z (cvb hc368)).trans z) z (x_len z underlying31 (rd_sliceV f0_1)) (wv (Pt b361 4) ((wanted_eq z z z (cvb hc368)).trans z) z (x_field z underlying34 z sizeOf31 z) (wv (r1_1) ((wanted_eq z z z (cvb hc368)).trans z) z (x_load z isAgg31 (hst.bc0 z)) (wv (.int .i64 ((a1.Scans).length : Int)) ((wanted_eq z z z (cvb hc368)).trans z) z (x_len z underlying31 (rd_sliceV f1_1)) (wv (.bool (((a0.Scans).length : Int) != ((a1.Scans).length : Int))) ((wanted_eq z z z (cvb hc368)).trans z) z z (wv (.bool (((a0.Scans).length : Int) != ((a1.Scans).length : Int))) z z (x_pick_f hc368 z z) (wv (.bool (((a0.Scans).length : Int) != ((a1.Scans).length : Int))) z z z ?_))))))))
 refine bsplit (((a0.Scans).length : Int) != ((a1.Scans).length : Int)) (fun hc369 => ?_) (fun hc369 => ?_)
 {
 replace hm := bif_t hc369 hm
 refine wo hc369 z z z z z z (wo hc369 z z z z z z (wo hc369 z z z z z z (wo hc369 z z z z z z (wo hc369 z z z z z z (wo hc369 z z z z z z (wo hc369 z z z z z z (wv (.bool true) z z (x_pick_t hc369 z z) (wv (.bool true) z z z (wz z z z z z z (wz z z z z z z (wz z z z z z z (wz z z z z z z ?_))))))))))))
 refine wz z z z z z z (wz z z z z z z (wz z z z z z z (wv (.bool true) z z (x_pick_t z z z) (wl_nil (tn ?_)))))
 refine wp_ift z ?_
 refine wp_seq (wrl (wv (.bool false) z z z (wl_nil (tn (wp_ret (then_r ?_))))))
 obtain rfl := some_inj hm
 refine post_ret (vs := [.bool false]) results18 (rvs_cons (rv_tmp z) rvs_nil) ?_
 exact ⟨z, hst.keep0⟩
}
 {
 replace hm := bif_f hc369 hm
 refine wv (Pt b356 5) ((wanted_eq z z z (cvb hc369)).trans z) z (x_field z underlying34 z sizeOf30 z) (wv (r0_2) ((wanted_eq z z z (cvb hc369)).trans z) z (x_load z isAgg30 (hst.bc1 z)) (wv (.int .i64 ((a0.Puts).length : Int)) ((wanted_eq z z z (cvb hc369)).trans z) z (x_len z underlying30 (rd_sliceV f0_2)) (wv (Pt b361 5) ((wanted_eq z z z (cvb hc369)).trans z) z (x_field z underlying34 z sizeOf30 z) (wv (r1_2) ((wanted_eq z z z (cvb hc369)).trans z) z (x_load z isAgg30 (hst.bc0 z)) (wv (.int .i64 ((a1.Puts).length : Int)) ((wanted_eq z z z (cvb hc369)).trans z) z (x_len z underlying30 (rd_sliceV f1_2)) (wv (.bool (((a0.Puts).length : Int) != ((a1.Puts).length : Int))) ((wanted_eq z z z (cvb hc369)).trans z) z z (wv (.bool (((a0.Puts).length : Int) != ((a1.Puts).length : Int))) z z (x_pick_f hc369 z z) (wv (.bool (((a0.Puts).length : Int) != ((a1.Puts).length : Int))) z z z ?_))))))))
 refine bsplit (((a0.Puts).length : Int) != ((a1.Puts).length : Int)) (fun hc370 => ?_) (fun hc370 => ?_)
 {
 replace hm := bif_t hc370 hm
 refine wo hc370 z z z z z z (wo hc370 z z z z z z (wo hc370 z z z z z z (wo hc370 z z z z z z (wo hc370 z z z z z z (wo hc370 z z z z z z (wo hc370 z z z z z z (wv (.bool true) z z (x_pick_t hc370 z z) (wl_nil (tn ?_)))))))))
 refine wp_ift z ?_
 refine wp_seq (wrl (wv (.bool false) z z z (wl_nil (tn (wp_ret (then_r ?_))))))
 obtain rfl := some_inj hm
 refine post_ret (vs := [.bool false]) results18 (rvs_cons (rv_tmp z) rvs_nil) ?_
 exact ⟨z, hst.keep0⟩
}
 {
 replace hm := bif_f hc370 hm
 refine wv (Pt b356 6) ((wanted_eq z z z (cvb hc370)).trans z) z (x_field z underlying34 z sizeOf32 z) (wv (r0_3) ((wanted_eq z z z (cvb hc370)).trans z) z (x_load z isAgg32 (hst.bc1 z)) (wv (.string (toStr a0.Data)) ((wanted_eq z z z (cvb hc370)).trans z) z (x_tostr underlying32 underlying9 underlying5 z (Src.of_rd hst f0_3 flat_int)) (wv (Pt b361 6) ((wanted_eq z z z (cvb hc370)).trans z) z (x_field z underlying34 z sizeOf32 z) (wv (r1_3) ((wanted_eq z z z (cvb hc370)).trans z) z (x_load z isAgg32 (hst.bc0 z)) (wv (.string (toStr a1.Data)) ((wanted_eq z z z (cvb hc370)).trans z) z (x_tostr underlying32 underlying9 underlying5 z (Src.of_rd hst f1_3 flat_int)) (wv (.bool (!(sEq (toStr a0.Data) (toStr a1.Data)))) ((wanted_eq z z z (cvb hc370)).trans z) z (by kernel_rfl) (wv (.bool (!(sEq (toStr a0.Data) (toStr a1.Data)))) z z (x_pick_f hc370 z z) (wl_nil (tn ?_)))))))))
 refine bsplit (!(sEq (toStr a0.Data) (toStr a1.Data))) (fun hc371 => ?_) (fun hc371 => ?_)
 {
 replace hm := bif_t hc371 hm
 refine wp_ift (cvb hc371) ?_
 refine wp_seq (wrl (wv (.bool false) z z z (wl_nil (tn (wp_ret (then_r ?_))))))
 obtain rfl := some_inj hm
 refine post_ret (vs := [.bool false]) results18 (rvs_cons (rv_tmp z) rvs_nil) ?_
 exact ⟨z, hst.keep0⟩
}
 {
 replace hm := bif_f hc371 hm
 refine wp_iff (cvb hc371) ?_
 refine wp_skip (tn ?_)
 obtain ⟨y435, hm, hx436⟩ := joinO_some hm
 refine wp_cut (fun a w => ∃ (σ433 : Nat → Value), (ref11_SameHold_j0 a0 a1) () = some r ∧ a = Fr 131 (upd (upd σ433 2 (Pt b356 0)) 3 (Pt b361 0)) ∧ St w0 w I [cells b356 [U6 a0.ID.Session, U6 a0.ID.Seq, U6 a0.Epoch, r0_0, r0_1, r0_2, r0_3], cells b361 [U6 a1.ID.Session, U6 a1.ID.Seq, U6 a1.Epoch, r1_0, r1_1, r1_2, r1_3]] R) ?_ ?_
 {
 refine wp_seq (wrl (wv (.int .i64 (0:Int)) z z z (wl_nil (tn (wp_block ?_)))))
 obtain ⟨n409, hm⟩ := loopO_some hm
 refine wp_loop_n (fun n a w => ∃ (z407 : Int) (σ408 : Nat → Value), loopN (ref11_SameHold_l1 a0 a1) n z407 = some y435 ∧ a = Fr 131 (upd (upd (upd σ408 2 (Pt b356 0)) 3 (Pt b361 0)) 5 (.int .i64 z407)) ∧ St w0 w I [cells b361 [U6 a1.ID.Session, U6 a1.ID.Seq, U6 a1.Epoch, r1_0, r1_1, r1_2, r1_3], cells b356 [U6 a0.ID.Session, U6 a0.ID.Seq, U6 a0.Epoch, r0_0, r0_1, r0_2, r0_3]] R) n409 ⟨(0:Int), _, hm, (fu 2 (Pt b356 0) z (fu 3 (Pt b361 0) z (fu 5 (.int .i64 (0:Int)) z z))), hst⟩ ?_
 rintro n415 _ w410 ⟨z407, σ408, hm, rfl, hst⟩
 obtain ⟨n412, y413, rfl, hm, hx414⟩ := loopN_some hm
 dsimp only [ref11_SameHold_l1] at hm
 refine wp_seq (wp_seq (wrl (wv (.int .i64 z407) z z z (wv (Pt b356 3) z z (x_field z underlying34 z sizeOf30 z) (wv (r0_0) z z (x_load z isAgg30 (hst.bc1 z)) (wv (.int .i64 ((a0.Gets).length : Int)) z z (x_len z underlying30 (rd_sliceV f0_0)) (wv (.bool (decide (z407 < ((a0.Gets).length : Int)))) z z z (wl_nil (tn ?_)))))))))
 refine bsplit (decide (z407 < ((a0.Gets).length : Int))) (fun hc416 => ?_) (fun hc416 => ?_)
 {
 replace hm := bif_t hc416 hm
 refine wp_ift (cvb hc416) ?_
 refine wp_skip (tn (wp_seq (wp_block (wp_seq ?_))))
 refine wp_region_St hst 12 [0, 1, 2, 3, 4, 5, 6, 7, 8, 9, 10, 11] [0, 1, 0, 7, 15, 0, 32, 0, 224, 480, 1023, 2047] [] z (by kernel_rfl) (by kernel_rfl) Try.mixed (by kernel_rfl) ?_
 refine wsr (Pt b356 3) 0 z z z (by kernel_rfl) (fun w hst => x_field z underlying34 z sizeOf30 z) (wsr (r0_0) 1 z z z (by kernel_rfl) (fun w hst => x_load z isAgg30 (hst.bc1 z)) (wsr (.int .i64 z407) 2 z z z (by kernel_rfl) (fun w hst => z) ?_))
 obtain ⟨x417, hx418, hm⟩ := bind_some hm
 obtain ⟨h419, h420, hi421⟩ := geto_some hx418
 refine wsr (.pointer (some (eAddr r0_0 (z407.toNat * 1 + 0)))) 3 z z z (by kernel_rfl) (fun w hst => x_index z z underlying30 sizeOf57 (rd_sliceV f0_0) h419 h420) (wsr (.float .f64 x417) 4 z z z (by kernel_rfl) (fun w hst => x_load z isAgg57 (rd_load f0_0 (HL.le.refl _) hst hi421 (by rintro _ rfl; rfl))) (wsr (Pt b361 3) 5 z z z (by kernel_rfl) (fun w hst => x_field z underlying34 z sizeOf30 z) (wsr (r1_0) 6 z z z (by kernel_rfl) (fun w hst => x_load z isAgg30 (hst.bc0 z)) (wsr (.int .i64 z407) 7 z z z (by kernel_rfl) (fun w hst => z) ?_))))
 obtain ⟨x422, hx423, hm⟩ := bind_some hm
 obtain ⟨h424, h425, hi426⟩ := geto_some hx423
 refine wsr (.pointer (some (eAddr r1_0 (z407.toNat * 1 + 0)))) 8 z z z (by kernel_rfl) (fun w hst => x_index z z underlying30 sizeOf57 (rd_sliceV f1_0) h424 h425) (wsr (.float .f64 x422) 9 z z z (by kernel_rfl) (fun w hst => x_load z isAgg57 (rd_load f1_0 (HL.le.refl _) hst hi426 (by rintro _ rfl; rfl))) ?_)
 refine ws_e1 10 (by kernel_rfl) ?_
 refine nxe [11] (by kernel_rfl) z z ?_
 clear hst
 intro w hst
 obtain ⟨t427, ht428, hm⟩ := bind_some hm
 refine wec call51 [F6 x417, F6 x422] z z ?_
 refine (ref01_Same_ref hst.to0 ht428).mono ?_
 rintro _ w429 ⟨rfl, hst⟩
 refine ⟨_, z, ?_⟩
 replace hst := hst.of0
 refine ws_next (pend' := []) hst (by kernel_rfl) pk_nil ?_
 refine wsr (.bool (!t427)) 11 z z z (by kernel_rfl) (fun w hst => z) ?_
 refine ws_nil ?_
 intro w hst
 refine tn ?_
 refine bsplit (!t427) (fun hc432 => ?_) (fun hc432 => ?_)
 {
 replace hm := bif_t hc432 hm
 refine wp_ift (cvb hc432) ?_
 refine wp_seq (wrl (wv (.bool false) z z z (wl_nil (tn (wp_ret (blk_r (then_r (then_r ?_))))))))
 replace hm := inr_up hm hx414
 refine blk_r (then_r ?_)
 replace hm := inr_up hm hx436
 obtain rfl := some_inj hm
 refine post_ret (vs := [.bool false]) results18 (rvs_cons (rv_tmp z) rvs_nil) ?_
 exact ⟨z, hst.keep0⟩
}
 {
 replace hm := bif_f hc432 hm
 refine wp_iff (cvb hc432) ?_
 refine wp_skip (blk_n (tn (wrl ?_)))
 refine wv (.int .i64 z407) z z z (wv (.int .i64 (i64.wrap (z407 + (1:Int)))) z z z (wv (.int .i64 (i64.wrap (z407 + (1:Int)))) z z z (wl_nil (tn ?_))))
 replace hst := hst.pull1.pull1.keep2
 obtain rfl := some_inj hm
 exact ⟨_, Nat.lt_succ_self _, (i64.wrap (z407 + (1:Int))), _, hx414, (fu 2 (Pt b356 0) z (fu 3 (Pt b361 0) z (fu 5 (.int .i64 (i64.wrap (z407 + (1:Int)))) z z))), hst⟩
}
}
 {
 replace hm := bif_f hc416 hm
 refine wp_iff (cvb hc416) ?_
 refine wp_exit (then_x (then_x ?_))
 replace hm := inr_up hm hx414
 refine blk_x (tn ?_)
 replace hst := hst.pull1.keep2
 obtain rfl := some_inj hm
 exact ⟨_, hx436, (fu 2 (Pt b356 0) z (fu 3 (Pt b361 0) z z)), hst⟩
}
}
 {
 clear hst
 rintro _ w437 ⟨σ433, hm, rfl, hst⟩
 dsimp only [ref11_SameHold_j0] at hm
 obtain ⟨y519, hm, hx520⟩ := joinO_some hm
 refine wp_cut (fun a w => ∃ (σ517 : Nat → Value), (ref11_SameHold_j2 a0 a1) () = some r ∧ a = Fr 131 (upd (upd σ517 2 (Pt b356 0)) 3 (Pt b361 0)) ∧ St w0 w I [cells b356 [U6 a0.ID.Session, U6 a0.ID.Seq, U6 a0.Epoch, r0_0, r0_1, r0_2, r0_3], cells b361 [U6 a1.ID.Session, U6 a1.ID.Seq, U6 a1.Epoch, r1_0, r1_1, r1_2, r1_3]] R) ?_ ?_
 {
 refine wp_seq (wrl (wv (.int .i64 (0:Int)) z z z (wl_nil (tn (wp_block ?_)))))
 obtain ⟨n487, hm⟩ := loopO_some hm
 refine wp_loop_n (fun n a w => ∃ (z485 : Int) (σ486 : Nat → Value), loopN (ref11_SameHold_l3 a0 a1) n z485 = some y519 ∧ a = Fr 131 (upd (upd (upd σ486 2 (Pt b356 0)) 3 (Pt b361 0)) 6 (.int .i64 z485)) ∧ St w0 w I [cells b356 [U6 a0.ID.Session, U6 a0.ID.Seq, U6 a0.Epoch, r0_0, r0_1, r0_2, r0_3], cells b361 [U6 a1.ID.Session, U6 a1.ID.Seq, U6 a1.Epoch, r1_0, r1_1, r1_2, r1_3]] R) n487 ⟨(0:Int), _, hm, (fu 2 (Pt b356 0) z (fu 3 (Pt b361 0) z (fu 6 (.int .i64 (0:Int)) z z))), hst⟩ ?_
 rintro n493 _ w488 ⟨z485, σ486, hm, rfl, hst⟩
 obtain ⟨n490, y491, rfl, hm, hx492⟩ := loopN_some hm
 dsimp only [ref11_SameHold_l3] at hm
 refine wp_seq (wp_seq (wrl (wv (.int .i64 z485) z z z (wv (Pt b356 4) z z (x_field z underlying34 z sizeOf31 z) (wv (r0_1) z z (x_load z isAgg31 (hst.bc0 z)) (wv (.int .i64 ((a0.Scans).length : Int)) z z (x_len z underlying31 (rd_sliceV f0_1)) (wv (.bool (decide (z485 < ((a0.Scans).length : Int)))) z z z (wl_nil (tn ?_)))))))))
 refine bsplit (decide (z485 < ((a0.Scans).length : Int))) (fun hc494 => ?_) (fun hc494 => ?_)
 {
 replace hm := bif_t hc494 hm
 refine wp_ift (cvb hc494) ?_
 refine wp_skip (tn (wp_seq (wp_block (wp_seq ?_))))
 refine wp_region_St hst 30 [0, 1, 2, 3, 4, 5, 6, 7, 8, 9, 10, 11, 12, 13, 14, 15, 16, 17, 18, 19, 20, 21, 22, 23, 24, 25, 26, 27, 28, 29] [0, 1, 0, 7, 15, 31, 0, 64, 0, 448, 960, 1984, 4095, 8191, 16383, 32767, 65535, 32767, 262143, 524287, 1048575, 32767, 2129919, 32767, 14712831, 31490047, 65044479, 134217727, 268435455, 536870911] [] z (by kernel_rfl) (by kernel_rfl) Try.mixed (by kernel_rfl) ?_
 refine wsr (Pt b356 4) 0 z z z (by kernel_rfl) (fun w hst => x_field z underlying34 z sizeOf31 z) (wsr (r0_1) 1 z z z (by kernel_rfl) (fun w hst => x_load z isAgg31 (hst.bc0 z)) (wsr (.int .i64 z485) 2 z z z (by kernel_rfl) (fun w hst => z) ?_))
 obtain ⟨x495, hx496, hm⟩ := bind_some hm
 obtain ⟨h497, h498, hi499⟩ := geto_some hx496
 refine wsr (.pointer (some (eAddr r0_1 (z485.toNat * 2 + 0)))) 3 z z z (by kernel_rfl) (fun w hst => x_index z z underlying31 sizeOf75 (rd_sliceV f0_1) h497 h498) (wsr (.pointer (some (eAddr r0_1 (z485.toNat * 2 + 0)))) 4 z z z (by kernel_rfl) (fun w hst => x_index_arr_e (i := (0:Int)) z z underlying75 sizeOf57 (by decide) (by decide) z) (wsr (.float .f64 x495.1) 5 z z z (by kernel_rfl) (fun w hst => x_load z isAgg57 (rd_load f0_1 (HL.le.refl _) hst hi499 (by rintro _ rfl; rfl))) (wsr (Pt b361 4) 6 z z z (by kernel_rfl) (fun w hst => x_field z underlying34 z sizeOf31 z) (wsr (r1_1) 7 z z z (by kernel_rfl) (fun w hst => x_load z isAgg31 (hst.bc1 z)) (wsr (.int .i64 z485) 8 z z z (by kernel_rfl) (fun w hst => z) ?_)))))
 obtain ⟨x500, hx501, hm⟩ := bind_some hm
 obtain ⟨h502, h503, hi504⟩ := geto_some hx501
 refine wsr (.pointer (some (eAddr r1_1 (z485.toNat * 2 + 0)))) 9 z z z (by kernel_rfl) (fun w hst => x_index z z underlying31 sizeOf75 (rd_sliceV f1_1) h502 h503) (wsr (.pointer (some (eAddr r1_1 (z485.toNat * 2 + 0)))) 10 z z z (by kernel_rfl) (fun w hst => x_index_arr_e (i := (0:Int)) z z underlying75 sizeOf57 (by decide) (by decide) z) (wsr (.float .f64 x500.1) 11 z z z (by kernel_rfl) (fun w hst => x_load z isAgg57 (rd_load f1_1 (HL.le.refl _) hst hi504 (by rintro _ rfl; rfl))) ?_))
 refine ws_e1 12 (by kernel_rfl) ?_
 refine nxe [13, 14, 15, 16, 17, 18, 19, 20, 21, 22, 23, 24, 25, 26, 27, 28, 29] (by kernel_rfl) z z ?_
 clear hst
 intro w hst
 obtain ⟨t505, ht506, hm⟩ := bind_some hm
 refine wec call51 [F6 x495.1, F6 x500.1] z z ?_
 refine (ref01_Same_ref hst.to0 ht506).mono ?_
 rintro _ w507 ⟨rfl, hst⟩
 refine ⟨_, z, ?_⟩
 replace hst := hst.of0
 refine ws_next (pend' := []) hst (by kernel_rfl) pk_nil ?_
 refine wsr (.bool (!t505)) 13 z z z (by kernel_rfl) (fun w hst => z) (wsr (.bool (!t505)) 14 z z z (by kernel_rfl) (fun w hst => z) ?_)
 refine bsplit (!t505) (fun hc510 => ?_) (fun hc510 => ?_)
 {
 replace hm := bif_t hc510 hm
 refine ws_q (v := undef) 15 [16, 17, 18, 19, 20, 21, 22, 23, 24, 25, 26, 27, 28, 29] (by kernel_rfl) z z (yi_off ((wanted_eq z z z (cvb hc510)).trans z)) (ws_q (v := undef) 16 [17, 18, 19, 20, 21, 22, 23, 24, 25, 26, 27, 28, 29] (by kernel_rfl) z z (yi_off ((wanted_eq z z z (cvb hc510)).trans z)) (ws_q (v := undef) 17 [18, 19, 20, 21, 22, 23, 24, 25, 26, 27, 28, 29] (by kernel_rfl) z z (yi_off ((wanted_eq z z z (cvb hc510)).trans z)) (ws_q (v := undef) 18 [19, 20, 21, 22, 23, 24, 25, 26, 27, 28, 29] (by kernel_rfl) z z (yi_off ((wanted_eq z z z (cvb hc510)).trans z)) (ws_q (v := undef) 19 [20, 21, 22, 23, 24, 25, 26, 27, 28, 29] (by kernel_rfl) z z (yi_off ((wanted_eq z z z (cvb hc510)).trans z)) (ws_q (v := undef) 20 [21, 22, 23, 24, 25, 26, 27, 28, 29] (by kernel_rfl) z z (yi_off ((wanted_eq z z z (cvb hc510)).trans z)) (ws_q (v := undef) 21 [22, 23, 24, 25, 26, 27, 28, 29] (by kernel_rfl) z z (yi_off ((wanted_eq z z z (cvb hc510)).trans z)) (ws_q (v := undef) 22 [23, 24, 25, 26, 27, 28, 29] (by kernel_rfl) z z (yi_off ((wanted_eq z z z (cvb hc510)).trans z)) (ws_q (v := undef) 23 [24, 25, 26, 27, 28, 29] (by kernel_rfl) z z (yi_off ((wanted_eq z z z (cvb hc510)).trans z)) (ws_q (v := undef) 24 [25, 26, 27, 28, 29] (by kernel_rfl) z z (yi_off ((wanted_eq z z z (cvb hc510)).trans z)) (ws_q (v := undef) 25 [26, 27, 28, 29] (by kernel_rfl) z z (yi_off ((wanted_eq z z z (cvb hc510)).trans z)) (ws_q (v := undef) 26 [27, 28, 29] (by kernel_rfl) z z (yi_off ((wanted_eq z z z (cvb hc510)).trans z)) (ws_q (v := undef) 27 [28, 29] (by kernel_rfl) z z (yi_off ((wanted_eq z z z (cvb hc510)).trans z)) ?_))))))))))))
 refine ws_q (v := undef) 28 [29] (by kernel_rfl) z z (yi_off ((wanted_eq z z z (cvb hc510)).trans z)) (wsr (.bool true) 29 z z z (by kernel_rfl) (fun w hst => x_pick_t hc510 z z) ?_)
 refine ws_nil ?_
 intro w hst
 refine tn ?_
 refine wp_ift z ?_
 refine wp_seq (wrl (wv (.bool false) z z z (wl_nil (tn (wp_ret (blk_r (then_r (then_r ?_))))))))
 replace hm := inr_up hm hx492
 refine blk_r (then_r ?_)
 replace hm := inr_up hm hx520
 obtain rfl := some_inj hm
 refine post_ret (vs := [.bool false]) results18 (rvs_cons (rv_tmp z) rvs_nil) ?_
 exact ⟨z, hst.keep0⟩
}
 {
 replace hm := bif_f hc510 hm
 refine ws_q (v := Pt b356 4) 15 [16, 17, 18, 19, 20, 21, 22, 23, 24, 25, 26, 27, 28, 29] (by kernel_rfl) z z (yi_run ((wanted_eq z z z (cvb hc510)).trans z) (fun w hst => x_field z underlying34 z sizeOf31 z)) (ws_q (v := r0_1) 16 [17, 18, 19, 20, 21, 22, 23, 24, 25, 26, 27, 28, 29] (by kernel_rfl) z z (yi_run ((wanted_eq z z z (cvb hc510)).trans z) (fun w hst => x_load z isAgg31 (hst.bc0 z))) (ws_q (v := .int .i64 z485) 17 [18, 19, 20, 21, 22, 23, 24, 25, 26, 27, 28, 29] (by kernel_rfl) z z (yi_run ((wanted_eq z z z (cvb hc510)).trans z) (fun w hst => z)) (ws_q (v := .pointer (some (eAddr r0_1 (z485.toNat * 2 + 0)))) 18 [19, 20, 21, 22, 23, 24, 25, 26, 27, 28, 29] (by kernel_rfl) z z (yi_run ((wanted_eq z z z (cvb hc510)).trans z) (fun w hst => x_index z z underlying31 sizeOf75 (rd_sliceV f0_1) h497 h498)) (ws_q (v := .pointer (some (eAddr r0_1 (z485.toNat * 2 + 1)))) 19 [20, 21, 22, 23, 24, 25, 26, 27, 28, 29] (by kernel_rfl) z z (yi_run ((wanted_eq z z z (cvb hc510)).trans z) (fun w hst => x_index_arr_e (i := (1:Int)) z z underlying75 sizeOf57 (by decide) (by decide) z)) (ws_q (v := .float .f64 x495.2) 20 [21, 22, 23, 24, 25, 26, 27, 28, 29] (by kernel_rfl) z z (yi_run ((wanted_eq z z z (cvb hc510)).trans z) (fun w hst => x_load z isAgg57 (rd_load f0_1 (HL.le.refl _) hst hi499 (by rintro _ rfl; rfl)))) (ws_q (v := Pt b361 4) 21 [22, 23, 24, 25, 26, 27, 28, 29] (by kernel_rfl) z z (yi_run ((wanted_eq z z z (cvb hc510)).trans z) (fun w hst => x_field z underlying34 z sizeOf31 z)) (ws_q (v := r1_1) 22 [23, 24, 25, 26, 27, 28, 29] (by kernel_rfl) z z (yi_run ((wanted_eq z z z (cvb hc510)).trans z) (fun w hst => x_load z isAgg31 (hst.bc1 z))) (ws_q (v := .int .i64 z485) 23 [24, 25, 26, 27, 28, 29] (by kernel_rfl) z z (yi_run ((wanted_eq z z z (cvb hc510)).trans z) (fun w hst => z)) (ws_q (v := .pointer (some (eAddr r1_1 (z485.toNat * 2 + 0)))) 24 [25, 26, 27, 28, 29] (by kernel_rfl) z z (yi_run ((wanted_eq z z z (cvb hc510)).trans z) (fun w hst => x_index z z underlying31 sizeOf75 (rd_sliceV f1_1) h502 h503)) (ws_q (v := .pointer (some (eAddr r1_1 (z485.toNat * 2 + 1)))) 25 [26, 27, 28, 29] (by kernel_rfl) z z (yi_run ((wanted_eq z z z (cvb hc510)).trans z) (fun w hst => x_index_arr_e (i := (1:Int)) z z underlying75 sizeOf57 (by decide) (by decide) z)) (ws_q (v := .float .f64 x500.2) 26 [27, 28, 29] (by kernel_rfl) z z (yi_run ((wanted_eq z z z (cvb hc510)).trans z) (fun w hst => x_load z isAgg57 (rd_load f1_1 (HL.le.refl _) hst hi504 (by rintro _ rfl; rfl)))) ?_)))))))))))
 refine ws_e1 27 (by kernel_rfl) ?_
 refine nxe [28, 29] (by kernel_rfl) z ((wanted_eq z z z (cvb hc510)).trans z) ?_
 clear hst
 intro w hst
 obtain ⟨t511, ht512, hm⟩ := bind_some hm
 refine wec call51 [F6 x495.2, F6 x500.2] z z ?_
 refine (ref01_Same_ref hst.to0 ht512).mono ?_
 rintro _ w513 ⟨rfl, hst⟩
 refine ⟨_, z, ?_⟩
 replace hst := hst.of0
 refine ws_next (pend' := []) hst (by kernel_rfl) pk_nil ?_
 refine ws_q (v := .bool (!t511)) 28 [29] (by kernel_rfl) z z (yi_run ((wanted_eq z z z (cvb hc510)).trans z) (fun w hst => z)) (wsr (.bool (!t511)) 29 z z z (by kernel_rfl) (fun w hst => x_pick_f hc510 z z) ?_)
 refine ws_nil ?_
 intro w hst
 refine tn ?_
 refine bsplit (!t511) (fun hc516 => ?_) (fun hc516 => ?_)
 {
 replace hm := bif_t hc516 hm
 refine wp_ift (cvb hc516) ?_
 refine wp_seq (wrl (wv (.bool false) z z z (wl_nil (tn (wp_ret (blk_r (then_r (then_r ?_))))))))
 replace hm := inr_up hm hx492
 refine blk_r (then_r ?_)
 replace hm := inr_up hm hx520
 obtain rfl := some_inj hm
 refine post_ret (vs := [.bool false]) results18 (rvs_cons (rv_tmp z) rvs_nil) ?_
 exact ⟨z, hst.keep0⟩
}
 {
 replace hm := bif_f hc516 hm
 refine wp_iff (cvb hc516) ?_
 refine wp_skip (blk_n (tn (wrl ?_)))
 refine wv (.int .i64 z485) z z z (wv (.int .i64 (i64.wrap (z485 + (1:Int)))) z z z (wv (.int .i64 (i64.wrap (z485 + (1:Int)))) z z z (wl_nil (tn ?_))))
 replace hst := hst.pull1.pull1.keep2
 obtain rfl := some_inj hm
 exact ⟨_, Nat.lt_succ_self _, (i64.wrap (z485 + (1:Int))), _, hx492, (fu 2 (Pt b356 0) z (fu 3 (Pt b361 0) z (fu 6 (.int .i64 (i64.wrap (z485 + (1:Int)))) z z))), hst⟩
}
}
}
 {
 replace hm := bif_f hc494 hm
 refine wp_iff (cvb hc494) ?_
 refine wp_exit (then_x (then_x ?_))
 replace hm := inr_up hm hx492
 refine blk_x (tn ?_)
 replace hst := hst.pull1.pull1.keep2
 obtain rfl := some_inj hm
 exact ⟨_, hx520, (fu 2 (Pt b356 0) z (fu 3 (Pt b361 0) z z)), hst⟩
}
}
 {
 clear hst
 rintro _ w521 ⟨σ517, hm, rfl, hst⟩
 dsimp only [ref11_SameHold_j2] at hm
 refine wp_seq (wp_seq (wrl (wv (.int .i64 (0:Int)) z z z (wl_nil (tn (wp_block ?_))))))
 obtain ⟨n559, hm⟩ := loopO_some hm
 refine wp_loop_n (fun n a w => ∃ (z557 : Int) (σ558 : Nat → Value), loopN (ref11_SameHold_l4 a0 a1) n z557 = some r ∧ a = Fr 131 (upd (upd (upd σ558 2 (Pt b356 0)) 3 (Pt b361 0)) 7 (.int .i64 z557)) ∧ St w0 w I [cells b356 [U6 a0.ID.Session, U6 a0.ID.Seq, U6 a0.Epoch, r0_0, r0_1, r0_2, r0_3], cells b361 [U6 a1.ID.Session, U6 a1.ID.Seq, U6 a1.Epoch, r1_0, r1_1, r1_2, r1_3]] R) n559 ⟨(0:Int), _, hm, (fu 2 (Pt b356 0) z (fu 3 (Pt b361 0) z (fu 7 (.int .i64 (0:Int)) z z))), hst⟩ ?_
 rintro n565 _ w560 ⟨z557, σ558, hm, rfl, hst⟩
 obtain ⟨n562, y563, rfl, hm, hx564⟩ := loopN_some hm
 dsimp only [ref11_SameHold_l4] at hm
 refine wp_seq (wp_seq (wrl (wv (.int .i64 z557) z z z (wv (Pt b356 5) z z (x_field z underlying34 z sizeOf30 z) (wv (r0_2) z z (x_load z isAgg30 (hst.bc0 z)) (wv (.int .i64 ((a0.Puts).length : Int)) z z (x_len z underlying30 (rd_sliceV f0_2)) (wv (.bool (decide (z557 < ((a0.Puts).length : Int)))) z z z (wl_nil (tn ?_)))))))))
 refine bsplit (decide (z557 < ((a0.Puts).length : Int))) (fun hc566 => ?_) (fun hc566 => ?_)
 {
 replace hm := bif_t hc566 hm
 refine wp_ift (cvb hc566) ?_
 refine wp_skip (tn (wp_seq (wp_block (wp_seq ?_))))
 refine wp_region_St hst 12 [0, 1, 2, 3, 4, 5, 6, 7, 8, 9, 10, 11] [0, 1, 0, 7, 15, 0, 32, 0, 224, 480, 1023, 2047] [] z (by kernel_rfl) (by kernel_rfl) Try.mixed (by kernel_rfl) ?_
 refine wsr (Pt b356 5) 0 z z z (by kernel_rfl) (fun w hst => x_field z underlying34 z sizeOf30 z) (wsr (r0_2) 1 z z z (by kernel_rfl) (fun w hst => x_load z isAgg30 (hst.bc0 z)) (wsr (.int .i64 z557) 2 z z z (by kernel_rfl) (fun w hst => z) ?_))
 obtain ⟨x567, hx568, hm⟩ := bind_some hm
 obtain ⟨h569, h570, hi571⟩ := geto_some hx568
 refine wsr (.pointer (some (eAddr r0_2 (z557.toNat * 1 + 0)))) 3 z z z (by kernel_rfl) (fun w hst => x_index z z underlying30 sizeOf57 (rd_sliceV f0_2) h569 h570) (wsr (.float .f64 x567) 4 z z z (by kernel_rfl) (fun w hst => x_load z isAgg57 (rd_load f0_2 (HL.le.refl _) hst hi571 (by rintro _ rfl; rfl))) (wsr (Pt b361 5) 5 z z z (by kernel_rfl) (fun w hst => x_field z underlying34 z sizeOf30 z) (wsr (r1_2) 6 z z z (by kernel_rfl) (fun w hst => x_load z isAgg30 (hst.bc1 z)) (wsr (.int .i64 z557) 7 z z z (by kernel_rfl) (fun w hst => z) ?_))))
 obtain ⟨x572, hx573, hm⟩ := bind_some hm
 obtain ⟨h574, h575, hi576⟩ := geto_some hx573
 refine wsr (.pointer (some (eAddr r1_2 (z557.toNat * 1 + 0)))) 8 z z z (by kernel_rfl) (fun w hst => x_index z z underlying30 sizeOf57 (rd_sliceV f1_2) h574 h575) (wsr (.float .f64 x572) 9 z z z (by kernel_rfl) (fun w hst => x_load z isAgg57 (rd_load f1_2 (HL.le.refl _) hst hi576 (by rintro _ rfl; rfl))) ?_)
 refine ws_e1 10 (by kernel_rfl) ?_
 refine nxe [11] (by kernel_rfl) z z ?_
 clear hst
 intro w hst
 obtain ⟨t577, ht578, hm⟩ := bind_some hm
 refine wec call51 [F6 x567, F6 x572] z z ?_
 refine (ref01_Same_ref hst.to0 ht578).mono ?_
 rintro _ w579 ⟨rfl, hst⟩
 refine ⟨_, z, ?_⟩
 replace hst := hst.of0
 refine ws_next (pend' := []) hst (by kernel_rfl) pk_nil ?_
 refine wsr (.bool (!t577)) 11 z z z (by kernel_rfl) (fun w hst => z) ?_
 refine ws_nil ?_
 intro w hst
 refine tn ?_
 refine bsplit (!t577) (fun hc582 => ?_) (fun hc582 => ?_)
 {
 replace hm := bif_t hc582 hm
 refine wp_ift (cvb hc582) ?_
 refine wp_seq (wrl (wv (.bool false) z z z (wl_nil (tn (wp_ret (blk_r (then_r (then_r ?_))))))))
 replace hm := inr_up hm hx564
 refine blk_r (then_r ?_)
 obtain rfl := some_inj hm
 refine post_ret (vs := [.bool false]) results18 (rvs_cons (rv_tmp z) rvs_nil) ?_
 exact ⟨z, hst.keep0⟩
}
 {
 replace hm := bif_f hc582 hm
 refine wp_iff (cvb hc582) ?_
 refine wp_skip (blk_n (tn (wrl ?_)))
 refine wv (.int .i64 z557) z z z (wv (.int .i64 (i64.wrap (z557 + (1:Int)))) z z z (wv (.int .i64 (i64.wrap (z557 + (1:Int)))) z z z (wl_nil (tn ?_))))
 replace hst := hst.pull1.pull1.keep2
 obtain rfl := some_inj hm
 exact ⟨_, Nat.lt_succ_self _, (i64.wrap (z557 + (1:Int))), _, hx564, (fu 2 (Pt b356 0) z (fu 3 (Pt b361 0) z (fu 7 (.int .i64 (i64.wrap (z557 + (1:Int)))) z z))), hst⟩
}
}
 {
 replace hm := bif_f hc566 hm
 refine wp_iff (cvb hc566) ?_
 refine wp_exit (then_x (then_x ?_))
 replace hm := inr_up hm hx564
 refine blk_x (tn (wp_seq (wrl ?_)))
 refine wv (.bool true) z z z (wl_nil (tn (wp_ret ?_)))
 obtain rfl := some_inj hm
 refine post_ret (vs := [.bool true]) results18 (rvs_cons (rv_tmp z) rvs_nil) ?_
 exact ⟨z, hst.keep0⟩
}
}
}
}
}
}
}
}
}
}

theorem ref11_has_ref {w0 w : World} {I : HL} {R : SP} {a0 : (List Nat)} {r0_0 : Value} {a1 : Nat} (f0_0 : Rd tyF64 R I r0_0 a0) (hst : St w0 w I [] R) {r : (Bool)} (hm : ref11_has a0 a1 = some r) :
  Calls prog 42 #[r0_0, F6 a1] w fun e w' => e = .returned (.bool r) ∧ St w0 w' I [] R := by {
 unfold ref11_has at hm
 refine calls_start (args := [r0_0, F6 a1]) func42 z ntmps42 (Nat.le_of_ble_eq_true z) ?_
 refine wp_seq (wrl (wv (.bool false) z z z (wl_nil (tn (wp_seq (wp_seq (wrl (wv (.int .i64 (0:Int)) z z z (wl_nil (tn (wp_block ?_)))))))))))
 obtain ⟨n267, hm⟩ := loopO_some hm
 refine wp_loop_n (fun n a w => ∃ (z265 : Int) (σ266 : Nat → Value), loopN (ref11_has_l0 a0 a1) n z265 = some r ∧ a = Fr 18 (upd (upd (upd σ266 0 (r0_0)) 1 (.float .f64 a1)) 5 (.int .i64 z265)) ∧ St w0 w I [] R) n267 ⟨(0:Int), _, hm, (fu 0 r0_0 z (fu 1 (.float .f64 a1) z (fu 5 (.int .i64 (0:Int)) z z))), hst⟩ ?_
 rintro n273 _ w268 ⟨z265, σ266, hm, rfl, hst⟩
 obtain ⟨n270, y271, rfl, hm, hx272⟩ := loopN_some hm
 dsimp only [ref11_has_l0] at hm
 refine wp_seq (wp_seq (wrl (wv (.int .i64 z265) z z z (wv (r0_0) z z z (wv (.int .i64 ((a0).length : Int)) z z (x_len z underlying30 (rd_sliceV f0_0)) (wv (.bool (decide (z265 < ((a0).length : Int)))) z z z (wl_nil (tn ?_))))))))
 refine bsplit (decide (z265 < ((a0).length : Int))) (fun hc274 => ?_) (fun hc274 => ?_)
 {
 replace hm := bif_t hc274 hm
 refine wp_ift (cvb hc274) ?_
 refine wp_skip (tn (wp_seq (wp_block (wp_seq (wrl ?_)))))
 refine wv (r0_0) z z z (wv (.int .i64 z265) z z z ?_)
 obtain ⟨x275, hx276, hm⟩ := bind_some hm
 obtain ⟨h277, h278, hi279⟩ := geto_some hx276
 refine wv (.pointer (some (eAddr r0_0 (z265.toNat * 1 + 0)))) z z (x_index z z underlying30 sizeOf57 (rd_sliceV f0_0) h277 h278) (wv (.float .f64 x275) z z (x_load z isAgg57 (rd_load f0_0 (HL.le.refl _) hst hi279 (by rintro _ rfl; rfl))) (wv (.float .f64 a1) z z z ?_))
 obtain ⟨t280, ht281, hm⟩ := bind_some hm
 refine wc call51 [F6 x275, F6 a1] z z z ?_
 refine (ref01_Same_ref hst.to0 ht281).mono ?_
 rintro _ w282 ⟨rfl, hst⟩
 refine ⟨_, z, ?_⟩
 replace hst := hst.of0
 refine wl_nil (tn ?_)
 refine bsplit t280 (fun hc285 => ?_) (fun hc285 => ?_)
 {
 replace hm := bif_t hc285 hm
 refine wp_ift (cvb hc285) ?_
 refine wp_seq (wrl (wv (.bool true) z z z (wl_nil (tn (wp_ret (blk_r (then_r (then_r ?_))))))))
 replace hm := inr_up hm hx272
 refine blk_r (then_r ?_)
 obtain rfl := some_inj hm
 refine post_ret (vs := [.bool true]) results42 (rvs_cons (rv_tmp z) rvs_nil) ?_
 exact ⟨z, hst.keep0⟩
}
 {
 replace hm := bif_f hc285 hm
 refine wp_iff (cvb hc285) ?_
 refine wp_skip (blk_n (tn (wrl ?_)))
 refine wv (.int .i64 z265) z z z (wv (.int .i64 (i64.wrap (z265 + (1:Int)))) z z z (wv (.int .i64 (i64.wrap (z265 + (1:Int)))) z z z (wl_nil (tn ?_))))
 replace hst := hst.keep0
 obtain rfl := some_inj hm
 exact ⟨_, Nat.lt_succ_self _, (i64.wrap (z265 + (1:Int))), _, hx272, (fu 0 r0_0 z (fu 1 (.float .f64 a1) z (fu 5 (.int .i64 (i64.wrap (z265 + (1:Int)))) z z))), hst⟩
}
}
 {
 replace hm := bif_f hc274 hm
 refine wp_iff (cvb hc274) ?_
 refine wp_exit (then_x (then_x ?_))
 replace hm := inr_up hm hx272
 refine blk_x (tn (wp_seq (wrl ?_)))
 refine wv (.bool false) z z z (wl_nil (tn (wp_ret ?_)))
 obtain rfl := some_inj hm
 refine post_ret (vs := [.bool false]) results42 (rvs_cons (rv_tmp z) rvs_nil) ?_
 exact ⟨z, hst.keep0⟩
}
}

theorem ref01_Within_ref {w0 w : World} {I : HL} {R : SP} {a0 : Nat} {a1 : Nat} {a2 : Nat}  (hst : St w0 w I [] R) {r : (Bool)} (hm : ref01_Within a0 a1 a2 = some r) :
  Calls prog 74 #[F6 a0, F6 a1, F6 a2] w fun e w' => e = .returned (.bool r) ∧ St w0 w' I [] R := by {
 unfold ref01_Within at hm
 refine calls_start (args := [F6 a0, F6 a1, F6 a2]) func74 z ntmps74 (Nat.le_of_ble_eq_true z) ?_
 refine wp_seq (wrl (wv (.bool false) z z z (wl_nil (tn (wp_seq (wrl (wv (.float .f64 a0) z z z (wv (.float .f64 a1) z z z ?_))))))))
 obtain ⟨t213, ht214, hm⟩ := bind_some hm
 refine wc call76 [F6 a0, F6 a1] z z z ?_
 refine (ref01_Ahead_ref hst.to0 ht214).mono ?_
 rintro _ w215 ⟨rfl, hst⟩
 refine ⟨_, z, ?_⟩
 replace hst := hst.of0
 refine wv (.bool (!t213)) z z z (wv (.bool (!t213)) z z z ?_)
 refine bsplit (!t213) (fun hc218 => ?_) (fun hc218 => ?_)
 {
 replace hm := bif_t hc218 hm
 refine wv (.float .f64 a2) ((wanted_eq z z z (cvb hc218)).trans z) z z (wv (.float .f64 a0) ((wanted_eq z z z (cvb hc218)).trans z) z z ?_)
 obtain ⟨t219, ht220, hm⟩ := bind_some hm
 refine wl_call ((wanted_eq z z z (cvb hc218)).trans z) z (x_call call76 z (vs := [F6 a2, F6 a0]) z) ?_
 refine (ref01_Ahead_ref hst.to0 ht220).mono ?_
 rintro _ w221 ⟨rfl, hst⟩
 refine ⟨_, z, ?_⟩
 replace hst := hst.of0
 refine wv (.bool (!t219)) ((wanted_eq z z z (cvb hc218)).trans z) z z (wv (.bool (!t219)) z z (x_pick_t hc218 z z) (wv (.bool (!t219)) z z z (wl_nil (tn (wp_ret ?_)))))
 obtain rfl := some_inj hm
 refine post_ret (vs := [.bool (!t219)]) results74 (rvs_cons (rv_tmp z) rvs_nil) ?_
 exact ⟨z, hst.keep0⟩
}
 {
 replace hm := bif_f hc218 hm
 refine wo hc218 z z z z z z (wo hc218 z z z z z z (wo hc218 z z z z z z (wo hc218 z z z z z z (wv (.bool false) z z (x_pick_f hc218 z z) (wv (.bool false) z z z (wl_nil (tn (wp_ret ?_))))))))
 obtain rfl := some_inj hm
 refine post_ret (vs := [.bool false]) results74 (rvs_cons (rv_tmp z) rvs_nil) ?_
 exact ⟨z, hst.keep0⟩
}
}

theorem ref11_reads_ref {w0 w : World} {I : HL} {R : SP} {a0 : api_Hold} {r0_0 : Value} {r0_1 : Value} {r0_2 : Value} {r0_3 : Value} {a1 : Nat} (f0_0 : Rd tyF64 R I r0_0 a0.Gets) (f0_1 : Rd tyF2 R I r0_1 a0.Scans) (f0_2 : Rd tyF64 R I r0_2 a0.Puts) (f0_3 : Rd (tyInt .u8) R I r0_3 a0.Data) (hst : St w0 w I [] R) {r : (Bool)} (hm : ref11_reads a0 a1 = some r) :
  Calls prog 43 #[.agg #[U6 a0.ID.Session, U6 a0.ID.Seq, U6 a0.Epoch, r0_0, r0_1, r0_2, r0_3], F6 a1] w fun e w' => e = .returned (.bool r) ∧ St w0 w' I [] R := by {
 unfold ref11_reads at hm
 refine calls_start (args := [.agg #[U6 a0.ID.Session, U6 a0.ID.Seq, U6 a0.Epoch, r0_0, r0_1, r0_2, r0_3], F6 a1]) func43 z ntmps43 (Nat.le_of_ble_eq_true z) ?_
 refine wp_seq (wrl ?_)
 obtain ⟨b261, w262, ew263, eb264, hst⟩ := hst.box [U6 a0.ID.Session, U6 a0.ID.Seq, U6 a0.Epoch, r0_0, r0_1, r0_2, r0_3] 34
 refine wl_run (v := Pt b261 0) (w' := w262) z z (x_al (by kernel_rfl) ew263 eb264) ?_
 refine wv (.bool false) z z z (wl_nil (tn ?_))
 obtain ⟨y314, hm, hx315⟩ := joinO_some hm
 refine wp_cut (fun a w => ∃ (σ312 : Nat → Value), (ref11_reads_j0 a0 a1) () = some r ∧ a = Fr 31 (upd (upd σ312 1 (.float .f64 a1)) 2 (Pt b261 0)) ∧ St w0 w I [cells b261 [U6 a0.ID.Session, U6 a0.ID.Seq, U6 a0.Epoch, r0_0, r0_1, r0_2, r0_3]] R) ?_ ?_
 {
 refine wp_seq (wrl (wv (.int .i64 (0:Int)) z z z (wl_nil (tn (wp_block ?_)))))
 obtain ⟨n293, hm⟩ := loopO_some hm
 refine wp_loop_n (fun n a w => ∃ (z291 : Int) (σ292 : Nat → Value), loopN (ref11_reads_l1 a0 a1) n z291 = some y314 ∧ a = Fr 31 (upd (upd (upd σ292 1 (.float .f64 a1)) 2 (Pt b261 0)) 5 (.int .i64 z291)) ∧ St w0 w I [cells b261 [U6 a0.ID.Session, U6 a0.ID.Seq, U6 a0.Epoch, r0_0, r0_1, r0_2, r0_3]] R) n293 ⟨(0:Int), _, hm, (fu 1 (.float .f64 a1) z (fu 2 (Pt b261 0) z (fu 5 (.int .i64 (0:Int)) z z))), hst⟩ ?_
 rintro n299 _ w294 ⟨z291, σ292, hm, rfl, hst⟩
 obtain ⟨n296, y297, rfl, hm, hx298⟩ := loopN_some hm
 dsimp only [ref11_reads_l1] at hm
 refine wp_seq (wp_seq (wrl (wv (.int .i64 z291) z z z (wv (Pt b261 4) z z (x_field z underlying34 z sizeOf31 z) (wv (r0_1) z z (x_load z isAgg31 (hst.bc0 z)) (wv (.int .i64 ((a0.Scans).length : Int)) z z (x_len z underlying31 (rd_sliceV f0_1)) (wv (.bool (decide (z291 < ((a0.Scans).length : Int)))) z z z (wl_nil (tn ?_)))))))))
 refine bsplit (decide (z291 < ((a0.Scans).length : Int))) (fun hc300 => ?_) (fun hc300 => ?_)
 {
 replace hm := bif_t hc300 hm
 refine wp_ift (cvb hc300) ?_
 refine wp_skip (tn (wp_seq (wp_block (wp_seq ?_))))
 refine wp_region_St hst 14 [0, 1, 2, 3, 4, 5, 6, 7, 8, 9, 10, 11, 12, 13] [0, 0, 2, 0, 14, 30, 62, 0, 128, 0, 896, 1920, 3968, 8191] [] z (by kernel_rfl) (by kernel_rfl) Try.mixed (by kernel_rfl) ?_
 refine wsr (.float .f64 a1) 0 z z z (by kernel_rfl) (fun w hst => z) (wsr (Pt b261 4) 1 z z z (by kernel_rfl) (fun w hst => x_field z underlying34 z sizeOf31 z) (wsr (r0_1) 2 z z z (by kernel_rfl) (fun w hst => x_load z isAgg31 (hst.bc0 z)) (wsr (.int .i64 z291) 3 z z z (by kernel_rfl) (fun w hst => z) ?_)))
 obtain ⟨x301, hx302, hm⟩ := bind_some hm
 obtain ⟨h303, h304, hi305⟩ := geto_some hx302
 refine wsr (.pointer (some (eAddr r0_1 (z291.toNat * 2 + 0)))) 4 z z z (by kernel_rfl) (fun w hst => x_index z z underlying31 sizeOf75 (rd_sliceV f0_1) h303 h304) (wsr (.pointer (some (eAddr r0_1 (z291.toNat * 2 + 0)))) 5 z z z (by kernel_rfl) (fun w hst => x_index_arr_e (i := (0:Int)) z z underlying75 sizeOf57 (by decide) (by decide) z) (wsr (.float .f64 x301.1) 6 z z z (by kernel_rfl) (fun w hst => x_load z isAgg57 (rd_load f0_1 (HL.le.refl _) hst hi305 (by rintro _ rfl; rfl))) (wsr (Pt b261 4) 7 z z z (by kernel_rfl) (fun w hst => x_field z underlying34 z sizeOf31 z) (wsr (r0_1) 8 z z z (by kernel_rfl) (fun w hst => x_load z isAgg31 (hst.bc0 z)) (wsr (.int .i64 z291) 9 z z z (by kernel_rfl) (fun w hst => z) (wsr (.pointer (some (eAddr r0_1 (z291.toNat * 2 + 0)))) 10 z z z (by kernel_rfl) (fun w hst => x_index z z underlying31 sizeOf75 (rd_sliceV f0_1) h303 h304) (wsr (.pointer (some (eAddr r0_1 (z291.toNat * 2 + 1)))) 11 z z z (by kernel_rfl) (fun w hst => x_index_arr_e (i := (1:Int)) z z underlying75 sizeOf57 (by decide) (by decide) z) (wsr (.float .f64 x301.2) 12 z z z (by kernel_rfl) (fun w hst => x_load z isAgg57 (rd_load f0_1 (HL.le.refl _) hst hi305 (by rintro _ rfl; rfl))) ?_))))))))
 refine ws_e1 13 (by kernel_rfl) ?_
 refine nxe [] (by kernel_rfl) z z ?_
 clear hst
 intro w hst
 obtain ⟨t306, ht307, hm⟩ := bind_some hm
 refine wec call74 [F6 a1, F6 x301.1, F6 x301.2] z z ?_
 refine (ref01_Within_ref hst.to0 ht307).mono ?_
 rintro _ w308 ⟨rfl, hst⟩
 refine ⟨_, z, ?_⟩
 replace hst := hst.of0
 refine ws_next (pend' := []) hst (by kernel_rfl) pk_nil ?_
 refine ws_nil ?_
 intro w hst
 refine tn ?_
 refine bsplit t306 (fun hc311 => ?_) (fun hc311 => ?_)
 {
 replace hm := bif_t hc311 hm
 refine wp_ift (cvb hc311) ?_
 refine wp_seq (wrl (wv (.bool true) z z z (wl_nil (tn (wp_ret (blk_r (then_r (then_r ?_))))))))
 replace hm := inr_up hm hx298
 refine blk_r (then_r ?_)
 replace hm := inr_up hm hx315
 obtain rfl := some_inj hm
 refine post_ret (vs := [.bool true]) results43 (rvs_cons (rv_tmp z) rvs_nil) ?_
 exact ⟨z, hst.keep0⟩
}
 {
 replace hm := bif_f hc311 hm
 refine wp_iff (cvb hc311) ?_
 refine wp_skip (blk_n (tn (wrl ?_)))
 refine wv (.int .i64 z291) z z z (wv (.int .i64 (i64.wrap (z291 + (1:Int)))) z z z (wv (.int .i64 (i64.wrap (z291 + (1:Int)))) z z z (wl_nil (tn ?_))))
 replace hst := hst.keep1
 obtain rfl := some_inj hm
 exact ⟨_, Nat.lt_succ_self _, (i64.wrap (z291 + (1:Int))), _, hx298, (fu 1 (.float .f64 a1) z (fu 2 (Pt b261 0) z (fu 5 (.int .i64 (i64.wrap (z291 + (1:Int)))) z z))), hst⟩
}
}
 {
 replace hm := bif_f hc300 hm
 refine wp_iff (cvb hc300) ?_
 refine wp_exit (then_x (then_x ?_))
 replace hm := inr_up hm hx298
 refine blk_x (tn ?_)
 replace hst := hst.keep1
 obtain rfl := some_inj hm
 exact ⟨_, hx315, (fu 1 (.float .f64 a1) z (fu 2 (Pt b261 0) z z)), hst⟩
}
}
 {
 clear hst
 rintro _ w316 ⟨σ312, hm, rfl, hst⟩
 dsimp only [ref11_reads_j0] at hm
 refine wp_seq (wrl (wv (Pt b261 3) z z (x_field z underlying34 z sizeOf30 z) (wv (r0_0) z z (x_load z isAgg30 (hst.bc0 z)) (wv (.float .f64 a1) z z z ?_))))
 obtain ⟨t317, ht318, hm⟩ := bind_some hm
 refine wc call42 [r0_0, F6 a1] z z z ?_
 refine (ref11_has_ref (f0_0.mono (rd_weak _)) hst.to0 ht318).mono ?_
 rintro _ w319 ⟨rfl, hst⟩
 refine ⟨_, z, ?_⟩
 replace hst := hst.of0
 refine wv (.bool t317) z z z (wl_nil (tn (wp_ret ?_)))
 obtain rfl := some_inj hm
 refine post_ret (vs := [.bool t317]) results43 (rvs_cons (rv_tmp z) rvs_nil) ?_
 exact ⟨z, hst.keep0⟩
}
}

theorem ref11_Meet_ref {w0 w : World} {I : HL} {R : SP} {a0 : api_Hold} {r0_0 : Value} {r0_1 : Value} {r0_2 : Value} {r0_3 : Value} {a1 : api_Hold} {r1_0 : Value} {r1_1 : Value} {r1_2 : Value} {r1_3 : Value} (f0_0 : Rd tyF64 R I r0_0 a0.Gets) (f0_1 : Rd tyF2 R I r0_1 a0.Scans) (f0_2 : Rd tyF64 R I r0_2 a0.Puts) (f0_3 : Rd (tyInt .u8) R I r0_3 a0.Data) (f1_0 : Rd tyF64 R I r1_0 a1.Gets) (f1_1 : Rd tyF2 R I r1_1 a1.Scans) (f1_2 : Rd tyF64 R I r1_2 a1.Puts) (f1_3 : Rd (tyInt .u8) R I r1_3 a1.Data) (hst : St w0 w I [] R) {r : (Bool)} (hm : ref11_Meet a0 a1 = some r) :
  Calls prog 15 #[.agg #[U6 a0.ID.Session, U6 a0.ID.Seq, U6 a0.Epoch, r0_0, r0_1, r0_2, r0_3], .agg #[U6 a1.ID.Session, U6 a1.ID.Seq, U6 a1.Epoch, r1_0, r1_1, r1_2, r1_3]] w fun e w' => e = .returned (.bool r) ∧ St w0 w' I [] R := by {
 unfold ref11_Meet at hm
 refine calls_start (args := [.agg #[U6 a0.ID.Session, U6 a0.ID.Seq, U6 a0.Epoch, r0_0, r0_1, r0_2, r0_3], .agg #[U6 a1.ID.Session, U6 a1.ID.Seq, U6 a1.Epoch, r1_0, r1_1, r1_2, r1_3]]) func15 z ntmps15 (Nat.le_of_ble_eq_true z) ?_
 refine wp_seq (wrl ?_)
 obtain ⟨b314, w315, ew316, eb317, hst⟩ := hst.box [U6 a0.ID.Session, U6 a0.ID.Seq, U6 a0.Epoch, r0_0, r0_1, r0_2, r0_3] 34
 refine wl_run (v := Pt b314 0) (w' := w315) z z (x_al (by kernel_rfl) ew316 eb317) ?_
 obtain ⟨b319, w320, ew321, eb322, hst⟩ := hst.box [U6 a1.ID.Session, U6 a1.ID.Seq, U6 a1.Epoch, r1_0, r1_1, r1_2, r1_3] 34
 refine wl_run (v := Pt b319 0) (w' := w320) z z (x_al (by kernel_rfl) ew321 eb322) ?_
 refine wv (.bool false) z z z (wl_nil (tn ?_))
 obtain ⟨y390, hm, hx391⟩ := joinO_some hm
 refine wp_cut (fun a w => ∃ (σ388 : Nat → Value), (ref11_Meet_j0 a1 a0) () = some r ∧ a = Fr 45 (upd (upd σ388 2 (Pt b314 0)) 3 (Pt b319 0)) ∧ St w0 w I [cells b314 [U6 a0.ID.Session, U6 a0.ID.Seq, U6 a0.Epoch, r0_0, r0_1, r0_2, r0_3], cells b319 [U6 a1.ID.Session, U6 a1.ID.Seq, U6 a1.Epoch, r1_0, r1_1, r1_2, r1_3]] R) ?_ ?_
 {
 refine wp_seq (wrl (wv (.int .i64 (0:Int)) z z z (wl_nil (tn (wp_block ?_)))))
 obtain ⟨n363, hm⟩ := loopO_some hm
 refine wp_loop_n (fun n a w => ∃ (z361 : Int) (σ362 : Nat → Value), loopN (ref11_Meet_l1 a0 a1) n z361 = some y390 ∧ a = Fr 45 (upd (upd (upd σ362 2 (Pt b314 0)) 3 (Pt b319 0)) 5 (.int .i64 z361)) ∧ St w0 w I [cells b319 [U6 a1.ID.Session, U6 a1.ID.Seq, U6 a1.Epoch, r1_0, r1_1, r1_2, r1_3], cells b314 [U6 a0.ID.Session, U6 a0.ID.Seq, U6 a0.Epoch, r0_0, r0_1, r0_2, r0_3]] R) n363 ⟨(0:Int), _, hm, (fu 2 (Pt b314 0) z (fu 3 (Pt b319 0) z (fu 5 (.int .i64 (0:Int)) z z))), hst⟩ ?_
 rintro n369 _ w364 ⟨z361, σ362, hm, rfl, hst⟩
 obtain ⟨n366, y367, rfl, hm, hx368⟩ := loopN_some hm
 dsimp only [ref11_Meet_l1] at hm
 refine wp_seq (wp_seq (wrl (wv (.int .i64 z361) z z z (wv (Pt b314 5) z z (x_field z underlying34 z sizeOf30 z) (wv (r0_2) z z (x_load z isAgg30 (hst.bc1 z)) (wv (.int .i64 ((a0.Puts).length : Int)) z z (x_len z underlying30 (rd_sliceV f0_2)) (wv (.bool (decide (z361 < ((a0.Puts).length : Int)))) z z z (wl_nil (tn ?_)))))))))
 refine bsplit (decide (z361 < ((a0.Puts).length : Int))) (fun hc370 => ?_) (fun hc370 => ?_)
 {
 replace hm := bif_t hc370 hm
 refine wp_ift (cvb hc370) ?_
 refine wp_skip (tn (wp_seq (wp_block (wp_seq ?_))))
 refine wp_region_St hst 17 [0, 1, 2, 3, 4, 5, 6, 7, 8, 9, 10, 11, 12, 13, 14, 15, 16] [0, 1, 0, 4, 0, 28, 60, 127, 255, 511, 511, 1535, 511, 7679, 15871, 32767, 65535] [] z (by kernel_rfl) (by kernel_rfl) Try.mixed (by kernel_rfl) ?_
 refine wsr (Pt b319 5) 0 z z z (by kernel_rfl) (fun w hst => x_field z underlying34 z sizeOf30 z) (wsr (r1_2) 1 z z z (by kernel_rfl) (fun w hst => x_load z isAgg30 (hst.bc0 z)) (wsr (Pt b314 5) 2 z z z (by kernel_rfl) (fun w hst => x_field z underlying34 z sizeOf30 z) (wsr (r0_2) 3 z z z (by kernel_rfl) (fun w hst => x_load z isAgg30 (hst.bc1 z)) (wsr (.int .i64 z361) 4 z z z (by kernel_rfl) (fun w hst => z) ?_))))
 obtain ⟨x371, hx372, hm⟩ := bind_some hm
 obtain ⟨h373, h374, hi375⟩ := geto_some hx372
 refine wsr (.pointer (some (eAddr r0_2 (z361.toNat * 1 + 0)))) 5 z z z (by kernel_rfl) (fun w hst => x_index z z underlying30 sizeOf57 (rd_sliceV f0_2) h373 h374) (wsr (.float .f64 x371) 6 z z z (by kernel_rfl) (fun w hst => x_load z isAgg57 (rd_load f0_2 (HL.le.refl _) hst hi375 (by rintro _ rfl; rfl))) ?_)
 refine ws_e1 7 (by kernel_rfl) ?_
 refine nxe [8, 9, 10, 11, 12, 13, 14, 15, 16] (by kernel_rfl) z z ?_
 clear hst
 intro w hst
 obtain ⟨t376, ht377, hm⟩ := bind_some hm
 refine wec call42 [r1_2, F6 x371] z z ?_
 refine (ref11_has_ref (f1_2.mono (rd_weak _)) hst.to0 ht377).mono ?_
 rintro _ w378 ⟨rfl, hst⟩
 refine ⟨_, z, ?_⟩
 replace hst := hst.of0
 refine ws_next (pend' := []) hst (by kernel_rfl) pk_nil ?_
 refine wsr (.bool t376) 8 z z z (by kernel_rfl) (fun w hst => z) ?_
 refine bsplit t376 (fun hc381 => ?_) (fun hc381 => ?_)
 {
 replace hm := bif_t hc381 hm
 refine ws_q (v := undef) 9 [10, 11, 12, 13, 14, 15, 16] (by kernel_rfl) z z (yi_off ((wanted_eq z z z (cvb hc381)).trans z)) (ws_q (v := undef) 10 [11, 12, 13, 14, 15, 16] (by kernel_rfl) z z (yi_off ((wanted_eq z z z (cvb hc381)).trans z)) (ws_q (v := undef) 11 [12, 13, 14, 15, 16] (by kernel_rfl) z z (yi_off ((wanted_eq z z z (cvb hc381)).trans z)) (ws_q (v := undef) 12 [13, 14, 15, 16] (by kernel_rfl) z z (yi_off ((wanted_eq z z z (cvb hc381)).trans z)) (ws_q (v := undef) 13 [14, 15, 16] (by kernel_rfl) z z (yi_off ((wanted_eq z z z (cvb hc381)).trans z)) (ws_q (v := undef) 14 [15, 16] (by kernel_rfl) z z (yi_off ((wanted_eq z z z (cvb hc381)).trans z)) (ws_q (v := undef) 15 [16] (by kernel_rfl) z z (yi_off ((wanted_eq z z z (cvb hc381)).trans z)) (wsr (.bool true) 16 z z z (by kernel_rfl) (fun w hst => x_pick_t hc381 z z) ?_)))))))
 refine ws_nil ?_
 intro w hst
 refine tn ?_
 refine wp_ift z ?_
 refine wp_seq (wrl (wv (.bool true) z z z (wl_nil (tn (wp_ret (blk_r (then_r (then_r ?_))))))))
 replace hm := inr_up hm hx368
 refine blk_r (then_r ?_)
 replace hm := inr_up hm hx391
 obtain rfl := some_inj hm
 refine post_ret (vs := [.bool true]) results15 (rvs_cons (rv_tmp z) rvs_nil) ?_
 exact ⟨z, hst.keep0⟩
}
 {
 replace hm := bif_f hc381 hm
 refine ws_q (v := .agg #[U6 a1.ID.Session, U6 a1.ID.Seq, U6 a1.Epoch, r1_0, r1_1, r1_2, r1_3]) 9 [10, 11, 12, 13, 14, 15, 16] (by kernel_rfl) z z (yi_run ((wanted_eq z z z (cvb hc381)).trans z) (fun w hst => x_loadN (cs := [U6 a1.ID.Session, U6 a1.ID.Seq, U6 a1.Epoch, r1_0, r1_1, r1_2, r1_3]) z isAgg34 sizeOf34 (hst.bcs0 0 z))) (ws_q (v := Pt b314 5) 10 [11, 12, 13, 14, 15, 16] (by kernel_rfl) z z (yi_run ((wanted_eq z z z (cvb hc381)).trans z) (fun w hst => x_field z underlying34 z sizeOf30 z)) (ws_q (v := r0_2) 11 [12, 13, 14, 15, 16] (by kernel_rfl) z z (yi_run ((wanted_eq z z z (cvb hc381)).trans z) (fun w hst => x_load z isAgg30 (hst.bc1 z))) (ws_q (v := .int .i64 z361) 12 [13, 14, 15, 16] (by kernel_rfl) z z (yi_run ((wanted_eq z z z (cvb hc381)).trans z) (fun w hst => z)) (ws_q (v := .pointer (some (eAddr r0_2 (z361.toNat * 1 + 0)))) 13 [14, 15, 16] (by kernel_rfl) z z (yi_run ((wanted_eq z z z (cvb hc381)).trans z) (fun w hst => x_index z z underlying30 sizeOf57 (rd_sliceV f0_2) h373 h374)) (ws_q (v := .float .f64 x371) 14 [15, 16] (by kernel_rfl) z z (yi_run ((wanted_eq z z z (cvb hc381)).trans z) (fun w hst => x_load z isAgg57 (rd_load f0_2 (HL.le.refl _) hst hi375 (by rintro _ rfl; rfl)))) ?_)))))
 refine ws_e1 15 (by kernel_rfl) ?_
 refine nxe [16] (by kernel_rfl) z ((wanted_eq z z z (cvb hc381)).trans z) ?_
 clear hst
 intro w hst
 obtain ⟨t382, ht383, hm⟩ := bind_some hm
 refine wec call43 [.agg #[U6 a1.ID.Session, U6 a1.ID.Seq, U6 a1.Epoch, r1_0, r1_1, r1_2, r1_3], F6 x371] z z ?_
 refine (ref11_reads_ref (f1_0.mono (rd_weak _)) (f1_1.mono (rd_weak _)) (f1_2.mono (rd_weak _)) (f1_3.mono (rd_weak _)) hst.to0 ht383).mono ?_
 rintro _ w384 ⟨rfl, hst⟩
 refine ⟨_, z, ?_⟩
 replace hst := hst.of0
 refine ws_next (pend' := []) hst (by kernel_rfl) pk_nil ?_
 refine wsr (.bool t382) 16 z z z (by kernel_rfl) (fun w hst => x_pick_f hc381 z z) ?_
 refine ws_nil ?_
 intro w hst
 refine tn ?_
 refine bsplit t382 (fun hc387 => ?_) (fun hc387 => ?_)
 {
 replace hm := bif_t hc387 hm
 refine wp_ift (cvb hc387) ?_
 refine wp_seq (wrl (wv (.bool true) z z z (wl_nil (tn (wp_ret (blk_r (then_r (then_r ?_))))))))
 replace hm := inr_up hm hx368
 refine blk_r (then_r ?_)
 replace hm := inr_up hm hx391
 obtain rfl := some_inj hm
 refine post_ret (vs := [.bool true]) results15 (rvs_cons (rv_tmp z) rvs_nil) ?_
 exact ⟨z, hst.keep0⟩
}
 {
 replace hm := bif_f hc387 hm
 refine wp_iff (cvb hc387) ?_
 refine wp_skip (blk_n (tn (wrl ?_)))
 refine wv (.int .i64 z361) z z z (wv (.int .i64 (i64.wrap (z361 + (1:Int)))) z z z (wv (.int .i64 (i64.wrap (z361 + (1:Int)))) z z z (wl_nil (tn ?_))))
 replace hst := hst.pull1.pull1.keep2
 obtain rfl := some_inj hm
 exact ⟨_, Nat.lt_succ_self _, (i64.wrap (z361 + (1:Int))), _, hx368, (fu 2 (Pt b314 0) z (fu 3 (Pt b319 0) z (fu 5 (.int .i64 (i64.wrap (z361 + (1:Int)))) z z))), hst⟩
}
}
}
 {
 replace hm := bif_f hc370 hm
 refine wp_iff (cvb hc370) ?_
 refine wp_exit (then_x (then_x ?_))
 replace hm := inr_up hm hx368
 refine blk_x (tn ?_)
 replace hst := hst.pull1.keep2
 obtain rfl := some_inj hm
 exact ⟨_, hx391, (fu 2 (Pt b314 0) z (fu 3 (Pt b319 0) z z)), hst⟩
}
}
 {
 clear hst
 rintro _ w392 ⟨σ388, hm, rfl, hst⟩
 dsimp only [ref11_Meet_j0] at hm
 refine wp_seq (wp_seq (wrl (wv (.int .i64 (0:Int)) z z z (wl_nil (tn (wp_block ?_))))))
 obtain ⟨n420, hm⟩ := loopO_some hm
 refine wp_loop_n (fun n a w => ∃ (z418 : Int) (σ419 : Nat → Value), loopN (ref11_Meet_l2 a1 a0) n z418 = some r ∧ a = Fr 45 (upd (upd (upd σ419 2 (Pt b314 0)) 3 (Pt b319 0)) 6 (.int .i64 z418)) ∧ St w0 w I [cells b314 [U6 a0.ID.Session, U6 a0.ID.Seq, U6 a0.Epoch, r0_0, r0_1, r0_2, r0_3], cells b319 [U6 a1.ID.Session, U6 a1.ID.Seq, U6 a1.Epoch, r1_0, r1_1, r1_2, r1_3]] R) n420 ⟨(0:Int), _, hm, (fu 2 (Pt b314 0) z (fu 3 (Pt b319 0) z (fu 6 (.int .i64 (0:Int)) z z))), hst⟩ ?_
 rintro n426 _ w421 ⟨z418, σ419, hm, rfl, hst⟩
 obtain ⟨n423, y424, rfl, hm, hx425⟩ := loopN_some hm
 dsimp only [ref11_Meet_l2] at hm
 refine wp_seq (wp_seq (wrl (wv (.int .i64 z418) z z z (wv (Pt b319 5) z z (x_field z underlying34 z sizeOf30 z) (wv (r1_2) z z (x_load z isAgg30 (hst.bc1 z)) (wv (.int .i64 ((a1.Puts).length : Int)) z z (x_len z underlying30 (rd_sliceV f1_2)) (wv (.bool (decide (z418 < ((a1.Puts).length : Int)))) z z z (wl_nil (tn ?_)))))))))
 refine bsplit (decide (z418 < ((a1.Puts).length : Int))) (fun hc427 => ?_) (fun hc427 => ?_)
 {
 replace hm := bif_t hc427 hm
 refine wp_ift (cvb hc427) ?_
 refine wp_skip (tn (wp_seq (wp_block (wp_seq ?_))))
 refine wp_region_St hst 7 [0, 1, 2, 3, 4, 5, 6] [0, 0, 2, 0, 14, 30, 63] [] z (by kernel_rfl) (by kernel_rfl) Try.mixed (by kernel_rfl) ?_
 refine wsr (.agg #[U6 a0.ID.Session, U6 a0.ID.Seq, U6 a0.Epoch, r0_0, r0_1, r0_2, r0_3]) 0 z z z (by kernel_rfl) (fun w hst => x_loadN (cs := [U6 a0.ID.Session, U6 a0.ID.Seq, U6 a0.Epoch, r0_0, r0_1, r0_2, r0_3]) z isAgg34 sizeOf34 (hst.bcs0 0 z)) (wsr (Pt b319 5) 1 z z z (by kernel_rfl) (fun w hst => x_field z underlying34 z sizeOf30 z) (wsr (r1_2) 2 z z z (by kernel_rfl) (fun w hst => x_load z isAgg30 (hst.bc1 z)) (wsr (.int .i64 z418) 3 z z z (by kernel_rfl) (fun w hst => z) ?_)))
 obtain ⟨x428, hx429, hm⟩ := bind_some hm
 obtain ⟨h430, h431, hi432⟩ := geto_some hx429
 refine wsr (.pointer (some (eAddr r1_2 (z418.toNat * 1 + 0)))) 4 z z z (by kernel_rfl) (fun w hst => x_index z z underlying30 sizeOf57 (rd_sliceV f1_2) h430 h431) (wsr (.float .f64 x428) 5 z z z (by kernel_rfl) (fun w hst => x_load z isAgg57 (rd_load f1_2 (HL.le.refl _) hst hi432 (by rintro _ rfl; rfl))) ?_)
 refine ws_e1 6 (by kernel_rfl) ?_
 refine nxe [] (by kernel_rfl) z z ?_
 clear hst
 intro w hst
 obtain ⟨t433, ht434, hm⟩ := bind_some hm
 refine wec call43 [.agg #[U6 a0.ID.Session, U6 a0.ID.Seq, U6 a0.Epoch, r0_0, r0_1, r0_2, r0_3], F6 x428] z z ?_
 refine (ref11_reads_ref (f0_0.mono (rd_weak _)) (f0_1.mono (rd_weak _)) (f0_2.mono (rd_weak _)) (f0_3.mono (rd_weak _)) hst.to0 ht434).mono ?_
 rintro _ w435 ⟨rfl, hst⟩
 refine ⟨_, z, ?_⟩
 replace hst := hst.of0
 refine ws_next (pend' := []) hst (by kernel_rfl) pk_nil ?_
 refine ws_nil ?_
 intro w hst
 refine tn ?_
 refine bsplit t433 (fun hc438 => ?_) (fun hc438 => ?_)
 {
 replace hm := bif_t hc438 hm
 refine wp_ift (cvb hc438) ?_
 refine wp_seq (wrl (wv (.bool true) z z z (wl_nil (tn (wp_ret (blk_r (then_r (then_r ?_))))))))
 replace hm := inr_up hm hx425
 refine blk_r (then_r ?_)
 obtain rfl := some_inj hm
 refine post_ret (vs := [.bool true]) results15 (rvs_cons (rv_tmp z) rvs_nil) ?_
 exact ⟨z, hst.keep0⟩
}
 {
 replace hm := bif_f hc438 hm
 refine wp_iff (cvb hc438) ?_
 refine wp_skip (blk_n (tn (wrl ?_)))
 refine wv (.int .i64 z418) z z z (wv (.int .i64 (i64.wrap (z418 + (1:Int)))) z z z (wv (.int .i64 (i64.wrap (z418 + (1:Int)))) z z z (wl_nil (tn ?_))))
 replace hst := hst.pull1.pull1.keep2
 obtain rfl := some_inj hm
 exact ⟨_, Nat.lt_succ_self _, (i64.wrap (z418 + (1:Int))), _, hx425, (fu 2 (Pt b314 0) z (fu 3 (Pt b319 0) z (fu 6 (.int .i64 (i64.wrap (z418 + (1:Int)))) z z))), hst⟩
}
}
 {
 replace hm := bif_f hc427 hm
 refine wp_iff (cvb hc427) ?_
 refine wp_exit (then_x (then_x ?_))
 replace hm := inr_up hm hx425
 refine blk_x (tn (wp_seq (wrl ?_)))
 refine wv (.bool false) z z z (wl_nil (tn (wp_ret ?_)))
 obtain rfl := some_inj hm
 refine post_ret (vs := [.bool false]) results15 (rvs_cons (rv_tmp z) rvs_nil) ?_
 exact ⟨z, hst.keep0⟩
}
}
}

end Go.Proofs.Ytbdhhmnncknhhaa
