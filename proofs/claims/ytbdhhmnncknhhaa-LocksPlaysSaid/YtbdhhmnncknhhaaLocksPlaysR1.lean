/- The Go functions refine their models, part 1. -/
import Derived.Test.YtbdhhmnncknhhaaLocksPlaysR0
set_option linter.unusedVariables false
set_option linter.unusedSimpArgs false
set_option maxRecDepth 100000
set_option maxHeartbeats 4000000
namespace Go.Proofs.Ytbdhhmnncknhhaa
open Go Go.V
open _root_.Go.Proofs.Try IntKind
attribute [local irreducible] wpList Code.wp wpQuiet Calls bodyPost Oper.wp wpS Nx PendOK YieldsIn
theorem ref12_Tape_Hold_ref {w0 w : World} {I : HL} {R : SP} {a0 : ref12_Tape} {p0 : Value}  (hst : St w0 w I [at_ref12_Tape p0 a0] R) {r : (api_Hold × ref12_Tape)} (hm : ref12_Tape_Hold a0 = some r) :
  Calls prog 16 #[p0] w fun e w' => ∃ (q0_0 : Value) (q0_1 : Value) (q0_2 : Value) (q0_3 : Value), e = .returned (.agg #[U6 r.1.ID.Session, U6 r.1.ID.Seq, U6 r.1.Epoch, q0_0, q0_1, q0_2, q0_3]) ∧ St w0 w' I [ownS tyF64 q0_0 r.1.Gets, ownS tyF2 q0_1 r.1.Scans, ownS tyF64 q0_2 r.1.Puts, ownS (tyInt .u8) q0_3 r.1.Data, at_ref12_Tape p0 r.2] R := by {
 unfold ref12_Tape_Hold at hm
 refine calls_start (args := [p0]) func16 z ntmps16 (Nat.le_of_ble_eq_true z) ?_
 refine wp_seq (wrl ?_)
 obtain ⟨b487, w488, ew489, eb490, hst⟩ := hst.box [Zu, Zu, Zu, Zs, Zs, Zs, Zs] 34
 refine wl_run (v := Pt b487 0) (w' := w488) z z (x_al (by kernel_rfl) ew489 eb490) ?_
 refine wl_nil (tn (wp_seq (wrl (wv (p0) z z z ?_))))
 replace hst := hst.pull1
 obtain ⟨t492, ht493, hm⟩ := bind_some hm
 refine wc call21 [p0] z z z ?_
 refine (ref12_Tape_Of_ref hst.to1 ht493).mono ?_
 rintro _ w494 ⟨rfl, hst⟩
 refine ⟨_, z, ?_⟩
 replace hst := hst.of1
 refine wv (p0) z z z ?_
 obtain ⟨t497, ht498, hm⟩ := bind_some hm
 refine wc call20 [p0, I6 (4:Int)] z z z ?_
 refine (ref12_Tape_Next_ref hst.to1 ht498).mono ?_
 rintro _ w499 ⟨rfl, hst⟩
 refine ⟨_, z, ?_⟩
 replace hst := hst.of1
 refine wv (.int .i64 (i64.wrap ((1:Int) + t497.1))) z z z (wv (.int .u64 (u64.wrap (i64.wrap ((1:Int) + t497.1)))) z z (by kernel_rfl) (wv (.agg #[U6 t492.1.Session, U6 t492.1.Seq, U6 (u64.wrap (i64.wrap ((1:Int) + t497.1))), Zs, Zs, Zs, Zs]) z z (by kernel_rfl) ?_))
 obtain ⟨b510, w511, ew512, eb513, hst⟩ := hst.box [Zu, Zu, Zu, Zs, Zs, Zs, Zs] 34
 refine wl_run (v := Pt b510 0) (w' := w511) z z (x_al (by kernel_rfl) ew512 eb513) ?_
 obtain ⟨w515, hr516, hst⟩ := hst.bx [U6 t492.1.Session, U6 t492.1.Seq, U6 (u64.wrap (i64.wrap ((1:Int) + t497.1))), Zs, Zs, Zs, Zs] sizeOf34 z (oC z (oC z (oC z (oC z (oC z (oC z (oC z oN))))))) (by kernel_rfl)
 refine wl_unit z z (x_unit hr516) ?_
 refine wl_nil (tn (wp_seq (wrl (wv (p0) z z z ?_))))
 replace hst := hst.pull1
 obtain ⟨t517, ht518, hm⟩ := bind_some hm
 refine wc call20 [p0, I6 (3:Int)] z z z ?_
 refine (ref12_Tape_Next_ref hst.to1 ht518).mono ?_
 rintro _ w519 ⟨rfl, hst⟩
 refine ⟨_, z, ?_⟩
 replace hst := hst.of1
 refine wv (.int .i64 t517.1) z z z (wl_nil (tn ?_))
 obtain ⟨y618, hm, hx619⟩ := bind_some hm
 refine wp_cut (fun a w => ∃ (z612 : ref12_Tape) (z615 : (List Nat)) (v614 : Value) (σ616 : Nat → Value), (ref12_Tape_Hold_j0 t492 t497) (z612, z615) = some r ∧ a = Fr 68 (upd (upd (upd σ616 0 (p0)) 2 (Pt b487 0)) 3 (Pt b510 0)) ∧ St w0 w I [at_ref12_Tape p0 z612, cells b487 [Zu, Zu, Zu, Zs, Zs, Zs, Zs], cells b510 [U6 t492.1.Session, U6 t492.1.Seq, U6 (u64.wrap (i64.wrap ((1:Int) + t497.1))), v614, Zs, Zs, Zs], ownS tyF64 v614 z615] R) ?_ ?_
 {
 refine wp_seq (wrl (wv (.int .i64 (0:Int)) z z z (wl_nil (tn (wp_block ?_)))))
 replace hst := hst.own_nil tyF64
 obtain ⟨n587, hm⟩ := loopO_some hm
 refine wp_loop_n (fun n a w => ∃ (z581 : (List Nat)) (z584 : ref12_Tape) (z585 : Int) (v582 : Value) (σ586 : Nat → Value), loopN (ref12_Tape_Hold_l1 t517) n (z581, z584, z585) = some y618 ∧ a = Fr 68 (upd (upd (upd (upd (upd σ586 0 (p0)) 2 (Pt b487 0)) 3 (Pt b510 0)) 4 (.int .i64 t517.1)) 5 (.int .i64 z585)) ∧ St w0 w I [ownS tyF64 v582 z581, at_ref12_Tape p0 z584, cells b510 [U6 t492.1.Session, U6 t492.1.Seq, U6 (u64.wrap (i64.wrap ((1:Int) + t497.1))), v582, Zs, Zs, Zs], cells b487 [Zu, Zu, Zu, Zs, Zs, Zs, Zs]] R) n587 ⟨[], t517.2, (0:Int), Zs, _, hm, (fu 0 p0 z (fu 2 (Pt b487 0) z (fu 3 (Pt b510 0) z (fu 4 (.int .i64 t517.1) z (fu 5 (.int .i64 (0:Int)) z z))))), hst⟩ ?_
 rintro n593 _ w588 ⟨z581, z584, z585, v582, σ586, hm, rfl, hst⟩
 obtain ⟨n590, y591, rfl, hm, hx592⟩ := loopN_some hm
 dsimp only [ref12_Tape_Hold_l1] at hm
 refine wp_seq (wp_seq (wrl (wv (.int .i64 z585) z z z (wv (.int .i64 t517.1) z z z (wv (.bool (decide (z585 < t517.1))) z z z (wl_nil (tn ?_)))))))
 refine bsplit (decide (z585 < t517.1)) (fun hc594 => ?_) (fun hc594 => ?_)
 {
 replace hm := bif_t hc594 hm
 refine wp_ift (cvb hc594) ?_
 refine wp_skip (tn (wp_seq (wp_block ?_)))
 refine wp_region_St hst 8 [0, 1, 2, 3, 4, 5, 6, 7] [0, 1, 0, 4, 12, 31, 63, 127] [] z (by kernel_rfl) (by kernel_rfl) Try.mixed (by kernel_rfl) ?_
 refine wsr (Pt b510 3) 0 z z z (by kernel_rfl) (fun w hst => x_field z underlying34 z sizeOf30 z) (wsr (v582) 1 z z z (by kernel_rfl) (fun w hst => x_load z isAgg30 (hst.bc2 z)) (wsr (p0) 2 z z z (by kernel_rfl) (fun w hst => z) ?_))
 refine ws_e1 3 (by kernel_rfl) ?_
 refine nxe [4, 5, 6, 7] (by kernel_rfl) z z ?_
 clear hst
 intro w hst
 replace hst := hst.pull1
 obtain ⟨t595, ht596, hm⟩ := bind_some hm
 refine wec call44 [p0] z z ?_
 refine (ref12_Tape_Float_ref hst.to1 ht596).mono ?_
 rintro _ w597 ⟨rfl, hst⟩
 refine ⟨_, z, ?_⟩
 replace hst := hst.of1
 refine ws_next (pend' := [(1, v582), (0, Pt b510 3)]) hst (by kernel_rfl) (pkr z z (fun w hst => x_load z isAgg30 (hst.bc2 z)) (pkr z z (fun w hst => x_field z underlying34 z sizeOf30 z) pk_nil)) ?_
 refine ws_e1 4 (by kernel_rfl) ?_
 refine nxe [5, 6, 7] (by kernel_rfl) z z ?_
 clear hst
 intro w hst
 obtain ⟨b600, w601, ew602, eb603, hst⟩ := hst.lits (E := tyF64) (xs := [t595.1]) [[F6 t595.1]] 57 1 z (Reps.cons z Reps.nil)
 refine we_run (v := (.slice (some ⟨b600, 0, none⟩) 1 1)) (w' := w601) z (x_als (by kernel_rfl) ew602 eb603) ?_
 refine ws_next (pend' := [(1, v582), (0, Pt b510 3)]) hst (by kernel_rfl) (pkr z z (fun w hst => x_load z isAgg30 (hst.bc3 z)) (pkr z z (fun w hst => x_field z underlying34 z sizeOf30 z) pk_nil)) ?_
 refine ws_e1 5 (by kernel_rfl) ?_
 refine nxe [6, 7] (by kernel_rfl) z z ?_
 clear hst
 intro w hst
 obtain ⟨hg605, hm⟩ := gd_some hm
 replace hst := hst.pull2
 obtain ⟨v606, w607, hr608, hst⟩ := run_append elem_30 underlying30 hst hst.src1 (room_of hg605 z) 30
 refine we_run (v := v606) (w' := w607) z (x_append z z hr608) ?_
 refine ws_next (pend' := []) hst (by kernel_rfl) pk_nil ?_
 refine wsr (Pt b510 3) 6 z z z (by kernel_rfl) (fun w hst => x_field z underlying34 z sizeOf30 z) ?_
 refine ws_e1 7 (by kernel_rfl) ?_
 refine nxe [] (by kernel_rfl) z z ?_
 clear hst
 intro w hst
 replace hst := hst.pull3
 obtain ⟨w610, hr611, hst⟩ := hst.boxStore1 (P := prog) (t := 30) (cs' := [U6 t492.1.Session, U6 t492.1.Seq, U6 (u64.wrap (i64.wrap ((1:Int) + t497.1))), v606, Zs, Zs, Zs]) 3 v606 (one_of_sliceV hst.sv1) sizeOf30 z z
 refine we_unit z (x_unit hr611) ?_
 refine ws_next (pend' := []) hst (by kernel_rfl) pk_nil ?_
 refine ws_nil ?_
 intro w hst
 refine blk_n (tn (wrl ?_))
 refine wv (.int .i64 z585) z z z (wv (.int .i64 (i64.wrap (z585 + (1:Int)))) z z z (wv (.int .i64 (i64.wrap (z585 + (1:Int)))) z z z (wl_nil (tn ?_))))
 replace hst := hst.pull4.pull1.pull4.pull3.keep4
 obtain rfl := some_inj hm
 exact ⟨_, Nat.lt_succ_self _, (z581 ++ ([t595.1])), t595.2, (i64.wrap (z585 + (1:Int))), v606, _, hx592, (fu 0 p0 z (fu 2 (Pt b487 0) z (fu 3 (Pt b510 0) z (fu 4 (.int .i64 t517.1) z (fu 5 (.int .i64 (i64.wrap (z585 + (1:Int)))) z z))))), hst⟩
}
 {
 replace hm := bif_f hc594 hm
 refine wp_iff (cvb hc594) ?_
 refine wp_exit (then_x (then_x ?_))
 replace hm := inr_up hm hx592
 refine blk_x (tn ?_)
 replace hst := hst.pull2.pull3.pull3.keep4
 obtain rfl := some_inj hm
 exact ⟨z584, z581, v582, _, hx619, (fu 0 p0 z (fu 2 (Pt b487 0) z (fu 3 (Pt b510 0) z z))), hst⟩
}
}
 {
 clear hst
 rintro _ w620 ⟨z612, z615, v614, σ616, hm, rfl, hst⟩
 dsimp only [ref12_Tape_Hold_j0] at hm
 refine wp_seq (wrl (wv (p0) z z z ?_))
 obtain ⟨t621, ht622, hm⟩ := bind_some hm
 refine wc call20 [p0, I6 (3:Int)] z z z ?_
 refine (ref12_Tape_Next_ref hst.to1 ht622).mono ?_
 rintro _ w623 ⟨rfl, hst⟩
 refine ⟨_, z, ?_⟩
 replace hst := hst.of1
 refine wv (.int .i64 (i64.wrap (Int.tdiv t621.1 (2:Int)))) z z (x_quo (by decide) z z) (wv (.int .i64 (i64.wrap (Int.tdiv t621.1 (2:Int)))) z z z (wl_nil (tn ?_)))
 obtain ⟨y742, hm, hx743⟩ := bind_some hm
 refine wp_cut (fun a w => ∃ (z736 : ref12_Tape) (z739 : (List (Nat × Nat))) (v738 : Value) (σ740 : Nat → Value), (ref12_Tape_Hold_j2 t492 t497 z615) (z736, z739) = some r ∧ a = Fr 68 (upd (upd (upd σ740 0 (p0)) 2 (Pt b487 0)) 3 (Pt b510 0)) ∧ St w0 w I [at_ref12_Tape p0 z736, cells b487 [Zu, Zu, Zu, Zs, Zs, Zs, Zs], cells b510 [U6 t492.1.Session, U6 t492.1.Seq, U6 (u64.wrap (i64.wrap ((1:Int) + t497.1))), v614, v738, Zs, Zs], ownS tyF64 v614 z615, ownS tyF2 v738 z739] R) ?_ ?_
 {
 refine wp_seq (wrl (wv (.int .i64 (0:Int)) z z z (wl_nil (tn (wp_block ?_)))))
 replace hst := hst.own_nil tyF2
 obtain ⟨n706, hm⟩ := loopO_some hm
 refine wp_loop_n (fun n a w => ∃ (z700 : (List (Nat × Nat))) (z703 : ref12_Tape) (z704 : Int) (v701 : Value) (σ705 : Nat → Value), loopN (ref12_Tape_Hold_l3 t621) n (z700, z703, z704) = some y742 ∧ a = Fr 68 (upd (upd (upd (upd (upd σ705 0 (p0)) 2 (Pt b487 0)) 3 (Pt b510 0)) 4 (.int .i64 (i64.wrap (Int.tdiv t621.1 (2:Int))))) 6 (.int .i64 z704)) ∧ St w0 w I [ownS tyF2 v701 z700, at_ref12_Tape p0 z703, cells b487 [Zu, Zu, Zu, Zs, Zs, Zs, Zs], cells b510 [U6 t492.1.Session, U6 t492.1.Seq, U6 (u64.wrap (i64.wrap ((1:Int) + t497.1))), v614, v701, Zs, Zs], ownS tyF64 v614 z615] R) n706 ⟨[], t621.2, (0:Int), Zs, _, hm, (fu 0 p0 z (fu 2 (Pt b487 0) z (fu 3 (Pt b510 0) z (fu 4 (.int .i64 (i64.wrap (Int.tdiv t621.1 (2:Int)))) z (fu 6 (.int .i64 (0:Int)) z z))))), hst⟩ ?_
 rintro n712 _ w707 ⟨z700, z703, z704, v701, σ705, hm, rfl, hst⟩
 obtain ⟨n709, y710, rfl, hm, hx711⟩ := loopN_some hm
 dsimp only [ref12_Tape_Hold_l3] at hm
 refine wp_seq (wp_seq (wrl (wv (.int .i64 z704) z z z (wv (.int .i64 (i64.wrap (Int.tdiv t621.1 (2:Int)))) z z z (wv (.bool (decide (z704 < (i64.wrap (Int.tdiv t621.1 (2:Int)))))) z z z (wl_nil (tn ?_)))))))
 refine bsplit (decide (z704 < (i64.wrap (Int.tdiv t621.1 (2:Int))))) (fun hc713 => ?_) (fun hc713 => ?_)
 {
 replace hm := bif_t hc713 hm
 refine wp_ift (cvb hc713) ?_
 refine wp_skip (tn (wp_seq (wp_block ?_)))
 refine wp_region_St hst 11 [0, 1, 2, 3, 4, 5, 6, 7, 8, 9, 10] [0, 1, 0, 4, 0, 28, 60, 124, 255, 511, 1023] [] z (by kernel_rfl) (by kernel_rfl) Try.mixed (by kernel_rfl) ?_
 refine wsr (Pt b510 4) 0 z z z (by kernel_rfl) (fun w hst => x_field z underlying34 z sizeOf31 z) (wsr (v701) 1 z z z (by kernel_rfl) (fun w hst => x_load z isAgg31 (hst.bc3 z)) (wsr (p0) 2 z z z (by kernel_rfl) (fun w hst => z) (wsr (p0) 4 z z z (by kernel_rfl) (fun w hst => z) ?_)))
 refine ws_e1 3 (by kernel_rfl) ?_
 refine nxe [5, 6, 7, 8, 9, 10] (by kernel_rfl) z z ?_
 clear hst
 intro w hst
 replace hst := hst.pull1
 obtain ⟨t714, ht715, hm⟩ := bind_some hm
 refine wec call44 [p0] z z ?_
 refine (ref12_Tape_Float_ref hst.to1 ht715).mono ?_
 rintro _ w716 ⟨rfl, hst⟩
 refine ⟨_, z, ?_⟩
 replace hst := hst.of1
 refine ws_next (pend' := [(4, p0), (1, v701), (0, Pt b510 4)]) hst (by kernel_rfl) (pkr z z (fun w hst => z) (pkr z z (fun w hst => x_load z isAgg31 (hst.bc3 z)) (pkr z z (fun w hst => x_field z underlying34 z sizeOf31 z) pk_nil))) ?_
 refine ws_e1 5 (by kernel_rfl) ?_
 refine nxe [6, 7, 8, 9, 10] (by kernel_rfl) z z ?_
 clear hst
 intro w hst
 obtain ⟨t719, ht720, hm⟩ := bind_some hm
 refine wec call44 [p0] z z ?_
 refine (ref12_Tape_Float_ref hst.to1 ht720).mono ?_
 rintro _ w721 ⟨rfl, hst⟩
 refine ⟨_, z, ?_⟩
 replace hst := hst.of1
 refine ws_next (pend' := [(1, v701), (0, Pt b510 4)]) hst (by kernel_rfl) (pkr z z (fun w hst => x_load z isAgg31 (hst.bc3 z)) (pkr z z (fun w hst => x_field z underlying34 z sizeOf31 z) pk_nil)) ?_
 refine wsr (.agg #[F6 t714.1, F6 t719.1]) 6 z z z (by kernel_rfl) (fun w hst => by kernel_rfl) ?_
 refine ws_e1 7 (by kernel_rfl) ?_
 refine nxe [8, 9, 10] (by kernel_rfl) z z ?_
 clear hst
 intro w hst
 obtain ⟨b724, w725, ew726, eb727, hst⟩ := hst.lits (E := tyF2) (xs := [(t714.1, t719.1)]) [[F6 t714.1, F6 t719.1]] 75 1 z (Reps.cons z Reps.nil)
 refine we_run (v := (.slice (some ⟨b724, 0, none⟩) 1 1)) (w' := w725) z (x_als (by kernel_rfl) ew726 eb727) ?_
 refine ws_next (pend' := [(1, v701), (0, Pt b510 4)]) hst (by kernel_rfl) (pkr z z (fun w hst => x_load z isAgg31 (hst.bc4 z)) (pkr z z (fun w hst => x_field z underlying34 z sizeOf31 z) pk_nil)) ?_
 refine ws_e1 8 (by kernel_rfl) ?_
 refine nxe [9, 10] (by kernel_rfl) z z ?_
 clear hst
 intro w hst
 obtain ⟨hg729, hm⟩ := gd_some hm
 replace hst := hst.pull2
 obtain ⟨v730, w731, hr732, hst⟩ := run_append elem_31 underlying31 hst hst.src1 (room_of hg729 z) 31
 refine we_run (v := v730) (w' := w731) z (x_append z z hr732) ?_
 refine ws_next (pend' := []) hst (by kernel_rfl) pk_nil ?_
 refine wsr (Pt b510 4) 9 z z z (by kernel_rfl) (fun w hst => x_field z underlying34 z sizeOf31 z) ?_
 refine ws_e1 10 (by kernel_rfl) ?_
 refine nxe [] (by kernel_rfl) z z ?_
 clear hst
 intro w hst
 replace hst := hst.pull4
 obtain ⟨w734, hr735, hst⟩ := hst.boxStore1 (P := prog) (t := 31) (cs' := [U6 t492.1.Session, U6 t492.1.Seq, U6 (u64.wrap (i64.wrap ((1:Int) + t497.1))), v614, v730, Zs, Zs]) 4 v730 (one_of_sliceV hst.sv1) sizeOf31 z z
 refine we_unit z (x_unit hr735) ?_
 refine ws_next (pend' := []) hst (by kernel_rfl) pk_nil ?_
 refine ws_nil ?_
 intro w hst
 refine blk_n (tn (wrl ?_))
 refine wv (.int .i64 z704) z z z (wv (.int .i64 (i64.wrap (z704 + (1:Int)))) z z z (wv (.int .i64 (i64.wrap (z704 + (1:Int)))) z z z (wl_nil (tn ?_))))
 replace hst := hst.pull5.pull1.pull5.pull5.pull4.keep5
 obtain rfl := some_inj hm
 exact ⟨_, Nat.lt_succ_self _, (z700 ++ ([(t714.1, t719.1)])), t719.2, (i64.wrap (z704 + (1:Int))), v730, _, hx711, (fu 0 p0 z (fu 2 (Pt b487 0) z (fu 3 (Pt b510 0) z (fu 4 (.int .i64 (i64.wrap (Int.tdiv t621.1 (2:Int)))) z (fu 6 (.int .i64 (i64.wrap (z704 + (1:Int)))) z z))))), hst⟩
}
 {
 replace hm := bif_f hc713 hm
 refine wp_iff (cvb hc713) ?_
 refine wp_exit (then_x (then_x ?_))
 replace hm := inr_up hm hx711
 refine blk_x (tn ?_)
 replace hst := hst.pull4.pull4.pull4.pull4.keep5
 obtain rfl := some_inj hm
 exact ⟨z703, z700, v701, _, hx743, (fu 0 p0 z (fu 2 (Pt b487 0) z (fu 3 (Pt b510 0) z z))), hst⟩
}
}
 {
 clear hst
 rintro _ w744 ⟨z736, z739, v738, σ740, hm, rfl, hst⟩
 dsimp only [ref12_Tape_Hold_j2] at hm
 refine wp_seq (wrl (wv (p0) z z z ?_))
 obtain ⟨t745, ht746, hm⟩ := bind_some hm
 refine wc call20 [p0, I6 (3:Int)] z z z ?_
 refine (ref12_Tape_Next_ref hst.to1 ht746).mono ?_
 rintro _ w747 ⟨rfl, hst⟩
 refine ⟨_, z, ?_⟩
 replace hst := hst.of1
 refine wv (.int .i64 t745.1) z z z (wl_nil (tn ?_))
 obtain ⟨y846, hm, hx847⟩ := bind_some hm
 refine wp_cut (fun a w => ∃ (z840 : ref12_Tape) (z843 : (List Nat)) (v842 : Value) (σ844 : Nat → Value), (ref12_Tape_Hold_j4 t492 t497 z615 z739) (z840, z843) = some r ∧ a = Fr 68 (upd (upd (upd σ844 0 (p0)) 2 (Pt b487 0)) 3 (Pt b510 0)) ∧ St w0 w I [at_ref12_Tape p0 z840, cells b487 [Zu, Zu, Zu, Zs, Zs, Zs, Zs], cells b510 [U6 t492.1.Session, U6 t492.1.Seq, U6 (u64.wrap (i64.wrap ((1:Int) + t497.1))), v614, v738, v842, Zs], ownS tyF64 v614 z615, ownS tyF2 v738 z739, ownS tyF64 v842 z843] R) ?_ ?_
 {
 refine wp_seq (wrl (wv (.int .i64 (0:Int)) z z z (wl_nil (tn (wp_block ?_)))))
 replace hst := hst.own_nil tyF64
 obtain ⟨n815, hm⟩ := loopO_some hm
 refine wp_loop_n (fun n a w => ∃ (z809 : (List Nat)) (z812 : ref12_Tape) (z813 : Int) (v810 : Value) (σ814 : Nat → Value), loopN (ref12_Tape_Hold_l5 t745) n (z809, z812, z813) = some y846 ∧ a = Fr 68 (upd (upd (upd (upd (upd σ814 0 (p0)) 2 (Pt b487 0)) 3 (Pt b510 0)) 4 (.int .i64 t745.1)) 7 (.int .i64 z813)) ∧ St w0 w I [ownS tyF64 v810 z809, at_ref12_Tape p0 z812, cells b487 [Zu, Zu, Zu, Zs, Zs, Zs, Zs], cells b510 [U6 t492.1.Session, U6 t492.1.Seq, U6 (u64.wrap (i64.wrap ((1:Int) + t497.1))), v614, v738, v810, Zs], ownS tyF64 v614 z615, ownS tyF2 v738 z739] R) n815 ⟨[], t745.2, (0:Int), Zs, _, hm, (fu 0 p0 z (fu 2 (Pt b487 0) z (fu 3 (Pt b510 0) z (fu 4 (.int .i64 t745.1) z (fu 7 (.int .i64 (0:Int)) z z))))), hst⟩ ?_
 rintro n821 _ w816 ⟨z809, z812, z813, v810, σ814, hm, rfl, hst⟩
 obtain ⟨n818, y819, rfl, hm, hx820⟩ := loopN_some hm
 dsimp only [ref12_Tape_Hold_l5] at hm
 refine wp_seq (wp_seq (wrl (wv (.int .i64 z813) z z z (wv (.int .i64 t745.1) z z z (wv (.bool (decide (z813 < t745.1))) z z z (wl_nil (tn ?_)))))))
 refine bsplit (decide (z813 < t745.1)) (fun hc822 => ?_) (fun hc822 => ?_)
 {
 replace hm := bif_t hc822 hm
 refine wp_ift (cvb hc822) ?_
 refine wp_skip (tn (wp_seq (wp_block ?_)))
 refine wp_region_St hst 8 [0, 1, 2, 3, 4, 5, 6, 7] [0, 1, 0, 4, 12, 31, 63, 127] [] z (by kernel_rfl) (by kernel_rfl) Try.mixed (by kernel_rfl) ?_
 refine wsr (Pt b510 5) 0 z z z (by kernel_rfl) (fun w hst => x_field z underlying34 z sizeOf30 z) (wsr (v810) 1 z z z (by kernel_rfl) (fun w hst => x_load z isAgg30 (hst.bc3 z)) (wsr (p0) 2 z z z (by kernel_rfl) (fun w hst => z) ?_))
 refine ws_e1 3 (by kernel_rfl) ?_
 refine nxe [4, 5, 6, 7] (by kernel_rfl) z z ?_
 clear hst
 intro w hst
 replace hst := hst.pull1
 obtain ⟨t823, ht824, hm⟩ := bind_some hm
 refine wec call44 [p0] z z ?_
 refine (ref12_Tape_Float_ref hst.to1 ht824).mono ?_
 rintro _ w825 ⟨rfl, hst⟩
 refine ⟨_, z, ?_⟩
 replace hst := hst.of1
 refine ws_next (pend' := [(1, v810), (0, Pt b510 5)]) hst (by kernel_rfl) (pkr z z (fun w hst => x_load z isAgg30 (hst.bc3 z)) (pkr z z (fun w hst => x_field z underlying34 z sizeOf30 z) pk_nil)) ?_
 refine ws_e1 4 (by kernel_rfl) ?_
 refine nxe [5, 6, 7] (by kernel_rfl) z z ?_
 clear hst
 intro w hst
 obtain ⟨b828, w829, ew830, eb831, hst⟩ := hst.lits (E := tyF64) (xs := [t823.1]) [[F6 t823.1]] 57 1 z (Reps.cons z Reps.nil)
 refine we_run (v := (.slice (some ⟨b828, 0, none⟩) 1 1)) (w' := w829) z (x_als (by kernel_rfl) ew830 eb831) ?_
 refine ws_next (pend' := [(1, v810), (0, Pt b510 5)]) hst (by kernel_rfl) (pkr z z (fun w hst => x_load z isAgg30 (hst.bc4 z)) (pkr z z (fun w hst => x_field z underlying34 z sizeOf30 z) pk_nil)) ?_
 refine ws_e1 5 (by kernel_rfl) ?_
 refine nxe [6, 7] (by kernel_rfl) z z ?_
 clear hst
 intro w hst
 obtain ⟨hg833, hm⟩ := gd_some hm
 replace hst := hst.pull2
 obtain ⟨v834, w835, hr836, hst⟩ := run_append elem_30 underlying30 hst hst.src1 (room_of hg833 z) 30
 refine we_run (v := v834) (w' := w835) z (x_append z z hr836) ?_
 refine ws_next (pend' := []) hst (by kernel_rfl) pk_nil ?_
 refine wsr (Pt b510 5) 6 z z z (by kernel_rfl) (fun w hst => x_field z underlying34 z sizeOf30 z) ?_
 refine ws_e1 7 (by kernel_rfl) ?_
 refine nxe [] (by kernel_rfl) z z ?_
 clear hst
 intro w hst
 replace hst := hst.pull4
 obtain ⟨w838, hr839, hst⟩ := hst.boxStore1 (P := prog) (t := 30) (cs' := [U6 t492.1.Session, U6 t492.1.Seq, U6 (u64.wrap (i64.wrap ((1:Int) + t497.1))), v614, v738, v834, Zs]) 5 v834 (one_of_sliceV hst.sv1) sizeOf30 z z
 refine we_unit z (x_unit hr839) ?_
 refine ws_next (pend' := []) hst (by kernel_rfl) pk_nil ?_
 refine ws_nil ?_
 intro w hst
 refine blk_n (tn (wrl ?_))
 refine wv (.int .i64 z813) z z z (wv (.int .i64 (i64.wrap (z813 + (1:Int)))) z z z (wv (.int .i64 (i64.wrap (z813 + (1:Int)))) z z z (wl_nil (tn ?_))))
 replace hst := hst.pull6.pull6.pull2.pull6.pull6.pull5.keep6
 obtain rfl := some_inj hm
 exact ⟨_, Nat.lt_succ_self _, (z809 ++ ([t823.1])), t823.2, (i64.wrap (z813 + (1:Int))), v834, _, hx820, (fu 0 p0 z (fu 2 (Pt b487 0) z (fu 3 (Pt b510 0) z (fu 4 (.int .i64 t745.1) z (fu 7 (.int .i64 (i64.wrap (z813 + (1:Int)))) z z))))), hst⟩
}
 {
 replace hm := bif_f hc822 hm
 refine wp_iff (cvb hc822) ?_
 refine wp_exit (then_x (then_x ?_))
 replace hm := inr_up hm hx820
 refine blk_x (tn ?_)
 replace hst := hst.pull5.pull5.pull5.pull5.pull5.keep6
 obtain rfl := some_inj hm
 exact ⟨z812, z809, v810, _, hx847, (fu 0 p0 z (fu 2 (Pt b487 0) z (fu 3 (Pt b510 0) z z))), hst⟩
}
}
 {
 clear hst
 rintro _ w848 ⟨z840, z843, v842, σ844, hm, rfl, hst⟩
 dsimp only [ref12_Tape_Hold_j4] at hm
 refine wp_seq (wp_seq (wrl (wv (p0) z z z ?_)))
 obtain ⟨t849, ht850, hm⟩ := bind_some hm
 refine wc call20 [p0, I6 (4:Int)] z z z ?_
 refine (ref12_Tape_Next_ref hst.to1 ht850).mono ?_
 rintro _ w851 ⟨rfl, hst⟩
 refine ⟨_, z, ?_⟩
 replace hst := hst.of1
 refine wv (.bool (t849.1 == (0:Int))) z z z (wl_nil (tn ?_))
 refine bsplit (t849.1 == (0:Int)) (fun hc854 => ?_) (fun hc854 => ?_)
 {
 replace hm := bif_t hc854 hm
 refine wp_ift (cvb hc854) ?_
 refine wrl (wv (p0) z z z ?_)
 obtain ⟨t855, ht856, hm⟩ := bind_some hm
 refine wc call45 [p0] z z z ?_
 refine (ref12_Tape_Val_ref hst.to1 ht856).mono ?_
 rintro _ w857 ⟨v860, rfl, hst⟩
 refine ⟨_, z, ?_⟩
 replace hst := hst.of2
 refine wv (Pt b510 6) z z (x_field z underlying34 z sizeOf32 z) ?_
 replace hst := hst.pull3
 obtain ⟨w862, hr863, hst⟩ := hst.boxStore1 (P := prog) (t := 32) (cs' := [U6 t492.1.Session, U6 t492.1.Seq, U6 (u64.wrap (i64.wrap ((1:Int) + t497.1))), v614, v738, v842, v860]) 6 v860 (one_of_sliceV hst.sv1) sizeOf32 z z
 refine wl_unit z z (x_unit hr863) ?_
 refine wl_nil (tn (wp_seq (wrl (wv (.agg #[U6 t492.1.Session, U6 t492.1.Seq, U6 (u64.wrap (i64.wrap ((1:Int) + t497.1))), v614, v738, v842, v860]) z z (x_loadN (cs := [U6 t492.1.Session, U6 t492.1.Seq, U6 (u64.wrap (i64.wrap ((1:Int) + t497.1))), v614, v738, v842, v860]) z isAgg34 sizeOf34 (hst.bcs0 0 z)) ?_))))
 replace hst := hst.pull3
 obtain ⟨w864, hr865, hst⟩ := hst.bx [U6 t492.1.Session, U6 t492.1.Seq, U6 (u64.wrap (i64.wrap ((1:Int) + t497.1))), v614, v738, v842, v860] sizeOf34 z (oC z (oC z (oC z (oC (one_of_sliceV hst.sv4) (oC (one_of_sliceV hst.sv5) (oC (one_of_sliceV hst.sv6) (oC (one_of_sliceV hst.sv2) oN))))))) (by kernel_rfl)
 refine wl_unit z z (x_unit hr865) ?_
 refine wl_nil (tn (wp_ret ?_))
 obtain rfl := some_inj hm
 refine post_ret (vs := [.agg #[U6 t492.1.Session, U6 t492.1.Seq, U6 (u64.wrap (i64.wrap ((1:Int) + t497.1))), v614, v738, v842, v860]]) results16 (rvs_cons (rv_cell (cs := [U6 t492.1.Session, U6 t492.1.Seq, U6 (u64.wrap (i64.wrap ((1:Int) + t497.1))), v614, v738, v842, v860]) z isAgg34 sizeOf34 (hst.bcs0 0 z)) rvs_nil) ?_
 replace hst := hst.pull3.pull3.pull6.pull6.pull6
 exact ⟨v614, v738, v842, v860, z, hst.keep5⟩
}
 {
 replace hm := bif_f hc854 hm
 refine wp_iff (cvb hc854) ?_
 refine wp_skip (tn (wp_seq (wrl ?_)))
 refine wv (.agg #[U6 t492.1.Session, U6 t492.1.Seq, U6 (u64.wrap (i64.wrap ((1:Int) + t497.1))), v614, v738, v842, Zs]) z z (x_loadN (cs := [U6 t492.1.Session, U6 t492.1.Seq, U6 (u64.wrap (i64.wrap ((1:Int) + t497.1))), v614, v738, v842, Zs]) z isAgg34 sizeOf34 (hst.bcs2 0 z)) ?_
 replace hst := hst.pull1
 obtain ⟨w866, hr867, hst⟩ := hst.bx [U6 t492.1.Session, U6 t492.1.Seq, U6 (u64.wrap (i64.wrap ((1:Int) + t497.1))), v614, v738, v842, Zs] sizeOf34 z (oC z (oC z (oC z (oC (one_of_sliceV hst.sv3) (oC (one_of_sliceV hst.sv4) (oC (one_of_sliceV hst.sv5) (oC z oN))))))) (by kernel_rfl)
 refine wl_unit z z (x_unit hr867) ?_
 refine wl_nil (tn (wp_ret ?_))
 replace hst := hst.own_nil (tyInt .u8)
 obtain rfl := some_inj hm
 refine post_ret (vs := [.agg #[U6 t492.1.Session, U6 t492.1.Seq, U6 (u64.wrap (i64.wrap ((1:Int) + t497.1))), v614, v738, v842, Zs]]) results16 (rvs_cons (rv_cell (cs := [U6 t492.1.Session, U6 t492.1.Seq, U6 (u64.wrap (i64.wrap ((1:Int) + t497.1))), v614, v738, v842, Zs]) z isAgg34 sizeOf34 (hst.bcs1 0 z)) rvs_nil) ?_
 replace hst := hst.pull2.pull1.pull6.pull6.pull6
 exact ⟨v614, v738, v842, Zs, z, hst.keep5⟩
}
}
}
}
}

theorem math_Signbit_ref {w0 w : World} {I : HL} {R : SP} {a0 : Nat}  (hst : St w0 w I [] R) {r : (Bool)} (hm : math_Signbit a0 = some r) :
  Calls prog 92 #[F6 a0] w fun e w' => e = .returned (.bool r) ∧ St w0 w' I [] R := by {
 unfold math_Signbit at hm
 refine calls_start (args := [F6 a0]) func92 z ntmps92 (Nat.le_of_ble_eq_true z) ?_
 refine wp_seq (wrl (wv (.bool false) z z z (wl_nil (tn (wp_seq (wrl (wv (.float .f64 a0) z z z (wv (.int .u64 (Int.ofNat a0)) z z (by kernel_rfl) (wv (.int .i64 (i64.wrap (Int.ofNat a0))) z z (by kernel_rfl) (wv (.bool (decide ((i64.wrap (Int.ofNat a0)) < (0:Int)))) z z z (wv (.bool (decide ((i64.wrap (Int.ofNat a0)) < (0:Int)))) z z z (wl_nil (tn (wp_ret ?_))))))))))))))
 obtain rfl := some_inj hm
 refine post_ret (vs := [.bool (decide ((i64.wrap (Int.ofNat a0)) < (0:Int)))]) results92 (rvs_cons (rv_tmp z) rvs_nil) ?_
 exact ⟨z, hst.keep0⟩
}

theorem ref01_Ahead_ref {w0 w : World} {I : HL} {R : SP} {a0 : Nat} {a1 : Nat}  (hst : St w0 w I [] R) {r : (Bool)} (hm : ref01_Ahead a0 a1 = some r) :
  Calls prog 76 #[F6 a0, F6 a1] w fun e w' => e = .returned (.bool r) ∧ St w0 w' I [] R := by {
 unfold ref01_Ahead at hm
 refine calls_start (args := [F6 a0, F6 a1]) func76 z ntmps76 (Nat.le_of_ble_eq_true z) ?_
 refine wp_seq (wrl (wv (.bool false) z z z (wl_nil (tn (wp_seq (wp_seq (wrl (wv (.float .f64 a0) z z z (wv (.float .f64 a0) z z z (wv (.bool (fNe a0 a0)) z z z (wl_nil (tn ?_))))))))))))
 refine bsplit (fNe a0 a0) (fun hc178 => ?_) (fun hc178 => ?_)
 {
 replace hm := bif_t hc178 hm
 refine wp_ift (cvb hc178) ?_
 refine wp_seq (wrl (wv (.bool false) z z z (wl_nil (tn (wp_ret (then_r ?_))))))
 obtain rfl := some_inj hm
 refine post_ret (vs := [.bool false]) results76 (rvs_cons (rv_tmp z) rvs_nil) ?_
 exact ⟨z, hst.keep0⟩
}
 {
 replace hm := bif_f hc178 hm
 refine wp_iff (cvb hc178) ?_
 refine wp_skip (tn (wp_seq (wp_seq (wrl ?_))))
 refine wv (.float .f64 a1) z z z (wv (.float .f64 a1) z z z (wv (.bool (fNe a1 a1)) z z z (wl_nil (tn ?_))))
 refine bsplit (fNe a1 a1) (fun hc179 => ?_) (fun hc179 => ?_)
 {
 replace hm := bif_t hc179 hm
 refine wp_ift (cvb hc179) ?_
 refine wp_seq (wrl (wv (.bool true) z z z (wl_nil (tn (wp_ret (then_r ?_))))))
 obtain rfl := some_inj hm
 refine post_ret (vs := [.bool true]) results76 (rvs_cons (rv_tmp z) rvs_nil) ?_
 exact ⟨z, hst.keep0⟩
}
 {
 replace hm := bif_f hc179 hm
 refine wp_iff (cvb hc179) ?_
 refine wp_skip (tn ?_)
 obtain ⟨y195, hm, hx196⟩ := joinO_some hm
 refine wp_cut (fun a w => ∃ (σ193 : Nat → Value), (ref01_Ahead_j0 a0 a1) () = some r ∧ a = Fr 27 (upd (upd σ193 0 (.float .f64 a0)) 1 (.float .f64 a1)) ∧ St w0 w I [] R) ?_ ?_
 {
 refine wp_seq (wrl (wv (.float .f64 a0) z z z (wv (.bool (fEq a0 (0:Nat))) z z z (wv (.bool (fEq a0 (0:Nat))) z z z ?_))))
 refine bsplit (fEq a0 (0:Nat)) (fun hc180 => ?_) (fun hc180 => ?_)
 {
 replace hm := bif_t hc180 hm
 refine wv (.float .f64 a1) ((wanted_eq z z z (cvb hc180)).trans z) z z (wv (.bool (fEq a1 (0:Nat))) ((wanted_eq z z z (cvb hc180)).trans z) z z (wv (.bool (fEq a1 (0:Nat))) z z (x_pick_t hc180 z z) (wl_nil (tn ?_))))
 refine bsplit (fEq a1 (0:Nat)) (fun hc181 => ?_) (fun hc181 => ?_)
 {
 replace hm := bif_t hc181 hm
 refine wp_ift (cvb hc181) ?_
 refine wp_seq (wrl (wv (.float .f64 a0) z z z ?_))
 obtain ⟨t182, ht183, hm⟩ := bind_some hm
 refine wc call92 [F6 a0] z z z ?_
 refine (math_Signbit_ref hst.to0 ht183).mono ?_
 rintro _ w184 ⟨rfl, hst⟩
 refine ⟨_, z, ?_⟩
 replace hst := hst.of0
 refine wv (.bool t182) z z z ?_
 refine bsplit t182 (fun hc187 => ?_) (fun hc187 => ?_)
 {
 replace hm := bif_t hc187 hm
 refine wv (.float .f64 a1) ((wanted_eq z z z (cvb hc187)).trans z) z z ?_
 obtain ⟨t188, ht189, hm⟩ := bind_some hm
 refine wl_call ((wanted_eq z z z (cvb hc187)).trans z) z (x_call call92 z (vs := [F6 a1]) z) ?_
 refine (math_Signbit_ref hst.to0 ht189).mono ?_
 rintro _ w190 ⟨rfl, hst⟩
 refine ⟨_, z, ?_⟩
 replace hst := hst.of0
 refine wv (.bool (!t188)) ((wanted_eq z z z (cvb hc187)).trans z) z z (wv (.bool (!t188)) z z (x_pick_t hc187 z z) (wv (.bool (!t188)) z z z (wl_nil (tn (wp_ret (then_r ?_))))))
 replace hm := inr_up hm hx196
 obtain rfl := some_inj hm
 refine post_ret (vs := [.bool (!t188)]) results76 (rvs_cons (rv_tmp z) rvs_nil) ?_
 exact ⟨z, hst.keep0⟩
}
 {
 replace hm := bif_f hc187 hm
 refine wo hc187 z z z z z z (wo hc187 z z z z z z (wo hc187 z z z z z z (wv (.bool false) z z (x_pick_f hc187 z z) (wv (.bool false) z z z (wl_nil (tn (wp_ret (then_r ?_))))))))
 replace hm := inr_up hm hx196
 obtain rfl := some_inj hm
 refine post_ret (vs := [.bool false]) results76 (rvs_cons (rv_tmp z) rvs_nil) ?_
 exact ⟨z, hst.keep0⟩
}
}
 {
 replace hm := bif_f hc181 hm
 refine wp_iff (cvb hc181) ?_
 refine wp_skip (tn ?_)
 replace hst := hst.keep0
 obtain rfl := some_inj hm
 exact ⟨_, hx196, (fu 0 (.float .f64 a0) z (fu 1 (.float .f64 a1) z z)), hst⟩
}
}
 {
 replace hm := bif_f hc180 hm
 refine wo hc180 z z z z z z (wo hc180 z z z z z z (wv (.bool false) z z (x_pick_f hc180 z z) (wl_nil (tn ?_))))
 refine wp_iff z ?_
 refine wp_skip (tn ?_)
 replace hst := hst.keep0
 obtain rfl := some_inj hm
 exact ⟨_, hx196, (fu 0 (.float .f64 a0) z (fu 1 (.float .f64 a1) z z)), hst⟩
}
}
 {
 clear hst
 rintro _ w197 ⟨σ193, hm, rfl, hst⟩
 dsimp only [ref01_Ahead_j0] at hm
 refine wp_seq (wrl (wv (.float .f64 a0) z z z (wv (.float .f64 a1) z z z (wv (.bool (fLt a0 a1)) z z z (wv (.bool (fLt a0 a1)) z z z (wl_nil (tn (wp_ret ?_))))))))
 obtain rfl := some_inj hm
 refine post_ret (vs := [.bool (fLt a0 a1)]) results76 (rvs_cons (rv_tmp z) rvs_nil) ?_
 exact ⟨z, hst.keep0⟩
}
}
}
}

theorem ref01_Same_ref {w0 w : World} {I : HL} {R : SP} {a0 : Nat} {a1 : Nat}  (hst : St w0 w I [] R) {r : (Bool)} (hm : ref01_Same a0 a1 = some r) :
  Calls prog 51 #[F6 a0, F6 a1] w fun e w' => e = .returned (.bool r) ∧ St w0 w' I [] R := by {
 unfold ref01_Same at hm
 refine calls_start (args := [F6 a0, F6 a1]) func51 z ntmps51 (Nat.le_of_ble_eq_true z) ?_
 refine wp_seq (wrl (wv (.bool false) z z z (wl_nil (tn (wp_seq (wrl (wv (.float .f64 a0) z z z (wv (.float .f64 a1) z z z ?_))))))))
 obtain ⟨t169, ht170, hm⟩ := bind_some hm
 refine wc call76 [F6 a0, F6 a1] z z z ?_
 refine (ref01_Ahead_ref hst.to0 ht170).mono ?_
 rintro _ w171 ⟨rfl, hst⟩
 refine ⟨_, z, ?_⟩
 replace hst := hst.of0
 refine wv (.bool (!t169)) z z z (wv (.bool (!t169)) z z z ?_)
 refine bsplit (!t169) (fun hc174 => ?_) (fun hc174 => ?_)
 {
 replace hm := bif_t hc174 hm
 refine wv (.float .f64 a1) ((wanted_eq z z z (cvb hc174)).trans z) z z (wv (.float .f64 a0) ((wanted_eq z z z (cvb hc174)).trans z) z z ?_)
 obtain ⟨t175, ht176, hm⟩ := bind_some hm
 refine wl_call ((wanted_eq z z z (cvb hc174)).trans z) z (x_call call76 z (vs := [F6 a1, F6 a0]) z) ?_
 refine (ref01_Ahead_ref hst.to0 ht176).mono ?_
 rintro _ w177 ⟨rfl, hst⟩
 refine ⟨_, z, ?_⟩
 replace hst := hst.of0
 refine wv (.bool (!t175)) ((wanted_eq z z z (cvb hc174)).trans z) z z (wv (.bool (!t175)) z z (x_pick_t hc174 z z) (wv (.bool (!t175)) z z z (wl_nil (tn (wp_ret ?_)))))
 obtain rfl := some_inj hm
 refine post_ret (vs := [.bool (!t175)]) results51 (rvs_cons (rv_tmp z) rvs_nil) ?_
 exact ⟨z, hst.keep0⟩
}
 {
 replace hm := bif_f hc174 hm
 refine wo hc174 z z z z z z (wo hc174 z z z z z z (wo hc174 z z z z z z (wo hc174 z z z z z z (wv (.bool false) z z (x_pick_f hc174 z z) (wv (.bool false) z z z (wl_nil (tn (wp_ret ?_))))))))
 obtain rfl := some_inj hm
 refine post_ret (vs := [.bool false]) results51 (rvs_cons (rv_tmp z) rvs_nil) ?_
 exact ⟨z, hst.keep0⟩
}
}

theorem ref11_has_ref {w0 w : World} {I : HL} {R : SP} {a0 : (List Nat)} {r0_0 : Value} {a1 : Nat} (f0_0 : Rd tyF64 R I r0_0 a0) (hst : St w0 w I [] R) {r : (Bool)} (hm : ref11_has a0 a1 = some r) :
  Calls prog 42 #[r0_0, F6 a1] w fun e w' => e = .returned (.bool r) ∧ St w0 w' I [] R := by {
 unfold ref11_has at hm
 refine calls_start (args := [r0_0, F6 a1]) func42 z ntmps42 (Nat.le_of_ble_eq_true z) ?_
 refine wp_seq (wrl (wv (.bool false) z z z (wl_nil (tn (wp_seq (wp_seq (wrl (wv (.int .i64 (0:Int)) z z z (wl_nil (tn (wp_block ?_)))))))))))
 obtain ⟨n226, hm⟩ := loopO_some hm
 refine wp_loop_n (fun n a w => ∃ (z224 : Int) (σ225 : Nat → Value), loopN (ref11_has_l0 a0 a1) n z224 = some r ∧ a = Fr 18 (upd (upd (upd σ225 0 (r0_0)) 1 (.float .f64 a1)) 5 (.int .i64 z224)) ∧ St w0 w I [] R) n226 ⟨(0:Int), _, hm, (fu 0 r0_0 z (fu 1 (.float .f64 a1) z (fu 5 (.int .i64 (0:Int)) z z))), hst⟩ ?_
 rintro n232 _ w227 ⟨z224, σ225, hm, rfl, hst⟩
 obtain ⟨n229, y230, rfl, hm, hx231⟩ := loopN_some hm
 dsimp only [ref11_has_l0] at hm
 refine wp_seq (wp_seq (wrl (wv (.int .i64 z224) z z z (wv (r0_0) z z z (wv (.int .i64 ((a0).length : Int)) z z (x_len z underlying30 (rd_sliceV f0_0)) (wv (.bool (decide (z224 < ((a0).length : Int)))) z z z (wl_nil (tn ?_))))))))
 refine bsplit (decide (z224 < ((a0).length : Int))) (fun hc233 => ?_) (fun hc233 => ?_)
 {
 replace hm := bif_t hc233 hm
 refine wp_ift (cvb hc233) ?_
 refine wp_skip (tn (wp_seq (wp_block (wp_seq (wrl ?_)))))
 refine wv (r0_0) z z z (wv (.int .i64 z224) z z z ?_)
 obtain ⟨x234, hx235, hm⟩ := bind_some hm
 obtain ⟨h236, h237, hi238⟩ := geto_some hx235
 refine wv (.pointer (some (eAddr r0_0 (z224.toNat * 1 + 0)))) z z (x_index z z underlying30 sizeOf57 (rd_sliceV f0_0) h236 h237) (wv (.float .f64 x234) z z (x_load z isAgg57 (rd_load f0_0 (HL.le.refl _) hst hi238 (by rintro _ rfl; rfl))) (wv (.float .f64 a1) z z z ?_))
 obtain ⟨t239, ht240, hm⟩ := bind_some hm
 refine wc call51 [F6 x234, F6 a1] z z z ?_
 refine (ref01_Same_ref hst.to0 ht240).mono ?_
 rintro _ w241 ⟨rfl, hst⟩
 refine ⟨_, z, ?_⟩
 replace hst := hst.of0
 refine wl_nil (tn ?_)
 refine bsplit t239 (fun hc244 => ?_) (fun hc244 => ?_)
 {
 replace hm := bif_t hc244 hm
 refine wp_ift (cvb hc244) ?_
 refine wp_seq (wrl (wv (.bool true) z z z (wl_nil (tn (wp_ret (blk_r (then_r (then_r ?_))))))))
 replace hm := inr_up hm hx231
 refine blk_r (then_r ?_)
 obtain rfl := some_inj hm
 refine post_ret (vs := [.bool true]) results42 (rvs_cons (rv_tmp z) rvs_nil) ?_
 exact ⟨z, hst.keep0⟩
}
 {
 replace hm := bif_f hc244 hm
 refine wp_iff (cvb hc244) ?_
 refine wp_skip (blk_n (tn (wrl ?_)))
 refine wv (.int .i64 z224) z z z (wv (.int .i64 (i64.wrap (z224 + (1:Int)))) z z z (wv (.int .i64 (i64.wrap (z224 + (1:Int)))) z z z (wl_nil (tn ?_))))
 replace hst := hst.keep0
 obtain rfl := some_inj hm
 exact ⟨_, Nat.lt_succ_self _, (i64.wrap (z224 + (1:Int))), _, hx231, (fu 0 r0_0 z (fu 1 (.float .f64 a1) z (fu 5 (.int .i64 (i64.wrap (z224 + (1:Int)))) z z))), hst⟩
}
}
 {
 replace hm := bif_f hc233 hm
 refine wp_iff (cvb hc233) ?_
 refine wp_exit (then_x (then_x ?_))
 replace hm := inr_up hm hx231
 refine blk_x (tn (wp_seq (wrl ?_)))
 refine wv (.bool false) z z z (wl_nil (tn (wp_ret ?_)))
 obtain rfl := some_inj hm
 refine post_ret (vs := [.bool false]) results42 (rvs_cons (rv_tmp z) rvs_nil) ?_
 exact ⟨z, hst.keep0⟩
}
}

theorem ref01_Within_ref {w0 w : World} {I : HL} {R : SP} {a0 : Nat} {a1 : Nat} {a2 : Nat}  (hst : St w0 w I [] R) {r : (Bool)} (hm : ref01_Within a0 a1 a2 = some r) :
  Calls prog 74 #[F6 a0, F6 a1, F6 a2] w fun e w' => e = .returned (.bool r) ∧ St w0 w' I [] R := by {
 unfold ref01_Within at hm
 refine calls_start (args := [F6 a0, F6 a1, F6 a2]) func74 z ntmps74 (Nat.le_of_ble_eq_true z) ?_
 refine wp_seq (wrl (wv (.bool false) z z z (wl_nil (tn (wp_seq (wrl (wv (.float .f64 a0) z z z (wv (.float .f64 a1) z z z ?_))))))))
 obtain ⟨t172, ht173, hm⟩ := bind_some hm
 refine wc call76 [F6 a0, F6 a1] z z z ?_
 refine (ref01_Ahead_ref hst.to0 ht173).mono ?_
 rintro _ w174 ⟨rfl, hst⟩
 refine ⟨_, z, ?_⟩
 replace hst := hst.of0
 refine wv (.bool (!t172)) z z z (wv (.bool (!t172)) z z z ?_)
 refine bsplit (!t172) (fun hc177 => ?_) (fun hc177 => ?_)
 {
 replace hm := bif_t hc177 hm
 refine wv (.float .f64 a2) ((wanted_eq z z z (cvb hc177)).trans z) z z (wv (.float .f64 a0) ((wanted_eq z z z (cvb hc177)).trans z) z z ?_)
 obtain ⟨t178, ht179, hm⟩ := bind_some hm
 refine wl_call ((wanted_eq z z z (cvb hc177)).trans z) z (x_call call76 z (vs := [F6 a2, F6 a0]) z) ?_
 refine (ref01_Ahead_ref hst.to0 ht179).mono ?_
 rintro _ w180 ⟨rfl, hst⟩
 refine ⟨_, z, ?_⟩
 replace hst := hst.of0
 refine wv (.bool (!t178)) ((wanted_eq z z z (cvb hc177)).trans z) z z (wv (.bool (!t178)) z z (x_pick_t hc177 z z) (wv (.bool (!t178)) z z z (wl_nil (tn (wp_ret ?_)))))
 obtain rfl := some_inj hm
 refine post_ret (vs := [.bool (!t178)]) results74 (rvs_cons (rv_tmp z) rvs_nil) ?_
 exact ⟨z, hst.keep0⟩
}
 {
 replace hm := bif_f hc177 hm
 refine wo hc177 z z z z z z (wo hc177 z z z z z z (wo hc177 z z z z z z (wo hc177 z z z z z z (wv (.bool false) z z (x_pick_f hc177 z z) (wv (.bool false) z z z (wl_nil (tn (wp_ret ?_))))))))
 obtain rfl := some_inj hm
 refine post_ret (vs := [.bool false]) results74 (rvs_cons (rv_tmp z) rvs_nil) ?_
 exact ⟨z, hst.keep0⟩
}
}

theorem ref11_reads_ref {w0 w : World} {I : HL} {R : SP} {a0 : api_Hold} {r0_0 : Value} {r0_1 : Value} {r0_2 : Value} {r0_3 : Value} {a1 : Nat} (f0_0 : Rd tyF64 R I r0_0 a0.Gets) (f0_1 : Rd tyF2 R I r0_1 a0.Scans) (f0_2 : Rd tyF64 R I r0_2 a0.Puts) (f0_3 : Rd (tyInt .u8) R I r0_3 a0.Data) (hst : St w0 w I [] R) {r : (Bool)} (hm : ref11_reads a0 a1 = some r) :
  Calls prog 43 #[.agg #[U6 a0.ID.Session, U6 a0.ID.Seq, U6 a0.Epoch, r0_0, r0_1, r0_2, r0_3], F6 a1] w fun e w' => e = .returned (.bool r) ∧ St w0 w' I [] R := by {
 unfold ref11_reads at hm
 refine calls_start (args := [.agg #[U6 a0.ID.Session, U6 a0.ID.Seq, U6 a0.Epoch, r0_0, r0_1, r0_2, r0_3], F6 a1]) func43 z ntmps43 (Nat.le_of_ble_eq_true z) ?_
 refine wp_seq (wrl ?_)
 obtain ⟨b220, w221, ew222, eb223, hst⟩ := hst.box [U6 a0.ID.Session, U6 a0.ID.Seq, U6 a0.Epoch, r0_0, r0_1, r0_2, r0_3] 34
 refine wl_run (v := Pt b220 0) (w' := w221) z z (x_al (by kernel_rfl) ew222 eb223) ?_
 refine wv (.bool false) z z z (wl_nil (tn ?_))
 obtain ⟨y273, hm, hx274⟩ := joinO_some hm
 refine wp_cut (fun a w => ∃ (σ271 : Nat → Value), (ref11_reads_j0 a0 a1) () = some r ∧ a = Fr 31 (upd (upd σ271 1 (.float .f64 a1)) 2 (Pt b220 0)) ∧ St w0 w I [cells b220 [U6 a0.ID.Session, U6 a0.ID.Seq, U6 a0.Epoch, r0_0, r0_1, r0_2, r0_3]] R) ?_ ?_
 {
 refine wp_seq (wrl (wv (.int .i64 (0:Int)) z z z (wl_nil (tn (wp_block ?_)))))
 obtain ⟨n252, hm⟩ := loopO_some hm
 refine wp_loop_n (fun n a w => ∃ (z250 : Int) (σ251 : Nat → Value), loopN (ref11_reads_l1 a0 a1) n z250 = some y273 ∧ a = Fr 31 (upd (upd (upd σ251 1 (.float .f64 a1)) 2 (Pt b220 0)) 5 (.int .i64 z250)) ∧ St w0 w I [cells b220 [U6 a0.ID.Session, U6 a0.ID.Seq, U6 a0.Epoch, r0_0, r0_1, r0_2, r0_3]] R) n252 ⟨(0:Int), _, hm, (fu 1 (.float .f64 a1) z (fu 2 (Pt b220 0) z (fu 5 (.int .i64 (0:Int)) z z))), hst⟩ ?_
 rintro n258 _ w253 ⟨z250, σ251, hm, rfl, hst⟩
 obtain ⟨n255, y256, rfl, hm, hx257⟩ := loopN_some hm
 dsimp only [ref11_reads_l1] at hm
 refine wp_seq (wp_seq (wrl (wv (.int .i64 z250) z z z (wv (Pt b220 4) z z (x_field z underlying34 z sizeOf31 z) (wv (r0_1) z z (x_load z isAgg31 (hst.bc0 z)) (wv (.int .i64 ((a0.Scans).length : Int)) z z (x_len z underlying31 (rd_sliceV f0_1)) (wv (.bool (decide (z250 < ((a0.Scans).length : Int)))) z z z (wl_nil (tn ?_)))))))))
 refine bsplit (decide (z250 < ((a0.Scans).length : Int))) (fun hc259 => ?_) (fun hc259 => ?_)
 {
 replace hm := bif_t hc259 hm
 refine wp_ift (cvb hc259) ?_
 refine wp_skip (tn (wp_seq (wp_block (wp_seq ?_))))
 refine wp_region_St hst 14 [0, 1, 2, 3, 4, 5, 6, 7, 8, 9, 10, 11, 12, 13] [0, 0, 2, 0, 14, 30, 62, 0, 128, 0, 896, 1920, 3968, 8191] [] z (by kernel_rfl) (by kernel_rfl) Try.mixed (by kernel_rfl) ?_
 refine wsr (.float .f64 a1) 0 z z z (by kernel_rfl) (fun w hst => z) (wsr (Pt b220 4) 1 z z z (by kernel_rfl) (fun w hst => x_field z underlying34 z sizeOf31 z) (wsr (r0_1) 2 z z z (by kernel_rfl) (fun w hst => x_load z isAgg31 (hst.bc0 z)) (wsr (.int .i64 z250) 3 z z z (by kernel_rfl) (fun w hst => z) ?_)))
 obtain ⟨x260, hx261, hm⟩ := bind_some hm
 obtain ⟨h262, h263, hi264⟩ := geto_some hx261
 refine wsr (.pointer (some (eAddr r0_1 (z250.toNat * 2 + 0)))) 4 z z z (by kernel_rfl) (fun w hst => x_index z z underlying31 sizeOf75 (rd_sliceV f0_1) h262 h263) (wsr (.pointer (some (eAddr r0_1 (z250.toNat * 2 + 0)))) 5 z z z (by kernel_rfl) (fun w hst => x_index_arr_e (i := (0:Int)) z z underlying75 sizeOf57 (by decide) (by decide) z) (wsr (.float .f64 x260.1) 6 z z z (by kernel_rfl) (fun w hst => x_load z isAgg57 (rd_load f0_1 (HL.le.refl _) hst hi264 (by rintro _ rfl; rfl))) (wsr (Pt b220 4) 7 z z z (by kernel_rfl) (fun w hst => x_field z underlying34 z sizeOf31 z) (wsr (r0_1) 8 z z z (by kernel_rfl) (fun w hst => x_load z isAgg31 (hst.bc0 z)) (wsr (.int .i64 z250) 9 z z z (by kernel_rfl) (fun w hst => z) (wsr (.pointer (some (eAddr r0_1 (z250.toNat * 2 + 0)))) 10 z z z (by kernel_rfl) (fun w hst => x_index z z underlying31 sizeOf75 (rd_sliceV f0_1) h262 h263) (wsr (.pointer (some (eAddr r0_1 (z250.toNat * 2 + 1)))) 11 z z z (by kernel_rfl) (fun w hst => x_index_arr_e (i := (1:Int)) z z underlying75 sizeOf57 (by decide) (by decide) z) (wsr (.float .f64 x260.2) 12 z z z (by kernel_rfl) (fun w hst => x_load z isAgg57 (rd_load f0_1 (HL.le.refl _) hst hi264 (by rintro _ rfl; rfl))) ?_))))))))
 refine ws_e1 13 (by kernel_rfl) ?_
 refine nxe [] (by kernel_rfl) z z ?_
 clear hst
 intro w hst
 obtain ⟨t265, ht266, hm⟩ := bind_some hm
 refine wec call74 [F6 a1, F6 x260.1, F6 x260.2] z z ?_
 refine (ref01_Within_ref hst.to0 ht266).mono ?_
 rintro _ w267 ⟨rfl, hst⟩
 refine ⟨_, z, ?_⟩
 replace hst := hst.of0
 refine ws_next (pend' := []) hst (by kernel_rfl) pk_nil ?_
 refine ws_nil ?_
 intro w hst
 refine tn ?_
 refine bsplit t265 (fun hc270 => ?_) (fun hc270 => ?_)
 {
 replace hm := bif_t hc270 hm
 refine wp_ift (cvb hc270) ?_
 refine wp_seq (wrl (wv (.bool true) z z z (wl_nil (tn (wp_ret (blk_r (then_r (then_r ?_))))))))
 replace hm := inr_up hm hx257
 refine blk_r (then_r ?_)
 replace hm := inr_up hm hx274
 obtain rfl := some_inj hm
 refine post_ret (vs := [.bool true]) results43 (rvs_cons (rv_tmp z) rvs_nil) ?_
 exact ⟨z, hst.keep0⟩
}
 {
 replace hm := bif_f hc270 hm
 refine wp_iff (cvb hc270) ?_
 refine wp_skip (blk_n (tn (wrl ?_)))
 refine wv (.int .i64 z250) z z z (wv (.int .i64 (i64.wrap (z250 + (1:Int)))) z z z (wv (.int .i64 (i64.wrap (z250 + (1:Int)))) z z z (wl_nil (tn ?_))))
 replace hst := hst.keep1
 obtain rfl := some_inj hm
 exact ⟨_, Nat.lt_succ_self _, (i64.wrap (z250 + (1:Int))), _, hx257, (fu 1 (.float .f64 a1) z (fu 2 (Pt b220 0) z (fu 5 (.int .i64 (i64.wrap (z250 + (1:Int)))) z z))), hst⟩
}
}
 {
 replace hm := bif_f hc259 hm
 refine wp_iff (cvb hc259) ?_
 refine wp_exit (then_x (then_x ?_))
 replace hm := inr_up hm hx257
 refine blk_x (tn ?_)
 replace hst := hst.keep1
 obtain rfl := some_inj hm
 exact ⟨_, hx274, (fu 1 (.float .f64 a1) z (fu 2 (Pt b220 0) z z)), hst⟩
}
}
 {
 clear hst
 rintro _ w275 ⟨σ271, hm, rfl, hst⟩
 dsimp only [ref11_reads_j0] at hm
 refine wp_seq (wrl (wv (Pt b220 3) z z (x_field z underlying34 z sizeOf30 z) (wv (r0_0) z z (x_load z isAgg30 (hst.bc0 z)) (wv (.float .f64 a1) z z z ?_))))
 obtain ⟨t276, ht277, hm⟩ := bind_some hm
 refine wc call42 [r0_0, F6 a1] z z z ?_
 refine (ref11_has_ref (f0_0.mono (rd_weak _)) hst.to0 ht277).mono ?_
 rintro _ w278 ⟨rfl, hst⟩
 refine ⟨_, z, ?_⟩
 replace hst := hst.of0
 refine wv (.bool t276) z z z (wl_nil (tn (wp_ret ?_)))
 obtain rfl := some_inj hm
 refine post_ret (vs := [.bool t276]) results43 (rvs_cons (rv_tmp z) rvs_nil) ?_
 exact ⟨z, hst.keep0⟩
}
}

theorem ref11_Meet_ref {w0 w : World} {I : HL} {R : SP} {a0 : api_Hold} {r0_0 : Value} {r0_1 : Value} {r0_2 : Value} {r0_3 : Value} {a1 : api_Hold} {r1_0 : Value} {r1_1 : Value} {r1_2 : Value} {r1_3 : Value} (f0_0 : Rd tyF64 R I r0_0 a0.Gets) (f0_1 : Rd tyF2 R I r0_1 a0.Scans) (f0_2 : Rd tyF64 R I r0_2 a0.Puts) (f0_3 : Rd (tyInt .u8) R I r0_3 a0.Data) (f1_0 : Rd tyF64 R I r1_0 a1.Gets) (f1_1 : Rd tyF2 R I r1_1 a1.Scans) (f1_2 : Rd tyF64 R I r1_2 a1.Puts) (f1_3 : Rd (tyInt .u8) R I r1_3 a1.Data) (hst : St w0 w I [] R) {r : (Bool)} (hm : ref11_Meet a0 a1 = some r) :
  Calls prog 15 #[.agg #[U6 a0.ID.Session, U6 a0.ID.Seq, U6 a0.Epoch, r0_0, r0_1, r0_2, r0_3], .agg #[U6 a1.ID.Session, U6 a1.ID.Seq, U6 a1.Epoch, r1_0, r1_1, r1_2, r1_3]] w fun e w' => e = .returned (.bool r) ∧ St w0 w' I [] R := by {
 unfold ref11_Meet at hm
 refine calls_start (args := [.agg #[U6 a0.ID.Session, U6 a0.ID.Seq, U6 a0.Epoch, r0_0, r0_1, r0_2, r0_3], .agg #[U6 a1.ID.Session, U6 a1.ID.Seq, U6 a1.Epoch, r1_0, r1_1, r1_2, r1_3]]) func15 z ntmps15 (Nat.le_of_ble_eq_true z) ?_
 refine wp_seq (wrl ?_)
 obtain ⟨b273, w274, ew275, eb276, hst⟩ := hst.box [U6 a0.ID.Session, U6 a0.ID.Seq, U6 a0.Epoch, r0_0, r0_1, r0_2, r0_3] 34
 refine wl_run (v := Pt b273 0) (w' := w274) z z (x_al (by kernel_rfl) ew275 eb276) ?_
 obtain ⟨b278, w279, ew280, eb281, hst⟩ := hst.box [U6 a1.ID.Session, U6 a1.ID.Seq, U6 a1.Epoch, r1_0, r1_1, r1_2, r1_3] 34
 refine wl_run (v := Pt b278 0) (w' := w279) z z (x_al (by kernel_rfl) ew280 eb281) ?_
 refine wv (.bool false) z z z (wl_nil (tn ?_))
 obtain ⟨y349, hm, hx350⟩ := joinO_some hm
 refine wp_cut (fun a w => ∃ (σ347 : Nat → Value), (ref11_Meet_j0 a1 a0) () = some r ∧ a = Fr 45 (upd (upd σ347 2 (Pt b273 0)) 3 (Pt b278 0)) ∧ St w0 w I [cells b273 [U6 a0.ID.Session, U6 a0.ID.Seq, U6 a0.Epoch, r0_0, r0_1, r0_2, r0_3], cells b278 [U6 a1.ID.Session, U6 a1.ID.Seq, U6 a1.Epoch, r1_0, r1_1, r1_2, r1_3]] R) ?_ ?_
 {
 refine wp_seq (wrl (wv (.int .i64 (0:Int)) z z z (wl_nil (tn (wp_block ?_)))))
 obtain ⟨n322, hm⟩ := loopO_some hm
 refine wp_loop_n (fun n a w => ∃ (z320 : Int) (σ321 : Nat → Value), loopN (ref11_Meet_l1 a0 a1) n z320 = some y349 ∧ a = Fr 45 (upd (upd (upd σ321 2 (Pt b273 0)) 3 (Pt b278 0)) 5 (.int .i64 z320)) ∧ St w0 w I [cells b278 [U6 a1.ID.Session, U6 a1.ID.Seq, U6 a1.Epoch, r1_0, r1_1, r1_2, r1_3], cells b273 [U6 a0.ID.Session, U6 a0.ID.Seq, U6 a0.Epoch, r0_0, r0_1, r0_2, r0_3]] R) n322 ⟨(0:Int), _, hm, (fu 2 (Pt b273 0) z (fu 3 (Pt b278 0) z (fu 5 (.int .i64 (0:Int)) z z))), hst⟩ ?_
 rintro n328 _ w323 ⟨z320, σ321, hm, rfl, hst⟩
 obtain ⟨n325, y326, rfl, hm, hx327⟩ := loopN_some hm
 dsimp only [ref11_Meet_l1] at hm
 refine wp_seq (wp_seq (wrl (wv (.int .i64 z320) z z z (wv (Pt b273 5) z z (x_field z underlying34 z sizeOf30 z) (wv (r0_2) z z (x_load z isAgg30 (hst.bc1 z)) (wv (.int .i64 ((a0.Puts).length : Int)) z z (x_len z underlying30 (rd_sliceV f0_2)) (wv (.bool (decide (z320 < ((a0.Puts).length : Int)))) z z z (wl_nil (tn ?_)))))))))
 refine bsplit (decide (z320 < ((a0.Puts).length : Int))) (fun hc329 => ?_) (fun hc329 => ?_)
 {
 replace hm := bif_t hc329 hm
 refine wp_ift (cvb hc329) ?_
 refine wp_skip (tn (wp_seq (wp_block (wp_seq ?_))))
 refine wp_region_St hst 17 [0, 1, 2, 3, 4, 5, 6, 7, 8, 9, 10, 11, 12, 13, 14, 15, 16] [0, 1, 0, 4, 0, 28, 60, 127, 255, 511, 511, 1535, 511, 7679, 15871, 32767, 65535] [] z (by kernel_rfl) (by kernel_rfl) Try.mixed (by kernel_rfl) ?_
 refine wsr (Pt b278 5) 0 z z z (by kernel_rfl) (fun w hst => x_field z underlying34 z sizeOf30 z) (wsr (r1_2) 1 z z z (by kernel_rfl) (fun w hst => x_load z isAgg30 (hst.bc0 z)) (wsr (Pt b273 5) 2 z z z (by kernel_rfl) (fun w hst => x_field z underlying34 z sizeOf30 z) (wsr (r0_2) 3 z z z (by kernel_rfl) (fun w hst => x_load z isAgg30 (hst.bc1 z)) (wsr (.int .i64 z320) 4 z z z (by kernel_rfl) (fun w hst => z) ?_))))
 obtain ⟨x330, hx331, hm⟩ := bind_some hm
 obtain ⟨h332, h333, hi334⟩ := geto_some hx331
 refine wsr (.pointer (some (eAddr r0_2 (z320.toNat * 1 + 0)))) 5 z z z (by kernel_rfl) (fun w hst => x_index z z underlying30 sizeOf57 (rd_sliceV f0_2) h332 h333) (wsr (.float .f64 x330) 6 z z z (by kernel_rfl) (fun w hst => x_load z isAgg57 (rd_load f0_2 (HL.le.refl _) hst hi334 (by rintro _ rfl; rfl))) ?_)
 refine ws_e1 7 (by kernel_rfl) ?_
 refine nxe [8, 9, 10, 11, 12, 13, 14, 15, 16] (by kernel_rfl) z z ?_
 clear hst
 intro w hst
 obtain ⟨t335, ht336, hm⟩ := bind_some hm
 refine wec call42 [r1_2, F6 x330] z z ?_
 refine (ref11_has_ref (f1_2.mono (rd_weak _)) hst.to0 ht336).mono ?_
 rintro _ w337 ⟨rfl, hst⟩
 refine ⟨_, z, ?_⟩
 replace hst := hst.of0
 refine ws_next (pend' := []) hst (by kernel_rfl) pk_nil ?_
 refine wsr (.bool t335) 8 z z z (by kernel_rfl) (fun w hst => z) ?_
 refine bsplit t335 (fun hc340 => ?_) (fun hc340 => ?_)
 {
 replace hm := bif_t hc340 hm
 refine ws_q (v := undef) 9 [10, 11, 12, 13, 14, 15, 16] (by kernel_rfl) z z (yi_off ((wanted_eq z z z (cvb hc340)).trans z)) (ws_q (v := undef) 10 [11, 12, 13, 14, 15, 16] (by kernel_rfl) z z (yi_off ((wanted_eq z z z (cvb hc340)).trans z)) (ws_q (v := undef) 11 [12, 13, 14, 15, 16] (by kernel_rfl) z z (yi_off ((wanted_eq z z z (cvb hc340)).trans z)) (ws_q (v := undef) 12 [13, 14, 15, 16] (by kernel_rfl) z z (yi_off ((wanted_eq z z z (cvb hc340)).trans z)) (ws_q (v := undef) 13 [14, 15, 16] (by kernel_rfl) z z (yi_off ((wanted_eq z z z (cvb hc340)).trans z)) (ws_q (v := undef) 14 [15, 16] (by kernel_rfl) z z (yi_off ((wanted_eq z z z (cvb hc340)).trans z)) (ws_q (v := undef) 15 [16] (by kernel_rfl) z z (yi_off ((wanted_eq z z z (cvb hc340)).trans z)) (wsr (.bool true) 16 z z z (by kernel_rfl) (fun w hst => x_pick_t hc340 z z) ?_)))))))
 refine ws_nil ?_
 intro w hst
 refine tn ?_
 refine wp_ift z ?_
 refine wp_seq (wrl (wv (.bool true) z z z (wl_nil (tn (wp_ret (blk_r (then_r (then_r ?_))))))))
 replace hm := inr_up hm hx327
 refine blk_r (then_r ?_)
 replace hm := inr_up hm hx350
 obtain rfl := some_inj hm
 refine post_ret (vs := [.bool true]) results15 (rvs_cons (rv_tmp z) rvs_nil) ?_
 exact ⟨z, hst.keep0⟩
}
 {
 replace hm := bif_f hc340 hm
 refine ws_q (v := .agg #[U6 a1.ID.Session, U6 a1.ID.Seq, U6 a1.Epoch, r1_0, r1_1, r1_2, r1_3]) 9 [10, 11, 12, 13, 14, 15, 16] (by kernel_rfl) z z (yi_run ((wanted_eq z z z (cvb hc340)).trans z) (fun w hst => x_loadN (cs := [U6 a1.ID.Session, U6 a1.ID.Seq, U6 a1.Epoch, r1_0, r1_1, r1_2, r1_3]) z isAgg34 sizeOf34 (hst.bcs0 0 z))) (ws_q (v := Pt b273 5) 10 [11, 12, 13, 14, 15, 16] (by kernel_rfl) z z (yi_run ((wanted_eq z z z (cvb hc340)).trans z) (fun w hst => x_field z underlying34 z sizeOf30 z)) (ws_q (v := r0_2) 11 [12, 13, 14, 15, 16] (by kernel_rfl) z z (yi_run ((wanted_eq z z z (cvb hc340)).trans z) (fun w hst => x_load z isAgg30 (hst.bc1 z))) (ws_q (v := .int .i64 z320) 12 [13, 14, 15, 16] (by kernel_rfl) z z (yi_run ((wanted_eq z z z (cvb hc340)).trans z) (fun w hst => z)) (ws_q (v := .pointer (some (eAddr r0_2 (z320.toNat * 1 + 0)))) 13 [14, 15, 16] (by kernel_rfl) z z (yi_run ((wanted_eq z z z (cvb hc340)).trans z) (fun w hst => x_index z z underlying30 sizeOf57 (rd_sliceV f0_2) h332 h333)) (ws_q (v := .float .f64 x330) 14 [15, 16] (by kernel_rfl) z z (yi_run ((wanted_eq z z z (cvb hc340)).trans z) (fun w hst => x_load z isAgg57 (rd_load f0_2 (HL.le.refl _) hst hi334 (by rintro _ rfl; rfl)))) ?_)))))
 refine ws_e1 15 (by kernel_rfl) ?_
 refine nxe [16] (by kernel_rfl) z ((wanted_eq z z z (cvb hc340)).trans z) ?_
 clear hst
 intro w hst
 obtain ⟨t341, ht342, hm⟩ := bind_some hm
 refine wec call43 [.agg #[U6 a1.ID.Session, U6 a1.ID.Seq, U6 a1.Epoch, r1_0, r1_1, r1_2, r1_3], F6 x330] z z ?_
 refine (ref11_reads_ref (f1_0.mono (rd_weak _)) (f1_1.mono (rd_weak _)) (f1_2.mono (rd_weak _)) (f1_3.mono (rd_weak _)) hst.to0 ht342).mono ?_
 rintro _ w343 ⟨rfl, hst⟩
 refine ⟨_, z, ?_⟩
 replace hst := hst.of0
 refine ws_next (pend' := []) hst (by kernel_rfl) pk_nil ?_
 refine wsr (.bool t341) 16 z z z (by kernel_rfl) (fun w hst => x_pick_f hc340 z z) ?_
 refine ws_nil ?_
 intro w hst
 refine tn ?_
 refine bsplit t341 (fun hc346 => ?_) (fun hc346 => ?_)
 {
 replace hm := bif_t hc346 hm
 refine wp_ift (cvb hc346) ?_
 refine wp_seq (wrl (wv (.bool true) z z z (wl_nil (tn (wp_ret (blk_r (then_r (then_r ?_))))))))
 replace hm := inr_up hm hx327
 refine blk_r (then_r ?_)
 replace hm := inr_up hm hx350
 obtain rfl := some_inj hm
 refine post_ret (vs := [.bool true]) results15 (rvs_cons (rv_tmp z) rvs_nil) ?_
 exact ⟨z, hst.keep0⟩
}
 {
 replace hm := bif_f hc346 hm
 refine wp_iff (cvb hc346) ?_
 refine wp_skip (blk_n (tn (wrl ?_)))
 refine wv (.int .i64 z320) z z z (wv (.int .i64 (i64.wrap (z320 + (1:Int)))) z z z (wv (.int .i64 (i64.wrap (z320 + (1:Int)))) z z z (wl_nil (tn ?_))))
 replace hst := hst.pull1.pull1.keep2
 obtain rfl := some_inj hm
 exact ⟨_, Nat.lt_succ_self _, (i64.wrap (z320 + (1:Int))), _, hx327, (fu 2 (Pt b273 0) z (fu 3 (Pt b278 0) z (fu 5 (.int .i64 (i64.wrap (z320 + (1:Int)))) z z))), hst⟩
}
}
}
 {
 replace hm := bif_f hc329 hm
 refine wp_iff (cvb hc329) ?_
 refine wp_exit (then_x (then_x ?_))
 replace hm := inr_up hm hx327
 refine blk_x (tn ?_)
 replace hst := hst.pull1.keep2
 obtain rfl := some_inj hm
 exact ⟨_, hx350, (fu 2 (Pt b273 0) z (fu 3 (Pt b278 0) z z)), hst⟩
}
}
 {
 clear hst
 rintro _ w351 ⟨σ347, hm, rfl, hst⟩
 dsimp only [ref11_Meet_j0] at hm
 refine wp_seq (wp_seq (wrl (wv (.int .i64 (0:Int)) z z z (wl_nil (tn (wp_block ?_))))))
 obtain ⟨n379, hm⟩ := loopO_some hm
 refine wp_loop_n (fun n a w => ∃ (z377 : Int) (σ378 : Nat → Value), loopN (ref11_Meet_l2 a1 a0) n z377 = some r ∧ a = Fr 45 (upd (upd (upd σ378 2 (Pt b273 0)) 3 (Pt b278 0)) 6 (.int .i64 z377)) ∧ St w0 w I [cells b273 [U6 a0.ID.Session, U6 a0.ID.Seq, U6 a0.Epoch, r0_0, r0_1, r0_2, r0_3], cells b278 [U6 a1.ID.Session, U6 a1.ID.Seq, U6 a1.Epoch, r1_0, r1_1, r1_2, r1_3]] R) n379 ⟨(0:Int), _, hm, (fu 2 (Pt b273 0) z (fu 3 (Pt b278 0) z (fu 6 (.int .i64 (0:Int)) z z))), hst⟩ ?_
 rintro n385 _ w380 ⟨z377, σ378, hm, rfl, hst⟩
 obtain ⟨n382, y383, rfl, hm, hx384⟩ := loopN_some hm
 dsimp only [ref11_Meet_l2] at hm
 refine wp_seq (wp_seq (wrl (wv (.int .i64 z377) z z z (wv (Pt b278 5) z z (x_field z underlying34 z sizeOf30 z) (wv (r1_2) z z (x_load z isAgg30 (hst.bc1 z)) (wv (.int .i64 ((a1.Puts).length : Int)) z z (x_len z underlying30 (rd_sliceV f1_2)) (wv (.bool (decide (z377 < ((a1.Puts).length : Int)))) z z z (wl_nil (tn ?_)))))))))
 refine bsplit (decide (z377 < ((a1.Puts).length : Int))) (fun hc386 => ?_) (fun hc386 => ?_)
 {
 replace hm := bif_t hc386 hm
 refine wp_ift (cvb hc386) ?_
 refine wp_skip (tn (wp_seq (wp_block (wp_seq ?_))))
 refine wp_region_St hst 7 [0, 1, 2, 3, 4, 5, 6] [0, 0, 2, 0, 14, 30, 63] [] z (by kernel_rfl) (by kernel_rfl) Try.mixed (by kernel_rfl) ?_
 refine wsr (.agg #[U6 a0.ID.Session, U6 a0.ID.Seq, U6 a0.Epoch, r0_0, r0_1, r0_2, r0_3]) 0 z z z (by kernel_rfl) (fun w hst => x_loadN (cs := [U6 a0.ID.Session, U6 a0.ID.Seq, U6 a0.Epoch, r0_0, r0_1, r0_2, r0_3]) z isAgg34 sizeOf34 (hst.bcs0 0 z)) (wsr (Pt b278 5) 1 z z z (by kernel_rfl) (fun w hst => x_field z underlying34 z sizeOf30 z) (wsr (r1_2) 2 z z z (by kernel_rfl) (fun w hst => x_load z isAgg30 (hst.bc1 z)) (wsr (.int .i64 z377) 3 z z z (by kernel_rfl) (fun w hst => z) ?_)))
 obtain ⟨x387, hx388, hm⟩ := bind_some hm
 obtain ⟨h389, h390, hi391⟩ := geto_some hx388
 refine wsr (.pointer (some (eAddr r1_2 (z377.toNat * 1 + 0)))) 4 z z z (by kernel_rfl) (fun w hst => x_index z z underlying30 sizeOf57 (rd_sliceV f1_2) h389 h390) (wsr (.float .f64 x387) 5 z z z (by kernel_rfl) (fun w hst => x_load z isAgg57 (rd_load f1_2 (HL.le.refl _) hst hi391 (by rintro _ rfl; rfl))) ?_)
 refine ws_e1 6 (by kernel_rfl) ?_
 refine nxe [] (by kernel_rfl) z z ?_
 clear hst
 intro w hst
 obtain ⟨t392, ht393, hm⟩ := bind_some hm
 refine wec call43 [.agg #[U6 a0.ID.Session, U6 a0.ID.Seq, U6 a0.Epoch, r0_0, r0_1, r0_2, r0_3], F6 x387] z z ?_
 refine (ref11_reads_ref (f0_0.mono (rd_weak _)) (f0_1.mono (rd_weak _)) (f0_2.mono (rd_weak _)) (f0_3.mono (rd_weak _)) hst.to0 ht393).mono ?_
 rintro _ w394 ⟨rfl, hst⟩
 refine ⟨_, z, ?_⟩
 replace hst := hst.of0
 refine ws_next (pend' := []) hst (by kernel_rfl) pk_nil ?_
 refine ws_nil ?_
 intro w hst
 refine tn ?_
 refine bsplit t392 (fun hc397 => ?_) (fun hc397 => ?_)
 {
 replace hm := bif_t hc397 hm
 refine wp_ift (cvb hc397) ?_
 refine wp_seq (wrl (wv (.bool true) z z z (wl_nil (tn (wp_ret (blk_r (then_r (then_r ?_))))))))
 replace hm := inr_up hm hx384
 refine blk_r (then_r ?_)
 obtain rfl := some_inj hm
 refine post_ret (vs := [.bool true]) results15 (rvs_cons (rv_tmp z) rvs_nil) ?_
 exact ⟨z, hst.keep0⟩
}
 {
 replace hm := bif_f hc397 hm
 refine wp_iff (cvb hc397) ?_
 refine wp_skip (blk_n (tn (wrl ?_)))
 refine wv (.int .i64 z377) z z z (wv (.int .i64 (i64.wrap (z377 + (1:Int)))) z z z (wv (.int .i64 (i64.wrap (z377 + (1:Int)))) z z z (wl_nil (tn ?_))))
 replace hst := hst.pull1.pull1.keep2
 obtain rfl := some_inj hm
 exact ⟨_, Nat.lt_succ_self _, (i64.wrap (z377 + (1:Int))), _, hx384, (fu 2 (Pt b273 0) z (fu 3 (Pt b278 0) z (fu 6 (.int .i64 (i64.wrap (z377 + (1:Int)))) z z))), hst⟩
}
}
 {
 replace hm := bif_f hc386 hm
 refine wp_iff (cvb hc386) ?_
 refine wp_exit (then_x (then_x ?_))
 replace hm := inr_up hm hx384
 refine blk_x (tn (wp_seq (wrl ?_)))
 refine wv (.bool false) z z z (wl_nil (tn (wp_ret ?_)))
 obtain rfl := some_inj hm
 refine post_ret (vs := [.bool false]) results15 (rvs_cons (rv_tmp z) rvs_nil) ?_
 exact ⟨z, hst.keep0⟩
}
}
}

theorem ref11_Take_ref {w0 w : World} {I : HL} {R : SP} {a0 : (List api_Hold)} {r0_0 : Value} {a1 : api_Hold} {r1_0 : Value} {r1_1 : Value} {r1_2 : Value} {r1_3 : Value} (f0_0 : Ro ty_api_Hold I r0_0 a0) (f1_0 : Ro tyF64 I r1_0 a1.Gets) (f1_1 : Ro tyF2 I r1_1 a1.Scans) (f1_2 : Ro tyF64 I r1_2 a1.Puts) (f1_3 : Ro (tyInt .u8) I r1_3 a1.Data) (hst : St w0 w I [] R) {r : ((List api_Hold) × Bool)} (hm : ref11_Take a0 a1 = some r) :
  Calls prog 25 #[r0_0, .agg #[U6 a1.ID.Session, U6 a1.ID.Seq, U6 a1.Epoch, r1_0, r1_1, r1_2, r1_3]] w fun e w' => ∃ (I' : HL) (q0_0 : Value), e = .returned (.tuple #[q0_0, .bool r.2]) ∧ I.le I' ∧ Ro ty_api_Hold I' q0_0 r.1 ∧ St w0 w' I' [] R := by {
 unfold ref11_Take at hm
 refine calls_start (args := [r0_0, .agg #[U6 a1.ID.Session, U6 a1.ID.Seq, U6 a1.Epoch, r1_0, r1_1, r1_2, r1_3]]) func25 z ntmps25 (Nat.le_of_ble_eq_true z) ?_
 have hI0 := HL.le.refl I
 refine wp_seq (wrl ?_)
 obtain ⟨b283, w284, ew285, eb286, hst⟩ := hst.box [U6 a1.ID.Session, U6 a1.ID.Seq, U6 a1.Epoch, r1_0, r1_1, r1_2, r1_3] 34
 refine wl_run (v := Pt b283 0) (w' := w284) z z (x_al (by kernel_rfl) ew285 eb286) ?_
 refine wv ((.slice none 0 0)) z z z (wv (.bool false) z z z (wl_nil (tn ?_)))
 obtain ⟨y385, hm, hx386⟩ := joinO_some hm
 refine wp_cut (fun a w => ∃ (σ383 : Nat → Value), (ref11_Take_j0 a0 a1) () = some r ∧ a = Fr 37 (upd (upd σ383 0 (r0_0)) 3 (Pt b283 0)) ∧ St w0 w I [cells b283 [U6 a1.ID.Session, U6 a1.ID.Seq, U6 a1.Epoch, r1_0, r1_1, r1_2, r1_3]] R) ?_ ?_
 {
 refine wp_seq (wrl (wv (.int .i64 (0:Int)) z z z (wl_nil (tn (wp_block ?_)))))
 obtain ⟨n348, hm⟩ := loopO_some hm
 refine wp_loop_n (fun n a w => ∃ (z346 : Int) (σ347 : Nat → Value), loopN (ref11_Take_l1 a0 a1) n z346 = some y385 ∧ a = Fr 37 (upd (upd (upd σ347 0 (r0_0)) 3 (Pt b283 0)) 6 (.int .i64 z346)) ∧ St w0 w I [cells b283 [U6 a1.ID.Session, U6 a1.ID.Seq, U6 a1.Epoch, r1_0, r1_1, r1_2, r1_3]] R) n348 ⟨(0:Int), _, hm, (fu 0 r0_0 z (fu 3 (Pt b283 0) z (fu 6 (.int .i64 (0:Int)) z z))), hst⟩ ?_
 rintro n354 _ w349 ⟨z346, σ347, hm, rfl, hst⟩
 obtain ⟨n351, y352, rfl, hm, hx353⟩ := loopN_some hm
 dsimp only [ref11_Take_l1] at hm
 refine wp_seq (wp_seq (wrl (wv (.int .i64 z346) z z z (wv (r0_0) z z z (wv (.int .i64 ((a0).length : Int)) z z (x_len z underlying22 (ro_sliceV f0_0)) (wv (.bool (decide (z346 < ((a0).length : Int)))) z z z (wl_nil (tn ?_))))))))
 refine bsplit (decide (z346 < ((a0).length : Int))) (fun hc355 => ?_) (fun hc355 => ?_)
 {
 replace hm := bif_t hc355 hm
 refine wp_ift (cvb hc355) ?_
 refine wp_skip (tn (wp_seq (wp_block (wp_seq ?_))))
 refine wp_region_St hst 16 [0, 1, 2, 3, 4, 5, 6, 7, 8, 9, 10, 11, 12, 13, 14, 15] [0, 0, 3, 7, 15, 0, 32, 127, 255, 511, 511, 2047, 4095, 511, 16383, 32767] [] z (by kernel_rfl) (by kernel_rfl) Try.mixed (by kernel_rfl) ?_
 refine wsr (r0_0) 0 z z z (by kernel_rfl) (fun w hst => z) (wsr (.int .i64 z346) 1 z z z (by kernel_rfl) (fun w hst => z) ?_)
 obtain ⟨x356, hx357, hm⟩ := bind_some hm
 obtain ⟨h358, h359, hi360⟩ := geto_some hx357
 refine wsr (.pointer (some (eAddr r0_0 (z346.toNat * 7 + 0)))) 2 z z z (by kernel_rfl) (fun w hst => x_index z z underlying22 sizeOf34 (ro_sliceV f0_0) h358 h359) (wsr (.pointer (some (eAddr r0_0 (z346.toNat * 7 + 0)))) 3 z z z (by kernel_rfl) (fun w hst => x_field_e z underlying34 z sizeOf29 z) ?_)
 obtain ⟨cs361, hr362, hc363⟩ := Ro.getF f0_0 hi360
 obtain ⟨v364, v367, v370, v373, rfl, f365, f368, f371, f374, -⟩ := hr362
 refine wsr (.agg #[U6 x356.ID.Session, U6 x356.ID.Seq]) 4 z z z (by kernel_rfl) (fun w hst => x_loadN (cs := [U6 x356.ID.Session, U6 x356.ID.Seq]) z isAgg29 sizeOf29 (eCells (o := 0) (hc363 (HL.le.refl _) hst) z)) (wsr (Pt b283 0) 5 z z z (by kernel_rfl) (fun w hst => x_field z underlying34 z sizeOf29 z) (wsr (.agg #[U6 a1.ID.Session, U6 a1.ID.Seq]) 6 z z z (by kernel_rfl) (fun w hst => x_loadN (cs := [U6 a1.ID.Session, U6 a1.ID.Seq]) z isAgg29 sizeOf29 (hst.bcs0 0 z)) (wsr (.bool (!((x356.ID.Session == a1.ID.Session) && (x356.ID.Seq == a1.ID.Seq)))) 7 z z z (by kernel_rfl) (fun w hst => x_aggne2 z z (by kernel_rfl) underlying29 (by kernel_rfl) (by kernel_rfl) (by kernel_rfl) underlying27 underlying27 (fun _ _ _ => by kernel_rfl) (fun _ _ _ => by kernel_rfl)) (wsr (.bool (!((x356.ID.Session == a1.ID.Session) && (x356.ID.Seq == a1.ID.Seq)))) 8 z z z (by kernel_rfl) (fun w hst => z) ?_))))
 refine bsplit (!((x356.ID.Session == a1.ID.Session) && (x356.ID.Seq == a1.ID.Seq))) (fun hc376 => ?_) (fun hc376 => ?_)
 {
 replace hm := bif_t hc376 hm
 refine ws_q (v := r0_0) 9 [10, 11, 12, 13, 14, 15] (by kernel_rfl) z z (yi_run ((wanted_eq z z z (cvb hc376)).trans z) (fun w hst => z)) (ws_q (v := .int .i64 z346) 10 [11, 12, 13, 14, 15] (by kernel_rfl) z z (yi_run ((wanted_eq z z z (cvb hc376)).trans z) (fun w hst => z)) (ws_q (v := .pointer (some (eAddr r0_0 (z346.toNat * 7 + 0)))) 11 [12, 13, 14, 15] (by kernel_rfl) z z (yi_run ((wanted_eq z z z (cvb hc376)).trans z) (fun w hst => x_index z z underlying22 sizeOf34 (ro_sliceV f0_0) h358 h359)) (ws_q (v := .agg #[U6 x356.ID.Session, U6 x356.ID.Seq, U6 x356.Epoch, v364, v367, v370, v373]) 12 [13, 14, 15] (by kernel_rfl) z z (yi_run ((wanted_eq z z z (cvb hc376)).trans z) (fun w hst => x_loadN (cs := [U6 x356.ID.Session, U6 x356.ID.Seq, U6 x356.Epoch, v364, v367, v370, v373]) z isAgg34 sizeOf34 (eCells (o := 0) (hc363 (HL.le.refl _) hst) z))) (ws_q (v := .agg #[U6 a1.ID.Session, U6 a1.ID.Seq, U6 a1.Epoch, r1_0, r1_1, r1_2, r1_3]) 13 [14, 15] (by kernel_rfl) z z (yi_run ((wanted_eq z z z (cvb hc376)).trans z) (fun w hst => x_loadN (cs := [U6 a1.ID.Session, U6 a1.ID.Seq, U6 a1.Epoch, r1_0, r1_1, r1_2, r1_3]) z isAgg34 sizeOf34 (hst.bcs0 0 z))) ?_))))
 refine ws_e1 14 (by kernel_rfl) ?_
 refine nxe [15] (by kernel_rfl) z ((wanted_eq z z z (cvb hc376)).trans z) ?_
 clear hst
 intro w hst
 obtain ⟨t377, ht378, hm⟩ := bind_some hm
 refine wec call15 [.agg #[U6 x356.ID.Session, U6 x356.ID.Seq, U6 x356.Epoch, v364, v367, v370, v373], .agg #[U6 a1.ID.Session, U6 a1.ID.Seq, U6 a1.Epoch, r1_0, r1_1, r1_2, r1_3]] z z ?_
 refine (ref11_Meet_ref (f365.mono ro_rd) (f368.mono ro_rd) (f371.mono ro_rd) (f374.mono ro_rd) (f1_0.mono ro_rd) (f1_1.mono ro_rd) (f1_2.mono ro_rd) (f1_3.mono ro_rd) hst.to0 ht378).mono ?_
 rintro _ w379 ⟨rfl, hst⟩
 refine ⟨_, z, ?_⟩
 replace hst := hst.of0
 refine ws_next (pend' := []) hst (by kernel_rfl) pk_nil ?_
 refine wsr (.bool t377) 15 z z z (by kernel_rfl) (fun w hst => x_pick_t hc376 z z) ?_
 refine ws_nil ?_
 intro w hst
 refine tn ?_
 refine bsplit t377 (fun hc382 => ?_) (fun hc382 => ?_)
 {
 replace hm := bif_t hc382 hm
 refine wp_ift (cvb hc382) ?_
 refine wp_seq (wrl (wv (r0_0) z z z (wv (r0_0) z z z (wv (.bool false) z z z (wl_nil (tn (wp_ret (blk_r (then_r (then_r ?_))))))))))
 replace hm := inr_up hm hx353
 refine blk_r (then_r ?_)
 replace hm := inr_up hm hx386
 obtain rfl := some_inj hm
 refine post_ret (vs := [r0_0, .bool false]) results25 (rvs_cons (rv_tmp z) (rvs_cons (rv_tmp z) rvs_nil)) ?_
 exact ⟨_, r0_0, z, hI0, f0_0, hst.keep0⟩
}
 {
 replace hm := bif_f hc382 hm
 refine wp_iff (cvb hc382) ?_
 refine wp_skip (blk_n (tn (wrl ?_)))
 refine wv (.int .i64 z346) z z z (wv (.int .i64 (i64.wrap (z346 + (1:Int)))) z z z (wv (.int .i64 (i64.wrap (z346 + (1:Int)))) z z z (wl_nil (tn ?_))))
 replace hst := hst.keep1
 obtain rfl := some_inj hm
 exact ⟨_, Nat.lt_succ_self _, (i64.wrap (z346 + (1:Int))), _, hx353, (fu 0 r0_0 z (fu 3 (Pt b283 0) z (fu 6 (.int .i64 (i64.wrap (z346 + (1:Int)))) z z))), hst⟩
}
}
 {
 replace hm := bif_f hc376 hm
 refine ws_q (v := undef) 9 [10, 11, 12, 13, 14, 15] (by kernel_rfl) z z (yi_off ((wanted_eq z z z (cvb hc376)).trans z)) (ws_q (v := undef) 10 [11, 12, 13, 14, 15] (by kernel_rfl) z z (yi_off ((wanted_eq z z z (cvb hc376)).trans z)) (ws_q (v := undef) 11 [12, 13, 14, 15] (by kernel_rfl) z z (yi_off ((wanted_eq z z z (cvb hc376)).trans z)) (ws_q (v := undef) 12 [13, 14, 15] (by kernel_rfl) z z (yi_off ((wanted_eq z z z (cvb hc376)).trans z)) (ws_q (v := undef) 13 [14, 15] (by kernel_rfl) z z (yi_off ((wanted_eq z z z (cvb hc376)).trans z)) (ws_q (v := undef) 14 [15] (by kernel_rfl) z z (yi_off ((wanted_eq z z z (cvb hc376)).trans z)) (wsr (.bool false) 15 z z z (by kernel_rfl) (fun w hst => x_pick_f hc376 z z) ?_))))))
 refine ws_nil ?_
 intro w hst
 refine tn ?_
 refine wp_iff z ?_
 refine wp_skip (blk_n (tn (wrl ?_)))
 refine wv (.int .i64 z346) z z z (wv (.int .i64 (i64.wrap (z346 + (1:Int)))) z z z (wv (.int .i64 (i64.wrap (z346 + (1:Int)))) z z z (wl_nil (tn ?_))))
 replace hst := hst.keep1
 obtain rfl := some_inj hm
 exact ⟨_, Nat.lt_succ_self _, (i64.wrap (z346 + (1:Int))), _, hx353, (fu 0 r0_0 z (fu 3 (Pt b283 0) z (fu 6 (.int .i64 (i64.wrap (z346 + (1:Int)))) z z))), hst⟩
}
}
 {
 replace hm := bif_f hc355 hm
 refine wp_iff (cvb hc355) ?_
 refine wp_exit (then_x (then_x ?_))
 replace hm := inr_up hm hx353
 refine blk_x (tn ?_)
 replace hst := hst.keep1
 obtain rfl := some_inj hm
 exact ⟨_, hx386, (fu 0 r0_0 z (fu 3 (Pt b283 0) z z)), hst⟩
}
}
 {
 clear hst
 rintro _ w387 ⟨σ383, hm, rfl, hst⟩
 dsimp only [ref11_Take_j0] at hm
 refine wp_seq ?_
 obtain ⟨y433, hm, hx434⟩ := bind_some hm
 refine wp_mid (fun a w => ∃ (z430 : (List api_Hold)) (v429 : Value) (σ431 : Nat → Value), (ref11_Take_j2) z430 = some r ∧ a = Fr 37 (upd (upd σ431 4 (v429)) 5 (.bool true)) ∧ St w0 w I [ownS ty_api_Hold v429 z430] R) ?_ ?_
 {
 refine wp_region_St hst 9 [0, 1, 2, 3, 4, 5, 6, 7, 8] [0, 0, 2, 7, 0, 16, 63, 127, 255] [] z (by kernel_rfl) (by kernel_rfl) Try.mixed (by kernel_rfl) ?_
 refine wsr (r0_0) 0 z z z (by kernel_rfl) (fun w hst => z) (wsr (Pt b283 0) 1 z z z (by kernel_rfl) (fun w hst => x_field z underlying34 z sizeOf29 z) (wsr (.agg #[U6 a1.ID.Session, U6 a1.ID.Seq]) 2 z z z (by kernel_rfl) (fun w hst => x_loadN (cs := [U6 a1.ID.Session, U6 a1.ID.Seq]) z isAgg29 sizeOf29 (hst.bcs0 0 z)) (wsr (.agg #[U6 a1.ID.Session, U6 a1.ID.Seq, U6 a1.Epoch, r1_0, r1_1, r1_2, r1_3]) 4 z z z (by kernel_rfl) (fun w hst => x_loadN (cs := [U6 a1.ID.Session, U6 a1.ID.Seq, U6 a1.Epoch, r1_0, r1_1, r1_2, r1_3]) z isAgg34 sizeOf34 (hst.bcs0 0 z)) ?_)))
 obtain ⟨t388, ht389, hm⟩ := bind_some hm
 refine ws_e2 3 5 (by kernel_rfl) ?_ ?_
 {
 refine nxe [5, 6, 7, 8] (by kernel_rfl) z z ?_
 clear hst
 intro w hst
 refine wec call23 [r0_0, .agg #[U6 a1.ID.Session, U6 a1.ID.Seq]] z z ?_
 refine (ref11_Drop_ref f0_0 hst.to0 ht389).mono ?_
 rintro _ w390 ⟨v393, rfl, hst⟩
 refine ⟨_, z, ?_⟩
 replace hst := hst.of1
 refine ws_next (pend' := [(4, .agg #[U6 a1.ID.Session, U6 a1.ID.Seq, U6 a1.Epoch, r1_0, r1_1, r1_2, r1_3])]) hst (by kernel_rfl) (pkr z z (fun w hst => x_loadN (cs := [U6 a1.ID.Session, U6 a1.ID.Seq, U6 a1.Epoch, r1_0, r1_1, r1_2, r1_3]) z isAgg34 sizeOf34 (hst.bcs1 0 z)) pk_nil) ?_
 refine ws_e1 5 (by kernel_rfl) ?_
 refine nxe [6, 7, 8] (by kernel_rfl) z z ?_
 clear hst
 intro w hst
 obtain ⟨b399, w400, ew401, eb402, hst⟩ := hst.lits (E := ty_api_Hold) (xs := [a1]) [[U6 a1.ID.Session, U6 a1.ID.Seq, U6 a1.Epoch, r1_0, r1_1, r1_2, r1_3]] 34 1 z (Reps.cons ⟨_, _, _, _, z, f1_0, f1_1, f1_2, f1_3, one_of_sliceV (ro_sliceV f1_0), one_of_sliceV (ro_sliceV f1_1), one_of_sliceV (ro_sliceV f1_2), one_of_sliceV (ro_sliceV f1_3)⟩ Reps.nil)
 refine we_run (v := (.slice (some ⟨b399, 0, none⟩) 1 1)) (w' := w400) z (x_als (by kernel_rfl) ew401 eb402) ?_
 refine ws_next (pend' := []) hst (by kernel_rfl) pk_nil ?_
 refine ws_e1 6 (by kernel_rfl) ?_
 refine nxe [7, 8] (by kernel_rfl) z z ?_
 clear hst
 intro w hst
 obtain ⟨hg404, hm⟩ := gd_some hm
 replace hst := hst.pull1
 obtain ⟨v405, w406, hr407, hst⟩ := run_append elem_22 underlying22 hst hst.src1 (room_of hg404 z) 22
 refine we_run (v := v405) (w' := w406) z (x_append z z hr407) ?_
 refine ws_next (pend' := []) hst (by kernel_rfl) pk_nil ?_
 refine wsr (v405) 7 z z z (by kernel_rfl) (fun w hst => z) (wsr (.bool true) 8 z z z (by kernel_rfl) (fun w hst => z) ?_)
 refine ws_nil ?_
 intro w hst
 refine ⟨z, ?_⟩
 replace hst := hst.keep1
 obtain rfl := some_inj hm
 exact ⟨(t388 ++ ([a1])), v405, _, hx434, (fu 4 v405 z (fu 5 (.bool true) z z)), hst⟩
}
 {
 refine nxe [3, 6, 7, 8] (by kernel_rfl) z z ?_
 clear hst
 intro w hst
 obtain ⟨b413, w414, ew415, eb416, hst⟩ := hst.lits (E := ty_api_Hold) (xs := [a1]) [[U6 a1.ID.Session, U6 a1.ID.Seq, U6 a1.Epoch, r1_0, r1_1, r1_2, r1_3]] 34 1 z (Reps.cons ⟨_, _, _, _, z, f1_0, f1_1, f1_2, f1_3, one_of_sliceV (ro_sliceV f1_0), one_of_sliceV (ro_sliceV f1_1), one_of_sliceV (ro_sliceV f1_2), one_of_sliceV (ro_sliceV f1_3)⟩ Reps.nil)
 refine we_run (v := (.slice (some ⟨b413, 0, none⟩) 1 1)) (w' := w414) z (x_als (by kernel_rfl) ew415 eb416) ?_
 refine ws_next (pend' := [(2, .agg #[U6 a1.ID.Session, U6 a1.ID.Seq]), (1, Pt b283 0), (0, r0_0)]) hst (by kernel_rfl) (pkr z z (fun w hst => x_loadN (cs := [U6 a1.ID.Session, U6 a1.ID.Seq]) z isAgg29 sizeOf29 (hst.bcs1 0 z)) (pkr z z (fun w hst => x_field z underlying34 z sizeOf29 z) (pkr z z (fun w hst => z) pk_nil))) ?_
 refine ws_e1 3 (by kernel_rfl) ?_
 refine nxe [6, 7, 8] (by kernel_rfl) z z ?_
 clear hst
 intro w hst
 refine wec call23 [r0_0, .agg #[U6 a1.ID.Session, U6 a1.ID.Seq]] z z ?_
 refine (ref11_Drop_ref f0_0 hst.to0 ht389).mono ?_
 rintro _ w418 ⟨v421, rfl, hst⟩
 refine ⟨_, z, ?_⟩
 replace hst := hst.of1
 refine ws_next (pend' := []) hst (by kernel_rfl) pk_nil ?_
 refine ws_e1 6 (by kernel_rfl) ?_
 refine nxe [7, 8] (by kernel_rfl) z z ?_
 clear hst
 intro w hst
 obtain ⟨hg423, hm⟩ := gd_some hm
 obtain ⟨v424, w425, hr426, hst⟩ := run_append elem_22 underlying22 hst hst.src1 (room_of hg423 z) 22
 refine we_run (v := v424) (w' := w425) z (x_append z z hr426) ?_
 refine ws_next (pend' := []) hst (by kernel_rfl) pk_nil ?_
 refine wsr (v424) 7 z z z (by kernel_rfl) (fun w hst => z) (wsr (.bool true) 8 z z z (by kernel_rfl) (fun w hst => z) ?_)
 refine ws_nil ?_
 intro w hst
 refine ⟨z, ?_⟩
 replace hst := hst.keep1
 obtain rfl := some_inj hm
 exact ⟨(t388 ++ ([a1])), v424, _, hx434, (fu 4 v424 z (fu 5 (.bool true) z z)), hst⟩
}
}
 {
 clear hst
 rintro _ w435 ⟨z430, v429, σ431, hm, rfl, hst⟩
 dsimp only [ref11_Take_j2] at hm
 refine tn (wp_ret ?_)
 obtain ⟨I436, hI437, f438, hst⟩ := hst.own_fix
 replace f0_0 := f0_0.mono (ro_le hI437)
 replace f1_0 := f1_0.mono (ro_le hI437)
 replace f1_1 := f1_1.mono (ro_le hI437)
 replace f1_2 := f1_2.mono (ro_le hI437)
 replace f1_3 := f1_3.mono (ro_le hI437)
 replace hI0 := hI0.trans hI437
 obtain rfl := some_inj hm
 refine post_ret (vs := [v429, .bool true]) results25 (rvs_cons (rv_tmp z) (rvs_cons (rv_tmp z) rvs_nil)) ?_
 exact ⟨_, v429, z, hI0, f438, hst.keep0⟩
}
}
}

theorem locks_Table_All_ref {w0 w : World} {I : HL} {R : SP} {a0 : (Option locks_Table)} {p0 : Value}  (hst : St w0 w I [objO at_locks_Table p0 a0] R) {r : ((List api_ID))} (hm : locks_Table_All a0 = some r) :
  Calls prog 13 #[p0] w fun e w' => ∃ (q0_0 : Value), e = .returned (q0_0) ∧ St w0 w' I [ownS ty_api_ID q0_0 r, objO at_locks_Table p0 a0] R := by {
 rcases a0 with _ | o0
 {
 obtain ⟨rfl, hst'⟩ := objO_none hst
 clear hst
 have hst := hst'
 clear hst'
 dsimp only [locks_Table_All] at hm
 refine calls_start (args := [.pointer none]) func13 z ntmps13 (Nat.le_of_ble_eq_true z) ?_
 refine wp_seq (wrl (wv ((.slice none 0 0)) z z z (wl_nil (tn (wp_seq (wrl (wv ((.slice none 0 0)) z z z (wl_nil (tn (wp_seq (wp_seq (wrl (wv (.pointer none) z z z ?_)))))))))))))
 replace hst := hst.objO_nil at_locks_Table
 obtain ⟨t346, ht347, hm⟩ := bind_some hm
 refine wc call27 [.pointer none] z z z ?_
 refine (locks_Table_Len_ref hst.to1 ht347).mono ?_
 rintro _ w348 ⟨rfl, hst⟩
 refine ⟨_, z, ?_⟩
 replace hst := hst.of1
 refine wv (.int .i64 (0:Int)) z z z (wl_nil (tn (wp_block ?_)))
 replace hst := hst.sub
 obtain ⟨n353, hm⟩ := loopO_some hm
 refine wp_loop_n (fun n a w => ∃ (σ352 : Nat → Value), loopN (locks_Table_All_l0 t346) n () = some r ∧ a = Fr 23 (upd (upd (upd (upd σ352 0 (.pointer none)) 3 ((.slice none 0 0))) 6 (.int .i64 t346)) 7 (.int .i64 (0:Int))) ∧ St w0 w I [] R) n353 ⟨_, hm, (fu 0 (.pointer none) z (fu 3 (.slice none 0 0) z (fu 6 (.int .i64 t346) z (fu 7 (.int .i64 (0:Int)) z z)))), hst⟩ ?_
 rintro n359 _ w354 ⟨σ352, hm, rfl, hst⟩
 obtain ⟨n356, y357, rfl, hm, hx358⟩ := loopN_some hm
 dsimp only [locks_Table_All_l0] at hm
 refine wp_seq (wrl (wv (.bool (decide ((0:Int) < t346))) z z z (wl_nil (tn (wp_seq ?_)))))
 refine bsplit (decide ((0:Int) < t346)) (fun hc360 => ?_) (fun hc360 => ?_)
 {
 replace hm := bif_t hc360 hm
 refine wp_ift (cvb hc360) ?_
 refine wp_skip (tn (wp_seq (wp_block (wp_seq (wrl ?_)))))
 refine wv (.int .i64 (0:Int)) z z z (wv (.int .i64 (0:Int)) z z z (wl_nil (tn (wrl (wv ((.slice none 0 0)) z z z (wv (.pointer none) z z z ?_))))))
 cases hm
}
 {
 replace hm := bif_f hc360 hm
 refine wp_iff (cvb hc360) ?_
 refine wp_exit (then_x (then_x ?_))
 replace hm := inr_up hm hx358
 refine blk_x (tn (wp_seq (wrl ?_)))
 refine wv ((.slice none 0 0)) z z z (wv ((.slice none 0 0)) z z z (wl_nil (tn (wp_ret ?_))))
 replace hst := hst.own_nil ty_api_ID
 replace hst := hst.objO_nil at_locks_Table
 obtain rfl := some_inj hm
 refine post_ret (vs := [Zs]) results13 (rvs_cons (rv_tmp z) rvs_nil) ?_
 replace hst := hst.pull1
 exact ⟨(.slice none 0 0), z, hst.keep2⟩
}
}
 {
 replace hst := objO_get hst
 dsimp only [locks_Table_All] at hm
 refine calls_start (args := [p0]) func13 z ntmps13 (Nat.le_of_ble_eq_true z) ?_
 refine wp_seq (wrl (wv ((.slice none 0 0)) z z z (wl_nil (tn (wp_seq (wrl (wv ((.slice none 0 0)) z z z (wl_nil (tn (wp_seq (wp_seq (wrl (wv (p0) z z z ?_)))))))))))))
 replace hst := objO_some hst
 obtain ⟨t363, ht364, hm⟩ := bind_some hm
 refine wc call27 [p0] z z z ?_
 refine (locks_Table_Len_ref hst.to1 ht364).mono ?_
 rintro _ w365 ⟨rfl, hst⟩
 refine ⟨_, z, ?_⟩
 replace hst := hst.of1
 replace hst := objO_get hst
 refine wv (.int .i64 (0:Int)) z z z (wl_nil (tn (wp_block ?_)))
 replace hst := hst.own_nil ty_api_ID
 obtain ⟨n479, hm⟩ := loopO_some hm
 refine wp_loop_n (fun n a w => ∃ (z474 : (List api_ID)) (z477 : Int) (v475 : Value) (σ478 : Nat → Value), loopN (locks_Table_All_l1 t363 o0) n (z474, z477) = some r ∧ a = Fr 23 (upd (upd (upd (upd σ478 0 (p0)) 3 (v475)) 6 (.int .i64 t363)) 7 (.int .i64 z477)) ∧ St w0 w I [ownS ty_api_ID v475 z474, at_locks_Table p0 o0] R) n479 ⟨[], (0:Int), Zs, _, hm, (fu 0 p0 z (fu 3 (.slice none 0 0) z (fu 6 (.int .i64 t363) z (fu 7 (.int .i64 (0:Int)) z z)))), hst⟩ ?_
 rintro n485 _ w480 ⟨z474, z477, v475, σ478, hm, rfl, hst⟩
 obtain ⟨n482, y483, rfl, hm, hx484⟩ := loopN_some hm
 dsimp only [locks_Table_All_l1] at hm
 refine wp_seq (wrl (wv (.bool (decide (z477 < t363))) z z z (wl_nil (tn (wp_seq ?_)))))
 refine bsplit (decide (z477 < t363)) (fun hc486 => ?_) (fun hc486 => ?_)
 {
 replace hm := bif_t hc486 hm
 refine wp_ift (cvb hc486) ?_
 refine wp_skip (tn (wp_seq (wp_block (wp_seq (wrl ?_)))))
 refine wv (.int .i64 z477) z z z (wv (.int .i64 z477) z z z (wl_nil (tn (wrl (wv (v475) z z z (wv (p0) z z z ?_))))))
 replace hst := hst.pull1
 obtain ⟨b487, v488, rfl, hst'⟩ := at_locks_Table_open hst
 clear hst
 have hst := hst'
 clear hst'
 refine wv (Pt b487 0) z z z (wv (Pt b487 0) z z (x_field z underlying77 z sizeOf22 z) (wv (v488) z z (x_load z isAgg22 (hst.bc0 z)) (wv (.int .i64 z477) z z z ?_)))
 obtain ⟨x490, hx491, hm⟩ := bind_some hm
 obtain ⟨h492, h493, hi494⟩ := geto_some hx491
 refine wv (.pointer (some (eAddr v488 (z477.toNat * 7 + 0)))) z z (x_index z z underlying22 sizeOf34 hst.sv1 h492 h493) (wv (.pointer (some (eAddr v488 (z477.toNat * 7 + 0)))) z z (x_field_e z underlying34 z sizeOf29 z) ?_)
 obtain ⟨cs495, hr496, hc497⟩ := hst.og1 hi494
 obtain ⟨v498, v501, v504, v507, rfl, f499, f502, f505, f508, -⟩ := hr496
 refine wv (.agg #[U6 x490.ID.Session, U6 x490.ID.Seq]) z z (x_loadN (cs := [U6 x490.ID.Session, U6 x490.ID.Seq]) z isAgg29 sizeOf29 (eCells (o := 0) hc497 z)) ?_
 obtain ⟨b510, w511, ew512, eb513, hst⟩ := hst.lits (E := ty_api_ID) (xs := [x490.ID]) [[U6 x490.ID.Session, U6 x490.ID.Seq]] 29 1 z (Reps.cons z Reps.nil)
 refine wl_run (v := (.slice (some ⟨b510, 0, none⟩) 1 1)) (w' := w511) z z (x_als (by kernel_rfl) ew512 eb513) ?_
 obtain ⟨hg515, hm⟩ := gd_some hm
 replace hst := hst.pull3
 obtain ⟨v516, w517, hr518, hst⟩ := run_append elem_37 underlying37 hst hst.src1 (room_of hg515 z) 37
 refine wl_run (v := v516) (w' := w517) z z (x_append z z hr518) ?_
 refine wv (v516) z z z (wl_nil (blk_n (tn (wrl (wv (.int .i64 (i64.wrap (z477 + (1:Int)))) z z z (wv (.int .i64 (i64.wrap (z477 + (1:Int)))) z z z (wl_nil (tn ?_))))))))
 replace hst := hst.pull3.pull3
 replace hst := at_locks_Table_close (pv := Pt b487 0) (x := o0) hst z
 replace hst := hst.pull1.keep2
 obtain rfl := some_inj hm
 exact ⟨_, Nat.lt_succ_self _, (z474 ++ ([x490.ID])), (i64.wrap (z477 + (1:Int))), v516, _, hx484, (fu 0 (Pt b487 0) z (fu 3 v516 z (fu 6 (.int .i64 t363) z (fu 7 (.int .i64 (i64.wrap (z477 + (1:Int)))) z z)))), hst⟩
}
 {
 replace hm := bif_f hc486 hm
 refine wp_iff (cvb hc486) ?_
 refine wp_exit (then_x (then_x ?_))
 replace hm := inr_up hm hx484
 refine blk_x (tn (wp_seq (wrl ?_)))
 refine wv (v475) z z z (wv (v475) z z z (wl_nil (tn (wp_ret ?_))))
 replace hst := hst.pull1
 replace hst := objO_some hst
 obtain rfl := some_inj hm
 refine post_ret (vs := [v475]) results13 (rvs_cons (rv_tmp z) rvs_nil) ?_
 replace hst := hst.pull1
 exact ⟨v475, z, hst.keep2⟩
}
}
}

theorem locks_Table_Get_ref {w0 w : World} {I : HL} {R : SP} {a0 : (Option locks_Table)} {p0 : Value} {a1 : api_ID}  (hst : St w0 w I [objO at_locks_Table p0 a0] R) {r : (api_Hold × Bool)} (hm : locks_Table_Get a0 a1 = some r) :
  Calls prog 14 #[p0, .agg #[U6 a1.Session, U6 a1.Seq]] w fun e w' => ∃ (I' : HL) (q0_0 : Value) (q0_1 : Value) (q0_2 : Value) (q0_3 : Value), e = .returned (.tuple #[.agg #[U6 r.1.ID.Session, U6 r.1.ID.Seq, U6 r.1.Epoch, q0_0, q0_1, q0_2, q0_3], .bool r.2]) ∧ I.le I' ∧ Ro tyF64 I' q0_0 r.1.Gets ∧ Ro tyF2 I' q0_1 r.1.Scans ∧ Ro tyF64 I' q0_2 r.1.Puts ∧ Ro (tyInt .u8) I' q0_3 r.1.Data ∧ St w0 w' I' [objO at_locks_Table p0 a0] R := by {
 rcases a0 with _ | o0
 {
 obtain ⟨rfl, hst'⟩ := objO_none hst
 clear hst
 have hst := hst'
 clear hst'
 dsimp only [locks_Table_Get] at hm
 refine calls_start (args := [.pointer none, .agg #[U6 a1.Session, U6 a1.Seq]]) func14 z ntmps14 (Nat.le_of_ble_eq_true z) ?_
 have hI0 := HL.le.refl I
 refine wp_seq (wrl ?_)
 obtain ⟨b264, w265, ew266, eb267, hst⟩ := hst.box [U6 a1.Session, U6 a1.Seq] 29
 refine wl_run (v := Pt b264 0) (w' := w265) z z (x_al (by kernel_rfl) ew266 eb267) ?_
 obtain ⟨b273, w274, ew275, eb276, hst⟩ := hst.box [Zu, Zu, Zu, Zs, Zs, Zs, Zs] 34
 refine wl_run (v := Pt b273 0) (w' := w274) z z (x_al (by kernel_rfl) ew275 eb276) ?_
 refine wv (.bool false) z z z (wl_nil (tn (wp_seq (wrl (wv (.pointer none) z z z (wv (.agg #[U6 a1.Session, U6 a1.Seq]) z z (x_loadN (cs := [U6 a1.Session, U6 a1.Seq]) z isAgg29 sizeOf29 (hst.bcs1 0 z)) ?_))))))
 replace hst := hst.objO_nil at_locks_Table
 obtain ⟨t279, ht280, hm⟩ := bind_some hm
 refine wc call40 [.pointer none, .agg #[U6 a1.Session, U6 a1.Seq]] z z z ?_
 refine (locks_Table_find_ref hst.to1 ht280).mono ?_
 rintro _ w281 ⟨rfl, hst⟩
 refine ⟨_, z, ?_⟩
 replace hst := hst.of1
 refine wv (.tuple #[I6 t279.1, .bool t279.2]) z z z (wv (.int .i64 t279.1) z z z (wv (.bool t279.2) z z z (wv (.int .i64 t279.1) z z z (wv (.bool t279.2) z z z (wl_nil (tn (wp_seq (wp_seq (wrl (wv (.bool t279.2) z z z (wv (.bool (!t279.2)) z z z (wl_nil (tn ?_)))))))))))))
 refine bsplit (!t279.2) (fun hc284 => ?_) (fun hc284 => ?_)
 {
 replace hm := bif_t hc284 hm
 refine wp_ift (cvb hc284) ?_
 refine wp_seq (wrl (wv (.agg #[Zu, Zu, Zu, Zs, Zs, Zs, Zs]) z z (by kernel_rfl) ?_))
 replace hst := hst.pull1
 obtain ⟨w289, hr290, hst⟩ := hst.bx [Zu, Zu, Zu, Zs, Zs, Zs, Zs] sizeOf34 z (oC z (oC z (oC z (oC z (oC z (oC z (oC z oN))))))) (by kernel_rfl)
 refine wl_unit z z (x_unit hr290) ?_
 refine wv (.bool false) z z z (wl_nil (tn (wp_ret (then_r ?_))))
 have f291 : Ro tyF64 I (.slice none 0 0) [] := ro_nil
 have f292 : Ro tyF2 I (.slice none 0 0) [] := ro_nil
 have f293 : Ro tyF64 I (.slice none 0 0) [] := ro_nil
 have f294 : Ro (tyInt .u8) I (.slice none 0 0) [] := ro_nil
 replace hst := hst.objO_nil at_locks_Table
 obtain rfl := some_inj hm
 refine post_ret (vs := [.agg #[Zu, Zu, Zu, Zs, Zs, Zs, Zs], .bool false]) results14 (rvs_cons (rv_cell (cs := [Zu, Zu, Zu, Zs, Zs, Zs, Zs]) z isAgg34 sizeOf34 (hst.bcs1 0 z)) (rvs_cons (rv_tmp z) rvs_nil)) ?_
 exact ⟨_, Zs, Zs, Zs, Zs, z, hI0, f291, f292, f293, f294, hst.keep1⟩
}
 {
 replace hm := bif_f hc284 hm
 refine wp_iff (cvb hc284) ?_
 refine wp_skip (tn (wp_seq (wrl ?_)))
 refine wv (.pointer none) z z z ?_
 cases hm
}
}
 {
 replace hst := objO_get hst
 dsimp only [locks_Table_Get] at hm
 refine calls_start (args := [p0, .agg #[U6 a1.Session, U6 a1.Seq]]) func14 z ntmps14 (Nat.le_of_ble_eq_true z) ?_
 have hI0 := HL.le.refl I
 refine wp_seq (wrl ?_)
 obtain ⟨b295, w296, ew297, eb298, hst⟩ := hst.box [U6 a1.Session, U6 a1.Seq] 29
 refine wl_run (v := Pt b295 0) (w' := w296) z z (x_al (by kernel_rfl) ew297 eb298) ?_
 obtain ⟨b304, w305, ew306, eb307, hst⟩ := hst.box [Zu, Zu, Zu, Zs, Zs, Zs, Zs] 34
 refine wl_run (v := Pt b304 0) (w' := w305) z z (x_al (by kernel_rfl) ew306 eb307) ?_
 refine wv (.bool false) z z z (wl_nil (tn (wp_seq (wrl (wv (p0) z z z (wv (.agg #[U6 a1.Session, U6 a1.Seq]) z z (x_loadN (cs := [U6 a1.Session, U6 a1.Seq]) z isAgg29 sizeOf29 (hst.bcs1 0 z)) ?_))))))
 replace hst := hst.pull2
 replace hst := objO_some hst
 obtain ⟨t309, ht310, hm⟩ := bind_some hm
 refine wc call40 [p0, .agg #[U6 a1.Session, U6 a1.Seq]] z z z ?_
 refine (locks_Table_find_ref hst.to1 ht310).mono ?_
 rintro _ w311 ⟨rfl, hst⟩
 refine ⟨_, z, ?_⟩
 replace hst := hst.of1
 replace hst := objO_get hst
 refine wv (.tuple #[I6 t309.1, .bool t309.2]) z z z (wv (.int .i64 t309.1) z z z (wv (.bool t309.2) z z z (wv (.int .i64 t309.1) z z z (wv (.bool t309.2) z z z (wl_nil (tn (wp_seq (wp_seq (wrl (wv (.bool t309.2) z z z (wv (.bool (!t309.2)) z z z (wl_nil (tn ?_)))))))))))))
 refine bsplit (!t309.2) (fun hc314 => ?_) (fun hc314 => ?_)
 {
 replace hm := bif_t hc314 hm
 refine wp_ift (cvb hc314) ?_
 refine wp_seq (wrl (wv (.agg #[Zu, Zu, Zu, Zs, Zs, Zs, Zs]) z z (by kernel_rfl) ?_))
 replace hst := hst.pull1
 obtain ⟨w319, hr320, hst⟩ := hst.bx [Zu, Zu, Zu, Zs, Zs, Zs, Zs] sizeOf34 z (oC z (oC z (oC z (oC z (oC z (oC z (oC z oN))))))) (by kernel_rfl)
 refine wl_unit z z (x_unit hr320) ?_
 refine wv (.bool false) z z z (wl_nil (tn (wp_ret (then_r ?_))))
 have f321 : Ro tyF64 I (.slice none 0 0) [] := ro_nil
 have f322 : Ro tyF2 I (.slice none 0 0) [] := ro_nil
 have f323 : Ro tyF64 I (.slice none 0 0) [] := ro_nil
 have f324 : Ro (tyInt .u8) I (.slice none 0 0) [] := ro_nil
 replace hst := hst.pull1
 replace hst := objO_some hst
 obtain rfl := some_inj hm
 refine post_ret (vs := [.agg #[Zu, Zu, Zu, Zs, Zs, Zs, Zs], .bool false]) results14 (rvs_cons (rv_cell (cs := [Zu, Zu, Zu, Zs, Zs, Zs, Zs]) z isAgg34 sizeOf34 (hst.bcs1 0 z)) (rvs_cons (rv_tmp z) rvs_nil)) ?_
 exact ⟨_, Zs, Zs, Zs, Zs, z, hI0, f321, f322, f323, f324, hst.keep1⟩
}
 {
 replace hm := bif_f hc314 hm
 refine wp_iff (cvb hc314) ?_
 refine wp_skip (tn (wp_seq (wrl ?_)))
 refine wv (p0) z z z ?_
 obtain ⟨b325, v326, rfl, hst'⟩ := at_locks_Table_open hst
 clear hst
 have hst := hst'
 clear hst'
 refine wv (Pt b325 0) z z z (wv (Pt b325 0) z z (x_field z underlying77 z sizeOf22 z) (wv (v326) z z (x_load z isAgg22 (hst.bc0 z)) (wv (.int .i64 t309.1) z z z ?_)))
 obtain ⟨x328, hx329, hm⟩ := bind_some hm
 obtain ⟨h330, h331, hi332⟩ := geto_some hx329
 refine wv (.pointer (some (eAddr v326 (t309.1.toNat * 7 + 0)))) z z (x_index z z underlying22 sizeOf34 hst.sv1 h330 h331) ?_
 obtain ⟨cs333, hr334, hc335⟩ := hst.og1 hi332
 obtain ⟨v336, v339, v342, v345, rfl, f337, f340, f343, f346, -⟩ := hr334
 refine wv (.agg #[U6 x328.ID.Session, U6 x328.ID.Seq, U6 x328.Epoch, v336, v339, v342, v345]) z z (x_loadN (cs := [U6 x328.ID.Session, U6 x328.ID.Seq, U6 x328.Epoch, v336, v339, v342, v345]) z isAgg34 sizeOf34 (eCells (o := 0) hc335 z)) ?_
 replace hst := hst.pull2
 obtain ⟨w348, hr349, hst⟩ := hst.bx [U6 x328.ID.Session, U6 x328.ID.Seq, U6 x328.Epoch, v336, v339, v342, v345] sizeOf34 z (oC z (oC z (oC z (oC (one_of_sliceV (ro_sliceV f337)) (oC (one_of_sliceV (ro_sliceV f340)) (oC (one_of_sliceV (ro_sliceV f343)) (oC (one_of_sliceV (ro_sliceV f346)) oN))))))) (by kernel_rfl)
 refine wl_unit z z (x_unit hr349) ?_
 refine wv (.bool true) z z z (wl_nil (tn (wp_ret ?_)))
 replace hst := hst.pull2.pull2
 replace hst := at_locks_Table_close (pv := Pt b325 0) (x := o0) hst z
 replace hst := objO_some hst
 obtain rfl := some_inj hm
 refine post_ret (vs := [.agg #[U6 x328.ID.Session, U6 x328.ID.Seq, U6 x328.Epoch, v336, v339, v342, v345], .bool true]) results14 (rvs_cons (rv_cell (cs := [U6 x328.ID.Session, U6 x328.ID.Seq, U6 x328.Epoch, v336, v339, v342, v345]) z isAgg34 sizeOf34 (hst.bcs1 0 z)) (rvs_cons (rv_tmp z) rvs_nil)) ?_
 exact ⟨_, v336, v339, v342, v345, z, hI0, f337, f340, f343, f346, hst.keep1⟩
}
}
}

theorem ref11_SameHold_ref {w0 w : World} {I : HL} {R : SP} {a0 : api_Hold} {r0_0 : Value} {r0_1 : Value} {r0_2 : Value} {r0_3 : Value} {a1 : api_Hold} {r1_0 : Value} {r1_1 : Value} {r1_2 : Value} {r1_3 : Value} (f0_0 : Rd tyF64 R I r0_0 a0.Gets) (f0_1 : Rd tyF2 R I r0_1 a0.Scans) (f0_2 : Rd tyF64 R I r0_2 a0.Puts) (f0_3 : Rd (tyInt .u8) R I r0_3 a0.Data) (f1_0 : Rd tyF64 R I r1_0 a1.Gets) (f1_1 : Rd tyF2 R I r1_1 a1.Scans) (f1_2 : Rd tyF64 R I r1_2 a1.Puts) (f1_3 : Rd (tyInt .u8) R I r1_3 a1.Data) (hst : St w0 w I [] R) {r : (Bool)} (hm : ref11_SameHold a0 a1 = some r) :
  Calls prog 18 #[.agg #[U6 a0.ID.Session, U6 a0.ID.Seq, U6 a0.Epoch, r0_0, r0_1, r0_2, r0_3], .agg #[U6 a1.ID.Session, U6 a1.ID.Seq, U6 a1.Epoch, r1_0, r1_1, r1_2, r1_3]] w fun e w' => e = .returned (.bool r) ∧ St w0 w' I [] R := by {
 unfold ref11_SameHold at hm
 refine calls_start (args := [.agg #[U6 a0.ID.Session, U6 a0.ID.Seq, U6 a0.Epoch, r0_0, r0_1, r0_2, r0_3], .agg #[U6 a1.ID.Session, U6 a1.ID.Seq, U6 a1.Epoch, r1_0, r1_1, r1_2, r1_3]]) func18 z ntmps18 (Nat.le_of_ble_eq_true z) ?_
 refine wp_seq (wrl ?_)
 obtain ⟨b483, w484, ew485, eb486, hst⟩ := hst.box [U6 a0.ID.Session, U6 a0.ID.Seq, U6 a0.Epoch, r0_0, r0_1, r0_2, r0_3] 34
 refine wl_run (v := Pt b483 0) (w' := w484) z z (x_al (by kernel_rfl) ew485 eb486) ?_
 obtain ⟨b488, w489, ew490, eb491, hst⟩ := hst.box [U6 a1.ID.Session, U6 a1.ID.Seq, U6 a1.Epoch, r1_0, r1_1, r1_2, r1_3] 34
 refine wl_run (v := Pt b488 0) (w' := w489) z z (x_al (by kernel_rfl) ew490 eb491) ?_
 refine wv (.bool false) z z z (wl_nil (tn (wp_seq (wp_seq (wrl (wv (Pt b483 0) z z (x_field z underlying34 z sizeOf29 z) (wv (.agg #[U6 a0.ID.Session, U6 a0.ID.Seq]) z z (x_loadN (cs := [U6 a0.ID.Session, U6 a0.ID.Seq]) z isAgg29 sizeOf29 (hst.bcs1 0 z)) (wv (Pt b488 0) z z (x_field z underlying34 z sizeOf29 z) (wv (.agg #[U6 a1.ID.Session, U6 a1.ID.Seq]) z z (x_loadN (cs := [U6 a1.ID.Session, U6 a1.ID.Seq]) z isAgg29 sizeOf29 (hst.bcs0 0 z)) (wv (.bool (!((a0.ID.Session == a1.ID.Session) && (a0.ID.Seq == a1.ID.Seq)))) z z (x_aggne2 z z (by kernel_rfl) underlying29 (by kernel_rfl) (by kernel_rfl) (by kernel_rfl) underlying27 underlying27 (fun _ _ _ => by kernel_rfl) (fun _ _ _ => by kernel_rfl)) (wv (.bool (!((a0.ID.Session == a1.ID.Session) && (a0.ID.Seq == a1.ID.Seq)))) z z z ?_)))))))))))
 refine bsplit (!((a0.ID.Session == a1.ID.Session) && (a0.ID.Seq == a1.ID.Seq))) (fun hc493 => ?_) (fun hc493 => ?_)
 {
 replace hm := bif_t hc493 hm
 refine wo hc493 z z z z z z (wo hc493 z z z z z z (wo hc493 z z z z z z (wo hc493 z z z z z z (wo hc493 z z z z z z (wv (.bool true) z z (x_pick_t hc493 z z) (wv (.bool true) z z z (wz z z z z z z (wz z z z z z z (wz z z z z z z (wz z z z z z z (wz z z z z z z (wz z z z z z z ?_))))))))))))
 refine wz z z z z z z (wv (.bool true) z z (x_pick_t z z z) (wv (.bool true) z z z (wz z z z z z z (wz z z z z z z (wz z z z z z z (wz z z z z z z (wz z z z z z z (wz z z z z z z (wz z z z z z z (wv (.bool true) z z (x_pick_t z z z) (wv (.bool true) z z z (wz z z z z z z ?_))))))))))))
 refine wz z z z z z z (wz z z z z z z (wz z z z z z z (wz z z z z z z (wz z z z z z z (wz z z z z z z (wv (.bool true) z z (x_pick_t z z z) (wv (.bool true) z z z (wz z z z z z z (wz z z z z z z (wz z z z z z z (wz z z z z z z (wz z z z z z z ?_))))))))))))
 refine wz z z z z z z (wz z z z z z z (wv (.bool true) z z (x_pick_t z z z) (wl_nil (tn ?_))))
 refine wp_ift z ?_
 refine wp_seq (wrl (wv (.bool false) z z z (wl_nil (tn (wp_ret (then_r ?_))))))
 obtain rfl := some_inj hm
 refine post_ret (vs := [.bool false]) results18 (rvs_cons (rv_tmp z) rvs_nil) ?_
 exact ⟨z, hst.keep0⟩
}
 {
 replace hm := bif_f hc493 hm
 refine wv (Pt b483 2) ((wanted_eq z z z (cvb hc493)).trans z) z (x_field z underlying34 z sizeOf27 z) (wv (.int .u64 a0.Epoch) ((wanted_eq z z z (cvb hc493)).trans z) z (x_load z isAgg27 (hst.bc1 z)) (wv (Pt b488 2) ((wanted_eq z z z (cvb hc493)).trans z) z (x_field z underlying34 z sizeOf27 z) (wv (.int .u64 a1.Epoch) ((wanted_eq z z z (cvb hc493)).trans z) z (x_load z isAgg27 (hst.bc0 z)) (wv (.bool (a0.Epoch != a1.Epoch)) ((wanted_eq z z z (cvb hc493)).trans z) z z (wv (.bool (a0.Epoch != a1.Epoch)) z z (x_pick_f hc493 z z) (wv (.bool (a0.Epoch != a1.Epoch)) z z z ?_))))))
 refine bsplit (a0.Epoch != a1.Epoch) (fun hc494 => ?_) (fun hc494 => ?_)
 {
 replace hm := bif_t hc494 hm
 refine wo hc494 z z z z z z (wo hc494 z z z z z z (wo hc494 z z z z z z (wo hc494 z z z z z z (wo hc494 z z z z z z (wo hc494 z z z z z z (wo hc494 z z z z z z (wv (.bool true) z z (x_pick_t hc494 z z) (wv (.bool true) z z z (wz z z z z z z (wz z z z z z z (wz z z z z z z (wz z z z z z z ?_))))))))))))
 refine wz z z z z z z (wz z z z z z z (wz z z z z z z (wv (.bool true) z z (x_pick_t z z z) (wv (.bool true) z z z (wz z z z z z z (wz z z z z z z (wz z z z z z z (wz z z z z z z (wz z z z z z z (wz z z z z z z (wz z z z z z z (wv (.bool true) z z (x_pick_t z z z) ?_))))))))))))
 refine wv (.bool true) z z z (wz z z z z z z (wz z z z z z z (wz z z z z z z (wz z z z z z z (wz z z z z z z (wz z z z z z z (wz z z z z z z (wv (.bool true) z z (x_pick_t z z z) (wl_nil (tn ?_))))))))))
 refine wp_ift z ?_
 refine wp_seq (wrl (wv (.bool false) z z z (wl_nil (tn (wp_ret (then_r ?_))))))
 obtain rfl := some_inj hm
 refine post_ret (vs := [.bool false]) results18 (rvs_cons (rv_tmp z) rvs_nil) ?_
 exact ⟨z, hst.keep0⟩
}
 {
 replace hm := bif_f hc494 hm
 refine wv (Pt b483 3) ((wanted_eq z z z (cvb hc494)).trans z) z (x_field z underlying34 z sizeOf30 z) (wv (r0_0) ((wanted_eq z z z (cvb hc494)).trans z) z (x_load z isAgg30 (hst.bc1 z)) (wv (.int .i64 ((a0.Gets).length : Int)) ((wanted_eq z z z (cvb hc494)).trans z) z (x_len z underlying30 (rd_sliceV f0_0)) (wv (Pt b488 3) ((wanted_eq z z z (cvb hc494)).trans z) z (x_field z underlying34 z sizeOf30 z) (wv (r1_0) ((wanted_eq z z z (cvb hc494)).trans z) z (x_load z isAgg30 (hst.bc0 z)) (wv (.int .i64 ((a1.Gets).length : Int)) ((wanted_eq z z z (cvb hc494)).trans z) z (x_len z underlying30 (rd_sliceV f1_0)) (wv (.bool (((a0.Gets).length : Int) != ((a1.Gets).length : Int))) ((wanted_eq z z z (cvb hc494)).trans z) z z (wv (.bool (((a0.Gets).length : Int) != ((a1.Gets).length : Int))) z z (x_pick_f hc494 z z) (wv (.bool (((a0.Gets).length : Int) != ((a1.Gets).length : Int))) z z z ?_))))))))
 refine bsplit (((a0.Gets).length : Int) != ((a1.Gets).length : Int)) (fun hc495 => ?_) (fun hc495 => ?_)
 {
 replace hm := bif_t hc495 hm
 refine wo hc495 z z z z z z (wo hc495 z z z z z z (wo hc495 z z z z z z (wo hc495 z z z z z z (wo hc495 z z z z z z (wo hc495 z z z z z z (wo hc495 z z z z z z (wv (.bool true) z z (x_pick_t hc495 z z) (wv (.bool true) z z z (wz z z z z z z (wz z z z z z z (wz z z z z z z (wz z z z z z z ?_))))))))))))
 refine wz z z z z z z (wz z z z z z z (wz z z z z z z (wv (.bool true) z z (x_pick_t z z z) (wv (.bool true) z z z (wz z z z z z z (wz z z z z z z (wz z z z z z z (wz z z z z z z (wz z z z z z z (wz z z z z z z (wz z z z z z z (wv (.bool true) z z (x_pick_t z z z) ?_))))))))))))
 refine wl_nil (tn ?_)
 refine wp_ift z ?_
 refine wp_seq (wrl (wv (.bool false) z z z (wl_nil (tn (wp_ret (then_r ?_))))))
 obtain rfl := some_inj hm
 refine post_ret (vs := [.bool false]) results18 (rvs_cons (rv_tmp z) rvs_nil) ?_
 exact ⟨z, hst.keep0⟩
}
 {
 replace hm := bif_f hc495 hm
 refine wv (Pt b483 4) ((wanted_eq z z z (cvb hc495)).trans z) z (x_field z underlying34 z sizeOf31 z) (wv (r0_1) ((wanted_eq z z z (cvb hc495)).trans z) z (x_load z isAgg31 (hst.bc1 z)) (wv (.int .i64 ((a0.Scans).length : Int)) ((wanted_eq z z z (cvb hc495)).trans z) z (x_len z underlying31 (rd_sliceV f0_1)) (wv (Pt b488 4) ((wanted_eq z z z (cvb hc495)).trans z) z (x_field z underlying34 z sizeOf31 z) (wv (r1_1) ((wanted_eq z z z (cvb hc495)).trans z) z (x_load z isAgg31 (hst.bc0 z)) (wv (.int .i64 ((a1.Scans).length : Int)) ((wanted_eq z z z (cvb hc495)).trans z) z (x_len z underlying31 (rd_sliceV f1_1)) (wv (.bool (((a0.Scans).length : Int) != ((a1.Scans).length : Int))) ((wanted_eq z z z (cvb hc495)).trans z) z z (wv (.bool (((a0.Scans).length : Int) != ((a1.Scans).length : Int))) z z (x_pick_f hc495 z z) (wv (.bool (((a0.Scans).length : Int) != ((a1.Scans).length : Int))) z z z ?_))))))))
 refine bsplit (((a0.Scans).length : Int) != ((a1.Scans).length : Int)) (fun hc496 => ?_) (fun hc496 => ?_)
 {
 replace hm := bif_t hc496 hm
 refine wo hc496 z z z z z z (wo hc496 z z z z z z (wo hc496 z z z z z z (wo hc496 z z z z z z (wo hc496 z z z z z z (wo hc496 z z z z z z (wo hc496 z z z z z z (wv (.bool true) z z (x_pick_t hc496 z z) (wv (.bool true) z z z (wz z z z z z z (wz z z z z z z (wz z z z z z z (wz z z z z z z ?_))))))))))))
 refine wz z z z z z z (wz z z z z z z (wz z z z z z z (wv (.bool true) z z (x_pick_t z z z) (wl_nil (tn ?_)))))
 refine wp_ift z ?_
 refine wp_seq (wrl (wv (.bool false) z z z (wl_nil (tn (wp_ret (then_r ?_))))))
 obtain rfl := some_inj hm
 refine post_ret (vs := [.bool false]) results18 (rvs_cons (rv_tmp z) rvs_nil) ?_
 exact ⟨z, hst.keep0⟩
}
 {
 replace hm := bif_f hc496 hm
 refine wv (Pt b483 5) ((wanted_eq z z z (cvb hc496)).trans z) z (x_field z underlying34 z sizeOf30 z) (wv (r0_2) ((wanted_eq z z z (cvb hc496)).trans z) z (x_load z isAgg30 (hst.bc1 z)) (wv (.int .i64 ((a0.Puts).length : Int)) ((wanted_eq z z z (cvb hc496)).trans z) z (x_len z underlying30 (rd_sliceV f0_2)) (wv (Pt b488 5) ((wanted_eq z z z (cvb hc496)).trans z) z (x_field z underlying34 z sizeOf30 z) (wv (r1_2) ((wanted_eq z z z (cvb hc496)).trans z) z (x_load z isAgg30 (hst.bc0 z)) (wv (.int .i64 ((a1.Puts).length : Int)) ((wanted_eq z z z (cvb hc496)).trans z) z (x_len z underlying30 (rd_sliceV f1_2)) (wv (.bool (((a0.Puts).length : Int) != ((a1.Puts).length : Int))) ((wanted_eq z z z (cvb hc496)).trans z) z z (wv (.bool (((a0.Puts).length : Int) != ((a1.Puts).length : Int))) z z (x_pick_f hc496 z z) (wv (.bool (((a0.Puts).length : Int) != ((a1.Puts).length : Int))) z z z ?_))))))))
 refine bsplit (((a0.Puts).length : Int) != ((a1.Puts).length : Int)) (fun hc497 => ?_) (fun hc497 => ?_)
 {
 replace hm := bif_t hc497 hm
 refine wo hc497 z z z z z z (wo hc497 z z z z z z (wo hc497 z z z z z z (wo hc497 z z z z z z (wo hc497 z z z z z z (wo hc497 z z z z z z (wo hc497 z z z z z z (wv (.bool true) z z (x_pick_t hc497 z z) (wl_nil (tn ?_)))))))))
 refine wp_ift z ?_
 refine wp_seq (wrl (wv (.bool false) z z z (wl_nil (tn (wp_ret (then_r ?_))))))
 obtain rfl := some_inj hm
 refine post_ret (vs := [.bool false]) results18 (rvs_cons (rv_tmp z) rvs_nil) ?_
 exact ⟨z, hst.keep0⟩
}
 {
 replace hm := bif_f hc497 hm
 refine wv (Pt b483 6) ((wanted_eq z z z (cvb hc497)).trans z) z (x_field z underlying34 z sizeOf32 z) (wv (r0_3) ((wanted_eq z z z (cvb hc497)).trans z) z (x_load z isAgg32 (hst.bc1 z)) (wv (.string (toStr a0.Data)) ((wanted_eq z z z (cvb hc497)).trans z) z (x_tostr underlying32 underlying9 underlying5 z (Src.of_rd hst f0_3 flat_int)) (wv (Pt b488 6) ((wanted_eq z z z (cvb hc497)).trans z) z (x_field z underlying34 z sizeOf32 z) (wv (r1_3) ((wanted_eq z z z (cvb hc497)).trans z) z (x_load z isAgg32 (hst.bc0 z)) (wv (.string (toStr a1.Data)) ((wanted_eq z z z (cvb hc497)).trans z) z (x_tostr underlying32 underlying9 underlying5 z (Src.of_rd hst f1_3 flat_int)) (wv (.bool (!(sEq (toStr a0.Data) (toStr a1.Data)))) ((wanted_eq z z z (cvb hc497)).trans z) z (by kernel_rfl) (wv (.bool (!(sEq (toStr a0.Data) (toStr a1.Data)))) z z (x_pick_f hc497 z z) (wl_nil (tn ?_)))))))))
 refine bsplit (!(sEq (toStr a0.Data) (toStr a1.Data))) (fun hc498 => ?_) (fun hc498 => ?_)
 {
 replace hm := bif_t hc498 hm
 refine wp_ift (cvb hc498) ?_
 refine wp_seq (wrl (wv (.bool false) z z z (wl_nil (tn (wp_ret (then_r ?_))))))
 obtain rfl := some_inj hm
 refine post_ret (vs := [.bool false]) results18 (rvs_cons (rv_tmp z) rvs_nil) ?_
 exact ⟨z, hst.keep0⟩
}
 {
 replace hm := bif_f hc498 hm
 refine wp_iff (cvb hc498) ?_
 refine wp_skip (tn ?_)
 obtain ⟨y562, hm, hx563⟩ := joinO_some hm
 refine wp_cut (fun a w => ∃ (σ560 : Nat → Value), (ref11_SameHold_j0 a0 a1) () = some r ∧ a = Fr 131 (upd (upd σ560 2 (Pt b483 0)) 3 (Pt b488 0)) ∧ St w0 w I [cells b483 [U6 a0.ID.Session, U6 a0.ID.Seq, U6 a0.Epoch, r0_0, r0_1, r0_2, r0_3], cells b488 [U6 a1.ID.Session, U6 a1.ID.Seq, U6 a1.Epoch, r1_0, r1_1, r1_2, r1_3]] R) ?_ ?_
 {
 refine wp_seq (wrl (wv (.int .i64 (0:Int)) z z z (wl_nil (tn (wp_block ?_)))))
 obtain ⟨n536, hm⟩ := loopO_some hm
 refine wp_loop_n (fun n a w => ∃ (z534 : Int) (σ535 : Nat → Value), loopN (ref11_SameHold_l1 a0 a1) n z534 = some y562 ∧ a = Fr 131 (upd (upd (upd σ535 2 (Pt b483 0)) 3 (Pt b488 0)) 5 (.int .i64 z534)) ∧ St w0 w I [cells b488 [U6 a1.ID.Session, U6 a1.ID.Seq, U6 a1.Epoch, r1_0, r1_1, r1_2, r1_3], cells b483 [U6 a0.ID.Session, U6 a0.ID.Seq, U6 a0.Epoch, r0_0, r0_1, r0_2, r0_3]] R) n536 ⟨(0:Int), _, hm, (fu 2 (Pt b483 0) z (fu 3 (Pt b488 0) z (fu 5 (.int .i64 (0:Int)) z z))), hst⟩ ?_
 rintro n542 _ w537 ⟨z534, σ535, hm, rfl, hst⟩
 obtain ⟨n539, y540, rfl, hm, hx541⟩ := loopN_some hm
 dsimp only [ref11_SameHold_l1] at hm
 refine wp_seq (wp_seq (wrl (wv (.int .i64 z534) z z z (wv (Pt b483 3) z z (x_field z underlying34 z sizeOf30 z) (wv (r0_0) z z (x_load z isAgg30 (hst.bc1 z)) (wv (.int .i64 ((a0.Gets).length : Int)) z z (x_len z underlying30 (rd_sliceV f0_0)) (wv (.bool (decide (z534 < ((a0.Gets).length : Int)))) z z z (wl_nil (tn ?_)))))))))
 refine bsplit (decide (z534 < ((a0.Gets).length : Int))) (fun hc543 => ?_) (fun hc543 => ?_)
 {
 replace hm := bif_t hc543 hm
 refine wp_ift (cvb hc543) ?_
 refine wp_skip (tn (wp_seq (wp_block (wp_seq ?_))))
 refine wp_region_St hst 12 [0, 1, 2, 3, 4, 5, 6, 7, 8, 9, 10, 11] [0, 1, 0, 7, 15, 0, 32, 0, 224, 480, 1023, 2047] [] z (by kernel_rfl) (by kernel_rfl) Try.mixed (by kernel_rfl) ?_
 refine wsr (Pt b483 3) 0 z z z (by kernel_rfl) (fun w hst => x_field z underlying34 z sizeOf30 z) (wsr (r0_0) 1 z z z (by kernel_rfl) (fun w hst => x_load z isAgg30 (hst.bc1 z)) (wsr (.int .i64 z534) 2 z z z (by kernel_rfl) (fun w hst => z) ?_))
 obtain ⟨x544, hx545, hm⟩ := bind_some hm
 obtain ⟨h546, h547, hi548⟩ := geto_some hx545
 refine wsr (.pointer (some (eAddr r0_0 (z534.toNat * 1 + 0)))) 3 z z z (by kernel_rfl) (fun w hst => x_index z z underlying30 sizeOf57 (rd_sliceV f0_0) h546 h547) (wsr (.float .f64 x544) 4 z z z (by kernel_rfl) (fun w hst => x_load z isAgg57 (rd_load f0_0 (HL.le.refl _) hst hi548 (by rintro _ rfl; rfl))) (wsr (Pt b488 3) 5 z z z (by kernel_rfl) (fun w hst => x_field z underlying34 z sizeOf30 z) (wsr (r1_0) 6 z z z (by kernel_rfl) (fun w hst => x_load z isAgg30 (hst.bc0 z)) (wsr (.int .i64 z534) 7 z z z (by kernel_rfl) (fun w hst => z) ?_))))
 obtain ⟨x549, hx550, hm⟩ := bind_some hm
 obtain ⟨h551, h552, hi553⟩ := geto_some hx550
 refine wsr (.pointer (some (eAddr r1_0 (z534.toNat * 1 + 0)))) 8 z z z (by kernel_rfl) (fun w hst => x_index z z underlying30 sizeOf57 (rd_sliceV f1_0) h551 h552) (wsr (.float .f64 x549) 9 z z z (by kernel_rfl) (fun w hst => x_load z isAgg57 (rd_load f1_0 (HL.le.refl _) hst hi553 (by rintro _ rfl; rfl))) ?_)
 refine ws_e1 10 (by kernel_rfl) ?_
 refine nxe [11] (by kernel_rfl) z z ?_
 clear hst
 intro w hst
 obtain ⟨t554, ht555, hm⟩ := bind_some hm
 refine wec call51 [F6 x544, F6 x549] z z ?_
 refine (ref01_Same_ref hst.to0 ht555).mono ?_
 rintro _ w556 ⟨rfl, hst⟩
 refine ⟨_, z, ?_⟩
 replace hst := hst.of0
 refine ws_next (pend' := []) hst (by kernel_rfl) pk_nil ?_
 refine wsr (.bool (!t554)) 11 z z z (by kernel_rfl) (fun w hst => z) ?_
 refine ws_nil ?_
 intro w hst
 refine tn ?_
 refine bsplit (!t554) (fun hc559 => ?_) (fun hc559 => ?_)
 {
 replace hm := bif_t hc559 hm
 refine wp_ift (cvb hc559) ?_
 refine wp_seq (wrl (wv (.bool false) z z z (wl_nil (tn (wp_ret (blk_r (then_r (then_r ?_))))))))
 replace hm := inr_up hm hx541
 refine blk_r (then_r ?_)
 replace hm := inr_up hm hx563
 obtain rfl := some_inj hm
 refine post_ret (vs := [.bool false]) results18 (rvs_cons (rv_tmp z) rvs_nil) ?_
 exact ⟨z, hst.keep0⟩
}
 {
 replace hm := bif_f hc559 hm
 refine wp_iff (cvb hc559) ?_
 refine wp_skip (blk_n (tn (wrl ?_)))
 refine wv (.int .i64 z534) z z z (wv (.int .i64 (i64.wrap (z534 + (1:Int)))) z z z (wv (.int .i64 (i64.wrap (z534 + (1:Int)))) z z z (wl_nil (tn ?_))))
 replace hst := hst.pull1.pull1.keep2
 obtain rfl := some_inj hm
 exact ⟨_, Nat.lt_succ_self _, (i64.wrap (z534 + (1:Int))), _, hx541, (fu 2 (Pt b483 0) z (fu 3 (Pt b488 0) z (fu 5 (.int .i64 (i64.wrap (z534 + (1:Int)))) z z))), hst⟩
}
}
 {
 replace hm := bif_f hc543 hm
 refine wp_iff (cvb hc543) ?_
 refine wp_exit (then_x (then_x ?_))
 replace hm := inr_up hm hx541
 refine blk_x (tn ?_)
 replace hst := hst.pull1.keep2
 obtain rfl := some_inj hm
 exact ⟨_, hx563, (fu 2 (Pt b483 0) z (fu 3 (Pt b488 0) z z)), hst⟩
}
}
 {
 clear hst
 rintro _ w564 ⟨σ560, hm, rfl, hst⟩
 dsimp only [ref11_SameHold_j0] at hm
 obtain ⟨y646, hm, hx647⟩ := joinO_some hm
 refine wp_cut (fun a w => ∃ (σ644 : Nat → Value), (ref11_SameHold_j2 a0 a1) () = some r ∧ a = Fr 131 (upd (upd σ644 2 (Pt b483 0)) 3 (Pt b488 0)) ∧ St w0 w I [cells b483 [U6 a0.ID.Session, U6 a0.ID.Seq, U6 a0.Epoch, r0_0, r0_1, r0_2, r0_3], cells b488 [U6 a1.ID.Session, U6 a1.ID.Seq, U6 a1.Epoch, r1_0, r1_1, r1_2, r1_3]] R) ?_ ?_
 {
 refine wp_seq (wrl (wv (.int .i64 (0:Int)) z z z (wl_nil (tn (wp_block ?_)))))
 obtain ⟨n614, hm⟩ := loopO_some hm
 refine wp_loop_n (fun n a w => ∃ (z612 : Int) (σ613 : Nat → Value), loopN (ref11_SameHold_l3 a0 a1) n z612 = some y646 ∧ a = Fr 131 (upd (upd (upd σ613 2 (Pt b483 0)) 3 (Pt b488 0)) 6 (.int .i64 z612)) ∧ St w0 w I [cells b483 [U6 a0.ID.Session, U6 a0.ID.Seq, U6 a0.Epoch, r0_0, r0_1, r0_2, r0_3], cells b488 [U6 a1.ID.Session, U6 a1.ID.Seq, U6 a1.Epoch, r1_0, r1_1, r1_2, r1_3]] R) n614 ⟨(0:Int), _, hm, (fu 2 (Pt b483 0) z (fu 3 (Pt b488 0) z (fu 6 (.int .i64 (0:Int)) z z))), hst⟩ ?_
 rintro n620 _ w615 ⟨z612, σ613, hm, rfl, hst⟩
 obtain ⟨n617, y618, rfl, hm, hx619⟩ := loopN_some hm
 dsimp only [ref11_SameHold_l3] at hm
 refine wp_seq (wp_seq (wrl (wv (.int .i64 z612) z z z (wv (Pt b483 4) z z (x_field z underlying34 z sizeOf31 z) (wv (r0_1) z z (x_load z isAgg31 (hst.bc0 z)) (wv (.int .i64 ((a0.Scans).length : Int)) z z (x_len z underlying31 (rd_sliceV f0_1)) (wv (.bool (decide (z612 < ((a0.Scans).length : Int)))) z z z (wl_nil (tn ?_)))))))))
 refine bsplit (decide (z612 < ((a0.Scans).length : Int))) (fun hc621 => ?_) (fun hc621 => ?_)
 {
 replace hm := bif_t hc621 hm
 refine wp_ift (cvb hc621) ?_
 refine wp_skip (tn (wp_seq (wp_block (wp_seq ?_))))
 refine wp_region_St hst 30 [0, 1, 2, 3, 4, 5, 6, 7, 8, 9, 10, 11, 12, 13, 14, 15, 16, 17, 18, 19, 20, 21, 22, 23, 24, 25, 26, 27, 28, 29] [0, 1, 0, 7, 15, 31, 0, 64, 0, 448, 960, 1984, 4095, 8191, 16383, 32767, 65535, 32767, 262143, 524287, 1048575, 32767, 2129919, 32767, 14712831, 31490047, 65044479, 134217727, 268435455, 536870911] [] z (by kernel_rfl) (by kernel_rfl) Try.mixed (by kernel_rfl) ?_
 refine wsr (Pt b483 4) 0 z z z (by kernel_rfl) (fun w hst => x_field z underlying34 z sizeOf31 z) (wsr (r0_1) 1 z z z (by kernel_rfl) (fun w hst => x_load z isAgg31 (hst.bc0 z)) (wsr (.int .i64 z612) 2 z z z (by kernel_rfl) (fun w hst => z) ?_))
 obtain ⟨x622, hx623, hm⟩ := bind_some hm
 obtain ⟨h624, h625, hi626⟩ := geto_some hx623
 refine wsr (.pointer (some (eAddr r0_1 (z612.toNat * 2 + 0)))) 3 z z z (by kernel_rfl) (fun w hst => x_index z z underlying31 sizeOf75 (rd_sliceV f0_1) h624 h625) (wsr (.pointer (some (eAddr r0_1 (z612.toNat * 2 + 0)))) 4 z z z (by kernel_rfl) (fun w hst => x_index_arr_e (i := (0:Int)) z z underlying75 sizeOf57 (by decide) (by decide) z) (wsr (.float .f64 x622.1) 5 z z z (by kernel_rfl) (fun w hst => x_load z isAgg57 (rd_load f0_1 (HL.le.refl _) hst hi626 (by rintro _ rfl; rfl))) (wsr (Pt b488 4) 6 z z z (by kernel_rfl) (fun w hst => x_field z underlying34 z sizeOf31 z) (wsr (r1_1) 7 z z z (by kernel_rfl) (fun w hst => x_load z isAgg31 (hst.bc1 z)) (wsr (.int .i64 z612) 8 z z z (by kernel_rfl) (fun w hst => z) ?_)))))
 obtain ⟨x627, hx628, hm⟩ := bind_some hm
 obtain ⟨h629, h630, hi631⟩ := geto_some hx628
 refine wsr (.pointer (some (eAddr r1_1 (z612.toNat * 2 + 0)))) 9 z z z (by kernel_rfl) (fun w hst => x_index z z underlying31 sizeOf75 (rd_sliceV f1_1) h629 h630) (wsr (.pointer (some (eAddr r1_1 (z612.toNat * 2 + 0)))) 10 z z z (by kernel_rfl) (fun w hst => x_index_arr_e (i := (0:Int)) z z underlying75 sizeOf57 (by decide) (by decide) z) (wsr (.float .f64 x627.1) 11 z z z (by kernel_rfl) (fun w hst => x_load z isAgg57 (rd_load f1_1 (HL.le.refl _) hst hi631 (by rintro _ rfl; rfl))) ?_))
 refine ws_e1 12 (by kernel_rfl) ?_
 refine nxe [13, 14, 15, 16, 17, 18, 19, 20, 21, 22, 23, 24, 25, 26, 27, 28, 29] (by kernel_rfl) z z ?_
 clear hst
 intro w hst
 obtain ⟨t632, ht633, hm⟩ := bind_some hm
 refine wec call51 [F6 x622.1, F6 x627.1] z z ?_
 refine (ref01_Same_ref hst.to0 ht633).mono ?_
 rintro _ w634 ⟨rfl, hst⟩
 refine ⟨_, z, ?_⟩
 replace hst := hst.of0
 refine ws_next (pend' := []) hst (by kernel_rfl) pk_nil ?_
 refine wsr (.bool (!t632)) 13 z z z (by kernel_rfl) (fun w hst => z) (wsr (.bool (!t632)) 14 z z z (by kernel_rfl) (fun w hst => z) ?_)
 refine bsplit (!t632) (fun hc637 => ?_) (fun hc637 => ?_)
 {
 replace hm := bif_t hc637 hm
 refine ws_q (v := undef) 15 [16, 17, 18, 19, 20, 21, 22, 23, 24, 25, 26, 27, 28, 29] (by kernel_rfl) z z (yi_off ((wanted_eq z z z (cvb hc637)).trans z)) (ws_q (v := undef) 16 [17, 18, 19, 20, 21, 22, 23, 24, 25, 26, 27, 28, 29] (by kernel_rfl) z z (yi_off ((wanted_eq z z z (cvb hc637)).trans z)) (ws_q (v := undef) 17 [18, 19, 20, 21, 22, 23, 24, 25, 26, 27, 28, 29] (by kernel_rfl) z z (yi_off ((wanted_eq z z z (cvb hc637)).trans z)) (ws_q (v := undef) 18 [19, 20, 21, 22, 23, 24, 25, 26, 27, 28, 29] (by kernel_rfl) z z (yi_off ((wanted_eq z z z (cvb hc637)).trans z)) (ws_q (v := undef) 19 [20, 21, 22, 23, 24, 25, 26, 27, 28, 29] (by kernel_rfl) z z (yi_off ((wanted_eq z z z (cvb hc637)).trans z)) (ws_q (v := undef) 20 [21, 22, 23, 24, 25, 26, 27, 28, 29] (by kernel_rfl) z z (yi_off ((wanted_eq z z z (cvb hc637)).trans z)) (ws_q (v := undef) 21 [22, 23, 24, 25, 26, 27, 28, 29] (by kernel_rfl) z z (yi_off ((wanted_eq z z z (cvb hc637)).trans z)) (ws_q (v := undef) 22 [23, 24, 25, 26, 27, 28, 29] (by kernel_rfl) z z (yi_off ((wanted_eq z z z (cvb hc637)).trans z)) (ws_q (v := undef) 23 [24, 25, 26, 27, 28, 29] (by kernel_rfl) z z (yi_off ((wanted_eq z z z (cvb hc637)).trans z)) (ws_q (v := undef) 24 [25, 26, 27, 28, 29] (by kernel_rfl) z z (yi_off ((wanted_eq z z z (cvb hc637)).trans z)) (ws_q (v := undef) 25 [26, 27, 28, 29] (by kernel_rfl) z z (yi_off ((wanted_eq z z z (cvb hc637)).trans z)) (ws_q (v := undef) 26 [27, 28, 29] (by kernel_rfl) z z (yi_off ((wanted_eq z z z (cvb hc637)).trans z)) (ws_q (v := undef) 27 [28, 29] (by kernel_rfl) z z (yi_off ((wanted_eq z z z (cvb hc637)).trans z)) ?_))))))))))))
 refine ws_q (v := undef) 28 [29] (by kernel_rfl) z z (yi_off ((wanted_eq z z z (cvb hc637)).trans z)) (wsr (.bool true) 29 z z z (by kernel_rfl) (fun w hst => x_pick_t hc637 z z) ?_)
 refine ws_nil ?_
 intro w hst
 refine tn ?_
 refine wp_ift z ?_
 refine wp_seq (wrl (wv (.bool false) z z z (wl_nil (tn (wp_ret (blk_r (then_r (then_r ?_))))))))
 replace hm := inr_up hm hx619
 refine blk_r (then_r ?_)
 replace hm := inr_up hm hx647
 obtain rfl := some_inj hm
 refine post_ret (vs := [.bool false]) results18 (rvs_cons (rv_tmp z) rvs_nil) ?_
 exact ⟨z, hst.keep0⟩
}
 {
 replace hm := bif_f hc637 hm
 refine ws_q (v := Pt b483 4) 15 [16, 17, 18, 19, 20, 21, 22, 23, 24, 25, 26, 27, 28, 29] (by kernel_rfl) z z (yi_run ((wanted_eq z z z (cvb hc637)).trans z) (fun w hst => x_field z underlying34 z sizeOf31 z)) (ws_q (v := r0_1) 16 [17, 18, 19, 20, 21, 22, 23, 24, 25, 26, 27, 28, 29] (by kernel_rfl) z z (yi_run ((wanted_eq z z z (cvb hc637)).trans z) (fun w hst => x_load z isAgg31 (hst.bc0 z))) (ws_q (v := .int .i64 z612) 17 [18, 19, 20, 21, 22, 23, 24, 25, 26, 27, 28, 29] (by kernel_rfl) z z (yi_run ((wanted_eq z z z (cvb hc637)).trans z) (fun w hst => z)) (ws_q (v := .pointer (some (eAddr r0_1 (z612.toNat * 2 + 0)))) 18 [19, 20, 21, 22, 23, 24, 25, 26, 27, 28, 29] (by kernel_rfl) z z (yi_run ((wanted_eq z z z (cvb hc637)).trans z) (fun w hst => x_index z z underlying31 sizeOf75 (rd_sliceV f0_1) h624 h625)) (ws_q (v := .pointer (some (eAddr r0_1 (z612.toNat * 2 + 1)))) 19 [20, 21, 22, 23, 24, 25, 26, 27, 28, 29] (by kernel_rfl) z z (yi_run ((wanted_eq z z z (cvb hc637)).trans z) (fun w hst => x_index_arr_e (i := (1:Int)) z z underlying75 sizeOf57 (by decide) (by decide) z)) (ws_q (v := .float .f64 x622.2) 20 [21, 22, 23, 24, 25, 26, 27, 28, 29] (by kernel_rfl) z z (yi_run ((wanted_eq z z z (cvb hc637)).trans z) (fun w hst => x_load z isAgg57 (rd_load f0_1 (HL.le.refl _) hst hi626 (by rintro _ rfl; rfl)))) (ws_q (v := Pt b488 4) 21 [22, 23, 24, 25, 26, 27, 28, 29] (by kernel_rfl) z z (yi_run ((wanted_eq z z z (cvb hc637)).trans z) (fun w hst => x_field z underlying34 z sizeOf31 z)) (ws_q (v := r1_1) 22 [23, 24, 25, 26, 27, 28, 29] (by kernel_rfl) z z (yi_run ((wanted_eq z z z (cvb hc637)).trans z) (fun w hst => x_load z isAgg31 (hst.bc1 z))) (ws_q (v := .int .i64 z612) 23 [24, 25, 26, 27, 28, 29] (by kernel_rfl) z z (yi_run ((wanted_eq z z z (cvb hc637)).trans z) (fun w hst => z)) (ws_q (v := .pointer (some (eAddr r1_1 (z612.toNat * 2 + 0)))) 24 [25, 26, 27, 28, 29] (by kernel_rfl) z z (yi_run ((wanted_eq z z z (cvb hc637)).trans z) (fun w hst => x_index z z underlying31 sizeOf75 (rd_sliceV f1_1) h629 h630)) (ws_q (v := .pointer (some (eAddr r1_1 (z612.toNat * 2 + 1)))) 25 [26, 27, 28, 29] (by kernel_rfl) z z (yi_run ((wanted_eq z z z (cvb hc637)).trans z) (fun w hst => x_index_arr_e (i := (1:Int)) z z underlying75 sizeOf57 (by decide) (by decide) z)) (ws_q (v := .float .f64 x627.2) 26 [27, 28, 29] (by kernel_rfl) z z (yi_run ((wanted_eq z z z (cvb hc637)).trans z) (fun w hst => x_load z isAgg57 (rd_load f1_1 (HL.le.refl _) hst hi631 (by rintro _ rfl; rfl)))) ?_)))))))))))
 refine ws_e1 27 (by kernel_rfl) ?_
 refine nxe [28, 29] (by kernel_rfl) z ((wanted_eq z z z (cvb hc637)).trans z) ?_
 clear hst
 intro w hst
 obtain ⟨t638, ht639, hm⟩ := bind_some hm
 refine wec call51 [F6 x622.2, F6 x627.2] z z ?_
 refine (ref01_Same_ref hst.to0 ht639).mono ?_
 rintro _ w640 ⟨rfl, hst⟩
 refine ⟨_, z, ?_⟩
 replace hst := hst.of0
 refine ws_next (pend' := []) hst (by kernel_rfl) pk_nil ?_
 refine ws_q (v := .bool (!t638)) 28 [29] (by kernel_rfl) z z (yi_run ((wanted_eq z z z (cvb hc637)).trans z) (fun w hst => z)) (wsr (.bool (!t638)) 29 z z z (by kernel_rfl) (fun w hst => x_pick_f hc637 z z) ?_)
 refine ws_nil ?_
 intro w hst
 refine tn ?_
 refine bsplit (!t638) (fun hc643 => ?_) (fun hc643 => ?_)
 {
 replace hm := bif_t hc643 hm
 refine wp_ift (cvb hc643) ?_
 refine wp_seq (wrl (wv (.bool false) z z z (wl_nil (tn (wp_ret (blk_r (then_r (then_r ?_))))))))
 replace hm := inr_up hm hx619
 refine blk_r (then_r ?_)
 replace hm := inr_up hm hx647
 obtain rfl := some_inj hm
 refine post_ret (vs := [.bool false]) results18 (rvs_cons (rv_tmp z) rvs_nil) ?_
 exact ⟨z, hst.keep0⟩
}
 {
 replace hm := bif_f hc643 hm
 refine wp_iff (cvb hc643) ?_
 refine wp_skip (blk_n (tn (wrl ?_)))
 refine wv (.int .i64 z612) z z z (wv (.int .i64 (i64.wrap (z612 + (1:Int)))) z z z (wv (.int .i64 (i64.wrap (z612 + (1:Int)))) z z z (wl_nil (tn ?_))))
 replace hst := hst.pull1.pull1.keep2
 obtain rfl := some_inj hm
 exact ⟨_, Nat.lt_succ_self _, (i64.wrap (z612 + (1:Int))), _, hx619, (fu 2 (Pt b483 0) z (fu 3 (Pt b488 0) z (fu 6 (.int .i64 (i64.wrap (z612 + (1:Int)))) z z))), hst⟩
}
}
}
 {
 replace hm := bif_f hc621 hm
 refine wp_iff (cvb hc621) ?_
 refine wp_exit (then_x (then_x ?_))
 replace hm := inr_up hm hx619
 refine blk_x (tn ?_)
 replace hst := hst.pull1.pull1.keep2
 obtain rfl := some_inj hm
 exact ⟨_, hx647, (fu 2 (Pt b483 0) z (fu 3 (Pt b488 0) z z)), hst⟩
}
}
 {
 clear hst
 rintro _ w648 ⟨σ644, hm, rfl, hst⟩
 dsimp only [ref11_SameHold_j2] at hm
 refine wp_seq (wp_seq (wrl (wv (.int .i64 (0:Int)) z z z (wl_nil (tn (wp_block ?_))))))
 obtain ⟨n686, hm⟩ := loopO_some hm
 refine wp_loop_n (fun n a w => ∃ (z684 : Int) (σ685 : Nat → Value), loopN (ref11_SameHold_l4 a0 a1) n z684 = some r ∧ a = Fr 131 (upd (upd (upd σ685 2 (Pt b483 0)) 3 (Pt b488 0)) 7 (.int .i64 z684)) ∧ St w0 w I [cells b483 [U6 a0.ID.Session, U6 a0.ID.Seq, U6 a0.Epoch, r0_0, r0_1, r0_2, r0_3], cells b488 [U6 a1.ID.Session, U6 a1.ID.Seq, U6 a1.Epoch, r1_0, r1_1, r1_2, r1_3]] R) n686 ⟨(0:Int), _, hm, (fu 2 (Pt b483 0) z (fu 3 (Pt b488 0) z (fu 7 (.int .i64 (0:Int)) z z))), hst⟩ ?_
 rintro n692 _ w687 ⟨z684, σ685, hm, rfl, hst⟩
 obtain ⟨n689, y690, rfl, hm, hx691⟩ := loopN_some hm
 dsimp only [ref11_SameHold_l4] at hm
 refine wp_seq (wp_seq (wrl (wv (.int .i64 z684) z z z (wv (Pt b483 5) z z (x_field z underlying34 z sizeOf30 z) (wv (r0_2) z z (x_load z isAgg30 (hst.bc0 z)) (wv (.int .i64 ((a0.Puts).length : Int)) z z (x_len z underlying30 (rd_sliceV f0_2)) (wv (.bool (decide (z684 < ((a0.Puts).length : Int)))) z z z (wl_nil (tn ?_)))))))))
 refine bsplit (decide (z684 < ((a0.Puts).length : Int))) (fun hc693 => ?_) (fun hc693 => ?_)
 {
 replace hm := bif_t hc693 hm
 refine wp_ift (cvb hc693) ?_
 refine wp_skip (tn (wp_seq (wp_block (wp_seq ?_))))
 refine wp_region_St hst 12 [0, 1, 2, 3, 4, 5, 6, 7, 8, 9, 10, 11] [0, 1, 0, 7, 15, 0, 32, 0, 224, 480, 1023, 2047] [] z (by kernel_rfl) (by kernel_rfl) Try.mixed (by kernel_rfl) ?_
 refine wsr (Pt b483 5) 0 z z z (by kernel_rfl) (fun w hst => x_field z underlying34 z sizeOf30 z) (wsr (r0_2) 1 z z z (by kernel_rfl) (fun w hst => x_load z isAgg30 (hst.bc0 z)) (wsr (.int .i64 z684) 2 z z z (by kernel_rfl) (fun w hst => z) ?_))
 obtain ⟨x694, hx695, hm⟩ := bind_some hm
 obtain ⟨h696, h697, hi698⟩ := geto_some hx695
 refine wsr (.pointer (some (eAddr r0_2 (z684.toNat * 1 + 0)))) 3 z z z (by kernel_rfl) (fun w hst => x_index z z underlying30 sizeOf57 (rd_sliceV f0_2) h696 h697) (wsr (.float .f64 x694) 4 z z z (by kernel_rfl) (fun w hst => x_load z isAgg57 (rd_load f0_2 (HL.le.refl _) hst hi698 (by rintro _ rfl; rfl))) (wsr (Pt b488 5) 5 z z z (by kernel_rfl) (fun w hst => x_field z underlying34 z sizeOf30 z) (wsr (r1_2) 6 z z z (by kernel_rfl) (fun w hst => x_load z isAgg30 (hst.bc1 z)) (wsr (.int .i64 z684) 7 z z z (by kernel_rfl) (fun w hst => z) ?_))))
 obtain ⟨x699, hx700, hm⟩ := bind_some hm
 obtain ⟨h701, h702, hi703⟩ := geto_some hx700
 refine wsr (.pointer (some (eAddr r1_2 (z684.toNat * 1 + 0)))) 8 z z z (by kernel_rfl) (fun w hst => x_index z z underlying30 sizeOf57 (rd_sliceV f1_2) h701 h702) (wsr (.float .f64 x699) 9 z z z (by kernel_rfl) (fun w hst => x_load z isAgg57 (rd_load f1_2 (HL.le.refl _) hst hi703 (by rintro _ rfl; rfl))) ?_)
 refine ws_e1 10 (by kernel_rfl) ?_
 refine nxe [11] (by kernel_rfl) z z ?_
 clear hst
 intro w hst
 obtain ⟨t704, ht705, hm⟩ := bind_some hm
 refine wec call51 [F6 x694, F6 x699] z z ?_
 refine (ref01_Same_ref hst.to0 ht705).mono ?_
 rintro _ w706 ⟨rfl, hst⟩
 refine ⟨_, z, ?_⟩
 replace hst := hst.of0
 refine ws_next (pend' := []) hst (by kernel_rfl) pk_nil ?_
 refine wsr (.bool (!t704)) 11 z z z (by kernel_rfl) (fun w hst => z) ?_
 refine ws_nil ?_
 intro w hst
 refine tn ?_
 refine bsplit (!t704) (fun hc709 => ?_) (fun hc709 => ?_)
 {
 replace hm := bif_t hc709 hm
 refine wp_ift (cvb hc709) ?_
 refine wp_seq (wrl (wv (.bool false) z z z (wl_nil (tn (wp_ret (blk_r (then_r (then_r ?_))))))))
 replace hm := inr_up hm hx691
 refine blk_r (then_r ?_)
 obtain rfl := some_inj hm
 refine post_ret (vs := [.bool false]) results18 (rvs_cons (rv_tmp z) rvs_nil) ?_
 exact ⟨z, hst.keep0⟩
}
 {
 replace hm := bif_f hc709 hm
 refine wp_iff (cvb hc709) ?_
 refine wp_skip (blk_n (tn (wrl ?_)))
 refine wv (.int .i64 z684) z z z (wv (.int .i64 (i64.wrap (z684 + (1:Int)))) z z z (wv (.int .i64 (i64.wrap (z684 + (1:Int)))) z z z (wl_nil (tn ?_))))
 replace hst := hst.pull1.pull1.keep2
 obtain rfl := some_inj hm
 exact ⟨_, Nat.lt_succ_self _, (i64.wrap (z684 + (1:Int))), _, hx691, (fu 2 (Pt b483 0) z (fu 3 (Pt b488 0) z (fu 7 (.int .i64 (i64.wrap (z684 + (1:Int)))) z z))), hst⟩
}
}
 {
 replace hm := bif_f hc693 hm
 refine wp_iff (cvb hc693) ?_
 refine wp_exit (then_x (then_x ?_))
 replace hm := inr_up hm hx691
 refine blk_x (tn (wp_seq (wrl ?_)))
 refine wv (.bool true) z z z (wl_nil (tn (wp_ret ?_)))
 obtain rfl := some_inj hm
 refine post_ret (vs := [.bool true]) results18 (rvs_cons (rv_tmp z) rvs_nil) ?_
 exact ⟨z, hst.keep0⟩
}
}
}
}
}
}
}
}
}
}

theorem locks_Table_Until_ref {w0 w : World} {I : HL} {R : SP} {a0 : (Option locks_Table)} {p0 : Value} {a1 : Int}  (hst : St w0 w I [objO at_locks_Table p0 a0] R) {r : (Bool)} (hm : locks_Table_Until a0 a1 = some r) :
  Calls prog 28 #[p0, U6 a1] w fun e w' => e = .returned (.bool r) ∧ St w0 w' I [objO at_locks_Table p0 a0] R := by {
 rcases a0 with _ | o0
 {
 obtain ⟨rfl, hst'⟩ := objO_none hst
 clear hst
 have hst := hst'
 clear hst'
 dsimp only [locks_Table_Until] at hm
 refine calls_start (args := [.pointer none, U6 a1]) func28 z ntmps28 (Nat.le_of_ble_eq_true z) ?_
 refine wp_seq (wrl ?_)
 obtain ⟨b645, w646, ew647, eb648, hst⟩ := hst.box [U6 a1] 27
 refine wl_run (v := Pt b645 0) (w' := w646) z z (x_al (by kernel_rfl) ew647 eb648) ?_
 refine wv (.bool false) z z z (wl_nil (tn (wp_seq (wrl (wv (.pointer none) z z z (wv (.bool false) z z (by kernel_rfl) (wv (.bool false) z z z (wz z z z z z z (wz z z z z z z (wz z z z z z z (wz z z z z z z (wz z z z z z z (wz z z z z z z (wv (.bool false) z z (x_pick_f z z z) (wv (.bool false) z z z ?_)))))))))))))))
 refine wl_nil (tn (wp_ret ?_))
 replace hst := hst.objO_nil at_locks_Table
 obtain rfl := some_inj hm
 refine post_ret (vs := [.bool false]) results28 (rvs_cons (rv_tmp z) rvs_nil) ?_
 exact ⟨z, hst.keep1⟩
}
 {
 replace hst := objO_get hst
 dsimp only [locks_Table_Until] at hm
 refine calls_start (args := [p0, U6 a1]) func28 z ntmps28 (Nat.le_of_ble_eq_true z) ?_
 refine wp_seq (wrl ?_)
 obtain ⟨b650, w651, ew652, eb653, hst⟩ := hst.box [U6 a1] 27
 refine wl_run (v := Pt b650 0) (w' := w651) z z (x_al (by kernel_rfl) ew652 eb653) ?_
 refine wv (.bool false) z z z (wl_nil (tn (wp_seq (wrl (wv (p0) z z z ?_)))))
 replace hst := hst.pull1
 obtain ⟨b655, v656, rfl, hst'⟩ := at_locks_Table_open hst
 clear hst
 have hst := hst'
 clear hst'
 refine wv (.bool true) z z (by kernel_rfl) (wv (.bool true) z z z (wv (Pt b655 0) ((wanted_eq z z z z).trans z) z z (wv (Pt b655 0) ((wanted_eq z z z z).trans z) z z (wv (Pt b655 0) ((wanted_eq z z z z).trans z) z (x_field z underlying77 z sizeOf22 z) (wv (v656) ((wanted_eq z z z z).trans z) z (x_load z isAgg22 (hst.bc0 z)) (wv (.func (.func 56) #[] #[Pt b650 0]) ((wanted_eq z z z z).trans z) z (by kernel_rfl) ?_))))))
 obtain ⟨y768, hq769, hm⟩ := bind_some hm
 refine wl_call ((wanted_eq z z z z).trans z) z (x_callv call55 (caps := []) z (vs := [v656, .func (.func 56) #[] #[Pt b650 0]]) z) ?_
 refine Calls.mono (show Calls prog 55 #[v656, .func (.func 56) #[] #[Pt b650 0]] _ (fun e w' => ∃ (z766 : Bool), z766 = y768 ∧ e = .returned (.bool z766) ∧ St w0 w' I [cells b655 [v656], ownS ty_api_Hold v656 o0.l, cells b650 [U6 a1]] R) from ?_) ?_
 {
 clear hm; have hm := hq769
 refine calls_start (args := [v656, .func (.func 56) #[] #[Pt b650 0]]) func55 z ntmps55 (Nat.le_of_ble_eq_true z) ?_
 refine wp_seq (wrl (wv (.bool false) z z z (wl_nil (tn (wp_seq (wrl (wv (v656) z z z (wv (.func (.func 56) #[] #[Pt b650 0]) z z z ?_))))))))
 obtain ⟨y763, hq764, hm⟩ := bind_some hm
 refine wl_call z z (x_callv call83 (caps := []) z (vs := [v656, .func (.func 56) #[] #[Pt b650 0]]) z) ?_
 refine Calls.mono (show Calls prog 83 #[v656, .func (.func 56) #[] #[Pt b650 0]] _ (fun e w' => ∃ (z761 : Int), z761 = y763 ∧ e = .returned (.int .i64 z761) ∧ St w0 w' I [cells b655 [v656], ownS ty_api_Hold v656 o0.l, cells b650 [U6 a1]] R) from ?_) ?_
 {
 clear hm; have hm := hq764
 refine calls_start (args := [v656, .func (.func 56) #[] #[Pt b650 0]]) func83 z ntmps83 (Nat.le_of_ble_eq_true z) ?_
 refine wp_seq (wrl (wv (.int .i64 (0:Int)) z z z (wl_nil (tn (wp_seq (wp_seq (wrl (wv (v656) z z z (wv (.int .i64 ((o0.l).length : Int)) z z (x_len z underlying22 hst.sv1) (wv (.int .i64 (0:Int)) z z z (wl_nil (tn (wp_block ?_)))))))))))))
 obtain ⟨n723, hm⟩ := loopO_some hm
 refine wp_loop_n (fun n a w => ∃ (z721 : Int) (σ722 : Nat → Value), loopN (locks_Table_Until_l0 o0 a1) n z721 = some y763 ∧ a = Fr 19 (upd (upd (upd (upd σ722 0 (v656)) 1 (.func (.func 56) #[] #[Pt b650 0])) 7 (.int .i64 ((o0.l).length : Int))) 8 (.int .i64 z721)) ∧ St w0 w I [cells b655 [v656], ownS ty_api_Hold v656 o0.l, cells b650 [U6 a1]] R) n723 ⟨(0:Int), _, hm, (fu 0 v656 z (fu 1 (.func (.func 56) #[] #[Pt b650 0]) z (fu 7 (.int .i64 ((o0.l).length : Int)) z (fu 8 (.int .i64 (0:Int)) z z)))), hst⟩ ?_
 rintro n729 _ w724 ⟨z721, σ722, hm, rfl, hst⟩
 obtain ⟨n726, y727, rfl, hm, hx728⟩ := loopN_some hm
 dsimp only [locks_Table_Until_l0] at hm
 refine wp_seq (wrl (wv (.bool (decide (z721 < ((o0.l).length : Int)))) z z z (wl_nil (tn (wp_seq ?_)))))
 refine bsplit (decide (z721 < ((o0.l).length : Int))) (fun hc730 => ?_) (fun hc730 => ?_)
 {
 replace hm := bif_t hc730 hm
 refine wp_ift (cvb hc730) ?_
 refine wp_skip (tn (wp_seq (wp_block (wp_seq (wrl ?_)))))
 refine wv (.int .i64 z721) z z z (wv (.int .i64 z721) z z z (wl_nil (tn (wp_seq (wrl (wv (.func (.func 56) #[] #[Pt b650 0]) z z z (wv (v656) z z z (wv (.int .i64 z721) z z z ?_))))))))
 obtain ⟨x731, hx732, hm⟩ := bind_some hm
 obtain ⟨h733, h734, hi735⟩ := geto_some hx732
 refine wv (.pointer (some (eAddr v656 (z721.toNat * 7 + 0)))) z z (x_index z z underlying22 sizeOf34 hst.sv1 h733 h734) ?_
 obtain ⟨cs736, hr737, hc738⟩ := hst.og1 hi735
 obtain ⟨v739, v742, v745, v748, rfl, f740, f743, f746, f749, -⟩ := hr737
 refine wv (.agg #[U6 x731.ID.Session, U6 x731.ID.Seq, U6 x731.Epoch, v739, v742, v745, v748]) z z (x_loadN (cs := [U6 x731.ID.Session, U6 x731.ID.Seq, U6 x731.Epoch, v739, v742, v745, v748]) z isAgg34 sizeOf34 (eCells (o := 0) hc738 z)) ?_
 obtain ⟨y757, hq758, hm⟩ := bind_some hm
 refine wl_call z z (x_callv call56 (caps := [Pt b650 0]) z (vs := [.agg #[U6 x731.ID.Session, U6 x731.ID.Seq, U6 x731.Epoch, v739, v742, v745, v748]]) z) ?_
 refine Calls.mono (show Calls prog 56 #[.agg #[U6 x731.ID.Session, U6 x731.ID.Seq, U6 x731.Epoch, v739, v742, v745, v748], Pt b650 0] _ (fun e w' => () = y757 ∧ e = .returned (.bool (decide (x731.Epoch ≤ a1))) ∧ St w0 w' I [cells b655 [v656], ownS ty_api_Hold v656 o0.l, cells b650 [U6 a1]] R) from ?_) ?_
 {
 clear hm; have hm := hq758
 refine calls_start (args := [.agg #[U6 x731.ID.Session, U6 x731.ID.Seq, U6 x731.Epoch, v739, v742, v745, v748], Pt b650 0]) func56 z ntmps56 (Nat.le_of_ble_eq_true z) ?_
 refine wp_seq (wrl ?_)
 obtain ⟨b751, w752, ew753, eb754, hst⟩ := hst.box [U6 x731.ID.Session, U6 x731.ID.Seq, U6 x731.Epoch, v739, v742, v745, v748] 34
 refine wl_run (v := Pt b751 0) (w' := w752) z z (x_al (by kernel_rfl) ew753 eb754) ?_
 refine wv (.bool false) z z z (wl_nil (tn (wp_seq (wrl (wv (Pt b751 2) z z (x_field z underlying34 z sizeOf27 z) (wv (.int .u64 x731.Epoch) z z (x_load z isAgg27 (hst.bc0 z)) (wv (.int .u64 a1) z z (x_load z isAgg27 (hst.bc3 z)) (wv (.bool (decide (x731.Epoch ≤ a1))) z z z (wv (.bool (decide (x731.Epoch ≤ a1))) z z z (wl_nil (tn (wp_ret ?_))))))))))))
 refine post_ret (vs := [.bool (decide (x731.Epoch ≤ a1))]) results56 (rvs_cons (rv_tmp z) rvs_nil) ?_
 replace hst := hst.pull3.pull3.pull3.keep3
 obtain rfl := some_inj hm
 exact ⟨z, z, hst⟩
}
 clear hst
 rintro _ w759 ⟨rfl, rfl, hst⟩
 refine ⟨_, z, ?_⟩
 try dsimp only at hm
 refine wl_nil (tn ?_)
 refine bsplit (decide (x731.Epoch ≤ a1)) (fun hc760 => ?_) (fun hc760 => ?_)
 {
 replace hm := bif_t hc760 hm
 refine wp_ift (cvb hc760) ?_
 refine wp_seq (wrl (wv (.int .i64 z721) z z z (wv (.int .i64 z721) z z z (wl_nil (tn (wp_ret (blk_r (then_r (then_r ?_)))))))))
 replace hm := inr_up hm hx728
 refine blk_r (then_r ?_)
 refine post_ret (vs := [I6 z721]) results83 (rvs_cons (rv_tmp z) rvs_nil) ?_
 replace hst := hst.pull2.pull2.pull2.keep3
 obtain rfl := some_inj hm
 exact ⟨z721, z, z, hst⟩
}
 {
 replace hm := bif_f hc760 hm
 refine wp_iff (cvb hc760) ?_
 refine wp_skip (blk_n (tn (wrl ?_)))
 refine wv (.int .i64 (i64.wrap (z721 + (1:Int)))) z z z (wv (.int .i64 (i64.wrap (z721 + (1:Int)))) z z z (wl_nil (tn ?_)))
 replace hst := hst.pull2.pull2.pull2.keep3
 obtain rfl := some_inj hm
 exact ⟨_, Nat.lt_succ_self _, (i64.wrap (z721 + (1:Int))), _, hx728, (fu 0 v656 z (fu 1 (.func (.func 56) #[] #[Pt b650 0]) z (fu 7 (.int .i64 ((o0.l).length : Int)) z (fu 8 (.int .i64 (i64.wrap (z721 + (1:Int)))) z z)))), hst⟩
}
}
 {
 replace hm := bif_f hc730 hm
 refine wp_iff (cvb hc730) ?_
 refine wp_exit (then_x (then_x ?_))
 replace hm := inr_up hm hx728
 refine blk_x (tn (wp_seq (wrl ?_)))
 refine wv (.int .i64 ((-1):Int)) z z z (wl_nil (tn (wp_ret ?_)))
 refine post_ret (vs := [I6 ((-1):Int)]) results83 (rvs_cons (rv_tmp z) rvs_nil) ?_
 replace hst := hst.pull2.pull2.pull2.keep3
 obtain rfl := some_inj hm
 exact ⟨((-1):Int), z, z, hst⟩
}
}
 clear hst
 rintro _ w765 ⟨z761, rfl, rfl, hst⟩
 refine ⟨_, z, ?_⟩
 try dsimp only at hm
 refine wv (.bool (decide (z761 ≥ (0:Int)))) z z z (wv (.bool (decide (z761 ≥ (0:Int)))) z z z (wl_nil (tn (wp_ret ?_))))
 refine post_ret (vs := [.bool (decide (z761 ≥ (0:Int)))]) results55 (rvs_cons (rv_tmp z) rvs_nil) ?_
 replace hst := hst.pull2.pull2.pull2.keep3
 obtain rfl := some_inj hm
 exact ⟨(decide (z761 ≥ (0:Int))), z, z, hst⟩
}
 clear hst
 rintro _ w770 ⟨z766, rfl, rfl, hst⟩
 refine ⟨_, z, ?_⟩
 try dsimp only at hm
 refine wv (.bool z766) z z (x_pick_t z z z) (wv (.bool z766) z z z (wl_nil (tn (wp_ret ?_))))
 replace hst := hst.pull1.pull1
 replace hst := at_locks_Table_close (pv := Pt b655 0) (x := o0) hst z
 replace hst := objO_some hst
 obtain rfl := some_inj hm
 refine post_ret (vs := [.bool z766]) results28 (rvs_cons (rv_tmp z) rvs_nil) ?_
 exact ⟨z, hst.keep1⟩
}
}

end Go.Proofs.Ytbdhhmnncknhhaa
