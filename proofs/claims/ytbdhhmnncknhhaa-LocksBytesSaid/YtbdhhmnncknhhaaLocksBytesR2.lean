/- The Go functions refine their models, part 2. -/
import Derived.Test.YtbdhhmnncknhhaaLocksBytesR1
set_option linter.unusedVariables false
set_option linter.unusedSimpArgs false
set_option maxRecDepth 100000
set_option maxHeartbeats 4000000
namespace Go.Proofs.Ytbdhhmnncknhhaa
open Go Go.V
open _root_.Go.Proofs.Try IntKind
attribute [local irreducible] wpList Code.wp wpQuiet Calls bodyPost Oper.wp wpS Nx PendOK YieldsIn
theorem ref12_Tape_Hold_ref {w0 w : World} {I : HL} {R : SP} {a0 : ref12_Tape} {p0 : Value}  (hst : St w0 w I [at_ref12_Tape p0 a0] R) {r : (api_Hold × ref12_Tape)} (hm : ref12_Tape_Hold a0 = some r) :
  Calls prog 16 #[p0] w fun e w' => ∃ (q0_0 : Value) (q0_1 : Value) (q0_2 : Value) (q0_3 : Value), e = .returned (.agg #[U6 r.1.ID.Session, U6 r.1.ID.Seq, U6 r.1.Epoch, q0_0, q0_1, q0_2, q0_3]) ∧ St w0 w' I [ownS tyF64 q0_0 r.1.Gets, ownS tyF2 q0_1 r.1.Scans, ownS tyF64 q0_2 r.1.Puts, ownS (tyInt .u8) q0_3 r.1.Data, at_ref12_Tape p0 r.2] R := by {
 unfold ref12_Tape_Hold at hm
 refine calls_start (args := [p0]) func16 z ntmps16 (Nat.le_of_ble_eq_true z) ?_
 refine wp_seq (wrl ?_)
 obtain ⟨b534, w535, ew536, eb537, hst⟩ := hst.box [Zu, Zu, Zu, Zs, Zs, Zs, Zs] 34
 refine wl_run (v := Pt b534 0) (w' := w535) z z (x_al (by kernel_rfl) ew536 eb537) ?_
 refine wl_nil (tn (wp_seq (wrl (wv (p0) z z z ?_))))
 replace hst := hst.pull1
 obtain ⟨t539, ht540, hm⟩ := bind_some hm
 refine wc call21 [p0] z z z ?_
 refine (ref12_Tape_Of_ref hst.to1 ht540).mono ?_
 rintro _ w541 ⟨rfl, hst⟩
 refine ⟨_, z, ?_⟩
 replace hst := hst.of1
 refine wv (p0) z z z ?_
 obtain ⟨t544, ht545, hm⟩ := bind_some hm
 refine wc call20 [p0, I6 (4:Int)] z z z ?_
 refine (ref12_Tape_Next_ref hst.to1 ht545).mono ?_
 rintro _ w546 ⟨rfl, hst⟩
 refine ⟨_, z, ?_⟩
 replace hst := hst.of1
 refine wv (.int .i64 (i64.wrap ((1:Int) + t544.1))) z z z (wv (.int .u64 (u64.wrap (i64.wrap ((1:Int) + t544.1)))) z z (by kernel_rfl) (wv (.agg #[U6 t539.1.Session, U6 t539.1.Seq, U6 (u64.wrap (i64.wrap ((1:Int) + t544.1))), Zs, Zs, Zs, Zs]) z z (by kernel_rfl) ?_))
 obtain ⟨b557, w558, ew559, eb560, hst⟩ := hst.box [Zu, Zu, Zu, Zs, Zs, Zs, Zs] 34
 refine wl_run (v := Pt b557 0) (w' := w558) z z (x_al (by kernel_rfl) ew559 eb560) ?_
 obtain ⟨w562, hr563, hst⟩ := hst.bx [U6 t539.1.Session, U6 t539.1.Seq, U6 (u64.wrap (i64.wrap ((1:Int) + t544.1))), Zs, Zs, Zs, Zs] sizeOf34 z (oC z (oC z (oC z (oC z (oC z (oC z (oC z oN))))))) (by kernel_rfl)
 refine wl_unit z z (x_unit hr563) ?_
 refine wl_nil (tn (wp_seq (wrl (wv (p0) z z z ?_))))
 replace hst := hst.pull1
 obtain ⟨t564, ht565, hm⟩ := bind_some hm
 refine wc call20 [p0, I6 (3:Int)] z z z ?_
 refine (ref12_Tape_Next_ref hst.to1 ht565).mono ?_
 rintro _ w566 ⟨rfl, hst⟩
 refine ⟨_, z, ?_⟩
 replace hst := hst.of1
 refine wv (.int .i64 t564.1) z z z (wl_nil (tn ?_))
 obtain ⟨y665, hm, hx666⟩ := bind_some hm
 refine wp_cut (fun a w => ∃ (z659 : ref12_Tape) (z662 : (List Nat)) (v661 : Value) (σ663 : Nat → Value), (ref12_Tape_Hold_j0 t539 t544) (z659, z662) = some r ∧ a = Fr 68 (upd (upd (upd σ663 0 (p0)) 2 (Pt b534 0)) 3 (Pt b557 0)) ∧ St w0 w I [at_ref12_Tape p0 z659, cells b534 [Zu, Zu, Zu, Zs, Zs, Zs, Zs], cells b557 [U6 t539.1.Session, U6 t539.1.Seq, U6 (u64.wrap (i64.wrap ((1:Int) + t544.1))), v661, Zs, Zs, Zs], ownS tyF64 v661 z662] R) ?_ ?_
 {
 refine wp_seq (wrl (wv (.int .i64 (0:Int)) z z z (wl_nil (tn (wp_block ?_)))))
 replace hst := hst.own_nil tyF64
 obtain ⟨n634, hm⟩ := loopO_some hm
 refine wp_loop_n (fun n a w => ∃ (z628 : (List Nat)) (z631 : ref12_Tape) (z632 : Int) (v629 : Value) (σ633 : Nat → Value), loopN (ref12_Tape_Hold_l1 t564) n (z628, z631, z632) = some y665 ∧ a = Fr 68 (upd (upd (upd (upd (upd σ633 0 (p0)) 2 (Pt b534 0)) 3 (Pt b557 0)) 4 (.int .i64 t564.1)) 5 (.int .i64 z632)) ∧ St w0 w I [ownS tyF64 v629 z628, at_ref12_Tape p0 z631, cells b557 [U6 t539.1.Session, U6 t539.1.Seq, U6 (u64.wrap (i64.wrap ((1:Int) + t544.1))), v629, Zs, Zs, Zs], cells b534 [Zu, Zu, Zu, Zs, Zs, Zs, Zs]] R) n634 ⟨[], t564.2, (0:Int), Zs, _, hm, (fu 0 p0 z (fu 2 (Pt b534 0) z (fu 3 (Pt b557 0) z (fu 4 (.int .i64 t564.1) z (fu 5 (.int .i64 (0:Int)) z z))))), hst⟩ ?_
 rintro n640 _ w635 ⟨z628, z631, z632, v629, σ633, hm, rfl, hst⟩
 obtain ⟨n637, y638, rfl, hm, hx639⟩ := loopN_some hm
 dsimp only [ref12_Tape_Hold_l1] at hm
 refine wp_seq (wp_seq (wrl (wv (.int .i64 z632) z z z (wv (.int .i64 t564.1) z z z (wv (.bool (decide (z632 < t564.1))) z z z (wl_nil (tn ?_)))))))
 refine bsplit (decide (z632 < t564.1)) (fun hc641 => ?_) (fun hc641 => ?_)
 {
 replace hm := bif_t hc641 hm
 refine wp_ift (cvb hc641) ?_
 refine wp_skip (tn (wp_seq (wp_block ?_)))
 refine wp_region_St hst 8 [0, 1, 2, 3, 4, 5, 6, 7] [0, 1, 0, 4, 12, 31, 63, 127] [] z (by kernel_rfl) (by kernel_rfl) Try.mixed (by kernel_rfl) ?_
 refine wsr (Pt b557 3) 0 z z z (by kernel_rfl) (fun w hst => x_field z underlying34 z sizeOf30 z) (wsr (v629) 1 z z z (by kernel_rfl) (fun w hst => x_load z isAgg30 (hst.bc2 z)) (wsr (p0) 2 z z z (by kernel_rfl) (fun w hst => z) ?_))
 refine ws_e1 3 (by kernel_rfl) ?_
 refine nxe [4, 5, 6, 7] (by kernel_rfl) z z ?_
 clear hst
 intro w hst
 replace hst := hst.pull1
 obtain ⟨t642, ht643, hm⟩ := bind_some hm
 refine wec call44 [p0] z z ?_
 refine (ref12_Tape_Float_ref hst.to1 ht643).mono ?_
 rintro _ w644 ⟨rfl, hst⟩
 refine ⟨_, z, ?_⟩
 replace hst := hst.of1
 refine ws_next (pend' := [(1, v629), (0, Pt b557 3)]) hst (by kernel_rfl) (pkr z z (fun w hst => x_load z isAgg30 (hst.bc2 z)) (pkr z z (fun w hst => x_field z underlying34 z sizeOf30 z) pk_nil)) ?_
 refine ws_e1 4 (by kernel_rfl) ?_
 refine nxe [5, 6, 7] (by kernel_rfl) z z ?_
 clear hst
 intro w hst
 obtain ⟨b647, w648, ew649, eb650, hst⟩ := hst.lits (E := tyF64) (xs := [t642.1]) [[F6 t642.1]] 57 1 z (Reps.cons z Reps.nil)
 refine we_run (v := (.slice (some ⟨b647, 0, none⟩) 1 1)) (w' := w648) z (x_als (by kernel_rfl) ew649 eb650) ?_
 refine ws_next (pend' := [(1, v629), (0, Pt b557 3)]) hst (by kernel_rfl) (pkr z z (fun w hst => x_load z isAgg30 (hst.bc3 z)) (pkr z z (fun w hst => x_field z underlying34 z sizeOf30 z) pk_nil)) ?_
 refine ws_e1 5 (by kernel_rfl) ?_
 refine nxe [6, 7] (by kernel_rfl) z z ?_
 clear hst
 intro w hst
 obtain ⟨hg652, hm⟩ := gd_some hm
 replace hst := hst.pull2
 obtain ⟨v653, w654, hr655, hst⟩ := run_append elem_30 underlying30 hst hst.src1 (room_of hg652 z) 30
 refine we_run (v := v653) (w' := w654) z (x_append z z hr655) ?_
 refine ws_next (pend' := []) hst (by kernel_rfl) pk_nil ?_
 refine wsr (Pt b557 3) 6 z z z (by kernel_rfl) (fun w hst => x_field z underlying34 z sizeOf30 z) ?_
 refine ws_e1 7 (by kernel_rfl) ?_
 refine nxe [] (by kernel_rfl) z z ?_
 clear hst
 intro w hst
 replace hst := hst.pull3
 obtain ⟨w657, hr658, hst⟩ := hst.boxStore1 (P := prog) (t := 30) (cs' := [U6 t539.1.Session, U6 t539.1.Seq, U6 (u64.wrap (i64.wrap ((1:Int) + t544.1))), v653, Zs, Zs, Zs]) 3 v653 (one_of_sliceV hst.sv1) sizeOf30 z z
 refine we_unit z (x_unit hr658) ?_
 refine ws_next (pend' := []) hst (by kernel_rfl) pk_nil ?_
 refine ws_nil ?_
 intro w hst
 refine blk_n (tn (wrl ?_))
 refine wv (.int .i64 z632) z z z (wv (.int .i64 (i64.wrap (z632 + (1:Int)))) z z z (wv (.int .i64 (i64.wrap (z632 + (1:Int)))) z z z (wl_nil (tn ?_))))
 replace hst := hst.pull4.pull1.pull4.pull3.keep4
 obtain rfl := some_inj hm
 exact ⟨_, Nat.lt_succ_self _, (z628 ++ ([t642.1])), t642.2, (i64.wrap (z632 + (1:Int))), v653, _, hx639, (fu 0 p0 z (fu 2 (Pt b534 0) z (fu 3 (Pt b557 0) z (fu 4 (.int .i64 t564.1) z (fu 5 (.int .i64 (i64.wrap (z632 + (1:Int)))) z z))))), hst⟩
}
 {
 replace hm := bif_f hc641 hm
 refine wp_iff (cvb hc641) ?_
 refine wp_exit (then_x (then_x ?_))
 replace hm := inr_up hm hx639
 refine blk_x (tn ?_)
 replace hst := hst.pull2.pull3.pull3.keep4
 obtain rfl := some_inj hm
 exact ⟨z631, z628, v629, _, hx666, (fu 0 p0 z (fu 2 (Pt b534 0) z (fu 3 (Pt b557 0) z z))), hst⟩
}
}
 {
 clear hst
 rintro _ w667 ⟨z659, z662, v661, σ663, hm, rfl, hst⟩
 dsimp only [ref12_Tape_Hold_j0] at hm
 refine wp_seq (wrl (wv (p0) z z z ?_))
 obtain ⟨t668, ht669, hm⟩ := bind_some hm
 refine wc call20 [p0, I6 (3:Int)] z z z ?_
 refine (ref12_Tape_Next_ref hst.to1 ht669).mono ?_
 rintro _ w670 ⟨rfl, hst⟩
 refine ⟨_, z, ?_⟩
 replace hst := hst.of1
 refine wv (.int .i64 (i64.wrap (Int.tdiv t668.1 (2:Int)))) z z (x_quo (by decide) z z) (wv (.int .i64 (i64.wrap (Int.tdiv t668.1 (2:Int)))) z z z (wl_nil (tn ?_)))
 obtain ⟨y789, hm, hx790⟩ := bind_some hm
 refine wp_cut (fun a w => ∃ (z783 : ref12_Tape) (z786 : (List (Nat × Nat))) (v785 : Value) (σ787 : Nat → Value), (ref12_Tape_Hold_j2 t539 t544 z662) (z783, z786) = some r ∧ a = Fr 68 (upd (upd (upd σ787 0 (p0)) 2 (Pt b534 0)) 3 (Pt b557 0)) ∧ St w0 w I [at_ref12_Tape p0 z783, cells b534 [Zu, Zu, Zu, Zs, Zs, Zs, Zs], cells b557 [U6 t539.1.Session, U6 t539.1.Seq, U6 (u64.wrap (i64.wrap ((1:Int) + t544.1))), v661, v785, Zs, Zs], ownS tyF64 v661 z662, ownS tyF2 v785 z786] R) ?_ ?_
 {
 refine wp_seq (wrl (wv (.int .i64 (0:Int)) z z z (wl_nil (tn (wp_block ?_)))))
 replace hst := hst.own_nil tyF2
 obtain ⟨n753, hm⟩ := loopO_some hm
 refine wp_loop_n (fun n a w => ∃ (z747 : (List (Nat × Nat))) (z750 : ref12_Tape) (z751 : Int) (v748 : Value) (σ752 : Nat → Value), loopN (ref12_Tape_Hold_l3 t668) n (z747, z750, z751) = some y789 ∧ a = Fr 68 (upd (upd (upd (upd (upd σ752 0 (p0)) 2 (Pt b534 0)) 3 (Pt b557 0)) 4 (.int .i64 (i64.wrap (Int.tdiv t668.1 (2:Int))))) 6 (.int .i64 z751)) ∧ St w0 w I [ownS tyF2 v748 z747, at_ref12_Tape p0 z750, cells b534 [Zu, Zu, Zu, Zs, Zs, Zs, Zs], cells b557 [U6 t539.1.Session, U6 t539.1.Seq, U6 (u64.wrap (i64.wrap ((1:Int) + t544.1))), v661, v748, Zs, Zs], ownS tyF64 v661 z662] R) n753 ⟨[], t668.2, (0:Int), Zs, _, hm, (fu 0 p0 z (fu 2 (Pt b534 0) z (fu 3 (Pt b557 0) z (fu 4 (.int .i64 (i64.wrap (Int.tdiv t668.1 (2:Int)))) z (fu 6 (.int .i64 (0:Int)) z z))))), hst⟩ ?_
 rintro n759 _ w754 ⟨z747, z750, z751, v748, σ752, hm, rfl, hst⟩
 obtain ⟨n756, y757, rfl, hm, hx758⟩ := loopN_some hm
 dsimp only [ref12_Tape_Hold_l3] at hm
 refine wp_seq (wp_seq (wrl (wv (.int .i64 z751) z z z (wv (.int .i64 (i64.wrap (Int.tdiv t668.1 (2:Int)))) z z z (wv (.bool (decide (z751 < (i64.wrap (Int.tdiv t668.1 (2:Int)))))) z z z (wl_nil (tn ?_)))))))
 refine bsplit (decide (z751 < (i64.wrap (Int.tdiv t668.1 (2:Int))))) (fun hc760 => ?_) (fun hc760 => ?_)
 {
 replace hm := bif_t hc760 hm
 refine wp_ift (cvb hc760) ?_
 refine wp_skip (tn (wp_seq (wp_block ?_)))
 refine wp_region_St hst 11 [0, 1, 2, 3, 4, 5, 6, 7, 8, 9, 10] [0, 1, 0, 4, 0, 28, 60, 124, 255, 511, 1023] [] z (by kernel_rfl) (by kernel_rfl) Try.mixed (by kernel_rfl) ?_
 refine wsr (Pt b557 4) 0 z z z (by kernel_rfl) (fun w hst => x_field z underlying34 z sizeOf31 z) (wsr (v748) 1 z z z (by kernel_rfl) (fun w hst => x_load z isAgg31 (hst.bc3 z)) (wsr (p0) 2 z z z (by kernel_rfl) (fun w hst => z) (wsr (p0) 4 z z z (by kernel_rfl) (fun w hst => z) ?_)))
 refine ws_e1 3 (by kernel_rfl) ?_
 refine nxe [5, 6, 7, 8, 9, 10] (by kernel_rfl) z z ?_
 clear hst
 intro w hst
 replace hst := hst.pull1
 obtain ⟨t761, ht762, hm⟩ := bind_some hm
 refine wec call44 [p0] z z ?_
 refine (ref12_Tape_Float_ref hst.to1 ht762).mono ?_
 rintro _ w763 ⟨rfl, hst⟩
 refine ⟨_, z, ?_⟩
 replace hst := hst.of1
 refine ws_next (pend' := [(4, p0), (1, v748), (0, Pt b557 4)]) hst (by kernel_rfl) (pkr z z (fun w hst => z) (pkr z z (fun w hst => x_load z isAgg31 (hst.bc3 z)) (pkr z z (fun w hst => x_field z underlying34 z sizeOf31 z) pk_nil))) ?_
 refine ws_e1 5 (by kernel_rfl) ?_
 refine nxe [6, 7, 8, 9, 10] (by kernel_rfl) z z ?_
 clear hst
 intro w hst
 obtain ⟨t766, ht767, hm⟩ := bind_some hm
 refine wec call44 [p0] z z ?_
 refine (ref12_Tape_Float_ref hst.to1 ht767).mono ?_
 rintro _ w768 ⟨rfl, hst⟩
 refine ⟨_, z, ?_⟩
 replace hst := hst.of1
 refine ws_next (pend' := [(1, v748), (0, Pt b557 4)]) hst (by kernel_rfl) (pkr z z (fun w hst => x_load z isAgg31 (hst.bc3 z)) (pkr z z (fun w hst => x_field z underlying34 z sizeOf31 z) pk_nil)) ?_
 refine wsr (.agg #[F6 t761.1, F6 t766.1]) 6 z z z (by kernel_rfl) (fun w hst => by kernel_rfl) ?_
 refine ws_e1 7 (by kernel_rfl) ?_
 refine nxe [8, 9, 10] (by kernel_rfl) z z ?_
 clear hst
 intro w hst
 obtain ⟨b771, w772, ew773, eb774, hst⟩ := hst.lits (E := tyF2) (xs := [(t761.1, t766.1)]) [[F6 t761.1, F6 t766.1]] 75 1 z (Reps.cons z Reps.nil)
 refine we_run (v := (.slice (some ⟨b771, 0, none⟩) 1 1)) (w' := w772) z (x_als (by kernel_rfl) ew773 eb774) ?_
 refine ws_next (pend' := [(1, v748), (0, Pt b557 4)]) hst (by kernel_rfl) (pkr z z (fun w hst => x_load z isAgg31 (hst.bc4 z)) (pkr z z (fun w hst => x_field z underlying34 z sizeOf31 z) pk_nil)) ?_
 refine ws_e1 8 (by kernel_rfl) ?_
 refine nxe [9, 10] (by kernel_rfl) z z ?_
 clear hst
 intro w hst
 obtain ⟨hg776, hm⟩ := gd_some hm
 replace hst := hst.pull2
 obtain ⟨v777, w778, hr779, hst⟩ := run_append elem_31 underlying31 hst hst.src1 (room_of hg776 z) 31
 refine we_run (v := v777) (w' := w778) z (x_append z z hr779) ?_
 refine ws_next (pend' := []) hst (by kernel_rfl) pk_nil ?_
 refine wsr (Pt b557 4) 9 z z z (by kernel_rfl) (fun w hst => x_field z underlying34 z sizeOf31 z) ?_
 refine ws_e1 10 (by kernel_rfl) ?_
 refine nxe [] (by kernel_rfl) z z ?_
 clear hst
 intro w hst
 replace hst := hst.pull4
 obtain ⟨w781, hr782, hst⟩ := hst.boxStore1 (P := prog) (t := 31) (cs' := [U6 t539.1.Session, U6 t539.1.Seq, U6 (u64.wrap (i64.wrap ((1:Int) + t544.1))), v661, v777, Zs, Zs]) 4 v777 (one_of_sliceV hst.sv1) sizeOf31 z z
 refine we_unit z (x_unit hr782) ?_
 refine ws_next (pend' := []) hst (by kernel_rfl) pk_nil ?_
 refine ws_nil ?_
 intro w hst
 refine blk_n (tn (wrl ?_))
 refine wv (.int .i64 z751) z z z (wv (.int .i64 (i64.wrap (z751 + (1:Int)))) z z z (wv (.int .i64 (i64.wrap (z751 + (1:Int)))) z z z (wl_nil (tn ?_))))
 replace hst := hst.pull5.pull1.pull5.pull5.pull4.keep5
 obtain rfl := some_inj hm
 exact ⟨_, Nat.lt_succ_self _, (z747 ++ ([(t761.1, t766.1)])), t766.2, (i64.wrap (z751 + (1:Int))), v777, _, hx758, (fu 0 p0 z (fu 2 (Pt b534 0) z (fu 3 (Pt b557 0) z (fu 4 (.int .i64 (i64.wrap (Int.tdiv t668.1 (2:Int)))) z (fu 6 (.int .i64 (i64.wrap (z751 + (1:Int)))) z z))))), hst⟩
}
 {
 replace hm := bif_f hc760 hm
 refine wp_iff (cvb hc760) ?_
 refine wp_exit (then_x (then_x ?_))
 replace hm := inr_up hm hx758
 refine blk_x (tn ?_)
 replace hst := hst.pull4.pull4.pull4.pull4.keep5
 obtain rfl := some_inj hm
 exact ⟨z750, z747, v748, _, hx790, (fu 0 p0 z (fu 2 (Pt b534 0) z (fu 3 (Pt b557 0) z z))), hst⟩
}
}
 {
 clear hst
 rintro _ w791 ⟨z783, z786, v785, σ787, hm, rfl, hst⟩
 dsimp only [ref12_Tape_Hold_j2] at hm
 refine wp_seq (wrl (wv (p0) z z z ?_))
 obtain ⟨t792, ht793, hm⟩ := bind_some hm
 refine wc call20 [p0, I6 (3:Int)] z z z ?_
 refine (ref12_Tape_Next_ref hst.to1 ht793).mono ?_
 rintro _ w794 ⟨rfl, hst⟩
 refine ⟨_, z, ?_⟩
 replace hst := hst.of1
 refine wv (.int .i64 t792.1) z z z (wl_nil (tn ?_))
 obtain ⟨y893, hm, hx894⟩ := bind_some hm
 refine wp_cut (fun a w => ∃ (z887 : ref12_Tape) (z890 : (List Nat)) (v889 : Value) (σ891 : Nat → Value), (ref12_Tape_Hold_j4 t539 t544 z662 z786) (z887, z890) = some r ∧ a = Fr 68 (upd (upd (upd σ891 0 (p0)) 2 (Pt b534 0)) 3 (Pt b557 0)) ∧ St w0 w I [at_ref12_Tape p0 z887, cells b534 [Zu, Zu, Zu, Zs, Zs, Zs, Zs], cells b557 [U6 t539.1.Session, U6 t539.1.Seq, U6 (u64.wrap (i64.wrap ((1:Int) + t544.1))), v661, v785, v889, Zs], ownS tyF64 v661 z662, ownS tyF2 v785 z786, ownS tyF64 v889 z890] R) ?_ ?_
 {
 refine wp_seq (wrl (wv (.int .i64 (0:Int)) z z z (wl_nil (tn (wp_block ?_)))))
 replace hst := hst.own_nil tyF64
 obtain ⟨n862, hm⟩ := loopO_some hm
 refine wp_loop_n (fun n a w => ∃ (z856 : (List Nat)) (z859 : ref12_Tape) (z860 : Int) (v857 : Value) (σ861 : Nat → Value), loopN (ref12_Tape_Hold_l5 t792) n (z856, z859, z860) = some y893 ∧ a = Fr 68 (upd (upd (upd (upd (upd σ861 0 (p0)) 2 (Pt b534 0)) 3 (Pt b557 0)) 4 (.int .i64 t792.1)) 7 (.int .i64 z860)) ∧ St w0 w I [ownS tyF64 v857 z856, at_ref12_Tape p0 z859, cells b534 [Zu, Zu, Zu, Zs, Zs, Zs, Zs], cells b557 [U6 t539.1.Session, U6 t539.1.Seq, U6 (u64.wrap (i64.wrap ((1:Int) + t544.1))), v661, v785, v857, Zs], ownS tyF64 v661 z662, ownS tyF2 v785 z786] R) n862 ⟨[], t792.2, (0:Int), Zs, _, hm, (fu 0 p0 z (fu 2 (Pt b534 0) z (fu 3 (Pt b557 0) z (fu 4 (.int .i64 t792.1) z (fu 7 (.int .i64 (0:Int)) z z))))), hst⟩ ?_
 rintro n868 _ w863 ⟨z856, z859, z860, v857, σ861, hm, rfl, hst⟩
 obtain ⟨n865, y866, rfl, hm, hx867⟩ := loopN_some hm
 dsimp only [ref12_Tape_Hold_l5] at hm
 refine wp_seq (wp_seq (wrl (wv (.int .i64 z860) z z z (wv (.int .i64 t792.1) z z z (wv (.bool (decide (z860 < t792.1))) z z z (wl_nil (tn ?_)))))))
 refine bsplit (decide (z860 < t792.1)) (fun hc869 => ?_) (fun hc869 => ?_)
 {
 replace hm := bif_t hc869 hm
 refine wp_ift (cvb hc869) ?_
 refine wp_skip (tn (wp_seq (wp_block ?_)))
 refine wp_region_St hst 8 [0, 1, 2, 3, 4, 5, 6, 7] [0, 1, 0, 4, 12, 31, 63, 127] [] z (by kernel_rfl) (by kernel_rfl) Try.mixed (by kernel_rfl) ?_
 refine wsr (Pt b557 5) 0 z z z (by kernel_rfl) (fun w hst => x_field z underlying34 z sizeOf30 z) (wsr (v857) 1 z z z (by kernel_rfl) (fun w hst => x_load z isAgg30 (hst.bc3 z)) (wsr (p0) 2 z z z (by kernel_rfl) (fun w hst => z) ?_))
 refine ws_e1 3 (by kernel_rfl) ?_
 refine nxe [4, 5, 6, 7] (by kernel_rfl) z z ?_
 clear hst
 intro w hst
 replace hst := hst.pull1
 obtain ⟨t870, ht871, hm⟩ := bind_some hm
 refine wec call44 [p0] z z ?_
 refine (ref12_Tape_Float_ref hst.to1 ht871).mono ?_
 rintro _ w872 ⟨rfl, hst⟩
 refine ⟨_, z, ?_⟩
 replace hst := hst.of1
 refine ws_next (pend' := [(1, v857), (0, Pt b557 5)]) hst (by kernel_rfl) (pkr z z (fun w hst => x_load z isAgg30 (hst.bc3 z)) (pkr z z (fun w hst => x_field z underlying34 z sizeOf30 z) pk_nil)) ?_
 refine ws_e1 4 (by kernel_rfl) ?_
 refine nxe [5, 6, 7] (by kernel_rfl) z z ?_
 clear hst
 intro w hst
 obtain ⟨b875, w876, ew877, eb878, hst⟩ := hst.lits (E := tyF64) (xs := [t870.1]) [[F6 t870.1]] 57 1 z (Reps.cons z Reps.nil)
 refine we_run (v := (.slice (some ⟨b875, 0, none⟩) 1 1)) (w' := w876) z (x_als (by kernel_rfl) ew877 eb878) ?_
 refine ws_next (pend' := [(1, v857), (0, Pt b557 5)]) hst (by kernel_rfl) (pkr z z (fun w hst => x_load z isAgg30 (hst.bc4 z)) (pkr z z (fun w hst => x_field z underlying34 z sizeOf30 z) pk_nil)) ?_
 refine ws_e1 5 (by kernel_rfl) ?_
 refine nxe [6, 7] (by kernel_rfl) z z ?_
 clear hst
 intro w hst
 obtain ⟨hg880, hm⟩ := gd_some hm
 replace hst := hst.pull2
 obtain ⟨v881, w882, hr883, hst⟩ := run_append elem_30 underlying30 hst hst.src1 (room_of hg880 z) 30
 refine we_run (v := v881) (w' := w882) z (x_append z z hr883) ?_
 refine ws_next (pend' := []) hst (by kernel_rfl) pk_nil ?_
 refine wsr (Pt b557 5) 6 z z z (by kernel_rfl) (fun w hst => x_field z underlying34 z sizeOf30 z) ?_
 refine ws_e1 7 (by kernel_rfl) ?_
 refine nxe [] (by kernel_rfl) z z ?_
 clear hst
 intro w hst
 replace hst := hst.pull4
 obtain ⟨w885, hr886, hst⟩ := hst.boxStore1 (P := prog) (t := 30) (cs' := [U6 t539.1.Session, U6 t539.1.Seq, U6 (u64.wrap (i64.wrap ((1:Int) + t544.1))), v661, v785, v881, Zs]) 5 v881 (one_of_sliceV hst.sv1) sizeOf30 z z
 refine we_unit z (x_unit hr886) ?_
 refine ws_next (pend' := []) hst (by kernel_rfl) pk_nil ?_
 refine ws_nil ?_
 intro w hst
 refine blk_n (tn (wrl ?_))
 refine wv (.int .i64 z860) z z z (wv (.int .i64 (i64.wrap (z860 + (1:Int)))) z z z (wv (.int .i64 (i64.wrap (z860 + (1:Int)))) z z z (wl_nil (tn ?_))))
 replace hst := hst.pull6.pull6.pull2.pull6.pull6.pull5.keep6
 obtain rfl := some_inj hm
 exact ⟨_, Nat.lt_succ_self _, (z856 ++ ([t870.1])), t870.2, (i64.wrap (z860 + (1:Int))), v881, _, hx867, (fu 0 p0 z (fu 2 (Pt b534 0) z (fu 3 (Pt b557 0) z (fu 4 (.int .i64 t792.1) z (fu 7 (.int .i64 (i64.wrap (z860 + (1:Int)))) z z))))), hst⟩
}
 {
 replace hm := bif_f hc869 hm
 refine wp_iff (cvb hc869) ?_
 refine wp_exit (then_x (then_x ?_))
 replace hm := inr_up hm hx867
 refine blk_x (tn ?_)
 replace hst := hst.pull5.pull5.pull5.pull5.pull5.keep6
 obtain rfl := some_inj hm
 exact ⟨z859, z856, v857, _, hx894, (fu 0 p0 z (fu 2 (Pt b534 0) z (fu 3 (Pt b557 0) z z))), hst⟩
}
}
 {
 clear hst
 rintro _ w895 ⟨z887, z890, v889, σ891, hm, rfl, hst⟩
 dsimp only [ref12_Tape_Hold_j4] at hm
 refine wp_seq (wp_seq (wrl (wv (p0) z z z ?_)))
 obtain ⟨t896, ht897, hm⟩ := bind_some hm
 refine wc call20 [p0, I6 (4:Int)] z z z ?_
 refine (ref12_Tape_Next_ref hst.to1 ht897).mono ?_
 rintro _ w898 ⟨rfl, hst⟩
 refine ⟨_, z, ?_⟩
 replace hst := hst.of1
 refine wv (.bool (t896.1 == (0:Int))) z z z (wl_nil (tn ?_))
 refine bsplit (t896.1 == (0:Int)) (fun hc901 => ?_) (fun hc901 => ?_)
 {
 replace hm := bif_t hc901 hm
 refine wp_ift (cvb hc901) ?_
 refine wrl (wv (p0) z z z ?_)
 obtain ⟨t902, ht903, hm⟩ := bind_some hm
 refine wc call45 [p0] z z z ?_
 refine (ref12_Tape_Val_ref hst.to1 ht903).mono ?_
 rintro _ w904 ⟨v907, rfl, hst⟩
 refine ⟨_, z, ?_⟩
 replace hst := hst.of2
 refine wv (Pt b557 6) z z (x_field z underlying34 z sizeOf32 z) ?_
 replace hst := hst.pull3
 obtain ⟨w909, hr910, hst⟩ := hst.boxStore1 (P := prog) (t := 32) (cs' := [U6 t539.1.Session, U6 t539.1.Seq, U6 (u64.wrap (i64.wrap ((1:Int) + t544.1))), v661, v785, v889, v907]) 6 v907 (one_of_sliceV hst.sv1) sizeOf32 z z
 refine wl_unit z z (x_unit hr910) ?_
 refine wl_nil (tn (wp_seq (wrl (wv (.agg #[U6 t539.1.Session, U6 t539.1.Seq, U6 (u64.wrap (i64.wrap ((1:Int) + t544.1))), v661, v785, v889, v907]) z z (x_loadN (cs := [U6 t539.1.Session, U6 t539.1.Seq, U6 (u64.wrap (i64.wrap ((1:Int) + t544.1))), v661, v785, v889, v907]) z isAgg34 sizeOf34 (hst.bcs0 0 z)) ?_))))
 replace hst := hst.pull3
 obtain ⟨w911, hr912, hst⟩ := hst.bx [U6 t539.1.Session, U6 t539.1.Seq, U6 (u64.wrap (i64.wrap ((1:Int) + t544.1))), v661, v785, v889, v907] sizeOf34 z (oC z (oC z (oC z (oC (one_of_sliceV hst.sv4) (oC (one_of_sliceV hst.sv5) (oC (one_of_sliceV hst.sv6) (oC (one_of_sliceV hst.sv2) oN))))))) (by kernel_rfl)
 refine wl_unit z z (x_unit hr912) ?_
 refine wl_nil (tn (wp_ret ?_))
 obtain rfl := some_inj hm
 refine post_ret (vs := [.agg #[U6 t539.1.Session, U6 t539.1.Seq, U6 (u64.wrap (i64.wrap ((1:Int) + t544.1))), v661, v785, v889, v907]]) results16 (rvs_cons (rv_cell (cs := [U6 t539.1.Session, U6 t539.1.Seq, U6 (u64.wrap (i64.wrap ((1:Int) + t544.1))), v661, v785, v889, v907]) z isAgg34 sizeOf34 (hst.bcs0 0 z)) rvs_nil) ?_
 replace hst := hst.pull3.pull3.pull6.pull6.pull6
 exact ⟨v661, v785, v889, v907, z, hst.keep5⟩
}
 {
 replace hm := bif_f hc901 hm
 refine wp_iff (cvb hc901) ?_
 refine wp_skip (tn (wp_seq (wrl ?_)))
 refine wv (.agg #[U6 t539.1.Session, U6 t539.1.Seq, U6 (u64.wrap (i64.wrap ((1:Int) + t544.1))), v661, v785, v889, Zs]) z z (x_loadN (cs := [U6 t539.1.Session, U6 t539.1.Seq, U6 (u64.wrap (i64.wrap ((1:Int) + t544.1))), v661, v785, v889, Zs]) z isAgg34 sizeOf34 (hst.bcs2 0 z)) ?_
 replace hst := hst.pull1
 obtain ⟨w913, hr914, hst⟩ := hst.bx [U6 t539.1.Session, U6 t539.1.Seq, U6 (u64.wrap (i64.wrap ((1:Int) + t544.1))), v661, v785, v889, Zs] sizeOf34 z (oC z (oC z (oC z (oC (one_of_sliceV hst.sv3) (oC (one_of_sliceV hst.sv4) (oC (one_of_sliceV hst.sv5) (oC z oN))))))) (by kernel_rfl)
 refine wl_unit z z (x_unit hr914) ?_
 refine wl_nil (tn (wp_ret ?_))
 replace hst := hst.own_nil (tyInt .u8)
 obtain rfl := some_inj hm
 refine post_ret (vs := [.agg #[U6 t539.1.Session, U6 t539.1.Seq, U6 (u64.wrap (i64.wrap ((1:Int) + t544.1))), v661, v785, v889, Zs]]) results16 (rvs_cons (rv_cell (cs := [U6 t539.1.Session, U6 t539.1.Seq, U6 (u64.wrap (i64.wrap ((1:Int) + t544.1))), v661, v785, v889, Zs]) z isAgg34 sizeOf34 (hst.bcs1 0 z)) rvs_nil) ?_
 replace hst := hst.pull2.pull1.pull6.pull6.pull6
 exact ⟨v661, v785, v889, Zs, z, hst.keep5⟩
}
}
}
}
}

theorem locks_Table_Encode_ref {w0 w : World} {I : HL} {R : SP} {a0 : (Option locks_Table)} {p0 : Value}  (hst : St w0 w I [objO at_locks_Table p0 a0] R) {r : ((List Int))} (hm : locks_Table_Encode a0 = some r) :
  Calls prog 30 #[p0] w fun e w' => ∃ (q0_0 : Value), e = .returned (q0_0) ∧ St w0 w' I [ownS (tyInt .u8) q0_0 r, objO at_locks_Table p0 a0] R := by {
 rcases a0 with _ | o0
 {
 obtain ⟨rfl, hst'⟩ := objO_none hst
 clear hst
 have hst := hst'
 clear hst'
 dsimp only [locks_Table_Encode] at hm
 refine calls_start (args := [.pointer none]) func30 z ntmps30 (Nat.le_of_ble_eq_true z) ?_
 refine wp_seq (wrl (wv ((.slice none 0 0)) z z z (wl_nil (tn (wp_seq (wrl (wv (.agg #[Zs]) z z (by kernel_rfl) ?_)))))))
 obtain ⟨b427, w428, ew429, eb430, hst⟩ := hst.box [Zs] 68
 refine wl_run (v := Pt b427 0) (w' := w428) z z (x_al (by kernel_rfl) ew429 eb430) ?_
 refine wv (Pt b427 0) z z z (wl_nil (tn (wp_seq (wrl (wv (Pt b427 0) z z z (wv (.pointer none) z z z ?_))))))
 replace hst := hst.objO_nil at_locks_Table
 obtain ⟨t434, ht435, hm⟩ := bind_some hm
 refine wc call27 [.pointer none] z z z ?_
 refine (locks_Table_Len_ref hst.to1 ht435).mono ?_
 rintro _ w436 ⟨rfl, hst⟩
 refine ⟨_, z, ?_⟩
 replace hst := hst.of1
 refine wv (.int .u64 (u64.wrap t434)) z z (by kernel_rfl) ?_
 replace hst := hst.own_nil (tyInt .u8)
 replace hst := hst.pull2
 replace hst := at_octet_Writer_close (pv := Pt b427 0) (x := ({ p := [] } : octet_Writer)) hst z
 obtain ⟨t439, ht440, hm⟩ := bind_some hm
 refine wc call60 [Pt b427 0, U6 (u64.wrap t434), I6 (4:Int)] z z z ?_
 refine (octet_Writer_Num_ref hst.to1 ht440).mono ?_
 rintro _ w441 ⟨rfl, hst⟩
 refine ⟨_, z, ?_⟩
 replace hst := hst.of1
 refine wl_nil (tn (wp_seq (wp_seq (wrl (wv (.pointer none) z z z ?_)))))
 replace hst := hst.objO_nil at_locks_Table
 obtain ⟨t445, ht446, hm⟩ := bind_some hm
 refine wc call27 [.pointer none] z z z ?_
 refine (locks_Table_Len_ref hst.to1 ht446).mono ?_
 rintro _ w447 ⟨rfl, hst⟩
 refine ⟨_, z, ?_⟩
 replace hst := hst.of1
 refine wv (.int .i64 (0:Int)) z z z (wl_nil (tn (wp_block ?_)))
 replace hst := hst.sub.pull1.sub
 obtain ⟨n452, hm⟩ := loopO_some hm
 refine wp_loop_n (fun n a w => ∃ (σ451 : Nat → Value), loopN (locks_Table_Encode_l0 t445 t439) n () = some r ∧ a = Fr 29 (upd (upd (upd (upd σ451 0 (.pointer none)) 3 (Pt b427 0)) 13 (.int .i64 t445)) 14 (.int .i64 (0:Int))) ∧ St w0 w I [at_octet_Writer (Pt b427 0) t439] R) n452 ⟨_, hm, (fu 0 (.pointer none) z (fu 3 (Pt b427 0) z (fu 13 (.int .i64 t445) z (fu 14 (.int .i64 (0:Int)) z z)))), hst⟩ ?_
 rintro n458 _ w453 ⟨σ451, hm, rfl, hst⟩
 obtain ⟨n455, y456, rfl, hm, hx457⟩ := loopN_some hm
 dsimp only [locks_Table_Encode_l0] at hm
 refine wp_seq (wrl (wv (.bool (decide ((0:Int) < t445))) z z z (wl_nil (tn (wp_seq ?_)))))
 refine bsplit (decide ((0:Int) < t445)) (fun hc459 => ?_) (fun hc459 => ?_)
 {
 replace hm := bif_t hc459 hm
 refine wp_ift (cvb hc459) ?_
 refine wp_skip (tn (wp_seq (wp_block (wp_seq (wrl ?_)))))
 refine wv (.int .i64 (0:Int)) z z z (wv (.int .i64 (0:Int)) z z z (wl_nil (tn (wrl (wv (Pt b427 0) z z z (wv (.pointer none) z z z ?_))))))
 cases hm
}
 {
 replace hm := bif_f hc459 hm
 refine wp_iff (cvb hc459) ?_
 refine wp_exit (then_x (then_x ?_))
 replace hm := inr_up hm hx457
 refine blk_x (tn (wp_seq (wrl ?_)))
 refine wv (Pt b427 0) z z z ?_
 obtain ⟨t460, ht461, hm⟩ := bind_some hm
 refine wc call32 [Pt b427 0] z z z ?_
 refine (octet_Writer_Done_ref hst.to1 ht461).mono ?_
 rintro _ w462 ⟨v465, rfl, hst⟩
 refine ⟨_, z, ?_⟩
 replace hst := hst.of1
 refine wv (v465) z z z (wl_nil (tn (wp_ret ?_)))
 replace hst := hst.objO_nil at_locks_Table
 obtain rfl := some_inj hm
 refine post_ret (vs := [v465]) results30 (rvs_cons (rv_tmp z) rvs_nil) ?_
 replace hst := hst.pull1
 exact ⟨v465, z, hst.keep2⟩
}
}
 {
 replace hst := objO_get hst
 dsimp only [locks_Table_Encode] at hm
 refine calls_start (args := [p0]) func30 z ntmps30 (Nat.le_of_ble_eq_true z) ?_
 refine wp_seq (wrl (wv ((.slice none 0 0)) z z z (wl_nil (tn (wp_seq (wrl (wv (.agg #[Zs]) z z (by kernel_rfl) ?_)))))))
 obtain ⟨b469, w470, ew471, eb472, hst⟩ := hst.box [Zs] 68
 refine wl_run (v := Pt b469 0) (w' := w470) z z (x_al (by kernel_rfl) ew471 eb472) ?_
 refine wv (Pt b469 0) z z z (wl_nil (tn (wp_seq (wrl (wv (Pt b469 0) z z z (wv (p0) z z z ?_))))))
 replace hst := hst.pull1
 replace hst := objO_some hst
 obtain ⟨t475, ht476, hm⟩ := bind_some hm
 refine wc call27 [p0] z z z ?_
 refine (locks_Table_Len_ref hst.to1 ht476).mono ?_
 rintro _ w477 ⟨rfl, hst⟩
 refine ⟨_, z, ?_⟩
 replace hst := hst.of1
 replace hst := objO_get hst
 refine wv (.int .u64 (u64.wrap t475)) z z (by kernel_rfl) ?_
 replace hst := hst.own_nil (tyInt .u8)
 replace hst := hst.pull2
 replace hst := at_octet_Writer_close (pv := Pt b469 0) (x := ({ p := [] } : octet_Writer)) hst z
 obtain ⟨t480, ht481, hm⟩ := bind_some hm
 refine wc call60 [Pt b469 0, U6 (u64.wrap t475), I6 (4:Int)] z z z ?_
 refine (octet_Writer_Num_ref hst.to1 ht481).mono ?_
 rintro _ w482 ⟨rfl, hst⟩
 refine ⟨_, z, ?_⟩
 replace hst := hst.of1
 refine wl_nil (tn (wp_seq (wp_seq (wrl (wv (p0) z z z ?_)))))
 replace hst := hst.pull1
 replace hst := objO_some hst
 obtain ⟨t485, ht486, hm⟩ := bind_some hm
 refine wc call27 [p0] z z z ?_
 refine (locks_Table_Len_ref hst.to1 ht486).mono ?_
 rintro _ w487 ⟨rfl, hst⟩
 refine ⟨_, z, ?_⟩
 replace hst := hst.of1
 replace hst := objO_get hst
 refine wv (.int .i64 (0:Int)) z z z (wl_nil (tn (wp_block ?_)))
 obtain ⟨n553, hm⟩ := loopO_some hm
 refine wp_loop_n (fun n a w => ∃ (z550 : octet_Writer) (z551 : Int) (σ552 : Nat → Value), loopN (locks_Table_Encode_l1 t485 o0) n (z550, z551) = some r ∧ a = Fr 29 (upd (upd (upd (upd σ552 0 (p0)) 3 (Pt b469 0)) 13 (.int .i64 t485)) 14 (.int .i64 z551)) ∧ St w0 w I [at_locks_Table p0 o0, at_octet_Writer (Pt b469 0) z550] R) n553 ⟨t480, (0:Int), _, hm, (fu 0 p0 z (fu 3 (Pt b469 0) z (fu 13 (.int .i64 t485) z (fu 14 (.int .i64 (0:Int)) z z)))), hst⟩ ?_
 rintro n559 _ w554 ⟨z550, z551, σ552, hm, rfl, hst⟩
 obtain ⟨n556, y557, rfl, hm, hx558⟩ := loopN_some hm
 dsimp only [locks_Table_Encode_l1] at hm
 refine wp_seq (wrl (wv (.bool (decide (z551 < t485))) z z z (wl_nil (tn (wp_seq ?_)))))
 refine bsplit (decide (z551 < t485)) (fun hc560 => ?_) (fun hc560 => ?_)
 {
 replace hm := bif_t hc560 hm
 refine wp_ift (cvb hc560) ?_
 refine wp_skip (tn (wp_seq (wp_block (wp_seq (wrl ?_)))))
 refine wv (.int .i64 z551) z z z (wv (.int .i64 z551) z z z (wl_nil (tn (wrl (wv (Pt b469 0) z z z (wv (p0) z z z ?_))))))
 obtain ⟨b561, v562, rfl, hst'⟩ := at_locks_Table_open hst
 clear hst
 have hst := hst'
 clear hst'
 refine wv (Pt b561 0) z z z (wv (Pt b561 0) z z (x_field z underlying77 z sizeOf22 z) (wv (v562) z z (x_load z isAgg22 (hst.bc0 z)) (wv (.int .i64 z551) z z z ?_)))
 obtain ⟨x564, hx565, hm⟩ := bind_some hm
 obtain ⟨h566, h567, hi568⟩ := geto_some hx565
 refine wv (.pointer (some (eAddr v562 (z551.toNat * 7 + 0)))) z z (x_index z z underlying22 sizeOf34 hst.sv1 h566 h567) ?_
 obtain ⟨cs569, hr570, hc571⟩ := hst.og1 hi568
 obtain ⟨v572, v575, v578, v581, rfl, f573, f576, f579, f582, -⟩ := hr570
 refine wv (.agg #[U6 x564.ID.Session, U6 x564.ID.Seq, U6 x564.Epoch, v572, v575, v578, v581]) z z (x_loadN (cs := [U6 x564.ID.Session, U6 x564.ID.Seq, U6 x564.Epoch, v572, v575, v578, v581]) z isAgg34 sizeOf34 (eCells (o := 0) hc571 z)) ?_
 replace hst := hst.pull2
 obtain ⟨t584, ht585, hm⟩ := bind_some hm
 refine wc call31 [Pt b469 0, .agg #[U6 x564.ID.Session, U6 x564.ID.Seq, U6 x564.Epoch, v572, v575, v578, v581]] z z z ?_
 refine (locks_Lay_ref (f573.mono ro_rd) (f576.mono ro_rd) (f579.mono ro_rd) (f582.mono ro_rd) hst.to1 ht585).mono ?_
 rintro _ w586 ⟨rfl, hst⟩
 refine ⟨_, z, ?_⟩
 replace hst := hst.of1
 refine wl_nil (blk_n (tn (wrl (wv (.int .i64 (i64.wrap (z551 + (1:Int)))) z z z (wv (.int .i64 (i64.wrap (z551 + (1:Int)))) z z z (wl_nil (tn ?_)))))))
 replace hst := hst.pull2.pull2
 replace hst := at_locks_Table_close (pv := Pt b561 0) (x := o0) hst z
 replace hst := hst.pull1.pull1.keep2
 obtain rfl := some_inj hm
 exact ⟨_, Nat.lt_succ_self _, t584, (i64.wrap (z551 + (1:Int))), _, hx558, (fu 0 (Pt b561 0) z (fu 3 (Pt b469 0) z (fu 13 (.int .i64 t485) z (fu 14 (.int .i64 (i64.wrap (z551 + (1:Int)))) z z)))), hst⟩
}
 {
 replace hm := bif_f hc560 hm
 refine wp_iff (cvb hc560) ?_
 refine wp_exit (then_x (then_x ?_))
 replace hm := inr_up hm hx558
 refine blk_x (tn (wp_seq (wrl ?_)))
 refine wv (Pt b469 0) z z z ?_
 replace hst := hst.pull1
 obtain ⟨t589, ht590, hm⟩ := bind_some hm
 refine wc call32 [Pt b469 0] z z z ?_
 refine (octet_Writer_Done_ref hst.to1 ht590).mono ?_
 rintro _ w591 ⟨v594, rfl, hst⟩
 refine ⟨_, z, ?_⟩
 replace hst := hst.of1
 refine wv (v594) z z z (wl_nil (tn (wp_ret ?_)))
 replace hst := hst.pull1
 replace hst := objO_some hst
 obtain rfl := some_inj hm
 refine post_ret (vs := [v594]) results30 (rvs_cons (rv_tmp z) rvs_nil) ?_
 replace hst := hst.pull1
 exact ⟨v594, z, hst.keep2⟩
}
}
}

theorem octet_Reader_Left_ref {w0 w : World} {I : HL} {R : SP} {a0 : octet_Reader} {p0 : Value}  (hst : St w0 w I [at_octet_Reader p0 a0] R) {r : (Int)} (hm : octet_Reader_Left a0 = some r) :
  Calls prog 58 #[p0] w fun e w' => e = .returned (.int .i64 r) ∧ St w0 w' I [at_octet_Reader p0 a0] R := by {
 unfold octet_Reader_Left at hm
 refine calls_start (args := [p0]) func58 z ntmps58 (Nat.le_of_ble_eq_true z) ?_
 refine wp_seq (wrl (wv (.int .i64 (0:Int)) z z z (wl_nil (tn (wp_seq (wp_seq (wrl (wv (p0) z z z ?_))))))))
 obtain ⟨t286, ht287, hm⟩ := bind_some hm
 refine wc call70 [p0] z z z ?_
 refine (octet_Reader_Bad_ref hst.to1 ht287).mono ?_
 rintro _ w288 ⟨rfl, hst⟩
 refine ⟨_, z, ?_⟩
 replace hst := hst.of1
 refine wl_nil (tn ?_)
 refine bsplit t286 (fun hc291 => ?_) (fun hc291 => ?_)
 {
 replace hm := bif_t hc291 hm
 refine wp_ift (cvb hc291) ?_
 refine wp_seq (wrl (wv (.int .i64 (0:Int)) z z z (wl_nil (tn (wp_ret (then_r ?_))))))
 obtain rfl := some_inj hm
 refine post_ret (vs := [Zi]) results58 (rvs_cons (rv_tmp z) rvs_nil) ?_
 exact ⟨z, hst.keep1⟩
}
 {
 replace hm := bif_f hc291 hm
 refine wp_iff (cvb hc291) ?_
 refine wp_skip (tn (wp_seq (wrl ?_)))
 refine wv (p0) z z z ?_
 obtain ⟨b292, v293, ⟨rfl, f295⟩, hst'⟩ := at_octet_Reader_open hst
 clear hst
 have hst := hst'
 clear hst'
 refine wv (Pt b292 0) z z z (wv (Pt b292 0) z z (x_field z underlying100 z sizeOf32 z) (wv (v293) z z (x_load z isAgg32 (hst.bc0 z)) (wv (.int .i64 ((a0.p).length : Int)) z z (x_len z underlying32 (ro_sliceV f295)) (wv (.int .i64 ((a0.p).length : Int)) z z z (wl_nil (tn (wp_ret ?_)))))))
 replace hst := at_octet_Reader_close (pv := Pt b292 0) (x := a0) hst ⟨z, f295⟩
 obtain rfl := some_inj hm
 refine post_ret (vs := [I6 ((a0.p).length : Int)]) results58 (rvs_cons (rv_tmp z) rvs_nil) ?_
 exact ⟨z, hst.keep1⟩
}
}

theorem slices_Equal_byte_byte_ref {w0 w : World} {I : HL} {R : SP} {a0 : (List Int)} {r0_0 : Value} {a1 : (List Int)} {r1_0 : Value} (f0_0 : Rd (tyInt .u8) R I r0_0 a0) (f1_0 : Rd (tyInt .u8) R I r1_0 a1) (hst : St w0 w I [] R) {r : (Bool)} (hm : slices_Equal_byte_byte a0 a1 = some r) :
  Calls prog 50 #[r0_0, r1_0] w fun e w' => e = .returned (.bool r) ∧ St w0 w' I [] R := by {
 unfold slices_Equal_byte_byte at hm
 refine calls_start (args := [r0_0, r1_0]) func50 z ntmps50 (Nat.le_of_ble_eq_true z) ?_
 refine wp_seq (wrl (wv (.bool false) z z z (wl_nil (tn (wp_seq (wp_seq (wrl (wv (r0_0) z z z (wv (.int .i64 ((a0).length : Int)) z z (x_len z underlying32 (rd_sliceV f0_0)) (wv (r1_0) z z z (wv (.int .i64 ((a1).length : Int)) z z (x_len z underlying32 (rd_sliceV f1_0)) (wv (.bool (((a0).length : Int) != ((a1).length : Int))) z z z (wl_nil (tn ?_))))))))))))))
 refine bsplit (((a0).length : Int) != ((a1).length : Int)) (fun hc651 => ?_) (fun hc651 => ?_)
 {
 replace hm := bif_t hc651 hm
 refine wp_ift (cvb hc651) ?_
 refine wp_seq (wrl (wv (.bool false) z z z (wl_nil (tn (wp_ret (then_r ?_))))))
 obtain rfl := some_inj hm
 refine post_ret (vs := [.bool false]) results50 (rvs_cons (rv_tmp z) rvs_nil) ?_
 exact ⟨z, hst.keep0⟩
}
 {
 replace hm := bif_f hc651 hm
 refine wp_iff (cvb hc651) ?_
 refine wp_skip (tn (wp_seq (wp_seq (wrl ?_))))
 refine wv (r0_0) z z z (wv (.int .i64 ((a0).length : Int)) z z (x_len z underlying32 (rd_sliceV f0_0)) (wv (.int .i64 (0:Int)) z z z (wl_nil (tn (wp_block ?_)))))
 obtain ⟨n679, hm⟩ := loopO_some hm
 refine wp_loop_n (fun n a w => ∃ (z677 : Int) (σ678 : Nat → Value), loopN (slices_Equal_byte_byte_l0 a0 a1) n z677 = some r ∧ a = Fr 26 (upd (upd (upd (upd σ678 0 (r0_0)) 1 (r1_0)) 12 (.int .i64 ((a0).length : Int))) 13 (.int .i64 z677)) ∧ St w0 w I [] R) n679 ⟨(0:Int), _, hm, (fu 0 r0_0 z (fu 1 r1_0 z (fu 12 (.int .i64 ((a0).length : Int)) z (fu 13 (.int .i64 (0:Int)) z z)))), hst⟩ ?_
 rintro n685 _ w680 ⟨z677, σ678, hm, rfl, hst⟩
 obtain ⟨n682, y683, rfl, hm, hx684⟩ := loopN_some hm
 dsimp only [slices_Equal_byte_byte_l0] at hm
 refine wp_seq (wrl (wv (.bool (decide (z677 < ((a0).length : Int)))) z z z (wl_nil (tn (wp_seq ?_)))))
 refine bsplit (decide (z677 < ((a0).length : Int))) (fun hc686 => ?_) (fun hc686 => ?_)
 {
 replace hm := bif_t hc686 hm
 refine wp_ift (cvb hc686) ?_
 refine wp_skip (tn (wp_seq (wp_block (wp_seq (wrl ?_)))))
 refine wv (.int .i64 z677) z z z (wv (.int .i64 z677) z z z (wl_nil (tn (wp_seq ?_))))
 refine wq_regionS hst Try.mixed (by kernel_rfl) ?_
 refine wq_run (v := r0_0) z z (fun w hst => z) ?_
 refine wq_run (v := .int .i64 z677) z z (fun w hst => z) ?_
 obtain ⟨x687, hx688, hm⟩ := bind_some hm
 obtain ⟨h689, h690, hi691⟩ := geto_some hx688
 refine wq_run (v := .pointer (some (eAddr r0_0 (z677.toNat * 1 + 0)))) z z (fun w hst => x_index z z underlying32 sizeOf5 (rd_sliceV f0_0) h689 h690) ?_
 refine wq_run (v := .int .u8 x687) z z (fun w hst => x_load z isAgg5 (rd_load f0_0 (HL.le.refl _) hst hi691 (by rintro _ rfl; rfl))) ?_
 refine wq_run (v := r1_0) z z (fun w hst => z) ?_
 refine wq_run (v := .int .i64 z677) z z (fun w hst => z) ?_
 obtain ⟨x692, hx693, hm⟩ := bind_some hm
 obtain ⟨h694, h695, hi696⟩ := geto_some hx693
 refine wq_run (v := .pointer (some (eAddr r1_0 (z677.toNat * 1 + 0)))) z z (fun w hst => x_index z z underlying32 sizeOf5 (rd_sliceV f1_0) h694 h695) ?_
 refine wq_run (v := .int .u8 x692) z z (fun w hst => x_load z isAgg5 (rd_load f1_0 (HL.le.refl _) hst hi696 (by rintro _ rfl; rfl))) ?_
 refine wq_run (v := .bool (x687 != x692)) z z (fun w hst => z) ?_
 refine wq_nil ?_
 intro w hst
 refine tn ?_
 refine bsplit (x687 != x692) (fun hc697 => ?_) (fun hc697 => ?_)
 {
 replace hm := bif_t hc697 hm
 refine wp_ift (cvb hc697) ?_
 refine wp_seq (wrl (wv (.bool false) z z z (wl_nil (tn (wp_ret (blk_r (then_r (then_r ?_))))))))
 replace hm := inr_up hm hx684
 refine blk_r (then_r ?_)
 obtain rfl := some_inj hm
 refine post_ret (vs := [.bool false]) results50 (rvs_cons (rv_tmp z) rvs_nil) ?_
 exact ⟨z, hst.keep0⟩
}
 {
 replace hm := bif_f hc697 hm
 refine wp_iff (cvb hc697) ?_
 refine wp_skip (blk_n (tn (wrl ?_)))
 refine wv (.int .i64 (i64.wrap (z677 + (1:Int)))) z z z (wv (.int .i64 (i64.wrap (z677 + (1:Int)))) z z z (wl_nil (tn ?_)))
 replace hst := hst.keep0
 obtain rfl := some_inj hm
 exact ⟨_, Nat.lt_succ_self _, (i64.wrap (z677 + (1:Int))), _, hx684, (fu 0 r0_0 z (fu 1 r1_0 z (fu 12 (.int .i64 ((a0).length : Int)) z (fu 13 (.int .i64 (i64.wrap (z677 + (1:Int)))) z z)))), hst⟩
}
}
 {
 replace hm := bif_f hc686 hm
 refine wp_iff (cvb hc686) ?_
 refine wp_exit (then_x (then_x ?_))
 replace hm := inr_up hm hx684
 refine blk_x (tn (wp_seq (wrl ?_)))
 refine wv (.bool true) z z z (wl_nil (tn (wp_ret ?_)))
 obtain rfl := some_inj hm
 refine post_ret (vs := [.bool true]) results50 (rvs_cons (rv_tmp z) rvs_nil) ?_
 exact ⟨z, hst.keep0⟩
}
}
}

theorem locks_Decode_ref {w0 w : World} {I : HL} {R : SP} {a0 : (List Int)} {r0_0 : Value} (f0_0 : Ro (tyInt .u8) I r0_0 a0) (hst : St w0 w I [] R) {r : (Option locks_Table × Int)} (hm : locks_Decode a0 = some r) :
  Calls prog 29 #[r0_0] w fun e w' => ∃ (I' : HL) (q0 : Value), e = .returned (.tuple #[q0, I6 r.2]) ∧ I.le I' ∧ St w0 w' I' [objO at_locks_Table q0 r.1] R := by {
 unfold locks_Decode at hm
 refine calls_start (args := [r0_0]) func29 z ntmps29 (Nat.le_of_ble_eq_true z) ?_
 have hI0 := HL.le.refl I
 refine wp_seq (wrl (wv (.pointer none) z z z (wv (.int .i64 (0:Int)) z z z (wl_nil (tn (wp_seq (wrl (wv (r0_0) z z z ?_))))))))
 obtain ⟨t609, ht610, hm⟩ := bind_some hm
 refine wc call33 [r0_0] z z z ?_
 refine (octet_Read_ref f0_0 hst.to0 ht610).mono ?_
 rintro _ w611 ⟨v614, rfl, hst⟩
 refine ⟨_, z, ?_⟩
 replace hst := hst.of1
 refine wv (v614) z z z (wl_nil (tn (wp_seq (wrl ?_))))
 obtain ⟨t616, ht617, hm⟩ := bind_some hm
 refine wc call10 [] z z z ?_
 refine (locks_New_ref hst.to0 ht617).mono ?_
 rintro _ w618 ⟨v621, rfl, hst⟩
 refine ⟨_, z, ?_⟩
 replace hst := hst.of1
 refine wv (v621) z z z (wl_nil (tn ?_))
 obtain ⟨y932, hm, hx933⟩ := joinO_some hm
 refine wp_cut (fun a w => ∃ (I929 : HL) (z927 : octet_Reader) (z928 : locks_Table) (σ930 : Nat → Value), (locks_Decode_j0 a0) (z927, z928) = some r ∧ a = Fr 58 (upd (upd (upd σ930 0 (r0_0)) 4 (v614)) 5 (v621)) ∧ I.le I929 ∧ St w0 w I929 [at_octet_Reader v614 z927, at_locks_Table v621 z928] R) ?_ ?_
 {
 have hL934 := HL.le.refl I
 refine wp_seq (wrl (wv (v614) z z z (wv (v614) z z z ?_)))
 replace hst := hst.pull1
 obtain ⟨t623, ht624, hm⟩ := bind_some hm
 refine wc call58 [v614] z z z ?_
 refine (octet_Reader_Left_ref hst.to1 ht624).mono ?_
 rintro _ w625 ⟨rfl, hst⟩
 refine ⟨_, z, ?_⟩
 replace hst := hst.of1
 obtain ⟨t628, ht629, hm⟩ := bind_some hm
 refine wc call57 [v614, I6 t623] z z z ?_
 refine (octet_Reader_Count_ref hst.to1 ht629).mono ?_
 rintro _ w630 ⟨rfl, hst⟩
 refine ⟨_, z, ?_⟩
 replace hst := hst.of1
 refine wv (.int .i64 (0:Int)) z z z (wl_nil (tn (wp_block ?_)))
 obtain ⟨n827, hm⟩ := loopO_some hm
 refine wp_loop_n (fun n a w => ∃ (I825 : HL) (z822 : octet_Reader) (z823 : locks_Table) (z824 : Int) (σ826 : Nat → Value), loopN (locks_Decode_l1 t628) n (z822, z823, z824) = some y932 ∧ a = Fr 58 (upd (upd (upd (upd (upd σ826 0 (r0_0)) 4 (v614)) 5 (v621)) 14 (.int .i64 t628.1)) 15 (.int .i64 z824)) ∧ I.le I825 ∧ St w0 w I825 [at_octet_Reader v614 z822, at_locks_Table v621 z823] R) n827 ⟨_, t628.2, t616, (0:Int), _, hm, (fu 0 r0_0 z (fu 4 v614 z (fu 5 v621 z (fu 14 (.int .i64 t628.1) z (fu 15 (.int .i64 (0:Int)) z z))))), (HL.le.refl _), hst⟩ ?_
 rintro n833 _ w828 ⟨I825, z822, z823, z824, σ826, hm, rfl, hL829, hst⟩
 obtain ⟨n830, y831, rfl, hm, hx832⟩ := loopN_some hm
 dsimp only [locks_Decode_l1] at hm
 replace f0_0 := f0_0.mono (ro_le hL829)
 replace hI0 := hI0.trans hL829
 replace hL934 := hL934.trans hL829
 refine wp_seq (wrl (wv (.bool (decide (z824 < t628.1))) z z z (wl_nil (tn (wp_seq ?_)))))
 refine bsplit (decide (z824 < t628.1)) (fun hc834 => ?_) (fun hc834 => ?_)
 {
 replace hm := bif_t hc834 hm
 refine wp_ift (cvb hc834) ?_
 refine wp_skip (tn (wp_seq (wp_block (wp_seq (wrl ?_)))))
 refine wv (.int .i64 z824) z z z (wv (.int .i64 z824) z z z (wl_nil (tn (wp_seq (wrl (wv (v614) z z z ?_))))))
 obtain ⟨t835, ht836, hm⟩ := bind_some hm
 refine wc call34 [v614] z z z ?_
 refine (locks_Read_ref hst.to1 ht836).mono ?_
 rintro _ w837 ⟨v840, v842, v844, v846, rfl, hst⟩
 refine ⟨_, z, ?_⟩
 replace hst := hst.of5
 obtain ⟨b852, w853, ew854, eb855, hst⟩ := hst.box [Zu, Zu, Zu, Zs, Zs, Zs, Zs] 34
 refine wl_run (v := Pt b852 0) (w' := w853) z z (x_al (by kernel_rfl) ew854 eb855) ?_
 obtain ⟨w857, hr858, hst⟩ := hst.bx [U6 t835.1.ID.Session, U6 t835.1.ID.Seq, U6 t835.1.Epoch, v840, v842, v844, v846] sizeOf34 z (oC z (oC z (oC z (oC (one_of_sliceV hst.sv1) (oC (one_of_sliceV hst.sv2) (oC (one_of_sliceV hst.sv3) (oC (one_of_sliceV hst.sv4) oN))))))) (by kernel_rfl)
 refine wl_unit z z (x_unit hr858) ?_
 refine wl_nil (tn ?_)
 obtain ⟨y893, hm, hx894⟩ := joinO_some hm
 refine wp_cut (fun a w => ∃ (σ891 : Nat → Value), (locks_Decode_j2 z823 t835 z824) () = some y831 ∧ a = Fr 58 (upd (upd (upd (upd (upd (upd σ891 0 (r0_0)) 4 (v614)) 5 (v621)) 7 (Pt b852 0)) 14 (.int .i64 t628.1)) 15 (.int .i64 z824)) ∧ St w0 w I825 [at_octet_Reader v614 t835.2, at_locks_Table v621 z823, cells b852 [U6 t835.1.ID.Session, U6 t835.1.ID.Seq, U6 t835.1.Epoch, v840, v842, v844, v846], ownS tyF64 v840 t835.1.Gets, ownS tyF2 v842 t835.1.Scans, ownS tyF64 v844 t835.1.Puts, ownS (tyInt .u8) v846 t835.1.Data] R) ?_ ?_
 {
 refine wp_seq ?_
 replace hst := hst.pull6
 obtain ⟨b859, v860, rfl, hst'⟩ := at_locks_Table_open hst
 clear hst
 have hst := hst'
 clear hst'
 replace hst := hst.pull1
 obtain ⟨css862, hq863, hst⟩ := hst.own_open
 refine wp_region_St hst 16 [0, 1, 2, 3, 4, 5, 6, 7, 8, 9, 10, 11, 12, 13, 14, 15] [0, 1, 3, 7, 15, 31, 63, 7, 135, 511, 1023, 7, 2055, 8191, 16383, 32767] [] z (by kernel_rfl) (by kernel_rfl) Try.mixed (by kernel_rfl) ?_
 refine wsr (.int .i64 z824) 0 z z z (by kernel_rfl) (fun w hst => z) (wsr (.bool (decide (z824 > (0:Int)))) 1 z z z (by kernel_rfl) (fun w hst => z) (wsr (.bool (decide (z824 > (0:Int)))) 2 z z z (by kernel_rfl) (fun w hst => z) ?_))
 refine bsplit (decide (z824 > (0:Int))) (fun hc864 => ?_) (fun hc864 => ?_)
 {
 replace hm := bif_t hc864 hm
 refine ws_q (v := Pt b859 0) 3 [4, 5, 6, 7, 8, 9, 10, 11, 12, 13, 14, 15] (by kernel_rfl) z z (yi_run ((wanted_eq z z z (cvb hc864)).trans z) (fun w hst => z)) (ws_q (v := Pt b859 0) 4 [5, 6, 7, 8, 9, 10, 11, 12, 13, 14, 15] (by kernel_rfl) z z (yi_run ((wanted_eq z z z (cvb hc864)).trans z) (fun w hst => z)) (ws_q (v := Pt b859 0) 5 [6, 7, 8, 9, 10, 11, 12, 13, 14, 15] (by kernel_rfl) z z (yi_run ((wanted_eq z z z (cvb hc864)).trans z) (fun w hst => x_field z underlying77 z sizeOf22 z)) (ws_q (v := v860) 6 [7, 8, 9, 10, 11, 12, 13, 14, 15] (by kernel_rfl) z z (yi_run ((wanted_eq z z z (cvb hc864)).trans z) (fun w hst => x_load z isAgg22 (hst.bc1 z))) (ws_q (v := .int .i64 z824) 7 [8, 9, 10, 11, 12, 13, 14, 15] (by kernel_rfl) z z (yi_run ((wanted_eq z z z (cvb hc864)).trans z) (fun w hst => z)) (ws_q (v := .int .i64 (i64.wrap (z824 - (1:Int)))) 8 [9, 10, 11, 12, 13, 14, 15] (by kernel_rfl) z z (yi_run ((wanted_eq z z z (cvb hc864)).trans z) (fun w hst => z)) ?_)))))
 obtain ⟨x865, hx866, hm⟩ := bind_some hm
 obtain ⟨h867, h868, hi869⟩ := geto_some hx866
 refine ws_q (v := .pointer (some (eAddr v860 ((i64.wrap (z824 - (1:Int))).toNat * 7 + 0)))) 9 [10, 11, 12, 13, 14, 15] (by kernel_rfl) z z (yi_run ((wanted_eq z z z (cvb hc864)).trans z) (fun w hst => x_index z z underlying22 sizeOf34 (hst.rsv 0 z hq863) h867 h868)) ?_
 obtain ⟨cs870, hc872, hr871⟩ := Reps.get hq863 hi869
 obtain ⟨v873, v876, v879, v882, rfl, f874, f877, f880, f883, -⟩ := hr871
 refine ws_q (v := .agg #[U6 x865.ID.Session, U6 x865.ID.Seq, U6 x865.Epoch, v873, v876, v879, v882]) 10 [11, 12, 13, 14, 15] (by kernel_rfl) z z (yi_run ((wanted_eq z z z (cvb hc864)).trans z) (fun w hst => x_loadN (cs := [U6 x865.ID.Session, U6 x865.ID.Seq, U6 x865.Epoch, v873, v876, v879, v882]) z isAgg34 sizeOf34 (eCells (o := 0) (hst.rcell 0 z hc872) z))) (ws_q (v := Pt b852 0) 11 [12, 13, 14, 15] (by kernel_rfl) z z (yi_run ((wanted_eq z z z (cvb hc864)).trans z) (fun w hst => x_field z underlying34 z sizeOf29 z)) (ws_q (v := .agg #[U6 t835.1.ID.Session, U6 t835.1.ID.Seq]) 12 [13, 14, 15] (by kernel_rfl) z z (yi_run ((wanted_eq z z z (cvb hc864)).trans z) (fun w hst => x_loadN (cs := [U6 t835.1.ID.Session, U6 t835.1.ID.Seq]) z isAgg29 sizeOf29 (hst.bcs2 0 z))) ?_))
 refine ws_e1 13 (by kernel_rfl) ?_
 refine nxe [14, 15] (by kernel_rfl) z ((wanted_eq z z z (cvb hc864)).trans z) ?_
 clear hst
 intro w hst
 obtain ⟨t885, ht886, hm⟩ := bind_some hm
 refine wec call59 [.agg #[U6 x865.ID.Session, U6 x865.ID.Seq, U6 x865.Epoch, v873, v876, v879, v882], .agg #[U6 t835.1.ID.Session, U6 t835.1.ID.Seq]] z z ?_
 refine (locks_compare_ref (f874.mono ro_rd) (f877.mono ro_rd) (f880.mono ro_rd) (f883.mono ro_rd) hst.to0 ht886).mono ?_
 rintro _ w887 ⟨rfl, hst⟩
 refine ⟨_, z, ?_⟩
 replace hst := hst.of0
 refine ws_next (pend' := []) hst (by kernel_rfl) pk_nil ?_
 refine ws_q (v := .bool (decide (t885 ≥ (0:Int)))) 14 [15] (by kernel_rfl) z z (yi_run ((wanted_eq z z z (cvb hc864)).trans z) (fun w hst => z)) (wsr (.bool (decide (t885 ≥ (0:Int)))) 15 z z z (by kernel_rfl) (fun w hst => x_pick_t hc864 z z) ?_)
 refine ws_nil ?_
 intro w hst
 replace hst := hst.own_close hq863
 refine tn ?_
 refine bsplit (decide (t885 ≥ (0:Int))) (fun hc890 => ?_) (fun hc890 => ?_)
 {
 replace hm := bif_t hc890 hm
 refine wp_ift (cvb hc890) ?_
 refine wp_seq (wrl (wv (.pointer none) z z z (wv (.int .i64 (5:Int)) z z z (wl_nil (tn (wp_ret (then_r ?_)))))))
 replace hm := inr_up hm hx894
 refine blk_r (then_r (then_r ?_))
 replace hm := inr_up hm hx832
 refine blk_r (then_r ?_)
 replace hm := inr_up hm hx933
 replace hst := hst.objO_nil at_locks_Table
 obtain rfl := some_inj hm
 refine post_ret (vs := [.pointer none, I6 (5:Int)]) results29 (rvs_cons (rv_tmp z) (rvs_cons (rv_tmp z) rvs_nil)) ?_
 exact ⟨_, .pointer none, z, hI0, hst.keep1⟩
}
 {
 replace hm := bif_f hc890 hm
 refine wp_iff (cvb hc890) ?_
 refine wp_skip (tn ?_)
 replace hst := hst.pull1
 replace hst := at_locks_Table_close (pv := Pt b859 0) (x := z823) hst z
 replace hst := hst.pull5.pull5.pull5.pull5.pull5.pull5.pull6.keep7
 obtain rfl := some_inj hm
 exact ⟨_, hx894, (fu 0 r0_0 z (fu 4 v614 z (fu 5 (Pt b859 0) z (fu 7 (Pt b852 0) z (fu 14 (.int .i64 t628.1) z (fu 15 (.int .i64 z824) z z)))))), hst⟩
}
}
 {
 replace hm := bif_f hc864 hm
 refine ws_q (v := undef) 3 [4, 5, 6, 7, 8, 9, 10, 11, 12, 13, 14, 15] (by kernel_rfl) z z (yi_off ((wanted_eq z z z (cvb hc864)).trans z)) (ws_q (v := undef) 4 [5, 6, 7, 8, 9, 10, 11, 12, 13, 14, 15] (by kernel_rfl) z z (yi_off ((wanted_eq z z z (cvb hc864)).trans z)) (ws_q (v := undef) 5 [6, 7, 8, 9, 10, 11, 12, 13, 14, 15] (by kernel_rfl) z z (yi_off ((wanted_eq z z z (cvb hc864)).trans z)) (ws_q (v := undef) 6 [7, 8, 9, 10, 11, 12, 13, 14, 15] (by kernel_rfl) z z (yi_off ((wanted_eq z z z (cvb hc864)).trans z)) (ws_q (v := undef) 7 [8, 9, 10, 11, 12, 13, 14, 15] (by kernel_rfl) z z (yi_off ((wanted_eq z z z (cvb hc864)).trans z)) (ws_q (v := undef) 8 [9, 10, 11, 12, 13, 14, 15] (by kernel_rfl) z z (yi_off ((wanted_eq z z z (cvb hc864)).trans z)) (ws_q (v := undef) 9 [10, 11, 12, 13, 14, 15] (by kernel_rfl) z z (yi_off ((wanted_eq z z z (cvb hc864)).trans z)) (ws_q (v := undef) 10 [11, 12, 13, 14, 15] (by kernel_rfl) z z (yi_off ((wanted_eq z z z (cvb hc864)).trans z)) (ws_q (v := undef) 11 [12, 13, 14, 15] (by kernel_rfl) z z (yi_off ((wanted_eq z z z (cvb hc864)).trans z)) (ws_q (v := undef) 12 [13, 14, 15] (by kernel_rfl) z z (yi_off ((wanted_eq z z z (cvb hc864)).trans z)) (ws_q (v := undef) 13 [14, 15] (by kernel_rfl) z z (yi_off ((wanted_eq z z z (cvb hc864)).trans z)) (ws_q (v := undef) 14 [15] (by kernel_rfl) z z (yi_off ((wanted_eq z z z (cvb hc864)).trans z)) (wsr (.bool false) 15 z z z (by kernel_rfl) (fun w hst => x_pick_f hc864 z z) ?_))))))))))))
 refine ws_nil ?_
 intro w hst
 replace hst := hst.own_close hq863
 refine tn ?_
 refine wp_iff z ?_
 refine wp_skip (tn ?_)
 replace hst := hst.pull1
 replace hst := at_locks_Table_close (pv := Pt b859 0) (x := z823) hst z
 replace hst := hst.pull5.pull5.pull5.pull5.pull5.pull5.pull6.keep7
 obtain rfl := some_inj hm
 exact ⟨_, hx894, (fu 0 r0_0 z (fu 4 v614 z (fu 5 (Pt b859 0) z (fu 7 (Pt b852 0) z (fu 14 (.int .i64 t628.1) z (fu 15 (.int .i64 z824) z z)))))), hst⟩
}
}
 {
 clear hst
 rintro _ w895 ⟨σ891, hm, rfl, hst⟩
 dsimp only [locks_Decode_j2] at hm
 replace hst := hst.pull1
 obtain ⟨b896, v897, rfl, hst'⟩ := at_locks_Table_open hst
 clear hst
 have hst := hst'
 clear hst'
 refine wp_region_St hst 11 [0, 1, 2, 3, 4, 5, 6, 7, 8, 9, 10] [0, 0, 2, 6, 14, 0, 32, 126, 255, 511, 1023] [] z (by kernel_rfl) (by kernel_rfl) Try.mixed (by kernel_rfl) ?_
 refine wsr (Pt b896 0) 0 z z z (by kernel_rfl) (fun w hst => z) (wsr (Pt b896 0) 1 z z z (by kernel_rfl) (fun w hst => z) (wsr (Pt b896 0) 2 z z z (by kernel_rfl) (fun w hst => z) (wsr (Pt b896 0) 3 z z z (by kernel_rfl) (fun w hst => x_field z underlying77 z sizeOf22 z) (wsr (v897) 4 z z z (by kernel_rfl) (fun w hst => x_load z isAgg22 (hst.bc0 z)) (wsr (.agg #[U6 t835.1.ID.Session, U6 t835.1.ID.Seq, U6 t835.1.Epoch, v840, v842, v844, v846]) 5 z z z (by kernel_rfl) (fun w hst => x_loadN (cs := [U6 t835.1.ID.Session, U6 t835.1.ID.Seq, U6 t835.1.Epoch, v840, v842, v844, v846]) z isAgg34 sizeOf34 (hst.bcs3 0 z)) ?_)))))
 refine ws_e1 6 (by kernel_rfl) ?_
 refine nxe [7, 8, 9, 10] (by kernel_rfl) z z ?_
 clear hst
 intro w hst
 replace hst := hst.pull4
 obtain ⟨I903, hI904, f905, hst⟩ := hst.own_fix
 replace f0_0 := f0_0.mono (ro_le hI904)
 replace hI0 := hI0.trans hI904
 replace hL934 := hL934.trans hI904
 replace hL829 := hL829.trans hI904
 replace hst := hst.pull4
 obtain ⟨I906, hI907, f908, hst⟩ := hst.own_fix
 replace f0_0 := f0_0.mono (ro_le hI907)
 replace f905 := f905.mono (ro_le hI907)
 replace hI0 := hI0.trans hI907
 replace hL934 := hL934.trans hI907
 replace hL829 := hL829.trans hI907
 replace hst := hst.pull4
 obtain ⟨I909, hI910, f911, hst⟩ := hst.own_fix
 replace f0_0 := f0_0.mono (ro_le hI910)
 replace f905 := f905.mono (ro_le hI910)
 replace f908 := f908.mono (ro_le hI910)
 replace hI0 := hI0.trans hI910
 replace hL934 := hL934.trans hI910
 replace hL829 := hL829.trans hI910
 replace hst := hst.pull4
 obtain ⟨I912, hI913, f914, hst⟩ := hst.own_fix
 replace f0_0 := f0_0.mono (ro_le hI913)
 replace f905 := f905.mono (ro_le hI913)
 replace f908 := f908.mono (ro_le hI913)
 replace f911 := f911.mono (ro_le hI913)
 replace hI0 := hI0.trans hI913
 replace hL934 := hL934.trans hI913
 replace hL829 := hL829.trans hI913
 obtain ⟨b915, w916, ew917, eb918, hst⟩ := hst.lits (E := ty_api_Hold) (xs := [t835.1]) [[U6 t835.1.ID.Session, U6 t835.1.ID.Seq, U6 t835.1.Epoch, v840, v842, v844, v846]] 34 1 z (Reps.cons ⟨_, _, _, _, z, f905, f908, f911, f914, one_of_sliceV (ro_sliceV f905), one_of_sliceV (ro_sliceV f908), one_of_sliceV (ro_sliceV f911), one_of_sliceV (ro_sliceV f914)⟩ Reps.nil)
 refine we_run (v := (.slice (some ⟨b915, 0, none⟩) 1 1)) (w' := w916) z (x_als (by kernel_rfl) ew917 eb918) ?_
 refine ws_next (pend' := [(4, v897), (3, Pt b896 0), (2, Pt b896 0), (1, Pt b896 0), (0, Pt b896 0)]) hst (by kernel_rfl) (pkr z z (fun w hst => x_load z isAgg22 (hst.bc1 z)) (pkr z z (fun w hst => x_field z underlying77 z sizeOf22 z) (pkr z z (fun w hst => z) (pkr z z (fun w hst => z) (pkr z z (fun w hst => z) pk_nil))))) ?_
 refine ws_e1 7 (by kernel_rfl) ?_
 refine nxe [8, 9, 10] (by kernel_rfl) z z ?_
 clear hst
 intro w hst
 obtain ⟨hg920, hm⟩ := gd_some hm
 replace hst := hst.pull2
 obtain ⟨v921, w922, hr923, hst⟩ := run_append elem_22 underlying22 hst hst.src1 (room_of hg920 z) 22
 refine we_run (v := v921) (w' := w922) z (x_append z z hr923) ?_
 refine ws_next (pend' := [(0, Pt b896 0)]) hst (by kernel_rfl) (pkr z z (fun w hst => z) pk_nil) ?_
 refine wsr (Pt b896 0) 8 z z z (by kernel_rfl) (fun w hst => z) (wsr (Pt b896 0) 9 z z z (by kernel_rfl) (fun w hst => x_field z underlying77 z sizeOf22 z) ?_)
 refine ws_e1 10 (by kernel_rfl) ?_
 refine nxe [] (by kernel_rfl) z z ?_
 clear hst
 intro w hst
 replace hst := hst.pull2
 obtain ⟨w925, hr926, hst⟩ := hst.boxStore1 (P := prog) (t := 22) (cs' := [v921]) 0 v921 (one_of_sliceV hst.sv1) sizeOf22 z z
 refine we_unit z (x_unit hr926) ?_
 refine ws_next (pend' := []) hst (by kernel_rfl) pk_nil ?_
 refine ws_nil ?_
 intro w hst
 refine blk_n (tn (wrl ?_))
 refine wv (.int .i64 (i64.wrap (z824 + (1:Int)))) z z z (wv (.int .i64 (i64.wrap (z824 + (1:Int)))) z z z (wl_nil (tn ?_)))
 replace hst := hst.pull1.pull1
 replace hst := at_locks_Table_close (pv := Pt b896 0) (x := ({ l := (z823.l ++ ([t835.1])) } : locks_Table)) hst z
 replace hst := hst.pull2.keep2
 obtain rfl := some_inj hm
 exact ⟨_, Nat.lt_succ_self _, _, t835.2, ({ l := (z823.l ++ ([t835.1])) } : locks_Table), (i64.wrap (z824 + (1:Int))), _, hx832, (fu 0 r0_0 z (fu 4 v614 z (fu 5 (Pt b896 0) z (fu 14 (.int .i64 t628.1) z (fu 15 (.int .i64 (i64.wrap (z824 + (1:Int)))) z z))))), hL829, hst⟩
}
}
 {
 replace hm := bif_f hc834 hm
 refine wp_iff (cvb hc834) ?_
 refine wp_exit (then_x (then_x ?_))
 replace hm := inr_up hm hx832
 refine blk_x (tn ?_)
 replace hst := hst.pull1.pull1.keep2
 obtain rfl := some_inj hm
 exact ⟨_, z822, z823, _, hx933, (fu 0 r0_0 z (fu 4 v614 z (fu 5 v621 z z))), hL934, hst⟩
}
}
 {
 clear hst
 rintro _ w935 ⟨I929, z927, z928, σ930, hm, rfl, hL931, hst⟩
 dsimp only [locks_Decode_j0] at hm
 replace f0_0 := f0_0.mono (ro_le hL931)
 replace hI0 := hI0.trans hL931
 refine wp_seq (wp_seq (wrl (wv (v614) z z z ?_)))
 obtain ⟨t936, ht937, hm⟩ := bind_some hm
 refine wc call36 [v614] z z z ?_
 refine (octet_Reader_End_ref hst.to1 ht937).mono ?_
 rintro _ w938 ⟨rfl, hst⟩
 refine ⟨_, z, ?_⟩
 replace hst := hst.of1
 refine wv (.bool (!t936)) z z z (wv (.bool (!t936)) z z z ?_)
 refine bsplit (!t936) (fun hc941 => ?_) (fun hc941 => ?_)
 {
 replace hm := bif_t hc941 hm
 refine wo hc941 z z z z z z (wo hc941 z z z z z z (wo hc941 z z z z z z (wo hc941 z z z z z z (wo hc941 z z z z z z (wv (.bool true) z z (x_pick_t hc941 z z) (wl_nil (tn ?_)))))))
 refine wp_ift z ?_
 refine wp_seq (wrl (wv (.pointer none) z z z (wv (.int .i64 (5:Int)) z z z (wl_nil (tn (wp_ret (then_r ?_)))))))
 replace hst := hst.objO_nil at_locks_Table
 obtain rfl := some_inj hm
 refine post_ret (vs := [.pointer none, I6 (5:Int)]) results29 (rvs_cons (rv_tmp z) (rvs_cons (rv_tmp z) rvs_nil)) ?_
 exact ⟨_, .pointer none, z, hI0, hst.keep1⟩
}
 {
 replace hm := bif_f hc941 hm
 refine wv (v621) ((wanted_eq z z z (cvb hc941)).trans z) z z ?_
 replace hst := hst.pull1
 replace hst := objO_some hst
 obtain ⟨t943, ht944, hm⟩ := bind_some hm
 refine wl_call ((wanted_eq z z z (cvb hc941)).trans z) z (x_call call30 z (vs := [v621]) z) ?_
 refine (locks_Table_Encode_ref hst.to1 ht944).mono ?_
 rintro _ w945 ⟨v948, rfl, hst⟩
 refine ⟨_, z, ?_⟩
 replace hst := hst.of2.pull1
 replace hst := objO_get hst
 refine wv (r0_0) ((wanted_eq z z z (cvb hc941)).trans z) z z ?_
 replace hst := hst.pull1
 obtain ⟨css950, hq951, hst⟩ := hst.own_open
 obtain ⟨t952, ht953, hm⟩ := bind_some hm
 refine wl_call ((wanted_eq z z z (cvb hc941)).trans z) z (x_call call50 z (vs := [v948, r0_0]) z) ?_
 refine (slices_Equal_byte_byte_ref (hst.rdrow0 hq951) (f0_0.mono ro_rd) hst.to0 ht953).mono ?_
 rintro _ w954 ⟨rfl, hst⟩
 refine ⟨_, z, ?_⟩
 replace hst := hst.of0.own_close hq951
 refine wv (.bool (!t952)) ((wanted_eq z z z (cvb hc941)).trans z) z z (wv (.bool (!t952)) z z (x_pick_f hc941 z z) (wl_nil (tn ?_)))
 refine bsplit (!t952) (fun hc957 => ?_) (fun hc957 => ?_)
 {
 replace hm := bif_t hc957 hm
 refine wp_ift (cvb hc957) ?_
 refine wp_seq (wrl (wv (.pointer none) z z z (wv (.int .i64 (5:Int)) z z z (wl_nil (tn (wp_ret (then_r ?_)))))))
 replace hst := hst.objO_nil at_locks_Table
 obtain rfl := some_inj hm
 refine post_ret (vs := [.pointer none, I6 (5:Int)]) results29 (rvs_cons (rv_tmp z) (rvs_cons (rv_tmp z) rvs_nil)) ?_
 exact ⟨_, .pointer none, z, hI0, hst.keep1⟩
}
 {
 replace hm := bif_f hc957 hm
 refine wp_iff (cvb hc957) ?_
 refine wp_skip (tn (wp_seq (wrl ?_)))
 refine wv (v621) z z z (wv (v621) z z z (wv (.int .i64 (0:Int)) z z z (wl_nil (tn (wp_ret ?_)))))
 replace hst := hst.pull1
 replace hst := objO_some hst
 obtain rfl := some_inj hm
 refine post_ret (vs := [v621, Zi]) results29 (rvs_cons (rv_tmp z) (rvs_cons (rv_tmp z) rvs_nil)) ?_
 exact ⟨_, v621, z, hI0, hst.keep1⟩
}
}
}
}

theorem locks_Table_All_ref {w0 w : World} {I : HL} {R : SP} {a0 : (Option locks_Table)} {p0 : Value}  (hst : St w0 w I [objO at_locks_Table p0 a0] R) {r : ((List api_ID))} (hm : locks_Table_All a0 = some r) :
  Calls prog 13 #[p0] w fun e w' => ∃ (q0_0 : Value), e = .returned (q0_0) ∧ St w0 w' I [ownS ty_api_ID q0_0 r, objO at_locks_Table p0 a0] R := by {
 rcases a0 with _ | o0
 {
 obtain ⟨rfl, hst'⟩ := objO_none hst
 clear hst
 have hst := hst'
 clear hst'
 dsimp only [locks_Table_All] at hm
 refine calls_start (args := [.pointer none]) func13 z ntmps13 (Nat.le_of_ble_eq_true z) ?_
 refine wp_seq (wrl (wv ((.slice none 0 0)) z z z (wl_nil (tn (wp_seq (wrl (wv ((.slice none 0 0)) z z z (wl_nil (tn (wp_seq (wp_seq (wrl (wv (.pointer none) z z z ?_)))))))))))))
 replace hst := hst.objO_nil at_locks_Table
 obtain ⟨t452, ht453, hm⟩ := bind_some hm
 refine wc call27 [.pointer none] z z z ?_
 refine (locks_Table_Len_ref hst.to1 ht453).mono ?_
 rintro _ w454 ⟨rfl, hst⟩
 refine ⟨_, z, ?_⟩
 replace hst := hst.of1
 refine wv (.int .i64 (0:Int)) z z z (wl_nil (tn (wp_block ?_)))
 replace hst := hst.sub
 obtain ⟨n459, hm⟩ := loopO_some hm
 refine wp_loop_n (fun n a w => ∃ (σ458 : Nat → Value), loopN (locks_Table_All_l0 t452) n () = some r ∧ a = Fr 23 (upd (upd (upd (upd σ458 0 (.pointer none)) 3 ((.slice none 0 0))) 6 (.int .i64 t452)) 7 (.int .i64 (0:Int))) ∧ St w0 w I [] R) n459 ⟨_, hm, (fu 0 (.pointer none) z (fu 3 (.slice none 0 0) z (fu 6 (.int .i64 t452) z (fu 7 (.int .i64 (0:Int)) z z)))), hst⟩ ?_
 rintro n465 _ w460 ⟨σ458, hm, rfl, hst⟩
 obtain ⟨n462, y463, rfl, hm, hx464⟩ := loopN_some hm
 dsimp only [locks_Table_All_l0] at hm
 refine wp_seq (wrl (wv (.bool (decide ((0:Int) < t452))) z z z (wl_nil (tn (wp_seq ?_)))))
 refine bsplit (decide ((0:Int) < t452)) (fun hc466 => ?_) (fun hc466 => ?_)
 {
 replace hm := bif_t hc466 hm
 refine wp_ift (cvb hc466) ?_
 refine wp_skip (tn (wp_seq (wp_block (wp_seq (wrl ?_)))))
 refine wv (.int .i64 (0:Int)) z z z (wv (.int .i64 (0:Int)) z z z (wl_nil (tn (wrl (wv ((.slice none 0 0)) z z z (wv (.pointer none) z z z ?_))))))
 cases hm
}
 {
 replace hm := bif_f hc466 hm
 refine wp_iff (cvb hc466) ?_
 refine wp_exit (then_x (then_x ?_))
 replace hm := inr_up hm hx464
 refine blk_x (tn (wp_seq (wrl ?_)))
 refine wv ((.slice none 0 0)) z z z (wv ((.slice none 0 0)) z z z (wl_nil (tn (wp_ret ?_))))
 replace hst := hst.own_nil ty_api_ID
 replace hst := hst.objO_nil at_locks_Table
 obtain rfl := some_inj hm
 refine post_ret (vs := [Zs]) results13 (rvs_cons (rv_tmp z) rvs_nil) ?_
 replace hst := hst.pull1
 exact ⟨(.slice none 0 0), z, hst.keep2⟩
}
}
 {
 replace hst := objO_get hst
 dsimp only [locks_Table_All] at hm
 refine calls_start (args := [p0]) func13 z ntmps13 (Nat.le_of_ble_eq_true z) ?_
 refine wp_seq (wrl (wv ((.slice none 0 0)) z z z (wl_nil (tn (wp_seq (wrl (wv ((.slice none 0 0)) z z z (wl_nil (tn (wp_seq (wp_seq (wrl (wv (p0) z z z ?_)))))))))))))
 replace hst := objO_some hst
 obtain ⟨t469, ht470, hm⟩ := bind_some hm
 refine wc call27 [p0] z z z ?_
 refine (locks_Table_Len_ref hst.to1 ht470).mono ?_
 rintro _ w471 ⟨rfl, hst⟩
 refine ⟨_, z, ?_⟩
 replace hst := hst.of1
 replace hst := objO_get hst
 refine wv (.int .i64 (0:Int)) z z z (wl_nil (tn (wp_block ?_)))
 replace hst := hst.own_nil ty_api_ID
 obtain ⟨n585, hm⟩ := loopO_some hm
 refine wp_loop_n (fun n a w => ∃ (z580 : (List api_ID)) (z583 : Int) (v581 : Value) (σ584 : Nat → Value), loopN (locks_Table_All_l1 t469 o0) n (z580, z583) = some r ∧ a = Fr 23 (upd (upd (upd (upd σ584 0 (p0)) 3 (v581)) 6 (.int .i64 t469)) 7 (.int .i64 z583)) ∧ St w0 w I [ownS ty_api_ID v581 z580, at_locks_Table p0 o0] R) n585 ⟨[], (0:Int), Zs, _, hm, (fu 0 p0 z (fu 3 (.slice none 0 0) z (fu 6 (.int .i64 t469) z (fu 7 (.int .i64 (0:Int)) z z)))), hst⟩ ?_
 rintro n591 _ w586 ⟨z580, z583, v581, σ584, hm, rfl, hst⟩
 obtain ⟨n588, y589, rfl, hm, hx590⟩ := loopN_some hm
 dsimp only [locks_Table_All_l1] at hm
 refine wp_seq (wrl (wv (.bool (decide (z583 < t469))) z z z (wl_nil (tn (wp_seq ?_)))))
 refine bsplit (decide (z583 < t469)) (fun hc592 => ?_) (fun hc592 => ?_)
 {
 replace hm := bif_t hc592 hm
 refine wp_ift (cvb hc592) ?_
 refine wp_skip (tn (wp_seq (wp_block (wp_seq (wrl ?_)))))
 refine wv (.int .i64 z583) z z z (wv (.int .i64 z583) z z z (wl_nil (tn (wrl (wv (v581) z z z (wv (p0) z z z ?_))))))
 replace hst := hst.pull1
 obtain ⟨b593, v594, rfl, hst'⟩ := at_locks_Table_open hst
 clear hst
 have hst := hst'
 clear hst'
 refine wv (Pt b593 0) z z z (wv (Pt b593 0) z z (x_field z underlying77 z sizeOf22 z) (wv (v594) z z (x_load z isAgg22 (hst.bc0 z)) (wv (.int .i64 z583) z z z ?_)))
 obtain ⟨x596, hx597, hm⟩ := bind_some hm
 obtain ⟨h598, h599, hi600⟩ := geto_some hx597
 refine wv (.pointer (some (eAddr v594 (z583.toNat * 7 + 0)))) z z (x_index z z underlying22 sizeOf34 hst.sv1 h598 h599) (wv (.pointer (some (eAddr v594 (z583.toNat * 7 + 0)))) z z (x_field_e z underlying34 z sizeOf29 z) ?_)
 obtain ⟨cs601, hr602, hc603⟩ := hst.og1 hi600
 obtain ⟨v604, v607, v610, v613, rfl, f605, f608, f611, f614, -⟩ := hr602
 refine wv (.agg #[U6 x596.ID.Session, U6 x596.ID.Seq]) z z (x_loadN (cs := [U6 x596.ID.Session, U6 x596.ID.Seq]) z isAgg29 sizeOf29 (eCells (o := 0) hc603 z)) ?_
 obtain ⟨b616, w617, ew618, eb619, hst⟩ := hst.lits (E := ty_api_ID) (xs := [x596.ID]) [[U6 x596.ID.Session, U6 x596.ID.Seq]] 29 1 z (Reps.cons z Reps.nil)
 refine wl_run (v := (.slice (some ⟨b616, 0, none⟩) 1 1)) (w' := w617) z z (x_als (by kernel_rfl) ew618 eb619) ?_
 obtain ⟨hg621, hm⟩ := gd_some hm
 replace hst := hst.pull3
 obtain ⟨v622, w623, hr624, hst⟩ := run_append elem_37 underlying37 hst hst.src1 (room_of hg621 z) 37
 refine wl_run (v := v622) (w' := w623) z z (x_append z z hr624) ?_
 refine wv (v622) z z z (wl_nil (blk_n (tn (wrl (wv (.int .i64 (i64.wrap (z583 + (1:Int)))) z z z (wv (.int .i64 (i64.wrap (z583 + (1:Int)))) z z z (wl_nil (tn ?_))))))))
 replace hst := hst.pull3.pull3
 replace hst := at_locks_Table_close (pv := Pt b593 0) (x := o0) hst z
 replace hst := hst.pull1.keep2
 obtain rfl := some_inj hm
 exact ⟨_, Nat.lt_succ_self _, (z580 ++ ([x596.ID])), (i64.wrap (z583 + (1:Int))), v622, _, hx590, (fu 0 (Pt b593 0) z (fu 3 v622 z (fu 6 (.int .i64 t469) z (fu 7 (.int .i64 (i64.wrap (z583 + (1:Int)))) z z)))), hst⟩
}
 {
 replace hm := bif_f hc592 hm
 refine wp_iff (cvb hc592) ?_
 refine wp_exit (then_x (then_x ?_))
 replace hm := inr_up hm hx590
 refine blk_x (tn (wp_seq (wrl ?_)))
 refine wv (v581) z z z (wv (v581) z z z (wl_nil (tn (wp_ret ?_))))
 replace hst := hst.pull1
 replace hst := objO_some hst
 obtain rfl := some_inj hm
 refine post_ret (vs := [v581]) results13 (rvs_cons (rv_tmp z) rvs_nil) ?_
 replace hst := hst.pull1
 exact ⟨v581, z, hst.keep2⟩
}
}
}

theorem locks_Table_Get_ref {w0 w : World} {I : HL} {R : SP} {a0 : (Option locks_Table)} {p0 : Value} {a1 : api_ID}  (hst : St w0 w I [objO at_locks_Table p0 a0] R) {r : (api_Hold × Bool)} (hm : locks_Table_Get a0 a1 = some r) :
  Calls prog 14 #[p0, .agg #[U6 a1.Session, U6 a1.Seq]] w fun e w' => ∃ (I' : HL) (q0_0 : Value) (q0_1 : Value) (q0_2 : Value) (q0_3 : Value), e = .returned (.tuple #[.agg #[U6 r.1.ID.Session, U6 r.1.ID.Seq, U6 r.1.Epoch, q0_0, q0_1, q0_2, q0_3], .bool r.2]) ∧ I.le I' ∧ Ro tyF64 I' q0_0 r.1.Gets ∧ Ro tyF2 I' q0_1 r.1.Scans ∧ Ro tyF64 I' q0_2 r.1.Puts ∧ Ro (tyInt .u8) I' q0_3 r.1.Data ∧ St w0 w' I' [objO at_locks_Table p0 a0] R := by {
 rcases a0 with _ | o0
 {
 obtain ⟨rfl, hst'⟩ := objO_none hst
 clear hst
 have hst := hst'
 clear hst'
 dsimp only [locks_Table_Get] at hm
 refine calls_start (args := [.pointer none, .agg #[U6 a1.Session, U6 a1.Seq]]) func14 z ntmps14 (Nat.le_of_ble_eq_true z) ?_
 have hI0 := HL.le.refl I
 refine wp_seq (wrl ?_)
 obtain ⟨b363, w364, ew365, eb366, hst⟩ := hst.box [U6 a1.Session, U6 a1.Seq] 29
 refine wl_run (v := Pt b363 0) (w' := w364) z z (x_al (by kernel_rfl) ew365 eb366) ?_
 obtain ⟨b372, w373, ew374, eb375, hst⟩ := hst.box [Zu, Zu, Zu, Zs, Zs, Zs, Zs] 34
 refine wl_run (v := Pt b372 0) (w' := w373) z z (x_al (by kernel_rfl) ew374 eb375) ?_
 refine wv (.bool false) z z z (wl_nil (tn (wp_seq (wrl (wv (.pointer none) z z z (wv (.agg #[U6 a1.Session, U6 a1.Seq]) z z (x_loadN (cs := [U6 a1.Session, U6 a1.Seq]) z isAgg29 sizeOf29 (hst.bcs1 0 z)) ?_))))))
 replace hst := hst.objO_nil at_locks_Table
 obtain ⟨t378, ht379, hm⟩ := bind_some hm
 refine wc call40 [.pointer none, .agg #[U6 a1.Session, U6 a1.Seq]] z z z ?_
 refine (locks_Table_find_ref hst.to1 ht379).mono ?_
 rintro _ w380 ⟨rfl, hst⟩
 refine ⟨_, z, ?_⟩
 replace hst := hst.of1
 refine wv (.tuple #[I6 t378.1, .bool t378.2]) z z z (wv (.int .i64 t378.1) z z z (wv (.bool t378.2) z z z (wv (.int .i64 t378.1) z z z (wv (.bool t378.2) z z z (wl_nil (tn (wp_seq (wp_seq (wrl (wv (.bool t378.2) z z z (wv (.bool (!t378.2)) z z z (wl_nil (tn ?_)))))))))))))
 refine bsplit (!t378.2) (fun hc383 => ?_) (fun hc383 => ?_)
 {
 replace hm := bif_t hc383 hm
 refine wp_ift (cvb hc383) ?_
 refine wp_seq (wrl (wv (.agg #[Zu, Zu, Zu, Zs, Zs, Zs, Zs]) z z (by kernel_rfl) ?_))
 replace hst := hst.pull1
 obtain ⟨w388, hr389, hst⟩ := hst.bx [Zu, Zu, Zu, Zs, Zs, Zs, Zs] sizeOf34 z (oC z (oC z (oC z (oC z (oC z (oC z (oC z oN))))))) (by kernel_rfl)
 refine wl_unit z z (x_unit hr389) ?_
 refine wv (.bool false) z z z (wl_nil (tn (wp_ret (then_r ?_))))
 have f390 : Ro tyF64 I (.slice none 0 0) [] := ro_nil
 have f391 : Ro tyF2 I (.slice none 0 0) [] := ro_nil
 have f392 : Ro tyF64 I (.slice none 0 0) [] := ro_nil
 have f393 : Ro (tyInt .u8) I (.slice none 0 0) [] := ro_nil
 replace hst := hst.objO_nil at_locks_Table
 obtain rfl := some_inj hm
 refine post_ret (vs := [.agg #[Zu, Zu, Zu, Zs, Zs, Zs, Zs], .bool false]) results14 (rvs_cons (rv_cell (cs := [Zu, Zu, Zu, Zs, Zs, Zs, Zs]) z isAgg34 sizeOf34 (hst.bcs1 0 z)) (rvs_cons (rv_tmp z) rvs_nil)) ?_
 exact ⟨_, Zs, Zs, Zs, Zs, z, hI0, f390, f391, f392, f393, hst.keep1⟩
}
 {
 replace hm := bif_f hc383 hm
 refine wp_iff (cvb hc383) ?_
 refine wp_skip (tn (wp_seq (wrl ?_)))
 refine wv (.pointer none) z z z ?_
 cases hm
}
}
 {
 replace hst := objO_get hst
 dsimp only [locks_Table_Get] at hm
 refine calls_start (args := [p0, .agg #[U6 a1.Session, U6 a1.Seq]]) func14 z ntmps14 (Nat.le_of_ble_eq_true z) ?_
 have hI0 := HL.le.refl I
 refine wp_seq (wrl ?_)
 obtain ⟨b394, w395, ew396, eb397, hst⟩ := hst.box [U6 a1.Session, U6 a1.Seq] 29
 refine wl_run (v := Pt b394 0) (w' := w395) z z (x_al (by kernel_rfl) ew396 eb397) ?_
 obtain ⟨b403, w404, ew405, eb406, hst⟩ := hst.box [Zu, Zu, Zu, Zs, Zs, Zs, Zs] 34
 refine wl_run (v := Pt b403 0) (w' := w404) z z (x_al (by kernel_rfl) ew405 eb406) ?_
 refine wv (.bool false) z z z (wl_nil (tn (wp_seq (wrl (wv (p0) z z z (wv (.agg #[U6 a1.Session, U6 a1.Seq]) z z (x_loadN (cs := [U6 a1.Session, U6 a1.Seq]) z isAgg29 sizeOf29 (hst.bcs1 0 z)) ?_))))))
 replace hst := hst.pull2
 replace hst := objO_some hst
 obtain ⟨t408, ht409, hm⟩ := bind_some hm
 refine wc call40 [p0, .agg #[U6 a1.Session, U6 a1.Seq]] z z z ?_
 refine (locks_Table_find_ref hst.to1 ht409).mono ?_
 rintro _ w410 ⟨rfl, hst⟩
 refine ⟨_, z, ?_⟩
 replace hst := hst.of1
 replace hst := objO_get hst
 refine wv (.tuple #[I6 t408.1, .bool t408.2]) z z z (wv (.int .i64 t408.1) z z z (wv (.bool t408.2) z z z (wv (.int .i64 t408.1) z z z (wv (.bool t408.2) z z z (wl_nil (tn (wp_seq (wp_seq (wrl (wv (.bool t408.2) z z z (wv (.bool (!t408.2)) z z z (wl_nil (tn ?_)))))))))))))
 refine bsplit (!t408.2) (fun hc413 => ?_) (fun hc413 => ?_)
 {
 replace hm := bif_t hc413 hm
 refine wp_ift (cvb hc413) ?_
 refine wp_seq (wrl (wv (.agg #[Zu, Zu, Zu, Zs, Zs, Zs, Zs]) z z (by kernel_rfl) ?_))
 replace hst := hst.pull1
 obtain ⟨w418, hr419, hst⟩ := hst.bx [Zu, Zu, Zu, Zs, Zs, Zs, Zs] sizeOf34 z (oC z (oC z (oC z (oC z (oC z (oC z (oC z oN))))))) (by kernel_rfl)
 refine wl_unit z z (x_unit hr419) ?_
 refine wv (.bool false) z z z (wl_nil (tn (wp_ret (then_r ?_))))
 have f420 : Ro tyF64 I (.slice none 0 0) [] := ro_nil
 have f421 : Ro tyF2 I (.slice none 0 0) [] := ro_nil
 have f422 : Ro tyF64 I (.slice none 0 0) [] := ro_nil
 have f423 : Ro (tyInt .u8) I (.slice none 0 0) [] := ro_nil
 replace hst := hst.pull1
 replace hst := objO_some hst
 obtain rfl := some_inj hm
 refine post_ret (vs := [.agg #[Zu, Zu, Zu, Zs, Zs, Zs, Zs], .bool false]) results14 (rvs_cons (rv_cell (cs := [Zu, Zu, Zu, Zs, Zs, Zs, Zs]) z isAgg34 sizeOf34 (hst.bcs1 0 z)) (rvs_cons (rv_tmp z) rvs_nil)) ?_
 exact ⟨_, Zs, Zs, Zs, Zs, z, hI0, f420, f421, f422, f423, hst.keep1⟩
}
 {
 replace hm := bif_f hc413 hm
 refine wp_iff (cvb hc413) ?_
 refine wp_skip (tn (wp_seq (wrl ?_)))
 refine wv (p0) z z z ?_
 obtain ⟨b424, v425, rfl, hst'⟩ := at_locks_Table_open hst
 clear hst
 have hst := hst'
 clear hst'
 refine wv (Pt b424 0) z z z (wv (Pt b424 0) z z (x_field z underlying77 z sizeOf22 z) (wv (v425) z z (x_load z isAgg22 (hst.bc0 z)) (wv (.int .i64 t408.1) z z z ?_)))
 obtain ⟨x427, hx428, hm⟩ := bind_some hm
 obtain ⟨h429, h430, hi431⟩ := geto_some hx428
 refine wv (.pointer (some (eAddr v425 (t408.1.toNat * 7 + 0)))) z z (x_index z z underlying22 sizeOf34 hst.sv1 h429 h430) ?_
 obtain ⟨cs432, hr433, hc434⟩ := hst.og1 hi431
 obtain ⟨v435, v438, v441, v444, rfl, f436, f439, f442, f445, -⟩ := hr433
 refine wv (.agg #[U6 x427.ID.Session, U6 x427.ID.Seq, U6 x427.Epoch, v435, v438, v441, v444]) z z (x_loadN (cs := [U6 x427.ID.Session, U6 x427.ID.Seq, U6 x427.Epoch, v435, v438, v441, v444]) z isAgg34 sizeOf34 (eCells (o := 0) hc434 z)) ?_
 replace hst := hst.pull2
 obtain ⟨w447, hr448, hst⟩ := hst.bx [U6 x427.ID.Session, U6 x427.ID.Seq, U6 x427.Epoch, v435, v438, v441, v444] sizeOf34 z (oC z (oC z (oC z (oC (one_of_sliceV (ro_sliceV f436)) (oC (one_of_sliceV (ro_sliceV f439)) (oC (one_of_sliceV (ro_sliceV f442)) (oC (one_of_sliceV (ro_sliceV f445)) oN))))))) (by kernel_rfl)
 refine wl_unit z z (x_unit hr448) ?_
 refine wv (.bool true) z z z (wl_nil (tn (wp_ret ?_)))
 replace hst := hst.pull2.pull2
 replace hst := at_locks_Table_close (pv := Pt b424 0) (x := o0) hst z
 replace hst := objO_some hst
 obtain rfl := some_inj hm
 refine post_ret (vs := [.agg #[U6 x427.ID.Session, U6 x427.ID.Seq, U6 x427.Epoch, v435, v438, v441, v444], .bool true]) results14 (rvs_cons (rv_cell (cs := [U6 x427.ID.Session, U6 x427.ID.Seq, U6 x427.Epoch, v435, v438, v441, v444]) z isAgg34 sizeOf34 (hst.bcs1 0 z)) (rvs_cons (rv_tmp z) rvs_nil)) ?_
 exact ⟨_, v435, v438, v441, v444, z, hI0, f436, f439, f442, f445, hst.keep1⟩
}
}
}

theorem ref11_Held_ref {w0 w : World} {I : HL} {R : SP} {a0 : (List api_Hold)} {r0_0 : Value} {a1 : api_ID} (f0_0 : Ro ty_api_Hold I r0_0 a0) (hst : St w0 w I [] R) {r : (api_Hold × Bool)} (hm : ref11_Held a0 a1 = some r) :
  Calls prog 22 #[r0_0, .agg #[U6 a1.Session, U6 a1.Seq]] w fun e w' => ∃ (I' : HL) (q0_0 : Value) (q0_1 : Value) (q0_2 : Value) (q0_3 : Value), e = .returned (.tuple #[.agg #[U6 r.1.ID.Session, U6 r.1.ID.Seq, U6 r.1.Epoch, q0_0, q0_1, q0_2, q0_3], .bool r.2]) ∧ I.le I' ∧ Ro tyF64 I' q0_0 r.1.Gets ∧ Ro tyF2 I' q0_1 r.1.Scans ∧ Ro tyF64 I' q0_2 r.1.Puts ∧ Ro (tyInt .u8) I' q0_3 r.1.Data ∧ St w0 w' I' [] R := by {
 unfold ref11_Held at hm
 refine calls_start (args := [r0_0, .agg #[U6 a1.Session, U6 a1.Seq]]) func22 z ntmps22 (Nat.le_of_ble_eq_true z) ?_
 have hI0 := HL.le.refl I
 refine wp_seq (wrl ?_)
 obtain ⟨b650, w651, ew652, eb653, hst⟩ := hst.box [U6 a1.Session, U6 a1.Seq] 29
 refine wl_run (v := Pt b650 0) (w' := w651) z z (x_al (by kernel_rfl) ew652 eb653) ?_
 obtain ⟨b659, w660, ew661, eb662, hst⟩ := hst.box [Zu, Zu, Zu, Zs, Zs, Zs, Zs] 34
 refine wl_run (v := Pt b659 0) (w' := w660) z z (x_al (by kernel_rfl) ew661 eb662) ?_
 refine wv (.bool false) z z z (wl_nil (tn (wp_seq (wp_seq (wrl (wv (.int .i64 (0:Int)) z z z (wl_nil (tn (wp_block ?_)))))))))
 obtain ⟨n715, hm⟩ := loopO_some hm
 refine wp_loop_n (fun n a w => ∃ (z713 : Int) (σ714 : Nat → Value), loopN (ref11_Held_l0 a0 a1) n z713 = some r ∧ a = Fr 25 (upd (upd (upd (upd σ714 0 (r0_0)) 3 (Pt b650 0)) 4 (Pt b659 0)) 6 (.int .i64 z713)) ∧ St w0 w I [cells b659 [Zu, Zu, Zu, Zs, Zs, Zs, Zs], cells b650 [U6 a1.Session, U6 a1.Seq]] R) n715 ⟨(0:Int), _, hm, (fu 0 r0_0 z (fu 3 (Pt b650 0) z (fu 4 (Pt b659 0) z (fu 6 (.int .i64 (0:Int)) z z)))), hst⟩ ?_
 rintro n721 _ w716 ⟨z713, σ714, hm, rfl, hst⟩
 obtain ⟨n718, y719, rfl, hm, hx720⟩ := loopN_some hm
 dsimp only [ref11_Held_l0] at hm
 refine wp_seq (wp_seq (wrl (wv (.int .i64 z713) z z z (wv (r0_0) z z z (wv (.int .i64 ((a0).length : Int)) z z (x_len z underlying22 (ro_sliceV f0_0)) (wv (.bool (decide (z713 < ((a0).length : Int)))) z z z (wl_nil (tn ?_))))))))
 refine bsplit (decide (z713 < ((a0).length : Int))) (fun hc722 => ?_) (fun hc722 => ?_)
 {
 replace hm := bif_t hc722 hm
 refine wp_ift (cvb hc722) ?_
 refine wp_skip (tn (wp_seq (wp_block (wp_seq ?_))))
 refine wq_regionS hst Try.mixed (by kernel_rfl) ?_
 refine wq_run (v := r0_0) z z (fun w hst => z) ?_
 refine wq_run (v := .int .i64 z713) z z (fun w hst => z) ?_
 obtain ⟨x723, hx724, hm⟩ := bind_some hm
 obtain ⟨h725, h726, hi727⟩ := geto_some hx724
 refine wq_run (v := .pointer (some (eAddr r0_0 (z713.toNat * 7 + 0)))) z z (fun w hst => x_index z z underlying22 sizeOf34 (ro_sliceV f0_0) h725 h726) ?_
 refine wq_run (v := .pointer (some (eAddr r0_0 (z713.toNat * 7 + 0)))) z z (fun w hst => x_field_e z underlying34 z sizeOf29 z) ?_
 obtain ⟨cs728, hr729, hc730⟩ := Ro.getF f0_0 hi727
 obtain ⟨v731, v734, v737, v740, rfl, f732, f735, f738, f741, -⟩ := hr729
 refine wq_run (v := .agg #[U6 x723.ID.Session, U6 x723.ID.Seq]) z z (fun w hst => x_loadN (cs := [U6 x723.ID.Session, U6 x723.ID.Seq]) z isAgg29 sizeOf29 (eCells (o := 0) (hc730 (HL.le.refl _) hst) z)) ?_
 refine wq_run (v := .agg #[U6 a1.Session, U6 a1.Seq]) z z (fun w hst => x_loadN (cs := [U6 a1.Session, U6 a1.Seq]) z isAgg29 sizeOf29 (hst.bcs1 0 z)) ?_
 refine wq_run (v := .bool ((x723.ID.Session == a1.Session) && (x723.ID.Seq == a1.Seq))) z z (fun w hst => x_aggeq2 z z (by kernel_rfl) underlying29 (by kernel_rfl) (by kernel_rfl) (by kernel_rfl) underlying27 underlying27 (fun _ _ _ => by kernel_rfl) (fun _ _ _ => by kernel_rfl)) ?_
 refine wq_nil ?_
 intro w hst
 refine tn ?_
 refine bsplit ((x723.ID.Session == a1.Session) && (x723.ID.Seq == a1.Seq)) (fun hc743 => ?_) (fun hc743 => ?_)
 {
 replace hm := bif_t hc743 hm
 refine wp_ift (cvb hc743) ?_
 refine wp_seq (wrl (wv (r0_0) z z z (wv (.int .i64 z713) z z z (wv (.pointer (some (eAddr r0_0 (z713.toNat * 7 + 0)))) z z (x_index z z underlying22 sizeOf34 (ro_sliceV f0_0) h725 h726) (wv (.agg #[U6 x723.ID.Session, U6 x723.ID.Seq, U6 x723.Epoch, v731, v734, v737, v740]) z z (x_loadN (cs := [U6 x723.ID.Session, U6 x723.ID.Seq, U6 x723.Epoch, v731, v734, v737, v740]) z isAgg34 sizeOf34 (eCells (o := 0) (hc730 (HL.le.refl _) hst) z)) ?_)))))
 obtain ⟨w744, hr745, hst⟩ := hst.bx [U6 x723.ID.Session, U6 x723.ID.Seq, U6 x723.Epoch, v731, v734, v737, v740] sizeOf34 z (oC z (oC z (oC z (oC (one_of_sliceV (ro_sliceV f732)) (oC (one_of_sliceV (ro_sliceV f735)) (oC (one_of_sliceV (ro_sliceV f738)) (oC (one_of_sliceV (ro_sliceV f741)) oN))))))) (by kernel_rfl)
 refine wl_unit z z (x_unit hr745) ?_
 refine wv (.bool true) z z z (wl_nil (tn (wp_ret (blk_r (then_r (then_r ?_))))))
 replace hm := inr_up hm hx720
 refine blk_r (then_r ?_)
 obtain rfl := some_inj hm
 refine post_ret (vs := [.agg #[U6 x723.ID.Session, U6 x723.ID.Seq, U6 x723.Epoch, v731, v734, v737, v740], .bool true]) results22 (rvs_cons (rv_cell (cs := [U6 x723.ID.Session, U6 x723.ID.Seq, U6 x723.Epoch, v731, v734, v737, v740]) z isAgg34 sizeOf34 (hst.bcs0 0 z)) (rvs_cons (rv_tmp z) rvs_nil)) ?_
 exact ⟨_, v731, v734, v737, v740, z, hI0, f732, f735, f738, f741, hst.keep0⟩
}
 {
 replace hm := bif_f hc743 hm
 refine wp_iff (cvb hc743) ?_
 refine wp_skip (blk_n (tn (wrl ?_)))
 refine wv (.int .i64 z713) z z z (wv (.int .i64 (i64.wrap (z713 + (1:Int)))) z z z (wv (.int .i64 (i64.wrap (z713 + (1:Int)))) z z z (wl_nil (tn ?_))))
 replace hst := hst.pull1.pull1.keep2
 obtain rfl := some_inj hm
 exact ⟨_, Nat.lt_succ_self _, (i64.wrap (z713 + (1:Int))), _, hx720, (fu 0 r0_0 z (fu 3 (Pt b650 0) z (fu 4 (Pt b659 0) z (fu 6 (.int .i64 (i64.wrap (z713 + (1:Int)))) z z)))), hst⟩
}
}
 {
 replace hm := bif_f hc722 hm
 refine wp_iff (cvb hc722) ?_
 refine wp_exit (then_x (then_x ?_))
 replace hm := inr_up hm hx720
 refine blk_x (tn (wp_seq (wrl ?_)))
 refine wv (.agg #[Zu, Zu, Zu, Zs, Zs, Zs, Zs]) z z (by kernel_rfl) ?_
 obtain ⟨w750, hr751, hst⟩ := hst.bx [Zu, Zu, Zu, Zs, Zs, Zs, Zs] sizeOf34 z (oC z (oC z (oC z (oC z (oC z (oC z (oC z oN))))))) (by kernel_rfl)
 refine wl_unit z z (x_unit hr751) ?_
 refine wv (.bool false) z z z (wl_nil (tn (wp_ret ?_)))
 have f752 : Ro tyF64 I (.slice none 0 0) [] := ro_nil
 have f753 : Ro tyF2 I (.slice none 0 0) [] := ro_nil
 have f754 : Ro tyF64 I (.slice none 0 0) [] := ro_nil
 have f755 : Ro (tyInt .u8) I (.slice none 0 0) [] := ro_nil
 obtain rfl := some_inj hm
 refine post_ret (vs := [.agg #[Zu, Zu, Zu, Zs, Zs, Zs, Zs], .bool false]) results22 (rvs_cons (rv_cell (cs := [Zu, Zu, Zu, Zs, Zs, Zs, Zs]) z isAgg34 sizeOf34 (hst.bcs0 0 z)) (rvs_cons (rv_tmp z) rvs_nil)) ?_
 exact ⟨_, Zs, Zs, Zs, Zs, z, hI0, f752, f753, f754, f755, hst.keep0⟩
}
}

theorem locks_Table_Until_ref {w0 w : World} {I : HL} {R : SP} {a0 : (Option locks_Table)} {p0 : Value} {a1 : Int}  (hst : St w0 w I [objO at_locks_Table p0 a0] R) {r : (Bool)} (hm : locks_Table_Until a0 a1 = some r) :
  Calls prog 28 #[p0, U6 a1] w fun e w' => e = .returned (.bool r) ∧ St w0 w' I [objO at_locks_Table p0 a0] R := by {
 rcases a0 with _ | o0
 {
 obtain ⟨rfl, hst'⟩ := objO_none hst
 clear hst
 have hst := hst'
 clear hst'
 dsimp only [locks_Table_Until] at hm
 refine calls_start (args := [.pointer none, U6 a1]) func28 z ntmps28 (Nat.le_of_ble_eq_true z) ?_
 refine wp_seq (wrl ?_)
 obtain ⟨b979, w980, ew981, eb982, hst⟩ := hst.box [U6 a1] 27
 refine wl_run (v := Pt b979 0) (w' := w980) z z (x_al (by kernel_rfl) ew981 eb982) ?_
 refine wv (.bool false) z z z (wl_nil (tn (wp_seq (wrl (wv (.pointer none) z z z (wv (.bool false) z z (by kernel_rfl) (wv (.bool false) z z z (wz z z z z z z (wz z z z z z z (wz z z z z z z (wz z z z z z z (wz z z z z z z (wz z z z z z z (wv (.bool false) z z (x_pick_f z z z) (wv (.bool false) z z z ?_)))))))))))))))
 refine wl_nil (tn (wp_ret ?_))
 replace hst := hst.objO_nil at_locks_Table
 obtain rfl := some_inj hm
 refine post_ret (vs := [.bool false]) results28 (rvs_cons (rv_tmp z) rvs_nil) ?_
 exact ⟨z, hst.keep1⟩
}
 {
 replace hst := objO_get hst
 dsimp only [locks_Table_Until] at hm
 refine calls_start (args := [p0, U6 a1]) func28 z ntmps28 (Nat.le_of_ble_eq_true z) ?_
 refine wp_seq (wrl ?_)
 obtain ⟨b984, w985, ew986, eb987, hst⟩ := hst.box [U6 a1] 27
 refine wl_run (v := Pt b984 0) (w' := w985) z z (x_al (by kernel_rfl) ew986 eb987) ?_
 refine wv (.bool false) z z z (wl_nil (tn (wp_seq (wrl (wv (p0) z z z ?_)))))
 replace hst := hst.pull1
 obtain ⟨b989, v990, rfl, hst'⟩ := at_locks_Table_open hst
 clear hst
 have hst := hst'
 clear hst'
 refine wv (.bool true) z z (by kernel_rfl) (wv (.bool true) z z z (wv (Pt b989 0) ((wanted_eq z z z z).trans z) z z (wv (Pt b989 0) ((wanted_eq z z z z).trans z) z z (wv (Pt b989 0) ((wanted_eq z z z z).trans z) z (x_field z underlying77 z sizeOf22 z) (wv (v990) ((wanted_eq z z z z).trans z) z (x_load z isAgg22 (hst.bc0 z)) (wv (.func (.func 56) #[] #[Pt b984 0]) ((wanted_eq z z z z).trans z) z (by kernel_rfl) ?_))))))
 obtain ⟨y1102, hq1103, hm⟩ := bind_some hm
 refine wl_call ((wanted_eq z z z z).trans z) z (x_callv call55 (caps := []) z (vs := [v990, .func (.func 56) #[] #[Pt b984 0]]) z) ?_
 refine Calls.mono (show Calls prog 55 #[v990, .func (.func 56) #[] #[Pt b984 0]] _ (fun e w' => ∃ (z1100 : Bool), z1100 = y1102 ∧ e = .returned (.bool z1100) ∧ St w0 w' I [cells b989 [v990], ownS ty_api_Hold v990 o0.l, cells b984 [U6 a1]] R) from ?_) ?_
 {
 clear hm; have hm := hq1103
 refine calls_start (args := [v990, .func (.func 56) #[] #[Pt b984 0]]) func55 z ntmps55 (Nat.le_of_ble_eq_true z) ?_
 refine wp_seq (wrl (wv (.bool false) z z z (wl_nil (tn (wp_seq (wrl (wv (v990) z z z (wv (.func (.func 56) #[] #[Pt b984 0]) z z z ?_))))))))
 obtain ⟨y1097, hq1098, hm⟩ := bind_some hm
 refine wl_call z z (x_callv call83 (caps := []) z (vs := [v990, .func (.func 56) #[] #[Pt b984 0]]) z) ?_
 refine Calls.mono (show Calls prog 83 #[v990, .func (.func 56) #[] #[Pt b984 0]] _ (fun e w' => ∃ (z1095 : Int), z1095 = y1097 ∧ e = .returned (.int .i64 z1095) ∧ St w0 w' I [cells b989 [v990], ownS ty_api_Hold v990 o0.l, cells b984 [U6 a1]] R) from ?_) ?_
 {
 clear hm; have hm := hq1098
 refine calls_start (args := [v990, .func (.func 56) #[] #[Pt b984 0]]) func83 z ntmps83 (Nat.le_of_ble_eq_true z) ?_
 refine wp_seq (wrl (wv (.int .i64 (0:Int)) z z z (wl_nil (tn (wp_seq (wp_seq (wrl (wv (v990) z z z (wv (.int .i64 ((o0.l).length : Int)) z z (x_len z underlying22 hst.sv1) (wv (.int .i64 (0:Int)) z z z (wl_nil (tn (wp_block ?_)))))))))))))
 obtain ⟨n1057, hm⟩ := loopO_some hm
 refine wp_loop_n (fun n a w => ∃ (z1055 : Int) (σ1056 : Nat → Value), loopN (locks_Table_Until_l0 o0 a1) n z1055 = some y1097 ∧ a = Fr 19 (upd (upd (upd (upd σ1056 0 (v990)) 1 (.func (.func 56) #[] #[Pt b984 0])) 7 (.int .i64 ((o0.l).length : Int))) 8 (.int .i64 z1055)) ∧ St w0 w I [cells b989 [v990], ownS ty_api_Hold v990 o0.l, cells b984 [U6 a1]] R) n1057 ⟨(0:Int), _, hm, (fu 0 v990 z (fu 1 (.func (.func 56) #[] #[Pt b984 0]) z (fu 7 (.int .i64 ((o0.l).length : Int)) z (fu 8 (.int .i64 (0:Int)) z z)))), hst⟩ ?_
 rintro n1063 _ w1058 ⟨z1055, σ1056, hm, rfl, hst⟩
 obtain ⟨n1060, y1061, rfl, hm, hx1062⟩ := loopN_some hm
 dsimp only [locks_Table_Until_l0] at hm
 refine wp_seq (wrl (wv (.bool (decide (z1055 < ((o0.l).length : Int)))) z z z (wl_nil (tn (wp_seq ?_)))))
 refine bsplit (decide (z1055 < ((o0.l).length : Int))) (fun hc1064 => ?_) (fun hc1064 => ?_)
 {
 replace hm := bif_t hc1064 hm
 refine wp_ift (cvb hc1064) ?_
 refine wp_skip (tn (wp_seq (wp_block (wp_seq (wrl ?_)))))
 refine wv (.int .i64 z1055) z z z (wv (.int .i64 z1055) z z z (wl_nil (tn (wp_seq (wrl (wv (.func (.func 56) #[] #[Pt b984 0]) z z z (wv (v990) z z z (wv (.int .i64 z1055) z z z ?_))))))))
 obtain ⟨x1065, hx1066, hm⟩ := bind_some hm
 obtain ⟨h1067, h1068, hi1069⟩ := geto_some hx1066
 refine wv (.pointer (some (eAddr v990 (z1055.toNat * 7 + 0)))) z z (x_index z z underlying22 sizeOf34 hst.sv1 h1067 h1068) ?_
 obtain ⟨cs1070, hr1071, hc1072⟩ := hst.og1 hi1069
 obtain ⟨v1073, v1076, v1079, v1082, rfl, f1074, f1077, f1080, f1083, -⟩ := hr1071
 refine wv (.agg #[U6 x1065.ID.Session, U6 x1065.ID.Seq, U6 x1065.Epoch, v1073, v1076, v1079, v1082]) z z (x_loadN (cs := [U6 x1065.ID.Session, U6 x1065.ID.Seq, U6 x1065.Epoch, v1073, v1076, v1079, v1082]) z isAgg34 sizeOf34 (eCells (o := 0) hc1072 z)) ?_
 obtain ⟨y1091, hq1092, hm⟩ := bind_some hm
 refine wl_call z z (x_callv call56 (caps := [Pt b984 0]) z (vs := [.agg #[U6 x1065.ID.Session, U6 x1065.ID.Seq, U6 x1065.Epoch, v1073, v1076, v1079, v1082]]) z) ?_
 refine Calls.mono (show Calls prog 56 #[.agg #[U6 x1065.ID.Session, U6 x1065.ID.Seq, U6 x1065.Epoch, v1073, v1076, v1079, v1082], Pt b984 0] _ (fun e w' => () = y1091 ∧ e = .returned (.bool (decide (x1065.Epoch ≤ a1))) ∧ St w0 w' I [cells b989 [v990], ownS ty_api_Hold v990 o0.l, cells b984 [U6 a1]] R) from ?_) ?_
 {
 clear hm; have hm := hq1092
 refine calls_start (args := [.agg #[U6 x1065.ID.Session, U6 x1065.ID.Seq, U6 x1065.Epoch, v1073, v1076, v1079, v1082], Pt b984 0]) func56 z ntmps56 (Nat.le_of_ble_eq_true z) ?_
 refine wp_seq (wrl ?_)
 obtain ⟨b1085, w1086, ew1087, eb1088, hst⟩ := hst.box [U6 x1065.ID.Session, U6 x1065.ID.Seq, U6 x1065.Epoch, v1073, v1076, v1079, v1082] 34
 refine wl_run (v := Pt b1085 0) (w' := w1086) z z (x_al (by kernel_rfl) ew1087 eb1088) ?_
 refine wv (.bool false) z z z (wl_nil (tn (wp_seq (wrl (wv (Pt b1085 2) z z (x_field z underlying34 z sizeOf27 z) (wv (.int .u64 x1065.Epoch) z z (x_load z isAgg27 (hst.bc0 z)) (wv (.int .u64 a1) z z (x_load z isAgg27 (hst.bc3 z)) (wv (.bool (decide (x1065.Epoch ≤ a1))) z z z (wv (.bool (decide (x1065.Epoch ≤ a1))) z z z (wl_nil (tn (wp_ret ?_))))))))))))
 refine post_ret (vs := [.bool (decide (x1065.Epoch ≤ a1))]) results56 (rvs_cons (rv_tmp z) rvs_nil) ?_
 replace hst := hst.pull3.pull3.pull3.keep3
 obtain rfl := some_inj hm
 exact ⟨z, z, hst⟩
}
 clear hst
 rintro _ w1093 ⟨rfl, rfl, hst⟩
 refine ⟨_, z, ?_⟩
 try dsimp only at hm
 refine wl_nil (tn ?_)
 refine bsplit (decide (x1065.Epoch ≤ a1)) (fun hc1094 => ?_) (fun hc1094 => ?_)
 {
 replace hm := bif_t hc1094 hm
 refine wp_ift (cvb hc1094) ?_
 refine wp_seq (wrl (wv (.int .i64 z1055) z z z (wv (.int .i64 z1055) z z z (wl_nil (tn (wp_ret (blk_r (then_r (then_r ?_)))))))))
 replace hm := inr_up hm hx1062
 refine blk_r (then_r ?_)
 refine post_ret (vs := [I6 z1055]) results83 (rvs_cons (rv_tmp z) rvs_nil) ?_
 replace hst := hst.pull2.pull2.pull2.keep3
 obtain rfl := some_inj hm
 exact ⟨z1055, z, z, hst⟩
}
 {
 replace hm := bif_f hc1094 hm
 refine wp_iff (cvb hc1094) ?_
 refine wp_skip (blk_n (tn (wrl ?_)))
 refine wv (.int .i64 (i64.wrap (z1055 + (1:Int)))) z z z (wv (.int .i64 (i64.wrap (z1055 + (1:Int)))) z z z (wl_nil (tn ?_)))
 replace hst := hst.pull2.pull2.pull2.keep3
 obtain rfl := some_inj hm
 exact ⟨_, Nat.lt_succ_self _, (i64.wrap (z1055 + (1:Int))), _, hx1062, (fu 0 v990 z (fu 1 (.func (.func 56) #[] #[Pt b984 0]) z (fu 7 (.int .i64 ((o0.l).length : Int)) z (fu 8 (.int .i64 (i64.wrap (z1055 + (1:Int)))) z z)))), hst⟩
}
}
 {
 replace hm := bif_f hc1064 hm
 refine wp_iff (cvb hc1064) ?_
 refine wp_exit (then_x (then_x ?_))
 replace hm := inr_up hm hx1062
 refine blk_x (tn (wp_seq (wrl ?_)))
 refine wv (.int .i64 ((-1):Int)) z z z (wl_nil (tn (wp_ret ?_)))
 refine post_ret (vs := [I6 ((-1):Int)]) results83 (rvs_cons (rv_tmp z) rvs_nil) ?_
 replace hst := hst.pull2.pull2.pull2.keep3
 obtain rfl := some_inj hm
 exact ⟨((-1):Int), z, z, hst⟩
}
}
 clear hst
 rintro _ w1099 ⟨z1095, rfl, rfl, hst⟩
 refine ⟨_, z, ?_⟩
 try dsimp only at hm
 refine wv (.bool (decide (z1095 ≥ (0:Int)))) z z z (wv (.bool (decide (z1095 ≥ (0:Int)))) z z z (wl_nil (tn (wp_ret ?_))))
 refine post_ret (vs := [.bool (decide (z1095 ≥ (0:Int)))]) results55 (rvs_cons (rv_tmp z) rvs_nil) ?_
 replace hst := hst.pull2.pull2.pull2.keep3
 obtain rfl := some_inj hm
 exact ⟨(decide (z1095 ≥ (0:Int))), z, z, hst⟩
}
 clear hst
 rintro _ w1104 ⟨z1100, rfl, rfl, hst⟩
 refine ⟨_, z, ?_⟩
 try dsimp only at hm
 refine wv (.bool z1100) z z (x_pick_t z z z) (wv (.bool z1100) z z z (wl_nil (tn (wp_ret ?_))))
 replace hst := hst.pull1.pull1
 replace hst := at_locks_Table_close (pv := Pt b989 0) (x := o0) hst z
 replace hst := objO_some hst
 obtain rfl := some_inj hm
 refine post_ret (vs := [.bool z1100]) results28 (rvs_cons (rv_tmp z) rvs_nil) ?_
 exact ⟨z, hst.keep1⟩
}
}

theorem law12_told_ref {w0 w : World} {I : HL} {R : SP} {a0 : (Option locks_Table)} {p0 : Value} {a1 : (List api_Hold)} {r1_0 : Value} (f1_0 : Ro ty_api_Hold I r1_0 a1) (hst : St w0 w I [objO at_locks_Table p0 a0] R) {r : (Bool)} (hm : law12_told a0 a1 = some r) :
  Calls prog 26 #[p0, r1_0] w fun e w' => ∃ (I' : HL), e = .returned (.bool r) ∧ I.le I' ∧ St w0 w' I' [objO at_locks_Table p0 a0] R := by {
 unfold law12_told at hm
 refine calls_start (args := [p0, r1_0]) func26 z ntmps26 (Nat.le_of_ble_eq_true z) ?_
 have hI0 := HL.le.refl I
 refine wp_seq (wrl (wv (.bool false) z z z (wl_nil (tn (wp_seq (wrl (wv (p0) z z z ?_)))))))
 obtain ⟨t1049, ht1050, hm⟩ := bind_some hm
 refine wc call13 [p0] z z z ?_
 refine (locks_Table_All_ref hst.to1 ht1050).mono ?_
 rintro _ w1051 ⟨v1054, rfl, hst⟩
 refine ⟨_, z, ?_⟩
 replace hst := hst.of2
 refine wv (v1054) z z z (wl_nil (tn (wp_seq (wp_seq (wrl (wv (p0) z z z ?_))))))
 replace hst := hst.pull1
 obtain ⟨t1056, ht1057, hm⟩ := bind_some hm
 refine wc call27 [p0] z z z ?_
 refine (locks_Table_Len_ref hst.to1 ht1057).mono ?_
 rintro _ w1058 ⟨rfl, hst⟩
 refine ⟨_, z, ?_⟩
 replace hst := hst.of1
 refine wv (r1_0) z z z (wv (.int .i64 ((a1).length : Int)) z z (x_len z underlying22 (ro_sliceV f1_0)) (wv (.bool (t1056 != ((a1).length : Int))) z z z (wv (.bool (t1056 != ((a1).length : Int))) z z z ?_)))
 refine bsplit (t1056 != ((a1).length : Int)) (fun hc1061 => ?_) (fun hc1061 => ?_)
 {
 replace hm := bif_t hc1061 hm
 refine wo hc1061 z z z z z z (wo hc1061 z z z z z z (wo hc1061 z z z z z z (wo hc1061 z z z z z z (wo hc1061 z z z z z z (wv (.bool true) z z (x_pick_t hc1061 z z) (wl_nil (tn ?_)))))))
 refine wp_ift z ?_
 refine wp_seq (wrl (wv (.bool false) z z z (wl_nil (tn (wp_ret (then_r ?_))))))
 obtain rfl := some_inj hm
 refine post_ret (vs := [.bool false]) results26 (rvs_cons (rv_tmp z) rvs_nil) ?_
 exact ⟨_, z, hI0, hst.keep1⟩
}
 {
 replace hm := bif_f hc1061 hm
 refine wv (v1054) ((wanted_eq z z z (cvb hc1061)).trans z) z z (wv (.int .i64 ((t1049).length : Int)) ((wanted_eq z z z (cvb hc1061)).trans z) z (x_len z underlying37 hst.sv1) (wv (r1_0) ((wanted_eq z z z (cvb hc1061)).trans z) z z (wv (.int .i64 ((a1).length : Int)) ((wanted_eq z z z (cvb hc1061)).trans z) z (x_len z underlying22 (ro_sliceV f1_0)) (wv (.bool (((t1049).length : Int) != ((a1).length : Int))) ((wanted_eq z z z (cvb hc1061)).trans z) z z (wv (.bool (((t1049).length : Int) != ((a1).length : Int))) z z (x_pick_f hc1061 z z) (wl_nil (tn ?_)))))))
 refine bsplit (((t1049).length : Int) != ((a1).length : Int)) (fun hc1062 => ?_) (fun hc1062 => ?_)
 {
 replace hm := bif_t hc1062 hm
 refine wp_ift (cvb hc1062) ?_
 refine wp_seq (wrl (wv (.bool false) z z z (wl_nil (tn (wp_ret (then_r ?_))))))
 obtain rfl := some_inj hm
 refine post_ret (vs := [.bool false]) results26 (rvs_cons (rv_tmp z) rvs_nil) ?_
 exact ⟨_, z, hI0, hst.keep1⟩
}
 {
 replace hm := bif_f hc1062 hm
 refine wp_iff (cvb hc1062) ?_
 refine wp_skip (tn ?_)
 obtain ⟨y1314, hm, hx1315⟩ := joinO_some hm
 refine wp_cut (fun a w => ∃ (I1311 : HL) (σ1312 : Nat → Value), (law12_told_j0 a1 a0) () = some r ∧ a = Fr 135 (upd (upd σ1312 0 (p0)) 1 (r1_0)) ∧ I.le I1311 ∧ St w0 w I1311 [objO at_locks_Table p0 a0] R) ?_ ?_
 {
 have hL1316 := HL.le.refl I
 refine wp_seq (wrl (wv (.int .i64 (0:Int)) z z z (wl_nil (tn (wp_block ?_)))))
 obtain ⟨n1225, hm⟩ := loopO_some hm
 refine wp_loop_n (fun n a w => ∃ (I1223 : HL) (z1222 : Int) (σ1224 : Nat → Value), loopN (law12_told_l1 t1049 a0 a1) n z1222 = some y1314 ∧ a = Fr 135 (upd (upd (upd (upd σ1224 0 (p0)) 1 (r1_0)) 5 (v1054)) 6 (.int .i64 z1222)) ∧ I.le I1223 ∧ St w0 w I1223 [objO at_locks_Table p0 a0, ownS ty_api_ID v1054 t1049] R) n1225 ⟨_, (0:Int), _, hm, (fu 0 p0 z (fu 1 r1_0 z (fu 5 v1054 z (fu 6 (.int .i64 (0:Int)) z z)))), (HL.le.refl _), hst⟩ ?_
 rintro n1231 _ w1226 ⟨I1223, z1222, σ1224, hm, rfl, hL1227, hst⟩
 obtain ⟨n1228, y1229, rfl, hm, hx1230⟩ := loopN_some hm
 dsimp only [law12_told_l1] at hm
 replace f1_0 := f1_0.mono (ro_le hL1227)
 replace hI0 := hI0.trans hL1227
 replace hL1316 := hL1316.trans hL1227
 refine wp_seq (wp_seq (wrl (wv (.int .i64 z1222) z z z (wv (v1054) z z z (wv (.int .i64 ((t1049).length : Int)) z z (x_len z underlying37 hst.sv1) (wv (.bool (decide (z1222 < ((t1049).length : Int)))) z z z (wl_nil (tn ?_))))))))
 refine bsplit (decide (z1222 < ((t1049).length : Int))) (fun hc1232 => ?_) (fun hc1232 => ?_)
 {
 replace hm := bif_t hc1232 hm
 refine wp_ift (cvb hc1232) ?_
 refine wp_skip (tn (wp_seq (wp_block (wp_seq (wrl ?_)))))
 refine wv (p0) z z z (wv (v1054) z z z (wv (.int .i64 z1222) z z z ?_))
 obtain ⟨x1233, hx1234, hm⟩ := bind_some hm
 obtain ⟨h1235, h1236, hi1237⟩ := geto_some hx1234
 refine wv (.pointer (some (eAddr v1054 (z1222.toNat * 2 + 0)))) z z (x_index z z underlying37 sizeOf29 hst.sv1 h1235 h1236) (wv (.agg #[U6 x1233.Session, U6 x1233.Seq]) z z (x_loadN (cs := [U6 x1233.Session, U6 x1233.Seq]) z isAgg29 sizeOf29 (hst.olN1 hi1237 0 (by rintro _ rfl; rfl))) ?_)
 obtain ⟨t1238, ht1239, hm⟩ := bind_some hm
 refine wc call14 [p0, .agg #[U6 x1233.Session, U6 x1233.Seq]] z z z ?_
 refine (locks_Table_Get_ref hst.to1 ht1239).mono ?_
 rintro _ w1240 ⟨I1241, v1243, v1246, v1249, v1252, rfl, hI1242, f1245, f1248, f1251, f1254, hst⟩
 refine ⟨_, z, ?_⟩
 replace hst := hst.of1
 replace f1_0 := f1_0.mono (ro_le hI1242)
 replace hI0 := hI0.trans hI1242
 replace hL1316 := hL1316.trans hI1242
 replace hL1227 := hL1227.trans hI1242
 refine wv (.tuple #[.agg #[U6 t1238.1.ID.Session, U6 t1238.1.ID.Seq, U6 t1238.1.Epoch, v1243, v1246, v1249, v1252], .bool t1238.2]) z z z (wv (.agg #[U6 t1238.1.ID.Session, U6 t1238.1.ID.Seq, U6 t1238.1.Epoch, v1243, v1246, v1249, v1252]) z z z (wv (.bool t1238.2) z z z ?_))
 obtain ⟨b1259, w1260, ew1261, eb1262, hst⟩ := hst.box [Zu, Zu, Zu, Zs, Zs, Zs, Zs] 34
 refine wl_run (v := Pt b1259 0) (w' := w1260) z z (x_al (by kernel_rfl) ew1261 eb1262) ?_
 obtain ⟨w1264, hr1265, hst⟩ := hst.bx [U6 t1238.1.ID.Session, U6 t1238.1.ID.Seq, U6 t1238.1.Epoch, v1243, v1246, v1249, v1252] sizeOf34 z (oC z (oC z (oC z (oC (one_of_sliceV (ro_sliceV f1245)) (oC (one_of_sliceV (ro_sliceV f1248)) (oC (one_of_sliceV (ro_sliceV f1251)) (oC (one_of_sliceV (ro_sliceV f1254)) oN))))))) (by kernel_rfl)
 refine wl_unit z z (x_unit hr1265) ?_
 refine wv (.bool t1238.2) z z z (wl_nil (tn (wp_seq (wrl (wv (r1_0) z z z (wv (v1054) z z z (wv (.int .i64 z1222) z z z (wv (.pointer (some (eAddr v1054 (z1222.toNat * 2 + 0)))) z z (x_index z z underlying37 sizeOf29 hst.sv2 h1235 h1236) (wv (.agg #[U6 x1233.Session, U6 x1233.Seq]) z z (x_loadN (cs := [U6 x1233.Session, U6 x1233.Seq]) z isAgg29 sizeOf29 (hst.olN2 hi1237 0 (by rintro _ rfl; rfl))) ?_)))))))))
 obtain ⟨t1266, ht1267, hm⟩ := bind_some hm
 refine wc call22 [r1_0, .agg #[U6 x1233.Session, U6 x1233.Seq]] z z z ?_
 refine (ref11_Held_ref f1_0 hst.to0 ht1267).mono ?_
 rintro _ w1268 ⟨I1269, v1271, v1274, v1277, v1280, rfl, hI1270, f1273, f1276, f1279, f1282, hst⟩
 refine ⟨_, z, ?_⟩
 replace hst := hst.of0
 replace f1_0 := f1_0.mono (ro_le hI1270)
 replace f1245 := f1245.mono (ro_le hI1270)
 replace f1248 := f1248.mono (ro_le hI1270)
 replace f1251 := f1251.mono (ro_le hI1270)
 replace f1254 := f1254.mono (ro_le hI1270)
 replace hI0 := hI0.trans hI1270
 replace hL1316 := hL1316.trans hI1270
 replace hL1227 := hL1227.trans hI1270
 refine wv (.tuple #[.agg #[U6 t1266.1.ID.Session, U6 t1266.1.ID.Seq, U6 t1266.1.Epoch, v1271, v1274, v1277, v1280], .bool t1266.2]) z z z (wv (.agg #[U6 t1266.1.ID.Session, U6 t1266.1.ID.Seq, U6 t1266.1.Epoch, v1271, v1274, v1277, v1280]) z z z (wv (.bool t1266.2) z z z ?_))
 obtain ⟨b1287, w1288, ew1289, eb1290, hst⟩ := hst.box [Zu, Zu, Zu, Zs, Zs, Zs, Zs] 34
 refine wl_run (v := Pt b1287 0) (w' := w1288) z z (x_al (by kernel_rfl) ew1289 eb1290) ?_
 obtain ⟨w1292, hr1293, hst⟩ := hst.bx [U6 t1266.1.ID.Session, U6 t1266.1.ID.Seq, U6 t1266.1.Epoch, v1271, v1274, v1277, v1280] sizeOf34 z (oC z (oC z (oC z (oC (one_of_sliceV (ro_sliceV f1273)) (oC (one_of_sliceV (ro_sliceV f1276)) (oC (one_of_sliceV (ro_sliceV f1279)) (oC (one_of_sliceV (ro_sliceV f1282)) oN))))))) (by kernel_rfl)
 refine wl_unit z z (x_unit hr1293) ?_
 refine wv (.bool t1266.2) z z z (wl_nil (tn (wp_seq ?_)))
 refine wp_region_St hst 58 [0, 1, 2, 3, 4, 5, 6, 7, 8, 9, 10, 11, 12, 13, 14, 15, 16, 17, 18, 19, 20, 21, 22, 23, 24, 25, 26, 27, 28, 29, 30, 31, 32, 33, 34, 35, 36, 37, 38, 39, 40, 41, 42, 43, 44, 45, 46, 47, 48, 49, 50, 51, 52, 53, 54, 55, 56, 57] [0, 1, 3, 7, 15, 31, 63, 127, 127, 511, 1023, 2047, 4095, 8191, 16383, 32767, 65535, 65535, 196607, 524287, 1048575, 2097151, 65535, 65535, 12648447, 29425663, 62980095, 134217727, 268435455, 536870911, 536870911, 1610612735, 4294967295, 8589934591, 17179869183, 536870911, 536870911, 103616086015, 241055039487, 515932946431, 1099511627775, 2199023255551, 4398046511103, 4398046511103, 13194139533311, 35184372088831, 70368744177663, 140737488355327, 4398046511103, 4398046511103, 848822976643071, 1974722883485695, 4226522697170943, 9007199254740991, 18014398509481983, 36028797018963967, 72057594037927935, 144115188075855871] [] z (by kernel_rfl) (by kernel_rfl) Try.mixed (by kernel_rfl) ?_
 refine wsr (.bool t1238.2) 0 z z z (by kernel_rfl) (fun w hst => z) (wsr (.bool (!t1238.2)) 1 z z z (by kernel_rfl) (fun w hst => z) (wsr (.bool (!t1238.2)) 2 z z z (by kernel_rfl) (fun w hst => z) ?_))
 refine bsplit (!t1238.2) (fun hc1294 => ?_) (fun hc1294 => ?_)
 {
 replace hm := bif_t hc1294 hm
 refine ws_q (v := undef) 3 [4, 5, 6, 7, 8, 9, 10, 11, 12, 13, 14, 15, 16, 17, 18, 19, 20, 21, 22, 23, 24, 25, 26, 27, 28, 29, 30, 31, 32, 33, 34, 35, 36, 37, 38, 39, 40, 41, 42, 43, 44, 45, 46, 47, 48, 49, 50, 51, 52, 53, 54, 55, 56, 57] (by kernel_rfl) z z (yi_off ((wanted_eq z z z (cvb hc1294)).trans z)) (ws_q (v := undef) 4 [5, 6, 7, 8, 9, 10, 11, 12, 13, 14, 15, 16, 17, 18, 19, 20, 21, 22, 23, 24, 25, 26, 27, 28, 29, 30, 31, 32, 33, 34, 35, 36, 37, 38, 39, 40, 41, 42, 43, 44, 45, 46, 47, 48, 49, 50, 51, 52, 53, 54, 55, 56, 57] (by kernel_rfl) z z (yi_off ((wanted_eq z z z (cvb hc1294)).trans z)) (wsr (.bool true) 5 z z z (by kernel_rfl) (fun w hst => x_pick_t hc1294 z z) (wsr (.bool true) 6 z z z (by kernel_rfl) (fun w hst => z) (ws_q (v := undef) 7 [8, 9, 10, 11, 12, 13, 14, 15, 16, 17, 18, 19, 20, 21, 22, 23, 24, 25, 26, 27, 28, 29, 30, 31, 32, 33, 34, 35, 36, 37, 38, 39, 40, 41, 42, 43, 44, 45, 46, 47, 48, 49, 50, 51, 52, 53, 54, 55, 56, 57] (by kernel_rfl) z z (yi_off ((wanted_eq z z z z).trans z)) (ws_q (v := undef) 8 [9, 10, 11, 12, 13, 14, 15, 16, 17, 18, 19, 20, 21, 22, 23, 24, 25, 26, 27, 28, 29, 30, 31, 32, 33, 34, 35, 36, 37, 38, 39, 40, 41, 42, 43, 44, 45, 46, 47, 48, 49, 50, 51, 52, 53, 54, 55, 56, 57] (by kernel_rfl) z z (yi_off ((wanted_eq z z z z).trans z)) (ws_q (v := undef) 9 [10, 11, 12, 13, 14, 15, 16, 17, 18, 19, 20, 21, 22, 23, 24, 25, 26, 27, 28, 29, 30, 31, 32, 33, 34, 35, 36, 37, 38, 39, 40, 41, 42, 43, 44, 45, 46, 47, 48, 49, 50, 51, 52, 53, 54, 55, 56, 57] (by kernel_rfl) z z (yi_off ((wanted_eq z z z z).trans z)) (ws_q (v := undef) 10 [11, 12, 13, 14, 15, 16, 17, 18, 19, 20, 21, 22, 23, 24, 25, 26, 27, 28, 29, 30, 31, 32, 33, 34, 35, 36, 37, 38, 39, 40, 41, 42, 43, 44, 45, 46, 47, 48, 49, 50, 51, 52, 53, 54, 55, 56, 57] (by kernel_rfl) z z (yi_off ((wanted_eq z z z z).trans z)) (wsr (.bool true) 11 z z z (by kernel_rfl) (fun w hst => x_pick_t z z z) (wsr (.bool true) 12 z z z (by kernel_rfl) (fun w hst => z) (ws_q (v := undef) 13 [14, 15, 16, 17, 18, 19, 20, 21, 22, 23, 24, 25, 26, 27, 28, 29, 30, 31, 32, 33, 34, 35, 36, 37, 38, 39, 40, 41, 42, 43, 44, 45, 46, 47, 48, 49, 50, 51, 52, 53, 54, 55, 56, 57] (by kernel_rfl) z z (yi_off ((wanted_eq z z z z).trans z)) (ws_q (v := undef) 14 [15, 16, 17, 18, 19, 20, 21, 22, 23, 24, 25, 26, 27, 28, 29, 30, 31, 32, 33, 34, 35, 36, 37, 38, 39, 40, 41, 42, 43, 44, 45, 46, 47, 48, 49, 50, 51, 52, 53, 54, 55, 56, 57] (by kernel_rfl) z z (yi_off ((wanted_eq z z z z).trans z)) (ws_q (v := undef) 15 [16, 17, 18, 19, 20, 21, 22, 23, 24, 25, 26, 27, 28, 29, 30, 31, 32, 33, 34, 35, 36, 37, 38, 39, 40, 41, 42, 43, 44, 45, 46, 47, 48, 49, 50, 51, 52, 53, 54, 55, 56, 57] (by kernel_rfl) z z (yi_off ((wanted_eq z z z z).trans z)) ?_))))))))))))
 refine ws_q (v := undef) 16 [17, 18, 19, 20, 21, 22, 23, 24, 25, 26, 27, 28, 29, 30, 31, 32, 33, 34, 35, 36, 37, 38, 39, 40, 41, 42, 43, 44, 45, 46, 47, 48, 49, 50, 51, 52, 53, 54, 55, 56, 57] (by kernel_rfl) z z (yi_off (wanted_undef z z z z)) (ws_q (v := undef) 17 [18, 19, 20, 21, 22, 23, 24, 25, 26, 27, 28, 29, 30, 31, 32, 33, 34, 35, 36, 37, 38, 39, 40, 41, 42, 43, 44, 45, 46, 47, 48, 49, 50, 51, 52, 53, 54, 55, 56, 57] (by kernel_rfl) z z (yi_off (wanted_undef z z z z)) (ws_q (v := undef) 18 [19, 20, 21, 22, 23, 24, 25, 26, 27, 28, 29, 30, 31, 32, 33, 34, 35, 36, 37, 38, 39, 40, 41, 42, 43, 44, 45, 46, 47, 48, 49, 50, 51, 52, 53, 54, 55, 56, 57] (by kernel_rfl) z z (yi_off (wanted_undef z z z z)) (ws_q (v := undef) 19 [20, 21, 22, 23, 24, 25, 26, 27, 28, 29, 30, 31, 32, 33, 34, 35, 36, 37, 38, 39, 40, 41, 42, 43, 44, 45, 46, 47, 48, 49, 50, 51, 52, 53, 54, 55, 56, 57] (by kernel_rfl) z z (yi_off (wanted_undef z z z z)) (ws_q (v := undef) 20 [21, 22, 23, 24, 25, 26, 27, 28, 29, 30, 31, 32, 33, 34, 35, 36, 37, 38, 39, 40, 41, 42, 43, 44, 45, 46, 47, 48, 49, 50, 51, 52, 53, 54, 55, 56, 57] (by kernel_rfl) z z (yi_off (wanted_undef z z z z)) (ws_q (v := undef) 21 [22, 23, 24, 25, 26, 27, 28, 29, 30, 31, 32, 33, 34, 35, 36, 37, 38, 39, 40, 41, 42, 43, 44, 45, 46, 47, 48, 49, 50, 51, 52, 53, 54, 55, 56, 57] (by kernel_rfl) z z (yi_off (wanted_undef z z z z)) (ws_q (v := undef) 22 [23, 24, 25, 26, 27, 28, 29, 30, 31, 32, 33, 34, 35, 36, 37, 38, 39, 40, 41, 42, 43, 44, 45, 46, 47, 48, 49, 50, 51, 52, 53, 54, 55, 56, 57] (by kernel_rfl) z z (yi_off (wanted_undef z z z z)) (ws_q (v := undef) 23 [24, 25, 26, 27, 28, 29, 30, 31, 32, 33, 34, 35, 36, 37, 38, 39, 40, 41, 42, 43, 44, 45, 46, 47, 48, 49, 50, 51, 52, 53, 54, 55, 56, 57] (by kernel_rfl) z z (yi_off (wanted_undef z z z z)) (ws_q (v := undef) 24 [25, 26, 27, 28, 29, 30, 31, 32, 33, 34, 35, 36, 37, 38, 39, 40, 41, 42, 43, 44, 45, 46, 47, 48, 49, 50, 51, 52, 53, 54, 55, 56, 57] (by kernel_rfl) z z (yi_off (wanted_undef z z z z)) (ws_q (v := undef) 25 [26, 27, 28, 29, 30, 31, 32, 33, 34, 35, 36, 37, 38, 39, 40, 41, 42, 43, 44, 45, 46, 47, 48, 49, 50, 51, 52, 53, 54, 55, 56, 57] (by kernel_rfl) z z (yi_off (wanted_undef z z z z)) (ws_q (v := undef) 26 [27, 28, 29, 30, 31, 32, 33, 34, 35, 36, 37, 38, 39, 40, 41, 42, 43, 44, 45, 46, 47, 48, 49, 50, 51, 52, 53, 54, 55, 56, 57] (by kernel_rfl) z z (yi_off (wanted_undef z z z z)) (ws_q (v := undef) 27 [28, 29, 30, 31, 32, 33, 34, 35, 36, 37, 38, 39, 40, 41, 42, 43, 44, 45, 46, 47, 48, 49, 50, 51, 52, 53, 54, 55, 56, 57] (by kernel_rfl) z z (yi_off (wanted_undef z z z z)) (ws_q (v := undef) 28 [29, 30, 31, 32, 33, 34, 35, 36, 37, 38, 39, 40, 41, 42, 43, 44, 45, 46, 47, 48, 49, 50, 51, 52, 53, 54, 55, 56, 57] (by kernel_rfl) z z (yi_off (wanted_undef z z z z)) ?_))))))))))))
 refine ws_q (v := undef) 29 [30, 31, 32, 33, 34, 35, 36, 37, 38, 39, 40, 41, 42, 43, 44, 45, 46, 47, 48, 49, 50, 51, 52, 53, 54, 55, 56, 57] (by kernel_rfl) z z (yi_off (wanted_undef z z z z)) (ws_q (v := undef) 30 [31, 32, 33, 34, 35, 36, 37, 38, 39, 40, 41, 42, 43, 44, 45, 46, 47, 48, 49, 50, 51, 52, 53, 54, 55, 56, 57] (by kernel_rfl) z z (yi_off (wanted_undef z z z z)) (ws_q (v := undef) 31 [32, 33, 34, 35, 36, 37, 38, 39, 40, 41, 42, 43, 44, 45, 46, 47, 48, 49, 50, 51, 52, 53, 54, 55, 56, 57] (by kernel_rfl) z z (yi_off (wanted_undef z z z z)) (ws_q (v := undef) 32 [33, 34, 35, 36, 37, 38, 39, 40, 41, 42, 43, 44, 45, 46, 47, 48, 49, 50, 51, 52, 53, 54, 55, 56, 57] (by kernel_rfl) z z (yi_off (wanted_undef z z z z)) (ws_q (v := undef) 33 [34, 35, 36, 37, 38, 39, 40, 41, 42, 43, 44, 45, 46, 47, 48, 49, 50, 51, 52, 53, 54, 55, 56, 57] (by kernel_rfl) z z (yi_off (wanted_undef z z z z)) (ws_q (v := undef) 34 [35, 36, 37, 38, 39, 40, 41, 42, 43, 44, 45, 46, 47, 48, 49, 50, 51, 52, 53, 54, 55, 56, 57] (by kernel_rfl) z z (yi_off (wanted_undef z z z z)) (ws_q (v := undef) 35 [36, 37, 38, 39, 40, 41, 42, 43, 44, 45, 46, 47, 48, 49, 50, 51, 52, 53, 54, 55, 56, 57] (by kernel_rfl) z z (yi_off (wanted_undef z z z z)) (ws_q (v := undef) 36 [37, 38, 39, 40, 41, 42, 43, 44, 45, 46, 47, 48, 49, 50, 51, 52, 53, 54, 55, 56, 57] (by kernel_rfl) z z (yi_off (wanted_undef z z z z)) (ws_q (v := undef) 37 [38, 39, 40, 41, 42, 43, 44, 45, 46, 47, 48, 49, 50, 51, 52, 53, 54, 55, 56, 57] (by kernel_rfl) z z (yi_off (wanted_undef z z z z)) (ws_q (v := undef) 38 [39, 40, 41, 42, 43, 44, 45, 46, 47, 48, 49, 50, 51, 52, 53, 54, 55, 56, 57] (by kernel_rfl) z z (yi_off (wanted_undef z z z z)) (ws_q (v := undef) 39 [40, 41, 42, 43, 44, 45, 46, 47, 48, 49, 50, 51, 52, 53, 54, 55, 56, 57] (by kernel_rfl) z z (yi_off (wanted_undef z z z z)) (ws_q (v := undef) 40 [41, 42, 43, 44, 45, 46, 47, 48, 49, 50, 51, 52, 53, 54, 55, 56, 57] (by kernel_rfl) z z (yi_off (wanted_undef z z z z)) (ws_q (v := undef) 41 [42, 43, 44, 45, 46, 47, 48, 49, 50, 51, 52, 53, 54, 55, 56, 57] (by kernel_rfl) z z (yi_off (wanted_undef z z z z)) ?_))))))))))))
 refine ws_q (v := undef) 42 [43, 44, 45, 46, 47, 48, 49, 50, 51, 52, 53, 54, 55, 56, 57] (by kernel_rfl) z z (yi_off (wanted_undef z z z z)) (ws_q (v := undef) 43 [44, 45, 46, 47, 48, 49, 50, 51, 52, 53, 54, 55, 56, 57] (by kernel_rfl) z z (yi_off (wanted_undef z z z z)) (ws_q (v := undef) 44 [45, 46, 47, 48, 49, 50, 51, 52, 53, 54, 55, 56, 57] (by kernel_rfl) z z (yi_off (wanted_undef z z z z)) (ws_q (v := undef) 45 [46, 47, 48, 49, 50, 51, 52, 53, 54, 55, 56, 57] (by kernel_rfl) z z (yi_off (wanted_undef z z z z)) (ws_q (v := undef) 46 [47, 48, 49, 50, 51, 52, 53, 54, 55, 56, 57] (by kernel_rfl) z z (yi_off (wanted_undef z z z z)) (ws_q (v := undef) 47 [48, 49, 50, 51, 52, 53, 54, 55, 56, 57] (by kernel_rfl) z z (yi_off (wanted_undef z z z z)) (ws_q (v := undef) 48 [49, 50, 51, 52, 53, 54, 55, 56, 57] (by kernel_rfl) z z (yi_off (wanted_undef z z z z)) (ws_q (v := undef) 49 [50, 51, 52, 53, 54, 55, 56, 57] (by kernel_rfl) z z (yi_off (wanted_undef z z z z)) (ws_q (v := undef) 50 [51, 52, 53, 54, 55, 56, 57] (by kernel_rfl) z z (yi_off (wanted_undef z z z z)) (ws_q (v := undef) 51 [52, 53, 54, 55, 56, 57] (by kernel_rfl) z z (yi_off (wanted_undef z z z z)) (ws_q (v := undef) 52 [53, 54, 55, 56, 57] (by kernel_rfl) z z (yi_off (wanted_undef z z z z)) (ws_q (v := undef) 53 [54, 55, 56, 57] (by kernel_rfl) z z (yi_off (wanted_undef z z z z)) (ws_q (v := undef) 54 [55, 56, 57] (by kernel_rfl) z z (yi_off (wanted_undef z z z z)) ?_))))))))))))
 refine ws_q (v := undef) 55 [56, 57] (by kernel_rfl) z z (yi_off (wanted_undef z z z z)) (ws_q (v := undef) 56 [57] (by kernel_rfl) z z (yi_off ((wanted_eq z z z z).trans z)) (wsr (.bool true) 57 z z z (by kernel_rfl) (fun w hst => x_pick_t z z z) ?_))
 refine ws_nil ?_
 intro w hst
 refine tn ?_
 refine wp_ift z ?_
 refine wp_seq (wrl (wv (.bool false) z z z (wl_nil (tn (wp_ret (blk_r (then_r (then_r ?_))))))))
 replace hm := inr_up hm hx1230
 refine blk_r (then_r ?_)
 replace hm := inr_up hm hx1315
 obtain rfl := some_inj hm
 refine post_ret (vs := [.bool false]) results26 (rvs_cons (rv_tmp z) rvs_nil) ?_
 replace hst := hst.pull2
 exact ⟨_, z, hI0, hst.keep1⟩
}
 {
 replace hm := bif_f hc1294 hm
 refine ws_q (v := .bool t1266.2) 3 [4, 5, 6, 7, 8, 9, 10, 11, 12, 13, 14, 15, 16, 17, 18, 19, 20, 21, 22, 23, 24, 25, 26, 27, 28, 29, 30, 31, 32, 33, 34, 35, 36, 37, 38, 39, 40, 41, 42, 43, 44, 45, 46, 47, 48, 49, 50, 51, 52, 53, 54, 55, 56, 57] (by kernel_rfl) z z (yi_run ((wanted_eq z z z (cvb hc1294)).trans z) (fun w hst => z)) (ws_q (v := .bool (!t1266.2)) 4 [5, 6, 7, 8, 9, 10, 11, 12, 13, 14, 15, 16, 17, 18, 19, 20, 21, 22, 23, 24, 25, 26, 27, 28, 29, 30, 31, 32, 33, 34, 35, 36, 37, 38, 39, 40, 41, 42, 43, 44, 45, 46, 47, 48, 49, 50, 51, 52, 53, 54, 55, 56, 57] (by kernel_rfl) z z (yi_run ((wanted_eq z z z (cvb hc1294)).trans z) (fun w hst => z)) (wsr (.bool (!t1266.2)) 5 z z z (by kernel_rfl) (fun w hst => x_pick_f hc1294 z z) (wsr (.bool (!t1266.2)) 6 z z z (by kernel_rfl) (fun w hst => z) ?_)))
 refine bsplit (!t1266.2) (fun hc1295 => ?_) (fun hc1295 => ?_)
 {
 replace hm := bif_t hc1295 hm
 refine ws_q (v := undef) 7 [8, 9, 10, 11, 12, 13, 14, 15, 16, 17, 18, 19, 20, 21, 22, 23, 24, 25, 26, 27, 28, 29, 30, 31, 32, 33, 34, 35, 36, 37, 38, 39, 40, 41, 42, 43, 44, 45, 46, 47, 48, 49, 50, 51, 52, 53, 54, 55, 56, 57] (by kernel_rfl) z z (yi_off ((wanted_eq z z z (cvb hc1295)).trans z)) (ws_q (v := undef) 8 [9, 10, 11, 12, 13, 14, 15, 16, 17, 18, 19, 20, 21, 22, 23, 24, 25, 26, 27, 28, 29, 30, 31, 32, 33, 34, 35, 36, 37, 38, 39, 40, 41, 42, 43, 44, 45, 46, 47, 48, 49, 50, 51, 52, 53, 54, 55, 56, 57] (by kernel_rfl) z z (yi_off ((wanted_eq z z z (cvb hc1295)).trans z)) (ws_q (v := undef) 9 [10, 11, 12, 13, 14, 15, 16, 17, 18, 19, 20, 21, 22, 23, 24, 25, 26, 27, 28, 29, 30, 31, 32, 33, 34, 35, 36, 37, 38, 39, 40, 41, 42, 43, 44, 45, 46, 47, 48, 49, 50, 51, 52, 53, 54, 55, 56, 57] (by kernel_rfl) z z (yi_off ((wanted_eq z z z (cvb hc1295)).trans z)) (ws_q (v := undef) 10 [11, 12, 13, 14, 15, 16, 17, 18, 19, 20, 21, 22, 23, 24, 25, 26, 27, 28, 29, 30, 31, 32, 33, 34, 35, 36, 37, 38, 39, 40, 41, 42, 43, 44, 45, 46, 47, 48, 49, 50, 51, 52, 53, 54, 55, 56, 57] (by kernel_rfl) z z (yi_off ((wanted_eq z z z (cvb hc1295)).trans z)) (wsr (.bool true) 11 z z z (by kernel_rfl) (fun w hst => x_pick_t hc1295 z z) (wsr (.bool true) 12 z z z (by kernel_rfl) (fun w hst => z) (ws_q (v := undef) 13 [14, 15, 16, 17, 18, 19, 20, 21, 22, 23, 24, 25, 26, 27, 28, 29, 30, 31, 32, 33, 34, 35, 36, 37, 38, 39, 40, 41, 42, 43, 44, 45, 46, 47, 48, 49, 50, 51, 52, 53, 54, 55, 56, 57] (by kernel_rfl) z z (yi_off ((wanted_eq z z z z).trans z)) (ws_q (v := undef) 14 [15, 16, 17, 18, 19, 20, 21, 22, 23, 24, 25, 26, 27, 28, 29, 30, 31, 32, 33, 34, 35, 36, 37, 38, 39, 40, 41, 42, 43, 44, 45, 46, 47, 48, 49, 50, 51, 52, 53, 54, 55, 56, 57] (by kernel_rfl) z z (yi_off ((wanted_eq z z z z).trans z)) (ws_q (v := undef) 15 [16, 17, 18, 19, 20, 21, 22, 23, 24, 25, 26, 27, 28, 29, 30, 31, 32, 33, 34, 35, 36, 37, 38, 39, 40, 41, 42, 43, 44, 45, 46, 47, 48, 49, 50, 51, 52, 53, 54, 55, 56, 57] (by kernel_rfl) z z (yi_off ((wanted_eq z z z z).trans z)) (ws_q (v := undef) 16 [17, 18, 19, 20, 21, 22, 23, 24, 25, 26, 27, 28, 29, 30, 31, 32, 33, 34, 35, 36, 37, 38, 39, 40, 41, 42, 43, 44, 45, 46, 47, 48, 49, 50, 51, 52, 53, 54, 55, 56, 57] (by kernel_rfl) z z (yi_off (wanted_undef z z z z)) (ws_q (v := undef) 17 [18, 19, 20, 21, 22, 23, 24, 25, 26, 27, 28, 29, 30, 31, 32, 33, 34, 35, 36, 37, 38, 39, 40, 41, 42, 43, 44, 45, 46, 47, 48, 49, 50, 51, 52, 53, 54, 55, 56, 57] (by kernel_rfl) z z (yi_off (wanted_undef z z z z)) (ws_q (v := undef) 18 [19, 20, 21, 22, 23, 24, 25, 26, 27, 28, 29, 30, 31, 32, 33, 34, 35, 36, 37, 38, 39, 40, 41, 42, 43, 44, 45, 46, 47, 48, 49, 50, 51, 52, 53, 54, 55, 56, 57] (by kernel_rfl) z z (yi_off (wanted_undef z z z z)) (ws_q (v := undef) 19 [20, 21, 22, 23, 24, 25, 26, 27, 28, 29, 30, 31, 32, 33, 34, 35, 36, 37, 38, 39, 40, 41, 42, 43, 44, 45, 46, 47, 48, 49, 50, 51, 52, 53, 54, 55, 56, 57] (by kernel_rfl) z z (yi_off (wanted_undef z z z z)) ?_))))))))))))
 refine ws_q (v := undef) 20 [21, 22, 23, 24, 25, 26, 27, 28, 29, 30, 31, 32, 33, 34, 35, 36, 37, 38, 39, 40, 41, 42, 43, 44, 45, 46, 47, 48, 49, 50, 51, 52, 53, 54, 55, 56, 57] (by kernel_rfl) z z (yi_off (wanted_undef z z z z)) (ws_q (v := undef) 21 [22, 23, 24, 25, 26, 27, 28, 29, 30, 31, 32, 33, 34, 35, 36, 37, 38, 39, 40, 41, 42, 43, 44, 45, 46, 47, 48, 49, 50, 51, 52, 53, 54, 55, 56, 57] (by kernel_rfl) z z (yi_off (wanted_undef z z z z)) (ws_q (v := undef) 22 [23, 24, 25, 26, 27, 28, 29, 30, 31, 32, 33, 34, 35, 36, 37, 38, 39, 40, 41, 42, 43, 44, 45, 46, 47, 48, 49, 50, 51, 52, 53, 54, 55, 56, 57] (by kernel_rfl) z z (yi_off (wanted_undef z z z z)) (ws_q (v := undef) 23 [24, 25, 26, 27, 28, 29, 30, 31, 32, 33, 34, 35, 36, 37, 38, 39, 40, 41, 42, 43, 44, 45, 46, 47, 48, 49, 50, 51, 52, 53, 54, 55, 56, 57] (by kernel_rfl) z z (yi_off (wanted_undef z z z z)) (ws_q (v := undef) 24 [25, 26, 27, 28, 29, 30, 31, 32, 33, 34, 35, 36, 37, 38, 39, 40, 41, 42, 43, 44, 45, 46, 47, 48, 49, 50, 51, 52, 53, 54, 55, 56, 57] (by kernel_rfl) z z (yi_off (wanted_undef z z z z)) (ws_q (v := undef) 25 [26, 27, 28, 29, 30, 31, 32, 33, 34, 35, 36, 37, 38, 39, 40, 41, 42, 43, 44, 45, 46, 47, 48, 49, 50, 51, 52, 53, 54, 55, 56, 57] (by kernel_rfl) z z (yi_off (wanted_undef z z z z)) (ws_q (v := undef) 26 [27, 28, 29, 30, 31, 32, 33, 34, 35, 36, 37, 38, 39, 40, 41, 42, 43, 44, 45, 46, 47, 48, 49, 50, 51, 52, 53, 54, 55, 56, 57] (by kernel_rfl) z z (yi_off (wanted_undef z z z z)) (ws_q (v := undef) 27 [28, 29, 30, 31, 32, 33, 34, 35, 36, 37, 38, 39, 40, 41, 42, 43, 44, 45, 46, 47, 48, 49, 50, 51, 52, 53, 54, 55, 56, 57] (by kernel_rfl) z z (yi_off (wanted_undef z z z z)) (ws_q (v := undef) 28 [29, 30, 31, 32, 33, 34, 35, 36, 37, 38, 39, 40, 41, 42, 43, 44, 45, 46, 47, 48, 49, 50, 51, 52, 53, 54, 55, 56, 57] (by kernel_rfl) z z (yi_off (wanted_undef z z z z)) (ws_q (v := undef) 29 [30, 31, 32, 33, 34, 35, 36, 37, 38, 39, 40, 41, 42, 43, 44, 45, 46, 47, 48, 49, 50, 51, 52, 53, 54, 55, 56, 57] (by kernel_rfl) z z (yi_off (wanted_undef z z z z)) (ws_q (v := undef) 30 [31, 32, 33, 34, 35, 36, 37, 38, 39, 40, 41, 42, 43, 44, 45, 46, 47, 48, 49, 50, 51, 52, 53, 54, 55, 56, 57] (by kernel_rfl) z z (yi_off (wanted_undef z z z z)) (ws_q (v := undef) 31 [32, 33, 34, 35, 36, 37, 38, 39, 40, 41, 42, 43, 44, 45, 46, 47, 48, 49, 50, 51, 52, 53, 54, 55, 56, 57] (by kernel_rfl) z z (yi_off (wanted_undef z z z z)) (ws_q (v := undef) 32 [33, 34, 35, 36, 37, 38, 39, 40, 41, 42, 43, 44, 45, 46, 47, 48, 49, 50, 51, 52, 53, 54, 55, 56, 57] (by kernel_rfl) z z (yi_off (wanted_undef z z z z)) ?_))))))))))))
 refine ws_q (v := undef) 33 [34, 35, 36, 37, 38, 39, 40, 41, 42, 43, 44, 45, 46, 47, 48, 49, 50, 51, 52, 53, 54, 55, 56, 57] (by kernel_rfl) z z (yi_off (wanted_undef z z z z)) (ws_q (v := undef) 34 [35, 36, 37, 38, 39, 40, 41, 42, 43, 44, 45, 46, 47, 48, 49, 50, 51, 52, 53, 54, 55, 56, 57] (by kernel_rfl) z z (yi_off (wanted_undef z z z z)) (ws_q (v := undef) 35 [36, 37, 38, 39, 40, 41, 42, 43, 44, 45, 46, 47, 48, 49, 50, 51, 52, 53, 54, 55, 56, 57] (by kernel_rfl) z z (yi_off (wanted_undef z z z z)) (ws_q (v := undef) 36 [37, 38, 39, 40, 41, 42, 43, 44, 45, 46, 47, 48, 49, 50, 51, 52, 53, 54, 55, 56, 57] (by kernel_rfl) z z (yi_off (wanted_undef z z z z)) (ws_q (v := undef) 37 [38, 39, 40, 41, 42, 43, 44, 45, 46, 47, 48, 49, 50, 51, 52, 53, 54, 55, 56, 57] (by kernel_rfl) z z (yi_off (wanted_undef z z z z)) (ws_q (v := undef) 38 [39, 40, 41, 42, 43, 44, 45, 46, 47, 48, 49, 50, 51, 52, 53, 54, 55, 56, 57] (by kernel_rfl) z z (yi_off (wanted_undef z z z z)) (ws_q (v := undef) 39 [40, 41, 42, 43, 44, 45, 46, 47, 48, 49, 50, 51, 52, 53, 54, 55, 56, 57] (by kernel_rfl) z z (yi_off (wanted_undef z z z z)) (ws_q (v := undef) 40 [41, 42, 43, 44, 45, 46, 47, 48, 49, 50, 51, 52, 53, 54, 55, 56, 57] (by kernel_rfl) z z (yi_off (wanted_undef z z z z)) (ws_q (v := undef) 41 [42, 43, 44, 45, 46, 47, 48, 49, 50, 51, 52, 53, 54, 55, 56, 57] (by kernel_rfl) z z (yi_off (wanted_undef z z z z)) (ws_q (v := undef) 42 [43, 44, 45, 46, 47, 48, 49, 50, 51, 52, 53, 54, 55, 56, 57] (by kernel_rfl) z z (yi_off (wanted_undef z z z z)) (ws_q (v := undef) 43 [44, 45, 46, 47, 48, 49, 50, 51, 52, 53, 54, 55, 56, 57] (by kernel_rfl) z z (yi_off (wanted_undef z z z z)) (ws_q (v := undef) 44 [45, 46, 47, 48, 49, 50, 51, 52, 53, 54, 55, 56, 57] (by kernel_rfl) z z (yi_off (wanted_undef z z z z)) (ws_q (v := undef) 45 [46, 47, 48, 49, 50, 51, 52, 53, 54, 55, 56, 57] (by kernel_rfl) z z (yi_off (wanted_undef z z z z)) ?_))))))))))))
 refine ws_q (v := undef) 46 [47, 48, 49, 50, 51, 52, 53, 54, 55, 56, 57] (by kernel_rfl) z z (yi_off (wanted_undef z z z z)) (ws_q (v := undef) 47 [48, 49, 50, 51, 52, 53, 54, 55, 56, 57] (by kernel_rfl) z z (yi_off (wanted_undef z z z z)) (ws_q (v := undef) 48 [49, 50, 51, 52, 53, 54, 55, 56, 57] (by kernel_rfl) z z (yi_off (wanted_undef z z z z)) (ws_q (v := undef) 49 [50, 51, 52, 53, 54, 55, 56, 57] (by kernel_rfl) z z (yi_off (wanted_undef z z z z)) (ws_q (v := undef) 50 [51, 52, 53, 54, 55, 56, 57] (by kernel_rfl) z z (yi_off (wanted_undef z z z z)) (ws_q (v := undef) 51 [52, 53, 54, 55, 56, 57] (by kernel_rfl) z z (yi_off (wanted_undef z z z z)) (ws_q (v := undef) 52 [53, 54, 55, 56, 57] (by kernel_rfl) z z (yi_off (wanted_undef z z z z)) (ws_q (v := undef) 53 [54, 55, 56, 57] (by kernel_rfl) z z (yi_off (wanted_undef z z z z)) (ws_q (v := undef) 54 [55, 56, 57] (by kernel_rfl) z z (yi_off (wanted_undef z z z z)) (ws_q (v := undef) 55 [56, 57] (by kernel_rfl) z z (yi_off (wanted_undef z z z z)) (ws_q (v := undef) 56 [57] (by kernel_rfl) z z (yi_off ((wanted_eq z z z z).trans z)) (wsr (.bool true) 57 z z z (by kernel_rfl) (fun w hst => x_pick_t z z z) ?_)))))))))))
 refine ws_nil ?_
 intro w hst
 refine tn ?_
 refine wp_ift z ?_
 refine wp_seq (wrl (wv (.bool false) z z z (wl_nil (tn (wp_ret (blk_r (then_r (then_r ?_))))))))
 replace hm := inr_up hm hx1230
 refine blk_r (then_r ?_)
 replace hm := inr_up hm hx1315
 obtain rfl := some_inj hm
 refine post_ret (vs := [.bool false]) results26 (rvs_cons (rv_tmp z) rvs_nil) ?_
 replace hst := hst.pull2
 exact ⟨_, z, hI0, hst.keep1⟩
}
 {
 replace hm := bif_f hc1295 hm
 refine ws_q (v := .agg #[U6 t1238.1.ID.Session, U6 t1238.1.ID.Seq, U6 t1238.1.Epoch, v1243, v1246, v1249, v1252]) 7 [8, 9, 10, 11, 12, 13, 14, 15, 16, 17, 18, 19, 20, 21, 22, 23, 24, 25, 26, 27, 28, 29, 30, 31, 32, 33, 34, 35, 36, 37, 38, 39, 40, 41, 42, 43, 44, 45, 46, 47, 48, 49, 50, 51, 52, 53, 54, 55, 56, 57] (by kernel_rfl) z z (yi_run ((wanted_eq z z z (cvb hc1295)).trans z) (fun w hst => x_loadN (cs := [U6 t1238.1.ID.Session, U6 t1238.1.ID.Seq, U6 t1238.1.Epoch, v1243, v1246, v1249, v1252]) z isAgg34 sizeOf34 (hst.bcs1 0 z))) (ws_q (v := .agg #[U6 t1266.1.ID.Session, U6 t1266.1.ID.Seq, U6 t1266.1.Epoch, v1271, v1274, v1277, v1280]) 8 [9, 10, 11, 12, 13, 14, 15, 16, 17, 18, 19, 20, 21, 22, 23, 24, 25, 26, 27, 28, 29, 30, 31, 32, 33, 34, 35, 36, 37, 38, 39, 40, 41, 42, 43, 44, 45, 46, 47, 48, 49, 50, 51, 52, 53, 54, 55, 56, 57] (by kernel_rfl) z z (yi_run ((wanted_eq z z z (cvb hc1295)).trans z) (fun w hst => x_loadN (cs := [U6 t1266.1.ID.Session, U6 t1266.1.ID.Seq, U6 t1266.1.Epoch, v1271, v1274, v1277, v1280]) z isAgg34 sizeOf34 (hst.bcs0 0 z))) ?_)
 refine ws_e1 9 (by kernel_rfl) ?_
 refine nxe [10, 11, 12, 13, 14, 15, 16, 17, 18, 19, 20, 21, 22, 23, 24, 25, 26, 27, 28, 29, 30, 31, 32, 33, 34, 35, 36, 37, 38, 39, 40, 41, 42, 43, 44, 45, 46, 47, 48, 49, 50, 51, 52, 53, 54, 55, 56, 57] (by kernel_rfl) z ((wanted_eq z z z (cvb hc1295)).trans z) ?_
 clear hst
 intro w hst
 obtain ⟨t1296, ht1297, hm⟩ := bind_some hm
 refine wec call18 [.agg #[U6 t1238.1.ID.Session, U6 t1238.1.ID.Seq, U6 t1238.1.Epoch, v1243, v1246, v1249, v1252], .agg #[U6 t1266.1.ID.Session, U6 t1266.1.ID.Seq, U6 t1266.1.Epoch, v1271, v1274, v1277, v1280]] z z ?_
 refine (ref11_SameHold_ref (f1245.mono ro_rd) (f1248.mono ro_rd) (f1251.mono ro_rd) (f1254.mono ro_rd) (f1273.mono ro_rd) (f1276.mono ro_rd) (f1279.mono ro_rd) (f1282.mono ro_rd) hst.to0 ht1297).mono ?_
 rintro _ w1298 ⟨rfl, hst⟩
 refine ⟨_, z, ?_⟩
 replace hst := hst.of0
 refine ws_next (pend' := []) hst (by kernel_rfl) pk_nil ?_
 refine ws_q (v := .bool (!t1296)) 10 [11, 12, 13, 14, 15, 16, 17, 18, 19, 20, 21, 22, 23, 24, 25, 26, 27, 28, 29, 30, 31, 32, 33, 34, 35, 36, 37, 38, 39, 40, 41, 42, 43, 44, 45, 46, 47, 48, 49, 50, 51, 52, 53, 54, 55, 56, 57] (by kernel_rfl) z z (yi_run ((wanted_eq z z z (cvb hc1295)).trans z) (fun w hst => z)) (wsr (.bool (!t1296)) 11 z z z (by kernel_rfl) (fun w hst => x_pick_f hc1295 z z) (wsr (.bool (!t1296)) 12 z z z (by kernel_rfl) (fun w hst => z) ?_))
 refine bsplit (!t1296) (fun hc1301 => ?_) (fun hc1301 => ?_)
 {
 replace hm := bif_t hc1301 hm
 refine ws_q (v := undef) 13 [14, 15, 16, 17, 18, 19, 20, 21, 22, 23, 24, 25, 26, 27, 28, 29, 30, 31, 32, 33, 34, 35, 36, 37, 38, 39, 40, 41, 42, 43, 44, 45, 46, 47, 48, 49, 50, 51, 52, 53, 54, 55, 56, 57] (by kernel_rfl) z z (yi_off ((wanted_eq z z z (cvb hc1301)).trans z)) (ws_q (v := undef) 14 [15, 16, 17, 18, 19, 20, 21, 22, 23, 24, 25, 26, 27, 28, 29, 30, 31, 32, 33, 34, 35, 36, 37, 38, 39, 40, 41, 42, 43, 44, 45, 46, 47, 48, 49, 50, 51, 52, 53, 54, 55, 56, 57] (by kernel_rfl) z z (yi_off ((wanted_eq z z z (cvb hc1301)).trans z)) (ws_q (v := undef) 15 [16, 17, 18, 19, 20, 21, 22, 23, 24, 25, 26, 27, 28, 29, 30, 31, 32, 33, 34, 35, 36, 37, 38, 39, 40, 41, 42, 43, 44, 45, 46, 47, 48, 49, 50, 51, 52, 53, 54, 55, 56, 57] (by kernel_rfl) z z (yi_off ((wanted_eq z z z (cvb hc1301)).trans z)) (ws_q (v := undef) 16 [17, 18, 19, 20, 21, 22, 23, 24, 25, 26, 27, 28, 29, 30, 31, 32, 33, 34, 35, 36, 37, 38, 39, 40, 41, 42, 43, 44, 45, 46, 47, 48, 49, 50, 51, 52, 53, 54, 55, 56, 57] (by kernel_rfl) z z (yi_off (wanted_undef z z z z)) (ws_q (v := undef) 17 [18, 19, 20, 21, 22, 23, 24, 25, 26, 27, 28, 29, 30, 31, 32, 33, 34, 35, 36, 37, 38, 39, 40, 41, 42, 43, 44, 45, 46, 47, 48, 49, 50, 51, 52, 53, 54, 55, 56, 57] (by kernel_rfl) z z (yi_off (wanted_undef z z z z)) (ws_q (v := undef) 18 [19, 20, 21, 22, 23, 24, 25, 26, 27, 28, 29, 30, 31, 32, 33, 34, 35, 36, 37, 38, 39, 40, 41, 42, 43, 44, 45, 46, 47, 48, 49, 50, 51, 52, 53, 54, 55, 56, 57] (by kernel_rfl) z z (yi_off (wanted_undef z z z z)) (ws_q (v := undef) 19 [20, 21, 22, 23, 24, 25, 26, 27, 28, 29, 30, 31, 32, 33, 34, 35, 36, 37, 38, 39, 40, 41, 42, 43, 44, 45, 46, 47, 48, 49, 50, 51, 52, 53, 54, 55, 56, 57] (by kernel_rfl) z z (yi_off (wanted_undef z z z z)) (ws_q (v := undef) 20 [21, 22, 23, 24, 25, 26, 27, 28, 29, 30, 31, 32, 33, 34, 35, 36, 37, 38, 39, 40, 41, 42, 43, 44, 45, 46, 47, 48, 49, 50, 51, 52, 53, 54, 55, 56, 57] (by kernel_rfl) z z (yi_off (wanted_undef z z z z)) (ws_q (v := undef) 21 [22, 23, 24, 25, 26, 27, 28, 29, 30, 31, 32, 33, 34, 35, 36, 37, 38, 39, 40, 41, 42, 43, 44, 45, 46, 47, 48, 49, 50, 51, 52, 53, 54, 55, 56, 57] (by kernel_rfl) z z (yi_off (wanted_undef z z z z)) (ws_q (v := undef) 22 [23, 24, 25, 26, 27, 28, 29, 30, 31, 32, 33, 34, 35, 36, 37, 38, 39, 40, 41, 42, 43, 44, 45, 46, 47, 48, 49, 50, 51, 52, 53, 54, 55, 56, 57] (by kernel_rfl) z z (yi_off (wanted_undef z z z z)) (ws_q (v := undef) 23 [24, 25, 26, 27, 28, 29, 30, 31, 32, 33, 34, 35, 36, 37, 38, 39, 40, 41, 42, 43, 44, 45, 46, 47, 48, 49, 50, 51, 52, 53, 54, 55, 56, 57] (by kernel_rfl) z z (yi_off (wanted_undef z z z z)) (ws_q (v := undef) 24 [25, 26, 27, 28, 29, 30, 31, 32, 33, 34, 35, 36, 37, 38, 39, 40, 41, 42, 43, 44, 45, 46, 47, 48, 49, 50, 51, 52, 53, 54, 55, 56, 57] (by kernel_rfl) z z (yi_off (wanted_undef z z z z)) (ws_q (v := undef) 25 [26, 27, 28, 29, 30, 31, 32, 33, 34, 35, 36, 37, 38, 39, 40, 41, 42, 43, 44, 45, 46, 47, 48, 49, 50, 51, 52, 53, 54, 55, 56, 57] (by kernel_rfl) z z (yi_off (wanted_undef z z z z)) ?_))))))))))))
 refine ws_q (v := undef) 26 [27, 28, 29, 30, 31, 32, 33, 34, 35, 36, 37, 38, 39, 40, 41, 42, 43, 44, 45, 46, 47, 48, 49, 50, 51, 52, 53, 54, 55, 56, 57] (by kernel_rfl) z z (yi_off (wanted_undef z z z z)) (ws_q (v := undef) 27 [28, 29, 30, 31, 32, 33, 34, 35, 36, 37, 38, 39, 40, 41, 42, 43, 44, 45, 46, 47, 48, 49, 50, 51, 52, 53, 54, 55, 56, 57] (by kernel_rfl) z z (yi_off (wanted_undef z z z z)) (ws_q (v := undef) 28 [29, 30, 31, 32, 33, 34, 35, 36, 37, 38, 39, 40, 41, 42, 43, 44, 45, 46, 47, 48, 49, 50, 51, 52, 53, 54, 55, 56, 57] (by kernel_rfl) z z (yi_off (wanted_undef z z z z)) (ws_q (v := undef) 29 [30, 31, 32, 33, 34, 35, 36, 37, 38, 39, 40, 41, 42, 43, 44, 45, 46, 47, 48, 49, 50, 51, 52, 53, 54, 55, 56, 57] (by kernel_rfl) z z (yi_off (wanted_undef z z z z)) (ws_q (v := undef) 30 [31, 32, 33, 34, 35, 36, 37, 38, 39, 40, 41, 42, 43, 44, 45, 46, 47, 48, 49, 50, 51, 52, 53, 54, 55, 56, 57] (by kernel_rfl) z z (yi_off (wanted_undef z z z z)) (ws_q (v := undef) 31 [32, 33, 34, 35, 36, 37, 38, 39, 40, 41, 42, 43, 44, 45, 46, 47, 48, 49, 50, 51, 52, 53, 54, 55, 56, 57] (by kernel_rfl) z z (yi_off (wanted_undef z z z z)) (ws_q (v := undef) 32 [33, 34, 35, 36, 37, 38, 39, 40, 41, 42, 43, 44, 45, 46, 47, 48, 49, 50, 51, 52, 53, 54, 55, 56, 57] (by kernel_rfl) z z (yi_off (wanted_undef z z z z)) (ws_q (v := undef) 33 [34, 35, 36, 37, 38, 39, 40, 41, 42, 43, 44, 45, 46, 47, 48, 49, 50, 51, 52, 53, 54, 55, 56, 57] (by kernel_rfl) z z (yi_off (wanted_undef z z z z)) (ws_q (v := undef) 34 [35, 36, 37, 38, 39, 40, 41, 42, 43, 44, 45, 46, 47, 48, 49, 50, 51, 52, 53, 54, 55, 56, 57] (by kernel_rfl) z z (yi_off (wanted_undef z z z z)) (ws_q (v := undef) 35 [36, 37, 38, 39, 40, 41, 42, 43, 44, 45, 46, 47, 48, 49, 50, 51, 52, 53, 54, 55, 56, 57] (by kernel_rfl) z z (yi_off (wanted_undef z z z z)) (ws_q (v := undef) 36 [37, 38, 39, 40, 41, 42, 43, 44, 45, 46, 47, 48, 49, 50, 51, 52, 53, 54, 55, 56, 57] (by kernel_rfl) z z (yi_off (wanted_undef z z z z)) (ws_q (v := undef) 37 [38, 39, 40, 41, 42, 43, 44, 45, 46, 47, 48, 49, 50, 51, 52, 53, 54, 55, 56, 57] (by kernel_rfl) z z (yi_off (wanted_undef z z z z)) (ws_q (v := undef) 38 [39, 40, 41, 42, 43, 44, 45, 46, 47, 48, 49, 50, 51, 52, 53, 54, 55, 56, 57] (by kernel_rfl) z z (yi_off (wanted_undef z z z z)) ?_))))))))))))
 refine ws_q (v := undef) 39 [40, 41, 42, 43, 44, 45, 46, 47, 48, 49, 50, 51, 52, 53, 54, 55, 56, 57] (by kernel_rfl) z z (yi_off (wanted_undef z z z z)) (ws_q (v := undef) 40 [41, 42, 43, 44, 45, 46, 47, 48, 49, 50, 51, 52, 53, 54, 55, 56, 57] (by kernel_rfl) z z (yi_off (wanted_undef z z z z)) (ws_q (v := undef) 41 [42, 43, 44, 45, 46, 47, 48, 49, 50, 51, 52, 53, 54, 55, 56, 57] (by kernel_rfl) z z (yi_off (wanted_undef z z z z)) (ws_q (v := undef) 42 [43, 44, 45, 46, 47, 48, 49, 50, 51, 52, 53, 54, 55, 56, 57] (by kernel_rfl) z z (yi_off (wanted_undef z z z z)) (ws_q (v := undef) 43 [44, 45, 46, 47, 48, 49, 50, 51, 52, 53, 54, 55, 56, 57] (by kernel_rfl) z z (yi_off (wanted_undef z z z z)) (ws_q (v := undef) 44 [45, 46, 47, 48, 49, 50, 51, 52, 53, 54, 55, 56, 57] (by kernel_rfl) z z (yi_off (wanted_undef z z z z)) (ws_q (v := undef) 45 [46, 47, 48, 49, 50, 51, 52, 53, 54, 55, 56, 57] (by kernel_rfl) z z (yi_off (wanted_undef z z z z)) (ws_q (v := undef) 46 [47, 48, 49, 50, 51, 52, 53, 54, 55, 56, 57] (by kernel_rfl) z z (yi_off (wanted_undef z z z z)) (ws_q (v := undef) 47 [48, 49, 50, 51, 52, 53, 54, 55, 56, 57] (by kernel_rfl) z z (yi_off (wanted_undef z z z z)) (ws_q (v := undef) 48 [49, 50, 51, 52, 53, 54, 55, 56, 57] (by kernel_rfl) z z (yi_off (wanted_undef z z z z)) (ws_q (v := undef) 49 [50, 51, 52, 53, 54, 55, 56, 57] (by kernel_rfl) z z (yi_off (wanted_undef z z z z)) (ws_q (v := undef) 50 [51, 52, 53, 54, 55, 56, 57] (by kernel_rfl) z z (yi_off (wanted_undef z z z z)) (ws_q (v := undef) 51 [52, 53, 54, 55, 56, 57] (by kernel_rfl) z z (yi_off (wanted_undef z z z z)) ?_))))))))))))
 refine ws_q (v := undef) 52 [53, 54, 55, 56, 57] (by kernel_rfl) z z (yi_off (wanted_undef z z z z)) (ws_q (v := undef) 53 [54, 55, 56, 57] (by kernel_rfl) z z (yi_off (wanted_undef z z z z)) (ws_q (v := undef) 54 [55, 56, 57] (by kernel_rfl) z z (yi_off (wanted_undef z z z z)) (ws_q (v := undef) 55 [56, 57] (by kernel_rfl) z z (yi_off (wanted_undef z z z z)) (ws_q (v := undef) 56 [57] (by kernel_rfl) z z (yi_off ((wanted_eq z z z (cvb hc1301)).trans z)) (wsr (.bool true) 57 z z z (by kernel_rfl) (fun w hst => x_pick_t hc1301 z z) ?_)))))
 refine ws_nil ?_
 intro w hst
 refine tn ?_
 refine wp_ift z ?_
 refine wp_seq (wrl (wv (.bool false) z z z (wl_nil (tn (wp_ret (blk_r (then_r (then_r ?_))))))))
 replace hm := inr_up hm hx1230
 refine blk_r (then_r ?_)
 replace hm := inr_up hm hx1315
 obtain rfl := some_inj hm
 refine post_ret (vs := [.bool false]) results26 (rvs_cons (rv_tmp z) rvs_nil) ?_
 replace hst := hst.pull2
 exact ⟨_, z, hI0, hst.keep1⟩
}
 {
 replace hm := bif_f hc1301 hm
 refine ws_q (v := .int .i64 z1222) 13 [14, 15, 16, 17, 18, 19, 20, 21, 22, 23, 24, 25, 26, 27, 28, 29, 30, 31, 32, 33, 34, 35, 36, 37, 38, 39, 40, 41, 42, 43, 44, 45, 46, 47, 48, 49, 50, 51, 52, 53, 54, 55, 56, 57] (by kernel_rfl) z z (yi_run ((wanted_eq z z z (cvb hc1301)).trans z) (fun w hst => z)) (ws_q (v := .bool (decide (z1222 > (0:Int)))) 14 [15, 16, 17, 18, 19, 20, 21, 22, 23, 24, 25, 26, 27, 28, 29, 30, 31, 32, 33, 34, 35, 36, 37, 38, 39, 40, 41, 42, 43, 44, 45, 46, 47, 48, 49, 50, 51, 52, 53, 54, 55, 56, 57] (by kernel_rfl) z z (yi_run ((wanted_eq z z z (cvb hc1301)).trans z) (fun w hst => z)) (ws_q (v := .bool (decide (z1222 > (0:Int)))) 15 [16, 17, 18, 19, 20, 21, 22, 23, 24, 25, 26, 27, 28, 29, 30, 31, 32, 33, 34, 35, 36, 37, 38, 39, 40, 41, 42, 43, 44, 45, 46, 47, 48, 49, 50, 51, 52, 53, 54, 55, 56, 57] (by kernel_rfl) z z (yi_run ((wanted_eq z z z (cvb hc1301)).trans z) (fun w hst => z)) ?_))
 refine bsplit (decide (z1222 > (0:Int))) (fun hc1302 => ?_) (fun hc1302 => ?_)
 {
 replace hm := bif_t hc1302 hm
 refine ws_q (v := v1054) 16 [17, 18, 19, 20, 21, 22, 23, 24, 25, 26, 27, 28, 29, 30, 31, 32, 33, 34, 35, 36, 37, 38, 39, 40, 41, 42, 43, 44, 45, 46, 47, 48, 49, 50, 51, 52, 53, 54, 55, 56, 57] (by kernel_rfl) z z (yi_run ((wanted_eq z z z (cvb hc1302)).trans z) (fun w hst => z)) (ws_q (v := .int .i64 z1222) 17 [18, 19, 20, 21, 22, 23, 24, 25, 26, 27, 28, 29, 30, 31, 32, 33, 34, 35, 36, 37, 38, 39, 40, 41, 42, 43, 44, 45, 46, 47, 48, 49, 50, 51, 52, 53, 54, 55, 56, 57] (by kernel_rfl) z z (yi_run ((wanted_eq z z z (cvb hc1302)).trans z) (fun w hst => z)) (ws_q (v := .int .i64 (i64.wrap (z1222 - (1:Int)))) 18 [19, 20, 21, 22, 23, 24, 25, 26, 27, 28, 29, 30, 31, 32, 33, 34, 35, 36, 37, 38, 39, 40, 41, 42, 43, 44, 45, 46, 47, 48, 49, 50, 51, 52, 53, 54, 55, 56, 57] (by kernel_rfl) z z (yi_run ((wanted_eq z z z (cvb hc1302)).trans z) (fun w hst => z)) ?_))
 obtain ⟨x1303, hx1304, hm⟩ := bind_some hm
 obtain ⟨h1305, h1306, hi1307⟩ := geto_some hx1304
 refine ws_q (v := .pointer (some (eAddr v1054 ((i64.wrap (z1222 - (1:Int))).toNat * 2 + 0)))) 19 [20, 21, 22, 23, 24, 25, 26, 27, 28, 29, 30, 31, 32, 33, 34, 35, 36, 37, 38, 39, 40, 41, 42, 43, 44, 45, 46, 47, 48, 49, 50, 51, 52, 53, 54, 55, 56, 57] (by kernel_rfl) z z (yi_run ((wanted_eq z z z (cvb hc1302)).trans z) (fun w hst => x_index z z underlying37 sizeOf29 hst.sv3 h1305 h1306)) (ws_q (v := .pointer (some (eAddr v1054 ((i64.wrap (z1222 - (1:Int))).toNat * 2 + 0)))) 20 [21, 22, 23, 24, 25, 26, 27, 28, 29, 30, 31, 32, 33, 34, 35, 36, 37, 38, 39, 40, 41, 42, 43, 44, 45, 46, 47, 48, 49, 50, 51, 52, 53, 54, 55, 56, 57] (by kernel_rfl) z z (yi_run ((wanted_eq z z z (cvb hc1302)).trans z) (fun w hst => x_field_e z underlying29 z sizeOf27 z)) (ws_q (v := .int .u64 x1303.Session) 21 [22, 23, 24, 25, 26, 27, 28, 29, 30, 31, 32, 33, 34, 35, 36, 37, 38, 39, 40, 41, 42, 43, 44, 45, 46, 47, 48, 49, 50, 51, 52, 53, 54, 55, 56, 57] (by kernel_rfl) z z (yi_run ((wanted_eq z z z (cvb hc1302)).trans z) (fun w hst => x_load z isAgg27 (hst.ol3 hi1307 (by rintro _ rfl; rfl)))) (ws_q (v := v1054) 22 [23, 24, 25, 26, 27, 28, 29, 30, 31, 32, 33, 34, 35, 36, 37, 38, 39, 40, 41, 42, 43, 44, 45, 46, 47, 48, 49, 50, 51, 52, 53, 54, 55, 56, 57] (by kernel_rfl) z z (yi_run ((wanted_eq z z z (cvb hc1302)).trans z) (fun w hst => z)) (ws_q (v := .int .i64 z1222) 23 [24, 25, 26, 27, 28, 29, 30, 31, 32, 33, 34, 35, 36, 37, 38, 39, 40, 41, 42, 43, 44, 45, 46, 47, 48, 49, 50, 51, 52, 53, 54, 55, 56, 57] (by kernel_rfl) z z (yi_run ((wanted_eq z z z (cvb hc1302)).trans z) (fun w hst => z)) (ws_q (v := .pointer (some (eAddr v1054 (z1222.toNat * 2 + 0)))) 24 [25, 26, 27, 28, 29, 30, 31, 32, 33, 34, 35, 36, 37, 38, 39, 40, 41, 42, 43, 44, 45, 46, 47, 48, 49, 50, 51, 52, 53, 54, 55, 56, 57] (by kernel_rfl) z z (yi_run ((wanted_eq z z z (cvb hc1302)).trans z) (fun w hst => x_index z z underlying37 sizeOf29 hst.sv3 h1235 h1236)) (ws_q (v := .pointer (some (eAddr v1054 (z1222.toNat * 2 + 0)))) 25 [26, 27, 28, 29, 30, 31, 32, 33, 34, 35, 36, 37, 38, 39, 40, 41, 42, 43, 44, 45, 46, 47, 48, 49, 50, 51, 52, 53, 54, 55, 56, 57] (by kernel_rfl) z z (yi_run ((wanted_eq z z z (cvb hc1302)).trans z) (fun w hst => x_field_e z underlying29 z sizeOf27 z)) (ws_q (v := .int .u64 x1233.Session) 26 [27, 28, 29, 30, 31, 32, 33, 34, 35, 36, 37, 38, 39, 40, 41, 42, 43, 44, 45, 46, 47, 48, 49, 50, 51, 52, 53, 54, 55, 56, 57] (by kernel_rfl) z z (yi_run ((wanted_eq z z z (cvb hc1302)).trans z) (fun w hst => x_load z isAgg27 (hst.ol3 hi1237 (by rintro _ rfl; rfl)))) (ws_q (v := .bool (decide (x1303.Session > x1233.Session))) 27 [28, 29, 30, 31, 32, 33, 34, 35, 36, 37, 38, 39, 40, 41, 42, 43, 44, 45, 46, 47, 48, 49, 50, 51, 52, 53, 54, 55, 56, 57] (by kernel_rfl) z z (yi_run ((wanted_eq z z z (cvb hc1302)).trans z) (fun w hst => z)) (ws_q (v := .bool (decide (x1303.Session > x1233.Session))) 28 [29, 30, 31, 32, 33, 34, 35, 36, 37, 38, 39, 40, 41, 42, 43, 44, 45, 46, 47, 48, 49, 50, 51, 52, 53, 54, 55, 56, 57] (by kernel_rfl) z z (yi_run ((wanted_eq z z z (cvb hc1302)).trans z) (fun w hst => z)) ?_)))))))))
 refine bsplit (decide (x1303.Session > x1233.Session)) (fun hc1308 => ?_) (fun hc1308 => ?_)
 {
 replace hm := bif_t hc1308 hm
 refine ws_q (v := undef) 29 [30, 31, 32, 33, 34, 35, 36, 37, 38, 39, 40, 41, 42, 43, 44, 45, 46, 47, 48, 49, 50, 51, 52, 53, 54, 55, 56, 57] (by kernel_rfl) z z (yi_off ((wanted_eq z z z (cvb hc1308)).trans z)) (ws_q (v := undef) 30 [31, 32, 33, 34, 35, 36, 37, 38, 39, 40, 41, 42, 43, 44, 45, 46, 47, 48, 49, 50, 51, 52, 53, 54, 55, 56, 57] (by kernel_rfl) z z (yi_off ((wanted_eq z z z (cvb hc1308)).trans z)) (ws_q (v := undef) 31 [32, 33, 34, 35, 36, 37, 38, 39, 40, 41, 42, 43, 44, 45, 46, 47, 48, 49, 50, 51, 52, 53, 54, 55, 56, 57] (by kernel_rfl) z z (yi_off ((wanted_eq z z z (cvb hc1308)).trans z)) (ws_q (v := undef) 32 [33, 34, 35, 36, 37, 38, 39, 40, 41, 42, 43, 44, 45, 46, 47, 48, 49, 50, 51, 52, 53, 54, 55, 56, 57] (by kernel_rfl) z z (yi_off ((wanted_eq z z z (cvb hc1308)).trans z)) (ws_q (v := undef) 33 [34, 35, 36, 37, 38, 39, 40, 41, 42, 43, 44, 45, 46, 47, 48, 49, 50, 51, 52, 53, 54, 55, 56, 57] (by kernel_rfl) z z (yi_off ((wanted_eq z z z (cvb hc1308)).trans z)) (ws_q (v := undef) 34 [35, 36, 37, 38, 39, 40, 41, 42, 43, 44, 45, 46, 47, 48, 49, 50, 51, 52, 53, 54, 55, 56, 57] (by kernel_rfl) z z (yi_off ((wanted_eq z z z (cvb hc1308)).trans z)) (ws_q (v := undef) 35 [36, 37, 38, 39, 40, 41, 42, 43, 44, 45, 46, 47, 48, 49, 50, 51, 52, 53, 54, 55, 56, 57] (by kernel_rfl) z z (yi_off ((wanted_eq z z z (cvb hc1308)).trans z)) (ws_q (v := undef) 36 [37, 38, 39, 40, 41, 42, 43, 44, 45, 46, 47, 48, 49, 50, 51, 52, 53, 54, 55, 56, 57] (by kernel_rfl) z z (yi_off ((wanted_eq z z z (cvb hc1308)).trans z)) (ws_q (v := undef) 37 [38, 39, 40, 41, 42, 43, 44, 45, 46, 47, 48, 49, 50, 51, 52, 53, 54, 55, 56, 57] (by kernel_rfl) z z (yi_off ((wanted_eq z z z (cvb hc1308)).trans z)) (ws_q (v := undef) 38 [39, 40, 41, 42, 43, 44, 45, 46, 47, 48, 49, 50, 51, 52, 53, 54, 55, 56, 57] (by kernel_rfl) z z (yi_off ((wanted_eq z z z (cvb hc1308)).trans z)) (ws_q (v := undef) 39 [40, 41, 42, 43, 44, 45, 46, 47, 48, 49, 50, 51, 52, 53, 54, 55, 56, 57] (by kernel_rfl) z z (yi_off ((wanted_eq z z z (cvb hc1308)).trans z)) (ws_q (v := undef) 40 [41, 42, 43, 44, 45, 46, 47, 48, 49, 50, 51, 52, 53, 54, 55, 56, 57] (by kernel_rfl) z z (yi_off ((wanted_eq z z z (cvb hc1308)).trans z)) (ws_q (v := undef) 41 [42, 43, 44, 45, 46, 47, 48, 49, 50, 51, 52, 53, 54, 55, 56, 57] (by kernel_rfl) z z (yi_off ((wanted_eq z z z (cvb hc1308)).trans z)) ?_))))))))))))
 refine ws_q (v := undef) 42 [43, 44, 45, 46, 47, 48, 49, 50, 51, 52, 53, 54, 55, 56, 57] (by kernel_rfl) z z (yi_off (wanted_undef z z z z)) (ws_q (v := undef) 43 [44, 45, 46, 47, 48, 49, 50, 51, 52, 53, 54, 55, 56, 57] (by kernel_rfl) z z (yi_off (wanted_undef z z z z)) (ws_q (v := undef) 44 [45, 46, 47, 48, 49, 50, 51, 52, 53, 54, 55, 56, 57] (by kernel_rfl) z z (yi_off (wanted_undef z z z z)) (ws_q (v := undef) 45 [46, 47, 48, 49, 50, 51, 52, 53, 54, 55, 56, 57] (by kernel_rfl) z z (yi_off (wanted_undef z z z z)) (ws_q (v := undef) 46 [47, 48, 49, 50, 51, 52, 53, 54, 55, 56, 57] (by kernel_rfl) z z (yi_off (wanted_undef z z z z)) (ws_q (v := undef) 47 [48, 49, 50, 51, 52, 53, 54, 55, 56, 57] (by kernel_rfl) z z (yi_off (wanted_undef z z z z)) (ws_q (v := undef) 48 [49, 50, 51, 52, 53, 54, 55, 56, 57] (by kernel_rfl) z z (yi_off (wanted_undef z z z z)) (ws_q (v := undef) 49 [50, 51, 52, 53, 54, 55, 56, 57] (by kernel_rfl) z z (yi_off (wanted_undef z z z z)) (ws_q (v := undef) 50 [51, 52, 53, 54, 55, 56, 57] (by kernel_rfl) z z (yi_off (wanted_undef z z z z)) (ws_q (v := undef) 51 [52, 53, 54, 55, 56, 57] (by kernel_rfl) z z (yi_off (wanted_undef z z z z)) (ws_q (v := undef) 52 [53, 54, 55, 56, 57] (by kernel_rfl) z z (yi_off (wanted_undef z z z z)) (ws_q (v := undef) 53 [54, 55, 56, 57] (by kernel_rfl) z z (yi_off (wanted_undef z z z z)) (ws_q (v := undef) 54 [55, 56, 57] (by kernel_rfl) z z (yi_off ((wanted_eq z z z (cvb hc1308)).trans z)) ?_))))))))))))
 refine ws_q (v := .bool true) 55 [56, 57] (by kernel_rfl) z z (yi_run ((wanted_eq z z z (cvb hc1302)).trans z) (fun w hst => x_pick_t hc1308 z z)) (ws_q (v := .bool true) 56 [57] (by kernel_rfl) z z (yi_run ((wanted_eq z z z (cvb hc1301)).trans z) (fun w hst => x_pick_t hc1302 z z)) (wsr (.bool true) 57 z z z (by kernel_rfl) (fun w hst => x_pick_f hc1301 z z) ?_))
 refine ws_nil ?_
 intro w hst
 refine tn ?_
 refine wp_ift z ?_
 refine wp_seq (wrl (wv (.bool false) z z z (wl_nil (tn (wp_ret (blk_r (then_r (then_r ?_))))))))
 replace hm := inr_up hm hx1230
 refine blk_r (then_r ?_)
 replace hm := inr_up hm hx1315
 obtain rfl := some_inj hm
 refine post_ret (vs := [.bool false]) results26 (rvs_cons (rv_tmp z) rvs_nil) ?_
 replace hst := hst.pull2
 exact ⟨_, z, hI0, hst.keep1⟩
}
 {
 replace hm := bif_f hc1308 hm
 refine ws_q (v := v1054) 29 [30, 31, 32, 33, 34, 35, 36, 37, 38, 39, 40, 41, 42, 43, 44, 45, 46, 47, 48, 49, 50, 51, 52, 53, 54, 55, 56, 57] (by kernel_rfl) z z (yi_run ((wanted_eq z z z (cvb hc1308)).trans z) (fun w hst => z)) (ws_q (v := .int .i64 z1222) 30 [31, 32, 33, 34, 35, 36, 37, 38, 39, 40, 41, 42, 43, 44, 45, 46, 47, 48, 49, 50, 51, 52, 53, 54, 55, 56, 57] (by kernel_rfl) z z (yi_run ((wanted_eq z z z (cvb hc1308)).trans z) (fun w hst => z)) (ws_q (v := .int .i64 (i64.wrap (z1222 - (1:Int)))) 31 [32, 33, 34, 35, 36, 37, 38, 39, 40, 41, 42, 43, 44, 45, 46, 47, 48, 49, 50, 51, 52, 53, 54, 55, 56, 57] (by kernel_rfl) z z (yi_run ((wanted_eq z z z (cvb hc1308)).trans z) (fun w hst => z)) (ws_q (v := .pointer (some (eAddr v1054 ((i64.wrap (z1222 - (1:Int))).toNat * 2 + 0)))) 32 [33, 34, 35, 36, 37, 38, 39, 40, 41, 42, 43, 44, 45, 46, 47, 48, 49, 50, 51, 52, 53, 54, 55, 56, 57] (by kernel_rfl) z z (yi_run ((wanted_eq z z z (cvb hc1308)).trans z) (fun w hst => x_index z z underlying37 sizeOf29 hst.sv3 h1305 h1306)) (ws_q (v := .pointer (some (eAddr v1054 ((i64.wrap (z1222 - (1:Int))).toNat * 2 + 0)))) 33 [34, 35, 36, 37, 38, 39, 40, 41, 42, 43, 44, 45, 46, 47, 48, 49, 50, 51, 52, 53, 54, 55, 56, 57] (by kernel_rfl) z z (yi_run ((wanted_eq z z z (cvb hc1308)).trans z) (fun w hst => x_field_e z underlying29 z sizeOf27 z)) (ws_q (v := .int .u64 x1303.Session) 34 [35, 36, 37, 38, 39, 40, 41, 42, 43, 44, 45, 46, 47, 48, 49, 50, 51, 52, 53, 54, 55, 56, 57] (by kernel_rfl) z z (yi_run ((wanted_eq z z z (cvb hc1308)).trans z) (fun w hst => x_load z isAgg27 (hst.ol3 hi1307 (by rintro _ rfl; rfl)))) (ws_q (v := v1054) 35 [36, 37, 38, 39, 40, 41, 42, 43, 44, 45, 46, 47, 48, 49, 50, 51, 52, 53, 54, 55, 56, 57] (by kernel_rfl) z z (yi_run ((wanted_eq z z z (cvb hc1308)).trans z) (fun w hst => z)) (ws_q (v := .int .i64 z1222) 36 [37, 38, 39, 40, 41, 42, 43, 44, 45, 46, 47, 48, 49, 50, 51, 52, 53, 54, 55, 56, 57] (by kernel_rfl) z z (yi_run ((wanted_eq z z z (cvb hc1308)).trans z) (fun w hst => z)) (ws_q (v := .pointer (some (eAddr v1054 (z1222.toNat * 2 + 0)))) 37 [38, 39, 40, 41, 42, 43, 44, 45, 46, 47, 48, 49, 50, 51, 52, 53, 54, 55, 56, 57] (by kernel_rfl) z z (yi_run ((wanted_eq z z z (cvb hc1308)).trans z) (fun w hst => x_index z z underlying37 sizeOf29 hst.sv3 h1235 h1236)) (ws_q (v := .pointer (some (eAddr v1054 (z1222.toNat * 2 + 0)))) 38 [39, 40, 41, 42, 43, 44, 45, 46, 47, 48, 49, 50, 51, 52, 53, 54, 55, 56, 57] (by kernel_rfl) z z (yi_run ((wanted_eq z z z (cvb hc1308)).trans z) (fun w hst => x_field_e z underlying29 z sizeOf27 z)) (ws_q (v := .int .u64 x1233.Session) 39 [40, 41, 42, 43, 44, 45, 46, 47, 48, 49, 50, 51, 52, 53, 54, 55, 56, 57] (by kernel_rfl) z z (yi_run ((wanted_eq z z z (cvb hc1308)).trans z) (fun w hst => x_load z isAgg27 (hst.ol3 hi1237 (by rintro _ rfl; rfl)))) (ws_q (v := .bool (x1303.Session == x1233.Session)) 40 [41, 42, 43, 44, 45, 46, 47, 48, 49, 50, 51, 52, 53, 54, 55, 56, 57] (by kernel_rfl) z z (yi_run ((wanted_eq z z z (cvb hc1308)).trans z) (fun w hst => z)) (ws_q (v := .bool (x1303.Session == x1233.Session)) 41 [42, 43, 44, 45, 46, 47, 48, 49, 50, 51, 52, 53, 54, 55, 56, 57] (by kernel_rfl) z z (yi_run ((wanted_eq z z z (cvb hc1308)).trans z) (fun w hst => z)) ?_))))))))))))
 refine bsplit (x1303.Session == x1233.Session) (fun hc1309 => ?_) (fun hc1309 => ?_)
 {
 replace hm := bif_t hc1309 hm
 refine ws_q (v := v1054) 42 [43, 44, 45, 46, 47, 48, 49, 50, 51, 52, 53, 54, 55, 56, 57] (by kernel_rfl) z z (yi_run ((wanted_eq z z z (cvb hc1309)).trans z) (fun w hst => z)) (ws_q (v := .int .i64 z1222) 43 [44, 45, 46, 47, 48, 49, 50, 51, 52, 53, 54, 55, 56, 57] (by kernel_rfl) z z (yi_run ((wanted_eq z z z (cvb hc1309)).trans z) (fun w hst => z)) (ws_q (v := .int .i64 (i64.wrap (z1222 - (1:Int)))) 44 [45, 46, 47, 48, 49, 50, 51, 52, 53, 54, 55, 56, 57] (by kernel_rfl) z z (yi_run ((wanted_eq z z z (cvb hc1309)).trans z) (fun w hst => z)) (ws_q (v := .pointer (some (eAddr v1054 ((i64.wrap (z1222 - (1:Int))).toNat * 2 + 0)))) 45 [46, 47, 48, 49, 50, 51, 52, 53, 54, 55, 56, 57] (by kernel_rfl) z z (yi_run ((wanted_eq z z z (cvb hc1309)).trans z) (fun w hst => x_index z z underlying37 sizeOf29 hst.sv3 h1305 h1306)) (ws_q (v := .pointer (some (eAddr v1054 ((i64.wrap (z1222 - (1:Int))).toNat * 2 + 1)))) 46 [47, 48, 49, 50, 51, 52, 53, 54, 55, 56, 57] (by kernel_rfl) z z (yi_run ((wanted_eq z z z (cvb hc1309)).trans z) (fun w hst => x_field_e z underlying29 z sizeOf27 z)) (ws_q (v := .int .u64 x1303.Seq) 47 [48, 49, 50, 51, 52, 53, 54, 55, 56, 57] (by kernel_rfl) z z (yi_run ((wanted_eq z z z (cvb hc1309)).trans z) (fun w hst => x_load z isAgg27 (hst.ol3 hi1307 (by rintro _ rfl; rfl)))) (ws_q (v := v1054) 48 [49, 50, 51, 52, 53, 54, 55, 56, 57] (by kernel_rfl) z z (yi_run ((wanted_eq z z z (cvb hc1309)).trans z) (fun w hst => z)) (ws_q (v := .int .i64 z1222) 49 [50, 51, 52, 53, 54, 55, 56, 57] (by kernel_rfl) z z (yi_run ((wanted_eq z z z (cvb hc1309)).trans z) (fun w hst => z)) (ws_q (v := .pointer (some (eAddr v1054 (z1222.toNat * 2 + 0)))) 50 [51, 52, 53, 54, 55, 56, 57] (by kernel_rfl) z z (yi_run ((wanted_eq z z z (cvb hc1309)).trans z) (fun w hst => x_index z z underlying37 sizeOf29 hst.sv3 h1235 h1236)) (ws_q (v := .pointer (some (eAddr v1054 (z1222.toNat * 2 + 1)))) 51 [52, 53, 54, 55, 56, 57] (by kernel_rfl) z z (yi_run ((wanted_eq z z z (cvb hc1309)).trans z) (fun w hst => x_field_e z underlying29 z sizeOf27 z)) (ws_q (v := .int .u64 x1233.Seq) 52 [53, 54, 55, 56, 57] (by kernel_rfl) z z (yi_run ((wanted_eq z z z (cvb hc1309)).trans z) (fun w hst => x_load z isAgg27 (hst.ol3 hi1237 (by rintro _ rfl; rfl)))) (ws_q (v := .bool (decide (x1303.Seq ≥ x1233.Seq))) 53 [54, 55, 56, 57] (by kernel_rfl) z z (yi_run ((wanted_eq z z z (cvb hc1309)).trans z) (fun w hst => z)) (ws_q (v := .bool (decide (x1303.Seq ≥ x1233.Seq))) 54 [55, 56, 57] (by kernel_rfl) z z (yi_run ((wanted_eq z z z (cvb hc1308)).trans z) (fun w hst => x_pick_t hc1309 z z)) ?_))))))))))))
 refine ws_q (v := .bool (decide (x1303.Seq ≥ x1233.Seq))) 55 [56, 57] (by kernel_rfl) z z (yi_run ((wanted_eq z z z (cvb hc1302)).trans z) (fun w hst => x_pick_f hc1308 z z)) (ws_q (v := .bool (decide (x1303.Seq ≥ x1233.Seq))) 56 [57] (by kernel_rfl) z z (yi_run ((wanted_eq z z z (cvb hc1301)).trans z) (fun w hst => x_pick_t hc1302 z z)) (wsr (.bool (decide (x1303.Seq ≥ x1233.Seq))) 57 z z z (by kernel_rfl) (fun w hst => x_pick_f hc1301 z z) ?_))
 refine ws_nil ?_
 intro w hst
 refine tn ?_
 refine bsplit (decide (x1303.Seq ≥ x1233.Seq)) (fun hc1310 => ?_) (fun hc1310 => ?_)
 {
 replace hm := bif_t hc1310 hm
 refine wp_ift (cvb hc1310) ?_
 refine wp_seq (wrl (wv (.bool false) z z z (wl_nil (tn (wp_ret (blk_r (then_r (then_r ?_))))))))
 replace hm := inr_up hm hx1230
 refine blk_r (then_r ?_)
 replace hm := inr_up hm hx1315
 obtain rfl := some_inj hm
 refine post_ret (vs := [.bool false]) results26 (rvs_cons (rv_tmp z) rvs_nil) ?_
 replace hst := hst.pull2
 exact ⟨_, z, hI0, hst.keep1⟩
}
 {
 replace hm := bif_f hc1310 hm
 refine wp_iff (cvb hc1310) ?_
 refine wp_skip (blk_n (tn (wrl ?_)))
 refine wv (.int .i64 z1222) z z z (wv (.int .i64 (i64.wrap (z1222 + (1:Int)))) z z z (wv (.int .i64 (i64.wrap (z1222 + (1:Int)))) z z z (wl_nil (tn ?_))))
 replace hst := hst.pull3.pull3.keep2
 obtain rfl := some_inj hm
 exact ⟨_, Nat.lt_succ_self _, _, (i64.wrap (z1222 + (1:Int))), _, hx1230, (fu 0 p0 z (fu 1 r1_0 z (fu 5 v1054 z (fu 6 (.int .i64 (i64.wrap (z1222 + (1:Int)))) z z)))), hL1227, hst⟩
}
}
 {
 replace hm := bif_f hc1309 hm
 refine ws_q (v := undef) 42 [43, 44, 45, 46, 47, 48, 49, 50, 51, 52, 53, 54, 55, 56, 57] (by kernel_rfl) z z (yi_off ((wanted_eq z z z (cvb hc1309)).trans z)) (ws_q (v := undef) 43 [44, 45, 46, 47, 48, 49, 50, 51, 52, 53, 54, 55, 56, 57] (by kernel_rfl) z z (yi_off ((wanted_eq z z z (cvb hc1309)).trans z)) (ws_q (v := undef) 44 [45, 46, 47, 48, 49, 50, 51, 52, 53, 54, 55, 56, 57] (by kernel_rfl) z z (yi_off ((wanted_eq z z z (cvb hc1309)).trans z)) (ws_q (v := undef) 45 [46, 47, 48, 49, 50, 51, 52, 53, 54, 55, 56, 57] (by kernel_rfl) z z (yi_off ((wanted_eq z z z (cvb hc1309)).trans z)) (ws_q (v := undef) 46 [47, 48, 49, 50, 51, 52, 53, 54, 55, 56, 57] (by kernel_rfl) z z (yi_off ((wanted_eq z z z (cvb hc1309)).trans z)) (ws_q (v := undef) 47 [48, 49, 50, 51, 52, 53, 54, 55, 56, 57] (by kernel_rfl) z z (yi_off ((wanted_eq z z z (cvb hc1309)).trans z)) (ws_q (v := undef) 48 [49, 50, 51, 52, 53, 54, 55, 56, 57] (by kernel_rfl) z z (yi_off ((wanted_eq z z z (cvb hc1309)).trans z)) (ws_q (v := undef) 49 [50, 51, 52, 53, 54, 55, 56, 57] (by kernel_rfl) z z (yi_off ((wanted_eq z z z (cvb hc1309)).trans z)) (ws_q (v := undef) 50 [51, 52, 53, 54, 55, 56, 57] (by kernel_rfl) z z (yi_off ((wanted_eq z z z (cvb hc1309)).trans z)) (ws_q (v := undef) 51 [52, 53, 54, 55, 56, 57] (by kernel_rfl) z z (yi_off ((wanted_eq z z z (cvb hc1309)).trans z)) (ws_q (v := undef) 52 [53, 54, 55, 56, 57] (by kernel_rfl) z z (yi_off ((wanted_eq z z z (cvb hc1309)).trans z)) (ws_q (v := undef) 53 [54, 55, 56, 57] (by kernel_rfl) z z (yi_off ((wanted_eq z z z (cvb hc1309)).trans z)) (ws_q (v := .bool false) 54 [55, 56, 57] (by kernel_rfl) z z (yi_run ((wanted_eq z z z (cvb hc1308)).trans z) (fun w hst => x_pick_f hc1309 z z)) ?_))))))))))))
 refine ws_q (v := .bool false) 55 [56, 57] (by kernel_rfl) z z (yi_run ((wanted_eq z z z (cvb hc1302)).trans z) (fun w hst => x_pick_f hc1308 z z)) (ws_q (v := .bool false) 56 [57] (by kernel_rfl) z z (yi_run ((wanted_eq z z z (cvb hc1301)).trans z) (fun w hst => x_pick_t hc1302 z z)) (wsr (.bool false) 57 z z z (by kernel_rfl) (fun w hst => x_pick_f hc1301 z z) ?_))
 refine ws_nil ?_
 intro w hst
 refine tn ?_
 refine wp_iff z ?_
 refine wp_skip (blk_n (tn (wrl ?_)))
 refine wv (.int .i64 z1222) z z z (wv (.int .i64 (i64.wrap (z1222 + (1:Int)))) z z z (wv (.int .i64 (i64.wrap (z1222 + (1:Int)))) z z z (wl_nil (tn ?_))))
 replace hst := hst.pull3.pull3.keep2
 obtain rfl := some_inj hm
 exact ⟨_, Nat.lt_succ_self _, _, (i64.wrap (z1222 + (1:Int))), _, hx1230, (fu 0 p0 z (fu 1 r1_0 z (fu 5 v1054 z (fu 6 (.int .i64 (i64.wrap (z1222 + (1:Int)))) z z)))), hL1227, hst⟩
}
}
}
 {
 replace hm := bif_f hc1302 hm
 refine ws_q (v := undef) 16 [17, 18, 19, 20, 21, 22, 23, 24, 25, 26, 27, 28, 29, 30, 31, 32, 33, 34, 35, 36, 37, 38, 39, 40, 41, 42, 43, 44, 45, 46, 47, 48, 49, 50, 51, 52, 53, 54, 55, 56, 57] (by kernel_rfl) z z (yi_off ((wanted_eq z z z (cvb hc1302)).trans z)) (ws_q (v := undef) 17 [18, 19, 20, 21, 22, 23, 24, 25, 26, 27, 28, 29, 30, 31, 32, 33, 34, 35, 36, 37, 38, 39, 40, 41, 42, 43, 44, 45, 46, 47, 48, 49, 50, 51, 52, 53, 54, 55, 56, 57] (by kernel_rfl) z z (yi_off ((wanted_eq z z z (cvb hc1302)).trans z)) (ws_q (v := undef) 18 [19, 20, 21, 22, 23, 24, 25, 26, 27, 28, 29, 30, 31, 32, 33, 34, 35, 36, 37, 38, 39, 40, 41, 42, 43, 44, 45, 46, 47, 48, 49, 50, 51, 52, 53, 54, 55, 56, 57] (by kernel_rfl) z z (yi_off ((wanted_eq z z z (cvb hc1302)).trans z)) (ws_q (v := undef) 19 [20, 21, 22, 23, 24, 25, 26, 27, 28, 29, 30, 31, 32, 33, 34, 35, 36, 37, 38, 39, 40, 41, 42, 43, 44, 45, 46, 47, 48, 49, 50, 51, 52, 53, 54, 55, 56, 57] (by kernel_rfl) z z (yi_off ((wanted_eq z z z (cvb hc1302)).trans z)) (ws_q (v := undef) 20 [21, 22, 23, 24, 25, 26, 27, 28, 29, 30, 31, 32, 33, 34, 35, 36, 37, 38, 39, 40, 41, 42, 43, 44, 45, 46, 47, 48, 49, 50, 51, 52, 53, 54, 55, 56, 57] (by kernel_rfl) z z (yi_off ((wanted_eq z z z (cvb hc1302)).trans z)) (ws_q (v := undef) 21 [22, 23, 24, 25, 26, 27, 28, 29, 30, 31, 32, 33, 34, 35, 36, 37, 38, 39, 40, 41, 42, 43, 44, 45, 46, 47, 48, 49, 50, 51, 52, 53, 54, 55, 56, 57] (by kernel_rfl) z z (yi_off ((wanted_eq z z z (cvb hc1302)).trans z)) (ws_q (v := undef) 22 [23, 24, 25, 26, 27, 28, 29, 30, 31, 32, 33, 34, 35, 36, 37, 38, 39, 40, 41, 42, 43, 44, 45, 46, 47, 48, 49, 50, 51, 52, 53, 54, 55, 56, 57] (by kernel_rfl) z z (yi_off ((wanted_eq z z z (cvb hc1302)).trans z)) (ws_q (v := undef) 23 [24, 25, 26, 27, 28, 29, 30, 31, 32, 33, 34, 35, 36, 37, 38, 39, 40, 41, 42, 43, 44, 45, 46, 47, 48, 49, 50, 51, 52, 53, 54, 55, 56, 57] (by kernel_rfl) z z (yi_off ((wanted_eq z z z (cvb hc1302)).trans z)) (ws_q (v := undef) 24 [25, 26, 27, 28, 29, 30, 31, 32, 33, 34, 35, 36, 37, 38, 39, 40, 41, 42, 43, 44, 45, 46, 47, 48, 49, 50, 51, 52, 53, 54, 55, 56, 57] (by kernel_rfl) z z (yi_off ((wanted_eq z z z (cvb hc1302)).trans z)) (ws_q (v := undef) 25 [26, 27, 28, 29, 30, 31, 32, 33, 34, 35, 36, 37, 38, 39, 40, 41, 42, 43, 44, 45, 46, 47, 48, 49, 50, 51, 52, 53, 54, 55, 56, 57] (by kernel_rfl) z z (yi_off ((wanted_eq z z z (cvb hc1302)).trans z)) (ws_q (v := undef) 26 [27, 28, 29, 30, 31, 32, 33, 34, 35, 36, 37, 38, 39, 40, 41, 42, 43, 44, 45, 46, 47, 48, 49, 50, 51, 52, 53, 54, 55, 56, 57] (by kernel_rfl) z z (yi_off ((wanted_eq z z z (cvb hc1302)).trans z)) (ws_q (v := undef) 27 [28, 29, 30, 31, 32, 33, 34, 35, 36, 37, 38, 39, 40, 41, 42, 43, 44, 45, 46, 47, 48, 49, 50, 51, 52, 53, 54, 55, 56, 57] (by kernel_rfl) z z (yi_off ((wanted_eq z z z (cvb hc1302)).trans z)) (ws_q (v := undef) 28 [29, 30, 31, 32, 33, 34, 35, 36, 37, 38, 39, 40, 41, 42, 43, 44, 45, 46, 47, 48, 49, 50, 51, 52, 53, 54, 55, 56, 57] (by kernel_rfl) z z (yi_off ((wanted_eq z z z (cvb hc1302)).trans z)) ?_))))))))))))
 refine ws_q (v := undef) 29 [30, 31, 32, 33, 34, 35, 36, 37, 38, 39, 40, 41, 42, 43, 44, 45, 46, 47, 48, 49, 50, 51, 52, 53, 54, 55, 56, 57] (by kernel_rfl) z z (yi_off (wanted_undef z z z z)) (ws_q (v := undef) 30 [31, 32, 33, 34, 35, 36, 37, 38, 39, 40, 41, 42, 43, 44, 45, 46, 47, 48, 49, 50, 51, 52, 53, 54, 55, 56, 57] (by kernel_rfl) z z (yi_off (wanted_undef z z z z)) (ws_q (v := undef) 31 [32, 33, 34, 35, 36, 37, 38, 39, 40, 41, 42, 43, 44, 45, 46, 47, 48, 49, 50, 51, 52, 53, 54, 55, 56, 57] (by kernel_rfl) z z (yi_off (wanted_undef z z z z)) (ws_q (v := undef) 32 [33, 34, 35, 36, 37, 38, 39, 40, 41, 42, 43, 44, 45, 46, 47, 48, 49, 50, 51, 52, 53, 54, 55, 56, 57] (by kernel_rfl) z z (yi_off (wanted_undef z z z z)) (ws_q (v := undef) 33 [34, 35, 36, 37, 38, 39, 40, 41, 42, 43, 44, 45, 46, 47, 48, 49, 50, 51, 52, 53, 54, 55, 56, 57] (by kernel_rfl) z z (yi_off (wanted_undef z z z z)) (ws_q (v := undef) 34 [35, 36, 37, 38, 39, 40, 41, 42, 43, 44, 45, 46, 47, 48, 49, 50, 51, 52, 53, 54, 55, 56, 57] (by kernel_rfl) z z (yi_off (wanted_undef z z z z)) (ws_q (v := undef) 35 [36, 37, 38, 39, 40, 41, 42, 43, 44, 45, 46, 47, 48, 49, 50, 51, 52, 53, 54, 55, 56, 57] (by kernel_rfl) z z (yi_off (wanted_undef z z z z)) (ws_q (v := undef) 36 [37, 38, 39, 40, 41, 42, 43, 44, 45, 46, 47, 48, 49, 50, 51, 52, 53, 54, 55, 56, 57] (by kernel_rfl) z z (yi_off (wanted_undef z z z z)) (ws_q (v := undef) 37 [38, 39, 40, 41, 42, 43, 44, 45, 46, 47, 48, 49, 50, 51, 52, 53, 54, 55, 56, 57] (by kernel_rfl) z z (yi_off (wanted_undef z z z z)) (ws_q (v := undef) 38 [39, 40, 41, 42, 43, 44, 45, 46, 47, 48, 49, 50, 51, 52, 53, 54, 55, 56, 57] (by kernel_rfl) z z (yi_off (wanted_undef z z z z)) (ws_q (v := undef) 39 [40, 41, 42, 43, 44, 45, 46, 47, 48, 49, 50, 51, 52, 53, 54, 55, 56, 57] (by kernel_rfl) z z (yi_off (wanted_undef z z z z)) (ws_q (v := undef) 40 [41, 42, 43, 44, 45, 46, 47, 48, 49, 50, 51, 52, 53, 54, 55, 56, 57] (by kernel_rfl) z z (yi_off (wanted_undef z z z z)) (ws_q (v := undef) 41 [42, 43, 44, 45, 46, 47, 48, 49, 50, 51, 52, 53, 54, 55, 56, 57] (by kernel_rfl) z z (yi_off (wanted_undef z z z z)) ?_))))))))))))
 refine ws_q (v := undef) 42 [43, 44, 45, 46, 47, 48, 49, 50, 51, 52, 53, 54, 55, 56, 57] (by kernel_rfl) z z (yi_off (wanted_undef z z z z)) (ws_q (v := undef) 43 [44, 45, 46, 47, 48, 49, 50, 51, 52, 53, 54, 55, 56, 57] (by kernel_rfl) z z (yi_off (wanted_undef z z z z)) (ws_q (v := undef) 44 [45, 46, 47, 48, 49, 50, 51, 52, 53, 54, 55, 56, 57] (by kernel_rfl) z z (yi_off (wanted_undef z z z z)) (ws_q (v := undef) 45 [46, 47, 48, 49, 50, 51, 52, 53, 54, 55, 56, 57] (by kernel_rfl) z z (yi_off (wanted_undef z z z z)) (ws_q (v := undef) 46 [47, 48, 49, 50, 51, 52, 53, 54, 55, 56, 57] (by kernel_rfl) z z (yi_off (wanted_undef z z z z)) (ws_q (v := undef) 47 [48, 49, 50, 51, 52, 53, 54, 55, 56, 57] (by kernel_rfl) z z (yi_off (wanted_undef z z z z)) (ws_q (v := undef) 48 [49, 50, 51, 52, 53, 54, 55, 56, 57] (by kernel_rfl) z z (yi_off (wanted_undef z z z z)) (ws_q (v := undef) 49 [50, 51, 52, 53, 54, 55, 56, 57] (by kernel_rfl) z z (yi_off (wanted_undef z z z z)) (ws_q (v := undef) 50 [51, 52, 53, 54, 55, 56, 57] (by kernel_rfl) z z (yi_off (wanted_undef z z z z)) (ws_q (v := undef) 51 [52, 53, 54, 55, 56, 57] (by kernel_rfl) z z (yi_off (wanted_undef z z z z)) (ws_q (v := undef) 52 [53, 54, 55, 56, 57] (by kernel_rfl) z z (yi_off (wanted_undef z z z z)) (ws_q (v := undef) 53 [54, 55, 56, 57] (by kernel_rfl) z z (yi_off (wanted_undef z z z z)) (ws_q (v := undef) 54 [55, 56, 57] (by kernel_rfl) z z (yi_off (wanted_undef z z z z)) ?_))))))))))))
 refine ws_q (v := undef) 55 [56, 57] (by kernel_rfl) z z (yi_off ((wanted_eq z z z (cvb hc1302)).trans z)) (ws_q (v := .bool false) 56 [57] (by kernel_rfl) z z (yi_run ((wanted_eq z z z (cvb hc1301)).trans z) (fun w hst => x_pick_f hc1302 z z)) (wsr (.bool false) 57 z z z (by kernel_rfl) (fun w hst => x_pick_f hc1301 z z) ?_))
 refine ws_nil ?_
 intro w hst
 refine tn ?_
 refine wp_iff z ?_
 refine wp_skip (blk_n (tn (wrl ?_)))
 refine wv (.int .i64 z1222) z z z (wv (.int .i64 (i64.wrap (z1222 + (1:Int)))) z z z (wv (.int .i64 (i64.wrap (z1222 + (1:Int)))) z z z (wl_nil (tn ?_))))
 replace hst := hst.pull3.pull3.keep2
 obtain rfl := some_inj hm
 exact ⟨_, Nat.lt_succ_self _, _, (i64.wrap (z1222 + (1:Int))), _, hx1230, (fu 0 p0 z (fu 1 r1_0 z (fu 5 v1054 z (fu 6 (.int .i64 (i64.wrap (z1222 + (1:Int)))) z z)))), hL1227, hst⟩
}
}
}
}
}
 {
 replace hm := bif_f hc1232 hm
 refine wp_iff (cvb hc1232) ?_
 refine wp_exit (then_x (then_x ?_))
 replace hm := inr_up hm hx1230
 refine blk_x (tn ?_)
 replace hst := hst.keep1
 obtain rfl := some_inj hm
 exact ⟨_, _, hx1315, (fu 0 p0 z (fu 1 r1_0 z z)), hL1316, hst⟩
}
}
 {
 clear hst
 rintro _ w1317 ⟨I1311, σ1312, hm, rfl, hL1313, hst⟩
 dsimp only [law12_told_j0] at hm
 replace f1_0 := f1_0.mono (ro_le hL1313)
 replace hI0 := hI0.trans hL1313
 refine wp_seq (wp_seq (wrl (wv (.int .u64 (0:Int)) z z z (wl_nil (tn (wp_block ?_))))))
 obtain ⟨n1501, hm⟩ := loopO_some hm
 refine wp_loop_n (fun n a w => ∃ (z1499 : Int) (σ1500 : Nat → Value), loopN (law12_told_l2 a1 a0) n z1499 = some r ∧ a = Fr 135 (upd (upd (upd σ1500 0 (p0)) 1 (r1_0)) 11 (.int .u64 z1499)) ∧ St w0 w I1311 [objO at_locks_Table p0 a0] R) n1501 ⟨(0:Int), _, hm, (fu 0 p0 z (fu 1 r1_0 z (fu 11 (.int .u64 (0:Int)) z z))), hst⟩ ?_
 rintro n1507 _ w1502 ⟨z1499, σ1500, hm, rfl, hst⟩
 obtain ⟨n1504, y1505, rfl, hm, hx1506⟩ := loopN_some hm
 dsimp only [law12_told_l2] at hm
 refine wp_seq (wp_seq (wrl (wv (.int .u64 z1499) z z z (wv (.bool (decide (z1499 < (6:Int)))) z z z (wl_nil (tn ?_))))))
 refine bsplit (decide (z1499 < (6:Int))) (fun hc1508 => ?_) (fun hc1508 => ?_)
 {
 replace hm := bif_t hc1508 hm
 refine wp_ift (cvb hc1508) ?_
 refine wp_skip (tn (wp_seq (wp_block (wp_seq (wrl ?_)))))
 refine wv (.bool false) z z z (wl_nil (tn ?_))
 obtain ⟨y1589, hm, hx1590⟩ := bind_some hm
 refine wp_cut (fun a w => ∃ (z1586 : Bool) (σ1587 : Nat → Value), (law12_told_j3 a0 z1499) z1586 = some y1505 ∧ a = Fr 135 (upd (upd (upd (upd σ1587 0 (p0)) 1 (r1_0)) 11 (.int .u64 z1499)) 12 (.bool z1586)) ∧ St w0 w I1311 [objO at_locks_Table p0 a0] R) ?_ ?_
 {
 refine wp_seq (wrl (wv (.int .i64 (0:Int)) z z z (wl_nil (tn (wp_block ?_)))))
 obtain ⟨n1557, hm⟩ := loopO_some hm
 refine wp_loop_n (fun n a w => ∃ (z1554 : Bool) (z1555 : Int) (σ1556 : Nat → Value), loopN (law12_told_l4 a1 z1499) n (z1554, z1555) = some y1589 ∧ a = Fr 135 (upd (upd (upd (upd (upd σ1556 0 (p0)) 1 (r1_0)) 11 (.int .u64 z1499)) 12 (.bool z1554)) 13 (.int .i64 z1555)) ∧ St w0 w I1311 [objO at_locks_Table p0 a0] R) n1557 ⟨false, (0:Int), _, hm, (fu 0 p0 z (fu 1 r1_0 z (fu 11 (.int .u64 z1499) z (fu 12 (.bool false) z (fu 13 (.int .i64 (0:Int)) z z))))), hst⟩ ?_
 rintro n1563 _ w1558 ⟨z1554, z1555, σ1556, hm, rfl, hst⟩
 obtain ⟨n1560, y1561, rfl, hm, hx1562⟩ := loopN_some hm
 dsimp only [law12_told_l4] at hm
 refine wp_seq (wp_seq (wrl (wv (.int .i64 z1555) z z z (wv (r1_0) z z z (wv (.int .i64 ((a1).length : Int)) z z (x_len z underlying22 (ro_sliceV f1_0)) (wv (.bool (decide (z1555 < ((a1).length : Int)))) z z z (wl_nil (tn ?_))))))))
 refine bsplit (decide (z1555 < ((a1).length : Int))) (fun hc1564 => ?_) (fun hc1564 => ?_)
 {
 replace hm := bif_t hc1564 hm
 refine wp_ift (cvb hc1564) ?_
 refine wp_skip (tn (wp_seq (wp_block (wrl ?_))))
 refine wv (.bool z1554) z z z (wv (.bool z1554) z z z ?_)
 refine bsplit z1554 (fun hc1565 => ?_) (fun hc1565 => ?_)
 {
 replace hm := bif_t hc1565 hm
 refine wo hc1565 z z z z z z (wo hc1565 z z z z z z (wo hc1565 z z z z z z (wo hc1565 z z z z z z (wo hc1565 z z z z z z (wo hc1565 z z z z z z (wo hc1565 z z z z z z (wv (.bool true) z z (x_pick_t hc1565 z z) (wv (.bool true) z z z (wl_nil (blk_n (tn (wrl (wv (.int .i64 z1555) z z z (wv (.int .i64 (i64.wrap (z1555 + (1:Int)))) z z z (wv (.int .i64 (i64.wrap (z1555 + (1:Int)))) z z z ?_)))))))))))))))
 refine wl_nil (tn ?_)
 replace hst := hst.keep1
 obtain rfl := some_inj hm
 exact ⟨_, Nat.lt_succ_self _, true, (i64.wrap (z1555 + (1:Int))), _, hx1562, (fu 0 p0 z (fu 1 r1_0 z (fu 11 (.int .u64 z1499) z (fu 12 (.bool true) z (fu 13 (.int .i64 (i64.wrap (z1555 + (1:Int)))) z z))))), hst⟩
}
 {
 replace hm := bif_f hc1565 hm
 refine wv (r1_0) ((wanted_eq z z z (cvb hc1565)).trans z) z z (wv (.int .i64 z1555) ((wanted_eq z z z (cvb hc1565)).trans z) z z ?_)
 obtain ⟨x1566, hx1567, hm⟩ := bind_some hm
 obtain ⟨h1568, h1569, hi1570⟩ := geto_some hx1567
 refine wv (.pointer (some (eAddr r1_0 (z1555.toNat * 7 + 0)))) ((wanted_eq z z z (cvb hc1565)).trans z) z (x_index z z underlying22 sizeOf34 (ro_sliceV f1_0) h1568 h1569) (wv (.pointer (some (eAddr r1_0 (z1555.toNat * 7 + 2)))) ((wanted_eq z z z (cvb hc1565)).trans z) z (x_field_e z underlying34 z sizeOf27 z) ?_)
 obtain ⟨cs1571, hr1572, hc1573⟩ := Ro.getF f1_0 hi1570
 obtain ⟨v1574, v1577, v1580, v1583, rfl, f1575, f1578, f1581, f1584, -⟩ := hr1572
 refine wv (.int .u64 x1566.Epoch) ((wanted_eq z z z (cvb hc1565)).trans z) z (x_load z isAgg27 ((hc1573 (HL.le.refl _) hst) 2 _ z)) (wv (.int .u64 z1499) ((wanted_eq z z z (cvb hc1565)).trans z) z z (wv (.bool (decide (x1566.Epoch ≤ z1499))) ((wanted_eq z z z (cvb hc1565)).trans z) z z (wv (.bool (decide (x1566.Epoch ≤ z1499))) z z (x_pick_f hc1565 z z) (wv (.bool (decide (x1566.Epoch ≤ z1499))) z z z (wl_nil (blk_n (tn (wrl (wv (.int .i64 z1555) z z z (wv (.int .i64 (i64.wrap (z1555 + (1:Int)))) z z z (wv (.int .i64 (i64.wrap (z1555 + (1:Int)))) z z z (wl_nil (tn ?_)))))))))))))
 replace hst := hst.keep1
 obtain rfl := some_inj hm
 exact ⟨_, Nat.lt_succ_self _, (decide (x1566.Epoch ≤ z1499)), (i64.wrap (z1555 + (1:Int))), _, hx1562, (fu 0 p0 z (fu 1 r1_0 z (fu 11 (.int .u64 z1499) z (fu 12 (.bool (decide (x1566.Epoch ≤ z1499))) z (fu 13 (.int .i64 (i64.wrap (z1555 + (1:Int)))) z z))))), hst⟩
}
}
 {
 replace hm := bif_f hc1564 hm
 refine wp_iff (cvb hc1564) ?_
 refine wp_exit (then_x (then_x ?_))
 replace hm := inr_up hm hx1562
 refine blk_x (tn ?_)
 replace hst := hst.keep1
 obtain rfl := some_inj hm
 exact ⟨z1554, _, hx1590, (fu 0 p0 z (fu 1 r1_0 z (fu 11 (.int .u64 z1499) z (fu 12 (.bool z1554) z z)))), hst⟩
}
}
 {
 clear hst
 rintro _ w1591 ⟨z1586, σ1587, hm, rfl, hst⟩
 dsimp only [law12_told_j3] at hm
 refine wp_seq (wrl (wv (p0) z z z (wv (.int .u64 z1499) z z z ?_)))
 obtain ⟨t1592, ht1593, hm⟩ := bind_some hm
 refine wc call28 [p0, U6 z1499] z z z ?_
 refine (locks_Table_Until_ref hst.to1 ht1593).mono ?_
 rintro _ w1594 ⟨rfl, hst⟩
 refine ⟨_, z, ?_⟩
 replace hst := hst.of1
 refine wv (.bool z1586) z z z (wv (.bool (!(t1592 == z1586))) z z (by kernel_rfl) (wl_nil (tn ?_)))
 refine bsplit (!(t1592 == z1586)) (fun hc1597 => ?_) (fun hc1597 => ?_)
 {
 replace hm := bif_t hc1597 hm
 refine wp_ift (cvb hc1597) ?_
 refine wp_seq (wrl (wv (.bool false) z z z (wl_nil (tn (wp_ret (blk_r (then_r (then_r ?_))))))))
 replace hm := inr_up hm hx1506
 refine blk_r (then_r ?_)
 obtain rfl := some_inj hm
 refine post_ret (vs := [.bool false]) results26 (rvs_cons (rv_tmp z) rvs_nil) ?_
 exact ⟨_, z, hI0, hst.keep1⟩
}
 {
 replace hm := bif_f hc1597 hm
 refine wp_iff (cvb hc1597) ?_
 refine wp_skip (blk_n (tn (wrl ?_)))
 refine wv (.int .u64 z1499) z z z (wv (.int .u64 (u64.wrap (z1499 + (1:Int)))) z z z (wv (.int .u64 (u64.wrap (z1499 + (1:Int)))) z z z (wl_nil (tn ?_))))
 replace hst := hst.keep1
 obtain rfl := some_inj hm
 exact ⟨_, Nat.lt_succ_self _, (u64.wrap (z1499 + (1:Int))), _, hx1506, (fu 0 p0 z (fu 1 r1_0 z (fu 11 (.int .u64 (u64.wrap (z1499 + (1:Int)))) z z))), hst⟩
}
}
}
 {
 replace hm := bif_f hc1508 hm
 refine wp_iff (cvb hc1508) ?_
 refine wp_exit (then_x (then_x ?_))
 replace hm := inr_up hm hx1506
 refine blk_x (tn (wp_seq (wrl ?_)))
 refine wv (.bool true) z z z (wl_nil (tn (wp_ret ?_)))
 obtain rfl := some_inj hm
 refine post_ret (vs := [.bool true]) results26 (rvs_cons (rv_tmp z) rvs_nil) ?_
 exact ⟨_, z, hI0, hst.keep1⟩
}
}
}
}
}

end Go.Proofs.Ytbdhhmnncknhhaa
