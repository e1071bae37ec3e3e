/- The Go functions refine their models, part 1. -/
import Derived.Test.YtbdhhmnncknhhaaLocksJunkR0
set_option linter.unusedVariables false
set_option linter.unusedSimpArgs false
set_option maxRecDepth 100000
set_option maxHeartbeats 4000000
namespace Go.Proofs.Ytbdhhmnncknhhaa
open Go Go.V
open _root_.Go.Proofs.Try IntKind
attribute [local irreducible] wpList Code.wp wpQuiet Calls bodyPost Oper.wp wpS Nx PendOK YieldsIn
theorem locks_Read_ref {w0 w : World} {I : HL} {R : SP} {a0 : octet_Reader} {p0 : Value}  (hst : St w0 w I [at_octet_Reader p0 a0] R) {r : (api_Hold × octet_Reader)} (hm : locks_Read a0 = some r) :
  Calls prog 34 #[p0] w fun e w' => ∃ (q0_0 : Value) (q0_1 : Value) (q0_2 : Value) (q0_3 : Value), e = .returned (.agg #[U6 r.1.ID.Session, U6 r.1.ID.Seq, U6 r.1.Epoch, q0_0, q0_1, q0_2, q0_3]) ∧ St w0 w' I [ownS tyF64 q0_0 r.1.Gets, ownS tyF2 q0_1 r.1.Scans, ownS tyF64 q0_2 r.1.Puts, ownS (tyInt .u8) q0_3 r.1.Data, at_octet_Reader p0 r.2] R := by {
 unfold locks_Read at hm
 refine calls_start (args := [p0]) func34 z ntmps34 (Nat.le_of_ble_eq_true z) ?_
 refine wp_seq (wrl ?_)
 obtain ⟨b520, w521, ew522, eb523, hst⟩ := hst.box [Zu, Zu, Zu, Zs, Zs, Zs, Zs] 34
 refine wl_run (v := Pt b520 0) (w' := w521) z z (x_al (by kernel_rfl) ew522 eb523) ?_
 refine wl_nil (tn (wp_seq (wrl (wv (p0) z z z ?_))))
 replace hst := hst.pull1
 obtain ⟨t525, ht526, hm⟩ := bind_some hm
 refine wc call63 [p0, I6 (8:Int)] z z z ?_
 refine (octet_Reader_Num_ref hst.to1 ht526).mono ?_
 rintro _ w527 ⟨rfl, hst⟩
 refine ⟨_, z, ?_⟩
 replace hst := hst.of1
 refine wv (p0) z z z ?_
 obtain ⟨t530, ht531, hm⟩ := bind_some hm
 refine wc call63 [p0, I6 (8:Int)] z z z ?_
 refine (octet_Reader_Num_ref hst.to1 ht531).mono ?_
 rintro _ w532 ⟨rfl, hst⟩
 refine ⟨_, z, ?_⟩
 replace hst := hst.of1
 refine wv (.agg #[U6 t525.1, U6 t530.1]) z z (by kernel_rfl) (wv (p0) z z z ?_)
 obtain ⟨t535, ht536, hm⟩ := bind_some hm
 refine wc call63 [p0, I6 (8:Int)] z z z ?_
 refine (octet_Reader_Num_ref hst.to1 ht536).mono ?_
 rintro _ w537 ⟨rfl, hst⟩
 refine ⟨_, z, ?_⟩
 replace hst := hst.of1
 refine wv (.agg #[U6 t525.1, U6 t530.1, U6 t535.1, Zs, Zs, Zs, Zs]) z z (by kernel_rfl) ?_
 obtain ⟨b548, w549, ew550, eb551, hst⟩ := hst.box [Zu, Zu, Zu, Zs, Zs, Zs, Zs] 34
 refine wl_run (v := Pt b548 0) (w' := w549) z z (x_al (by kernel_rfl) ew550 eb551) ?_
 obtain ⟨w553, hr554, hst⟩ := hst.bx [U6 t525.1, U6 t530.1, U6 t535.1, Zs, Zs, Zs, Zs] sizeOf34 z (oC z (oC z (oC z (oC z (oC z (oC z (oC z oN))))))) (by kernel_rfl)
 refine wl_unit z z (x_unit hr554) ?_
 refine wl_nil (tn ?_)
 obtain ⟨y676, hm, hx677⟩ := bind_some hm
 refine wp_cut (fun a w => ∃ (z670 : octet_Reader) (z673 : (List Nat)) (v672 : Value) (σ674 : Nat → Value), (locks_Read_j0 t525 t530 t535) (z670, z673) = some r ∧ a = Fr 59 (upd (upd (upd σ674 0 (p0)) 2 (Pt b520 0)) 3 (Pt b548 0)) ∧ St w0 w I [at_octet_Reader p0 z670, cells b520 [Zu, Zu, Zu, Zs, Zs, Zs, Zs], cells b548 [U6 t525.1, U6 t530.1, U6 t535.1, v672, Zs, Zs, Zs], ownS tyF64 v672 z673] R) ?_ ?_
 {
 refine wp_seq (wrl (wv (p0) z z z ?_))
 replace hst := hst.pull1
 obtain ⟨t555, ht556, hm⟩ := bind_some hm
 refine wc call57 [p0, I6 (32:Int)] z z z ?_
 refine (octet_Reader_Count_ref hst.to1 ht556).mono ?_
 rintro _ w557 ⟨rfl, hst⟩
 refine ⟨_, z, ?_⟩
 replace hst := hst.of1
 refine wv (.int .i64 (0:Int)) z z z (wl_nil (tn (wp_block ?_)))
 replace hst := hst.own_nil tyF64
 obtain ⟨n640, hm⟩ := loopO_some hm
 refine wp_loop_n (fun n a w => ∃ (z634 : (List Nat)) (z637 : octet_Reader) (z638 : Int) (v635 : Value) (σ639 : Nat → Value), loopN (locks_Read_l1 t555) n (z634, z637, z638) = some y676 ∧ a = Fr 59 (upd (upd (upd (upd (upd σ639 0 (p0)) 2 (Pt b520 0)) 3 (Pt b548 0)) 13 (.int .i64 t555.1)) 14 (.int .i64 z638)) ∧ St w0 w I [ownS tyF64 v635 z634, at_octet_Reader p0 z637, cells b548 [U6 t525.1, U6 t530.1, U6 t535.1, v635, Zs, Zs, Zs], cells b520 [Zu, Zu, Zu, Zs, Zs, Zs, Zs]] R) n640 ⟨[], t555.2, (0:Int), Zs, _, hm, (fu 0 p0 z (fu 2 (Pt b520 0) z (fu 3 (Pt b548 0) z (fu 13 (.int .i64 t555.1) z (fu 14 (.int .i64 (0:Int)) z z))))), hst⟩ ?_
 rintro n646 _ w641 ⟨z634, z637, z638, v635, σ639, hm, rfl, hst⟩
 obtain ⟨n643, y644, rfl, hm, hx645⟩ := loopN_some hm
 dsimp only [locks_Read_l1] at hm
 refine wp_seq (wrl (wv (.bool (decide (z638 < t555.1))) z z z (wl_nil (tn (wp_seq ?_)))))
 refine bsplit (decide (z638 < t555.1)) (fun hc647 => ?_) (fun hc647 => ?_)
 {
 replace hm := bif_t hc647 hm
 refine wp_ift (cvb hc647) ?_
 refine wp_skip (tn (wp_seq (wp_block ?_)))
 refine wp_region_St hst 9 [0, 1, 2, 3, 4, 5, 6, 7, 8] [0, 1, 0, 4, 12, 28, 63, 127, 255] [] z (by kernel_rfl) (by kernel_rfl) Try.mixed (by kernel_rfl) ?_
 refine wsr (Pt b548 3) 0 z z z (by kernel_rfl) (fun w hst => x_field z underlying34 z sizeOf30 z) (wsr (v635) 1 z z z (by kernel_rfl) (fun w hst => x_load z isAgg30 (hst.bc2 z)) (wsr (p0) 2 z z z (by kernel_rfl) (fun w hst => z) ?_))
 refine ws_e1 3 (by kernel_rfl) ?_
 refine nxe [4, 5, 6, 7, 8] (by kernel_rfl) z z ?_
 clear hst
 intro w hst
 replace hst := hst.pull1
 obtain ⟨t648, ht649, hm⟩ := bind_some hm
 refine wec call63 [p0, I6 (8:Int)] z z ?_
 refine (octet_Reader_Num_ref hst.to1 ht649).mono ?_
 rintro _ w650 ⟨rfl, hst⟩
 refine ⟨_, z, ?_⟩
 replace hst := hst.of1
 refine ws_next (pend' := [(1, v635), (0, Pt b548 3)]) hst (by kernel_rfl) (pkr z z (fun w hst => x_load z isAgg30 (hst.bc2 z)) (pkr z z (fun w hst => x_field z underlying34 z sizeOf30 z) pk_nil)) ?_
 refine ws_e1 4 (by kernel_rfl) ?_
 refine nxe [5, 6, 7, 8] (by kernel_rfl) z z ?_
 clear hst
 intro w hst
 obtain ⟨t653, ht654, hm⟩ := bind_some hm
 refine wec call64 [U6 t648.1] z z ?_
 refine (number_Back_ref hst.to0 ht654).mono ?_
 rintro _ w655 ⟨rfl, hst⟩
 refine ⟨_, z, ?_⟩
 replace hst := hst.of0
 refine ws_next (pend' := [(1, v635), (0, Pt b548 3)]) hst (by kernel_rfl) (pkr z z (fun w hst => x_load z isAgg30 (hst.bc2 z)) (pkr z z (fun w hst => x_field z underlying34 z sizeOf30 z) pk_nil)) ?_
 refine ws_e1 5 (by kernel_rfl) ?_
 refine nxe [6, 7, 8] (by kernel_rfl) z z ?_
 clear hst
 intro w hst
 obtain ⟨b658, w659, ew660, eb661, hst⟩ := hst.lits (E := tyF64) (xs := [t653]) [[F6 t653]] 57 1 z (Reps.cons z Reps.nil)
 refine we_run (v := (.slice (some ⟨b658, 0, none⟩) 1 1)) (w' := w659) z (x_als (by kernel_rfl) ew660 eb661) ?_
 refine ws_next (pend' := [(1, v635), (0, Pt b548 3)]) hst (by kernel_rfl) (pkr z z (fun w hst => x_load z isAgg30 (hst.bc3 z)) (pkr z z (fun w hst => x_field z underlying34 z sizeOf30 z) pk_nil)) ?_
 refine ws_e1 6 (by kernel_rfl) ?_
 refine nxe [7, 8] (by kernel_rfl) z z ?_
 clear hst
 intro w hst
 obtain ⟨hg663, hm⟩ := gd_some hm
 replace hst := hst.pull2
 obtain ⟨v664, w665, hr666, hst⟩ := run_append elem_30 underlying30 hst hst.src1 (room_of hg663 z) 30
 refine we_run (v := v664) (w' := w665) z (x_append z z hr666) ?_
 refine ws_next (pend' := []) hst (by kernel_rfl) pk_nil ?_
 refine wsr (Pt b548 3) 7 z z z (by kernel_rfl) (fun w hst => x_field z underlying34 z sizeOf30 z) ?_
 refine ws_e1 8 (by kernel_rfl) ?_
 refine nxe [] (by kernel_rfl) z z ?_
 clear hst
 intro w hst
 replace hst := hst.pull3
 obtain ⟨w668, hr669, hst⟩ := hst.boxStore1 (P := prog) (t := 30) (cs' := [U6 t525.1, U6 t530.1, U6 t535.1, v664, Zs, Zs, Zs]) 3 v664 (one_of_sliceV hst.sv1) sizeOf30 z z
 refine we_unit z (x_unit hr669) ?_
 refine ws_next (pend' := []) hst (by kernel_rfl) pk_nil ?_
 refine ws_nil ?_
 intro w hst
 refine blk_n (tn (wrl ?_))
 refine wv (.int .i64 (i64.wrap (z638 + (1:Int)))) z z z (wv (.int .i64 (i64.wrap (z638 + (1:Int)))) z z z (wl_nil (tn ?_)))
 replace hst := hst.pull4.pull1.pull4.pull3.keep4
 obtain rfl := some_inj hm
 exact ⟨_, Nat.lt_succ_self _, (z634 ++ ([t653])), t648.2, (i64.wrap (z638 + (1:Int))), v664, _, hx645, (fu 0 p0 z (fu 2 (Pt b520 0) z (fu 3 (Pt b548 0) z (fu 13 (.int .i64 t555.1) z (fu 14 (.int .i64 (i64.wrap (z638 + (1:Int)))) z z))))), hst⟩
}
 {
 replace hm := bif_f hc647 hm
 refine wp_iff (cvb hc647) ?_
 refine wp_exit (then_x (then_x ?_))
 replace hm := inr_up hm hx645
 refine blk_x (tn ?_)
 replace hst := hst.pull2.pull3.pull3.keep4
 obtain rfl := some_inj hm
 exact ⟨z637, z634, v635, _, hx677, (fu 0 p0 z (fu 2 (Pt b520 0) z (fu 3 (Pt b548 0) z z))), hst⟩
}
}
 {
 clear hst
 rintro _ w678 ⟨z670, z673, v672, σ674, hm, rfl, hst⟩
 dsimp only [locks_Read_j0] at hm
 obtain ⟨y840, hm, hx841⟩ := bind_some hm
 refine wp_cut (fun a w => ∃ (z834 : octet_Reader) (z837 : (List (Nat × Nat))) (v836 : Value) (σ838 : Nat → Value), (locks_Read_j2 t525 t530 t535 z673) (z834, z837) = some r ∧ a = Fr 59 (upd (upd (upd σ838 0 (p0)) 2 (Pt b520 0)) 3 (Pt b548 0)) ∧ St w0 w I [at_octet_Reader p0 z834, cells b520 [Zu, Zu, Zu, Zs, Zs, Zs, Zs], cells b548 [U6 t525.1, U6 t530.1, U6 t535.1, v672, v836, Zs, Zs], ownS tyF64 v672 z673, ownS tyF2 v836 z837] R) ?_ ?_
 {
 refine wp_seq (wrl (wv (p0) z z z ?_))
 obtain ⟨t679, ht680, hm⟩ := bind_some hm
 refine wc call57 [p0, I6 (32:Int)] z z z ?_
 refine (octet_Reader_Count_ref hst.to1 ht680).mono ?_
 rintro _ w681 ⟨rfl, hst⟩
 refine ⟨_, z, ?_⟩
 replace hst := hst.of1
 refine wv (.int .i64 (0:Int)) z z z (wl_nil (tn (wp_block ?_)))
 replace hst := hst.own_nil tyF2
 obtain ⟨n794, hm⟩ := loopO_some hm
 refine wp_loop_n (fun n a w => ∃ (z788 : (List (Nat × Nat))) (z791 : octet_Reader) (z792 : Int) (v789 : Value) (σ793 : Nat → Value), loopN (locks_Read_l3 t679) n (z788, z791, z792) = some y840 ∧ a = Fr 59 (upd (upd (upd (upd (upd σ793 0 (p0)) 2 (Pt b520 0)) 3 (Pt b548 0)) 26 (.int .i64 t679.1)) 27 (.int .i64 z792)) ∧ St w0 w I [ownS tyF2 v789 z788, at_octet_Reader p0 z791, cells b520 [Zu, Zu, Zu, Zs, Zs, Zs, Zs], cells b548 [U6 t525.1, U6 t530.1, U6 t535.1, v672, v789, Zs, Zs], ownS tyF64 v672 z673] R) n794 ⟨[], t679.2, (0:Int), Zs, _, hm, (fu 0 p0 z (fu 2 (Pt b520 0) z (fu 3 (Pt b548 0) z (fu 26 (.int .i64 t679.1) z (fu 27 (.int .i64 (0:Int)) z z))))), hst⟩ ?_
 rintro n800 _ w795 ⟨z788, z791, z792, v789, σ793, hm, rfl, hst⟩
 obtain ⟨n797, y798, rfl, hm, hx799⟩ := loopN_some hm
 dsimp only [locks_Read_l3] at hm
 refine wp_seq (wrl (wv (.bool (decide (z792 < t679.1))) z z z (wl_nil (tn (wp_seq ?_)))))
 refine bsplit (decide (z792 < t679.1)) (fun hc801 => ?_) (fun hc801 => ?_)
 {
 replace hm := bif_t hc801 hm
 refine wp_ift (cvb hc801) ?_
 refine wp_skip (tn (wp_seq (wp_block ?_)))
 refine wp_region_St hst 13 [0, 1, 2, 3, 4, 5, 6, 7, 8, 9, 10, 11, 12] [0, 1, 0, 4, 12, 0, 60, 124, 252, 508, 1023, 2047, 4095] [] z (by kernel_rfl) (by kernel_rfl) Try.mixed (by kernel_rfl) ?_
 refine wsr (Pt b548 4) 0 z z z (by kernel_rfl) (fun w hst => x_field z underlying34 z sizeOf31 z) (wsr (v789) 1 z z z (by kernel_rfl) (fun w hst => x_load z isAgg31 (hst.bc3 z)) (wsr (p0) 2 z z z (by kernel_rfl) (fun w hst => z) (wsr (p0) 5 z z z (by kernel_rfl) (fun w hst => z) ?_)))
 refine ws_e1 3 (by kernel_rfl) ?_
 refine nxe [4, 6, 7, 8, 9, 10, 11, 12] (by kernel_rfl) z z ?_
 clear hst
 intro w hst
 replace hst := hst.pull1
 obtain ⟨t802, ht803, hm⟩ := bind_some hm
 refine wec call63 [p0, I6 (8:Int)] z z ?_
 refine (octet_Reader_Num_ref hst.to1 ht803).mono ?_
 rintro _ w804 ⟨rfl, hst⟩
 refine ⟨_, z, ?_⟩
 replace hst := hst.of1
 refine ws_next (pend' := [(5, p0), (1, v789), (0, Pt b548 4)]) hst (by kernel_rfl) (pkr z z (fun w hst => z) (pkr z z (fun w hst => x_load z isAgg31 (hst.bc3 z)) (pkr z z (fun w hst => x_field z underlying34 z sizeOf31 z) pk_nil))) ?_
 refine ws_e1 4 (by kernel_rfl) ?_
 refine nxe [6, 7, 8, 9, 10, 11, 12] (by kernel_rfl) z z ?_
 clear hst
 intro w hst
 obtain ⟨t807, ht808, hm⟩ := bind_some hm
 refine wec call64 [U6 t802.1] z z ?_
 refine (number_Back_ref hst.to0 ht808).mono ?_
 rintro _ w809 ⟨rfl, hst⟩
 refine ⟨_, z, ?_⟩
 replace hst := hst.of0
 refine ws_next (pend' := [(5, p0), (1, v789), (0, Pt b548 4)]) hst (by kernel_rfl) (pkr z z (fun w hst => z) (pkr z z (fun w hst => x_load z isAgg31 (hst.bc3 z)) (pkr z z (fun w hst => x_field z underlying34 z sizeOf31 z) pk_nil))) ?_
 refine ws_e1 6 (by kernel_rfl) ?_
 refine nxe [7, 8, 9, 10, 11, 12] (by kernel_rfl) z z ?_
 clear hst
 intro w hst
 obtain ⟨t812, ht813, hm⟩ := bind_some hm
 refine wec call63 [p0, I6 (8:Int)] z z ?_
 refine (octet_Reader_Num_ref hst.to1 ht813).mono ?_
 rintro _ w814 ⟨rfl, hst⟩
 refine ⟨_, z, ?_⟩
 replace hst := hst.of1
 refine ws_next (pend' := [(1, v789), (0, Pt b548 4)]) hst (by kernel_rfl) (pkr z z (fun w hst => x_load z isAgg31 (hst.bc3 z)) (pkr z z (fun w hst => x_field z underlying34 z sizeOf31 z) pk_nil)) ?_
 refine ws_e1 7 (by kernel_rfl) ?_
 refine nxe [8, 9, 10, 11, 12] (by kernel_rfl) z z ?_
 clear hst
 intro w hst
 obtain ⟨t817, ht818, hm⟩ := bind_some hm
 refine wec call64 [U6 t812.1] z z ?_
 refine (number_Back_ref hst.to0 ht818).mono ?_
 rintro _ w819 ⟨rfl, hst⟩
 refine ⟨_, z, ?_⟩
 replace hst := hst.of0
 refine ws_next (pend' := [(1, v789), (0, Pt b548 4)]) hst (by kernel_rfl) (pkr z z (fun w hst => x_load z isAgg31 (hst.bc3 z)) (pkr z z (fun w hst => x_field z underlying34 z sizeOf31 z) pk_nil)) ?_
 refine wsr (.agg #[F6 t807, F6 t817]) 8 z z z (by kernel_rfl) (fun w hst => by kernel_rfl) ?_
 refine ws_e1 9 (by kernel_rfl) ?_
 refine nxe [10, 11, 12] (by kernel_rfl) z z ?_
 clear hst
 intro w hst
 obtain ⟨b822, w823, ew824, eb825, hst⟩ := hst.lits (E := tyF2) (xs := [(t807, t817)]) [[F6 t807, F6 t817]] 75 1 z (Reps.cons z Reps.nil)
 refine we_run (v := (.slice (some ⟨b822, 0, none⟩) 1 1)) (w' := w823) z (x_als (by kernel_rfl) ew824 eb825) ?_
 refine ws_next (pend' := [(1, v789), (0, Pt b548 4)]) hst (by kernel_rfl) (pkr z z (fun w hst => x_load z isAgg31 (hst.bc4 z)) (pkr z z (fun w hst => x_field z underlying34 z sizeOf31 z) pk_nil)) ?_
 refine ws_e1 10 (by kernel_rfl) ?_
 refine nxe [11, 12] (by kernel_rfl) z z ?_
 clear hst
 intro w hst
 obtain ⟨hg827, hm⟩ := gd_some hm
 replace hst := hst.pull2
 obtain ⟨v828, w829, hr830, hst⟩ := run_append elem_31 underlying31 hst hst.src1 (room_of hg827 z) 31
 refine we_run (v := v828) (w' := w829) z (x_append z z hr830) ?_
 refine ws_next (pend' := []) hst (by kernel_rfl) pk_nil ?_
 refine wsr (Pt b548 4) 11 z z z (by kernel_rfl) (fun w hst => x_field z underlying34 z sizeOf31 z) ?_
 refine ws_e1 12 (by kernel_rfl) ?_
 refine nxe [] (by kernel_rfl) z z ?_
 clear hst
 intro w hst
 replace hst := hst.pull4
 obtain ⟨w832, hr833, hst⟩ := hst.boxStore1 (P := prog) (t := 31) (cs' := [U6 t525.1, U6 t530.1, U6 t535.1, v672, v828, Zs, Zs]) 4 v828 (one_of_sliceV hst.sv1) sizeOf31 z z
 refine we_unit z (x_unit hr833) ?_
 refine ws_next (pend' := []) hst (by kernel_rfl) pk_nil ?_
 refine ws_nil ?_
 intro w hst
 refine blk_n (tn (wrl ?_))
 refine wv (.int .i64 (i64.wrap (z792 + (1:Int)))) z z z (wv (.int .i64 (i64.wrap (z792 + (1:Int)))) z z z (wl_nil (tn ?_)))
 replace hst := hst.pull5.pull1.pull5.pull5.pull4.keep5
 obtain rfl := some_inj hm
 exact ⟨_, Nat.lt_succ_self _, (z788 ++ ([(t807, t817)])), t812.2, (i64.wrap (z792 + (1:Int))), v828, _, hx799, (fu 0 p0 z (fu 2 (Pt b520 0) z (fu 3 (Pt b548 0) z (fu 26 (.int .i64 t679.1) z (fu 27 (.int .i64 (i64.wrap (z792 + (1:Int)))) z z))))), hst⟩
}
 {
 replace hm := bif_f hc801 hm
 refine wp_iff (cvb hc801) ?_
 refine wp_exit (then_x (then_x ?_))
 replace hm := inr_up hm hx799
 refine blk_x (tn ?_)
 replace hst := hst.pull4.pull4.pull4.pull4.keep5
 obtain rfl := some_inj hm
 exact ⟨z791, z788, v789, _, hx841, (fu 0 p0 z (fu 2 (Pt b520 0) z (fu 3 (Pt b548 0) z z))), hst⟩
}
}
 {
 clear hst
 rintro _ w842 ⟨z834, z837, v836, σ838, hm, rfl, hst⟩
 dsimp only [locks_Read_j2] at hm
 obtain ⟨y964, hm, hx965⟩ := bind_some hm
 refine wp_cut (fun a w => ∃ (z958 : octet_Reader) (z961 : (List Nat)) (v960 : Value) (σ962 : Nat → Value), (locks_Read_j4 t525 t530 t535 z673 z837) (z958, z961) = some r ∧ a = Fr 59 (upd (upd (upd σ962 0 (p0)) 2 (Pt b520 0)) 3 (Pt b548 0)) ∧ St w0 w I [at_octet_Reader p0 z958, cells b520 [Zu, Zu, Zu, Zs, Zs, Zs, Zs], cells b548 [U6 t525.1, U6 t530.1, U6 t535.1, v672, v836, v960, Zs], ownS tyF64 v672 z673, ownS tyF2 v836 z837, ownS tyF64 v960 z961] R) ?_ ?_
 {
 refine wp_seq (wrl (wv (p0) z z z ?_))
 obtain ⟨t843, ht844, hm⟩ := bind_some hm
 refine wc call57 [p0, I6 (32:Int)] z z z ?_
 refine (octet_Reader_Count_ref hst.to1 ht844).mono ?_
 rintro _ w845 ⟨rfl, hst⟩
 refine ⟨_, z, ?_⟩
 replace hst := hst.of1
 refine wv (.int .i64 (0:Int)) z z z (wl_nil (tn (wp_block ?_)))
 replace hst := hst.own_nil tyF64
 obtain ⟨n928, hm⟩ := loopO_some hm
 refine wp_loop_n (fun n a w => ∃ (z922 : (List Nat)) (z925 : octet_Reader) (z926 : Int) (v923 : Value) (σ927 : Nat → Value), loopN (locks_Read_l5 t843) n (z922, z925, z926) = some y964 ∧ a = Fr 59 (upd (upd (upd (upd (upd σ927 0 (p0)) 2 (Pt b520 0)) 3 (Pt b548 0)) 43 (.int .i64 t843.1)) 44 (.int .i64 z926)) ∧ St w0 w I [ownS tyF64 v923 z922, at_octet_Reader p0 z925, cells b520 [Zu, Zu, Zu, Zs, Zs, Zs, Zs], cells b548 [U6 t525.1, U6 t530.1, U6 t535.1, v672, v836, v923, Zs], ownS tyF64 v672 z673, ownS tyF2 v836 z837] R) n928 ⟨[], t843.2, (0:Int), Zs, _, hm, (fu 0 p0 z (fu 2 (Pt b520 0) z (fu 3 (Pt b548 0) z (fu 43 (.int .i64 t843.1) z (fu 44 (.int .i64 (0:Int)) z z))))), hst⟩ ?_
 rintro n934 _ w929 ⟨z922, z925, z926, v923, σ927, hm, rfl, hst⟩
 obtain ⟨n931, y932, rfl, hm, hx933⟩ := loopN_some hm
 dsimp only [locks_Read_l5] at hm
 refine wp_seq (wrl (wv (.bool (decide (z926 < t843.1))) z z z (wl_nil (tn (wp_seq ?_)))))
 refine bsplit (decide (z926 < t843.1)) (fun hc935 => ?_) (fun hc935 => ?_)
 {
 replace hm := bif_t hc935 hm
 refine wp_ift (cvb hc935) ?_
 refine wp_skip (tn (wp_seq (wp_block ?_)))
 refine wp_region_St hst 9 [0, 1, 2, 3, 4, 5, 6, 7, 8] [0, 1, 0, 4, 12, 28, 63, 127, 255] [] z (by kernel_rfl) (by kernel_rfl) Try.mixed (by kernel_rfl) ?_
 refine wsr (Pt b548 5) 0 z z z (by kernel_rfl) (fun w hst => x_field z underlying34 z sizeOf30 z) (wsr (v923) 1 z z z (by kernel_rfl) (fun w hst => x_load z isAgg30 (hst.bc3 z)) (wsr (p0) 2 z z z (by kernel_rfl) (fun w hst => z) ?_))
 refine ws_e1 3 (by kernel_rfl) ?_
 refine nxe [4, 5, 6, 7, 8] (by kernel_rfl) z z ?_
 clear hst
 intro w hst
 replace hst := hst.pull1
 obtain ⟨t936, ht937, hm⟩ := bind_some hm
 refine wec call63 [p0, I6 (8:Int)] z z ?_
 refine (octet_Reader_Num_ref hst.to1 ht937).mono ?_
 rintro _ w938 ⟨rfl, hst⟩
 refine ⟨_, z, ?_⟩
 replace hst := hst.of1
 refine ws_next (pend' := [(1, v923), (0, Pt b548 5)]) hst (by kernel_rfl) (pkr z z (fun w hst => x_load z isAgg30 (hst.bc3 z)) (pkr z z (fun w hst => x_field z underlying34 z sizeOf30 z) pk_nil)) ?_
 refine ws_e1 4 (by kernel_rfl) ?_
 refine nxe [5, 6, 7, 8] (by kernel_rfl) z z ?_
 clear hst
 intro w hst
 obtain ⟨t941, ht942, hm⟩ := bind_some hm
 refine wec call64 [U6 t936.1] z z ?_
 refine (number_Back_ref hst.to0 ht942).mono ?_
 rintro _ w943 ⟨rfl, hst⟩
 refine ⟨_, z, ?_⟩
 replace hst := hst.of0
 refine ws_next (pend' := [(1, v923), (0, Pt b548 5)]) hst (by kernel_rfl) (pkr z z (fun w hst => x_load z isAgg30 (hst.bc3 z)) (pkr z z (fun w hst => x_field z underlying34 z sizeOf30 z) pk_nil)) ?_
 refine ws_e1 5 (by kernel_rfl) ?_
 refine nxe [6, 7, 8] (by kernel_rfl) z z ?_
 clear hst
 intro w hst
 obtain ⟨b946, w947, ew948, eb949, hst⟩ := hst.lits (E := tyF64) (xs := [t941]) [[F6 t941]] 57 1 z (Reps.cons z Reps.nil)
 refine we_run (v := (.slice (some ⟨b946, 0, none⟩) 1 1)) (w' := w947) z (x_als (by kernel_rfl) ew948 eb949) ?_
 refine ws_next (pend' := [(1, v923), (0, Pt b548 5)]) hst (by kernel_rfl) (pkr z z (fun w hst => x_load z isAgg30 (hst.bc4 z)) (pkr z z (fun w hst => x_field z underlying34 z sizeOf30 z) pk_nil)) ?_
 refine ws_e1 6 (by kernel_rfl) ?_
 refine nxe [7, 8] (by kernel_rfl) z z ?_
 clear hst
 intro w hst
 obtain ⟨hg951, hm⟩ := gd_some hm
 replace hst := hst.pull2
 obtain ⟨v952, w953, hr954, hst⟩ := run_append elem_30 underlying30 hst hst.src1 (room_of hg951 z) 30
 refine we_run (v := v952) (w' := w953) z (x_append z z hr954) ?_
 refine ws_next (pend' := []) hst (by kernel_rfl) pk_nil ?_
 refine wsr (Pt b548 5) 7 z z z (by kernel_rfl) (fun w hst => x_field z underlying34 z sizeOf30 z) ?_
 refine ws_e1 8 (by kernel_rfl) ?_
 refine nxe [] (by kernel_rfl) z z ?_
 clear hst
 intro w hst
 replace hst := hst.pull4
 obtain ⟨w956, hr957, hst⟩ := hst.boxStore1 (P := prog) (t := 30) (cs' := [U6 t525.1, U6 t530.1, U6 t535.1, v672, v836, v952, Zs]) 5 v952 (one_of_sliceV hst.sv1) sizeOf30 z z
 refine we_unit z (x_unit hr957) ?_
 refine ws_next (pend' := []) hst (by kernel_rfl) pk_nil ?_
 refine ws_nil ?_
 intro w hst
 refine blk_n (tn (wrl ?_))
 refine wv (.int .i64 (i64.wrap (z926 + (1:Int)))) z z z (wv (.int .i64 (i64.wrap (z926 + (1:Int)))) z z z (wl_nil (tn ?_)))
 replace hst := hst.pull6.pull6.pull2.pull6.pull6.pull5.keep6
 obtain rfl := some_inj hm
 exact ⟨_, Nat.lt_succ_self _, (z922 ++ ([t941])), t936.2, (i64.wrap (z926 + (1:Int))), v952, _, hx933, (fu 0 p0 z (fu 2 (Pt b520 0) z (fu 3 (Pt b548 0) z (fu 43 (.int .i64 t843.1) z (fu 44 (.int .i64 (i64.wrap (z926 + (1:Int)))) z z))))), hst⟩
}
 {
 replace hm := bif_f hc935 hm
 refine wp_iff (cvb hc935) ?_
 refine wp_exit (then_x (then_x ?_))
 replace hm := inr_up hm hx933
 refine blk_x (tn ?_)
 replace hst := hst.pull5.pull5.pull5.pull5.pull5.keep6
 obtain rfl := some_inj hm
 exact ⟨z925, z922, v923, _, hx965, (fu 0 p0 z (fu 2 (Pt b520 0) z (fu 3 (Pt b548 0) z z))), hst⟩
}
}
 {
 clear hst
 rintro _ w966 ⟨z958, z961, v960, σ962, hm, rfl, hst⟩
 dsimp only [locks_Read_j4] at hm
 refine wp_seq (wrl (wv (p0) z z z ?_))
 obtain ⟨t967, ht968, hm⟩ := bind_some hm
 refine wc call65 [p0, I6 (257:Int)] z z z ?_
 refine (octet_Reader_Bytes_ref hst.to1 ht968).mono ?_
 rintro _ w969 ⟨v972, rfl, hst⟩
 refine ⟨_, z, ?_⟩
 replace hst := hst.of2
 refine wv (Pt b548 6) z z (x_field z underlying34 z sizeOf32 z) ?_
 replace hst := hst.pull3
 obtain ⟨w974, hr975, hst⟩ := hst.boxStore1 (P := prog) (t := 32) (cs' := [U6 t525.1, U6 t530.1, U6 t535.1, v672, v836, v960, v972]) 6 v972 (one_of_sliceV hst.sv1) sizeOf32 z z
 refine wl_unit z z (x_unit hr975) ?_
 refine wl_nil (tn (wp_seq (wrl (wv (.agg #[U6 t525.1, U6 t530.1, U6 t535.1, v672, v836, v960, v972]) z z (x_loadN (cs := [U6 t525.1, U6 t530.1, U6 t535.1, v672, v836, v960, v972]) z isAgg34 sizeOf34 (hst.bcs0 0 z)) ?_))))
 replace hst := hst.pull3
 obtain ⟨w976, hr977, hst⟩ := hst.bx [U6 t525.1, U6 t530.1, U6 t535.1, v672, v836, v960, v972] sizeOf34 z (oC z (oC z (oC z (oC (one_of_sliceV hst.sv4) (oC (one_of_sliceV hst.sv5) (oC (one_of_sliceV hst.sv6) (oC (one_of_sliceV hst.sv2) oN))))))) (by kernel_rfl)
 refine wl_unit z z (x_unit hr977) ?_
 refine wl_nil (tn (wp_ret ?_))
 obtain rfl := some_inj hm
 refine post_ret (vs := [.agg #[U6 t525.1, U6 t530.1, U6 t535.1, v672, v836, v960, v972]]) results34 (rvs_cons (rv_cell (cs := [U6 t525.1, U6 t530.1, U6 t535.1, v672, v836, v960, v972]) z isAgg34 sizeOf34 (hst.bcs0 0 z)) rvs_nil) ?_
 replace hst := hst.pull3.pull3.pull6.pull6.pull6
 exact ⟨v672, v836, v960, v972, z, hst.keep5⟩
}
}
}
}

theorem octet_Reader_End_ref {w0 w : World} {I : HL} {R : SP} {a0 : octet_Reader} {p0 : Value}  (hst : St w0 w I [at_octet_Reader p0 a0] R) {r : (Bool)} (hm : octet_Reader_End a0 = some r) :
  Calls prog 36 #[p0] w fun e w' => e = .returned (.bool r) ∧ St w0 w' I [at_octet_Reader p0 a0] R := by {
 unfold octet_Reader_End at hm
 refine calls_start (args := [p0]) func36 z ntmps36 (Nat.le_of_ble_eq_true z) ?_
 refine wp_seq (wrl (wv (.bool false) z z z (wl_nil (tn (wp_seq (wrl (wv (p0) z z z ?_)))))))
 obtain ⟨t366, ht367, hm⟩ := bind_some hm
 refine wc call70 [p0] z z z ?_
 refine (octet_Reader_Bad_ref hst.to1 ht367).mono ?_
 rintro _ w368 ⟨rfl, hst⟩
 refine ⟨_, z, ?_⟩
 replace hst := hst.of1
 refine wv (.bool (!t366)) z z z (wv (.bool (!t366)) z z z ?_)
 refine bsplit (!t366) (fun hc371 => ?_) (fun hc371 => ?_)
 {
 replace hm := bif_t hc371 hm
 refine wv (p0) ((wanted_eq z z z (cvb hc371)).trans z) z z ?_
 obtain ⟨b372, v373, ⟨rfl, f375⟩, hst'⟩ := at_octet_Reader_open hst
 clear hst
 have hst := hst'
 clear hst'
 refine wv (Pt b372 0) ((wanted_eq z z z (cvb hc371)).trans z) z z (wv (Pt b372 0) ((wanted_eq z z z (cvb hc371)).trans z) z (x_field z underlying100 z sizeOf32 z) (wv (v373) ((wanted_eq z z z (cvb hc371)).trans z) z (x_load z isAgg32 (hst.bc0 z)) (wv (.int .i64 ((a0.p).length : Int)) ((wanted_eq z z z (cvb hc371)).trans z) z (x_len z underlying32 (ro_sliceV f375)) (wv (.bool (((a0.p).length : Int) == (0:Int))) ((wanted_eq z z z (cvb hc371)).trans z) z z (wv (.bool (((a0.p).length : Int) == (0:Int))) z z (x_pick_t hc371 z z) (wv (.bool (((a0.p).length : Int) == (0:Int))) z z z (wl_nil (tn (wp_ret ?_)))))))))
 replace hst := at_octet_Reader_close (pv := Pt b372 0) (x := a0) hst ⟨z, f375⟩
 obtain rfl := some_inj hm
 refine post_ret (vs := [.bool (((a0.p).length : Int) == (0:Int))]) results36 (rvs_cons (rv_tmp z) rvs_nil) ?_
 exact ⟨z, hst.keep1⟩
}
 {
 replace hm := bif_f hc371 hm
 refine wo hc371 z z z z z z (wo hc371 z z z z z z (wo hc371 z z z z z z (wo hc371 z z z z z z (wo hc371 z z z z z z (wo hc371 z z z z z z (wv (.bool false) z z (x_pick_f hc371 z z) (wv (.bool false) z z z (wl_nil (tn (wp_ret ?_))))))))))
 obtain rfl := some_inj hm
 refine post_ret (vs := [.bool false]) results36 (rvs_cons (rv_tmp z) rvs_nil) ?_
 exact ⟨z, hst.keep1⟩
}
}

theorem octet_Writer_lay_ref {w0 w : World} {I : HL} {R : SP} {a0 : octet_Writer} {p0 : Value} {a1 : (List Int)} {r1_0 : Value} (f1_0 : Rd (tyInt .u8) R I r1_0 a1) (hst : St w0 w I [at_octet_Writer p0 a0] R) {r : (octet_Writer)} (hm : octet_Writer_lay a0 a1 = some r) :
  Calls prog 87 #[p0, r1_0] w fun e w' => e = .returned (p0) ∧ St w0 w' I [at_octet_Writer p0 r] R := by {
 unfold octet_Writer_lay at hm
 refine calls_start (args := [p0, r1_0]) func87 z ntmps87 (Nat.le_of_ble_eq_true z) ?_
 refine wp_seq (wrl (wv (.pointer none) z z z (wl_nil (tn (wp_seq (wrl (wv (p0) z z z (wv (p0) z z z ?_))))))))
 obtain ⟨b397, v398, rfl, hst'⟩ := at_octet_Writer_open hst
 clear hst
 have hst := hst'
 clear hst'
 refine wv (Pt b397 0) z z z (wv (Pt b397 0) z z (x_field z underlying68 z sizeOf32 z) (wv (v398) z z (x_load z isAgg32 (hst.bc0 z)) (wv (r1_0) z z z ?_)))
 obtain ⟨hg400, hm⟩ := gd_some hm
 replace hst := hst.pull1
 obtain ⟨v401, w402, hr403, hst⟩ := run_append elem_32 underlying32 hst (Src.of_rd hst f1_0 flat_int) (room_of hg400 z) 32
 refine wl_run (v := v401) (w' := w402) z z (x_append z z hr403) ?_
 refine wv (Pt b397 0) z z z (wv (Pt b397 0) z z (x_field z underlying68 z sizeOf32 z) ?_)
 replace hst := hst.pull1
 obtain ⟨w405, hr406, hst⟩ := hst.boxStore1 (P := prog) (t := 32) (cs' := [v401]) 0 v401 (one_of_sliceV hst.sv1) sizeOf32 z z
 refine wl_unit z z (x_unit hr406) ?_
 refine wl_nil (tn (wp_seq (wrl (wv (Pt b397 0) z z z (wv (Pt b397 0) z z z (wl_nil (tn (wp_ret ?_))))))))
 replace hst := hst.pull1.pull1
 replace hst := at_octet_Writer_close (pv := Pt b397 0) (x := ({ p := (a0.p ++ a1) } : octet_Writer)) hst z
 obtain rfl := some_inj hm
 refine post_ret (vs := [Pt b397 0]) results87 (rvs_cons (rv_tmp z) rvs_nil) ?_
 exact ⟨z, hst.keep1⟩
}

theorem octet_Writer_Num_ref {w0 w : World} {I : HL} {R : SP} {a0 : octet_Writer} {p0 : Value} {a1 : Int} {a2 : Int}  (hst : St w0 w I [at_octet_Writer p0 a0] R) {r : (octet_Writer)} (hm : octet_Writer_Num a0 a1 a2 = some r) :
  Calls prog 60 #[p0, U6 a1, I6 a2] w fun e w' => e = .returned (p0) ∧ St w0 w' I [at_octet_Writer p0 r] R := by {
 unfold octet_Writer_Num at hm
 refine calls_start (args := [p0, U6 a1, I6 a2]) func60 z ntmps60 (Nat.le_of_ble_eq_true z) ?_
 refine wp_seq (wrl (wv (.pointer none) z z z (wl_nil (tn (wp_seq (wp_seq (wrl (wv (.int .i64 a2) z z z (wv (.int .i64 (0:Int)) z z z (wl_nil (tn (wp_block ?_))))))))))))
 obtain ⟨n464, hm⟩ := loopO_some hm
 refine wp_loop_n (fun n a w => ∃ (z461 : octet_Writer) (z462 : Int) (σ463 : Nat → Value), loopN (octet_Writer_Num_l0 a2 a1) n (z461, z462) = some r ∧ a = Fr 22 (upd (upd (upd (upd σ463 0 (p0)) 1 (.int .u64 a1)) 8 (.int .i64 a2)) 9 (.int .i64 z462)) ∧ St w0 w I [at_octet_Writer p0 z461] R) n464 ⟨a0, (0:Int), _, hm, (fu 0 p0 z (fu 1 (.int .u64 a1) z (fu 8 (.int .i64 a2) z (fu 9 (.int .i64 (0:Int)) z z)))), hst⟩ ?_
 rintro n470 _ w465 ⟨z461, z462, σ463, hm, rfl, hst⟩
 obtain ⟨n467, y468, rfl, hm, hx469⟩ := loopN_some hm
 dsimp only [octet_Writer_Num_l0] at hm
 refine wp_seq (wrl (wv (.bool (decide (z462 < a2))) z z z (wl_nil (tn (wp_seq ?_)))))
 refine bsplit (decide (z462 < a2)) (fun hc471 => ?_) (fun hc471 => ?_)
 {
 replace hm := bif_t hc471 hm
 refine wp_ift (cvb hc471) ?_
 refine wp_skip (tn (wp_seq (wp_block (wp_seq (wrl ?_)))))
 refine wv (.int .i64 z462) z z z (wv (.int .i64 z462) z z z (wl_nil (tn (wrl (wv (p0) z z z (wv (.int .u64 a1) z z z (wv (.int .i64 z462) z z z (wv (.int .i64 (i64.wrap ((8:Int) * z462))) z z z ?_))))))))
 obtain ⟨hg472, hm⟩ := gd_some hm
 refine wv (.int .u64 (iShr .u64 a1 (i64.wrap ((8:Int) * z462)))) z z (x_shr (of_decide_eq_true hg472) z z) (wv (.int .u8 (u8.wrap (iShr .u64 a1 (i64.wrap ((8:Int) * z462))))) z z (by kernel_rfl) ?_)
 obtain ⟨b473, w474, ew475, eb476, hst⟩ := hst.lits (E := (tyInt .u8)) (xs := [(u8.wrap (iShr .u64 a1 (i64.wrap ((8:Int) * z462))))]) [[U1 (u8.wrap (iShr .u64 a1 (i64.wrap ((8:Int) * z462))))]] 5 1 z (Reps.cons z Reps.nil)
 refine wl_run (v := (.slice (some ⟨b473, 0, none⟩) 1 1)) (w' := w474) z z (x_als (by kernel_rfl) ew475 eb476) ?_
 obtain ⟨css478, hq479, hst⟩ := hst.own_open
 replace hst := hst.pull1
 obtain ⟨t480, ht481, hm⟩ := bind_some hm
 refine wc call87 [p0, (.slice (some ⟨b473, 0, none⟩) 1 1)] z z z ?_
 refine (octet_Writer_lay_ref (hst.sub.rdrow0 hq479) hst.to1 ht481).mono ?_
 rintro _ w482 ⟨rfl, hst⟩
 refine ⟨_, z, ?_⟩
 replace hst := hst.of1.pull1.own_close hq479
 refine wl_nil (blk_n (tn (wrl (wv (.int .i64 (i64.wrap (z462 + (1:Int)))) z z z (wv (.int .i64 (i64.wrap (z462 + (1:Int)))) z z z (wl_nil (tn ?_)))))))
 replace hst := hst.pull1.keep1
 obtain rfl := some_inj hm
 exact ⟨_, Nat.lt_succ_self _, t480, (i64.wrap (z462 + (1:Int))), _, hx469, (fu 0 p0 z (fu 1 (.int .u64 a1) z (fu 8 (.int .i64 a2) z (fu 9 (.int .i64 (i64.wrap (z462 + (1:Int)))) z z)))), hst⟩
}
 {
 replace hm := bif_f hc471 hm
 refine wp_iff (cvb hc471) ?_
 refine wp_exit (then_x (then_x ?_))
 replace hm := inr_up hm hx469
 refine blk_x (tn (wp_seq (wrl ?_)))
 refine wv (p0) z z z (wv (p0) z z z (wl_nil (tn (wp_ret ?_))))
 obtain rfl := some_inj hm
 refine post_ret (vs := [p0]) results60 (rvs_cons (rv_tmp z) rvs_nil) ?_
 exact ⟨z, hst.keep1⟩
}
}

theorem octet_Writer_Done_ref {w0 w : World} {I : HL} {R : SP} {a0 : octet_Writer} {p0 : Value}  (hst : St w0 w I [at_octet_Writer p0 a0] R) {r : ((List Int))} (hm : octet_Writer_Done a0 = some r) :
  Calls prog 32 #[p0] w fun e w' => ∃ (q0_0 : Value), e = .returned (q0_0) ∧ St w0 w' I [ownS (tyInt .u8) q0_0 r] R := by {
 unfold octet_Writer_Done at hm
 refine calls_start (args := [p0]) func32 z ntmps32 (Nat.le_of_ble_eq_true z) ?_
 refine wp_seq (wrl (wv ((.slice none 0 0)) z z z (wl_nil (tn (wp_seq (wrl (wv (p0) z z z ?_)))))))
 obtain ⟨b403, v404, rfl, hst'⟩ := at_octet_Writer_open hst
 clear hst
 have hst := hst'
 clear hst'
 refine wv (Pt b403 0) z z z (wv (Pt b403 0) z z (x_field z underlying68 z sizeOf32 z) (wv (v404) z z (x_load z isAgg32 (hst.bc0 z)) (wv (v404) z z z (wl_nil (tn (wp_ret ?_))))))
 obtain rfl := some_inj hm
 refine post_ret (vs := [v404]) results32 (rvs_cons (rv_tmp z) rvs_nil) ?_
 replace hst := hst.pull1
 exact ⟨v404, z, hst.keep1⟩
}

theorem octet_Writer_Bytes_ref {w0 w : World} {I : HL} {R : SP} {a0 : octet_Writer} {p0 : Value} {a1 : (List Int)} {r1_0 : Value} (f1_0 : Rd (tyInt .u8) R I r1_0 a1) (hst : St w0 w I [at_octet_Writer p0 a0] R) {r : (octet_Writer)} (hm : octet_Writer_Bytes a0 a1 = some r) :
  Calls prog 62 #[p0, r1_0] w fun e w' => e = .returned (p0) ∧ St w0 w' I [at_octet_Writer p0 r] R := by {
 unfold octet_Writer_Bytes at hm
 refine calls_start (args := [p0, r1_0]) func62 z ntmps62 (Nat.le_of_ble_eq_true z) ?_
 refine wp_seq (wrl (wv (.pointer none) z z z (wl_nil (tn (wp_seq (wrl (wv (p0) z z z (wv (r1_0) z z z (wv (.int .i64 ((a1).length : Int)) z z (x_len z underlying32 (rd_sliceV f1_0)) (wv (.int .u64 (u64.wrap ((a1).length : Int))) z z (by kernel_rfl) ?_))))))))))
 obtain ⟨t753, ht754, hm⟩ := bind_some hm
 refine wc call60 [p0, U6 (u64.wrap ((a1).length : Int)), I6 (4:Int)] z z z ?_
 refine (octet_Writer_Num_ref hst.to1 ht754).mono ?_
 rintro _ w755 ⟨rfl, hst⟩
 refine ⟨_, z, ?_⟩
 replace hst := hst.of1
 refine wv (r1_0) z z z ?_
 obtain ⟨t758, ht759, hm⟩ := bind_some hm
 refine wc call87 [p0, r1_0] z z z ?_
 refine (octet_Writer_lay_ref (f1_0.mono (rd_weak _)) hst.to1 ht759).mono ?_
 rintro _ w760 ⟨rfl, hst⟩
 refine ⟨_, z, ?_⟩
 replace hst := hst.of1
 refine wv (p0) z z z (wl_nil (tn (wp_ret ?_)))
 obtain rfl := some_inj hm
 refine post_ret (vs := [p0]) results62 (rvs_cons (rv_tmp z) rvs_nil) ?_
 exact ⟨z, hst.keep1⟩
}

theorem locks_Lay_ref {w0 w : World} {I : HL} {R : SP} {a0 : octet_Writer} {p0 : Value} {a1 : api_Hold} {r1_0 : Value} {r1_1 : Value} {r1_2 : Value} {r1_3 : Value} (f1_0 : Rd tyF64 R I r1_0 a1.Gets) (f1_1 : Rd tyF2 R I r1_1 a1.Scans) (f1_2 : Rd tyF64 R I r1_2 a1.Puts) (f1_3 : Rd (tyInt .u8) R I r1_3 a1.Data) (hst : St w0 w I [at_octet_Writer p0 a0] R) {r : (octet_Writer)} (hm : locks_Lay a0 a1 = some r) :
  Calls prog 31 #[p0, .agg #[U6 a1.ID.Session, U6 a1.ID.Seq, U6 a1.Epoch, r1_0, r1_1, r1_2, r1_3]] w fun e w' => e = .returned (.tuple #[]) ∧ St w0 w' I [at_octet_Writer p0 r] R := by {
 unfold locks_Lay at hm
 refine calls_start (args := [p0, .agg #[U6 a1.ID.Session, U6 a1.ID.Seq, U6 a1.Epoch, r1_0, r1_1, r1_2, r1_3]]) func31 z ntmps31 (Nat.le_of_ble_eq_true z) ?_
 refine wp_seq (wrl ?_)
 obtain ⟨b749, w750, ew751, eb752, hst⟩ := hst.box [U6 a1.ID.Session, U6 a1.ID.Seq, U6 a1.Epoch, r1_0, r1_1, r1_2, r1_3] 34
 refine wl_run (v := Pt b749 0) (w' := w750) z z (x_al (by kernel_rfl) ew751 eb752) ?_
 refine wl_nil (tn (wp_seq ?_))
 refine wp_region_St hst 17 [0, 1, 2, 3, 4, 5, 6, 7, 8, 9, 10, 11, 12, 13, 14, 15, 16] [0, 0, 2, 6, 15, 0, 32, 96, 255, 0, 512, 2047, 0, 4096, 12288, 28672, 65535] [] z (by kernel_rfl) (by kernel_rfl) Try.mixed (by kernel_rfl) ?_
 refine wsr (p0) 0 z z z (by kernel_rfl) (fun w hst => z) (wsr (Pt b749 0) 1 z z z (by kernel_rfl) (fun w hst => x_field z underlying34 z sizeOf29 z) (wsr (Pt b749 0) 2 z z z (by kernel_rfl) (fun w hst => x_field z underlying29 z sizeOf27 z) (wsr (.int .u64 a1.ID.Session) 3 z z z (by kernel_rfl) (fun w hst => x_load z isAgg27 (hst.bc0 z)) (wsr (Pt b749 0) 5 z z z (by kernel_rfl) (fun w hst => x_field z underlying34 z sizeOf29 z) (wsr (Pt b749 1) 6 z z z (by kernel_rfl) (fun w hst => x_field z underlying29 z sizeOf27 z) (wsr (.int .u64 a1.ID.Seq) 7 z z z (by kernel_rfl) (fun w hst => x_load z isAgg27 (hst.bc0 z)) (wsr (Pt b749 2) 9 z z z (by kernel_rfl) (fun w hst => x_field z underlying34 z sizeOf27 z) (wsr (.int .u64 a1.Epoch) 10 z z z (by kernel_rfl) (fun w hst => x_load z isAgg27 (hst.bc0 z)) (wsr (Pt b749 3) 12 z z z (by kernel_rfl) (fun w hst => x_field z underlying34 z sizeOf30 z) (wsr (r1_0) 13 z z z (by kernel_rfl) (fun w hst => x_load z isAgg30 (hst.bc0 z)) (wsr (.int .i64 ((a1.Gets).length : Int)) 14 z z z (by kernel_rfl) (fun w hst => x_len z underlying30 (rd_sliceV f1_0)) (wsr (.int .u64 (u64.wrap ((a1.Gets).length : Int))) 15 z z z (by kernel_rfl) (fun w hst => by kernel_rfl) ?_))))))))))))
 refine ws_e1 4 (by kernel_rfl) ?_
 refine nxe [8, 11, 16] (by kernel_rfl) z z ?_
 clear hst
 intro w hst
 replace hst := hst.pull1
 obtain ⟨t754, ht755, hm⟩ := bind_some hm
 refine wec call60 [p0, U6 a1.ID.Session, I6 (8:Int)] z z ?_
 refine (octet_Writer_Num_ref hst.to1 ht755).mono ?_
 rintro _ w756 ⟨rfl, hst⟩
 refine ⟨_, z, ?_⟩
 replace hst := hst.of1
 refine ws_next (pend' := [(15, U6 (u64.wrap ((a1.Gets).length : Int))), (14, I6 ((a1.Gets).length : Int)), (13, r1_0), (12, Pt b749 3), (10, U6 a1.Epoch), (9, Pt b749 2), (7, U6 a1.ID.Seq), (6, Pt b749 1), (5, Pt b749 0)]) hst (by kernel_rfl) (pkr z z (fun w hst => by kernel_rfl) (pkr z z (fun w hst => x_len z underlying30 (rd_sliceV f1_0)) (pkr z z (fun w hst => x_load z isAgg30 (hst.bc1 z)) (pkr z z (fun w hst => x_field z underlying34 z sizeOf30 z) (pkr z z (fun w hst => x_load z isAgg27 (hst.bc1 z)) (pkr z z (fun w hst => x_field z underlying34 z sizeOf27 z) (pkr z z (fun w hst => x_load z isAgg27 (hst.bc1 z)) (pkr z z (fun w hst => x_field z underlying29 z sizeOf27 z) (pkr z z (fun w hst => x_field z underlying34 z sizeOf29 z) pk_nil))))))))) ?_
 refine ws_e1 8 (by kernel_rfl) ?_
 refine nxe [11, 16] (by kernel_rfl) z z ?_
 clear hst
 intro w hst
 obtain ⟨t759, ht760, hm⟩ := bind_some hm
 refine wec call60 [p0, U6 a1.ID.Seq, I6 (8:Int)] z z ?_
 refine (octet_Writer_Num_ref hst.to1 ht760).mono ?_
 rintro _ w761 ⟨rfl, hst⟩
 refine ⟨_, z, ?_⟩
 replace hst := hst.of1
 refine ws_next (pend' := [(15, U6 (u64.wrap ((a1.Gets).length : Int))), (14, I6 ((a1.Gets).length : Int)), (13, r1_0), (12, Pt b749 3), (10, U6 a1.Epoch), (9, Pt b749 2)]) hst (by kernel_rfl) (pkr z z (fun w hst => by kernel_rfl) (pkr z z (fun w hst => x_len z underlying30 (rd_sliceV f1_0)) (pkr z z (fun w hst => x_load z isAgg30 (hst.bc1 z)) (pkr z z (fun w hst => x_field z underlying34 z sizeOf30 z) (pkr z z (fun w hst => x_load z isAgg27 (hst.bc1 z)) (pkr z z (fun w hst => x_field z underlying34 z sizeOf27 z) pk_nil)))))) ?_
 refine ws_e1 11 (by kernel_rfl) ?_
 refine nxe [16] (by kernel_rfl) z z ?_
 clear hst
 intro w hst
 obtain ⟨t764, ht765, hm⟩ := bind_some hm
 refine wec call60 [p0, U6 a1.Epoch, I6 (8:Int)] z z ?_
 refine (octet_Writer_Num_ref hst.to1 ht765).mono ?_
 rintro _ w766 ⟨rfl, hst⟩
 refine ⟨_, z, ?_⟩
 replace hst := hst.of1
 refine ws_next (pend' := [(15, U6 (u64.wrap ((a1.Gets).length : Int))), (14, I6 ((a1.Gets).length : Int)), (13, r1_0), (12, Pt b749 3)]) hst (by kernel_rfl) (pkr z z (fun w hst => by kernel_rfl) (pkr z z (fun w hst => x_len z underlying30 (rd_sliceV f1_0)) (pkr z z (fun w hst => x_load z isAgg30 (hst.bc1 z)) (pkr z z (fun w hst => x_field z underlying34 z sizeOf30 z) pk_nil)))) ?_
 refine ws_e1 16 (by kernel_rfl) ?_
 refine nxe [] (by kernel_rfl) z z ?_
 clear hst
 intro w hst
 obtain ⟨t769, ht770, hm⟩ := bind_some hm
 refine wec call60 [p0, U6 (u64.wrap ((a1.Gets).length : Int)), I6 (4:Int)] z z ?_
 refine (octet_Writer_Num_ref hst.to1 ht770).mono ?_
 rintro _ w771 ⟨rfl, hst⟩
 refine ⟨_, z, ?_⟩
 replace hst := hst.of1
 refine ws_next (pend' := []) hst (by kernel_rfl) pk_nil ?_
 refine ws_nil ?_
 intro w hst
 refine tn ?_
 obtain ⟨y837, hm, hx838⟩ := bind_some hm
 refine wp_cut (fun a w => ∃ (z834 : octet_Writer) (σ835 : Nat → Value), (locks_Lay_j0 a1) z834 = some r ∧ a = Fr 84 (upd (upd σ835 0 (p0)) 3 (Pt b749 0)) ∧ St w0 w I [at_octet_Writer p0 z834, cells b749 [U6 a1.ID.Session, U6 a1.ID.Seq, U6 a1.Epoch, r1_0, r1_1, r1_2, r1_3]] R) ?_ ?_
 {
 refine wp_seq (wrl (wv (Pt b749 3) z z (x_field z underlying34 z sizeOf30 z) (wv (r1_0) z z (x_load z isAgg30 (hst.bc1 z)) (wv (.int .i64 ((a1.Gets).length : Int)) z z (x_len z underlying30 (rd_sliceV f1_0)) (wv (.int .i64 (0:Int)) z z z (wl_nil (tn (wp_block ?_))))))))
 obtain ⟨n811, hm⟩ := loopO_some hm
 refine wp_loop_n (fun n a w => ∃ (z808 : octet_Writer) (z809 : Int) (σ810 : Nat → Value), loopN (locks_Lay_l1 a1) n (z808, z809) = some y837 ∧ a = Fr 84 (upd (upd (upd (upd (upd σ810 0 (p0)) 3 (Pt b749 0)) 28 (r1_0)) 29 (.int .i64 ((a1.Gets).length : Int))) 30 (.int .i64 z809)) ∧ St w0 w I [at_octet_Writer p0 z808, cells b749 [U6 a1.ID.Session, U6 a1.ID.Seq, U6 a1.Epoch, r1_0, r1_1, r1_2, r1_3]] R) n811 ⟨t769, (0:Int), _, hm, (fu 0 p0 z (fu 3 (Pt b749 0) z (fu 28 r1_0 z (fu 29 (.int .i64 ((a1.Gets).length : Int)) z (fu 30 (.int .i64 (0:Int)) z z))))), hst⟩ ?_
 rintro n817 _ w812 ⟨z808, z809, σ810, hm, rfl, hst⟩
 obtain ⟨n814, y815, rfl, hm, hx816⟩ := loopN_some hm
 dsimp only [locks_Lay_l1] at hm
 refine wp_seq (wrl (wv (.bool (decide (z809 < ((a1.Gets).length : Int)))) z z z (wl_nil (tn (wp_seq ?_)))))
 refine bsplit (decide (z809 < ((a1.Gets).length : Int))) (fun hc818 => ?_) (fun hc818 => ?_)
 {
 replace hm := bif_t hc818 hm
 refine wp_ift (cvb hc818) ?_
 refine wp_skip (tn (wp_seq (wp_block (wp_seq (wrl ?_)))))
 obtain ⟨x819, hx820, hm⟩ := bind_some hm
 obtain ⟨h821, h822, hi823⟩ := geto_some hx820
 refine wv (.pointer (some (eAddr r1_0 (z809.toNat * 1 + 0)))) z z (x_index z z underlying30 sizeOf57 (rd_sliceV f1_0) h821 h822) (wv (.float .f64 x819) z z (x_load z isAgg57 (rd_load f1_0 (HL.le.refl _) hst hi823 (by rintro _ rfl; rfl))) (wv (.float .f64 x819) z z z (wl_nil (tn (wrl (wv (p0) z z z (wv (.float .f64 x819) z z z ?_)))))))
 obtain ⟨t824, ht825, hm⟩ := bind_some hm
 refine wc call61 [F6 x819] z z z ?_
 refine (number_Rank_ref hst.to0 ht825).mono ?_
 rintro _ w826 ⟨rfl, hst⟩
 refine ⟨_, z, ?_⟩
 replace hst := hst.of0
 obtain ⟨t829, ht830, hm⟩ := bind_some hm
 refine wc call60 [p0, U6 t824, I6 (8:Int)] z z z ?_
 refine (octet_Writer_Num_ref hst.to1 ht830).mono ?_
 rintro _ w831 ⟨rfl, hst⟩
 refine ⟨_, z, ?_⟩
 replace hst := hst.of1
 refine wl_nil (blk_n (tn (wrl (wv (.int .i64 (i64.wrap (z809 + (1:Int)))) z z z (wv (.int .i64 (i64.wrap (z809 + (1:Int)))) z z z (wl_nil (tn ?_)))))))
 replace hst := hst.pull1.pull1.keep2
 obtain rfl := some_inj hm
 exact ⟨_, Nat.lt_succ_self _, t829, (i64.wrap (z809 + (1:Int))), _, hx816, (fu 0 p0 z (fu 3 (Pt b749 0) z (fu 28 r1_0 z (fu 29 (.int .i64 ((a1.Gets).length : Int)) z (fu 30 (.int .i64 (i64.wrap (z809 + (1:Int)))) z z))))), hst⟩
}
 {
 replace hm := bif_f hc818 hm
 refine wp_iff (cvb hc818) ?_
 refine wp_exit (then_x (then_x ?_))
 replace hm := inr_up hm hx816
 refine blk_x (tn ?_)
 replace hst := hst.pull1.pull1.keep2
 obtain rfl := some_inj hm
 exact ⟨z808, _, hx838, (fu 0 p0 z (fu 3 (Pt b749 0) z z)), hst⟩
}
}
 {
 clear hst
 rintro _ w839 ⟨z834, σ835, hm, rfl, hst⟩
 dsimp only [locks_Lay_j0] at hm
 refine wp_seq (wrl (wv (p0) z z z (wv (Pt b749 4) z z (x_field z underlying34 z sizeOf31 z) (wv (r1_1) z z (x_load z isAgg31 (hst.bc1 z)) (wv (.int .i64 ((a1.Scans).length : Int)) z z (x_len z underlying31 (rd_sliceV f1_1)) (wv (.int .u64 (u64.wrap ((a1.Scans).length : Int))) z z (by kernel_rfl) ?_))))))
 obtain ⟨t840, ht841, hm⟩ := bind_some hm
 refine wc call60 [p0, U6 (u64.wrap ((a1.Scans).length : Int)), I6 (4:Int)] z z z ?_
 refine (octet_Writer_Num_ref hst.to1 ht841).mono ?_
 rintro _ w842 ⟨rfl, hst⟩
 refine ⟨_, z, ?_⟩
 replace hst := hst.of1
 refine wl_nil (tn ?_)
 obtain ⟨y959, hm, hx960⟩ := bind_some hm
 refine wp_cut (fun a w => ∃ (z956 : octet_Writer) (σ957 : Nat → Value), (locks_Lay_j2 a1) z956 = some r ∧ a = Fr 84 (upd (upd σ957 0 (p0)) 3 (Pt b749 0)) ∧ St w0 w I [at_octet_Writer p0 z956, cells b749 [U6 a1.ID.Session, U6 a1.ID.Seq, U6 a1.Epoch, r1_0, r1_1, r1_2, r1_3]] R) ?_ ?_
 {
 refine wp_seq (wrl (wv (Pt b749 4) z z (x_field z underlying34 z sizeOf31 z) (wv (r1_1) z z (x_load z isAgg31 (hst.bc1 z)) (wv (.int .i64 ((a1.Scans).length : Int)) z z (x_len z underlying31 (rd_sliceV f1_1)) (wv (.int .i64 (0:Int)) z z z (wl_nil (tn (wp_block ?_))))))))
 obtain ⟨n916, hm⟩ := loopO_some hm
 refine wp_loop_n (fun n a w => ∃ (z913 : octet_Writer) (z914 : Int) (σ915 : Nat → Value), loopN (locks_Lay_l3 a1) n (z913, z914) = some y959 ∧ a = Fr 84 (upd (upd (upd (upd (upd σ915 0 (p0)) 3 (Pt b749 0)) 46 (r1_1)) 47 (.int .i64 ((a1.Scans).length : Int))) 48 (.int .i64 z914)) ∧ St w0 w I [at_octet_Writer p0 z913, cells b749 [U6 a1.ID.Session, U6 a1.ID.Seq, U6 a1.Epoch, r1_0, r1_1, r1_2, r1_3]] R) n916 ⟨t840, (0:Int), _, hm, (fu 0 p0 z (fu 3 (Pt b749 0) z (fu 46 r1_1 z (fu 47 (.int .i64 ((a1.Scans).length : Int)) z (fu 48 (.int .i64 (0:Int)) z z))))), hst⟩ ?_
 rintro n922 _ w917 ⟨z913, z914, σ915, hm, rfl, hst⟩
 obtain ⟨n919, y920, rfl, hm, hx921⟩ := loopN_some hm
 dsimp only [locks_Lay_l3] at hm
 refine wp_seq (wrl (wv (.bool (decide (z914 < ((a1.Scans).length : Int)))) z z z (wl_nil (tn (wp_seq ?_)))))
 refine bsplit (decide (z914 < ((a1.Scans).length : Int))) (fun hc923 => ?_) (fun hc923 => ?_)
 {
 replace hm := bif_t hc923 hm
 refine wp_ift (cvb hc923) ?_
 refine wp_skip (tn (wp_seq (wp_block (wp_seq (wrl ?_)))))
 obtain ⟨x924, hx925, hm⟩ := bind_some hm
 obtain ⟨h926, h927, hi928⟩ := geto_some hx925
 refine wv (.pointer (some (eAddr r1_1 (z914.toNat * 2 + 0)))) z z (x_index z z underlying31 sizeOf75 (rd_sliceV f1_1) h926 h927) (wv (.agg #[F6 x924.1, F6 x924.2]) z z (x_loadN (cs := [F6 x924.1, F6 x924.2]) z isAgg75 sizeOf75 (rd_loadN f1_1 (HL.le.refl _) hst hi928 0 (by rintro _ rfl; rfl))) ?_)
 obtain ⟨b929, w930, ew931, eb932, hst⟩ := hst.box [Zf, Zf] 75
 refine wl_run (v := Pt b929 0) (w' := w930) z z (x_al (by kernel_rfl) ew931 eb932) ?_
 obtain ⟨w934, hr935, hst⟩ := hst.bx [F6 x924.1, F6 x924.2] sizeOf75 z (oC z (oC z oN)) (by kernel_rfl)
 refine wl_unit z z (x_unit hr935) ?_
 refine wl_nil (tn ?_)
 refine wp_region_St hst 9 [0, 1, 2, 3, 4, 5, 6, 7, 8] [0, 0, 2, 6, 15, 0, 32, 127, 255] [] z (by kernel_rfl) (by kernel_rfl) Try.mixed (by kernel_rfl) ?_
 refine wsr (p0) 0 z z z (by kernel_rfl) (fun w hst => z) (wsr (Pt b929 0) 1 z z z (by kernel_rfl) (fun w hst => x_index_arr (i := (0:Int)) z z underlying75 sizeOf57 (by decide) (by decide)) (wsr (.float .f64 x924.1) 2 z z z (by kernel_rfl) (fun w hst => x_load z isAgg57 (hst.bc0 z)) (wsr (Pt b929 1) 5 z z z (by kernel_rfl) (fun w hst => x_index_arr (i := (1:Int)) z z underlying75 sizeOf57 (by decide) (by decide)) (wsr (.float .f64 x924.2) 6 z z z (by kernel_rfl) (fun w hst => x_load z isAgg57 (hst.bc0 z)) ?_))))
 refine ws_e1 3 (by kernel_rfl) ?_
 refine nxe [4, 7, 8] (by kernel_rfl) z z ?_
 clear hst
 intro w hst
 obtain ⟨t936, ht937, hm⟩ := bind_some hm
 refine wec call61 [F6 x924.1] z z ?_
 refine (number_Rank_ref hst.to0 ht937).mono ?_
 rintro _ w938 ⟨rfl, hst⟩
 refine ⟨_, z, ?_⟩
 replace hst := hst.of0
 refine ws_next (pend' := [(6, F6 x924.2), (5, Pt b929 1), (0, p0)]) hst (by kernel_rfl) (pkr z z (fun w hst => x_load z isAgg57 (hst.bc0 z)) (pkr z z (fun w hst => x_index_arr (i := (1:Int)) z z underlying75 sizeOf57 (by decide) (by decide)) (pkr z z (fun w hst => z) pk_nil))) ?_
 refine ws_e1 4 (by kernel_rfl) ?_
 refine nxe [7, 8] (by kernel_rfl) z z ?_
 clear hst
 intro w hst
 replace hst := hst.pull1
 obtain ⟨t941, ht942, hm⟩ := bind_some hm
 refine wec call60 [p0, U6 t936, I6 (8:Int)] z z ?_
 refine (octet_Writer_Num_ref hst.to1 ht942).mono ?_
 rintro _ w943 ⟨rfl, hst⟩
 refine ⟨_, z, ?_⟩
 replace hst := hst.of1
 refine ws_next (pend' := [(6, F6 x924.2), (5, Pt b929 1)]) hst (by kernel_rfl) (pkr z z (fun w hst => x_load z isAgg57 (hst.bc1 z)) (pkr z z (fun w hst => x_index_arr (i := (1:Int)) z z underlying75 sizeOf57 (by decide) (by decide)) pk_nil)) ?_
 refine ws_e1 7 (by kernel_rfl) ?_
 refine nxe [8] (by kernel_rfl) z z ?_
 clear hst
 intro w hst
 obtain ⟨t946, ht947, hm⟩ := bind_some hm
 refine wec call61 [F6 x924.2] z z ?_
 refine (number_Rank_ref hst.to0 ht947).mono ?_
 rintro _ w948 ⟨rfl, hst⟩
 refine ⟨_, z, ?_⟩
 replace hst := hst.of0
 refine ws_next (pend' := []) hst (by kernel_rfl) pk_nil ?_
 refine ws_e1 8 (by kernel_rfl) ?_
 refine nxe [] (by kernel_rfl) z z ?_
 clear hst
 intro w hst
 obtain ⟨t951, ht952, hm⟩ := bind_some hm
 refine wec call60 [p0, U6 t946, I6 (8:Int)] z z ?_
 refine (octet_Writer_Num_ref hst.to1 ht952).mono ?_
 rintro _ w953 ⟨rfl, hst⟩
 refine ⟨_, z, ?_⟩
 replace hst := hst.of1
 refine ws_next (pend' := []) hst (by kernel_rfl) pk_nil ?_
 refine ws_nil ?_
 intro w hst
 refine blk_n (tn (wrl ?_))
 refine wv (.int .i64 (i64.wrap (z914 + (1:Int)))) z z z (wv (.int .i64 (i64.wrap (z914 + (1:Int)))) z z z (wl_nil (tn ?_)))
 replace hst := hst.pull2.pull1.keep2
 obtain rfl := some_inj hm
 exact ⟨_, Nat.lt_succ_self _, t951, (i64.wrap (z914 + (1:Int))), _, hx921, (fu 0 p0 z (fu 3 (Pt b749 0) z (fu 46 r1_1 z (fu 47 (.int .i64 ((a1.Scans).length : Int)) z (fu 48 (.int .i64 (i64.wrap (z914 + (1:Int)))) z z))))), hst⟩
}
 {
 replace hm := bif_f hc923 hm
 refine wp_iff (cvb hc923) ?_
 refine wp_exit (then_x (then_x ?_))
 replace hm := inr_up hm hx921
 refine blk_x (tn ?_)
 replace hst := hst.pull1.pull1.keep2
 obtain rfl := some_inj hm
 exact ⟨z913, _, hx960, (fu 0 p0 z (fu 3 (Pt b749 0) z z)), hst⟩
}
}
 {
 clear hst
 rintro _ w961 ⟨z956, σ957, hm, rfl, hst⟩
 dsimp only [locks_Lay_j2] at hm
 refine wp_seq (wrl (wv (p0) z z z (wv (Pt b749 5) z z (x_field z underlying34 z sizeOf30 z) (wv (r1_2) z z (x_load z isAgg30 (hst.bc1 z)) (wv (.int .i64 ((a1.Puts).length : Int)) z z (x_len z underlying30 (rd_sliceV f1_2)) (wv (.int .u64 (u64.wrap ((a1.Puts).length : Int))) z z (by kernel_rfl) ?_))))))
 obtain ⟨t962, ht963, hm⟩ := bind_some hm
 refine wc call60 [p0, U6 (u64.wrap ((a1.Puts).length : Int)), I6 (4:Int)] z z z ?_
 refine (octet_Writer_Num_ref hst.to1 ht963).mono ?_
 rintro _ w964 ⟨rfl, hst⟩
 refine ⟨_, z, ?_⟩
 replace hst := hst.of1
 refine wl_nil (tn ?_)
 obtain ⟨y1030, hm, hx1031⟩ := bind_some hm
 refine wp_cut (fun a w => ∃ (z1027 : octet_Writer) (σ1028 : Nat → Value), (locks_Lay_j4 a1) z1027 = some r ∧ a = Fr 84 (upd (upd σ1028 0 (p0)) 3 (Pt b749 0)) ∧ St w0 w I [at_octet_Writer p0 z1027, cells b749 [U6 a1.ID.Session, U6 a1.ID.Seq, U6 a1.Epoch, r1_0, r1_1, r1_2, r1_3]] R) ?_ ?_
 {
 refine wp_seq (wrl (wv (Pt b749 5) z z (x_field z underlying34 z sizeOf30 z) (wv (r1_2) z z (x_load z isAgg30 (hst.bc1 z)) (wv (.int .i64 ((a1.Puts).length : Int)) z z (x_len z underlying30 (rd_sliceV f1_2)) (wv (.int .i64 (0:Int)) z z z (wl_nil (tn (wp_block ?_))))))))
 obtain ⟨n1004, hm⟩ := loopO_some hm
 refine wp_loop_n (fun n a w => ∃ (z1001 : octet_Writer) (z1002 : Int) (σ1003 : Nat → Value), loopN (locks_Lay_l5 a1) n (z1001, z1002) = some y1030 ∧ a = Fr 84 (upd (upd (upd (upd (upd σ1003 0 (p0)) 3 (Pt b749 0)) 69 (r1_2)) 70 (.int .i64 ((a1.Puts).length : Int))) 71 (.int .i64 z1002)) ∧ St w0 w I [at_octet_Writer p0 z1001, cells b749 [U6 a1.ID.Session, U6 a1.ID.Seq, U6 a1.Epoch, r1_0, r1_1, r1_2, r1_3]] R) n1004 ⟨t962, (0:Int), _, hm, (fu 0 p0 z (fu 3 (Pt b749 0) z (fu 69 r1_2 z (fu 70 (.int .i64 ((a1.Puts).length : Int)) z (fu 71 (.int .i64 (0:Int)) z z))))), hst⟩ ?_
 rintro n1010 _ w1005 ⟨z1001, z1002, σ1003, hm, rfl, hst⟩
 obtain ⟨n1007, y1008, rfl, hm, hx1009⟩ := loopN_some hm
 dsimp only [locks_Lay_l5] at hm
 refine wp_seq (wrl (wv (.bool (decide (z1002 < ((a1.Puts).length : Int)))) z z z (wl_nil (tn (wp_seq ?_)))))
 refine bsplit (decide (z1002 < ((a1.Puts).length : Int))) (fun hc1011 => ?_) (fun hc1011 => ?_)
 {
 replace hm := bif_t hc1011 hm
 refine wp_ift (cvb hc1011) ?_
 refine wp_skip (tn (wp_seq (wp_block (wp_seq (wrl ?_)))))
 obtain ⟨x1012, hx1013, hm⟩ := bind_some hm
 obtain ⟨h1014, h1015, hi1016⟩ := geto_some hx1013
 refine wv (.pointer (some (eAddr r1_2 (z1002.toNat * 1 + 0)))) z z (x_index z z underlying30 sizeOf57 (rd_sliceV f1_2) h1014 h1015) (wv (.float .f64 x1012) z z (x_load z isAgg57 (rd_load f1_2 (HL.le.refl _) hst hi1016 (by rintro _ rfl; rfl))) (wv (.float .f64 x1012) z z z (wl_nil (tn (wrl (wv (p0) z z z (wv (.float .f64 x1012) z z z ?_)))))))
 obtain ⟨t1017, ht1018, hm⟩ := bind_some hm
 refine wc call61 [F6 x1012] z z z ?_
 refine (number_Rank_ref hst.to0 ht1018).mono ?_
 rintro _ w1019 ⟨rfl, hst⟩
 refine ⟨_, z, ?_⟩
 replace hst := hst.of0
 obtain ⟨t1022, ht1023, hm⟩ := bind_some hm
 refine wc call60 [p0, U6 t1017, I6 (8:Int)] z z z ?_
 refine (octet_Writer_Num_ref hst.to1 ht1023).mono ?_
 rintro _ w1024 ⟨rfl, hst⟩
 refine ⟨_, z, ?_⟩
 replace hst := hst.of1
 refine wl_nil (blk_n (tn (wrl (wv (.int .i64 (i64.wrap (z1002 + (1:Int)))) z z z (wv (.int .i64 (i64.wrap (z1002 + (1:Int)))) z z z (wl_nil (tn ?_)))))))
 replace hst := hst.pull1.pull1.keep2
 obtain rfl := some_inj hm
 exact ⟨_, Nat.lt_succ_self _, t1022, (i64.wrap (z1002 + (1:Int))), _, hx1009, (fu 0 p0 z (fu 3 (Pt b749 0) z (fu 69 r1_2 z (fu 70 (.int .i64 ((a1.Puts).length : Int)) z (fu 71 (.int .i64 (i64.wrap (z1002 + (1:Int)))) z z))))), hst⟩
}
 {
 replace hm := bif_f hc1011 hm
 refine wp_iff (cvb hc1011) ?_
 refine wp_exit (then_x (then_x ?_))
 replace hm := inr_up hm hx1009
 refine blk_x (tn ?_)
 replace hst := hst.pull1.pull1.keep2
 obtain rfl := some_inj hm
 exact ⟨z1001, _, hx1031, (fu 0 p0 z (fu 3 (Pt b749 0) z z)), hst⟩
}
}
 {
 clear hst
 rintro _ w1032 ⟨z1027, σ1028, hm, rfl, hst⟩
 dsimp only [locks_Lay_j4] at hm
 refine wrl (wv (p0) z z z (wv (Pt b749 6) z z (x_field z underlying34 z sizeOf32 z) (wv (r1_3) z z (x_load z isAgg32 (hst.bc1 z)) ?_)))
 obtain ⟨t1033, ht1034, hm⟩ := bind_some hm
 refine wc call62 [p0, r1_3] z z z ?_
 refine (octet_Writer_Bytes_ref (f1_3.mono (rd_weak _)) hst.to1 ht1034).mono ?_
 rintro _ w1035 ⟨rfl, hst⟩
 refine ⟨_, z, ?_⟩
 replace hst := hst.of1
 refine wl_nil ?_
 obtain rfl := some_inj hm
 refine post_end (vs := []) results31 rvs_nil ?_
 exact ⟨z, hst.keep1⟩
}
}
}
}

theorem locks_Table_Encode_ref {w0 w : World} {I : HL} {R : SP} {a0 : (Option locks_Table)} {p0 : Value}  (hst : St w0 w I [objO at_locks_Table p0 a0] R) {r : ((List Int))} (hm : locks_Table_Encode a0 = some r) :
  Calls prog 30 #[p0] w fun e w' => ∃ (q0_0 : Value), e = .returned (q0_0) ∧ St w0 w' I [ownS (tyInt .u8) q0_0 r, objO at_locks_Table p0 a0] R := by {
 rcases a0 with _ | o0
 {
 obtain ⟨rfl, hst'⟩ := objO_none hst
 clear hst
 have hst := hst'
 clear hst'
 dsimp only [locks_Table_Encode] at hm
 refine calls_start (args := [.pointer none]) func30 z ntmps30 (Nat.le_of_ble_eq_true z) ?_
 refine wp_seq (wrl (wv ((.slice none 0 0)) z z z (wl_nil (tn (wp_seq (wrl (wv (.agg #[Zs]) z z (by kernel_rfl) ?_)))))))
 obtain ⟨b535, w536, ew537, eb538, hst⟩ := hst.box [Zs] 68
 refine wl_run (v := Pt b535 0) (w' := w536) z z (x_al (by kernel_rfl) ew537 eb538) ?_
 refine wv (Pt b535 0) z z z (wl_nil (tn (wp_seq (wrl (wv (Pt b535 0) z z z (wv (.pointer none) z z z ?_))))))
 replace hst := hst.objO_nil at_locks_Table
 obtain ⟨t542, ht543, hm⟩ := bind_some hm
 refine wc call27 [.pointer none] z z z ?_
 refine (locks_Table_Len_ref hst.to1 ht543).mono ?_
 rintro _ w544 ⟨rfl, hst⟩
 refine ⟨_, z, ?_⟩
 replace hst := hst.of1
 refine wv (.int .u64 (u64.wrap t542)) z z (by kernel_rfl) ?_
 replace hst := hst.own_nil (tyInt .u8)
 replace hst := hst.pull2
 replace hst := at_octet_Writer_close (pv := Pt b535 0) (x := ({ p := [] } : octet_Writer)) hst z
 obtain ⟨t547, ht548, hm⟩ := bind_some hm
 refine wc call60 [Pt b535 0, U6 (u64.wrap t542), I6 (4:Int)] z z z ?_
 refine (octet_Writer_Num_ref hst.to1 ht548).mono ?_
 rintro _ w549 ⟨rfl, hst⟩
 refine ⟨_, z, ?_⟩
 replace hst := hst.of1
 refine wl_nil (tn (wp_seq (wp_seq (wrl (wv (.pointer none) z z z ?_)))))
 replace hst := hst.objO_nil at_locks_Table
 obtain ⟨t553, ht554, hm⟩ := bind_some hm
 refine wc call27 [.pointer none] z z z ?_
 refine (locks_Table_Len_ref hst.to1 ht554).mono ?_
 rintro _ w555 ⟨rfl, hst⟩
 refine ⟨_, z, ?_⟩
 replace hst := hst.of1
 refine wv (.int .i64 (0:Int)) z z z (wl_nil (tn (wp_block ?_)))
 replace hst := hst.sub.pull1.sub
 obtain ⟨n560, hm⟩ := loopO_some hm
 refine wp_loop_n (fun n a w => ∃ (σ559 : Nat → Value), loopN (locks_Table_Encode_l0 t553 t547) n () = some r ∧ a = Fr 29 (upd (upd (upd (upd σ559 0 (.pointer none)) 3 (Pt b535 0)) 13 (.int .i64 t553)) 14 (.int .i64 (0:Int))) ∧ St w0 w I [at_octet_Writer (Pt b535 0) t547] R) n560 ⟨_, hm, (fu 0 (.pointer none) z (fu 3 (Pt b535 0) z (fu 13 (.int .i64 t553) z (fu 14 (.int .i64 (0:Int)) z z)))), hst⟩ ?_
 rintro n566 _ w561 ⟨σ559, hm, rfl, hst⟩
 obtain ⟨n563, y564, rfl, hm, hx565⟩ := loopN_some hm
 dsimp only [locks_Table_Encode_l0] at hm
 refine wp_seq (wrl (wv (.bool (decide ((0:Int) < t553))) z z z (wl_nil (tn (wp_seq ?_)))))
 refine bsplit (decide ((0:Int) < t553)) (fun hc567 => ?_) (fun hc567 => ?_)
 {
 replace hm := bif_t hc567 hm
 refine wp_ift (cvb hc567) ?_
 refine wp_skip (tn (wp_seq (wp_block (wp_seq (wrl ?_)))))
 refine wv (.int .i64 (0:Int)) z z z (wv (.int .i64 (0:Int)) z z z (wl_nil (tn (wrl (wv (Pt b535 0) z z z (wv (.pointer none) z z z ?_))))))
 cases hm
}
 {
 replace hm := bif_f hc567 hm
 refine wp_iff (cvb hc567) ?_
 refine wp_exit (then_x (then_x ?_))
 replace hm := inr_up hm hx565
 refine blk_x (tn (wp_seq (wrl ?_)))
 refine wv (Pt b535 0) z z z ?_
 obtain ⟨t568, ht569, hm⟩ := bind_some hm
 refine wc call32 [Pt b535 0] z z z ?_
 refine (octet_Writer_Done_ref hst.to1 ht569).mono ?_
 rintro _ w570 ⟨v573, rfl, hst⟩
 refine ⟨_, z, ?_⟩
 replace hst := hst.of1
 refine wv (v573) z z z (wl_nil (tn (wp_ret ?_)))
 replace hst := hst.objO_nil at_locks_Table
 obtain rfl := some_inj hm
 refine post_ret (vs := [v573]) results30 (rvs_cons (rv_tmp z) rvs_nil) ?_
 replace hst := hst.pull1
 exact ⟨v573, z, hst.keep2⟩
}
}
 {
 replace hst := objO_get hst
 dsimp only [locks_Table_Encode] at hm
 refine calls_start (args := [p0]) func30 z ntmps30 (Nat.le_of_ble_eq_true z) ?_
 refine wp_seq (wrl (wv ((.slice none 0 0)) z z z (wl_nil (tn (wp_seq (wrl (wv (.agg #[Zs]) z z (by kernel_rfl) ?_)))))))
 obtain ⟨b577, w578, ew579, eb580, hst⟩ := hst.box [Zs] 68
 refine wl_run (v := Pt b577 0) (w' := w578) z z (x_al (by kernel_rfl) ew579 eb580) ?_
 refine wv (Pt b577 0) z z z (wl_nil (tn (wp_seq (wrl (wv (Pt b577 0) z z z (wv (p0) z z z ?_))))))
 replace hst := hst.pull1
 replace hst := objO_some hst
 obtain ⟨t583, ht584, hm⟩ := bind_some hm
 refine wc call27 [p0] z z z ?_
 refine (locks_Table_Len_ref hst.to1 ht584).mono ?_
 rintro _ w585 ⟨rfl, hst⟩
 refine ⟨_, z, ?_⟩
 replace hst := hst.of1
 replace hst := objO_get hst
 refine wv (.int .u64 (u64.wrap t583)) z z (by kernel_rfl) ?_
 replace hst := hst.own_nil (tyInt .u8)
 replace hst := hst.pull2
 replace hst := at_octet_Writer_close (pv := Pt b577 0) (x := ({ p := [] } : octet_Writer)) hst z
 obtain ⟨t588, ht589, hm⟩ := bind_some hm
 refine wc call60 [Pt b577 0, U6 (u64.wrap t583), I6 (4:Int)] z z z ?_
 refine (octet_Writer_Num_ref hst.to1 ht589).mono ?_
 rintro _ w590 ⟨rfl, hst⟩
 refine ⟨_, z, ?_⟩
 replace hst := hst.of1
 refine wl_nil (tn (wp_seq (wp_seq (wrl (wv (p0) z z z ?_)))))
 replace hst := hst.pull1
 replace hst := objO_some hst
 obtain ⟨t593, ht594, hm⟩ := bind_some hm
 refine wc call27 [p0] z z z ?_
 refine (locks_Table_Len_ref hst.to1 ht594).mono ?_
 rintro _ w595 ⟨rfl, hst⟩
 refine ⟨_, z, ?_⟩
 replace hst := hst.of1
 replace hst := objO_get hst
 refine wv (.int .i64 (0:Int)) z z z (wl_nil (tn (wp_block ?_)))
 obtain ⟨n661, hm⟩ := loopO_some hm
 refine wp_loop_n (fun n a w => ∃ (z658 : octet_Writer) (z659 : Int) (σ660 : Nat → Value), loopN (locks_Table_Encode_l1 t593 o0) n (z658, z659) = some r ∧ a = Fr 29 (upd (upd (upd (upd σ660 0 (p0)) 3 (Pt b577 0)) 13 (.int .i64 t593)) 14 (.int .i64 z659)) ∧ St w0 w I [at_locks_Table p0 o0, at_octet_Writer (Pt b577 0) z658] R) n661 ⟨t588, (0:Int), _, hm, (fu 0 p0 z (fu 3 (Pt b577 0) z (fu 13 (.int .i64 t593) z (fu 14 (.int .i64 (0:Int)) z z)))), hst⟩ ?_
 rintro n667 _ w662 ⟨z658, z659, σ660, hm, rfl, hst⟩
 obtain ⟨n664, y665, rfl, hm, hx666⟩ := loopN_some hm
 dsimp only [locks_Table_Encode_l1] at hm
 refine wp_seq (wrl (wv (.bool (decide (z659 < t593))) z z z (wl_nil (tn (wp_seq ?_)))))
 refine bsplit (decide (z659 < t593)) (fun hc668 => ?_) (fun hc668 => ?_)
 {
 replace hm := bif_t hc668 hm
 refine wp_ift (cvb hc668) ?_
 refine wp_skip (tn (wp_seq (wp_block (wp_seq (wrl ?_)))))
 refine wv (.int .i64 z659) z z z (wv (.int .i64 z659) z z z (wl_nil (tn (wrl (wv (Pt b577 0) z z z (wv (p0) z z z ?_))))))
 obtain ⟨b669, v670, rfl, hst'⟩ := at_locks_Table_open hst
 clear hst
 have hst := hst'
 clear hst'
 refine wv (Pt b669 0) z z z (wv (Pt b669 0) z z (x_field z underlying77 z sizeOf22 z) (wv (v670) z z (x_load z isAgg22 (hst.bc0 z)) (wv (.int .i64 z659) z z z ?_)))
 obtain ⟨x672, hx673, hm⟩ := bind_some hm
 obtain ⟨h674, h675, hi676⟩ := geto_some hx673
 refine wv (.pointer (some (eAddr v670 (z659.toNat * 7 + 0)))) z z (x_index z z underlying22 sizeOf34 hst.sv1 h674 h675) ?_
 obtain ⟨cs677, hr678, hc679⟩ := hst.og1 hi676
 obtain ⟨v680, v683, v686, v689, rfl, f681, f684, f687, f690, -⟩ := hr678
 refine wv (.agg #[U6 x672.ID.Session, U6 x672.ID.Seq, U6 x672.Epoch, v680, v683, v686, v689]) z z (x_loadN (cs := [U6 x672.ID.Session, U6 x672.ID.Seq, U6 x672.Epoch, v680, v683, v686, v689]) z isAgg34 sizeOf34 (eCells (o := 0) hc679 z)) ?_
 replace hst := hst.pull2
 obtain ⟨t692, ht693, hm⟩ := bind_some hm
 refine wc call31 [Pt b577 0, .agg #[U6 x672.ID.Session, U6 x672.ID.Seq, U6 x672.Epoch, v680, v683, v686, v689]] z z z ?_
 refine (locks_Lay_ref (f681.mono ro_rd) (f684.mono ro_rd) (f687.mono ro_rd) (f690.mono ro_rd) hst.to1 ht693).mono ?_
 rintro _ w694 ⟨rfl, hst⟩
 refine ⟨_, z, ?_⟩
 replace hst := hst.of1
 refine wl_nil (blk_n (tn (wrl (wv (.int .i64 (i64.wrap (z659 + (1:Int)))) z z z (wv (.int .i64 (i64.wrap (z659 + (1:Int)))) z z z (wl_nil (tn ?_)))))))
 replace hst := hst.pull2.pull2
 replace hst := at_locks_Table_close (pv := Pt b669 0) (x := o0) hst z
 replace hst := hst.pull1.pull1.keep2
 obtain rfl := some_inj hm
 exact ⟨_, Nat.lt_succ_self _, t692, (i64.wrap (z659 + (1:Int))), _, hx666, (fu 0 (Pt b669 0) z (fu 3 (Pt b577 0) z (fu 13 (.int .i64 t593) z (fu 14 (.int .i64 (i64.wrap (z659 + (1:Int)))) z z)))), hst⟩
}
 {
 replace hm := bif_f hc668 hm
 refine wp_iff (cvb hc668) ?_
 refine wp_exit (then_x (then_x ?_))
 replace hm := inr_up hm hx666
 refine blk_x (tn (wp_seq (wrl ?_)))
 refine wv (Pt b577 0) z z z ?_
 replace hst := hst.pull1
 obtain ⟨t697, ht698, hm⟩ := bind_some hm
 refine wc call32 [Pt b577 0] z z z ?_
 refine (octet_Writer_Done_ref hst.to1 ht698).mono ?_
 rintro _ w699 ⟨v702, rfl, hst⟩
 refine ⟨_, z, ?_⟩
 replace hst := hst.of1
 refine wv (v702) z z z (wl_nil (tn (wp_ret ?_)))
 replace hst := hst.pull1
 replace hst := objO_some hst
 obtain rfl := some_inj hm
 refine post_ret (vs := [v702]) results30 (rvs_cons (rv_tmp z) rvs_nil) ?_
 replace hst := hst.pull1
 exact ⟨v702, z, hst.keep2⟩
}
}
}

theorem slices_Equal_byte_byte_ref {w0 w : World} {I : HL} {R : SP} {a0 : (List Int)} {r0_0 : Value} {a1 : (List Int)} {r1_0 : Value} (f0_0 : Rd (tyInt .u8) R I r0_0 a0) (f1_0 : Rd (tyInt .u8) R I r1_0 a1) (hst : St w0 w I [] R) {r : (Bool)} (hm : slices_Equal_byte_byte a0 a1 = some r) :
  Calls prog 50 #[r0_0, r1_0] w fun e w' => e = .returned (.bool r) ∧ St w0 w' I [] R := by {
 unfold slices_Equal_byte_byte at hm
 refine calls_start (args := [r0_0, r1_0]) func50 z ntmps50 (Nat.le_of_ble_eq_true z) ?_
 refine wp_seq (wrl (wv (.bool false) z z z (wl_nil (tn (wp_seq (wp_seq (wrl (wv (r0_0) z z z (wv (.int .i64 ((a0).length : Int)) z z (x_len z underlying32 (rd_sliceV f0_0)) (wv (r1_0) z z z (wv (.int .i64 ((a1).length : Int)) z z (x_len z underlying32 (rd_sliceV f1_0)) (wv (.bool (((a0).length : Int) != ((a1).length : Int))) z z z (wl_nil (tn ?_))))))))))))))
 refine bsplit (((a0).length : Int) != ((a1).length : Int)) (fun hc418 => ?_) (fun hc418 => ?_)
 {
 replace hm := bif_t hc418 hm
 refine wp_ift (cvb hc418) ?_
 refine wp_seq (wrl (wv (.bool false) z z z (wl_nil (tn (wp_ret (then_r ?_))))))
 obtain rfl := some_inj hm
 refine post_ret (vs := [.bool false]) results50 (rvs_cons (rv_tmp z) rvs_nil) ?_
 exact ⟨z, hst.keep0⟩
}
 {
 replace hm := bif_f hc418 hm
 refine wp_iff (cvb hc418) ?_
 refine wp_skip (tn (wp_seq (wp_seq (wrl ?_))))
 refine wv (r0_0) z z z (wv (.int .i64 ((a0).length : Int)) z z (x_len z underlying32 (rd_sliceV f0_0)) (wv (.int .i64 (0:Int)) z z z (wl_nil (tn (wp_block ?_)))))
 obtain ⟨n446, hm⟩ := loopO_some hm
 refine wp_loop_n (fun n a w => ∃ (z444 : Int) (σ445 : Nat → Value), loopN (slices_Equal_byte_byte_l0 a0 a1) n z444 = some r ∧ a = Fr 26 (upd (upd (upd (upd σ445 0 (r0_0)) 1 (r1_0)) 12 (.int .i64 ((a0).length : Int))) 13 (.int .i64 z444)) ∧ St w0 w I [] R) n446 ⟨(0:Int), _, hm, (fu 0 r0_0 z (fu 1 r1_0 z (fu 12 (.int .i64 ((a0).length : Int)) z (fu 13 (.int .i64 (0:Int)) z z)))), hst⟩ ?_
 rintro n452 _ w447 ⟨z444, σ445, hm, rfl, hst⟩
 obtain ⟨n449, y450, rfl, hm, hx451⟩ := loopN_some hm
 dsimp only [slices_Equal_byte_byte_l0] at hm
 refine wp_seq (wrl (wv (.bool (decide (z444 < ((a0).length : Int)))) z z z (wl_nil (tn (wp_seq ?_)))))
 refine bsplit (decide (z444 < ((a0).length : Int))) (fun hc453 => ?_) (fun hc453 => ?_)
 {
 replace hm := bif_t hc453 hm
 refine wp_ift (cvb hc453) ?_
 refine wp_skip (tn (wp_seq (wp_block (wp_seq (wrl ?_)))))
 refine wv (.int .i64 z444) z z z (wv (.int .i64 z444) z z z (wl_nil (tn (wp_seq ?_))))
 refine wq_regionS hst Try.mixed (by kernel_rfl) ?_
 refine wq_run (v := r0_0) z z (fun w hst => z) ?_
 refine wq_run (v := .int .i64 z444) z z (fun w hst => z) ?_
 obtain ⟨x454, hx455, hm⟩ := bind_some hm
 obtain ⟨h456, h457, hi458⟩ := geto_some hx455
 refine wq_run (v := .pointer (some (eAddr r0_0 (z444.toNat * 1 + 0)))) z z (fun w hst => x_index z z underlying32 sizeOf5 (rd_sliceV f0_0) h456 h457) ?_
 refine wq_run (v := .int .u8 x454) z z (fun w hst => x_load z isAgg5 (rd_load f0_0 (HL.le.refl _) hst hi458 (by rintro _ rfl; rfl))) ?_
 refine wq_run (v := r1_0) z z (fun w hst => z) ?_
 refine wq_run (v := .int .i64 z444) z z (fun w hst => z) ?_
 obtain ⟨x459, hx460, hm⟩ := bind_some hm
 obtain ⟨h461, h462, hi463⟩ := geto_some hx460
 refine wq_run (v := .pointer (some (eAddr r1_0 (z444.toNat * 1 + 0)))) z z (fun w hst => x_index z z underlying32 sizeOf5 (rd_sliceV f1_0) h461 h462) ?_
 refine wq_run (v := .int .u8 x459) z z (fun w hst => x_load z isAgg5 (rd_load f1_0 (HL.le.refl _) hst hi463 (by rintro _ rfl; rfl))) ?_
 refine wq_run (v := .bool (x454 != x459)) z z (fun w hst => z) ?_
 refine wq_nil ?_
 intro w hst
 refine tn ?_
 refine bsplit (x454 != x459) (fun hc464 => ?_) (fun hc464 => ?_)
 {
 replace hm := bif_t hc464 hm
 refine wp_ift (cvb hc464) ?_
 refine wp_seq (wrl (wv (.bool false) z z z (wl_nil (tn (wp_ret (blk_r (then_r (then_r ?_))))))))
 replace hm := inr_up hm hx451
 refine blk_r (then_r ?_)
 obtain rfl := some_inj hm
 refine post_ret (vs := [.bool false]) results50 (rvs_cons (rv_tmp z) rvs_nil) ?_
 exact ⟨z, hst.keep0⟩
}
 {
 replace hm := bif_f hc464 hm
 refine wp_iff (cvb hc464) ?_
 refine wp_skip (blk_n (tn (wrl ?_)))
 refine wv (.int .i64 (i64.wrap (z444 + (1:Int)))) z z z (wv (.int .i64 (i64.wrap (z444 + (1:Int)))) z z z (wl_nil (tn ?_)))
 replace hst := hst.keep0
 obtain rfl := some_inj hm
 exact ⟨_, Nat.lt_succ_self _, (i64.wrap (z444 + (1:Int))), _, hx451, (fu 0 r0_0 z (fu 1 r1_0 z (fu 12 (.int .i64 ((a0).length : Int)) z (fu 13 (.int .i64 (i64.wrap (z444 + (1:Int)))) z z)))), hst⟩
}
}
 {
 replace hm := bif_f hc453 hm
 refine wp_iff (cvb hc453) ?_
 refine wp_exit (then_x (then_x ?_))
 replace hm := inr_up hm hx451
 refine blk_x (tn (wp_seq (wrl ?_)))
 refine wv (.bool true) z z z (wl_nil (tn (wp_ret ?_)))
 obtain rfl := some_inj hm
 refine post_ret (vs := [.bool true]) results50 (rvs_cons (rv_tmp z) rvs_nil) ?_
 exact ⟨z, hst.keep0⟩
}
}
}

theorem locks_Decode_ref {w0 w : World} {I : HL} {R : SP} {a0 : (List Int)} {r0_0 : Value} (f0_0 : Ro (tyInt .u8) I r0_0 a0) (hst : St w0 w I [] R) {r : (Option locks_Table × Int)} (hm : locks_Decode a0 = some r) :
  Calls prog 29 #[r0_0] w fun e w' => ∃ (I' : HL) (q0 : Value), e = .returned (.tuple #[q0, I6 r.2]) ∧ I.le I' ∧ St w0 w' I' [objO at_locks_Table q0 r.1] R := by {
 unfold locks_Decode at hm
 refine calls_start (args := [r0_0]) func29 z ntmps29 (Nat.le_of_ble_eq_true z) ?_
 have hI0 := HL.le.refl I
 refine wp_seq (wrl (wv (.pointer none) z z z (wv (.int .i64 (0:Int)) z z z (wl_nil (tn (wp_seq (wrl (wv (r0_0) z z z ?_))))))))
 obtain ⟨t376, ht377, hm⟩ := bind_some hm
 refine wc call33 [r0_0] z z z ?_
 refine (octet_Read_ref f0_0 hst.to0 ht377).mono ?_
 rintro _ w378 ⟨v381, rfl, hst⟩
 refine ⟨_, z, ?_⟩
 replace hst := hst.of1
 refine wv (v381) z z z (wl_nil (tn (wp_seq (wrl ?_))))
 obtain ⟨t383, ht384, hm⟩ := bind_some hm
 refine wc call10 [] z z z ?_
 refine (locks_New_ref hst.to0 ht384).mono ?_
 rintro _ w385 ⟨v388, rfl, hst⟩
 refine ⟨_, z, ?_⟩
 replace hst := hst.of1
 refine wv (v388) z z z (wl_nil (tn ?_))
 obtain ⟨y699, hm, hx700⟩ := joinO_some hm
 refine wp_cut (fun a w => ∃ (I696 : HL) (z694 : octet_Reader) (z695 : locks_Table) (σ697 : Nat → Value), (locks_Decode_j0 a0) (z694, z695) = some r ∧ a = Fr 58 (upd (upd (upd σ697 0 (r0_0)) 4 (v381)) 5 (v388)) ∧ I.le I696 ∧ St w0 w I696 [at_octet_Reader v381 z694, at_locks_Table v388 z695] R) ?_ ?_
 {
 have hL701 := HL.le.refl I
 refine wp_seq (wrl (wv (v381) z z z (wv (v381) z z z ?_)))
 replace hst := hst.pull1
 obtain ⟨t390, ht391, hm⟩ := bind_some hm
 refine wc call58 [v381] z z z ?_
 refine (octet_Reader_Left_ref hst.to1 ht391).mono ?_
 rintro _ w392 ⟨rfl, hst⟩
 refine ⟨_, z, ?_⟩
 replace hst := hst.of1
 obtain ⟨t395, ht396, hm⟩ := bind_some hm
 refine wc call57 [v381, I6 t390] z z z ?_
 refine (octet_Reader_Count_ref hst.to1 ht396).mono ?_
 rintro _ w397 ⟨rfl, hst⟩
 refine ⟨_, z, ?_⟩
 replace hst := hst.of1
 refine wv (.int .i64 (0:Int)) z z z (wl_nil (tn (wp_block ?_)))
 obtain ⟨n594, hm⟩ := loopO_some hm
 refine wp_loop_n (fun n a w => ∃ (I592 : HL) (z589 : octet_Reader) (z590 : locks_Table) (z591 : Int) (σ593 : Nat → Value), loopN (locks_Decode_l1 t395) n (z589, z590, z591) = some y699 ∧ a = Fr 58 (upd (upd (upd (upd (upd σ593 0 (r0_0)) 4 (v381)) 5 (v388)) 14 (.int .i64 t395.1)) 15 (.int .i64 z591)) ∧ I.le I592 ∧ St w0 w I592 [at_octet_Reader v381 z589, at_locks_Table v388 z590] R) n594 ⟨_, t395.2, t383, (0:Int), _, hm, (fu 0 r0_0 z (fu 4 v381 z (fu 5 v388 z (fu 14 (.int .i64 t395.1) z (fu 15 (.int .i64 (0:Int)) z z))))), (HL.le.refl _), hst⟩ ?_
 rintro n600 _ w595 ⟨I592, z589, z590, z591, σ593, hm, rfl, hL596, hst⟩
 obtain ⟨n597, y598, rfl, hm, hx599⟩ := loopN_some hm
 dsimp only [locks_Decode_l1] at hm
 replace f0_0 := f0_0.mono (ro_le hL596)
 replace hI0 := hI0.trans hL596
 replace hL701 := hL701.trans hL596
 refine wp_seq (wrl (wv (.bool (decide (z591 < t395.1))) z z z (wl_nil (tn (wp_seq ?_)))))
 refine bsplit (decide (z591 < t395.1)) (fun hc601 => ?_) (fun hc601 => ?_)
 {
 replace hm := bif_t hc601 hm
 refine wp_ift (cvb hc601) ?_
 refine wp_skip (tn (wp_seq (wp_block (wp_seq (wrl ?_)))))
 refine wv (.int .i64 z591) z z z (wv (.int .i64 z591) z z z (wl_nil (tn (wp_seq (wrl (wv (v381) z z z ?_))))))
 obtain ⟨t602, ht603, hm⟩ := bind_some hm
 refine wc call34 [v381] z z z ?_
 refine (locks_Read_ref hst.to1 ht603).mono ?_
 rintro _ w604 ⟨v607, v609, v611, v613, rfl, hst⟩
 refine ⟨_, z, ?_⟩
 replace hst := hst.of5
 obtain ⟨b619, w620, ew621, eb622, hst⟩ := hst.box [Zu, Zu, Zu, Zs, Zs, Zs, Zs] 34
 refine wl_run (v := Pt b619 0) (w' := w620) z z (x_al (by kernel_rfl) ew621 eb622) ?_
 obtain ⟨w624, hr625, hst⟩ := hst.bx [U6 t602.1.ID.Session, U6 t602.1.ID.Seq, U6 t602.1.Epoch, v607, v609, v611, v613] sizeOf34 z (oC z (oC z (oC z (oC (one_of_sliceV hst.sv1) (oC (one_of_sliceV hst.sv2) (oC (one_of_sliceV hst.sv3) (oC (one_of_sliceV hst.sv4) oN))))))) (by kernel_rfl)
 refine wl_unit z z (x_unit hr625) ?_
 refine wl_nil (tn ?_)
 obtain ⟨y660, hm, hx661⟩ := joinO_some hm
 refine wp_cut (fun a w => ∃ (σ658 : Nat → Value), (locks_Decode_j2 z590 t602 z591) () = some y598 ∧ a = Fr 58 (upd (upd (upd (upd (upd (upd σ658 0 (r0_0)) 4 (v381)) 5 (v388)) 7 (Pt b619 0)) 14 (.int .i64 t395.1)) 15 (.int .i64 z591)) ∧ St w0 w I592 [at_octet_Reader v381 t602.2, at_locks_Table v388 z590, cells b619 [U6 t602.1.ID.Session, U6 t602.1.ID.Seq, U6 t602.1.Epoch, v607, v609, v611, v613], ownS tyF64 v607 t602.1.Gets, ownS tyF2 v609 t602.1.Scans, ownS tyF64 v611 t602.1.Puts, ownS (tyInt .u8) v613 t602.1.Data] R) ?_ ?_
 {
 refine wp_seq ?_
 replace hst := hst.pull6
 obtain ⟨b626, v627, rfl, hst'⟩ := at_locks_Table_open hst
 clear hst
 have hst := hst'
 clear hst'
 replace hst := hst.pull1
 obtain ⟨css629, hq630, hst⟩ := hst.own_open
 refine wp_region_St hst 16 [0, 1, 2, 3, 4, 5, 6, 7, 8, 9, 10, 11, 12, 13, 14, 15] [0, 1, 3, 7, 15, 31, 63, 7, 135, 511, 1023, 7, 2055, 8191, 16383, 32767] [] z (by kernel_rfl) (by kernel_rfl) Try.mixed (by kernel_rfl) ?_
 refine wsr (.int .i64 z591) 0 z z z (by kernel_rfl) (fun w hst => z) (wsr (.bool (decide (z591 > (0:Int)))) 1 z z z (by kernel_rfl) (fun w hst => z) (wsr (.bool (decide (z591 > (0:Int)))) 2 z z z (by kernel_rfl) (fun w hst => z) ?_))
 refine bsplit (decide (z591 > (0:Int))) (fun hc631 => ?_) (fun hc631 => ?_)
 {
 replace hm := bif_t hc631 hm
 refine ws_q (v := Pt b626 0) 3 [4, 5, 6, 7, 8, 9, 10, 11, 12, 13, 14, 15] (by kernel_rfl) z z (yi_run ((wanted_eq z z z (cvb hc631)).trans z) (fun w hst => z)) (ws_q (v := Pt b626 0) 4 [5, 6, 7, 8, 9, 10, 11, 12, 13, 14, 15] (by kernel_rfl) z z (yi_run ((wanted_eq z z z (cvb hc631)).trans z) (fun w hst => z)) (ws_q (v := Pt b626 0) 5 [6, 7, 8, 9, 10, 11, 12, 13, 14, 15] (by kernel_rfl) z z (yi_run ((wanted_eq z z z (cvb hc631)).trans z) (fun w hst => x_field z underlying77 z sizeOf22 z)) (ws_q (v := v627) 6 [7, 8, 9, 10, 11, 12, 13, 14, 15] (by kernel_rfl) z z (yi_run ((wanted_eq z z z (cvb hc631)).trans z) (fun w hst => x_load z isAgg22 (hst.bc1 z))) (ws_q (v := .int .i64 z591) 7 [8, 9, 10, 11, 12, 13, 14, 15] (by kernel_rfl) z z (yi_run ((wanted_eq z z z (cvb hc631)).trans z) (fun w hst => z)) (ws_q (v := .int .i64 (i64.wrap (z591 - (1:Int)))) 8 [9, 10, 11, 12, 13, 14, 15] (by kernel_rfl) z z (yi_run ((wanted_eq z z z (cvb hc631)).trans z) (fun w hst => z)) ?_)))))
 obtain ⟨x632, hx633, hm⟩ := bind_some hm
 obtain ⟨h634, h635, hi636⟩ := geto_some hx633
 refine ws_q (v := .pointer (some (eAddr v627 ((i64.wrap (z591 - (1:Int))).toNat * 7 + 0)))) 9 [10, 11, 12, 13, 14, 15] (by kernel_rfl) z z (yi_run ((wanted_eq z z z (cvb hc631)).trans z) (fun w hst => x_index z z underlying22 sizeOf34 (hst.rsv 0 z hq630) h634 h635)) ?_
 obtain ⟨cs637, hc639, hr638⟩ := Reps.get hq630 hi636
 obtain ⟨v640, v643, v646, v649, rfl, f641, f644, f647, f650, -⟩ := hr638
 refine ws_q (v := .agg #[U6 x632.ID.Session, U6 x632.ID.Seq, U6 x632.Epoch, v640, v643, v646, v649]) 10 [11, 12, 13, 14, 15] (by kernel_rfl) z z (yi_run ((wanted_eq z z z (cvb hc631)).trans z) (fun w hst => x_loadN (cs := [U6 x632.ID.Session, U6 x632.ID.Seq, U6 x632.Epoch, v640, v643, v646, v649]) z isAgg34 sizeOf34 (eCells (o := 0) (hst.rcell 0 z hc639) z))) (ws_q (v := Pt b619 0) 11 [12, 13, 14, 15] (by kernel_rfl) z z (yi_run ((wanted_eq z z z (cvb hc631)).trans z) (fun w hst => x_field z underlying34 z sizeOf29 z)) (ws_q (v := .agg #[U6 t602.1.ID.Session, U6 t602.1.ID.Seq]) 12 [13, 14, 15] (by kernel_rfl) z z (yi_run ((wanted_eq z z z (cvb hc631)).trans z) (fun w hst => x_loadN (cs := [U6 t602.1.ID.Session, U6 t602.1.ID.Seq]) z isAgg29 sizeOf29 (hst.bcs2 0 z))) ?_))
 refine ws_e1 13 (by kernel_rfl) ?_
 refine nxe [14, 15] (by kernel_rfl) z ((wanted_eq z z z (cvb hc631)).trans z) ?_
 clear hst
 intro w hst
 obtain ⟨t652, ht653, hm⟩ := bind_some hm
 refine wec call59 [.agg #[U6 x632.ID.Session, U6 x632.ID.Seq, U6 x632.Epoch, v640, v643, v646, v649], .agg #[U6 t602.1.ID.Session, U6 t602.1.ID.Seq]] z z ?_
 refine (locks_compare_ref (f641.mono ro_rd) (f644.mono ro_rd) (f647.mono ro_rd) (f650.mono ro_rd) hst.to0 ht653).mono ?_
 rintro _ w654 ⟨rfl, hst⟩
 refine ⟨_, z, ?_⟩
 replace hst := hst.of0
 refine ws_next (pend' := []) hst (by kernel_rfl) pk_nil ?_
 refine ws_q (v := .bool (decide (t652 ≥ (0:Int)))) 14 [15] (by kernel_rfl) z z (yi_run ((wanted_eq z z z (cvb hc631)).trans z) (fun w hst => z)) (wsr (.bool (decide (t652 ≥ (0:Int)))) 15 z z z (by kernel_rfl) (fun w hst => x_pick_t hc631 z z) ?_)
 refine ws_nil ?_
 intro w hst
 replace hst := hst.own_close hq630
 refine tn ?_
 refine bsplit (decide (t652 ≥ (0:Int))) (fun hc657 => ?_) (fun hc657 => ?_)
 {
 replace hm := bif_t hc657 hm
 refine wp_ift (cvb hc657) ?_
 refine wp_seq (wrl (wv (.pointer none) z z z (wv (.int .i64 (5:Int)) z z z (wl_nil (tn (wp_ret (then_r ?_)))))))
 replace hm := inr_up hm hx661
 refine blk_r (then_r (then_r ?_))
 replace hm := inr_up hm hx599
 refine blk_r (then_r ?_)
 replace hm := inr_up hm hx700
 replace hst := hst.objO_nil at_locks_Table
 obtain rfl := some_inj hm
 refine post_ret (vs := [.pointer none, I6 (5:Int)]) results29 (rvs_cons (rv_tmp z) (rvs_cons (rv_tmp z) rvs_nil)) ?_
 exact ⟨_, .pointer none, z, hI0, hst.keep1⟩
}
 {
 replace hm := bif_f hc657 hm
 refine wp_iff (cvb hc657) ?_
 refine wp_skip (tn ?_)
 replace hst := hst.pull1
 replace hst := at_locks_Table_close (pv := Pt b626 0) (x := z590) hst z
 replace hst := hst.pull5.pull5.pull5.pull5.pull5.pull5.pull6.keep7
 obtain rfl := some_inj hm
 exact ⟨_, hx661, (fu 0 r0_0 z (fu 4 v381 z (fu 5 (Pt b626 0) z (fu 7 (Pt b619 0) z (fu 14 (.int .i64 t395.1) z (fu 15 (.int .i64 z591) z z)))))), hst⟩
}
}
 {
 replace hm := bif_f hc631 hm
 refine ws_q (v := undef) 3 [4, 5, 6, 7, 8, 9, 10, 11, 12, 13, 14, 15] (by kernel_rfl) z z (yi_off ((wanted_eq z z z (cvb hc631)).trans z)) (ws_q (v := undef) 4 [5, 6, 7, 8, 9, 10, 11, 12, 13, 14, 15] (by kernel_rfl) z z (yi_off ((wanted_eq z z z (cvb hc631)).trans z)) (ws_q (v := undef) 5 [6, 7, 8, 9, 10, 11, 12, 13, 14, 15] (by kernel_rfl) z z (yi_off ((wanted_eq z z z (cvb hc631)).trans z)) (ws_q (v := undef) 6 [7, 8, 9, 10, 11, 12, 13, 14, 15] (by kernel_rfl) z z (yi_off ((wanted_eq z z z (cvb hc631)).trans z)) (ws_q (v := undef) 7 [8, 9, 10, 11, 12, 13, 14, 15] (by kernel_rfl) z z (yi_off ((wanted_eq z z z (cvb hc631)).trans z)) (ws_q (v := undef) 8 [9, 10, 11, 12, 13, 14, 15] (by kernel_rfl) z z (yi_off ((wanted_eq z z z (cvb hc631)).trans z)) (ws_q (v := undef) 9 [10, 11, 12, 13, 14, 15] (by kernel_rfl) z z (yi_off ((wanted_eq z z z (cvb hc631)).trans z)) (ws_q (v := undef) 10 [11, 12, 13, 14, 15] (by kernel_rfl) z z (yi_off ((wanted_eq z z z (cvb hc631)).trans z)) (ws_q (v := undef) 11 [12, 13, 14, 15] (by kernel_rfl) z z (yi_off ((wanted_eq z z z (cvb hc631)).trans z)) (ws_q (v := undef) 12 [13, 14, 15] (by kernel_rfl) z z (yi_off ((wanted_eq z z z (cvb hc631)).trans z)) (ws_q (v := undef) 13 [14, 15] (by kernel_rfl) z z (yi_off ((wanted_eq z z z (cvb hc631)).trans z)) (ws_q (v := undef) 14 [15] (by kernel_rfl) z z (yi_off ((wanted_eq z z z (cvb hc631)).trans z)) (wsr (.bool false) 15 z z z (by kernel_rfl) (fun w hst => x_pick_f hc631 z z) ?_))))))))))))
 refine ws_nil ?_
 intro w hst
 replace hst := hst.own_close hq630
 refine tn ?_
 refine wp_iff z ?_
 refine wp_skip (tn ?_)
 replace hst := hst.pull1
 replace hst := at_locks_Table_close (pv := Pt b626 0) (x := z590) hst z
 replace hst := hst.pull5.pull5.pull5.pull5.pull5.pull5.pull6.keep7
 obtain rfl := some_inj hm
 exact ⟨_, hx661, (fu 0 r0_0 z (fu 4 v381 z (fu 5 (Pt b626 0) z (fu 7 (Pt b619 0) z (fu 14 (.int .i64 t395.1) z (fu 15 (.int .i64 z591) z z)))))), hst⟩
}
}
 {
 clear hst
 rintro _ w662 ⟨σ658, hm, rfl, hst⟩
 dsimp only [locks_Decode_j2] at hm
 replace hst := hst.pull1
 obtain ⟨b663, v664, rfl, hst'⟩ := at_locks_Table_open hst
 clear hst
 have hst := hst'
 clear hst'
 refine wp_region_St hst 11 [0, 1, 2, 3, 4, 5, 6, 7, 8, 9, 10] [0, 0, 2, 6, 14, 0, 32, 126, 255, 511, 1023] [] z (by kernel_rfl) (by kernel_rfl) Try.mixed (by kernel_rfl) ?_
 refine wsr (Pt b663 0) 0 z z z (by kernel_rfl) (fun w hst => z) (wsr (Pt b663 0) 1 z z z (by kernel_rfl) (fun w hst => z) (wsr (Pt b663 0) 2 z z z (by kernel_rfl) (fun w hst => z) (wsr (Pt b663 0) 3 z z z (by kernel_rfl) (fun w hst => x_field z underlying77 z sizeOf22 z) (wsr (v664) 4 z z z (by kernel_rfl) (fun w hst => x_load z isAgg22 (hst.bc0 z)) (wsr (.agg #[U6 t602.1.ID.Session, U6 t602.1.ID.Seq, U6 t602.1.Epoch, v607, v609, v611, v613]) 5 z z z (by kernel_rfl) (fun w hst => x_loadN (cs := [U6 t602.1.ID.Session, U6 t602.1.ID.Seq, U6 t602.1.Epoch, v607, v609, v611, v613]) z isAgg34 sizeOf34 (hst.bcs3 0 z)) ?_)))))
 refine ws_e1 6 (by kernel_rfl) ?_
 refine nxe [7, 8, 9, 10] (by kernel_rfl) z z ?_
 clear hst
 intro w hst
 replace hst := hst.pull4
 obtain ⟨I670, hI671, f672, hst⟩ := hst.own_fix
 replace f0_0 := f0_0.mono (ro_le hI671)
 replace hI0 := hI0.trans hI671
 replace hL701 := hL701.trans hI671
 replace hL596 := hL596.trans hI671
 replace hst := hst.pull4
 obtain ⟨I673, hI674, f675, hst⟩ := hst.own_fix
 replace f0_0 := f0_0.mono (ro_le hI674)
 replace f672 := f672.mono (ro_le hI674)
 replace hI0 := hI0.trans hI674
 replace hL701 := hL701.trans hI674
 replace hL596 := hL596.trans hI674
 replace hst := hst.pull4
 obtain ⟨I676, hI677, f678, hst⟩ := hst.own_fix
 replace f0_0 := f0_0.mono (ro_le hI677)
 replace f672 := f672.mono (ro_le hI677)
 replace f675 := f675.mono (ro_le hI677)
 replace hI0 := hI0.trans hI677
 replace hL701 := hL701.trans hI677
 replace hL596 := hL596.trans hI677
 replace hst := hst.pull4
 obtain ⟨I679, hI680, f681, hst⟩ := hst.own_fix
 replace f0_0 := f0_0.mono (ro_le hI680)
 replace f672 := f672.mono (ro_le hI680)
 replace f675 := f675.mono (ro_le hI680)
 replace f678 := f678.mono (ro_le hI680)
 replace hI0 := hI0.trans hI680
 replace hL701 := hL701.trans hI680
 replace hL596 := hL596.trans hI680
 obtain ⟨b682, w683, ew684, eb685, hst⟩ := hst.lits (E := ty_api_Hold) (xs := [t602.1]) [[U6 t602.1.ID.Session, U6 t602.1.ID.Seq, U6 t602.1.Epoch, v607, v609, v611, v613]] 34 1 z (Reps.cons ⟨_, _, _, _, z, f672, f675, f678, f681, one_of_sliceV (ro_sliceV f672), one_of_sliceV (ro_sliceV f675), one_of_sliceV (ro_sliceV f678), one_of_sliceV (ro_sliceV f681)⟩ Reps.nil)
 refine we_run (v := (.slice (some ⟨b682, 0, none⟩) 1 1)) (w' := w683) z (x_als (by kernel_rfl) ew684 eb685) ?_
 refine ws_next (pend' := [(4, v664), (3, Pt b663 0), (2, Pt b663 0), (1, Pt b663 0), (0, Pt b663 0)]) hst (by kernel_rfl) (pkr z z (fun w hst => x_load z isAgg22 (hst.bc1 z)) (pkr z z (fun w hst => x_field z underlying77 z sizeOf22 z) (pkr z z (fun w hst => z) (pkr z z (fun w hst => z) (pkr z z (fun w hst => z) pk_nil))))) ?_
 refine ws_e1 7 (by kernel_rfl) ?_
 refine nxe [8, 9, 10] (by kernel_rfl) z z ?_
 clear hst
 intro w hst
 obtain ⟨hg687, hm⟩ := gd_some hm
 replace hst := hst.pull2
 obtain ⟨v688, w689, hr690, hst⟩ := run_append elem_22 underlying22 hst hst.src1 (room_of hg687 z) 22
 refine we_run (v := v688) (w' := w689) z (x_append z z hr690) ?_
 refine ws_next (pend' := [(0, Pt b663 0)]) hst (by kernel_rfl) (pkr z z (fun w hst => z) pk_nil) ?_
 refine wsr (Pt b663 0) 8 z z z (by kernel_rfl) (fun w hst => z) (wsr (Pt b663 0) 9 z z z (by kernel_rfl) (fun w hst => x_field z underlying77 z sizeOf22 z) ?_)
 refine ws_e1 10 (by kernel_rfl) ?_
 refine nxe [] (by kernel_rfl) z z ?_
 clear hst
 intro w hst
 replace hst := hst.pull2
 obtain ⟨w692, hr693, hst⟩ := hst.boxStore1 (P := prog) (t := 22) (cs' := [v688]) 0 v688 (one_of_sliceV hst.sv1) sizeOf22 z z
 refine we_unit z (x_unit hr693) ?_
 refine ws_next (pend' := []) hst (by kernel_rfl) pk_nil ?_
 refine ws_nil ?_
 intro w hst
 refine blk_n (tn (wrl ?_))
 refine wv (.int .i64 (i64.wrap (z591 + (1:Int)))) z z z (wv (.int .i64 (i64.wrap (z591 + (1:Int)))) z z z (wl_nil (tn ?_)))
 replace hst := hst.pull1.pull1
 replace hst := at_locks_Table_close (pv := Pt b663 0) (x := ({ l := (z590.l ++ ([t602.1])) } : locks_Table)) hst z
 replace hst := hst.pull2.keep2
 obtain rfl := some_inj hm
 exact ⟨_, Nat.lt_succ_self _, _, t602.2, ({ l := (z590.l ++ ([t602.1])) } : locks_Table), (i64.wrap (z591 + (1:Int))), _, hx599, (fu 0 r0_0 z (fu 4 v381 z (fu 5 (Pt b663 0) z (fu 14 (.int .i64 t395.1) z (fu 15 (.int .i64 (i64.wrap (z591 + (1:Int)))) z z))))), hL596, hst⟩
}
}
 {
 replace hm := bif_f hc601 hm
 refine wp_iff (cvb hc601) ?_
 refine wp_exit (then_x (then_x ?_))
 replace hm := inr_up hm hx599
 refine blk_x (tn ?_)
 replace hst := hst.pull1.pull1.keep2
 obtain rfl := some_inj hm
 exact ⟨_, z589, z590, _, hx700, (fu 0 r0_0 z (fu 4 v381 z (fu 5 v388 z z))), hL701, hst⟩
}
}
 {
 clear hst
 rintro _ w702 ⟨I696, z694, z695, σ697, hm, rfl, hL698, hst⟩
 dsimp only [locks_Decode_j0] at hm
 replace f0_0 := f0_0.mono (ro_le hL698)
 replace hI0 := hI0.trans hL698
 refine wp_seq (wp_seq (wrl (wv (v381) z z z ?_)))
 obtain ⟨t703, ht704, hm⟩ := bind_some hm
 refine wc call36 [v381] z z z ?_
 refine (octet_Reader_End_ref hst.to1 ht704).mono ?_
 rintro _ w705 ⟨rfl, hst⟩
 refine ⟨_, z, ?_⟩
 replace hst := hst.of1
 refine wv (.bool (!t703)) z z z (wv (.bool (!t703)) z z z ?_)
 refine bsplit (!t703) (fun hc708 => ?_) (fun hc708 => ?_)
 {
 replace hm := bif_t hc708 hm
 refine wo hc708 z z z z z z (wo hc708 z z z z z z (wo hc708 z z z z z z (wo hc708 z z z z z z (wo hc708 z z z z z z (wv (.bool true) z z (x_pick_t hc708 z z) (wl_nil (tn ?_)))))))
 refine wp_ift z ?_
 refine wp_seq (wrl (wv (.pointer none) z z z (wv (.int .i64 (5:Int)) z z z (wl_nil (tn (wp_ret (then_r ?_)))))))
 replace hst := hst.objO_nil at_locks_Table
 obtain rfl := some_inj hm
 refine post_ret (vs := [.pointer none, I6 (5:Int)]) results29 (rvs_cons (rv_tmp z) (rvs_cons (rv_tmp z) rvs_nil)) ?_
 exact ⟨_, .pointer none, z, hI0, hst.keep1⟩
}
 {
 replace hm := bif_f hc708 hm
 refine wv (v388) ((wanted_eq z z z (cvb hc708)).trans z) z z ?_
 replace hst := hst.pull1
 replace hst := objO_some hst
 obtain ⟨t710, ht711, hm⟩ := bind_some hm
 refine wl_call ((wanted_eq z z z (cvb hc708)).trans z) z (x_call call30 z (vs := [v388]) z) ?_
 refine (locks_Table_Encode_ref hst.to1 ht711).mono ?_
 rintro _ w712 ⟨v715, rfl, hst⟩
 refine ⟨_, z, ?_⟩
 replace hst := hst.of2.pull1
 replace hst := objO_get hst
 refine wv (r0_0) ((wanted_eq z z z (cvb hc708)).trans z) z z ?_
 replace hst := hst.pull1
 obtain ⟨css717, hq718, hst⟩ := hst.own_open
 obtain ⟨t719, ht720, hm⟩ := bind_some hm
 refine wl_call ((wanted_eq z z z (cvb hc708)).trans z) z (x_call call50 z (vs := [v715, r0_0]) z) ?_
 refine (slices_Equal_byte_byte_ref (hst.rdrow0 hq718) (f0_0.mono ro_rd) hst.to0 ht720).mono ?_
 rintro _ w721 ⟨rfl, hst⟩
 refine ⟨_, z, ?_⟩
 replace hst := hst.of0.own_close hq718
 refine wv (.bool (!t719)) ((wanted_eq z z z (cvb hc708)).trans z) z z (wv (.bool (!t719)) z z (x_pick_f hc708 z z) (wl_nil (tn ?_)))
 refine bsplit (!t719) (fun hc724 => ?_) (fun hc724 => ?_)
 {
 replace hm := bif_t hc724 hm
 refine wp_ift (cvb hc724) ?_
 refine wp_seq (wrl (wv (.pointer none) z z z (wv (.int .i64 (5:Int)) z z z (wl_nil (tn (wp_ret (then_r ?_)))))))
 replace hst := hst.objO_nil at_locks_Table
 obtain rfl := some_inj hm
 refine post_ret (vs := [.pointer none, I6 (5:Int)]) results29 (rvs_cons (rv_tmp z) (rvs_cons (rv_tmp z) rvs_nil)) ?_
 exact ⟨_, .pointer none, z, hI0, hst.keep1⟩
}
 {
 replace hm := bif_f hc724 hm
 refine wp_iff (cvb hc724) ?_
 refine wp_skip (tn (wp_seq (wrl ?_)))
 refine wv (v388) z z z (wv (v388) z z z (wv (.int .i64 (0:Int)) z z z (wl_nil (tn (wp_ret ?_)))))
 replace hst := hst.pull1
 replace hst := objO_some hst
 obtain rfl := some_inj hm
 refine post_ret (vs := [v388, Zi]) results29 (rvs_cons (rv_tmp z) (rvs_cons (rv_tmp z) rvs_nil)) ?_
 exact ⟨_, v388, z, hI0, hst.keep1⟩
}
}
}
}

theorem ref12_Tape_Next_ref {w0 w : World} {I : HL} {R : SP} {a0 : ref12_Tape} {p0 : Value} {a1 : Int}  (hst : St w0 w I [at_ref12_Tape p0 a0] R) {r : (Int × ref12_Tape)} (hm : ref12_Tape_Next a0 a1 = some r) :
  Calls prog 20 #[p0, I6 a1] w fun e w' => e = .returned (.int .i64 r.1) ∧ St w0 w' I [at_ref12_Tape p0 r.2] R := by {
 unfold ref12_Tape_Next at hm
 refine calls_start (args := [p0, I6 a1]) func20 z ntmps20 (Nat.le_of_ble_eq_true z) ?_
 refine wp_seq (wrl (wv (.int .i64 (0:Int)) z z z (wl_nil (tn (wp_seq (wp_seq ?_))))))
 obtain ⟨b98, v99, ⟨rfl, f101⟩, hst'⟩ := at_ref12_Tape_open hst
 clear hst
 have hst := hst'
 clear hst'
 refine wq_regionS hst Try.mixed (by kernel_rfl) ?_
 refine wq_run (v := Pt b98 0) z z (fun w hst => z) ?_
 refine wq_run (v := Pt b98 0) z z (fun w hst => z) ?_
 refine wq_run (v := Pt b98 1) z z (fun w hst => x_field z underlying45 z sizeOf3 z) ?_
 refine wq_run (v := .int .i64 a0.I) z z (fun w hst => x_load z isAgg3 (hst.bc0 z)) ?_
 refine wq_run (v := Pt b98 0) z z (fun w hst => z) ?_
 refine wq_run (v := Pt b98 0) z z (fun w hst => z) ?_
 refine wq_run (v := Pt b98 0) z z (fun w hst => x_field z underlying45 z sizeOf32 z) ?_
 refine wq_run (v := v99) z z (fun w hst => x_load z isAgg32 (hst.bc0 z)) ?_
 refine wq_run (v := .int .i64 ((a0.L).length : Int)) z z (fun w hst => x_len z underlying32 (ro_sliceV f101)) ?_
 refine wq_run (v := .bool (decide (a0.I ≥ ((a0.L).length : Int)))) z z (fun w hst => z) ?_
 refine wq_nil ?_
 intro w hst
 refine tn ?_
 refine bsplit (decide (a0.I ≥ ((a0.L).length : Int))) (fun hc102 => ?_) (fun hc102 => ?_)
 {
 replace hm := bif_t hc102 hm
 refine wp_ift (cvb hc102) ?_
 refine wp_seq (wrl (wv (.int .i64 (0:Int)) z z z (wl_nil (tn (wp_ret (then_r ?_))))))
 replace hst := at_ref12_Tape_close (pv := Pt b98 0) (x := a0) hst ⟨z, f101⟩
 obtain rfl := some_inj hm
 refine post_ret (vs := [Zi]) results20 (rvs_cons (rv_tmp z) rvs_nil) ?_
 exact ⟨z, hst.keep1⟩
}
 {
 replace hm := bif_f hc102 hm
 refine wp_iff (cvb hc102) ?_
 refine wp_skip (tn (wp_seq (wrl ?_)))
 refine wv (Pt b98 0) z z z (wv (Pt b98 0) z z z (wv (Pt b98 1) z z (x_field z underlying45 z sizeOf3 z) (wv (.int .i64 a0.I) z z (x_load z isAgg3 (hst.bc0 z)) (wv (.int .i64 (i64.wrap (a0.I + (1:Int)))) z z z (wv (Pt b98 0) z z z (wv (Pt b98 1) z z (x_field z underlying45 z sizeOf3 z) ?_))))))
 obtain ⟨w103, hr104, hst⟩ := hst.by_ [v99, I6 (i64.wrap (a0.I + (1:Int)))] 1 (.int .i64 (i64.wrap (a0.I + (1:Int)))) sizeOf3 z (oC z oN) (by kernel_rfl)
 refine wl_unit z z (x_unit hr104) ?_
 refine wl_nil (tn (wp_seq ?_))
 refine wq_regionS hst Try.mixed (by kernel_rfl) ?_
 refine wq_run (v := Pt b98 0) z z (fun w hst => z) ?_
 refine wq_run (v := Pt b98 0) z z (fun w hst => z) ?_
 refine wq_run (v := Pt b98 0) z z (fun w hst => x_field z underlying45 z sizeOf32 z) ?_
 refine wq_run (v := v99) z z (fun w hst => x_load z isAgg32 (hst.bc0 z)) ?_
 refine wq_run (v := Pt b98 0) z z (fun w hst => z) ?_
 refine wq_run (v := Pt b98 0) z z (fun w hst => z) ?_
 refine wq_run (v := Pt b98 1) z z (fun w hst => x_field z underlying45 z sizeOf3 z) ?_
 refine wq_run (v := .int .i64 (i64.wrap (a0.I + (1:Int)))) z z (fun w hst => x_load z isAgg3 (hst.bc0 z)) ?_
 refine wq_run (v := .int .i64 (i64.wrap ((i64.wrap (a0.I + (1:Int))) - (1:Int)))) z z (fun w hst => z) ?_
 obtain ⟨x105, hx106, hm⟩ := bind_some hm
 obtain ⟨h107, h108, hi109⟩ := geto_some hx106
 refine wq_run (v := .pointer (some (eAddr v99 ((i64.wrap ((i64.wrap (a0.I + (1:Int))) - (1:Int))).toNat * 1 + 0)))) z z (fun w hst => x_index z z underlying32 sizeOf5 (ro_sliceV f101) h107 h108) ?_
 refine wq_run (v := .int .u8 x105) z z (fun w hst => x_load z isAgg5 (ro_load f101 hst hi109 (by rintro _ rfl; rfl))) ?_
 refine wq_run (v := .int .i64 (i64.wrap x105)) z z (fun w hst => by kernel_rfl) ?_
 refine wq_run (v := .int .i64 a1) z z (fun w hst => z) ?_
 obtain ⟨hg110, hm⟩ := gd_some hm
 refine wq_run (v := .int .i64 (Int.tmod (i64.wrap x105) a1)) z z (fun w hst => x_rem (not_t hg110) z z) ?_
 refine wq_run (v := .int .i64 (Int.tmod (i64.wrap x105) a1)) z z (fun w hst => z) ?_
 refine wq_nil ?_
 intro w hst
 refine tn (wp_ret ?_)
 replace hst := at_ref12_Tape_close (pv := Pt b98 0) (x := ({ L := a0.L, I := (i64.wrap (a0.I + (1:Int))) } : ref12_Tape)) hst ⟨z, f101⟩
 obtain rfl := some_inj hm
 refine post_ret (vs := [I6 (Int.tmod (i64.wrap x105) a1)]) results20 (rvs_cons (rv_tmp z) rvs_nil) ?_
 exact ⟨z, hst.keep1⟩
}
}

theorem ref12_Tape_Of_ref {w0 w : World} {I : HL} {R : SP} {a0 : ref12_Tape} {p0 : Value}  (hst : St w0 w I [at_ref12_Tape p0 a0] R) {r : (api_ID × ref12_Tape)} (hm : ref12_Tape_Of a0 = some r) :
  Calls prog 21 #[p0] w fun e w' => e = .returned (.agg #[U6 r.1.Session, U6 r.1.Seq]) ∧ St w0 w' I [at_ref12_Tape p0 r.2] R := by {
 unfold ref12_Tape_Of at hm
 refine calls_start (args := [p0]) func21 z ntmps21 (Nat.le_of_ble_eq_true z) ?_
 refine wp_seq (wrl ?_)
 obtain ⟨b96, w97, ew98, eb99, hst⟩ := hst.box [Zu, Zu] 29
 refine wl_run (v := Pt b96 0) (w' := w97) z z (x_al (by kernel_rfl) ew98 eb99) ?_
 refine wl_nil (tn (wp_seq (wrl (wv (p0) z z z ?_))))
 replace hst := hst.pull1
 obtain ⟨t101, ht102, hm⟩ := bind_some hm
 refine wc call20 [p0, I6 (4:Int)] z z z ?_
 refine (ref12_Tape_Next_ref hst.to1 ht102).mono ?_
 rintro _ w103 ⟨rfl, hst⟩
 refine ⟨_, z, ?_⟩
 replace hst := hst.of1
 refine wv (.int .u64 (u64.wrap t101.1)) z z (by kernel_rfl) (wv (p0) z z z ?_)
 obtain ⟨t106, ht107, hm⟩ := bind_some hm
 refine wc call20 [p0, I6 (4:Int)] z z z ?_
 refine (ref12_Tape_Next_ref hst.to1 ht107).mono ?_
 rintro _ w108 ⟨rfl, hst⟩
 refine ⟨_, z, ?_⟩
 replace hst := hst.of1
 refine wv (.int .i64 (i64.wrap ((1:Int) + t106.1))) z z z (wv (.int .u64 (u64.wrap (i64.wrap ((1:Int) + t106.1)))) z z (by kernel_rfl) (wv (.agg #[U6 (u64.wrap t101.1), U6 (u64.wrap (i64.wrap ((1:Int) + t106.1)))]) z z (by kernel_rfl) ?_))
 replace hst := hst.pull1
 obtain ⟨w111, hr112, hst⟩ := hst.bx [U6 (u64.wrap t101.1), U6 (u64.wrap (i64.wrap ((1:Int) + t106.1)))] sizeOf29 z (oC z (oC z oN)) (by kernel_rfl)
 refine wl_unit z z (x_unit hr112) ?_
 refine wl_nil (tn (wp_ret ?_))
 obtain rfl := some_inj hm
 refine post_ret (vs := [.agg #[U6 (u64.wrap t101.1), U6 (u64.wrap (i64.wrap ((1:Int) + t106.1)))]]) results21 (rvs_cons (rv_cell (cs := [U6 (u64.wrap t101.1), U6 (u64.wrap (i64.wrap ((1:Int) + t106.1)))]) z isAgg29 sizeOf29 (hst.bcs0 0 z)) rvs_nil) ?_
 replace hst := hst.pull1
 exact ⟨z, hst.keep1⟩
}

theorem ref12_small_ref {w0 w : World} {I : HL} {R : SP} {a0 : Int}  (hst : St w0 w I [] R) {r : (Nat)} (hm : ref12_small a0 = some r) :
  Calls prog 75 #[U1 a0] w fun e w' => e = .returned (.float .f64 r) ∧ St w0 w' I [] R := by {
 unfold ref12_small at hm
 refine calls_start (args := [U1 a0]) func75 z ntmps75 (Nat.le_of_ble_eq_true z) ?_
 refine wp_seq (wrl (wv (.float .f64 (0:Nat)) z z z (wl_nil (tn (wp_seq (wrl ?_))))))
 obtain ⟨b124, w125, ew126, eb127, hst⟩ := hst.lits (E := tyF64) (xs := [(0:Nat), (4607182418800017408:Nat), (13830554455654793216:Nat), (4612811918334230528:Nat), (9094988921128908188:Nat), (18318360957983683996:Nat), (4602678819172646912:Nat), (4613937818241073152:Nat)]) [[Zf], [F6 (4607182418800017408:Nat)], [F6 (13830554455654793216:Nat)], [F6 (4612811918334230528:Nat)], [F6 (9094988921128908188:Nat)], [F6 (18318360957983683996:Nat)], [F6 (4602678819172646912:Nat)], [F6 (4613937818241073152:Nat)]] 57 8 z (Reps.cons z (Reps.cons z (Reps.cons z (Reps.cons z (Reps.cons z (Reps.cons z (Reps.cons z (Reps.cons z Reps.nil))))))))
 refine wl_run (v := (.slice (some ⟨b124, 0, none⟩) 8 8)) (w' := w125) z z (x_als (by kernel_rfl) ew126 eb127) ?_
 refine wv ((.slice (some ⟨b124, 0, none⟩) 8 8)) z z z (wl_nil (tn (wp_seq (wrl (wv ((.slice (some ⟨b124, 0, none⟩) 8 8)) z z z (wv (.int .u8 a0) z z z (wv (.int .u8 (Int.tmod a0 (8:Int))) z z (x_rem (by decide) z z) ?_)))))))
 obtain ⟨x129, hx130, hm⟩ := bind_some hm
 obtain ⟨h131, h132, hi133⟩ := geto_some hx130
 refine wv (.pointer (some (eAddr (.slice (some ⟨b124, 0, none⟩) 8 8) ((Int.tmod a0 (8:Int)).toNat * 1 + 0)))) z z (x_index z z underlying30 sizeOf57 hst.sv0 h131 h132) (wv (.float .f64 x129) z z (x_load z isAgg57 (hst.ol0 hi133 (by rintro _ rfl; rfl))) (wv (.float .f64 x129) z z z (wl_nil (tn (wp_ret ?_)))))
 obtain rfl := some_inj hm
 refine post_ret (vs := [F6 x129]) results75 (rvs_cons (rv_tmp z) rvs_nil) ?_
 exact ⟨z, hst.keep0⟩
}

theorem ref12_Tape_Float_ref {w0 w : World} {I : HL} {R : SP} {a0 : ref12_Tape} {p0 : Value}  (hst : St w0 w I [at_ref12_Tape p0 a0] R) {r : (Nat × ref12_Tape)} (hm : ref12_Tape_Float a0 = some r) :
  Calls prog 44 #[p0] w fun e w' => e = .returned (.float .f64 r.1) ∧ St w0 w' I [at_ref12_Tape p0 r.2] R := by {
 unfold ref12_Tape_Float at hm
 refine calls_start (args := [p0]) func44 z ntmps44 (Nat.le_of_ble_eq_true z) ?_
 refine wp_seq (wrl (wv (.float .f64 (0:Nat)) z z z (wl_nil (tn (wp_seq (wrl (wv (p0) z z z ?_)))))))
 obtain ⟨t120, ht121, hm⟩ := bind_some hm
 refine wc call20 [p0, I6 (8:Int)] z z z ?_
 refine (ref12_Tape_Next_ref hst.to1 ht121).mono ?_
 rintro _ w122 ⟨rfl, hst⟩
 refine ⟨_, z, ?_⟩
 replace hst := hst.of1
 refine wv (.int .u8 (u8.wrap t120.1)) z z (by kernel_rfl) ?_
 obtain ⟨t125, ht126, hm⟩ := bind_some hm
 refine wc call75 [U1 (u8.wrap t120.1)] z z z ?_
 refine (ref12_small_ref hst.to0 ht126).mono ?_
 rintro _ w127 ⟨rfl, hst⟩
 refine ⟨_, z, ?_⟩
 replace hst := hst.of0
 refine wv (.float .f64 t125) z z z (wl_nil (tn (wp_ret ?_)))
 obtain rfl := some_inj hm
 refine post_ret (vs := [F6 t125]) results44 (rvs_cons (rv_tmp z) rvs_nil) ?_
 exact ⟨z, hst.keep1⟩
}

theorem ref12_Tape_Val_ref {w0 w : World} {I : HL} {R : SP} {a0 : ref12_Tape} {p0 : Value}  (hst : St w0 w I [at_ref12_Tape p0 a0] R) {r : ((List Int) × ref12_Tape)} (hm : ref12_Tape_Val a0 = some r) :
  Calls prog 45 #[p0] w fun e w' => ∃ (q0_0 : Value), e = .returned (q0_0) ∧ St w0 w' I [ownS (tyInt .u8) q0_0 r.1, at_ref12_Tape p0 r.2] R := by {
 unfold ref12_Tape_Val at hm
 refine calls_start (args := [p0]) func45 z ntmps45 (Nat.le_of_ble_eq_true z) ?_
 refine wp_seq (wrl (wv ((.slice none 0 0)) z z z (wl_nil (tn (wp_seq (wrl (wv ((.slice none 0 0)) z z z (wl_nil (tn (wp_seq (wrl (wv (p0) z z z ?_))))))))))))
 obtain ⟨t533, ht534, hm⟩ := bind_some hm
 refine wc call20 [p0, I6 (4:Int)] z z z ?_
 refine (ref12_Tape_Next_ref hst.to1 ht534).mono ?_
 rintro _ w535 ⟨rfl, hst⟩
 refine ⟨_, z, ?_⟩
 replace hst := hst.of1
 refine wv (.int .i64 t533.1) z z z (wl_nil (tn (wp_seq (wp_seq (wrl (wv (.int .i64 (0:Int)) z z z (wl_nil (tn (wp_block ?_)))))))))
 replace hst := hst.own_nil (tyInt .u8)
 obtain ⟨n597, hm⟩ := loopO_some hm
 refine wp_loop_n (fun n a w => ∃ (z591 : ref12_Tape) (z592 : (List Int)) (z595 : Int) (v593 : Value) (σ596 : Nat → Value), loopN (ref12_Tape_Val_l0 t533) n (z591, z592, z595) = some r ∧ a = Fr 21 (upd (upd (upd (upd σ596 0 (p0)) 3 (v593)) 4 (.int .i64 t533.1)) 5 (.int .i64 z595)) ∧ St w0 w I [ownS (tyInt .u8) v593 z592, at_ref12_Tape p0 z591] R) n597 ⟨t533.2, [], (0:Int), Zs, _, hm, (fu 0 p0 z (fu 3 (.slice none 0 0) z (fu 4 (.int .i64 t533.1) z (fu 5 (.int .i64 (0:Int)) z z)))), hst⟩ ?_
 rintro n603 _ w598 ⟨z591, z592, z595, v593, σ596, hm, rfl, hst⟩
 obtain ⟨n600, y601, rfl, hm, hx602⟩ := loopN_some hm
 dsimp only [ref12_Tape_Val_l0] at hm
 refine wp_seq (wp_seq (wrl (wv (.int .i64 z595) z z z (wv (.int .i64 t533.1) z z z (wv (.bool (decide (z595 < t533.1))) z z z (wl_nil (tn ?_)))))))
 refine bsplit (decide (z595 < t533.1)) (fun hc604 => ?_) (fun hc604 => ?_)
 {
 replace hm := bif_t hc604 hm
 refine wp_ift (cvb hc604) ?_
 refine wp_skip (tn (wp_seq (wp_block (wrl ?_))))
 refine wv (v593) z z z (wv (p0) z z z ?_)
 replace hst := hst.pull1
 obtain ⟨t605, ht606, hm⟩ := bind_some hm
 refine wc call20 [p0, I6 (26:Int)] z z z ?_
 refine (ref12_Tape_Next_ref hst.to1 ht606).mono ?_
 rintro _ w607 ⟨rfl, hst⟩
 refine ⟨_, z, ?_⟩
 replace hst := hst.of1
 refine wv (.int .i64 (i64.wrap ((97:Int) + t605.1))) z z z (wv (.int .u8 (u8.wrap (i64.wrap ((97:Int) + t605.1)))) z z (by kernel_rfl) ?_)
 obtain ⟨b610, w611, ew612, eb613, hst⟩ := hst.lits (E := (tyInt .u8)) (xs := [(u8.wrap (i64.wrap ((97:Int) + t605.1)))]) [[U1 (u8.wrap (i64.wrap ((97:Int) + t605.1)))]] 5 1 z (Reps.cons z Reps.nil)
 refine wl_run (v := (.slice (some ⟨b610, 0, none⟩) 1 1)) (w' := w611) z z (x_als (by kernel_rfl) ew612 eb613) ?_
 obtain ⟨hg615, hm⟩ := gd_some hm
 replace hst := hst.pull2
 obtain ⟨v616, w617, hr618, hst⟩ := run_append elem_32 underlying32 hst hst.src1 (room_of hg615 z) 32
 refine wl_run (v := v616) (w' := w617) z z (x_append z z hr618) ?_
 refine wv (v616) z z z (wl_nil (blk_n (tn (wrl (wv (.int .i64 z595) z z z (wv (.int .i64 (i64.wrap (z595 + (1:Int)))) z z z (wv (.int .i64 (i64.wrap (z595 + (1:Int)))) z z z (wl_nil (tn ?_)))))))))
 replace hst := hst.pull2.pull1.keep2
 obtain rfl := some_inj hm
 exact ⟨_, Nat.lt_succ_self _, t605.2, (z592 ++ ([(u8.wrap (i64.wrap ((97:Int) + t605.1)))])), (i64.wrap (z595 + (1:Int))), v616, _, hx602, (fu 0 p0 z (fu 3 v616 z (fu 4 (.int .i64 t533.1) z (fu 5 (.int .i64 (i64.wrap (z595 + (1:Int)))) z z)))), hst⟩
}
 {
 replace hm := bif_f hc604 hm
 refine wp_iff (cvb hc604) ?_
 refine wp_exit (then_x (then_x ?_))
 replace hm := inr_up hm hx602
 refine blk_x (tn (wp_seq (wrl ?_)))
 refine wv (v593) z z z (wv (v593) z z z (wl_nil (tn (wp_ret ?_))))
 obtain rfl := some_inj hm
 refine post_ret (vs := [v593]) results45 (rvs_cons (rv_tmp z) rvs_nil) ?_
 replace hst := hst.pull1.pull1
 exact ⟨v593, z, hst.keep2⟩
}
}

theorem ref12_Tape_Hold_ref {w0 w : World} {I : HL} {R : SP} {a0 : ref12_Tape} {p0 : Value}  (hst : St w0 w I [at_ref12_Tape p0 a0] R) {r : (api_Hold × ref12_Tape)} (hm : ref12_Tape_Hold a0 = some r) :
  Calls prog 16 #[p0] w fun e w' => ∃ (q0_0 : Value) (q0_1 : Value) (q0_2 : Value) (q0_3 : Value), e = .returned (.agg #[U6 r.1.ID.Session, U6 r.1.ID.Seq, U6 r.1.Epoch, q0_0, q0_1, q0_2, q0_3]) ∧ St w0 w' I [ownS tyF64 q0_0 r.1.Gets, ownS tyF2 q0_1 r.1.Scans, ownS tyF64 q0_2 r.1.Puts, ownS (tyInt .u8) q0_3 r.1.Data, at_ref12_Tape p0 r.2] R := by {
 unfold ref12_Tape_Hold at hm
 refine calls_start (args := [p0]) func16 z ntmps16 (Nat.le_of_ble_eq_true z) ?_
 refine wp_seq (wrl ?_)
 obtain ⟨b458, w459, ew460, eb461, hst⟩ := hst.box [Zu, Zu, Zu, Zs, Zs, Zs, Zs] 34
 refine wl_run (v := Pt b458 0) (w' := w459) z z (x_al (by kernel_rfl) ew460 eb461) ?_
 refine wl_nil (tn (wp_seq (wrl (wv (p0) z z z ?_))))
 replace hst := hst.pull1
 obtain ⟨t463, ht464, hm⟩ := bind_some hm
 refine wc call21 [p0] z z z ?_
 refine (ref12_Tape_Of_ref hst.to1 ht464).mono ?_
 rintro _ w465 ⟨rfl, hst⟩
 refine ⟨_, z, ?_⟩
 replace hst := hst.of1
 refine wv (p0) z z z ?_
 obtain ⟨t468, ht469, hm⟩ := bind_some hm
 refine wc call20 [p0, I6 (4:Int)] z z z ?_
 refine (ref12_Tape_Next_ref hst.to1 ht469).mono ?_
 rintro _ w470 ⟨rfl, hst⟩
 refine ⟨_, z, ?_⟩
 replace hst := hst.of1
 refine wv (.int .i64 (i64.wrap ((1:Int) + t468.1))) z z z (wv (.int .u64 (u64.wrap (i64.wrap ((1:Int) + t468.1)))) z z (by kernel_rfl) (wv (.agg #[U6 t463.1.Session, U6 t463.1.Seq, U6 (u64.wrap (i64.wrap ((1:Int) + t468.1))), Zs, Zs, Zs, Zs]) z z (by kernel_rfl) ?_))
 obtain ⟨b481, w482, ew483, eb484, hst⟩ := hst.box [Zu, Zu, Zu, Zs, Zs, Zs, Zs] 34
 refine wl_run (v := Pt b481 0) (w' := w482) z z (x_al (by kernel_rfl) ew483 eb484) ?_
 obtain ⟨w486, hr487, hst⟩ := hst.bx [U6 t463.1.Session, U6 t463.1.Seq, U6 (u64.wrap (i64.wrap ((1:Int) + t468.1))), Zs, Zs, Zs, Zs] sizeOf34 z (oC z (oC z (oC z (oC z (oC z (oC z (oC z oN))))))) (by kernel_rfl)
 refine wl_unit z z (x_unit hr487) ?_
 refine wl_nil (tn (wp_seq (wrl (wv (p0) z z z ?_))))
 replace hst := hst.pull1
 obtain ⟨t488, ht489, hm⟩ := bind_some hm
 refine wc call20 [p0, I6 (3:Int)] z z z ?_
 refine (ref12_Tape_Next_ref hst.to1 ht489).mono ?_
 rintro _ w490 ⟨rfl, hst⟩
 refine ⟨_, z, ?_⟩
 replace hst := hst.of1
 refine wv (.int .i64 t488.1) z z z (wl_nil (tn ?_))
 obtain ⟨y589, hm, hx590⟩ := bind_some hm
 refine wp_cut (fun a w => ∃ (z583 : ref12_Tape) (z586 : (List Nat)) (v585 : Value) (σ587 : Nat → Value), (ref12_Tape_Hold_j0 t463 t468) (z583, z586) = some r ∧ a = Fr 68 (upd (upd (upd σ587 0 (p0)) 2 (Pt b458 0)) 3 (Pt b481 0)) ∧ St w0 w I [at_ref12_Tape p0 z583, cells b458 [Zu, Zu, Zu, Zs, Zs, Zs, Zs], cells b481 [U6 t463.1.Session, U6 t463.1.Seq, U6 (u64.wrap (i64.wrap ((1:Int) + t468.1))), v585, Zs, Zs, Zs], ownS tyF64 v585 z586] R) ?_ ?_
 {
 refine wp_seq (wrl (wv (.int .i64 (0:Int)) z z z (wl_nil (tn (wp_block ?_)))))
 replace hst := hst.own_nil tyF64
 obtain ⟨n558, hm⟩ := loopO_some hm
 refine wp_loop_n (fun n a w => ∃ (z552 : (List Nat)) (z555 : ref12_Tape) (z556 : Int) (v553 : Value) (σ557 : Nat → Value), loopN (ref12_Tape_Hold_l1 t488) n (z552, z555, z556) = some y589 ∧ a = Fr 68 (upd (upd (upd (upd (upd σ557 0 (p0)) 2 (Pt b458 0)) 3 (Pt b481 0)) 4 (.int .i64 t488.1)) 5 (.int .i64 z556)) ∧ St w0 w I [ownS tyF64 v553 z552, at_ref12_Tape p0 z555, cells b481 [U6 t463.1.Session, U6 t463.1.Seq, U6 (u64.wrap (i64.wrap ((1:Int) + t468.1))), v553, Zs, Zs, Zs], cells b458 [Zu, Zu, Zu, Zs, Zs, Zs, Zs]] R) n558 ⟨[], t488.2, (0:Int), Zs, _, hm, (fu 0 p0 z (fu 2 (Pt b458 0) z (fu 3 (Pt b481 0) z (fu 4 (.int .i64 t488.1) z (fu 5 (.int .i64 (0:Int)) z z))))), hst⟩ ?_
 rintro n564 _ w559 ⟨z552, z555, z556, v553, σ557, hm, rfl, hst⟩
 obtain ⟨n561, y562, rfl, hm, hx563⟩ := loopN_some hm
 dsimp only [ref12_Tape_Hold_l1] at hm
 refine wp_seq (wp_seq (wrl (wv (.int .i64 z556) z z z (wv (.int .i64 t488.1) z z z (wv (.bool (decide (z556 < t488.1))) z z z (wl_nil (tn ?_)))))))
 refine bsplit (decide (z556 < t488.1)) (fun hc565 => ?_) (fun hc565 => ?_)
 {
 replace hm := bif_t hc565 hm
 refine wp_ift (cvb hc565) ?_
 refine wp_skip (tn (wp_seq (wp_block ?_)))
 refine wp_region_St hst 8 [0, 1, 2, 3, 4, 5, 6, 7] [0, 1, 0, 4, 12, 31, 63, 127] [] z (by kernel_rfl) (by kernel_rfl) Try.mixed (by kernel_rfl) ?_
 refine wsr (Pt b481 3) 0 z z z (by kernel_rfl) (fun w hst => x_field z underlying34 z sizeOf30 z) (wsr (v553) 1 z z z (by kernel_rfl) (fun w hst => x_load z isAgg30 (hst.bc2 z)) (wsr (p0) 2 z z z (by kernel_rfl) (fun w hst => z) ?_))
 refine ws_e1 3 (by kernel_rfl) ?_
 refine nxe [4, 5, 6, 7] (by kernel_rfl) z z ?_
 clear hst
 intro w hst
 replace hst := hst.pull1
 obtain ⟨t566, ht567, hm⟩ := bind_some hm
 refine wec call44 [p0] z z ?_
 refine (ref12_Tape_Float_ref hst.to1 ht567).mono ?_
 rintro _ w568 ⟨rfl, hst⟩
 refine ⟨_, z, ?_⟩
 replace hst := hst.of1
 refine ws_next (pend' := [(1, v553), (0, Pt b481 3)]) hst (by kernel_rfl) (pkr z z (fun w hst => x_load z isAgg30 (hst.bc2 z)) (pkr z z (fun w hst => x_field z underlying34 z sizeOf30 z) pk_nil)) ?_
 refine ws_e1 4 (by kernel_rfl) ?_
 refine nxe [5, 6, 7] (by kernel_rfl) z z ?_
 clear hst
 intro w hst
 obtain ⟨b571, w572, ew573, eb574, hst⟩ := hst.lits (E := tyF64) (xs := [t566.1]) [[F6 t566.1]] 57 1 z (Reps.cons z Reps.nil)
 refine we_run (v := (.slice (some ⟨b571, 0, none⟩) 1 1)) (w' := w572) z (x_als (by kernel_rfl) ew573 eb574) ?_
 refine ws_next (pend' := [(1, v553), (0, Pt b481 3)]) hst (by kernel_rfl) (pkr z z (fun w hst => x_load z isAgg30 (hst.bc3 z)) (pkr z z (fun w hst => x_field z underlying34 z sizeOf30 z) pk_nil)) ?_
 refine ws_e1 5 (by kernel_rfl) ?_
 refine nxe [6, 7] (by kernel_rfl) z z ?_
 clear hst
 intro w hst
 obtain ⟨hg576, hm⟩ := gd_some hm
 replace hst := hst.pull2
 obtain ⟨v577, w578, hr579, hst⟩ := run_append elem_30 underlying30 hst hst.src1 (room_of hg576 z) 30
 refine we_run (v := v577) (w' := w578) z (x_append z z hr579) ?_
 refine ws_next (pend' := []) hst (by kernel_rfl) pk_nil ?_
 refine wsr (Pt b481 3) 6 z z z (by kernel_rfl) (fun w hst => x_field z underlying34 z sizeOf30 z) ?_
 refine ws_e1 7 (by kernel_rfl) ?_
 refine nxe [] (by kernel_rfl) z z ?_
 clear hst
 intro w hst
 replace hst := hst.pull3
 obtain ⟨w581, hr582, hst⟩ := hst.boxStore1 (P := prog) (t := 30) (cs' := [U6 t463.1.Session, U6 t463.1.Seq, U6 (u64.wrap (i64.wrap ((1:Int) + t468.1))), v577, Zs, Zs, Zs]) 3 v577 (one_of_sliceV hst.sv1) sizeOf30 z z
 refine we_unit z (x_unit hr582) ?_
 refine ws_next (pend' := []) hst (by kernel_rfl) pk_nil ?_
 refine ws_nil ?_
 intro w hst
 refine blk_n (tn (wrl ?_))
 refine wv (.int .i64 z556) z z z (wv (.int .i64 (i64.wrap (z556 + (1:Int)))) z z z (wv (.int .i64 (i64.wrap (z556 + (1:Int)))) z z z (wl_nil (tn ?_))))
 replace hst := hst.pull4.pull1.pull4.pull3.keep4
 obtain rfl := some_inj hm
 exact ⟨_, Nat.lt_succ_self _, (z552 ++ ([t566.1])), t566.2, (i64.wrap (z556 + (1:Int))), v577, _, hx563, (fu 0 p0 z (fu 2 (Pt b458 0) z (fu 3 (Pt b481 0) z (fu 4 (.int .i64 t488.1) z (fu 5 (.int .i64 (i64.wrap (z556 + (1:Int)))) z z))))), hst⟩
}
 {
 replace hm := bif_f hc565 hm
 refine wp_iff (cvb hc565) ?_
 refine wp_exit (then_x (then_x ?_))
 replace hm := inr_up hm hx563
 refine blk_x (tn ?_)
 replace hst := hst.pull2.pull3.pull3.keep4
 obtain rfl := some_inj hm
 exact ⟨z555, z552, v553, _, hx590, (fu 0 p0 z (fu 2 (Pt b458 0) z (fu 3 (Pt b481 0) z z))), hst⟩
}
}
 {
 clear hst
 rintro _ w591 ⟨z583, z586, v585, σ587, hm, rfl, hst⟩
 dsimp only [ref12_Tape_Hold_j0] at hm
 refine wp_seq (wrl (wv (p0) z z z ?_))
 obtain ⟨t592, ht593, hm⟩ := bind_some hm
 refine wc call20 [p0, I6 (3:Int)] z z z ?_
 refine (ref12_Tape_Next_ref hst.to1 ht593).mono ?_
 rintro _ w594 ⟨rfl, hst⟩
 refine ⟨_, z, ?_⟩
 replace hst := hst.of1
 refine wv (.int .i64 (i64.wrap (Int.tdiv t592.1 (2:Int)))) z z (x_quo (by decide) z z) (wv (.int .i64 (i64.wrap (Int.tdiv t592.1 (2:Int)))) z z z (wl_nil (tn ?_)))
 obtain ⟨y713, hm, hx714⟩ := bind_some hm
 refine wp_cut (fun a w => ∃ (z707 : ref12_Tape) (z710 : (List (Nat × Nat))) (v709 : Value) (σ711 : Nat → Value), (ref12_Tape_Hold_j2 t463 t468 z586) (z707, z710) = some r ∧ a = Fr 68 (upd (upd (upd σ711 0 (p0)) 2 (Pt b458 0)) 3 (Pt b481 0)) ∧ St w0 w I [at_ref12_Tape p0 z707, cells b458 [Zu, Zu, Zu, Zs, Zs, Zs, Zs], cells b481 [U6 t463.1.Session, U6 t463.1.Seq, U6 (u64.wrap (i64.wrap ((1:Int) + t468.1))), v585, v709, Zs, Zs], ownS tyF64 v585 z586, ownS tyF2 v709 z710] R) ?_ ?_
 {
 refine wp_seq (wrl (wv (.int .i64 (0:Int)) z z z (wl_nil (tn (wp_block ?_)))))
 replace hst := hst.own_nil tyF2
 obtain ⟨n677, hm⟩ := loopO_some hm
 refine wp_loop_n (fun n a w => ∃ (z671 : (List (Nat × Nat))) (z674 : ref12_Tape) (z675 : Int) (v672 : Value) (σ676 : Nat → Value), loopN (ref12_Tape_Hold_l3 t592) n (z671, z674, z675) = some y713 ∧ a = Fr 68 (upd (upd (upd (upd (upd σ676 0 (p0)) 2 (Pt b458 0)) 3 (Pt b481 0)) 4 (.int .i64 (i64.wrap (Int.tdiv t592.1 (2:Int))))) 6 (.int .i64 z675)) ∧ St w0 w I [ownS tyF2 v672 z671, at_ref12_Tape p0 z674, cells b458 [Zu, Zu, Zu, Zs, Zs, Zs, Zs], cells b481 [U6 t463.1.Session, U6 t463.1.Seq, U6 (u64.wrap (i64.wrap ((1:Int) + t468.1))), v585, v672, Zs, Zs], ownS tyF64 v585 z586] R) n677 ⟨[], t592.2, (0:Int), Zs, _, hm, (fu 0 p0 z (fu 2 (Pt b458 0) z (fu 3 (Pt b481 0) z (fu 4 (.int .i64 (i64.wrap (Int.tdiv t592.1 (2:Int)))) z (fu 6 (.int .i64 (0:Int)) z z))))), hst⟩ ?_
 rintro n683 _ w678 ⟨z671, z674, z675, v672, σ676, hm, rfl, hst⟩
 obtain ⟨n680, y681, rfl, hm, hx682⟩ := loopN_some hm
 dsimp only [ref12_Tape_Hold_l3] at hm
 refine wp_seq (wp_seq (wrl (wv (.int .i64 z675) z z z (wv (.int .i64 (i64.wrap (Int.tdiv t592.1 (2:Int)))) z z z (wv (.bool (decide (z675 < (i64.wrap (Int.tdiv t592.1 (2:Int)))))) z z z (wl_nil (tn ?_)))))))
 refine bsplit (decide (z675 < (i64.wrap (Int.tdiv t592.1 (2:Int))))) (fun hc684 => ?_) (fun hc684 => ?_)
 {
 replace hm := bif_t hc684 hm
 refine wp_ift (cvb hc684) ?_
 refine wp_skip (tn (wp_seq (wp_block ?_)))
 refine wp_region_St hst 11 [0, 1, 2, 3, 4, 5, 6, 7, 8, 9, 10] [0, 1, 0, 4, 0, 28, 60, 124, 255, 511, 1023] [] z (by kernel_rfl) (by kernel_rfl) Try.mixed (by kernel_rfl) ?_
 refine wsr (Pt b481 4) 0 z z z (by kernel_rfl) (fun w hst => x_field z underlying34 z sizeOf31 z) (wsr (v672) 1 z z z (by kernel_rfl) (fun w hst => x_load z isAgg31 (hst.bc3 z)) (wsr (p0) 2 z z z (by kernel_rfl) (fun w hst => z) (wsr (p0) 4 z z z (by kernel_rfl) (fun w hst => z) ?_)))
 refine ws_e1 3 (by kernel_rfl) ?_
 refine nxe [5, 6, 7, 8, 9, 10] (by kernel_rfl) z z ?_
 clear hst
 intro w hst
 replace hst := hst.pull1
 obtain ⟨t685, ht686, hm⟩ := bind_some hm
 refine wec call44 [p0] z z ?_
 refine (ref12_Tape_Float_ref hst.to1 ht686).mono ?_
 rintro _ w687 ⟨rfl, hst⟩
 refine ⟨_, z, ?_⟩
 replace hst := hst.of1
 refine ws_next (pend' := [(4, p0), (1, v672), (0, Pt b481 4)]) hst (by kernel_rfl) (pkr z z (fun w hst => z) (pkr z z (fun w hst => x_load z isAgg31 (hst.bc3 z)) (pkr z z (fun w hst => x_field z underlying34 z sizeOf31 z) pk_nil))) ?_
 refine ws_e1 5 (by kernel_rfl) ?_
 refine nxe [6, 7, 8, 9, 10] (by kernel_rfl) z z ?_
 clear hst
 intro w hst
 obtain ⟨t690, ht691, hm⟩ := bind_some hm
 refine wec call44 [p0] z z ?_
 refine (ref12_Tape_Float_ref hst.to1 ht691).mono ?_
 rintro _ w692 ⟨rfl, hst⟩
 refine ⟨_, z, ?_⟩
 replace hst := hst.of1
 refine ws_next (pend' := [(1, v672), (0, Pt b481 4)]) hst (by kernel_rfl) (pkr z z (fun w hst => x_load z isAgg31 (hst.bc3 z)) (pkr z z (fun w hst => x_field z underlying34 z sizeOf31 z) pk_nil)) ?_
 refine wsr (.agg #[F6 t685.1, F6 t690.1]) 6 z z z (by kernel_rfl) (fun w hst => by kernel_rfl) ?_
 refine ws_e1 7 (by kernel_rfl) ?_
 refine nxe [8, 9, 10] (by kernel_rfl) z z ?_
 clear hst
 intro w hst
 obtain ⟨b695, w696, ew697, eb698, hst⟩ := hst.lits (E := tyF2) (xs := [(t685.1, t690.1)]) [[F6 t685.1, F6 t690.1]] 75 1 z (Reps.cons z Reps.nil)
 refine we_run (v := (.slice (some ⟨b695, 0, none⟩) 1 1)) (w' := w696) z (x_als (by kernel_rfl) ew697 eb698) ?_
 refine ws_next (pend' := [(1, v672), (0, Pt b481 4)]) hst (by kernel_rfl) (pkr z z (fun w hst => x_load z isAgg31 (hst.bc4 z)) (pkr z z (fun w hst => x_field z underlying34 z sizeOf31 z) pk_nil)) ?_
 refine ws_e1 8 (by kernel_rfl) ?_
 refine nxe [9, 10] (by kernel_rfl) z z ?_
 clear hst
 intro w hst
 obtain ⟨hg700, hm⟩ := gd_some hm
 replace hst := hst.pull2
 obtain ⟨v701, w702, hr703, hst⟩ := run_append elem_31 underlying31 hst hst.src1 (room_of hg700 z) 31
 refine we_run (v := v701) (w' := w702) z (x_append z z hr703) ?_
 refine ws_next (pend' := []) hst (by kernel_rfl) pk_nil ?_
 refine wsr (Pt b481 4) 9 z z z (by kernel_rfl) (fun w hst => x_field z underlying34 z sizeOf31 z) ?_
 refine ws_e1 10 (by kernel_rfl) ?_
 refine nxe [] (by kernel_rfl) z z ?_
 clear hst
 intro w hst
 replace hst := hst.pull4
 obtain ⟨w705, hr706, hst⟩ := hst.boxStore1 (P := prog) (t := 31) (cs' := [U6 t463.1.Session, U6 t463.1.Seq, U6 (u64.wrap (i64.wrap ((1:Int) + t468.1))), v585, v701, Zs, Zs]) 4 v701 (one_of_sliceV hst.sv1) sizeOf31 z z
 refine we_unit z (x_unit hr706) ?_
 refine ws_next (pend' := []) hst (by kernel_rfl) pk_nil ?_
 refine ws_nil ?_
 intro w hst
 refine blk_n (tn (wrl ?_))
 refine wv (.int .i64 z675) z z z (wv (.int .i64 (i64.wrap (z675 + (1:Int)))) z z z (wv (.int .i64 (i64.wrap (z675 + (1:Int)))) z z z (wl_nil (tn ?_))))
 replace hst := hst.pull5.pull1.pull5.pull5.pull4.keep5
 obtain rfl := some_inj hm
 exact ⟨_, Nat.lt_succ_self _, (z671 ++ ([(t685.1, t690.1)])), t690.2, (i64.wrap (z675 + (1:Int))), v701, _, hx682, (fu 0 p0 z (fu 2 (Pt b458 0) z (fu 3 (Pt b481 0) z (fu 4 (.int .i64 (i64.wrap (Int.tdiv t592.1 (2:Int)))) z (fu 6 (.int .i64 (i64.wrap (z675 + (1:Int)))) z z))))), hst⟩
}
 {
 replace hm := bif_f hc684 hm
 refine wp_iff (cvb hc684) ?_
 refine wp_exit (then_x (then_x ?_))
 replace hm := inr_up hm hx682
 refine blk_x (tn ?_)
 replace hst := hst.pull4.pull4.pull4.pull4.keep5
 obtain rfl := some_inj hm
 exact ⟨z674, z671, v672, _, hx714, (fu 0 p0 z (fu 2 (Pt b458 0) z (fu 3 (Pt b481 0) z z))), hst⟩
}
}
 {
 clear hst
 rintro _ w715 ⟨z707, z710, v709, σ711, hm, rfl, hst⟩
 dsimp only [ref12_Tape_Hold_j2] at hm
 refine wp_seq (wrl (wv (p0) z z z ?_))
 obtain ⟨t716, ht717, hm⟩ := bind_some hm
 refine wc call20 [p0, I6 (3:Int)] z z z ?_
 refine (ref12_Tape_Next_ref hst.to1 ht717).mono ?_
 rintro _ w718 ⟨rfl, hst⟩
 refine ⟨_, z, ?_⟩
 replace hst := hst.of1
 refine wv (.int .i64 t716.1) z z z (wl_nil (tn ?_))
 obtain ⟨y817, hm, hx818⟩ := bind_some hm
 refine wp_cut (fun a w => ∃ (z811 : ref12_Tape) (z814 : (List Nat)) (v813 : Value) (σ815 : Nat → Value), (ref12_Tape_Hold_j4 t463 t468 z586 z710) (z811, z814) = some r ∧ a = Fr 68 (upd (upd (upd σ815 0 (p0)) 2 (Pt b458 0)) 3 (Pt b481 0)) ∧ St w0 w I [at_ref12_Tape p0 z811, cells b458 [Zu, Zu, Zu, Zs, Zs, Zs, Zs], cells b481 [U6 t463.1.Session, U6 t463.1.Seq, U6 (u64.wrap (i64.wrap ((1:Int) + t468.1))), v585, v709, v813, Zs], ownS tyF64 v585 z586, ownS tyF2 v709 z710, ownS tyF64 v813 z814] R) ?_ ?_
 {
 refine wp_seq (wrl (wv (.int .i64 (0:Int)) z z z (wl_nil (tn (wp_block ?_)))))
 replace hst := hst.own_nil tyF64
 obtain ⟨n786, hm⟩ := loopO_some hm
 refine wp_loop_n (fun n a w => ∃ (z780 : (List Nat)) (z783 : ref12_Tape) (z784 : Int) (v781 : Value) (σ785 : Nat → Value), loopN (ref12_Tape_Hold_l5 t716) n (z780, z783, z784) = some y817 ∧ a = Fr 68 (upd (upd (upd (upd (upd σ785 0 (p0)) 2 (Pt b458 0)) 3 (Pt b481 0)) 4 (.int .i64 t716.1)) 7 (.int .i64 z784)) ∧ St w0 w I [ownS tyF64 v781 z780, at_ref12_Tape p0 z783, cells b458 [Zu, Zu, Zu, Zs, Zs, Zs, Zs], cells b481 [U6 t463.1.Session, U6 t463.1.Seq, U6 (u64.wrap (i64.wrap ((1:Int) + t468.1))), v585, v709, v781, Zs], ownS tyF64 v585 z586, ownS tyF2 v709 z710] R) n786 ⟨[], t716.2, (0:Int), Zs, _, hm, (fu 0 p0 z (fu 2 (Pt b458 0) z (fu 3 (Pt b481 0) z (fu 4 (.int .i64 t716.1) z (fu 7 (.int .i64 (0:Int)) z z))))), hst⟩ ?_
 rintro n792 _ w787 ⟨z780, z783, z784, v781, σ785, hm, rfl, hst⟩
 obtain ⟨n789, y790, rfl, hm, hx791⟩ := loopN_some hm
 dsimp only [ref12_Tape_Hold_l5] at hm
 refine wp_seq (wp_seq (wrl (wv (.int .i64 z784) z z z (wv (.int .i64 t716.1) z z z (wv (.bool (decide (z784 < t716.1))) z z z (wl_nil (tn ?_)))))))
 refine bsplit (decide (z784 < t716.1)) (fun hc793 => ?_) (fun hc793 => ?_)
 {
 replace hm := bif_t hc793 hm
 refine wp_ift (cvb hc793) ?_
 refine wp_skip (tn (wp_seq (wp_block ?_)))
 refine wp_region_St hst 8 [0, 1, 2, 3, 4, 5, 6, 7] [0, 1, 0, 4, 12, 31, 63, 127] [] z (by kernel_rfl) (by kernel_rfl) Try.mixed (by kernel_rfl) ?_
 refine wsr (Pt b481 5) 0 z z z (by kernel_rfl) (fun w hst => x_field z underlying34 z sizeOf30 z) (wsr (v781) 1 z z z (by kernel_rfl) (fun w hst => x_load z isAgg30 (hst.bc3 z)) (wsr (p0) 2 z z z (by kernel_rfl) (fun w hst => z) ?_))
 refine ws_e1 3 (by kernel_rfl) ?_
 refine nxe [4, 5, 6, 7] (by kernel_rfl) z z ?_
 clear hst
 intro w hst
 replace hst := hst.pull1
 obtain ⟨t794, ht795, hm⟩ := bind_some hm
 refine wec call44 [p0] z z ?_
 refine (ref12_Tape_Float_ref hst.to1 ht795).mono ?_
 rintro _ w796 ⟨rfl, hst⟩
 refine ⟨_, z, ?_⟩
 replace hst := hst.of1
 refine ws_next (pend' := [(1, v781), (0, Pt b481 5)]) hst (by kernel_rfl) (pkr z z (fun w hst => x_load z isAgg30 (hst.bc3 z)) (pkr z z (fun w hst => x_field z underlying34 z sizeOf30 z) pk_nil)) ?_
 refine ws_e1 4 (by kernel_rfl) ?_
 refine nxe [5, 6, 7] (by kernel_rfl) z z ?_
 clear hst
 intro w hst
 obtain ⟨b799, w800, ew801, eb802, hst⟩ := hst.lits (E := tyF64) (xs := [t794.1]) [[F6 t794.1]] 57 1 z (Reps.cons z Reps.nil)
 refine we_run (v := (.slice (some ⟨b799, 0, none⟩) 1 1)) (w' := w800) z (x_als (by kernel_rfl) ew801 eb802) ?_
 refine ws_next (pend' := [(1, v781), (0, Pt b481 5)]) hst (by kernel_rfl) (pkr z z (fun w hst => x_load z isAgg30 (hst.bc4 z)) (pkr z z (fun w hst => x_field z underlying34 z sizeOf30 z) pk_nil)) ?_
 refine ws_e1 5 (by kernel_rfl) ?_
 refine nxe [6, 7] (by kernel_rfl) z z ?_
 clear hst
 intro w hst
 obtain ⟨hg804, hm⟩ := gd_some hm
 replace hst := hst.pull2
 obtain ⟨v805, w806, hr807, hst⟩ := run_append elem_30 underlying30 hst hst.src1 (room_of hg804 z) 30
 refine we_run (v := v805) (w' := w806) z (x_append z z hr807) ?_
 refine ws_next (pend' := []) hst (by kernel_rfl) pk_nil ?_
 refine wsr (Pt b481 5) 6 z z z (by kernel_rfl) (fun w hst => x_field z underlying34 z sizeOf30 z) ?_
 refine ws_e1 7 (by kernel_rfl) ?_
 refine nxe [] (by kernel_rfl) z z ?_
 clear hst
 intro w hst
 replace hst := hst.pull4
 obtain ⟨w809, hr810, hst⟩ := hst.boxStore1 (P := prog) (t := 30) (cs' := [U6 t463.1.Session, U6 t463.1.Seq, U6 (u64.wrap (i64.wrap ((1:Int) + t468.1))), v585, v709, v805, Zs]) 5 v805 (one_of_sliceV hst.sv1) sizeOf30 z z
 refine we_unit z (x_unit hr810) ?_
 refine ws_next (pend' := []) hst (by kernel_rfl) pk_nil ?_
 refine ws_nil ?_
 intro w hst
 refine blk_n (tn (wrl ?_))
 refine wv (.int .i64 z784) z z z (wv (.int .i64 (i64.wrap (z784 + (1:Int)))) z z z (wv (.int .i64 (i64.wrap (z784 + (1:Int)))) z z z (wl_nil (tn ?_))))
 replace hst := hst.pull6.pull6.pull2.pull6.pull6.pull5.keep6
 obtain rfl := some_inj hm
 exact ⟨_, Nat.lt_succ_self _, (z780 ++ ([t794.1])), t794.2, (i64.wrap (z784 + (1:Int))), v805, _, hx791, (fu 0 p0 z (fu 2 (Pt b458 0) z (fu 3 (Pt b481 0) z (fu 4 (.int .i64 t716.1) z (fu 7 (.int .i64 (i64.wrap (z784 + (1:Int)))) z z))))), hst⟩
}
 {
 replace hm := bif_f hc793 hm
 refine wp_iff (cvb hc793) ?_
 refine wp_exit (then_x (then_x ?_))
 replace hm := inr_up hm hx791
 refine blk_x (tn ?_)
 replace hst := hst.pull5.pull5.pull5.pull5.pull5.keep6
 obtain rfl := some_inj hm
 exact ⟨z783, z780, v781, _, hx818, (fu 0 p0 z (fu 2 (Pt b458 0) z (fu 3 (Pt b481 0) z z))), hst⟩
}
}
 {
 clear hst
 rintro _ w819 ⟨z811, z814, v813, σ815, hm, rfl, hst⟩
 dsimp only [ref12_Tape_Hold_j4] at hm
 refine wp_seq (wp_seq (wrl (wv (p0) z z z ?_)))
 obtain ⟨t820, ht821, hm⟩ := bind_some hm
 refine wc call20 [p0, I6 (4:Int)] z z z ?_
 refine (ref12_Tape_Next_ref hst.to1 ht821).mono ?_
 rintro _ w822 ⟨rfl, hst⟩
 refine ⟨_, z, ?_⟩
 replace hst := hst.of1
 refine wv (.bool (t820.1 == (0:Int))) z z z (wl_nil (tn ?_))
 refine bsplit (t820.1 == (0:Int)) (fun hc825 => ?_) (fun hc825 => ?_)
 {
 replace hm := bif_t hc825 hm
 refine wp_ift (cvb hc825) ?_
 refine wrl (wv (p0) z z z ?_)
 obtain ⟨t826, ht827, hm⟩ := bind_some hm
 refine wc call45 [p0] z z z ?_
 refine (ref12_Tape_Val_ref hst.to1 ht827).mono ?_
 rintro _ w828 ⟨v831, rfl, hst⟩
 refine ⟨_, z, ?_⟩
 replace hst := hst.of2
 refine wv (Pt b481 6) z z (x_field z underlying34 z sizeOf32 z) ?_
 replace hst := hst.pull3
 obtain ⟨w833, hr834, hst⟩ := hst.boxStore1 (P := prog) (t := 32) (cs' := [U6 t463.1.Session, U6 t463.1.Seq, U6 (u64.wrap (i64.wrap ((1:Int) + t468.1))), v585, v709, v813, v831]) 6 v831 (one_of_sliceV hst.sv1) sizeOf32 z z
 refine wl_unit z z (x_unit hr834) ?_
 refine wl_nil (tn (wp_seq (wrl (wv (.agg #[U6 t463.1.Session, U6 t463.1.Seq, U6 (u64.wrap (i64.wrap ((1:Int) + t468.1))), v585, v709, v813, v831]) z z (x_loadN (cs := [U6 t463.1.Session, U6 t463.1.Seq, U6 (u64.wrap (i64.wrap ((1:Int) + t468.1))), v585, v709, v813, v831]) z isAgg34 sizeOf34 (hst.bcs0 0 z)) ?_))))
 replace hst := hst.pull3
 obtain ⟨w835, hr836, hst⟩ := hst.bx [U6 t463.1.Session, U6 t463.1.Seq, U6 (u64.wrap (i64.wrap ((1:Int) + t468.1))), v585, v709, v813, v831] sizeOf34 z (oC z (oC z (oC z (oC (one_of_sliceV hst.sv4) (oC (one_of_sliceV hst.sv5) (oC (one_of_sliceV hst.sv6) (oC (one_of_sliceV hst.sv2) oN))))))) (by kernel_rfl)
 refine wl_unit z z (x_unit hr836) ?_
 refine wl_nil (tn (wp_ret ?_))
 obtain rfl := some_inj hm
 refine post_ret (vs := [.agg #[U6 t463.1.Session, U6 t463.1.Seq, U6 (u64.wrap (i64.wrap ((1:Int) + t468.1))), v585, v709, v813, v831]]) results16 (rvs_cons (rv_cell (cs := [U6 t463.1.Session, U6 t463.1.Seq, U6 (u64.wrap (i64.wrap ((1:Int) + t468.1))), v585, v709, v813, v831]) z isAgg34 sizeOf34 (hst.bcs0 0 z)) rvs_nil) ?_
 replace hst := hst.pull3.pull3.pull6.pull6.pull6
 exact ⟨v585, v709, v813, v831, z, hst.keep5⟩
}
 {
 replace hm := bif_f hc825 hm
 refine wp_iff (cvb hc825) ?_
 refine wp_skip (tn (wp_seq (wrl ?_)))
 refine wv (.agg #[U6 t463.1.Session, U6 t463.1.Seq, U6 (u64.wrap (i64.wrap ((1:Int) + t468.1))), v585, v709, v813, Zs]) z z (x_loadN (cs := [U6 t463.1.Session, U6 t463.1.Seq, U6 (u64.wrap (i64.wrap ((1:Int) + t468.1))), v585, v709, v813, Zs]) z isAgg34 sizeOf34 (hst.bcs2 0 z)) ?_
 replace hst := hst.pull1
 obtain ⟨w837, hr838, hst⟩ := hst.bx [U6 t463.1.Session, U6 t463.1.Seq, U6 (u64.wrap (i64.wrap ((1:Int) + t468.1))), v585, v709, v813, Zs] sizeOf34 z (oC z (oC z (oC z (oC (one_of_sliceV hst.sv3) (oC (one_of_sliceV hst.sv4) (oC (one_of_sliceV hst.sv5) (oC z oN))))))) (by kernel_rfl)
 refine wl_unit z z (x_unit hr838) ?_
 refine wl_nil (tn (wp_ret ?_))
 replace hst := hst.own_nil (tyInt .u8)
 obtain rfl := some_inj hm
 refine post_ret (vs := [.agg #[U6 t463.1.Session, U6 t463.1.Seq, U6 (u64.wrap (i64.wrap ((1:Int) + t468.1))), v585, v709, v813, Zs]]) results16 (rvs_cons (rv_cell (cs := [U6 t463.1.Session, U6 t463.1.Seq, U6 (u64.wrap (i64.wrap ((1:Int) + t468.1))), v585, v709, v813, Zs]) z isAgg34 sizeOf34 (hst.bcs1 0 z)) rvs_nil) ?_
 replace hst := hst.pull2.pull1.pull6.pull6.pull6
 exact ⟨v585, v709, v813, Zs, z, hst.keep5⟩
}
}
}
}
}

theorem law12_LocksJunk_ref {w0 w : World} {I : HL} {R : SP} {a0 : (List Int)} {r0_0 : Value} {a1 : (List Int)} {r1_0 : Value} {a2 : Int} {a3 : Int} (f0_0 : Ro (tyInt .u8) I r0_0 a0) (f1_0 : Ro (tyInt .u8) I r1_0 a1) (hst : St w0 w I [] R) {r : (Bool)} (hm : law12_LocksJunk a0 a1 a2 a3 = some r) :
  Calls prog 7 #[r0_0, r1_0, .int .u16 a2, U1 a3] w fun e w' => ∃ (I' : HL), e = .returned (.bool r) ∧ I.le I' ∧ St w0 w' I' [] R := by {
 unfold law12_LocksJunk at hm
 refine calls_start (args := [r0_0, r1_0, .int .u16 a2, U1 a3]) func7 z ntmps7 (Nat.le_of_ble_eq_true z) ?_
 have hI0 := HL.le.refl I
 refine wp_seq (wrl (wv (.bool false) z z z (wl_nil (tn (wp_seq (wp_seq (wrl ?_)))))))
 obtain ⟨t216, ht217, hm⟩ := bind_some hm
 refine wc call9 [] z z z ?_
 refine (law12_awake_ref hst.to0 ht217).mono ?_
 rintro _ w218 ⟨I219, rfl, hI220, hst⟩
 refine ⟨_, z, ?_⟩
 replace hst := hst.of0
 replace f0_0 := f0_0.mono (ro_le hI220)
 replace f1_0 := f1_0.mono (ro_le hI220)
 replace hI0 := hI0.trans hI220
 refine wv (.bool (!t216)) z z z (wv (.bool (!t216)) z z z ?_)
 refine bsplit (!t216) (fun hc221 => ?_) (fun hc221 => ?_)
 {
 replace hm := bif_t hc221 hm
 refine wo hc221 z z z z z z (wo hc221 z z z z z z (wo hc221 z z z z z z (wv (.bool true) z z (x_pick_t hc221 z z) (wv (.bool true) z z z (wz z z z z z z (wz z z z z z z (wz z z z z z z (wv (.bool true) z z (x_pick_t z z z) (wl_nil (tn ?_))))))))))
 refine wp_ift z ?_
 refine wp_seq (wrl ?_)
 obtain ⟨t222, ht223, hm⟩ := bind_some hm
 refine wc call9 [] z z z ?_
 refine (law12_awake_ref hst.to0 ht223).mono ?_
 rintro _ w224 ⟨I225, rfl, hI226, hst⟩
 refine ⟨_, z, ?_⟩
 replace hst := hst.of0
 replace f0_0 := f0_0.mono (ro_le hI226)
 replace f1_0 := f1_0.mono (ro_le hI226)
 replace hI0 := hI0.trans hI226
 refine wv (.bool t222) z z z (wl_nil (tn (wp_ret (then_r ?_))))
 obtain rfl := some_inj hm
 refine post_ret (vs := [.bool t222]) results7 (rvs_cons (rv_tmp z) rvs_nil) ?_
 exact ⟨_, z, hI0, hst.keep0⟩
}
 {
 replace hm := bif_f hc221 hm
 refine wv (r0_0) ((wanted_eq z z z (cvb hc221)).trans z) z z (wv (.int .i64 ((a0).length : Int)) ((wanted_eq z z z (cvb hc221)).trans z) z (x_len z underlying32 (ro_sliceV f0_0)) (wv (.bool (decide (((a0).length : Int) > (1000:Int)))) ((wanted_eq z z z (cvb hc221)).trans z) z z (wv (.bool (decide (((a0).length : Int) > (1000:Int)))) z z (x_pick_f hc221 z z) (wv (.bool (decide (((a0).length : Int) > (1000:Int)))) z z z ?_))))
 refine bsplit (decide (((a0).length : Int) > (1000:Int))) (fun hc227 => ?_) (fun hc227 => ?_)
 {
 replace hm := bif_t hc227 hm
 refine wo hc227 z z z z z z (wo hc227 z z z z z z (wo hc227 z z z z z z (wv (.bool true) z z (x_pick_t hc227 z z) (wl_nil (tn ?_)))))
 refine wp_ift z ?_
 refine wp_seq (wrl ?_)
 obtain ⟨t228, ht229, hm⟩ := bind_some hm
 refine wc call9 [] z z z ?_
 refine (law12_awake_ref hst.to0 ht229).mono ?_
 rintro _ w230 ⟨I231, rfl, hI232, hst⟩
 refine ⟨_, z, ?_⟩
 replace hst := hst.of0
 replace f0_0 := f0_0.mono (ro_le hI232)
 replace f1_0 := f1_0.mono (ro_le hI232)
 replace hI0 := hI0.trans hI232
 refine wv (.bool t228) z z z (wl_nil (tn (wp_ret (then_r ?_))))
 obtain rfl := some_inj hm
 refine post_ret (vs := [.bool t228]) results7 (rvs_cons (rv_tmp z) rvs_nil) ?_
 exact ⟨_, z, hI0, hst.keep0⟩
}
 {
 replace hm := bif_f hc227 hm
 refine wv (r1_0) ((wanted_eq z z z (cvb hc227)).trans z) z z (wv (.int .i64 ((a1).length : Int)) ((wanted_eq z z z (cvb hc227)).trans z) z (x_len z underlying32 (ro_sliceV f1_0)) (wv (.bool (decide (((a1).length : Int) > (300:Int)))) ((wanted_eq z z z (cvb hc227)).trans z) z z (wv (.bool (decide (((a1).length : Int) > (300:Int)))) z z (x_pick_f hc227 z z) (wl_nil (tn ?_)))))
 refine bsplit (decide (((a1).length : Int) > (300:Int))) (fun hc233 => ?_) (fun hc233 => ?_)
 {
 replace hm := bif_t hc233 hm
 refine wp_ift (cvb hc233) ?_
 refine wp_seq (wrl ?_)
 obtain ⟨t234, ht235, hm⟩ := bind_some hm
 refine wc call9 [] z z z ?_
 refine (law12_awake_ref hst.to0 ht235).mono ?_
 rintro _ w236 ⟨I237, rfl, hI238, hst⟩
 refine ⟨_, z, ?_⟩
 replace hst := hst.of0
 replace f0_0 := f0_0.mono (ro_le hI238)
 replace f1_0 := f1_0.mono (ro_le hI238)
 replace hI0 := hI0.trans hI238
 refine wv (.bool t234) z z z (wl_nil (tn (wp_ret (then_r ?_))))
 obtain rfl := some_inj hm
 refine post_ret (vs := [.bool t234]) results7 (rvs_cons (rv_tmp z) rvs_nil) ?_
 exact ⟨_, z, hI0, hst.keep0⟩
}
 {
 replace hm := bif_f hc233 hm
 refine wp_iff (cvb hc233) ?_
 refine wp_skip (tn (wp_seq (wrl ?_)))
 refine wv (r0_0) z z z ?_
 obtain ⟨t239, ht240, hm⟩ := bind_some hm
 refine wc call29 [r0_0] z z z ?_
 refine (locks_Decode_ref f0_0 hst.to0 ht240).mono ?_
 rintro _ w241 ⟨I242, v244, rfl, hI243, hst⟩
 refine ⟨_, z, ?_⟩
 replace hst := hst.of1
 replace f0_0 := f0_0.mono (ro_le hI243)
 replace f1_0 := f1_0.mono (ro_le hI243)
 replace hI0 := hI0.trans hI243
 refine wv (.tuple #[v244, I6 t239.2]) z z z (wv (v244) z z z (wv (.int .i64 t239.2) z z z (wv (v244) z z z (wv (.int .i64 t239.2) z z z (wl_nil (tn ?_))))))
 obtain ⟨y263, hm, hx264⟩ := joinO_some hm
 refine wp_cut (fun a w => ∃ (σ261 : Nat → Value), (law12_LocksJunk_j0 a1 a2 a3) () = some r ∧ a = Fr 109 (upd (upd (upd σ261 1 (r1_0)) 2 (.int .u16 a2)) 3 (.int .u8 a3)) ∧ St w0 w I242 [] R) ?_ ?_
 {
 refine wp_seq ?_
 refine wp_region_St hst 22 [0, 1, 2, 3, 4, 5, 6, 7, 8, 9, 10, 11, 12, 13, 14, 15, 16, 17, 18, 19, 20, 21] [0, 1, 3, 7, 15, 31, 7, 71, 255, 511, 1023, 2047, 4095, 8191, 16383, 32767, 65535, 131071, 262143, 524287, 1048575, 2097151] [] z (by kernel_rfl) (by kernel_rfl) Try.mixed (by kernel_rfl) ?_
 refine wsr (.int .i64 t239.2) 0 z z z (by kernel_rfl) (fun w hst => z) (wsr (.bool (t239.2 == (0:Int))) 1 z z z (by kernel_rfl) (fun w hst => z) (wsr (.bool (t239.2 == (0:Int))) 2 z z z (by kernel_rfl) (fun w hst => z) ?_))
 refine bsplit (t239.2 == (0:Int)) (fun hc246 => ?_) (fun hc246 => ?_)
 {
 replace hm := bif_t hc246 hm
 refine ws_q (v := v244) 3 [4, 5, 6, 7, 8, 9, 10, 11, 12, 13, 14, 15, 16, 17, 18, 19, 20, 21] (by kernel_rfl) z z (yi_run ((wanted_eq z z z (cvb hc246)).trans z) (fun w hst => z)) (ws_q (v := r0_0) 6 [4, 5, 7, 8, 9, 10, 11, 12, 13, 14, 15, 16, 17, 18, 19, 20, 21] (by kernel_rfl) z z (yi_run ((wanted_eq z z z (cvb hc246)).trans z) (fun w hst => z)) (ws_q (v := .string (toStr a0)) 7 [4, 5, 8, 9, 10, 11, 12, 13, 14, 15, 16, 17, 18, 19, 20, 21] (by kernel_rfl) z z (yi_run ((wanted_eq z z z (cvb hc246)).trans z) (fun w hst => x_tostr underlying32 underlying9 underlying5 z (Src.of_ro hst f0_0))) ?_))
 refine ws_e1 4 (by kernel_rfl) ?_
 refine nxe [5, 8, 9, 10, 11, 12, 13, 14, 15, 16, 17, 18, 19, 20, 21] (by kernel_rfl) z ((wanted_eq z z z (cvb hc246)).trans z) ?_
 clear hst
 intro w hst
 obtain ⟨t247, ht248, hm⟩ := bind_some hm
 refine wec call30 [v244] z z ?_
 refine (locks_Table_Encode_ref hst.to1 ht248).mono ?_
 rintro _ w249 ⟨v252, rfl, hst⟩
 refine ⟨_, z, ?_⟩
 replace hst := hst.of2
 refine ws_next (pend' := [(7, .string (toStr a0)), (6, r0_0)]) hst (by kernel_rfl) (pk_cons z (yi_run ((wanted_eq z z z (cvb hc246)).trans z) (fun w hst => x_tostr underlying32 underlying9 underlying5 z (Src.of_ro hst f0_0))) (pk_cons z (yi_run ((wanted_eq z z z (cvb hc246)).trans z) (fun w hst => z)) pk_nil)) ?_
 refine ws_q (v := .string (toStr t247)) 5 [8, 9, 10, 11, 12, 13, 14, 15, 16, 17, 18, 19, 20, 21] (by kernel_rfl) z z (yi_run ((wanted_eq z z z (cvb hc246)).trans z) (fun w hst => x_tostr underlying32 underlying9 underlying5 z hst.src0)) (ws_q (v := .bool (!(sEq (toStr t247) (toStr a0)))) 8 [9, 10, 11, 12, 13, 14, 15, 16, 17, 18, 19, 20, 21] (by kernel_rfl) z z (yi_run ((wanted_eq z z z (cvb hc246)).trans z) (fun w hst => by kernel_rfl)) (wsr (.bool (!(sEq (toStr t247) (toStr a0)))) 9 z z z (by kernel_rfl) (fun w hst => x_pick_t hc246 z z) (wsr (.bool (!(sEq (toStr t247) (toStr a0)))) 10 z z z (by kernel_rfl) (fun w hst => z) ?_)))
 refine bsplit (!(sEq (toStr t247) (toStr a0))) (fun hc254 => ?_) (fun hc254 => ?_)
 {
 replace hm := bif_t hc254 hm
 refine ws_q (v := undef) 11 [12, 13, 14, 15, 16, 17, 18, 19, 20, 21] (by kernel_rfl) z z (yi_off ((wanted_eq z z z (cvb hc254)).trans z)) (ws_q (v := undef) 12 [13, 14, 15, 16, 17, 18, 19, 20, 21] (by kernel_rfl) z z (yi_off ((wanted_eq z z z (cvb hc254)).trans z)) (ws_q (v := undef) 13 [14, 15, 16, 17, 18, 19, 20, 21] (by kernel_rfl) z z (yi_off ((wanted_eq z z z (cvb hc254)).trans z)) (ws_q (v := undef) 14 [15, 16, 17, 18, 19, 20, 21] (by kernel_rfl) z z (yi_off (wanted_undef z z z z)) (ws_q (v := undef) 15 [16, 17, 18, 19, 20, 21] (by kernel_rfl) z z (yi_off (wanted_undef z z z z)) (ws_q (v := undef) 16 [17, 18, 19, 20, 21] (by kernel_rfl) z z (yi_off (wanted_undef z z z z)) (ws_q (v := undef) 17 [18, 19, 20, 21] (by kernel_rfl) z z (yi_off (wanted_undef z z z z)) (ws_q (v := undef) 18 [19, 20, 21] (by kernel_rfl) z z (yi_off (wanted_undef z z z z)) (ws_q (v := undef) 19 [20, 21] (by kernel_rfl) z z (yi_off (wanted_undef z z z z)) (ws_q (v := undef) 20 [21] (by kernel_rfl) z z (yi_off ((wanted_eq z z z (cvb hc254)).trans z)) (wsr (.bool true) 21 z z z (by kernel_rfl) (fun w hst => x_pick_t hc254 z z) ?_))))))))))
 refine ws_nil ?_
 intro w hst
 refine tn ?_
 refine wp_ift z ?_
 refine wp_seq (wrl (wv (.bool false) z z z (wl_nil (tn (wp_ret (then_r ?_))))))
 replace hm := inr_up hm hx264
 obtain rfl := some_inj hm
 refine post_ret (vs := [.bool false]) results7 (rvs_cons (rv_tmp z) rvs_nil) ?_
 exact ⟨_, z, hI0, hst.keep0⟩
}
 {
 replace hm := bif_f hc254 hm
 refine ws_q (v := .int .i64 t239.2) 11 [12, 13, 14, 15, 16, 17, 18, 19, 20, 21] (by kernel_rfl) z z (yi_run ((wanted_eq z z z (cvb hc254)).trans z) (fun w hst => z)) (ws_q (v := .bool (t239.2 != (0:Int))) 12 [13, 14, 15, 16, 17, 18, 19, 20, 21] (by kernel_rfl) z z (yi_run ((wanted_eq z z z (cvb hc254)).trans z) (fun w hst => z)) (ws_q (v := .bool (t239.2 != (0:Int))) 13 [14, 15, 16, 17, 18, 19, 20, 21] (by kernel_rfl) z z (yi_run ((wanted_eq z z z (cvb hc254)).trans z) (fun w hst => z)) ?_))
 refine bsplit (t239.2 != (0:Int)) (fun hc255 => ?_) (fun hc255 => ?_)
 {
 replace hm := bif_t hc255 hm
 refine ws_q (v := .int .i64 t239.2) 14 [15, 16, 17, 18, 19, 20, 21] (by kernel_rfl) z z (yi_run ((wanted_eq z z z (cvb hc255)).trans z) (fun w hst => z)) (ws_q (v := .bool (t239.2 != (5:Int))) 15 [16, 17, 18, 19, 20, 21] (by kernel_rfl) z z (yi_run ((wanted_eq z z z (cvb hc255)).trans z) (fun w hst => z)) (ws_q (v := .bool (t239.2 != (5:Int))) 16 [17, 18, 19, 20, 21] (by kernel_rfl) z z (yi_run ((wanted_eq z z z (cvb hc255)).trans z) (fun w hst => z)) ?_))
 refine bsplit (t239.2 != (5:Int)) (fun hc256 => ?_) (fun hc256 => ?_)
 {
 replace hm := bif_t hc256 hm
 refine ws_q (v := undef) 17 [18, 19, 20, 21] (by kernel_rfl) z z (yi_off ((wanted_eq z z z (cvb hc256)).trans z)) (ws_q (v := undef) 18 [19, 20, 21] (by kernel_rfl) z z (yi_off ((wanted_eq z z z (cvb hc256)).trans z)) (ws_q (v := .bool true) 19 [20, 21] (by kernel_rfl) z z (yi_run ((wanted_eq z z z (cvb hc255)).trans z) (fun w hst => x_pick_t hc256 z z)) (ws_q (v := .bool true) 20 [21] (by kernel_rfl) z z (yi_run ((wanted_eq z z z (cvb hc254)).trans z) (fun w hst => x_pick_t hc255 z z)) (wsr (.bool true) 21 z z z (by kernel_rfl) (fun w hst => x_pick_f hc254 z z) ?_))))
 refine ws_nil ?_
 intro w hst
 refine tn ?_
 refine wp_ift z ?_
 refine wp_seq (wrl (wv (.bool false) z z z (wl_nil (tn (wp_ret (then_r ?_))))))
 replace hm := inr_up hm hx264
 obtain rfl := some_inj hm
 refine post_ret (vs := [.bool false]) results7 (rvs_cons (rv_tmp z) rvs_nil) ?_
 exact ⟨_, z, hI0, hst.keep0⟩
}
 {
 replace hm := bif_f hc256 hm
 refine ws_q (v := v244) 17 [18, 19, 20, 21] (by kernel_rfl) rfl rfl (yi_run ((wanted_eq rfl rfl rfl (cvb hc256)).trans rfl) (fun w hst => rfl)) (ws_q (v := .bool (!(t239.1.isNone))) 18 [19, 20, 21] (by kernel_rfl) rfl rfl (yi_run ((wanted_eq rfl rfl rfl (cvb hc256)).trans rfl) (fun w hst => by obtain ⟨a_, ha_, hb_⟩ := at_locks_Table_isnil hst.pull1; subst ha_; rw [← hb_]; cases a_ <;> kernel_rfl)) (ws_q (v := .bool (!(t239.1.isNone))) 19 [20, 21] (by kernel_rfl) rfl rfl (yi_run ((wanted_eq rfl rfl rfl (cvb hc255)).trans rfl) (fun w hst => x_pick_f hc256 rfl rfl)) (ws_q (v := .bool (!(t239.1.isNone))) 20 [21] (by kernel_rfl) rfl rfl (yi_run ((wanted_eq rfl rfl rfl (cvb hc254)).trans rfl) (fun w hst => x_pick_t hc255 rfl rfl)) (wsr (.bool (!(t239.1.isNone))) 21 rfl rfl rfl (by kernel_rfl) (fun w hst => x_pick_f hc254 rfl rfl) ?_))))
 refine ws_nil ?_
 intro w hst
 refine tn ?_
 refine bsplit (!(t239.1.isNone)) (fun hc257 => ?_) (fun hc257 => ?_)
 {
 replace hm := bif_t hc257 hm
 refine wp_ift (cvb hc257) ?_
 refine wp_seq (wrl (wv (.bool false) z z z (wl_nil (tn (wp_ret (then_r ?_))))))
 replace hm := inr_up hm hx264
 obtain rfl := some_inj hm
 refine post_ret (vs := [.bool false]) results7 (rvs_cons (rv_tmp z) rvs_nil) ?_
 exact ⟨_, z, hI0, hst.keep0⟩
}
 {
 replace hm := bif_f hc257 hm
 refine wp_iff (cvb hc257) ?_
 refine wp_skip (tn ?_)
 replace hst := hst.keep0
 obtain rfl := some_inj hm
 exact ⟨_, hx264, (fu 1 r1_0 z (fu 2 (.int .u16 a2) z (fu 3 (.int .u8 a3) z z))), hst⟩
}
}
}
 {
 replace hm := bif_f hc255 hm
 refine ws_q (v := undef) 14 [15, 16, 17, 18, 19, 20, 21] (by kernel_rfl) z z (yi_off ((wanted_eq z z z (cvb hc255)).trans z)) (ws_q (v := undef) 15 [16, 17, 18, 19, 20, 21] (by kernel_rfl) z z (yi_off ((wanted_eq z z z (cvb hc255)).trans z)) (ws_q (v := undef) 16 [17, 18, 19, 20, 21] (by kernel_rfl) z z (yi_off ((wanted_eq z z z (cvb hc255)).trans z)) (ws_q (v := undef) 17 [18, 19, 20, 21] (by kernel_rfl) z z (yi_off (wanted_undef z z z z)) (ws_q (v := undef) 18 [19, 20, 21] (by kernel_rfl) z z (yi_off (wanted_undef z z z z)) (ws_q (v := undef) 19 [20, 21] (by kernel_rfl) z z (yi_off ((wanted_eq z z z (cvb hc255)).trans z)) (ws_q (v := .bool false) 20 [21] (by kernel_rfl) z z (yi_run ((wanted_eq z z z (cvb hc254)).trans z) (fun w hst => x_pick_f hc255 z z)) (wsr (.bool false) 21 z z z (by kernel_rfl) (fun w hst => x_pick_f hc254 z z) ?_)))))))
 refine ws_nil ?_
 intro w hst
 refine tn ?_
 refine wp_iff z ?_
 refine wp_skip (tn ?_)
 replace hst := hst.keep0
 obtain rfl := some_inj hm
 exact ⟨_, hx264, (fu 1 r1_0 z (fu 2 (.int .u16 a2) z (fu 3 (.int .u8 a3) z z))), hst⟩
}
}
}
 {
 replace hm := bif_f hc246 hm
 refine ws_q (v := undef) 3 [4, 5, 6, 7, 8, 9, 10, 11, 12, 13, 14, 15, 16, 17, 18, 19, 20, 21] (by kernel_rfl) z z (yi_off ((wanted_eq z z z (cvb hc246)).trans z)) (ws_q (v := undef) 4 [5, 6, 7, 8, 9, 10, 11, 12, 13, 14, 15, 16, 17, 18, 19, 20, 21] (by kernel_rfl) z z (yi_off ((wanted_eq z z z (cvb hc246)).trans z)) (ws_q (v := undef) 5 [6, 7, 8, 9, 10, 11, 12, 13, 14, 15, 16, 17, 18, 19, 20, 21] (by kernel_rfl) z z (yi_off ((wanted_eq z z z (cvb hc246)).trans z)) (ws_q (v := undef) 6 [7, 8, 9, 10, 11, 12, 13, 14, 15, 16, 17, 18, 19, 20, 21] (by kernel_rfl) z z (yi_off ((wanted_eq z z z (cvb hc246)).trans z)) (ws_q (v := undef) 7 [8, 9, 10, 11, 12, 13, 14, 15, 16, 17, 18, 19, 20, 21] (by kernel_rfl) z z (yi_off ((wanted_eq z z z (cvb hc246)).trans z)) (ws_q (v := undef) 8 [9, 10, 11, 12, 13, 14, 15, 16, 17, 18, 19, 20, 21] (by kernel_rfl) z z (yi_off ((wanted_eq z z z (cvb hc246)).trans z)) (wsr (.bool false) 9 z z z (by kernel_rfl) (fun w hst => x_pick_f hc246 z z) (wsr (.bool false) 10 z z z (by kernel_rfl) (fun w hst => z) (ws_q (v := .int .i64 t239.2) 11 [12, 13, 14, 15, 16, 17, 18, 19, 20, 21] (by kernel_rfl) z z (yi_run ((wanted_eq z z z z).trans z) (fun w hst => z)) (ws_q (v := .bool (t239.2 != (0:Int))) 12 [13, 14, 15, 16, 17, 18, 19, 20, 21] (by kernel_rfl) z z (yi_run ((wanted_eq z z z z).trans z) (fun w hst => z)) (ws_q (v := .bool (t239.2 != (0:Int))) 13 [14, 15, 16, 17, 18, 19, 20, 21] (by kernel_rfl) z z (yi_run ((wanted_eq z z z z).trans z) (fun w hst => z)) ?_))))))))))
 refine bsplit (t239.2 != (0:Int)) (fun hc258 => ?_) (fun hc258 => ?_)
 {
 replace hm := bif_t hc258 hm
 refine ws_q (v := .int .i64 t239.2) 14 [15, 16, 17, 18, 19, 20, 21] (by kernel_rfl) z z (yi_run ((wanted_eq z z z (cvb hc258)).trans z) (fun w hst => z)) (ws_q (v := .bool (t239.2 != (5:Int))) 15 [16, 17, 18, 19, 20, 21] (by kernel_rfl) z z (yi_run ((wanted_eq z z z (cvb hc258)).trans z) (fun w hst => z)) (ws_q (v := .bool (t239.2 != (5:Int))) 16 [17, 18, 19, 20, 21] (by kernel_rfl) z z (yi_run ((wanted_eq z z z (cvb hc258)).trans z) (fun w hst => z)) ?_))
 refine bsplit (t239.2 != (5:Int)) (fun hc259 => ?_) (fun hc259 => ?_)
 {
 replace hm := bif_t hc259 hm
 refine ws_q (v := undef) 17 [18, 19, 20, 21] (by kernel_rfl) z z (yi_off ((wanted_eq z z z (cvb hc259)).trans z)) (ws_q (v := undef) 18 [19, 20, 21] (by kernel_rfl) z z (yi_off ((wanted_eq z z z (cvb hc259)).trans z)) (ws_q (v := .bool true) 19 [20, 21] (by kernel_rfl) z z (yi_run ((wanted_eq z z z (cvb hc258)).trans z) (fun w hst => x_pick_t hc259 z z)) (ws_q (v := .bool true) 20 [21] (by kernel_rfl) z z (yi_run ((wanted_eq z z z z).trans z) (fun w hst => x_pick_t hc258 z z)) (wsr (.bool true) 21 z z z (by kernel_rfl) (fun w hst => x_pick_f z z z) ?_))))
 refine ws_nil ?_
 intro w hst
 refine tn ?_
 refine wp_ift z ?_
 refine wp_seq (wrl (wv (.bool false) z z z (wl_nil (tn (wp_ret (then_r ?_))))))
 replace hm := inr_up hm hx264
 obtain rfl := some_inj hm
 refine post_ret (vs := [.bool false]) results7 (rvs_cons (rv_tmp z) rvs_nil) ?_
 exact ⟨_, z, hI0, hst.keep0⟩
}
 {
 replace hm := bif_f hc259 hm
 refine ws_q (v := v244) 17 [18, 19, 20, 21] (by kernel_rfl) rfl rfl (yi_run ((wanted_eq rfl rfl rfl (cvb hc259)).trans rfl) (fun w hst => rfl)) (ws_q (v := .bool (!(t239.1.isNone))) 18 [19, 20, 21] (by kernel_rfl) rfl rfl (yi_run ((wanted_eq rfl rfl rfl (cvb hc259)).trans rfl) (fun w hst => by obtain ⟨a_, ha_, hb_⟩ := at_locks_Table_isnil hst; subst ha_; rw [← hb_]; cases a_ <;> kernel_rfl)) (ws_q (v := .bool (!(t239.1.isNone))) 19 [20, 21] (by kernel_rfl) rfl rfl (yi_run ((wanted_eq rfl rfl rfl (cvb hc258)).trans rfl) (fun w hst => x_pick_f hc259 rfl rfl)) (ws_q (v := .bool (!(t239.1.isNone))) 20 [21] (by kernel_rfl) rfl rfl (yi_run ((wanted_eq rfl rfl rfl rfl).trans rfl) (fun w hst => x_pick_t hc258 rfl rfl)) (wsr (.bool (!(t239.1.isNone))) 21 rfl rfl rfl (by kernel_rfl) (fun w hst => x_pick_f rfl rfl rfl) ?_))))
 refine ws_nil ?_
 intro w hst
 refine tn ?_
 refine bsplit (!(t239.1.isNone)) (fun hc260 => ?_) (fun hc260 => ?_)
 {
 replace hm := bif_t hc260 hm
 refine wp_ift (cvb hc260) ?_
 refine wp_seq (wrl (wv (.bool false) z z z (wl_nil (tn (wp_ret (then_r ?_))))))
 replace hm := inr_up hm hx264
 obtain rfl := some_inj hm
 refine post_ret (vs := [.bool false]) results7 (rvs_cons (rv_tmp z) rvs_nil) ?_
 exact ⟨_, z, hI0, hst.keep0⟩
}
 {
 replace hm := bif_f hc260 hm
 refine wp_iff (cvb hc260) ?_
 refine wp_skip (tn ?_)
 replace hst := hst.keep0
 obtain rfl := some_inj hm
 exact ⟨_, hx264, (fu 1 r1_0 z (fu 2 (.int .u16 a2) z (fu 3 (.int .u8 a3) z z))), hst⟩
}
}
}
 {
 replace hm := bif_f hc258 hm
 refine ws_q (v := undef) 14 [15, 16, 17, 18, 19, 20, 21] (by kernel_rfl) z z (yi_off ((wanted_eq z z z (cvb hc258)).trans z)) (ws_q (v := undef) 15 [16, 17, 18, 19, 20, 21] (by kernel_rfl) z z (yi_off ((wanted_eq z z z (cvb hc258)).trans z)) (ws_q (v := undef) 16 [17, 18, 19, 20, 21] (by kernel_rfl) z z (yi_off ((wanted_eq z z z (cvb hc258)).trans z)) (ws_q (v := undef) 17 [18, 19, 20, 21] (by kernel_rfl) z z (yi_off (wanted_undef z z z z)) (ws_q (v := undef) 18 [19, 20, 21] (by kernel_rfl) z z (yi_off (wanted_undef z z z z)) (ws_q (v := undef) 19 [20, 21] (by kernel_rfl) z z (yi_off ((wanted_eq z z z (cvb hc258)).trans z)) (ws_q (v := .bool false) 20 [21] (by kernel_rfl) z z (yi_run ((wanted_eq z z z z).trans z) (fun w hst => x_pick_f hc258 z z)) (wsr (.bool false) 21 z z z (by kernel_rfl) (fun w hst => x_pick_f z z z) ?_)))))))
 refine ws_nil ?_
 intro w hst
 refine tn ?_
 refine wp_iff z ?_
 refine wp_skip (tn ?_)
 replace hst := hst.keep0
 obtain rfl := some_inj hm
 exact ⟨_, hx264, (fu 1 r1_0 z (fu 2 (.int .u16 a2) z (fu 3 (.int .u8 a3) z z))), hst⟩
}
}
}
 {
 clear hst
 rintro _ w265 ⟨σ261, hm, rfl, hst⟩
 dsimp only [law12_LocksJunk_j0] at hm
 refine wp_seq (wrl (wv (r1_0) z z z (wv (.agg #[r1_0, Zi]) z z (by obtain ⟨_, _, hv_, _⟩ := (ro_sliceV f1_0); rw [hv_]; kernel_rfl) ?_)))
 obtain ⟨b267, w268, ew269, eb270, hst⟩ := hst.box [r1_0, Zi] 45
 refine wl_run (v := Pt b267 0) (w' := w268) z z (x_al (by kernel_rfl) ew269 eb270) ?_
 refine wv (Pt b267 0) z z z (wl_nil (tn (wp_seq (wrl ?_))))
 obtain ⟨t272, ht273, hm⟩ := bind_some hm
 refine wc call10 [] z z z ?_
 refine (locks_New_ref hst.to0 ht273).mono ?_
 rintro _ w274 ⟨v277, rfl, hst⟩
 refine ⟨_, z, ?_⟩
 replace hst := hst.of1
 refine wv (v277) z z z (wl_nil (tn ?_))
 obtain ⟨y385, hm, hx386⟩ := bind_some hm
 refine wp_cut (fun a w => ∃ (I382 : HL) (z381 : locks_Table) (σ383 : Nat → Value), (law12_LocksJunk_j1 a2 a3) z381 = some r ∧ a = Fr 109 (upd (upd (upd σ383 2 (.int .u16 a2)) 3 (.int .u8 a3)) 12 (v277)) ∧ I242.le I382 ∧ St w0 w I382 [at_locks_Table v277 z381] R) ?_ ?_
 {
 have hL387 := HL.le.refl I242
 refine wp_seq (wrl (wv (.int .i64 (0:Int)) z z z (wl_nil (tn (wp_block ?_)))))
 replace hst := hst.pull1
 replace hst := at_ref12_Tape_close (pv := Pt b267 0) (x := ({ L := a1, I := (0:Int) } : ref12_Tape)) hst ⟨z, f1_0⟩
 obtain ⟨n345, hm⟩ := loopO_some hm
 refine wp_loop_n (fun n a w => ∃ (I343 : HL) (z340 : ref12_Tape) (z341 : locks_Table) (z342 : Int) (σ344 : Nat → Value), loopN (law12_LocksJunk_l2) n (z340, z341, z342) = some y385 ∧ a = Fr 109 (upd (upd (upd (upd (upd σ344 2 (.int .u16 a2)) 3 (.int .u8 a3)) 11 (Pt b267 0)) 12 (v277)) 13 (.int .i64 z342)) ∧ I242.le I343 ∧ St w0 w I343 [at_ref12_Tape (Pt b267 0) z340, at_locks_Table v277 z341] R) n345 ⟨_, ({ L := a1, I := (0:Int) } : ref12_Tape), t272, (0:Int), _, hm, (fu 2 (.int .u16 a2) z (fu 3 (.int .u8 a3) z (fu 11 (Pt b267 0) z (fu 12 v277 z (fu 13 (.int .i64 (0:Int)) z z))))), (HL.le.refl _), hst⟩ ?_
 rintro n351 _ w346 ⟨I343, z340, z341, z342, σ344, hm, rfl, hL347, hst⟩
 obtain ⟨n348, y349, rfl, hm, hx350⟩ := loopN_some hm
 dsimp only [law12_LocksJunk_l2] at hm
 replace f0_0 := f0_0.mono (ro_le hL347)
 replace f1_0 := f1_0.mono (ro_le hL347)
 replace hI0 := hI0.trans hL347
 replace hL387 := hL387.trans hL347
 refine wp_seq (wp_seq (wrl (wv (.int .i64 z342) z z z (wv (.bool (decide (z342 < (6:Int)))) z z z (wl_nil (tn ?_))))))
 refine bsplit (decide (z342 < (6:Int))) (fun hc352 => ?_) (fun hc352 => ?_)
 {
 replace hm := bif_t hc352 hm
 refine wp_ift (cvb hc352) ?_
 refine wp_skip (tn (wp_seq (wp_block (wrl ?_))))
 refine wv (v277) z z z (wv (Pt b267 0) z z z ?_)
 obtain ⟨t353, ht354, hm⟩ := bind_some hm
 refine wc call16 [Pt b267 0] z z z ?_
 refine (ref12_Tape_Hold_ref hst.to1 ht354).mono ?_
 rintro _ w355 ⟨v358, v360, v362, v364, rfl, hst⟩
 refine ⟨_, z, ?_⟩
 replace hst := hst.of5.pull5
 replace hst := objO_some hst
 replace hst := hst.pull1
 obtain ⟨css366, hq367, hst⟩ := hst.own_open
 replace hst := hst.pull2
 obtain ⟨css368, hq369, hst⟩ := hst.own_open
 replace hst := hst.pull3
 obtain ⟨css370, hq371, hst⟩ := hst.own_open
 replace hst := hst.pull4
 obtain ⟨css372, hq373, hst⟩ := hst.own_open
 replace hst := hst.pull4
 obtain ⟨t374, ht375, hm⟩ := bind_some hm
 refine wc call12 [v277, .agg #[U6 t353.1.ID.Session, U6 t353.1.ID.Seq, U6 t353.1.Epoch, v358, v360, v362, v364]] z z z ?_
 refine (locks_Table_Take_ref (hst.sub.rdrow3 hq367) (hst.sub.rdrow2 hq369) (hst.sub.rdrow1 hq371) (hst.sub.rdrow0 hq373) hst.to1 ht375).mono ?_
 rintro _ w376 ⟨I377, rfl, hI378, hst⟩
 refine ⟨_, z, ?_⟩
 replace hst := hst.of1
 replace f0_0 := f0_0.mono (ro_le hI378)
 replace f1_0 := f1_0.mono (ro_le hI378)
 replace hI0 := hI0.trans hI378
 replace hL387 := hL387.trans hI378
 replace hL347 := hL347.trans hI378
 replace hst := hst.pull4.own_close (hq367.imp fun _ _ => Ty.mono _ (ro_le hI378))
 replace hst := hst.pull4.own_close (hq369.imp fun _ _ => Ty.mono _ (ro_le hI378))
 replace hst := hst.pull4.own_close (hq371.imp fun _ _ => Ty.mono _ (ro_le hI378))
 replace hst := hst.pull4.own_close (hq373.imp fun _ _ => Ty.mono _ (ro_le hI378))
 replace hst := hst.pull4
 rcases he380 : t374.2 with _ | y379
 · rw [he380] at hm; cases hm
 rw [he380] at hm hst; dsimp only at hm; replace hst := objO_get hst
 refine wl_nil (blk_n (tn (wrl (wv (.int .i64 z342) z z z (wv (.int .i64 (i64.wrap (z342 + (1:Int)))) z z z (wv (.int .i64 (i64.wrap (z342 + (1:Int)))) z z z (wl_nil (tn ?_))))))))
 replace hst := hst.pull5.keep2
 obtain rfl := some_inj hm
 exact ⟨_, Nat.lt_succ_self _, _, t353.2, y379, (i64.wrap (z342 + (1:Int))), _, hx350, (fu 2 (.int .u16 a2) z (fu 3 (.int .u8 a3) z (fu 11 (Pt b267 0) z (fu 12 v277 z (fu 13 (.int .i64 (i64.wrap (z342 + (1:Int)))) z z))))), hL347, hst⟩
}
 {
 replace hm := bif_f hc352 hm
 refine wp_iff (cvb hc352) ?_
 refine wp_exit (then_x (then_x ?_))
 replace hm := inr_up hm hx350
 refine blk_x (tn ?_)
 replace hst := hst.pull1.keep1
 obtain rfl := some_inj hm
 exact ⟨_, z341, _, hx386, (fu 2 (.int .u16 a2) z (fu 3 (.int .u8 a3) z (fu 12 v277 z z))), hL387, hst⟩
}
}
 {
 clear hst
 rintro _ w388 ⟨I382, z381, σ383, hm, rfl, hL384, hst⟩
 dsimp only [law12_LocksJunk_j1] at hm
 replace f0_0 := f0_0.mono (ro_le hL384)
 replace f1_0 := f1_0.mono (ro_le hL384)
 replace hI0 := hI0.trans hL384
 refine wp_seq (wrl (wv (v277) z z z ?_))
 replace hst := objO_some hst
 obtain ⟨t389, ht390, hm⟩ := bind_some hm
 refine wc call30 [v277] z z z ?_
 refine (locks_Table_Encode_ref hst.to1 ht390).mono ?_
 rintro _ w391 ⟨v394, rfl, hst⟩
 refine ⟨_, z, ?_⟩
 replace hst := hst.of2.pull1
 replace hst := objO_get hst
 refine wv (v394) z z z (wl_nil (tn (wp_seq (wrl (wv (.int .u16 a2) z z z (wv (.int .i64 (i64.wrap a2)) z z (by kernel_rfl) (wv (v394) z z z (wv (.int .i64 ((t389).length : Int)) z z (x_len z underlying32 hst.sv1) ?_))))))))
 obtain ⟨hg396, hm⟩ := gd_some hm
 refine wv (.int .i64 (Int.tmod (i64.wrap a2) ((t389).length : Int))) z z (x_rem (not_t hg396) z z) (wv (.int .i64 (Int.tmod (i64.wrap a2) ((t389).length : Int))) z z z (wl_nil (tn (wp_seq (wrl (wv (v394) z z z (wv (.int .i64 (Int.tmod (i64.wrap a2) ((t389).length : Int))) z z z (wv (v394) z z z (wv (.int .i64 (Int.tmod (i64.wrap a2) ((t389).length : Int))) z z z ?_)))))))))
 obtain ⟨x397, hx398, hm⟩ := bind_some hm
 obtain ⟨h399, h400, hi401⟩ := geto_some hx398
 refine wv (.pointer (some (eAddr v394 ((Int.tmod (i64.wrap a2) ((t389).length : Int)).toNat * 1 + 0)))) z z (x_index z z underlying32 sizeOf5 hst.sv1 h399 h400) (wv (.int .u8 x397) z z (x_load z isAgg5 (hst.ol1 hi401 (by rintro _ rfl; rfl))) (wv (.int .u8 a3) z z z (wv (.int .u8 (bXor .u8 x397 a3)) z z z (wv (.pointer (some (eAddr v394 ((Int.tmod (i64.wrap a2) ((t389).length : Int)).toNat * 1 + 0)))) z z (x_index z z underlying32 sizeOf5 hst.sv1 h399 h400) ?_))))
 replace hst := hst.pull1
 obtain ⟨w402, hr403, hst⟩ := hst.own_store (P := prog) (t := 5) (y := (bXor .u8 x397 a3)) hi401 0 (.int .u8 (bXor .u8 x397 a3)) sizeOf5 (Nat.le_of_ble_eq_true z) (oC z oN) (by rintro _ rfl; rfl)
 have hi404 := set_get hi401 (bXor .u8 x397 a3)
 have h405 := set_lt h400 (Int.tmod (i64.wrap a2) ((t389).length : Int)).toNat (bXor .u8 x397 a3)
 refine wl_unit z z (x_unit hr403) ?_
 refine wl_nil (tn (wp_seq (wrl (wv (v394) z z z ?_))))
 obtain ⟨I406, hI407, f408, hst⟩ := hst.own_fix
 replace f0_0 := f0_0.mono (ro_le hI407)
 replace f1_0 := f1_0.mono (ro_le hI407)
 replace hI0 := hI0.trans hI407
 obtain ⟨t409, ht410, hm⟩ := bind_some hm
 refine wc call29 [v394] z z z ?_
 refine (locks_Decode_ref f408 hst.to0 ht410).mono ?_
 rintro _ w411 ⟨I412, v414, rfl, hI413, hst⟩
 refine ⟨_, z, ?_⟩
 replace hst := hst.of1
 replace f0_0 := f0_0.mono (ro_le hI413)
 replace f1_0 := f1_0.mono (ro_le hI413)
 replace f408 := f408.mono (ro_le hI413)
 replace hI0 := hI0.trans hI413
 refine wv (.tuple #[v414, I6 t409.2]) z z z (wv (v414) z z z (wv (.int .i64 t409.2) z z z (wv (v414) z z z (wv (.int .i64 t409.2) z z z (wl_nil (tn (wp_seq ?_)))))))
 refine wp_region_St hst 19 [0, 1, 2, 3, 4, 5, 6, 7, 8, 9, 10, 11, 12, 13, 14, 15, 16, 17, 18] [0, 1, 3, 7, 15, 31, 7, 71, 255, 511, 1023, 2047, 4095, 8191, 16383, 32767, 65535, 131071, 262143] [] z (by kernel_rfl) (by kernel_rfl) Try.mixed (by kernel_rfl) ?_
 refine wsr (.int .i64 t409.2) 0 z z z (by kernel_rfl) (fun w hst => z) (wsr (.bool (t409.2 == (0:Int))) 1 z z z (by kernel_rfl) (fun w hst => z) (wsr (.bool (t409.2 == (0:Int))) 2 z z z (by kernel_rfl) (fun w hst => z) ?_))
 refine bsplit (t409.2 == (0:Int)) (fun hc416 => ?_) (fun hc416 => ?_)
 {
 replace hm := bif_t hc416 hm
 refine ws_q (v := v414) 3 [4, 5, 6, 7, 8, 9, 10, 11, 12, 13, 14, 15, 16, 17, 18] (by kernel_rfl) z z (yi_run ((wanted_eq z z z (cvb hc416)).trans z) (fun w hst => z)) (ws_q (v := v394) 6 [4, 5, 7, 8, 9, 10, 11, 12, 13, 14, 15, 16, 17, 18] (by kernel_rfl) z z (yi_run ((wanted_eq z z z (cvb hc416)).trans z) (fun w hst => z)) (ws_q (v := .string (toStr (t389.set (Int.tmod (i64.wrap a2) ((t389).length : Int)).toNat (bXor .u8 x397 a3)))) 7 [4, 5, 8, 9, 10, 11, 12, 13, 14, 15, 16, 17, 18] (by kernel_rfl) z z (yi_run ((wanted_eq z z z (cvb hc416)).trans z) (fun w hst => x_tostr underlying32 underlying9 underlying5 z (Src.of_ro hst f408))) ?_))
 refine ws_e1 4 (by kernel_rfl) ?_
 refine nxe [5, 8, 9, 10, 11, 12, 13, 14, 15, 16, 17, 18] (by kernel_rfl) z ((wanted_eq z z z (cvb hc416)).trans z) ?_
 clear hst
 intro w hst
 obtain ⟨t417, ht418, hm⟩ := bind_some hm
 refine wec call30 [v414] z z ?_
 refine (locks_Table_Encode_ref hst.to1 ht418).mono ?_
 rintro _ w419 ⟨v422, rfl, hst⟩
 refine ⟨_, z, ?_⟩
 replace hst := hst.of2
 refine ws_next (pend' := [(7, .string (toStr (t389.set (Int.tmod (i64.wrap a2) ((t389).length : Int)).toNat (bXor .u8 x397 a3)))), (6, v394)]) hst (by kernel_rfl) (pk_cons z (yi_run ((wanted_eq z z z (cvb hc416)).trans z) (fun w hst => x_tostr underlying32 underlying9 underlying5 z (Src.of_ro hst f408))) (pk_cons z (yi_run ((wanted_eq z z z (cvb hc416)).trans z) (fun w hst => z)) pk_nil)) ?_
 refine ws_q (v := .string (toStr t417)) 5 [8, 9, 10, 11, 12, 13, 14, 15, 16, 17, 18] (by kernel_rfl) z z (yi_run ((wanted_eq z z z (cvb hc416)).trans z) (fun w hst => x_tostr underlying32 underlying9 underlying5 z hst.src0)) (ws_q (v := .bool (sEq (toStr t417) (toStr (t389.set (Int.tmod (i64.wrap a2) ((t389).length : Int)).toNat (bXor .u8 x397 a3))))) 8 [9, 10, 11, 12, 13, 14, 15, 16, 17, 18] (by kernel_rfl) z z (yi_run ((wanted_eq z z z (cvb hc416)).trans z) (fun w hst => by kernel_rfl)) (wsr (.bool (sEq (toStr t417) (toStr (t389.set (Int.tmod (i64.wrap a2) ((t389).length : Int)).toNat (bXor .u8 x397 a3))))) 9 z z z (by kernel_rfl) (fun w hst => x_pick_t hc416 z z) (wsr (.bool (sEq (toStr t417) (toStr (t389.set (Int.tmod (i64.wrap a2) ((t389).length : Int)).toNat (bXor .u8 x397 a3))))) 10 z z z (by kernel_rfl) (fun w hst => z) ?_)))
 refine bsplit (sEq (toStr t417) (toStr (t389.set (Int.tmod (i64.wrap a2) ((t389).length : Int)).toNat (bXor .u8 x397 a3)))) (fun hc424 => ?_) (fun hc424 => ?_)
 {
 replace hm := bif_t hc424 hm
 refine ws_q (v := undef) 11 [12, 13, 14, 15, 16, 17, 18] (by kernel_rfl) z z (yi_off ((wanted_eq z z z (cvb hc424)).trans z)) (ws_q (v := undef) 12 [13, 14, 15, 16, 17, 18] (by kernel_rfl) z z (yi_off ((wanted_eq z z z (cvb hc424)).trans z)) (ws_q (v := undef) 13 [14, 15, 16, 17, 18] (by kernel_rfl) z z (yi_off ((wanted_eq z z z (cvb hc424)).trans z)) (ws_q (v := undef) 14 [15, 16, 17, 18] (by kernel_rfl) z z (yi_off (wanted_undef z z z z)) (ws_q (v := undef) 15 [16, 17, 18] (by kernel_rfl) z z (yi_off (wanted_undef z z z z)) (ws_q (v := undef) 16 [17, 18] (by kernel_rfl) z z (yi_off ((wanted_eq z z z (cvb hc424)).trans z)) (wsr (.bool true) 17 z z z (by kernel_rfl) (fun w hst => x_pick_t hc424 z z) (wsr (.bool true) 18 z z z (by kernel_rfl) (fun w hst => z) ?_)))))))
 refine ws_nil ?_
 intro w hst
 refine tn (wp_ret ?_)
 obtain rfl := some_inj hm
 refine post_ret (vs := [.bool true]) results7 (rvs_cons (rv_tmp z) rvs_nil) ?_
 exact ⟨_, z, hI0, hst.keep0⟩
}
 {
 replace hm := bif_f hc424 hm
 refine ws_q (v := .int .i64 t409.2) 11 [12, 13, 14, 15, 16, 17, 18] (by kernel_rfl) z z (yi_run ((wanted_eq z z z (cvb hc424)).trans z) (fun w hst => z)) (ws_q (v := .bool (t409.2 == (5:Int))) 12 [13, 14, 15, 16, 17, 18] (by kernel_rfl) z z (yi_run ((wanted_eq z z z (cvb hc424)).trans z) (fun w hst => z)) (ws_q (v := .bool (t409.2 == (5:Int))) 13 [14, 15, 16, 17, 18] (by kernel_rfl) z z (yi_run ((wanted_eq z z z (cvb hc424)).trans z) (fun w hst => z)) ?_))
 refine bsplit (t409.2 == (5:Int)) (fun hc425 => ?_) (fun hc425 => ?_)
 {
 replace hm := bif_t hc425 hm
 refine ws_q (v := v414) 14 [15, 16, 17, 18] (by kernel_rfl) rfl rfl (yi_run ((wanted_eq rfl rfl rfl (cvb hc425)).trans rfl) (fun w hst => rfl)) (ws_q (v := .bool (t409.1.isNone)) 15 [16, 17, 18] (by kernel_rfl) rfl rfl (yi_run ((wanted_eq rfl rfl rfl (cvb hc425)).trans rfl) (fun w hst => by obtain ⟨a_, ha_, hb_⟩ := at_locks_Table_isnil hst.pull1; subst ha_; rw [← hb_]; cases a_ <;> kernel_rfl)) (ws_q (v := .bool (t409.1.isNone)) 16 [17, 18] (by kernel_rfl) rfl rfl (yi_run ((wanted_eq rfl rfl rfl (cvb hc424)).trans rfl) (fun w hst => x_pick_t hc425 rfl rfl)) (wsr (.bool (t409.1.isNone)) 17 rfl rfl rfl (by kernel_rfl) (fun w hst => x_pick_f hc424 rfl rfl) (wsr (.bool (t409.1.isNone)) 18 rfl rfl rfl (by kernel_rfl) (fun w hst => rfl) ?_))))
 refine ws_nil ?_
 intro w hst
 refine tn (wp_ret ?_)
 obtain rfl := some_inj hm
 refine post_ret (vs := [.bool (t409.1.isNone)]) results7 (rvs_cons (rv_tmp z) rvs_nil) ?_
 exact ⟨_, z, hI0, hst.keep0⟩
}
 {
 replace hm := bif_f hc425 hm
 refine ws_q (v := undef) 14 [15, 16, 17, 18] (by kernel_rfl) z z (yi_off ((wanted_eq z z z (cvb hc425)).trans z)) (ws_q (v := undef) 15 [16, 17, 18] (by kernel_rfl) z z (yi_off ((wanted_eq z z z (cvb hc425)).trans z)) (ws_q (v := .bool false) 16 [17, 18] (by kernel_rfl) z z (yi_run ((wanted_eq z z z (cvb hc424)).trans z) (fun w hst => x_pick_f hc425 z z)) (wsr (.bool false) 17 z z z (by kernel_rfl) (fun w hst => x_pick_f hc424 z z) (wsr (.bool false) 18 z z z (by kernel_rfl) (fun w hst => z) ?_))))
 refine ws_nil ?_
 intro w hst
 refine tn (wp_ret ?_)
 obtain rfl := some_inj hm
 refine post_ret (vs := [.bool false]) results7 (rvs_cons (rv_tmp z) rvs_nil) ?_
 exact ⟨_, z, hI0, hst.keep0⟩
}
}
}
 {
 replace hm := bif_f hc416 hm
 refine ws_q (v := undef) 3 [4, 5, 6, 7, 8, 9, 10, 11, 12, 13, 14, 15, 16, 17, 18] (by kernel_rfl) z z (yi_off ((wanted_eq z z z (cvb hc416)).trans z)) (ws_q (v := undef) 4 [5, 6, 7, 8, 9, 10, 11, 12, 13, 14, 15, 16, 17, 18] (by kernel_rfl) z z (yi_off ((wanted_eq z z z (cvb hc416)).trans z)) (ws_q (v := undef) 5 [6, 7, 8, 9, 10, 11, 12, 13, 14, 15, 16, 17, 18] (by kernel_rfl) z z (yi_off ((wanted_eq z z z (cvb hc416)).trans z)) (ws_q (v := undef) 6 [7, 8, 9, 10, 11, 12, 13, 14, 15, 16, 17, 18] (by kernel_rfl) z z (yi_off ((wanted_eq z z z (cvb hc416)).trans z)) (ws_q (v := undef) 7 [8, 9, 10, 11, 12, 13, 14, 15, 16, 17, 18] (by kernel_rfl) z z (yi_off ((wanted_eq z z z (cvb hc416)).trans z)) (ws_q (v := undef) 8 [9, 10, 11, 12, 13, 14, 15, 16, 17, 18] (by kernel_rfl) z z (yi_off ((wanted_eq z z z (cvb hc416)).trans z)) (wsr (.bool false) 9 z z z (by kernel_rfl) (fun w hst => x_pick_f hc416 z z) (wsr (.bool false) 10 z z z (by kernel_rfl) (fun w hst => z) (ws_q (v := .int .i64 t409.2) 11 [12, 13, 14, 15, 16, 17, 18] (by kernel_rfl) z z (yi_run ((wanted_eq z z z z).trans z) (fun w hst => z)) (ws_q (v := .bool (t409.2 == (5:Int))) 12 [13, 14, 15, 16, 17, 18] (by kernel_rfl) z z (yi_run ((wanted_eq z z z z).trans z) (fun w hst => z)) (ws_q (v := .bool (t409.2 == (5:Int))) 13 [14, 15, 16, 17, 18] (by kernel_rfl) z z (yi_run ((wanted_eq z z z z).trans z) (fun w hst => z)) ?_))))))))))
 refine bsplit (t409.2 == (5:Int)) (fun hc426 => ?_) (fun hc426 => ?_)
 {
 replace hm := bif_t hc426 hm
 refine ws_q (v := v414) 14 [15, 16, 17, 18] (by kernel_rfl) rfl rfl (yi_run ((wanted_eq rfl rfl rfl (cvb hc426)).trans rfl) (fun w hst => rfl)) (ws_q (v := .bool (t409.1.isNone)) 15 [16, 17, 18] (by kernel_rfl) rfl rfl (yi_run ((wanted_eq rfl rfl rfl (cvb hc426)).trans rfl) (fun w hst => by obtain ⟨a_, ha_, hb_⟩ := at_locks_Table_isnil hst; subst ha_; rw [← hb_]; cases a_ <;> kernel_rfl)) (ws_q (v := .bool (t409.1.isNone)) 16 [17, 18] (by kernel_rfl) rfl rfl (yi_run ((wanted_eq rfl rfl rfl rfl).trans rfl) (fun w hst => x_pick_t hc426 rfl rfl)) (wsr (.bool (t409.1.isNone)) 17 rfl rfl rfl (by kernel_rfl) (fun w hst => x_pick_f rfl rfl rfl) (wsr (.bool (t409.1.isNone)) 18 rfl rfl rfl (by kernel_rfl) (fun w hst => rfl) ?_))))
 refine ws_nil ?_
 intro w hst
 refine tn (wp_ret ?_)
 obtain rfl := some_inj hm
 refine post_ret (vs := [.bool (t409.1.isNone)]) results7 (rvs_cons (rv_tmp z) rvs_nil) ?_
 exact ⟨_, z, hI0, hst.keep0⟩
}
 {
 replace hm := bif_f hc426 hm
 refine ws_q (v := undef) 14 [15, 16, 17, 18] (by kernel_rfl) z z (yi_off ((wanted_eq z z z (cvb hc426)).trans z)) (ws_q (v := undef) 15 [16, 17, 18] (by kernel_rfl) z z (yi_off ((wanted_eq z z z (cvb hc426)).trans z)) (ws_q (v := .bool false) 16 [17, 18] (by kernel_rfl) z z (yi_run ((wanted_eq z z z z).trans z) (fun w hst => x_pick_f hc426 z z)) (wsr (.bool false) 17 z z z (by kernel_rfl) (fun w hst => x_pick_f z z z) (wsr (.bool false) 18 z z z (by kernel_rfl) (fun w hst => z) ?_))))
 refine ws_nil ?_
 intro w hst
 refine tn (wp_ret ?_)
 obtain rfl := some_inj hm
 refine post_ret (vs := [.bool false]) results7 (rvs_cons (rv_tmp z) rvs_nil) ?_
 exact ⟨_, z, hI0, hst.keep0⟩
}
}
}
}
}
}
}
}

end Go.Proofs.Ytbdhhmnncknhhaa
