/- The Go functions refine their models, part 2. -/
import Derived.Test.YtgnkkopjkgdieaaGreatLaneQuotasR1
set_option linter.unusedVariables false
set_option linter.unusedSimpArgs false
set_option maxRecDepth 100000
set_option maxHeartbeats 4000000
namespace Go.Proofs.YtgnkkopjkgdieaaGreat
open Go Go.V
open _root_.Go.Proofs.Tryz IntKind
attribute [local irreducible] wpList Code.wp wpQuiet Calls bodyPost Oper.wp wpS Nx PendOK YieldsIn
theorem lane_State_Told_ref {w0 w : World} {I : HL} {R : SP} {a0 : (Option lane_State)} {p0 : Value} {a1 : api_Hold} {r1_0 : Value} {r1_1 : Value} {r1_2 : Value} {r1_3 : Value} (f1_0 : Rd tyF64 R I r1_0 a1.Gets) (f1_1 : Rd tyF2 R I r1_1 a1.Scans) (f1_2 : Rd tyF64 R I r1_2 a1.Puts) (f1_3 : Rd (tyInt .u8) R I r1_3 a1.Data) (hst : St w0 w I [objO at_lane_State p0 a0] R) {r : (api_Reply)} (hm : lane_State_Told a0 a1 = some r) :
  Calls prog 33 #[p0, .agg #[U6 a1.ID.Session, U6 a1.ID.Seq, U6 a1.Epoch, r1_0, r1_1, r1_2, r1_3]] w fun e w' => ∃ (I' : HL) (q0_0 : Value) (q0_1 : Value), e = .returned (.agg #[I6 r.E, U6 r.Epoch, U6 r.Index, q0_0, q0_1]) ∧ I.le I' ∧ St w0 w' I' [ownS ty_api_Got q0_0 r.Gots, ownS (tySl ty_api_Pair) q0_1 r.Scans, objO at_lane_State p0 a0] R := by {
 rcases a0 with _ | o0
 {
 obtain ⟨rfl, hst'⟩ := objO_none hst
 clear hst
 have hst := hst'
 clear hst'
 dsimp only [lane_State_Told] at hm
 refine calls_start (args := [.pointer none, .agg #[U6 a1.ID.Session, U6 a1.ID.Seq, U6 a1.Epoch, r1_0, r1_1, r1_2, r1_3]]) func33 z ntmps33 (Nat.le_of_ble_eq_true z) ?_
 have hI0 := HL.le.refl I
 refine wp_seq (wrl ?_)
 obtain ⟨b623, w624, ew625, eb626, hst⟩ := hst.box [U6 a1.ID.Session, U6 a1.ID.Seq, U6 a1.Epoch, r1_0, r1_1, r1_2, r1_3] 46
 refine wl_run (v := Pt b623 0) (w' := w624) z z (x_al (by kernel_rfl) ew625 eb626) ?_
 obtain ⟨b630, w631, ew632, eb633, hst⟩ := hst.box [Zi, Zu, Zu, Zs, Zs] 33
 refine wl_run (v := Pt b630 0) (w' := w631) z z (x_al (by kernel_rfl) ew632 eb633) ?_
 refine wl_nil (tn (wp_seq (wrl ?_)))
 obtain ⟨b637, w638, ew639, eb640, hst⟩ := hst.box [Zi, Zu, Zu, Zs, Zs] 33
 refine wl_run (v := Pt b637 0) (w' := w638) z z (x_al (by kernel_rfl) ew639 eb640) ?_
 refine wl_nil (tn (wp_seq (wp_seq (wrl (wv (.pointer none) z z z (wv (.bool true) z z (by kernel_rfl) (wl_nil (tn ?_))))))))
 refine wp_ift z ?_
 refine wp_seq (wrl (wv (.agg #[Zi, Zu, Zu, Zs, Zs]) z z (x_loadN (cs := [Zi, Zu, Zu, Zs, Zs]) z isAgg33 sizeOf33 (hst.bcs0 0 z)) ?_))
 replace hst := hst.pull1
 obtain ⟨w642, hr643, hst⟩ := hst.bx [Zi, Zu, Zu, Zs, Zs] sizeOf33 z (oC z (oC z (oC z (oC z (oC z oN))))) (by kernel_rfl)
 refine wl_unit z z (x_unit hr643) ?_
 refine wl_nil (tn (wp_ret (then_r ?_)))
 replace hst := hst.own_nil ty_api_Got
 replace hst := hst.own_nil (tySl ty_api_Pair)
 replace hst := hst.objO_nil at_lane_State
 obtain rfl := some_inj hm
 refine post_ret (vs := [.agg #[Zi, Zu, Zu, Zs, Zs]]) results33 (rvs_cons (rv_cell (cs := [Zi, Zu, Zu, Zs, Zs]) z isAgg33 sizeOf33 (hst.bcs3 0 z)) rvs_nil) ?_
 replace hst := hst.pull1.pull2
 exact ⟨_, Zs, Zs, z, hI0, hst.keep3⟩
}
 {
 replace hst := objO_get hst
 dsimp only [lane_State_Told] at hm
 refine calls_start (args := [p0, .agg #[U6 a1.ID.Session, U6 a1.ID.Seq, U6 a1.Epoch, r1_0, r1_1, r1_2, r1_3]]) func33 z ntmps33 (Nat.le_of_ble_eq_true z) ?_
 have hI0 := HL.le.refl I
 refine wp_seq (wrl ?_)
 obtain ⟨b644, w645, ew646, eb647, hst⟩ := hst.box [U6 a1.ID.Session, U6 a1.ID.Seq, U6 a1.Epoch, r1_0, r1_1, r1_2, r1_3] 46
 refine wl_run (v := Pt b644 0) (w' := w645) z z (x_al (by kernel_rfl) ew646 eb647) ?_
 obtain ⟨b651, w652, ew653, eb654, hst⟩ := hst.box [Zi, Zu, Zu, Zs, Zs] 33
 refine wl_run (v := Pt b651 0) (w' := w652) z z (x_al (by kernel_rfl) ew653 eb654) ?_
 refine wl_nil (tn (wp_seq (wrl ?_)))
 obtain ⟨b658, w659, ew660, eb661, hst⟩ := hst.box [Zi, Zu, Zu, Zs, Zs] 33
 refine wl_run (v := Pt b658 0) (w' := w659) z z (x_al (by kernel_rfl) ew660 eb661) ?_
 refine wl_nil (tn (wp_seq (wp_seq (wrl (wv (p0) z z z ?_)))))
 replace hst := hst.pull3
 obtain ⟨b663, v664, v666, v668, v670, v672, v674, v676, rfl, hst'⟩ := at_lane_State_open hst
 clear hst
 have hst := hst'
 clear hst'
 refine wv (.bool false) z z (by kernel_rfl) (wl_nil (tn ?_))
 refine wp_iff z ?_
 refine wp_skip (tn ?_)
 obtain ⟨y881, hm, hx882⟩ := bind_some hm
 refine wp_cut (fun a w => ∃ (I878 : HL) (z877 : (List api_Got)) (v876 : Value) (σ879 : Nat → Value), (lane_State_Told_j0 a1 o0) z877 = some r ∧ a = Fr 55 (upd (upd (upd (upd σ879 0 (Pt b663 0)) 3 (Pt b644 0)) 4 (Pt b651 0)) 5 (Pt b658 0)) ∧ I.le I878 ∧ St w0 w I878 [at_lane_State (Pt b663 0) o0, cells b644 [U6 a1.ID.Session, U6 a1.ID.Seq, U6 a1.Epoch, r1_0, r1_1, r1_2, r1_3], cells b651 [Zi, Zu, Zu, Zs, Zs], cells b658 [Zi, Zu, Zu, v876, Zs], ownS ty_api_Got v876 z877] R) ?_ ?_
 {
 have hL883 := HL.le.refl I
 refine wp_seq (wrl (wv (Pt b644 3) z z (x_field z underlying46 z sizeOf43 z) (wv (r1_0) z z (x_load z isAgg43 (hst.bc10 z)) (wv (.int .i64 ((a1.Gets).length : Int)) z z (x_len z underlying43 (rd_sliceV f1_0)) (wv (.int .i64 (0:Int)) z z z (wl_nil (tn (wp_block ?_))))))))
 replace hst := hst.pull7.pull7.pull7.pull7.pull7.pull7.pull7.pull7
 replace hst := at_lane_State_close (pv := Pt b663 0) (x := o0) hst z
 replace hst := hst.own_nil ty_api_Got
 obtain ⟨n823, hm⟩ := loopO_some hm
 refine wp_loop_n (fun n a w => ∃ (I821 : HL) (z817 : (List api_Got)) (z820 : Int) (v818 : Value) (σ822 : Nat → Value), loopN (lane_State_Told_l1 a1 o0) n (z817, z820) = some y881 ∧ a = Fr 55 (upd (upd (upd (upd (upd (upd (upd σ822 0 (Pt b663 0)) 3 (Pt b644 0)) 4 (Pt b651 0)) 5 (Pt b658 0)) 14 (r1_0)) 15 (.int .i64 ((a1.Gets).length : Int))) 16 (.int .i64 z820)) ∧ I.le I821 ∧ St w0 w I821 [ownS ty_api_Got v818 z817, at_lane_State (Pt b663 0) o0, cells b658 [Zi, Zu, Zu, v818, Zs], cells b651 [Zi, Zu, Zu, Zs, Zs], cells b644 [U6 a1.ID.Session, U6 a1.ID.Seq, U6 a1.Epoch, r1_0, r1_1, r1_2, r1_3]] R) n823 ⟨_, [], (0:Int), Zs, _, hm, (fu 0 (Pt b663 0) z (fu 3 (Pt b644 0) z (fu 4 (Pt b651 0) z (fu 5 (Pt b658 0) z (fu 14 r1_0 z (fu 15 (.int .i64 ((a1.Gets).length : Int)) z (fu 16 (.int .i64 (0:Int)) z z))))))), (HL.le.refl _), hst⟩ ?_
 rintro n829 _ w824 ⟨I821, z817, z820, v818, σ822, hm, rfl, hL825, hst⟩
 obtain ⟨n826, y827, rfl, hm, hx828⟩ := loopN_some hm
 dsimp only [lane_State_Told_l1] at hm
 replace f1_0 := f1_0.mono (rd_le hL825)
 replace f1_1 := f1_1.mono (rd_le hL825)
 replace f1_2 := f1_2.mono (rd_le hL825)
 replace f1_3 := f1_3.mono (rd_le hL825)
 replace hI0 := hI0.trans hL825
 replace hL883 := hL883.trans hL825
 refine wp_seq (wrl (wv (.bool (decide (z820 < ((a1.Gets).length : Int)))) z z z (wl_nil (tn (wp_seq ?_)))))
 refine bsplit (decide (z820 < ((a1.Gets).length : Int))) (fun hc830 => ?_) (fun hc830 => ?_)
 {
 replace hm := bif_t hc830 hm
 refine wp_ift (cvb hc830) ?_
 refine wp_skip (tn (wp_seq (wp_block (wp_seq (wrl ?_)))))
 obtain ⟨x831, hx832, hm⟩ := bind_some hm
 obtain ⟨h833, h834, hi835⟩ := geto_some hx832
 refine wv (.pointer (some (eAddr r1_0 (z820.toNat * 1 + 0)))) z z (x_index z z underlying43 sizeOf37 (rd_sliceV f1_0) h833 h834) (wv (.float .f64 x831) z z (x_load z isAgg37 (rd_load f1_0 (HL.le.refl _) hst hi835 (by rintro _ rfl; rfl))) (wv (.float .f64 x831) z z z (wl_nil (tn ?_))))
 replace hst := hst.pull1
 obtain ⟨b836, v837, v839, v841, v843, v845, v847, v849, e851, hst'⟩ := at_lane_State_open hst
 clear hst
 have e851 := ptr_inj e851
 subst e851
 have hst := hst'
 clear hst'
 refine wp_region_St hst 12 [0, 1, 2, 3, 4, 5, 6, 7, 8, 9, 10, 11] [0, 1, 0, 4, 12, 28, 0, 124, 252, 511, 1023, 2047] [] z (by kernel_rfl) (by kernel_rfl) Tryz.mixed (by kernel_rfl) ?_
 refine wsr (Pt b658 3) 0 z z z (by kernel_rfl) (fun w hst => x_field z underlying33 z sizeOf30 z) (wsr (v818) 1 z z z (by kernel_rfl) (fun w hst => x_load z isAgg30 (hst.bc9 z)) (wsr (Pt b663 0) 2 z z z (by kernel_rfl) (fun w hst => z) (wsr (Pt b663 0) 3 z z z (by kernel_rfl) (fun w hst => z) (wsr (Pt b663 2) 4 z z z (by kernel_rfl) (fun w hst => x_field z underlying111 z sizeOf101 z) (wsr (v837) 5 z z z (by kernel_rfl) (fun w hst => x_load z isAgg101 (hst.bc0 z)) (wsr (.float .f64 x831) 6 z z z (by kernel_rfl) (fun w hst => z) ?_))))))
 refine ws_e1 7 (by kernel_rfl) ?_
 refine nxe [8, 9, 10, 11] (by kernel_rfl) z z ?_
 clear hst
 intro w hst
 replace hst := hst.pull1
 obtain ⟨t852, ht853, hm⟩ := bind_some hm
 refine wec call60 [v837, F6 x831, U6 (18446744073709551615:Int)] z z ?_
 refine (mvcc_Store_Get_ref hst.to1 ht853).mono ?_
 rintro _ w854 ⟨v857, rfl, hst⟩
 refine ⟨_, z, ?_⟩
 replace hst := hst.of2
 refine ws_next (pend' := [(1, v818), (0, Pt b658 3)]) hst (by kernel_rfl) (pkr z z (fun w hst => x_load z isAgg30 (hst.bc10 z)) (pkr z z (fun w hst => x_field z underlying33 z sizeOf30 z) pk_nil)) ?_
 refine ws_e1 8 (by kernel_rfl) ?_
 refine nxe [9, 10, 11] (by kernel_rfl) z z ?_
 clear hst
 intro w hst
 obtain ⟨I860, hI861, f862, hst⟩ := hst.own_fix
 replace f1_0 := f1_0.mono (rd_le hI861)
 replace f1_1 := f1_1.mono (rd_le hI861)
 replace f1_2 := f1_2.mono (rd_le hI861)
 replace f1_3 := f1_3.mono (rd_le hI861)
 replace hI0 := hI0.trans hI861
 replace hL883 := hL883.trans hI861
 replace hL825 := hL825.trans hI861
 obtain ⟨b863, w864, ew865, eb866, hst⟩ := hst.lits (E := ty_api_Got) (xs := [t852]) [[.bool t852.Has, v857]] 61 1 z (Reps.cons ⟨_, z, f862, one_of_sliceV (ro_sliceV f862)⟩ Reps.nil)
 refine we_run (v := (.slice (some ⟨b863, 0, none⟩) 1 1)) (w' := w864) z (x_als (by kernel_rfl) ew865 eb866) ?_
 refine ws_next (pend' := [(1, v818), (0, Pt b658 3)]) hst (by kernel_rfl) (pkr z z (fun w hst => x_load z isAgg30 (hst.bc10 z)) (pkr z z (fun w hst => x_field z underlying33 z sizeOf30 z) pk_nil)) ?_
 refine ws_e1 9 (by kernel_rfl) ?_
 refine nxe [10, 11] (by kernel_rfl) z z ?_
 clear hst
 intro w hst
 obtain ⟨hg868, hm⟩ := gd_some hm
 replace hst := hst.pull9
 obtain ⟨v869, w870, hr871, hst⟩ := run_append elem_30 underlying30 hst hst.src1 (room_of hg868 z) 30
 refine we_run (v := v869) (w' := w870) z (x_append z z hr871) ?_
 refine ws_next (pend' := []) hst (by kernel_rfl) pk_nil ?_
 refine wsr (Pt b658 3) 10 z z z (by kernel_rfl) (fun w hst => x_field z underlying33 z sizeOf30 z) ?_
 refine ws_e1 11 (by kernel_rfl) ?_
 refine nxe [] (by kernel_rfl) z z ?_
 clear hst
 intro w hst
 replace hst := hst.pull10
 obtain ⟨w873, hr874, hst⟩ := hst.boxStore1 (P := prog) (t := 30) (cs' := [Zi, Zu, Zu, v869, Zs]) 3 v869 (one_of_sliceV hst.sv1) sizeOf30 z z
 refine we_unit z (x_unit hr874) ?_
 refine ws_next (pend' := []) hst (by kernel_rfl) pk_nil ?_
 refine ws_nil ?_
 intro w hst
 refine blk_n (tn (wrl ?_))
 refine wv (.int .i64 (i64.wrap (z820 + (1:Int)))) z z z (wv (.int .i64 (i64.wrap (z820 + (1:Int)))) z z z (wl_nil (tn ?_)))
 replace hst := hst.pull10.pull10.pull10.pull10.pull10.pull10.pull9.pull10
 replace hst := at_lane_State_close (pv := Pt b663 0) (x := o0) hst z
 replace hst := hst.pull5.pull5.pull3.pull3.pull4.keep5
 obtain rfl := some_inj hm
 exact ⟨_, Nat.lt_succ_self _, _, (z817 ++ ([t852])), (i64.wrap (z820 + (1:Int))), v869, _, hx828, (fu 0 (Pt b663 0) z (fu 3 (Pt b644 0) z (fu 4 (Pt b651 0) z (fu 5 (Pt b658 0) z (fu 14 r1_0 z (fu 15 (.int .i64 ((a1.Gets).length : Int)) z (fu 16 (.int .i64 (i64.wrap (z820 + (1:Int)))) z z))))))), hL825, hst⟩
}
 {
 replace hm := bif_f hc830 hm
 refine wp_iff (cvb hc830) ?_
 refine wp_exit (then_x (then_x ?_))
 replace hm := inr_up hm hx828
 refine blk_x (tn ?_)
 replace hst := hst.pull2.pull3.pull4.pull4.keep5
 obtain rfl := some_inj hm
 exact ⟨_, z817, v818, _, hx882, (fu 0 (Pt b663 0) z (fu 3 (Pt b644 0) z (fu 4 (Pt b651 0) z (fu 5 (Pt b658 0) z z)))), hL883, hst⟩
}
}
 {
 clear hst
 rintro _ w884 ⟨I878, z877, v876, σ879, hm, rfl, hL880, hst⟩
 dsimp only [lane_State_Told_j0] at hm
 replace f1_0 := f1_0.mono (rd_le hL880)
 replace f1_1 := f1_1.mono (rd_le hL880)
 replace f1_2 := f1_2.mono (rd_le hL880)
 replace f1_3 := f1_3.mono (rd_le hL880)
 replace hI0 := hI0.trans hL880
 refine wp_seq (wp_seq (wrl (wv (Pt b644 4) z z (x_field z underlying46 z sizeOf44 z) (wv (r1_1) z z (x_load z isAgg44 (hst.bc1 z)) (wv (.int .i64 ((a1.Scans).length : Int)) z z (x_len z underlying44 (rd_sliceV f1_1)) (wv (.int .i64 (0:Int)) z z z (wl_nil (tn (wp_block ?_)))))))))
 replace hst := hst.pull1.sub.own_nil (tySl ty_api_Pair)
 obtain ⟨n1051, hm⟩ := loopO_some hm
 refine wp_loop_n (fun n a w => ∃ (I1049 : HL) (z1045 : (List (List api_Pair))) (z1048 : Int) (v1046 : Value) (σ1050 : Nat → Value), loopN (lane_State_Told_l2 a1 o0 z877) n (z1045, z1048) = some r ∧ a = Fr 55 (upd (upd (upd (upd (upd (upd σ1050 0 (Pt b663 0)) 4 (Pt b651 0)) 5 (Pt b658 0)) 33 (r1_1)) 34 (.int .i64 ((a1.Scans).length : Int))) 35 (.int .i64 z1048)) ∧ I878.le I1049 ∧ St w0 w I1049 [ownS (tySl ty_api_Pair) v1046 z1045, at_lane_State (Pt b663 0) o0, cells b651 [Zi, Zu, Zu, Zs, Zs], cells b658 [Zi, Zu, Zu, v876, v1046], ownS ty_api_Got v876 z877] R) n1051 ⟨_, [], (0:Int), Zs, _, hm, (fu 0 (Pt b663 0) z (fu 4 (Pt b651 0) z (fu 5 (Pt b658 0) z (fu 33 r1_1 z (fu 34 (.int .i64 ((a1.Scans).length : Int)) z (fu 35 (.int .i64 (0:Int)) z z)))))), (HL.le.refl _), hst⟩ ?_
 rintro n1057 _ w1052 ⟨I1049, z1045, z1048, v1046, σ1050, hm, rfl, hL1053, hst⟩
 obtain ⟨n1054, y1055, rfl, hm, hx1056⟩ := loopN_some hm
 dsimp only [lane_State_Told_l2] at hm
 replace f1_0 := f1_0.mono (rd_le hL1053)
 replace f1_1 := f1_1.mono (rd_le hL1053)
 replace f1_2 := f1_2.mono (rd_le hL1053)
 replace f1_3 := f1_3.mono (rd_le hL1053)
 replace hI0 := hI0.trans hL1053
 refine wp_seq (wrl (wv (.bool (decide (z1048 < ((a1.Scans).length : Int)))) z z z (wl_nil (tn (wp_seq ?_)))))
 refine bsplit (decide (z1048 < ((a1.Scans).length : Int))) (fun hc1058 => ?_) (fun hc1058 => ?_)
 {
 replace hm := bif_t hc1058 hm
 refine wp_ift (cvb hc1058) ?_
 refine wp_skip (tn (wp_seq (wp_block (wp_seq (wrl ?_)))))
 obtain ⟨x1059, hx1060, hm⟩ := bind_some hm
 obtain ⟨h1061, h1062, hi1063⟩ := geto_some hx1060
 refine wv (.pointer (some (eAddr r1_1 (z1048.toNat * 2 + 0)))) z z (x_index z z underlying44 sizeOf80 (rd_sliceV f1_1) h1061 h1062) (wv (.agg #[F6 x1059.1, F6 x1059.2]) z z (x_loadN (cs := [F6 x1059.1, F6 x1059.2]) z isAgg80 sizeOf80 (rd_loadN f1_1 (HL.le.refl _) hst hi1063 0 (by rintro _ rfl; rfl))) ?_)
 obtain ⟨b1064, w1065, ew1066, eb1067, hst⟩ := hst.box [Zf, Zf] 80
 refine wl_run (v := Pt b1064 0) (w' := w1065) z z (x_al (by kernel_rfl) ew1066 eb1067) ?_
 obtain ⟨w1069, hr1070, hst⟩ := hst.bx [F6 x1059.1, F6 x1059.2] sizeOf80 z (oC z (oC z oN)) (by kernel_rfl)
 refine wl_unit z z (x_unit hr1070) ?_
 refine wl_nil (tn ?_)
 replace hst := hst.pull2
 obtain ⟨b1071, v1072, v1074, v1076, v1078, v1080, v1082, v1084, e1086, hst'⟩ := at_lane_State_open hst
 clear hst
 have e1086 := ptr_inj e1086
 subst e1086
 have hst := hst'
 clear hst'
 refine wp_region_St hst 15 [0, 1, 2, 3, 4, 5, 6, 7, 8, 9, 10, 11, 12, 13, 14] [0, 1, 0, 4, 12, 28, 0, 64, 0, 256, 1020, 2044, 4095, 8191, 16383] [] z (by kernel_rfl) (by kernel_rfl) Tryz.mixed (by kernel_rfl) ?_
 refine wsr (Pt b658 4) 0 z z z (by kernel_rfl) (fun w hst => x_field z underlying33 z sizeOf31 z) (wsr (v1046) 1 z z z (by kernel_rfl) (fun w hst => x_load z isAgg31 (hst.bc11 z)) (wsr (Pt b663 0) 2 z z z (by kernel_rfl) (fun w hst => z) (wsr (Pt b663 0) 3 z z z (by kernel_rfl) (fun w hst => z) (wsr (Pt b663 2) 4 z z z (by kernel_rfl) (fun w hst => x_field z underlying111 z sizeOf101 z) (wsr (v1072) 5 z z z (by kernel_rfl) (fun w hst => x_load z isAgg101 (hst.bc0 z)) (wsr (Pt b1064 0) 6 z z z (by kernel_rfl) (fun w hst => x_index_arr (i := (0:Int)) z z underlying80 sizeOf37 (by decide) (by decide)) (wsr (.float .f64 x1059.1) 7 z z z (by kernel_rfl) (fun w hst => x_load z isAgg37 (hst.bc8 z)) (wsr (Pt b1064 1) 8 z z z (by kernel_rfl) (fun w hst => x_index_arr (i := (1:Int)) z z underlying80 sizeOf37 (by decide) (by decide)) (wsr (.float .f64 x1059.2) 9 z z z (by kernel_rfl) (fun w hst => x_load z isAgg37 (hst.bc8 z)) ?_)))))))))
 refine ws_e1 10 (by kernel_rfl) ?_
 refine nxe [11, 12, 13, 14] (by kernel_rfl) z z ?_
 clear hst
 intro w hst
 replace hst := hst.pull1
 obtain ⟨t1087, ht1088, hm⟩ := bind_some hm
 refine wec call77 [v1072, F6 x1059.1, F6 x1059.2, U6 (18446744073709551615:Int), I6 (64:Int)] z z ?_
 refine (mvcc_Store_Scan_ref hst.to1 ht1088).mono ?_
 rintro _ w1089 ⟨I1090, v1092, rfl, hI1091, hst⟩
 refine ⟨_, z, ?_⟩
 replace hst := hst.of2
 replace f1_0 := f1_0.mono (rd_le hI1091)
 replace f1_1 := f1_1.mono (rd_le hI1091)
 replace f1_2 := f1_2.mono (rd_le hI1091)
 replace f1_3 := f1_3.mono (rd_le hI1091)
 replace hI0 := hI0.trans hI1091
 replace hL1053 := hL1053.trans hI1091
 refine ws_next (pend' := [(1, v1046), (0, Pt b658 4)]) hst (by kernel_rfl) (pkr z z (fun w hst => x_load z isAgg31 (hst.bc12 z)) (pkr z z (fun w hst => x_field z underlying33 z sizeOf31 z) pk_nil)) ?_
 refine ws_e1 11 (by kernel_rfl) ?_
 refine nxe [12, 13, 14] (by kernel_rfl) z z ?_
 clear hst
 intro w hst
 obtain ⟨I1095, hI1096, f1097, hst⟩ := hst.own_fix
 replace f1_0 := f1_0.mono (rd_le hI1096)
 replace f1_1 := f1_1.mono (rd_le hI1096)
 replace f1_2 := f1_2.mono (rd_le hI1096)
 replace f1_3 := f1_3.mono (rd_le hI1096)
 replace hI0 := hI0.trans hI1096
 replace hL1053 := hL1053.trans hI1096
 obtain ⟨b1098, w1099, ew1100, eb1101, hst⟩ := hst.lits (E := (tySl ty_api_Pair)) (xs := [t1087]) [[v1092]] 81 1 z (Reps.cons ⟨_, z, f1097, one_of_sliceV (ro_sliceV f1097)⟩ Reps.nil)
 refine we_run (v := (.slice (some ⟨b1098, 0, none⟩) 1 1)) (w' := w1099) z (x_als (by obtain ⟨_, _, hv_, _⟩ := (ro_sliceV f1097); rw [hv_]; kernel_rfl) ew1100 eb1101) ?_
 refine ws_next (pend' := [(1, v1046), (0, Pt b658 4)]) hst (by kernel_rfl) (pkr z z (fun w hst => x_load z isAgg31 (hst.bc12 z)) (pkr z z (fun w hst => x_field z underlying33 z sizeOf31 z) pk_nil)) ?_
 refine ws_e1 12 (by kernel_rfl) ?_
 refine nxe [13, 14] (by kernel_rfl) z z ?_
 clear hst
 intro w hst
 obtain ⟨hg1103, hm⟩ := gd_some hm
 replace hst := hst.pull10
 obtain ⟨v1104, w1105, hr1106, hst⟩ := run_append elem_31 underlying31 hst hst.src1 (room_of hg1103 z) 31
 refine we_run (v := v1104) (w' := w1105) z (x_append z z hr1106) ?_
 refine ws_next (pend' := []) hst (by kernel_rfl) pk_nil ?_
 refine wsr (Pt b658 4) 13 z z z (by kernel_rfl) (fun w hst => x_field z underlying33 z sizeOf31 z) ?_
 refine ws_e1 14 (by kernel_rfl) ?_
 refine nxe [] (by kernel_rfl) z z ?_
 clear hst
 intro w hst
 replace hst := hst.pull12
 obtain ⟨w1108, hr1109, hst⟩ := hst.boxStore1 (P := prog) (t := 31) (cs' := [Zi, Zu, Zu, v876, v1104]) 4 v1104 (one_of_sliceV hst.sv1) sizeOf31 z z
 refine we_unit z (x_unit hr1109) ?_
 refine ws_next (pend' := []) hst (by kernel_rfl) pk_nil ?_
 refine ws_nil ?_
 intro w hst
 refine blk_n (tn (wrl ?_))
 refine wv (.int .i64 (i64.wrap (z1048 + (1:Int)))) z z z (wv (.int .i64 (i64.wrap (z1048 + (1:Int)))) z z z (wl_nil (tn ?_)))
 replace hst := hst.pull10.pull10.pull10.pull10.pull10.pull10.pull9.pull10
 replace hst := at_lane_State_close (pv := Pt b663 0) (x := o0) hst z
 replace hst := hst.pull6.pull2.pull6.pull3.pull4.keep5
 obtain rfl := some_inj hm
 exact ⟨_, Nat.lt_succ_self _, _, (z1045 ++ ([t1087])), (i64.wrap (z1048 + (1:Int))), v1104, _, hx1056, (fu 0 (Pt b663 0) z (fu 4 (Pt b651 0) z (fu 5 (Pt b658 0) z (fu 33 r1_1 z (fu 34 (.int .i64 ((a1.Scans).length : Int)) z (fu 35 (.int .i64 (i64.wrap (z1048 + (1:Int)))) z z)))))), hL1053, hst⟩
}
 {
 replace hm := bif_f hc1058 hm
 refine wp_iff (cvb hc1058) ?_
 refine wp_exit (then_x (then_x ?_))
 replace hm := inr_up hm hx1056
 refine blk_x (tn (wp_seq (wrl ?_)))
 refine wv (.agg #[Zi, Zu, Zu, v876, v1046]) z z (x_loadN (cs := [Zi, Zu, Zu, v876, v1046]) z isAgg33 sizeOf33 (hst.bcs3 0 z)) ?_
 replace hst := hst.pull2
 obtain ⟨w1110, hr1111, hst⟩ := hst.bx [Zi, Zu, Zu, v876, v1046] sizeOf33 z (oC z (oC z (oC z (oC (one_of_sliceV hst.sv4) (oC (one_of_sliceV hst.sv1) oN))))) (by kernel_rfl)
 refine wl_unit z z (x_unit hr1111) ?_
 refine wl_nil (tn (wp_ret ?_))
 replace hst := hst.pull2
 replace hst := objO_some hst
 obtain rfl := some_inj hm
 refine post_ret (vs := [.agg #[Zi, Zu, Zu, v876, v1046]]) results33 (rvs_cons (rv_cell (cs := [Zi, Zu, Zu, v876, v1046]) z isAgg33 sizeOf33 (hst.bcs1 0 z)) rvs_nil) ?_
 replace hst := hst.pull2.pull4
 exact ⟨_, v876, v1046, z, hI0, hst.keep3⟩
}
}
}
}

theorem lane_State_prepare_ref {w0 w : World} {I : HL} {R : SP} {a0 : (Option lane_State)} {p0 : Value} {a1 : api_Command} {r1_0 : Value} {r1_1 : Value} {r1_2 : Value} {r1_3 : Value} {r1_4 : Value} {r1_5 : Value} {r1_6 : Value} {r1_7 : Value} (f1_0 : Rd tyF64 R I r1_0 a1.Hold.Gets) (f1_1 : Rd tyF2 R I r1_1 a1.Hold.Scans) (f1_2 : Rd tyF64 R I r1_2 a1.Hold.Puts) (f1_3 : Rd (tyInt .u8) R I r1_3 a1.Hold.Data) (f1_4 : Rd ty_api_Write R I r1_4 a1.Writes) (f1_5 : Rd ty_api_Got R I r1_5 a1.R.Gots) (f1_6 : Rd (tySl ty_api_Pair) R I r1_6 a1.R.Scans) (f1_7 : Rd ty_api_Part R I r1_7 a1.Parts) (hst : St w0 w I [objO at_lane_State p0 a0] R) {r : (api_Effect × (Option lane_State))} (hm : lane_State_prepare a0 a1 = some r) :
  Calls prog 48 #[p0, .agg #[U1 a1.Kind, U6 a1.ID.Session, U6 a1.ID.Seq, U6 a1.Epoch, U6 a1.Index, I6 a1.E, U6 a1.Hold.ID.Session, U6 a1.Hold.ID.Seq, U6 a1.Hold.Epoch, r1_0, r1_1, r1_2, r1_3, r1_4, I6 a1.R.E, U6 a1.R.Epoch, U6 a1.R.Index, r1_5, r1_6, U6 a1.Shards, r1_7, U6 a1.Rule.ID, I6 a1.Rule.From, I6 a1.Rule.To, F6 a1.Rule.Lo, F6 a1.Rule.Hi, U6 a1.Rule.Authority, I6 a1.Rule.Quota, .bool a1.On]] w fun e w' => ∃ (I' : HL) (q0_0 : Value) (q0_1 : Value), e = .returned (.agg #[U1 r.1.Kind, U6 r.1.ID.Session, U6 r.1.ID.Seq, I6 r.1.R.E, U6 r.1.R.Epoch, U6 r.1.R.Index, q0_0, q0_1]) ∧ I.le I' ∧ St w0 w' I' [ownS ty_api_Got q0_0 r.1.R.Gots, ownS (tySl ty_api_Pair) q0_1 r.1.R.Scans, objO at_lane_State p0 r.2] R := by {
 unfold lane_State_prepare at hm
 refine calls_start (args := [p0, .agg #[U1 a1.Kind, U6 a1.ID.Session, U6 a1.ID.Seq, U6 a1.Epoch, U6 a1.Index, I6 a1.E, U6 a1.Hold.ID.Session, U6 a1.Hold.ID.Seq, U6 a1.Hold.Epoch, r1_0, r1_1, r1_2, r1_3, r1_4, I6 a1.R.E, U6 a1.R.Epoch, U6 a1.R.Index, r1_5, r1_6, U6 a1.Shards, r1_7, U6 a1.Rule.ID, I6 a1.Rule.From, I6 a1.Rule.To, F6 a1.Rule.Lo, F6 a1.Rule.Hi, U6 a1.Rule.Authority, I6 a1.Rule.Quota, .bool a1.On]]) func48 z ntmps48 (Nat.le_of_ble_eq_true z) ?_
 have hI0 := HL.le.refl I
 refine wp_seq (wrl ?_)
 obtain ⟨b148, w149, ew150, eb151, hst⟩ := hst.box [U1 a1.Kind, U6 a1.ID.Session, U6 a1.ID.Seq, U6 a1.Epoch, U6 a1.Index, I6 a1.E, U6 a1.Hold.ID.Session, U6 a1.Hold.ID.Seq, U6 a1.Hold.Epoch, r1_0, r1_1, r1_2, r1_3, r1_4, I6 a1.R.E, U6 a1.R.Epoch, U6 a1.R.Index, r1_5, r1_6, U6 a1.Shards, r1_7, U6 a1.Rule.ID, I6 a1.Rule.From, I6 a1.Rule.To, F6 a1.Rule.Lo, F6 a1.Rule.Hi, U6 a1.Rule.Authority, I6 a1.Rule.Quota, .bool a1.On] 49
 refine wl_run (v := Pt b148 0) (w' := w149) z z (x_al (by kernel_rfl) ew150 eb151) ?_
 obtain ⟨b155, w156, ew157, eb158, hst⟩ := hst.box [Zb, Zu, Zu, Zi, Zu, Zu, Zs, Zs] 35
 refine wl_run (v := Pt b155 0) (w' := w156) z z (x_al (by kernel_rfl) ew157 eb158) ?_
 refine wl_nil (tn (wp_seq (wrl (wv (Pt b148 6) z z (x_field z underlying49 z sizeOf46 z) (wv (Pt b148 6) z z (x_field z underlying46 z sizeOf28 z) (wv (.agg #[U6 a1.Hold.ID.Session, U6 a1.Hold.ID.Seq]) z z (x_loadN (cs := [U6 a1.Hold.ID.Session, U6 a1.Hold.ID.Seq]) z isAgg28 sizeOf28 (hst.bcs1 6 z)) (wv (.agg #[U1 (2:Int), U6 a1.Hold.ID.Session, U6 a1.Hold.ID.Seq, Zi, Zu, Zu, Zs, Zs]) z z (by kernel_rfl) ?_)))))))
 obtain ⟨b164, w165, ew166, eb167, hst⟩ := hst.box [Zb, Zu, Zu, Zi, Zu, Zu, Zs, Zs] 35
 refine wl_run (v := Pt b164 0) (w' := w165) z z (x_al (by kernel_rfl) ew166 eb167) ?_
 obtain ⟨w169, hr170, hst⟩ := hst.bx [U1 (2:Int), U6 a1.Hold.ID.Session, U6 a1.Hold.ID.Seq, Zi, Zu, Zu, Zs, Zs] sizeOf35 z (oC z (oC z (oC z (oC z (oC z (oC z (oC z (oC z oN)))))))) (by kernel_rfl)
 refine wl_unit z z (x_unit hr170) ?_
 refine wl_nil (tn (wp_seq (wp_seq (wrl (wv (p0) z z z (wv (Pt b148 6) z z (x_field z underlying49 z sizeOf46 z) (wv (.agg #[U6 a1.Hold.ID.Session, U6 a1.Hold.ID.Seq, U6 a1.Hold.Epoch, r1_0, r1_1, r1_2, r1_3]) z z (x_loadN (cs := [U6 a1.Hold.ID.Session, U6 a1.Hold.ID.Seq, U6 a1.Hold.Epoch, r1_0, r1_1, r1_2, r1_3]) z isAgg46 sizeOf46 (hst.bcs2 6 z)) ?_)))))))
 replace hst := hst.pull3
 obtain ⟨t171, ht172, hm⟩ := bind_some hm
 refine wc call19 [p0, .agg #[U6 a1.Hold.ID.Session, U6 a1.Hold.ID.Seq, U6 a1.Hold.Epoch, r1_0, r1_1, r1_2, r1_3]] z z z ?_
 refine (lane_State_Hold_ref (f1_0.mono (rd_weak _)) (f1_1.mono (rd_weak _)) (f1_2.mono (rd_weak _)) (f1_3.mono (rd_weak _)) hst.to1 ht172).mono ?_
 rintro _ w173 ⟨I174, rfl, hI175, hst⟩
 refine ⟨_, z, ?_⟩
 replace hst := hst.of1
 replace f1_0 := f1_0.mono (rd_le hI175)
 replace f1_1 := f1_1.mono (rd_le hI175)
 replace f1_2 := f1_2.mono (rd_le hI175)
 replace f1_3 := f1_3.mono (rd_le hI175)
 replace f1_4 := f1_4.mono (rd_le hI175)
 replace f1_5 := f1_5.mono (rd_le hI175)
 replace f1_6 := f1_6.mono (rd_le hI175)
 replace f1_7 := f1_7.mono (rd_le hI175)
 replace hI0 := hI0.trans hI175
 refine wv (Pt b164 3) z z (x_field z underlying35 z sizeOf33 z) (wv (Pt b164 3) z z (x_field z underlying33 z sizeOf29 z) ?_)
 replace hst := hst.pull1
 obtain ⟨w176, hr177, hst⟩ := hst.by_ [U1 (2:Int), U6 a1.Hold.ID.Session, U6 a1.Hold.ID.Seq, I6 t171.1, Zu, Zu, Zs, Zs] 3 (.int .i64 t171.1) sizeOf29 z (oC z oN) (by kernel_rfl)
 refine wl_unit z z (x_unit hr177) ?_
 refine wl_nil (tn (wp_seq (wrl (wv (Pt b164 3) z z (x_field z underlying35 z sizeOf33 z) (wv (Pt b164 3) z z (x_field z underlying33 z sizeOf29 z) (wv (.int .i64 t171.1) z z (x_load z isAgg29 (hst.bc0 z)) (wv (.bool (t171.1 == (0:Int))) z z z (wl_nil (tn ?_)))))))))
 refine bsplit (t171.1 == (0:Int)) (fun hc178 => ?_) (fun hc178 => ?_)
 {
 replace hm := bif_t hc178 hm
 refine wp_ift (cvb hc178) ?_
 refine wrl (wv (p0) z z z (wv (Pt b148 6) z z (x_field z underlying49 z sizeOf46 z) (wv (.agg #[U6 a1.Hold.ID.Session, U6 a1.Hold.ID.Seq, U6 a1.Hold.Epoch, r1_0, r1_1, r1_2, r1_3]) z z (x_loadN (cs := [U6 a1.Hold.ID.Session, U6 a1.Hold.ID.Seq, U6 a1.Hold.Epoch, r1_0, r1_1, r1_2, r1_3]) z isAgg46 sizeOf46 (hst.bcs3 6 z)) ?_)))
 replace hst := hst.pull1
 obtain ⟨t179, ht180, hm⟩ := bind_some hm
 refine wc call33 [p0, .agg #[U6 a1.Hold.ID.Session, U6 a1.Hold.ID.Seq, U6 a1.Hold.Epoch, r1_0, r1_1, r1_2, r1_3]] z z z ?_
 refine (lane_State_Told_ref (f1_0.mono (rd_weak _)) (f1_1.mono (rd_weak _)) (f1_2.mono (rd_weak _)) (f1_3.mono (rd_weak _)) hst.to1 ht180).mono ?_
 rintro _ w181 ⟨I182, v184, v186, rfl, hI183, hst⟩
 refine ⟨_, z, ?_⟩
 replace hst := hst.of3
 replace f1_0 := f1_0.mono (rd_le hI183)
 replace f1_1 := f1_1.mono (rd_le hI183)
 replace f1_2 := f1_2.mono (rd_le hI183)
 replace f1_3 := f1_3.mono (rd_le hI183)
 replace f1_4 := f1_4.mono (rd_le hI183)
 replace f1_5 := f1_5.mono (rd_le hI183)
 replace f1_6 := f1_6.mono (rd_le hI183)
 replace f1_7 := f1_7.mono (rd_le hI183)
 replace hI0 := hI0.trans hI183
 refine wv (Pt b164 3) z z (x_field z underlying35 z sizeOf33 z) ?_
 replace hst := hst.pull3
 obtain ⟨w188, hr189, hst⟩ := hst.by_ [U1 (2:Int), U6 a1.Hold.ID.Session, U6 a1.Hold.ID.Seq, I6 t179.E, U6 t179.Epoch, U6 t179.Index, v184, v186] 3 (.agg #[I6 t179.E, U6 t179.Epoch, U6 t179.Index, v184, v186]) sizeOf33 z (oC z (oC z (oC z (oC (one_of_sliceV hst.sv1) (oC (one_of_sliceV hst.sv2) oN))))) (by kernel_rfl)
 refine wl_unit z z (x_unit hr189) ?_
 refine wl_nil (tn (wp_seq (wrl (wv (.agg #[U1 (2:Int), U6 a1.Hold.ID.Session, U6 a1.Hold.ID.Seq, I6 t179.E, U6 t179.Epoch, U6 t179.Index, v184, v186]) z z (x_loadN (cs := [U1 (2:Int), U6 a1.Hold.ID.Session, U6 a1.Hold.ID.Seq, I6 t179.E, U6 t179.Epoch, U6 t179.Index, v184, v186]) z isAgg35 sizeOf35 (hst.bcs0 0 z)) ?_))))
 replace hst := hst.pull4
 obtain ⟨w190, hr191, hst⟩ := hst.bx [U1 (2:Int), U6 a1.Hold.ID.Session, U6 a1.Hold.ID.Seq, I6 t179.E, U6 t179.Epoch, U6 t179.Index, v184, v186] sizeOf35 z (oC z (oC z (oC z (oC z (oC z (oC z (oC (one_of_sliceV hst.sv2) (oC (one_of_sliceV hst.sv3) oN)))))))) (by kernel_rfl)
 refine wl_unit z z (x_unit hr191) ?_
 refine wl_nil (tn (wp_ret ?_))
 obtain rfl := some_inj hm
 refine post_ret (vs := [.agg #[U1 (2:Int), U6 a1.Hold.ID.Session, U6 a1.Hold.ID.Seq, I6 t179.E, U6 t179.Epoch, U6 t179.Index, v184, v186]]) results48 (rvs_cons (rv_cell (cs := [U1 (2:Int), U6 a1.Hold.ID.Session, U6 a1.Hold.ID.Seq, I6 t179.E, U6 t179.Epoch, U6 t179.Index, v184, v186]) z isAgg35 sizeOf35 (hst.bcs0 0 z)) rvs_nil) ?_
 replace hst := hst.pull4.pull4.pull4
 exact ⟨_, v184, v186, z, hI0, hst.keep3⟩
}
 {
 replace hm := bif_f hc178 hm
 refine wp_iff (cvb hc178) ?_
 refine wp_skip (tn (wp_seq (wrl ?_)))
 refine wv (.agg #[U1 (2:Int), U6 a1.Hold.ID.Session, U6 a1.Hold.ID.Seq, I6 t171.1, Zu, Zu, Zs, Zs]) z z (x_loadN (cs := [U1 (2:Int), U6 a1.Hold.ID.Session, U6 a1.Hold.ID.Seq, I6 t171.1, Zu, Zu, Zs, Zs]) z isAgg35 sizeOf35 (hst.bcs0 0 z)) ?_
 replace hst := hst.pull2
 obtain ⟨w192, hr193, hst⟩ := hst.bx [U1 (2:Int), U6 a1.Hold.ID.Session, U6 a1.Hold.ID.Seq, I6 t171.1, Zu, Zu, Zs, Zs] sizeOf35 z (oC z (oC z (oC z (oC z (oC z (oC z (oC z (oC z oN)))))))) (by kernel_rfl)
 refine wl_unit z z (x_unit hr193) ?_
 refine wl_nil (tn (wp_ret ?_))
 replace hst := hst.own_nil ty_api_Got
 replace hst := hst.own_nil (tySl ty_api_Pair)
 obtain rfl := some_inj hm
 refine post_ret (vs := [.agg #[U1 (2:Int), U6 a1.Hold.ID.Session, U6 a1.Hold.ID.Seq, I6 t171.1, Zu, Zu, Zs, Zs]]) results48 (rvs_cons (rv_cell (cs := [U1 (2:Int), U6 a1.Hold.ID.Session, U6 a1.Hold.ID.Seq, I6 t171.1, Zu, Zu, Zs, Zs]) z isAgg35 sizeOf35 (hst.bcs2 0 z)) rvs_nil) ?_
 replace hst := hst.pull4.pull1.pull2
 exact ⟨_, Zs, Zs, z, hI0, hst.keep3⟩
}
}

theorem slices_Delete_api_Hold_api_Hold_ref {w0 w : World} {I : HL} {R : SP} {a0 : (List api_Hold)} {r0_0 : Value} {a1 a2 : Int} (hst : St w0 w I [ownS ty_api_Hold r0_0 a0] R) {r : (List api_Hold)} (hm : slices_Delete_api_Hold_api_Hold a0 a1 a2 = some r) :
  Calls prog 182 #[r0_0, I6 a1, I6 a2] w fun e w' => ∃ (q0_0 : Value), e = .returned (q0_0) ∧ St w0 w' I [ownS ty_api_Hold q0_0 r] R := by {
 unfold slices_Delete_api_Hold_api_Hold at hm
 obtain ⟨hg, hm⟩ := gd_some hm
 obtain rfl := some_inj hm
 obtain ⟨hi0, hi1, hi2⟩ := fits_of hg
 obtain ⟨j, rfl⟩ := Int.eq_ofNat_of_zero_le (Int.le_trans hi0 hi1)
 obtain ⟨k, rfl⟩ := Int.eq_ofNat_of_zero_le hi0
 have hkj : k ≤ j := by omega
 have hs : ∀ w : World, (sizeOf 46).run prog w = .ok ty_api_Hold.sz w := sizeOf46
 obtain ⟨css, hr, hst⟩ := hst.own_open
 obtain ⟨n, hn⟩ : ∃ n, css.length = n := ⟨_, rfl⟩
 have hln : a0.length = n := hr.1.trans hn
 have hjn : j ≤ n := by omega
 have hsv : SliceV r0_0 n := by have := hst.row_form.2; rwa [hn] at this
 have hoc := hr.ones
 refine calls_start (args := [r0_0, I6 (k : Int), I6 (j : Int)]) func182 z ntmps182 (Nat.le_of_ble_eq_true z) ?_
 refine wp_seq (wrl (wv ((.slice none 0 0)) z z z (wl_nil (tn (wp_seq (wrl (wv (r0_0) z z z (wv (.int .i64 (k : Int)) z z z (wv (.int .i64 (j : Int)) z z z (wv (r0_0) z z z (wv (.int .i64 (n : Int)) z z (x_len z underlying125 hsv) ?_)))))))))))
 refine wl_ex z z (x_slice3 underlying125 hs z hsv z z z hkj hjn) fun v3 => ?_
 refine wl_nil (tn (wp_seq (wp_seq (wrl (wv (.int .i64 (k : Int)) z z z (wv (.int .i64 (j : Int)) z z z (wv (.bool ((k : Int) == (j : Int))) z z z (wl_nil (tn ?_)))))))))
 refine bsplit ((k : Int) == (j : Int)) (fun hc146 => ?_) (fun hc146 => ?_)
 {
 refine wp_ift (cvb hc146) ?_
 refine wp_seq (wrl (wv (r0_0) z z z (wv (r0_0) z z z (wl_nil (tn (wp_ret (then_r ?_)))))))
 refine post_ret (vs := [r0_0]) results182 (rvs_cons (rv_tmp z) rvs_nil) ?_
 rw [del_nil hc146]
 exact ⟨_, z, (hst.own_close hr).keep1⟩
}
 {
 refine wp_iff (cvb hc146) ?_
 have hne : ¬ ((k : Int) = (j : Int)) := by simpa using hc146
 have hlt : k < j := by omega
 refine wp_skip (tn (wp_seq (wrl ?_)))
 refine wv (r0_0) z z z (wv (.int .i64 (n : Int)) z z (x_len z underlying125 hsv) (wv (.int .i64 (n : Int)) z z z (wl_nil (tn (wp_seq ?_)))))
 refine wp_region_St hst 8 [0, 1, 2, 3, 4, 5, 6, 7] [0, 0, 3, 0, 0, 24, 63, 127] [7] z (by kernel_rfl) (by kernel_rfl) Tryz.mixed (by kernel_rfl) ?_
 refine wsr (r0_0) 0 z z z (by kernel_rfl) (fun w hst => z) (wsr (.int .i64 (k : Int)) 1 z z z (by kernel_rfl) (fun w hst => z) (wsr ((slcV ty_api_Hold.sz r0_0 0 k)) 2 z z z (by kernel_rfl) (fun w hst => x_slice (lo := (0 : Nat)) (hi := (k : Nat)) underlying125 hs z hsv (by omega) (by omega) (by omega) .i64 .i64 (.inr ⟨z, z⟩) (.inl z)) (wsr (r0_0) 3 z z z (by kernel_rfl) (fun w hst => z) (wsr (.int .i64 (j : Int)) 4 z z z (by kernel_rfl) (fun w hst => z) (wsr ((slcV ty_api_Hold.sz r0_0 j n)) 5 z z z (by kernel_rfl) (fun w hst => x_slice (lo := (j : Nat)) (hi := (n : Nat)) underlying125 hs z hsv (by omega) (by omega) (by omega) .i64 .i64 (.inl z) (.inr ⟨z, z⟩)) ?_)))))
 refine ws_e1 6 (by kernel_rfl) ?_
 refine nxe [7] (by kernel_rfl) z z ?_
 clear hst
 intro w hst
 obtain ⟨w2, hra, hst⟩ := run_appDel (P := prog) underlying125 hs hst hn hlt hjn hoc 125
 refine we_run (v := (slcV ty_api_Hold.sz r0_0 0 (k + (n - j)))) (w' := w2) z (x_append z z hra) ?_
 have hnl := (show _ from hst)
 clear hnl
 have hn2 : (css.take k ++ (css.drop j ++ css.drop (k + (n - j)))).length = n := by simp only [List.length_append, List.length_take, List.length_drop]; omega
 have hsm := row_slc hst hn2 (m := (k + (n - j))) (by omega)
 refine ws_next (pend' := []) hst (by kernel_rfl) pk_nil ?_
 refine ws_e1 7 (by kernel_rfl) ?_
 refine nxe [] (by kernel_rfl) z z ?_
 clear hst
 intro w hst
 refine we_run (v := (slcV ty_api_Hold.sz r0_0 0 (k + (n - j)))) (w' := w) z z ?_
 refine ws_next (pend' := []) hst (by kernel_rfl) pk_nil ?_
 refine ws_nil ?_
 intro w hst
 refine tn (wp_seq (wrl (wv ((slcV ty_api_Hold.sz r0_0 0 (k + (n - j)))) z z z (wv ((slcV ty_api_Hold.sz r0_0 0 (k + (n - j)))) z z z (wv (.int .i64 (((k + (n - j)) : Nat) : Int)) z z (x_len z underlying125 hsm) (wv (.int .i64 (n : Int)) z z z (wv ((slcV ty_api_Hold.sz r0_0 (k + (n - j)) n)) z z (x_sliceRe underlying125 hs z hsv z z (by omega) (by omega)) ?_)))))))
 obtain ⟨w3, hrc, hst⟩ := run_clear elem_125 z (ones_of (by kernel_rfl)) hst hn2 (m := (k + (n - j))) (by omega) 0
 refine wl_run0 z z (x_clear z hrc) ?_
 refine wl_nil (tn (wp_seq (wrl (wv ((slcV ty_api_Hold.sz r0_0 0 (k + (n - j)))) z z z (wv ((slcV ty_api_Hold.sz r0_0 0 (k + (n - j)))) z z z (wl_nil (tn (wp_ret ?_))))))))
 refine post_ret (vs := [(slcV ty_api_Hold.sz r0_0 0 (k + (n - j)))]) results182 (rvs_cons (rv_tmp z) rvs_nil) ?_
 replace hst := hst.row_part (l := 0) (h := (k + (n - j))) (Nat.zero_le _) (by simp only [List.length_append, List.length_take, List.length_drop, List.length_replicate]; omega)
 rw [del_rows hn hlt hjn (List.length_replicate ..)] at hst
 exact ⟨_, z, (hst.own_close ((hr.take k).app (hr.drop j))).keep1⟩
}
}

theorem locks_Table_Drop_ref {w0 w : World} {I : HL} {R : SP} {a0 : (Option locks_Table)} {p0 : Value} {a1 : api_ID}  (hst : St w0 w I [objO at_locks_Table p0 a0] R) {r : (Bool × (Option locks_Table))} (hm : locks_Table_Drop a0 a1 = some r) :
  Calls prog 122 #[p0, .agg #[U6 a1.Session, U6 a1.Seq]] w fun e w' => e = .returned (.bool r.1) ∧ St w0 w' I [objO at_locks_Table p0 r.2] R := by {
 rcases a0 with _ | o0
 {
 obtain ⟨rfl, hst'⟩ := objO_none hst
 clear hst
 have hst := hst'
 clear hst'
 dsimp only [locks_Table_Drop] at hm
 refine calls_start (args := [.pointer none, .agg #[U6 a1.Session, U6 a1.Seq]]) func122 z ntmps122 (Nat.le_of_ble_eq_true z) ?_
 refine wp_seq (wrl ?_)
 obtain ⟨b156, w157, ew158, eb159, hst⟩ := hst.box [U6 a1.Session, U6 a1.Seq] 28
 refine wl_run (v := Pt b156 0) (w' := w157) z z (x_al (by kernel_rfl) ew158 eb159) ?_
 refine wv (.bool false) z z z (wl_nil (tn (wp_seq (wrl (wv (.pointer none) z z z (wv (.agg #[U6 a1.Session, U6 a1.Seq]) z z (x_loadN (cs := [U6 a1.Session, U6 a1.Seq]) z isAgg28 sizeOf28 (hst.bcs0 0 z)) ?_))))))
 replace hst := hst.objO_nil at_locks_Table
 obtain ⟨t162, ht163, hm⟩ := bind_some hm
 refine wc call135 [.pointer none, .agg #[U6 a1.Session, U6 a1.Seq]] z z z ?_
 refine (locks_Table_find_ref hst.to1 ht163).mono ?_
 rintro _ w164 ⟨rfl, hst⟩
 refine ⟨_, z, ?_⟩
 replace hst := hst.of1
 refine wv (.tuple #[I6 t162.1, .bool t162.2]) z z z (wv (.int .i64 t162.1) z z z (wv (.bool t162.2) z z z (wv (.int .i64 t162.1) z z z (wv (.bool t162.2) z z z (wl_nil (tn (wp_seq (wp_seq (wrl (wv (.bool t162.2) z z z (wl_nil (tn ?_))))))))))))
 refine bsplit t162.2 (fun hc167 => ?_) (fun hc167 => ?_)
 {
 replace hm := bif_t hc167 hm
 refine wp_ift (cvb hc167) ?_
 refine wrl (wv (.pointer none) z z z (wv (.pointer none) z z z ?_))
 cases hm
}
 {
 replace hm := bif_f hc167 hm
 refine wp_iff (cvb hc167) ?_
 refine wp_skip (tn (wp_seq (wrl ?_)))
 refine wv (.bool t162.2) z z z (wv (.bool t162.2) z z z (wl_nil (tn (wp_ret ?_))))
 replace hst := hst.objO_nil at_locks_Table
 obtain rfl := some_inj hm
 refine post_ret (vs := [.bool t162.2]) results122 (rvs_cons (rv_tmp z) rvs_nil) ?_
 exact ⟨z, hst.keep1⟩
}
}
 {
 replace hst := objO_get hst
 dsimp only [locks_Table_Drop] at hm
 refine calls_start (args := [p0, .agg #[U6 a1.Session, U6 a1.Seq]]) func122 z ntmps122 (Nat.le_of_ble_eq_true z) ?_
 refine wp_seq (wrl ?_)
 obtain ⟨b168, w169, ew170, eb171, hst⟩ := hst.box [U6 a1.Session, U6 a1.Seq] 28
 refine wl_run (v := Pt b168 0) (w' := w169) z z (x_al (by kernel_rfl) ew170 eb171) ?_
 refine wv (.bool false) z z z (wl_nil (tn (wp_seq (wrl (wv (p0) z z z (wv (.agg #[U6 a1.Session, U6 a1.Seq]) z z (x_loadN (cs := [U6 a1.Session, U6 a1.Seq]) z isAgg28 sizeOf28 (hst.bcs0 0 z)) ?_))))))
 replace hst := hst.pull1
 replace hst := objO_some hst
 obtain ⟨t173, ht174, hm⟩ := bind_some hm
 refine wc call135 [p0, .agg #[U6 a1.Session, U6 a1.Seq]] z z z ?_
 refine (locks_Table_find_ref hst.to1 ht174).mono ?_
 rintro _ w175 ⟨rfl, hst⟩
 refine ⟨_, z, ?_⟩
 replace hst := hst.of1
 replace hst := objO_get hst
 refine wv (.tuple #[I6 t173.1, .bool t173.2]) z z z (wv (.int .i64 t173.1) z z z (wv (.bool t173.2) z z z (wv (.int .i64 t173.1) z z z (wv (.bool t173.2) z z z (wl_nil (tn (wp_seq (wp_seq (wrl (wv (.bool t173.2) z z z (wl_nil (tn ?_))))))))))))
 refine bsplit t173.2 (fun hc178 => ?_) (fun hc178 => ?_)
 {
 replace hm := bif_t hc178 hm
 refine wp_ift (cvb hc178) ?_
 refine wrl (wv (p0) z z z (wv (p0) z z z ?_))
 obtain ⟨b179, v180, rfl, hst'⟩ := at_locks_Table_open hst
 clear hst
 have hst := hst'
 clear hst'
 refine wv (Pt b179 0) z z z (wv (Pt b179 0) z z (x_field z underlying203 z sizeOf125 z) (wv (v180) z z (x_load z isAgg125 (hst.bc0 z)) (wv (.int .i64 t173.1) z z z (wv (.int .i64 t173.1) z z z (wv (.int .i64 (i64.wrap (t173.1 + (1:Int)))) z z z ?_)))))
 replace hst := hst.pull1
 obtain ⟨t182, ht183, hm⟩ := bind_some hm
 refine wc call182 [v180, I6 t173.1, I6 (i64.wrap (t173.1 + (1:Int)))] z z z ?_
 refine (slices_Delete_api_Hold_api_Hold_ref hst.to1 ht183).mono ?_
 rintro _ w184 ⟨v187, rfl, hst⟩
 refine ⟨_, z, ?_⟩
 replace hst := hst.of1
 refine wv (Pt b179 0) z z z (wv (Pt b179 0) z z (x_field z underlying203 z sizeOf125 z) ?_)
 replace hst := hst.pull1
 obtain ⟨w189, hr190, hst⟩ := hst.boxStore1 (P := prog) (t := 125) (cs' := [v187]) 0 v187 (one_of_sliceV hst.sv1) sizeOf125 z z
 refine wl_unit z z (x_unit hr190) ?_
 refine wl_nil (tn (wp_seq (wrl (wv (.bool t173.2) z z z (wv (.bool t173.2) z z z (wl_nil (tn (wp_ret ?_))))))))
 replace hst := hst.pull1.pull1
 replace hst := at_locks_Table_close (pv := Pt b179 0) (x := ({ l := t182 } : locks_Table)) hst z
 replace hst := objO_some hst
 obtain rfl := some_inj hm
 refine post_ret (vs := [.bool t173.2]) results122 (rvs_cons (rv_tmp z) rvs_nil) ?_
 exact ⟨z, hst.keep1⟩
}
 {
 replace hm := bif_f hc178 hm
 refine wp_iff (cvb hc178) ?_
 refine wp_skip (tn (wp_seq (wrl ?_)))
 refine wv (.bool t173.2) z z z (wv (.bool t173.2) z z z (wl_nil (tn (wp_ret ?_))))
 replace hst := objO_some hst
 obtain rfl := some_inj hm
 refine post_ret (vs := [.bool t173.2]) results122 (rvs_cons (rv_tmp z) rvs_nil) ?_
 exact ⟨z, hst.keep1⟩
}
}
}

theorem slices_Insert_mvcc_row_mvcc_row_raw_ref {w0 w : World} {I : HL} {R : SP} {a0 : (List (List Value))} {r0_0 : Value} {a1 : Int} {a2 : (List (List Value))} {r2_0 : Value} (hst : St w0 w I [ownS (tyRaw 2) r0_0 a0, ownS (tyRaw 2) r2_0 a2] R) {r : (List (List Value))} (hm : slices_Insert_mvcc_row_mvcc_row_raw a0 a1 a2 = some r) :
  Calls prog 183 #[r0_0, I6 a1, r2_0] w fun e w' => ∃ (q0_0 : Value), e = .returned (q0_0) ∧ St w0 w' I [ownS (tyRaw 2) q0_0 r] R := by {
 unfold slices_Insert_mvcc_row_mvcc_row_raw at hm
 obtain ⟨hg, hm⟩ := gd_some hm
 obtain rfl := some_inj hm
 obtain ⟨hi0, hi1, hrm⟩ := insOK_of hg
 obtain ⟨k, rfl⟩ := Int.eq_ofNat_of_zero_le hi0
 have hsm := room_sum hrm
 have hk : k ≤ a0.length := by omega
 have hs : ∀ w : World, (sizeOf 240).run prog w = .ok (tyRaw 2).sz w := sizeOf240
 have hs0 : 0 < (tyRaw 2).sz := Nat.le_of_ble_eq_true rfl
 have hov : ∀ (args : Array Value) (w : World), (callFunc 205 args).run prog w = (Extern.SlicesOverlaps.overlaps #[199, 199] #[4] args >>= fun v => (pure (.value v) : Sem Next)).run prog w := by intro args w; kernel_rfl
 obtain ⟨css, hr, hst⟩ := hst.own_open
 replace hst := hst.pull1
 obtain ⟨dss, hq, hst⟩ := hst.own_open
 replace hst := hst.pull1
 obtain ⟨n, hn⟩ : ∃ n, css.length = n := ⟨_, rfl⟩
 obtain ⟨m, hm'⟩ : ∃ m, dss.length = m := ⟨_, rfl⟩
 have hln : a0.length = n := hr.1.trans hn
 have hlm : a2.length = m := hq.1.trans hm'
 rw [hln] at hsm hk
 rw [hlm] at hsm
 have hsv : SliceV r0_0 n := by have := hst.row_form.2; rwa [hn] at this
 have hsq : SliceV r2_0 m := by have := hst.pull1.row_form.2; rwa [hm'] at this
 have hoc := hr.ones
 have hoq := hq.ones
 have hw1 := wrap_add (a := n) (b := m) (by omega)
 have hw2 := wrap_add (a := k) (b := m) (by omega)
 have hw3 := wrap_sub (a := n + m) (b := k) (by omega) (by omega)
 have hrb := room_of (b := 32) hrm rfl
 rw [hln, hlm] at hrb
 refine calls_start (args := [r0_0, I6 (k : Int), r2_0]) func183 z ntmps183 (Nat.le_of_ble_eq_true z) ?_
 refine wp_seq (wrl (wv ((.slice none 0 0)) z z z (wl_nil (tn (wp_seq (wrl (wv (r0_0) z z z (wv (.int .i64 (k : Int)) z z z (wv ((slcV (tyRaw 2).sz r0_0 k n)) z z (x_slice (lo := (k : Nat)) (hi := (n : Nat)) underlying199 hs z hsv (by omega) (by omega) (by omega) .i64 .i64 (.inl z) (.inr ⟨z, z⟩)) (wl_nil (tn (wp_seq (wrl (wv (r2_0) z z z (wv (.int .i64 (m : Int)) z z (x_len z underlying199 hsq) (wv (.int .i64 (m : Int)) z z z (wl_nil (tn (wp_seq (wp_seq (wrl (wv (.int .i64 (m : Int)) z z z (wv (.bool ((m : Int) == (0:Int))) z z z ?_)))))))))))))))))))))))
 refine wl_nil (tn ?_)
 refine bsplit ((m : Int) == (0:Int)) (fun hc220 => ?_) (fun hc220 => ?_)
 {
 refine wp_ift (cvb hc220) ?_
 refine wp_seq (wrl (wv (r0_0) z z z (wv (r0_0) z z z (wl_nil (tn (wp_ret (then_r ?_)))))))
 refine post_ret (vs := [r0_0]) results183 (rvs_cons (rv_tmp z) rvs_nil) ?_
 rw [ins_nil (by rw [hlm]; exact hc220)]
 exact ⟨_, z, (hst.own_close hr).keep1⟩
}
 {
 refine wp_iff (cvb hc220) ?_
 have hm0 : m ≠ 0 := fun h => by rw [h] at hc220; cases hc220
 have hq0 : dss ≠ [] := fun h => hm0 (by rw [← hm', h]; rfl)
 refine wp_skip (tn (wp_seq (wrl ?_)))
 refine wv (r0_0) z z z (wv (.int .i64 (n : Int)) z z (x_len z underlying199 hsv) (wv (.int .i64 (n : Int)) z z z (wl_nil (tn (wp_seq (wp_seq (wrl (wv (.int .i64 (k : Int)) z z z (wv (.int .i64 (n : Int)) z z z (wv (.bool ((k : Int) == (n : Int))) z z z (wl_nil (tn ?_))))))))))))
 refine bsplit ((k : Int) == (n : Int)) (fun hc221 => ?_) (fun hc221 => ?_)
 {
 refine wp_ift (cvb hc221) ?_
 refine wp_seq (wrl (wv (r0_0) z z z (wv (r2_0) z z z ?_)))
 replace hst := (hst.own_close hr).pull1.own_close hq
 replace hst := hst.pull1
 obtain ⟨v2, w2, hra, hst⟩ := run_append elemN_199 underlying199 hst hst.src1 (room_of hrm z) 199
 refine wl_run (v := v2) (w' := w2) z z (x_append z z hra) ?_
 refine wv (v2) z z z (wl_nil (tn (wp_ret (then_r ?_))))
 refine post_ret (vs := [v2]) results183 (rvs_cons (rv_tmp z) rvs_nil) ?_
 rw [ins_end (by rw [hln]; exact hc221)]
 exact ⟨_, z, hst.keep1⟩
}
 {
 refine wp_iff (cvb hc221) ?_
 have hkn : k ≠ n := fun h => by rw [h] at hc221; simp at hc221
 have hn0 : 0 < n := by omega
 have hc0 : css ≠ [] := fun h => by rw [h] at hn; simp at hn; omega
 refine wp_skip (tn (wp_seq (wp_seq (wrl ?_))))
 refine wv (.int .i64 (n : Int)) z z z (wv (.int .i64 (m : Int)) z z z (wv (.int .i64 ((n + m : Nat) : Int)) z z (ok_cast hw1 z) (wv (r0_0) z z z (wv (.int .i64 (sCap r0_0 : Int)) z z (x_cap z underlying199 hsv) (wv (.bool (decide (((n + m : Nat) : Int) > (sCap r0_0 : Int)))) z z z (wl_nil (tn ?_)))))))
 refine bsplit (decide (((n + m : Nat) : Int) > (sCap r0_0 : Int))) (fun hc222 => ?_) (fun hc222 => ?_)
 {
 refine wp_ift (cvb hc222) ?_
 refine wp_seq (wrl (wv (r0_0) z z z (wv (.int .i64 (k : Int)) z z z (wv ((slcV (tyRaw 2).sz r0_0 0 k)) z z (x_slice (lo := (0 : Nat)) (hi := (k : Nat)) underlying199 hs z hsv (by omega) (by omega) (by omega) .i64 .i64 (.inr ⟨z, z⟩) (.inl z)) (wv (.int .i64 (n : Int)) z z z (wv (.int .i64 (m : Int)) z z z (wv (.int .i64 ((n + m : Nat) : Int)) z z (ok_cast hw1 z) (wv (.int .i64 (k : Int)) z z z (wv (.int .i64 ((n + m - k : Nat) : Int)) z z (ok_cast hw3 z) ?_)))))))))
 obtain ⟨v2, w2, hra, hs2, zss, hzl, hst⟩ := run_app0 elemN_199 underlying3 hst k (n + m - k) (by omega) (by have := of_decide_eq_true hc222; omega) (by rw [show k + (n + m - k) = n + m by omega]; exact hrb) hs0 199
 rw [show k + (n + m - k) = n + m by omega] at hs2
 refine wl_run (v := v2) (w' := w2) z z (x_append z z hra) ?_
 refine wv (v2) z z z (wl_nil (tn (wp_seq (wrl (wv (v2) z z z (wv (.int .i64 (k : Int)) z z z (wv ((slcV (tyRaw 2).sz v2 k (n + m))) z z (x_slice (lo := (k : Nat)) (hi := ((n + m) : Nat)) underlying199 hs z hs2 (by omega) (by omega) (by omega) .i64 .i64 (.inl z) (.inr ⟨z, z⟩)) (wv (r2_0) z z z ?_))))))))
 obtain ⟨w223, hr224, hst⟩ := run_copyRows (P := prog) (t2 := 199) (ty := 3) underlying199 hs hst hst.pull2 k m (N := n + m) (by first | omega | (simp only [List.length_append, List.length_take, List.length_drop]; omega)) (by first | omega | (simp only [List.length_append, List.length_take, List.length_drop]; omega)) (by omega) (by first | omega | (simp only [List.length_append, List.length_take, List.length_drop]; omega)) (ones_take hoq _)
 refine wl_run (v := .int .i64 (m : Nat)) (w' := w223) z z (x_copy z z hr224) ?_
 refine wl_nil (tn (wp_seq ?_))
 refine wp_region_St hst 9 [0, 1, 2, 3, 4, 5, 6, 7, 8] [0, 0, 0, 6, 15, 0, 0, 96, 255] [] z (by kernel_rfl) (by kernel_rfl) Tryz.mixed (by kernel_rfl) ?_
 refine wsr (v2) 0 z z z (by kernel_rfl) (fun w hst => z) (wsr (.int .i64 (k : Int)) 1 z z z (by kernel_rfl) (fun w hst => z) (wsr (.int .i64 (m : Int)) 2 z z z (by kernel_rfl) (fun w hst => z) (wsr (.int .i64 ((k + m : Nat) : Int)) 3 z z z (by kernel_rfl) (fun w hst => ok_cast hw2 z) (wsr ((slcV (tyRaw 2).sz v2 (k + m) (n + m))) 4 z z z (by kernel_rfl) (fun w hst => x_slice (lo := ((k + m) : Nat)) (hi := ((n + m) : Nat)) underlying199 hs z hs2 (by omega) (by omega) (by omega) .i64 .i64 (.inl z) (.inr ⟨z, z⟩)) (wsr (r0_0) 5 z z z (by kernel_rfl) (fun w hst => z) (wsr (.int .i64 (k : Int)) 6 z z z (by kernel_rfl) (fun w hst => z) (wsr ((slcV (tyRaw 2).sz r0_0 k n)) 7 z z z (by kernel_rfl) (fun w hst => x_slice (lo := (k : Nat)) (hi := (n : Nat)) underlying199 hs z hsv (by omega) (by omega) (by omega) .i64 .i64 (.inl z) (.inr ⟨z, z⟩)) ?_)))))))
 refine ws_e1 8 (by kernel_rfl) ?_
 refine nxe [] (by kernel_rfl) z z ?_
 clear hst
 intro w hst
 obtain ⟨w225, hr226, hst⟩ := run_copyRows (P := prog) (t2 := 199) (ty := 3) underlying199 hs hst (hst.pull1.row_part (l := k) (h := n) hk (by omega)) (k + m) (n - k) (N := n + m) (by first | omega | (simp only [List.length_append, List.length_take, List.length_drop]; omega)) (by first | omega | (simp only [List.length_append, List.length_take, List.length_drop]; omega)) (by omega) (by first | omega | (simp only [List.length_append, List.length_take, List.length_drop]; omega)) (ones_take (ones_drop (ones_take hoc _) _) _)
 refine we_run (v := .int .i64 ((n - k) : Nat)) (w' := w225) z (x_copy z z hr226) ?_
 refine ws_next (pend' := []) hst (by kernel_rfl) pk_nil ?_
 refine ws_nil ?_
 intro w hst
 refine tn (wp_seq (wrl (wv (v2) z z z (wv (v2) z z z (wl_nil (tn (wp_ret (then_r ?_))))))))
 refine post_ret (vs := [v2]) results183 (rvs_cons (rv_tmp z) rvs_nil) ?_
 rw [grow_rows hn hm' hk hzl] at hst
 exact ⟨_, z, (hst.own_close ((hr.take k).app (hq.app (hr.drop k)))).keep1⟩
}
 {
 refine wp_iff (cvb hc222) ?_
 have hup : n + m ≤ sCap r0_0 := by have := of_decide_eq_false hc222; omega
 obtain ⟨ess, hel, hem, hst'⟩ := hst.row_up (n + m) (by omega) hup hc0
 rw [show n + m - css.length = m by omega] at hel
 have hs2 : SliceV (upV r0_0 (n + m)) (n + m) := by have := hst'.row_form.2; rwa [List.length_append, hn, hel] at this
 clear hst
 have hst := hst'
 clear hst'
 refine wp_skip (tn (wp_seq (wrl ?_)))
 refine wv (r0_0) z z z (wv (.int .i64 (n : Int)) z z z (wv (.int .i64 (m : Int)) z z z (wv (.int .i64 ((n + m : Nat) : Int)) z z (ok_cast hw1 z) (wv ((upV r0_0 (n + m))) z z (x_sliceUp underlying199 hs z hsv z hup hn0) (wv ((upV r0_0 (n + m))) z z z (wl_nil (tn (wp_seq (wp_seq (wrl (wv (r2_0) z z z (wv ((upV r0_0 (n + m))) z z z (wv (.int .i64 (k : Int)) z z z (wv (.int .i64 (m : Int)) z z z (wv (.int .i64 ((k + m : Nat) : Int)) z z (ok_cast hw2 z) (wv ((slcV (tyRaw 2).sz (upV r0_0 (n + m)) (k + m) (n + m))) z z (x_slice (lo := ((k + m) : Nat)) (hi := ((n + m) : Nat)) underlying199 hs z hs2 (by omega) (by omega) (by omega) .i64 .i64 (.inl z) (.inr ⟨z, z⟩)) ?_))))))))))))))))
 refine wv (.bool false) z z (x_ext z z z (hov _) (run_overlaps z underlying199 hs hst.pull1 (k + m) (N := n + m) (by rw [List.length_append]; omega) (by omega) hq0 hs0)) (wv (.bool true) z z z (wl_nil (tn ?_)))
 refine wp_ift z ?_
 refine wp_seq ?_
 refine wp_region_St hst 9 [0, 1, 2, 3, 4, 5, 6, 7, 8] [0, 0, 0, 6, 15, 0, 0, 96, 255] [] z (by kernel_rfl) (by kernel_rfl) Tryz.mixed (by kernel_rfl) ?_
 refine wsr ((upV r0_0 (n + m))) 0 z z z (by kernel_rfl) (fun w hst => z) (wsr (.int .i64 (k : Int)) 1 z z z (by kernel_rfl) (fun w hst => z) (wsr (.int .i64 (m : Int)) 2 z z z (by kernel_rfl) (fun w hst => z) (wsr (.int .i64 ((k + m : Nat) : Int)) 3 z z z (by kernel_rfl) (fun w hst => ok_cast hw2 z) (wsr ((slcV (tyRaw 2).sz (upV r0_0 (n + m)) (k + m) (n + m))) 4 z z z (by kernel_rfl) (fun w hst => x_slice (lo := ((k + m) : Nat)) (hi := ((n + m) : Nat)) underlying199 hs z hs2 (by omega) (by omega) (by omega) .i64 .i64 (.inl z) (.inr ⟨z, z⟩)) (wsr ((upV r0_0 (n + m))) 5 z z z (by kernel_rfl) (fun w hst => z) (wsr (.int .i64 (k : Int)) 6 z z z (by kernel_rfl) (fun w hst => z) (wsr ((slcV (tyRaw 2).sz (upV r0_0 (n + m)) k (n + m))) 7 z z z (by kernel_rfl) (fun w hst => x_slice (lo := (k : Nat)) (hi := ((n + m) : Nat)) underlying199 hs z hs2 (by omega) (by omega) (by omega) .i64 .i64 (.inl z) (.inr ⟨z, z⟩)) ?_)))))))
 refine ws_e1 8 (by kernel_rfl) ?_
 refine nxe [] (by kernel_rfl) z z ?_
 clear hst
 intro w hst
 obtain ⟨w227, hr228, hst⟩ := run_copyRows (P := prog) (t2 := 199) (ty := 3) underlying199 hs hst (hst.row_part (l := k) (h := n + m) (by omega) (by rw [List.length_append]; omega)) (k + m) (n - k) (N := n + m) (by first | omega | (simp only [List.length_append, List.length_take, List.length_drop]; omega)) (by first | omega | (simp only [List.length_append, List.length_take, List.length_drop]; omega)) (by omega) (by first | omega | (simp only [List.length_append, List.length_take, List.length_drop]; omega)) (by rw [stay_src hn hm' hk hel]; exact ones_drop hoc _)
 refine we_run (v := .int .i64 ((n - k) : Nat)) (w' := w227) z (x_copy z z hr228) ?_
 refine ws_next (pend' := []) hst (by kernel_rfl) pk_nil ?_
 refine ws_nil ?_
 intro w hst
 refine tn (wp_seq (wrl (wv ((upV r0_0 (n + m))) z z z (wv (.int .i64 (k : Int)) z z z (wv ((slcV (tyRaw 2).sz (upV r0_0 (n + m)) k (n + m))) z z (x_slice (lo := (k : Nat)) (hi := ((n + m) : Nat)) underlying199 hs z hs2 (by omega) (by omega) (by omega) .i64 .i64 (.inl z) (.inr ⟨z, z⟩)) (wv (r2_0) z z z ?_))))))
 obtain ⟨w229, hr230, hst⟩ := run_copyRows (P := prog) (t2 := 199) (ty := 3) underlying199 hs hst hst.pull1 k m (N := n + m) (by first | omega | (simp only [List.length_append, List.length_take, List.length_drop]; omega)) (by first | omega | (simp only [List.length_append, List.length_take, List.length_drop]; omega)) (by omega) (by first | omega | (simp only [List.length_append, List.length_take, List.length_drop]; omega)) (ones_take hoq _)
 refine wl_run (v := .int .i64 (m : Nat)) (w' := w229) z z (x_copy z z hr230) ?_
 refine wl_nil (tn (wp_seq (wrl (wv ((upV r0_0 (n + m))) z z z (wv ((upV r0_0 (n + m))) z z z (wl_nil (tn (wp_ret (then_r ?_)))))))))
 refine post_ret (vs := [(upV r0_0 (n + m))]) results183 (rvs_cons (rv_tmp z) rvs_nil) ?_
 rw [stay_rows hn hm' hk hel] at hst
 exact ⟨_, z, (hst.own_close ((hr.take k).app (hq.app (hr.drop k)))).keep1⟩
}
}
}
}

theorem slices_Insert_mvcc_row_mvcc_row_ref {w0 w : World} {I : HL} {R : SP} {a0 : (List mvcc_row)} {r0_0 : Value} {a1 : Int} {a2 : (List mvcc_row)} {r2_0 : Value} (hst : St w0 w I [ownN nest_mvcc_row r0_0 a0, ownN nest_mvcc_row r2_0 a2] R) {r : (List mvcc_row)} (hm : slices_Insert_mvcc_row_mvcc_row a0 a1 a2 = some r) :
  Calls prog 183 #[r0_0, I6 a1, r2_0] w fun e w' => ∃ (q0_0 : Value), e = .returned (q0_0) ∧ St w0 w' I [ownN nest_mvcc_row q0_0 r] R := by {
 unfold slices_Insert_mvcc_row_mvcc_row at hm
 obtain ⟨hg, hm⟩ := gd_some hm
 obtain rfl := some_inj hm
 obtain ⟨vs, us, h1, k1, hst⟩ := hst.nest_two
 refine Calls.mono (slices_Insert_mvcc_row_mvcc_row_raw_ref hst.to2 (r := ins (nest_mvcc_row.cs a0 vs) a1 (nest_mvcc_row.cs a2 us)) (by unfold slices_Insert_mvcc_row_mvcc_row_raw; rw [insOK_cs h1 k1, hg]; rfl)) ?_
 rintro _ w' ⟨q, rfl, hst'⟩
 exact ⟨_, z, (hst'.of1.nest_ins h1 k1).keep1⟩
}

theorem mvcc_ahead_ref {w0 w : World} {I : HL} {R : SP} {a0 : mvcc_Version} {r0_0 : Value} {a1 : Int} {a2 : Int} (f0_0 : Rd (tyInt .u8) R I r0_0 a0.Val) (hst : St w0 w I [] R) {r : (Bool)} (hm : mvcc_ahead a0 a1 a2 = some r) :
  Calls prog 185 #[.agg #[U6 a0.Epoch, U6 a0.Index, .bool a0.Del, r0_0], U6 a1, U6 a2] w fun e w' => e = .returned (.bool r) ∧ St w0 w' I [] R := by {
 unfold mvcc_ahead at hm
 refine calls_start (args := [.agg #[U6 a0.Epoch, U6 a0.Index, .bool a0.Del, r0_0], U6 a1, U6 a2]) func185 z ntmps185 (Nat.le_of_ble_eq_true z) ?_
 refine wp_seq (wrl ?_)
 obtain ⟨b281, w282, ew283, eb284, hst⟩ := hst.box [U6 a0.Epoch, U6 a0.Index, .bool a0.Del, r0_0] 214
 refine wl_run (v := Pt b281 0) (w' := w282) z z (x_al (by kernel_rfl) ew283 eb284) ?_
 refine wv (.bool false) z z z (wl_nil (tn (wp_seq (wrl (wv (Pt b281 0) z z (x_field z underlying214 z sizeOf26 z) (wv (.int .u64 a0.Epoch) z z (x_load z isAgg26 (hst.bc0 z)) (wv (.int .u64 a1) z z z (wv (.bool (decide (a0.Epoch < a1))) z z z (wv (.bool (decide (a0.Epoch < a1))) z z z ?_)))))))))
 refine bsplit (decide (a0.Epoch < a1)) (fun hc286 => ?_) (fun hc286 => ?_)
 {
 replace hm := bif_t hc286 hm
 refine wo hc286 z z z z z z (wo hc286 z z z z z z (wo hc286 z z z z z z (wo hc286 z z z z z z (wo hc286 z z z z z z (wl_off (wanted_undef z z z z) z (wl_off (wanted_undef z z z z) z (wl_off (wanted_undef z z z z) z (wl_off (wanted_undef z z z z) z (wo hc286 z z z z z z (wv (.bool true) z z (x_pick_t hc286 z z) (wv (.bool true) z z z (wl_nil (tn (wp_ret ?_))))))))))))))
 obtain rfl := some_inj hm
 refine post_ret (vs := [.bool true]) results185 (rvs_cons (rv_tmp z) rvs_nil) ?_
 exact ⟨z, hst.keep0⟩
}
 {
 replace hm := bif_f hc286 hm
 refine wv (Pt b281 0) ((wanted_eq z z z (cvb hc286)).trans z) z (x_field z underlying214 z sizeOf26 z) (wv (.int .u64 a0.Epoch) ((wanted_eq z z z (cvb hc286)).trans z) z (x_load z isAgg26 (hst.bc0 z)) (wv (.int .u64 a1) ((wanted_eq z z z (cvb hc286)).trans z) z z (wv (.bool (a0.Epoch == a1)) ((wanted_eq z z z (cvb hc286)).trans z) z z (wv (.bool (a0.Epoch == a1)) ((wanted_eq z z z (cvb hc286)).trans z) z z ?_))))
 refine bsplit (a0.Epoch == a1) (fun hc287 => ?_) (fun hc287 => ?_)
 {
 replace hm := bif_t hc287 hm
 refine wv (Pt b281 1) ((wanted_eq z z z (cvb hc287)).trans z) z (x_field z underlying214 z sizeOf26 z) (wv (.int .u64 a0.Index) ((wanted_eq z z z (cvb hc287)).trans z) z (x_load z isAgg26 (hst.bc0 z)) (wv (.int .u64 a2) ((wanted_eq z z z (cvb hc287)).trans z) z z (wv (.bool (decide (a0.Index < a2))) ((wanted_eq z z z (cvb hc287)).trans z) z z (wv (.bool (decide (a0.Index < a2))) ((wanted_eq z z z (cvb hc286)).trans z) z (x_pick_t hc287 z z) (wv (.bool (decide (a0.Index < a2))) z z (x_pick_f hc286 z z) (wv (.bool (decide (a0.Index < a2))) z z z (wl_nil (tn (wp_ret ?_)))))))))
 obtain rfl := some_inj hm
 refine post_ret (vs := [.bool (decide (a0.Index < a2))]) results185 (rvs_cons (rv_tmp z) rvs_nil) ?_
 exact ⟨z, hst.keep0⟩
}
 {
 replace hm := bif_f hc287 hm
 refine wo hc287 z z z z z z (wo hc287 z z z z z z (wo hc287 z z z z z z (wo hc287 z z z z z z (wv (.bool false) ((wanted_eq z z z (cvb hc286)).trans z) z (x_pick_f hc287 z z) (wv (.bool false) z z (x_pick_f hc286 z z) (wv (.bool false) z z z (wl_nil (tn (wp_ret ?_)))))))))
 obtain rfl := some_inj hm
 refine post_ret (vs := [.bool false]) results185 (rvs_cons (rv_tmp z) rvs_nil) ?_
 exact ⟨z, hst.keep0⟩
}
}
}

theorem slices_Insert_mvcc_Version_mvcc_Version_ref {w0 w : World} {I : HL} {R : SP} {a0 : (List mvcc_Version)} {r0_0 : Value} {a1 : Int} {a2 : (List mvcc_Version)} {r2_0 : Value} (hst : St w0 w I [ownS ty_mvcc_Version r0_0 a0, ownS ty_mvcc_Version r2_0 a2] R) {r : (List mvcc_Version)} (hm : slices_Insert_mvcc_Version_mvcc_Version a0 a1 a2 = some r) :
  Calls prog 186 #[r0_0, I6 a1, r2_0] w fun e w' => ∃ (q0_0 : Value), e = .returned (q0_0) ∧ St w0 w' I [ownS ty_mvcc_Version q0_0 r] R := by {
 unfold slices_Insert_mvcc_Version_mvcc_Version at hm
 obtain ⟨hg, hm⟩ := gd_some hm
 obtain rfl := some_inj hm
 obtain ⟨hi0, hi1, hrm⟩ := insOK_of hg
 obtain ⟨k, rfl⟩ := Int.eq_ofNat_of_zero_le hi0
 have hsm := room_sum hrm
 have hk : k ≤ a0.length := by omega
 have hs : ∀ w : World, (sizeOf 214).run prog w = .ok ty_mvcc_Version.sz w := sizeOf214
 have hs0 : 0 < ty_mvcc_Version.sz := Nat.le_of_ble_eq_true rfl
 have hov : ∀ (args : Array Value) (w : World), (callFunc 207 args).run prog w = (Extern.SlicesOverlaps.overlaps #[238, 238] #[4] args >>= fun v => (pure (.value v) : Sem Next)).run prog w := by intro args w; kernel_rfl
 obtain ⟨css, hr, hst⟩ := hst.own_open
 replace hst := hst.pull1
 obtain ⟨dss, hq, hst⟩ := hst.own_open
 replace hst := hst.pull1
 obtain ⟨n, hn⟩ : ∃ n, css.length = n := ⟨_, rfl⟩
 obtain ⟨m, hm'⟩ : ∃ m, dss.length = m := ⟨_, rfl⟩
 have hln : a0.length = n := hr.1.trans hn
 have hlm : a2.length = m := hq.1.trans hm'
 rw [hln] at hsm hk
 rw [hlm] at hsm
 have hsv : SliceV r0_0 n := by have := hst.row_form.2; rwa [hn] at this
 have hsq : SliceV r2_0 m := by have := hst.pull1.row_form.2; rwa [hm'] at this
 have hoc := hr.ones
 have hoq := hq.ones
 have hw1 := wrap_add (a := n) (b := m) (by omega)
 have hw2 := wrap_add (a := k) (b := m) (by omega)
 have hw3 := wrap_sub (a := n + m) (b := k) (by omega) (by omega)
 have hrb := room_of (b := 48) hrm rfl
 rw [hln, hlm] at hrb
 refine calls_start (args := [r0_0, I6 (k : Int), r2_0]) func186 z ntmps186 (Nat.le_of_ble_eq_true z) ?_
 refine wp_seq (wrl (wv ((.slice none 0 0)) z z z (wl_nil (tn (wp_seq (wrl (wv (r0_0) z z z (wv (.int .i64 (k : Int)) z z z (wv ((slcV ty_mvcc_Version.sz r0_0 k n)) z z (x_slice (lo := (k : Nat)) (hi := (n : Nat)) underlying238 hs z hsv (by omega) (by omega) (by omega) .i64 .i64 (.inl z) (.inr ⟨z, z⟩)) (wl_nil (tn (wp_seq (wrl (wv (r2_0) z z z (wv (.int .i64 (m : Int)) z z (x_len z underlying238 hsq) (wv (.int .i64 (m : Int)) z z z (wl_nil (tn (wp_seq (wp_seq (wrl (wv (.int .i64 (m : Int)) z z z (wv (.bool ((m : Int) == (0:Int))) z z z ?_)))))))))))))))))))))))
 refine wl_nil (tn ?_)
 refine bsplit ((m : Int) == (0:Int)) (fun hc399 => ?_) (fun hc399 => ?_)
 {
 refine wp_ift (cvb hc399) ?_
 refine wp_seq (wrl (wv (r0_0) z z z (wv (r0_0) z z z (wl_nil (tn (wp_ret (then_r ?_)))))))
 refine post_ret (vs := [r0_0]) results186 (rvs_cons (rv_tmp z) rvs_nil) ?_
 rw [ins_nil (by rw [hlm]; exact hc399)]
 exact ⟨_, z, (hst.own_close hr).keep1⟩
}
 {
 refine wp_iff (cvb hc399) ?_
 have hm0 : m ≠ 0 := fun h => by rw [h] at hc399; cases hc399
 have hq0 : dss ≠ [] := fun h => hm0 (by rw [← hm', h]; rfl)
 refine wp_skip (tn (wp_seq (wrl ?_)))
 refine wv (r0_0) z z z (wv (.int .i64 (n : Int)) z z (x_len z underlying238 hsv) (wv (.int .i64 (n : Int)) z z z (wl_nil (tn (wp_seq (wp_seq (wrl (wv (.int .i64 (k : Int)) z z z (wv (.int .i64 (n : Int)) z z z (wv (.bool ((k : Int) == (n : Int))) z z z (wl_nil (tn ?_))))))))))))
 refine bsplit ((k : Int) == (n : Int)) (fun hc400 => ?_) (fun hc400 => ?_)
 {
 refine wp_ift (cvb hc400) ?_
 refine wp_seq (wrl (wv (r0_0) z z z (wv (r2_0) z z z ?_)))
 replace hst := (hst.own_close hr).pull1.own_close hq
 replace hst := hst.pull1
 obtain ⟨v2, w2, hra, hst⟩ := run_append elem_238 underlying238 hst hst.src1 (room_of hrm z) 238
 refine wl_run (v := v2) (w' := w2) z z (x_append z z hra) ?_
 refine wv (v2) z z z (wl_nil (tn (wp_ret (then_r ?_))))
 refine post_ret (vs := [v2]) results186 (rvs_cons (rv_tmp z) rvs_nil) ?_
 rw [ins_end (by rw [hln]; exact hc400)]
 exact ⟨_, z, hst.keep1⟩
}
 {
 refine wp_iff (cvb hc400) ?_
 have hkn : k ≠ n := fun h => by rw [h] at hc400; simp at hc400
 have hn0 : 0 < n := by omega
 have hc0 : css ≠ [] := fun h => by rw [h] at hn; simp at hn; omega
 refine wp_skip (tn (wp_seq (wp_seq (wrl ?_))))
 refine wv (.int .i64 (n : Int)) z z z (wv (.int .i64 (m : Int)) z z z (wv (.int .i64 ((n + m : Nat) : Int)) z z (ok_cast hw1 z) (wv (r0_0) z z z (wv (.int .i64 (sCap r0_0 : Int)) z z (x_cap z underlying238 hsv) (wv (.bool (decide (((n + m : Nat) : Int) > (sCap r0_0 : Int)))) z z z (wl_nil (tn ?_)))))))
 refine bsplit (decide (((n + m : Nat) : Int) > (sCap r0_0 : Int))) (fun hc401 => ?_) (fun hc401 => ?_)
 {
 refine wp_ift (cvb hc401) ?_
 refine wp_seq (wrl (wv (r0_0) z z z (wv (.int .i64 (k : Int)) z z z (wv ((slcV ty_mvcc_Version.sz r0_0 0 k)) z z (x_slice (lo := (0 : Nat)) (hi := (k : Nat)) underlying238 hs z hsv (by omega) (by omega) (by omega) .i64 .i64 (.inr ⟨z, z⟩) (.inl z)) (wv (.int .i64 (n : Int)) z z z (wv (.int .i64 (m : Int)) z z z (wv (.int .i64 ((n + m : Nat) : Int)) z z (ok_cast hw1 z) (wv (.int .i64 (k : Int)) z z z (wv (.int .i64 ((n + m - k : Nat) : Int)) z z (ok_cast hw3 z) ?_)))))))))
 obtain ⟨v2, w2, hra, hs2, zss, hzl, hst⟩ := run_app0 elem_238 underlying3 hst k (n + m - k) (by omega) (by have := of_decide_eq_true hc401; omega) (by rw [show k + (n + m - k) = n + m by omega]; exact hrb) hs0 238
 rw [show k + (n + m - k) = n + m by omega] at hs2
 refine wl_run (v := v2) (w' := w2) z z (x_append z z hra) ?_
 refine wv (v2) z z z (wl_nil (tn (wp_seq (wrl (wv (v2) z z z (wv (.int .i64 (k : Int)) z z z (wv ((slcV ty_mvcc_Version.sz v2 k (n + m))) z z (x_slice (lo := (k : Nat)) (hi := ((n + m) : Nat)) underlying238 hs z hs2 (by omega) (by omega) (by omega) .i64 .i64 (.inl z) (.inr ⟨z, z⟩)) (wv (r2_0) z z z ?_))))))))
 obtain ⟨w402, hr403, hst⟩ := run_copyRows (P := prog) (t2 := 238) (ty := 3) underlying238 hs hst hst.pull2 k m (N := n + m) (by first | omega | (simp only [List.length_append, List.length_take, List.length_drop]; omega)) (by first | omega | (simp only [List.length_append, List.length_take, List.length_drop]; omega)) (by omega) (by first | omega | (simp only [List.length_append, List.length_take, List.length_drop]; omega)) (ones_take hoq _)
 refine wl_run (v := .int .i64 (m : Nat)) (w' := w402) z z (x_copy z z hr403) ?_
 refine wl_nil (tn (wp_seq ?_))
 refine wp_region_St hst 9 [0, 1, 2, 3, 4, 5, 6, 7, 8] [0, 0, 0, 6, 15, 0, 0, 96, 255] [] z (by kernel_rfl) (by kernel_rfl) Tryz.mixed (by kernel_rfl) ?_
 refine wsr (v2) 0 z z z (by kernel_rfl) (fun w hst => z) (wsr (.int .i64 (k : Int)) 1 z z z (by kernel_rfl) (fun w hst => z) (wsr (.int .i64 (m : Int)) 2 z z z (by kernel_rfl) (fun w hst => z) (wsr (.int .i64 ((k + m : Nat) : Int)) 3 z z z (by kernel_rfl) (fun w hst => ok_cast hw2 z) (wsr ((slcV ty_mvcc_Version.sz v2 (k + m) (n + m))) 4 z z z (by kernel_rfl) (fun w hst => x_slice (lo := ((k + m) : Nat)) (hi := ((n + m) : Nat)) underlying238 hs z hs2 (by omega) (by omega) (by omega) .i64 .i64 (.inl z) (.inr ⟨z, z⟩)) (wsr (r0_0) 5 z z z (by kernel_rfl) (fun w hst => z) (wsr (.int .i64 (k : Int)) 6 z z z (by kernel_rfl) (fun w hst => z) (wsr ((slcV ty_mvcc_Version.sz r0_0 k n)) 7 z z z (by kernel_rfl) (fun w hst => x_slice (lo := (k : Nat)) (hi := (n : Nat)) underlying238 hs z hsv (by omega) (by omega) (by omega) .i64 .i64 (.inl z) (.inr ⟨z, z⟩)) ?_)))))))
 refine ws_e1 8 (by kernel_rfl) ?_
 refine nxe [] (by kernel_rfl) z z ?_
 clear hst
 intro w hst
 obtain ⟨w404, hr405, hst⟩ := run_copyRows (P := prog) (t2 := 238) (ty := 3) underlying238 hs hst (hst.pull1.row_part (l := k) (h := n) hk (by omega)) (k + m) (n - k) (N := n + m) (by first | omega | (simp only [List.length_append, List.length_take, List.length_drop]; omega)) (by first | omega | (simp only [List.length_append, List.length_take, List.length_drop]; omega)) (by omega) (by first | omega | (simp only [List.length_append, List.length_take, List.length_drop]; omega)) (ones_take (ones_drop (ones_take hoc _) _) _)
 refine we_run (v := .int .i64 ((n - k) : Nat)) (w' := w404) z (x_copy z z hr405) ?_
 refine ws_next (pend' := []) hst (by kernel_rfl) pk_nil ?_
 refine ws_nil ?_
 intro w hst
 refine tn (wp_seq (wrl (wv (v2) z z z (wv (v2) z z z (wl_nil (tn (wp_ret (then_r ?_))))))))
 refine post_ret (vs := [v2]) results186 (rvs_cons (rv_tmp z) rvs_nil) ?_
 rw [grow_rows hn hm' hk hzl] at hst
 exact ⟨_, z, (hst.own_close ((hr.take k).app (hq.app (hr.drop k)))).keep1⟩
}
 {
 refine wp_iff (cvb hc401) ?_
 have hup : n + m ≤ sCap r0_0 := by have := of_decide_eq_false hc401; omega
 obtain ⟨ess, hel, hem, hst'⟩ := hst.row_up (n + m) (by omega) hup hc0
 rw [show n + m - css.length = m by omega] at hel
 have hs2 : SliceV (upV r0_0 (n + m)) (n + m) := by have := hst'.row_form.2; rwa [List.length_append, hn, hel] at this
 clear hst
 have hst := hst'
 clear hst'
 refine wp_skip (tn (wp_seq (wrl ?_)))
 refine wv (r0_0) z z z (wv (.int .i64 (n : Int)) z z z (wv (.int .i64 (m : Int)) z z z (wv (.int .i64 ((n + m : Nat) : Int)) z z (ok_cast hw1 z) (wv ((upV r0_0 (n + m))) z z (x_sliceUp underlying238 hs z hsv z hup hn0) (wv ((upV r0_0 (n + m))) z z z (wl_nil (tn (wp_seq (wp_seq (wrl (wv (r2_0) z z z (wv ((upV r0_0 (n + m))) z z z (wv (.int .i64 (k : Int)) z z z (wv (.int .i64 (m : Int)) z z z (wv (.int .i64 ((k + m : Nat) : Int)) z z (ok_cast hw2 z) (wv ((slcV ty_mvcc_Version.sz (upV r0_0 (n + m)) (k + m) (n + m))) z z (x_slice (lo := ((k + m) : Nat)) (hi := ((n + m) : Nat)) underlying238 hs z hs2 (by omega) (by omega) (by omega) .i64 .i64 (.inl z) (.inr ⟨z, z⟩)) ?_))))))))))))))))
 refine wv (.bool false) z z (x_ext z z z (hov _) (run_overlaps z underlying238 hs hst.pull1 (k + m) (N := n + m) (by rw [List.length_append]; omega) (by omega) hq0 hs0)) (wv (.bool true) z z z (wl_nil (tn ?_)))
 refine wp_ift z ?_
 refine wp_seq ?_
 refine wp_region_St hst 9 [0, 1, 2, 3, 4, 5, 6, 7, 8] [0, 0, 0, 6, 15, 0, 0, 96, 255] [] z (by kernel_rfl) (by kernel_rfl) Tryz.mixed (by kernel_rfl) ?_
 refine wsr ((upV r0_0 (n + m))) 0 z z z (by kernel_rfl) (fun w hst => z) (wsr (.int .i64 (k : Int)) 1 z z z (by kernel_rfl) (fun w hst => z) (wsr (.int .i64 (m : Int)) 2 z z z (by kernel_rfl) (fun w hst => z) (wsr (.int .i64 ((k + m : Nat) : Int)) 3 z z z (by kernel_rfl) (fun w hst => ok_cast hw2 z) (wsr ((slcV ty_mvcc_Version.sz (upV r0_0 (n + m)) (k + m) (n + m))) 4 z z z (by kernel_rfl) (fun w hst => x_slice (lo := ((k + m) : Nat)) (hi := ((n + m) : Nat)) underlying238 hs z hs2 (by omega) (by omega) (by omega) .i64 .i64 (.inl z) (.inr ⟨z, z⟩)) (wsr ((upV r0_0 (n + m))) 5 z z z (by kernel_rfl) (fun w hst => z) (wsr (.int .i64 (k : Int)) 6 z z z (by kernel_rfl) (fun w hst => z) (wsr ((slcV ty_mvcc_Version.sz (upV r0_0 (n + m)) k (n + m))) 7 z z z (by kernel_rfl) (fun w hst => x_slice (lo := (k : Nat)) (hi := ((n + m) : Nat)) underlying238 hs z hs2 (by omega) (by omega) (by omega) .i64 .i64 (.inl z) (.inr ⟨z, z⟩)) ?_)))))))
 refine ws_e1 8 (by kernel_rfl) ?_
 refine nxe [] (by kernel_rfl) z z ?_
 clear hst
 intro w hst
 obtain ⟨w406, hr407, hst⟩ := run_copyRows (P := prog) (t2 := 238) (ty := 3) underlying238 hs hst (hst.row_part (l := k) (h := n + m) (by omega) (by rw [List.length_append]; omega)) (k + m) (n - k) (N := n + m) (by first | omega | (simp only [List.length_append, List.length_take, List.length_drop]; omega)) (by first | omega | (simp only [List.length_append, List.length_take, List.length_drop]; omega)) (by omega) (by first | omega | (simp only [List.length_append, List.length_take, List.length_drop]; omega)) (by rw [stay_src hn hm' hk hel]; exact ones_drop hoc _)
 refine we_run (v := .int .i64 ((n - k) : Nat)) (w' := w406) z (x_copy z z hr407) ?_
 refine ws_next (pend' := []) hst (by kernel_rfl) pk_nil ?_
 refine ws_nil ?_
 intro w hst
 refine tn (wp_seq (wrl (wv ((upV r0_0 (n + m))) z z z (wv (.int .i64 (k : Int)) z z z (wv ((slcV ty_mvcc_Version.sz (upV r0_0 (n + m)) k (n + m))) z z (x_slice (lo := (k : Nat)) (hi := ((n + m) : Nat)) underlying238 hs z hs2 (by omega) (by omega) (by omega) .i64 .i64 (.inl z) (.inr ⟨z, z⟩)) (wv (r2_0) z z z ?_))))))
 obtain ⟨w408, hr409, hst⟩ := run_copyRows (P := prog) (t2 := 238) (ty := 3) underlying238 hs hst hst.pull1 k m (N := n + m) (by first | omega | (simp only [List.length_append, List.length_take, List.length_drop]; omega)) (by first | omega | (simp only [List.length_append, List.length_take, List.length_drop]; omega)) (by omega) (by first | omega | (simp only [List.length_append, List.length_take, List.length_drop]; omega)) (ones_take hoq _)
 refine wl_run (v := .int .i64 (m : Nat)) (w' := w408) z z (x_copy z z hr409) ?_
 refine wl_nil (tn (wp_seq (wrl (wv ((upV r0_0 (n + m))) z z z (wv ((upV r0_0 (n + m))) z z z (wl_nil (tn (wp_ret (then_r ?_)))))))))
 refine post_ret (vs := [(upV r0_0 (n + m))]) results186 (rvs_cons (rv_tmp z) rvs_nil) ?_
 rw [stay_rows hn hm' hk hel] at hst
 exact ⟨_, z, (hst.own_close ((hr.take k).app (hq.app (hr.drop k)))).keep1⟩
}
}
}
}

theorem mvcc_Store_Put_ref {w0 w : World} {I : HL} {R : SP} {a0 : (Option mvcc_Store)} {p0 : Value} {a1 : Nat} {a2 : mvcc_Version} {r2_0 : Value} (f2_0 : Rd (tyInt .u8) R I r2_0 a2.Val) (hst : St w0 w I [objO at_mvcc_Store p0 a0] R) {r : ((Option mvcc_Store))} (hm : mvcc_Store_Put a0 a1 a2 = some r) :
  Calls prog 123 #[p0, F6 a1, .agg #[U6 a2.Epoch, U6 a2.Index, .bool a2.Del, r2_0]] w fun e w' => ∃ (I' : HL), e = .returned (.tuple #[]) ∧ I.le I' ∧ St w0 w' I' [objO at_mvcc_Store p0 r] R := by {
 rcases a0 with _ | o0
 {
 obtain ⟨rfl, hst'⟩ := objO_none hst
 clear hst
 have hst := hst'
 clear hst'
 dsimp only [mvcc_Store_Put] at hm
 refine calls_start (args := [.pointer none, F6 a1, .agg #[U6 a2.Epoch, U6 a2.Index, .bool a2.Del, r2_0]]) func123 z ntmps123 (Nat.le_of_ble_eq_true z) ?_
 have hI0 := HL.le.refl I
 refine wp_seq (wrl ?_)
 obtain ⟨b419, w420, ew421, eb422, hst⟩ := hst.box [U6 a2.Epoch, U6 a2.Index, .bool a2.Del, r2_0] 214
 refine wl_run (v := Pt b419 0) (w' := w420) z z (x_al (by kernel_rfl) ew421 eb422) ?_
 refine wl_nil (tn (wp_seq (wp_seq (wrl (wv (.pointer none) z z z (wv (.bool true) z z (by kernel_rfl) (wl_nil (tn ?_))))))))
 refine wp_ift z ?_
 refine wp_ret (then_r ?_)
 replace hst := hst.objO_nil at_mvcc_Store
 obtain rfl := some_inj hm
 refine post_ret (vs := []) results123 rvs_nil ?_
 exact ⟨_, z, hI0, hst.keep1⟩
}
 {
 replace hst := objO_get hst
 dsimp only [mvcc_Store_Put] at hm
 refine calls_start (args := [p0, F6 a1, .agg #[U6 a2.Epoch, U6 a2.Index, .bool a2.Del, r2_0]]) func123 z ntmps123 (Nat.le_of_ble_eq_true z) ?_
 have hI0 := HL.le.refl I
 refine wp_seq (wrl ?_)
 obtain ⟨b424, w425, ew426, eb427, hst⟩ := hst.box [U6 a2.Epoch, U6 a2.Index, .bool a2.Del, r2_0] 214
 refine wl_run (v := Pt b424 0) (w' := w425) z z (x_al (by kernel_rfl) ew426 eb427) ?_
 refine wl_nil (tn (wp_seq (wp_seq (wrl (wv (p0) z z z ?_)))))
 replace hst := hst.pull1
 obtain ⟨b429, v430, rfl, hst'⟩ := at_mvcc_Store_open hst
 clear hst
 have hst := hst'
 clear hst'
 refine wv (.bool false) z z (by kernel_rfl) (wl_nil (tn ?_))
 refine wp_iff z ?_
 refine wp_skip (tn (wp_seq (wrl ?_)))
 refine wv (Pt b424 3) z z (x_field z underlying214 z sizeOf22 z) (wv (r2_0) z z (x_load z isAgg22 (hst.bc2 z)) ?_)
 obtain ⟨t432, ht433, hm⟩ := bind_some hm
 refine wc call143 [r2_0] z z z ?_
 refine (slices_Clone_byte_byte_ref (f2_0.mono (rd_weak _)) hst.to0 ht433).mono ?_
 rintro _ w434 ⟨v437, rfl, hst⟩
 refine ⟨_, z, ?_⟩
 replace hst := hst.of1
 refine wv (Pt b424 3) z z (x_field z underlying214 z sizeOf22 z) ?_
 replace hst := hst.pull3
 obtain ⟨w439, hr440, hst⟩ := hst.boxStore1 (P := prog) (t := 22) (cs' := [U6 a2.Epoch, U6 a2.Index, .bool a2.Del, v437]) 3 v437 (one_of_sliceV hst.sv1) sizeOf22 z z
 refine wl_unit z z (x_unit hr440) ?_
 refine wl_nil (tn ?_)
 obtain ⟨y450, hm, hx451⟩ := bind_some hm
 refine wp_cut (fun a w => ∃ (z447 : (List Int)) (v446 : Value) (σ448 : Nat → Value), (mvcc_Store_Put_j0 a1 o0 a2) z447 = some r ∧ a = Fr 93 (upd (upd (upd σ448 0 (Pt b429 0)) 1 (.float .f64 a1)) 5 (Pt b424 0)) ∧ St w0 w I [at_mvcc_Store (Pt b429 0) o0, cells b424 [U6 a2.Epoch, U6 a2.Index, .bool a2.Del, v446], ownS (tyInt .u8) v446 z447] R) ?_ ?_
 {
 refine wp_seq (wrl (wv (Pt b424 2) z z (x_field z underlying214 z sizeOf4 z) (wv (.bool a2.Del) z z (x_load z isAgg4 (hst.bc0 z)) (wl_nil (tn ?_)))))
 refine bsplit a2.Del (fun hc441 => ?_) (fun hc441 => ?_)
 {
 replace hm := bif_t hc441 hm
 refine wp_ift (cvb hc441) ?_
 refine wrl (wv (Pt b424 3) z z (x_field z underlying214 z sizeOf22 z) ?_)
 obtain ⟨w443, hr444, hst⟩ := hst.by_ [U6 a2.Epoch, U6 a2.Index, .bool a2.Del, Zs] 3 ((.slice none 0 0)) sizeOf22 z (oC z oN) (by kernel_rfl)
 refine wl_unit z z (x_unit hr444) ?_
 refine wl_nil (tn ?_)
 replace hst := hst.own_nil (tyInt .u8)
 replace hst := hst.pull4.pull4
 replace hst := at_mvcc_Store_close (pv := Pt b429 0) (x := o0) hst z
 replace hst := hst.pull1.pull2.pull2.keep3
 obtain rfl := some_inj hm
 exact ⟨([]), Zs, _, hx451, (fu 0 (Pt b429 0) z (fu 1 (.float .f64 a1) z (fu 5 (Pt b424 0) z z))), hst⟩
}
 {
 replace hm := bif_f hc441 hm
 refine wp_iff (cvb hc441) ?_
 refine wp_skip (tn ?_)
 replace hst := hst.pull3.pull3
 replace hst := at_mvcc_Store_close (pv := Pt b429 0) (x := o0) hst z
 replace hst := hst.pull2.pull2.pull2.keep3
 obtain rfl := some_inj hm
 exact ⟨t432, v437, _, hx451, (fu 0 (Pt b429 0) z (fu 1 (.float .f64 a1) z (fu 5 (Pt b424 0) z z))), hst⟩
}
}
 {
 clear hst
 rintro _ w452 ⟨z447, v446, σ448, hm, rfl, hst⟩
 dsimp only [mvcc_Store_Put_j0] at hm
 refine wp_seq (wrl (wv (Pt b429 0) z z z (wv (.float .f64 a1) z z z ?_)))
 obtain ⟨t453, ht454, hm⟩ := bind_some hm
 refine wc call118 [F6 a1] z z z ?_
 refine (number_Rank_ref hst.to0 ht454).mono ?_
 rintro _ w455 ⟨rfl, hst⟩
 refine ⟨_, z, ?_⟩
 replace hst := hst.of0
 replace hst := objO_some hst
 obtain ⟨t458, ht459, hm⟩ := bind_some hm
 refine wc call146 [Pt b429 0, U6 t453] z z z ?_
 refine (mvcc_Store_find_ref hst.to1 ht459).mono ?_
 rintro _ w460 ⟨rfl, hst⟩
 refine ⟨_, z, ?_⟩
 replace hst := hst.of1
 replace hst := objO_get hst
 refine wv (.tuple #[I6 t458.1, .bool t458.2]) z z z (wv (.int .i64 t458.1) z z z (wv (.bool t458.2) z z z (wv (.int .i64 t458.1) z z z (wv (.bool t458.2) z z z (wl_nil (tn ?_))))))
 obtain ⟨y492, hm, hx493⟩ := bind_some hm
 refine wp_cut (fun a w => ∃ (z489 : mvcc_Store) (σ490 : Nat → Value), (mvcc_Store_Put_j1 t458 a2 z447) z489 = some r ∧ a = Fr 93 (upd (upd (upd σ490 0 (Pt b429 0)) 5 (Pt b424 0)) 6 (.int .i64 t458.1)) ∧ St w0 w I [at_mvcc_Store (Pt b429 0) z489, cells b424 [U6 a2.Epoch, U6 a2.Index, .bool a2.Del, v446], ownS (tyInt .u8) v446 z447] R) ?_ ?_
 {
 refine wp_seq (wrl (wv (.bool t458.2) z z z (wv (.bool (!t458.2)) z z z (wl_nil (tn ?_)))))
 refine bsplit (!t458.2) (fun hc463 => ?_) (fun hc463 => ?_)
 {
 replace hm := bif_t hc463 hm
 refine wp_ift (cvb hc463) ?_
 obtain ⟨b464, v465, e467, hst'⟩ := at_mvcc_Store_open hst
 clear hst
 have e467 := ptr_inj e467
 subst e467
 have hst := hst'
 clear hst'
 refine wp_region_St hst 14 [0, 1, 2, 3, 4, 5, 6, 7, 8, 9, 10, 11, 12, 13] [0, 0, 2, 6, 14, 0, 0, 64, 192, 448, 1022, 2047, 4095, 8191] [] z (by kernel_rfl) (by kernel_rfl) Tryz.mixed (by kernel_rfl) ?_
 refine wsr (Pt b429 0) 0 z z z (by kernel_rfl) (fun w hst => z) (wsr (Pt b429 0) 1 z z z (by kernel_rfl) (fun w hst => z) (wsr (Pt b429 0) 2 z z z (by kernel_rfl) (fun w hst => z) (wsr (Pt b429 0) 3 z z z (by kernel_rfl) (fun w hst => x_field z underlying201 z sizeOf199 z) (wsr (v465) 4 z z z (by kernel_rfl) (fun w hst => x_load z isAgg199 (hst.bc0 z)) (wsr (.int .i64 t458.1) 5 z z z (by kernel_rfl) (fun w hst => z) (wsr (.float .f64 a1) 6 z z z (by kernel_rfl) (fun w hst => z) ?_))))))
 refine ws_e1 7 (by kernel_rfl) ?_
 refine nxe [8, 9, 10, 11, 12, 13] (by kernel_rfl) z z ?_
 clear hst
 intro w hst
 obtain ⟨t468, ht469, hm⟩ := bind_some hm
 refine wec call118 [F6 a1] z z ?_
 refine (number_Rank_ref hst.to0 ht469).mono ?_
 rintro _ w470 ⟨rfl, hst⟩
 refine ⟨_, z, ?_⟩
 replace hst := hst.of0
 refine ws_next (pend' := [(5, I6 t458.1), (4, v465), (3, Pt b429 0), (2, Pt b429 0), (1, Pt b429 0), (0, Pt b429 0)]) hst (by kernel_rfl) (pkr z z (fun w hst => z) (pkr z z (fun w hst => x_load z isAgg199 (hst.bc0 z)) (pkr z z (fun w hst => x_field z underlying201 z sizeOf199 z) (pkr z z (fun w hst => z) (pkr z z (fun w hst => z) (pkr z z (fun w hst => z) pk_nil)))))) ?_
 refine wsr (.agg #[U6 t468, Zs]) 8 z z z (by kernel_rfl) (fun w hst => by kernel_rfl) ?_
 refine ws_e1 9 (by kernel_rfl) ?_
 refine nxe [10, 11, 12, 13] (by kernel_rfl) z z ?_
 clear hst
 intro w hst
 replace hst := hst.own_nil ty_mvcc_Version
 obtain ⟨b475, w476, ew477, eb478, hst⟩ := hst.nest_one (N := nest_mvcc_row) (x := ({ rank := t468, l := [] } : mvcc_row)) 240
 refine we_run (v := (.slice (some ⟨b475, 0, none⟩) 1 1)) (w' := w476) z (x_als (by kernel_rfl) ew477 eb478) ?_
 refine ws_next (pend' := [(5, I6 t458.1), (4, v465), (3, Pt b429 0), (2, Pt b429 0), (1, Pt b429 0), (0, Pt b429 0)]) hst (by kernel_rfl) (pkr z z (fun w hst => z) (pkr z z (fun w hst => x_load z isAgg199 (hst.bc1 z)) (pkr z z (fun w hst => x_field z underlying201 z sizeOf199 z) (pkr z z (fun w hst => z) (pkr z z (fun w hst => z) (pkr z z (fun w hst => z) pk_nil)))))) ?_
 refine ws_e1 10 (by kernel_rfl) ?_
 refine nxe [11, 12, 13] (by kernel_rfl) z z ?_
 clear hst
 intro w hst
 replace hst := hst.pull2
 obtain ⟨t480, ht481, hm⟩ := bind_some hm
 refine wec call183 [v465, I6 t458.1, (.slice (some ⟨b475, 0, none⟩) 1 1)] z z ?_
 refine (slices_Insert_mvcc_row_mvcc_row_ref hst.to2 ht481).mono ?_
 rintro _ w482 ⟨v485, rfl, hst⟩
 refine ⟨_, z, ?_⟩
 replace hst := hst.of1
 refine ws_next (pend' := [(0, Pt b429 0)]) hst (by kernel_rfl) (pkr z z (fun w hst => z) pk_nil) ?_
 refine wsr (Pt b429 0) 11 z z z (by kernel_rfl) (fun w hst => z) (wsr (Pt b429 0) 12 z z z (by kernel_rfl) (fun w hst => x_field z underlying201 z sizeOf199 z) ?_)
 refine ws_e1 13 (by kernel_rfl) ?_
 refine nxe [] (by kernel_rfl) z z ?_
 clear hst
 intro w hst
 replace hst := hst.pull1
 obtain ⟨w487, hr488, hst⟩ := hst.boxStore1 (P := prog) (t := 199) (cs' := [v485]) 0 v485 (one_of_sliceV (hst.nestsv 1 z)) sizeOf199 z z
 refine we_unit z (x_unit hr488) ?_
 refine ws_next (pend' := []) hst (by kernel_rfl) pk_nil ?_
 refine ws_nil ?_
 intro w hst
 refine tn ?_
 replace hst := hst.pull1.pull1
 replace hst := at_mvcc_Store_close (pv := Pt b429 0) (x := ({ rows := t480 } : mvcc_Store)) hst z
 replace hst := hst.pull2.pull2.pull2.keep3
 obtain rfl := some_inj hm
 exact ⟨({ rows := t480 } : mvcc_Store), _, hx493, (fu 0 (Pt b429 0) z (fu 5 (Pt b424 0) z (fu 6 (.int .i64 t458.1) z z))), hst⟩
}
 {
 replace hm := bif_f hc463 hm
 refine wp_iff (cvb hc463) ?_
 refine wp_skip (tn ?_)
 replace hst := hst.pull2.pull2.pull2.keep3
 obtain rfl := some_inj hm
 exact ⟨o0, _, hx493, (fu 0 (Pt b429 0) z (fu 5 (Pt b424 0) z (fu 6 (.int .i64 t458.1) z z))), hst⟩
}
}
 {
 clear hst
 rintro _ w494 ⟨z489, σ490, hm, rfl, hst⟩
 dsimp only [mvcc_Store_Put_j1] at hm
 refine wp_seq (wrl (wv (Pt b429 0) z z z ?_))
 obtain ⟨b495, v496, e498, hst'⟩ := at_mvcc_Store_open hst
 clear hst
 have e498 := ptr_inj e498
 subst e498
 have hst := hst'
 clear hst'
 refine wv (Pt b429 0) z z z (wv (Pt b429 0) z z (x_field z underlying201 z sizeOf199 z) (wv (v496) z z (x_load z isAgg199 (hst.bc0 z)) (wv (.int .i64 t458.1) z z z ?_)))
 obtain ⟨x499, hx500, hm⟩ := bind_some hm
 obtain ⟨h501, h502, hi503⟩ := geto_some hx500
 refine wv (.pointer (some (eAddr v496 (t458.1.toNat * 2 + 0)))) z z (x_index z z underlying199 sizeOf240 (hst.nestsv 1 z) h501 h502) (wv (.pointer (some (eAddr v496 (t458.1.toNat * 2 + 1)))) z z (x_field_e z underlying240 z sizeOf238 z) ?_)
 replace hst := hst.pull1
 obtain ⟨v504, hst⟩ := hst.nest_focus hi503
 refine wv (v504) z z (x_load z isAgg238 ((hst.holeall (N := nest_mvcc_row) (i := t458.1.toNat) 1 z hi503) 1 _ z)) ?_
 obtain ⟨b507, w508, ew509, eb510, hst⟩ := hst.box [Zs] 238
 refine wl_run (v := Pt b507 0) (w' := w508) z z (x_al (by kernel_rfl) ew509 eb510) ?_
 obtain ⟨w513, hr514, hst⟩ := hst.boxStore1 (P := prog) (t := 238) (cs' := [v504]) 0 v504 (one_of_sliceV hst.sv1) sizeOf238 z z
 refine wl_unit z z (x_unit hr514) ?_
 refine wl_nil (tn (wp_seq (wrl (wv (v504) z z (x_load z isAgg238 (hst.bc0 z)) (wv (.int .i64 ((x499.l).length : Int)) z z (x_len z underlying238 hst.sv1) (wv (.func (.func 184) #[] #[Pt b507 0, Pt b424 0]) z z (by kernel_rfl) ?_))))))
 obtain ⟨y604, hq605, hm⟩ := bind_some hm
 refine wl_call z z (x_callv call179 (caps := []) z (vs := [I6 ((x499.l).length : Int), .func (.func 184) #[] #[Pt b507 0, Pt b424 0]]) z) ?_
 refine Calls.mono (show Calls prog 179 #[I6 ((x499.l).length : Int), .func (.func 184) #[] #[Pt b507 0, Pt b424 0]] _ (fun e w' => ∃ (z602 : Int), z602 = y604 ∧ e = .returned (.int .i64 z602) ∧ St w0 w' I [cells b429 [v496], ownS ty_mvcc_Version v504 x499.l, holeN nest_mvcc_row v496 z489.rows t458.1.toNat v504, cells b424 [U6 a2.Epoch, U6 a2.Index, .bool a2.Del, v446], ownS (tyInt .u8) v446 z447, cells b507 [v504]] R) from ?_) ?_
 {
 clear hm; have hm := hq605
 refine calls_start (args := [I6 ((x499.l).length : Int), .func (.func 184) #[] #[Pt b507 0, Pt b424 0]]) func179 z ntmps179 (Nat.le_of_ble_eq_true z) ?_
 refine wp_seq (wrl (wv (.int .i64 (0:Int)) z z z (wl_nil (tn (wp_seq (wrl (wv (.int .i64 ((x499.l).length : Int)) z z z (wv (.int .i64 (0:Int)) z z z (wv (.int .i64 ((x499.l).length : Int)) z z z (wl_nil (tn (wp_seq (wp_block ?_)))))))))))))
 obtain ⟨n570, hm⟩ := loopO_some hm
 refine wp_loop_n (fun n a w => ∃ (z567 : Int) (z568 : Int) (σ569 : Nat → Value), loopN (mvcc_Store_Put_l2 x499 a2) n (z567, z568) = some y604 ∧ a = Fr 26 (upd (upd (upd σ569 1 (.func (.func 184) #[] #[Pt b507 0, Pt b424 0])) 5 (.int .i64 z567)) 6 (.int .i64 z568)) ∧ St w0 w I [cells b507 [v504], ownS ty_mvcc_Version v504 x499.l, holeN nest_mvcc_row v496 z489.rows t458.1.toNat v504, cells b429 [v496], cells b424 [U6 a2.Epoch, U6 a2.Index, .bool a2.Del, v446], ownS (tyInt .u8) v446 z447] R) n570 ⟨(0:Int), ((x499.l).length : Int), _, hm, (fu 1 (.func (.func 184) #[] #[Pt b507 0, Pt b424 0]) z (fu 5 (.int .i64 (0:Int)) z (fu 6 (.int .i64 ((x499.l).length : Int)) z z))), hst⟩ ?_
 rintro n576 _ w571 ⟨z567, z568, σ569, hm, rfl, hst⟩
 obtain ⟨n573, y574, rfl, hm, hx575⟩ := loopN_some hm
 dsimp only [mvcc_Store_Put_l2] at hm
 refine wp_seq (wp_seq (wrl (wv (.int .i64 z567) z z z (wv (.int .i64 z568) z z z (wv (.bool (decide (z567 < z568))) z z z (wl_nil (tn ?_)))))))
 refine bsplit (decide (z567 < z568)) (fun hc577 => ?_) (fun hc577 => ?_)
 {
 replace hm := bif_t hc577 hm
 refine wp_ift (cvb hc577) ?_
 refine wp_skip (tn (wp_block (wp_seq (wrl ?_))))
 refine wv (.int .i64 z567) z z z (wv (.int .i64 z568) z z z (wv (.int .i64 (i64.wrap (z567 + z568))) z z z (wv (.int .u64 (u64.wrap (i64.wrap (z567 + z568)))) z z (by kernel_rfl) (wv (.int .u64 (iShr .u64 (u64.wrap (i64.wrap (z567 + z568))) (1:Int))) z z (x_shr (by decide) z z) (wv (.int .i64 (i64.wrap (iShr .u64 (u64.wrap (i64.wrap (z567 + z568))) (1:Int)))) z z (by kernel_rfl) (wv (.int .i64 (i64.wrap (iShr .u64 (u64.wrap (i64.wrap (z567 + z568))) (1:Int)))) z z z (wl_nil (tn (wp_seq (wrl (wv (.func (.func 184) #[] #[Pt b507 0, Pt b424 0]) z z z (wv (.int .i64 (i64.wrap (iShr .u64 (u64.wrap (i64.wrap (z567 + z568))) (1:Int)))) z z z ?_))))))))))))
 obtain ⟨y598, hq599, hm⟩ := bind_some hm
 refine wl_call z z (x_callv call184 (caps := [Pt b507 0, Pt b424 0]) z (vs := [I6 (i64.wrap (iShr .u64 (u64.wrap (i64.wrap (z567 + z568))) (1:Int)))]) z) ?_
 refine Calls.mono (show Calls prog 184 #[I6 (i64.wrap (iShr .u64 (u64.wrap (i64.wrap (z567 + z568))) (1:Int))), Pt b507 0, Pt b424 0] _ (fun e w' => ∃ (z596 : Bool), z596 = y598 ∧ e = .returned (.bool z596) ∧ St w0 w' I [cells b429 [v496], ownS ty_mvcc_Version v504 x499.l, holeN nest_mvcc_row v496 z489.rows t458.1.toNat v504, cells b424 [U6 a2.Epoch, U6 a2.Index, .bool a2.Del, v446], ownS (tyInt .u8) v446 z447, cells b507 [v504]] R) from ?_) ?_
 {
 clear hm; have hm := hq599
 refine calls_start (args := [I6 (i64.wrap (iShr .u64 (u64.wrap (i64.wrap (z567 + z568))) (1:Int))), Pt b507 0, Pt b424 0]) func184 z ntmps184 (Nat.le_of_ble_eq_true z) ?_
 refine wp_seq (wrl (wv (.bool false) z z z (wl_nil (tn (wp_seq ?_)))))
 replace hst := hst.pull1
 obtain ⟨css578, hq579, hst⟩ := hst.own_open
 refine wp_region_St hst 11 [0, 1, 2, 3, 4, 5, 6, 7, 8, 9, 10] [0, 0, 3, 7, 0, 16, 0, 64, 255, 511, 1023] [] z (by kernel_rfl) (by kernel_rfl) Tryz.mixed (by kernel_rfl) ?_
 refine wsr (v504) 0 z z z (by kernel_rfl) (fun w hst => x_load z isAgg238 (hst.bc1 z)) (wsr (.int .i64 (i64.wrap (iShr .u64 (u64.wrap (i64.wrap (z567 + z568))) (1:Int)))) 1 z z z (by kernel_rfl) (fun w hst => z) ?_)
 obtain ⟨x580, hx581, hm⟩ := bind_some hm
 obtain ⟨h582, h583, hi584⟩ := geto_some hx581
 refine wsr (.pointer (some (eAddr v504 ((i64.wrap (iShr .u64 (u64.wrap (i64.wrap (z567 + z568))) (1:Int))).toNat * 4 + 0)))) 2 z z z (by kernel_rfl) (fun w hst => x_index z z underlying238 sizeOf214 (hst.rsv 0 z hq579) h582 h583) ?_
 obtain ⟨cs585, hc587, hr586⟩ := Reps.get hq579 hi584
 obtain ⟨v588, rfl, f589, -⟩ := hr586
 refine wsr (.agg #[U6 x580.Epoch, U6 x580.Index, .bool x580.Del, v588]) 3 z z z (by kernel_rfl) (fun w hst => x_loadN (cs := [U6 x580.Epoch, U6 x580.Index, .bool x580.Del, v588]) z isAgg214 sizeOf214 (eCells (o := 0) (hst.rcell 0 z hc587) z)) (wsr (Pt b424 0) 4 z z z (by kernel_rfl) (fun w hst => x_field z underlying214 z sizeOf26 z) (wsr (.int .u64 a2.Epoch) 5 z z z (by kernel_rfl) (fun w hst => x_load z isAgg26 (hst.bc4 z)) (wsr (Pt b424 1) 6 z z z (by kernel_rfl) (fun w hst => x_field z underlying214 z sizeOf26 z) (wsr (.int .u64 a2.Index) 7 z z z (by kernel_rfl) (fun w hst => x_load z isAgg26 (hst.bc4 z)) ?_))))
 refine ws_e1 8 (by kernel_rfl) ?_
 refine nxe [9, 10] (by kernel_rfl) z z ?_
 clear hst
 intro w hst
 obtain ⟨t591, ht592, hm⟩ := bind_some hm
 refine wec call185 [.agg #[U6 x580.Epoch, U6 x580.Index, .bool x580.Del, v588], U6 a2.Epoch, U6 a2.Index] z z ?_
 refine (mvcc_ahead_ref (f589.mono ro_rd) hst.to0 ht592).mono ?_
 rintro _ w593 ⟨rfl, hst⟩
 refine ⟨_, z, ?_⟩
 replace hst := hst.of0
 refine ws_next (pend' := []) hst (by kernel_rfl) pk_nil ?_
 refine wsr (.bool (!t591)) 9 z z z (by kernel_rfl) (fun w hst => z) (wsr (.bool (!t591)) 10 z z z (by kernel_rfl) (fun w hst => z) ?_)
 refine ws_nil ?_
 intro w hst
 replace hst := hst.own_close hq579
 refine tn (wp_ret ?_)
 refine post_ret (vs := [.bool (!t591)]) results184 (rvs_cons (rv_tmp z) rvs_nil) ?_
 replace hst := hst.pull1.pull5.pull5.pull4.pull4.pull5.keep6
 obtain rfl := some_inj hm
 exact ⟨(!t591), z, z, hst⟩
}
 clear hst
 rintro _ w600 ⟨z596, rfl, rfl, hst⟩
 refine ⟨_, z, ?_⟩
 try dsimp only at hm
 refine wv (.bool (!z596)) z z z (wl_nil (tn ?_))
 refine bsplit (!z596) (fun hc601 => ?_) (fun hc601 => ?_)
 {
 replace hm := bif_t hc601 hm
 refine wp_ift (cvb hc601) ?_
 refine wrl (wv (.int .i64 (i64.wrap (iShr .u64 (u64.wrap (i64.wrap (z567 + z568))) (1:Int)))) z z z (wv (.int .i64 (i64.wrap ((i64.wrap (iShr .u64 (u64.wrap (i64.wrap (z567 + z568))) (1:Int))) + (1:Int)))) z z z (wv (.int .i64 (i64.wrap ((i64.wrap (iShr .u64 (u64.wrap (i64.wrap (z567 + z568))) (1:Int))) + (1:Int)))) z z z (wl_nil (blk_n (tn ?_))))))
 replace hst := hst.pull4.pull4.pull2.pull4.pull4.pull5.keep6
 obtain rfl := some_inj hm
 exact ⟨_, Nat.lt_succ_self _, (i64.wrap ((i64.wrap (iShr .u64 (u64.wrap (i64.wrap (z567 + z568))) (1:Int))) + (1:Int))), z568, _, hx575, (fu 1 (.func (.func 184) #[] #[Pt b507 0, Pt b424 0]) z (fu 5 (.int .i64 (i64.wrap ((i64.wrap (iShr .u64 (u64.wrap (i64.wrap (z567 + z568))) (1:Int))) + (1:Int)))) z (fu 6 (.int .i64 z568) z z))), hst⟩
}
 {
 replace hm := bif_f hc601 hm
 refine wp_iff (cvb hc601) ?_
 refine wrl (wv (.int .i64 (i64.wrap (iShr .u64 (u64.wrap (i64.wrap (z567 + z568))) (1:Int)))) z z z (wv (.int .i64 (i64.wrap (iShr .u64 (u64.wrap (i64.wrap (z567 + z568))) (1:Int)))) z z z (wl_nil (blk_n (tn ?_)))))
 replace hst := hst.pull4.pull4.pull2.pull4.pull4.pull5.keep6
 obtain rfl := some_inj hm
 exact ⟨_, Nat.lt_succ_self _, z567, (i64.wrap (iShr .u64 (u64.wrap (i64.wrap (z567 + z568))) (1:Int))), _, hx575, (fu 1 (.func (.func 184) #[] #[Pt b507 0, Pt b424 0]) z (fu 5 (.int .i64 z567) z (fu 6 (.int .i64 (i64.wrap (iShr .u64 (u64.wrap (i64.wrap (z567 + z568))) (1:Int)))) z z))), hst⟩
}
}
 {
 replace hm := bif_f hc577 hm
 refine wp_iff (cvb hc577) ?_
 refine wp_exit (then_x (then_x ?_))
 replace hm := inr_up hm hx575
 refine blk_x (tn (wp_seq (wrl ?_)))
 refine wv (.int .i64 z567) z z z (wv (.int .i64 z567) z z z (wl_nil (tn (wp_ret ?_))))
 refine post_ret (vs := [I6 z567]) results179 (rvs_cons (rv_tmp z) rvs_nil) ?_
 replace hst := hst.pull5.pull5.pull4.pull4.pull5.keep6
 obtain rfl := some_inj hm
 exact ⟨z567, z, z, hst⟩
}
}
 clear hst
 rintro _ w606 ⟨z602, rfl, rfl, hst⟩
 refine ⟨_, z, ?_⟩
 try dsimp only at hm
 refine wv (.int .i64 z602) z z z (wl_nil (tn ?_))
 obtain ⟨y639, hm, hx640⟩ := joinO_some hm
 refine wp_cut (fun a w => ∃ (I636 : HL) (σ637 : Nat → Value), (mvcc_Store_Put_j3 x499 z602 a2 z447 z489 t458) () = some r ∧ a = Fr 93 (upd (upd (upd (upd (upd σ637 0 (Pt b429 0)) 5 (Pt b424 0)) 6 (.int .i64 t458.1)) 8 (Pt b507 0)) 9 (.int .i64 z602)) ∧ I.le I636 ∧ St w0 w I636 [cells b429 [v496], ownS ty_mvcc_Version v504 x499.l, holeN nest_mvcc_row v496 z489.rows t458.1.toNat v504, cells b424 [U6 a2.Epoch, U6 a2.Index, .bool a2.Del, v446], ownS (tyInt .u8) v446 z447, cells b507 [v504]] R) ?_ ?_
 {
 have hL641 := HL.le.refl I
 refine wp_seq ?_
 replace hst := hst.pull1
 obtain ⟨css607, hq608, hst⟩ := hst.own_open
 refine wq_regionS hst Tryz.mixed (by kernel_rfl) ?_
 refine wq_run (v := .int .i64 z602) z z (fun w hst => z) ?_
 refine wq_run (v := v504) z z (fun w hst => x_load z isAgg238 (hst.bc5 z)) ?_
 refine wq_run (v := .int .i64 ((x499.l).length : Int)) z z (fun w hst => x_len z underlying238 (hst.rsv 0 z hq608)) ?_
 refine wq_run (v := .bool (decide (z602 < ((x499.l).length : Int)))) z z (fun w hst => z) ?_
 refine wq_run (v := .bool (decide (z602 < ((x499.l).length : Int)))) z z (fun w hst => z) ?_
 refine bsplit (decide (z602 < ((x499.l).length : Int))) (fun hc609 => ?_) (fun hc609 => ?_)
 {
 replace hm := bif_t hc609 hm
 refine wq_run (v := v504) ((wanted_eq z z z (cvb hc609)).trans z) z (fun w hst => x_load z isAgg238 (hst.bc5 z)) ?_
 refine wq_run (v := .int .i64 z602) ((wanted_eq z z z (cvb hc609)).trans z) z (fun w hst => z) ?_
 obtain ⟨x610, hx611, hm⟩ := bind_some hm
 obtain ⟨h612, h613, hi614⟩ := geto_some hx611
 refine wq_run (v := .pointer (some (eAddr v504 (z602.toNat * 4 + 0)))) ((wanted_eq z z z (cvb hc609)).trans z) z (fun w hst => x_index z z underlying238 sizeOf214 (hst.rsv 0 z hq608) h612 h613) ?_
 refine wq_run (v := .pointer (some (eAddr v504 (z602.toNat * 4 + 0)))) ((wanted_eq z z z (cvb hc609)).trans z) z (fun w hst => x_field_e z underlying214 z sizeOf26 z) ?_
 obtain ⟨cs615, hc617, hr616⟩ := Reps.get hq608 hi614
 obtain ⟨v618, rfl, f619, -⟩ := hr616
 refine wq_run (v := .int .u64 x610.Epoch) ((wanted_eq z z z (cvb hc609)).trans z) z (fun w hst => x_load z isAgg26 ((hst.rcell 0 z hc617) 0 _ z)) ?_
 refine wq_run (v := Pt b424 0) ((wanted_eq z z z (cvb hc609)).trans z) z (fun w hst => x_field z underlying214 z sizeOf26 z) ?_
 refine wq_run (v := .int .u64 a2.Epoch) ((wanted_eq z z z (cvb hc609)).trans z) z (fun w hst => x_load z isAgg26 (hst.bc3 z)) ?_
 refine wq_run (v := .bool (x610.Epoch == a2.Epoch)) ((wanted_eq z z z (cvb hc609)).trans z) z (fun w hst => z) ?_
 refine wq_run (v := .bool (x610.Epoch == a2.Epoch)) z z (fun w hst => x_pick_t hc609 z z) ?_
 refine wq_run (v := .bool (x610.Epoch == a2.Epoch)) z z (fun w hst => z) ?_
 refine bsplit (x610.Epoch == a2.Epoch) (fun hc621 => ?_) (fun hc621 => ?_)
 {
 replace hm := bif_t hc621 hm
 refine wq_run (v := v504) ((wanted_eq z z z (cvb hc621)).trans z) z (fun w hst => x_load z isAgg238 (hst.bc5 z)) ?_
 refine wq_run (v := .int .i64 z602) ((wanted_eq z z z (cvb hc621)).trans z) z (fun w hst => z) ?_
 refine wq_run (v := .pointer (some (eAddr v504 (z602.toNat * 4 + 0)))) ((wanted_eq z z z (cvb hc621)).trans z) z (fun w hst => x_index z z underlying238 sizeOf214 (hst.rsv 0 z hq608) h612 h613) ?_
 refine wq_run (v := .pointer (some (eAddr v504 (z602.toNat * 4 + 1)))) ((wanted_eq z z z (cvb hc621)).trans z) z (fun w hst => x_field_e z underlying214 z sizeOf26 z) ?_
 refine wq_run (v := .int .u64 x610.Index) ((wanted_eq z z z (cvb hc621)).trans z) z (fun w hst => x_load z isAgg26 ((hst.rcell 0 z hc617) 1 _ z)) ?_
 refine wq_run (v := Pt b424 1) ((wanted_eq z z z (cvb hc621)).trans z) z (fun w hst => x_field z underlying214 z sizeOf26 z) ?_
 refine wq_run (v := .int .u64 a2.Index) ((wanted_eq z z z (cvb hc621)).trans z) z (fun w hst => x_load z isAgg26 (hst.bc3 z)) ?_
 refine wq_run (v := .bool (x610.Index == a2.Index)) ((wanted_eq z z z (cvb hc621)).trans z) z (fun w hst => z) ?_
 refine wq_run (v := .bool (x610.Index == a2.Index)) z z (fun w hst => x_pick_t hc621 z z) ?_
 refine wq_nil ?_
 intro w hst
 replace hst := hst.own_close hq608
 refine tn ?_
 refine bsplit (x610.Index == a2.Index) (fun hc622 => ?_) (fun hc622 => ?_)
 {
 replace hm := bif_t hc622 hm
 refine wp_ift (cvb hc622) ?_
 refine wp_seq (wrl (wv (v504) z z (x_load z isAgg238 (hst.bc5 z)) (wv (.int .i64 z602) z z z (wv (.agg #[U6 a2.Epoch, U6 a2.Index, .bool a2.Del, v446]) z z (x_loadN (cs := [U6 a2.Epoch, U6 a2.Index, .bool a2.Del, v446]) z isAgg214 sizeOf214 (hst.bcs3 0 z)) (wv (.pointer (some (eAddr v504 (z602.toNat * 4 + 0)))) z z (x_index z z underlying238 sizeOf214 hst.sv0 h612 h613) ?_)))))
 obtain ⟨cs623, hr624, hc625⟩ := hst.og0 hi614
 obtain ⟨v626, rfl, f627, -⟩ := hr624
 replace hst := hst.pull4
 obtain ⟨I629, hI630, f631, hst⟩ := hst.own_fix
 replace f2_0 := f2_0.mono (rd_le hI630)
 replace f619 := f619.mono (ro_le hI630)
 replace f627 := f627.mono (ro_le hI630)
 replace hI0 := hI0.trans hI630
 replace hL641 := hL641.trans hI630
 obtain ⟨w632, hr633, hst⟩ := hst.own_store (P := prog) (t := 214) (y := ({ Epoch := a2.Epoch, Index := a2.Index, Del := a2.Del, Val := z447 } : mvcc_Version)) hi614 0 (.agg #[U6 a2.Epoch, U6 a2.Index, .bool a2.Del, v446]) sizeOf214 (Nat.le_of_ble_eq_true z) (oC z (oC z (oC z (oC (one_of_sliceV (ro_sliceV f631)) oN)))) (fun cs h => ⟨_, setMany_all (ty_mvcc_Version.len h) z, f631, one_of_sliceV (ro_sliceV f631)⟩)
 have hi634 := set_get hi614 ({ Epoch := a2.Epoch, Index := a2.Index, Del := a2.Del, Val := z447 } : mvcc_Version)
 have h635 := set_lt h613 z602.toNat ({ Epoch := a2.Epoch, Index := a2.Index, Del := a2.Del, Val := z447 } : mvcc_Version)
 refine wl_unit z z (x_unit hr633) ?_
 refine wl_nil (tn (wp_ret (then_r ?_)))
 replace hm := inr_up hm hx640
 replace hst := hst.pull2.pull1
 replace hst := St.nest_close (N := nest_mvcc_row) hst hi503
 replace hst := hst.pull1
 replace hst := at_mvcc_Store_close (pv := Pt b429 0) (x := ({ rows := (z489.rows.set t458.1.toNat ({ rank := x499.rank, l := (x499.l.set z602.toNat ({ Epoch := a2.Epoch, Index := a2.Index, Del := a2.Del, Val := z447 } : mvcc_Version)) } : mvcc_row)) } : mvcc_Store)) hst z
 replace hst := objO_some hst
 obtain rfl := some_inj hm
 refine post_ret (vs := []) results123 rvs_nil ?_
 exact ⟨_, z, hI0, hst.keep1⟩
}
 {
 replace hm := bif_f hc622 hm
 refine wp_iff (cvb hc622) ?_
 refine wp_skip (tn ?_)
 replace hst := hst.pull5.pull5.pull5.pull5.pull4.pull5.keep6
 obtain rfl := some_inj hm
 exact ⟨_, _, hx640, (fu 0 (Pt b429 0) z (fu 5 (Pt b424 0) z (fu 6 (.int .i64 t458.1) z (fu 8 (Pt b507 0) z (fu 9 (.int .i64 z602) z z))))), hL641, hst⟩
}
}
 {
 replace hm := bif_f hc621 hm
 refine wq_off ((wanted_eq z z z (cvb hc621)).trans z) z ?_
 refine wq_off ((wanted_eq z z z (cvb hc621)).trans z) z ?_
 refine wq_off ((wanted_eq z z z (cvb hc621)).trans z) z ?_
 refine wq_off ((wanted_eq z z z (cvb hc621)).trans z) z ?_
 refine wq_off ((wanted_eq z z z (cvb hc621)).trans z) z ?_
 refine wq_off ((wanted_eq z z z (cvb hc621)).trans z) z ?_
 refine wq_off ((wanted_eq z z z (cvb hc621)).trans z) z ?_
 refine wq_off ((wanted_eq z z z (cvb hc621)).trans z) z ?_
 refine wq_run (v := .bool false) z z (fun w hst => x_pick_f hc621 z z) ?_
 refine wq_nil ?_
 intro w hst
 replace hst := hst.own_close hq608
 refine tn ?_
 refine wp_iff z ?_
 refine wp_skip (tn ?_)
 replace hst := hst.pull5.pull5.pull5.pull5.pull4.pull5.keep6
 obtain rfl := some_inj hm
 exact ⟨_, _, hx640, (fu 0 (Pt b429 0) z (fu 5 (Pt b424 0) z (fu 6 (.int .i64 t458.1) z (fu 8 (Pt b507 0) z (fu 9 (.int .i64 z602) z z))))), hL641, hst⟩
}
}
 {
 replace hm := bif_f hc609 hm
 refine wq_off ((wanted_eq z z z (cvb hc609)).trans z) z ?_
 refine wq_off ((wanted_eq z z z (cvb hc609)).trans z) z ?_
 refine wq_off ((wanted_eq z z z (cvb hc609)).trans z) z ?_
 refine wq_off ((wanted_eq z z z (cvb hc609)).trans z) z ?_
 refine wq_off ((wanted_eq z z z (cvb hc609)).trans z) z ?_
 refine wq_off ((wanted_eq z z z (cvb hc609)).trans z) z ?_
 refine wq_off ((wanted_eq z z z (cvb hc609)).trans z) z ?_
 refine wq_off ((wanted_eq z z z (cvb hc609)).trans z) z ?_
 refine wq_run (v := .bool false) z z (fun w hst => x_pick_f hc609 z z) ?_
 refine wq_run (v := .bool false) z z (fun w hst => z) ?_
 refine wq_off ((wanted_eq z z z z).trans z) z ?_
 refine wq_off ((wanted_eq z z z z).trans z) z ?_
 refine wq_off ((wanted_eq z z z z).trans z) z ?_
 refine wq_off ((wanted_eq z z z z).trans z) z ?_
 refine wq_off ((wanted_eq z z z z).trans z) z ?_
 refine wq_off ((wanted_eq z z z z).trans z) z ?_
 refine wq_off ((wanted_eq z z z z).trans z) z ?_
 refine wq_off ((wanted_eq z z z z).trans z) z ?_
 refine wq_run (v := .bool false) z z (fun w hst => x_pick_f z z z) ?_
 refine wq_nil ?_
 intro w hst
 replace hst := hst.own_close hq608
 refine tn ?_
 refine wp_iff z ?_
 refine wp_skip (tn ?_)
 replace hst := hst.pull5.pull5.pull5.pull5.pull4.pull5.keep6
 obtain rfl := some_inj hm
 exact ⟨_, _, hx640, (fu 0 (Pt b429 0) z (fu 5 (Pt b424 0) z (fu 6 (.int .i64 t458.1) z (fu 8 (Pt b507 0) z (fu 9 (.int .i64 z602) z z))))), hL641, hst⟩
}
}
 {
 clear hst
 rintro _ w642 ⟨I636, σ637, hm, rfl, hL638, hst⟩
 dsimp only [mvcc_Store_Put_j3] at hm
 replace f2_0 := f2_0.mono (rd_le hL638)
 replace hI0 := hI0.trans hL638
 refine wp_region_St hst 13 [0, 1, 2, 3, 4, 5, 6, 7, 8, 9, 10, 11, 12] [0, 1, 3, 7, 0, 0, 0, 0, 128, 480, 1023, 2047, 4095] [] z (by kernel_rfl) (by kernel_rfl) Tryz.mixed (by kernel_rfl) ?_
 refine wsr (Pt b429 0) 0 z z z (by kernel_rfl) (fun w hst => z) (wsr (Pt b429 0) 1 z z z (by kernel_rfl) (fun w hst => z) (wsr (Pt b429 0) 2 z z z (by kernel_rfl) (fun w hst => x_field z underlying201 z sizeOf199 z) (wsr (v496) 3 z z z (by kernel_rfl) (fun w hst => x_load z isAgg199 (hst.bc0 z)) (wsr (.int .i64 t458.1) 4 z z z (by kernel_rfl) (fun w hst => z) (wsr (v504) 5 z z z (by kernel_rfl) (fun w hst => x_load z isAgg238 (hst.bc5 z)) (wsr (.int .i64 z602) 6 z z z (by kernel_rfl) (fun w hst => z) (wsr (.agg #[U6 a2.Epoch, U6 a2.Index, .bool a2.Del, v446]) 7 z z z (by kernel_rfl) (fun w hst => x_loadN (cs := [U6 a2.Epoch, U6 a2.Index, .bool a2.Del, v446]) z isAgg214 sizeOf214 (hst.bcs3 0 z)) ?_)))))))
 refine ws_e1 8 (by kernel_rfl) ?_
 refine nxe [9, 10, 11, 12] (by kernel_rfl) z z ?_
 clear hst
 intro w hst
 replace hst := hst.pull4
 obtain ⟨I644, hI645, f646, hst⟩ := hst.own_fix
 replace f2_0 := f2_0.mono (rd_le hI645)
 replace hI0 := hI0.trans hI645
 obtain ⟨b647, w648, ew649, eb650, hst⟩ := hst.lits (E := ty_mvcc_Version) (xs := [({ Epoch := a2.Epoch, Index := a2.Index, Del := a2.Del, Val := z447 } : mvcc_Version)]) [[U6 a2.Epoch, U6 a2.Index, .bool a2.Del, v446]] 214 1 z (Reps.cons ⟨_, z, f646, one_of_sliceV (ro_sliceV f646)⟩ Reps.nil)
 refine we_run (v := (.slice (some ⟨b647, 0, none⟩) 1 1)) (w' := w648) z (x_als (by kernel_rfl) ew649 eb650) ?_
 refine ws_next (pend' := [(6, I6 z602), (5, v504), (4, I6 t458.1), (3, v496), (2, Pt b429 0), (1, Pt b429 0), (0, Pt b429 0)]) hst (by kernel_rfl) (pkr z z (fun w hst => z) (pkr z z (fun w hst => x_load z isAgg238 (hst.bc5 z)) (pkr z z (fun w hst => z) (pkr z z (fun w hst => x_load z isAgg199 (hst.bc1 z)) (pkr z z (fun w hst => x_field z underlying201 z sizeOf199 z) (pkr z z (fun w hst => z) (pkr z z (fun w hst => z) pk_nil))))))) ?_
 refine ws_e1 9 (by kernel_rfl) ?_
 refine nxe [10, 11, 12] (by kernel_rfl) z z ?_
 clear hst
 intro w hst
 replace hst := hst.pull2
 obtain ⟨t652, ht653, hm⟩ := bind_some hm
 refine wec call186 [v504, I6 z602, (.slice (some ⟨b647, 0, none⟩) 1 1)] z z ?_
 refine (slices_Insert_mvcc_Version_mvcc_Version_ref hst.to2 ht653).mono ?_
 rintro _ w654 ⟨v657, rfl, hst⟩
 refine ⟨_, z, ?_⟩
 replace hst := hst.of1
 refine ws_next (pend' := [(4, I6 t458.1), (3, v496), (2, Pt b429 0), (1, Pt b429 0), (0, Pt b429 0)]) hst (by kernel_rfl) (pkr z z (fun w hst => z) (pkr z z (fun w hst => x_load z isAgg199 (hst.bc1 z)) (pkr z z (fun w hst => x_field z underlying201 z sizeOf199 z) (pkr z z (fun w hst => z) (pkr z z (fun w hst => z) pk_nil))))) ?_
 refine wsr (.pointer (some (eAddr v496 (t458.1.toNat * 2 + 0)))) 10 z z z (by kernel_rfl) (fun w hst => x_index z z underlying199 sizeOf240 (hst.holesv 2 z) h501 h502) (wsr (.pointer (some (eAddr v496 (t458.1.toNat * 2 + 1)))) 11 z z z (by kernel_rfl) (fun w hst => x_field_e z underlying240 z sizeOf238 z) ?_)
 refine ws_e1 12 (by kernel_rfl) ?_
 refine nxe [] (by kernel_rfl) z z ?_
 clear hst
 intro w hst
 replace hst := hst.pull2
 obtain ⟨w659, hr660, hst⟩ := hst.hole_store (P := prog) (t := 238) hi503 hst.sv1 sizeOf238
 refine we_unit z (x_unit hr660) ?_
 refine ws_next (pend' := []) hst (by kernel_rfl) pk_nil ?_
 refine ws_nil ?_
 intro w hst
 replace hst := hst.pull1
 replace hst := St.nest_close (N := nest_mvcc_row) hst hi503
 replace hst := hst.pull1
 replace hst := at_mvcc_Store_close (pv := Pt b429 0) (x := ({ rows := (z489.rows.set t458.1.toNat ({ rank := x499.rank, l := t652 } : mvcc_row)) } : mvcc_Store)) hst z
 replace hst := objO_some hst
 obtain rfl := some_inj hm
 refine post_end (vs := []) results123 rvs_nil ?_
 exact ⟨_, z, hI0, hst.keep1⟩
}
}
}
}
}

theorem lane_State_finish_ref {w0 w : World} {I : HL} {R : SP} {a0 : (Option lane_State)} {p0 : Value} {a1 : api_Command} {r1_0 : Value} {r1_1 : Value} {r1_2 : Value} {r1_3 : Value} {r1_4 : Value} {r1_5 : Value} {r1_6 : Value} {r1_7 : Value} (f1_0 : Rd tyF64 R I r1_0 a1.Hold.Gets) (f1_1 : Rd tyF2 R I r1_1 a1.Hold.Scans) (f1_2 : Rd tyF64 R I r1_2 a1.Hold.Puts) (f1_3 : Rd (tyInt .u8) R I r1_3 a1.Hold.Data) (f1_4 : Rd ty_api_Write R I r1_4 a1.Writes) (f1_5 : Rd ty_api_Got R I r1_5 a1.R.Gots) (f1_6 : Rd (tySl ty_api_Pair) R I r1_6 a1.R.Scans) (f1_7 : Rd ty_api_Part R I r1_7 a1.Parts) (hst : St w0 w I [objO at_lane_State p0 a0] R) {r : (api_Effect × (Option lane_State))} (hm : lane_State_finish a0 a1 = some r) :
  Calls prog 49 #[p0, .agg #[U1 a1.Kind, U6 a1.ID.Session, U6 a1.ID.Seq, U6 a1.Epoch, U6 a1.Index, I6 a1.E, U6 a1.Hold.ID.Session, U6 a1.Hold.ID.Seq, U6 a1.Hold.Epoch, r1_0, r1_1, r1_2, r1_3, r1_4, I6 a1.R.E, U6 a1.R.Epoch, U6 a1.R.Index, r1_5, r1_6, U6 a1.Shards, r1_7, U6 a1.Rule.ID, I6 a1.Rule.From, I6 a1.Rule.To, F6 a1.Rule.Lo, F6 a1.Rule.Hi, U6 a1.Rule.Authority, I6 a1.Rule.Quota, .bool a1.On]] w fun e w' => ∃ (I' : HL) (q0_0 : Value) (q0_1 : Value), e = .returned (.agg #[U1 r.1.Kind, U6 r.1.ID.Session, U6 r.1.ID.Seq, I6 r.1.R.E, U6 r.1.R.Epoch, U6 r.1.R.Index, q0_0, q0_1]) ∧ I.le I' ∧ St w0 w' I' [ownS ty_api_Got q0_0 r.1.R.Gots, ownS (tySl ty_api_Pair) q0_1 r.1.R.Scans, objO at_lane_State p0 r.2] R := by {
 rcases a0 with _ | o0
 {
 obtain ⟨rfl, hst'⟩ := objO_none hst
 clear hst
 have hst := hst'
 clear hst'
 dsimp only [lane_State_finish] at hm
 refine calls_start (args := [.pointer none, .agg #[U1 a1.Kind, U6 a1.ID.Session, U6 a1.ID.Seq, U6 a1.Epoch, U6 a1.Index, I6 a1.E, U6 a1.Hold.ID.Session, U6 a1.Hold.ID.Seq, U6 a1.Hold.Epoch, r1_0, r1_1, r1_2, r1_3, r1_4, I6 a1.R.E, U6 a1.R.Epoch, U6 a1.R.Index, r1_5, r1_6, U6 a1.Shards, r1_7, U6 a1.Rule.ID, I6 a1.Rule.From, I6 a1.Rule.To, F6 a1.Rule.Lo, F6 a1.Rule.Hi, U6 a1.Rule.Authority, I6 a1.Rule.Quota, .bool a1.On]]) func49 z ntmps49 (Nat.le_of_ble_eq_true z) ?_
 have hI0 := HL.le.refl I
 refine wp_seq (wrl ?_)
 obtain ⟨b313, w314, ew315, eb316, hst⟩ := hst.box [U1 a1.Kind, U6 a1.ID.Session, U6 a1.ID.Seq, U6 a1.Epoch, U6 a1.Index, I6 a1.E, U6 a1.Hold.ID.Session, U6 a1.Hold.ID.Seq, U6 a1.Hold.Epoch, r1_0, r1_1, r1_2, r1_3, r1_4, I6 a1.R.E, U6 a1.R.Epoch, U6 a1.R.Index, r1_5, r1_6, U6 a1.Shards, r1_7, U6 a1.Rule.ID, I6 a1.Rule.From, I6 a1.Rule.To, F6 a1.Rule.Lo, F6 a1.Rule.Hi, U6 a1.Rule.Authority, I6 a1.Rule.Quota, .bool a1.On] 49
 refine wl_run (v := Pt b313 0) (w' := w314) z z (x_al (by kernel_rfl) ew315 eb316) ?_
 obtain ⟨b320, w321, ew322, eb323, hst⟩ := hst.box [Zb, Zu, Zu, Zi, Zu, Zu, Zs, Zs] 35
 refine wl_run (v := Pt b320 0) (w' := w321) z z (x_al (by kernel_rfl) ew322 eb323) ?_
 refine wl_nil (tn (wp_seq (wp_seq ?_)))
 refine wp_region_St hst 12 [0, 1, 2, 3, 4, 5, 6, 7, 8, 9, 10, 11] [0, 1, 3, 7, 0, 16, 63, 127, 255, 511, 1023, 2047] [] z (by kernel_rfl) (by kernel_rfl) Tryz.mixed (by kernel_rfl) ?_
 refine wsr (.pointer none) 0 z z z (by kernel_rfl) (fun w hst => z) ?_
 cases hm
}
 {
 replace hst := objO_get hst
 dsimp only [lane_State_finish] at hm
 refine calls_start (args := [p0, .agg #[U1 a1.Kind, U6 a1.ID.Session, U6 a1.ID.Seq, U6 a1.Epoch, U6 a1.Index, I6 a1.E, U6 a1.Hold.ID.Session, U6 a1.Hold.ID.Seq, U6 a1.Hold.Epoch, r1_0, r1_1, r1_2, r1_3, r1_4, I6 a1.R.E, U6 a1.R.Epoch, U6 a1.R.Index, r1_5, r1_6, U6 a1.Shards, r1_7, U6 a1.Rule.ID, I6 a1.Rule.From, I6 a1.Rule.To, F6 a1.Rule.Lo, F6 a1.Rule.Hi, U6 a1.Rule.Authority, I6 a1.Rule.Quota, .bool a1.On]]) func49 z ntmps49 (Nat.le_of_ble_eq_true z) ?_
 have hI0 := HL.le.refl I
 refine wp_seq (wrl ?_)
 obtain ⟨b325, w326, ew327, eb328, hst⟩ := hst.box [U1 a1.Kind, U6 a1.ID.Session, U6 a1.ID.Seq, U6 a1.Epoch, U6 a1.Index, I6 a1.E, U6 a1.Hold.ID.Session, U6 a1.Hold.ID.Seq, U6 a1.Hold.Epoch, r1_0, r1_1, r1_2, r1_3, r1_4, I6 a1.R.E, U6 a1.R.Epoch, U6 a1.R.Index, r1_5, r1_6, U6 a1.Shards, r1_7, U6 a1.Rule.ID, I6 a1.Rule.From, I6 a1.Rule.To, F6 a1.Rule.Lo, F6 a1.Rule.Hi, U6 a1.Rule.Authority, I6 a1.Rule.Quota, .bool a1.On] 49
 refine wl_run (v := Pt b325 0) (w' := w326) z z (x_al (by kernel_rfl) ew327 eb328) ?_
 obtain ⟨b332, w333, ew334, eb335, hst⟩ := hst.box [Zb, Zu, Zu, Zi, Zu, Zu, Zs, Zs] 35
 refine wl_run (v := Pt b332 0) (w' := w333) z z (x_al (by kernel_rfl) ew334 eb335) ?_
 refine wl_nil (tn (wp_seq (wp_seq ?_)))
 replace hst := hst.pull2
 obtain ⟨b337, v338, v340, v342, v344, v346, v348, v350, rfl, hst'⟩ := at_lane_State_open hst
 clear hst
 have hst := hst'
 clear hst'
 refine wp_region_St hst 12 [0, 1, 2, 3, 4, 5, 6, 7, 8, 9, 10, 11] [0, 1, 3, 7, 0, 16, 63, 127, 255, 511, 1023, 2047] [] z (by kernel_rfl) (by kernel_rfl) Tryz.mixed (by kernel_rfl) ?_
 refine wsr (Pt b337 0) 0 z z z (by kernel_rfl) (fun w hst => z) (wsr (Pt b337 0) 1 z z z (by kernel_rfl) (fun w hst => z) (wsr (Pt b337 3) 2 z z z (by kernel_rfl) (fun w hst => x_field z underlying111 z sizeOf103 z) (wsr (v340) 3 z z z (by kernel_rfl) (fun w hst => x_load z isAgg103 (hst.bc0 z)) (wsr (Pt b325 1) 4 z z z (by kernel_rfl) (fun w hst => x_field z underlying49 z sizeOf28 z) (wsr (.agg #[U6 a1.ID.Session, U6 a1.ID.Seq]) 5 z z z (by kernel_rfl) (fun w hst => x_loadN (cs := [U6 a1.ID.Session, U6 a1.ID.Seq]) z isAgg28 sizeOf28 (hst.bcs9 1 z)) ?_)))))
 refine ws_e1 6 (by kernel_rfl) ?_
 refine nxe [7, 8, 9, 10, 11] (by kernel_rfl) z z ?_
 clear hst
 intro w hst
 replace hst := hst.pull2
 obtain ⟨t352, ht353, hm⟩ := bind_some hm
 refine wec call122 [v340, .agg #[U6 a1.ID.Session, U6 a1.ID.Seq]] z z ?_
 refine (locks_Table_Drop_ref hst.to1 ht353).mono ?_
 rintro _ w354 ⟨rfl, hst⟩
 refine ⟨_, z, ?_⟩
 replace hst := hst.of1
 refine ws_next (pend' := []) hst (by kernel_rfl) pk_nil ?_
 refine wsr (.bool t352.1) 7 z z z (by kernel_rfl) (fun w hst => z) ?_
 refine bsplit t352.1 (fun hc357 => ?_) (fun hc357 => ?_)
 {
 replace hm := bif_t hc357 hm
 refine ws_q (v := Pt b325 5) 8 [9, 10, 11] (by kernel_rfl) z z (yi_run ((wanted_eq z z z (cvb hc357)).trans z) (fun w hst => x_field z underlying49 z sizeOf29 z)) (ws_q (v := .int .i64 a1.E) 9 [10, 11] (by kernel_rfl) z z (yi_run ((wanted_eq z z z (cvb hc357)).trans z) (fun w hst => x_load z isAgg29 (hst.bc9 z))) (ws_q (v := .bool (a1.E == (0:Int))) 10 [11] (by kernel_rfl) z z (yi_run ((wanted_eq z z z (cvb hc357)).trans z) (fun w hst => z)) (wsr (.bool (a1.E == (0:Int))) 11 z z z (by kernel_rfl) (fun w hst => x_pick_t hc357 z z) ?_)))
 refine ws_nil ?_
 intro w hst
 refine tn ?_
 refine bsplit (a1.E == (0:Int)) (fun hc358 => ?_) (fun hc358 => ?_)
 {
 replace hm := bif_t hc358 hm
 refine wp_ift (cvb hc358) ?_
 refine wp_seq (wrl (wv (Pt b325 13) z z (x_field z underlying49 z sizeOf42 z) (wv (r1_4) z z (x_load z isAgg42 (hst.bc9 z)) (wv (.int .i64 ((a1.Writes).length : Int)) z z (x_len z underlying42 (rd_sliceV f1_4)) (wv (.int .i64 (0:Int)) z z z (wl_nil (tn (wp_block ?_))))))))
 replace hst := hst.pull7.pull7.pull7.pull7.pull7.pull5.pull7.pull7
 replace hst := at_lane_State_close (pv := Pt b337 0) (x := ({ wide := o0.wide, epoch := o0.epoch, store := o0.store, locks := t352.2, last := o0.last, book := o0.book, open_ := o0.open_, out := o0.out, used := o0.used } : lane_State)) hst z
 obtain ⟨n449, hm⟩ := loopO_some hm
 refine wp_loop_n (fun n a w => ∃ (I447 : HL) (z445 : lane_State) (z446 : Int) (σ448 : Nat → Value), loopN (lane_State_finish_l0 a1) n (z445, z446) = some r ∧ a = Fr 46 (upd (upd (upd (upd (upd (upd σ448 0 (Pt b337 0)) 3 (Pt b325 0)) 4 (Pt b332 0)) 20 (r1_4)) 21 (.int .i64 ((a1.Writes).length : Int))) 22 (.int .i64 z446)) ∧ I.le I447 ∧ St w0 w I447 [at_lane_State (Pt b337 0) z445, cells b332 [Zb, Zu, Zu, Zi, Zu, Zu, Zs, Zs], cells b325 [U1 a1.Kind, U6 a1.ID.Session, U6 a1.ID.Seq, U6 a1.Epoch, U6 a1.Index, I6 a1.E, U6 a1.Hold.ID.Session, U6 a1.Hold.ID.Seq, U6 a1.Hold.Epoch, r1_0, r1_1, r1_2, r1_3, r1_4, I6 a1.R.E, U6 a1.R.Epoch, U6 a1.R.Index, r1_5, r1_6, U6 a1.Shards, r1_7, U6 a1.Rule.ID, I6 a1.Rule.From, I6 a1.Rule.To, F6 a1.Rule.Lo, F6 a1.Rule.Hi, U6 a1.Rule.Authority, I6 a1.Rule.Quota, .bool a1.On]] R) n449 ⟨_, ({ wide := o0.wide, epoch := o0.epoch, store := o0.store, locks := t352.2, last := o0.last, book := o0.book, open_ := o0.open_, out := o0.out, used := o0.used } : lane_State), (0:Int), _, hm, (fu 0 (Pt b337 0) z (fu 3 (Pt b325 0) z (fu 4 (Pt b332 0) z (fu 20 r1_4 z (fu 21 (.int .i64 ((a1.Writes).length : Int)) z (fu 22 (.int .i64 (0:Int)) z z)))))), (HL.le.refl _), hst⟩ ?_
 rintro n455 _ w450 ⟨I447, z445, z446, σ448, hm, rfl, hL451, hst⟩
 obtain ⟨n452, y453, rfl, hm, hx454⟩ := loopN_some hm
 dsimp only [lane_State_finish_l0] at hm
 replace f1_0 := f1_0.mono (rd_le hL451)
 replace f1_1 := f1_1.mono (rd_le hL451)
 replace f1_2 := f1_2.mono (rd_le hL451)
 replace f1_3 := f1_3.mono (rd_le hL451)
 replace f1_4 := f1_4.mono (rd_le hL451)
 replace f1_5 := f1_5.mono (rd_le hL451)
 replace f1_6 := f1_6.mono (rd_le hL451)
 replace f1_7 := f1_7.mono (rd_le hL451)
 replace hI0 := hI0.trans hL451
 refine wp_seq (wrl (wv (.bool (decide (z446 < ((a1.Writes).length : Int)))) z z z (wl_nil (tn (wp_seq ?_)))))
 refine bsplit (decide (z446 < ((a1.Writes).length : Int))) (fun hc456 => ?_) (fun hc456 => ?_)
 {
 replace hm := bif_t hc456 hm
 refine wp_ift (cvb hc456) ?_
 refine wp_skip (tn (wp_seq (wp_block (wp_seq (wrl ?_)))))
 obtain ⟨x457, hx458, hm⟩ := bind_some hm
 obtain ⟨h459, h460, hi461⟩ := geto_some hx458
 refine wv (.pointer (some (eAddr r1_4 (z446.toNat * 3 + 0)))) z z (x_index z z underlying42 sizeOf41 (rd_sliceV f1_4) h459 h460) ?_
 obtain ⟨cs462, hr463, hc464⟩ := Rd.getF f1_4 hi461
 obtain ⟨v465, rfl, f466, -⟩ := hr463
 refine wv (.agg #[F6 x457.At, .bool x457.Del, v465]) z z (x_loadN (cs := [F6 x457.At, .bool x457.Del, v465]) z isAgg41 sizeOf41 (eCells (o := 0) (hc464 (HL.le.refl _) hst) z)) ?_
 obtain ⟨b469, w470, ew471, eb472, hst⟩ := hst.box [Zf, .bool false, Zs] 41
 refine wl_run (v := Pt b469 0) (w' := w470) z z (x_al (by kernel_rfl) ew471 eb472) ?_
 obtain ⟨w474, hr475, hst⟩ := hst.bx [F6 x457.At, .bool x457.Del, v465] sizeOf41 z (oC z (oC z (oC (one_of_sliceV (rd_sliceV f466)) oN))) (by kernel_rfl)
 refine wl_unit z z (x_unit hr475) ?_
 refine wl_nil (tn ?_)
 replace hst := hst.pull1
 obtain ⟨b476, v477, v479, v481, v483, v485, v487, v489, e491, hst'⟩ := at_lane_State_open hst
 clear hst
 have e491 := ptr_inj e491
 subst e491
 have hst := hst'
 clear hst'
 refine wp_region_St hst 16 [0, 1, 2, 3, 4, 5, 6, 7, 8, 9, 10, 11, 12, 13, 14, 15] [0, 1, 3, 7, 0, 16, 0, 64, 0, 256, 0, 1024, 0, 4096, 16320, 32767] [] z (by kernel_rfl) (by kernel_rfl) Tryz.mixed (by kernel_rfl) ?_
 refine wsr (Pt b337 0) 0 z z z (by kernel_rfl) (fun w hst => z) (wsr (Pt b337 0) 1 z z z (by kernel_rfl) (fun w hst => z) (wsr (Pt b337 2) 2 z z z (by kernel_rfl) (fun w hst => x_field z underlying111 z sizeOf101 z) (wsr (v477) 3 z z z (by kernel_rfl) (fun w hst => x_load z isAgg101 (hst.bc0 z)) (wsr (Pt b469 0) 4 z z z (by kernel_rfl) (fun w hst => x_field z underlying41 z sizeOf37 z) (wsr (.float .f64 x457.At) 5 z z z (by kernel_rfl) (fun w hst => x_load z isAgg37 (hst.bc8 z)) (wsr (Pt b325 3) 6 z z z (by kernel_rfl) (fun w hst => x_field z underlying49 z sizeOf26 z) (wsr (.int .u64 a1.Epoch) 7 z z z (by kernel_rfl) (fun w hst => x_load z isAgg26 (hst.bc10 z)) (wsr (Pt b325 4) 8 z z z (by kernel_rfl) (fun w hst => x_field z underlying49 z sizeOf26 z) (wsr (.int .u64 a1.Index) 9 z z z (by kernel_rfl) (fun w hst => x_load z isAgg26 (hst.bc10 z)) (wsr (Pt b469 1) 10 z z z (by kernel_rfl) (fun w hst => x_field z underlying41 z sizeOf4 z) (wsr (.bool x457.Del) 11 z z z (by kernel_rfl) (fun w hst => x_load z isAgg4 (hst.bc8 z)) (wsr (Pt b469 2) 12 z z z (by kernel_rfl) (fun w hst => x_field z underlying41 z sizeOf22 z) ?_))))))))))))
 refine wsr (v465) 13 rfl rfl rfl (by kernel_rfl) (fun w hst => x_load rfl isAgg22 (hst.bc8 rfl)) (wsr (.agg #[U6 a1.Epoch, U6 a1.Index, .bool x457.Del, v465]) 14 rfl rfl rfl (by kernel_rfl) (fun w hst => by obtain ⟨_, _, hv_, _⟩ := (rd_sliceV f466); rw [hv_]; kernel_rfl) ?_)
 refine ws_e1 15 (by kernel_rfl) ?_
 refine nxe [] (by kernel_rfl) z z ?_
 clear hst
 intro w hst
 replace hst := hst.pull1
 obtain ⟨t493, ht494, hm⟩ := bind_some hm
 refine wec call123 [v477, F6 x457.At, .agg #[U6 a1.Epoch, U6 a1.Index, .bool x457.Del, v465]] z z ?_
 refine (mvcc_Store_Put_ref (a2 := ({ Epoch := a1.Epoch, Index := a1.Index, Del := x457.Del, Val := x457.Val } : mvcc_Version)) (f466.mono (rd_weak _)) hst.to1 ht494).mono ?_
 rintro _ w495 ⟨I496, rfl, hI497, hst⟩
 refine ⟨_, z, ?_⟩
 replace hst := hst.of1
 replace f1_0 := f1_0.mono (rd_le hI497)
 replace f1_1 := f1_1.mono (rd_le hI497)
 replace f1_2 := f1_2.mono (rd_le hI497)
 replace f1_3 := f1_3.mono (rd_le hI497)
 replace f1_4 := f1_4.mono (rd_le hI497)
 replace f1_5 := f1_5.mono (rd_le hI497)
 replace f1_6 := f1_6.mono (rd_le hI497)
 replace f1_7 := f1_7.mono (rd_le hI497)
 replace f466 := f466.mono (rd_le hI497)
 replace hI0 := hI0.trans hI497
 replace hL451 := hL451.trans hI497
 refine ws_next (pend' := []) hst (by kernel_rfl) pk_nil ?_
 refine ws_nil ?_
 intro w hst
 refine blk_n (tn (wrl ?_))
 refine wv (.int .i64 (i64.wrap (z446 + (1:Int)))) z z z (wv (.int .i64 (i64.wrap (z446 + (1:Int)))) z z z (wl_nil (tn ?_)))
 replace hst := hst.pull7.pull7.pull7.pull7.pull7.pull7.pull6.pull7
 replace hst := at_lane_State_close (pv := Pt b337 0) (x := ({ wide := z445.wide, epoch := z445.epoch, store := t493, locks := z445.locks, last := z445.last, book := z445.book, open_ := z445.open_, out := z445.out, used := z445.used } : lane_State)) hst z
 replace hst := hst.pull3.pull3.pull2.keep3
 obtain rfl := some_inj hm
 exact ⟨_, Nat.lt_succ_self _, _, ({ wide := z445.wide, epoch := z445.epoch, store := t493, locks := z445.locks, last := z445.last, book := z445.book, open_ := z445.open_, out := z445.out, used := z445.used } : lane_State), (i64.wrap (z446 + (1:Int))), _, hx454, (fu 0 (Pt b337 0) z (fu 3 (Pt b325 0) z (fu 4 (Pt b332 0) z (fu 20 r1_4 z (fu 21 (.int .i64 ((a1.Writes).length : Int)) z (fu 22 (.int .i64 (i64.wrap (z446 + (1:Int)))) z z)))))), hL451, hst⟩
}
 {
 replace hm := bif_f hc456 hm
 refine wp_iff (cvb hc456) ?_
 refine wp_exit (then_x (then_x ?_))
 replace hm := inr_up hm hx454
 refine blk_x (tn (wp_seq (wrl ?_)))
 refine wv (Pt b325 1) z z (x_field z underlying49 z sizeOf28 z) (wv (.agg #[U6 a1.ID.Session, U6 a1.ID.Seq]) z z (x_loadN (cs := [U6 a1.ID.Session, U6 a1.ID.Seq]) z isAgg28 sizeOf28 (hst.bcs2 1 z)) (wv (.agg #[U1 (3:Int), U6 a1.ID.Session, U6 a1.ID.Seq, Zi, Zu, Zu, Zs, Zs]) z z (by kernel_rfl) ?_))
 replace hst := hst.pull1
 obtain ⟨w500, hr501, hst⟩ := hst.bx [U1 (3:Int), U6 a1.ID.Session, U6 a1.ID.Seq, Zi, Zu, Zu, Zs, Zs] sizeOf35 z (oC z (oC z (oC z (oC z (oC z (oC z (oC z (oC z oN)))))))) (by kernel_rfl)
 refine wl_unit z z (x_unit hr501) ?_
 refine wl_nil (tn (wp_ret ?_))
 replace hst := hst.own_nil ty_api_Got
 replace hst := hst.own_nil (tySl ty_api_Pair)
 replace hst := hst.pull3
 replace hst := objO_some hst
 obtain rfl := some_inj hm
 refine post_ret (vs := [.agg #[U1 (3:Int), U6 a1.ID.Session, U6 a1.ID.Seq, Zi, Zu, Zu, Zs, Zs]]) results49 (rvs_cons (rv_cell (cs := [U1 (3:Int), U6 a1.ID.Session, U6 a1.ID.Seq, Zi, Zu, Zu, Zs, Zs]) z isAgg35 sizeOf35 (hst.bcs3 0 z)) rvs_nil) ?_
 replace hst := hst.pull1.pull2
 exact ⟨_, Zs, Zs, z, hI0, hst.keep3⟩
}
}
 {
 replace hm := bif_f hc358 hm
 refine wp_iff (cvb hc358) ?_
 refine wp_skip (tn (wp_seq (wrl ?_)))
 refine wv (Pt b325 1) z z (x_field z underlying49 z sizeOf28 z) (wv (.agg #[U6 a1.ID.Session, U6 a1.ID.Seq]) z z (x_loadN (cs := [U6 a1.ID.Session, U6 a1.ID.Seq]) z isAgg28 sizeOf28 (hst.bcs9 1 z)) (wv (.agg #[U1 (3:Int), U6 a1.ID.Session, U6 a1.ID.Seq, Zi, Zu, Zu, Zs, Zs]) z z (by kernel_rfl) ?_))
 replace hst := hst.pull8
 obtain ⟨w504, hr505, hst⟩ := hst.bx [U1 (3:Int), U6 a1.ID.Session, U6 a1.ID.Seq, Zi, Zu, Zu, Zs, Zs] sizeOf35 z (oC z (oC z (oC z (oC z (oC z (oC z (oC z (oC z oN)))))))) (by kernel_rfl)
 refine wl_unit z z (x_unit hr505) ?_
 refine wl_nil (tn (wp_ret ?_))
 replace hst := hst.own_nil ty_api_Got
 replace hst := hst.own_nil (tySl ty_api_Pair)
 replace hst := hst.pull10.pull10.pull10.pull10.pull10.pull8.pull10.pull10
 replace hst := at_lane_State_close (pv := Pt b337 0) (x := ({ wide := o0.wide, epoch := o0.epoch, store := o0.store, locks := t352.2, last := o0.last, book := o0.book, open_ := o0.open_, out := o0.out, used := o0.used } : lane_State)) hst z
 replace hst := objO_some hst
 obtain rfl := some_inj hm
 refine post_ret (vs := [.agg #[U1 (3:Int), U6 a1.ID.Session, U6 a1.ID.Seq, Zi, Zu, Zu, Zs, Zs]]) results49 (rvs_cons (rv_cell (cs := [U1 (3:Int), U6 a1.ID.Session, U6 a1.ID.Seq, Zi, Zu, Zu, Zs, Zs]) z isAgg35 sizeOf35 (hst.bcs3 0 z)) rvs_nil) ?_
 replace hst := hst.pull1.pull2
 exact ⟨_, Zs, Zs, z, hI0, hst.keep3⟩
}
}
 {
 replace hm := bif_f hc357 hm
 refine ws_q (v := undef) 8 [9, 10, 11] (by kernel_rfl) z z (yi_off ((wanted_eq z z z (cvb hc357)).trans z)) (ws_q (v := undef) 9 [10, 11] (by kernel_rfl) z z (yi_off ((wanted_eq z z z (cvb hc357)).trans z)) (ws_q (v := undef) 10 [11] (by kernel_rfl) z z (yi_off ((wanted_eq z z z (cvb hc357)).trans z)) (wsr (.bool false) 11 z z z (by kernel_rfl) (fun w hst => x_pick_f hc357 z z) ?_)))
 refine ws_nil ?_
 intro w hst
 refine tn ?_
 refine wp_iff z ?_
 refine wp_skip (tn (wp_seq (wrl ?_)))
 refine wv (Pt b325 1) z z (x_field z underlying49 z sizeOf28 z) (wv (.agg #[U6 a1.ID.Session, U6 a1.ID.Seq]) z z (x_loadN (cs := [U6 a1.ID.Session, U6 a1.ID.Seq]) z isAgg28 sizeOf28 (hst.bcs9 1 z)) (wv (.agg #[U1 (3:Int), U6 a1.ID.Session, U6 a1.ID.Seq, Zi, Zu, Zu, Zs, Zs]) z z (by kernel_rfl) ?_))
 replace hst := hst.pull8
 obtain ⟨w508, hr509, hst⟩ := hst.bx [U1 (3:Int), U6 a1.ID.Session, U6 a1.ID.Seq, Zi, Zu, Zu, Zs, Zs] sizeOf35 z (oC z (oC z (oC z (oC z (oC z (oC z (oC z (oC z oN)))))))) (by kernel_rfl)
 refine wl_unit z z (x_unit hr509) ?_
 refine wl_nil (tn (wp_ret ?_))
 replace hst := hst.own_nil ty_api_Got
 replace hst := hst.own_nil (tySl ty_api_Pair)
 replace hst := hst.pull10.pull10.pull10.pull10.pull10.pull8.pull10.pull10
 replace hst := at_lane_State_close (pv := Pt b337 0) (x := ({ wide := o0.wide, epoch := o0.epoch, store := o0.store, locks := t352.2, last := o0.last, book := o0.book, open_ := o0.open_, out := o0.out, used := o0.used } : lane_State)) hst z
 replace hst := objO_some hst
 obtain rfl := some_inj hm
 refine post_ret (vs := [.agg #[U1 (3:Int), U6 a1.ID.Session, U6 a1.ID.Seq, Zi, Zu, Zu, Zs, Zs]]) results49 (rvs_cons (rv_cell (cs := [U1 (3:Int), U6 a1.ID.Session, U6 a1.ID.Seq, Zi, Zu, Zu, Zs, Zs]) z isAgg35 sizeOf35 (hst.bcs3 0 z)) rvs_nil) ?_
 replace hst := hst.pull1.pull2
 exact ⟨_, Zs, Zs, z, hI0, hst.keep3⟩
}
}
}

theorem session_Table_find_1_ref {w0 w : World} {I : HL} {R : SP} {a0 : session_row} {r0_0 : Value} {r0_1 : Value} {a1 : Int} (f0_0 : Rd ty_api_Got R I r0_0 a0.r.Gots) (f0_1 : Rd (tySl ty_api_Pair) R I r0_1 a0.r.Scans) (hst : St w0 w I [] R) {r : (Int)} (hm : session_Table_find_1 a0 a1 = some r) :
  Calls prog 201 #[.agg #[U6 a0.session, U6 a0.seq, I6 a0.r.E, U6 a0.r.Epoch, U6 a0.r.Index, r0_0, r0_1], U6 a1] w fun e w' => e = .returned (.int .i64 r) ∧ St w0 w' I [] R := by {
 unfold session_Table_find_1 at hm
 refine calls_start (args := [.agg #[U6 a0.session, U6 a0.seq, I6 a0.r.E, U6 a0.r.Epoch, U6 a0.r.Index, r0_0, r0_1], U6 a1]) func201 z ntmps201 (Nat.le_of_ble_eq_true z) ?_
 refine wp_seq (wrl ?_)
 obtain ⟨b208, w209, ew210, eb211, hst⟩ := hst.box [U6 a0.session, U6 a0.seq, I6 a0.r.E, U6 a0.r.Epoch, U6 a0.r.Index, r0_0, r0_1] 242
 refine wl_run (v := Pt b208 0) (w' := w209) z z (x_al (by kernel_rfl) ew210 eb211) ?_
 refine wv (.int .i64 (0:Int)) z z z (wl_nil (tn (wp_seq (wrl (wv (Pt b208 0) z z (x_field z underlying242 z sizeOf26 z) (wv (.int .u64 a0.session) z z (x_load z isAgg26 (hst.bc0 z)) (wv (.int .u64 a1) z z z ?_)))))))
 obtain ⟨t213, ht214, hm⟩ := bind_some hm
 refine wc call131 [U6 a0.session, U6 a1] z z z ?_
 refine (cmp_Compare_uint64_ref hst.to0 ht214).mono ?_
 rintro _ w215 ⟨rfl, hst⟩
 refine ⟨_, z, ?_⟩
 replace hst := hst.of0
 refine wv (.int .i64 t213) z z z (wl_nil (tn (wp_ret ?_)))
 obtain rfl := some_inj hm
 refine post_ret (vs := [I6 t213]) results201 (rvs_cons (rv_tmp z) rvs_nil) ?_
 exact ⟨z, hst.keep0⟩
}

theorem session_Table_find_ref {w0 w : World} {I : HL} {R : SP} {a0 : (Option session_Table)} {p0 : Value} {a1 : Int}  (hst : St w0 w I [objO at_session_Table p0 a0] R) {r : (Int × Bool)} (hm : session_Table_find a0 a1 = some r) :
  Calls prog 148 #[p0, U6 a1] w fun e w' => e = .returned (.tuple #[I6 r.1, .bool r.2]) ∧ St w0 w' I [objO at_session_Table p0 a0] R := by {
 rcases a0 with _ | o0
 {
 obtain ⟨rfl, hst'⟩ := objO_none hst
 clear hst
 have hst := hst'
 clear hst'
 dsimp only [session_Table_find] at hm
 refine calls_start (args := [.pointer none, U6 a1]) func148 z ntmps148 (Nat.le_of_ble_eq_true z) ?_
 refine wp_seq (wrl (wv (.int .i64 (0:Int)) z z z (wv (.bool false) z z z (wl_nil (tn (wp_seq (wp_seq (wrl (wv (.pointer none) z z z (wv (.bool true) z z (by kernel_rfl) (wl_nil (tn ?_))))))))))))
 refine wp_ift z ?_
 refine wp_seq (wrl (wv (.int .i64 (0:Int)) z z z (wv (.bool false) z z z (wl_nil (tn (wp_ret (then_r ?_)))))))
 replace hst := hst.objO_nil at_session_Table
 obtain rfl := some_inj hm
 refine post_ret (vs := [Zi, .bool false]) results148 (rvs_cons (rv_tmp z) (rvs_cons (rv_tmp z) rvs_nil)) ?_
 exact ⟨z, hst.keep1⟩
}
 {
 replace hst := objO_get hst
 dsimp only [session_Table_find] at hm
 refine calls_start (args := [p0, U6 a1]) func148 z ntmps148 (Nat.le_of_ble_eq_true z) ?_
 refine wp_seq (wrl (wv (.int .i64 (0:Int)) z z z (wv (.bool false) z z z (wl_nil (tn (wp_seq (wp_seq (wrl (wv (p0) z z z ?_)))))))))
 obtain ⟨b287, v288, rfl, hst'⟩ := at_session_Table_open hst
 clear hst
 have hst := hst'
 clear hst'
 refine wv (.bool false) z z (by kernel_rfl) (wl_nil (tn ?_))
 refine wp_iff z ?_
 refine wp_skip (tn (wp_seq (wrl ?_)))
 refine wv (Pt b287 0) z z z (wv (Pt b287 0) z z z (wv (Pt b287 0) z z (x_field z underlying206 z sizeOf204 z) (wv (v288) z z (x_load z isAgg204 (hst.bc0 z)) (wv (.int .u64 a1) z z z ?_))))
 obtain ⟨y394, hq395, hm⟩ := bind_some hm
 refine wl_call z z (x_callv call200 (caps := []) z (vs := [v288, U6 a1, .func (.func 201) #[] #[]]) z) ?_
 refine Calls.mono (show Calls prog 200 #[v288, U6 a1, .func (.func 201) #[] #[]] _ (fun e w' => ∃ (z391 : Int) (z392 : Bool), (z391, z392) = y394 ∧ e = .returned (.tuple #[I6 z391, .bool z392]) ∧ St w0 w' I [cells b287 [v288], ownS ty_session_row v288 o0.l] R) from ?_) ?_
 {
 clear hm; have hm := hq395
 refine calls_start (args := [v288, U6 a1, .func (.func 201) #[] #[]]) func200 z ntmps200 (Nat.le_of_ble_eq_true z) ?_
 refine wp_seq (wrl (wv (.int .i64 (0:Int)) z z z (wv (.bool false) z z z (wl_nil (tn (wp_seq (wrl (wv (v288) z z z (wv (.int .i64 ((o0.l).length : Int)) z z (x_len z underlying204 hst.sv1) (wv (.int .i64 ((o0.l).length : Int)) z z z (wl_nil (tn (wp_seq (wrl (wv (.int .i64 ((o0.l).length : Int)) z z z (wv (.int .i64 (0:Int)) z z z (wv (.int .i64 ((o0.l).length : Int)) z z z (wl_nil (tn ?_)))))))))))))))))))
 obtain ⟨y368, hm, hx369⟩ := bind_some hm
 refine wp_cut (fun a w => ∃ (z365 : Int) (σ366 : Nat → Value), (session_Table_find_j0 o0 a1) z365 = some y394 ∧ a = Fr 49 (upd (upd (upd (upd (upd σ366 0 (v288)) 1 (.int .u64 a1)) 2 (.func (.func 201) #[] #[])) 8 (.int .i64 ((o0.l).length : Int))) 9 (.int .i64 z365)) ∧ St w0 w I [ownS ty_session_row v288 o0.l, cells b287 [v288]] R) ?_ ?_
 {
 refine wp_block ?_
 obtain ⟨n337, hm⟩ := loopO_some hm
 refine wp_loop_n (fun n a w => ∃ (z334 : Int) (z335 : Int) (σ336 : Nat → Value), loopN (session_Table_find_l1 o0 a1) n (z334, z335) = some y368 ∧ a = Fr 49 (upd (upd (upd (upd (upd (upd σ336 0 (v288)) 1 (.int .u64 a1)) 2 (.func (.func 201) #[] #[])) 8 (.int .i64 ((o0.l).length : Int))) 9 (.int .i64 z335)) 10 (.int .i64 z334)) ∧ St w0 w I [cells b287 [v288], ownS ty_session_row v288 o0.l] R) n337 ⟨((o0.l).length : Int), (0:Int), _, hm, (fu 0 v288 z (fu 1 (.int .u64 a1) z (fu 2 (.func (.func 201) #[] #[]) z (fu 8 (.int .i64 ((o0.l).length : Int)) z (fu 9 (.int .i64 (0:Int)) z (fu 10 (.int .i64 ((o0.l).length : Int)) z z)))))), hst⟩ ?_
 rintro n343 _ w338 ⟨z334, z335, σ336, hm, rfl, hst⟩
 obtain ⟨n340, y341, rfl, hm, hx342⟩ := loopN_some hm
 dsimp only [session_Table_find_l1] at hm
 refine wp_seq (wp_seq (wrl (wv (.int .i64 z335) z z z (wv (.int .i64 z334) z z z (wv (.bool (decide (z335 < z334))) z z z (wl_nil (tn ?_)))))))
 refine bsplit (decide (z335 < z334)) (fun hc344 => ?_) (fun hc344 => ?_)
 {
 replace hm := bif_t hc344 hm
 refine wp_ift (cvb hc344) ?_
 refine wp_skip (tn (wp_block (wp_seq (wrl ?_))))
 refine wv (.int .i64 z335) z z z (wv (.int .i64 z334) z z z (wv (.int .i64 (i64.wrap (z335 + z334))) z z z (wv (.int .u64 (u64.wrap (i64.wrap (z335 + z334)))) z z (by kernel_rfl) (wv (.int .u64 (iShr .u64 (u64.wrap (i64.wrap (z335 + z334))) (1:Int))) z z (x_shr (by decide) z z) (wv (.int .i64 (i64.wrap (iShr .u64 (u64.wrap (i64.wrap (z335 + z334))) (1:Int)))) z z (by kernel_rfl) (wv (.int .i64 (i64.wrap (iShr .u64 (u64.wrap (i64.wrap (z335 + z334))) (1:Int)))) z z z (wl_nil (tn (wp_seq (wrl (wv (.func (.func 201) #[] #[]) z z z (wv (v288) z z z (wv (.int .i64 (i64.wrap (iShr .u64 (u64.wrap (i64.wrap (z335 + z334))) (1:Int)))) z z z ?_)))))))))))))
 obtain ⟨x345, hx346, hm⟩ := bind_some hm
 obtain ⟨h347, h348, hi349⟩ := geto_some hx346
 refine wv (.pointer (some (eAddr v288 ((i64.wrap (iShr .u64 (u64.wrap (i64.wrap (z335 + z334))) (1:Int))).toNat * 7 + 0)))) z z (x_index z z underlying204 sizeOf242 hst.sv1 h347 h348) ?_
 obtain ⟨cs350, hr351, hc352⟩ := hst.og1 hi349
 obtain ⟨v353, v356, rfl, f354, f357, -⟩ := hr351
 refine wv (.agg #[U6 x345.session, U6 x345.seq, I6 x345.r.E, U6 x345.r.Epoch, U6 x345.r.Index, v353, v356]) z z (x_loadN (cs := [U6 x345.session, U6 x345.seq, I6 x345.r.E, U6 x345.r.Epoch, U6 x345.r.Index, v353, v356]) z isAgg242 sizeOf242 (eCells (o := 0) hc352 z)) (wv (.int .u64 a1) z z z ?_)
 obtain ⟨t359, ht360, hm⟩ := bind_some hm
 refine wl_call z z (x_callv call201 (caps := []) z (vs := [.agg #[U6 x345.session, U6 x345.seq, I6 x345.r.E, U6 x345.r.Epoch, U6 x345.r.Index, v353, v356], U6 a1]) z) ?_
 refine (session_Table_find_1_ref (f354.mono ro_rd) (f357.mono ro_rd) hst.to0 ht360).mono ?_
 rintro _ w361 ⟨rfl, hst⟩
 refine ⟨_, z, ?_⟩
 replace hst := hst.of0
 refine wv (.bool (decide (t359 < (0:Int)))) z z z (wl_nil (tn ?_))
 refine bsplit (decide (t359 < (0:Int))) (fun hc364 => ?_) (fun hc364 => ?_)
 {
 replace hm := bif_t hc364 hm
 refine wp_ift (cvb hc364) ?_
 refine wrl (wv (.int .i64 (i64.wrap (iShr .u64 (u64.wrap (i64.wrap (z335 + z334))) (1:Int)))) z z z (wv (.int .i64 (i64.wrap ((i64.wrap (iShr .u64 (u64.wrap (i64.wrap (z335 + z334))) (1:Int))) + (1:Int)))) z z z (wv (.int .i64 (i64.wrap ((i64.wrap (iShr .u64 (u64.wrap (i64.wrap (z335 + z334))) (1:Int))) + (1:Int)))) z z z (wl_nil (blk_n (tn ?_))))))
 replace hst := hst.pull1.pull1.keep2
 obtain rfl := some_inj hm
 exact ⟨_, Nat.lt_succ_self _, z334, (i64.wrap ((i64.wrap (iShr .u64 (u64.wrap (i64.wrap (z335 + z334))) (1:Int))) + (1:Int))), _, hx342, (fu 0 v288 z (fu 1 (.int .u64 a1) z (fu 2 (.func (.func 201) #[] #[]) z (fu 8 (.int .i64 ((o0.l).length : Int)) z (fu 9 (.int .i64 (i64.wrap ((i64.wrap (iShr .u64 (u64.wrap (i64.wrap (z335 + z334))) (1:Int))) + (1:Int)))) z (fu 10 (.int .i64 z334) z z)))))), hst⟩
}
 {
 replace hm := bif_f hc364 hm
 refine wp_iff (cvb hc364) ?_
 refine wrl (wv (.int .i64 (i64.wrap (iShr .u64 (u64.wrap (i64.wrap (z335 + z334))) (1:Int)))) z z z (wv (.int .i64 (i64.wrap (iShr .u64 (u64.wrap (i64.wrap (z335 + z334))) (1:Int)))) z z z (wl_nil (blk_n (tn ?_)))))
 replace hst := hst.pull1.pull1.keep2
 obtain rfl := some_inj hm
 exact ⟨_, Nat.lt_succ_self _, (i64.wrap (iShr .u64 (u64.wrap (i64.wrap (z335 + z334))) (1:Int))), z335, _, hx342, (fu 0 v288 z (fu 1 (.int .u64 a1) z (fu 2 (.func (.func 201) #[] #[]) z (fu 8 (.int .i64 ((o0.l).length : Int)) z (fu 9 (.int .i64 z335) z (fu 10 (.int .i64 (i64.wrap (iShr .u64 (u64.wrap (i64.wrap (z335 + z334))) (1:Int)))) z z)))))), hst⟩
}
}
 {
 replace hm := bif_f hc344 hm
 refine wp_iff (cvb hc344) ?_
 refine wp_exit (then_x (then_x ?_))
 replace hm := inr_up hm hx342
 refine blk_x (tn ?_)
 replace hst := hst.pull1.keep2
 obtain rfl := some_inj hm
 exact ⟨z335, _, hx369, (fu 0 v288 z (fu 1 (.int .u64 a1) z (fu 2 (.func (.func 201) #[] #[]) z (fu 8 (.int .i64 ((o0.l).length : Int)) z (fu 9 (.int .i64 z335) z z))))), hst⟩
}
}
 {
 clear hst
 rintro _ w370 ⟨z365, σ366, hm, rfl, hst⟩
 dsimp only [session_Table_find_j0] at hm
 refine wp_seq (wrl (wv (.int .i64 z365) z z z (wv (.int .i64 z365) z z z (wv (.int .i64 ((o0.l).length : Int)) z z z (wv (.bool (decide (z365 < ((o0.l).length : Int)))) z z z (wv (.bool (decide (z365 < ((o0.l).length : Int)))) z z z ?_))))))
 refine bsplit (decide (z365 < ((o0.l).length : Int))) (fun hc371 => ?_) (fun hc371 => ?_)
 {
 replace hm := bif_t hc371 hm
 refine wv (.func (.func 201) #[] #[]) ((wanted_eq z z z (cvb hc371)).trans z) z z (wv (v288) ((wanted_eq z z z (cvb hc371)).trans z) z z (wv (.int .i64 z365) ((wanted_eq z z z (cvb hc371)).trans z) z z ?_))
 obtain ⟨x372, hx373, hm⟩ := bind_some hm
 obtain ⟨h374, h375, hi376⟩ := geto_some hx373
 refine wv (.pointer (some (eAddr v288 (z365.toNat * 7 + 0)))) ((wanted_eq z z z (cvb hc371)).trans z) z (x_index z z underlying204 sizeOf242 hst.sv0 h374 h375) ?_
 obtain ⟨cs377, hr378, hc379⟩ := hst.og0 hi376
 obtain ⟨v380, v383, rfl, f381, f384, -⟩ := hr378
 refine wv (.agg #[U6 x372.session, U6 x372.seq, I6 x372.r.E, U6 x372.r.Epoch, U6 x372.r.Index, v380, v383]) ((wanted_eq z z z (cvb hc371)).trans z) z (x_loadN (cs := [U6 x372.session, U6 x372.seq, I6 x372.r.E, U6 x372.r.Epoch, U6 x372.r.Index, v380, v383]) z isAgg242 sizeOf242 (eCells (o := 0) hc379 z)) (wv (.int .u64 a1) ((wanted_eq z z z (cvb hc371)).trans z) z z ?_)
 obtain ⟨t386, ht387, hm⟩ := bind_some hm
 refine wl_call ((wanted_eq z z z (cvb hc371)).trans z) z (x_callv call201 (caps := []) z (vs := [.agg #[U6 x372.session, U6 x372.seq, I6 x372.r.E, U6 x372.r.Epoch, U6 x372.r.Index, v380, v383], U6 a1]) z) ?_
 refine (session_Table_find_1_ref (f381.mono ro_rd) (f384.mono ro_rd) hst.to0 ht387).mono ?_
 rintro _ w388 ⟨rfl, hst⟩
 refine ⟨_, z, ?_⟩
 replace hst := hst.of0
 refine wv (.bool (t386 == (0:Int))) ((wanted_eq z z z (cvb hc371)).trans z) z z (wv (.bool (t386 == (0:Int))) z z (x_pick_t hc371 z z) (wv (.int .i64 z365) z z z (wv (.bool (t386 == (0:Int))) z z z (wl_nil (tn (wp_ret ?_))))))
 refine post_ret (vs := [I6 z365, .bool (t386 == (0:Int))]) results200 (rvs_cons (rv_tmp z) (rvs_cons (rv_tmp z) rvs_nil)) ?_
 replace hst := hst.pull1.keep2
 obtain rfl := some_inj hm
 exact ⟨z365, (t386 == (0:Int)), z, z, hst⟩
}
 {
 replace hm := bif_f hc371 hm
 refine wo hc371 z z z z z z (wo hc371 z z z z z z (wo hc371 z z z z z z (wo hc371 z z z z z z (wo hc371 z z z z z z (wo hc371 z z z z z z (wo hc371 z z z z z z (wo hc371 z z z z z z (wv (.bool false) z z (x_pick_f hc371 z z) (wv (.int .i64 z365) z z z (wv (.bool false) z z z (wl_nil (tn (wp_ret ?_)))))))))))))
 refine post_ret (vs := [I6 z365, .bool false]) results200 (rvs_cons (rv_tmp z) (rvs_cons (rv_tmp z) rvs_nil)) ?_
 replace hst := hst.pull1.keep2
 obtain rfl := some_inj hm
 exact ⟨z365, false, z, z, hst⟩
}
}
}
 clear hst
 rintro _ w396 ⟨z391, z392, rfl, rfl, hst⟩
 refine ⟨_, z, ?_⟩
 try dsimp only at hm
 refine wv (.int .i64 z391) z z z (wv (.bool z392) z z z (wv (.int .i64 z391) z z z (wv (.bool z392) z z z (wl_nil (tn (wp_ret ?_))))))
 replace hst := hst.pull1.pull1
 replace hst := at_session_Table_close (pv := Pt b287 0) (x := o0) hst z
 replace hst := objO_some hst
 obtain rfl := some_inj hm
 refine post_ret (vs := [I6 z391, .bool z392]) results148 (rvs_cons (rv_tmp z) (rvs_cons (rv_tmp z) rvs_nil)) ?_
 exact ⟨z, hst.keep1⟩
}
}

theorem slices_Insert_session_row_session_row_ref {w0 w : World} {I : HL} {R : SP} {a0 : (List session_row)} {r0_0 : Value} {a1 : Int} {a2 : (List session_row)} {r2_0 : Value} (hst : St w0 w I [ownS ty_session_row r0_0 a0, ownS ty_session_row r2_0 a2] R) {r : (List session_row)} (hm : slices_Insert_session_row_session_row a0 a1 a2 = some r) :
  Calls prog 187 #[r0_0, I6 a1, r2_0] w fun e w' => ∃ (q0_0 : Value), e = .returned (q0_0) ∧ St w0 w' I [ownS ty_session_row q0_0 r] R := by {
 unfold slices_Insert_session_row_session_row at hm
 obtain ⟨hg, hm⟩ := gd_some hm
 obtain rfl := some_inj hm
 obtain ⟨hi0, hi1, hrm⟩ := insOK_of hg
 obtain ⟨k, rfl⟩ := Int.eq_ofNat_of_zero_le hi0
 have hsm := room_sum hrm
 have hk : k ≤ a0.length := by omega
 have hs : ∀ w : World, (sizeOf 242).run prog w = .ok ty_session_row.sz w := sizeOf242
 have hs0 : 0 < ty_session_row.sz := Nat.le_of_ble_eq_true rfl
 have hov : ∀ (args : Array Value) (w : World), (callFunc 209 args).run prog w = (Extern.SlicesOverlaps.overlaps #[204, 204] #[4] args >>= fun v => (pure (.value v) : Sem Next)).run prog w := by intro args w; kernel_rfl
 obtain ⟨css, hr, hst⟩ := hst.own_open
 replace hst := hst.pull1
 obtain ⟨dss, hq, hst⟩ := hst.own_open
 replace hst := hst.pull1
 obtain ⟨n, hn⟩ : ∃ n, css.length = n := ⟨_, rfl⟩
 obtain ⟨m, hm'⟩ : ∃ m, dss.length = m := ⟨_, rfl⟩
 have hln : a0.length = n := hr.1.trans hn
 have hlm : a2.length = m := hq.1.trans hm'
 rw [hln] at hsm hk
 rw [hlm] at hsm
 have hsv : SliceV r0_0 n := by have := hst.row_form.2; rwa [hn] at this
 have hsq : SliceV r2_0 m := by have := hst.pull1.row_form.2; rwa [hm'] at this
 have hoc := hr.ones
 have hoq := hq.ones
 have hw1 := wrap_add (a := n) (b := m) (by omega)
 have hw2 := wrap_add (a := k) (b := m) (by omega)
 have hw3 := wrap_sub (a := n + m) (b := k) (by omega) (by omega)
 have hrb := room_of (b := 88) hrm rfl
 rw [hln, hlm] at hrb
 refine calls_start (args := [r0_0, I6 (k : Int), r2_0]) func187 z ntmps187 (Nat.le_of_ble_eq_true z) ?_
 refine wp_seq (wrl (wv ((.slice none 0 0)) z z z (wl_nil (tn (wp_seq (wrl (wv (r0_0) z z z (wv (.int .i64 (k : Int)) z z z (wv ((slcV ty_session_row.sz r0_0 k n)) z z (x_slice (lo := (k : Nat)) (hi := (n : Nat)) underlying204 hs z hsv (by omega) (by omega) (by omega) .i64 .i64 (.inl z) (.inr ⟨z, z⟩)) (wl_nil (tn (wp_seq (wrl (wv (r2_0) z z z (wv (.int .i64 (m : Int)) z z (x_len z underlying204 hsq) (wv (.int .i64 (m : Int)) z z z (wl_nil (tn (wp_seq (wp_seq (wrl (wv (.int .i64 (m : Int)) z z z (wv (.bool ((m : Int) == (0:Int))) z z z ?_)))))))))))))))))))))))
 refine wl_nil (tn ?_)
 refine bsplit ((m : Int) == (0:Int)) (fun hc221 => ?_) (fun hc221 => ?_)
 {
 refine wp_ift (cvb hc221) ?_
 refine wp_seq (wrl (wv (r0_0) z z z (wv (r0_0) z z z (wl_nil (tn (wp_ret (then_r ?_)))))))
 refine post_ret (vs := [r0_0]) results187 (rvs_cons (rv_tmp z) rvs_nil) ?_
 rw [ins_nil (by rw [hlm]; exact hc221)]
 exact ⟨_, z, (hst.own_close hr).keep1⟩
}
 {
 refine wp_iff (cvb hc221) ?_
 have hm0 : m ≠ 0 := fun h => by rw [h] at hc221; cases hc221
 have hq0 : dss ≠ [] := fun h => hm0 (by rw [← hm', h]; rfl)
 refine wp_skip (tn (wp_seq (wrl ?_)))
 refine wv (r0_0) z z z (wv (.int .i64 (n : Int)) z z (x_len z underlying204 hsv) (wv (.int .i64 (n : Int)) z z z (wl_nil (tn (wp_seq (wp_seq (wrl (wv (.int .i64 (k : Int)) z z z (wv (.int .i64 (n : Int)) z z z (wv (.bool ((k : Int) == (n : Int))) z z z (wl_nil (tn ?_))))))))))))
 refine bsplit ((k : Int) == (n : Int)) (fun hc222 => ?_) (fun hc222 => ?_)
 {
 refine wp_ift (cvb hc222) ?_
 refine wp_seq (wrl (wv (r0_0) z z z (wv (r2_0) z z z ?_)))
 replace hst := (hst.own_close hr).pull1.own_close hq
 replace hst := hst.pull1
 obtain ⟨v2, w2, hra, hst⟩ := run_append elem_204 underlying204 hst hst.src1 (room_of hrm z) 204
 refine wl_run (v := v2) (w' := w2) z z (x_append z z hra) ?_
 refine wv (v2) z z z (wl_nil (tn (wp_ret (then_r ?_))))
 refine post_ret (vs := [v2]) results187 (rvs_cons (rv_tmp z) rvs_nil) ?_
 rw [ins_end (by rw [hln]; exact hc222)]
 exact ⟨_, z, hst.keep1⟩
}
 {
 refine wp_iff (cvb hc222) ?_
 have hkn : k ≠ n := fun h => by rw [h] at hc222; simp at hc222
 have hn0 : 0 < n := by omega
 have hc0 : css ≠ [] := fun h => by rw [h] at hn; simp at hn; omega
 refine wp_skip (tn (wp_seq (wp_seq (wrl ?_))))
 refine wv (.int .i64 (n : Int)) z z z (wv (.int .i64 (m : Int)) z z z (wv (.int .i64 ((n + m : Nat) : Int)) z z (ok_cast hw1 z) (wv (r0_0) z z z (wv (.int .i64 (sCap r0_0 : Int)) z z (x_cap z underlying204 hsv) (wv (.bool (decide (((n + m : Nat) : Int) > (sCap r0_0 : Int)))) z z z (wl_nil (tn ?_)))))))
 refine bsplit (decide (((n + m : Nat) : Int) > (sCap r0_0 : Int))) (fun hc223 => ?_) (fun hc223 => ?_)
 {
 refine wp_ift (cvb hc223) ?_
 refine wp_seq (wrl (wv (r0_0) z z z (wv (.int .i64 (k : Int)) z z z (wv ((slcV ty_session_row.sz r0_0 0 k)) z z (x_slice (lo := (0 : Nat)) (hi := (k : Nat)) underlying204 hs z hsv (by omega) (by omega) (by omega) .i64 .i64 (.inr ⟨z, z⟩) (.inl z)) (wv (.int .i64 (n : Int)) z z z (wv (.int .i64 (m : Int)) z z z (wv (.int .i64 ((n + m : Nat) : Int)) z z (ok_cast hw1 z) (wv (.int .i64 (k : Int)) z z z (wv (.int .i64 ((n + m - k : Nat) : Int)) z z (ok_cast hw3 z) ?_)))))))))
 obtain ⟨v2, w2, hra, hs2, zss, hzl, hst⟩ := run_app0 elem_204 underlying3 hst k (n + m - k) (by omega) (by have := of_decide_eq_true hc223; omega) (by rw [show k + (n + m - k) = n + m by omega]; exact hrb) hs0 204
 rw [show k + (n + m - k) = n + m by omega] at hs2
 refine wl_run (v := v2) (w' := w2) z z (x_append z z hra) ?_
 refine wv (v2) z z z (wl_nil (tn (wp_seq (wrl (wv (v2) z z z (wv (.int .i64 (k : Int)) z z z (wv ((slcV ty_session_row.sz v2 k (n + m))) z z (x_slice (lo := (k : Nat)) (hi := ((n + m) : Nat)) underlying204 hs z hs2 (by omega) (by omega) (by omega) .i64 .i64 (.inl z) (.inr ⟨z, z⟩)) (wv (r2_0) z z z ?_))))))))
 obtain ⟨w224, hr225, hst⟩ := run_copyRows (P := prog) (t2 := 204) (ty := 3) underlying204 hs hst hst.pull2 k m (N := n + m) (by first | omega | (simp only [List.length_append, List.length_take, List.length_drop]; omega)) (by first | omega | (simp only [List.length_append, List.length_take, List.length_drop]; omega)) (by omega) (by first | omega | (simp only [List.length_append, List.length_take, List.length_drop]; omega)) (ones_take hoq _)
 refine wl_run (v := .int .i64 (m : Nat)) (w' := w224) z z (x_copy z z hr225) ?_
 refine wl_nil (tn (wp_seq ?_))
 refine wp_region_St hst 9 [0, 1, 2, 3, 4, 5, 6, 7, 8] [0, 0, 0, 6, 15, 0, 0, 96, 255] [] z (by kernel_rfl) (by kernel_rfl) Tryz.mixed (by kernel_rfl) ?_
 refine wsr (v2) 0 z z z (by kernel_rfl) (fun w hst => z) (wsr (.int .i64 (k : Int)) 1 z z z (by kernel_rfl) (fun w hst => z) (wsr (.int .i64 (m : Int)) 2 z z z (by kernel_rfl) (fun w hst => z) (wsr (.int .i64 ((k + m : Nat) : Int)) 3 z z z (by kernel_rfl) (fun w hst => ok_cast hw2 z) (wsr ((slcV ty_session_row.sz v2 (k + m) (n + m))) 4 z z z (by kernel_rfl) (fun w hst => x_slice (lo := ((k + m) : Nat)) (hi := ((n + m) : Nat)) underlying204 hs z hs2 (by omega) (by omega) (by omega) .i64 .i64 (.inl z) (.inr ⟨z, z⟩)) (wsr (r0_0) 5 z z z (by kernel_rfl) (fun w hst => z) (wsr (.int .i64 (k : Int)) 6 z z z (by kernel_rfl) (fun w hst => z) (wsr ((slcV ty_session_row.sz r0_0 k n)) 7 z z z (by kernel_rfl) (fun w hst => x_slice (lo := (k : Nat)) (hi := (n : Nat)) underlying204 hs z hsv (by omega) (by omega) (by omega) .i64 .i64 (.inl z) (.inr ⟨z, z⟩)) ?_)))))))
 refine ws_e1 8 (by kernel_rfl) ?_
 refine nxe [] (by kernel_rfl) z z ?_
 clear hst
 intro w hst
 obtain ⟨w226, hr227, hst⟩ := run_copyRows (P := prog) (t2 := 204) (ty := 3) underlying204 hs hst (hst.pull1.row_part (l := k) (h := n) hk (by omega)) (k + m) (n - k) (N := n + m) (by first | omega | (simp only [List.length_append, List.length_take, List.length_drop]; omega)) (by first | omega | (simp only [List.length_append, List.length_take, List.length_drop]; omega)) (by omega) (by first | omega | (simp only [List.length_append, List.length_take, List.length_drop]; omega)) (ones_take (ones_drop (ones_take hoc _) _) _)
 refine we_run (v := .int .i64 ((n - k) : Nat)) (w' := w226) z (x_copy z z hr227) ?_
 refine ws_next (pend' := []) hst (by kernel_rfl) pk_nil ?_
 refine ws_nil ?_
 intro w hst
 refine tn (wp_seq (wrl (wv (v2) z z z (wv (v2) z z z (wl_nil (tn (wp_ret (then_r ?_))))))))
 refine post_ret (vs := [v2]) results187 (rvs_cons (rv_tmp z) rvs_nil) ?_
 rw [grow_rows hn hm' hk hzl] at hst
 exact ⟨_, z, (hst.own_close ((hr.take k).app (hq.app (hr.drop k)))).keep1⟩
}
 {
 refine wp_iff (cvb hc223) ?_
 have hup : n + m ≤ sCap r0_0 := by have := of_decide_eq_false hc223; omega
 obtain ⟨ess, hel, hem, hst'⟩ := hst.row_up (n + m) (by omega) hup hc0
 rw [show n + m - css.length = m by omega] at hel
 have hs2 : SliceV (upV r0_0 (n + m)) (n + m) := by have := hst'.row_form.2; rwa [List.length_append, hn, hel] at this
 clear hst
 have hst := hst'
 clear hst'
 refine wp_skip (tn (wp_seq (wrl ?_)))
 refine wv (r0_0) z z z (wv (.int .i64 (n : Int)) z z z (wv (.int .i64 (m : Int)) z z z (wv (.int .i64 ((n + m : Nat) : Int)) z z (ok_cast hw1 z) (wv ((upV r0_0 (n + m))) z z (x_sliceUp underlying204 hs z hsv z hup hn0) (wv ((upV r0_0 (n + m))) z z z (wl_nil (tn (wp_seq (wp_seq (wrl (wv (r2_0) z z z (wv ((upV r0_0 (n + m))) z z z (wv (.int .i64 (k : Int)) z z z (wv (.int .i64 (m : Int)) z z z (wv (.int .i64 ((k + m : Nat) : Int)) z z (ok_cast hw2 z) (wv ((slcV ty_session_row.sz (upV r0_0 (n + m)) (k + m) (n + m))) z z (x_slice (lo := ((k + m) : Nat)) (hi := ((n + m) : Nat)) underlying204 hs z hs2 (by omega) (by omega) (by omega) .i64 .i64 (.inl z) (.inr ⟨z, z⟩)) ?_))))))))))))))))
 refine wv (.bool false) z z (x_ext z z z (hov _) (run_overlaps z underlying204 hs hst.pull1 (k + m) (N := n + m) (by rw [List.length_append]; omega) (by omega) hq0 hs0)) (wv (.bool true) z z z (wl_nil (tn ?_)))
 refine wp_ift z ?_
 refine wp_seq ?_
 refine wp_region_St hst 9 [0, 1, 2, 3, 4, 5, 6, 7, 8] [0, 0, 0, 6, 15, 0, 0, 96, 255] [] z (by kernel_rfl) (by kernel_rfl) Tryz.mixed (by kernel_rfl) ?_
 refine wsr ((upV r0_0 (n + m))) 0 z z z (by kernel_rfl) (fun w hst => z) (wsr (.int .i64 (k : Int)) 1 z z z (by kernel_rfl) (fun w hst => z) (wsr (.int .i64 (m : Int)) 2 z z z (by kernel_rfl) (fun w hst => z) (wsr (.int .i64 ((k + m : Nat) : Int)) 3 z z z (by kernel_rfl) (fun w hst => ok_cast hw2 z) (wsr ((slcV ty_session_row.sz (upV r0_0 (n + m)) (k + m) (n + m))) 4 z z z (by kernel_rfl) (fun w hst => x_slice (lo := ((k + m) : Nat)) (hi := ((n + m) : Nat)) underlying204 hs z hs2 (by omega) (by omega) (by omega) .i64 .i64 (.inl z) (.inr ⟨z, z⟩)) (wsr ((upV r0_0 (n + m))) 5 z z z (by kernel_rfl) (fun w hst => z) (wsr (.int .i64 (k : Int)) 6 z z z (by kernel_rfl) (fun w hst => z) (wsr ((slcV ty_session_row.sz (upV r0_0 (n + m)) k (n + m))) 7 z z z (by kernel_rfl) (fun w hst => x_slice (lo := (k : Nat)) (hi := ((n + m) : Nat)) underlying204 hs z hs2 (by omega) (by omega) (by omega) .i64 .i64 (.inl z) (.inr ⟨z, z⟩)) ?_)))))))
 refine ws_e1 8 (by kernel_rfl) ?_
 refine nxe [] (by kernel_rfl) z z ?_
 clear hst
 intro w hst
 obtain ⟨w228, hr229, hst⟩ := run_copyRows (P := prog) (t2 := 204) (ty := 3) underlying204 hs hst (hst.row_part (l := k) (h := n + m) (by omega) (by rw [List.length_append]; omega)) (k + m) (n - k) (N := n + m) (by first | omega | (simp only [List.length_append, List.length_take, List.length_drop]; omega)) (by first | omega | (simp only [List.length_append, List.length_take, List.length_drop]; omega)) (by omega) (by first | omega | (simp only [List.length_append, List.length_take, List.length_drop]; omega)) (by rw [stay_src hn hm' hk hel]; exact ones_drop hoc _)
 refine we_run (v := .int .i64 ((n - k) : Nat)) (w' := w228) z (x_copy z z hr229) ?_
 refine ws_next (pend' := []) hst (by kernel_rfl) pk_nil ?_
 refine ws_nil ?_
 intro w hst
 refine tn (wp_seq (wrl (wv ((upV r0_0 (n + m))) z z z (wv (.int .i64 (k : Int)) z z z (wv ((slcV ty_session_row.sz (upV r0_0 (n + m)) k (n + m))) z z (x_slice (lo := (k : Nat)) (hi := ((n + m) : Nat)) underlying204 hs z hs2 (by omega) (by omega) (by omega) .i64 .i64 (.inl z) (.inr ⟨z, z⟩)) (wv (r2_0) z z z ?_))))))
 obtain ⟨w230, hr231, hst⟩ := run_copyRows (P := prog) (t2 := 204) (ty := 3) underlying204 hs hst hst.pull1 k m (N := n + m) (by first | omega | (simp only [List.length_append, List.length_take, List.length_drop]; omega)) (by first | omega | (simp only [List.length_append, List.length_take, List.length_drop]; omega)) (by omega) (by first | omega | (simp only [List.length_append, List.length_take, List.length_drop]; omega)) (ones_take hoq _)
 refine wl_run (v := .int .i64 (m : Nat)) (w' := w230) z z (x_copy z z hr231) ?_
 refine wl_nil (tn (wp_seq (wrl (wv ((upV r0_0 (n + m))) z z z (wv ((upV r0_0 (n + m))) z z z (wl_nil (tn (wp_ret (then_r ?_)))))))))
 refine post_ret (vs := [(upV r0_0 (n + m))]) results187 (rvs_cons (rv_tmp z) rvs_nil) ?_
 rw [stay_rows hn hm' hk hel] at hst
 exact ⟨_, z, (hst.own_close ((hr.take k).app (hq.app (hr.drop k)))).keep1⟩
}
}
}
}

theorem session_Table_Put_ref {w0 w : World} {I : HL} {R : SP} {a0 : (Option session_Table)} {p0 : Value} {a1 : Int} {a2 : Int} {a3 : api_Reply} {r3_0 : Value} {r3_1 : Value} (f3_0 : Ro ty_api_Got I r3_0 a3.Gots) (f3_1 : Ro (tySl ty_api_Pair) I r3_1 a3.Scans) (hst : St w0 w I [objO at_session_Table p0 a0] R) {r : (Int × (Option session_Table))} (hm : session_Table_Put a0 a1 a2 a3 = some r) :
  Calls prog 124 #[p0, U6 a1, U6 a2, .agg #[I6 a3.E, U6 a3.Epoch, U6 a3.Index, r3_0, r3_1]] w fun e w' => e = .returned (.int .i64 r.1) ∧ St w0 w' I [objO at_session_Table p0 r.2] R := by {
 rcases a0 with _ | o0
 {
 obtain ⟨rfl, hst'⟩ := objO_none hst
 clear hst
 have hst := hst'
 clear hst'
 dsimp only [session_Table_Put] at hm
 refine calls_start (args := [.pointer none, U6 a1, U6 a2, .agg #[I6 a3.E, U6 a3.Epoch, U6 a3.Index, r3_0, r3_1]]) func124 z ntmps124 (Nat.le_of_ble_eq_true z) ?_
 refine wp_seq (wrl ?_)
 obtain ⟨b286, w287, ew288, eb289, hst⟩ := hst.box [I6 a3.E, U6 a3.Epoch, U6 a3.Index, r3_0, r3_1] 33
 refine wl_run (v := Pt b286 0) (w' := w287) z z (x_al (by kernel_rfl) ew288 eb289) ?_
 refine wv (.int .i64 (0:Int)) z z z (wl_nil (tn (wp_seq (wp_block (wp_seq (wrl (wv (.pointer none) z z z (wv (.bool true) z z (by kernel_rfl) (wv (.bool true) z z z (wl_nil (tn ?_)))))))))))
 refine wp_ift z ?_
 refine wp_seq (wrl (wv (.int .i64 (2:Int)) z z z (wl_nil (tn (wp_ret (blk_r (then_r ?_)))))))
 replace hst := hst.objO_nil at_session_Table
 obtain rfl := some_inj hm
 refine post_ret (vs := [I6 (2:Int)]) results124 (rvs_cons (rv_tmp z) rvs_nil) ?_
 exact ⟨z, hst.keep1⟩
}
 {
 replace hst := objO_get hst
 dsimp only [session_Table_Put] at hm
 refine calls_start (args := [p0, U6 a1, U6 a2, .agg #[I6 a3.E, U6 a3.Epoch, U6 a3.Index, r3_0, r3_1]]) func124 z ntmps124 (Nat.le_of_ble_eq_true z) ?_
 refine wp_seq (wrl ?_)
 obtain ⟨b291, w292, ew293, eb294, hst⟩ := hst.box [I6 a3.E, U6 a3.Epoch, U6 a3.Index, r3_0, r3_1] 33
 refine wl_run (v := Pt b291 0) (w' := w292) z z (x_al (by kernel_rfl) ew293 eb294) ?_
 refine wv (.int .i64 (0:Int)) z z z (wl_nil (tn (wp_seq (wp_block (wp_seq (wrl (wv (p0) z z z ?_)))))))
 replace hst := hst.pull1
 obtain ⟨b296, v297, rfl, hst'⟩ := at_session_Table_open hst
 clear hst
 have hst := hst'
 clear hst'
 refine wv (.bool false) z z (by kernel_rfl) (wv (.bool false) z z z (wl_nil (tn ?_)))
 refine wp_iff z ?_
 refine wp_seq (wrl (wv (.int .u64 a2) z z z (wv (.bool (a2 == (0:Int))) z z z (wv (.bool (a2 == (0:Int))) z z z (wl_nil (tn ?_))))))
 refine bsplit (a2 == (0:Int)) (fun hc299 => ?_) (fun hc299 => ?_)
 {
 replace hm := bif_t hc299 hm
 refine wp_ift (cvb hc299) ?_
 refine wp_seq (wrl (wv (.int .i64 (1:Int)) z z z (wl_nil (tn (wp_ret (blk_r (then_r ?_)))))))
 replace hst := hst.pull1.pull1
 replace hst := at_session_Table_close (pv := Pt b296 0) (x := o0) hst z
 replace hst := objO_some hst
 obtain rfl := some_inj hm
 refine post_ret (vs := [I6 (1:Int)]) results124 (rvs_cons (rv_tmp z) rvs_nil) ?_
 exact ⟨z, hst.keep1⟩
}
 {
 replace hm := bif_f hc299 hm
 refine wp_iff (cvb hc299) ?_
 refine wp_skip (blk_n (tn (wp_seq (wrl ?_))))
 refine wv (Pt b296 0) z z z (wv (.int .u64 a1) z z z ?_)
 replace hst := hst.pull1.pull1
 replace hst := at_session_Table_close (pv := Pt b296 0) (x := o0) hst z
 replace hst := objO_some hst
 obtain ⟨t300, ht301, hm⟩ := bind_some hm
 refine wc call148 [Pt b296 0, U6 a1] z z z ?_
 refine (session_Table_find_ref hst.to1 ht301).mono ?_
 rintro _ w302 ⟨rfl, hst⟩
 refine ⟨_, z, ?_⟩
 replace hst := hst.of1
 replace hst := objO_get hst
 refine wv (.tuple #[I6 t300.1, .bool t300.2]) z z z (wv (.int .i64 t300.1) z z z (wv (.bool t300.2) z z z (wv (.int .i64 t300.1) z z z (wv (.bool t300.2) z z z (wl_nil (tn ?_))))))
 obtain ⟨y327, hm, hx328⟩ := joinO_some hm
 refine wp_cut (fun a w => ∃ (σ325 : Nat → Value), (session_Table_Put_j0 t300 o0 a1 a2 a3) () = some r ∧ a = Fr 66 (upd (upd (upd (upd (upd (upd σ325 0 (Pt b296 0)) 1 (.int .u64 a1)) 2 (.int .u64 a2)) 7 (Pt b291 0)) 9 (.int .i64 t300.1)) 10 (.bool t300.2)) ∧ St w0 w I [at_session_Table (Pt b296 0) o0, cells b291 [I6 a3.E, U6 a3.Epoch, U6 a3.Index, r3_0, r3_1]] R) ?_ ?_
 {
 refine wp_seq (wrl (wv (.bool t300.2) z z z (wv (.bool t300.2) z z z ?_)))
 refine bsplit t300.2 (fun hc305 => ?_) (fun hc305 => ?_)
 {
 replace hm := bif_t hc305 hm
 refine wv (Pt b296 0) ((wanted_eq z z z (cvb hc305)).trans z) z z ?_
 obtain ⟨b306, v307, e309, hst'⟩ := at_session_Table_open hst
 clear hst
 have e309 := ptr_inj e309
 subst e309
 have hst := hst'
 clear hst'
 refine wv (Pt b296 0) ((wanted_eq z z z (cvb hc305)).trans z) z z (wv (Pt b296 0) ((wanted_eq z z z (cvb hc305)).trans z) z (x_field z underlying206 z sizeOf204 z) (wv (v307) ((wanted_eq z z z (cvb hc305)).trans z) z (x_load z isAgg204 (hst.bc0 z)) (wv (.int .i64 t300.1) ((wanted_eq z z z (cvb hc305)).trans z) z z ?_)))
 obtain ⟨x310, hx311, hm⟩ := bind_some hm
 obtain ⟨h312, h313, hi314⟩ := geto_some hx311
 refine wv (.pointer (some (eAddr v307 (t300.1.toNat * 7 + 0)))) ((wanted_eq z z z (cvb hc305)).trans z) z (x_index z z underlying204 sizeOf242 hst.sv1 h312 h313) (wv (.pointer (some (eAddr v307 (t300.1.toNat * 7 + 1)))) ((wanted_eq z z z (cvb hc305)).trans z) z (x_field_e z underlying242 z sizeOf26 z) ?_)
 obtain ⟨cs315, hr316, hc317⟩ := hst.og1 hi314
 obtain ⟨v318, v321, rfl, f319, f322, -⟩ := hr316
 refine wv (.int .u64 x310.seq) ((wanted_eq z z z (cvb hc305)).trans z) z (x_load z isAgg26 (hc317 1 _ z)) (wv (.int .u64 a2) ((wanted_eq z z z (cvb hc305)).trans z) z z (wv (.bool (decide (x310.seq ≥ a2))) ((wanted_eq z z z (cvb hc305)).trans z) z z (wv (.bool (decide (x310.seq ≥ a2))) z z (x_pick_t hc305 z z) (wl_nil (tn ?_)))))
 refine bsplit (decide (x310.seq ≥ a2)) (fun hc324 => ?_) (fun hc324 => ?_)
 {
 replace hm := bif_t hc324 hm
 refine wp_ift (cvb hc324) ?_
 refine wp_seq (wrl (wv (.int .i64 (10:Int)) z z z (wl_nil (tn (wp_ret (then_r ?_))))))
 replace hm := inr_up hm hx328
 replace hst := hst.pull1.pull1
 replace hst := at_session_Table_close (pv := Pt b296 0) (x := o0) hst z
 replace hst := objO_some hst
 obtain rfl := some_inj hm
 refine post_ret (vs := [I6 (10:Int)]) results124 (rvs_cons (rv_tmp z) rvs_nil) ?_
 exact ⟨z, hst.keep1⟩
}
 {
 replace hm := bif_f hc324 hm
 refine wp_iff (cvb hc324) ?_
 refine wp_skip (tn ?_)
 replace hst := hst.pull1.pull1
 replace hst := at_session_Table_close (pv := Pt b296 0) (x := o0) hst z
 replace hst := hst.pull1.pull1.keep2
 obtain rfl := some_inj hm
 exact ⟨_, hx328, (fu 0 (Pt b296 0) z (fu 1 (.int .u64 a1) z (fu 2 (.int .u64 a2) z (fu 7 (Pt b291 0) z (fu 9 (.int .i64 t300.1) z (fu 10 (.bool t300.2) z z)))))), hst⟩
}
}
 {
 replace hm := bif_f hc305 hm
 refine wo hc305 z z z z z z (wo hc305 z z z z z z (wo hc305 z z z z z z (wo hc305 z z z z z z (wo hc305 z z z z z z (wo hc305 z z z z z z (wo hc305 z z z z z z (wo hc305 z z z z z z (wo hc305 z z z z z z (wo hc305 z z z z z z (wv (.bool false) z z (x_pick_f hc305 z z) (wl_nil (tn ?_))))))))))))
 refine wp_iff z ?_
 refine wp_skip (tn ?_)
 replace hst := hst.pull1.pull1.keep2
 obtain rfl := some_inj hm
 exact ⟨_, hx328, (fu 0 (Pt b296 0) z (fu 1 (.int .u64 a1) z (fu 2 (.int .u64 a2) z (fu 7 (Pt b291 0) z (fu 9 (.int .i64 t300.1) z (fu 10 (.bool t300.2) z z)))))), hst⟩
}
}
 {
 clear hst
 rintro _ w329 ⟨σ325, hm, rfl, hst⟩
 dsimp only [session_Table_Put_j0] at hm
 obtain ⟨y358, hm, hx359⟩ := bind_some hm
 refine wp_cut (fun a w => ∃ (z355 : session_Table) (σ356 : Nat → Value), (session_Table_Put_j1 t300 a2 a3) z355 = some r ∧ a = Fr 66 (upd (upd (upd (upd σ356 0 (Pt b296 0)) 2 (.int .u64 a2)) 7 (Pt b291 0)) 9 (.int .i64 t300.1)) ∧ St w0 w I [at_session_Table (Pt b296 0) z355, cells b291 [I6 a3.E, U6 a3.Epoch, U6 a3.Index, r3_0, r3_1]] R) ?_ ?_
 {
 refine wp_seq (wrl (wv (.bool t300.2) z z z (wv (.bool (!t300.2)) z z z (wl_nil (tn ?_)))))
 refine bsplit (!t300.2) (fun hc330 => ?_) (fun hc330 => ?_)
 {
 replace hm := bif_t hc330 hm
 refine wp_ift (cvb hc330) ?_
 refine wrl (wv (Pt b296 0) z z z (wv (Pt b296 0) z z z ?_))
 obtain ⟨b331, v332, e334, hst'⟩ := at_session_Table_open hst
 clear hst
 have e334 := ptr_inj e334
 subst e334
 have hst := hst'
 clear hst'
 refine wv (Pt b296 0) z z z (wv (Pt b296 0) z z (x_field z underlying206 z sizeOf204 z) (wv (v332) z z (x_load z isAgg204 (hst.bc0 z)) (wv (.int .i64 t300.1) z z z (wv (.int .u64 a1) z z z (wv (.agg #[U6 a1, Zu, Zi, Zu, Zu, Zs, Zs]) z z (by kernel_rfl) ?_)))))
 have f339 : Ro ty_api_Got I (.slice none 0 0) [] := ro_nil
 have f340 : Ro (tySl ty_api_Pair) I (.slice none 0 0) [] := ro_nil
 obtain ⟨b341, w342, ew343, eb344, hst⟩ := hst.lits (E := ty_session_row) (xs := [({ session := a1, seq := (0:Int), r := zero_api_Reply } : session_row)]) [[U6 a1, Zu, Zi, Zu, Zu, Zs, Zs]] 242 1 z (Reps.cons ⟨_, _, z, f339, f340, one_of_sliceV (ro_sliceV f339), one_of_sliceV (ro_sliceV f340)⟩ Reps.nil)
 refine wl_run (v := (.slice (some ⟨b341, 0, none⟩) 1 1)) (w' := w342) z z (x_als (by kernel_rfl) ew343 eb344) ?_
 replace hst := hst.pull2
 obtain ⟨t346, ht347, hm⟩ := bind_some hm
 refine wc call187 [v332, I6 t300.1, (.slice (some ⟨b341, 0, none⟩) 1 1)] z z z ?_
 refine (slices_Insert_session_row_session_row_ref hst.to2 ht347).mono ?_
 rintro _ w348 ⟨v351, rfl, hst⟩
 refine ⟨_, z, ?_⟩
 replace hst := hst.of1
 refine wv (Pt b296 0) z z z (wv (Pt b296 0) z z (x_field z underlying206 z sizeOf204 z) ?_)
 replace hst := hst.pull1
 obtain ⟨w353, hr354, hst⟩ := hst.boxStore1 (P := prog) (t := 204) (cs' := [v351]) 0 v351 (one_of_sliceV hst.sv1) sizeOf204 z z
 refine wl_unit z z (x_unit hr354) ?_
 refine wl_nil (tn ?_)
 replace hst := hst.pull1.pull1
 replace hst := at_session_Table_close (pv := Pt b296 0) (x := ({ l := t346 } : session_Table)) hst z
 replace hst := hst.pull1.pull1.keep2
 obtain rfl := some_inj hm
 exact ⟨({ l := t346 } : session_Table), _, hx359, (fu 0 (Pt b296 0) z (fu 2 (.int .u64 a2) z (fu 7 (Pt b291 0) z (fu 9 (.int .i64 t300.1) z z)))), hst⟩
}
 {
 replace hm := bif_f hc330 hm
 refine wp_iff (cvb hc330) ?_
 refine wp_skip (tn ?_)
 replace hst := hst.pull1.pull1.keep2
 obtain rfl := some_inj hm
 exact ⟨o0, _, hx359, (fu 0 (Pt b296 0) z (fu 2 (.int .u64 a2) z (fu 7 (Pt b291 0) z (fu 9 (.int .i64 t300.1) z z)))), hst⟩
}
}
 {
 clear hst
 rintro _ w360 ⟨z355, σ356, hm, rfl, hst⟩
 dsimp only [session_Table_Put_j1] at hm
 refine wp_seq ?_
 obtain ⟨b361, v362, e364, hst'⟩ := at_session_Table_open hst
 clear hst
 have e364 := ptr_inj e364
 subst e364
 have hst := hst'
 clear hst'
 refine wp_region_St hst 18 [0, 1, 2, 3, 4, 5, 6, 7, 8, 9, 10, 11, 12, 13, 14, 15, 16, 17] [0, 1, 3, 7, 0, 0, 32, 96, 224, 0, 0, 0, 1535, 5631, 13823, 32767, 65535, 131071] [] z (by kernel_rfl) (by kernel_rfl) Tryz.mixed (by kernel_rfl) ?_
 refine wsr (Pt b296 0) 0 z z z (by kernel_rfl) (fun w hst => z) (wsr (Pt b296 0) 1 z z z (by kernel_rfl) (fun w hst => z) (wsr (Pt b296 0) 2 z z z (by kernel_rfl) (fun w hst => x_field z underlying206 z sizeOf204 z) (wsr (v362) 3 z z z (by kernel_rfl) (fun w hst => x_load z isAgg204 (hst.bc0 z)) (wsr (.int .i64 t300.1) 4 z z z (by kernel_rfl) (fun w hst => z) (wsr (Pt b296 0) 5 z z z (by kernel_rfl) (fun w hst => z) (wsr (Pt b296 0) 6 z z z (by kernel_rfl) (fun w hst => z) (wsr (Pt b296 0) 7 z z z (by kernel_rfl) (fun w hst => x_field z underlying206 z sizeOf204 z) (wsr (v362) 8 z z z (by kernel_rfl) (fun w hst => x_load z isAgg204 (hst.bc0 z)) (wsr (.int .i64 t300.1) 9 z z z (by kernel_rfl) (fun w hst => z) (wsr (.int .u64 a2) 10 z z z (by kernel_rfl) (fun w hst => z) (wsr (.agg #[I6 a3.E, U6 a3.Epoch, U6 a3.Index, r3_0, r3_1]) 11 z z z (by kernel_rfl) (fun w hst => x_loadN (cs := [I6 a3.E, U6 a3.Epoch, U6 a3.Index, r3_0, r3_1]) z isAgg33 sizeOf33 (hst.bcs2 0 z)) ?_)))))))))))
 obtain ⟨x365, hx366, hm⟩ := bind_some hm
 obtain ⟨h367, h368, hi369⟩ := geto_some hx366
 refine wsr (.pointer (some (eAddr v362 (t300.1.toNat * 7 + 0)))) 12 z z z (by kernel_rfl) (fun w hst => x_index z z underlying204 sizeOf242 hst.sv1 h367 h368) (wsr (.pointer (some (eAddr v362 (t300.1.toNat * 7 + 1)))) 13 z z z (by kernel_rfl) (fun w hst => x_field_e z underlying242 z sizeOf26 z) ?_)
 refine ws_e1 14 (by kernel_rfl) ?_
 refine nxe [15, 16, 17] (by kernel_rfl) z z ?_
 clear hst
 intro w hst
 obtain ⟨cs370, hr371, hc372⟩ := hst.og1 hi369
 obtain ⟨v373, v376, rfl, f374, f377, -⟩ := hr371
 replace hst := hst.pull1
 obtain ⟨w379, hr380, hst⟩ := hst.own_store (P := prog) (t := 26) (y := ({ session := x365.session, seq := a2, r := x365.r } : session_row)) hi369 1 (.int .u64 a2) sizeOf26 (Nat.le_of_ble_eq_true z) (oC z oN) (by rintro _ ⟨u382, u383, rfl, f384, f385, o386, o387⟩; exact ⟨u382, u383, rfl, f384, f385, o386, o387⟩)
 have hi381 := set_get hi369 ({ session := x365.session, seq := a2, r := x365.r } : session_row)
 have h388 := set_lt h368 t300.1.toNat ({ session := x365.session, seq := a2, r := x365.r } : session_row)
 refine we_unit z (x_unit hr380) ?_
 refine ws_next (pend' := [(11, .agg #[I6 a3.E, U6 a3.Epoch, U6 a3.Index, r3_0, r3_1]), (9, I6 t300.1)]) hst (by kernel_rfl) (pkr z z (fun w hst => x_loadN (cs := [I6 a3.E, U6 a3.Epoch, U6 a3.Index, r3_0, r3_1]) z isAgg33 sizeOf33 (hst.bcs2 0 z)) (pkr z z (fun w hst => z) pk_nil)) ?_
 refine wsr (.pointer (some (eAddr v362 (t300.1.toNat * 7 + 0)))) 15 z z z (by kernel_rfl) (fun w hst => x_index z z underlying204 sizeOf242 hst.sv0 h367 h388) (wsr (.pointer (some (eAddr v362 (t300.1.toNat * 7 + 2)))) 16 z z z (by kernel_rfl) (fun w hst => x_field_e z underlying242 z sizeOf33 z) ?_)
 refine ws_e1 17 (by kernel_rfl) ?_
 refine nxe [] (by kernel_rfl) z z ?_
 clear hst
 intro w hst
 obtain ⟨cs389, hr390, hc391⟩ := hst.og0 hi381
 obtain ⟨v392, v395, rfl, f393, f396, -⟩ := hr390
 obtain ⟨w398, hr399, hst⟩ := hst.own_store (P := prog) (t := 33) (y := ({ session := ({ session := x365.session, seq := a2, r := x365.r } : session_row).session, seq := ({ session := x365.session, seq := a2, r := x365.r } : session_row).seq, r := a3 } : session_row)) hi381 2 (.agg #[I6 a3.E, U6 a3.Epoch, U6 a3.Index, r3_0, r3_1]) sizeOf33 (Nat.le_of_ble_eq_true z) (oC z (oC z (oC z (oC (one_of_sliceV (ro_sliceV f3_0)) (oC (one_of_sliceV (ro_sliceV f3_1)) oN))))) (by rintro _ ⟨u401, u402, rfl, f403, f404, o405, o406⟩; exact ⟨_, _, rfl, f3_0, f3_1, one_of_sliceV (ro_sliceV f3_0), one_of_sliceV (ro_sliceV f3_1)⟩)
 have hi400 := set_get hi381 ({ session := ({ session := x365.session, seq := a2, r := x365.r } : session_row).session, seq := ({ session := x365.session, seq := a2, r := x365.r } : session_row).seq, r := a3 } : session_row)
 have h407 := set_lt h388 t300.1.toNat ({ session := ({ session := x365.session, seq := a2, r := x365.r } : session_row).session, seq := ({ session := x365.session, seq := a2, r := x365.r } : session_row).seq, r := a3 } : session_row)
 refine we_unit z (x_unit hr399) ?_
 refine ws_next (pend' := []) hst (by kernel_rfl) pk_nil ?_
 refine ws_nil ?_
 intro w hst
 refine tn (wp_seq (wrl (wv (.int .i64 (0:Int)) z z z (wl_nil (tn (wp_ret ?_))))))
 replace hst := hst.pull1
 replace hst := at_session_Table_close (pv := Pt b296 0) (x := ({ l := ((z355.l.set t300.1.toNat ({ session := x365.session, seq := a2, r := x365.r } : session_row)).set t300.1.toNat ({ session := ({ session := x365.session, seq := a2, r := x365.r } : session_row).session, seq := ({ session := x365.session, seq := a2, r := x365.r } : session_row).seq, r := a3 } : session_row)) } : session_Table)) hst z
 replace hst := objO_some hst
 obtain rfl := some_inj hm
 refine post_ret (vs := [Zi]) results124 (rvs_cons (rv_tmp z) rvs_nil) ?_
 exact ⟨z, hst.keep1⟩
}
}
}
}
}

end Go.Proofs.YtgnkkopjkgdieaaGreat
