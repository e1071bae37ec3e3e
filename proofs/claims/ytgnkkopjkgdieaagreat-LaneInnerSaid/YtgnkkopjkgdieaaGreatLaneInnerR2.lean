/- The Go functions refine their models, part 2. -/
import Derived.Test.YtgnkkopjkgdieaaGreatLaneInnerR1
set_option linter.unusedVariables false
set_option linter.unusedSimpArgs false
set_option maxRecDepth 100000
set_option maxHeartbeats 4000000
namespace Go.Proofs.YtgnkkopjkgdieaaGreat
open Go Go.V
open _root_.Go.Proofs.Tryz IntKind
attribute [local irreducible] wpList Code.wp wpQuiet Calls bodyPost Oper.wp wpS Nx PendOK YieldsIn
theorem lane_State_Told_ref {w0 w : World} {I : HL} {R : SP} {a0 : (Option lane_State)} {p0 : Value} {a1 : api_Hold} {r1_0 : Value} {r1_1 : Value} {r1_2 : Value} {r1_3 : Value} (f1_0 : Rd tyF64 R I r1_0 a1.Gets) (f1_1 : Rd tyF2 R I r1_1 a1.Scans) (f1_2 : Rd tyF64 R I r1_2 a1.Puts) (f1_3 : Rd (tyInt .u8) R I r1_3 a1.Data) (hst : St w0 w I [objO at_lane_State p0 a0] R) {r : (api_Reply)} (hm : lane_State_Told a0 a1 = some r) :
  Calls prog 33 #[p0, .agg #[U6 a1.ID.Session, U6 a1.ID.Seq, U6 a1.Epoch, r1_0, r1_1, r1_2, r1_3]] w fun e w' => ∃ (I' : HL) (q0_0 : Value) (q0_1 : Value), e = .returned (.agg #[I6 r.E, U6 r.Epoch, U6 r.Index, q0_0, q0_1]) ∧ I.le I' ∧ St w0 w' I' [ownS ty_api_Got q0_0 r.Gots, ownS (tySl ty_api_Pair) q0_1 r.Scans, objO at_lane_State p0 a0] R := by {
 rcases a0 with _ | o0
 {
 obtain ⟨rfl, hst'⟩ := objO_none hst
 clear hst
 have hst := hst'
 clear hst'
 dsimp only [lane_State_Told] at hm
 refine calls_start (args := [.pointer none, .agg #[U6 a1.ID.Session, U6 a1.ID.Seq, U6 a1.Epoch, r1_0, r1_1, r1_2, r1_3]]) func33 z ntmps33 (Nat.le_of_ble_eq_true z) ?_
 have hI0 := HL.le.refl I
 refine wp_seq (wrl ?_)
 obtain ⟨b636, w637, ew638, eb639, hst⟩ := hst.box [U6 a1.ID.Session, U6 a1.ID.Seq, U6 a1.Epoch, r1_0, r1_1, r1_2, r1_3] 46
 refine wl_run (v := Pt b636 0) (w' := w637) z z (x_al (by kernel_rfl) ew638 eb639) ?_
 obtain ⟨b643, w644, ew645, eb646, hst⟩ := hst.box [Zi, Zu, Zu, Zs, Zs] 33
 refine wl_run (v := Pt b643 0) (w' := w644) z z (x_al (by kernel_rfl) ew645 eb646) ?_
 refine wl_nil (tn (wp_seq (wrl ?_)))
 obtain ⟨b650, w651, ew652, eb653, hst⟩ := hst.box [Zi, Zu, Zu, Zs, Zs] 33
 refine wl_run (v := Pt b650 0) (w' := w651) z z (x_al (by kernel_rfl) ew652 eb653) ?_
 refine wl_nil (tn (wp_seq (wp_seq (wrl (wv (.pointer none) z z z (wv (.bool true) z z (by kernel_rfl) (wl_nil (tn ?_))))))))
 refine wp_ift z ?_
 refine wp_seq (wrl (wv (.agg #[Zi, Zu, Zu, Zs, Zs]) z z (x_loadN (cs := [Zi, Zu, Zu, Zs, Zs]) z isAgg33 sizeOf33 (hst.bcs0 0 z)) ?_))
 replace hst := hst.pull1
 obtain ⟨w655, hr656, hst⟩ := hst.bx [Zi, Zu, Zu, Zs, Zs] sizeOf33 z (oC z (oC z (oC z (oC z (oC z oN))))) (by kernel_rfl)
 refine wl_unit z z (x_unit hr656) ?_
 refine wl_nil (tn (wp_ret (then_r ?_)))
 replace hst := hst.own_nil ty_api_Got
 replace hst := hst.own_nil (tySl ty_api_Pair)
 replace hst := hst.objO_nil at_lane_State
 obtain rfl := some_inj hm
 refine post_ret (vs := [.agg #[Zi, Zu, Zu, Zs, Zs]]) results33 (rvs_cons (rv_cell (cs := [Zi, Zu, Zu, Zs, Zs]) z isAgg33 sizeOf33 (hst.bcs3 0 z)) rvs_nil) ?_
 replace hst := hst.pull1.pull2
 exact ⟨_, Zs, Zs, z, hI0, hst.keep3⟩
}
 {
 replace hst := objO_get hst
 dsimp only [lane_State_Told] at hm
 refine calls_start (args := [p0, .agg #[U6 a1.ID.Session, U6 a1.ID.Seq, U6 a1.Epoch, r1_0, r1_1, r1_2, r1_3]]) func33 z ntmps33 (Nat.le_of_ble_eq_true z) ?_
 have hI0 := HL.le.refl I
 refine wp_seq (wrl ?_)
 obtain ⟨b657, w658, ew659, eb660, hst⟩ := hst.box [U6 a1.ID.Session, U6 a1.ID.Seq, U6 a1.Epoch, r1_0, r1_1, r1_2, r1_3] 46
 refine wl_run (v := Pt b657 0) (w' := w658) z z (x_al (by kernel_rfl) ew659 eb660) ?_
 obtain ⟨b664, w665, ew666, eb667, hst⟩ := hst.box [Zi, Zu, Zu, Zs, Zs] 33
 refine wl_run (v := Pt b664 0) (w' := w665) z z (x_al (by kernel_rfl) ew666 eb667) ?_
 refine wl_nil (tn (wp_seq (wrl ?_)))
 obtain ⟨b671, w672, ew673, eb674, hst⟩ := hst.box [Zi, Zu, Zu, Zs, Zs] 33
 refine wl_run (v := Pt b671 0) (w' := w672) z z (x_al (by kernel_rfl) ew673 eb674) ?_
 refine wl_nil (tn (wp_seq (wp_seq (wrl (wv (p0) z z z ?_)))))
 replace hst := hst.pull3
 obtain ⟨b676, v677, v679, v681, v683, v685, v687, v689, rfl, hst'⟩ := at_lane_State_open hst
 clear hst
 have hst := hst'
 clear hst'
 refine wv (.bool false) z z (by kernel_rfl) (wl_nil (tn ?_))
 refine wp_iff z ?_
 refine wp_skip (tn ?_)
 obtain ⟨y894, hm, hx895⟩ := bind_some hm
 refine wp_cut (fun a w => ∃ (I891 : HL) (z890 : (List api_Got)) (v889 : Value) (σ892 : Nat → Value), (lane_State_Told_j0 a1 o0) z890 = some r ∧ a = Fr 55 (upd (upd (upd (upd σ892 0 (Pt b676 0)) 3 (Pt b657 0)) 4 (Pt b664 0)) 5 (Pt b671 0)) ∧ I.le I891 ∧ St w0 w I891 [at_lane_State (Pt b676 0) o0, cells b657 [U6 a1.ID.Session, U6 a1.ID.Seq, U6 a1.Epoch, r1_0, r1_1, r1_2, r1_3], cells b664 [Zi, Zu, Zu, Zs, Zs], cells b671 [Zi, Zu, Zu, v889, Zs], ownS ty_api_Got v889 z890] R) ?_ ?_
 {
 have hL896 := HL.le.refl I
 refine wp_seq (wrl (wv (Pt b657 3) z z (x_field z underlying46 z sizeOf43 z) (wv (r1_0) z z (x_load z isAgg43 (hst.bc10 z)) (wv (.int .i64 ((a1.Gets).length : Int)) z z (x_len z underlying43 (rd_sliceV f1_0)) (wv (.int .i64 (0:Int)) z z z (wl_nil (tn (wp_block ?_))))))))
 replace hst := hst.pull7.pull7.pull7.pull7.pull7.pull7.pull7.pull7
 replace hst := at_lane_State_close (pv := Pt b676 0) (x := o0) hst z
 replace hst := hst.own_nil ty_api_Got
 obtain ⟨n836, hm⟩ := loopO_some hm
 refine wp_loop_n (fun n a w => ∃ (I834 : HL) (z830 : (List api_Got)) (z833 : Int) (v831 : Value) (σ835 : Nat → Value), loopN (lane_State_Told_l1 a1 o0) n (z830, z833) = some y894 ∧ a = Fr 55 (upd (upd (upd (upd (upd (upd (upd σ835 0 (Pt b676 0)) 3 (Pt b657 0)) 4 (Pt b664 0)) 5 (Pt b671 0)) 14 (r1_0)) 15 (.int .i64 ((a1.Gets).length : Int))) 16 (.int .i64 z833)) ∧ I.le I834 ∧ St w0 w I834 [ownS ty_api_Got v831 z830, at_lane_State (Pt b676 0) o0, cells b671 [Zi, Zu, Zu, v831, Zs], cells b664 [Zi, Zu, Zu, Zs, Zs], cells b657 [U6 a1.ID.Session, U6 a1.ID.Seq, U6 a1.Epoch, r1_0, r1_1, r1_2, r1_3]] R) n836 ⟨_, [], (0:Int), Zs, _, hm, (fu 0 (Pt b676 0) z (fu 3 (Pt b657 0) z (fu 4 (Pt b664 0) z (fu 5 (Pt b671 0) z (fu 14 r1_0 z (fu 15 (.int .i64 ((a1.Gets).length : Int)) z (fu 16 (.int .i64 (0:Int)) z z))))))), (HL.le.refl _), hst⟩ ?_
 rintro n842 _ w837 ⟨I834, z830, z833, v831, σ835, hm, rfl, hL838, hst⟩
 obtain ⟨n839, y840, rfl, hm, hx841⟩ := loopN_some hm
 dsimp only [lane_State_Told_l1] at hm
 replace f1_0 := f1_0.mono (rd_le hL838)
 replace f1_1 := f1_1.mono (rd_le hL838)
 replace f1_2 := f1_2.mono (rd_le hL838)
 replace f1_3 := f1_3.mono (rd_le hL838)
 replace hI0 := hI0.trans hL838
 replace hL896 := hL896.trans hL838
 refine wp_seq (wrl (wv (.bool (decide (z833 < ((a1.Gets).length : Int)))) z z z (wl_nil (tn (wp_seq ?_)))))
 refine bsplit (decide (z833 < ((a1.Gets).length : Int))) (fun hc843 => ?_) (fun hc843 => ?_)
 {
 replace hm := bif_t hc843 hm
 refine wp_ift (cvb hc843) ?_
 refine wp_skip (tn (wp_seq (wp_block (wp_seq (wrl ?_)))))
 obtain ⟨x844, hx845, hm⟩ := bind_some hm
 obtain ⟨h846, h847, hi848⟩ := geto_some hx845
 refine wv (.pointer (some (eAddr r1_0 (z833.toNat * 1 + 0)))) z z (x_index z z underlying43 sizeOf37 (rd_sliceV f1_0) h846 h847) (wv (.float .f64 x844) z z (x_load z isAgg37 (rd_load f1_0 (HL.le.refl _) hst hi848 (by rintro _ rfl; rfl))) (wv (.float .f64 x844) z z z (wl_nil (tn ?_))))
 replace hst := hst.pull1
 obtain ⟨b849, v850, v852, v854, v856, v858, v860, v862, e864, hst'⟩ := at_lane_State_open hst
 clear hst
 have e864 := ptr_inj e864
 subst e864
 have hst := hst'
 clear hst'
 refine wp_region_St hst 12 [0, 1, 2, 3, 4, 5, 6, 7, 8, 9, 10, 11] [0, 1, 0, 4, 12, 28, 0, 124, 252, 511, 1023, 2047] [] z (by kernel_rfl) (by kernel_rfl) Tryz.mixed (by kernel_rfl) ?_
 refine wsr (Pt b671 3) 0 z z z (by kernel_rfl) (fun w hst => x_field z underlying33 z sizeOf30 z) (wsr (v831) 1 z z z (by kernel_rfl) (fun w hst => x_load z isAgg30 (hst.bc9 z)) (wsr (Pt b676 0) 2 z z z (by kernel_rfl) (fun w hst => z) (wsr (Pt b676 0) 3 z z z (by kernel_rfl) (fun w hst => z) (wsr (Pt b676 2) 4 z z z (by kernel_rfl) (fun w hst => x_field z underlying111 z sizeOf101 z) (wsr (v850) 5 z z z (by kernel_rfl) (fun w hst => x_load z isAgg101 (hst.bc0 z)) (wsr (.float .f64 x844) 6 z z z (by kernel_rfl) (fun w hst => z) ?_))))))
 refine ws_e1 7 (by kernel_rfl) ?_
 refine nxe [8, 9, 10, 11] (by kernel_rfl) z z ?_
 clear hst
 intro w hst
 replace hst := hst.pull1
 obtain ⟨t865, ht866, hm⟩ := bind_some hm
 refine wec call60 [v850, F6 x844, U6 (18446744073709551615:Int)] z z ?_
 refine (mvcc_Store_Get_ref hst.to1 ht866).mono ?_
 rintro _ w867 ⟨v870, rfl, hst⟩
 refine ⟨_, z, ?_⟩
 replace hst := hst.of2
 refine ws_next (pend' := [(1, v831), (0, Pt b671 3)]) hst (by kernel_rfl) (pkr z z (fun w hst => x_load z isAgg30 (hst.bc10 z)) (pkr z z (fun w hst => x_field z underlying33 z sizeOf30 z) pk_nil)) ?_
 refine ws_e1 8 (by kernel_rfl) ?_
 refine nxe [9, 10, 11] (by kernel_rfl) z z ?_
 clear hst
 intro w hst
 obtain ⟨I873, hI874, f875, hst⟩ := hst.own_fix
 replace f1_0 := f1_0.mono (rd_le hI874)
 replace f1_1 := f1_1.mono (rd_le hI874)
 replace f1_2 := f1_2.mono (rd_le hI874)
 replace f1_3 := f1_3.mono (rd_le hI874)
 replace hI0 := hI0.trans hI874
 replace hL896 := hL896.trans hI874
 replace hL838 := hL838.trans hI874
 obtain ⟨b876, w877, ew878, eb879, hst⟩ := hst.lits (E := ty_api_Got) (xs := [t865]) [[.bool t865.Has, v870]] 61 1 z (Reps.cons ⟨_, z, f875, one_of_sliceV (ro_sliceV f875)⟩ Reps.nil)
 refine we_run (v := (.slice (some ⟨b876, 0, none⟩) 1 1)) (w' := w877) z (x_als (by kernel_rfl) ew878 eb879) ?_
 refine ws_next (pend' := [(1, v831), (0, Pt b671 3)]) hst (by kernel_rfl) (pkr z z (fun w hst => x_load z isAgg30 (hst.bc10 z)) (pkr z z (fun w hst => x_field z underlying33 z sizeOf30 z) pk_nil)) ?_
 refine ws_e1 9 (by kernel_rfl) ?_
 refine nxe [10, 11] (by kernel_rfl) z z ?_
 clear hst
 intro w hst
 obtain ⟨hg881, hm⟩ := gd_some hm
 replace hst := hst.pull9
 obtain ⟨v882, w883, hr884, hst⟩ := run_append elem_30 underlying30 hst hst.src1 (room_of hg881 z) 30
 refine we_run (v := v882) (w' := w883) z (x_append z z hr884) ?_
 refine ws_next (pend' := []) hst (by kernel_rfl) pk_nil ?_
 refine wsr (Pt b671 3) 10 z z z (by kernel_rfl) (fun w hst => x_field z underlying33 z sizeOf30 z) ?_
 refine ws_e1 11 (by kernel_rfl) ?_
 refine nxe [] (by kernel_rfl) z z ?_
 clear hst
 intro w hst
 replace hst := hst.pull10
 obtain ⟨w886, hr887, hst⟩ := hst.boxStore1 (P := prog) (t := 30) (cs' := [Zi, Zu, Zu, v882, Zs]) 3 v882 (one_of_sliceV hst.sv1) sizeOf30 z z
 refine we_unit z (x_unit hr887) ?_
 refine ws_next (pend' := []) hst (by kernel_rfl) pk_nil ?_
 refine ws_nil ?_
 intro w hst
 refine blk_n (tn (wrl ?_))
 refine wv (.int .i64 (i64.wrap (z833 + (1:Int)))) z z z (wv (.int .i64 (i64.wrap (z833 + (1:Int)))) z z z (wl_nil (tn ?_)))
 replace hst := hst.pull10.pull10.pull10.pull10.pull10.pull10.pull9.pull10
 replace hst := at_lane_State_close (pv := Pt b676 0) (x := o0) hst z
 replace hst := hst.pull5.pull5.pull3.pull3.pull4.keep5
 obtain rfl := some_inj hm
 exact ⟨_, Nat.lt_succ_self _, _, (z830 ++ ([t865])), (i64.wrap (z833 + (1:Int))), v882, _, hx841, (fu 0 (Pt b676 0) z (fu 3 (Pt b657 0) z (fu 4 (Pt b664 0) z (fu 5 (Pt b671 0) z (fu 14 r1_0 z (fu 15 (.int .i64 ((a1.Gets).length : Int)) z (fu 16 (.int .i64 (i64.wrap (z833 + (1:Int)))) z z))))))), hL838, hst⟩
}
 {
 replace hm := bif_f hc843 hm
 refine wp_iff (cvb hc843) ?_
 refine wp_exit (then_x (then_x ?_))
 replace hm := inr_up hm hx841
 refine blk_x (tn ?_)
 replace hst := hst.pull2.pull3.pull4.pull4.keep5
 obtain rfl := some_inj hm
 exact ⟨_, z830, v831, _, hx895, (fu 0 (Pt b676 0) z (fu 3 (Pt b657 0) z (fu 4 (Pt b664 0) z (fu 5 (Pt b671 0) z z)))), hL896, hst⟩
}
}
 {
 clear hst
 rintro _ w897 ⟨I891, z890, v889, σ892, hm, rfl, hL893, hst⟩
 dsimp only [lane_State_Told_j0] at hm
 replace f1_0 := f1_0.mono (rd_le hL893)
 replace f1_1 := f1_1.mono (rd_le hL893)
 replace f1_2 := f1_2.mono (rd_le hL893)
 replace f1_3 := f1_3.mono (rd_le hL893)
 replace hI0 := hI0.trans hL893
 refine wp_seq (wp_seq (wrl (wv (Pt b657 4) z z (x_field z underlying46 z sizeOf44 z) (wv (r1_1) z z (x_load z isAgg44 (hst.bc1 z)) (wv (.int .i64 ((a1.Scans).length : Int)) z z (x_len z underlying44 (rd_sliceV f1_1)) (wv (.int .i64 (0:Int)) z z z (wl_nil (tn (wp_block ?_)))))))))
 replace hst := hst.pull1.sub.own_nil (tySl ty_api_Pair)
 obtain ⟨n1064, hm⟩ := loopO_some hm
 refine wp_loop_n (fun n a w => ∃ (I1062 : HL) (z1058 : (List (List api_Pair))) (z1061 : Int) (v1059 : Value) (σ1063 : Nat → Value), loopN (lane_State_Told_l2 a1 o0 z890) n (z1058, z1061) = some r ∧ a = Fr 55 (upd (upd (upd (upd (upd (upd σ1063 0 (Pt b676 0)) 4 (Pt b664 0)) 5 (Pt b671 0)) 33 (r1_1)) 34 (.int .i64 ((a1.Scans).length : Int))) 35 (.int .i64 z1061)) ∧ I891.le I1062 ∧ St w0 w I1062 [ownS (tySl ty_api_Pair) v1059 z1058, at_lane_State (Pt b676 0) o0, cells b664 [Zi, Zu, Zu, Zs, Zs], cells b671 [Zi, Zu, Zu, v889, v1059], ownS ty_api_Got v889 z890] R) n1064 ⟨_, [], (0:Int), Zs, _, hm, (fu 0 (Pt b676 0) z (fu 4 (Pt b664 0) z (fu 5 (Pt b671 0) z (fu 33 r1_1 z (fu 34 (.int .i64 ((a1.Scans).length : Int)) z (fu 35 (.int .i64 (0:Int)) z z)))))), (HL.le.refl _), hst⟩ ?_
 rintro n1070 _ w1065 ⟨I1062, z1058, z1061, v1059, σ1063, hm, rfl, hL1066, hst⟩
 obtain ⟨n1067, y1068, rfl, hm, hx1069⟩ := loopN_some hm
 dsimp only [lane_State_Told_l2] at hm
 replace f1_0 := f1_0.mono (rd_le hL1066)
 replace f1_1 := f1_1.mono (rd_le hL1066)
 replace f1_2 := f1_2.mono (rd_le hL1066)
 replace f1_3 := f1_3.mono (rd_le hL1066)
 replace hI0 := hI0.trans hL1066
 refine wp_seq (wrl (wv (.bool (decide (z1061 < ((a1.Scans).length : Int)))) z z z (wl_nil (tn (wp_seq ?_)))))
 refine bsplit (decide (z1061 < ((a1.Scans).length : Int))) (fun hc1071 => ?_) (fun hc1071 => ?_)
 {
 replace hm := bif_t hc1071 hm
 refine wp_ift (cvb hc1071) ?_
 refine wp_skip (tn (wp_seq (wp_block (wp_seq (wrl ?_)))))
 obtain ⟨x1072, hx1073, hm⟩ := bind_some hm
 obtain ⟨h1074, h1075, hi1076⟩ := geto_some hx1073
 refine wv (.pointer (some (eAddr r1_1 (z1061.toNat * 2 + 0)))) z z (x_index z z underlying44 sizeOf80 (rd_sliceV f1_1) h1074 h1075) (wv (.agg #[F6 x1072.1, F6 x1072.2]) z z (x_loadN (cs := [F6 x1072.1, F6 x1072.2]) z isAgg80 sizeOf80 (rd_loadN f1_1 (HL.le.refl _) hst hi1076 0 (by rintro _ rfl; rfl))) ?_)
 obtain ⟨b1077, w1078, ew1079, eb1080, hst⟩ := hst.box [Zf, Zf] 80
 refine wl_run (v := Pt b1077 0) (w' := w1078) z z (x_al (by kernel_rfl) ew1079 eb1080) ?_
 obtain ⟨w1082, hr1083, hst⟩ := hst.bx [F6 x1072.1, F6 x1072.2] sizeOf80 z (oC z (oC z oN)) (by kernel_rfl)
 refine wl_unit z z (x_unit hr1083) ?_
 refine wl_nil (tn ?_)
 replace hst := hst.pull2
 obtain ⟨b1084, v1085, v1087, v1089, v1091, v1093, v1095, v1097, e1099, hst'⟩ := at_lane_State_open hst
 clear hst
 have e1099 := ptr_inj e1099
 subst e1099
 have hst := hst'
 clear hst'
 refine wp_region_St hst 15 [0, 1, 2, 3, 4, 5, 6, 7, 8, 9, 10, 11, 12, 13, 14] [0, 1, 0, 4, 12, 28, 0, 64, 0, 256, 1020, 2044, 4095, 8191, 16383] [] z (by kernel_rfl) (by kernel_rfl) Tryz.mixed (by kernel_rfl) ?_
 refine wsr (Pt b671 4) 0 z z z (by kernel_rfl) (fun w hst => x_field z underlying33 z sizeOf31 z) (wsr (v1059) 1 z z z (by kernel_rfl) (fun w hst => x_load z isAgg31 (hst.bc11 z)) (wsr (Pt b676 0) 2 z z z (by kernel_rfl) (fun w hst => z) (wsr (Pt b676 0) 3 z z z (by kernel_rfl) (fun w hst => z) (wsr (Pt b676 2) 4 z z z (by kernel_rfl) (fun w hst => x_field z underlying111 z sizeOf101 z) (wsr (v1085) 5 z z z (by kernel_rfl) (fun w hst => x_load z isAgg101 (hst.bc0 z)) (wsr (Pt b1077 0) 6 z z z (by kernel_rfl) (fun w hst => x_index_arr (i := (0:Int)) z z underlying80 sizeOf37 (by decide) (by decide)) (wsr (.float .f64 x1072.1) 7 z z z (by kernel_rfl) (fun w hst => x_load z isAgg37 (hst.bc8 z)) (wsr (Pt b1077 1) 8 z z z (by kernel_rfl) (fun w hst => x_index_arr (i := (1:Int)) z z underlying80 sizeOf37 (by decide) (by decide)) (wsr (.float .f64 x1072.2) 9 z z z (by kernel_rfl) (fun w hst => x_load z isAgg37 (hst.bc8 z)) ?_)))))))))
 refine ws_e1 10 (by kernel_rfl) ?_
 refine nxe [11, 12, 13, 14] (by kernel_rfl) z z ?_
 clear hst
 intro w hst
 replace hst := hst.pull1
 obtain ⟨t1100, ht1101, hm⟩ := bind_some hm
 refine wec call77 [v1085, F6 x1072.1, F6 x1072.2, U6 (18446744073709551615:Int), I6 (64:Int)] z z ?_
 refine (mvcc_Store_Scan_ref hst.to1 ht1101).mono ?_
 rintro _ w1102 ⟨I1103, v1105, rfl, hI1104, hst⟩
 refine ⟨_, z, ?_⟩
 replace hst := hst.of2
 replace f1_0 := f1_0.mono (rd_le hI1104)
 replace f1_1 := f1_1.mono (rd_le hI1104)
 replace f1_2 := f1_2.mono (rd_le hI1104)
 replace f1_3 := f1_3.mono (rd_le hI1104)
 replace hI0 := hI0.trans hI1104
 replace hL1066 := hL1066.trans hI1104
 refine ws_next (pend' := [(1, v1059), (0, Pt b671 4)]) hst (by kernel_rfl) (pkr z z (fun w hst => x_load z isAgg31 (hst.bc12 z)) (pkr z z (fun w hst => x_field z underlying33 z sizeOf31 z) pk_nil)) ?_
 refine ws_e1 11 (by kernel_rfl) ?_
 refine nxe [12, 13, 14] (by kernel_rfl) z z ?_
 clear hst
 intro w hst
 obtain ⟨I1108, hI1109, f1110, hst⟩ := hst.own_fix
 replace f1_0 := f1_0.mono (rd_le hI1109)
 replace f1_1 := f1_1.mono (rd_le hI1109)
 replace f1_2 := f1_2.mono (rd_le hI1109)
 replace f1_3 := f1_3.mono (rd_le hI1109)
 replace hI0 := hI0.trans hI1109
 replace hL1066 := hL1066.trans hI1109
 obtain ⟨b1111, w1112, ew1113, eb1114, hst⟩ := hst.lits (E := (tySl ty_api_Pair)) (xs := [t1100]) [[v1105]] 81 1 z (Reps.cons ⟨_, z, f1110, one_of_sliceV (ro_sliceV f1110)⟩ Reps.nil)
 refine we_run (v := (.slice (some ⟨b1111, 0, none⟩) 1 1)) (w' := w1112) z (x_als (by obtain ⟨_, _, hv_, _⟩ := (ro_sliceV f1110); rw [hv_]; kernel_rfl) ew1113 eb1114) ?_
 refine ws_next (pend' := [(1, v1059), (0, Pt b671 4)]) hst (by kernel_rfl) (pkr z z (fun w hst => x_load z isAgg31 (hst.bc12 z)) (pkr z z (fun w hst => x_field z underlying33 z sizeOf31 z) pk_nil)) ?_
 refine ws_e1 12 (by kernel_rfl) ?_
 refine nxe [13, 14] (by kernel_rfl) z z ?_
 clear hst
 intro w hst
 obtain ⟨hg1116, hm⟩ := gd_some hm
 replace hst := hst.pull10
 obtain ⟨v1117, w1118, hr1119, hst⟩ := run_append elem_31 underlying31 hst hst.src1 (room_of hg1116 z) 31
 refine we_run (v := v1117) (w' := w1118) z (x_append z z hr1119) ?_
 refine ws_next (pend' := []) hst (by kernel_rfl) pk_nil ?_
 refine wsr (Pt b671 4) 13 z z z (by kernel_rfl) (fun w hst => x_field z underlying33 z sizeOf31 z) ?_
 refine ws_e1 14 (by kernel_rfl) ?_
 refine nxe [] (by kernel_rfl) z z ?_
 clear hst
 intro w hst
 replace hst := hst.pull12
 obtain ⟨w1121, hr1122, hst⟩ := hst.boxStore1 (P := prog) (t := 31) (cs' := [Zi, Zu, Zu, v889, v1117]) 4 v1117 (one_of_sliceV hst.sv1) sizeOf31 z z
 refine we_unit z (x_unit hr1122) ?_
 refine ws_next (pend' := []) hst (by kernel_rfl) pk_nil ?_
 refine ws_nil ?_
 intro w hst
 refine blk_n (tn (wrl ?_))
 refine wv (.int .i64 (i64.wrap (z1061 + (1:Int)))) z z z (wv (.int .i64 (i64.wrap (z1061 + (1:Int)))) z z z (wl_nil (tn ?_)))
 replace hst := hst.pull10.pull10.pull10.pull10.pull10.pull10.pull9.pull10
 replace hst := at_lane_State_close (pv := Pt b676 0) (x := o0) hst z
 replace hst := hst.pull6.pull2.pull6.pull3.pull4.keep5
 obtain rfl := some_inj hm
 exact ⟨_, Nat.lt_succ_self _, _, (z1058 ++ ([t1100])), (i64.wrap (z1061 + (1:Int))), v1117, _, hx1069, (fu 0 (Pt b676 0) z (fu 4 (Pt b664 0) z (fu 5 (Pt b671 0) z (fu 33 r1_1 z (fu 34 (.int .i64 ((a1.Scans).length : Int)) z (fu 35 (.int .i64 (i64.wrap (z1061 + (1:Int)))) z z)))))), hL1066, hst⟩
}
 {
 replace hm := bif_f hc1071 hm
 refine wp_iff (cvb hc1071) ?_
 refine wp_exit (then_x (then_x ?_))
 replace hm := inr_up hm hx1069
 refine blk_x (tn (wp_seq (wrl ?_)))
 refine wv (.agg #[Zi, Zu, Zu, v889, v1059]) z z (x_loadN (cs := [Zi, Zu, Zu, v889, v1059]) z isAgg33 sizeOf33 (hst.bcs3 0 z)) ?_
 replace hst := hst.pull2
 obtain ⟨w1123, hr1124, hst⟩ := hst.bx [Zi, Zu, Zu, v889, v1059] sizeOf33 z (oC z (oC z (oC z (oC (one_of_sliceV hst.sv4) (oC (one_of_sliceV hst.sv1) oN))))) (by kernel_rfl)
 refine wl_unit z z (x_unit hr1124) ?_
 refine wl_nil (tn (wp_ret ?_))
 replace hst := hst.pull2
 replace hst := objO_some hst
 obtain rfl := some_inj hm
 refine post_ret (vs := [.agg #[Zi, Zu, Zu, v889, v1059]]) results33 (rvs_cons (rv_cell (cs := [Zi, Zu, Zu, v889, v1059]) z isAgg33 sizeOf33 (hst.bcs1 0 z)) rvs_nil) ?_
 replace hst := hst.pull2.pull4
 exact ⟨_, v889, v1059, z, hI0, hst.keep3⟩
}
}
}
}

theorem lane_State_prepare_ref {w0 w : World} {I : HL} {R : SP} {a0 : (Option lane_State)} {p0 : Value} {a1 : api_Command} {r1_0 : Value} {r1_1 : Value} {r1_2 : Value} {r1_3 : Value} {r1_4 : Value} {r1_5 : Value} {r1_6 : Value} {r1_7 : Value} (f1_0 : Rd tyF64 R I r1_0 a1.Hold.Gets) (f1_1 : Rd tyF2 R I r1_1 a1.Hold.Scans) (f1_2 : Rd tyF64 R I r1_2 a1.Hold.Puts) (f1_3 : Rd (tyInt .u8) R I r1_3 a1.Hold.Data) (f1_4 : Rd ty_api_Write R I r1_4 a1.Writes) (f1_5 : Rd ty_api_Got R I r1_5 a1.R.Gots) (f1_6 : Rd (tySl ty_api_Pair) R I r1_6 a1.R.Scans) (f1_7 : Rd ty_api_Part R I r1_7 a1.Parts) (hst : St w0 w I [objO at_lane_State p0 a0] R) {r : (api_Effect × (Option lane_State))} (hm : lane_State_prepare a0 a1 = some r) :
  Calls prog 48 #[p0, .agg #[U1 a1.Kind, U6 a1.ID.Session, U6 a1.ID.Seq, U6 a1.Epoch, U6 a1.Index, I6 a1.E, U6 a1.Hold.ID.Session, U6 a1.Hold.ID.Seq, U6 a1.Hold.Epoch, r1_0, r1_1, r1_2, r1_3, r1_4, I6 a1.R.E, U6 a1.R.Epoch, U6 a1.R.Index, r1_5, r1_6, U6 a1.Shards, r1_7, U6 a1.Rule.ID, I6 a1.Rule.From, I6 a1.Rule.To, F6 a1.Rule.Lo, F6 a1.Rule.Hi, U6 a1.Rule.Authority, I6 a1.Rule.Quota, .bool a1.On]] w fun e w' => ∃ (I' : HL) (q0_0 : Value) (q0_1 : Value), e = .returned (.agg #[U1 r.1.Kind, U6 r.1.ID.Session, U6 r.1.ID.Seq, I6 r.1.R.E, U6 r.1.R.Epoch, U6 r.1.R.Index, q0_0, q0_1]) ∧ I.le I' ∧ St w0 w' I' [ownS ty_api_Got q0_0 r.1.R.Gots, ownS (tySl ty_api_Pair) q0_1 r.1.R.Scans, objO at_lane_State p0 r.2] R := by {
 unfold lane_State_prepare at hm
 refine calls_start (args := [p0, .agg #[U1 a1.Kind, U6 a1.ID.Session, U6 a1.ID.Seq, U6 a1.Epoch, U6 a1.Index, I6 a1.E, U6 a1.Hold.ID.Session, U6 a1.Hold.ID.Seq, U6 a1.Hold.Epoch, r1_0, r1_1, r1_2, r1_3, r1_4, I6 a1.R.E, U6 a1.R.Epoch, U6 a1.R.Index, r1_5, r1_6, U6 a1.Shards, r1_7, U6 a1.Rule.ID, I6 a1.Rule.From, I6 a1.Rule.To, F6 a1.Rule.Lo, F6 a1.Rule.Hi, U6 a1.Rule.Authority, I6 a1.Rule.Quota, .bool a1.On]]) func48 z ntmps48 (Nat.le_of_ble_eq_true z) ?_
 have hI0 := HL.le.refl I
 refine wp_seq (wrl ?_)
 obtain ⟨b161, w162, ew163, eb164, hst⟩ := hst.box [U1 a1.Kind, U6 a1.ID.Session, U6 a1.ID.Seq, U6 a1.Epoch, U6 a1.Index, I6 a1.E, U6 a1.Hold.ID.Session, U6 a1.Hold.ID.Seq, U6 a1.Hold.Epoch, r1_0, r1_1, r1_2, r1_3, r1_4, I6 a1.R.E, U6 a1.R.Epoch, U6 a1.R.Index, r1_5, r1_6, U6 a1.Shards, r1_7, U6 a1.Rule.ID, I6 a1.Rule.From, I6 a1.Rule.To, F6 a1.Rule.Lo, F6 a1.Rule.Hi, U6 a1.Rule.Authority, I6 a1.Rule.Quota, .bool a1.On] 49
 refine wl_run (v := Pt b161 0) (w' := w162) z z (x_al (by kernel_rfl) ew163 eb164) ?_
 obtain ⟨b168, w169, ew170, eb171, hst⟩ := hst.box [Zb, Zu, Zu, Zi, Zu, Zu, Zs, Zs] 35
 refine wl_run (v := Pt b168 0) (w' := w169) z z (x_al (by kernel_rfl) ew170 eb171) ?_
 refine wl_nil (tn (wp_seq (wrl (wv (Pt b161 6) z z (x_field z underlying49 z sizeOf46 z) (wv (Pt b161 6) z z (x_field z underlying46 z sizeOf28 z) (wv (.agg #[U6 a1.Hold.ID.Session, U6 a1.Hold.ID.Seq]) z z (x_loadN (cs := [U6 a1.Hold.ID.Session, U6 a1.Hold.ID.Seq]) z isAgg28 sizeOf28 (hst.bcs1 6 z)) (wv (.agg #[U1 (2:Int), U6 a1.Hold.ID.Session, U6 a1.Hold.ID.Seq, Zi, Zu, Zu, Zs, Zs]) z z (by kernel_rfl) ?_)))))))
 obtain ⟨b177, w178, ew179, eb180, hst⟩ := hst.box [Zb, Zu, Zu, Zi, Zu, Zu, Zs, Zs] 35
 refine wl_run (v := Pt b177 0) (w' := w178) z z (x_al (by kernel_rfl) ew179 eb180) ?_
 obtain ⟨w182, hr183, hst⟩ := hst.bx [U1 (2:Int), U6 a1.Hold.ID.Session, U6 a1.Hold.ID.Seq, Zi, Zu, Zu, Zs, Zs] sizeOf35 z (oC z (oC z (oC z (oC z (oC z (oC z (oC z (oC z oN)))))))) (by kernel_rfl)
 refine wl_unit z z (x_unit hr183) ?_
 refine wl_nil (tn (wp_seq (wp_seq (wrl (wv (p0) z z z (wv (Pt b161 6) z z (x_field z underlying49 z sizeOf46 z) (wv (.agg #[U6 a1.Hold.ID.Session, U6 a1.Hold.ID.Seq, U6 a1.Hold.Epoch, r1_0, r1_1, r1_2, r1_3]) z z (x_loadN (cs := [U6 a1.Hold.ID.Session, U6 a1.Hold.ID.Seq, U6 a1.Hold.Epoch, r1_0, r1_1, r1_2, r1_3]) z isAgg46 sizeOf46 (hst.bcs2 6 z)) ?_)))))))
 replace hst := hst.pull3
 obtain ⟨t184, ht185, hm⟩ := bind_some hm
 refine wc call19 [p0, .agg #[U6 a1.Hold.ID.Session, U6 a1.Hold.ID.Seq, U6 a1.Hold.Epoch, r1_0, r1_1, r1_2, r1_3]] z z z ?_
 refine (lane_State_Hold_ref (f1_0.mono (rd_weak _)) (f1_1.mono (rd_weak _)) (f1_2.mono (rd_weak _)) (f1_3.mono (rd_weak _)) hst.to1 ht185).mono ?_
 rintro _ w186 ⟨I187, rfl, hI188, hst⟩
 refine ⟨_, z, ?_⟩
 replace hst := hst.of1
 replace f1_0 := f1_0.mono (rd_le hI188)
 replace f1_1 := f1_1.mono (rd_le hI188)
 replace f1_2 := f1_2.mono (rd_le hI188)
 replace f1_3 := f1_3.mono (rd_le hI188)
 replace f1_4 := f1_4.mono (rd_le hI188)
 replace f1_5 := f1_5.mono (rd_le hI188)
 replace f1_6 := f1_6.mono (rd_le hI188)
 replace f1_7 := f1_7.mono (rd_le hI188)
 replace hI0 := hI0.trans hI188
 refine wv (Pt b177 3) z z (x_field z underlying35 z sizeOf33 z) (wv (Pt b177 3) z z (x_field z underlying33 z sizeOf29 z) ?_)
 replace hst := hst.pull1
 obtain ⟨w189, hr190, hst⟩ := hst.by_ [U1 (2:Int), U6 a1.Hold.ID.Session, U6 a1.Hold.ID.Seq, I6 t184.1, Zu, Zu, Zs, Zs] 3 (.int .i64 t184.1) sizeOf29 z (oC z oN) (by kernel_rfl)
 refine wl_unit z z (x_unit hr190) ?_
 refine wl_nil (tn (wp_seq (wrl (wv (Pt b177 3) z z (x_field z underlying35 z sizeOf33 z) (wv (Pt b177 3) z z (x_field z underlying33 z sizeOf29 z) (wv (.int .i64 t184.1) z z (x_load z isAgg29 (hst.bc0 z)) (wv (.bool (t184.1 == (0:Int))) z z z (wl_nil (tn ?_)))))))))
 refine bsplit (t184.1 == (0:Int)) (fun hc191 => ?_) (fun hc191 => ?_)
 {
 replace hm := bif_t hc191 hm
 refine wp_ift (cvb hc191) ?_
 refine wrl (wv (p0) z z z (wv (Pt b161 6) z z (x_field z underlying49 z sizeOf46 z) (wv (.agg #[U6 a1.Hold.ID.Session, U6 a1.Hold.ID.Seq, U6 a1.Hold.Epoch, r1_0, r1_1, r1_2, r1_3]) z z (x_loadN (cs := [U6 a1.Hold.ID.Session, U6 a1.Hold.ID.Seq, U6 a1.Hold.Epoch, r1_0, r1_1, r1_2, r1_3]) z isAgg46 sizeOf46 (hst.bcs3 6 z)) ?_)))
 replace hst := hst.pull1
 obtain ⟨t192, ht193, hm⟩ := bind_some hm
 refine wc call33 [p0, .agg #[U6 a1.Hold.ID.Session, U6 a1.Hold.ID.Seq, U6 a1.Hold.Epoch, r1_0, r1_1, r1_2, r1_3]] z z z ?_
 refine (lane_State_Told_ref (f1_0.mono (rd_weak _)) (f1_1.mono (rd_weak _)) (f1_2.mono (rd_weak _)) (f1_3.mono (rd_weak _)) hst.to1 ht193).mono ?_
 rintro _ w194 ⟨I195, v197, v199, rfl, hI196, hst⟩
 refine ⟨_, z, ?_⟩
 replace hst := hst.of3
 replace f1_0 := f1_0.mono (rd_le hI196)
 replace f1_1 := f1_1.mono (rd_le hI196)
 replace f1_2 := f1_2.mono (rd_le hI196)
 replace f1_3 := f1_3.mono (rd_le hI196)
 replace f1_4 := f1_4.mono (rd_le hI196)
 replace f1_5 := f1_5.mono (rd_le hI196)
 replace f1_6 := f1_6.mono (rd_le hI196)
 replace f1_7 := f1_7.mono (rd_le hI196)
 replace hI0 := hI0.trans hI196
 refine wv (Pt b177 3) z z (x_field z underlying35 z sizeOf33 z) ?_
 replace hst := hst.pull3
 obtain ⟨w201, hr202, hst⟩ := hst.by_ [U1 (2:Int), U6 a1.Hold.ID.Session, U6 a1.Hold.ID.Seq, I6 t192.E, U6 t192.Epoch, U6 t192.Index, v197, v199] 3 (.agg #[I6 t192.E, U6 t192.Epoch, U6 t192.Index, v197, v199]) sizeOf33 z (oC z (oC z (oC z (oC (one_of_sliceV hst.sv1) (oC (one_of_sliceV hst.sv2) oN))))) (by kernel_rfl)
 refine wl_unit z z (x_unit hr202) ?_
 refine wl_nil (tn (wp_seq (wrl (wv (.agg #[U1 (2:Int), U6 a1.Hold.ID.Session, U6 a1.Hold.ID.Seq, I6 t192.E, U6 t192.Epoch, U6 t192.Index, v197, v199]) z z (x_loadN (cs := [U1 (2:Int), U6 a1.Hold.ID.Session, U6 a1.Hold.ID.Seq, I6 t192.E, U6 t192.Epoch, U6 t192.Index, v197, v199]) z isAgg35 sizeOf35 (hst.bcs0 0 z)) ?_))))
 replace hst := hst.pull4
 obtain ⟨w203, hr204, hst⟩ := hst.bx [U1 (2:Int), U6 a1.Hold.ID.Session, U6 a1.Hold.ID.Seq, I6 t192.E, U6 t192.Epoch, U6 t192.Index, v197, v199] sizeOf35 z (oC z (oC z (oC z (oC z (oC z (oC z (oC (one_of_sliceV hst.sv2) (oC (one_of_sliceV hst.sv3) oN)))))))) (by kernel_rfl)
 refine wl_unit z z (x_unit hr204) ?_
 refine wl_nil (tn (wp_ret ?_))
 obtain rfl := some_inj hm
 refine post_ret (vs := [.agg #[U1 (2:Int), U6 a1.Hold.ID.Session, U6 a1.Hold.ID.Seq, I6 t192.E, U6 t192.Epoch, U6 t192.Index, v197, v199]]) results48 (rvs_cons (rv_cell (cs := [U1 (2:Int), U6 a1.Hold.ID.Session, U6 a1.Hold.ID.Seq, I6 t192.E, U6 t192.Epoch, U6 t192.Index, v197, v199]) z isAgg35 sizeOf35 (hst.bcs0 0 z)) rvs_nil) ?_
 replace hst := hst.pull4.pull4.pull4
 exact ⟨_, v197, v199, z, hI0, hst.keep3⟩
}
 {
 replace hm := bif_f hc191 hm
 refine wp_iff (cvb hc191) ?_
 refine wp_skip (tn (wp_seq (wrl ?_)))
 refine wv (.agg #[U1 (2:Int), U6 a1.Hold.ID.Session, U6 a1.Hold.ID.Seq, I6 t184.1, Zu, Zu, Zs, Zs]) z z (x_loadN (cs := [U1 (2:Int), U6 a1.Hold.ID.Session, U6 a1.Hold.ID.Seq, I6 t184.1, Zu, Zu, Zs, Zs]) z isAgg35 sizeOf35 (hst.bcs0 0 z)) ?_
 replace hst := hst.pull2
 obtain ⟨w205, hr206, hst⟩ := hst.bx [U1 (2:Int), U6 a1.Hold.ID.Session, U6 a1.Hold.ID.Seq, I6 t184.1, Zu, Zu, Zs, Zs] sizeOf35 z (oC z (oC z (oC z (oC z (oC z (oC z (oC z (oC z oN)))))))) (by kernel_rfl)
 refine wl_unit z z (x_unit hr206) ?_
 refine wl_nil (tn (wp_ret ?_))
 replace hst := hst.own_nil ty_api_Got
 replace hst := hst.own_nil (tySl ty_api_Pair)
 obtain rfl := some_inj hm
 refine post_ret (vs := [.agg #[U1 (2:Int), U6 a1.Hold.ID.Session, U6 a1.Hold.ID.Seq, I6 t184.1, Zu, Zu, Zs, Zs]]) results48 (rvs_cons (rv_cell (cs := [U1 (2:Int), U6 a1.Hold.ID.Session, U6 a1.Hold.ID.Seq, I6 t184.1, Zu, Zu, Zs, Zs]) z isAgg35 sizeOf35 (hst.bcs2 0 z)) rvs_nil) ?_
 replace hst := hst.pull4.pull1.pull2
 exact ⟨_, Zs, Zs, z, hI0, hst.keep3⟩
}
}

theorem slices_Delete_api_Hold_api_Hold_ref {w0 w : World} {I : HL} {R : SP} {a0 : (List api_Hold)} {r0_0 : Value} {a1 a2 : Int} (hst : St w0 w I [ownS ty_api_Hold r0_0 a0] R) {r : (List api_Hold)} (hm : slices_Delete_api_Hold_api_Hold a0 a1 a2 = some r) :
  Calls prog 182 #[r0_0, I6 a1, I6 a2] w fun e w' => ∃ (q0_0 : Value), e = .returned (q0_0) ∧ St w0 w' I [ownS ty_api_Hold q0_0 r] R := by {
 unfold slices_Delete_api_Hold_api_Hold at hm
 obtain ⟨hg, hm⟩ := gd_some hm
 obtain rfl := some_inj hm
 obtain ⟨hi0, hi1, hi2⟩ := fits_of hg
 obtain ⟨j, rfl⟩ := Int.eq_ofNat_of_zero_le (Int.le_trans hi0 hi1)
 obtain ⟨k, rfl⟩ := Int.eq_ofNat_of_zero_le hi0
 have hkj : k ≤ j := by omega
 have hs : ∀ w : World, (sizeOf 46).run prog w = .ok ty_api_Hold.sz w := sizeOf46
 obtain ⟨css, hr, hst⟩ := hst.own_open
 obtain ⟨n, hn⟩ : ∃ n, css.length = n := ⟨_, rfl⟩
 have hln : a0.length = n := hr.1.trans hn
 have hjn : j ≤ n := by omega
 have hsv : SliceV r0_0 n := by have := hst.row_form.2; rwa [hn] at this
 have hoc := hr.ones
 refine calls_start (args := [r0_0, I6 (k : Int), I6 (j : Int)]) func182 z ntmps182 (Nat.le_of_ble_eq_true z) ?_
 refine wp_seq (wrl (wv ((.slice none 0 0)) z z z (wl_nil (tn (wp_seq (wrl (wv (r0_0) z z z (wv (.int .i64 (k : Int)) z z z (wv (.int .i64 (j : Int)) z z z (wv (r0_0) z z z (wv (.int .i64 (n : Int)) z z (x_len z underlying125 hsv) ?_)))))))))))
 refine wl_ex z z (x_slice3 underlying125 hs z hsv z z z hkj hjn) fun v3 => ?_
 refine wl_nil (tn (wp_seq (wp_seq (wrl (wv (.int .i64 (k : Int)) z z z (wv (.int .i64 (j : Int)) z z z (wv (.bool ((k : Int) == (j : Int))) z z z (wl_nil (tn ?_)))))))))
 refine bsplit ((k : Int) == (j : Int)) (fun hc159 => ?_) (fun hc159 => ?_)
 {
 refine wp_ift (cvb hc159) ?_
 refine wp_seq (wrl (wv (r0_0) z z z (wv (r0_0) z z z (wl_nil (tn (wp_ret (then_r ?_)))))))
 refine post_ret (vs := [r0_0]) results182 (rvs_cons (rv_tmp z) rvs_nil) ?_
 rw [del_nil hc159]
 exact ⟨_, z, (hst.own_close hr).keep1⟩
}
 {
 refine wp_iff (cvb hc159) ?_
 have hne : ¬ ((k : Int) = (j : Int)) := by simpa using hc159
 have hlt : k < j := by omega
 refine wp_skip (tn (wp_seq (wrl ?_)))
 refine wv (r0_0) z z z (wv (.int .i64 (n : Int)) z z (x_len z underlying125 hsv) (wv (.int .i64 (n : Int)) z z z (wl_nil (tn (wp_seq ?_)))))
 refine wp_region_St hst 8 [0, 1, 2, 3, 4, 5, 6, 7] [0, 0, 3, 0, 0, 24, 63, 127] [7] z (by kernel_rfl) (by kernel_rfl) Tryz.mixed (by kernel_rfl) ?_
 refine wsr (r0_0) 0 z z z (by kernel_rfl) (fun w hst => z) (wsr (.int .i64 (k : Int)) 1 z z z (by kernel_rfl) (fun w hst => z) (wsr ((slcV ty_api_Hold.sz r0_0 0 k)) 2 z z z (by kernel_rfl) (fun w hst => x_slice (lo := (0 : Nat)) (hi := (k : Nat)) underlying125 hs z hsv (by omega) (by omega) (by omega) .i64 .i64 (.inr ⟨z, z⟩) (.inl z)) (wsr (r0_0) 3 z z z (by kernel_rfl) (fun w hst => z) (wsr (.int .i64 (j : Int)) 4 z z z (by kernel_rfl) (fun w hst => z) (wsr ((slcV ty_api_Hold.sz r0_0 j n)) 5 z z z (by kernel_rfl) (fun w hst => x_slice (lo := (j : Nat)) (hi := (n : Nat)) underlying125 hs z hsv (by omega) (by omega) (by omega) .i64 .i64 (.inl z) (.inr ⟨z, z⟩)) ?_)))))
 refine ws_e1 6 (by kernel_rfl) ?_
 refine nxe [7] (by kernel_rfl) z z ?_
 clear hst
 intro w hst
 obtain ⟨w2, hra, hst⟩ := run_appDel (P := prog) underlying125 hs hst hn hlt hjn hoc 125
 refine we_run (v := (slcV ty_api_Hold.sz r0_0 0 (k + (n - j)))) (w' := w2) z (x_append z z hra) ?_
 have hnl := (show _ from hst)
 clear hnl
 have hn2 : (css.take k ++ (css.drop j ++ css.drop (k + (n - j)))).length = n := by simp only [List.length_append, List.length_take, List.length_drop]; omega
 have hsm := row_slc hst hn2 (m := (k + (n - j))) (by omega)
 refine ws_next (pend' := []) hst (by kernel_rfl) pk_nil ?_
 refine ws_e1 7 (by kernel_rfl) ?_
 refine nxe [] (by kernel_rfl) z z ?_
 clear hst
 intro w hst
 refine we_run (v := (slcV ty_api_Hold.sz r0_0 0 (k + (n - j)))) (w' := w) z z ?_
 refine ws_next (pend' := []) hst (by kernel_rfl) pk_nil ?_
 refine ws_nil ?_
 intro w hst
 refine tn (wp_seq (wrl (wv ((slcV ty_api_Hold.sz r0_0 0 (k + (n - j)))) z z z (wv ((slcV ty_api_Hold.sz r0_0 0 (k + (n - j)))) z z z (wv (.int .i64 (((k + (n - j)) : Nat) : Int)) z z (x_len z underlying125 hsm) (wv (.int .i64 (n : Int)) z z z (wv ((slcV ty_api_Hold.sz r0_0 (k + (n - j)) n)) z z (x_sliceRe underlying125 hs z hsv z z (by omega) (by omega)) ?_)))))))
 obtain ⟨w3, hrc, hst⟩ := run_clear elem_125 z (ones_of (by kernel_rfl)) hst hn2 (m := (k + (n - j))) (by omega) 0
 refine wl_run0 z z (x_clear z hrc) ?_
 refine wl_nil (tn (wp_seq (wrl (wv ((slcV ty_api_Hold.sz r0_0 0 (k + (n - j)))) z z z (wv ((slcV ty_api_Hold.sz r0_0 0 (k + (n - j)))) z z z (wl_nil (tn (wp_ret ?_))))))))
 refine post_ret (vs := [(slcV ty_api_Hold.sz r0_0 0 (k + (n - j)))]) results182 (rvs_cons (rv_tmp z) rvs_nil) ?_
 replace hst := hst.row_part (l := 0) (h := (k + (n - j))) (Nat.zero_le _) (by simp only [List.length_append, List.length_take, List.length_drop, List.length_replicate]; omega)
 rw [del_rows hn hlt hjn (List.length_replicate ..)] at hst
 exact ⟨_, z, (hst.own_close ((hr.take k).app (hr.drop j))).keep1⟩
}
}

theorem locks_Table_Drop_ref {w0 w : World} {I : HL} {R : SP} {a0 : (Option locks_Table)} {p0 : Value} {a1 : api_ID}  (hst : St w0 w I [objO at_locks_Table p0 a0] R) {r : (Bool × (Option locks_Table))} (hm : locks_Table_Drop a0 a1 = some r) :
  Calls prog 122 #[p0, .agg #[U6 a1.Session, U6 a1.Seq]] w fun e w' => e = .returned (.bool r.1) ∧ St w0 w' I [objO at_locks_Table p0 r.2] R := by {
 rcases a0 with _ | o0
 {
 obtain ⟨rfl, hst'⟩ := objO_none hst
 clear hst
 have hst := hst'
 clear hst'
 dsimp only [locks_Table_Drop] at hm
 refine calls_start (args := [.pointer none, .agg #[U6 a1.Session, U6 a1.Seq]]) func122 z ntmps122 (Nat.le_of_ble_eq_true z) ?_
 refine wp_seq (wrl ?_)
 obtain ⟨b169, w170, ew171, eb172, hst⟩ := hst.box [U6 a1.Session, U6 a1.Seq] 28
 refine wl_run (v := Pt b169 0) (w' := w170) z z (x_al (by kernel_rfl) ew171 eb172) ?_
 refine wv (.bool false) z z z (wl_nil (tn (wp_seq (wrl (wv (.pointer none) z z z (wv (.agg #[U6 a1.Session, U6 a1.Seq]) z z (x_loadN (cs := [U6 a1.Session, U6 a1.Seq]) z isAgg28 sizeOf28 (hst.bcs0 0 z)) ?_))))))
 replace hst := hst.objO_nil at_locks_Table
 obtain ⟨t175, ht176, hm⟩ := bind_some hm
 refine wc call135 [.pointer none, .agg #[U6 a1.Session, U6 a1.Seq]] z z z ?_
 refine (locks_Table_find_ref hst.to1 ht176).mono ?_
 rintro _ w177 ⟨rfl, hst⟩
 refine ⟨_, z, ?_⟩
 replace hst := hst.of1
 refine wv (.tuple #[I6 t175.1, .bool t175.2]) z z z (wv (.int .i64 t175.1) z z z (wv (.bool t175.2) z z z (wv (.int .i64 t175.1) z z z (wv (.bool t175.2) z z z (wl_nil (tn (wp_seq (wp_seq (wrl (wv (.bool t175.2) z z z (wl_nil (tn ?_))))))))))))
 refine bsplit t175.2 (fun hc180 => ?_) (fun hc180 => ?_)
 {
 replace hm := bif_t hc180 hm
 refine wp_ift (cvb hc180) ?_
 refine wrl (wv (.pointer none) z z z (wv (.pointer none) z z z ?_))
 cases hm
}
 {
 replace hm := bif_f hc180 hm
 refine wp_iff (cvb hc180) ?_
 refine wp_skip (tn (wp_seq (wrl ?_)))
 refine wv (.bool t175.2) z z z (wv (.bool t175.2) z z z (wl_nil (tn (wp_ret ?_))))
 replace hst := hst.objO_nil at_locks_Table
 obtain rfl := some_inj hm
 refine post_ret (vs := [.bool t175.2]) results122 (rvs_cons (rv_tmp z) rvs_nil) ?_
 exact ⟨z, hst.keep1⟩
}
}
 {
 replace hst := objO_get hst
 dsimp only [locks_Table_Drop] at hm
 refine calls_start (args := [p0, .agg #[U6 a1.Session, U6 a1.Seq]]) func122 z ntmps122 (Nat.le_of_ble_eq_true z) ?_
 refine wp_seq (wrl ?_)
 obtain ⟨b181, w182, ew183, eb184, hst⟩ := hst.box [U6 a1.Session, U6 a1.Seq] 28
 refine wl_run (v := Pt b181 0) (w' := w182) z z (x_al (by kernel_rfl) ew183 eb184) ?_
 refine wv (.bool false) z z z (wl_nil (tn (wp_seq (wrl (wv (p0) z z z (wv (.agg #[U6 a1.Session, U6 a1.Seq]) z z (x_loadN (cs := [U6 a1.Session, U6 a1.Seq]) z isAgg28 sizeOf28 (hst.bcs0 0 z)) ?_))))))
 replace hst := hst.pull1
 replace hst := objO_some hst
 obtain ⟨t186, ht187, hm⟩ := bind_some hm
 refine wc call135 [p0, .agg #[U6 a1.Session, U6 a1.Seq]] z z z ?_
 refine (locks_Table_find_ref hst.to1 ht187).mono ?_
 rintro _ w188 ⟨rfl, hst⟩
 refine ⟨_, z, ?_⟩
 replace hst := hst.of1
 replace hst := objO_get hst
 refine wv (.tuple #[I6 t186.1, .bool t186.2]) z z z (wv (.int .i64 t186.1) z z z (wv (.bool t186.2) z z z (wv (.int .i64 t186.1) z z z (wv (.bool t186.2) z z z (wl_nil (tn (wp_seq (wp_seq (wrl (wv (.bool t186.2) z z z (wl_nil (tn ?_))))))))))))
 refine bsplit t186.2 (fun hc191 => ?_) (fun hc191 => ?_)
 {
 replace hm := bif_t hc191 hm
 refine wp_ift (cvb hc191) ?_
 refine wrl (wv (p0) z z z (wv (p0) z z z ?_))
 obtain ⟨b192, v193, rfl, hst'⟩ := at_locks_Table_open hst
 clear hst
 have hst := hst'
 clear hst'
 refine wv (Pt b192 0) z z z (wv (Pt b192 0) z z (x_field z underlying203 z sizeOf125 z) (wv (v193) z z (x_load z isAgg125 (hst.bc0 z)) (wv (.int .i64 t186.1) z z z (wv (.int .i64 t186.1) z z z (wv (.int .i64 (i64.wrap (t186.1 + (1:Int)))) z z z ?_)))))
 replace hst := hst.pull1
 obtain ⟨t195, ht196, hm⟩ := bind_some hm
 refine wc call182 [v193, I6 t186.1, I6 (i64.wrap (t186.1 + (1:Int)))] z z z ?_
 refine (slices_Delete_api_Hold_api_Hold_ref hst.to1 ht196).mono ?_
 rintro _ w197 ⟨v200, rfl, hst⟩
 refine ⟨_, z, ?_⟩
 replace hst := hst.of1
 refine wv (Pt b192 0) z z z (wv (Pt b192 0) z z (x_field z underlying203 z sizeOf125 z) ?_)
 replace hst := hst.pull1
 obtain ⟨w202, hr203, hst⟩ := hst.boxStore1 (P := prog) (t := 125) (cs' := [v200]) 0 v200 (one_of_sliceV hst.sv1) sizeOf125 z z
 refine wl_unit z z (x_unit hr203) ?_
 refine wl_nil (tn (wp_seq (wrl (wv (.bool t186.2) z z z (wv (.bool t186.2) z z z (wl_nil (tn (wp_ret ?_))))))))
 replace hst := hst.pull1.pull1
 replace hst := at_locks_Table_close (pv := Pt b192 0) (x := ({ l := t195 } : locks_Table)) hst z
 replace hst := objO_some hst
 obtain rfl := some_inj hm
 refine post_ret (vs := [.bool t186.2]) results122 (rvs_cons (rv_tmp z) rvs_nil) ?_
 exact ⟨z, hst.keep1⟩
}
 {
 replace hm := bif_f hc191 hm
 refine wp_iff (cvb hc191) ?_
 refine wp_skip (tn (wp_seq (wrl ?_)))
 refine wv (.bool t186.2) z z z (wv (.bool t186.2) z z z (wl_nil (tn (wp_ret ?_))))
 replace hst := objO_some hst
 obtain rfl := some_inj hm
 refine post_ret (vs := [.bool t186.2]) results122 (rvs_cons (rv_tmp z) rvs_nil) ?_
 exact ⟨z, hst.keep1⟩
}
}
}

theorem slices_Insert_mvcc_row_mvcc_row_raw_ref {w0 w : World} {I : HL} {R : SP} {a0 : (List (List Value))} {r0_0 : Value} {a1 : Int} {a2 : (List (List Value))} {r2_0 : Value} (hst : St w0 w I [ownS (tyRaw 2) r0_0 a0, ownS (tyRaw 2) r2_0 a2] R) {r : (List (List Value))} (hm : slices_Insert_mvcc_row_mvcc_row_raw a0 a1 a2 = some r) :
  Calls prog 183 #[r0_0, I6 a1, r2_0] w fun e w' => ∃ (q0_0 : Value), e = .returned (q0_0) ∧ St w0 w' I [ownS (tyRaw 2) q0_0 r] R := by {
 unfold slices_Insert_mvcc_row_mvcc_row_raw at hm
 obtain ⟨hg, hm⟩ := gd_some hm
 obtain rfl := some_inj hm
 obtain ⟨hi0, hi1, hrm⟩ := insOK_of hg
 obtain ⟨k, rfl⟩ := Int.eq_ofNat_of_zero_le hi0
 have hsm := room_sum hrm
 have hk : k ≤ a0.length := by omega
 have hs : ∀ w : World, (sizeOf 240).run prog w = .ok (tyRaw 2).sz w := sizeOf240
 have hs0 : 0 < (tyRaw 2).sz := Nat.le_of_ble_eq_true rfl
 have hov : ∀ (args : Array Value) (w : World), (callFunc 205 args).run prog w = (Extern.SlicesOverlaps.overlaps #[199, 199] #[4] args >>= fun v => (pure (.value v) : Sem Next)).run prog w := by intro args w; kernel_rfl
 obtain ⟨css, hr, hst⟩ := hst.own_open
 replace hst := hst.pull1
 obtain ⟨dss, hq, hst⟩ := hst.own_open
 replace hst := hst.pull1
 obtain ⟨n, hn⟩ : ∃ n, css.length = n := ⟨_, rfl⟩
 obtain ⟨m, hm'⟩ : ∃ m, dss.length = m := ⟨_, rfl⟩
 have hln : a0.length = n := hr.1.trans hn
 have hlm : a2.length = m := hq.1.trans hm'
 rw [hln] at hsm hk
 rw [hlm] at hsm
 have hsv : SliceV r0_0 n := by have := hst.row_form.2; rwa [hn] at this
 have hsq : SliceV r2_0 m := by have := hst.pull1.row_form.2; rwa [hm'] at this
 have hoc := hr.ones
 have hoq := hq.ones
 have hw1 := wrap_add (a := n) (b := m) (by omega)
 have hw2 := wrap_add (a := k) (b := m) (by omega)
 have hw3 := wrap_sub (a := n + m) (b := k) (by omega) (by omega)
 have hrb := room_of (b := 32) hrm rfl
 rw [hln, hlm] at hrb
 refine calls_start (args := [r0_0, I6 (k : Int), r2_0]) func183 z ntmps183 (Nat.le_of_ble_eq_true z) ?_
 refine wp_seq (wrl (wv ((.slice none 0 0)) z z z (wl_nil (tn (wp_seq (wrl (wv (r0_0) z z z (wv (.int .i64 (k : Int)) z z z (wv ((slcV (tyRaw 2).sz r0_0 k n)) z z (x_slice (lo := (k : Nat)) (hi := (n : Nat)) underlying199 hs z hsv (by omega) (by omega) (by omega) .i64 .i64 (.inl z) (.inr ⟨z, z⟩)) (wl_nil (tn (wp_seq (wrl (wv (r2_0) z z z (wv (.int .i64 (m : Int)) z z (x_len z underlying199 hsq) (wv (.int .i64 (m : Int)) z z z (wl_nil (tn (wp_seq (wp_seq (wrl (wv (.int .i64 (m : Int)) z z z (wv (.bool ((m : Int) == (0:Int))) z z z ?_)))))))))))))))))))))))
 refine wl_nil (tn ?_)
 refine bsplit ((m : Int) == (0:Int)) (fun hc233 => ?_) (fun hc233 => ?_)
 {
 refine wp_ift (cvb hc233) ?_
 refine wp_seq (wrl (wv (r0_0) z z z (wv (r0_0) z z z (wl_nil (tn (wp_ret (then_r ?_)))))))
 refine post_ret (vs := [r0_0]) results183 (rvs_cons (rv_tmp z) rvs_nil) ?_
 rw [ins_nil (by rw [hlm]; exact hc233)]
 exact ⟨_, z, (hst.own_close hr).keep1⟩
}
 {
 refine wp_iff (cvb hc233) ?_
 have hm0 : m ≠ 0 := fun h => by rw [h] at hc233; cases hc233
 have hq0 : dss ≠ [] := fun h => hm0 (by rw [← hm', h]; rfl)
 refine wp_skip (tn (wp_seq (wrl ?_)))
 refine wv (r0_0) z z z (wv (.int .i64 (n : Int)) z z (x_len z underlying199 hsv) (wv (.int .i64 (n : Int)) z z z (wl_nil (tn (wp_seq (wp_seq (wrl (wv (.int .i64 (k : Int)) z z z (wv (.int .i64 (n : Int)) z z z (wv (.bool ((k : Int) == (n : Int))) z z z (wl_nil (tn ?_))))))))))))
 refine bsplit ((k : Int) == (n : Int)) (fun hc234 => ?_) (fun hc234 => ?_)
 {
 refine wp_ift (cvb hc234) ?_
 refine wp_seq (wrl (wv (r0_0) z z z (wv (r2_0) z z z ?_)))
 replace hst := (hst.own_close hr).pull1.own_close hq
 replace hst := hst.pull1
 obtain ⟨v2, w2, hra, hst⟩ := run_append elemN_199 underlying199 hst hst.src1 (room_of hrm z) 199
 refine wl_run (v := v2) (w' := w2) z z (x_append z z hra) ?_
 refine wv (v2) z z z (wl_nil (tn (wp_ret (then_r ?_))))
 refine post_ret (vs := [v2]) results183 (rvs_cons (rv_tmp z) rvs_nil) ?_
 rw [ins_end (by rw [hln]; exact hc234)]
 exact ⟨_, z, hst.keep1⟩
}
 {
 refine wp_iff (cvb hc234) ?_
 have hkn : k ≠ n := fun h => by rw [h] at hc234; simp at hc234
 have hn0 : 0 < n := by omega
 have hc0 : css ≠ [] := fun h => by rw [h] at hn; simp at hn; omega
 refine wp_skip (tn (wp_seq (wp_seq (wrl ?_))))
 refine wv (.int .i64 (n : Int)) z z z (wv (.int .i64 (m : Int)) z z z (wv (.int .i64 ((n + m : Nat) : Int)) z z (ok_cast hw1 z) (wv (r0_0) z z z (wv (.int .i64 (sCap r0_0 : Int)) z z (x_cap z underlying199 hsv) (wv (.bool (decide (((n + m : Nat) : Int) > (sCap r0_0 : Int)))) z z z (wl_nil (tn ?_)))))))
 refine bsplit (decide (((n + m : Nat) : Int) > (sCap r0_0 : Int))) (fun hc235 => ?_) (fun hc235 => ?_)
 {
 refine wp_ift (cvb hc235) ?_
 refine wp_seq (wrl (wv (r0_0) z z z (wv (.int .i64 (k : Int)) z z z (wv ((slcV (tyRaw 2).sz r0_0 0 k)) z z (x_slice (lo := (0 : Nat)) (hi := (k : Nat)) underlying199 hs z hsv (by omega) (by omega) (by omega) .i64 .i64 (.inr ⟨z, z⟩) (.inl z)) (wv (.int .i64 (n : Int)) z z z (wv (.int .i64 (m : Int)) z z z (wv (.int .i64 ((n + m : Nat) : Int)) z z (ok_cast hw1 z) (wv (.int .i64 (k : Int)) z z z (wv (.int .i64 ((n + m - k : Nat) : Int)) z z (ok_cast hw3 z) ?_)))))))))
 obtain ⟨v2, w2, hra, hs2, zss, hzl, hst⟩ := run_app0 elemN_199 underlying3 hst k (n + m - k) (by omega) (by have := of_decide_eq_true hc235; omega) (by rw [show k + (n + m - k) = n + m by omega]; exact hrb) hs0 199
 rw [show k + (n + m - k) = n + m by omega] at hs2
 refine wl_run (v := v2) (w' := w2) z z (x_append z z hra) ?_
 refine wv (v2) z z z (wl_nil (tn (wp_seq (wrl (wv (v2) z z z (wv (.int .i64 (k : Int)) z z z (wv ((slcV (tyRaw 2).sz v2 k (n + m))) z z (x_slice (lo := (k : Nat)) (hi := ((n + m) : Nat)) underlying199 hs z hs2 (by omega) (by omega) (by omega) .i64 .i64 (.inl z) (.inr ⟨z, z⟩)) (wv (r2_0) z z z ?_))))))))
 obtain ⟨w236, hr237, hst⟩ := run_copyRows (P := prog) (t2 := 199) (ty := 3) underlying199 hs hst hst.pull2 k m (N := n + m) (by first | omega | (simp only [List.length_append, List.length_take, List.length_drop]; omega)) (by first | omega | (simp only [List.length_append, List.length_take, List.length_drop]; omega)) (by omega) (by first | omega | (simp only [List.length_append, List.length_take, List.length_drop]; omega)) (ones_take hoq _)
 refine wl_run (v := .int .i64 (m : Nat)) (w' := w236) z z (x_copy z z hr237) ?_
 refine wl_nil (tn (wp_seq ?_))
 refine wp_region_St hst 9 [0, 1, 2, 3, 4, 5, 6, 7, 8] [0, 0, 0, 6, 15, 0, 0, 96, 255] [] z (by kernel_rfl) (by kernel_rfl) Tryz.mixed (by kernel_rfl) ?_
 refine wsr (v2) 0 z z z (by kernel_rfl) (fun w hst => z) (wsr (.int .i64 (k : Int)) 1 z z z (by kernel_rfl) (fun w hst => z) (wsr (.int .i64 (m : Int)) 2 z z z (by kernel_rfl) (fun w hst => z) (wsr (.int .i64 ((k + m : Nat) : Int)) 3 z z z (by kernel_rfl) (fun w hst => ok_cast hw2 z) (wsr ((slcV (tyRaw 2).sz v2 (k + m) (n + m))) 4 z z z (by kernel_rfl) (fun w hst => x_slice (lo := ((k + m) : Nat)) (hi := ((n + m) : Nat)) underlying199 hs z hs2 (by omega) (by omega) (by omega) .i64 .i64 (.inl z) (.inr ⟨z, z⟩)) (wsr (r0_0) 5 z z z (by kernel_rfl) (fun w hst => z) (wsr (.int .i64 (k : Int)) 6 z z z (by kernel_rfl) (fun w hst => z) (wsr ((slcV (tyRaw 2).sz r0_0 k n)) 7 z z z (by kernel_rfl) (fun w hst => x_slice (lo := (k : Nat)) (hi := (n : Nat)) underlying199 hs z hsv (by omega) (by omega) (by omega) .i64 .i64 (.inl z) (.inr ⟨z, z⟩)) ?_)))))))
 refine ws_e1 8 (by kernel_rfl) ?_
 refine nxe [] (by kernel_rfl) z z ?_
 clear hst
 intro w hst
 obtain ⟨w238, hr239, hst⟩ := run_copyRows (P := prog) (t2 := 199) (ty := 3) underlying199 hs hst (hst.pull1.row_part (l := k) (h := n) hk (by omega)) (k + m) (n - k) (N := n + m) (by first | omega | (simp only [List.length_append, List.length_take, List.length_drop]; omega)) (by first | omega | (simp only [List.length_append, List.length_take, List.length_drop]; omega)) (by omega) (by first | omega | (simp only [List.length_append, List.length_take, List.length_drop]; omega)) (ones_take (ones_drop (ones_take hoc _) _) _)
 refine we_run (v := .int .i64 ((n - k) : Nat)) (w' := w238) z (x_copy z z hr239) ?_
 refine ws_next (pend' := []) hst (by kernel_rfl) pk_nil ?_
 refine ws_nil ?_
 intro w hst
 refine tn (wp_seq (wrl (wv (v2) z z z (wv (v2) z z z (wl_nil (tn (wp_ret (then_r ?_))))))))
 refine post_ret (vs := [v2]) results183 (rvs_cons (rv_tmp z) rvs_nil) ?_
 rw [grow_rows hn hm' hk hzl] at hst
 exact ⟨_, z, (hst.own_close ((hr.take k).app (hq.app (hr.drop k)))).keep1⟩
}
 {
 refine wp_iff (cvb hc235) ?_
 have hup : n + m ≤ sCap r0_0 := by have := of_decide_eq_false hc235; omega
 obtain ⟨ess, hel, hem, hst'⟩ := hst.row_up (n + m) (by omega) hup hc0
 rw [show n + m - css.length = m by omega] at hel
 have hs2 : SliceV (upV r0_0 (n + m)) (n + m) := by have := hst'.row_form.2; rwa [List.length_append, hn, hel] at this
 clear hst
 have hst := hst'
 clear hst'
 refine wp_skip (tn (wp_seq (wrl ?_)))
 refine wv (r0_0) z z z (wv (.int .i64 (n : Int)) z z z (wv (.int .i64 (m : Int)) z z z (wv (.int .i64 ((n + m : Nat) : Int)) z z (ok_cast hw1 z) (wv ((upV r0_0 (n + m))) z z (x_sliceUp underlying199 hs z hsv z hup hn0) (wv ((upV r0_0 (n + m))) z z z (wl_nil (tn (wp_seq (wp_seq (wrl (wv (r2_0) z z z (wv ((upV r0_0 (n + m))) z z z (wv (.int .i64 (k : Int)) z z z (wv (.int .i64 (m : Int)) z z z (wv (.int .i64 ((k + m : Nat) : Int)) z z (ok_cast hw2 z) (wv ((slcV (tyRaw 2).sz (upV r0_0 (n + m)) (k + m) (n + m))) z z (x_slice (lo := ((k + m) : Nat)) (hi := ((n + m) : Nat)) underlying199 hs z hs2 (by omega) (by omega) (by omega) .i64 .i64 (.inl z) (.inr ⟨z, z⟩)) ?_))))))))))))))))
 refine wv (.bool false) z z (x_ext z z z (hov _) (run_overlaps z underlying199 hs hst.pull1 (k + m) (N := n + m) (by rw [List.length_append]; omega) (by omega) hq0 hs0)) (wv (.bool true) z z z (wl_nil (tn ?_)))
 refine wp_ift z ?_
 refine wp_seq ?_
 refine wp_region_St hst 9 [0, 1, 2, 3, 4, 5, 6, 7, 8] [0, 0, 0, 6, 15, 0, 0, 96, 255] [] z (by kernel_rfl) (by kernel_rfl) Tryz.mixed (by kernel_rfl) ?_
 refine wsr ((upV r0_0 (n + m))) 0 z z z (by kernel_rfl) (fun w hst => z) (wsr (.int .i64 (k : Int)) 1 z z z (by kernel_rfl) (fun w hst => z) (wsr (.int .i64 (m : Int)) 2 z z z (by kernel_rfl) (fun w hst => z) (wsr (.int .i64 ((k + m : Nat) : Int)) 3 z z z (by kernel_rfl) (fun w hst => ok_cast hw2 z) (wsr ((slcV (tyRaw 2).sz (upV r0_0 (n + m)) (k + m) (n + m))) 4 z z z (by kernel_rfl) (fun w hst => x_slice (lo := ((k + m) : Nat)) (hi := ((n + m) : Nat)) underlying199 hs z hs2 (by omega) (by omega) (by omega) .i64 .i64 (.inl z) (.inr ⟨z, z⟩)) (wsr ((upV r0_0 (n + m))) 5 z z z (by kernel_rfl) (fun w hst => z) (wsr (.int .i64 (k : Int)) 6 z z z (by kernel_rfl) (fun w hst => z) (wsr ((slcV (tyRaw 2).sz (upV r0_0 (n + m)) k (n + m))) 7 z z z (by kernel_rfl) (fun w hst => x_slice (lo := (k : Nat)) (hi := ((n + m) : Nat)) underlying199 hs z hs2 (by omega) (by omega) (by omega) .i64 .i64 (.inl z) (.inr ⟨z, z⟩)) ?_)))))))
 refine ws_e1 8 (by kernel_rfl) ?_
 refine nxe [] (by kernel_rfl) z z ?_
 clear hst
 intro w hst
 obtain ⟨w240, hr241, hst⟩ := run_copyRows (P := prog) (t2 := 199) (ty := 3) underlying199 hs hst (hst.row_part (l := k) (h := n + m) (by omega) (by rw [List.length_append]; omega)) (k + m) (n - k) (N := n + m) (by first | omega | (simp only [List.length_append, List.length_take, List.length_drop]; omega)) (by first | omega | (simp only [List.length_append, List.length_take, List.length_drop]; omega)) (by omega) (by first | omega | (simp only [List.length_append, List.length_take, List.length_drop]; omega)) (by rw [stay_src hn hm' hk hel]; exact ones_drop hoc _)
 refine we_run (v := .int .i64 ((n - k) : Nat)) (w' := w240) z (x_copy z z hr241) ?_
 refine ws_next (pend' := []) hst (by kernel_rfl) pk_nil ?_
 refine ws_nil ?_
 intro w hst
 refine tn (wp_seq (wrl (wv ((upV r0_0 (n + m))) z z z (wv (.int .i64 (k : Int)) z z z (wv ((slcV (tyRaw 2).sz (upV r0_0 (n + m)) k (n + m))) z z (x_slice (lo := (k : Nat)) (hi := ((n + m) : Nat)) underlying199 hs z hs2 (by omega) (by omega) (by omega) .i64 .i64 (.inl z) (.inr ⟨z, z⟩)) (wv (r2_0) z z z ?_))))))
 obtain ⟨w242, hr243, hst⟩ := run_copyRows (P := prog) (t2 := 199) (ty := 3) underlying199 hs hst hst.pull1 k m (N := n + m) (by first | omega | (simp only [List.length_append, List.length_take, List.length_drop]; omega)) (by first | omega | (simp only [List.length_append, List.length_take, List.length_drop]; omega)) (by omega) (by first | omega | (simp only [List.length_append, List.length_take, List.length_drop]; omega)) (ones_take hoq _)
 refine wl_run (v := .int .i64 (m : Nat)) (w' := w242) z z (x_copy z z hr243) ?_
 refine wl_nil (tn (wp_seq (wrl (wv ((upV r0_0 (n + m))) z z z (wv ((upV r0_0 (n + m))) z z z (wl_nil (tn (wp_ret (then_r ?_)))))))))
 refine post_ret (vs := [(upV r0_0 (n + m))]) results183 (rvs_cons (rv_tmp z) rvs_nil) ?_
 rw [stay_rows hn hm' hk hel] at hst
 exact ⟨_, z, (hst.own_close ((hr.take k).app (hq.app (hr.drop k)))).keep1⟩
}
}
}
}

theorem slices_Insert_mvcc_row_mvcc_row_ref {w0 w : World} {I : HL} {R : SP} {a0 : (List mvcc_row)} {r0_0 : Value} {a1 : Int} {a2 : (List mvcc_row)} {r2_0 : Value} (hst : St w0 w I [ownN nest_mvcc_row r0_0 a0, ownN nest_mvcc_row r2_0 a2] R) {r : (List mvcc_row)} (hm : slices_Insert_mvcc_row_mvcc_row a0 a1 a2 = some r) :
  Calls prog 183 #[r0_0, I6 a1, r2_0] w fun e w' => ∃ (q0_0 : Value), e = .returned (q0_0) ∧ St w0 w' I [ownN nest_mvcc_row q0_0 r] R := by {
 unfold slices_Insert_mvcc_row_mvcc_row at hm
 obtain ⟨hg, hm⟩ := gd_some hm
 obtain rfl := some_inj hm
 obtain ⟨vs, us, h1, k1, hst⟩ := hst.nest_two
 refine Calls.mono (slices_Insert_mvcc_row_mvcc_row_raw_ref hst.to2 (r := ins (nest_mvcc_row.cs a0 vs) a1 (nest_mvcc_row.cs a2 us)) (by unfold slices_Insert_mvcc_row_mvcc_row_raw; rw [insOK_cs h1 k1, hg]; rfl)) ?_
 rintro _ w' ⟨q, rfl, hst'⟩
 exact ⟨_, z, (hst'.of1.nest_ins h1 k1).keep1⟩
}

theorem mvcc_ahead_ref {w0 w : World} {I : HL} {R : SP} {a0 : mvcc_Version} {r0_0 : Value} {a1 : Int} {a2 : Int} (f0_0 : Rd (tyInt .u8) R I r0_0 a0.Val) (hst : St w0 w I [] R) {r : (Bool)} (hm : mvcc_ahead a0 a1 a2 = some r) :
  Calls prog 185 #[.agg #[U6 a0.Epoch, U6 a0.Index, .bool a0.Del, r0_0], U6 a1, U6 a2] w fun e w' => e = .returned (.bool r) ∧ St w0 w' I [] R := by {
 unfold mvcc_ahead at hm
 refine calls_start (args := [.agg #[U6 a0.Epoch, U6 a0.Index, .bool a0.Del, r0_0], U6 a1, U6 a2]) func185 z ntmps185 (Nat.le_of_ble_eq_true z) ?_
 refine wp_seq (wrl ?_)
 obtain ⟨b294, w295, ew296, eb297, hst⟩ := hst.box [U6 a0.Epoch, U6 a0.Index, .bool a0.Del, r0_0] 214
 refine wl_run (v := Pt b294 0) (w' := w295) z z (x_al (by kernel_rfl) ew296 eb297) ?_
 refine wv (.bool false) z z z (wl_nil (tn (wp_seq (wrl (wv (Pt b294 0) z z (x_field z underlying214 z sizeOf26 z) (wv (.int .u64 a0.Epoch) z z (x_load z isAgg26 (hst.bc0 z)) (wv (.int .u64 a1) z z z (wv (.bool (decide (a0.Epoch < a1))) z z z (wv (.bool (decide (a0.Epoch < a1))) z z z ?_)))))))))
 refine bsplit (decide (a0.Epoch < a1)) (fun hc299 => ?_) (fun hc299 => ?_)
 {
 replace hm := bif_t hc299 hm
 refine wo hc299 z z z z z z (wo hc299 z z z z z z (wo hc299 z z z z z z (wo hc299 z z z z z z (wo hc299 z z z z z z (wl_off (wanted_undef z z z z) z (wl_off (wanted_undef z z z z) z (wl_off (wanted_undef z z z z) z (wl_off (wanted_undef z z z z) z (wo hc299 z z z z z z (wv (.bool true) z z (x_pick_t hc299 z z) (wv (.bool true) z z z (wl_nil (tn (wp_ret ?_))))))))))))))
 obtain rfl := some_inj hm
 refine post_ret (vs := [.bool true]) results185 (rvs_cons (rv_tmp z) rvs_nil) ?_
 exact ⟨z, hst.keep0⟩
}
 {
 replace hm := bif_f hc299 hm
 refine wv (Pt b294 0) ((wanted_eq z z z (cvb hc299)).trans z) z (x_field z underlying214 z sizeOf26 z) (wv (.int .u64 a0.Epoch) ((wanted_eq z z z (cvb hc299)).trans z) z (x_load z isAgg26 (hst.bc0 z)) (wv (.int .u64 a1) ((wanted_eq z z z (cvb hc299)).trans z) z z (wv (.bool (a0.Epoch == a1)) ((wanted_eq z z z (cvb hc299)).trans z) z z (wv (.bool (a0.Epoch == a1)) ((wanted_eq z z z (cvb hc299)).trans z) z z ?_))))
 refine bsplit (a0.Epoch == a1) (fun hc300 => ?_) (fun hc300 => ?_)
 {
 replace hm := bif_t hc300 hm
 refine wv (Pt b294 1) ((wanted_eq z z z (cvb hc300)).trans z) z (x_field z underlying214 z sizeOf26 z) (wv (.int .u64 a0.Index) ((wanted_eq z z z (cvb hc300)).trans z) z (x_load z isAgg26 (hst.bc0 z)) (wv (.int .u64 a2) ((wanted_eq z z z (cvb hc300)).trans z) z z (wv (.bool (decide (a0.Index < a2))) ((wanted_eq z z z (cvb hc300)).trans z) z z (wv (.bool (decide (a0.Index < a2))) ((wanted_eq z z z (cvb hc299)).trans z) z (x_pick_t hc300 z z) (wv (.bool (decide (a0.Index < a2))) z z (x_pick_f hc299 z z) (wv (.bool (decide (a0.Index < a2))) z z z (wl_nil (tn (wp_ret ?_)))))))))
 obtain rfl := some_inj hm
 refine post_ret (vs := [.bool (decide (a0.Index < a2))]) results185 (rvs_cons (rv_tmp z) rvs_nil) ?_
 exact ⟨z, hst.keep0⟩
}
 {
 replace hm := bif_f hc300 hm
 refine wo hc300 z z z z z z (wo hc300 z z z z z z (wo hc300 z z z z z z (wo hc300 z z z z z z (wv (.bool false) ((wanted_eq z z z (cvb hc299)).trans z) z (x_pick_f hc300 z z) (wv (.bool false) z z (x_pick_f hc299 z z) (wv (.bool false) z z z (wl_nil (tn (wp_ret ?_)))))))))
 obtain rfl := some_inj hm
 refine post_ret (vs := [.bool false]) results185 (rvs_cons (rv_tmp z) rvs_nil) ?_
 exact ⟨z, hst.keep0⟩
}
}
}

theorem slices_Insert_mvcc_Version_mvcc_Version_ref {w0 w : World} {I : HL} {R : SP} {a0 : (List mvcc_Version)} {r0_0 : Value} {a1 : Int} {a2 : (List mvcc_Version)} {r2_0 : Value} (hst : St w0 w I [ownS ty_mvcc_Version r0_0 a0, ownS ty_mvcc_Version r2_0 a2] R) {r : (List mvcc_Version)} (hm : slices_Insert_mvcc_Version_mvcc_Version a0 a1 a2 = some r) :
  Calls prog 186 #[r0_0, I6 a1, r2_0] w fun e w' => ∃ (q0_0 : Value), e = .returned (q0_0) ∧ St w0 w' I [ownS ty_mvcc_Version q0_0 r] R := by {
 unfold slices_Insert_mvcc_Version_mvcc_Version at hm
 obtain ⟨hg, hm⟩ := gd_some hm
 obtain rfl := some_inj hm
 obtain ⟨hi0, hi1, hrm⟩ := insOK_of hg
 obtain ⟨k, rfl⟩ := Int.eq_ofNat_of_zero_le hi0
 have hsm := room_sum hrm
 have hk : k ≤ a0.length := by omega
 have hs : ∀ w : World, (sizeOf 214).run prog w = .ok ty_mvcc_Version.sz w := sizeOf214
 have hs0 : 0 < ty_mvcc_Version.sz := Nat.le_of_ble_eq_true rfl
 have hov : ∀ (args : Array Value) (w : World), (callFunc 207 args).run prog w = (Extern.SlicesOverlaps.overlaps #[238, 238] #[4] args >>= fun v => (pure (.value v) : Sem Next)).run prog w := by intro args w; kernel_rfl
 obtain ⟨css, hr, hst⟩ := hst.own_open
 replace hst := hst.pull1
 obtain ⟨dss, hq, hst⟩ := hst.own_open
 replace hst := hst.pull1
 obtain ⟨n, hn⟩ : ∃ n, css.length = n := ⟨_, rfl⟩
 obtain ⟨m, hm'⟩ : ∃ m, dss.length = m := ⟨_, rfl⟩
 have hln : a0.length = n := hr.1.trans hn
 have hlm : a2.length = m := hq.1.trans hm'
 rw [hln] at hsm hk
 rw [hlm] at hsm
 have hsv : SliceV r0_0 n := by have := hst.row_form.2; rwa [hn] at this
 have hsq : SliceV r2_0 m := by have := hst.pull1.row_form.2; rwa [hm'] at this
 have hoc := hr.ones
 have hoq := hq.ones
 have hw1 := wrap_add (a := n) (b := m) (by omega)
 have hw2 := wrap_add (a := k) (b := m) (by omega)
 have hw3 := wrap_sub (a := n + m) (b := k) (by omega) (by omega)
 have hrb := room_of (b := 48) hrm rfl
 rw [hln, hlm] at hrb
 refine calls_start (args := [r0_0, I6 (k : Int), r2_0]) func186 z ntmps186 (Nat.le_of_ble_eq_true z) ?_
 refine wp_seq (wrl (wv ((.slice none 0 0)) z z z (wl_nil (tn (wp_seq (wrl (wv (r0_0) z z z (wv (.int .i64 (k : Int)) z z z (wv ((slcV ty_mvcc_Version.sz r0_0 k n)) z z (x_slice (lo := (k : Nat)) (hi := (n : Nat)) underlying238 hs z hsv (by omega) (by omega) (by omega) .i64 .i64 (.inl z) (.inr ⟨z, z⟩)) (wl_nil (tn (wp_seq (wrl (wv (r2_0) z z z (wv (.int .i64 (m : Int)) z z (x_len z underlying238 hsq) (wv (.int .i64 (m : Int)) z z z (wl_nil (tn (wp_seq (wp_seq (wrl (wv (.int .i64 (m : Int)) z z z (wv (.bool ((m : Int) == (0:Int))) z z z ?_)))))))))))))))))))))))
 refine wl_nil (tn ?_)
 refine bsplit ((m : Int) == (0:Int)) (fun hc412 => ?_) (fun hc412 => ?_)
 {
 refine wp_ift (cvb hc412) ?_
 refine wp_seq (wrl (wv (r0_0) z z z (wv (r0_0) z z z (wl_nil (tn (wp_ret (then_r ?_)))))))
 refine post_ret (vs := [r0_0]) results186 (rvs_cons (rv_tmp z) rvs_nil) ?_
 rw [ins_nil (by rw [hlm]; exact hc412)]
 exact ⟨_, z, (hst.own_close hr).keep1⟩
}
 {
 refine wp_iff (cvb hc412) ?_
 have hm0 : m ≠ 0 := fun h => by rw [h] at hc412; cases hc412
 have hq0 : dss ≠ [] := fun h => hm0 (by rw [← hm', h]; rfl)
 refine wp_skip (tn (wp_seq (wrl ?_)))
 refine wv (r0_0) z z z (wv (.int .i64 (n : Int)) z z (x_len z underlying238 hsv) (wv (.int .i64 (n : Int)) z z z (wl_nil (tn (wp_seq (wp_seq (wrl (wv (.int .i64 (k : Int)) z z z (wv (.int .i64 (n : Int)) z z z (wv (.bool ((k : Int) == (n : Int))) z z z (wl_nil (tn ?_))))))))))))
 refine bsplit ((k : Int) == (n : Int)) (fun hc413 => ?_) (fun hc413 => ?_)
 {
 refine wp_ift (cvb hc413) ?_
 refine wp_seq (wrl (wv (r0_0) z z z (wv (r2_0) z z z ?_)))
 replace hst := (hst.own_close hr).pull1.own_close hq
 replace hst := hst.pull1
 obtain ⟨v2, w2, hra, hst⟩ := run_append elem_238 underlying238 hst hst.src1 (room_of hrm z) 238
 refine wl_run (v := v2) (w' := w2) z z (x_append z z hra) ?_
 refine wv (v2) z z z (wl_nil (tn (wp_ret (then_r ?_))))
 refine post_ret (vs := [v2]) results186 (rvs_cons (rv_tmp z) rvs_nil) ?_
 rw [ins_end (by rw [hln]; exact hc413)]
 exact ⟨_, z, hst.keep1⟩
}
 {
 refine wp_iff (cvb hc413) ?_
 have hkn : k ≠ n := fun h => by rw [h] at hc413; simp at hc413
 have hn0 : 0 < n := by omega
 have hc0 : css ≠ [] := fun h => by rw [h] at hn; simp at hn; omega
 refine wp_skip (tn (wp_seq (wp_seq (wrl ?_))))
 refine wv (.int .i64 (n : Int)) z z z (wv (.int .i64 (m : Int)) z z z (wv (.int .i64 ((n + m : Nat) : Int)) z z (ok_cast hw1 z) (wv (r0_0) z z z (wv (.int .i64 (sCap r0_0 : Int)) z z (x_cap z underlying238 hsv) (wv (.bool (decide (((n + m : Nat) : Int) > (sCap r0_0 : Int)))) z z z (wl_nil (tn ?_)))))))
 refine bsplit (decide (((n + m : Nat) : Int) > (sCap r0_0 : Int))) (fun hc414 => ?_) (fun hc414 => ?_)
 {
 refine wp_ift (cvb hc414) ?_
 refine wp_seq (wrl (wv (r0_0) z z z (wv (.int .i64 (k : Int)) z z z (wv ((slcV ty_mvcc_Version.sz r0_0 0 k)) z z (x_slice (lo := (0 : Nat)) (hi := (k : Nat)) underlying238 hs z hsv (by omega) (by omega) (by omega) .i64 .i64 (.inr ⟨z, z⟩) (.inl z)) (wv (.int .i64 (n : Int)) z z z (wv (.int .i64 (m : Int)) z z z (wv (.int .i64 ((n + m : Nat) : Int)) z z (ok_cast hw1 z) (wv (.int .i64 (k : Int)) z z z (wv (.int .i64 ((n + m - k : Nat) : Int)) z z (ok_cast hw3 z) ?_)))))))))
 obtain ⟨v2, w2, hra, hs2, zss, hzl, hst⟩ := run_app0 elem_238 underlying3 hst k (n + m - k) (by omega) (by have := of_decide_eq_true hc414; omega) (by rw [show k + (n + m - k) = n + m by omega]; exact hrb) hs0 238
 rw [show k + (n + m - k) = n + m by omega] at hs2
 refine wl_run (v := v2) (w' := w2) z z (x_append z z hra) ?_
 refine wv (v2) z z z (wl_nil (tn (wp_seq (wrl (wv (v2) z z z (wv (.int .i64 (k : Int)) z z z (wv ((slcV ty_mvcc_Version.sz v2 k (n + m))) z z (x_slice (lo := (k : Nat)) (hi := ((n + m) : Nat)) underlying238 hs z hs2 (by omega) (by omega) (by omega) .i64 .i64 (.inl z) (.inr ⟨z, z⟩)) (wv (r2_0) z z z ?_))))))))
 obtain ⟨w415, hr416, hst⟩ := run_copyRows (P := prog) (t2 := 238) (ty := 3) underlying238 hs hst hst.pull2 k m (N := n + m) (by first | omega | (simp only [List.length_append, List.length_take, List.length_drop]; omega)) (by first | omega | (simp only [List.length_append, List.length_take, List.length_drop]; omega)) (by omega) (by first | omega | (simp only [List.length_append, List.length_take, List.length_drop]; omega)) (ones_take hoq _)
 refine wl_run (v := .int .i64 (m : Nat)) (w' := w415) z z (x_copy z z hr416) ?_
 refine wl_nil (tn (wp_seq ?_))
 refine wp_region_St hst 9 [0, 1, 2, 3, 4, 5, 6, 7, 8] [0, 0, 0, 6, 15, 0, 0, 96, 255] [] z (by kernel_rfl) (by kernel_rfl) Tryz.mixed (by kernel_rfl) ?_
 refine wsr (v2) 0 z z z (by kernel_rfl) (fun w hst => z) (wsr (.int .i64 (k : Int)) 1 z z z (by kernel_rfl) (fun w hst => z) (wsr (.int .i64 (m : Int)) 2 z z z (by kernel_rfl) (fun w hst => z) (wsr (.int .i64 ((k + m : Nat) : Int)) 3 z z z (by kernel_rfl) (fun w hst => ok_cast hw2 z) (wsr ((slcV ty_mvcc_Version.sz v2 (k + m) (n + m))) 4 z z z (by kernel_rfl) (fun w hst => x_slice (lo := ((k + m) : Nat)) (hi := ((n + m) : Nat)) underlying238 hs z hs2 (by omega) (by omega) (by omega) .i64 .i64 (.inl z) (.inr ⟨z, z⟩)) (wsr (r0_0) 5 z z z (by kernel_rfl) (fun w hst => z) (wsr (.int .i64 (k : Int)) 6 z z z (by kernel_rfl) (fun w hst => z) (wsr ((slcV ty_mvcc_Version.sz r0_0 k n)) 7 z z z (by kernel_rfl) (fun w hst => x_slice (lo := (k : Nat)) (hi := (n : Nat)) underlying238 hs z hsv (by omega) (by omega) (by omega) .i64 .i64 (.inl z) (.inr ⟨z, z⟩)) ?_)))))))
 refine ws_e1 8 (by kernel_rfl) ?_
 refine nxe [] (by kernel_rfl) z z ?_
 clear hst
 intro w hst
 obtain ⟨w417, hr418, hst⟩ := run_copyRows (P := prog) (t2 := 238) (ty := 3) underlying238 hs hst (hst.pull1.row_part (l := k) (h := n) hk (by omega)) (k + m) (n - k) (N := n + m) (by first | omega | (simp only [List.length_append, List.length_take, List.length_drop]; omega)) (by first | omega | (simp only [List.length_append, List.length_take, List.length_drop]; omega)) (by omega) (by first | omega | (simp only [List.length_append, List.length_take, List.length_drop]; omega)) (ones_take (ones_drop (ones_take hoc _) _) _)
 refine we_run (v := .int .i64 ((n - k) : Nat)) (w' := w417) z (x_copy z z hr418) ?_
 refine ws_next (pend' := []) hst (by kernel_rfl) pk_nil ?_
 refine ws_nil ?_
 intro w hst
 refine tn (wp_seq (wrl (wv (v2) z z z (wv (v2) z z z (wl_nil (tn (wp_ret (then_r ?_))))))))
 refine post_ret (vs := [v2]) results186 (rvs_cons (rv_tmp z) rvs_nil) ?_
 rw [grow_rows hn hm' hk hzl] at hst
 exact ⟨_, z, (hst.own_close ((hr.take k).app (hq.app (hr.drop k)))).keep1⟩
}
 {
 refine wp_iff (cvb hc414) ?_
 have hup : n + m ≤ sCap r0_0 := by have := of_decide_eq_false hc414; omega
 obtain ⟨ess, hel, hem, hst'⟩ := hst.row_up (n + m) (by omega) hup hc0
 rw [show n + m - css.length = m by omega] at hel
 have hs2 : SliceV (upV r0_0 (n + m)) (n + m) := by have := hst'.row_form.2; rwa [List.length_append, hn, hel] at this
 clear hst
 have hst := hst'
 clear hst'
 refine wp_skip (tn (wp_seq (wrl ?_)))
 refine wv (r0_0) z z z (wv (.int .i64 (n : Int)) z z z (wv (.int .i64 (m : Int)) z z z (wv (.int .i64 ((n + m : Nat) : Int)) z z (ok_cast hw1 z) (wv ((upV r0_0 (n + m))) z z (x_sliceUp underlying238 hs z hsv z hup hn0) (wv ((upV r0_0 (n + m))) z z z (wl_nil (tn (wp_seq (wp_seq (wrl (wv (r2_0) z z z (wv ((upV r0_0 (n + m))) z z z (wv (.int .i64 (k : Int)) z z z (wv (.int .i64 (m : Int)) z z z (wv (.int .i64 ((k + m : Nat) : Int)) z z (ok_cast hw2 z) (wv ((slcV ty_mvcc_Version.sz (upV r0_0 (n + m)) (k + m) (n + m))) z z (x_slice (lo := ((k + m) : Nat)) (hi := ((n + m) : Nat)) underlying238 hs z hs2 (by omega) (by omega) (by omega) .i64 .i64 (.inl z) (.inr ⟨z, z⟩)) ?_))))))))))))))))
 refine wv (.bool false) z z (x_ext z z z (hov _) (run_overlaps z underlying238 hs hst.pull1 (k + m) (N := n + m) (by rw [List.length_append]; omega) (by omega) hq0 hs0)) (wv (.bool true) z z z (wl_nil (tn ?_)))
 refine wp_ift z ?_
 refine wp_seq ?_
 refine wp_region_St hst 9 [0, 1, 2, 3, 4, 5, 6, 7, 8] [0, 0, 0, 6, 15, 0, 0, 96, 255] [] z (by kernel_rfl) (by kernel_rfl) Tryz.mixed (by kernel_rfl) ?_
 refine wsr ((upV r0_0 (n + m))) 0 z z z (by kernel_rfl) (fun w hst => z) (wsr (.int .i64 (k : Int)) 1 z z z (by kernel_rfl) (fun w hst => z) (wsr (.int .i64 (m : Int)) 2 z z z (by kernel_rfl) (fun w hst => z) (wsr (.int .i64 ((k + m : Nat) : Int)) 3 z z z (by kernel_rfl) (fun w hst => ok_cast hw2 z) (wsr ((slcV ty_mvcc_Version.sz (upV r0_0 (n + m)) (k + m) (n + m))) 4 z z z (by kernel_rfl) (fun w hst => x_slice (lo := ((k + m) : Nat)) (hi := ((n + m) : Nat)) underlying238 hs z hs2 (by omega) (by omega) (by omega) .i64 .i64 (.inl z) (.inr ⟨z, z⟩)) (wsr ((upV r0_0 (n + m))) 5 z z z (by kernel_rfl) (fun w hst => z) (wsr (.int .i64 (k : Int)) 6 z z z (by kernel_rfl) (fun w hst => z) (wsr ((slcV ty_mvcc_Version.sz (upV r0_0 (n + m)) k (n + m))) 7 z z z (by kernel_rfl) (fun w hst => x_slice (lo := (k : Nat)) (hi := ((n + m) : Nat)) underlying238 hs z hs2 (by omega) (by omega) (by omega) .i64 .i64 (.inl z) (.inr ⟨z, z⟩)) ?_)))))))
 refine ws_e1 8 (by kernel_rfl) ?_
 refine nxe [] (by kernel_rfl) z z ?_
 clear hst
 intro w hst
 obtain ⟨w419, hr420, hst⟩ := run_copyRows (P := prog) (t2 := 238) (ty := 3) underlying238 hs hst (hst.row_part (l := k) (h := n + m) (by omega) (by rw [List.length_append]; omega)) (k + m) (n - k) (N := n + m) (by first | omega | (simp only [List.length_append, List.length_take, List.length_drop]; omega)) (by first | omega | (simp only [List.length_append, List.length_take, List.length_drop]; omega)) (by omega) (by first | omega | (simp only [List.length_append, List.length_take, List.length_drop]; omega)) (by rw [stay_src hn hm' hk hel]; exact ones_drop hoc _)
 refine we_run (v := .int .i64 ((n - k) : Nat)) (w' := w419) z (x_copy z z hr420) ?_
 refine ws_next (pend' := []) hst (by kernel_rfl) pk_nil ?_
 refine ws_nil ?_
 intro w hst
 refine tn (wp_seq (wrl (wv ((upV r0_0 (n + m))) z z z (wv (.int .i64 (k : Int)) z z z (wv ((slcV ty_mvcc_Version.sz (upV r0_0 (n + m)) k (n + m))) z z (x_slice (lo := (k : Nat)) (hi := ((n + m) : Nat)) underlying238 hs z hs2 (by omega) (by omega) (by omega) .i64 .i64 (.inl z) (.inr ⟨z, z⟩)) (wv (r2_0) z z z ?_))))))
 obtain ⟨w421, hr422, hst⟩ := run_copyRows (P := prog) (t2 := 238) (ty := 3) underlying238 hs hst hst.pull1 k m (N := n + m) (by first | omega | (simp only [List.length_append, List.length_take, List.length_drop]; omega)) (by first | omega | (simp only [List.length_append, List.length_take, List.length_drop]; omega)) (by omega) (by first | omega | (simp only [List.length_append, List.length_take, List.length_drop]; omega)) (ones_take hoq _)
 refine wl_run (v := .int .i64 (m : Nat)) (w' := w421) z z (x_copy z z hr422) ?_
 refine wl_nil (tn (wp_seq (wrl (wv ((upV r0_0 (n + m))) z z z (wv ((upV r0_0 (n + m))) z z z (wl_nil (tn (wp_ret (then_r ?_)))))))))
 refine post_ret (vs := [(upV r0_0 (n + m))]) results186 (rvs_cons (rv_tmp z) rvs_nil) ?_
 rw [stay_rows hn hm' hk hel] at hst
 exact ⟨_, z, (hst.own_close ((hr.take k).app (hq.app (hr.drop k)))).keep1⟩
}
}
}
}

theorem mvcc_Store_Put_ref {w0 w : World} {I : HL} {R : SP} {a0 : (Option mvcc_Store)} {p0 : Value} {a1 : Nat} {a2 : mvcc_Version} {r2_0 : Value} (f2_0 : Rd (tyInt .u8) R I r2_0 a2.Val) (hst : St w0 w I [objO at_mvcc_Store p0 a0] R) {r : ((Option mvcc_Store))} (hm : mvcc_Store_Put a0 a1 a2 = some r) :
  Calls prog 123 #[p0, F6 a1, .agg #[U6 a2.Epoch, U6 a2.Index, .bool a2.Del, r2_0]] w fun e w' => ∃ (I' : HL), e = .returned (.tuple #[]) ∧ I.le I' ∧ St w0 w' I' [objO at_mvcc_Store p0 r] R := by {
 rcases a0 with _ | o0
 {
 obtain ⟨rfl, hst'⟩ := objO_none hst
 clear hst
 have hst := hst'
 clear hst'
 dsimp only [mvcc_Store_Put] at hm
 refine calls_start (args := [.pointer none, F6 a1, .agg #[U6 a2.Epoch, U6 a2.Index, .bool a2.Del, r2_0]]) func123 z ntmps123 (Nat.le_of_ble_eq_true z) ?_
 have hI0 := HL.le.refl I
 refine wp_seq (wrl ?_)
 obtain ⟨b432, w433, ew434, eb435, hst⟩ := hst.box [U6 a2.Epoch, U6 a2.Index, .bool a2.Del, r2_0] 214
 refine wl_run (v := Pt b432 0) (w' := w433) z z (x_al (by kernel_rfl) ew434 eb435) ?_
 refine wl_nil (tn (wp_seq (wp_seq (wrl (wv (.pointer none) z z z (wv (.bool true) z z (by kernel_rfl) (wl_nil (tn ?_))))))))
 refine wp_ift z ?_
 refine wp_ret (then_r ?_)
 replace hst := hst.objO_nil at_mvcc_Store
 obtain rfl := some_inj hm
 refine post_ret (vs := []) results123 rvs_nil ?_
 exact ⟨_, z, hI0, hst.keep1⟩
}
 {
 replace hst := objO_get hst
 dsimp only [mvcc_Store_Put] at hm
 refine calls_start (args := [p0, F6 a1, .agg #[U6 a2.Epoch, U6 a2.Index, .bool a2.Del, r2_0]]) func123 z ntmps123 (Nat.le_of_ble_eq_true z) ?_
 have hI0 := HL.le.refl I
 refine wp_seq (wrl ?_)
 obtain ⟨b437, w438, ew439, eb440, hst⟩ := hst.box [U6 a2.Epoch, U6 a2.Index, .bool a2.Del, r2_0] 214
 refine wl_run (v := Pt b437 0) (w' := w438) z z (x_al (by kernel_rfl) ew439 eb440) ?_
 refine wl_nil (tn (wp_seq (wp_seq (wrl (wv (p0) z z z ?_)))))
 replace hst := hst.pull1
 obtain ⟨b442, v443, rfl, hst'⟩ := at_mvcc_Store_open hst
 clear hst
 have hst := hst'
 clear hst'
 refine wv (.bool false) z z (by kernel_rfl) (wl_nil (tn ?_))
 refine wp_iff z ?_
 refine wp_skip (tn (wp_seq (wrl ?_)))
 refine wv (Pt b437 3) z z (x_field z underlying214 z sizeOf22 z) (wv (r2_0) z z (x_load z isAgg22 (hst.bc2 z)) ?_)
 obtain ⟨t445, ht446, hm⟩ := bind_some hm
 refine wc call143 [r2_0] z z z ?_
 refine (slices_Clone_byte_byte_ref (f2_0.mono (rd_weak _)) hst.to0 ht446).mono ?_
 rintro _ w447 ⟨v450, rfl, hst⟩
 refine ⟨_, z, ?_⟩
 replace hst := hst.of1
 refine wv (Pt b437 3) z z (x_field z underlying214 z sizeOf22 z) ?_
 replace hst := hst.pull3
 obtain ⟨w452, hr453, hst⟩ := hst.boxStore1 (P := prog) (t := 22) (cs' := [U6 a2.Epoch, U6 a2.Index, .bool a2.Del, v450]) 3 v450 (one_of_sliceV hst.sv1) sizeOf22 z z
 refine wl_unit z z (x_unit hr453) ?_
 refine wl_nil (tn ?_)
 obtain ⟨y463, hm, hx464⟩ := bind_some hm
 refine wp_cut (fun a w => ∃ (z460 : (List Int)) (v459 : Value) (σ461 : Nat → Value), (mvcc_Store_Put_j0 a1 o0 a2) z460 = some r ∧ a = Fr 93 (upd (upd (upd σ461 0 (Pt b442 0)) 1 (.float .f64 a1)) 5 (Pt b437 0)) ∧ St w0 w I [at_mvcc_Store (Pt b442 0) o0, cells b437 [U6 a2.Epoch, U6 a2.Index, .bool a2.Del, v459], ownS (tyInt .u8) v459 z460] R) ?_ ?_
 {
 refine wp_seq (wrl (wv (Pt b437 2) z z (x_field z underlying214 z sizeOf4 z) (wv (.bool a2.Del) z z (x_load z isAgg4 (hst.bc0 z)) (wl_nil (tn ?_)))))
 refine bsplit a2.Del (fun hc454 => ?_) (fun hc454 => ?_)
 {
 replace hm := bif_t hc454 hm
 refine wp_ift (cvb hc454) ?_
 refine wrl (wv (Pt b437 3) z z (x_field z underlying214 z sizeOf22 z) ?_)
 obtain ⟨w456, hr457, hst⟩ := hst.by_ [U6 a2.Epoch, U6 a2.Index, .bool a2.Del, Zs] 3 ((.slice none 0 0)) sizeOf22 z (oC z oN) (by kernel_rfl)
 refine wl_unit z z (x_unit hr457) ?_
 refine wl_nil (tn ?_)
 replace hst := hst.own_nil (tyInt .u8)
 replace hst := hst.pull4.pull4
 replace hst := at_mvcc_Store_close (pv := Pt b442 0) (x := o0) hst z
 replace hst := hst.pull1.pull2.pull2.keep3
 obtain rfl := some_inj hm
 exact ⟨([]), Zs, _, hx464, (fu 0 (Pt b442 0) z (fu 1 (.float .f64 a1) z (fu 5 (Pt b437 0) z z))), hst⟩
}
 {
 replace hm := bif_f hc454 hm
 refine wp_iff (cvb hc454) ?_
 refine wp_skip (tn ?_)
 replace hst := hst.pull3.pull3
 replace hst := at_mvcc_Store_close (pv := Pt b442 0) (x := o0) hst z
 replace hst := hst.pull2.pull2.pull2.keep3
 obtain rfl := some_inj hm
 exact ⟨t445, v450, _, hx464, (fu 0 (Pt b442 0) z (fu 1 (.float .f64 a1) z (fu 5 (Pt b437 0) z z))), hst⟩
}
}
 {
 clear hst
 rintro _ w465 ⟨z460, v459, σ461, hm, rfl, hst⟩
 dsimp only [mvcc_Store_Put_j0] at hm
 refine wp_seq (wrl (wv (Pt b442 0) z z z (wv (.float .f64 a1) z z z ?_)))
 obtain ⟨t466, ht467, hm⟩ := bind_some hm
 refine wc call118 [F6 a1] z z z ?_
 refine (number_Rank_ref hst.to0 ht467).mono ?_
 rintro _ w468 ⟨rfl, hst⟩
 refine ⟨_, z, ?_⟩
 replace hst := hst.of0
 replace hst := objO_some hst
 obtain ⟨t471, ht472, hm⟩ := bind_some hm
 refine wc call146 [Pt b442 0, U6 t466] z z z ?_
 refine (mvcc_Store_find_ref hst.to1 ht472).mono ?_
 rintro _ w473 ⟨rfl, hst⟩
 refine ⟨_, z, ?_⟩
 replace hst := hst.of1
 replace hst := objO_get hst
 refine wv (.tuple #[I6 t471.1, .bool t471.2]) z z z (wv (.int .i64 t471.1) z z z (wv (.bool t471.2) z z z (wv (.int .i64 t471.1) z z z (wv (.bool t471.2) z z z (wl_nil (tn ?_))))))
 obtain ⟨y505, hm, hx506⟩ := bind_some hm
 refine wp_cut (fun a w => ∃ (z502 : mvcc_Store) (σ503 : Nat → Value), (mvcc_Store_Put_j1 t471 a2 z460) z502 = some r ∧ a = Fr 93 (upd (upd (upd σ503 0 (Pt b442 0)) 5 (Pt b437 0)) 6 (.int .i64 t471.1)) ∧ St w0 w I [at_mvcc_Store (Pt b442 0) z502, cells b437 [U6 a2.Epoch, U6 a2.Index, .bool a2.Del, v459], ownS (tyInt .u8) v459 z460] R) ?_ ?_
 {
 refine wp_seq (wrl (wv (.bool t471.2) z z z (wv (.bool (!t471.2)) z z z (wl_nil (tn ?_)))))
 refine bsplit (!t471.2) (fun hc476 => ?_) (fun hc476 => ?_)
 {
 replace hm := bif_t hc476 hm
 refine wp_ift (cvb hc476) ?_
 obtain ⟨b477, v478, e480, hst'⟩ := at_mvcc_Store_open hst
 clear hst
 have e480 := ptr_inj e480
 subst e480
 have hst := hst'
 clear hst'
 refine wp_region_St hst 14 [0, 1, 2, 3, 4, 5, 6, 7, 8, 9, 10, 11, 12, 13] [0, 0, 2, 6, 14, 0, 0, 64, 192, 448, 1022, 2047, 4095, 8191] [] z (by kernel_rfl) (by kernel_rfl) Tryz.mixed (by kernel_rfl) ?_
 refine wsr (Pt b442 0) 0 z z z (by kernel_rfl) (fun w hst => z) (wsr (Pt b442 0) 1 z z z (by kernel_rfl) (fun w hst => z) (wsr (Pt b442 0) 2 z z z (by kernel_rfl) (fun w hst => z) (wsr (Pt b442 0) 3 z z z (by kernel_rfl) (fun w hst => x_field z underlying201 z sizeOf199 z) (wsr (v478) 4 z z z (by kernel_rfl) (fun w hst => x_load z isAgg199 (hst.bc0 z)) (wsr (.int .i64 t471.1) 5 z z z (by kernel_rfl) (fun w hst => z) (wsr (.float .f64 a1) 6 z z z (by kernel_rfl) (fun w hst => z) ?_))))))
 refine ws_e1 7 (by kernel_rfl) ?_
 refine nxe [8, 9, 10, 11, 12, 13] (by kernel_rfl) z z ?_
 clear hst
 intro w hst
 obtain ⟨t481, ht482, hm⟩ := bind_some hm
 refine wec call118 [F6 a1] z z ?_
 refine (number_Rank_ref hst.to0 ht482).mono ?_
 rintro _ w483 ⟨rfl, hst⟩
 refine ⟨_, z, ?_⟩
 replace hst := hst.of0
 refine ws_next (pend' := [(5, I6 t471.1), (4, v478), (3, Pt b442 0), (2, Pt b442 0), (1, Pt b442 0), (0, Pt b442 0)]) hst (by kernel_rfl) (pkr z z (fun w hst => z) (pkr z z (fun w hst => x_load z isAgg199 (hst.bc0 z)) (pkr z z (fun w hst => x_field z underlying201 z sizeOf199 z) (pkr z z (fun w hst => z) (pkr z z (fun w hst => z) (pkr z z (fun w hst => z) pk_nil)))))) ?_
 refine wsr (.agg #[U6 t481, Zs]) 8 z z z (by kernel_rfl) (fun w hst => by kernel_rfl) ?_
 refine ws_e1 9 (by kernel_rfl) ?_
 refine nxe [10, 11, 12, 13] (by kernel_rfl) z z ?_
 clear hst
 intro w hst
 replace hst := hst.own_nil ty_mvcc_Version
 obtain ⟨b488, w489, ew490, eb491, hst⟩ := hst.nest_one (N := nest_mvcc_row) (x := ({ rank := t481, l := [] } : mvcc_row)) 240
 refine we_run (v := (.slice (some ⟨b488, 0, none⟩) 1 1)) (w' := w489) z (x_als (by kernel_rfl) ew490 eb491) ?_
 refine ws_next (pend' := [(5, I6 t471.1), (4, v478), (3, Pt b442 0), (2, Pt b442 0), (1, Pt b442 0), (0, Pt b442 0)]) hst (by kernel_rfl) (pkr z z (fun w hst => z) (pkr z z (fun w hst => x_load z isAgg199 (hst.bc1 z)) (pkr z z (fun w hst => x_field z underlying201 z sizeOf199 z) (pkr z z (fun w hst => z) (pkr z z (fun w hst => z) (pkr z z (fun w hst => z) pk_nil)))))) ?_
 refine ws_e1 10 (by kernel_rfl) ?_
 refine nxe [11, 12, 13] (by kernel_rfl) z z ?_
 clear hst
 intro w hst
 replace hst := hst.pull2
 obtain ⟨t493, ht494, hm⟩ := bind_some hm
 refine wec call183 [v478, I6 t471.1, (.slice (some ⟨b488, 0, none⟩) 1 1)] z z ?_
 refine (slices_Insert_mvcc_row_mvcc_row_ref hst.to2 ht494).mono ?_
 rintro _ w495 ⟨v498, rfl, hst⟩
 refine ⟨_, z, ?_⟩
 replace hst := hst.of1
 refine ws_next (pend' := [(0, Pt b442 0)]) hst (by kernel_rfl) (pkr z z (fun w hst => z) pk_nil) ?_
 refine wsr (Pt b442 0) 11 z z z (by kernel_rfl) (fun w hst => z) (wsr (Pt b442 0) 12 z z z (by kernel_rfl) (fun w hst => x_field z underlying201 z sizeOf199 z) ?_)
 refine ws_e1 13 (by kernel_rfl) ?_
 refine nxe [] (by kernel_rfl) z z ?_
 clear hst
 intro w hst
 replace hst := hst.pull1
 obtain ⟨w500, hr501, hst⟩ := hst.boxStore1 (P := prog) (t := 199) (cs' := [v498]) 0 v498 (one_of_sliceV (hst.nestsv 1 z)) sizeOf199 z z
 refine we_unit z (x_unit hr501) ?_
 refine ws_next (pend' := []) hst (by kernel_rfl) pk_nil ?_
 refine ws_nil ?_
 intro w hst
 refine tn ?_
 replace hst := hst.pull1.pull1
 replace hst := at_mvcc_Store_close (pv := Pt b442 0) (x := ({ rows := t493 } : mvcc_Store)) hst z
 replace hst := hst.pull2.pull2.pull2.keep3
 obtain rfl := some_inj hm
 exact ⟨({ rows := t493 } : mvcc_Store), _, hx506, (fu 0 (Pt b442 0) z (fu 5 (Pt b437 0) z (fu 6 (.int .i64 t471.1) z z))), hst⟩
}
 {
 replace hm := bif_f hc476 hm
 refine wp_iff (cvb hc476) ?_
 refine wp_skip (tn ?_)
 replace hst := hst.pull2.pull2.pull2.keep3
 obtain rfl := some_inj hm
 exact ⟨o0, _, hx506, (fu 0 (Pt b442 0) z (fu 5 (Pt b437 0) z (fu 6 (.int .i64 t471.1) z z))), hst⟩
}
}
 {
 clear hst
 rintro _ w507 ⟨z502, σ503, hm, rfl, hst⟩
 dsimp only [mvcc_Store_Put_j1] at hm
 refine wp_seq (wrl (wv (Pt b442 0) z z z ?_))
 obtain ⟨b508, v509, e511, hst'⟩ := at_mvcc_Store_open hst
 clear hst
 have e511 := ptr_inj e511
 subst e511
 have hst := hst'
 clear hst'
 refine wv (Pt b442 0) z z z (wv (Pt b442 0) z z (x_field z underlying201 z sizeOf199 z) (wv (v509) z z (x_load z isAgg199 (hst.bc0 z)) (wv (.int .i64 t471.1) z z z ?_)))
 obtain ⟨x512, hx513, hm⟩ := bind_some hm
 obtain ⟨h514, h515, hi516⟩ := geto_some hx513
 refine wv (.pointer (some (eAddr v509 (t471.1.toNat * 2 + 0)))) z z (x_index z z underlying199 sizeOf240 (hst.nestsv 1 z) h514 h515) (wv (.pointer (some (eAddr v509 (t471.1.toNat * 2 + 1)))) z z (x_field_e z underlying240 z sizeOf238 z) ?_)
 replace hst := hst.pull1
 obtain ⟨v517, hst⟩ := hst.nest_focus hi516
 refine wv (v517) z z (x_load z isAgg238 ((hst.holeall (N := nest_mvcc_row) (i := t471.1.toNat) 1 z hi516) 1 _ z)) ?_
 obtain ⟨b520, w521, ew522, eb523, hst⟩ := hst.box [Zs] 238
 refine wl_run (v := Pt b520 0) (w' := w521) z z (x_al (by kernel_rfl) ew522 eb523) ?_
 obtain ⟨w526, hr527, hst⟩ := hst.boxStore1 (P := prog) (t := 238) (cs' := [v517]) 0 v517 (one_of_sliceV hst.sv1) sizeOf238 z z
 refine wl_unit z z (x_unit hr527) ?_
 refine wl_nil (tn (wp_seq (wrl (wv (v517) z z (x_load z isAgg238 (hst.bc0 z)) (wv (.int .i64 ((x512.l).length : Int)) z z (x_len z underlying238 hst.sv1) (wv (.func (.func 184) #[] #[Pt b520 0, Pt b437 0]) z z (by kernel_rfl) ?_))))))
 obtain ⟨y617, hq618, hm⟩ := bind_some hm
 refine wl_call z z (x_callv call179 (caps := []) z (vs := [I6 ((x512.l).length : Int), .func (.func 184) #[] #[Pt b520 0, Pt b437 0]]) z) ?_
 refine Calls.mono (show Calls prog 179 #[I6 ((x512.l).length : Int), .func (.func 184) #[] #[Pt b520 0, Pt b437 0]] _ (fun e w' => ∃ (z615 : Int), z615 = y617 ∧ e = .returned (.int .i64 z615) ∧ St w0 w' I [cells b442 [v509], ownS ty_mvcc_Version v517 x512.l, holeN nest_mvcc_row v509 z502.rows t471.1.toNat v517, cells b437 [U6 a2.Epoch, U6 a2.Index, .bool a2.Del, v459], ownS (tyInt .u8) v459 z460, cells b520 [v517]] R) from ?_) ?_
 {
 clear hm; have hm := hq618
 refine calls_start (args := [I6 ((x512.l).length : Int), .func (.func 184) #[] #[Pt b520 0, Pt b437 0]]) func179 z ntmps179 (Nat.le_of_ble_eq_true z) ?_
 refine wp_seq (wrl (wv (.int .i64 (0:Int)) z z z (wl_nil (tn (wp_seq (wrl (wv (.int .i64 ((x512.l).length : Int)) z z z (wv (.int .i64 (0:Int)) z z z (wv (.int .i64 ((x512.l).length : Int)) z z z (wl_nil (tn (wp_seq (wp_block ?_)))))))))))))
 obtain ⟨n583, hm⟩ := loopO_some hm
 refine wp_loop_n (fun n a w => ∃ (z580 : Int) (z581 : Int) (σ582 : Nat → Value), loopN (mvcc_Store_Put_l2 x512 a2) n (z580, z581) = some y617 ∧ a = Fr 26 (upd (upd (upd σ582 1 (.func (.func 184) #[] #[Pt b520 0, Pt b437 0])) 5 (.int .i64 z580)) 6 (.int .i64 z581)) ∧ St w0 w I [cells b520 [v517], ownS ty_mvcc_Version v517 x512.l, holeN nest_mvcc_row v509 z502.rows t471.1.toNat v517, cells b442 [v509], cells b437 [U6 a2.Epoch, U6 a2.Index, .bool a2.Del, v459], ownS (tyInt .u8) v459 z460] R) n583 ⟨(0:Int), ((x512.l).length : Int), _, hm, (fu 1 (.func (.func 184) #[] #[Pt b520 0, Pt b437 0]) z (fu 5 (.int .i64 (0:Int)) z (fu 6 (.int .i64 ((x512.l).length : Int)) z z))), hst⟩ ?_
 rintro n589 _ w584 ⟨z580, z581, σ582, hm, rfl, hst⟩
 obtain ⟨n586, y587, rfl, hm, hx588⟩ := loopN_some hm
 dsimp only [mvcc_Store_Put_l2] at hm
 refine wp_seq (wp_seq (wrl (wv (.int .i64 z580) z z z (wv (.int .i64 z581) z z z (wv (.bool (decide (z580 < z581))) z z z (wl_nil (tn ?_)))))))
 refine bsplit (decide (z580 < z581)) (fun hc590 => ?_) (fun hc590 => ?_)
 {
 replace hm := bif_t hc590 hm
 refine wp_ift (cvb hc590) ?_
 refine wp_skip (tn (wp_block (wp_seq (wrl ?_))))
 refine wv (.int .i64 z580) z z z (wv (.int .i64 z581) z z z (wv (.int .i64 (i64.wrap (z580 + z581))) z z z (wv (.int .u64 (u64.wrap (i64.wrap (z580 + z581)))) z z (by kernel_rfl) (wv (.int .u64 (iShr .u64 (u64.wrap (i64.wrap (z580 + z581))) (1:Int))) z z (x_shr (by decide) z z) (wv (.int .i64 (i64.wrap (iShr .u64 (u64.wrap (i64.wrap (z580 + z581))) (1:Int)))) z z (by kernel_rfl) (wv (.int .i64 (i64.wrap (iShr .u64 (u64.wrap (i64.wrap (z580 + z581))) (1:Int)))) z z z (wl_nil (tn (wp_seq (wrl (wv (.func (.func 184) #[] #[Pt b520 0, Pt b437 0]) z z z (wv (.int .i64 (i64.wrap (iShr .u64 (u64.wrap (i64.wrap (z580 + z581))) (1:Int)))) z z z ?_))))))))))))
 obtain ⟨y611, hq612, hm⟩ := bind_some hm
 refine wl_call z z (x_callv call184 (caps := [Pt b520 0, Pt b437 0]) z (vs := [I6 (i64.wrap (iShr .u64 (u64.wrap (i64.wrap (z580 + z581))) (1:Int)))]) z) ?_
 refine Calls.mono (show Calls prog 184 #[I6 (i64.wrap (iShr .u64 (u64.wrap (i64.wrap (z580 + z581))) (1:Int))), Pt b520 0, Pt b437 0] _ (fun e w' => ∃ (z609 : Bool), z609 = y611 ∧ e = .returned (.bool z609) ∧ St w0 w' I [cells b442 [v509], ownS ty_mvcc_Version v517 x512.l, holeN nest_mvcc_row v509 z502.rows t471.1.toNat v517, cells b437 [U6 a2.Epoch, U6 a2.Index, .bool a2.Del, v459], ownS (tyInt .u8) v459 z460, cells b520 [v517]] R) from ?_) ?_
 {
 clear hm; have hm := hq612
 refine calls_start (args := [I6 (i64.wrap (iShr .u64 (u64.wrap (i64.wrap (z580 + z581))) (1:Int))), Pt b520 0, Pt b437 0]) func184 z ntmps184 (Nat.le_of_ble_eq_true z) ?_
 refine wp_seq (wrl (wv (.bool false) z z z (wl_nil (tn (wp_seq ?_)))))
 replace hst := hst.pull1
 obtain ⟨css591, hq592, hst⟩ := hst.own_open
 refine wp_region_St hst 11 [0, 1, 2, 3, 4, 5, 6, 7, 8, 9, 10] [0, 0, 3, 7, 0, 16, 0, 64, 255, 511, 1023] [] z (by kernel_rfl) (by kernel_rfl) Tryz.mixed (by kernel_rfl) ?_
 refine wsr (v517) 0 z z z (by kernel_rfl) (fun w hst => x_load z isAgg238 (hst.bc1 z)) (wsr (.int .i64 (i64.wrap (iShr .u64 (u64.wrap (i64.wrap (z580 + z581))) (1:Int)))) 1 z z z (by kernel_rfl) (fun w hst => z) ?_)
 obtain ⟨x593, hx594, hm⟩ := bind_some hm
 obtain ⟨h595, h596, hi597⟩ := geto_some hx594
 refine wsr (.pointer (some (eAddr v517 ((i64.wrap (iShr .u64 (u64.wrap (i64.wrap (z580 + z581))) (1:Int))).toNat * 4 + 0)))) 2 z z z (by kernel_rfl) (fun w hst => x_index z z underlying238 sizeOf214 (hst.rsv 0 z hq592) h595 h596) ?_
 obtain ⟨cs598, hc600, hr599⟩ := Reps.get hq592 hi597
 obtain ⟨v601, rfl, f602, -⟩ := hr599
 refine wsr (.agg #[U6 x593.Epoch, U6 x593.Index, .bool x593.Del, v601]) 3 z z z (by kernel_rfl) (fun w hst => x_loadN (cs := [U6 x593.Epoch, U6 x593.Index, .bool x593.Del, v601]) z isAgg214 sizeOf214 (eCells (o := 0) (hst.rcell 0 z hc600) z)) (wsr (Pt b437 0) 4 z z z (by kernel_rfl) (fun w hst => x_field z underlying214 z sizeOf26 z) (wsr (.int .u64 a2.Epoch) 5 z z z (by kernel_rfl) (fun w hst => x_load z isAgg26 (hst.bc4 z)) (wsr (Pt b437 1) 6 z z z (by kernel_rfl) (fun w hst => x_field z underlying214 z sizeOf26 z) (wsr (.int .u64 a2.Index) 7 z z z (by kernel_rfl) (fun w hst => x_load z isAgg26 (hst.bc4 z)) ?_))))
 refine ws_e1 8 (by kernel_rfl) ?_
 refine nxe [9, 10] (by kernel_rfl) z z ?_
 clear hst
 intro w hst
 obtain ⟨t604, ht605, hm⟩ := bind_some hm
 refine wec call185 [.agg #[U6 x593.Epoch, U6 x593.Index, .bool x593.Del, v601], U6 a2.Epoch, U6 a2.Index] z z ?_
 refine (mvcc_ahead_ref (f602.mono ro_rd) hst.to0 ht605).mono ?_
 rintro _ w606 ⟨rfl, hst⟩
 refine ⟨_, z, ?_⟩
 replace hst := hst.of0
 refine ws_next (pend' := []) hst (by kernel_rfl) pk_nil ?_
 refine wsr (.bool (!t604)) 9 z z z (by kernel_rfl) (fun w hst => z) (wsr (.bool (!t604)) 10 z z z (by kernel_rfl) (fun w hst => z) ?_)
 refine ws_nil ?_
 intro w hst
 replace hst := hst.own_close hq592
 refine tn (wp_ret ?_)
 refine post_ret (vs := [.bool (!t604)]) results184 (rvs_cons (rv_tmp z) rvs_nil) ?_
 replace hst := hst.pull1.pull5.pull5.pull4.pull4.pull5.keep6
 obtain rfl := some_inj hm
 exact ⟨(!t604), z, z, hst⟩
}
 clear hst
 rintro _ w613 ⟨z609, rfl, rfl, hst⟩
 refine ⟨_, z, ?_⟩
 try dsimp only at hm
 refine wv (.bool (!z609)) z z z (wl_nil (tn ?_))
 refine bsplit (!z609) (fun hc614 => ?_) (fun hc614 => ?_)
 {
 replace hm := bif_t hc614 hm
 refine wp_ift (cvb hc614) ?_
 refine wrl (wv (.int .i64 (i64.wrap (iShr .u64 (u64.wrap (i64.wrap (z580 + z581))) (1:Int)))) z z z (wv (.int .i64 (i64.wrap ((i64.wrap (iShr .u64 (u64.wrap (i64.wrap (z580 + z581))) (1:Int))) + (1:Int)))) z z z (wv (.int .i64 (i64.wrap ((i64.wrap (iShr .u64 (u64.wrap (i64.wrap (z580 + z581))) (1:Int))) + (1:Int)))) z z z (wl_nil (blk_n (tn ?_))))))
 replace hst := hst.pull4.pull4.pull2.pull4.pull4.pull5.keep6
 obtain rfl := some_inj hm
 exact ⟨_, Nat.lt_succ_self _, (i64.wrap ((i64.wrap (iShr .u64 (u64.wrap (i64.wrap (z580 + z581))) (1:Int))) + (1:Int))), z581, _, hx588, (fu 1 (.func (.func 184) #[] #[Pt b520 0, Pt b437 0]) z (fu 5 (.int .i64 (i64.wrap ((i64.wrap (iShr .u64 (u64.wrap (i64.wrap (z580 + z581))) (1:Int))) + (1:Int)))) z (fu 6 (.int .i64 z581) z z))), hst⟩
}
 {
 replace hm := bif_f hc614 hm
 refine wp_iff (cvb hc614) ?_
 refine wrl (wv (.int .i64 (i64.wrap (iShr .u64 (u64.wrap (i64.wrap (z580 + z581))) (1:Int)))) z z z (wv (.int .i64 (i64.wrap (iShr .u64 (u64.wrap (i64.wrap (z580 + z581))) (1:Int)))) z z z (wl_nil (blk_n (tn ?_)))))
 replace hst := hst.pull4.pull4.pull2.pull4.pull4.pull5.keep6
 obtain rfl := some_inj hm
 exact ⟨_, Nat.lt_succ_self _, z580, (i64.wrap (iShr .u64 (u64.wrap (i64.wrap (z580 + z581))) (1:Int))), _, hx588, (fu 1 (.func (.func 184) #[] #[Pt b520 0, Pt b437 0]) z (fu 5 (.int .i64 z580) z (fu 6 (.int .i64 (i64.wrap (iShr .u64 (u64.wrap (i64.wrap (z580 + z581))) (1:Int)))) z z))), hst⟩
}
}
 {
 replace hm := bif_f hc590 hm
 refine wp_iff (cvb hc590) ?_
 refine wp_exit (then_x (then_x ?_))
 replace hm := inr_up hm hx588
 refine blk_x (tn (wp_seq (wrl ?_)))
 refine wv (.int .i64 z580) z z z (wv (.int .i64 z580) z z z (wl_nil (tn (wp_ret ?_))))
 refine post_ret (vs := [I6 z580]) results179 (rvs_cons (rv_tmp z) rvs_nil) ?_
 replace hst := hst.pull5.pull5.pull4.pull4.pull5.keep6
 obtain rfl := some_inj hm
 exact ⟨z580, z, z, hst⟩
}
}
 clear hst
 rintro _ w619 ⟨z615, rfl, rfl, hst⟩
 refine ⟨_, z, ?_⟩
 try dsimp only at hm
 refine wv (.int .i64 z615) z z z (wl_nil (tn ?_))
 obtain ⟨y652, hm, hx653⟩ := joinO_some hm
 refine wp_cut (fun a w => ∃ (I649 : HL) (σ650 : Nat → Value), (mvcc_Store_Put_j3 x512 z615 a2 z460 z502 t471) () = some r ∧ a = Fr 93 (upd (upd (upd (upd (upd σ650 0 (Pt b442 0)) 5 (Pt b437 0)) 6 (.int .i64 t471.1)) 8 (Pt b520 0)) 9 (.int .i64 z615)) ∧ I.le I649 ∧ St w0 w I649 [cells b442 [v509], ownS ty_mvcc_Version v517 x512.l, holeN nest_mvcc_row v509 z502.rows t471.1.toNat v517, cells b437 [U6 a2.Epoch, U6 a2.Index, .bool a2.Del, v459], ownS (tyInt .u8) v459 z460, cells b520 [v517]] R) ?_ ?_
 {
 have hL654 := HL.le.refl I
 refine wp_seq ?_
 replace hst := hst.pull1
 obtain ⟨css620, hq621, hst⟩ := hst.own_open
 refine wq_regionS hst Tryz.mixed (by kernel_rfl) ?_
 refine wq_run (v := .int .i64 z615) z z (fun w hst => z) ?_
 refine wq_run (v := v517) z z (fun w hst => x_load z isAgg238 (hst.bc5 z)) ?_
 refine wq_run (v := .int .i64 ((x512.l).length : Int)) z z (fun w hst => x_len z underlying238 (hst.rsv 0 z hq621)) ?_
 refine wq_run (v := .bool (decide (z615 < ((x512.l).length : Int)))) z z (fun w hst => z) ?_
 refine wq_run (v := .bool (decide (z615 < ((x512.l).length : Int)))) z z (fun w hst => z) ?_
 refine bsplit (decide (z615 < ((x512.l).length : Int))) (fun hc622 => ?_) (fun hc622 => ?_)
 {
 replace hm := bif_t hc622 hm
 refine wq_run (v := v517) ((wanted_eq z z z (cvb hc622)).trans z) z (fun w hst => x_load z isAgg238 (hst.bc5 z)) ?_
 refine wq_run (v := .int .i64 z615) ((wanted_eq z z z (cvb hc622)).trans z) z (fun w hst => z) ?_
 obtain ⟨x623, hx624, hm⟩ := bind_some hm
 obtain ⟨h625, h626, hi627⟩ := geto_some hx624
 refine wq_run (v := .pointer (some (eAddr v517 (z615.toNat * 4 + 0)))) ((wanted_eq z z z (cvb hc622)).trans z) z (fun w hst => x_index z z underlying238 sizeOf214 (hst.rsv 0 z hq621) h625 h626) ?_
 refine wq_run (v := .pointer (some (eAddr v517 (z615.toNat * 4 + 0)))) ((wanted_eq z z z (cvb hc622)).trans z) z (fun w hst => x_field_e z underlying214 z sizeOf26 z) ?_
 obtain ⟨cs628, hc630, hr629⟩ := Reps.get hq621 hi627
 obtain ⟨v631, rfl, f632, -⟩ := hr629
 refine wq_run (v := .int .u64 x623.Epoch) ((wanted_eq z z z (cvb hc622)).trans z) z (fun w hst => x_load z isAgg26 ((hst.rcell 0 z hc630) 0 _ z)) ?_
 refine wq_run (v := Pt b437 0) ((wanted_eq z z z (cvb hc622)).trans z) z (fun w hst => x_field z underlying214 z sizeOf26 z) ?_
 refine wq_run (v := .int .u64 a2.Epoch) ((wanted_eq z z z (cvb hc622)).trans z) z (fun w hst => x_load z isAgg26 (hst.bc3 z)) ?_
 refine wq_run (v := .bool (x623.Epoch == a2.Epoch)) ((wanted_eq z z z (cvb hc622)).trans z) z (fun w hst => z) ?_
 refine wq_run (v := .bool (x623.Epoch == a2.Epoch)) z z (fun w hst => x_pick_t hc622 z z) ?_
 refine wq_run (v := .bool (x623.Epoch == a2.Epoch)) z z (fun w hst => z) ?_
 refine bsplit (x623.Epoch == a2.Epoch) (fun hc634 => ?_) (fun hc634 => ?_)
 {
 replace hm := bif_t hc634 hm
 refine wq_run (v := v517) ((wanted_eq z z z (cvb hc634)).trans z) z (fun w hst => x_load z isAgg238 (hst.bc5 z)) ?_
 refine wq_run (v := .int .i64 z615) ((wanted_eq z z z (cvb hc634)).trans z) z (fun w hst => z) ?_
 refine wq_run (v := .pointer (some (eAddr v517 (z615.toNat * 4 + 0)))) ((wanted_eq z z z (cvb hc634)).trans z) z (fun w hst => x_index z z underlying238 sizeOf214 (hst.rsv 0 z hq621) h625 h626) ?_
 refine wq_run (v := .pointer (some (eAddr v517 (z615.toNat * 4 + 1)))) ((wanted_eq z z z (cvb hc634)).trans z) z (fun w hst => x_field_e z underlying214 z sizeOf26 z) ?_
 refine wq_run (v := .int .u64 x623.Index) ((wanted_eq z z z (cvb hc634)).trans z) z (fun w hst => x_load z isAgg26 ((hst.rcell 0 z hc630) 1 _ z)) ?_
 refine wq_run (v := Pt b437 1) ((wanted_eq z z z (cvb hc634)).trans z) z (fun w hst => x_field z underlying214 z sizeOf26 z) ?_
 refine wq_run (v := .int .u64 a2.Index) ((wanted_eq z z z (cvb hc634)).trans z) z (fun w hst => x_load z isAgg26 (hst.bc3 z)) ?_
 refine wq_run (v := .bool (x623.Index == a2.Index)) ((wanted_eq z z z (cvb hc634)).trans z) z (fun w hst => z) ?_
 refine wq_run (v := .bool (x623.Index == a2.Index)) z z (fun w hst => x_pick_t hc634 z z) ?_
 refine wq_nil ?_
 intro w hst
 replace hst := hst.own_close hq621
 refine tn ?_
 refine bsplit (x623.Index == a2.Index) (fun hc635 => ?_) (fun hc635 => ?_)
 {
 replace hm := bif_t hc635 hm
 refine wp_ift (cvb hc635) ?_
 refine wp_seq (wrl (wv (v517) z z (x_load z isAgg238 (hst.bc5 z)) (wv (.int .i64 z615) z z z (wv (.agg #[U6 a2.Epoch, U6 a2.Index, .bool a2.Del, v459]) z z (x_loadN (cs := [U6 a2.Epoch, U6 a2.Index, .bool a2.Del, v459]) z isAgg214 sizeOf214 (hst.bcs3 0 z)) (wv (.pointer (some (eAddr v517 (z615.toNat * 4 + 0)))) z z (x_index z z underlying238 sizeOf214 hst.sv0 h625 h626) ?_)))))
 obtain ⟨cs636, hr637, hc638⟩ := hst.og0 hi627
 obtain ⟨v639, rfl, f640, -⟩ := hr637
 replace hst := hst.pull4
 obtain ⟨I642, hI643, f644, hst⟩ := hst.own_fix
 replace f2_0 := f2_0.mono (rd_le hI643)
 replace f632 := f632.mono (ro_le hI643)
 replace f640 := f640.mono (ro_le hI643)
 replace hI0 := hI0.trans hI643
 replace hL654 := hL654.trans hI643
 obtain ⟨w645, hr646, hst⟩ := hst.own_store (P := prog) (t := 214) (y := ({ Epoch := a2.Epoch, Index := a2.Index, Del := a2.Del, Val := z460 } : mvcc_Version)) hi627 0 (.agg #[U6 a2.Epoch, U6 a2.Index, .bool a2.Del, v459]) sizeOf214 (Nat.le_of_ble_eq_true z) (oC z (oC z (oC z (oC (one_of_sliceV (ro_sliceV f644)) oN)))) (fun cs h => ⟨_, setMany_all (ty_mvcc_Version.len h) z, f644, one_of_sliceV (ro_sliceV f644)⟩)
 have hi647 := set_get hi627 ({ Epoch := a2.Epoch, Index := a2.Index, Del := a2.Del, Val := z460 } : mvcc_Version)
 have h648 := set_lt h626 z615.toNat ({ Epoch := a2.Epoch, Index := a2.Index, Del := a2.Del, Val := z460 } : mvcc_Version)
 refine wl_unit z z (x_unit hr646) ?_
 refine wl_nil (tn (wp_ret (then_r ?_)))
 replace hm := inr_up hm hx653
 replace hst := hst.pull2.pull1
 replace hst := St.nest_close (N := nest_mvcc_row) hst hi516
 replace hst := hst.pull1
 replace hst := at_mvcc_Store_close (pv := Pt b442 0) (x := ({ rows := (z502.rows.set t471.1.toNat ({ rank := x512.rank, l := (x512.l.set z615.toNat ({ Epoch := a2.Epoch, Index := a2.Index, Del := a2.Del, Val := z460 } : mvcc_Version)) } : mvcc_row)) } : mvcc_Store)) hst z
 replace hst := objO_some hst
 obtain rfl := some_inj hm
 refine post_ret (vs := []) results123 rvs_nil ?_
 exact ⟨_, z, hI0, hst.keep1⟩
}
 {
 replace hm := bif_f hc635 hm
 refine wp_iff (cvb hc635) ?_
 refine wp_skip (tn ?_)
 replace hst := hst.pull5.pull5.pull5.pull5.pull4.pull5.keep6
 obtain rfl := some_inj hm
 exact ⟨_, _, hx653, (fu 0 (Pt b442 0) z (fu 5 (Pt b437 0) z (fu 6 (.int .i64 t471.1) z (fu 8 (Pt b520 0) z (fu 9 (.int .i64 z615) z z))))), hL654, hst⟩
}
}
 {
 replace hm := bif_f hc634 hm
 refine wq_off ((wanted_eq z z z (cvb hc634)).trans z) z ?_
 refine wq_off ((wanted_eq z z z (cvb hc634)).trans z) z ?_
 refine wq_off ((wanted_eq z z z (cvb hc634)).trans z) z ?_
 refine wq_off ((wanted_eq z z z (cvb hc634)).trans z) z ?_
 refine wq_off ((wanted_eq z z z (cvb hc634)).trans z) z ?_
 refine wq_off ((wanted_eq z z z (cvb hc634)).trans z) z ?_
 refine wq_off ((wanted_eq z z z (cvb hc634)).trans z) z ?_
 refine wq_off ((wanted_eq z z z (cvb hc634)).trans z) z ?_
 refine wq_run (v := .bool false) z z (fun w hst => x_pick_f hc634 z z) ?_
 refine wq_nil ?_
 intro w hst
 replace hst := hst.own_close hq621
 refine tn ?_
 refine wp_iff z ?_
 refine wp_skip (tn ?_)
 replace hst := hst.pull5.pull5.pull5.pull5.pull4.pull5.keep6
 obtain rfl := some_inj hm
 exact ⟨_, _, hx653, (fu 0 (Pt b442 0) z (fu 5 (Pt b437 0) z (fu 6 (.int .i64 t471.1) z (fu 8 (Pt b520 0) z (fu 9 (.int .i64 z615) z z))))), hL654, hst⟩
}
}
 {
 replace hm := bif_f hc622 hm
 refine wq_off ((wanted_eq z z z (cvb hc622)).trans z) z ?_
 refine wq_off ((wanted_eq z z z (cvb hc622)).trans z) z ?_
 refine wq_off ((wanted_eq z z z (cvb hc622)).trans z) z ?_
 refine wq_off ((wanted_eq z z z (cvb hc622)).trans z) z ?_
 refine wq_off ((wanted_eq z z z (cvb hc622)).trans z) z ?_
 refine wq_off ((wanted_eq z z z (cvb hc622)).trans z) z ?_
 refine wq_off ((wanted_eq z z z (cvb hc622)).trans z) z ?_
 refine wq_off ((wanted_eq z z z (cvb hc622)).trans z) z ?_
 refine wq_run (v := .bool false) z z (fun w hst => x_pick_f hc622 z z) ?_
 refine wq_run (v := .bool false) z z (fun w hst => z) ?_
 refine wq_off ((wanted_eq z z z z).trans z) z ?_
 refine wq_off ((wanted_eq z z z z).trans z) z ?_
 refine wq_off ((wanted_eq z z z z).trans z) z ?_
 refine wq_off ((wanted_eq z z z z).trans z) z ?_
 refine wq_off ((wanted_eq z z z z).trans z) z ?_
 refine wq_off ((wanted_eq z z z z).trans z) z ?_
 refine wq_off ((wanted_eq z z z z).trans z) z ?_
 refine wq_off ((wanted_eq z z z z).trans z) z ?_
 refine wq_run (v := .bool false) z z (fun w hst => x_pick_f z z z) ?_
 refine wq_nil ?_
 intro w hst
 replace hst := hst.own_close hq621
 refine tn ?_
 refine wp_iff z ?_
 refine wp_skip (tn ?_)
 replace hst := hst.pull5.pull5.pull5.pull5.pull4.pull5.keep6
 obtain rfl := some_inj hm
 exact ⟨_, _, hx653, (fu 0 (Pt b442 0) z (fu 5 (Pt b437 0) z (fu 6 (.int .i64 t471.1) z (fu 8 (Pt b520 0) z (fu 9 (.int .i64 z615) z z))))), hL654, hst⟩
}
}
 {
 clear hst
 rintro _ w655 ⟨I649, σ650, hm, rfl, hL651, hst⟩
 dsimp only [mvcc_Store_Put_j3] at hm
 replace f2_0 := f2_0.mono (rd_le hL651)
 replace hI0 := hI0.trans hL651
 refine wp_region_St hst 13 [0, 1, 2, 3, 4, 5, 6, 7, 8, 9, 10, 11, 12] [0, 1, 3, 7, 0, 0, 0, 0, 128, 480, 1023, 2047, 4095] [] z (by kernel_rfl) (by kernel_rfl) Tryz.mixed (by kernel_rfl) ?_
 refine wsr (Pt b442 0) 0 z z z (by kernel_rfl) (fun w hst => z) (wsr (Pt b442 0) 1 z z z (by kernel_rfl) (fun w hst => z) (wsr (Pt b442 0) 2 z z z (by kernel_rfl) (fun w hst => x_field z underlying201 z sizeOf199 z) (wsr (v509) 3 z z z (by kernel_rfl) (fun w hst => x_load z isAgg199 (hst.bc0 z)) (wsr (.int .i64 t471.1) 4 z z z (by kernel_rfl) (fun w hst => z) (wsr (v517) 5 z z z (by kernel_rfl) (fun w hst => x_load z isAgg238 (hst.bc5 z)) (wsr (.int .i64 z615) 6 z z z (by kernel_rfl) (fun w hst => z) (wsr (.agg #[U6 a2.Epoch, U6 a2.Index, .bool a2.Del, v459]) 7 z z z (by kernel_rfl) (fun w hst => x_loadN (cs := [U6 a2.Epoch, U6 a2.Index, .bool a2.Del, v459]) z isAgg214 sizeOf214 (hst.bcs3 0 z)) ?_)))))))
 refine ws_e1 8 (by kernel_rfl) ?_
 refine nxe [9, 10, 11, 12] (by kernel_rfl) z z ?_
 clear hst
 intro w hst
 replace hst := hst.pull4
 obtain ⟨I657, hI658, f659, hst⟩ := hst.own_fix
 replace f2_0 := f2_0.mono (rd_le hI658)
 replace hI0 := hI0.trans hI658
 obtain ⟨b660, w661, ew662, eb663, hst⟩ := hst.lits (E := ty_mvcc_Version) (xs := [({ Epoch := a2.Epoch, Index := a2.Index, Del := a2.Del, Val := z460 } : mvcc_Version)]) [[U6 a2.Epoch, U6 a2.Index, .bool a2.Del, v459]] 214 1 z (Reps.cons ⟨_, z, f659, one_of_sliceV (ro_sliceV f659)⟩ Reps.nil)
 refine we_run (v := (.slice (some ⟨b660, 0, none⟩) 1 1)) (w' := w661) z (x_als (by kernel_rfl) ew662 eb663) ?_
 refine ws_next (pend' := [(6, I6 z615), (5, v517), (4, I6 t471.1), (3, v509), (2, Pt b442 0), (1, Pt b442 0), (0, Pt b442 0)]) hst (by kernel_rfl) (pkr z z (fun w hst => z) (pkr z z (fun w hst => x_load z isAgg238 (hst.bc5 z)) (pkr z z (fun w hst => z) (pkr z z (fun w hst => x_load z isAgg199 (hst.bc1 z)) (pkr z z (fun w hst => x_field z underlying201 z sizeOf199 z) (pkr z z (fun w hst => z) (pkr z z (fun w hst => z) pk_nil))))))) ?_
 refine ws_e1 9 (by kernel_rfl) ?_
 refine nxe [10, 11, 12] (by kernel_rfl) z z ?_
 clear hst
 intro w hst
 replace hst := hst.pull2
 obtain ⟨t665, ht666, hm⟩ := bind_some hm
 refine wec call186 [v517, I6 z615, (.slice (some ⟨b660, 0, none⟩) 1 1)] z z ?_
 refine (slices_Insert_mvcc_Version_mvcc_Version_ref hst.to2 ht666).mono ?_
 rintro _ w667 ⟨v670, rfl, hst⟩
 refine ⟨_, z, ?_⟩
 replace hst := hst.of1
 refine ws_next (pend' := [(4, I6 t471.1), (3, v509), (2, Pt b442 0), (1, Pt b442 0), (0, Pt b442 0)]) hst (by kernel_rfl) (pkr z z (fun w hst => z) (pkr z z (fun w hst => x_load z isAgg199 (hst.bc1 z)) (pkr z z (fun w hst => x_field z underlying201 z sizeOf199 z) (pkr z z (fun w hst => z) (pkr z z (fun w hst => z) pk_nil))))) ?_
 refine wsr (.pointer (some (eAddr v509 (t471.1.toNat * 2 + 0)))) 10 z z z (by kernel_rfl) (fun w hst => x_index z z underlying199 sizeOf240 (hst.holesv 2 z) h514 h515) (wsr (.pointer (some (eAddr v509 (t471.1.toNat * 2 + 1)))) 11 z z z (by kernel_rfl) (fun w hst => x_field_e z underlying240 z sizeOf238 z) ?_)
 refine ws_e1 12 (by kernel_rfl) ?_
 refine nxe [] (by kernel_rfl) z z ?_
 clear hst
 intro w hst
 replace hst := hst.pull2
 obtain ⟨w672, hr673, hst⟩ := hst.hole_store (P := prog) (t := 238) hi516 hst.sv1 sizeOf238
 refine we_unit z (x_unit hr673) ?_
 refine ws_next (pend' := []) hst (by kernel_rfl) pk_nil ?_
 refine ws_nil ?_
 intro w hst
 replace hst := hst.pull1
 replace hst := St.nest_close (N := nest_mvcc_row) hst hi516
 replace hst := hst.pull1
 replace hst := at_mvcc_Store_close (pv := Pt b442 0) (x := ({ rows := (z502.rows.set t471.1.toNat ({ rank := x512.rank, l := t665 } : mvcc_row)) } : mvcc_Store)) hst z
 replace hst := objO_some hst
 obtain rfl := some_inj hm
 refine post_end (vs := []) results123 rvs_nil ?_
 exact ⟨_, z, hI0, hst.keep1⟩
}
}
}
}
}

theorem lane_State_finish_ref {w0 w : World} {I : HL} {R : SP} {a0 : (Option lane_State)} {p0 : Value} {a1 : api_Command} {r1_0 : Value} {r1_1 : Value} {r1_2 : Value} {r1_3 : Value} {r1_4 : Value} {r1_5 : Value} {r1_6 : Value} {r1_7 : Value} (f1_0 : Rd tyF64 R I r1_0 a1.Hold.Gets) (f1_1 : Rd tyF2 R I r1_1 a1.Hold.Scans) (f1_2 : Rd tyF64 R I r1_2 a1.Hold.Puts) (f1_3 : Rd (tyInt .u8) R I r1_3 a1.Hold.Data) (f1_4 : Rd ty_api_Write R I r1_4 a1.Writes) (f1_5 : Rd ty_api_Got R I r1_5 a1.R.Gots) (f1_6 : Rd (tySl ty_api_Pair) R I r1_6 a1.R.Scans) (f1_7 : Rd ty_api_Part R I r1_7 a1.Parts) (hst : St w0 w I [objO at_lane_State p0 a0] R) {r : (api_Effect × (Option lane_State))} (hm : lane_State_finish a0 a1 = some r) :
  Calls prog 49 #[p0, .agg #[U1 a1.Kind, U6 a1.ID.Session, U6 a1.ID.Seq, U6 a1.Epoch, U6 a1.Index, I6 a1.E, U6 a1.Hold.ID.Session, U6 a1.Hold.ID.Seq, U6 a1.Hold.Epoch, r1_0, r1_1, r1_2, r1_3, r1_4, I6 a1.R.E, U6 a1.R.Epoch, U6 a1.R.Index, r1_5, r1_6, U6 a1.Shards, r1_7, U6 a1.Rule.ID, I6 a1.Rule.From, I6 a1.Rule.To, F6 a1.Rule.Lo, F6 a1.Rule.Hi, U6 a1.Rule.Authority, I6 a1.Rule.Quota, .bool a1.On]] w fun e w' => ∃ (I' : HL) (q0_0 : Value) (q0_1 : Value), e = .returned (.agg #[U1 r.1.Kind, U6 r.1.ID.Session, U6 r.1.ID.Seq, I6 r.1.R.E, U6 r.1.R.Epoch, U6 r.1.R.Index, q0_0, q0_1]) ∧ I.le I' ∧ St w0 w' I' [ownS ty_api_Got q0_0 r.1.R.Gots, ownS (tySl ty_api_Pair) q0_1 r.1.R.Scans, objO at_lane_State p0 r.2] R := by {
 rcases a0 with _ | o0
 {
 obtain ⟨rfl, hst'⟩ := objO_none hst
 clear hst
 have hst := hst'
 clear hst'
 dsimp only [lane_State_finish] at hm
 refine calls_start (args := [.pointer none, .agg #[U1 a1.Kind, U6 a1.ID.Session, U6 a1.ID.Seq, U6 a1.Epoch, U6 a1.Index, I6 a1.E, U6 a1.Hold.ID.Session, U6 a1.Hold.ID.Seq, U6 a1.Hold.Epoch, r1_0, r1_1, r1_2, r1_3, r1_4, I6 a1.R.E, U6 a1.R.Epoch, U6 a1.R.Index, r1_5, r1_6, U6 a1.Shards, r1_7, U6 a1.Rule.ID, I6 a1.Rule.From, I6 a1.Rule.To, F6 a1.Rule.Lo, F6 a1.Rule.Hi, U6 a1.Rule.Authority, I6 a1.Rule.Quota, .bool a1.On]]) func49 z ntmps49 (Nat.le_of_ble_eq_true z) ?_
 have hI0 := HL.le.refl I
 refine wp_seq (wrl ?_)
 obtain ⟨b326, w327, ew328, eb329, hst⟩ := hst.box [U1 a1.Kind, U6 a1.ID.Session, U6 a1.ID.Seq, U6 a1.Epoch, U6 a1.Index, I6 a1.E, U6 a1.Hold.ID.Session, U6 a1.Hold.ID.Seq, U6 a1.Hold.Epoch, r1_0, r1_1, r1_2, r1_3, r1_4, I6 a1.R.E, U6 a1.R.Epoch, U6 a1.R.Index, r1_5, r1_6, U6 a1.Shards, r1_7, U6 a1.Rule.ID, I6 a1.Rule.From, I6 a1.Rule.To, F6 a1.Rule.Lo, F6 a1.Rule.Hi, U6 a1.Rule.Authority, I6 a1.Rule.Quota, .bool a1.On] 49
 refine wl_run (v := Pt b326 0) (w' := w327) z z (x_al (by kernel_rfl) ew328 eb329) ?_
 obtain ⟨b333, w334, ew335, eb336, hst⟩ := hst.box [Zb, Zu, Zu, Zi, Zu, Zu, Zs, Zs] 35
 refine wl_run (v := Pt b333 0) (w' := w334) z z (x_al (by kernel_rfl) ew335 eb336) ?_
 refine wl_nil (tn (wp_seq (wp_seq ?_)))
 refine wp_region_St hst 12 [0, 1, 2, 3, 4, 5, 6, 7, 8, 9, 10, 11] [0, 1, 3, 7, 0, 16, 63, 127, 255, 511, 1023, 2047] [] z (by kernel_rfl) (by kernel_rfl) Tryz.mixed (by kernel_rfl) ?_
 refine wsr (.pointer none) 0 z z z (by kernel_rfl) (fun w hst => z) ?_
 cases hm
}
 {
 replace hst := objO_get hst
 dsimp only [lane_State_finish] at hm
 refine calls_start (args := [p0, .agg #[U1 a1.Kind, U6 a1.ID.Session, U6 a1.ID.Seq, U6 a1.Epoch, U6 a1.Index, I6 a1.E, U6 a1.Hold.ID.Session, U6 a1.Hold.ID.Seq, U6 a1.Hold.Epoch, r1_0, r1_1, r1_2, r1_3, r1_4, I6 a1.R.E, U6 a1.R.Epoch, U6 a1.R.Index, r1_5, r1_6, U6 a1.Shards, r1_7, U6 a1.Rule.ID, I6 a1.Rule.From, I6 a1.Rule.To, F6 a1.Rule.Lo, F6 a1.Rule.Hi, U6 a1.Rule.Authority, I6 a1.Rule.Quota, .bool a1.On]]) func49 z ntmps49 (Nat.le_of_ble_eq_true z) ?_
 have hI0 := HL.le.refl I
 refine wp_seq (wrl ?_)
 obtain ⟨b338, w339, ew340, eb341, hst⟩ := hst.box [U1 a1.Kind, U6 a1.ID.Session, U6 a1.ID.Seq, U6 a1.Epoch, U6 a1.Index, I6 a1.E, U6 a1.Hold.ID.Session, U6 a1.Hold.ID.Seq, U6 a1.Hold.Epoch, r1_0, r1_1, r1_2, r1_3, r1_4, I6 a1.R.E, U6 a1.R.Epoch, U6 a1.R.Index, r1_5, r1_6, U6 a1.Shards, r1_7, U6 a1.Rule.ID, I6 a1.Rule.From, I6 a1.Rule.To, F6 a1.Rule.Lo, F6 a1.Rule.Hi, U6 a1.Rule.Authority, I6 a1.Rule.Quota, .bool a1.On] 49
 refine wl_run (v := Pt b338 0) (w' := w339) z z (x_al (by kernel_rfl) ew340 eb341) ?_
 obtain ⟨b345, w346, ew347, eb348, hst⟩ := hst.box [Zb, Zu, Zu, Zi, Zu, Zu, Zs, Zs] 35
 refine wl_run (v := Pt b345 0) (w' := w346) z z (x_al (by kernel_rfl) ew347 eb348) ?_
 refine wl_nil (tn (wp_seq (wp_seq ?_)))
 replace hst := hst.pull2
 obtain ⟨b350, v351, v353, v355, v357, v359, v361, v363, rfl, hst'⟩ := at_lane_State_open hst
 clear hst
 have hst := hst'
 clear hst'
 refine wp_region_St hst 12 [0, 1, 2, 3, 4, 5, 6, 7, 8, 9, 10, 11] [0, 1, 3, 7, 0, 16, 63, 127, 255, 511, 1023, 2047] [] z (by kernel_rfl) (by kernel_rfl) Tryz.mixed (by kernel_rfl) ?_
 refine wsr (Pt b350 0) 0 z z z (by kernel_rfl) (fun w hst => z) (wsr (Pt b350 0) 1 z z z (by kernel_rfl) (fun w hst => z) (wsr (Pt b350 3) 2 z z z (by kernel_rfl) (fun w hst => x_field z underlying111 z sizeOf103 z) (wsr (v353) 3 z z z (by kernel_rfl) (fun w hst => x_load z isAgg103 (hst.bc0 z)) (wsr (Pt b338 1) 4 z z z (by kernel_rfl) (fun w hst => x_field z underlying49 z sizeOf28 z) (wsr (.agg #[U6 a1.ID.Session, U6 a1.ID.Seq]) 5 z z z (by kernel_rfl) (fun w hst => x_loadN (cs := [U6 a1.ID.Session, U6 a1.ID.Seq]) z isAgg28 sizeOf28 (hst.bcs9 1 z)) ?_)))))
 refine ws_e1 6 (by kernel_rfl) ?_
 refine nxe [7, 8, 9, 10, 11] (by kernel_rfl) z z ?_
 clear hst
 intro w hst
 replace hst := hst.pull2
 obtain ⟨t365, ht366, hm⟩ := bind_some hm
 refine wec call122 [v353, .agg #[U6 a1.ID.Session, U6 a1.ID.Seq]] z z ?_
 refine (locks_Table_Drop_ref hst.to1 ht366).mono ?_
 rintro _ w367 ⟨rfl, hst⟩
 refine ⟨_, z, ?_⟩
 replace hst := hst.of1
 refine ws_next (pend' := []) hst (by kernel_rfl) pk_nil ?_
 refine wsr (.bool t365.1) 7 z z z (by kernel_rfl) (fun w hst => z) ?_
 refine bsplit t365.1 (fun hc370 => ?_) (fun hc370 => ?_)
 {
 replace hm := bif_t hc370 hm
 refine ws_q (v := Pt b338 5) 8 [9, 10, 11] (by kernel_rfl) z z (yi_run ((wanted_eq z z z (cvb hc370)).trans z) (fun w hst => x_field z underlying49 z sizeOf29 z)) (ws_q (v := .int .i64 a1.E) 9 [10, 11] (by kernel_rfl) z z (yi_run ((wanted_eq z z z (cvb hc370)).trans z) (fun w hst => x_load z isAgg29 (hst.bc9 z))) (ws_q (v := .bool (a1.E == (0:Int))) 10 [11] (by kernel_rfl) z z (yi_run ((wanted_eq z z z (cvb hc370)).trans z) (fun w hst => z)) (wsr (.bool (a1.E == (0:Int))) 11 z z z (by kernel_rfl) (fun w hst => x_pick_t hc370 z z) ?_)))
 refine ws_nil ?_
 intro w hst
 refine tn ?_
 refine bsplit (a1.E == (0:Int)) (fun hc371 => ?_) (fun hc371 => ?_)
 {
 replace hm := bif_t hc371 hm
 refine wp_ift (cvb hc371) ?_
 refine wp_seq (wrl (wv (Pt b338 13) z z (x_field z underlying49 z sizeOf42 z) (wv (r1_4) z z (x_load z isAgg42 (hst.bc9 z)) (wv (.int .i64 ((a1.Writes).length : Int)) z z (x_len z underlying42 (rd_sliceV f1_4)) (wv (.int .i64 (0:Int)) z z z (wl_nil (tn (wp_block ?_))))))))
 replace hst := hst.pull7.pull7.pull7.pull7.pull7.pull5.pull7.pull7
 replace hst := at_lane_State_close (pv := Pt b350 0) (x := ({ wide := o0.wide, epoch := o0.epoch, store := o0.store, locks := t365.2, last := o0.last, book := o0.book, open_ := o0.open_, out := o0.out, used := o0.used } : lane_State)) hst z
 obtain ⟨n462, hm⟩ := loopO_some hm
 refine wp_loop_n (fun n a w => ∃ (I460 : HL) (z458 : lane_State) (z459 : Int) (σ461 : Nat → Value), loopN (lane_State_finish_l0 a1) n (z458, z459) = some r ∧ a = Fr 46 (upd (upd (upd (upd (upd (upd σ461 0 (Pt b350 0)) 3 (Pt b338 0)) 4 (Pt b345 0)) 20 (r1_4)) 21 (.int .i64 ((a1.Writes).length : Int))) 22 (.int .i64 z459)) ∧ I.le I460 ∧ St w0 w I460 [at_lane_State (Pt b350 0) z458, cells b345 [Zb, Zu, Zu, Zi, Zu, Zu, Zs, Zs], cells b338 [U1 a1.Kind, U6 a1.ID.Session, U6 a1.ID.Seq, U6 a1.Epoch, U6 a1.Index, I6 a1.E, U6 a1.Hold.ID.Session, U6 a1.Hold.ID.Seq, U6 a1.Hold.Epoch, r1_0, r1_1, r1_2, r1_3, r1_4, I6 a1.R.E, U6 a1.R.Epoch, U6 a1.R.Index, r1_5, r1_6, U6 a1.Shards, r1_7, U6 a1.Rule.ID, I6 a1.Rule.From, I6 a1.Rule.To, F6 a1.Rule.Lo, F6 a1.Rule.Hi, U6 a1.Rule.Authority, I6 a1.Rule.Quota, .bool a1.On]] R) n462 ⟨_, ({ wide := o0.wide, epoch := o0.epoch, store := o0.store, locks := t365.2, last := o0.last, book := o0.book, open_ := o0.open_, out := o0.out, used := o0.used } : lane_State), (0:Int), _, hm, (fu 0 (Pt b350 0) z (fu 3 (Pt b338 0) z (fu 4 (Pt b345 0) z (fu 20 r1_4 z (fu 21 (.int .i64 ((a1.Writes).length : Int)) z (fu 22 (.int .i64 (0:Int)) z z)))))), (HL.le.refl _), hst⟩ ?_
 rintro n468 _ w463 ⟨I460, z458, z459, σ461, hm, rfl, hL464, hst⟩
 obtain ⟨n465, y466, rfl, hm, hx467⟩ := loopN_some hm
 dsimp only [lane_State_finish_l0] at hm
 replace f1_0 := f1_0.mono (rd_le hL464)
 replace f1_1 := f1_1.mono (rd_le hL464)
 replace f1_2 := f1_2.mono (rd_le hL464)
 replace f1_3 := f1_3.mono (rd_le hL464)
 replace f1_4 := f1_4.mono (rd_le hL464)
 replace f1_5 := f1_5.mono (rd_le hL464)
 replace f1_6 := f1_6.mono (rd_le hL464)
 replace f1_7 := f1_7.mono (rd_le hL464)
 replace hI0 := hI0.trans hL464
 refine wp_seq (wrl (wv (.bool (decide (z459 < ((a1.Writes).length : Int)))) z z z (wl_nil (tn (wp_seq ?_)))))
 refine bsplit (decide (z459 < ((a1.Writes).length : Int))) (fun hc469 => ?_) (fun hc469 => ?_)
 {
 replace hm := bif_t hc469 hm
 refine wp_ift (cvb hc469) ?_
 refine wp_skip (tn (wp_seq (wp_block (wp_seq (wrl ?_)))))
 obtain ⟨x470, hx471, hm⟩ := bind_some hm
 obtain ⟨h472, h473, hi474⟩ := geto_some hx471
 refine wv (.pointer (some (eAddr r1_4 (z459.toNat * 3 + 0)))) z z (x_index z z underlying42 sizeOf41 (rd_sliceV f1_4) h472 h473) ?_
 obtain ⟨cs475, hr476, hc477⟩ := Rd.getF f1_4 hi474
 obtain ⟨v478, rfl, f479, -⟩ := hr476
 refine wv (.agg #[F6 x470.At, .bool x470.Del, v478]) z z (x_loadN (cs := [F6 x470.At, .bool x470.Del, v478]) z isAgg41 sizeOf41 (eCells (o := 0) (hc477 (HL.le.refl _) hst) z)) ?_
 obtain ⟨b482, w483, ew484, eb485, hst⟩ := hst.box [Zf, .bool false, Zs] 41
 refine wl_run (v := Pt b482 0) (w' := w483) z z (x_al (by kernel_rfl) ew484 eb485) ?_
 obtain ⟨w487, hr488, hst⟩ := hst.bx [F6 x470.At, .bool x470.Del, v478] sizeOf41 z (oC z (oC z (oC (one_of_sliceV (rd_sliceV f479)) oN))) (by kernel_rfl)
 refine wl_unit z z (x_unit hr488) ?_
 refine wl_nil (tn ?_)
 replace hst := hst.pull1
 obtain ⟨b489, v490, v492, v494, v496, v498, v500, v502, e504, hst'⟩ := at_lane_State_open hst
 clear hst
 have e504 := ptr_inj e504
 subst e504
 have hst := hst'
 clear hst'
 refine wp_region_St hst 16 [0, 1, 2, 3, 4, 5, 6, 7, 8, 9, 10, 11, 12, 13, 14, 15] [0, 1, 3, 7, 0, 16, 0, 64, 0, 256, 0, 1024, 0, 4096, 16320, 32767] [] z (by kernel_rfl) (by kernel_rfl) Tryz.mixed (by kernel_rfl) ?_
 refine wsr (Pt b350 0) 0 z z z (by kernel_rfl) (fun w hst => z) (wsr (Pt b350 0) 1 z z z (by kernel_rfl) (fun w hst => z) (wsr (Pt b350 2) 2 z z z (by kernel_rfl) (fun w hst => x_field z underlying111 z sizeOf101 z) (wsr (v490) 3 z z z (by kernel_rfl) (fun w hst => x_load z isAgg101 (hst.bc0 z)) (wsr (Pt b482 0) 4 z z z (by kernel_rfl) (fun w hst => x_field z underlying41 z sizeOf37 z) (wsr (.float .f64 x470.At) 5 z z z (by kernel_rfl) (fun w hst => x_load z isAgg37 (hst.bc8 z)) (wsr (Pt b338 3) 6 z z z (by kernel_rfl) (fun w hst => x_field z underlying49 z sizeOf26 z) (wsr (.int .u64 a1.Epoch) 7 z z z (by kernel_rfl) (fun w hst => x_load z isAgg26 (hst.bc10 z)) (wsr (Pt b338 4) 8 z z z (by kernel_rfl) (fun w hst => x_field z underlying49 z sizeOf26 z) (wsr (.int .u64 a1.Index) 9 z z z (by kernel_rfl) (fun w hst => x_load z isAgg26 (hst.bc10 z)) (wsr (Pt b482 1) 10 z z z (by kernel_rfl) (fun w hst => x_field z underlying41 z sizeOf4 z) (wsr (.bool x470.Del) 11 z z z (by kernel_rfl) (fun w hst => x_load z isAgg4 (hst.bc8 z)) (wsr (Pt b482 2) 12 z z z (by kernel_rfl) (fun w hst => x_field z underlying41 z sizeOf22 z) ?_))))))))))))
 refine wsr (v478) 13 rfl rfl rfl (by kernel_rfl) (fun w hst => x_load rfl isAgg22 (hst.bc8 rfl)) (wsr (.agg #[U6 a1.Epoch, U6 a1.Index, .bool x470.Del, v478]) 14 rfl rfl rfl (by kernel_rfl) (fun w hst => by obtain ⟨_, _, hv_, _⟩ := (rd_sliceV f479); rw [hv_]; kernel_rfl) ?_)
 refine ws_e1 15 (by kernel_rfl) ?_
 refine nxe [] (by kernel_rfl) z z ?_
 clear hst
 intro w hst
 replace hst := hst.pull1
 obtain ⟨t506, ht507, hm⟩ := bind_some hm
 refine wec call123 [v490, F6 x470.At, .agg #[U6 a1.Epoch, U6 a1.Index, .bool x470.Del, v478]] z z ?_
 refine (mvcc_Store_Put_ref (a2 := ({ Epoch := a1.Epoch, Index := a1.Index, Del := x470.Del, Val := x470.Val } : mvcc_Version)) (f479.mono (rd_weak _)) hst.to1 ht507).mono ?_
 rintro _ w508 ⟨I509, rfl, hI510, hst⟩
 refine ⟨_, z, ?_⟩
 replace hst := hst.of1
 replace f1_0 := f1_0.mono (rd_le hI510)
 replace f1_1 := f1_1.mono (rd_le hI510)
 replace f1_2 := f1_2.mono (rd_le hI510)
 replace f1_3 := f1_3.mono (rd_le hI510)
 replace f1_4 := f1_4.mono (rd_le hI510)
 replace f1_5 := f1_5.mono (rd_le hI510)
 replace f1_6 := f1_6.mono (rd_le hI510)
 replace f1_7 := f1_7.mono (rd_le hI510)
 replace f479 := f479.mono (rd_le hI510)
 replace hI0 := hI0.trans hI510
 replace hL464 := hL464.trans hI510
 refine ws_next (pend' := []) hst (by kernel_rfl) pk_nil ?_
 refine ws_nil ?_
 intro w hst
 refine blk_n (tn (wrl ?_))
 refine wv (.int .i64 (i64.wrap (z459 + (1:Int)))) z z z (wv (.int .i64 (i64.wrap (z459 + (1:Int)))) z z z (wl_nil (tn ?_)))
 replace hst := hst.pull7.pull7.pull7.pull7.pull7.pull7.pull6.pull7
 replace hst := at_lane_State_close (pv := Pt b350 0) (x := ({ wide := z458.wide, epoch := z458.epoch, store := t506, locks := z458.locks, last := z458.last, book := z458.book, open_ := z458.open_, out := z458.out, used := z458.used } : lane_State)) hst z
 replace hst := hst.pull3.pull3.pull2.keep3
 obtain rfl := some_inj hm
 exact ⟨_, Nat.lt_succ_self _, _, ({ wide := z458.wide, epoch := z458.epoch, store := t506, locks := z458.locks, last := z458.last, book := z458.book, open_ := z458.open_, out := z458.out, used := z458.used } : lane_State), (i64.wrap (z459 + (1:Int))), _, hx467, (fu 0 (Pt b350 0) z (fu 3 (Pt b338 0) z (fu 4 (Pt b345 0) z (fu 20 r1_4 z (fu 21 (.int .i64 ((a1.Writes).length : Int)) z (fu 22 (.int .i64 (i64.wrap (z459 + (1:Int)))) z z)))))), hL464, hst⟩
}
 {
 replace hm := bif_f hc469 hm
 refine wp_iff (cvb hc469) ?_
 refine wp_exit (then_x (then_x ?_))
 replace hm := inr_up hm hx467
 refine blk_x (tn (wp_seq (wrl ?_)))
 refine wv (Pt b338 1) z z (x_field z underlying49 z sizeOf28 z) (wv (.agg #[U6 a1.ID.Session, U6 a1.ID.Seq]) z z (x_loadN (cs := [U6 a1.ID.Session, U6 a1.ID.Seq]) z isAgg28 sizeOf28 (hst.bcs2 1 z)) (wv (.agg #[U1 (3:Int), U6 a1.ID.Session, U6 a1.ID.Seq, Zi, Zu, Zu, Zs, Zs]) z z (by kernel_rfl) ?_))
 replace hst := hst.pull1
 obtain ⟨w513, hr514, hst⟩ := hst.bx [U1 (3:Int), U6 a1.ID.Session, U6 a1.ID.Seq, Zi, Zu, Zu, Zs, Zs] sizeOf35 z (oC z (oC z (oC z (oC z (oC z (oC z (oC z (oC z oN)))))))) (by kernel_rfl)
 refine wl_unit z z (x_unit hr514) ?_
 refine wl_nil (tn (wp_ret ?_))
 replace hst := hst.own_nil ty_api_Got
 replace hst := hst.own_nil (tySl ty_api_Pair)
 replace hst := hst.pull3
 replace hst := objO_some hst
 obtain rfl := some_inj hm
 refine post_ret (vs := [.agg #[U1 (3:Int), U6 a1.ID.Session, U6 a1.ID.Seq, Zi, Zu, Zu, Zs, Zs]]) results49 (rvs_cons (rv_cell (cs := [U1 (3:Int), U6 a1.ID.Session, U6 a1.ID.Seq, Zi, Zu, Zu, Zs, Zs]) z isAgg35 sizeOf35 (hst.bcs3 0 z)) rvs_nil) ?_
 replace hst := hst.pull1.pull2
 exact ⟨_, Zs, Zs, z, hI0, hst.keep3⟩
}
}
 {
 replace hm := bif_f hc371 hm
 refine wp_iff (cvb hc371) ?_
 refine wp_skip (tn (wp_seq (wrl ?_)))
 refine wv (Pt b338 1) z z (x_field z underlying49 z sizeOf28 z) (wv (.agg #[U6 a1.ID.Session, U6 a1.ID.Seq]) z z (x_loadN (cs := [U6 a1.ID.Session, U6 a1.ID.Seq]) z isAgg28 sizeOf28 (hst.bcs9 1 z)) (wv (.agg #[U1 (3:Int), U6 a1.ID.Session, U6 a1.ID.Seq, Zi, Zu, Zu, Zs, Zs]) z z (by kernel_rfl) ?_))
 replace hst := hst.pull8
 obtain ⟨w517, hr518, hst⟩ := hst.bx [U1 (3:Int), U6 a1.ID.Session, U6 a1.ID.Seq, Zi, Zu, Zu, Zs, Zs] sizeOf35 z (oC z (oC z (oC z (oC z (oC z (oC z (oC z (oC z oN)))))))) (by kernel_rfl)
 refine wl_unit z z (x_unit hr518) ?_
 refine wl_nil (tn (wp_ret ?_))
 replace hst := hst.own_nil ty_api_Got
 replace hst := hst.own_nil (tySl ty_api_Pair)
 replace hst := hst.pull10.pull10.pull10.pull10.pull10.pull8.pull10.pull10
 replace hst := at_lane_State_close (pv := Pt b350 0) (x := ({ wide := o0.wide, epoch := o0.epoch, store := o0.store, locks := t365.2, last := o0.last, book := o0.book, open_ := o0.open_, out := o0.out, used := o0.used } : lane_State)) hst z
 replace hst := objO_some hst
 obtain rfl := some_inj hm
 refine post_ret (vs := [.agg #[U1 (3:Int), U6 a1.ID.Session, U6 a1.ID.Seq, Zi, Zu, Zu, Zs, Zs]]) results49 (rvs_cons (rv_cell (cs := [U1 (3:Int), U6 a1.ID.Session, U6 a1.ID.Seq, Zi, Zu, Zu, Zs, Zs]) z isAgg35 sizeOf35 (hst.bcs3 0 z)) rvs_nil) ?_
 replace hst := hst.pull1.pull2
 exact ⟨_, Zs, Zs, z, hI0, hst.keep3⟩
}
}
 {
 replace hm := bif_f hc370 hm
 refine ws_q (v := undef) 8 [9, 10, 11] (by kernel_rfl) z z (yi_off ((wanted_eq z z z (cvb hc370)).trans z)) (ws_q (v := undef) 9 [10, 11] (by kernel_rfl) z z (yi_off ((wanted_eq z z z (cvb hc370)).trans z)) (ws_q (v := undef) 10 [11] (by kernel_rfl) z z (yi_off ((wanted_eq z z z (cvb hc370)).trans z)) (wsr (.bool false) 11 z z z (by kernel_rfl) (fun w hst => x_pick_f hc370 z z) ?_)))
 refine ws_nil ?_
 intro w hst
 refine tn ?_
 refine wp_iff z ?_
 refine wp_skip (tn (wp_seq (wrl ?_)))
 refine wv (Pt b338 1) z z (x_field z underlying49 z sizeOf28 z) (wv (.agg #[U6 a1.ID.Session, U6 a1.ID.Seq]) z z (x_loadN (cs := [U6 a1.ID.Session, U6 a1.ID.Seq]) z isAgg28 sizeOf28 (hst.bcs9 1 z)) (wv (.agg #[U1 (3:Int), U6 a1.ID.Session, U6 a1.ID.Seq, Zi, Zu, Zu, Zs, Zs]) z z (by kernel_rfl) ?_))
 replace hst := hst.pull8
 obtain ⟨w521, hr522, hst⟩ := hst.bx [U1 (3:Int), U6 a1.ID.Session, U6 a1.ID.Seq, Zi, Zu, Zu, Zs, Zs] sizeOf35 z (oC z (oC z (oC z (oC z (oC z (oC z (oC z (oC z oN)))))))) (by kernel_rfl)
 refine wl_unit z z (x_unit hr522) ?_
 refine wl_nil (tn (wp_ret ?_))
 replace hst := hst.own_nil ty_api_Got
 replace hst := hst.own_nil (tySl ty_api_Pair)
 replace hst := hst.pull10.pull10.pull10.pull10.pull10.pull8.pull10.pull10
 replace hst := at_lane_State_close (pv := Pt b350 0) (x := ({ wide := o0.wide, epoch := o0.epoch, store := o0.store, locks := t365.2, last := o0.last, book := o0.book, open_ := o0.open_, out := o0.out, used := o0.used } : lane_State)) hst z
 replace hst := objO_some hst
 obtain rfl := some_inj hm
 refine post_ret (vs := [.agg #[U1 (3:Int), U6 a1.ID.Session, U6 a1.ID.Seq, Zi, Zu, Zu, Zs, Zs]]) results49 (rvs_cons (rv_cell (cs := [U1 (3:Int), U6 a1.ID.Session, U6 a1.ID.Seq, Zi, Zu, Zu, Zs, Zs]) z isAgg35 sizeOf35 (hst.bcs3 0 z)) rvs_nil) ?_
 replace hst := hst.pull1.pull2
 exact ⟨_, Zs, Zs, z, hI0, hst.keep3⟩
}
}
}

theorem session_Table_find_1_ref {w0 w : World} {I : HL} {R : SP} {a0 : session_row} {r0_0 : Value} {r0_1 : Value} {a1 : Int} (f0_0 : Rd ty_api_Got R I r0_0 a0.r.Gots) (f0_1 : Rd (tySl ty_api_Pair) R I r0_1 a0.r.Scans) (hst : St w0 w I [] R) {r : (Int)} (hm : session_Table_find_1 a0 a1 = some r) :
  Calls prog 201 #[.agg #[U6 a0.session, U6 a0.seq, I6 a0.r.E, U6 a0.r.Epoch, U6 a0.r.Index, r0_0, r0_1], U6 a1] w fun e w' => e = .returned (.int .i64 r) ∧ St w0 w' I [] R := by {
 unfold session_Table_find_1 at hm
 refine calls_start (args := [.agg #[U6 a0.session, U6 a0.seq, I6 a0.r.E, U6 a0.r.Epoch, U6 a0.r.Index, r0_0, r0_1], U6 a1]) func201 z ntmps201 (Nat.le_of_ble_eq_true z) ?_
 refine wp_seq (wrl ?_)
 obtain ⟨b221, w222, ew223, eb224, hst⟩ := hst.box [U6 a0.session, U6 a0.seq, I6 a0.r.E, U6 a0.r.Epoch, U6 a0.r.Index, r0_0, r0_1] 242
 refine wl_run (v := Pt b221 0) (w' := w222) z z (x_al (by kernel_rfl) ew223 eb224) ?_
 refine wv (.int .i64 (0:Int)) z z z (wl_nil (tn (wp_seq (wrl (wv (Pt b221 0) z z (x_field z underlying242 z sizeOf26 z) (wv (.int .u64 a0.session) z z (x_load z isAgg26 (hst.bc0 z)) (wv (.int .u64 a1) z z z ?_)))))))
 obtain ⟨t226, ht227, hm⟩ := bind_some hm
 refine wc call131 [U6 a0.session, U6 a1] z z z ?_
 refine (cmp_Compare_uint64_ref hst.to0 ht227).mono ?_
 rintro _ w228 ⟨rfl, hst⟩
 refine ⟨_, z, ?_⟩
 replace hst := hst.of0
 refine wv (.int .i64 t226) z z z (wl_nil (tn (wp_ret ?_)))
 obtain rfl := some_inj hm
 refine post_ret (vs := [I6 t226]) results201 (rvs_cons (rv_tmp z) rvs_nil) ?_
 exact ⟨z, hst.keep0⟩
}

theorem session_Table_find_ref {w0 w : World} {I : HL} {R : SP} {a0 : (Option session_Table)} {p0 : Value} {a1 : Int}  (hst : St w0 w I [objO at_session_Table p0 a0] R) {r : (Int × Bool)} (hm : session_Table_find a0 a1 = some r) :
  Calls prog 148 #[p0, U6 a1] w fun e w' => e = .returned (.tuple #[I6 r.1, .bool r.2]) ∧ St w0 w' I [objO at_session_Table p0 a0] R := by {
 rcases a0 with _ | o0
 {
 obtain ⟨rfl, hst'⟩ := objO_none hst
 clear hst
 have hst := hst'
 clear hst'
 dsimp only [session_Table_find] at hm
 refine calls_start (args := [.pointer none, U6 a1]) func148 z ntmps148 (Nat.le_of_ble_eq_true z) ?_
 refine wp_seq (wrl (wv (.int .i64 (0:Int)) z z z (wv (.bool false) z z z (wl_nil (tn (wp_seq (wp_seq (wrl (wv (.pointer none) z z z (wv (.bool true) z z (by kernel_rfl) (wl_nil (tn ?_))))))))))))
 refine wp_ift z ?_
 refine wp_seq (wrl (wv (.int .i64 (0:Int)) z z z (wv (.bool false) z z z (wl_nil (tn (wp_ret (then_r ?_)))))))
 replace hst := hst.objO_nil at_session_Table
 obtain rfl := some_inj hm
 refine post_ret (vs := [Zi, .bool false]) results148 (rvs_cons (rv_tmp z) (rvs_cons (rv_tmp z) rvs_nil)) ?_
 exact ⟨z, hst.keep1⟩
}
 {
 replace hst := objO_get hst
 dsimp only [session_Table_find] at hm
 refine calls_start (args := [p0, U6 a1]) func148 z ntmps148 (Nat.le_of_ble_eq_true z) ?_
 refine wp_seq (wrl (wv (.int .i64 (0:Int)) z z z (wv (.bool false) z z z (wl_nil (tn (wp_seq (wp_seq (wrl (wv (p0) z z z ?_)))))))))
 obtain ⟨b300, v301, rfl, hst'⟩ := at_session_Table_open hst
 clear hst
 have hst := hst'
 clear hst'
 refine wv (.bool false) z z (by kernel_rfl) (wl_nil (tn ?_))
 refine wp_iff z ?_
 refine wp_skip (tn (wp_seq (wrl ?_)))
 refine wv (Pt b300 0) z z z (wv (Pt b300 0) z z z (wv (Pt b300 0) z z (x_field z underlying206 z sizeOf204 z) (wv (v301) z z (x_load z isAgg204 (hst.bc0 z)) (wv (.int .u64 a1) z z z ?_))))
 obtain ⟨y407, hq408, hm⟩ := bind_some hm
 refine wl_call z z (x_callv call200 (caps := []) z (vs := [v301, U6 a1, .func (.func 201) #[] #[]]) z) ?_
 refine Calls.mono (show Calls prog 200 #[v301, U6 a1, .func (.func 201) #[] #[]] _ (fun e w' => ∃ (z404 : Int) (z405 : Bool), (z404, z405) = y407 ∧ e = .returned (.tuple #[I6 z404, .bool z405]) ∧ St w0 w' I [cells b300 [v301], ownS ty_session_row v301 o0.l] R) from ?_) ?_
 {
 clear hm; have hm := hq408
 refine calls_start (args := [v301, U6 a1, .func (.func 201) #[] #[]]) func200 z ntmps200 (Nat.le_of_ble_eq_true z) ?_
 refine wp_seq (wrl (wv (.int .i64 (0:Int)) z z z (wv (.bool false) z z z (wl_nil (tn (wp_seq (wrl (wv (v301) z z z (wv (.int .i64 ((o0.l).length : Int)) z z (x_len z underlying204 hst.sv1) (wv (.int .i64 ((o0.l).length : Int)) z z z (wl_nil (tn (wp_seq (wrl (wv (.int .i64 ((o0.l).length : Int)) z z z (wv (.int .i64 (0:Int)) z z z (wv (.int .i64 ((o0.l).length : Int)) z z z (wl_nil (tn ?_)))))))))))))))))))
 obtain ⟨y381, hm, hx382⟩ := bind_some hm
 refine wp_cut (fun a w => ∃ (z378 : Int) (σ379 : Nat → Value), (session_Table_find_j0 o0 a1) z378 = some y407 ∧ a = Fr 49 (upd (upd (upd (upd (upd σ379 0 (v301)) 1 (.int .u64 a1)) 2 (.func (.func 201) #[] #[])) 8 (.int .i64 ((o0.l).length : Int))) 9 (.int .i64 z378)) ∧ St w0 w I [ownS ty_session_row v301 o0.l, cells b300 [v301]] R) ?_ ?_
 {
 refine wp_block ?_
 obtain ⟨n350, hm⟩ := loopO_some hm
 refine wp_loop_n (fun n a w => ∃ (z347 : Int) (z348 : Int) (σ349 : Nat → Value), loopN (session_Table_find_l1 o0 a1) n (z347, z348) = some y381 ∧ a = Fr 49 (upd (upd (upd (upd (upd (upd σ349 0 (v301)) 1 (.int .u64 a1)) 2 (.func (.func 201) #[] #[])) 8 (.int .i64 ((o0.l).length : Int))) 9 (.int .i64 z348)) 10 (.int .i64 z347)) ∧ St w0 w I [cells b300 [v301], ownS ty_session_row v301 o0.l] R) n350 ⟨((o0.l).length : Int), (0:Int), _, hm, (fu 0 v301 z (fu 1 (.int .u64 a1) z (fu 2 (.func (.func 201) #[] #[]) z (fu 8 (.int .i64 ((o0.l).length : Int)) z (fu 9 (.int .i64 (0:Int)) z (fu 10 (.int .i64 ((o0.l).length : Int)) z z)))))), hst⟩ ?_
 rintro n356 _ w351 ⟨z347, z348, σ349, hm, rfl, hst⟩
 obtain ⟨n353, y354, rfl, hm, hx355⟩ := loopN_some hm
 dsimp only [session_Table_find_l1] at hm
 refine wp_seq (wp_seq (wrl (wv (.int .i64 z348) z z z (wv (.int .i64 z347) z z z (wv (.bool (decide (z348 < z347))) z z z (wl_nil (tn ?_)))))))
 refine bsplit (decide (z348 < z347)) (fun hc357 => ?_) (fun hc357 => ?_)
 {
 replace hm := bif_t hc357 hm
 refine wp_ift (cvb hc357) ?_
 refine wp_skip (tn (wp_block (wp_seq (wrl ?_))))
 refine wv (.int .i64 z348) z z z (wv (.int .i64 z347) z z z (wv (.int .i64 (i64.wrap (z348 + z347))) z z z (wv (.int .u64 (u64.wrap (i64.wrap (z348 + z347)))) z z (by kernel_rfl) (wv (.int .u64 (iShr .u64 (u64.wrap (i64.wrap (z348 + z347))) (1:Int))) z z (x_shr (by decide) z z) (wv (.int .i64 (i64.wrap (iShr .u64 (u64.wrap (i64.wrap (z348 + z347))) (1:Int)))) z z (by kernel_rfl) (wv (.int .i64 (i64.wrap (iShr .u64 (u64.wrap (i64.wrap (z348 + z347))) (1:Int)))) z z z (wl_nil (tn (wp_seq (wrl (wv (.func (.func 201) #[] #[]) z z z (wv (v301) z z z (wv (.int .i64 (i64.wrap (iShr .u64 (u64.wrap (i64.wrap (z348 + z347))) (1:Int)))) z z z ?_)))))))))))))
 obtain ⟨x358, hx359, hm⟩ := bind_some hm
 obtain ⟨h360, h361, hi362⟩ := geto_some hx359
 refine wv (.pointer (some (eAddr v301 ((i64.wrap (iShr .u64 (u64.wrap (i64.wrap (z348 + z347))) (1:Int))).toNat * 7 + 0)))) z z (x_index z z underlying204 sizeOf242 hst.sv1 h360 h361) ?_
 obtain ⟨cs363, hr364, hc365⟩ := hst.og1 hi362
 obtain ⟨v366, v369, rfl, f367, f370, -⟩ := hr364
 refine wv (.agg #[U6 x358.session, U6 x358.seq, I6 x358.r.E, U6 x358.r.Epoch, U6 x358.r.Index, v366, v369]) z z (x_loadN (cs := [U6 x358.session, U6 x358.seq, I6 x358.r.E, U6 x358.r.Epoch, U6 x358.r.Index, v366, v369]) z isAgg242 sizeOf242 (eCells (o := 0) hc365 z)) (wv (.int .u64 a1) z z z ?_)
 obtain ⟨t372, ht373, hm⟩ := bind_some hm
 refine wl_call z z (x_callv call201 (caps := []) z (vs := [.agg #[U6 x358.session, U6 x358.seq, I6 x358.r.E, U6 x358.r.Epoch, U6 x358.r.Index, v366, v369], U6 a1]) z) ?_
 refine (session_Table_find_1_ref (f367.mono ro_rd) (f370.mono ro_rd) hst.to0 ht373).mono ?_
 rintro _ w374 ⟨rfl, hst⟩
 refine ⟨_, z, ?_⟩
 replace hst := hst.of0
 refine wv (.bool (decide (t372 < (0:Int)))) z z z (wl_nil (tn ?_))
 refine bsplit (decide (t372 < (0:Int))) (fun hc377 => ?_) (fun hc377 => ?_)
 {
 replace hm := bif_t hc377 hm
 refine wp_ift (cvb hc377) ?_
 refine wrl (wv (.int .i64 (i64.wrap (iShr .u64 (u64.wrap (i64.wrap (z348 + z347))) (1:Int)))) z z z (wv (.int .i64 (i64.wrap ((i64.wrap (iShr .u64 (u64.wrap (i64.wrap (z348 + z347))) (1:Int))) + (1:Int)))) z z z (wv (.int .i64 (i64.wrap ((i64.wrap (iShr .u64 (u64.wrap (i64.wrap (z348 + z347))) (1:Int))) + (1:Int)))) z z z (wl_nil (blk_n (tn ?_))))))
 replace hst := hst.pull1.pull1.keep2
 obtain rfl := some_inj hm
 exact ⟨_, Nat.lt_succ_self _, z347, (i64.wrap ((i64.wrap (iShr .u64 (u64.wrap (i64.wrap (z348 + z347))) (1:Int))) + (1:Int))), _, hx355, (fu 0 v301 z (fu 1 (.int .u64 a1) z (fu 2 (.func (.func 201) #[] #[]) z (fu 8 (.int .i64 ((o0.l).length : Int)) z (fu 9 (.int .i64 (i64.wrap ((i64.wrap (iShr .u64 (u64.wrap (i64.wrap (z348 + z347))) (1:Int))) + (1:Int)))) z (fu 10 (.int .i64 z347) z z)))))), hst⟩
}
 {
 replace hm := bif_f hc377 hm
 refine wp_iff (cvb hc377) ?_
 refine wrl (wv (.int .i64 (i64.wrap (iShr .u64 (u64.wrap (i64.wrap (z348 + z347))) (1:Int)))) z z z (wv (.int .i64 (i64.wrap (iShr .u64 (u64.wrap (i64.wrap (z348 + z347))) (1:Int)))) z z z (wl_nil (blk_n (tn ?_)))))
 replace hst := hst.pull1.pull1.keep2
 obtain rfl := some_inj hm
 exact ⟨_, Nat.lt_succ_self _, (i64.wrap (iShr .u64 (u64.wrap (i64.wrap (z348 + z347))) (1:Int))), z348, _, hx355, (fu 0 v301 z (fu 1 (.int .u64 a1) z (fu 2 (.func (.func 201) #[] #[]) z (fu 8 (.int .i64 ((o0.l).length : Int)) z (fu 9 (.int .i64 z348) z (fu 10 (.int .i64 (i64.wrap (iShr .u64 (u64.wrap (i64.wrap (z348 + z347))) (1:Int)))) z z)))))), hst⟩
}
}
 {
 replace hm := bif_f hc357 hm
 refine wp_iff (cvb hc357) ?_
 refine wp_exit (then_x (then_x ?_))
 replace hm := inr_up hm hx355
 refine blk_x (tn ?_)
 replace hst := hst.pull1.keep2
 obtain rfl := some_inj hm
 exact ⟨z348, _, hx382, (fu 0 v301 z (fu 1 (.int .u64 a1) z (fu 2 (.func (.func 201) #[] #[]) z (fu 8 (.int .i64 ((o0.l).length : Int)) z (fu 9 (.int .i64 z348) z z))))), hst⟩
}
}
 {
 clear hst
 rintro _ w383 ⟨z378, σ379, hm, rfl, hst⟩
 dsimp only [session_Table_find_j0] at hm
 refine wp_seq (wrl (wv (.int .i64 z378) z z z (wv (.int .i64 z378) z z z (wv (.int .i64 ((o0.l).length : Int)) z z z (wv (.bool (decide (z378 < ((o0.l).length : Int)))) z z z (wv (.bool (decide (z378 < ((o0.l).length : Int)))) z z z ?_))))))
 refine bsplit (decide (z378 < ((o0.l).length : Int))) (fun hc384 => ?_) (fun hc384 => ?_)
 {
 replace hm := bif_t hc384 hm
 refine wv (.func (.func 201) #[] #[]) ((wanted_eq z z z (cvb hc384)).trans z) z z (wv (v301) ((wanted_eq z z z (cvb hc384)).trans z) z z (wv (.int .i64 z378) ((wanted_eq z z z (cvb hc384)).trans z) z z ?_))
 obtain ⟨x385, hx386, hm⟩ := bind_some hm
 obtain ⟨h387, h388, hi389⟩ := geto_some hx386
 refine wv (.pointer (some (eAddr v301 (z378.toNat * 7 + 0)))) ((wanted_eq z z z (cvb hc384)).trans z) z (x_index z z underlying204 sizeOf242 hst.sv0 h387 h388) ?_
 obtain ⟨cs390, hr391, hc392⟩ := hst.og0 hi389
 obtain ⟨v393, v396, rfl, f394, f397, -⟩ := hr391
 refine wv (.agg #[U6 x385.session, U6 x385.seq, I6 x385.r.E, U6 x385.r.Epoch, U6 x385.r.Index, v393, v396]) ((wanted_eq z z z (cvb hc384)).trans z) z (x_loadN (cs := [U6 x385.session, U6 x385.seq, I6 x385.r.E, U6 x385.r.Epoch, U6 x385.r.Index, v393, v396]) z isAgg242 sizeOf242 (eCells (o := 0) hc392 z)) (wv (.int .u64 a1) ((wanted_eq z z z (cvb hc384)).trans z) z z ?_)
 obtain ⟨t399, ht400, hm⟩ := bind_some hm
 refine wl_call ((wanted_eq z z z (cvb hc384)).trans z) z (x_callv call201 (caps := []) z (vs := [.agg #[U6 x385.session, U6 x385.seq, I6 x385.r.E, U6 x385.r.Epoch, U6 x385.r.Index, v393, v396], U6 a1]) z) ?_
 refine (session_Table_find_1_ref (f394.mono ro_rd) (f397.mono ro_rd) hst.to0 ht400).mono ?_
 rintro _ w401 ⟨rfl, hst⟩
 refine ⟨_, z, ?_⟩
 replace hst := hst.of0
 refine wv (.bool (t399 == (0:Int))) ((wanted_eq z z z (cvb hc384)).trans z) z z (wv (.bool (t399 == (0:Int))) z z (x_pick_t hc384 z z) (wv (.int .i64 z378) z z z (wv (.bool (t399 == (0:Int))) z z z (wl_nil (tn (wp_ret ?_))))))
 refine post_ret (vs := [I6 z378, .bool (t399 == (0:Int))]) results200 (rvs_cons (rv_tmp z) (rvs_cons (rv_tmp z) rvs_nil)) ?_
 replace hst := hst.pull1.keep2
 obtain rfl := some_inj hm
 exact ⟨z378, (t399 == (0:Int)), z, z, hst⟩
}
 {
 replace hm := bif_f hc384 hm
 refine wo hc384 z z z z z z (wo hc384 z z z z z z (wo hc384 z z z z z z (wo hc384 z z z z z z (wo hc384 z z z z z z (wo hc384 z z z z z z (wo hc384 z z z z z z (wo hc384 z z z z z z (wv (.bool false) z z (x_pick_f hc384 z z) (wv (.int .i64 z378) z z z (wv (.bool false) z z z (wl_nil (tn (wp_ret ?_)))))))))))))
 refine post_ret (vs := [I6 z378, .bool false]) results200 (rvs_cons (rv_tmp z) (rvs_cons (rv_tmp z) rvs_nil)) ?_
 replace hst := hst.pull1.keep2
 obtain rfl := some_inj hm
 exact ⟨z378, false, z, z, hst⟩
}
}
}
 clear hst
 rintro _ w409 ⟨z404, z405, rfl, rfl, hst⟩
 refine ⟨_, z, ?_⟩
 try dsimp only at hm
 refine wv (.int .i64 z404) z z z (wv (.bool z405) z z z (wv (.int .i64 z404) z z z (wv (.bool z405) z z z (wl_nil (tn (wp_ret ?_))))))
 replace hst := hst.pull1.pull1
 replace hst := at_session_Table_close (pv := Pt b300 0) (x := o0) hst z
 replace hst := objO_some hst
 obtain rfl := some_inj hm
 refine post_ret (vs := [I6 z404, .bool z405]) results148 (rvs_cons (rv_tmp z) (rvs_cons (rv_tmp z) rvs_nil)) ?_
 exact ⟨z, hst.keep1⟩
}
}

theorem slices_Insert_session_row_session_row_ref {w0 w : World} {I : HL} {R : SP} {a0 : (List session_row)} {r0_0 : Value} {a1 : Int} {a2 : (List session_row)} {r2_0 : Value} (hst : St w0 w I [ownS ty_session_row r0_0 a0, ownS ty_session_row r2_0 a2] R) {r : (List session_row)} (hm : slices_Insert_session_row_session_row a0 a1 a2 = some r) :
  Calls prog 187 #[r0_0, I6 a1, r2_0] w fun e w' => ∃ (q0_0 : Value), e = .returned (q0_0) ∧ St w0 w' I [ownS ty_session_row q0_0 r] R := by {
 unfold slices_Insert_session_row_session_row at hm
 obtain ⟨hg, hm⟩ := gd_some hm
 obtain rfl := some_inj hm
 obtain ⟨hi0, hi1, hrm⟩ := insOK_of hg
 obtain ⟨k, rfl⟩ := Int.eq_ofNat_of_zero_le hi0
 have hsm := room_sum hrm
 have hk : k ≤ a0.length := by omega
 have hs : ∀ w : World, (sizeOf 242).run prog w = .ok ty_session_row.sz w := sizeOf242
 have hs0 : 0 < ty_session_row.sz := Nat.le_of_ble_eq_true rfl
 have hov : ∀ (args : Array Value) (w : World), (callFunc 209 args).run prog w = (Extern.SlicesOverlaps.overlaps #[204, 204] #[4] args >>= fun v => (pure (.value v) : Sem Next)).run prog w := by intro args w; kernel_rfl
 obtain ⟨css, hr, hst⟩ := hst.own_open
 replace hst := hst.pull1
 obtain ⟨dss, hq, hst⟩ := hst.own_open
 replace hst := hst.pull1
 obtain ⟨n, hn⟩ : ∃ n, css.length = n := ⟨_, rfl⟩
 obtain ⟨m, hm'⟩ : ∃ m, dss.length = m := ⟨_, rfl⟩
 have hln : a0.length = n := hr.1.trans hn
 have hlm : a2.length = m := hq.1.trans hm'
 rw [hln] at hsm hk
 rw [hlm] at hsm
 have hsv : SliceV r0_0 n := by have := hst.row_form.2; rwa [hn] at this
 have hsq : SliceV r2_0 m := by have := hst.pull1.row_form.2; rwa [hm'] at this
 have hoc := hr.ones
 have hoq := hq.ones
 have hw1 := wrap_add (a := n) (b := m) (by omega)
 have hw2 := wrap_add (a := k) (b := m) (by omega)
 have hw3 := wrap_sub (a := n + m) (b := k) (by omega) (by omega)
 have hrb := room_of (b := 88) hrm rfl
 rw [hln, hlm] at hrb
 refine calls_start (args := [r0_0, I6 (k : Int), r2_0]) func187 z ntmps187 (Nat.le_of_ble_eq_true z) ?_
 refine wp_seq (wrl (wv ((.slice none 0 0)) z z z (wl_nil (tn (wp_seq (wrl (wv (r0_0) z z z (wv (.int .i64 (k : Int)) z z z (wv ((slcV ty_session_row.sz r0_0 k n)) z z (x_slice (lo := (k : Nat)) (hi := (n : Nat)) underlying204 hs z hsv (by omega) (by omega) (by omega) .i64 .i64 (.inl z) (.inr ⟨z, z⟩)) (wl_nil (tn (wp_seq (wrl (wv (r2_0) z z z (wv (.int .i64 (m : Int)) z z (x_len z underlying204 hsq) (wv (.int .i64 (m : Int)) z z z (wl_nil (tn (wp_seq (wp_seq (wrl (wv (.int .i64 (m : Int)) z z z (wv (.bool ((m : Int) == (0:Int))) z z z ?_)))))))))))))))))))))))
 refine wl_nil (tn ?_)
 refine bsplit ((m : Int) == (0:Int)) (fun hc234 => ?_) (fun hc234 => ?_)
 {
 refine wp_ift (cvb hc234) ?_
 refine wp_seq (wrl (wv (r0_0) z z z (wv (r0_0) z z z (wl_nil (tn (wp_ret (then_r ?_)))))))
 refine post_ret (vs := [r0_0]) results187 (rvs_cons (rv_tmp z) rvs_nil) ?_
 rw [ins_nil (by rw [hlm]; exact hc234)]
 exact ⟨_, z, (hst.own_close hr).keep1⟩
}
 {
 refine wp_iff (cvb hc234) ?_
 have hm0 : m ≠ 0 := fun h => by rw [h] at hc234; cases hc234
 have hq0 : dss ≠ [] := fun h => hm0 (by rw [← hm', h]; rfl)
 refine wp_skip (tn (wp_seq (wrl ?_)))
 refine wv (r0_0) z z z (wv (.int .i64 (n : Int)) z z (x_len z underlying204 hsv) (wv (.int .i64 (n : Int)) z z z (wl_nil (tn (wp_seq (wp_seq (wrl (wv (.int .i64 (k : Int)) z z z (wv (.int .i64 (n : Int)) z z z (wv (.bool ((k : Int) == (n : Int))) z z z (wl_nil (tn ?_))))))))))))
 refine bsplit ((k : Int) == (n : Int)) (fun hc235 => ?_) (fun hc235 => ?_)
 {
 refine wp_ift (cvb hc235) ?_
 refine wp_seq (wrl (wv (r0_0) z z z (wv (r2_0) z z z ?_)))
 replace hst := (hst.own_close hr).pull1.own_close hq
 replace hst := hst.pull1
 obtain ⟨v2, w2, hra, hst⟩ := run_append elem_204 underlying204 hst hst.src1 (room_of hrm z) 204
 refine wl_run (v := v2) (w' := w2) z z (x_append z z hra) ?_
 refine wv (v2) z z z (wl_nil (tn (wp_ret (then_r ?_))))
 refine post_ret (vs := [v2]) results187 (rvs_cons (rv_tmp z) rvs_nil) ?_
 rw [ins_end (by rw [hln]; exact hc235)]
 exact ⟨_, z, hst.keep1⟩
}
 {
 refine wp_iff (cvb hc235) ?_
 have hkn : k ≠ n := fun h => by rw [h] at hc235; simp at hc235
 have hn0 : 0 < n := by omega
 have hc0 : css ≠ [] := fun h => by rw [h] at hn; simp at hn; omega
 refine wp_skip (tn (wp_seq (wp_seq (wrl ?_))))
 refine wv (.int .i64 (n : Int)) z z z (wv (.int .i64 (m : Int)) z z z (wv (.int .i64 ((n + m : Nat) : Int)) z z (ok_cast hw1 z) (wv (r0_0) z z z (wv (.int .i64 (sCap r0_0 : Int)) z z (x_cap z underlying204 hsv) (wv (.bool (decide (((n + m : Nat) : Int) > (sCap r0_0 : Int)))) z z z (wl_nil (tn ?_)))))))
 refine bsplit (decide (((n + m : Nat) : Int) > (sCap r0_0 : Int))) (fun hc236 => ?_) (fun hc236 => ?_)
 {
 refine wp_ift (cvb hc236) ?_
 refine wp_seq (wrl (wv (r0_0) z z z (wv (.int .i64 (k : Int)) z z z (wv ((slcV ty_session_row.sz r0_0 0 k)) z z (x_slice (lo := (0 : Nat)) (hi := (k : Nat)) underlying204 hs z hsv (by omega) (by omega) (by omega) .i64 .i64 (.inr ⟨z, z⟩) (.inl z)) (wv (.int .i64 (n : Int)) z z z (wv (.int .i64 (m : Int)) z z z (wv (.int .i64 ((n + m : Nat) : Int)) z z (ok_cast hw1 z) (wv (.int .i64 (k : Int)) z z z (wv (.int .i64 ((n + m - k : Nat) : Int)) z z (ok_cast hw3 z) ?_)))))))))
 obtain ⟨v2, w2, hra, hs2, zss, hzl, hst⟩ := run_app0 elem_204 underlying3 hst k (n + m - k) (by omega) (by have := of_decide_eq_true hc236; omega) (by rw [show k + (n + m - k) = n + m by omega]; exact hrb) hs0 204
 rw [show k + (n + m - k) = n + m by omega] at hs2
 refine wl_run (v := v2) (w' := w2) z z (x_append z z hra) ?_
 refine wv (v2) z z z (wl_nil (tn (wp_seq (wrl (wv (v2) z z z (wv (.int .i64 (k : Int)) z z z (wv ((slcV ty_session_row.sz v2 k (n + m))) z z (x_slice (lo := (k : Nat)) (hi := ((n + m) : Nat)) underlying204 hs z hs2 (by omega) (by omega) (by omega) .i64 .i64 (.inl z) (.inr ⟨z, z⟩)) (wv (r2_0) z z z ?_))))))))
 obtain ⟨w237, hr238, hst⟩ := run_copyRows (P := prog) (t2 := 204) (ty := 3) underlying204 hs hst hst.pull2 k m (N := n + m) (by first | omega | (simp only [List.length_append, List.length_take, List.length_drop]; omega)) (by first | omega | (simp only [List.length_append, List.length_take, List.length_drop]; omega)) (by omega) (by first | omega | (simp only [List.length_append, List.length_take, List.length_drop]; omega)) (ones_take hoq _)
 refine wl_run (v := .int .i64 (m : Nat)) (w' := w237) z z (x_copy z z hr238) ?_
 refine wl_nil (tn (wp_seq ?_))
 refine wp_region_St hst 9 [0, 1, 2, 3, 4, 5, 6, 7, 8] [0, 0, 0, 6, 15, 0, 0, 96, 255] [] z (by kernel_rfl) (by kernel_rfl) Tryz.mixed (by kernel_rfl) ?_
 refine wsr (v2) 0 z z z (by kernel_rfl) (fun w hst => z) (wsr (.int .i64 (k : Int)) 1 z z z (by kernel_rfl) (fun w hst => z) (wsr (.int .i64 (m : Int)) 2 z z z (by kernel_rfl) (fun w hst => z) (wsr (.int .i64 ((k + m : Nat) : Int)) 3 z z z (by kernel_rfl) (fun w hst => ok_cast hw2 z) (wsr ((slcV ty_session_row.sz v2 (k + m) (n + m))) 4 z z z (by kernel_rfl) (fun w hst => x_slice (lo := ((k + m) : Nat)) (hi := ((n + m) : Nat)) underlying204 hs z hs2 (by omega) (by omega) (by omega) .i64 .i64 (.inl z) (.inr ⟨z, z⟩)) (wsr (r0_0) 5 z z z (by kernel_rfl) (fun w hst => z) (wsr (.int .i64 (k : Int)) 6 z z z (by kernel_rfl) (fun w hst => z) (wsr ((slcV ty_session_row.sz r0_0 k n)) 7 z z z (by kernel_rfl) (fun w hst => x_slice (lo := (k : Nat)) (hi := (n : Nat)) underlying204 hs z hsv (by omega) (by omega) (by omega) .i64 .i64 (.inl z) (.inr ⟨z, z⟩)) ?_)))))))
 refine ws_e1 8 (by kernel_rfl) ?_
 refine nxe [] (by kernel_rfl) z z ?_
 clear hst
 intro w hst
 obtain ⟨w239, hr240, hst⟩ := run_copyRows (P := prog) (t2 := 204) (ty := 3) underlying204 hs hst (hst.pull1.row_part (l := k) (h := n) hk (by omega)) (k + m) (n - k) (N := n + m) (by first | omega | (simp only [List.length_append, List.length_take, List.length_drop]; omega)) (by first | omega | (simp only [List.length_append, List.length_take, List.length_drop]; omega)) (by omega) (by first | omega | (simp only [List.length_append, List.length_take, List.length_drop]; omega)) (ones_take (ones_drop (ones_take hoc _) _) _)
 refine we_run (v := .int .i64 ((n - k) : Nat)) (w' := w239) z (x_copy z z hr240) ?_
 refine ws_next (pend' := []) hst (by kernel_rfl) pk_nil ?_
 refine ws_nil ?_
 intro w hst
 refine tn (wp_seq (wrl (wv (v2) z z z (wv (v2) z z z (wl_nil (tn (wp_ret (then_r ?_))))))))
 refine post_ret (vs := [v2]) results187 (rvs_cons (rv_tmp z) rvs_nil) ?_
 rw [grow_rows hn hm' hk hzl] at hst
 exact ⟨_, z, (hst.own_close ((hr.take k).app (hq.app (hr.drop k)))).keep1⟩
}
 {
 refine wp_iff (cvb hc236) ?_
 have hup : n + m ≤ sCap r0_0 := by have := of_decide_eq_false hc236; omega
 obtain ⟨ess, hel, hem, hst'⟩ := hst.row_up (n + m) (by omega) hup hc0
 rw [show n + m - css.length = m by omega] at hel
 have hs2 : SliceV (upV r0_0 (n + m)) (n + m) := by have := hst'.row_form.2; rwa [List.length_append, hn, hel] at this
 clear hst
 have hst := hst'
 clear hst'
 refine wp_skip (tn (wp_seq (wrl ?_)))
 refine wv (r0_0) z z z (wv (.int .i64 (n : Int)) z z z (wv (.int .i64 (m : Int)) z z z (wv (.int .i64 ((n + m : Nat) : Int)) z z (ok_cast hw1 z) (wv ((upV r0_0 (n + m))) z z (x_sliceUp underlying204 hs z hsv z hup hn0) (wv ((upV r0_0 (n + m))) z z z (wl_nil (tn (wp_seq (wp_seq (wrl (wv (r2_0) z z z (wv ((upV r0_0 (n + m))) z z z (wv (.int .i64 (k : Int)) z z z (wv (.int .i64 (m : Int)) z z z (wv (.int .i64 ((k + m : Nat) : Int)) z z (ok_cast hw2 z) (wv ((slcV ty_session_row.sz (upV r0_0 (n + m)) (k + m) (n + m))) z z (x_slice (lo := ((k + m) : Nat)) (hi := ((n + m) : Nat)) underlying204 hs z hs2 (by omega) (by omega) (by omega) .i64 .i64 (.inl z) (.inr ⟨z, z⟩)) ?_))))))))))))))))
 refine wv (.bool false) z z (x_ext z z z (hov _) (run_overlaps z underlying204 hs hst.pull1 (k + m) (N := n + m) (by rw [List.length_append]; omega) (by omega) hq0 hs0)) (wv (.bool true) z z z (wl_nil (tn ?_)))
 refine wp_ift z ?_
 refine wp_seq ?_
 refine wp_region_St hst 9 [0, 1, 2, 3, 4, 5, 6, 7, 8] [0, 0, 0, 6, 15, 0, 0, 96, 255] [] z (by kernel_rfl) (by kernel_rfl) Tryz.mixed (by kernel_rfl) ?_
 refine wsr ((upV r0_0 (n + m))) 0 z z z (by kernel_rfl) (fun w hst => z) (wsr (.int .i64 (k : Int)) 1 z z z (by kernel_rfl) (fun w hst => z) (wsr (.int .i64 (m : Int)) 2 z z z (by kernel_rfl) (fun w hst => z) (wsr (.int .i64 ((k + m : Nat) : Int)) 3 z z z (by kernel_rfl) (fun w hst => ok_cast hw2 z) (wsr ((slcV ty_session_row.sz (upV r0_0 (n + m)) (k + m) (n + m))) 4 z z z (by kernel_rfl) (fun w hst => x_slice (lo := ((k + m) : Nat)) (hi := ((n + m) : Nat)) underlying204 hs z hs2 (by omega) (by omega) (by omega) .i64 .i64 (.inl z) (.inr ⟨z, z⟩)) (wsr ((upV r0_0 (n + m))) 5 z z z (by kernel_rfl) (fun w hst => z) (wsr (.int .i64 (k : Int)) 6 z z z (by kernel_rfl) (fun w hst => z) (wsr ((slcV ty_session_row.sz (upV r0_0 (n + m)) k (n + m))) 7 z z z (by kernel_rfl) (fun w hst => x_slice (lo := (k : Nat)) (hi := ((n + m) : Nat)) underlying204 hs z hs2 (by omega) (by omega) (by omega) .i64 .i64 (.inl z) (.inr ⟨z, z⟩)) ?_)))))))
 refine ws_e1 8 (by kernel_rfl) ?_
 refine nxe [] (by kernel_rfl) z z ?_
 clear hst
 intro w hst
 obtain ⟨w241, hr242, hst⟩ := run_copyRows (P := prog) (t2 := 204) (ty := 3) underlying204 hs hst (hst.row_part (l := k) (h := n + m) (by omega) (by rw [List.length_append]; omega)) (k + m) (n - k) (N := n + m) (by first | omega | (simp only [List.length_append, List.length_take, List.length_drop]; omega)) (by first | omega | (simp only [List.length_append, List.length_take, List.length_drop]; omega)) (by omega) (by first | omega | (simp only [List.length_append, List.length_take, List.length_drop]; omega)) (by rw [stay_src hn hm' hk hel]; exact ones_drop hoc _)
 refine we_run (v := .int .i64 ((n - k) : Nat)) (w' := w241) z (x_copy z z hr242) ?_
 refine ws_next (pend' := []) hst (by kernel_rfl) pk_nil ?_
 refine ws_nil ?_
 intro w hst
 refine tn (wp_seq (wrl (wv ((upV r0_0 (n + m))) z z z (wv (.int .i64 (k : Int)) z z z (wv ((slcV ty_session_row.sz (upV r0_0 (n + m)) k (n + m))) z z (x_slice (lo := (k : Nat)) (hi := ((n + m) : Nat)) underlying204 hs z hs2 (by omega) (by omega) (by omega) .i64 .i64 (.inl z) (.inr ⟨z, z⟩)) (wv (r2_0) z z z ?_))))))
 obtain ⟨w243, hr244, hst⟩ := run_copyRows (P := prog) (t2 := 204) (ty := 3) underlying204 hs hst hst.pull1 k m (N := n + m) (by first | omega | (simp only [List.length_append, List.length_take, List.length_drop]; omega)) (by first | omega | (simp only [List.length_append, List.length_take, List.length_drop]; omega)) (by omega) (by first | omega | (simp only [List.length_append, List.length_take, List.length_drop]; omega)) (ones_take hoq _)
 refine wl_run (v := .int .i64 (m : Nat)) (w' := w243) z z (x_copy z z hr244) ?_
 refine wl_nil (tn (wp_seq (wrl (wv ((upV r0_0 (n + m))) z z z (wv ((upV r0_0 (n + m))) z z z (wl_nil (tn (wp_ret (then_r ?_)))))))))
 refine post_ret (vs := [(upV r0_0 (n + m))]) results187 (rvs_cons (rv_tmp z) rvs_nil) ?_
 rw [stay_rows hn hm' hk hel] at hst
 exact ⟨_, z, (hst.own_close ((hr.take k).app (hq.app (hr.drop k)))).keep1⟩
}
}
}
}

theorem session_Table_Put_ref {w0 w : World} {I : HL} {R : SP} {a0 : (Option session_Table)} {p0 : Value} {a1 : Int} {a2 : Int} {a3 : api_Reply} {r3_0 : Value} {r3_1 : Value} (f3_0 : Ro ty_api_Got I r3_0 a3.Gots) (f3_1 : Ro (tySl ty_api_Pair) I r3_1 a3.Scans) (hst : St w0 w I [objO at_session_Table p0 a0] R) {r : (Int × (Option session_Table))} (hm : session_Table_Put a0 a1 a2 a3 = some r) :
  Calls prog 124 #[p0, U6 a1, U6 a2, .agg #[I6 a3.E, U6 a3.Epoch, U6 a3.Index, r3_0, r3_1]] w fun e w' => e = .returned (.int .i64 r.1) ∧ St w0 w' I [objO at_session_Table p0 r.2] R := by {
 rcases a0 with _ | o0
 {
 obtain ⟨rfl, hst'⟩ := objO_none hst
 clear hst
 have hst := hst'
 clear hst'
 dsimp only [session_Table_Put] at hm
 refine calls_start (args := [.pointer none, U6 a1, U6 a2, .agg #[I6 a3.E, U6 a3.Epoch, U6 a3.Index, r3_0, r3_1]]) func124 z ntmps124 (Nat.le_of_ble_eq_true z) ?_
 refine wp_seq (wrl ?_)
 obtain ⟨b299, w300, ew301, eb302, hst⟩ := hst.box [I6 a3.E, U6 a3.Epoch, U6 a3.Index, r3_0, r3_1] 33
 refine wl_run (v := Pt b299 0) (w' := w300) z z (x_al (by kernel_rfl) ew301 eb302) ?_
 refine wv (.int .i64 (0:Int)) z z z (wl_nil (tn (wp_seq (wp_block (wp_seq (wrl (wv (.pointer none) z z z (wv (.bool true) z z (by kernel_rfl) (wv (.bool true) z z z (wl_nil (tn ?_)))))))))))
 refine wp_ift z ?_
 refine wp_seq (wrl (wv (.int .i64 (2:Int)) z z z (wl_nil (tn (wp_ret (blk_r (then_r ?_)))))))
 replace hst := hst.objO_nil at_session_Table
 obtain rfl := some_inj hm
 refine post_ret (vs := [I6 (2:Int)]) results124 (rvs_cons (rv_tmp z) rvs_nil) ?_
 exact ⟨z, hst.keep1⟩
}
 {
 replace hst := objO_get hst
 dsimp only [session_Table_Put] at hm
 refine calls_start (args := [p0, U6 a1, U6 a2, .agg #[I6 a3.E, U6 a3.Epoch, U6 a3.Index, r3_0, r3_1]]) func124 z ntmps124 (Nat.le_of_ble_eq_true z) ?_
 refine wp_seq (wrl ?_)
 obtain ⟨b304, w305, ew306, eb307, hst⟩ := hst.box [I6 a3.E, U6 a3.Epoch, U6 a3.Index, r3_0, r3_1] 33
 refine wl_run (v := Pt b304 0) (w' := w305) z z (x_al (by kernel_rfl) ew306 eb307) ?_
 refine wv (.int .i64 (0:Int)) z z z (wl_nil (tn (wp_seq (wp_block (wp_seq (wrl (wv (p0) z z z ?_)))))))
 replace hst := hst.pull1
 obtain ⟨b309, v310, rfl, hst'⟩ := at_session_Table_open hst
 clear hst
 have hst := hst'
 clear hst'
 refine wv (.bool false) z z (by kernel_rfl) (wv (.bool false) z z z (wl_nil (tn ?_)))
 refine wp_iff z ?_
 refine wp_seq (wrl (wv (.int .u64 a2) z z z (wv (.bool (a2 == (0:Int))) z z z (wv (.bool (a2 == (0:Int))) z z z (wl_nil (tn ?_))))))
 refine bsplit (a2 == (0:Int)) (fun hc312 => ?_) (fun hc312 => ?_)
 {
 replace hm := bif_t hc312 hm
 refine wp_ift (cvb hc312) ?_
 refine wp_seq (wrl (wv (.int .i64 (1:Int)) z z z (wl_nil (tn (wp_ret (blk_r (then_r ?_)))))))
 replace hst := hst.pull1.pull1
 replace hst := at_session_Table_close (pv := Pt b309 0) (x := o0) hst z
 replace hst := objO_some hst
 obtain rfl := some_inj hm
 refine post_ret (vs := [I6 (1:Int)]) results124 (rvs_cons (rv_tmp z) rvs_nil) ?_
 exact ⟨z, hst.keep1⟩
}
 {
 replace hm := bif_f hc312 hm
 refine wp_iff (cvb hc312) ?_
 refine wp_skip (blk_n (tn (wp_seq (wrl ?_))))
 refine wv (Pt b309 0) z z z (wv (.int .u64 a1) z z z ?_)
 replace hst := hst.pull1.pull1
 replace hst := at_session_Table_close (pv := Pt b309 0) (x := o0) hst z
 replace hst := objO_some hst
 obtain ⟨t313, ht314, hm⟩ := bind_some hm
 refine wc call148 [Pt b309 0, U6 a1] z z z ?_
 refine (session_Table_find_ref hst.to1 ht314).mono ?_
 rintro _ w315 ⟨rfl, hst⟩
 refine ⟨_, z, ?_⟩
 replace hst := hst.of1
 replace hst := objO_get hst
 refine wv (.tuple #[I6 t313.1, .bool t313.2]) z z z (wv (.int .i64 t313.1) z z z (wv (.bool t313.2) z z z (wv (.int .i64 t313.1) z z z (wv (.bool t313.2) z z z (wl_nil (tn ?_))))))
 obtain ⟨y340, hm, hx341⟩ := joinO_some hm
 refine wp_cut (fun a w => ∃ (σ338 : Nat → Value), (session_Table_Put_j0 t313 o0 a1 a2 a3) () = some r ∧ a = Fr 66 (upd (upd (upd (upd (upd (upd σ338 0 (Pt b309 0)) 1 (.int .u64 a1)) 2 (.int .u64 a2)) 7 (Pt b304 0)) 9 (.int .i64 t313.1)) 10 (.bool t313.2)) ∧ St w0 w I [at_session_Table (Pt b309 0) o0, cells b304 [I6 a3.E, U6 a3.Epoch, U6 a3.Index, r3_0, r3_1]] R) ?_ ?_
 {
 refine wp_seq (wrl (wv (.bool t313.2) z z z (wv (.bool t313.2) z z z ?_)))
 refine bsplit t313.2 (fun hc318 => ?_) (fun hc318 => ?_)
 {
 replace hm := bif_t hc318 hm
 refine wv (Pt b309 0) ((wanted_eq z z z (cvb hc318)).trans z) z z ?_
 obtain ⟨b319, v320, e322, hst'⟩ := at_session_Table_open hst
 clear hst
 have e322 := ptr_inj e322
 subst e322
 have hst := hst'
 clear hst'
 refine wv (Pt b309 0) ((wanted_eq z z z (cvb hc318)).trans z) z z (wv (Pt b309 0) ((wanted_eq z z z (cvb hc318)).trans z) z (x_field z underlying206 z sizeOf204 z) (wv (v320) ((wanted_eq z z z (cvb hc318)).trans z) z (x_load z isAgg204 (hst.bc0 z)) (wv (.int .i64 t313.1) ((wanted_eq z z z (cvb hc318)).trans z) z z ?_)))
 obtain ⟨x323, hx324, hm⟩ := bind_some hm
 obtain ⟨h325, h326, hi327⟩ := geto_some hx324
 refine wv (.pointer (some (eAddr v320 (t313.1.toNat * 7 + 0)))) ((wanted_eq z z z (cvb hc318)).trans z) z (x_index z z underlying204 sizeOf242 hst.sv1 h325 h326) (wv (.pointer (some (eAddr v320 (t313.1.toNat * 7 + 1)))) ((wanted_eq z z z (cvb hc318)).trans z) z (x_field_e z underlying242 z sizeOf26 z) ?_)
 obtain ⟨cs328, hr329, hc330⟩ := hst.og1 hi327
 obtain ⟨v331, v334, rfl, f332, f335, -⟩ := hr329
 refine wv (.int .u64 x323.seq) ((wanted_eq z z z (cvb hc318)).trans z) z (x_load z isAgg26 (hc330 1 _ z)) (wv (.int .u64 a2) ((wanted_eq z z z (cvb hc318)).trans z) z z (wv (.bool (decide (x323.seq ≥ a2))) ((wanted_eq z z z (cvb hc318)).trans z) z z (wv (.bool (decide (x323.seq ≥ a2))) z z (x_pick_t hc318 z z) (wl_nil (tn ?_)))))
 refine bsplit (decide (x323.seq ≥ a2)) (fun hc337 => ?_) (fun hc337 => ?_)
 {
 replace hm := bif_t hc337 hm
 refine wp_ift (cvb hc337) ?_
 refine wp_seq (wrl (wv (.int .i64 (10:Int)) z z z (wl_nil (tn (wp_ret (then_r ?_))))))
 replace hm := inr_up hm hx341
 replace hst := hst.pull1.pull1
 replace hst := at_session_Table_close (pv := Pt b309 0) (x := o0) hst z
 replace hst := objO_some hst
 obtain rfl := some_inj hm
 refine post_ret (vs := [I6 (10:Int)]) results124 (rvs_cons (rv_tmp z) rvs_nil) ?_
 exact ⟨z, hst.keep1⟩
}
 {
 replace hm := bif_f hc337 hm
 refine wp_iff (cvb hc337) ?_
 refine wp_skip (tn ?_)
 replace hst := hst.pull1.pull1
 replace hst := at_session_Table_close (pv := Pt b309 0) (x := o0) hst z
 replace hst := hst.pull1.pull1.keep2
 obtain rfl := some_inj hm
 exact ⟨_, hx341, (fu 0 (Pt b309 0) z (fu 1 (.int .u64 a1) z (fu 2 (.int .u64 a2) z (fu 7 (Pt b304 0) z (fu 9 (.int .i64 t313.1) z (fu 10 (.bool t313.2) z z)))))), hst⟩
}
}
 {
 replace hm := bif_f hc318 hm
 refine wo hc318 z z z z z z (wo hc318 z z z z z z (wo hc318 z z z z z z (wo hc318 z z z z z z (wo hc318 z z z z z z (wo hc318 z z z z z z (wo hc318 z z z z z z (wo hc318 z z z z z z (wo hc318 z z z z z z (wo hc318 z z z z z z (wv (.bool false) z z (x_pick_f hc318 z z) (wl_nil (tn ?_))))))))))))
 refine wp_iff z ?_
 refine wp_skip (tn ?_)
 replace hst := hst.pull1.pull1.keep2
 obtain rfl := some_inj hm
 exact ⟨_, hx341, (fu 0 (Pt b309 0) z (fu 1 (.int .u64 a1) z (fu 2 (.int .u64 a2) z (fu 7 (Pt b304 0) z (fu 9 (.int .i64 t313.1) z (fu 10 (.bool t313.2) z z)))))), hst⟩
}
}
 {
 clear hst
 rintro _ w342 ⟨σ338, hm, rfl, hst⟩
 dsimp only [session_Table_Put_j0] at hm
 obtain ⟨y371, hm, hx372⟩ := bind_some hm
 refine wp_cut (fun a w => ∃ (z368 : session_Table) (σ369 : Nat → Value), (session_Table_Put_j1 t313 a2 a3) z368 = some r ∧ a = Fr 66 (upd (upd (upd (upd σ369 0 (Pt b309 0)) 2 (.int .u64 a2)) 7 (Pt b304 0)) 9 (.int .i64 t313.1)) ∧ St w0 w I [at_session_Table (Pt b309 0) z368, cells b304 [I6 a3.E, U6 a3.Epoch, U6 a3.Index, r3_0, r3_1]] R) ?_ ?_
 {
 refine wp_seq (wrl (wv (.bool t313.2) z z z (wv (.bool (!t313.2)) z z z (wl_nil (tn ?_)))))
 refine bsplit (!t313.2) (fun hc343 => ?_) (fun hc343 => ?_)
 {
 replace hm := bif_t hc343 hm
 refine wp_ift (cvb hc343) ?_
 refine wrl (wv (Pt b309 0) z z z (wv (Pt b309 0) z z z ?_))
 obtain ⟨b344, v345, e347, hst'⟩ := at_session_Table_open hst
 clear hst
 have e347 := ptr_inj e347
 subst e347
 have hst := hst'
 clear hst'
 refine wv (Pt b309 0) z z z (wv (Pt b309 0) z z (x_field z underlying206 z sizeOf204 z) (wv (v345) z z (x_load z isAgg204 (hst.bc0 z)) (wv (.int .i64 t313.1) z z z (wv (.int .u64 a1) z z z (wv (.agg #[U6 a1, Zu, Zi, Zu, Zu, Zs, Zs]) z z (by kernel_rfl) ?_)))))
 have f352 : Ro ty_api_Got I (.slice none 0 0) [] := ro_nil
 have f353 : Ro (tySl ty_api_Pair) I (.slice none 0 0) [] := ro_nil
 obtain ⟨b354, w355, ew356, eb357, hst⟩ := hst.lits (E := ty_session_row) (xs := [({ session := a1, seq := (0:Int), r := zero_api_Reply } : session_row)]) [[U6 a1, Zu, Zi, Zu, Zu, Zs, Zs]] 242 1 z (Reps.cons ⟨_, _, z, f352, f353, one_of_sliceV (ro_sliceV f352), one_of_sliceV (ro_sliceV f353)⟩ Reps.nil)
 refine wl_run (v := (.slice (some ⟨b354, 0, none⟩) 1 1)) (w' := w355) z z (x_als (by kernel_rfl) ew356 eb357) ?_
 replace hst := hst.pull2
 obtain ⟨t359, ht360, hm⟩ := bind_some hm
 refine wc call187 [v345, I6 t313.1, (.slice (some ⟨b354, 0, none⟩) 1 1)] z z z ?_
 refine (slices_Insert_session_row_session_row_ref hst.to2 ht360).mono ?_
 rintro _ w361 ⟨v364, rfl, hst⟩
 refine ⟨_, z, ?_⟩
 replace hst := hst.of1
 refine wv (Pt b309 0) z z z (wv (Pt b309 0) z z (x_field z underlying206 z sizeOf204 z) ?_)
 replace hst := hst.pull1
 obtain ⟨w366, hr367, hst⟩ := hst.boxStore1 (P := prog) (t := 204) (cs' := [v364]) 0 v364 (one_of_sliceV hst.sv1) sizeOf204 z z
 refine wl_unit z z (x_unit hr367) ?_
 refine wl_nil (tn ?_)
 replace hst := hst.pull1.pull1
 replace hst := at_session_Table_close (pv := Pt b309 0) (x := ({ l := t359 } : session_Table)) hst z
 replace hst := hst.pull1.pull1.keep2
 obtain rfl := some_inj hm
 exact ⟨({ l := t359 } : session_Table), _, hx372, (fu 0 (Pt b309 0) z (fu 2 (.int .u64 a2) z (fu 7 (Pt b304 0) z (fu 9 (.int .i64 t313.1) z z)))), hst⟩
}
 {
 replace hm := bif_f hc343 hm
 refine wp_iff (cvb hc343) ?_
 refine wp_skip (tn ?_)
 replace hst := hst.pull1.pull1.keep2
 obtain rfl := some_inj hm
 exact ⟨o0, _, hx372, (fu 0 (Pt b309 0) z (fu 2 (.int .u64 a2) z (fu 7 (Pt b304 0) z (fu 9 (.int .i64 t313.1) z z)))), hst⟩
}
}
 {
 clear hst
 rintro _ w373 ⟨z368, σ369, hm, rfl, hst⟩
 dsimp only [session_Table_Put_j1] at hm
 refine wp_seq ?_
 obtain ⟨b374, v375, e377, hst'⟩ := at_session_Table_open hst
 clear hst
 have e377 := ptr_inj e377
 subst e377
 have hst := hst'
 clear hst'
 refine wp_region_St hst 18 [0, 1, 2, 3, 4, 5, 6, 7, 8, 9, 10, 11, 12, 13, 14, 15, 16, 17] [0, 1, 3, 7, 0, 0, 32, 96, 224, 0, 0, 0, 1535, 5631, 13823, 32767, 65535, 131071] [] z (by kernel_rfl) (by kernel_rfl) Tryz.mixed (by kernel_rfl) ?_
 refine wsr (Pt b309 0) 0 z z z (by kernel_rfl) (fun w hst => z) (wsr (Pt b309 0) 1 z z z (by kernel_rfl) (fun w hst => z) (wsr (Pt b309 0) 2 z z z (by kernel_rfl) (fun w hst => x_field z underlying206 z sizeOf204 z) (wsr (v375) 3 z z z (by kernel_rfl) (fun w hst => x_load z isAgg204 (hst.bc0 z)) (wsr (.int .i64 t313.1) 4 z z z (by kernel_rfl) (fun w hst => z) (wsr (Pt b309 0) 5 z z z (by kernel_rfl) (fun w hst => z) (wsr (Pt b309 0) 6 z z z (by kernel_rfl) (fun w hst => z) (wsr (Pt b309 0) 7 z z z (by kernel_rfl) (fun w hst => x_field z underlying206 z sizeOf204 z) (wsr (v375) 8 z z z (by kernel_rfl) (fun w hst => x_load z isAgg204 (hst.bc0 z)) (wsr (.int .i64 t313.1) 9 z z z (by kernel_rfl) (fun w hst => z) (wsr (.int .u64 a2) 10 z z z (by kernel_rfl) (fun w hst => z) (wsr (.agg #[I6 a3.E, U6 a3.Epoch, U6 a3.Index, r3_0, r3_1]) 11 z z z (by kernel_rfl) (fun w hst => x_loadN (cs := [I6 a3.E, U6 a3.Epoch, U6 a3.Index, r3_0, r3_1]) z isAgg33 sizeOf33 (hst.bcs2 0 z)) ?_)))))))))))
 obtain ⟨x378, hx379, hm⟩ := bind_some hm
 obtain ⟨h380, h381, hi382⟩ := geto_some hx379
 refine wsr (.pointer (some (eAddr v375 (t313.1.toNat * 7 + 0)))) 12 z z z (by kernel_rfl) (fun w hst => x_index z z underlying204 sizeOf242 hst.sv1 h380 h381) (wsr (.pointer (some (eAddr v375 (t313.1.toNat * 7 + 1)))) 13 z z z (by kernel_rfl) (fun w hst => x_field_e z underlying242 z sizeOf26 z) ?_)
 refine ws_e1 14 (by kernel_rfl) ?_
 refine nxe [15, 16, 17] (by kernel_rfl) z z ?_
 clear hst
 intro w hst
 obtain ⟨cs383, hr384, hc385⟩ := hst.og1 hi382
 obtain ⟨v386, v389, rfl, f387, f390, -⟩ := hr384
 replace hst := hst.pull1
 obtain ⟨w392, hr393, hst⟩ := hst.own_store (P := prog) (t := 26) (y := ({ session := x378.session, seq := a2, r := x378.r } : session_row)) hi382 1 (.int .u64 a2) sizeOf26 (Nat.le_of_ble_eq_true z) (oC z oN) (by rintro _ ⟨u395, u396, rfl, f397, f398, o399, o400⟩; exact ⟨u395, u396, rfl, f397, f398, o399, o400⟩)
 have hi394 := set_get hi382 ({ session := x378.session, seq := a2, r := x378.r } : session_row)
 have h401 := set_lt h381 t313.1.toNat ({ session := x378.session, seq := a2, r := x378.r } : session_row)
 refine we_unit z (x_unit hr393) ?_
 refine ws_next (pend' := [(11, .agg #[I6 a3.E, U6 a3.Epoch, U6 a3.Index, r3_0, r3_1]), (9, I6 t313.1)]) hst (by kernel_rfl) (pkr z z (fun w hst => x_loadN (cs := [I6 a3.E, U6 a3.Epoch, U6 a3.Index, r3_0, r3_1]) z isAgg33 sizeOf33 (hst.bcs2 0 z)) (pkr z z (fun w hst => z) pk_nil)) ?_
 refine wsr (.pointer (some (eAddr v375 (t313.1.toNat * 7 + 0)))) 15 z z z (by kernel_rfl) (fun w hst => x_index z z underlying204 sizeOf242 hst.sv0 h380 h401) (wsr (.pointer (some (eAddr v375 (t313.1.toNat * 7 + 2)))) 16 z z z (by kernel_rfl) (fun w hst => x_field_e z underlying242 z sizeOf33 z) ?_)
 refine ws_e1 17 (by kernel_rfl) ?_
 refine nxe [] (by kernel_rfl) z z ?_
 clear hst
 intro w hst
 obtain ⟨cs402, hr403, hc404⟩ := hst.og0 hi394
 obtain ⟨v405, v408, rfl, f406, f409, -⟩ := hr403
 obtain ⟨w411, hr412, hst⟩ := hst.own_store (P := prog) (t := 33) (y := ({ session := ({ session := x378.session, seq := a2, r := x378.r } : session_row).session, seq := ({ session := x378.session, seq := a2, r := x378.r } : session_row).seq, r := a3 } : session_row)) hi394 2 (.agg #[I6 a3.E, U6 a3.Epoch, U6 a3.Index, r3_0, r3_1]) sizeOf33 (Nat.le_of_ble_eq_true z) (oC z (oC z (oC z (oC (one_of_sliceV (ro_sliceV f3_0)) (oC (one_of_sliceV (ro_sliceV f3_1)) oN))))) (by rintro _ ⟨u414, u415, rfl, f416, f417, o418, o419⟩; exact ⟨_, _, rfl, f3_0, f3_1, one_of_sliceV (ro_sliceV f3_0), one_of_sliceV (ro_sliceV f3_1)⟩)
 have hi413 := set_get hi394 ({ session := ({ session := x378.session, seq := a2, r := x378.r } : session_row).session, seq := ({ session := x378.session, seq := a2, r := x378.r } : session_row).seq, r := a3 } : session_row)
 have h420 := set_lt h401 t313.1.toNat ({ session := ({ session := x378.session, seq := a2, r := x378.r } : session_row).session, seq := ({ session := x378.session, seq := a2, r := x378.r } : session_row).seq, r := a3 } : session_row)
 refine we_unit z (x_unit hr412) ?_
 refine ws_next (pend' := []) hst (by kernel_rfl) pk_nil ?_
 refine ws_nil ?_
 intro w hst
 refine tn (wp_seq (wrl (wv (.int .i64 (0:Int)) z z z (wl_nil (tn (wp_ret ?_))))))
 replace hst := hst.pull1
 replace hst := at_session_Table_close (pv := Pt b309 0) (x := ({ l := ((z368.l.set t313.1.toNat ({ session := x378.session, seq := a2, r := x378.r } : session_row)).set t313.1.toNat ({ session := ({ session := x378.session, seq := a2, r := x378.r } : session_row).session, seq := ({ session := x378.session, seq := a2, r := x378.r } : session_row).seq, r := a3 } : session_row)) } : session_Table)) hst z
 replace hst := objO_some hst
 obtain rfl := some_inj hm
 refine post_ret (vs := [Zi]) results124 (rvs_cons (rv_tmp z) rvs_nil) ?_
 exact ⟨z, hst.keep1⟩
}
}
}
}
}

end Go.Proofs.YtgnkkopjkgdieaaGreat
