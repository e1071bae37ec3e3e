/- The Go functions refine their models, part 3. -/
import Derived.Test.YtgnkkopjkgdieaaGreatLaneQuotasR2
set_option linter.unusedVariables false
set_option linter.unusedSimpArgs false
set_option maxRecDepth 100000
set_option maxHeartbeats 4000000
namespace Go.Proofs.YtgnkkopjkgdieaaGreat
open Go Go.V
open _root_.Go.Proofs.Tryz IntKind
attribute [local irreducible] wpList Code.wp wpQuiet Calls bodyPost Oper.wp wpS Nx PendOK YieldsIn
theorem session_Table_Last_ref {w0 w : World} {I : HL} {R : SP} {a0 : (Option session_Table)} {p0 : Value} {a1 : Int}  (hst : St w0 w I [objO at_session_Table p0 a0] R) {r : (Int)} (hm : session_Table_Last a0 a1 = some r) :
  Calls prog 61 #[p0, U6 a1] w fun e w' => e = .returned (.int .u64 r) ∧ St w0 w' I [objO at_session_Table p0 a0] R := by {
 rcases a0 with _ | o0
 {
 obtain ⟨rfl, hst'⟩ := objO_none hst
 clear hst
 have hst := hst'
 clear hst'
 dsimp only [session_Table_Last] at hm
 refine calls_start (args := [.pointer none, U6 a1]) func61 z ntmps61 (Nat.le_of_ble_eq_true z) ?_
 refine wp_seq (wrl (wv (.int .u64 (0:Int)) z z z (wl_nil (tn (wp_seq (wrl (wv (.pointer none) z z z (wv (.int .u64 a1) z z z ?_))))))))
 replace hst := hst.objO_nil at_session_Table
 obtain ⟨t285, ht286, hm⟩ := bind_some hm
 refine wc call148 [.pointer none, U6 a1] z z z ?_
 refine (session_Table_find_ref hst.to1 ht286).mono ?_
 rintro _ w287 ⟨rfl, hst⟩
 refine ⟨_, z, ?_⟩
 replace hst := hst.of1
 refine wv (.tuple #[I6 t285.1, .bool t285.2]) z z z (wv (.int .i64 t285.1) z z z (wv (.bool t285.2) z z z (wv (.int .i64 t285.1) z z z (wv (.bool t285.2) z z z (wl_nil (tn (wp_seq (wp_seq (wrl (wv (.bool t285.2) z z z (wv (.bool (!t285.2)) z z z (wl_nil (tn ?_)))))))))))))
 refine bsplit (!t285.2) (fun hc290 => ?_) (fun hc290 => ?_)
 {
 replace hm := bif_t hc290 hm
 refine wp_ift (cvb hc290) ?_
 refine wp_seq (wrl (wv (.int .u64 (0:Int)) z z z (wl_nil (tn (wp_ret (then_r ?_))))))
 replace hst := hst.objO_nil at_session_Table
 obtain rfl := some_inj hm
 refine post_ret (vs := [Zu]) results61 (rvs_cons (rv_tmp z) rvs_nil) ?_
 exact ⟨z, hst.keep1⟩
}
 {
 replace hm := bif_f hc290 hm
 refine wp_iff (cvb hc290) ?_
 refine wp_skip (tn (wp_seq (wrl ?_)))
 refine wv (.pointer none) z z z ?_
 cases hm
}
}
 {
 replace hst := objO_get hst
 dsimp only [session_Table_Last] at hm
 refine calls_start (args := [p0, U6 a1]) func61 z ntmps61 (Nat.le_of_ble_eq_true z) ?_
 refine wp_seq (wrl (wv (.int .u64 (0:Int)) z z z (wl_nil (tn (wp_seq (wrl (wv (p0) z z z (wv (.int .u64 a1) z z z ?_))))))))
 replace hst := objO_some hst
 obtain ⟨t291, ht292, hm⟩ := bind_some hm
 refine wc call148 [p0, U6 a1] z z z ?_
 refine (session_Table_find_ref hst.to1 ht292).mono ?_
 rintro _ w293 ⟨rfl, hst⟩
 refine ⟨_, z, ?_⟩
 replace hst := hst.of1
 replace hst := objO_get hst
 refine wv (.tuple #[I6 t291.1, .bool t291.2]) z z z (wv (.int .i64 t291.1) z z z (wv (.bool t291.2) z z z (wv (.int .i64 t291.1) z z z (wv (.bool t291.2) z z z (wl_nil (tn (wp_seq (wp_seq (wrl (wv (.bool t291.2) z z z (wv (.bool (!t291.2)) z z z (wl_nil (tn ?_)))))))))))))
 refine bsplit (!t291.2) (fun hc296 => ?_) (fun hc296 => ?_)
 {
 replace hm := bif_t hc296 hm
 refine wp_ift (cvb hc296) ?_
 refine wp_seq (wrl (wv (.int .u64 (0:Int)) z z z (wl_nil (tn (wp_ret (then_r ?_))))))
 replace hst := objO_some hst
 obtain rfl := some_inj hm
 refine post_ret (vs := [Zu]) results61 (rvs_cons (rv_tmp z) rvs_nil) ?_
 exact ⟨z, hst.keep1⟩
}
 {
 replace hm := bif_f hc296 hm
 refine wp_iff (cvb hc296) ?_
 refine wp_skip (tn (wp_seq (wrl ?_)))
 refine wv (p0) z z z ?_
 obtain ⟨b297, v298, rfl, hst'⟩ := at_session_Table_open hst
 clear hst
 have hst := hst'
 clear hst'
 refine wv (Pt b297 0) z z z (wv (Pt b297 0) z z (x_field z underlying206 z sizeOf204 z) (wv (v298) z z (x_load z isAgg204 (hst.bc0 z)) (wv (.int .i64 t291.1) z z z ?_)))
 obtain ⟨x300, hx301, hm⟩ := bind_some hm
 obtain ⟨h302, h303, hi304⟩ := geto_some hx301
 refine wv (.pointer (some (eAddr v298 (t291.1.toNat * 7 + 0)))) z z (x_index z z underlying204 sizeOf242 hst.sv1 h302 h303) (wv (.pointer (some (eAddr v298 (t291.1.toNat * 7 + 1)))) z z (x_field_e z underlying242 z sizeOf26 z) ?_)
 obtain ⟨cs305, hr306, hc307⟩ := hst.og1 hi304
 obtain ⟨v308, v311, rfl, f309, f312, -⟩ := hr306
 refine wv (.int .u64 x300.seq) z z (x_load z isAgg26 (hc307 1 _ z)) (wv (.int .u64 x300.seq) z z z (wl_nil (tn (wp_ret ?_))))
 replace hst := hst.pull1.pull1
 replace hst := at_session_Table_close (pv := Pt b297 0) (x := o0) hst z
 replace hst := objO_some hst
 obtain rfl := some_inj hm
 refine post_ret (vs := [U6 x300.seq]) results61 (rvs_cons (rv_tmp z) rvs_nil) ?_
 exact ⟨z, hst.keep1⟩
}
}
}

theorem lane_State_late_ref {w0 w : World} {I : HL} {R : SP} {a0 : (Option lane_State)} {p0 : Value} {a1 : api_ID}  (hst : St w0 w I [objO at_lane_State p0 a0] R) {r : (api_Effect)} (hm : lane_State_late a0 a1 = some r) :
  Calls prog 125 #[p0, .agg #[U6 a1.Session, U6 a1.Seq]] w fun e w' => ∃ (q0_0 : Value) (q0_1 : Value), e = .returned (.agg #[U1 r.Kind, U6 r.ID.Session, U6 r.ID.Seq, I6 r.R.E, U6 r.R.Epoch, U6 r.R.Index, q0_0, q0_1]) ∧ St w0 w' I [ownS ty_api_Got q0_0 r.R.Gots, ownS (tySl ty_api_Pair) q0_1 r.R.Scans, objO at_lane_State p0 a0] R := by {
 rcases a0 with _ | o0
 {
 obtain ⟨rfl, hst'⟩ := objO_none hst
 clear hst
 have hst := hst'
 clear hst'
 dsimp only [lane_State_late] at hm
 refine calls_start (args := [.pointer none, .agg #[U6 a1.Session, U6 a1.Seq]]) func125 z ntmps125 (Nat.le_of_ble_eq_true z) ?_
 refine wp_seq (wrl ?_)
 obtain ⟨b296, w297, ew298, eb299, hst⟩ := hst.box [U6 a1.Session, U6 a1.Seq] 28
 refine wl_run (v := Pt b296 0) (w' := w297) z z (x_al (by kernel_rfl) ew298 eb299) ?_
 obtain ⟨b303, w304, ew305, eb306, hst⟩ := hst.box [Zb, Zu, Zu, Zi, Zu, Zu, Zs, Zs] 35
 refine wl_run (v := Pt b303 0) (w' := w304) z z (x_al (by kernel_rfl) ew305 eb306) ?_
 refine wl_nil (tn (wp_seq (wp_seq ?_)))
 refine wp_region_St hst 10 [0, 1, 2, 3, 4, 5, 6, 7, 8, 9] [0, 1, 3, 7, 0, 16, 63, 0, 128, 511] [] z (by kernel_rfl) (by kernel_rfl) Tryz.mixed (by kernel_rfl) ?_
 refine wsr (.pointer none) 0 z z z (by kernel_rfl) (fun w hst => z) ?_
 cases hm
}
 {
 replace hst := objO_get hst
 dsimp only [lane_State_late] at hm
 refine calls_start (args := [p0, .agg #[U6 a1.Session, U6 a1.Seq]]) func125 z ntmps125 (Nat.le_of_ble_eq_true z) ?_
 refine wp_seq (wrl ?_)
 obtain ⟨b308, w309, ew310, eb311, hst⟩ := hst.box [U6 a1.Session, U6 a1.Seq] 28
 refine wl_run (v := Pt b308 0) (w' := w309) z z (x_al (by kernel_rfl) ew310 eb311) ?_
 obtain ⟨b315, w316, ew317, eb318, hst⟩ := hst.box [Zb, Zu, Zu, Zi, Zu, Zu, Zs, Zs] 35
 refine wl_run (v := Pt b315 0) (w' := w316) z z (x_al (by kernel_rfl) ew317 eb318) ?_
 refine wl_nil (tn (wp_seq (wp_seq ?_)))
 replace hst := hst.pull2
 obtain ⟨b320, v321, v323, v325, v327, v329, v331, v333, rfl, hst'⟩ := at_lane_State_open hst
 clear hst
 have hst := hst'
 clear hst'
 refine wp_region_St hst 10 [0, 1, 2, 3, 4, 5, 6, 7, 8, 9] [0, 1, 3, 7, 0, 16, 63, 0, 128, 511] [] z (by kernel_rfl) (by kernel_rfl) Tryz.mixed (by kernel_rfl) ?_
 refine wsr (Pt b320 0) 0 z z z (by kernel_rfl) (fun w hst => z) (wsr (Pt b320 0) 1 z z z (by kernel_rfl) (fun w hst => z) (wsr (Pt b320 4) 2 z z z (by kernel_rfl) (fun w hst => x_field z underlying111 z sizeOf105 z) (wsr (v325) 3 z z z (by kernel_rfl) (fun w hst => x_load z isAgg105 (hst.bc0 z)) (wsr (Pt b308 0) 4 z z z (by kernel_rfl) (fun w hst => x_field z underlying28 z sizeOf26 z) (wsr (.int .u64 a1.Session) 5 z z z (by kernel_rfl) (fun w hst => x_load z isAgg26 (hst.bc9 z)) (wsr (Pt b308 1) 7 z z z (by kernel_rfl) (fun w hst => x_field z underlying28 z sizeOf26 z) (wsr (.int .u64 a1.Seq) 8 z z z (by kernel_rfl) (fun w hst => x_load z isAgg26 (hst.bc9 z)) ?_)))))))
 refine ws_e1 6 (by kernel_rfl) ?_
 refine nxe [9] (by kernel_rfl) z z ?_
 clear hst
 intro w hst
 replace hst := hst.pull3
 obtain ⟨t335, ht336, hm⟩ := bind_some hm
 refine wec call61 [v325, U6 a1.Session] z z ?_
 refine (session_Table_Last_ref hst.to1 ht336).mono ?_
 rintro _ w337 ⟨rfl, hst⟩
 refine ⟨_, z, ?_⟩
 replace hst := hst.of1
 refine ws_next (pend' := [(8, U6 a1.Seq), (7, Pt b308 1)]) hst (by kernel_rfl) (pkr z z (fun w hst => x_load z isAgg26 (hst.bc9 z)) (pkr z z (fun w hst => x_field z underlying28 z sizeOf26 z) pk_nil)) ?_
 refine wsr (.bool (decide (t335 ≤ a1.Seq))) 9 z z z (by kernel_rfl) (fun w hst => z) ?_
 refine ws_nil ?_
 intro w hst
 refine tn ?_
 refine bsplit (decide (t335 ≤ a1.Seq)) (fun hc340 => ?_) (fun hc340 => ?_)
 {
 replace hm := bif_t hc340 hm
 refine wp_ift (cvb hc340) ?_
 refine wp_seq (wrl (wv (.agg #[Zb, Zu, Zu, Zi, Zu, Zu, Zs, Zs]) z z (by kernel_rfl) ?_))
 replace hst := hst.pull8
 obtain ⟨w343, hr344, hst⟩ := hst.bx [Zb, Zu, Zu, Zi, Zu, Zu, Zs, Zs] sizeOf35 z (oC z (oC z (oC z (oC z (oC z (oC z (oC z (oC z oN)))))))) (by kernel_rfl)
 refine wl_unit z z (x_unit hr344) ?_
 refine wl_nil (tn (wp_ret (then_r ?_)))
 replace hst := hst.own_nil ty_api_Got
 replace hst := hst.own_nil (tySl ty_api_Pair)
 replace hst := hst.pull10.pull10.pull10.pull10.pull7.pull10.pull10.pull10
 replace hst := at_lane_State_close (pv := Pt b320 0) (x := o0) hst z
 replace hst := objO_some hst
 obtain rfl := some_inj hm
 refine post_ret (vs := [.agg #[Zb, Zu, Zu, Zi, Zu, Zu, Zs, Zs]]) results125 (rvs_cons (rv_cell (cs := [Zb, Zu, Zu, Zi, Zu, Zu, Zs, Zs]) z isAgg35 sizeOf35 (hst.bcs3 0 z)) rvs_nil) ?_
 replace hst := hst.pull1.pull2
 exact ⟨(.slice none 0 0), Zs, z, hst.keep3⟩
}
 {
 replace hm := bif_f hc340 hm
 refine wp_iff (cvb hc340) ?_
 refine wp_skip (tn (wp_seq (wrl ?_)))
 refine wv (.agg #[U6 a1.Session, U6 a1.Seq]) z z (x_loadN (cs := [U6 a1.Session, U6 a1.Seq]) z isAgg28 sizeOf28 (hst.bcs9 0 z)) (wv (.agg #[I6 (10:Int), Zu, Zu, Zs, Zs]) z z (by kernel_rfl) (wv (.agg #[U1 (4:Int), U6 a1.Session, U6 a1.Seq, I6 (10:Int), Zu, Zu, Zs, Zs]) z z (by kernel_rfl) ?_))
 replace hst := hst.pull8
 obtain ⟨w349, hr350, hst⟩ := hst.bx [U1 (4:Int), U6 a1.Session, U6 a1.Seq, I6 (10:Int), Zu, Zu, Zs, Zs] sizeOf35 z (oC z (oC z (oC z (oC z (oC z (oC z (oC z (oC z oN)))))))) (by kernel_rfl)
 refine wl_unit z z (x_unit hr350) ?_
 refine wl_nil (tn (wp_ret ?_))
 replace hst := hst.own_nil ty_api_Got
 replace hst := hst.own_nil (tySl ty_api_Pair)
 replace hst := hst.pull10.pull10.pull10.pull10.pull7.pull10.pull10.pull10
 replace hst := at_lane_State_close (pv := Pt b320 0) (x := o0) hst z
 replace hst := objO_some hst
 obtain rfl := some_inj hm
 refine post_ret (vs := [.agg #[U1 (4:Int), U6 a1.Session, U6 a1.Seq, I6 (10:Int), Zu, Zu, Zs, Zs]]) results125 (rvs_cons (rv_cell (cs := [U1 (4:Int), U6 a1.Session, U6 a1.Seq, I6 (10:Int), Zu, Zu, Zs, Zs]) z isAgg35 sizeOf35 (hst.bcs3 0 z)) rvs_nil) ?_
 replace hst := hst.pull1.pull2
 exact ⟨(.slice none 0 0), Zs, z, hst.keep3⟩
}
}
}

theorem slices_Clone_api_Part_api_Part_ref {w0 w : World} {I : HL} {R : SP} {a0 : (List api_Part)} {r0_0 : Value} (f0_0 : RdO ty_api_Part R I r0_0 a0) (hst : St w0 w I [] R) {r : (List api_Part)} (hm : slices_Clone_api_Part_api_Part a0 = some r) :
  Calls prog 126 #[r0_0] w fun e w' => ∃ (q0_0 : Value), e = .returned (q0_0) ∧ St w0 w' I [ownS ty_api_Part q0_0 r] R := by {
 unfold slices_Clone_api_Part_api_Part at hm
 obtain ⟨hg, hm⟩ := gd_some hm
 obtain rfl := some_inj hm
 have hsv := rdo_sliceV f0_0
 refine calls_start (args := [r0_0]) func126 z ntmps126 (Nat.le_of_ble_eq_true z) ?_
 refine wp_seq (wrl (wv ((.slice none 0 0)) z z z (wl_nil (tn (wp_seq (wp_seq (wrl (wv (r0_0) z z z (wv (.bool (isNil r0_0)) z z (x_slnil z hsv z underlying47) (wl_nil (tn ?_)))))))))))
 refine bsplit (isNil r0_0) (fun hc261 => ?_) (fun hc261 => ?_)
 {
 refine wp_ift (cvb hc261) ?_
 refine wp_seq (wrl (wv ((.slice none 0 0)) z z z (wl_nil (tn (wp_ret (then_r ?_))))))
 refine post_ret (vs := [Zs]) results126 (rvs_cons (rv_tmp z) rvs_nil) ?_
 obtain rfl := List.eq_nil_of_length_eq_zero (isNil_len hsv hc261)
 exact ⟨_, z, (hst.own_nil ty_api_Part).keep1⟩
}
 {
 refine wp_iff (cvb hc261) ?_
 refine wp_skip (tn (wp_seq (wrl ?_)))
 obtain ⟨b, w1, ew, eb, hst⟩ := hst.lits (E := ty_api_Part) (xs := []) [] 156 0 z Reps.nil
 refine wl_run (v := (.slice (some ⟨b, 0, none⟩) 0 0)) (w' := w1) z z (x_als (by kernel_rfl) ew eb) ?_
 refine wv (r0_0) z z z ?_
 obtain ⟨v2, w2, hr, hst⟩ := run_append elem_47 underlying47 hst (Src.of_rdo hst f0_0) (room_of hg z) 47
 refine wl_run (v := v2) (w' := w2) z z (x_append z z hr) ?_
 refine wv (v2) z z z (wl_nil (tn (wp_ret ?_)))
 refine post_ret (vs := [v2]) results126 (rvs_cons (rv_tmp z) rvs_nil) ?_
 rw [List.nil_append] at hst
 exact ⟨_, z, hst.keep1⟩
}
}

theorem lane_State_find_1_ref {w0 w : World} {I : HL} {R : SP} {a0 : api_Decision} {r0_0 : Value} {a1 : api_ID} (f0_0 : Rd ty_api_Part R I r0_0 a0.Parts) (hst : St w0 w I [] R) {r : (Int)} (hm : lane_State_find_1 a0 a1 = some r) :
  Calls prog 129 #[.agg #[U6 a0.ID.Session, U6 a0.ID.Seq, I6 a0.E, U6 a0.Epoch, U6 a0.Index, U6 a0.Shards, r0_0], .agg #[U6 a1.Session, U6 a1.Seq]] w fun e w' => e = .returned (.int .i64 r) ∧ St w0 w' I [] R := by {
 unfold lane_State_find_1 at hm
 refine calls_start (args := [.agg #[U6 a0.ID.Session, U6 a0.ID.Seq, I6 a0.E, U6 a0.Epoch, U6 a0.Index, U6 a0.Shards, r0_0], .agg #[U6 a1.Session, U6 a1.Seq]]) func129 z ntmps129 (Nat.le_of_ble_eq_true z) ?_
 refine wp_seq (wrl ?_)
 obtain ⟨b357, w358, ew359, eb360, hst⟩ := hst.box [U6 a0.ID.Session, U6 a0.ID.Seq, I6 a0.E, U6 a0.Epoch, U6 a0.Index, U6 a0.Shards, r0_0] 89
 refine wl_run (v := Pt b357 0) (w' := w358) z z (x_al (by kernel_rfl) ew359 eb360) ?_
 obtain ⟨b362, w363, ew364, eb365, hst⟩ := hst.box [U6 a1.Session, U6 a1.Seq] 28
 refine wl_run (v := Pt b362 0) (w' := w363) z z (x_al (by kernel_rfl) ew364 eb365) ?_
 refine wv (.int .i64 (0:Int)) z z z (wl_nil (tn (wp_seq ?_)))
 refine wp_region_St hst 15 [0, 1, 2, 3, 4, 5, 6, 7, 8, 9, 10, 11, 12, 13, 14] [0, 1, 3, 0, 8, 31, 0, 64, 192, 0, 512, 2047, 4095, 8191, 16383] [] z (by kernel_rfl) (by kernel_rfl) Tryz.mixed (by kernel_rfl) ?_
 refine wsr (Pt b357 0) 0 z z z (by kernel_rfl) (fun w hst => x_field z underlying89 z sizeOf28 z) (wsr (Pt b357 0) 1 z z z (by kernel_rfl) (fun w hst => x_field z underlying28 z sizeOf26 z) (wsr (.int .u64 a0.ID.Session) 2 z z z (by kernel_rfl) (fun w hst => x_load z isAgg26 (hst.bc1 z)) (wsr (Pt b362 0) 3 z z z (by kernel_rfl) (fun w hst => x_field z underlying28 z sizeOf26 z) (wsr (.int .u64 a1.Session) 4 z z z (by kernel_rfl) (fun w hst => x_load z isAgg26 (hst.bc0 z)) (wsr (Pt b357 0) 6 z z z (by kernel_rfl) (fun w hst => x_field z underlying89 z sizeOf28 z) (wsr (Pt b357 1) 7 z z z (by kernel_rfl) (fun w hst => x_field z underlying28 z sizeOf26 z) (wsr (.int .u64 a0.ID.Seq) 8 z z z (by kernel_rfl) (fun w hst => x_load z isAgg26 (hst.bc1 z)) (wsr (Pt b362 1) 9 z z z (by kernel_rfl) (fun w hst => x_field z underlying28 z sizeOf26 z) (wsr (.int .u64 a1.Seq) 10 z z z (by kernel_rfl) (fun w hst => x_load z isAgg26 (hst.bc0 z)) ?_)))))))))
 refine ws_e1 5 (by kernel_rfl) ?_
 refine nxe [11, 12, 13, 14] (by kernel_rfl) z z ?_
 clear hst
 intro w hst
 obtain ⟨t367, ht368, hm⟩ := bind_some hm
 refine wec call131 [U6 a0.ID.Session, U6 a1.Session] z z ?_
 refine (cmp_Compare_uint64_ref hst.to0 ht368).mono ?_
 rintro _ w369 ⟨rfl, hst⟩
 refine ⟨_, z, ?_⟩
 replace hst := hst.of0
 refine ws_next (pend' := [(10, U6 a1.Seq), (9, Pt b362 1), (8, U6 a0.ID.Seq), (7, Pt b357 1), (6, Pt b357 0)]) hst (by kernel_rfl) (pkr z z (fun w hst => x_load z isAgg26 (hst.bc0 z)) (pkr z z (fun w hst => x_field z underlying28 z sizeOf26 z) (pkr z z (fun w hst => x_load z isAgg26 (hst.bc1 z)) (pkr z z (fun w hst => x_field z underlying28 z sizeOf26 z) (pkr z z (fun w hst => x_field z underlying89 z sizeOf28 z) pk_nil))))) ?_
 refine ws_e1 11 (by kernel_rfl) ?_
 refine nxe [12, 13, 14] (by kernel_rfl) z z ?_
 clear hst
 intro w hst
 obtain ⟨t372, ht373, hm⟩ := bind_some hm
 refine wec call131 [U6 a0.ID.Seq, U6 a1.Seq] z z ?_
 refine (cmp_Compare_uint64_ref hst.to0 ht373).mono ?_
 rintro _ w374 ⟨rfl, hst⟩
 refine ⟨_, z, ?_⟩
 replace hst := hst.of0
 refine ws_next (pend' := []) hst (by kernel_rfl) pk_nil ?_
 refine ws_e1 12 (by kernel_rfl) ?_
 refine nxe [13, 14] (by kernel_rfl) z z ?_
 clear hst
 intro w hst
 obtain ⟨b377, w378, ew379, eb380, hst⟩ := hst.lits (E := (tyInt .i64)) (xs := [t367, t372]) [[I6 t367], [I6 t372]] 3 2 z (Reps.cons z (Reps.cons z Reps.nil))
 refine we_run (v := (.slice (some ⟨b377, 0, none⟩) 2 2)) (w' := w378) z (x_als (by kernel_rfl) ew379 eb380) ?_
 refine ws_next (pend' := []) hst (by kernel_rfl) pk_nil ?_
 refine ws_e1 13 (by kernel_rfl) ?_
 refine nxe [14] (by kernel_rfl) z z ?_
 clear hst
 intro w hst
 obtain ⟨css382, hq383, hst⟩ := hst.own_open
 obtain ⟨t384, ht385, hm⟩ := bind_some hm
 refine wec call130 [(.slice (some ⟨b377, 0, none⟩) 2 2)] z z ?_
 refine (cmp_Or_int_ref (hst.rdrow0 hq383) hst.to0 ht385).mono ?_
 rintro _ w386 ⟨rfl, hst⟩
 refine ⟨_, z, ?_⟩
 replace hst := hst.of0.own_close hq383
 refine ws_next (pend' := []) hst (by kernel_rfl) pk_nil ?_
 refine wsr (.int .i64 t384) 14 z z z (by kernel_rfl) (fun w hst => z) ?_
 refine ws_nil ?_
 intro w hst
 refine tn (wp_ret ?_)
 obtain rfl := some_inj hm
 refine post_ret (vs := [I6 t384]) results129 (rvs_cons (rv_tmp z) rvs_nil) ?_
 exact ⟨z, hst.keep0⟩
}

theorem lane_State_find_ref {w0 w : World} {I : HL} {R : SP} {a0 : (Option lane_State)} {p0 : Value} {a1 : api_ID}  (hst : St w0 w I [objO at_lane_State p0 a0] R) {r : (Int × Bool)} (hm : lane_State_find a0 a1 = some r) :
  Calls prog 51 #[p0, .agg #[U6 a1.Session, U6 a1.Seq]] w fun e w' => e = .returned (.tuple #[I6 r.1, .bool r.2]) ∧ St w0 w' I [objO at_lane_State p0 a0] R := by {
 rcases a0 with _ | o0
 {
 obtain ⟨rfl, hst'⟩ := objO_none hst
 clear hst
 have hst := hst'
 clear hst'
 dsimp only [lane_State_find] at hm
 refine calls_start (args := [.pointer none, .agg #[U6 a1.Session, U6 a1.Seq]]) func51 z ntmps51 (Nat.le_of_ble_eq_true z) ?_
 refine wp_seq (wrl ?_)
 obtain ⟨b413, w414, ew415, eb416, hst⟩ := hst.box [U6 a1.Session, U6 a1.Seq] 28
 refine wl_run (v := Pt b413 0) (w' := w414) z z (x_al (by kernel_rfl) ew415 eb416) ?_
 refine wv (.int .i64 (0:Int)) z z z (wv (.bool false) z z z (wl_nil (tn (wp_seq ?_))))
 refine wp_region_St hst 10 [0, 1, 2, 3, 4, 5, 6, 7, 8, 9] [0, 1, 3, 7, 0, 31, 63, 63, 255, 511] [] z (by kernel_rfl) (by kernel_rfl) Tryz.mixed (by kernel_rfl) ?_
 refine wsr (.pointer none) 0 z z z (by kernel_rfl) (fun w hst => z) ?_
 cases hm
}
 {
 replace hst := objO_get hst
 dsimp only [lane_State_find] at hm
 refine calls_start (args := [p0, .agg #[U6 a1.Session, U6 a1.Seq]]) func51 z ntmps51 (Nat.le_of_ble_eq_true z) ?_
 refine wp_seq (wrl ?_)
 obtain ⟨b418, w419, ew420, eb421, hst⟩ := hst.box [U6 a1.Session, U6 a1.Seq] 28
 refine wl_run (v := Pt b418 0) (w' := w419) z z (x_al (by kernel_rfl) ew420 eb421) ?_
 refine wv (.int .i64 (0:Int)) z z z (wv (.bool false) z z z (wl_nil (tn (wp_seq ?_))))
 replace hst := hst.pull1
 obtain ⟨b423, v424, v426, v428, v430, v432, v434, v436, rfl, hst'⟩ := at_lane_State_open hst
 clear hst
 have hst := hst'
 clear hst'
 refine wp_region_St hst 10 [0, 1, 2, 3, 4, 5, 6, 7, 8, 9] [0, 1, 3, 7, 0, 31, 63, 63, 255, 511] [] z (by kernel_rfl) (by kernel_rfl) Tryz.mixed (by kernel_rfl) ?_
 refine wsr (Pt b423 0) 0 z z z (by kernel_rfl) (fun w hst => z) (wsr (Pt b423 0) 1 z z z (by kernel_rfl) (fun w hst => z) (wsr (Pt b423 6) 2 z z z (by kernel_rfl) (fun w hst => x_field z underlying111 z sizeOf65 z) (wsr (v432) 3 z z z (by kernel_rfl) (fun w hst => x_load z isAgg65 (hst.bc0 z)) (wsr (.agg #[U6 a1.Session, U6 a1.Seq]) 4 z z z (by kernel_rfl) (fun w hst => x_loadN (cs := [U6 a1.Session, U6 a1.Seq]) z isAgg28 sizeOf28 (hst.bcs8 0 z)) ?_))))
 refine ws_e1 5 (by kernel_rfl) ?_
 refine nxe [6, 7, 8, 9] (by kernel_rfl) z z ?_
 clear hst
 intro w hst
 obtain ⟨y543, hq544, hm⟩ := bind_some hm
 refine we_call z (x_callv call128 (caps := []) z (vs := [v432, .agg #[U6 a1.Session, U6 a1.Seq], .func (.func 129) #[] #[]]) z) ?_
 refine Calls.mono (show Calls prog 128 #[v432, .agg #[U6 a1.Session, U6 a1.Seq], .func (.func 129) #[] #[]] _ (fun e w' => ∃ (z540 : Int) (z541 : Bool), (z540, z541) = y543 ∧ e = .returned (.tuple #[I6 z540, .bool z541]) ∧ St w0 w' I [cells b423 [I6 o0.wide, U6 o0.epoch, v424, v426, v428, v430, v432, v434, v436], objO at_mvcc_Store v424 o0.store, objO at_locks_Table v426 o0.locks, objO at_session_Table v428 o0.last, objO at_policy_Book v430 o0.book, ownS ty_api_Decision v432 o0.open_, ownS ty_api_Item v434 o0.out, ownS ty_lane_used v436 o0.used, cells b418 [U6 a1.Session, U6 a1.Seq]] R) from ?_) ?_
 {
 clear hm; have hm := hq544
 refine calls_start (args := [v432, .agg #[U6 a1.Session, U6 a1.Seq], .func (.func 129) #[] #[]]) func128 z ntmps128 (Nat.le_of_ble_eq_true z) ?_
 refine wp_seq (wrl ?_)
 obtain ⟨b438, w439, ew440, eb441, hst⟩ := hst.box [U6 a1.Session, U6 a1.Seq] 28
 refine wl_run (v := Pt b438 0) (w' := w439) z z (x_al (by kernel_rfl) ew440 eb441) ?_
 refine wv (.int .i64 (0:Int)) z z z (wv (.bool false) z z z (wl_nil (tn (wp_seq (wrl (wv (v432) z z z (wv (.int .i64 ((o0.open_).length : Int)) z z (x_len z underlying65 hst.sv6) (wv (.int .i64 ((o0.open_).length : Int)) z z z (wl_nil (tn (wp_seq (wrl (wv (.int .i64 ((o0.open_).length : Int)) z z z (wv (.int .i64 (0:Int)) z z z (wv (.int .i64 ((o0.open_).length : Int)) z z z (wl_nil (tn ?_)))))))))))))))))
 obtain ⟨y518, hm, hx519⟩ := bind_some hm
 refine wp_cut (fun a w => ∃ (z515 : Int) (σ516 : Nat → Value), (lane_State_find_j0 o0 a1) z515 = some y543 ∧ a = Fr 49 (upd (upd (upd (upd (upd σ516 0 (v432)) 2 (.func (.func 129) #[] #[])) 4 (Pt b438 0)) 8 (.int .i64 ((o0.open_).length : Int))) 9 (.int .i64 z515)) ∧ St w0 w I [ownS ty_api_Decision v432 o0.open_, cells b438 [U6 a1.Session, U6 a1.Seq], cells b423 [I6 o0.wide, U6 o0.epoch, v424, v426, v428, v430, v432, v434, v436], objO at_mvcc_Store v424 o0.store, objO at_locks_Table v426 o0.locks, objO at_session_Table v428 o0.last, objO at_policy_Book v430 o0.book, ownS ty_api_Item v434 o0.out, ownS ty_lane_used v436 o0.used, cells b418 [U6 a1.Session, U6 a1.Seq]] R) ?_ ?_
 {
 refine wp_block ?_
 obtain ⟨n488, hm⟩ := loopO_some hm
 refine wp_loop_n (fun n a w => ∃ (z485 : Int) (z486 : Int) (σ487 : Nat → Value), loopN (lane_State_find_l1 o0 a1) n (z485, z486) = some y518 ∧ a = Fr 49 (upd (upd (upd (upd (upd (upd σ487 0 (v432)) 2 (.func (.func 129) #[] #[])) 4 (Pt b438 0)) 8 (.int .i64 ((o0.open_).length : Int))) 9 (.int .i64 z486)) 10 (.int .i64 z485)) ∧ St w0 w I [cells b438 [U6 a1.Session, U6 a1.Seq], cells b423 [I6 o0.wide, U6 o0.epoch, v424, v426, v428, v430, v432, v434, v436], objO at_mvcc_Store v424 o0.store, objO at_locks_Table v426 o0.locks, objO at_session_Table v428 o0.last, objO at_policy_Book v430 o0.book, ownS ty_api_Decision v432 o0.open_, ownS ty_api_Item v434 o0.out, ownS ty_lane_used v436 o0.used, cells b418 [U6 a1.Session, U6 a1.Seq]] R) n488 ⟨((o0.open_).length : Int), (0:Int), _, hm, (fu 0 v432 z (fu 2 (.func (.func 129) #[] #[]) z (fu 4 (Pt b438 0) z (fu 8 (.int .i64 ((o0.open_).length : Int)) z (fu 9 (.int .i64 (0:Int)) z (fu 10 (.int .i64 ((o0.open_).length : Int)) z z)))))), hst⟩ ?_
 rintro n494 _ w489 ⟨z485, z486, σ487, hm, rfl, hst⟩
 obtain ⟨n491, y492, rfl, hm, hx493⟩ := loopN_some hm
 dsimp only [lane_State_find_l1] at hm
 refine wp_seq (wp_seq (wrl (wv (.int .i64 z486) z z z (wv (.int .i64 z485) z z z (wv (.bool (decide (z486 < z485))) z z z (wl_nil (tn ?_)))))))
 refine bsplit (decide (z486 < z485)) (fun hc495 => ?_) (fun hc495 => ?_)
 {
 replace hm := bif_t hc495 hm
 refine wp_ift (cvb hc495) ?_
 refine wp_skip (tn (wp_block (wp_seq (wrl ?_))))
 refine wv (.int .i64 z486) z z z (wv (.int .i64 z485) z z z (wv (.int .i64 (i64.wrap (z486 + z485))) z z z (wv (.int .u64 (u64.wrap (i64.wrap (z486 + z485)))) z z (by kernel_rfl) (wv (.int .u64 (iShr .u64 (u64.wrap (i64.wrap (z486 + z485))) (1:Int))) z z (x_shr (by decide) z z) (wv (.int .i64 (i64.wrap (iShr .u64 (u64.wrap (i64.wrap (z486 + z485))) (1:Int)))) z z (by kernel_rfl) (wv (.int .i64 (i64.wrap (iShr .u64 (u64.wrap (i64.wrap (z486 + z485))) (1:Int)))) z z z (wl_nil (tn (wp_seq ?_)))))))))
 replace hst := hst.pull6
 obtain ⟨css496, hq497, hst⟩ := hst.own_open
 refine wp_region_St hst 8 [0, 1, 2, 3, 4, 5, 6, 7] [0, 0, 0, 6, 14, 0, 63, 127] [] z (by kernel_rfl) (by kernel_rfl) Tryz.mixed (by kernel_rfl) ?_
 refine wsr (.func (.func 129) #[] #[]) 0 z z z (by kernel_rfl) (fun w hst => z) (wsr (v432) 1 z z z (by kernel_rfl) (fun w hst => z) (wsr (.int .i64 (i64.wrap (iShr .u64 (u64.wrap (i64.wrap (z486 + z485))) (1:Int)))) 2 z z z (by kernel_rfl) (fun w hst => z) ?_))
 obtain ⟨x498, hx499, hm⟩ := bind_some hm
 obtain ⟨h500, h501, hi502⟩ := geto_some hx499
 refine wsr (.pointer (some (eAddr v432 ((i64.wrap (iShr .u64 (u64.wrap (i64.wrap (z486 + z485))) (1:Int))).toNat * 7 + 0)))) 3 z z z (by kernel_rfl) (fun w hst => x_index z z underlying65 sizeOf89 (hst.rsv 0 z hq497) h500 h501) ?_
 obtain ⟨cs503, hc505, hr504⟩ := Reps.get hq497 hi502
 obtain ⟨v506, rfl, f507, -⟩ := hr504
 refine wsr (.agg #[U6 x498.ID.Session, U6 x498.ID.Seq, I6 x498.E, U6 x498.Epoch, U6 x498.Index, U6 x498.Shards, v506]) 4 z z z (by kernel_rfl) (fun w hst => x_loadN (cs := [U6 x498.ID.Session, U6 x498.ID.Seq, I6 x498.E, U6 x498.Epoch, U6 x498.Index, U6 x498.Shards, v506]) z isAgg89 sizeOf89 (eCells (o := 0) (hst.rcell 0 z hc505) z)) (wsr (.agg #[U6 a1.Session, U6 a1.Seq]) 5 z z z (by kernel_rfl) (fun w hst => x_loadN (cs := [U6 a1.Session, U6 a1.Seq]) z isAgg28 sizeOf28 (hst.bcs1 0 z)) ?_)
 refine ws_e1 6 (by kernel_rfl) ?_
 refine nxe [7] (by kernel_rfl) z z ?_
 clear hst
 intro w hst
 obtain ⟨t509, ht510, hm⟩ := bind_some hm
 refine we_call z (x_callv call129 (caps := []) z (vs := [.agg #[U6 x498.ID.Session, U6 x498.ID.Seq, I6 x498.E, U6 x498.Epoch, U6 x498.Index, U6 x498.Shards, v506], .agg #[U6 a1.Session, U6 a1.Seq]]) z) ?_
 refine (lane_State_find_1_ref (f507.mono ro_rd) hst.to0 ht510).mono ?_
 rintro _ w511 ⟨rfl, hst⟩
 refine ⟨_, z, ?_⟩
 replace hst := hst.of0
 refine ws_next (pend' := []) hst (by kernel_rfl) pk_nil ?_
 refine wsr (.bool (decide (t509 < (0:Int)))) 7 z z z (by kernel_rfl) (fun w hst => z) ?_
 refine ws_nil ?_
 intro w hst
 replace hst := hst.own_close hq497
 refine tn ?_
 refine bsplit (decide (t509 < (0:Int))) (fun hc514 => ?_) (fun hc514 => ?_)
 {
 replace hm := bif_t hc514 hm
 refine wp_ift (cvb hc514) ?_
 refine wrl (wv (.int .i64 (i64.wrap (iShr .u64 (u64.wrap (i64.wrap (z486 + z485))) (1:Int)))) z z z (wv (.int .i64 (i64.wrap ((i64.wrap (iShr .u64 (u64.wrap (i64.wrap (z486 + z485))) (1:Int))) + (1:Int)))) z z z (wv (.int .i64 (i64.wrap ((i64.wrap (iShr .u64 (u64.wrap (i64.wrap (z486 + z485))) (1:Int))) + (1:Int)))) z z z (wl_nil (blk_n (tn ?_))))))
 replace hst := hst.pull9.pull9.pull9.pull3.pull9.pull9.pull9.pull9.pull9.pull9.keep10
 obtain rfl := some_inj hm
 exact ⟨_, Nat.lt_succ_self _, z485, (i64.wrap ((i64.wrap (iShr .u64 (u64.wrap (i64.wrap (z486 + z485))) (1:Int))) + (1:Int))), _, hx493, (fu 0 v432 z (fu 2 (.func (.func 129) #[] #[]) z (fu 4 (Pt b438 0) z (fu 8 (.int .i64 ((o0.open_).length : Int)) z (fu 9 (.int .i64 (i64.wrap ((i64.wrap (iShr .u64 (u64.wrap (i64.wrap (z486 + z485))) (1:Int))) + (1:Int)))) z (fu 10 (.int .i64 z485) z z)))))), hst⟩
}
 {
 replace hm := bif_f hc514 hm
 refine wp_iff (cvb hc514) ?_
 refine wrl (wv (.int .i64 (i64.wrap (iShr .u64 (u64.wrap (i64.wrap (z486 + z485))) (1:Int)))) z z z (wv (.int .i64 (i64.wrap (iShr .u64 (u64.wrap (i64.wrap (z486 + z485))) (1:Int)))) z z z (wl_nil (blk_n (tn ?_)))))
 replace hst := hst.pull9.pull9.pull9.pull3.pull9.pull9.pull9.pull9.pull9.pull9.keep10
 obtain rfl := some_inj hm
 exact ⟨_, Nat.lt_succ_self _, (i64.wrap (iShr .u64 (u64.wrap (i64.wrap (z486 + z485))) (1:Int))), z486, _, hx493, (fu 0 v432 z (fu 2 (.func (.func 129) #[] #[]) z (fu 4 (Pt b438 0) z (fu 8 (.int .i64 ((o0.open_).length : Int)) z (fu 9 (.int .i64 z486) z (fu 10 (.int .i64 (i64.wrap (iShr .u64 (u64.wrap (i64.wrap (z486 + z485))) (1:Int)))) z z)))))), hst⟩
}
}
 {
 replace hm := bif_f hc495 hm
 refine wp_iff (cvb hc495) ?_
 refine wp_exit (then_x (then_x ?_))
 replace hm := inr_up hm hx493
 refine blk_x (tn ?_)
 replace hst := hst.pull9.pull9.pull9.pull8.pull8.pull8.pull8.pull8.pull8.pull9.keep10
 obtain rfl := some_inj hm
 exact ⟨z486, _, hx519, (fu 0 v432 z (fu 2 (.func (.func 129) #[] #[]) z (fu 4 (Pt b438 0) z (fu 8 (.int .i64 ((o0.open_).length : Int)) z (fu 9 (.int .i64 z486) z z))))), hst⟩
}
}
 {
 clear hst
 rintro _ w520 ⟨z515, σ516, hm, rfl, hst⟩
 dsimp only [lane_State_find_j0] at hm
 refine wp_seq ?_
 obtain ⟨css521, hq522, hst⟩ := hst.own_open
 refine wp_region_St hst 16 [0, 1, 2, 3, 4, 5, 6, 7, 8, 9, 10, 11, 12, 13, 14, 15] [0, 0, 0, 6, 14, 30, 30, 30, 222, 478, 30, 2046, 4094, 8190, 4095, 32767] [] z (by kernel_rfl) (by kernel_rfl) Tryz.mixed (by kernel_rfl) ?_
 refine wsr (.int .i64 z515) 0 z z z (by kernel_rfl) (fun w hst => z) (wsr (.int .i64 z515) 1 z z z (by kernel_rfl) (fun w hst => z) (wsr (.int .i64 ((o0.open_).length : Int)) 2 z z z (by kernel_rfl) (fun w hst => z) (wsr (.bool (decide (z515 < ((o0.open_).length : Int)))) 3 z z z (by kernel_rfl) (fun w hst => z) (wsr (.bool (decide (z515 < ((o0.open_).length : Int)))) 4 z z z (by kernel_rfl) (fun w hst => z) ?_))))
 refine bsplit (decide (z515 < ((o0.open_).length : Int))) (fun hc523 => ?_) (fun hc523 => ?_)
 {
 replace hm := bif_t hc523 hm
 refine ws_q (v := .func (.func 129) #[] #[]) 5 [6, 7, 8, 9, 10, 11, 12, 13, 14, 15] (by kernel_rfl) z z (yi_run ((wanted_eq z z z (cvb hc523)).trans z) (fun w hst => z)) (ws_q (v := v432) 6 [7, 8, 9, 10, 11, 12, 13, 14, 15] (by kernel_rfl) z z (yi_run ((wanted_eq z z z (cvb hc523)).trans z) (fun w hst => z)) (ws_q (v := .int .i64 z515) 7 [8, 9, 10, 11, 12, 13, 14, 15] (by kernel_rfl) z z (yi_run ((wanted_eq z z z (cvb hc523)).trans z) (fun w hst => z)) ?_))
 obtain ⟨x524, hx525, hm⟩ := bind_some hm
 obtain ⟨h526, h527, hi528⟩ := geto_some hx525
 refine ws_q (v := .pointer (some (eAddr v432 (z515.toNat * 7 + 0)))) 8 [9, 10, 11, 12, 13, 14, 15] (by kernel_rfl) z z (yi_run ((wanted_eq z z z (cvb hc523)).trans z) (fun w hst => x_index z z underlying65 sizeOf89 (hst.rsv 0 z hq522) h526 h527)) ?_
 obtain ⟨cs529, hc531, hr530⟩ := Reps.get hq522 hi528
 obtain ⟨v532, rfl, f533, -⟩ := hr530
 refine ws_q (v := .agg #[U6 x524.ID.Session, U6 x524.ID.Seq, I6 x524.E, U6 x524.Epoch, U6 x524.Index, U6 x524.Shards, v532]) 9 [10, 11, 12, 13, 14, 15] (by kernel_rfl) z z (yi_run ((wanted_eq z z z (cvb hc523)).trans z) (fun w hst => x_loadN (cs := [U6 x524.ID.Session, U6 x524.ID.Seq, I6 x524.E, U6 x524.Epoch, U6 x524.Index, U6 x524.Shards, v532]) z isAgg89 sizeOf89 (eCells (o := 0) (hst.rcell 0 z hc531) z))) (ws_q (v := .agg #[U6 a1.Session, U6 a1.Seq]) 10 [11, 12, 13, 14, 15] (by kernel_rfl) z z (yi_run ((wanted_eq z z z (cvb hc523)).trans z) (fun w hst => x_loadN (cs := [U6 a1.Session, U6 a1.Seq]) z isAgg28 sizeOf28 (hst.bcs1 0 z))) ?_)
 refine ws_e1 11 (by kernel_rfl) ?_
 refine nxe [12, 13, 14, 15] (by kernel_rfl) z ((wanted_eq z z z (cvb hc523)).trans z) ?_
 clear hst
 intro w hst
 obtain ⟨t535, ht536, hm⟩ := bind_some hm
 refine we_call z (x_callv call129 (caps := []) z (vs := [.agg #[U6 x524.ID.Session, U6 x524.ID.Seq, I6 x524.E, U6 x524.Epoch, U6 x524.Index, U6 x524.Shards, v532], .agg #[U6 a1.Session, U6 a1.Seq]]) z) ?_
 refine (lane_State_find_1_ref (f533.mono ro_rd) hst.to0 ht536).mono ?_
 rintro _ w537 ⟨rfl, hst⟩
 refine ⟨_, z, ?_⟩
 replace hst := hst.of0
 refine ws_next (pend' := [(0, I6 z515)]) hst (by kernel_rfl) (pkr z z (fun w hst => z) pk_nil) ?_
 refine ws_q (v := .bool (t535 == (0:Int))) 12 [13, 14, 15] (by kernel_rfl) z z (yi_run ((wanted_eq z z z (cvb hc523)).trans z) (fun w hst => z)) (wsr (.bool (t535 == (0:Int))) 13 z z z (by kernel_rfl) (fun w hst => x_pick_t hc523 z z) (wsr (.int .i64 z515) 14 z z z (by kernel_rfl) (fun w hst => z) (wsr (.bool (t535 == (0:Int))) 15 z z z (by kernel_rfl) (fun w hst => z) ?_)))
 refine ws_nil ?_
 intro w hst
 replace hst := hst.own_close hq522
 refine tn (wp_ret ?_)
 refine post_ret (vs := [I6 z515, .bool (t535 == (0:Int))]) results128 (rvs_cons (rv_tmp z) (rvs_cons (rv_tmp z) rvs_nil)) ?_
 replace hst := hst.pull9.pull9.pull9.pull3.pull9.pull9.pull9.pull9.pull9.keep9
 obtain rfl := some_inj hm
 exact ⟨z515, (t535 == (0:Int)), z, z, hst⟩
}
 {
 replace hm := bif_f hc523 hm
 refine ws_q (v := undef) 5 [6, 7, 8, 9, 10, 11, 12, 13, 14, 15] (by kernel_rfl) z z (yi_off ((wanted_eq z z z (cvb hc523)).trans z)) (ws_q (v := undef) 6 [7, 8, 9, 10, 11, 12, 13, 14, 15] (by kernel_rfl) z z (yi_off ((wanted_eq z z z (cvb hc523)).trans z)) (ws_q (v := undef) 7 [8, 9, 10, 11, 12, 13, 14, 15] (by kernel_rfl) z z (yi_off ((wanted_eq z z z (cvb hc523)).trans z)) (ws_q (v := undef) 8 [9, 10, 11, 12, 13, 14, 15] (by kernel_rfl) z z (yi_off ((wanted_eq z z z (cvb hc523)).trans z)) (ws_q (v := undef) 9 [10, 11, 12, 13, 14, 15] (by kernel_rfl) z z (yi_off ((wanted_eq z z z (cvb hc523)).trans z)) (ws_q (v := undef) 10 [11, 12, 13, 14, 15] (by kernel_rfl) z z (yi_off ((wanted_eq z z z (cvb hc523)).trans z)) (ws_q (v := undef) 11 [12, 13, 14, 15] (by kernel_rfl) z z (yi_off ((wanted_eq z z z (cvb hc523)).trans z)) (ws_q (v := undef) 12 [13, 14, 15] (by kernel_rfl) z z (yi_off ((wanted_eq z z z (cvb hc523)).trans z)) (wsr (.bool false) 13 z z z (by kernel_rfl) (fun w hst => x_pick_f hc523 z z) (wsr (.int .i64 z515) 14 z z z (by kernel_rfl) (fun w hst => z) (wsr (.bool false) 15 z z z (by kernel_rfl) (fun w hst => z) ?_))))))))))
 refine ws_nil ?_
 intro w hst
 replace hst := hst.own_close hq522
 refine tn (wp_ret ?_)
 refine post_ret (vs := [I6 z515, .bool false]) results128 (rvs_cons (rv_tmp z) (rvs_cons (rv_tmp z) rvs_nil)) ?_
 replace hst := hst.pull9.pull9.pull9.pull3.pull9.pull9.pull9.pull9.pull9.keep9
 obtain rfl := some_inj hm
 exact ⟨z515, false, z, z, hst⟩
}
}
}
 clear hst
 rintro _ w545 ⟨z540, z541, rfl, rfl, hst⟩
 refine ⟨_, z, ?_⟩
 try dsimp only at hm
 refine ws_next (pend' := []) hst (by kernel_rfl) pk_nil ?_
 refine wsr (.int .i64 z540) 6 z z z (by kernel_rfl) (fun w hst => z) (wsr (.bool z541) 7 z z z (by kernel_rfl) (fun w hst => z) (wsr (.int .i64 z540) 8 z z z (by kernel_rfl) (fun w hst => z) (wsr (.bool z541) 9 z z z (by kernel_rfl) (fun w hst => z) ?_)))
 refine ws_nil ?_
 intro w hst
 refine tn (wp_ret ?_)
 replace hst := hst.pull7.pull7.pull7.pull7.pull7.pull7.pull7.pull7
 replace hst := at_lane_State_close (pv := Pt b423 0) (x := o0) hst z
 replace hst := objO_some hst
 obtain rfl := some_inj hm
 refine post_ret (vs := [I6 z540, .bool z541]) results51 (rvs_cons (rv_tmp z) (rvs_cons (rv_tmp z) rvs_nil)) ?_
 exact ⟨z, hst.keep1⟩
}
}

theorem slices_Insert_api_Decision_api_Decision_ref {w0 w : World} {I : HL} {R : SP} {a0 : (List api_Decision)} {r0_0 : Value} {a1 : Int} {a2 : (List api_Decision)} {r2_0 : Value} (hst : St w0 w I [ownS ty_api_Decision r0_0 a0, ownS ty_api_Decision r2_0 a2] R) {r : (List api_Decision)} (hm : slices_Insert_api_Decision_api_Decision a0 a1 a2 = some r) :
  Calls prog 127 #[r0_0, I6 a1, r2_0] w fun e w' => ∃ (q0_0 : Value), e = .returned (q0_0) ∧ St w0 w' I [ownS ty_api_Decision q0_0 r] R := by {
 unfold slices_Insert_api_Decision_api_Decision at hm
 obtain ⟨hg, hm⟩ := gd_some hm
 obtain rfl := some_inj hm
 obtain ⟨hi0, hi1, hrm⟩ := insOK_of hg
 obtain ⟨k, rfl⟩ := Int.eq_ofNat_of_zero_le hi0
 have hsm := room_sum hrm
 have hk : k ≤ a0.length := by omega
 have hs : ∀ w : World, (sizeOf 89).run prog w = .ok ty_api_Decision.sz w := sizeOf89
 have hs0 : 0 < ty_api_Decision.sz := Nat.le_of_ble_eq_true rfl
 have hov : ∀ (args : Array Value) (w : World), (callFunc 188 args).run prog w = (Extern.SlicesOverlaps.overlaps #[65, 65] #[4] args >>= fun v => (pure (.value v) : Sem Next)).run prog w := by intro args w; kernel_rfl
 obtain ⟨css, hr, hst⟩ := hst.own_open
 replace hst := hst.pull1
 obtain ⟨dss, hq, hst⟩ := hst.own_open
 replace hst := hst.pull1
 obtain ⟨n, hn⟩ : ∃ n, css.length = n := ⟨_, rfl⟩
 obtain ⟨m, hm'⟩ : ∃ m, dss.length = m := ⟨_, rfl⟩
 have hln : a0.length = n := hr.1.trans hn
 have hlm : a2.length = m := hq.1.trans hm'
 rw [hln] at hsm hk
 rw [hlm] at hsm
 have hsv : SliceV r0_0 n := by have := hst.row_form.2; rwa [hn] at this
 have hsq : SliceV r2_0 m := by have := hst.pull1.row_form.2; rwa [hm'] at this
 have hoc := hr.ones
 have hoq := hq.ones
 have hw1 := wrap_add (a := n) (b := m) (by omega)
 have hw2 := wrap_add (a := k) (b := m) (by omega)
 have hw3 := wrap_sub (a := n + m) (b := k) (by omega) (by omega)
 have hrb := room_of (b := 72) hrm rfl
 rw [hln, hlm] at hrb
 refine calls_start (args := [r0_0, I6 (k : Int), r2_0]) func127 z ntmps127 (Nat.le_of_ble_eq_true z) ?_
 refine wp_seq (wrl (wv ((.slice none 0 0)) z z z (wl_nil (tn (wp_seq (wrl (wv (r0_0) z z z (wv (.int .i64 (k : Int)) z z z (wv ((slcV ty_api_Decision.sz r0_0 k n)) z z (x_slice (lo := (k : Nat)) (hi := (n : Nat)) underlying65 hs z hsv (by omega) (by omega) (by omega) .i64 .i64 (.inl z) (.inr ⟨z, z⟩)) (wl_nil (tn (wp_seq (wrl (wv (r2_0) z z z (wv (.int .i64 (m : Int)) z z (x_len z underlying65 hsq) (wv (.int .i64 (m : Int)) z z z (wl_nil (tn (wp_seq (wp_seq (wrl (wv (.int .i64 (m : Int)) z z z (wv (.bool ((m : Int) == (0:Int))) z z z ?_)))))))))))))))))))))))
 refine wl_nil (tn ?_)
 refine bsplit ((m : Int) == (0:Int)) (fun hc283 => ?_) (fun hc283 => ?_)
 {
 refine wp_ift (cvb hc283) ?_
 refine wp_seq (wrl (wv (r0_0) z z z (wv (r0_0) z z z (wl_nil (tn (wp_ret (then_r ?_)))))))
 refine post_ret (vs := [r0_0]) results127 (rvs_cons (rv_tmp z) rvs_nil) ?_
 rw [ins_nil (by rw [hlm]; exact hc283)]
 exact ⟨_, z, (hst.own_close hr).keep1⟩
}
 {
 refine wp_iff (cvb hc283) ?_
 have hm0 : m ≠ 0 := fun h => by rw [h] at hc283; cases hc283
 have hq0 : dss ≠ [] := fun h => hm0 (by rw [← hm', h]; rfl)
 refine wp_skip (tn (wp_seq (wrl ?_)))
 refine wv (r0_0) z z z (wv (.int .i64 (n : Int)) z z (x_len z underlying65 hsv) (wv (.int .i64 (n : Int)) z z z (wl_nil (tn (wp_seq (wp_seq (wrl (wv (.int .i64 (k : Int)) z z z (wv (.int .i64 (n : Int)) z z z (wv (.bool ((k : Int) == (n : Int))) z z z (wl_nil (tn ?_))))))))))))
 refine bsplit ((k : Int) == (n : Int)) (fun hc284 => ?_) (fun hc284 => ?_)
 {
 refine wp_ift (cvb hc284) ?_
 refine wp_seq (wrl (wv (r0_0) z z z (wv (r2_0) z z z ?_)))
 replace hst := (hst.own_close hr).pull1.own_close hq
 replace hst := hst.pull1
 obtain ⟨v2, w2, hra, hst⟩ := run_append elem_65 underlying65 hst hst.src1 (room_of hrm z) 65
 refine wl_run (v := v2) (w' := w2) z z (x_append z z hra) ?_
 refine wv (v2) z z z (wl_nil (tn (wp_ret (then_r ?_))))
 refine post_ret (vs := [v2]) results127 (rvs_cons (rv_tmp z) rvs_nil) ?_
 rw [ins_end (by rw [hln]; exact hc284)]
 exact ⟨_, z, hst.keep1⟩
}
 {
 refine wp_iff (cvb hc284) ?_
 have hkn : k ≠ n := fun h => by rw [h] at hc284; simp at hc284
 have hn0 : 0 < n := by omega
 have hc0 : css ≠ [] := fun h => by rw [h] at hn; simp at hn; omega
 refine wp_skip (tn (wp_seq (wp_seq (wrl ?_))))
 refine wv (.int .i64 (n : Int)) z z z (wv (.int .i64 (m : Int)) z z z (wv (.int .i64 ((n + m : Nat) : Int)) z z (ok_cast hw1 z) (wv (r0_0) z z z (wv (.int .i64 (sCap r0_0 : Int)) z z (x_cap z underlying65 hsv) (wv (.bool (decide (((n + m : Nat) : Int) > (sCap r0_0 : Int)))) z z z (wl_nil (tn ?_)))))))
 refine bsplit (decide (((n + m : Nat) : Int) > (sCap r0_0 : Int))) (fun hc285 => ?_) (fun hc285 => ?_)
 {
 refine wp_ift (cvb hc285) ?_
 refine wp_seq (wrl (wv (r0_0) z z z (wv (.int .i64 (k : Int)) z z z (wv ((slcV ty_api_Decision.sz r0_0 0 k)) z z (x_slice (lo := (0 : Nat)) (hi := (k : Nat)) underlying65 hs z hsv (by omega) (by omega) (by omega) .i64 .i64 (.inr ⟨z, z⟩) (.inl z)) (wv (.int .i64 (n : Int)) z z z (wv (.int .i64 (m : Int)) z z z (wv (.int .i64 ((n + m : Nat) : Int)) z z (ok_cast hw1 z) (wv (.int .i64 (k : Int)) z z z (wv (.int .i64 ((n + m - k : Nat) : Int)) z z (ok_cast hw3 z) ?_)))))))))
 obtain ⟨v2, w2, hra, hs2, zss, hzl, hst⟩ := run_app0 elem_65 underlying3 hst k (n + m - k) (by omega) (by have := of_decide_eq_true hc285; omega) (by rw [show k + (n + m - k) = n + m by omega]; exact hrb) hs0 65
 rw [show k + (n + m - k) = n + m by omega] at hs2
 refine wl_run (v := v2) (w' := w2) z z (x_append z z hra) ?_
 refine wv (v2) z z z (wl_nil (tn (wp_seq (wrl (wv (v2) z z z (wv (.int .i64 (k : Int)) z z z (wv ((slcV ty_api_Decision.sz v2 k (n + m))) z z (x_slice (lo := (k : Nat)) (hi := ((n + m) : Nat)) underlying65 hs z hs2 (by omega) (by omega) (by omega) .i64 .i64 (.inl z) (.inr ⟨z, z⟩)) (wv (r2_0) z z z ?_))))))))
 obtain ⟨w286, hr287, hst⟩ := run_copyRows (P := prog) (t2 := 65) (ty := 3) underlying65 hs hst hst.pull2 k m (N := n + m) (by first | omega | (simp only [List.length_append, List.length_take, List.length_drop]; omega)) (by first | omega | (simp only [List.length_append, List.length_take, List.length_drop]; omega)) (by omega) (by first | omega | (simp only [List.length_append, List.length_take, List.length_drop]; omega)) (ones_take hoq _)
 refine wl_run (v := .int .i64 (m : Nat)) (w' := w286) z z (x_copy z z hr287) ?_
 refine wl_nil (tn (wp_seq ?_))
 refine wp_region_St hst 9 [0, 1, 2, 3, 4, 5, 6, 7, 8] [0, 0, 0, 6, 15, 0, 0, 96, 255] [] z (by kernel_rfl) (by kernel_rfl) Tryz.mixed (by kernel_rfl) ?_
 refine wsr (v2) 0 z z z (by kernel_rfl) (fun w hst => z) (wsr (.int .i64 (k : Int)) 1 z z z (by kernel_rfl) (fun w hst => z) (wsr (.int .i64 (m : Int)) 2 z z z (by kernel_rfl) (fun w hst => z) (wsr (.int .i64 ((k + m : Nat) : Int)) 3 z z z (by kernel_rfl) (fun w hst => ok_cast hw2 z) (wsr ((slcV ty_api_Decision.sz v2 (k + m) (n + m))) 4 z z z (by kernel_rfl) (fun w hst => x_slice (lo := ((k + m) : Nat)) (hi := ((n + m) : Nat)) underlying65 hs z hs2 (by omega) (by omega) (by omega) .i64 .i64 (.inl z) (.inr ⟨z, z⟩)) (wsr (r0_0) 5 z z z (by kernel_rfl) (fun w hst => z) (wsr (.int .i64 (k : Int)) 6 z z z (by kernel_rfl) (fun w hst => z) (wsr ((slcV ty_api_Decision.sz r0_0 k n)) 7 z z z (by kernel_rfl) (fun w hst => x_slice (lo := (k : Nat)) (hi := (n : Nat)) underlying65 hs z hsv (by omega) (by omega) (by omega) .i64 .i64 (.inl z) (.inr ⟨z, z⟩)) ?_)))))))
 refine ws_e1 8 (by kernel_rfl) ?_
 refine nxe [] (by kernel_rfl) z z ?_
 clear hst
 intro w hst
 obtain ⟨w288, hr289, hst⟩ := run_copyRows (P := prog) (t2 := 65) (ty := 3) underlying65 hs hst (hst.pull1.row_part (l := k) (h := n) hk (by omega)) (k + m) (n - k) (N := n + m) (by first | omega | (simp only [List.length_append, List.length_take, List.length_drop]; omega)) (by first | omega | (simp only [List.length_append, List.length_take, List.length_drop]; omega)) (by omega) (by first | omega | (simp only [List.length_append, List.length_take, List.length_drop]; omega)) (ones_take (ones_drop (ones_take hoc _) _) _)
 refine we_run (v := .int .i64 ((n - k) : Nat)) (w' := w288) z (x_copy z z hr289) ?_
 refine ws_next (pend' := []) hst (by kernel_rfl) pk_nil ?_
 refine ws_nil ?_
 intro w hst
 refine tn (wp_seq (wrl (wv (v2) z z z (wv (v2) z z z (wl_nil (tn (wp_ret (then_r ?_))))))))
 refine post_ret (vs := [v2]) results127 (rvs_cons (rv_tmp z) rvs_nil) ?_
 rw [grow_rows hn hm' hk hzl] at hst
 exact ⟨_, z, (hst.own_close ((hr.take k).app (hq.app (hr.drop k)))).keep1⟩
}
 {
 refine wp_iff (cvb hc285) ?_
 have hup : n + m ≤ sCap r0_0 := by have := of_decide_eq_false hc285; omega
 obtain ⟨ess, hel, hem, hst'⟩ := hst.row_up (n + m) (by omega) hup hc0
 rw [show n + m - css.length = m by omega] at hel
 have hs2 : SliceV (upV r0_0 (n + m)) (n + m) := by have := hst'.row_form.2; rwa [List.length_append, hn, hel] at this
 clear hst
 have hst := hst'
 clear hst'
 refine wp_skip (tn (wp_seq (wrl ?_)))
 refine wv (r0_0) z z z (wv (.int .i64 (n : Int)) z z z (wv (.int .i64 (m : Int)) z z z (wv (.int .i64 ((n + m : Nat) : Int)) z z (ok_cast hw1 z) (wv ((upV r0_0 (n + m))) z z (x_sliceUp underlying65 hs z hsv z hup hn0) (wv ((upV r0_0 (n + m))) z z z (wl_nil (tn (wp_seq (wp_seq (wrl (wv (r2_0) z z z (wv ((upV r0_0 (n + m))) z z z (wv (.int .i64 (k : Int)) z z z (wv (.int .i64 (m : Int)) z z z (wv (.int .i64 ((k + m : Nat) : Int)) z z (ok_cast hw2 z) (wv ((slcV ty_api_Decision.sz (upV r0_0 (n + m)) (k + m) (n + m))) z z (x_slice (lo := ((k + m) : Nat)) (hi := ((n + m) : Nat)) underlying65 hs z hs2 (by omega) (by omega) (by omega) .i64 .i64 (.inl z) (.inr ⟨z, z⟩)) ?_))))))))))))))))
 refine wv (.bool false) z z (x_ext z z z (hov _) (run_overlaps z underlying65 hs hst.pull1 (k + m) (N := n + m) (by rw [List.length_append]; omega) (by omega) hq0 hs0)) (wv (.bool true) z z z (wl_nil (tn ?_)))
 refine wp_ift z ?_
 refine wp_seq ?_
 refine wp_region_St hst 9 [0, 1, 2, 3, 4, 5, 6, 7, 8] [0, 0, 0, 6, 15, 0, 0, 96, 255] [] z (by kernel_rfl) (by kernel_rfl) Tryz.mixed (by kernel_rfl) ?_
 refine wsr ((upV r0_0 (n + m))) 0 z z z (by kernel_rfl) (fun w hst => z) (wsr (.int .i64 (k : Int)) 1 z z z (by kernel_rfl) (fun w hst => z) (wsr (.int .i64 (m : Int)) 2 z z z (by kernel_rfl) (fun w hst => z) (wsr (.int .i64 ((k + m : Nat) : Int)) 3 z z z (by kernel_rfl) (fun w hst => ok_cast hw2 z) (wsr ((slcV ty_api_Decision.sz (upV r0_0 (n + m)) (k + m) (n + m))) 4 z z z (by kernel_rfl) (fun w hst => x_slice (lo := ((k + m) : Nat)) (hi := ((n + m) : Nat)) underlying65 hs z hs2 (by omega) (by omega) (by omega) .i64 .i64 (.inl z) (.inr ⟨z, z⟩)) (wsr ((upV r0_0 (n + m))) 5 z z z (by kernel_rfl) (fun w hst => z) (wsr (.int .i64 (k : Int)) 6 z z z (by kernel_rfl) (fun w hst => z) (wsr ((slcV ty_api_Decision.sz (upV r0_0 (n + m)) k (n + m))) 7 z z z (by kernel_rfl) (fun w hst => x_slice (lo := (k : Nat)) (hi := ((n + m) : Nat)) underlying65 hs z hs2 (by omega) (by omega) (by omega) .i64 .i64 (.inl z) (.inr ⟨z, z⟩)) ?_)))))))
 refine ws_e1 8 (by kernel_rfl) ?_
 refine nxe [] (by kernel_rfl) z z ?_
 clear hst
 intro w hst
 obtain ⟨w290, hr291, hst⟩ := run_copyRows (P := prog) (t2 := 65) (ty := 3) underlying65 hs hst (hst.row_part (l := k) (h := n + m) (by omega) (by rw [List.length_append]; omega)) (k + m) (n - k) (N := n + m) (by first | omega | (simp only [List.length_append, List.length_take, List.length_drop]; omega)) (by first | omega | (simp only [List.length_append, List.length_take, List.length_drop]; omega)) (by omega) (by first | omega | (simp only [List.length_append, List.length_take, List.length_drop]; omega)) (by rw [stay_src hn hm' hk hel]; exact ones_drop hoc _)
 refine we_run (v := .int .i64 ((n - k) : Nat)) (w' := w290) z (x_copy z z hr291) ?_
 refine ws_next (pend' := []) hst (by kernel_rfl) pk_nil ?_
 refine ws_nil ?_
 intro w hst
 refine tn (wp_seq (wrl (wv ((upV r0_0 (n + m))) z z z (wv (.int .i64 (k : Int)) z z z (wv ((slcV ty_api_Decision.sz (upV r0_0 (n + m)) k (n + m))) z z (x_slice (lo := (k : Nat)) (hi := ((n + m) : Nat)) underlying65 hs z hs2 (by omega) (by omega) (by omega) .i64 .i64 (.inl z) (.inr ⟨z, z⟩)) (wv (r2_0) z z z ?_))))))
 obtain ⟨w292, hr293, hst⟩ := run_copyRows (P := prog) (t2 := 65) (ty := 3) underlying65 hs hst hst.pull1 k m (N := n + m) (by first | omega | (simp only [List.length_append, List.length_take, List.length_drop]; omega)) (by first | omega | (simp only [List.length_append, List.length_take, List.length_drop]; omega)) (by omega) (by first | omega | (simp only [List.length_append, List.length_take, List.length_drop]; omega)) (ones_take hoq _)
 refine wl_run (v := .int .i64 (m : Nat)) (w' := w292) z z (x_copy z z hr293) ?_
 refine wl_nil (tn (wp_seq (wrl (wv ((upV r0_0 (n + m))) z z z (wv ((upV r0_0 (n + m))) z z z (wl_nil (tn (wp_ret (then_r ?_)))))))))
 refine post_ret (vs := [(upV r0_0 (n + m))]) results127 (rvs_cons (rv_tmp z) rvs_nil) ?_
 rw [stay_rows hn hm' hk hel] at hst
 exact ⟨_, z, (hst.own_close ((hr.take k).app (hq.app (hr.drop k)))).keep1⟩
}
}
}
}

theorem lane_State_decide_ref {w0 w : World} {I : HL} {R : SP} {a0 : (Option lane_State)} {p0 : Value} {a1 : Int} {a2 : api_Command} {r2_0 : Value} {r2_1 : Value} {r2_2 : Value} {r2_3 : Value} {r2_4 : Value} {r2_5 : Value} {r2_6 : Value} {r2_7 : Value} (f2_0 : Ro tyF64 I r2_0 a2.Hold.Gets) (f2_1 : Ro tyF2 I r2_1 a2.Hold.Scans) (f2_2 : Ro tyF64 I r2_2 a2.Hold.Puts) (f2_3 : Ro (tyInt .u8) I r2_3 a2.Hold.Data) (f2_4 : Ro ty_api_Write I r2_4 a2.Writes) (f2_5 : Ro ty_api_Got I r2_5 a2.R.Gots) (f2_6 : Ro (tySl ty_api_Pair) I r2_6 a2.R.Scans) (f2_7 : Ro ty_api_Part I r2_7 a2.Parts) (hst : St w0 w I [objO at_lane_State p0 a0] R) {r : (api_Effect × (Option lane_State))} (hm : lane_State_decide a0 a1 a2 = some r) :
  Calls prog 50 #[p0, U6 a1, .agg #[U1 a2.Kind, U6 a2.ID.Session, U6 a2.ID.Seq, U6 a2.Epoch, U6 a2.Index, I6 a2.E, U6 a2.Hold.ID.Session, U6 a2.Hold.ID.Seq, U6 a2.Hold.Epoch, r2_0, r2_1, r2_2, r2_3, r2_4, I6 a2.R.E, U6 a2.R.Epoch, U6 a2.R.Index, r2_5, r2_6, U6 a2.Shards, r2_7, U6 a2.Rule.ID, I6 a2.Rule.From, I6 a2.Rule.To, F6 a2.Rule.Lo, F6 a2.Rule.Hi, U6 a2.Rule.Authority, I6 a2.Rule.Quota, .bool a2.On]] w fun e w' => ∃ (I' : HL) (q0_0 : Value) (q0_1 : Value), e = .returned (.agg #[U1 r.1.Kind, U6 r.1.ID.Session, U6 r.1.ID.Seq, I6 r.1.R.E, U6 r.1.R.Epoch, U6 r.1.R.Index, q0_0, q0_1]) ∧ I.le I' ∧ Ro ty_api_Got I' q0_0 r.1.R.Gots ∧ Ro (tySl ty_api_Pair) I' q0_1 r.1.R.Scans ∧ St w0 w' I' [objO at_lane_State p0 r.2] R := by {
 rcases a0 with _ | o0
 {
 obtain ⟨rfl, hst'⟩ := objO_none hst
 clear hst
 have hst := hst'
 clear hst'
 dsimp only [lane_State_decide] at hm
 refine calls_start (args := [.pointer none, U6 a1, .agg #[U1 a2.Kind, U6 a2.ID.Session, U6 a2.ID.Seq, U6 a2.Epoch, U6 a2.Index, I6 a2.E, U6 a2.Hold.ID.Session, U6 a2.Hold.ID.Seq, U6 a2.Hold.Epoch, r2_0, r2_1, r2_2, r2_3, r2_4, I6 a2.R.E, U6 a2.R.Epoch, U6 a2.R.Index, r2_5, r2_6, U6 a2.Shards, r2_7, U6 a2.Rule.ID, I6 a2.Rule.From, I6 a2.Rule.To, F6 a2.Rule.Lo, F6 a2.Rule.Hi, U6 a2.Rule.Authority, I6 a2.Rule.Quota, .bool a2.On]]) func50 z ntmps50 (Nat.le_of_ble_eq_true z) ?_
 have hI0 := HL.le.refl I
 refine wp_seq (wrl ?_)
 obtain ⟨b553, w554, ew555, eb556, hst⟩ := hst.box [U1 a2.Kind, U6 a2.ID.Session, U6 a2.ID.Seq, U6 a2.Epoch, U6 a2.Index, I6 a2.E, U6 a2.Hold.ID.Session, U6 a2.Hold.ID.Seq, U6 a2.Hold.Epoch, r2_0, r2_1, r2_2, r2_3, r2_4, I6 a2.R.E, U6 a2.R.Epoch, U6 a2.R.Index, r2_5, r2_6, U6 a2.Shards, r2_7, U6 a2.Rule.ID, I6 a2.Rule.From, I6 a2.Rule.To, F6 a2.Rule.Lo, F6 a2.Rule.Hi, U6 a2.Rule.Authority, I6 a2.Rule.Quota, .bool a2.On] 49
 refine wl_run (v := Pt b553 0) (w' := w554) z z (x_al (by kernel_rfl) ew555 eb556) ?_
 obtain ⟨b560, w561, ew562, eb563, hst⟩ := hst.box [Zb, Zu, Zu, Zi, Zu, Zu, Zs, Zs] 35
 refine wl_run (v := Pt b560 0) (w' := w561) z z (x_al (by kernel_rfl) ew562 eb563) ?_
 refine wl_nil (tn (wp_seq (wrl (wv (Pt b553 14) z z (x_field z underlying49 z sizeOf33 z) (wv (.agg #[I6 a2.R.E, U6 a2.R.Epoch, U6 a2.R.Index, r2_5, r2_6]) z z (x_loadN (cs := [I6 a2.R.E, U6 a2.R.Epoch, U6 a2.R.Index, r2_5, r2_6]) z isAgg33 sizeOf33 (hst.bcs1 14 z)) ?_)))))
 obtain ⟨b567, w568, ew569, eb570, hst⟩ := hst.box [Zi, Zu, Zu, Zs, Zs] 33
 refine wl_run (v := Pt b567 0) (w' := w568) z z (x_al (by kernel_rfl) ew569 eb570) ?_
 obtain ⟨w572, hr573, hst⟩ := hst.bx [I6 a2.R.E, U6 a2.R.Epoch, U6 a2.R.Index, r2_5, r2_6] sizeOf33 z (oC z (oC z (oC z (oC (one_of_sliceV (ro_sliceV f2_5)) (oC (one_of_sliceV (ro_sliceV f2_6)) oN))))) (by kernel_rfl)
 refine wl_unit z z (x_unit hr573) ?_
 refine wl_nil (tn (wp_seq (wrl (wv (Pt b553 3) z z (x_field z underlying49 z sizeOf26 z) (wv (.int .u64 a2.Epoch) z z (x_load z isAgg26 (hst.bc2 z)) (wv (.int .u64 a1) z z z (wv (Pt b567 1) z z (x_field z underlying33 z sizeOf26 z) ?_)))))))
 obtain ⟨w574, hr575, hst⟩ := hst.by_ [I6 a2.R.E, U6 a2.Epoch, U6 a2.R.Index, r2_5, r2_6] 1 (.int .u64 a2.Epoch) sizeOf26 z (oC z oN) (by kernel_rfl)
 refine wl_unit z z (x_unit hr575) ?_
 refine wv (Pt b567 2) z z (x_field z underlying33 z sizeOf26 z) ?_
 obtain ⟨w576, hr577, hst⟩ := hst.by_ [I6 a2.R.E, U6 a2.Epoch, U6 a1, r2_5, r2_6] 2 (.int .u64 a1) sizeOf26 z (oC z oN) (by kernel_rfl)
 refine wl_unit z z (x_unit hr577) ?_
 refine wl_nil (tn (wp_seq (wp_seq ?_)))
 refine wq_regionS hst Tryz.mixed (by kernel_rfl) ?_
 refine wq_run (v := Pt b567 0) z z (fun w hst => x_field z underlying33 z sizeOf29 z) ?_
 refine wq_run (v := .int .i64 a2.R.E) z z (fun w hst => x_load z isAgg29 (hst.bc0 z)) ?_
 refine wq_run (v := .bool (a2.R.E == (0:Int))) z z (fun w hst => z) ?_
 refine wq_run (v := .bool (a2.R.E == (0:Int))) z z (fun w hst => z) ?_
 refine bsplit (a2.R.E == (0:Int)) (fun hc578 => ?_) (fun hc578 => ?_)
 {
 replace hm := bif_t hc578 hm
 refine wq_run (v := Pt b553 3) ((wanted_eq z z z (cvb hc578)).trans z) z (fun w hst => x_field z underlying49 z sizeOf26 z) ?_
 refine wq_run (v := .int .u64 a2.Epoch) ((wanted_eq z z z (cvb hc578)).trans z) z (fun w hst => x_load z isAgg26 (hst.bc2 z)) ?_
 refine wq_run (v := .pointer none) ((wanted_eq z z z (cvb hc578)).trans z) z (fun w hst => z) ?_
 cases hm
}
 {
 replace hm := bif_f hc578 hm
 refine wq_off ((wanted_eq z z z (cvb hc578)).trans z) z ?_
 refine wq_off ((wanted_eq z z z (cvb hc578)).trans z) z ?_
 refine wq_off ((wanted_eq z z z (cvb hc578)).trans z) z ?_
 refine wq_off ((wanted_eq z z z (cvb hc578)).trans z) z ?_
 refine wq_off ((wanted_eq z z z (cvb hc578)).trans z) z ?_
 refine wq_off ((wanted_eq z z z (cvb hc578)).trans z) z ?_
 refine wq_off ((wanted_eq z z z (cvb hc578)).trans z) z ?_
 refine wq_run (v := .bool false) z z (fun w hst => x_pick_f hc578 z z) ?_
 refine wq_nil ?_
 intro w hst
 refine tn ?_
 refine wp_iff z ?_
 refine wp_skip (tn ?_)
 obtain ⟨y587, hm, hx588⟩ := joinO_some hm
 refine wp_cut (fun a w => ∃ (σ585 : Nat → Value), (lane_State_decide_j0) () = some r ∧ a = Fr 103 (upd (upd (upd (upd (upd σ585 0 (.pointer none)) 1 (.int .u64 a1)) 5 (Pt b553 0)) 6 (Pt b560 0)) 7 (Pt b567 0)) ∧ St w0 w I [cells b553 [U1 a2.Kind, U6 a2.ID.Session, U6 a2.ID.Seq, U6 a2.Epoch, U6 a2.Index, I6 a2.E, U6 a2.Hold.ID.Session, U6 a2.Hold.ID.Seq, U6 a2.Hold.Epoch, r2_0, r2_1, r2_2, r2_3, r2_4, I6 a2.R.E, U6 a2.R.Epoch, U6 a2.R.Index, r2_5, r2_6, U6 a2.Shards, r2_7, U6 a2.Rule.ID, I6 a2.Rule.From, I6 a2.Rule.To, F6 a2.Rule.Lo, F6 a2.Rule.Hi, U6 a2.Rule.Authority, I6 a2.Rule.Quota, .bool a2.On], cells b560 [Zb, Zu, Zu, Zi, Zu, Zu, Zs, Zs], cells b567 [I6 a2.R.E, U6 a2.Epoch, U6 a1, r2_5, r2_6]] R) ?_ ?_
 {
 refine wp_seq (wrl (wv (Pt b567 0) z z (x_field z underlying33 z sizeOf29 z) (wv (.int .i64 a2.R.E) z z (x_load z isAgg29 (hst.bc0 z)) (wv (.bool (a2.R.E != (0:Int))) z z z (wv (.bool (a2.R.E != (0:Int))) z z z ?_)))))
 refine bsplit (a2.R.E != (0:Int)) (fun hc579 => ?_) (fun hc579 => ?_)
 {
 replace hm := bif_t hc579 hm
 refine wv (Pt b553 1) ((wanted_eq z z z (cvb hc579)).trans z) z (x_field z underlying49 z sizeOf28 z) (wv (Pt b553 1) ((wanted_eq z z z (cvb hc579)).trans z) z (x_field z underlying28 z sizeOf26 z) (wv (.int .u64 a2.ID.Session) ((wanted_eq z z z (cvb hc579)).trans z) z (x_load z isAgg26 (hst.bc2 z)) (wv (.bool (decide (a2.ID.Session ≥ (9223372036854775808:Int)))) ((wanted_eq z z z (cvb hc579)).trans z) z z (wv (.bool (decide (a2.ID.Session ≥ (9223372036854775808:Int)))) z z (x_pick_t hc579 z z) (wl_nil (tn ?_))))))
 refine bsplit (decide (a2.ID.Session ≥ (9223372036854775808:Int))) (fun hc580 => ?_) (fun hc580 => ?_)
 {
 replace hm := bif_t hc580 hm
 refine wp_ift (cvb hc580) ?_
 refine wp_seq (wrl (wv (.agg #[Zb, Zu, Zu, Zi, Zu, Zu, Zs, Zs]) z z (by kernel_rfl) ?_))
 replace hst := hst.pull1
 obtain ⟨w583, hr584, hst⟩ := hst.bx [Zb, Zu, Zu, Zi, Zu, Zu, Zs, Zs] sizeOf35 z (oC z (oC z (oC z (oC z (oC z (oC z (oC z (oC z oN)))))))) (by kernel_rfl)
 refine wl_unit z z (x_unit hr584) ?_
 refine wl_nil (tn (wp_ret (then_r ?_)))
 replace hm := inr_up hm hx588
 have f585 : Ro ty_api_Got I (.slice none 0 0) [] := ro_nil
 have f586 : Ro (tySl ty_api_Pair) I (.slice none 0 0) [] := ro_nil
 replace hst := hst.objO_nil at_lane_State
 obtain rfl := some_inj hm
 refine post_ret (vs := [.agg #[Zb, Zu, Zu, Zi, Zu, Zu, Zs, Zs]]) results50 (rvs_cons (rv_cell (cs := [Zb, Zu, Zu, Zi, Zu, Zu, Zs, Zs]) z isAgg35 sizeOf35 (hst.bcs1 0 z)) rvs_nil) ?_
 exact ⟨_, Zs, Zs, z, hI0, f585, f586, hst.keep1⟩
}
 {
 replace hm := bif_f hc580 hm
 refine wp_iff (cvb hc580) ?_
 refine wp_skip (tn ?_)
 replace hst := hst.pull1.pull2.keep3
 obtain rfl := some_inj hm
 exact ⟨_, hx588, (fu 0 (.pointer none) z (fu 1 (.int .u64 a1) z (fu 5 (Pt b553 0) z (fu 6 (Pt b560 0) z (fu 7 (Pt b567 0) z z))))), hst⟩
}
}
 {
 replace hm := bif_f hc579 hm
 refine wo hc579 z z z z z z (wo hc579 z z z z z z (wo hc579 z z z z z z (wo hc579 z z z z z z (wv (.bool false) z z (x_pick_f hc579 z z) (wl_nil (tn ?_))))))
 refine wp_iff z ?_
 refine wp_skip (tn ?_)
 replace hst := hst.pull1.pull2.keep3
 obtain rfl := some_inj hm
 exact ⟨_, hx588, (fu 0 (.pointer none) z (fu 1 (.int .u64 a1) z (fu 5 (Pt b553 0) z (fu 6 (Pt b560 0) z (fu 7 (Pt b567 0) z z))))), hst⟩
}
}
 {
 clear hst
 rintro _ w589 ⟨σ585, hm, rfl, hst⟩
 dsimp only [lane_State_decide_j0] at hm
 refine wp_seq (wp_seq ?_)
 refine wp_region_St hst 13 [0, 1, 2, 3, 4, 5, 6, 7, 8, 9, 10, 11, 12] [0, 1, 3, 7, 0, 16, 48, 0, 128, 384, 0, 2047, 4095] [] z (by kernel_rfl) (by kernel_rfl) Tryz.mixed (by kernel_rfl) ?_
 refine wsr (.pointer none) 0 z z z (by kernel_rfl) (fun w hst => z) ?_
 cases hm
}
}
}
 {
 replace hst := objO_get hst
 dsimp only [lane_State_decide] at hm
 refine calls_start (args := [p0, U6 a1, .agg #[U1 a2.Kind, U6 a2.ID.Session, U6 a2.ID.Seq, U6 a2.Epoch, U6 a2.Index, I6 a2.E, U6 a2.Hold.ID.Session, U6 a2.Hold.ID.Seq, U6 a2.Hold.Epoch, r2_0, r2_1, r2_2, r2_3, r2_4, I6 a2.R.E, U6 a2.R.Epoch, U6 a2.R.Index, r2_5, r2_6, U6 a2.Shards, r2_7, U6 a2.Rule.ID, I6 a2.Rule.From, I6 a2.Rule.To, F6 a2.Rule.Lo, F6 a2.Rule.Hi, U6 a2.Rule.Authority, I6 a2.Rule.Quota, .bool a2.On]]) func50 z ntmps50 (Nat.le_of_ble_eq_true z) ?_
 have hI0 := HL.le.refl I
 refine wp_seq (wrl ?_)
 obtain ⟨b590, w591, ew592, eb593, hst⟩ := hst.box [U1 a2.Kind, U6 a2.ID.Session, U6 a2.ID.Seq, U6 a2.Epoch, U6 a2.Index, I6 a2.E, U6 a2.Hold.ID.Session, U6 a2.Hold.ID.Seq, U6 a2.Hold.Epoch, r2_0, r2_1, r2_2, r2_3, r2_4, I6 a2.R.E, U6 a2.R.Epoch, U6 a2.R.Index, r2_5, r2_6, U6 a2.Shards, r2_7, U6 a2.Rule.ID, I6 a2.Rule.From, I6 a2.Rule.To, F6 a2.Rule.Lo, F6 a2.Rule.Hi, U6 a2.Rule.Authority, I6 a2.Rule.Quota, .bool a2.On] 49
 refine wl_run (v := Pt b590 0) (w' := w591) z z (x_al (by kernel_rfl) ew592 eb593) ?_
 obtain ⟨b597, w598, ew599, eb600, hst⟩ := hst.box [Zb, Zu, Zu, Zi, Zu, Zu, Zs, Zs] 35
 refine wl_run (v := Pt b597 0) (w' := w598) z z (x_al (by kernel_rfl) ew599 eb600) ?_
 refine wl_nil (tn (wp_seq (wrl (wv (Pt b590 14) z z (x_field z underlying49 z sizeOf33 z) (wv (.agg #[I6 a2.R.E, U6 a2.R.Epoch, U6 a2.R.Index, r2_5, r2_6]) z z (x_loadN (cs := [I6 a2.R.E, U6 a2.R.Epoch, U6 a2.R.Index, r2_5, r2_6]) z isAgg33 sizeOf33 (hst.bcs1 14 z)) ?_)))))
 obtain ⟨b604, w605, ew606, eb607, hst⟩ := hst.box [Zi, Zu, Zu, Zs, Zs] 33
 refine wl_run (v := Pt b604 0) (w' := w605) z z (x_al (by kernel_rfl) ew606 eb607) ?_
 obtain ⟨w609, hr610, hst⟩ := hst.bx [I6 a2.R.E, U6 a2.R.Epoch, U6 a2.R.Index, r2_5, r2_6] sizeOf33 z (oC z (oC z (oC z (oC (one_of_sliceV (ro_sliceV f2_5)) (oC (one_of_sliceV (ro_sliceV f2_6)) oN))))) (by kernel_rfl)
 refine wl_unit z z (x_unit hr610) ?_
 refine wl_nil (tn (wp_seq (wrl (wv (Pt b590 3) z z (x_field z underlying49 z sizeOf26 z) (wv (.int .u64 a2.Epoch) z z (x_load z isAgg26 (hst.bc2 z)) (wv (.int .u64 a1) z z z (wv (Pt b604 1) z z (x_field z underlying33 z sizeOf26 z) ?_)))))))
 obtain ⟨w611, hr612, hst⟩ := hst.by_ [I6 a2.R.E, U6 a2.Epoch, U6 a2.R.Index, r2_5, r2_6] 1 (.int .u64 a2.Epoch) sizeOf26 z (oC z oN) (by kernel_rfl)
 refine wl_unit z z (x_unit hr612) ?_
 refine wv (Pt b604 2) z z (x_field z underlying33 z sizeOf26 z) ?_
 obtain ⟨w613, hr614, hst⟩ := hst.by_ [I6 a2.R.E, U6 a2.Epoch, U6 a1, r2_5, r2_6] 2 (.int .u64 a1) sizeOf26 z (oC z oN) (by kernel_rfl)
 refine wl_unit z z (x_unit hr614) ?_
 refine wl_nil (tn (wp_seq (wp_seq ?_)))
 replace hst := hst.pull3
 obtain ⟨b615, v616, v618, v620, v622, v624, v626, v628, rfl, hst'⟩ := at_lane_State_open hst
 clear hst
 have hst := hst'
 clear hst'
 refine wq_regionS hst Tryz.mixed (by kernel_rfl) ?_
 refine wq_run (v := Pt b604 0) z z (fun w hst => x_field z underlying33 z sizeOf29 z) ?_
 refine wq_run (v := .int .i64 a2.R.E) z z (fun w hst => x_load z isAgg29 (hst.bc8 z)) ?_
 refine wq_run (v := .bool (a2.R.E == (0:Int))) z z (fun w hst => z) ?_
 refine wq_run (v := .bool (a2.R.E == (0:Int))) z z (fun w hst => z) ?_
 refine bsplit (a2.R.E == (0:Int)) (fun hc630 => ?_) (fun hc630 => ?_)
 {
 replace hm := bif_t hc630 hm
 refine wq_run (v := Pt b590 3) ((wanted_eq z z z (cvb hc630)).trans z) z (fun w hst => x_field z underlying49 z sizeOf26 z) ?_
 refine wq_run (v := .int .u64 a2.Epoch) ((wanted_eq z z z (cvb hc630)).trans z) z (fun w hst => x_load z isAgg26 (hst.bc10 z)) ?_
 refine wq_run (v := Pt b615 0) ((wanted_eq z z z (cvb hc630)).trans z) z (fun w hst => z) ?_
 refine wq_run (v := Pt b615 0) ((wanted_eq z z z (cvb hc630)).trans z) z (fun w hst => z) ?_
 refine wq_run (v := Pt b615 1) ((wanted_eq z z z (cvb hc630)).trans z) z (fun w hst => x_field z underlying111 z sizeOf26 z) ?_
 refine wq_run (v := .int .u64 o0.epoch) ((wanted_eq z z z (cvb hc630)).trans z) z (fun w hst => x_load z isAgg26 (hst.bc0 z)) ?_
 refine wq_run (v := .bool (a2.Epoch != o0.epoch)) ((wanted_eq z z z (cvb hc630)).trans z) z (fun w hst => z) ?_
 refine wq_run (v := .bool (a2.Epoch != o0.epoch)) z z (fun w hst => x_pick_t hc630 z z) ?_
 refine wq_nil ?_
 intro w hst
 refine tn ?_
 refine bsplit (a2.Epoch != o0.epoch) (fun hc631 => ?_) (fun hc631 => ?_)
 {
 replace hm := bif_t hc631 hm
 refine wp_ift (cvb hc631) ?_
 refine wrl (wv (Pt b590 3) z z (x_field z underlying49 z sizeOf26 z) (wv (.int .u64 a2.Epoch) z z (x_load z isAgg26 (hst.bc10 z)) (wv (.int .u64 a1) z z z (wv (.agg #[I6 (9:Int), U6 a2.Epoch, U6 a1, Zs, Zs]) z z (by kernel_rfl) ?_))))
 replace hst := hst.pull8
 obtain ⟨w634, hr635, hst⟩ := hst.bx [I6 (9:Int), U6 a2.Epoch, U6 a1, Zs, Zs] sizeOf33 z (oC z (oC z (oC z (oC z (oC z oN))))) (by kernel_rfl)
 refine wl_unit z z (x_unit hr635) ?_
 refine wl_nil (tn ?_)
 obtain ⟨y644, hm, hx645⟩ := joinO_some hm
 refine wp_cut (fun a w => ∃ (σ642 : Nat → Value), (lane_State_decide_j1 o0 a2 a1) () = some r ∧ a = Fr 103 (upd (upd (upd (upd (upd σ642 0 (Pt b615 0)) 1 (.int .u64 a1)) 5 (Pt b590 0)) 6 (Pt b597 0)) 7 (Pt b604 0)) ∧ St w0 w I [at_lane_State (Pt b615 0) o0, cells b590 [U1 a2.Kind, U6 a2.ID.Session, U6 a2.ID.Seq, U6 a2.Epoch, U6 a2.Index, I6 a2.E, U6 a2.Hold.ID.Session, U6 a2.Hold.ID.Seq, U6 a2.Hold.Epoch, r2_0, r2_1, r2_2, r2_3, r2_4, I6 a2.R.E, U6 a2.R.Epoch, U6 a2.R.Index, r2_5, r2_6, U6 a2.Shards, r2_7, U6 a2.Rule.ID, I6 a2.Rule.From, I6 a2.Rule.To, F6 a2.Rule.Lo, F6 a2.Rule.Hi, U6 a2.Rule.Authority, I6 a2.Rule.Quota, .bool a2.On], cells b597 [Zb, Zu, Zu, Zi, Zu, Zu, Zs, Zs], cells b604 [I6 (9:Int), U6 a2.Epoch, U6 a1, Zs, Zs]] R) ?_ ?_
 {
 refine wp_seq (wrl (wv (Pt b604 0) z z (x_field z underlying33 z sizeOf29 z) (wv (.int .i64 (9:Int)) z z (x_load z isAgg29 (hst.bc0 z)) (wv (.bool ((9:Int) != (0:Int))) z z z (wv (.bool ((9:Int) != (0:Int))) z z z ?_)))))
 refine bsplit ((9:Int) != (0:Int)) (fun hc636 => ?_) (fun hc636 => ?_)
 {
 replace hm := bif_t hc636 hm
 refine wv (Pt b590 1) ((wanted_eq z z z (cvb hc636)).trans z) z (x_field z underlying49 z sizeOf28 z) (wv (Pt b590 1) ((wanted_eq z z z (cvb hc636)).trans z) z (x_field z underlying28 z sizeOf26 z) (wv (.int .u64 a2.ID.Session) ((wanted_eq z z z (cvb hc636)).trans z) z (x_load z isAgg26 (hst.bc10 z)) (wv (.bool (decide (a2.ID.Session ≥ (9223372036854775808:Int)))) ((wanted_eq z z z (cvb hc636)).trans z) z z (wv (.bool (decide (a2.ID.Session ≥ (9223372036854775808:Int)))) z z (x_pick_t hc636 z z) (wl_nil (tn ?_))))))
 refine bsplit (decide (a2.ID.Session ≥ (9223372036854775808:Int))) (fun hc637 => ?_) (fun hc637 => ?_)
 {
 replace hm := bif_t hc637 hm
 refine wp_ift (cvb hc637) ?_
 refine wp_seq (wrl (wv (.agg #[Zb, Zu, Zu, Zi, Zu, Zu, Zs, Zs]) z z (by kernel_rfl) ?_))
 replace hst := hst.pull9
 obtain ⟨w640, hr641, hst⟩ := hst.bx [Zb, Zu, Zu, Zi, Zu, Zu, Zs, Zs] sizeOf35 z (oC z (oC z (oC z (oC z (oC z (oC z (oC z (oC z oN)))))))) (by kernel_rfl)
 refine wl_unit z z (x_unit hr641) ?_
 refine wl_nil (tn (wp_ret (then_r ?_)))
 replace hm := inr_up hm hx645
 have f642 : Ro ty_api_Got I (.slice none 0 0) [] := ro_nil
 have f643 : Ro (tySl ty_api_Pair) I (.slice none 0 0) [] := ro_nil
 replace hst := hst.pull9.pull9.pull9.pull9.pull9.pull9.pull9.pull9
 replace hst := at_lane_State_close (pv := Pt b615 0) (x := o0) hst z
 replace hst := objO_some hst
 obtain rfl := some_inj hm
 refine post_ret (vs := [.agg #[Zb, Zu, Zu, Zi, Zu, Zu, Zs, Zs]]) results50 (rvs_cons (rv_cell (cs := [Zb, Zu, Zu, Zi, Zu, Zu, Zs, Zs]) z isAgg35 sizeOf35 (hst.bcs1 0 z)) rvs_nil) ?_
 exact ⟨_, Zs, Zs, z, hI0, f642, f643, hst.keep1⟩
}
 {
 replace hm := bif_f hc637 hm
 refine wp_iff (cvb hc637) ?_
 refine wp_skip (tn ?_)
 replace hst := hst.pull8.pull8.pull8.pull8.pull8.pull8.pull8.pull8
 replace hst := at_lane_State_close (pv := Pt b615 0) (x := o0) hst z
 replace hst := hst.pull1.pull2.pull3.pull3.keep4
 obtain rfl := some_inj hm
 exact ⟨_, hx645, (fu 0 (Pt b615 0) z (fu 1 (.int .u64 a1) z (fu 5 (Pt b590 0) z (fu 6 (Pt b597 0) z (fu 7 (Pt b604 0) z z))))), hst⟩
}
}
 {
 replace hm := bif_f hc636 hm
 refine wo hc636 z z z z z z (wo hc636 z z z z z z (wo hc636 z z z z z z (wo hc636 z z z z z z (wv (.bool false) z z (x_pick_f hc636 z z) (wl_nil (tn ?_))))))
 refine wp_iff z ?_
 refine wp_skip (tn ?_)
 replace hst := hst.pull8.pull8.pull8.pull8.pull8.pull8.pull8.pull8
 replace hst := at_lane_State_close (pv := Pt b615 0) (x := o0) hst z
 replace hst := hst.pull1.pull2.pull3.pull3.keep4
 obtain rfl := some_inj hm
 exact ⟨_, hx645, (fu 0 (Pt b615 0) z (fu 1 (.int .u64 a1) z (fu 5 (Pt b590 0) z (fu 6 (Pt b597 0) z (fu 7 (Pt b604 0) z z))))), hst⟩
}
}
 {
 clear hst
 rintro _ w646 ⟨σ642, hm, rfl, hst⟩
 dsimp only [lane_State_decide_j1] at hm
 refine wp_seq (wp_seq ?_)
 obtain ⟨b647, v648, v650, v652, v654, v656, v658, v660, e662, hst'⟩ := at_lane_State_open hst
 clear hst
 have e662 := ptr_inj e662
 subst e662
 have hst := hst'
 clear hst'
 refine wp_region_St hst 13 [0, 1, 2, 3, 4, 5, 6, 7, 8, 9, 10, 11, 12] [0, 1, 3, 7, 0, 16, 48, 0, 128, 384, 0, 2047, 4095] [] z (by kernel_rfl) (by kernel_rfl) Tryz.mixed (by kernel_rfl) ?_
 refine wsr (Pt b615 0) 0 z z z (by kernel_rfl) (fun w hst => z) (wsr (Pt b615 0) 1 z z z (by kernel_rfl) (fun w hst => z) (wsr (Pt b615 4) 2 z z z (by kernel_rfl) (fun w hst => x_field z underlying111 z sizeOf105 z) (wsr (v652) 3 z z z (by kernel_rfl) (fun w hst => x_load z isAgg105 (hst.bc0 z)) (wsr (Pt b590 1) 4 z z z (by kernel_rfl) (fun w hst => x_field z underlying49 z sizeOf28 z) (wsr (Pt b590 1) 5 z z z (by kernel_rfl) (fun w hst => x_field z underlying28 z sizeOf26 z) (wsr (.int .u64 a2.ID.Session) 6 z z z (by kernel_rfl) (fun w hst => x_load z isAgg26 (hst.bc8 z)) (wsr (Pt b590 1) 7 z z z (by kernel_rfl) (fun w hst => x_field z underlying49 z sizeOf28 z) (wsr (Pt b590 2) 8 z z z (by kernel_rfl) (fun w hst => x_field z underlying28 z sizeOf26 z) (wsr (.int .u64 a2.ID.Seq) 9 z z z (by kernel_rfl) (fun w hst => x_load z isAgg26 (hst.bc8 z)) (wsr (.agg #[I6 (9:Int), U6 a2.Epoch, U6 a1, Zs, Zs]) 10 z z z (by kernel_rfl) (fun w hst => x_loadN (cs := [I6 (9:Int), U6 a2.Epoch, U6 a1, Zs, Zs]) z isAgg33 sizeOf33 (hst.bcs10 0 z)) ?_))))))))))
 refine ws_e1 11 (by kernel_rfl) ?_
 refine nxe [12] (by kernel_rfl) z z ?_
 clear hst
 intro w hst
 have f663 : Ro ty_api_Got I (.slice none 0 0) [] := ro_nil
 have f664 : Ro (tySl ty_api_Pair) I (.slice none 0 0) [] := ro_nil
 replace hst := hst.pull3
 obtain ⟨t665, ht666, hm⟩ := bind_some hm
 refine wec call124 [v652, U6 a2.ID.Session, U6 a2.ID.Seq, .agg #[I6 (9:Int), U6 a2.Epoch, U6 a1, Zs, Zs]] z z ?_
 refine (session_Table_Put_ref (a3 := ({ E := (9:Int), Epoch := a2.Epoch, Index := a1, Gots := [], Scans := [] } : api_Reply)) f663 f664 hst.to1 ht666).mono ?_
 rintro _ w667 ⟨rfl, hst⟩
 refine ⟨_, z, ?_⟩
 replace hst := hst.of1
 refine ws_next (pend' := []) hst (by kernel_rfl) pk_nil ?_
 refine wsr (.bool (t665.1 != (0:Int))) 12 z z z (by kernel_rfl) (fun w hst => z) ?_
 refine ws_nil ?_
 intro w hst
 refine tn ?_
 refine bsplit (t665.1 != (0:Int)) (fun hc670 => ?_) (fun hc670 => ?_)
 {
 replace hm := bif_t hc670 hm
 refine wp_ift (cvb hc670) ?_
 refine wp_seq (wrl (wv (Pt b615 0) z z z (wv (Pt b590 1) z z (x_field z underlying49 z sizeOf28 z) (wv (.agg #[U6 a2.ID.Session, U6 a2.ID.Seq]) z z (x_loadN (cs := [U6 a2.ID.Session, U6 a2.ID.Seq]) z isAgg28 sizeOf28 (hst.bcs8 1 z)) ?_))))
 replace hst := hst.pull7.pull7.pull7.pull7.pull4.pull7.pull7.pull7
 replace hst := at_lane_State_close (pv := Pt b615 0) (x := ({ wide := o0.wide, epoch := o0.epoch, store := o0.store, locks := o0.locks, last := t665.2, book := o0.book, open_ := o0.open_, out := o0.out, used := o0.used } : lane_State)) hst z
 replace hst := objO_some hst
 obtain ⟨t671, ht672, hm⟩ := bind_some hm
 refine wc call125 [Pt b615 0, .agg #[U6 a2.ID.Session, U6 a2.ID.Seq]] z z z ?_
 refine (lane_State_late_ref hst.to1 ht672).mono ?_
 rintro _ w673 ⟨v676, v678, rfl, hst⟩
 refine ⟨_, z, ?_⟩
 replace hst := hst.of3.pull2
 replace hst := objO_get hst
 replace hst := hst.pull4
 obtain ⟨w680, hr681, hst⟩ := hst.bx [U1 t671.Kind, U6 t671.ID.Session, U6 t671.ID.Seq, I6 t671.R.E, U6 t671.R.Epoch, U6 t671.R.Index, v676, v678] sizeOf35 z (oC z (oC z (oC z (oC z (oC z (oC z (oC (one_of_sliceV hst.sv2) (oC (one_of_sliceV hst.sv3) oN)))))))) (by kernel_rfl)
 refine wl_unit z z (x_unit hr681) ?_
 refine wl_nil (tn (wp_ret (then_r ?_)))
 replace hst := hst.pull2
 obtain ⟨I682, hI683, f684, hst⟩ := hst.own_fix
 replace f2_0 := f2_0.mono (ro_le hI683)
 replace f2_1 := f2_1.mono (ro_le hI683)
 replace f2_2 := f2_2.mono (ro_le hI683)
 replace f2_3 := f2_3.mono (ro_le hI683)
 replace f2_4 := f2_4.mono (ro_le hI683)
 replace f2_5 := f2_5.mono (ro_le hI683)
 replace f2_6 := f2_6.mono (ro_le hI683)
 replace f2_7 := f2_7.mono (ro_le hI683)
 replace f663 := f663.mono (ro_le hI683)
 replace f664 := f664.mono (ro_le hI683)
 replace hI0 := hI0.trans hI683
 replace hst := hst.pull2
 obtain ⟨I685, hI686, f687, hst⟩ := hst.own_fix
 replace f2_0 := f2_0.mono (ro_le hI686)
 replace f2_1 := f2_1.mono (ro_le hI686)
 replace f2_2 := f2_2.mono (ro_le hI686)
 replace f2_3 := f2_3.mono (ro_le hI686)
 replace f2_4 := f2_4.mono (ro_le hI686)
 replace f2_5 := f2_5.mono (ro_le hI686)
 replace f2_6 := f2_6.mono (ro_le hI686)
 replace f2_7 := f2_7.mono (ro_le hI686)
 replace f663 := f663.mono (ro_le hI686)
 replace f664 := f664.mono (ro_le hI686)
 replace f684 := f684.mono (ro_le hI686)
 replace hI0 := hI0.trans hI686
 replace hst := hst.pull1
 replace hst := objO_some hst
 obtain rfl := some_inj hm
 refine post_ret (vs := [.agg #[U1 t671.Kind, U6 t671.ID.Session, U6 t671.ID.Seq, I6 t671.R.E, U6 t671.R.Epoch, U6 t671.R.Index, v676, v678]]) results50 (rvs_cons (rv_cell (cs := [U1 t671.Kind, U6 t671.ID.Session, U6 t671.ID.Seq, I6 t671.R.E, U6 t671.R.Epoch, U6 t671.R.Index, v676, v678]) z isAgg35 sizeOf35 (hst.bcs1 0 z)) rvs_nil) ?_
 exact ⟨_, v676, v678, z, hI0, f684, f687, hst.keep1⟩
}
 {
 replace hm := bif_f hc670 hm
 refine wp_iff (cvb hc670) ?_
 refine wp_skip (tn ?_)
 obtain ⟨y788, hm, hx789⟩ := bind_some hm
 refine wp_cut (fun a w => ∃ (I785 : HL) (z784 : lane_State) (σ786 : Nat → Value), (lane_State_decide_j2 a2 a1) z784 = some r ∧ a = Fr 103 (upd (upd (upd σ786 5 (Pt b590 0)) 6 (Pt b597 0)) 7 (Pt b604 0)) ∧ I.le I785 ∧ St w0 w I785 [cells b590 [U1 a2.Kind, U6 a2.ID.Session, U6 a2.ID.Seq, U6 a2.Epoch, U6 a2.Index, I6 a2.E, U6 a2.Hold.ID.Session, U6 a2.Hold.ID.Seq, U6 a2.Hold.Epoch, r2_0, r2_1, r2_2, r2_3, r2_4, I6 a2.R.E, U6 a2.R.Epoch, U6 a2.R.Index, r2_5, r2_6, U6 a2.Shards, r2_7, U6 a2.Rule.ID, I6 a2.Rule.From, I6 a2.Rule.To, F6 a2.Rule.Lo, F6 a2.Rule.Hi, U6 a2.Rule.Authority, I6 a2.Rule.Quota, .bool a2.On], cells b597 [Zb, Zu, Zu, Zi, Zu, Zu, Zs, Zs], cells b604 [I6 (9:Int), U6 a2.Epoch, U6 a1, Zs, Zs], at_lane_State (Pt b615 0) z784] R) ?_ ?_
 {
 have hL790 := HL.le.refl I
 refine wp_seq (wrl (wv (Pt b590 19) z z (x_field z underlying49 z sizeOf26 z) (wv (.int .u64 a2.Shards) z z (x_load z isAgg26 (hst.bc8 z)) (wv (.bool (a2.Shards != (0:Int))) z z z (wl_nil (tn ?_))))))
 refine bsplit (a2.Shards != (0:Int)) (fun hc688 => ?_) (fun hc688 => ?_)
 {
 replace hm := bif_t hc688 hm
 refine wp_ift (cvb hc688) ?_
 refine wp_seq (wrl (wv (Pt b590 1) z z (x_field z underlying49 z sizeOf28 z) (wv (.agg #[U6 a2.ID.Session, U6 a2.ID.Seq]) z z (x_loadN (cs := [U6 a2.ID.Session, U6 a2.ID.Seq]) z isAgg28 sizeOf28 (hst.bcs8 1 z)) (wv (Pt b604 0) z z (x_field z underlying33 z sizeOf29 z) (wv (.int .i64 (9:Int)) z z (x_load z isAgg29 (hst.bc10 z)) (wv (Pt b590 3) z z (x_field z underlying49 z sizeOf26 z) (wv (.int .u64 a2.Epoch) z z (x_load z isAgg26 (hst.bc8 z)) (wv (.int .u64 a1) z z z (wv (Pt b590 19) z z (x_field z underlying49 z sizeOf26 z) (wv (.int .u64 a2.Shards) z z (x_load z isAgg26 (hst.bc8 z)) (wv (.agg #[U6 a2.ID.Session, U6 a2.ID.Seq, I6 (9:Int), U6 a2.Epoch, U6 a1, U6 a2.Shards, Zs]) z z (by kernel_rfl) ?_)))))))))))
 obtain ⟨b691, w692, ew693, eb694, hst⟩ := hst.box [Zu, Zu, Zi, Zu, Zu, Zu, Zs] 89
 refine wl_run (v := Pt b691 0) (w' := w692) z z (x_al (by kernel_rfl) ew693 eb694) ?_
 obtain ⟨w696, hr697, hst⟩ := hst.bx [U6 a2.ID.Session, U6 a2.ID.Seq, I6 (9:Int), U6 a2.Epoch, U6 a1, U6 a2.Shards, Zs] sizeOf89 z (oC z (oC z (oC z (oC z (oC z (oC z (oC z oN))))))) (by kernel_rfl)
 refine wl_unit z z (x_unit hr697) ?_
 refine wl_nil (tn (wp_seq (wp_seq (wrl (wv (Pt b604 0) z z (x_field z underlying33 z sizeOf29 z) (wv (.int .i64 (9:Int)) z z (x_load z isAgg29 (hst.bc11 z)) (wv (.bool ((9:Int) == (0:Int))) z z z (wl_nil (tn ?_)))))))))
 refine bsplit ((9:Int) == (0:Int)) (fun hc698 => ?_) (fun hc698 => ?_)
 {
 replace hm := bif_t hc698 hm
 refine wp_ift (cvb hc698) ?_
 refine wrl (wv (Pt b590 20) z z (x_field z underlying49 z sizeOf47 z) (wv (r2_7) z z (x_load z isAgg47 (hst.bc9 z)) ?_))
 obtain ⟨t699, ht700, hm⟩ := bind_some hm
 refine wc call126 [r2_7] z z z ?_
 refine (slices_Clone_api_Part_api_Part_ref (RdO.of_ro f2_7 _) hst.to0 ht700).mono ?_
 rintro _ w701 ⟨v704, rfl, hst⟩
 refine ⟨_, z, ?_⟩
 replace hst := hst.of1
 refine wv (Pt b691 6) z z (x_field z underlying89 z sizeOf47 z) ?_
 replace hst := hst.pull1
 obtain ⟨w706, hr707, hst⟩ := hst.boxStore1 (P := prog) (t := 47) (cs' := [U6 a2.ID.Session, U6 a2.ID.Seq, I6 (9:Int), U6 a2.Epoch, U6 a1, U6 a2.Shards, v704]) 6 v704 (one_of_sliceV hst.sv1) sizeOf47 z z
 refine wl_unit z z (x_unit hr707) ?_
 refine wl_nil (tn (wp_seq (wrl (wv (Pt b615 0) z z z (wv (Pt b590 1) z z (x_field z underlying49 z sizeOf28 z) (wv (.agg #[U6 a2.ID.Session, U6 a2.ID.Seq]) z z (x_loadN (cs := [U6 a2.ID.Session, U6 a2.ID.Seq]) z isAgg28 sizeOf28 (hst.bcs10 1 z)) ?_))))))
 replace hst := hst.pull9.pull9.pull9.pull9.pull6.pull9.pull9.pull9
 replace hst := at_lane_State_close (pv := Pt b615 0) (x := ({ wide := o0.wide, epoch := o0.epoch, store := o0.store, locks := o0.locks, last := t665.2, book := o0.book, open_ := o0.open_, out := o0.out, used := o0.used } : lane_State)) hst z
 replace hst := objO_some hst
 obtain ⟨t708, ht709, hm⟩ := bind_some hm
 refine wc call51 [Pt b615 0, .agg #[U6 a2.ID.Session, U6 a2.ID.Seq]] z z z ?_
 refine (lane_State_find_ref hst.to1 ht709).mono ?_
 rintro _ w710 ⟨rfl, hst⟩
 refine ⟨_, z, ?_⟩
 replace hst := hst.of1
 replace hst := objO_get hst
 refine wv (.tuple #[I6 t708.1, .bool t708.2]) z z z (wv (.int .i64 t708.1) z z z (wv (.bool t708.2) z z z (wv (.int .i64 t708.1) z z z (wv (.bool t708.2) z z z (wl_nil (tn ?_))))))
 obtain ⟨b713, v714, v716, v718, v720, v722, v724, v726, e728, hst'⟩ := at_lane_State_open hst
 clear hst
 have e728 := ptr_inj e728
 subst e728
 have hst := hst'
 clear hst'
 refine wp_region_St hst 12 [0, 1, 2, 3, 4, 5, 6, 7, 8, 9, 10, 11] [0, 0, 2, 6, 14, 0, 0, 64, 254, 511, 1023, 2047] [] z (by kernel_rfl) (by kernel_rfl) Tryz.mixed (by kernel_rfl) ?_
 refine wsr (Pt b615 0) 0 z z z (by kernel_rfl) (fun w hst => z) (wsr (Pt b615 0) 1 z z z (by kernel_rfl) (fun w hst => z) (wsr (Pt b615 0) 2 z z z (by kernel_rfl) (fun w hst => z) (wsr (Pt b615 6) 3 z z z (by kernel_rfl) (fun w hst => x_field z underlying111 z sizeOf65 z) (wsr (v722) 4 z z z (by kernel_rfl) (fun w hst => x_load z isAgg65 (hst.bc0 z)) (wsr (.int .i64 t708.1) 5 z z z (by kernel_rfl) (fun w hst => z) (wsr (.agg #[U6 a2.ID.Session, U6 a2.ID.Seq, I6 (9:Int), U6 a2.Epoch, U6 a1, U6 a2.Shards, v704]) 6 z z z (by kernel_rfl) (fun w hst => x_loadN (cs := [U6 a2.ID.Session, U6 a2.ID.Seq, I6 (9:Int), U6 a2.Epoch, U6 a1, U6 a2.Shards, v704]) z isAgg89 sizeOf89 (hst.bcs8 0 z)) ?_))))))
 refine ws_e1 7 (by kernel_rfl) ?_
 refine nxe [8, 9, 10, 11] (by kernel_rfl) z z ?_
 clear hst
 intro w hst
 replace hst := hst.pull9
 obtain ⟨I730, hI731, f732, hst⟩ := hst.own_fix
 replace f2_0 := f2_0.mono (ro_le hI731)
 replace f2_1 := f2_1.mono (ro_le hI731)
 replace f2_2 := f2_2.mono (ro_le hI731)
 replace f2_3 := f2_3.mono (ro_le hI731)
 replace f2_4 := f2_4.mono (ro_le hI731)
 replace f2_5 := f2_5.mono (ro_le hI731)
 replace f2_6 := f2_6.mono (ro_le hI731)
 replace f2_7 := f2_7.mono (ro_le hI731)
 replace f663 := f663.mono (ro_le hI731)
 replace f664 := f664.mono (ro_le hI731)
 replace hI0 := hI0.trans hI731
 replace hL790 := hL790.trans hI731
 obtain ⟨b733, w734, ew735, eb736, hst⟩ := hst.lits (E := ty_api_Decision) (xs := [({ ID := a2.ID, E := (9:Int), Epoch := a2.Epoch, Index := a1, Shards := a2.Shards, Parts := t699 } : api_Decision)]) [[U6 a2.ID.Session, U6 a2.ID.Seq, I6 (9:Int), U6 a2.Epoch, U6 a1, U6 a2.Shards, v704]] 89 1 z (Reps.cons ⟨_, z, f732, one_of_sliceV (ro_sliceV f732)⟩ Reps.nil)
 refine we_run (v := (.slice (some ⟨b733, 0, none⟩) 1 1)) (w' := w734) z (x_als (by kernel_rfl) ew735 eb736) ?_
 refine ws_next (pend' := [(5, I6 t708.1), (4, v722), (3, Pt b615 6), (2, Pt b615 0), (1, Pt b615 0), (0, Pt b615 0)]) hst (by kernel_rfl) (pkr z z (fun w hst => z) (pkr z z (fun w hst => x_load z isAgg65 (hst.bc1 z)) (pkr z z (fun w hst => x_field z underlying111 z sizeOf65 z) (pkr z z (fun w hst => z) (pkr z z (fun w hst => z) (pkr z z (fun w hst => z) pk_nil)))))) ?_
 refine ws_e1 8 (by kernel_rfl) ?_
 refine nxe [9, 10, 11] (by kernel_rfl) z z ?_
 clear hst
 intro w hst
 replace hst := hst.pull6
 obtain ⟨t738, ht739, hm⟩ := bind_some hm
 refine wec call127 [v722, I6 t708.1, (.slice (some ⟨b733, 0, none⟩) 1 1)] z z ?_
 refine (slices_Insert_api_Decision_api_Decision_ref hst.to2 ht739).mono ?_
 rintro _ w740 ⟨v743, rfl, hst⟩
 refine ⟨_, z, ?_⟩
 replace hst := hst.of1
 refine ws_next (pend' := [(0, Pt b615 0)]) hst (by kernel_rfl) (pkr z z (fun w hst => z) pk_nil) ?_
 refine wsr (Pt b615 0) 9 z z z (by kernel_rfl) (fun w hst => z) (wsr (Pt b615 6) 10 z z z (by kernel_rfl) (fun w hst => x_field z underlying111 z sizeOf65 z) ?_)
 refine ws_e1 11 (by kernel_rfl) ?_
 refine nxe [] (by kernel_rfl) z z ?_
 clear hst
 intro w hst
 replace hst := hst.pull1
 obtain ⟨w745, hr746, hst⟩ := hst.boxStore1 (P := prog) (t := 65) (cs' := [I6 (({ wide := o0.wide, epoch := o0.epoch, store := o0.store, locks := o0.locks, last := t665.2, book := o0.book, open_ := o0.open_, out := o0.out, used := o0.used } : lane_State).wide), U6 (({ wide := o0.wide, epoch := o0.epoch, store := o0.store, locks := o0.locks, last := t665.2, book := o0.book, open_ := o0.open_, out := o0.out, used := o0.used } : lane_State).epoch), v714, v716, v718, v720, v743, v724, v726]) 6 v743 (one_of_sliceV hst.sv1) sizeOf65 z z
 refine we_unit z (x_unit hr746) ?_
 refine ws_next (pend' := []) hst (by kernel_rfl) pk_nil ?_
 refine ws_nil ?_
 intro w hst
 refine tn ?_
 replace hst := hst.pull7.pull7.pull3.pull7.pull7.pull7.pull7.pull7
 replace hst := at_lane_State_close (pv := Pt b615 0) (x := ({ wide := ({ wide := o0.wide, epoch := o0.epoch, store := o0.store, locks := o0.locks, last := t665.2, book := o0.book, open_ := o0.open_, out := o0.out, used := o0.used } : lane_State).wide, epoch := ({ wide := o0.wide, epoch := o0.epoch, store := o0.store, locks := o0.locks, last := t665.2, book := o0.book, open_ := o0.open_, out := o0.out, used := o0.used } : lane_State).epoch, store := ({ wide := o0.wide, epoch := o0.epoch, store := o0.store, locks := o0.locks, last := t665.2, book := o0.book, open_ := o0.open_, out := o0.out, used := o0.used } : lane_State).store, locks := ({ wide := o0.wide, epoch := o0.epoch, store := o0.store, locks := o0.locks, last := t665.2, book := o0.book, open_ := o0.open_, out := o0.out, used := o0.used } : lane_State).locks, last := ({ wide := o0.wide, epoch := o0.epoch, store := o0.store, locks := o0.locks, last := t665.2, book := o0.book, open_ := o0.open_, out := o0.out, used := o0.used } : lane_State).last, book := ({ wide := o0.wide, epoch := o0.epoch, store := o0.store, locks := o0.locks, last := t665.2, book := o0.book, open_ := o0.open_, out := o0.out, used := o0.used } : lane_State).book, open_ := t738, out := ({ wide := o0.wide, epoch := o0.epoch, store := o0.store, locks := o0.locks, last := t665.2, book := o0.book, open_ := o0.open_, out := o0.out, used := o0.used } : lane_State).out, used := ({ wide := o0.wide, epoch := o0.epoch, store := o0.store, locks := o0.locks, last := t665.2, book := o0.book, open_ := o0.open_, out := o0.out, used := o0.used } : lane_State).used } : lane_State)) hst z
 replace hst := hst.pull4.pull4.pull4.keep4
 obtain rfl := some_inj hm
 exact ⟨_, ({ wide := ({ wide := o0.wide, epoch := o0.epoch, store := o0.store, locks := o0.locks, last := t665.2, book := o0.book, open_ := o0.open_, out := o0.out, used := o0.used } : lane_State).wide, epoch := ({ wide := o0.wide, epoch := o0.epoch, store := o0.store, locks := o0.locks, last := t665.2, book := o0.book, open_ := o0.open_, out := o0.out, used := o0.used } : lane_State).epoch, store := ({ wide := o0.wide, epoch := o0.epoch, store := o0.store, locks := o0.locks, last := t665.2, book := o0.book, open_ := o0.open_, out := o0.out, used := o0.used } : lane_State).store, locks := ({ wide := o0.wide, epoch := o0.epoch, store := o0.store, locks := o0.locks, last := t665.2, book := o0.book, open_ := o0.open_, out := o0.out, used := o0.used } : lane_State).locks, last := ({ wide := o0.wide, epoch := o0.epoch, store := o0.store, locks := o0.locks, last := t665.2, book := o0.book, open_ := o0.open_, out := o0.out, used := o0.used } : lane_State).last, book := ({ wide := o0.wide, epoch := o0.epoch, store := o0.store, locks := o0.locks, last := t665.2, book := o0.book, open_ := o0.open_, out := o0.out, used := o0.used } : lane_State).book, open_ := t738, out := ({ wide := o0.wide, epoch := o0.epoch, store := o0.store, locks := o0.locks, last := t665.2, book := o0.book, open_ := o0.open_, out := o0.out, used := o0.used } : lane_State).out, used := ({ wide := o0.wide, epoch := o0.epoch, store := o0.store, locks := o0.locks, last := t665.2, book := o0.book, open_ := o0.open_, out := o0.out, used := o0.used } : lane_State).used } : lane_State), _, hx789, (fu 5 (Pt b590 0) z (fu 6 (Pt b597 0) z (fu 7 (Pt b604 0) z z))), hL790, hst⟩
}
 {
 replace hm := bif_f hc698 hm
 refine wp_iff (cvb hc698) ?_
 refine wp_skip (tn (wp_seq (wrl ?_)))
 refine wv (Pt b615 0) z z z (wv (Pt b590 1) z z (x_field z underlying49 z sizeOf28 z) (wv (.agg #[U6 a2.ID.Session, U6 a2.ID.Seq]) z z (x_loadN (cs := [U6 a2.ID.Session, U6 a2.ID.Seq]) z isAgg28 sizeOf28 (hst.bcs9 1 z)) ?_))
 replace hst := hst.pull8.pull8.pull8.pull8.pull5.pull8.pull8.pull8
 replace hst := at_lane_State_close (pv := Pt b615 0) (x := ({ wide := o0.wide, epoch := o0.epoch, store := o0.store, locks := o0.locks, last := t665.2, book := o0.book, open_ := o0.open_, out := o0.out, used := o0.used } : lane_State)) hst z
 replace hst := objO_some hst
 obtain ⟨t747, ht748, hm⟩ := bind_some hm
 refine wc call51 [Pt b615 0, .agg #[U6 a2.ID.Session, U6 a2.ID.Seq]] z z z ?_
 refine (lane_State_find_ref hst.to1 ht748).mono ?_
 rintro _ w749 ⟨rfl, hst⟩
 refine ⟨_, z, ?_⟩
 replace hst := hst.of1
 replace hst := objO_get hst
 refine wv (.tuple #[I6 t747.1, .bool t747.2]) z z z (wv (.int .i64 t747.1) z z z (wv (.bool t747.2) z z z (wv (.int .i64 t747.1) z z z (wv (.bool t747.2) z z z (wl_nil (tn ?_))))))
 obtain ⟨b752, v753, v755, v757, v759, v761, v763, v765, e767, hst'⟩ := at_lane_State_open hst
 clear hst
 have e767 := ptr_inj e767
 subst e767
 have hst := hst'
 clear hst'
 refine wp_region_St hst 12 [0, 1, 2, 3, 4, 5, 6, 7, 8, 9, 10, 11] [0, 0, 2, 6, 14, 0, 0, 64, 254, 511, 1023, 2047] [] z (by kernel_rfl) (by kernel_rfl) Tryz.mixed (by kernel_rfl) ?_
 refine wsr (Pt b615 0) 0 z z z (by kernel_rfl) (fun w hst => z) (wsr (Pt b615 0) 1 z z z (by kernel_rfl) (fun w hst => z) (wsr (Pt b615 0) 2 z z z (by kernel_rfl) (fun w hst => z) (wsr (Pt b615 6) 3 z z z (by kernel_rfl) (fun w hst => x_field z underlying111 z sizeOf65 z) (wsr (v761) 4 z z z (by kernel_rfl) (fun w hst => x_load z isAgg65 (hst.bc0 z)) (wsr (.int .i64 t747.1) 5 z z z (by kernel_rfl) (fun w hst => z) (wsr (.agg #[U6 a2.ID.Session, U6 a2.ID.Seq, I6 (9:Int), U6 a2.Epoch, U6 a1, U6 a2.Shards, Zs]) 6 z z z (by kernel_rfl) (fun w hst => x_loadN (cs := [U6 a2.ID.Session, U6 a2.ID.Seq, I6 (9:Int), U6 a2.Epoch, U6 a1, U6 a2.Shards, Zs]) z isAgg89 sizeOf89 (hst.bcs8 0 z)) ?_))))))
 refine ws_e1 7 (by kernel_rfl) ?_
 refine nxe [8, 9, 10, 11] (by kernel_rfl) z z ?_
 clear hst
 intro w hst
 have f769 : Ro ty_api_Part I (.slice none 0 0) [] := ro_nil
 obtain ⟨b770, w771, ew772, eb773, hst⟩ := hst.lits (E := ty_api_Decision) (xs := [({ ID := a2.ID, E := (9:Int), Epoch := a2.Epoch, Index := a1, Shards := a2.Shards, Parts := [] } : api_Decision)]) [[U6 a2.ID.Session, U6 a2.ID.Seq, I6 (9:Int), U6 a2.Epoch, U6 a1, U6 a2.Shards, Zs]] 89 1 z (Reps.cons ⟨_, z, f769, one_of_sliceV (ro_sliceV f769)⟩ Reps.nil)
 refine we_run (v := (.slice (some ⟨b770, 0, none⟩) 1 1)) (w' := w771) z (x_als (by kernel_rfl) ew772 eb773) ?_
 refine ws_next (pend' := [(5, I6 t747.1), (4, v761), (3, Pt b615 6), (2, Pt b615 0), (1, Pt b615 0), (0, Pt b615 0)]) hst (by kernel_rfl) (pkr z z (fun w hst => z) (pkr z z (fun w hst => x_load z isAgg65 (hst.bc1 z)) (pkr z z (fun w hst => x_field z underlying111 z sizeOf65 z) (pkr z z (fun w hst => z) (pkr z z (fun w hst => z) (pkr z z (fun w hst => z) pk_nil)))))) ?_
 refine ws_e1 8 (by kernel_rfl) ?_
 refine nxe [9, 10, 11] (by kernel_rfl) z z ?_
 clear hst
 intro w hst
 replace hst := hst.pull6
 obtain ⟨t775, ht776, hm⟩ := bind_some hm
 refine wec call127 [v761, I6 t747.1, (.slice (some ⟨b770, 0, none⟩) 1 1)] z z ?_
 refine (slices_Insert_api_Decision_api_Decision_ref hst.to2 ht776).mono ?_
 rintro _ w777 ⟨v780, rfl, hst⟩
 refine ⟨_, z, ?_⟩
 replace hst := hst.of1
 refine ws_next (pend' := [(0, Pt b615 0)]) hst (by kernel_rfl) (pkr z z (fun w hst => z) pk_nil) ?_
 refine wsr (Pt b615 0) 9 z z z (by kernel_rfl) (fun w hst => z) (wsr (Pt b615 6) 10 z z z (by kernel_rfl) (fun w hst => x_field z underlying111 z sizeOf65 z) ?_)
 refine ws_e1 11 (by kernel_rfl) ?_
 refine nxe [] (by kernel_rfl) z z ?_
 clear hst
 intro w hst
 replace hst := hst.pull1
 obtain ⟨w782, hr783, hst⟩ := hst.boxStore1 (P := prog) (t := 65) (cs' := [I6 (({ wide := o0.wide, epoch := o0.epoch, store := o0.store, locks := o0.locks, last := t665.2, book := o0.book, open_ := o0.open_, out := o0.out, used := o0.used } : lane_State).wide), U6 (({ wide := o0.wide, epoch := o0.epoch, store := o0.store, locks := o0.locks, last := t665.2, book := o0.book, open_ := o0.open_, out := o0.out, used := o0.used } : lane_State).epoch), v753, v755, v757, v759, v780, v763, v765]) 6 v780 (one_of_sliceV hst.sv1) sizeOf65 z z
 refine we_unit z (x_unit hr783) ?_
 refine ws_next (pend' := []) hst (by kernel_rfl) pk_nil ?_
 refine ws_nil ?_
 intro w hst
 refine tn ?_
 replace hst := hst.pull7.pull7.pull3.pull7.pull7.pull7.pull7.pull7
 replace hst := at_lane_State_close (pv := Pt b615 0) (x := ({ wide := ({ wide := o0.wide, epoch := o0.epoch, store := o0.store, locks := o0.locks, last := t665.2, book := o0.book, open_ := o0.open_, out := o0.out, used := o0.used } : lane_State).wide, epoch := ({ wide := o0.wide, epoch := o0.epoch, store := o0.store, locks := o0.locks, last := t665.2, book := o0.book, open_ := o0.open_, out := o0.out, used := o0.used } : lane_State).epoch, store := ({ wide := o0.wide, epoch := o0.epoch, store := o0.store, locks := o0.locks, last := t665.2, book := o0.book, open_ := o0.open_, out := o0.out, used := o0.used } : lane_State).store, locks := ({ wide := o0.wide, epoch := o0.epoch, store := o0.store, locks := o0.locks, last := t665.2, book := o0.book, open_ := o0.open_, out := o0.out, used := o0.used } : lane_State).locks, last := ({ wide := o0.wide, epoch := o0.epoch, store := o0.store, locks := o0.locks, last := t665.2, book := o0.book, open_ := o0.open_, out := o0.out, used := o0.used } : lane_State).last, book := ({ wide := o0.wide, epoch := o0.epoch, store := o0.store, locks := o0.locks, last := t665.2, book := o0.book, open_ := o0.open_, out := o0.out, used := o0.used } : lane_State).book, open_ := t775, out := ({ wide := o0.wide, epoch := o0.epoch, store := o0.store, locks := o0.locks, last := t665.2, book := o0.book, open_ := o0.open_, out := o0.out, used := o0.used } : lane_State).out, used := ({ wide := o0.wide, epoch := o0.epoch, store := o0.store, locks := o0.locks, last := t665.2, book := o0.book, open_ := o0.open_, out := o0.out, used := o0.used } : lane_State).used } : lane_State)) hst z
 replace hst := hst.pull4.pull4.pull4.keep4
 obtain rfl := some_inj hm
 exact ⟨_, ({ wide := ({ wide := o0.wide, epoch := o0.epoch, store := o0.store, locks := o0.locks, last := t665.2, book := o0.book, open_ := o0.open_, out := o0.out, used := o0.used } : lane_State).wide, epoch := ({ wide := o0.wide, epoch := o0.epoch, store := o0.store, locks := o0.locks, last := t665.2, book := o0.book, open_ := o0.open_, out := o0.out, used := o0.used } : lane_State).epoch, store := ({ wide := o0.wide, epoch := o0.epoch, store := o0.store, locks := o0.locks, last := t665.2, book := o0.book, open_ := o0.open_, out := o0.out, used := o0.used } : lane_State).store, locks := ({ wide := o0.wide, epoch := o0.epoch, store := o0.store, locks := o0.locks, last := t665.2, book := o0.book, open_ := o0.open_, out := o0.out, used := o0.used } : lane_State).locks, last := ({ wide := o0.wide, epoch := o0.epoch, store := o0.store, locks := o0.locks, last := t665.2, book := o0.book, open_ := o0.open_, out := o0.out, used := o0.used } : lane_State).last, book := ({ wide := o0.wide, epoch := o0.epoch, store := o0.store, locks := o0.locks, last := t665.2, book := o0.book, open_ := o0.open_, out := o0.out, used := o0.used } : lane_State).book, open_ := t775, out := ({ wide := o0.wide, epoch := o0.epoch, store := o0.store, locks := o0.locks, last := t665.2, book := o0.book, open_ := o0.open_, out := o0.out, used := o0.used } : lane_State).out, used := ({ wide := o0.wide, epoch := o0.epoch, store := o0.store, locks := o0.locks, last := t665.2, book := o0.book, open_ := o0.open_, out := o0.out, used := o0.used } : lane_State).used } : lane_State), _, hx789, (fu 5 (Pt b590 0) z (fu 6 (Pt b597 0) z (fu 7 (Pt b604 0) z z))), hL790, hst⟩
}
}
 {
 replace hm := bif_f hc688 hm
 refine wp_iff (cvb hc688) ?_
 refine wp_skip (tn ?_)
 replace hst := hst.pull7.pull7.pull7.pull7.pull4.pull7.pull7.pull7
 replace hst := at_lane_State_close (pv := Pt b615 0) (x := ({ wide := o0.wide, epoch := o0.epoch, store := o0.store, locks := o0.locks, last := t665.2, book := o0.book, open_ := o0.open_, out := o0.out, used := o0.used } : lane_State)) hst z
 replace hst := hst.pull3.pull3.pull3.keep4
 obtain rfl := some_inj hm
 exact ⟨_, ({ wide := o0.wide, epoch := o0.epoch, store := o0.store, locks := o0.locks, last := t665.2, book := o0.book, open_ := o0.open_, out := o0.out, used := o0.used } : lane_State), _, hx789, (fu 5 (Pt b590 0) z (fu 6 (Pt b597 0) z (fu 7 (Pt b604 0) z z))), hL790, hst⟩
}
}
 {
 clear hst
 rintro _ w791 ⟨I785, z784, σ786, hm, rfl, hL787, hst⟩
 dsimp only [lane_State_decide_j2] at hm
 replace f2_0 := f2_0.mono (ro_le hL787)
 replace f2_1 := f2_1.mono (ro_le hL787)
 replace f2_2 := f2_2.mono (ro_le hL787)
 replace f2_3 := f2_3.mono (ro_le hL787)
 replace f2_4 := f2_4.mono (ro_le hL787)
 replace f2_5 := f2_5.mono (ro_le hL787)
 replace f2_6 := f2_6.mono (ro_le hL787)
 replace f2_7 := f2_7.mono (ro_le hL787)
 replace f663 := f663.mono (ro_le hL787)
 replace f664 := f664.mono (ro_le hL787)
 replace hI0 := hI0.trans hL787
 refine wp_seq (wrl (wv (Pt b590 1) z z (x_field z underlying49 z sizeOf28 z) (wv (.agg #[U6 a2.ID.Session, U6 a2.ID.Seq]) z z (x_loadN (cs := [U6 a2.ID.Session, U6 a2.ID.Seq]) z isAgg28 sizeOf28 (hst.bcs0 1 z)) (wv (.agg #[I6 (9:Int), U6 a2.Epoch, U6 a1, Zs, Zs]) z z (x_loadN (cs := [I6 (9:Int), U6 a2.Epoch, U6 a1, Zs, Zs]) z isAgg33 sizeOf33 (hst.bcs2 0 z)) (wv (.agg #[U1 (4:Int), U6 a2.ID.Session, U6 a2.ID.Seq, I6 (9:Int), U6 a2.Epoch, U6 a1, Zs, Zs]) z z (by kernel_rfl) ?_)))))
 replace hst := hst.pull1
 obtain ⟨w794, hr795, hst⟩ := hst.bx [U1 (4:Int), U6 a2.ID.Session, U6 a2.ID.Seq, I6 (9:Int), U6 a2.Epoch, U6 a1, Zs, Zs] sizeOf35 z (oC z (oC z (oC z (oC z (oC z (oC z (oC (one_of_sliceV (ro_sliceV f663)) (oC (one_of_sliceV (ro_sliceV f664)) oN)))))))) (by kernel_rfl)
 refine wl_unit z z (x_unit hr795) ?_
 refine wl_nil (tn (wp_ret ?_))
 replace hst := hst.pull3
 replace hst := objO_some hst
 obtain rfl := some_inj hm
 refine post_ret (vs := [.agg #[U1 (4:Int), U6 a2.ID.Session, U6 a2.ID.Seq, I6 (9:Int), U6 a2.Epoch, U6 a1, Zs, Zs]]) results50 (rvs_cons (rv_cell (cs := [U1 (4:Int), U6 a2.ID.Session, U6 a2.ID.Seq, I6 (9:Int), U6 a2.Epoch, U6 a1, Zs, Zs]) z isAgg35 sizeOf35 (hst.bcs1 0 z)) rvs_nil) ?_
 exact ⟨_, Zs, Zs, z, hI0, f663, f664, hst.keep1⟩
}
}
}
}
 {
 replace hm := bif_f hc631 hm
 refine wp_iff (cvb hc631) ?_
 refine wp_skip (tn ?_)
 obtain ⟨y804, hm, hx805⟩ := joinO_some hm
 refine wp_cut (fun a w => ∃ (σ802 : Nat → Value), (lane_State_decide_j3 o0 a2 a1) () = some r ∧ a = Fr 103 (upd (upd (upd (upd (upd σ802 0 (Pt b615 0)) 1 (.int .u64 a1)) 5 (Pt b590 0)) 6 (Pt b597 0)) 7 (Pt b604 0)) ∧ St w0 w I [at_lane_State (Pt b615 0) o0, cells b590 [U1 a2.Kind, U6 a2.ID.Session, U6 a2.ID.Seq, U6 a2.Epoch, U6 a2.Index, I6 a2.E, U6 a2.Hold.ID.Session, U6 a2.Hold.ID.Seq, U6 a2.Hold.Epoch, r2_0, r2_1, r2_2, r2_3, r2_4, I6 a2.R.E, U6 a2.R.Epoch, U6 a2.R.Index, r2_5, r2_6, U6 a2.Shards, r2_7, U6 a2.Rule.ID, I6 a2.Rule.From, I6 a2.Rule.To, F6 a2.Rule.Lo, F6 a2.Rule.Hi, U6 a2.Rule.Authority, I6 a2.Rule.Quota, .bool a2.On], cells b597 [Zb, Zu, Zu, Zi, Zu, Zu, Zs, Zs], cells b604 [I6 a2.R.E, U6 a2.Epoch, U6 a1, r2_5, r2_6]] R) ?_ ?_
 {
 refine wp_seq (wrl (wv (Pt b604 0) z z (x_field z underlying33 z sizeOf29 z) (wv (.int .i64 a2.R.E) z z (x_load z isAgg29 (hst.bc8 z)) (wv (.bool (a2.R.E != (0:Int))) z z z (wv (.bool (a2.R.E != (0:Int))) z z z ?_)))))
 refine bsplit (a2.R.E != (0:Int)) (fun hc796 => ?_) (fun hc796 => ?_)
 {
 replace hm := bif_t hc796 hm
 refine wv (Pt b590 1) ((wanted_eq z z z (cvb hc796)).trans z) z (x_field z underlying49 z sizeOf28 z) (wv (Pt b590 1) ((wanted_eq z z z (cvb hc796)).trans z) z (x_field z underlying28 z sizeOf26 z) (wv (.int .u64 a2.ID.Session) ((wanted_eq z z z (cvb hc796)).trans z) z (x_load z isAgg26 (hst.bc10 z)) (wv (.bool (decide (a2.ID.Session ≥ (9223372036854775808:Int)))) ((wanted_eq z z z (cvb hc796)).trans z) z z (wv (.bool (decide (a2.ID.Session ≥ (9223372036854775808:Int)))) z z (x_pick_t hc796 z z) (wl_nil (tn ?_))))))
 refine bsplit (decide (a2.ID.Session ≥ (9223372036854775808:Int))) (fun hc797 => ?_) (fun hc797 => ?_)
 {
 replace hm := bif_t hc797 hm
 refine wp_ift (cvb hc797) ?_
 refine wp_seq (wrl (wv (.agg #[Zb, Zu, Zu, Zi, Zu, Zu, Zs, Zs]) z z (by kernel_rfl) ?_))
 replace hst := hst.pull9
 obtain ⟨w800, hr801, hst⟩ := hst.bx [Zb, Zu, Zu, Zi, Zu, Zu, Zs, Zs] sizeOf35 z (oC z (oC z (oC z (oC z (oC z (oC z (oC z (oC z oN)))))))) (by kernel_rfl)
 refine wl_unit z z (x_unit hr801) ?_
 refine wl_nil (tn (wp_ret (then_r ?_)))
 replace hm := inr_up hm hx805
 have f802 : Ro ty_api_Got I (.slice none 0 0) [] := ro_nil
 have f803 : Ro (tySl ty_api_Pair) I (.slice none 0 0) [] := ro_nil
 replace hst := hst.pull8.pull8.pull8.pull8.pull8.pull8.pull8.pull8
 replace hst := at_lane_State_close (pv := Pt b615 0) (x := o0) hst z
 replace hst := objO_some hst
 obtain rfl := some_inj hm
 refine post_ret (vs := [.agg #[Zb, Zu, Zu, Zi, Zu, Zu, Zs, Zs]]) results50 (rvs_cons (rv_cell (cs := [Zb, Zu, Zu, Zi, Zu, Zu, Zs, Zs]) z isAgg35 sizeOf35 (hst.bcs1 0 z)) rvs_nil) ?_
 exact ⟨_, Zs, Zs, z, hI0, f802, f803, hst.keep1⟩
}
 {
 replace hm := bif_f hc797 hm
 refine wp_iff (cvb hc797) ?_
 refine wp_skip (tn ?_)
 replace hst := hst.pull7.pull7.pull7.pull7.pull7.pull7.pull7.pull7
 replace hst := at_lane_State_close (pv := Pt b615 0) (x := o0) hst z
 replace hst := hst.pull1.pull2.pull3.pull3.keep4
 obtain rfl := some_inj hm
 exact ⟨_, hx805, (fu 0 (Pt b615 0) z (fu 1 (.int .u64 a1) z (fu 5 (Pt b590 0) z (fu 6 (Pt b597 0) z (fu 7 (Pt b604 0) z z))))), hst⟩
}
}
 {
 replace hm := bif_f hc796 hm
 refine wo hc796 z z z z z z (wo hc796 z z z z z z (wo hc796 z z z z z z (wo hc796 z z z z z z (wv (.bool false) z z (x_pick_f hc796 z z) (wl_nil (tn ?_))))))
 refine wp_iff z ?_
 refine wp_skip (tn ?_)
 replace hst := hst.pull7.pull7.pull7.pull7.pull7.pull7.pull7.pull7
 replace hst := at_lane_State_close (pv := Pt b615 0) (x := o0) hst z
 replace hst := hst.pull1.pull2.pull3.pull3.keep4
 obtain rfl := some_inj hm
 exact ⟨_, hx805, (fu 0 (Pt b615 0) z (fu 1 (.int .u64 a1) z (fu 5 (Pt b590 0) z (fu 6 (Pt b597 0) z (fu 7 (Pt b604 0) z z))))), hst⟩
}
}
 {
 clear hst
 rintro _ w806 ⟨σ802, hm, rfl, hst⟩
 dsimp only [lane_State_decide_j3] at hm
 refine wp_seq (wp_seq ?_)
 obtain ⟨b807, v808, v810, v812, v814, v816, v818, v820, e822, hst'⟩ := at_lane_State_open hst
 clear hst
 have e822 := ptr_inj e822
 subst e822
 have hst := hst'
 clear hst'
 refine wp_region_St hst 13 [0, 1, 2, 3, 4, 5, 6, 7, 8, 9, 10, 11, 12] [0, 1, 3, 7, 0, 16, 48, 0, 128, 384, 0, 2047, 4095] [] z (by kernel_rfl) (by kernel_rfl) Tryz.mixed (by kernel_rfl) ?_
 refine wsr (Pt b615 0) 0 z z z (by kernel_rfl) (fun w hst => z) (wsr (Pt b615 0) 1 z z z (by kernel_rfl) (fun w hst => z) (wsr (Pt b615 4) 2 z z z (by kernel_rfl) (fun w hst => x_field z underlying111 z sizeOf105 z) (wsr (v812) 3 z z z (by kernel_rfl) (fun w hst => x_load z isAgg105 (hst.bc0 z)) (wsr (Pt b590 1) 4 z z z (by kernel_rfl) (fun w hst => x_field z underlying49 z sizeOf28 z) (wsr (Pt b590 1) 5 z z z (by kernel_rfl) (fun w hst => x_field z underlying28 z sizeOf26 z) (wsr (.int .u64 a2.ID.Session) 6 z z z (by kernel_rfl) (fun w hst => x_load z isAgg26 (hst.bc8 z)) (wsr (Pt b590 1) 7 z z z (by kernel_rfl) (fun w hst => x_field z underlying49 z sizeOf28 z) (wsr (Pt b590 2) 8 z z z (by kernel_rfl) (fun w hst => x_field z underlying28 z sizeOf26 z) (wsr (.int .u64 a2.ID.Seq) 9 z z z (by kernel_rfl) (fun w hst => x_load z isAgg26 (hst.bc8 z)) (wsr (.agg #[I6 a2.R.E, U6 a2.Epoch, U6 a1, r2_5, r2_6]) 10 z z z (by kernel_rfl) (fun w hst => x_loadN (cs := [I6 a2.R.E, U6 a2.Epoch, U6 a1, r2_5, r2_6]) z isAgg33 sizeOf33 (hst.bcs10 0 z)) ?_))))))))))
 refine ws_e1 11 (by kernel_rfl) ?_
 refine nxe [12] (by kernel_rfl) z z ?_
 clear hst
 intro w hst
 replace hst := hst.pull3
 obtain ⟨t823, ht824, hm⟩ := bind_some hm
 refine wec call124 [v812, U6 a2.ID.Session, U6 a2.ID.Seq, .agg #[I6 a2.R.E, U6 a2.Epoch, U6 a1, r2_5, r2_6]] z z ?_
 refine (session_Table_Put_ref (a3 := ({ E := a2.R.E, Epoch := a2.Epoch, Index := a1, Gots := a2.R.Gots, Scans := a2.R.Scans } : api_Reply)) f2_5 f2_6 hst.to1 ht824).mono ?_
 rintro _ w825 ⟨rfl, hst⟩
 refine ⟨_, z, ?_⟩
 replace hst := hst.of1
 refine ws_next (pend' := []) hst (by kernel_rfl) pk_nil ?_
 refine wsr (.bool (t823.1 != (0:Int))) 12 z z z (by kernel_rfl) (fun w hst => z) ?_
 refine ws_nil ?_
 intro w hst
 refine tn ?_
 refine bsplit (t823.1 != (0:Int)) (fun hc828 => ?_) (fun hc828 => ?_)
 {
 replace hm := bif_t hc828 hm
 refine wp_ift (cvb hc828) ?_
 refine wp_seq (wrl (wv (Pt b615 0) z z z (wv (Pt b590 1) z z (x_field z underlying49 z sizeOf28 z) (wv (.agg #[U6 a2.ID.Session, U6 a2.ID.Seq]) z z (x_loadN (cs := [U6 a2.ID.Session, U6 a2.ID.Seq]) z isAgg28 sizeOf28 (hst.bcs8 1 z)) ?_))))
 replace hst := hst.pull7.pull7.pull7.pull7.pull4.pull7.pull7.pull7
 replace hst := at_lane_State_close (pv := Pt b615 0) (x := ({ wide := o0.wide, epoch := o0.epoch, store := o0.store, locks := o0.locks, last := t823.2, book := o0.book, open_ := o0.open_, out := o0.out, used := o0.used } : lane_State)) hst z
 replace hst := objO_some hst
 obtain ⟨t829, ht830, hm⟩ := bind_some hm
 refine wc call125 [Pt b615 0, .agg #[U6 a2.ID.Session, U6 a2.ID.Seq]] z z z ?_
 refine (lane_State_late_ref hst.to1 ht830).mono ?_
 rintro _ w831 ⟨v834, v836, rfl, hst⟩
 refine ⟨_, z, ?_⟩
 replace hst := hst.of3.pull2
 replace hst := objO_get hst
 replace hst := hst.pull4
 obtain ⟨w838, hr839, hst⟩ := hst.bx [U1 t829.Kind, U6 t829.ID.Session, U6 t829.ID.Seq, I6 t829.R.E, U6 t829.R.Epoch, U6 t829.R.Index, v834, v836] sizeOf35 z (oC z (oC z (oC z (oC z (oC z (oC z (oC (one_of_sliceV hst.sv2) (oC (one_of_sliceV hst.sv3) oN)))))))) (by kernel_rfl)
 refine wl_unit z z (x_unit hr839) ?_
 refine wl_nil (tn (wp_ret (then_r ?_)))
 replace hst := hst.pull2
 obtain ⟨I840, hI841, f842, hst⟩ := hst.own_fix
 replace f2_0 := f2_0.mono (ro_le hI841)
 replace f2_1 := f2_1.mono (ro_le hI841)
 replace f2_2 := f2_2.mono (ro_le hI841)
 replace f2_3 := f2_3.mono (ro_le hI841)
 replace f2_4 := f2_4.mono (ro_le hI841)
 replace f2_5 := f2_5.mono (ro_le hI841)
 replace f2_6 := f2_6.mono (ro_le hI841)
 replace f2_7 := f2_7.mono (ro_le hI841)
 replace hI0 := hI0.trans hI841
 replace hst := hst.pull2
 obtain ⟨I843, hI844, f845, hst⟩ := hst.own_fix
 replace f2_0 := f2_0.mono (ro_le hI844)
 replace f2_1 := f2_1.mono (ro_le hI844)
 replace f2_2 := f2_2.mono (ro_le hI844)
 replace f2_3 := f2_3.mono (ro_le hI844)
 replace f2_4 := f2_4.mono (ro_le hI844)
 replace f2_5 := f2_5.mono (ro_le hI844)
 replace f2_6 := f2_6.mono (ro_le hI844)
 replace f2_7 := f2_7.mono (ro_le hI844)
 replace f842 := f842.mono (ro_le hI844)
 replace hI0 := hI0.trans hI844
 replace hst := hst.pull1
 replace hst := objO_some hst
 obtain rfl := some_inj hm
 refine post_ret (vs := [.agg #[U1 t829.Kind, U6 t829.ID.Session, U6 t829.ID.Seq, I6 t829.R.E, U6 t829.R.Epoch, U6 t829.R.Index, v834, v836]]) results50 (rvs_cons (rv_cell (cs := [U1 t829.Kind, U6 t829.ID.Session, U6 t829.ID.Seq, I6 t829.R.E, U6 t829.R.Epoch, U6 t829.R.Index, v834, v836]) z isAgg35 sizeOf35 (hst.bcs1 0 z)) rvs_nil) ?_
 exact ⟨_, v834, v836, z, hI0, f842, f845, hst.keep1⟩
}
 {
 replace hm := bif_f hc828 hm
 refine wp_iff (cvb hc828) ?_
 refine wp_skip (tn ?_)
 obtain ⟨y908, hm, hx909⟩ := bind_some hm
 refine wp_cut (fun a w => ∃ (I905 : HL) (z904 : lane_State) (σ906 : Nat → Value), (lane_State_decide_j4 a2 a1) z904 = some r ∧ a = Fr 103 (upd (upd (upd σ906 5 (Pt b590 0)) 6 (Pt b597 0)) 7 (Pt b604 0)) ∧ I.le I905 ∧ St w0 w I905 [cells b590 [U1 a2.Kind, U6 a2.ID.Session, U6 a2.ID.Seq, U6 a2.Epoch, U6 a2.Index, I6 a2.E, U6 a2.Hold.ID.Session, U6 a2.Hold.ID.Seq, U6 a2.Hold.Epoch, r2_0, r2_1, r2_2, r2_3, r2_4, I6 a2.R.E, U6 a2.R.Epoch, U6 a2.R.Index, r2_5, r2_6, U6 a2.Shards, r2_7, U6 a2.Rule.ID, I6 a2.Rule.From, I6 a2.Rule.To, F6 a2.Rule.Lo, F6 a2.Rule.Hi, U6 a2.Rule.Authority, I6 a2.Rule.Quota, .bool a2.On], cells b597 [Zb, Zu, Zu, Zi, Zu, Zu, Zs, Zs], cells b604 [I6 a2.R.E, U6 a2.Epoch, U6 a1, r2_5, r2_6], at_lane_State (Pt b615 0) z904] R) ?_ ?_
 {
 have hL910 := HL.le.refl I
 refine wp_seq (wrl (wv (Pt b590 19) z z (x_field z underlying49 z sizeOf26 z) (wv (.int .u64 a2.Shards) z z (x_load z isAgg26 (hst.bc8 z)) (wv (.bool (a2.Shards != (0:Int))) z z z (wl_nil (tn ?_))))))
 refine bsplit (a2.Shards != (0:Int)) (fun hc846 => ?_) (fun hc846 => ?_)
 {
 replace hm := bif_t hc846 hm
 refine wp_ift (cvb hc846) ?_
 refine wp_seq (wrl (wv (Pt b590 1) z z (x_field z underlying49 z sizeOf28 z) (wv (.agg #[U6 a2.ID.Session, U6 a2.ID.Seq]) z z (x_loadN (cs := [U6 a2.ID.Session, U6 a2.ID.Seq]) z isAgg28 sizeOf28 (hst.bcs8 1 z)) (wv (Pt b604 0) z z (x_field z underlying33 z sizeOf29 z) (wv (.int .i64 a2.R.E) z z (x_load z isAgg29 (hst.bc10 z)) (wv (Pt b590 3) z z (x_field z underlying49 z sizeOf26 z) (wv (.int .u64 a2.Epoch) z z (x_load z isAgg26 (hst.bc8 z)) (wv (.int .u64 a1) z z z (wv (Pt b590 19) z z (x_field z underlying49 z sizeOf26 z) (wv (.int .u64 a2.Shards) z z (x_load z isAgg26 (hst.bc8 z)) (wv (.agg #[U6 a2.ID.Session, U6 a2.ID.Seq, I6 a2.R.E, U6 a2.Epoch, U6 a1, U6 a2.Shards, Zs]) z z (by kernel_rfl) ?_)))))))))))
 obtain ⟨b849, w850, ew851, eb852, hst⟩ := hst.box [Zu, Zu, Zi, Zu, Zu, Zu, Zs] 89
 refine wl_run (v := Pt b849 0) (w' := w850) z z (x_al (by kernel_rfl) ew851 eb852) ?_
 obtain ⟨w854, hr855, hst⟩ := hst.bx [U6 a2.ID.Session, U6 a2.ID.Seq, I6 a2.R.E, U6 a2.Epoch, U6 a1, U6 a2.Shards, Zs] sizeOf89 z (oC z (oC z (oC z (oC z (oC z (oC z (oC z oN))))))) (by kernel_rfl)
 refine wl_unit z z (x_unit hr855) ?_
 refine wl_nil (tn (wp_seq (wp_seq (wrl (wv (Pt b604 0) z z (x_field z underlying33 z sizeOf29 z) (wv (.int .i64 a2.R.E) z z (x_load z isAgg29 (hst.bc11 z)) (wv (.bool (a2.R.E == (0:Int))) z z z (wl_nil (tn ?_)))))))))
 refine wp_ift (cvb hc630) ?_
 refine wrl (wv (Pt b590 20) z z (x_field z underlying49 z sizeOf47 z) (wv (r2_7) z z (x_load z isAgg47 (hst.bc9 z)) ?_))
 obtain ⟨t856, ht857, hm⟩ := bind_some hm
 refine wc call126 [r2_7] z z z ?_
 refine (slices_Clone_api_Part_api_Part_ref (RdO.of_ro f2_7 _) hst.to0 ht857).mono ?_
 rintro _ w858 ⟨v861, rfl, hst⟩
 refine ⟨_, z, ?_⟩
 replace hst := hst.of1
 refine wv (Pt b849 6) z z (x_field z underlying89 z sizeOf47 z) ?_
 replace hst := hst.pull1
 obtain ⟨w863, hr864, hst⟩ := hst.boxStore1 (P := prog) (t := 47) (cs' := [U6 a2.ID.Session, U6 a2.ID.Seq, I6 a2.R.E, U6 a2.Epoch, U6 a1, U6 a2.Shards, v861]) 6 v861 (one_of_sliceV hst.sv1) sizeOf47 z z
 refine wl_unit z z (x_unit hr864) ?_
 refine wl_nil (tn (wp_seq (wrl (wv (Pt b615 0) z z z (wv (Pt b590 1) z z (x_field z underlying49 z sizeOf28 z) (wv (.agg #[U6 a2.ID.Session, U6 a2.ID.Seq]) z z (x_loadN (cs := [U6 a2.ID.Session, U6 a2.ID.Seq]) z isAgg28 sizeOf28 (hst.bcs10 1 z)) ?_))))))
 replace hst := hst.pull9.pull9.pull9.pull9.pull6.pull9.pull9.pull9
 replace hst := at_lane_State_close (pv := Pt b615 0) (x := ({ wide := o0.wide, epoch := o0.epoch, store := o0.store, locks := o0.locks, last := t823.2, book := o0.book, open_ := o0.open_, out := o0.out, used := o0.used } : lane_State)) hst z
 replace hst := objO_some hst
 obtain ⟨t865, ht866, hm⟩ := bind_some hm
 refine wc call51 [Pt b615 0, .agg #[U6 a2.ID.Session, U6 a2.ID.Seq]] z z z ?_
 refine (lane_State_find_ref hst.to1 ht866).mono ?_
 rintro _ w867 ⟨rfl, hst⟩
 refine ⟨_, z, ?_⟩
 replace hst := hst.of1
 replace hst := objO_get hst
 refine wv (.tuple #[I6 t865.1, .bool t865.2]) z z z (wv (.int .i64 t865.1) z z z (wv (.bool t865.2) z z z (wv (.int .i64 t865.1) z z z (wv (.bool t865.2) z z z (wl_nil (tn ?_))))))
 obtain ⟨b870, v871, v873, v875, v877, v879, v881, v883, e885, hst'⟩ := at_lane_State_open hst
 clear hst
 have e885 := ptr_inj e885
 subst e885
 have hst := hst'
 clear hst'
 refine wp_region_St hst 12 [0, 1, 2, 3, 4, 5, 6, 7, 8, 9, 10, 11] [0, 0, 2, 6, 14, 0, 0, 64, 254, 511, 1023, 2047] [] z (by kernel_rfl) (by kernel_rfl) Tryz.mixed (by kernel_rfl) ?_
 refine wsr (Pt b615 0) 0 z z z (by kernel_rfl) (fun w hst => z) (wsr (Pt b615 0) 1 z z z (by kernel_rfl) (fun w hst => z) (wsr (Pt b615 0) 2 z z z (by kernel_rfl) (fun w hst => z) (wsr (Pt b615 6) 3 z z z (by kernel_rfl) (fun w hst => x_field z underlying111 z sizeOf65 z) (wsr (v879) 4 z z z (by kernel_rfl) (fun w hst => x_load z isAgg65 (hst.bc0 z)) (wsr (.int .i64 t865.1) 5 z z z (by kernel_rfl) (fun w hst => z) (wsr (.agg #[U6 a2.ID.Session, U6 a2.ID.Seq, I6 a2.R.E, U6 a2.Epoch, U6 a1, U6 a2.Shards, v861]) 6 z z z (by kernel_rfl) (fun w hst => x_loadN (cs := [U6 a2.ID.Session, U6 a2.ID.Seq, I6 a2.R.E, U6 a2.Epoch, U6 a1, U6 a2.Shards, v861]) z isAgg89 sizeOf89 (hst.bcs8 0 z)) ?_))))))
 refine ws_e1 7 (by kernel_rfl) ?_
 refine nxe [8, 9, 10, 11] (by kernel_rfl) z z ?_
 clear hst
 intro w hst
 replace hst := hst.pull9
 obtain ⟨I887, hI888, f889, hst⟩ := hst.own_fix
 replace f2_0 := f2_0.mono (ro_le hI888)
 replace f2_1 := f2_1.mono (ro_le hI888)
 replace f2_2 := f2_2.mono (ro_le hI888)
 replace f2_3 := f2_3.mono (ro_le hI888)
 replace f2_4 := f2_4.mono (ro_le hI888)
 replace f2_5 := f2_5.mono (ro_le hI888)
 replace f2_6 := f2_6.mono (ro_le hI888)
 replace f2_7 := f2_7.mono (ro_le hI888)
 replace hI0 := hI0.trans hI888
 replace hL910 := hL910.trans hI888
 obtain ⟨b890, w891, ew892, eb893, hst⟩ := hst.lits (E := ty_api_Decision) (xs := [({ ID := a2.ID, E := a2.R.E, Epoch := a2.Epoch, Index := a1, Shards := a2.Shards, Parts := t856 } : api_Decision)]) [[U6 a2.ID.Session, U6 a2.ID.Seq, I6 a2.R.E, U6 a2.Epoch, U6 a1, U6 a2.Shards, v861]] 89 1 z (Reps.cons ⟨_, z, f889, one_of_sliceV (ro_sliceV f889)⟩ Reps.nil)
 refine we_run (v := (.slice (some ⟨b890, 0, none⟩) 1 1)) (w' := w891) z (x_als (by kernel_rfl) ew892 eb893) ?_
 refine ws_next (pend' := [(5, I6 t865.1), (4, v879), (3, Pt b615 6), (2, Pt b615 0), (1, Pt b615 0), (0, Pt b615 0)]) hst (by kernel_rfl) (pkr z z (fun w hst => z) (pkr z z (fun w hst => x_load z isAgg65 (hst.bc1 z)) (pkr z z (fun w hst => x_field z underlying111 z sizeOf65 z) (pkr z z (fun w hst => z) (pkr z z (fun w hst => z) (pkr z z (fun w hst => z) pk_nil)))))) ?_
 refine ws_e1 8 (by kernel_rfl) ?_
 refine nxe [9, 10, 11] (by kernel_rfl) z z ?_
 clear hst
 intro w hst
 replace hst := hst.pull6
 obtain ⟨t895, ht896, hm⟩ := bind_some hm
 refine wec call127 [v879, I6 t865.1, (.slice (some ⟨b890, 0, none⟩) 1 1)] z z ?_
 refine (slices_Insert_api_Decision_api_Decision_ref hst.to2 ht896).mono ?_
 rintro _ w897 ⟨v900, rfl, hst⟩
 refine ⟨_, z, ?_⟩
 replace hst := hst.of1
 refine ws_next (pend' := [(0, Pt b615 0)]) hst (by kernel_rfl) (pkr z z (fun w hst => z) pk_nil) ?_
 refine wsr (Pt b615 0) 9 z z z (by kernel_rfl) (fun w hst => z) (wsr (Pt b615 6) 10 z z z (by kernel_rfl) (fun w hst => x_field z underlying111 z sizeOf65 z) ?_)
 refine ws_e1 11 (by kernel_rfl) ?_
 refine nxe [] (by kernel_rfl) z z ?_
 clear hst
 intro w hst
 replace hst := hst.pull1
 obtain ⟨w902, hr903, hst⟩ := hst.boxStore1 (P := prog) (t := 65) (cs' := [I6 (({ wide := o0.wide, epoch := o0.epoch, store := o0.store, locks := o0.locks, last := t823.2, book := o0.book, open_ := o0.open_, out := o0.out, used := o0.used } : lane_State).wide), U6 (({ wide := o0.wide, epoch := o0.epoch, store := o0.store, locks := o0.locks, last := t823.2, book := o0.book, open_ := o0.open_, out := o0.out, used := o0.used } : lane_State).epoch), v871, v873, v875, v877, v900, v881, v883]) 6 v900 (one_of_sliceV hst.sv1) sizeOf65 z z
 refine we_unit z (x_unit hr903) ?_
 refine ws_next (pend' := []) hst (by kernel_rfl) pk_nil ?_
 refine ws_nil ?_
 intro w hst
 refine tn ?_
 replace hst := hst.pull7.pull7.pull3.pull7.pull7.pull7.pull7.pull7
 replace hst := at_lane_State_close (pv := Pt b615 0) (x := ({ wide := ({ wide := o0.wide, epoch := o0.epoch, store := o0.store, locks := o0.locks, last := t823.2, book := o0.book, open_ := o0.open_, out := o0.out, used := o0.used } : lane_State).wide, epoch := ({ wide := o0.wide, epoch := o0.epoch, store := o0.store, locks := o0.locks, last := t823.2, book := o0.book, open_ := o0.open_, out := o0.out, used := o0.used } : lane_State).epoch, store := ({ wide := o0.wide, epoch := o0.epoch, store := o0.store, locks := o0.locks, last := t823.2, book := o0.book, open_ := o0.open_, out := o0.out, used := o0.used } : lane_State).store, locks := ({ wide := o0.wide, epoch := o0.epoch, store := o0.store, locks := o0.locks, last := t823.2, book := o0.book, open_ := o0.open_, out := o0.out, used := o0.used } : lane_State).locks, last := ({ wide := o0.wide, epoch := o0.epoch, store := o0.store, locks := o0.locks, last := t823.2, book := o0.book, open_ := o0.open_, out := o0.out, used := o0.used } : lane_State).last, book := ({ wide := o0.wide, epoch := o0.epoch, store := o0.store, locks := o0.locks, last := t823.2, book := o0.book, open_ := o0.open_, out := o0.out, used := o0.used } : lane_State).book, open_ := t895, out := ({ wide := o0.wide, epoch := o0.epoch, store := o0.store, locks := o0.locks, last := t823.2, book := o0.book, open_ := o0.open_, out := o0.out, used := o0.used } : lane_State).out, used := ({ wide := o0.wide, epoch := o0.epoch, store := o0.store, locks := o0.locks, last := t823.2, book := o0.book, open_ := o0.open_, out := o0.out, used := o0.used } : lane_State).used } : lane_State)) hst z
 replace hst := hst.pull4.pull4.pull4.keep4
 obtain rfl := some_inj hm
 exact ⟨_, ({ wide := ({ wide := o0.wide, epoch := o0.epoch, store := o0.store, locks := o0.locks, last := t823.2, book := o0.book, open_ := o0.open_, out := o0.out, used := o0.used } : lane_State).wide, epoch := ({ wide := o0.wide, epoch := o0.epoch, store := o0.store, locks := o0.locks, last := t823.2, book := o0.book, open_ := o0.open_, out := o0.out, used := o0.used } : lane_State).epoch, store := ({ wide := o0.wide, epoch := o0.epoch, store := o0.store, locks := o0.locks, last := t823.2, book := o0.book, open_ := o0.open_, out := o0.out, used := o0.used } : lane_State).store, locks := ({ wide := o0.wide, epoch := o0.epoch, store := o0.store, locks := o0.locks, last := t823.2, book := o0.book, open_ := o0.open_, out := o0.out, used := o0.used } : lane_State).locks, last := ({ wide := o0.wide, epoch := o0.epoch, store := o0.store, locks := o0.locks, last := t823.2, book := o0.book, open_ := o0.open_, out := o0.out, used := o0.used } : lane_State).last, book := ({ wide := o0.wide, epoch := o0.epoch, store := o0.store, locks := o0.locks, last := t823.2, book := o0.book, open_ := o0.open_, out := o0.out, used := o0.used } : lane_State).book, open_ := t895, out := ({ wide := o0.wide, epoch := o0.epoch, store := o0.store, locks := o0.locks, last := t823.2, book := o0.book, open_ := o0.open_, out := o0.out, used := o0.used } : lane_State).out, used := ({ wide := o0.wide, epoch := o0.epoch, store := o0.store, locks := o0.locks, last := t823.2, book := o0.book, open_ := o0.open_, out := o0.out, used := o0.used } : lane_State).used } : lane_State), _, hx909, (fu 5 (Pt b590 0) z (fu 6 (Pt b597 0) z (fu 7 (Pt b604 0) z z))), hL910, hst⟩
}
 {
 replace hm := bif_f hc846 hm
 refine wp_iff (cvb hc846) ?_
 refine wp_skip (tn ?_)
 replace hst := hst.pull7.pull7.pull7.pull7.pull4.pull7.pull7.pull7
 replace hst := at_lane_State_close (pv := Pt b615 0) (x := ({ wide := o0.wide, epoch := o0.epoch, store := o0.store, locks := o0.locks, last := t823.2, book := o0.book, open_ := o0.open_, out := o0.out, used := o0.used } : lane_State)) hst z
 replace hst := hst.pull3.pull3.pull3.keep4
 obtain rfl := some_inj hm
 exact ⟨_, ({ wide := o0.wide, epoch := o0.epoch, store := o0.store, locks := o0.locks, last := t823.2, book := o0.book, open_ := o0.open_, out := o0.out, used := o0.used } : lane_State), _, hx909, (fu 5 (Pt b590 0) z (fu 6 (Pt b597 0) z (fu 7 (Pt b604 0) z z))), hL910, hst⟩
}
}
 {
 clear hst
 rintro _ w911 ⟨I905, z904, σ906, hm, rfl, hL907, hst⟩
 dsimp only [lane_State_decide_j4] at hm
 replace f2_0 := f2_0.mono (ro_le hL907)
 replace f2_1 := f2_1.mono (ro_le hL907)
 replace f2_2 := f2_2.mono (ro_le hL907)
 replace f2_3 := f2_3.mono (ro_le hL907)
 replace f2_4 := f2_4.mono (ro_le hL907)
 replace f2_5 := f2_5.mono (ro_le hL907)
 replace f2_6 := f2_6.mono (ro_le hL907)
 replace f2_7 := f2_7.mono (ro_le hL907)
 replace hI0 := hI0.trans hL907
 refine wp_seq (wrl (wv (Pt b590 1) z z (x_field z underlying49 z sizeOf28 z) (wv (.agg #[U6 a2.ID.Session, U6 a2.ID.Seq]) z z (x_loadN (cs := [U6 a2.ID.Session, U6 a2.ID.Seq]) z isAgg28 sizeOf28 (hst.bcs0 1 z)) (wv (.agg #[I6 a2.R.E, U6 a2.Epoch, U6 a1, r2_5, r2_6]) z z (x_loadN (cs := [I6 a2.R.E, U6 a2.Epoch, U6 a1, r2_5, r2_6]) z isAgg33 sizeOf33 (hst.bcs2 0 z)) (wv (.agg #[U1 (4:Int), U6 a2.ID.Session, U6 a2.ID.Seq, I6 a2.R.E, U6 a2.Epoch, U6 a1, r2_5, r2_6]) z z (by obtain ⟨_, _, hv_, _⟩ := (ro_sliceV f2_6); rw [hv_]; obtain ⟨_, _, hv_, _⟩ := (ro_sliceV f2_5); rw [hv_]; kernel_rfl) ?_)))))
 replace hst := hst.pull1
 obtain ⟨w914, hr915, hst⟩ := hst.bx [U1 (4:Int), U6 a2.ID.Session, U6 a2.ID.Seq, I6 a2.R.E, U6 a2.Epoch, U6 a1, r2_5, r2_6] sizeOf35 z (oC z (oC z (oC z (oC z (oC z (oC z (oC (one_of_sliceV (ro_sliceV f2_5)) (oC (one_of_sliceV (ro_sliceV f2_6)) oN)))))))) (by kernel_rfl)
 refine wl_unit z z (x_unit hr915) ?_
 refine wl_nil (tn (wp_ret ?_))
 replace hst := hst.pull3
 replace hst := objO_some hst
 obtain rfl := some_inj hm
 refine post_ret (vs := [.agg #[U1 (4:Int), U6 a2.ID.Session, U6 a2.ID.Seq, I6 a2.R.E, U6 a2.Epoch, U6 a1, r2_5, r2_6]]) results50 (rvs_cons (rv_cell (cs := [U1 (4:Int), U6 a2.ID.Session, U6 a2.ID.Seq, I6 a2.R.E, U6 a2.Epoch, U6 a1, r2_5, r2_6]) z isAgg35 sizeOf35 (hst.bcs1 0 z)) rvs_nil) ?_
 exact ⟨_, r2_5, r2_6, z, hI0, f2_5, f2_6, hst.keep1⟩
}
}
}
}
}
 {
 replace hm := bif_f hc630 hm
 refine wq_off ((wanted_eq z z z (cvb hc630)).trans z) z ?_
 refine wq_off ((wanted_eq z z z (cvb hc630)).trans z) z ?_
 refine wq_off ((wanted_eq z z z (cvb hc630)).trans z) z ?_
 refine wq_off ((wanted_eq z z z (cvb hc630)).trans z) z ?_
 refine wq_off ((wanted_eq z z z (cvb hc630)).trans z) z ?_
 refine wq_off ((wanted_eq z z z (cvb hc630)).trans z) z ?_
 refine wq_off ((wanted_eq z z z (cvb hc630)).trans z) z ?_
 refine wq_run (v := .bool false) z z (fun w hst => x_pick_f hc630 z z) ?_
 refine wq_nil ?_
 intro w hst
 refine tn ?_
 refine wp_iff z ?_
 refine wp_skip (tn ?_)
 obtain ⟨y924, hm, hx925⟩ := joinO_some hm
 refine wp_cut (fun a w => ∃ (σ922 : Nat → Value), (lane_State_decide_j5 o0 a2 a1) () = some r ∧ a = Fr 103 (upd (upd (upd (upd (upd σ922 0 (Pt b615 0)) 1 (.int .u64 a1)) 5 (Pt b590 0)) 6 (Pt b597 0)) 7 (Pt b604 0)) ∧ St w0 w I [at_lane_State (Pt b615 0) o0, cells b590 [U1 a2.Kind, U6 a2.ID.Session, U6 a2.ID.Seq, U6 a2.Epoch, U6 a2.Index, I6 a2.E, U6 a2.Hold.ID.Session, U6 a2.Hold.ID.Seq, U6 a2.Hold.Epoch, r2_0, r2_1, r2_2, r2_3, r2_4, I6 a2.R.E, U6 a2.R.Epoch, U6 a2.R.Index, r2_5, r2_6, U6 a2.Shards, r2_7, U6 a2.Rule.ID, I6 a2.Rule.From, I6 a2.Rule.To, F6 a2.Rule.Lo, F6 a2.Rule.Hi, U6 a2.Rule.Authority, I6 a2.Rule.Quota, .bool a2.On], cells b597 [Zb, Zu, Zu, Zi, Zu, Zu, Zs, Zs], cells b604 [I6 a2.R.E, U6 a2.Epoch, U6 a1, r2_5, r2_6]] R) ?_ ?_
 {
 refine wp_seq (wrl (wv (Pt b604 0) z z (x_field z underlying33 z sizeOf29 z) (wv (.int .i64 a2.R.E) z z (x_load z isAgg29 (hst.bc8 z)) (wv (.bool (a2.R.E != (0:Int))) z z z (wv (.bool (a2.R.E != (0:Int))) z z z ?_)))))
 refine bsplit (a2.R.E != (0:Int)) (fun hc916 => ?_) (fun hc916 => ?_)
 {
 replace hm := bif_t hc916 hm
 refine wv (Pt b590 1) ((wanted_eq z z z (cvb hc916)).trans z) z (x_field z underlying49 z sizeOf28 z) (wv (Pt b590 1) ((wanted_eq z z z (cvb hc916)).trans z) z (x_field z underlying28 z sizeOf26 z) (wv (.int .u64 a2.ID.Session) ((wanted_eq z z z (cvb hc916)).trans z) z (x_load z isAgg26 (hst.bc10 z)) (wv (.bool (decide (a2.ID.Session ≥ (9223372036854775808:Int)))) ((wanted_eq z z z (cvb hc916)).trans z) z z (wv (.bool (decide (a2.ID.Session ≥ (9223372036854775808:Int)))) z z (x_pick_t hc916 z z) (wl_nil (tn ?_))))))
 refine bsplit (decide (a2.ID.Session ≥ (9223372036854775808:Int))) (fun hc917 => ?_) (fun hc917 => ?_)
 {
 replace hm := bif_t hc917 hm
 refine wp_ift (cvb hc917) ?_
 refine wp_seq (wrl (wv (.agg #[Zb, Zu, Zu, Zi, Zu, Zu, Zs, Zs]) z z (by kernel_rfl) ?_))
 replace hst := hst.pull9
 obtain ⟨w920, hr921, hst⟩ := hst.bx [Zb, Zu, Zu, Zi, Zu, Zu, Zs, Zs] sizeOf35 z (oC z (oC z (oC z (oC z (oC z (oC z (oC z (oC z oN)))))))) (by kernel_rfl)
 refine wl_unit z z (x_unit hr921) ?_
 refine wl_nil (tn (wp_ret (then_r ?_)))
 replace hm := inr_up hm hx925
 have f922 : Ro ty_api_Got I (.slice none 0 0) [] := ro_nil
 have f923 : Ro (tySl ty_api_Pair) I (.slice none 0 0) [] := ro_nil
 replace hst := hst.pull8.pull8.pull8.pull8.pull8.pull8.pull8.pull8
 replace hst := at_lane_State_close (pv := Pt b615 0) (x := o0) hst z
 replace hst := objO_some hst
 obtain rfl := some_inj hm
 refine post_ret (vs := [.agg #[Zb, Zu, Zu, Zi, Zu, Zu, Zs, Zs]]) results50 (rvs_cons (rv_cell (cs := [Zb, Zu, Zu, Zi, Zu, Zu, Zs, Zs]) z isAgg35 sizeOf35 (hst.bcs1 0 z)) rvs_nil) ?_
 exact ⟨_, Zs, Zs, z, hI0, f922, f923, hst.keep1⟩
}
 {
 replace hm := bif_f hc917 hm
 refine wp_iff (cvb hc917) ?_
 refine wp_skip (tn ?_)
 replace hst := hst.pull7.pull7.pull7.pull7.pull7.pull7.pull7.pull7
 replace hst := at_lane_State_close (pv := Pt b615 0) (x := o0) hst z
 replace hst := hst.pull1.pull2.pull3.pull3.keep4
 obtain rfl := some_inj hm
 exact ⟨_, hx925, (fu 0 (Pt b615 0) z (fu 1 (.int .u64 a1) z (fu 5 (Pt b590 0) z (fu 6 (Pt b597 0) z (fu 7 (Pt b604 0) z z))))), hst⟩
}
}
 {
 replace hm := bif_f hc916 hm
 refine wo hc916 z z z z z z (wo hc916 z z z z z z (wo hc916 z z z z z z (wo hc916 z z z z z z (wv (.bool false) z z (x_pick_f hc916 z z) (wl_nil (tn ?_))))))
 refine wp_iff z ?_
 refine wp_skip (tn ?_)
 replace hst := hst.pull7.pull7.pull7.pull7.pull7.pull7.pull7.pull7
 replace hst := at_lane_State_close (pv := Pt b615 0) (x := o0) hst z
 replace hst := hst.pull1.pull2.pull3.pull3.keep4
 obtain rfl := some_inj hm
 exact ⟨_, hx925, (fu 0 (Pt b615 0) z (fu 1 (.int .u64 a1) z (fu 5 (Pt b590 0) z (fu 6 (Pt b597 0) z (fu 7 (Pt b604 0) z z))))), hst⟩
}
}
 {
 clear hst
 rintro _ w926 ⟨σ922, hm, rfl, hst⟩
 dsimp only [lane_State_decide_j5] at hm
 refine wp_seq (wp_seq ?_)
 obtain ⟨b927, v928, v930, v932, v934, v936, v938, v940, e942, hst'⟩ := at_lane_State_open hst
 clear hst
 have e942 := ptr_inj e942
 subst e942
 have hst := hst'
 clear hst'
 refine wp_region_St hst 13 [0, 1, 2, 3, 4, 5, 6, 7, 8, 9, 10, 11, 12] [0, 1, 3, 7, 0, 16, 48, 0, 128, 384, 0, 2047, 4095] [] z (by kernel_rfl) (by kernel_rfl) Tryz.mixed (by kernel_rfl) ?_
 refine wsr (Pt b615 0) 0 z z z (by kernel_rfl) (fun w hst => z) (wsr (Pt b615 0) 1 z z z (by kernel_rfl) (fun w hst => z) (wsr (Pt b615 4) 2 z z z (by kernel_rfl) (fun w hst => x_field z underlying111 z sizeOf105 z) (wsr (v932) 3 z z z (by kernel_rfl) (fun w hst => x_load z isAgg105 (hst.bc0 z)) (wsr (Pt b590 1) 4 z z z (by kernel_rfl) (fun w hst => x_field z underlying49 z sizeOf28 z) (wsr (Pt b590 1) 5 z z z (by kernel_rfl) (fun w hst => x_field z underlying28 z sizeOf26 z) (wsr (.int .u64 a2.ID.Session) 6 z z z (by kernel_rfl) (fun w hst => x_load z isAgg26 (hst.bc8 z)) (wsr (Pt b590 1) 7 z z z (by kernel_rfl) (fun w hst => x_field z underlying49 z sizeOf28 z) (wsr (Pt b590 2) 8 z z z (by kernel_rfl) (fun w hst => x_field z underlying28 z sizeOf26 z) (wsr (.int .u64 a2.ID.Seq) 9 z z z (by kernel_rfl) (fun w hst => x_load z isAgg26 (hst.bc8 z)) (wsr (.agg #[I6 a2.R.E, U6 a2.Epoch, U6 a1, r2_5, r2_6]) 10 z z z (by kernel_rfl) (fun w hst => x_loadN (cs := [I6 a2.R.E, U6 a2.Epoch, U6 a1, r2_5, r2_6]) z isAgg33 sizeOf33 (hst.bcs10 0 z)) ?_))))))))))
 refine ws_e1 11 (by kernel_rfl) ?_
 refine nxe [12] (by kernel_rfl) z z ?_
 clear hst
 intro w hst
 replace hst := hst.pull3
 obtain ⟨t943, ht944, hm⟩ := bind_some hm
 refine wec call124 [v932, U6 a2.ID.Session, U6 a2.ID.Seq, .agg #[I6 a2.R.E, U6 a2.Epoch, U6 a1, r2_5, r2_6]] z z ?_
 refine (session_Table_Put_ref (a3 := ({ E := a2.R.E, Epoch := a2.Epoch, Index := a1, Gots := a2.R.Gots, Scans := a2.R.Scans } : api_Reply)) f2_5 f2_6 hst.to1 ht944).mono ?_
 rintro _ w945 ⟨rfl, hst⟩
 refine ⟨_, z, ?_⟩
 replace hst := hst.of1
 refine ws_next (pend' := []) hst (by kernel_rfl) pk_nil ?_
 refine wsr (.bool (t943.1 != (0:Int))) 12 z z z (by kernel_rfl) (fun w hst => z) ?_
 refine ws_nil ?_
 intro w hst
 refine tn ?_
 refine bsplit (t943.1 != (0:Int)) (fun hc948 => ?_) (fun hc948 => ?_)
 {
 replace hm := bif_t hc948 hm
 refine wp_ift (cvb hc948) ?_
 refine wp_seq (wrl (wv (Pt b615 0) z z z (wv (Pt b590 1) z z (x_field z underlying49 z sizeOf28 z) (wv (.agg #[U6 a2.ID.Session, U6 a2.ID.Seq]) z z (x_loadN (cs := [U6 a2.ID.Session, U6 a2.ID.Seq]) z isAgg28 sizeOf28 (hst.bcs8 1 z)) ?_))))
 replace hst := hst.pull7.pull7.pull7.pull7.pull4.pull7.pull7.pull7
 replace hst := at_lane_State_close (pv := Pt b615 0) (x := ({ wide := o0.wide, epoch := o0.epoch, store := o0.store, locks := o0.locks, last := t943.2, book := o0.book, open_ := o0.open_, out := o0.out, used := o0.used } : lane_State)) hst z
 replace hst := objO_some hst
 obtain ⟨t949, ht950, hm⟩ := bind_some hm
 refine wc call125 [Pt b615 0, .agg #[U6 a2.ID.Session, U6 a2.ID.Seq]] z z z ?_
 refine (lane_State_late_ref hst.to1 ht950).mono ?_
 rintro _ w951 ⟨v954, v956, rfl, hst⟩
 refine ⟨_, z, ?_⟩
 replace hst := hst.of3.pull2
 replace hst := objO_get hst
 replace hst := hst.pull4
 obtain ⟨w958, hr959, hst⟩ := hst.bx [U1 t949.Kind, U6 t949.ID.Session, U6 t949.ID.Seq, I6 t949.R.E, U6 t949.R.Epoch, U6 t949.R.Index, v954, v956] sizeOf35 z (oC z (oC z (oC z (oC z (oC z (oC z (oC (one_of_sliceV hst.sv2) (oC (one_of_sliceV hst.sv3) oN)))))))) (by kernel_rfl)
 refine wl_unit z z (x_unit hr959) ?_
 refine wl_nil (tn (wp_ret (then_r ?_)))
 replace hst := hst.pull2
 obtain ⟨I960, hI961, f962, hst⟩ := hst.own_fix
 replace f2_0 := f2_0.mono (ro_le hI961)
 replace f2_1 := f2_1.mono (ro_le hI961)
 replace f2_2 := f2_2.mono (ro_le hI961)
 replace f2_3 := f2_3.mono (ro_le hI961)
 replace f2_4 := f2_4.mono (ro_le hI961)
 replace f2_5 := f2_5.mono (ro_le hI961)
 replace f2_6 := f2_6.mono (ro_le hI961)
 replace f2_7 := f2_7.mono (ro_le hI961)
 replace hI0 := hI0.trans hI961
 replace hst := hst.pull2
 obtain ⟨I963, hI964, f965, hst⟩ := hst.own_fix
 replace f2_0 := f2_0.mono (ro_le hI964)
 replace f2_1 := f2_1.mono (ro_le hI964)
 replace f2_2 := f2_2.mono (ro_le hI964)
 replace f2_3 := f2_3.mono (ro_le hI964)
 replace f2_4 := f2_4.mono (ro_le hI964)
 replace f2_5 := f2_5.mono (ro_le hI964)
 replace f2_6 := f2_6.mono (ro_le hI964)
 replace f2_7 := f2_7.mono (ro_le hI964)
 replace f962 := f962.mono (ro_le hI964)
 replace hI0 := hI0.trans hI964
 replace hst := hst.pull1
 replace hst := objO_some hst
 obtain rfl := some_inj hm
 refine post_ret (vs := [.agg #[U1 t949.Kind, U6 t949.ID.Session, U6 t949.ID.Seq, I6 t949.R.E, U6 t949.R.Epoch, U6 t949.R.Index, v954, v956]]) results50 (rvs_cons (rv_cell (cs := [U1 t949.Kind, U6 t949.ID.Session, U6 t949.ID.Seq, I6 t949.R.E, U6 t949.R.Epoch, U6 t949.R.Index, v954, v956]) z isAgg35 sizeOf35 (hst.bcs1 0 z)) rvs_nil) ?_
 exact ⟨_, v954, v956, z, hI0, f962, f965, hst.keep1⟩
}
 {
 replace hm := bif_f hc948 hm
 refine wp_iff (cvb hc948) ?_
 refine wp_skip (tn ?_)
 obtain ⟨y1016, hm, hx1017⟩ := bind_some hm
 refine wp_cut (fun a w => ∃ (z1013 : lane_State) (σ1014 : Nat → Value), (lane_State_decide_j6 a2 a1) z1013 = some r ∧ a = Fr 103 (upd (upd (upd σ1014 5 (Pt b590 0)) 6 (Pt b597 0)) 7 (Pt b604 0)) ∧ St w0 w I [cells b590 [U1 a2.Kind, U6 a2.ID.Session, U6 a2.ID.Seq, U6 a2.Epoch, U6 a2.Index, I6 a2.E, U6 a2.Hold.ID.Session, U6 a2.Hold.ID.Seq, U6 a2.Hold.Epoch, r2_0, r2_1, r2_2, r2_3, r2_4, I6 a2.R.E, U6 a2.R.Epoch, U6 a2.R.Index, r2_5, r2_6, U6 a2.Shards, r2_7, U6 a2.Rule.ID, I6 a2.Rule.From, I6 a2.Rule.To, F6 a2.Rule.Lo, F6 a2.Rule.Hi, U6 a2.Rule.Authority, I6 a2.Rule.Quota, .bool a2.On], cells b597 [Zb, Zu, Zu, Zi, Zu, Zu, Zs, Zs], cells b604 [I6 a2.R.E, U6 a2.Epoch, U6 a1, r2_5, r2_6], at_lane_State (Pt b615 0) z1013] R) ?_ ?_
 {
 refine wp_seq (wrl (wv (Pt b590 19) z z (x_field z underlying49 z sizeOf26 z) (wv (.int .u64 a2.Shards) z z (x_load z isAgg26 (hst.bc8 z)) (wv (.bool (a2.Shards != (0:Int))) z z z (wl_nil (tn ?_))))))
 refine bsplit (a2.Shards != (0:Int)) (fun hc966 => ?_) (fun hc966 => ?_)
 {
 replace hm := bif_t hc966 hm
 refine wp_ift (cvb hc966) ?_
 refine wp_seq (wrl (wv (Pt b590 1) z z (x_field z underlying49 z sizeOf28 z) (wv (.agg #[U6 a2.ID.Session, U6 a2.ID.Seq]) z z (x_loadN (cs := [U6 a2.ID.Session, U6 a2.ID.Seq]) z isAgg28 sizeOf28 (hst.bcs8 1 z)) (wv (Pt b604 0) z z (x_field z underlying33 z sizeOf29 z) (wv (.int .i64 a2.R.E) z z (x_load z isAgg29 (hst.bc10 z)) (wv (Pt b590 3) z z (x_field z underlying49 z sizeOf26 z) (wv (.int .u64 a2.Epoch) z z (x_load z isAgg26 (hst.bc8 z)) (wv (.int .u64 a1) z z z (wv (Pt b590 19) z z (x_field z underlying49 z sizeOf26 z) (wv (.int .u64 a2.Shards) z z (x_load z isAgg26 (hst.bc8 z)) (wv (.agg #[U6 a2.ID.Session, U6 a2.ID.Seq, I6 a2.R.E, U6 a2.Epoch, U6 a1, U6 a2.Shards, Zs]) z z (by kernel_rfl) ?_)))))))))))
 obtain ⟨b969, w970, ew971, eb972, hst⟩ := hst.box [Zu, Zu, Zi, Zu, Zu, Zu, Zs] 89
 refine wl_run (v := Pt b969 0) (w' := w970) z z (x_al (by kernel_rfl) ew971 eb972) ?_
 obtain ⟨w974, hr975, hst⟩ := hst.bx [U6 a2.ID.Session, U6 a2.ID.Seq, I6 a2.R.E, U6 a2.Epoch, U6 a1, U6 a2.Shards, Zs] sizeOf89 z (oC z (oC z (oC z (oC z (oC z (oC z (oC z oN))))))) (by kernel_rfl)
 refine wl_unit z z (x_unit hr975) ?_
 refine wl_nil (tn (wp_seq (wp_seq (wrl (wv (Pt b604 0) z z (x_field z underlying33 z sizeOf29 z) (wv (.int .i64 a2.R.E) z z (x_load z isAgg29 (hst.bc11 z)) (wv (.bool (a2.R.E == (0:Int))) z z z (wl_nil (tn ?_)))))))))
 refine wp_iff (cvb hc630) ?_
 refine wp_skip (tn (wp_seq (wrl ?_)))
 refine wv (Pt b615 0) z z z (wv (Pt b590 1) z z (x_field z underlying49 z sizeOf28 z) (wv (.agg #[U6 a2.ID.Session, U6 a2.ID.Seq]) z z (x_loadN (cs := [U6 a2.ID.Session, U6 a2.ID.Seq]) z isAgg28 sizeOf28 (hst.bcs9 1 z)) ?_))
 replace hst := hst.pull8.pull8.pull8.pull8.pull5.pull8.pull8.pull8
 replace hst := at_lane_State_close (pv := Pt b615 0) (x := ({ wide := o0.wide, epoch := o0.epoch, store := o0.store, locks := o0.locks, last := t943.2, book := o0.book, open_ := o0.open_, out := o0.out, used := o0.used } : lane_State)) hst z
 replace hst := objO_some hst
 obtain ⟨t976, ht977, hm⟩ := bind_some hm
 refine wc call51 [Pt b615 0, .agg #[U6 a2.ID.Session, U6 a2.ID.Seq]] z z z ?_
 refine (lane_State_find_ref hst.to1 ht977).mono ?_
 rintro _ w978 ⟨rfl, hst⟩
 refine ⟨_, z, ?_⟩
 replace hst := hst.of1
 replace hst := objO_get hst
 refine wv (.tuple #[I6 t976.1, .bool t976.2]) z z z (wv (.int .i64 t976.1) z z z (wv (.bool t976.2) z z z (wv (.int .i64 t976.1) z z z (wv (.bool t976.2) z z z (wl_nil (tn ?_))))))
 obtain ⟨b981, v982, v984, v986, v988, v990, v992, v994, e996, hst'⟩ := at_lane_State_open hst
 clear hst
 have e996 := ptr_inj e996
 subst e996
 have hst := hst'
 clear hst'
 refine wp_region_St hst 12 [0, 1, 2, 3, 4, 5, 6, 7, 8, 9, 10, 11] [0, 0, 2, 6, 14, 0, 0, 64, 254, 511, 1023, 2047] [] z (by kernel_rfl) (by kernel_rfl) Tryz.mixed (by kernel_rfl) ?_
 refine wsr (Pt b615 0) 0 z z z (by kernel_rfl) (fun w hst => z) (wsr (Pt b615 0) 1 z z z (by kernel_rfl) (fun w hst => z) (wsr (Pt b615 0) 2 z z z (by kernel_rfl) (fun w hst => z) (wsr (Pt b615 6) 3 z z z (by kernel_rfl) (fun w hst => x_field z underlying111 z sizeOf65 z) (wsr (v990) 4 z z z (by kernel_rfl) (fun w hst => x_load z isAgg65 (hst.bc0 z)) (wsr (.int .i64 t976.1) 5 z z z (by kernel_rfl) (fun w hst => z) (wsr (.agg #[U6 a2.ID.Session, U6 a2.ID.Seq, I6 a2.R.E, U6 a2.Epoch, U6 a1, U6 a2.Shards, Zs]) 6 z z z (by kernel_rfl) (fun w hst => x_loadN (cs := [U6 a2.ID.Session, U6 a2.ID.Seq, I6 a2.R.E, U6 a2.Epoch, U6 a1, U6 a2.Shards, Zs]) z isAgg89 sizeOf89 (hst.bcs8 0 z)) ?_))))))
 refine ws_e1 7 (by kernel_rfl) ?_
 refine nxe [8, 9, 10, 11] (by kernel_rfl) z z ?_
 clear hst
 intro w hst
 have f998 : Ro ty_api_Part I (.slice none 0 0) [] := ro_nil
 obtain ⟨b999, w1000, ew1001, eb1002, hst⟩ := hst.lits (E := ty_api_Decision) (xs := [({ ID := a2.ID, E := a2.R.E, Epoch := a2.Epoch, Index := a1, Shards := a2.Shards, Parts := [] } : api_Decision)]) [[U6 a2.ID.Session, U6 a2.ID.Seq, I6 a2.R.E, U6 a2.Epoch, U6 a1, U6 a2.Shards, Zs]] 89 1 z (Reps.cons ⟨_, z, f998, one_of_sliceV (ro_sliceV f998)⟩ Reps.nil)
 refine we_run (v := (.slice (some ⟨b999, 0, none⟩) 1 1)) (w' := w1000) z (x_als (by kernel_rfl) ew1001 eb1002) ?_
 refine ws_next (pend' := [(5, I6 t976.1), (4, v990), (3, Pt b615 6), (2, Pt b615 0), (1, Pt b615 0), (0, Pt b615 0)]) hst (by kernel_rfl) (pkr z z (fun w hst => z) (pkr z z (fun w hst => x_load z isAgg65 (hst.bc1 z)) (pkr z z (fun w hst => x_field z underlying111 z sizeOf65 z) (pkr z z (fun w hst => z) (pkr z z (fun w hst => z) (pkr z z (fun w hst => z) pk_nil)))))) ?_
 refine ws_e1 8 (by kernel_rfl) ?_
 refine nxe [9, 10, 11] (by kernel_rfl) z z ?_
 clear hst
 intro w hst
 replace hst := hst.pull6
 obtain ⟨t1004, ht1005, hm⟩ := bind_some hm
 refine wec call127 [v990, I6 t976.1, (.slice (some ⟨b999, 0, none⟩) 1 1)] z z ?_
 refine (slices_Insert_api_Decision_api_Decision_ref hst.to2 ht1005).mono ?_
 rintro _ w1006 ⟨v1009, rfl, hst⟩
 refine ⟨_, z, ?_⟩
 replace hst := hst.of1
 refine ws_next (pend' := [(0, Pt b615 0)]) hst (by kernel_rfl) (pkr z z (fun w hst => z) pk_nil) ?_
 refine wsr (Pt b615 0) 9 z z z (by kernel_rfl) (fun w hst => z) (wsr (Pt b615 6) 10 z z z (by kernel_rfl) (fun w hst => x_field z underlying111 z sizeOf65 z) ?_)
 refine ws_e1 11 (by kernel_rfl) ?_
 refine nxe [] (by kernel_rfl) z z ?_
 clear hst
 intro w hst
 replace hst := hst.pull1
 obtain ⟨w1011, hr1012, hst⟩ := hst.boxStore1 (P := prog) (t := 65) (cs' := [I6 (({ wide := o0.wide, epoch := o0.epoch, store := o0.store, locks := o0.locks, last := t943.2, book := o0.book, open_ := o0.open_, out := o0.out, used := o0.used } : lane_State).wide), U6 (({ wide := o0.wide, epoch := o0.epoch, store := o0.store, locks := o0.locks, last := t943.2, book := o0.book, open_ := o0.open_, out := o0.out, used := o0.used } : lane_State).epoch), v982, v984, v986, v988, v1009, v992, v994]) 6 v1009 (one_of_sliceV hst.sv1) sizeOf65 z z
 refine we_unit z (x_unit hr1012) ?_
 refine ws_next (pend' := []) hst (by kernel_rfl) pk_nil ?_
 refine ws_nil ?_
 intro w hst
 refine tn ?_
 replace hst := hst.pull7.pull7.pull3.pull7.pull7.pull7.pull7.pull7
 replace hst := at_lane_State_close (pv := Pt b615 0) (x := ({ wide := ({ wide := o0.wide, epoch := o0.epoch, store := o0.store, locks := o0.locks, last := t943.2, book := o0.book, open_ := o0.open_, out := o0.out, used := o0.used } : lane_State).wide, epoch := ({ wide := o0.wide, epoch := o0.epoch, store := o0.store, locks := o0.locks, last := t943.2, book := o0.book, open_ := o0.open_, out := o0.out, used := o0.used } : lane_State).epoch, store := ({ wide := o0.wide, epoch := o0.epoch, store := o0.store, locks := o0.locks, last := t943.2, book := o0.book, open_ := o0.open_, out := o0.out, used := o0.used } : lane_State).store, locks := ({ wide := o0.wide, epoch := o0.epoch, store := o0.store, locks := o0.locks, last := t943.2, book := o0.book, open_ := o0.open_, out := o0.out, used := o0.used } : lane_State).locks, last := ({ wide := o0.wide, epoch := o0.epoch, store := o0.store, locks := o0.locks, last := t943.2, book := o0.book, open_ := o0.open_, out := o0.out, used := o0.used } : lane_State).last, book := ({ wide := o0.wide, epoch := o0.epoch, store := o0.store, locks := o0.locks, last := t943.2, book := o0.book, open_ := o0.open_, out := o0.out, used := o0.used } : lane_State).book, open_ := t1004, out := ({ wide := o0.wide, epoch := o0.epoch, store := o0.store, locks := o0.locks, last := t943.2, book := o0.book, open_ := o0.open_, out := o0.out, used := o0.used } : lane_State).out, used := ({ wide := o0.wide, epoch := o0.epoch, store := o0.store, locks := o0.locks, last := t943.2, book := o0.book, open_ := o0.open_, out := o0.out, used := o0.used } : lane_State).used } : lane_State)) hst z
 replace hst := hst.pull4.pull4.pull4.keep4
 obtain rfl := some_inj hm
 exact ⟨({ wide := ({ wide := o0.wide, epoch := o0.epoch, store := o0.store, locks := o0.locks, last := t943.2, book := o0.book, open_ := o0.open_, out := o0.out, used := o0.used } : lane_State).wide, epoch := ({ wide := o0.wide, epoch := o0.epoch, store := o0.store, locks := o0.locks, last := t943.2, book := o0.book, open_ := o0.open_, out := o0.out, used := o0.used } : lane_State).epoch, store := ({ wide := o0.wide, epoch := o0.epoch, store := o0.store, locks := o0.locks, last := t943.2, book := o0.book, open_ := o0.open_, out := o0.out, used := o0.used } : lane_State).store, locks := ({ wide := o0.wide, epoch := o0.epoch, store := o0.store, locks := o0.locks, last := t943.2, book := o0.book, open_ := o0.open_, out := o0.out, used := o0.used } : lane_State).locks, last := ({ wide := o0.wide, epoch := o0.epoch, store := o0.store, locks := o0.locks, last := t943.2, book := o0.book, open_ := o0.open_, out := o0.out, used := o0.used } : lane_State).last, book := ({ wide := o0.wide, epoch := o0.epoch, store := o0.store, locks := o0.locks, last := t943.2, book := o0.book, open_ := o0.open_, out := o0.out, used := o0.used } : lane_State).book, open_ := t1004, out := ({ wide := o0.wide, epoch := o0.epoch, store := o0.store, locks := o0.locks, last := t943.2, book := o0.book, open_ := o0.open_, out := o0.out, used := o0.used } : lane_State).out, used := ({ wide := o0.wide, epoch := o0.epoch, store := o0.store, locks := o0.locks, last := t943.2, book := o0.book, open_ := o0.open_, out := o0.out, used := o0.used } : lane_State).used } : lane_State), _, hx1017, (fu 5 (Pt b590 0) z (fu 6 (Pt b597 0) z (fu 7 (Pt b604 0) z z))), hst⟩
}
 {
 replace hm := bif_f hc966 hm
 refine wp_iff (cvb hc966) ?_
 refine wp_skip (tn ?_)
 replace hst := hst.pull7.pull7.pull7.pull7.pull4.pull7.pull7.pull7
 replace hst := at_lane_State_close (pv := Pt b615 0) (x := ({ wide := o0.wide, epoch := o0.epoch, store := o0.store, locks := o0.locks, last := t943.2, book := o0.book, open_ := o0.open_, out := o0.out, used := o0.used } : lane_State)) hst z
 replace hst := hst.pull3.pull3.pull3.keep4
 obtain rfl := some_inj hm
 exact ⟨({ wide := o0.wide, epoch := o0.epoch, store := o0.store, locks := o0.locks, last := t943.2, book := o0.book, open_ := o0.open_, out := o0.out, used := o0.used } : lane_State), _, hx1017, (fu 5 (Pt b590 0) z (fu 6 (Pt b597 0) z (fu 7 (Pt b604 0) z z))), hst⟩
}
}
 {
 clear hst
 rintro _ w1018 ⟨z1013, σ1014, hm, rfl, hst⟩
 dsimp only [lane_State_decide_j6] at hm
 refine wp_seq (wrl (wv (Pt b590 1) z z (x_field z underlying49 z sizeOf28 z) (wv (.agg #[U6 a2.ID.Session, U6 a2.ID.Seq]) z z (x_loadN (cs := [U6 a2.ID.Session, U6 a2.ID.Seq]) z isAgg28 sizeOf28 (hst.bcs0 1 z)) (wv (.agg #[I6 a2.R.E, U6 a2.Epoch, U6 a1, r2_5, r2_6]) z z (x_loadN (cs := [I6 a2.R.E, U6 a2.Epoch, U6 a1, r2_5, r2_6]) z isAgg33 sizeOf33 (hst.bcs2 0 z)) (wv (.agg #[U1 (4:Int), U6 a2.ID.Session, U6 a2.ID.Seq, I6 a2.R.E, U6 a2.Epoch, U6 a1, r2_5, r2_6]) z z (by obtain ⟨_, _, hv_, _⟩ := (ro_sliceV f2_6); rw [hv_]; obtain ⟨_, _, hv_, _⟩ := (ro_sliceV f2_5); rw [hv_]; kernel_rfl) ?_)))))
 replace hst := hst.pull1
 obtain ⟨w1021, hr1022, hst⟩ := hst.bx [U1 (4:Int), U6 a2.ID.Session, U6 a2.ID.Seq, I6 a2.R.E, U6 a2.Epoch, U6 a1, r2_5, r2_6] sizeOf35 z (oC z (oC z (oC z (oC z (oC z (oC z (oC (one_of_sliceV (ro_sliceV f2_5)) (oC (one_of_sliceV (ro_sliceV f2_6)) oN)))))))) (by kernel_rfl)
 refine wl_unit z z (x_unit hr1022) ?_
 refine wl_nil (tn (wp_ret ?_))
 replace hst := hst.pull3
 replace hst := objO_some hst
 obtain rfl := some_inj hm
 refine post_ret (vs := [.agg #[U1 (4:Int), U6 a2.ID.Session, U6 a2.ID.Seq, I6 a2.R.E, U6 a2.Epoch, U6 a1, r2_5, r2_6]]) results50 (rvs_cons (rv_cell (cs := [U1 (4:Int), U6 a2.ID.Session, U6 a2.ID.Seq, I6 a2.R.E, U6 a2.Epoch, U6 a1, r2_5, r2_6]) z isAgg35 sizeOf35 (hst.bcs1 0 z)) rvs_nil) ?_
 exact ⟨_, r2_5, r2_6, z, hI0, f2_5, f2_6, hst.keep1⟩
}
}
}
}
}
}

theorem slices_Delete_api_Decision_api_Decision_ref {w0 w : World} {I : HL} {R : SP} {a0 : (List api_Decision)} {r0_0 : Value} {a1 a2 : Int} (hst : St w0 w I [ownS ty_api_Decision r0_0 a0] R) {r : (List api_Decision)} (hm : slices_Delete_api_Decision_api_Decision a0 a1 a2 = some r) :
  Calls prog 52 #[r0_0, I6 a1, I6 a2] w fun e w' => ∃ (q0_0 : Value), e = .returned (q0_0) ∧ St w0 w' I [ownS ty_api_Decision q0_0 r] R := by {
 unfold slices_Delete_api_Decision_api_Decision at hm
 obtain ⟨hg, hm⟩ := gd_some hm
 obtain rfl := some_inj hm
 obtain ⟨hi0, hi1, hi2⟩ := fits_of hg
 obtain ⟨j, rfl⟩ := Int.eq_ofNat_of_zero_le (Int.le_trans hi0 hi1)
 obtain ⟨k, rfl⟩ := Int.eq_ofNat_of_zero_le hi0
 have hkj : k ≤ j := by omega
 have hs : ∀ w : World, (sizeOf 89).run prog w = .ok ty_api_Decision.sz w := sizeOf89
 obtain ⟨css, hr, hst⟩ := hst.own_open
 obtain ⟨n, hn⟩ : ∃ n, css.length = n := ⟨_, rfl⟩
 have hln : a0.length = n := hr.1.trans hn
 have hjn : j ≤ n := by omega
 have hsv : SliceV r0_0 n := by have := hst.row_form.2; rwa [hn] at this
 have hoc := hr.ones
 refine calls_start (args := [r0_0, I6 (k : Int), I6 (j : Int)]) func52 z ntmps52 (Nat.le_of_ble_eq_true z) ?_
 refine wp_seq (wrl (wv ((.slice none 0 0)) z z z (wl_nil (tn (wp_seq (wrl (wv (r0_0) z z z (wv (.int .i64 (k : Int)) z z z (wv (.int .i64 (j : Int)) z z z (wv (r0_0) z z z (wv (.int .i64 (n : Int)) z z (x_len z underlying65 hsv) ?_)))))))))))
 refine wl_ex z z (x_slice3 underlying65 hs z hsv z z z hkj hjn) fun v3 => ?_
 refine wl_nil (tn (wp_seq (wp_seq (wrl (wv (.int .i64 (k : Int)) z z z (wv (.int .i64 (j : Int)) z z z (wv (.bool ((k : Int) == (j : Int))) z z z (wl_nil (tn ?_)))))))))
 refine bsplit ((k : Int) == (j : Int)) (fun hc150 => ?_) (fun hc150 => ?_)
 {
 refine wp_ift (cvb hc150) ?_
 refine wp_seq (wrl (wv (r0_0) z z z (wv (r0_0) z z z (wl_nil (tn (wp_ret (then_r ?_)))))))
 refine post_ret (vs := [r0_0]) results52 (rvs_cons (rv_tmp z) rvs_nil) ?_
 rw [del_nil hc150]
 exact ⟨_, z, (hst.own_close hr).keep1⟩
}
 {
 refine wp_iff (cvb hc150) ?_
 have hne : ¬ ((k : Int) = (j : Int)) := by simpa using hc150
 have hlt : k < j := by omega
 refine wp_skip (tn (wp_seq (wrl ?_)))
 refine wv (r0_0) z z z (wv (.int .i64 (n : Int)) z z (x_len z underlying65 hsv) (wv (.int .i64 (n : Int)) z z z (wl_nil (tn (wp_seq ?_)))))
 refine wp_region_St hst 8 [0, 1, 2, 3, 4, 5, 6, 7] [0, 0, 3, 0, 0, 24, 63, 127] [7] z (by kernel_rfl) (by kernel_rfl) Tryz.mixed (by kernel_rfl) ?_
 refine wsr (r0_0) 0 z z z (by kernel_rfl) (fun w hst => z) (wsr (.int .i64 (k : Int)) 1 z z z (by kernel_rfl) (fun w hst => z) (wsr ((slcV ty_api_Decision.sz r0_0 0 k)) 2 z z z (by kernel_rfl) (fun w hst => x_slice (lo := (0 : Nat)) (hi := (k : Nat)) underlying65 hs z hsv (by omega) (by omega) (by omega) .i64 .i64 (.inr ⟨z, z⟩) (.inl z)) (wsr (r0_0) 3 z z z (by kernel_rfl) (fun w hst => z) (wsr (.int .i64 (j : Int)) 4 z z z (by kernel_rfl) (fun w hst => z) (wsr ((slcV ty_api_Decision.sz r0_0 j n)) 5 z z z (by kernel_rfl) (fun w hst => x_slice (lo := (j : Nat)) (hi := (n : Nat)) underlying65 hs z hsv (by omega) (by omega) (by omega) .i64 .i64 (.inl z) (.inr ⟨z, z⟩)) ?_)))))
 refine ws_e1 6 (by kernel_rfl) ?_
 refine nxe [7] (by kernel_rfl) z z ?_
 clear hst
 intro w hst
 obtain ⟨w2, hra, hst⟩ := run_appDel (P := prog) underlying65 hs hst hn hlt hjn hoc 65
 refine we_run (v := (slcV ty_api_Decision.sz r0_0 0 (k + (n - j)))) (w' := w2) z (x_append z z hra) ?_
 have hnl := (show _ from hst)
 clear hnl
 have hn2 : (css.take k ++ (css.drop j ++ css.drop (k + (n - j)))).length = n := by simp only [List.length_append, List.length_take, List.length_drop]; omega
 have hsm := row_slc hst hn2 (m := (k + (n - j))) (by omega)
 refine ws_next (pend' := []) hst (by kernel_rfl) pk_nil ?_
 refine ws_e1 7 (by kernel_rfl) ?_
 refine nxe [] (by kernel_rfl) z z ?_
 clear hst
 intro w hst
 refine we_run (v := (slcV ty_api_Decision.sz r0_0 0 (k + (n - j)))) (w' := w) z z ?_
 refine ws_next (pend' := []) hst (by kernel_rfl) pk_nil ?_
 refine ws_nil ?_
 intro w hst
 refine tn (wp_seq (wrl (wv ((slcV ty_api_Decision.sz r0_0 0 (k + (n - j)))) z z z (wv ((slcV ty_api_Decision.sz r0_0 0 (k + (n - j)))) z z z (wv (.int .i64 (((k + (n - j)) : Nat) : Int)) z z (x_len z underlying65 hsm) (wv (.int .i64 (n : Int)) z z z (wv ((slcV ty_api_Decision.sz r0_0 (k + (n - j)) n)) z z (x_sliceRe underlying65 hs z hsv z z (by omega) (by omega)) ?_)))))))
 obtain ⟨w3, hrc, hst⟩ := run_clear elem_65 z (ones_of (by kernel_rfl)) hst hn2 (m := (k + (n - j))) (by omega) 0
 refine wl_run0 z z (x_clear z hrc) ?_
 refine wl_nil (tn (wp_seq (wrl (wv ((slcV ty_api_Decision.sz r0_0 0 (k + (n - j)))) z z z (wv ((slcV ty_api_Decision.sz r0_0 0 (k + (n - j)))) z z z (wl_nil (tn (wp_ret ?_))))))))
 refine post_ret (vs := [(slcV ty_api_Decision.sz r0_0 0 (k + (n - j)))]) results52 (rvs_cons (rv_tmp z) rvs_nil) ?_
 replace hst := hst.row_part (l := 0) (h := (k + (n - j))) (Nat.zero_le _) (by simp only [List.length_append, List.length_take, List.length_drop, List.length_replicate]; omega)
 rw [del_rows hn hlt hjn (List.length_replicate ..)] at hst
 exact ⟨_, z, (hst.own_close ((hr.take k).app (hr.drop j))).keep1⟩
}
}

theorem policy_Book_Revoke_ref {w0 w : World} {I : HL} {R : SP} {a0 : (Option policy_Book)} {p0 : Value} {a1 : Int} {a2 : Int}  (hst : St w0 w I [objO at_policy_Book p0 a0] R) {r : (Bool × (Option policy_Book))} (hm : policy_Book_Revoke a0 a1 a2 = some r) :
  Calls prog 54 #[p0, U6 a1, U6 a2] w fun e w' => e = .returned (.bool r.1) ∧ St w0 w' I [objO at_policy_Book p0 r.2] R := by {
 rcases a0 with _ | o0
 {
 obtain ⟨rfl, hst'⟩ := objO_none hst
 clear hst
 have hst := hst'
 clear hst'
 dsimp only [policy_Book_Revoke] at hm
 refine calls_start (args := [.pointer none, U6 a1, U6 a2]) func54 z ntmps54 (Nat.le_of_ble_eq_true z) ?_
 refine wp_seq (wrl (wv (.bool false) z z z (wl_nil (tn (wp_seq (wp_seq (wrl (wv (.pointer none) z z z (wv (.bool true) z z (by kernel_rfl) (wl_nil (tn ?_)))))))))))
 refine wp_ift z ?_
 refine wp_seq (wrl (wv (.bool false) z z z (wl_nil (tn (wp_ret (then_r ?_))))))
 replace hst := hst.objO_nil at_policy_Book
 obtain rfl := some_inj hm
 refine post_ret (vs := [.bool false]) results54 (rvs_cons (rv_tmp z) rvs_nil) ?_
 exact ⟨z, hst.keep1⟩
}
 {
 replace hst := objO_get hst
 dsimp only [policy_Book_Revoke] at hm
 refine calls_start (args := [p0, U6 a1, U6 a2]) func54 z ntmps54 (Nat.le_of_ble_eq_true z) ?_
 refine wp_seq (wrl (wv (.bool false) z z z (wl_nil (tn (wp_seq (wp_seq (wrl (wv (p0) z z z ?_))))))))
 obtain ⟨b250, v251, rfl, hst'⟩ := at_policy_Book_open hst
 clear hst
 have hst := hst'
 clear hst'
 refine wv (.bool false) z z (by kernel_rfl) (wl_nil (tn ?_))
 refine wp_iff z ?_
 refine wp_skip (tn (wp_seq (wrl ?_)))
 refine wv (.bool false) z z z (wl_nil (tn (wp_seq (wp_seq (wrl (wv (Pt b250 0) z z z (wv (Pt b250 0) z z z (wv (Pt b250 0) z z (x_field z underlying209 z sizeOf207 z) (wv (v251) z z (x_load z isAgg207 (hst.bc0 z)) (wv (.int .i64 ((o0.l).length : Int)) z z (x_len z underlying207 hst.sv1) (wv (.int .i64 (0:Int)) z z z (wl_nil (tn (wp_block ?_))))))))))))))
 replace hst := hst.pull1.pull1
 replace hst := at_policy_Book_close (pv := Pt b250 0) (x := o0) hst z
 obtain ⟨n292, hm⟩ := loopO_some hm
 refine wp_loop_n (fun n a w => ∃ (z288 : policy_Book) (z289 : Int) (z290 : Bool) (σ291 : Nat → Value), loopN (policy_Book_Revoke_l0 o0 a1 a2) n (z288, z289, z290) = some r ∧ a = Fr 52 (upd (upd (upd (upd (upd (upd σ291 0 (Pt b250 0)) 1 (.int .u64 a1)) 2 (.int .u64 a2)) 7 (.bool z290)) 15 (.int .i64 ((o0.l).length : Int))) 16 (.int .i64 z289)) ∧ St w0 w I [at_policy_Book (Pt b250 0) z288] R) n292 ⟨o0, (0:Int), false, _, hm, (fu 0 (Pt b250 0) z (fu 1 (.int .u64 a1) z (fu 2 (.int .u64 a2) z (fu 7 (.bool false) z (fu 15 (.int .i64 ((o0.l).length : Int)) z (fu 16 (.int .i64 (0:Int)) z z)))))), hst⟩ ?_
 rintro n298 _ w293 ⟨z288, z289, z290, σ291, hm, rfl, hst⟩
 obtain ⟨n295, y296, rfl, hm, hx297⟩ := loopN_some hm
 dsimp only [policy_Book_Revoke_l0] at hm
 refine wp_seq (wrl (wv (.bool (decide (z289 < ((o0.l).length : Int)))) z z z (wl_nil (tn (wp_seq ?_)))))
 refine bsplit (decide (z289 < ((o0.l).length : Int))) (fun hc299 => ?_) (fun hc299 => ?_)
 {
 replace hm := bif_t hc299 hm
 refine wp_ift (cvb hc299) ?_
 refine wp_skip (tn (wp_seq (wp_block (wp_seq (wrl ?_)))))
 refine wv (.int .i64 z289) z z z (wv (.int .i64 z289) z z z (wl_nil (tn (wp_seq (wrl (wv (Pt b250 0) z z z ?_))))))
 obtain ⟨b300, v301, e303, hst'⟩ := at_policy_Book_open hst
 clear hst
 have e303 := ptr_inj e303
 subst e303
 have hst := hst'
 clear hst'
 refine wv (Pt b250 0) z z z (wv (Pt b250 0) z z (x_field z underlying209 z sizeOf207 z) (wv (v301) z z (x_load z isAgg207 (hst.bc0 z)) (wv (.int .i64 z289) z z z ?_)))
 obtain ⟨x304, hx305, hm⟩ := bind_some hm
 obtain ⟨h306, h307, hi308⟩ := geto_some hx305
 refine wv (.pointer (some (eAddr v301 (z289.toNat * 9 + 0)))) z z (x_index z z underlying207 sizeOf224 hst.sv1 h306 h307) (wv (.pointer (some (eAddr v301 (z289.toNat * 9 + 0)))) z z (x_field_e z underlying224 z sizeOf39 z) (wv (.pointer (some (eAddr v301 (z289.toNat * 9 + 0)))) z z (x_field_e z underlying39 z sizeOf26 z) (wv (.int .u64 x304.r.ID) z z (x_load z isAgg26 (hst.ol1 hi308 (by rintro _ rfl; rfl))) (wv (.int .u64 a1) z z z (wv (.bool (x304.r.ID == a1)) z z z (wv (.bool (x304.r.ID == a1)) z z z ?_))))))
 refine bsplit (x304.r.ID == a1) (fun hc309 => ?_) (fun hc309 => ?_)
 {
 replace hm := bif_t hc309 hm
 refine wv (Pt b250 0) ((wanted_eq z z z (cvb hc309)).trans z) z z (wv (Pt b250 0) ((wanted_eq z z z (cvb hc309)).trans z) z z (wv (Pt b250 0) ((wanted_eq z z z (cvb hc309)).trans z) z (x_field z underlying209 z sizeOf207 z) (wv (v301) ((wanted_eq z z z (cvb hc309)).trans z) z (x_load z isAgg207 (hst.bc0 z)) (wv (.int .i64 z289) ((wanted_eq z z z (cvb hc309)).trans z) z z (wv (.pointer (some (eAddr v301 (z289.toNat * 9 + 0)))) ((wanted_eq z z z (cvb hc309)).trans z) z (x_index z z underlying207 sizeOf224 hst.sv1 h306 h307) (wv (.pointer (some (eAddr v301 (z289.toNat * 9 + 8)))) ((wanted_eq z z z (cvb hc309)).trans z) z (x_field_e z underlying224 z sizeOf26 z) (wv (.int .u64 x304.to_) ((wanted_eq z z z (cvb hc309)).trans z) z (x_load z isAgg26 (hst.ol1 hi308 (by rintro _ rfl; rfl))) (wv (.bool (x304.to_ == (0:Int))) ((wanted_eq z z z (cvb hc309)).trans z) z z (wv (.bool (x304.to_ == (0:Int))) z z (x_pick_t hc309 z z) (wl_nil (tn ?_)))))))))))
 refine bsplit (x304.to_ == (0:Int)) (fun hc310 => ?_) (fun hc310 => ?_)
 {
 replace hm := bif_t hc310 hm
 refine wp_ift (cvb hc310) ?_
 refine wrl (wv (Pt b250 0) z z z (wv (Pt b250 0) z z z (wv (Pt b250 0) z z (x_field z underlying209 z sizeOf207 z) (wv (v301) z z (x_load z isAgg207 (hst.bc0 z)) (wv (.int .i64 z289) z z z (wv (.int .u64 a2) z z z (wv (.int .u64 (if (1:Int) > a2 then (1:Int) else a2)) z z (by kernel_rfl) (wv (.pointer (some (eAddr v301 (z289.toNat * 9 + 0)))) z z (x_index z z underlying207 sizeOf224 hst.sv1 h306 h307) (wv (.pointer (some (eAddr v301 (z289.toNat * 9 + 8)))) z z (x_field_e z underlying224 z sizeOf26 z) ?_)))))))))
 replace hst := hst.pull1
 obtain ⟨w311, hr312, hst⟩ := hst.own_store (P := prog) (t := 26) (y := ({ r := x304.r, from_ := x304.from_, to_ := (if (1:Int) > a2 then (1:Int) else a2) } : policy_line)) hi308 8 (.int .u64 (if (1:Int) > a2 then (1:Int) else a2)) sizeOf26 (Nat.le_of_ble_eq_true z) (oC z oN) (by rintro _ rfl; rfl)
 have hi313 := set_get hi308 ({ r := x304.r, from_ := x304.from_, to_ := (if (1:Int) > a2 then (1:Int) else a2) } : policy_line)
 have h314 := set_lt h307 z289.toNat ({ r := x304.r, from_ := x304.from_, to_ := (if (1:Int) > a2 then (1:Int) else a2) } : policy_line)
 refine wl_unit z z (x_unit hr312) ?_
 refine wv (.bool true) z z z (wl_nil (blk_n (tn (wrl (wv (.int .i64 (i64.wrap (z289 + (1:Int)))) z z z (wv (.int .i64 (i64.wrap (z289 + (1:Int)))) z z z (wl_nil (tn ?_))))))))
 replace hst := hst.pull1
 replace hst := at_policy_Book_close (pv := Pt b250 0) (x := ({ l := (z288.l.set z289.toNat ({ r := x304.r, from_ := x304.from_, to_ := (if (1:Int) > a2 then (1:Int) else a2) } : policy_line)) } : policy_Book)) hst z
 replace hst := hst.keep1
 obtain rfl := some_inj hm
 exact ⟨_, Nat.lt_succ_self _, ({ l := (z288.l.set z289.toNat ({ r := x304.r, from_ := x304.from_, to_ := (if (1:Int) > a2 then (1:Int) else a2) } : policy_line)) } : policy_Book), (i64.wrap (z289 + (1:Int))), true, _, hx297, (fu 0 (Pt b250 0) z (fu 1 (.int .u64 a1) z (fu 2 (.int .u64 a2) z (fu 7 (.bool true) z (fu 15 (.int .i64 ((o0.l).length : Int)) z (fu 16 (.int .i64 (i64.wrap (z289 + (1:Int)))) z z)))))), hst⟩
}
 {
 replace hm := bif_f hc310 hm
 refine wp_iff (cvb hc310) ?_
 refine wp_skip (blk_n (tn (wrl ?_)))
 refine wv (.int .i64 (i64.wrap (z289 + (1:Int)))) z z z (wv (.int .i64 (i64.wrap (z289 + (1:Int)))) z z z (wl_nil (tn ?_)))
 replace hst := hst.pull1.pull1
 replace hst := at_policy_Book_close (pv := Pt b250 0) (x := z288) hst z
 replace hst := hst.keep1
 obtain rfl := some_inj hm
 exact ⟨_, Nat.lt_succ_self _, z288, (i64.wrap (z289 + (1:Int))), z290, _, hx297, (fu 0 (Pt b250 0) z (fu 1 (.int .u64 a1) z (fu 2 (.int .u64 a2) z (fu 7 (.bool z290) z (fu 15 (.int .i64 ((o0.l).length : Int)) z (fu 16 (.int .i64 (i64.wrap (z289 + (1:Int)))) z z)))))), hst⟩
}
}
 {
 replace hm := bif_f hc309 hm
 refine wo hc309 z z z z z z (wo hc309 z z z z z z (wo hc309 z z z z z z (wo hc309 z z z z z z (wo hc309 z z z z z z (wo hc309 z z z z z z (wo hc309 z z z z z z (wo hc309 z z z z z z (wo hc309 z z z z z z (wv (.bool false) z z (x_pick_f hc309 z z) (wl_nil (tn ?_)))))))))))
 refine wp_iff z ?_
 refine wp_skip (blk_n (tn (wrl ?_)))
 refine wv (.int .i64 (i64.wrap (z289 + (1:Int)))) z z z (wv (.int .i64 (i64.wrap (z289 + (1:Int)))) z z z (wl_nil (tn ?_)))
 replace hst := hst.pull1.pull1
 replace hst := at_policy_Book_close (pv := Pt b250 0) (x := z288) hst z
 replace hst := hst.keep1
 obtain rfl := some_inj hm
 exact ⟨_, Nat.lt_succ_self _, z288, (i64.wrap (z289 + (1:Int))), z290, _, hx297, (fu 0 (Pt b250 0) z (fu 1 (.int .u64 a1) z (fu 2 (.int .u64 a2) z (fu 7 (.bool z290) z (fu 15 (.int .i64 ((o0.l).length : Int)) z (fu 16 (.int .i64 (i64.wrap (z289 + (1:Int)))) z z)))))), hst⟩
}
}
 {
 replace hm := bif_f hc299 hm
 refine wp_iff (cvb hc299) ?_
 refine wp_exit (then_x (then_x ?_))
 replace hm := inr_up hm hx297
 refine blk_x (tn (wp_seq (wrl ?_)))
 refine wv (.bool z290) z z z (wv (.bool z290) z z z (wl_nil (tn (wp_ret ?_))))
 replace hst := objO_some hst
 obtain rfl := some_inj hm
 refine post_ret (vs := [.bool z290]) results54 (rvs_cons (rv_tmp z) rvs_nil) ?_
 exact ⟨z, hst.keep1⟩
}
}
}

end Go.Proofs.YtgnkkopjkgdieaaGreat
