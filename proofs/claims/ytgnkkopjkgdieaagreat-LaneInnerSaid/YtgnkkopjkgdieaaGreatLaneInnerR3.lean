/- The Go functions refine their models, part 3. -/
import Derived.Test.YtgnkkopjkgdieaaGreatLaneInnerR2
set_option linter.unusedVariables false
set_option linter.unusedSimpArgs false
set_option maxRecDepth 100000
set_option maxHeartbeats 4000000
namespace Go.Proofs.YtgnkkopjkgdieaaGreat
open Go Go.V
open _root_.Go.Proofs.Tryz IntKind
attribute [local irreducible] wpList Code.wp wpQuiet Calls bodyPost Oper.wp wpS Nx PendOK YieldsIn
theorem session_Table_Last_ref {w0 w : World} {I : HL} {R : SP} {a0 : (Option session_Table)} {p0 : Value} {a1 : Int}  (hst : St w0 w I [objO at_session_Table p0 a0] R) {r : (Int)} (hm : session_Table_Last a0 a1 = some r) :
  Calls prog 61 #[p0, U6 a1] w fun e w' => e = .returned (.int .u64 r) ∧ St w0 w' I [objO at_session_Table p0 a0] R := by {
 rcases a0 with _ | o0
 {
 obtain ⟨rfl, hst'⟩ := objO_none hst
 clear hst
 have hst := hst'
 clear hst'
 dsimp only [session_Table_Last] at hm
 refine calls_start (args := [.pointer none, U6 a1]) func61 z ntmps61 (Nat.le_of_ble_eq_true z) ?_
 refine wp_seq (wrl (wv (.int .u64 (0:Int)) z z z (wl_nil (tn (wp_seq (wrl (wv (.pointer none) z z z (wv (.int .u64 a1) z z z ?_))))))))
 replace hst := hst.objO_nil at_session_Table
 obtain ⟨t298, ht299, hm⟩ := bind_some hm
 refine wc call148 [.pointer none, U6 a1] z z z ?_
 refine (session_Table_find_ref hst.to1 ht299).mono ?_
 rintro _ w300 ⟨rfl, hst⟩
 refine ⟨_, z, ?_⟩
 replace hst := hst.of1
 refine wv (.tuple #[I6 t298.1, .bool t298.2]) z z z (wv (.int .i64 t298.1) z z z (wv (.bool t298.2) z z z (wv (.int .i64 t298.1) z z z (wv (.bool t298.2) z z z (wl_nil (tn (wp_seq (wp_seq (wrl (wv (.bool t298.2) z z z (wv (.bool (!t298.2)) z z z (wl_nil (tn ?_)))))))))))))
 refine bsplit (!t298.2) (fun hc303 => ?_) (fun hc303 => ?_)
 {
 replace hm := bif_t hc303 hm
 refine wp_ift (cvb hc303) ?_
 refine wp_seq (wrl (wv (.int .u64 (0:Int)) z z z (wl_nil (tn (wp_ret (then_r ?_))))))
 replace hst := hst.objO_nil at_session_Table
 obtain rfl := some_inj hm
 refine post_ret (vs := [Zu]) results61 (rvs_cons (rv_tmp z) rvs_nil) ?_
 exact ⟨z, hst.keep1⟩
}
 {
 replace hm := bif_f hc303 hm
 refine wp_iff (cvb hc303) ?_
 refine wp_skip (tn (wp_seq (wrl ?_)))
 refine wv (.pointer none) z z z ?_
 cases hm
}
}
 {
 replace hst := objO_get hst
 dsimp only [session_Table_Last] at hm
 refine calls_start (args := [p0, U6 a1]) func61 z ntmps61 (Nat.le_of_ble_eq_true z) ?_
 refine wp_seq (wrl (wv (.int .u64 (0:Int)) z z z (wl_nil (tn (wp_seq (wrl (wv (p0) z z z (wv (.int .u64 a1) z z z ?_))))))))
 replace hst := objO_some hst
 obtain ⟨t304, ht305, hm⟩ := bind_some hm
 refine wc call148 [p0, U6 a1] z z z ?_
 refine (session_Table_find_ref hst.to1 ht305).mono ?_
 rintro _ w306 ⟨rfl, hst⟩
 refine ⟨_, z, ?_⟩
 replace hst := hst.of1
 replace hst := objO_get hst
 refine wv (.tuple #[I6 t304.1, .bool t304.2]) z z z (wv (.int .i64 t304.1) z z z (wv (.bool t304.2) z z z (wv (.int .i64 t304.1) z z z (wv (.bool t304.2) z z z (wl_nil (tn (wp_seq (wp_seq (wrl (wv (.bool t304.2) z z z (wv (.bool (!t304.2)) z z z (wl_nil (tn ?_)))))))))))))
 refine bsplit (!t304.2) (fun hc309 => ?_) (fun hc309 => ?_)
 {
 replace hm := bif_t hc309 hm
 refine wp_ift (cvb hc309) ?_
 refine wp_seq (wrl (wv (.int .u64 (0:Int)) z z z (wl_nil (tn (wp_ret (then_r ?_))))))
 replace hst := objO_some hst
 obtain rfl := some_inj hm
 refine post_ret (vs := [Zu]) results61 (rvs_cons (rv_tmp z) rvs_nil) ?_
 exact ⟨z, hst.keep1⟩
}
 {
 replace hm := bif_f hc309 hm
 refine wp_iff (cvb hc309) ?_
 refine wp_skip (tn (wp_seq (wrl ?_)))
 refine wv (p0) z z z ?_
 obtain ⟨b310, v311, rfl, hst'⟩ := at_session_Table_open hst
 clear hst
 have hst := hst'
 clear hst'
 refine wv (Pt b310 0) z z z (wv (Pt b310 0) z z (x_field z underlying206 z sizeOf204 z) (wv (v311) z z (x_load z isAgg204 (hst.bc0 z)) (wv (.int .i64 t304.1) z z z ?_)))
 obtain ⟨x313, hx314, hm⟩ := bind_some hm
 obtain ⟨h315, h316, hi317⟩ := geto_some hx314
 refine wv (.pointer (some (eAddr v311 (t304.1.toNat * 7 + 0)))) z z (x_index z z underlying204 sizeOf242 hst.sv1 h315 h316) (wv (.pointer (some (eAddr v311 (t304.1.toNat * 7 + 1)))) z z (x_field_e z underlying242 z sizeOf26 z) ?_)
 obtain ⟨cs318, hr319, hc320⟩ := hst.og1 hi317
 obtain ⟨v321, v324, rfl, f322, f325, -⟩ := hr319
 refine wv (.int .u64 x313.seq) z z (x_load z isAgg26 (hc320 1 _ z)) (wv (.int .u64 x313.seq) z z z (wl_nil (tn (wp_ret ?_))))
 replace hst := hst.pull1.pull1
 replace hst := at_session_Table_close (pv := Pt b310 0) (x := o0) hst z
 replace hst := objO_some hst
 obtain rfl := some_inj hm
 refine post_ret (vs := [U6 x313.seq]) results61 (rvs_cons (rv_tmp z) rvs_nil) ?_
 exact ⟨z, hst.keep1⟩
}
}
}

theorem lane_State_late_ref {w0 w : World} {I : HL} {R : SP} {a0 : (Option lane_State)} {p0 : Value} {a1 : api_ID}  (hst : St w0 w I [objO at_lane_State p0 a0] R) {r : (api_Effect)} (hm : lane_State_late a0 a1 = some r) :
  Calls prog 125 #[p0, .agg #[U6 a1.Session, U6 a1.Seq]] w fun e w' => ∃ (q0_0 : Value) (q0_1 : Value), e = .returned (.agg #[U1 r.Kind, U6 r.ID.Session, U6 r.ID.Seq, I6 r.R.E, U6 r.R.Epoch, U6 r.R.Index, q0_0, q0_1]) ∧ St w0 w' I [ownS ty_api_Got q0_0 r.R.Gots, ownS (tySl ty_api_Pair) q0_1 r.R.Scans, objO at_lane_State p0 a0] R := by {
 rcases a0 with _ | o0
 {
 obtain ⟨rfl, hst'⟩ := objO_none hst
 clear hst
 have hst := hst'
 clear hst'
 dsimp only [lane_State_late] at hm
 refine calls_start (args := [.pointer none, .agg #[U6 a1.Session, U6 a1.Seq]]) func125 z ntmps125 (Nat.le_of_ble_eq_true z) ?_
 refine wp_seq (wrl ?_)
 obtain ⟨b309, w310, ew311, eb312, hst⟩ := hst.box [U6 a1.Session, U6 a1.Seq] 28
 refine wl_run (v := Pt b309 0) (w' := w310) z z (x_al (by kernel_rfl) ew311 eb312) ?_
 obtain ⟨b316, w317, ew318, eb319, hst⟩ := hst.box [Zb, Zu, Zu, Zi, Zu, Zu, Zs, Zs] 35
 refine wl_run (v := Pt b316 0) (w' := w317) z z (x_al (by kernel_rfl) ew318 eb319) ?_
 refine wl_nil (tn (wp_seq (wp_seq ?_)))
 refine wp_region_St hst 10 [0, 1, 2, 3, 4, 5, 6, 7, 8, 9] [0, 1, 3, 7, 0, 16, 63, 0, 128, 511] [] z (by kernel_rfl) (by kernel_rfl) Tryz.mixed (by kernel_rfl) ?_
 refine wsr (.pointer none) 0 z z z (by kernel_rfl) (fun w hst => z) ?_
 cases hm
}
 {
 replace hst := objO_get hst
 dsimp only [lane_State_late] at hm
 refine calls_start (args := [p0, .agg #[U6 a1.Session, U6 a1.Seq]]) func125 z ntmps125 (Nat.le_of_ble_eq_true z) ?_
 refine wp_seq (wrl ?_)
 obtain ⟨b321, w322, ew323, eb324, hst⟩ := hst.box [U6 a1.Session, U6 a1.Seq] 28
 refine wl_run (v := Pt b321 0) (w' := w322) z z (x_al (by kernel_rfl) ew323 eb324) ?_
 obtain ⟨b328, w329, ew330, eb331, hst⟩ := hst.box [Zb, Zu, Zu, Zi, Zu, Zu, Zs, Zs] 35
 refine wl_run (v := Pt b328 0) (w' := w329) z z (x_al (by kernel_rfl) ew330 eb331) ?_
 refine wl_nil (tn (wp_seq (wp_seq ?_)))
 replace hst := hst.pull2
 obtain ⟨b333, v334, v336, v338, v340, v342, v344, v346, rfl, hst'⟩ := at_lane_State_open hst
 clear hst
 have hst := hst'
 clear hst'
 refine wp_region_St hst 10 [0, 1, 2, 3, 4, 5, 6, 7, 8, 9] [0, 1, 3, 7, 0, 16, 63, 0, 128, 511] [] z (by kernel_rfl) (by kernel_rfl) Tryz.mixed (by kernel_rfl) ?_
 refine wsr (Pt b333 0) 0 z z z (by kernel_rfl) (fun w hst => z) (wsr (Pt b333 0) 1 z z z (by kernel_rfl) (fun w hst => z) (wsr (Pt b333 4) 2 z z z (by kernel_rfl) (fun w hst => x_field z underlying111 z sizeOf105 z) (wsr (v338) 3 z z z (by kernel_rfl) (fun w hst => x_load z isAgg105 (hst.bc0 z)) (wsr (Pt b321 0) 4 z z z (by kernel_rfl) (fun w hst => x_field z underlying28 z sizeOf26 z) (wsr (.int .u64 a1.Session) 5 z z z (by kernel_rfl) (fun w hst => x_load z isAgg26 (hst.bc9 z)) (wsr (Pt b321 1) 7 z z z (by kernel_rfl) (fun w hst => x_field z underlying28 z sizeOf26 z) (wsr (.int .u64 a1.Seq) 8 z z z (by kernel_rfl) (fun w hst => x_load z isAgg26 (hst.bc9 z)) ?_)))))))
 refine ws_e1 6 (by kernel_rfl) ?_
 refine nxe [9] (by kernel_rfl) z z ?_
 clear hst
 intro w hst
 replace hst := hst.pull3
 obtain ⟨t348, ht349, hm⟩ := bind_some hm
 refine wec call61 [v338, U6 a1.Session] z z ?_
 refine (session_Table_Last_ref hst.to1 ht349).mono ?_
 rintro _ w350 ⟨rfl, hst⟩
 refine ⟨_, z, ?_⟩
 replace hst := hst.of1
 refine ws_next (pend' := [(8, U6 a1.Seq), (7, Pt b321 1)]) hst (by kernel_rfl) (pkr z z (fun w hst => x_load z isAgg26 (hst.bc9 z)) (pkr z z (fun w hst => x_field z underlying28 z sizeOf26 z) pk_nil)) ?_
 refine wsr (.bool (decide (t348 ≤ a1.Seq))) 9 z z z (by kernel_rfl) (fun w hst => z) ?_
 refine ws_nil ?_
 intro w hst
 refine tn ?_
 refine bsplit (decide (t348 ≤ a1.Seq)) (fun hc353 => ?_) (fun hc353 => ?_)
 {
 replace hm := bif_t hc353 hm
 refine wp_ift (cvb hc353) ?_
 refine wp_seq (wrl (wv (.agg #[Zb, Zu, Zu, Zi, Zu, Zu, Zs, Zs]) z z (by kernel_rfl) ?_))
 replace hst := hst.pull8
 obtain ⟨w356, hr357, hst⟩ := hst.bx [Zb, Zu, Zu, Zi, Zu, Zu, Zs, Zs] sizeOf35 z (oC z (oC z (oC z (oC z (oC z (oC z (oC z (oC z oN)))))))) (by kernel_rfl)
 refine wl_unit z z (x_unit hr357) ?_
 refine wl_nil (tn (wp_ret (then_r ?_)))
 replace hst := hst.own_nil ty_api_Got
 replace hst := hst.own_nil (tySl ty_api_Pair)
 replace hst := hst.pull10.pull10.pull10.pull10.pull7.pull10.pull10.pull10
 replace hst := at_lane_State_close (pv := Pt b333 0) (x := o0) hst z
 replace hst := objO_some hst
 obtain rfl := some_inj hm
 refine post_ret (vs := [.agg #[Zb, Zu, Zu, Zi, Zu, Zu, Zs, Zs]]) results125 (rvs_cons (rv_cell (cs := [Zb, Zu, Zu, Zi, Zu, Zu, Zs, Zs]) z isAgg35 sizeOf35 (hst.bcs3 0 z)) rvs_nil) ?_
 replace hst := hst.pull1.pull2
 exact ⟨(.slice none 0 0), Zs, z, hst.keep3⟩
}
 {
 replace hm := bif_f hc353 hm
 refine wp_iff (cvb hc353) ?_
 refine wp_skip (tn (wp_seq (wrl ?_)))
 refine wv (.agg #[U6 a1.Session, U6 a1.Seq]) z z (x_loadN (cs := [U6 a1.Session, U6 a1.Seq]) z isAgg28 sizeOf28 (hst.bcs9 0 z)) (wv (.agg #[I6 (10:Int), Zu, Zu, Zs, Zs]) z z (by kernel_rfl) (wv (.agg #[U1 (4:Int), U6 a1.Session, U6 a1.Seq, I6 (10:Int), Zu, Zu, Zs, Zs]) z z (by kernel_rfl) ?_))
 replace hst := hst.pull8
 obtain ⟨w362, hr363, hst⟩ := hst.bx [U1 (4:Int), U6 a1.Session, U6 a1.Seq, I6 (10:Int), Zu, Zu, Zs, Zs] sizeOf35 z (oC z (oC z (oC z (oC z (oC z (oC z (oC z (oC z oN)))))))) (by kernel_rfl)
 refine wl_unit z z (x_unit hr363) ?_
 refine wl_nil (tn (wp_ret ?_))
 replace hst := hst.own_nil ty_api_Got
 replace hst := hst.own_nil (tySl ty_api_Pair)
 replace hst := hst.pull10.pull10.pull10.pull10.pull7.pull10.pull10.pull10
 replace hst := at_lane_State_close (pv := Pt b333 0) (x := o0) hst z
 replace hst := objO_some hst
 obtain rfl := some_inj hm
 refine post_ret (vs := [.agg #[U1 (4:Int), U6 a1.Session, U6 a1.Seq, I6 (10:Int), Zu, Zu, Zs, Zs]]) results125 (rvs_cons (rv_cell (cs := [U1 (4:Int), U6 a1.Session, U6 a1.Seq, I6 (10:Int), Zu, Zu, Zs, Zs]) z isAgg35 sizeOf35 (hst.bcs3 0 z)) rvs_nil) ?_
 replace hst := hst.pull1.pull2
 exact ⟨(.slice none 0 0), Zs, z, hst.keep3⟩
}
}
}

theorem slices_Clone_api_Part_api_Part_ref {w0 w : World} {I : HL} {R : SP} {a0 : (List api_Part)} {r0_0 : Value} (f0_0 : RdO ty_api_Part R I r0_0 a0) (hst : St w0 w I [] R) {r : (List api_Part)} (hm : slices_Clone_api_Part_api_Part a0 = some r) :
  Calls prog 126 #[r0_0] w fun e w' => ∃ (q0_0 : Value), e = .returned (q0_0) ∧ St w0 w' I [ownS ty_api_Part q0_0 r] R := by {
 unfold slices_Clone_api_Part_api_Part at hm
 obtain ⟨hg, hm⟩ := gd_some hm
 obtain rfl := some_inj hm
 have hsv := rdo_sliceV f0_0
 refine calls_start (args := [r0_0]) func126 z ntmps126 (Nat.le_of_ble_eq_true z) ?_
 refine wp_seq (wrl (wv ((.slice none 0 0)) z z z (wl_nil (tn (wp_seq (wp_seq (wrl (wv (r0_0) z z z (wv (.bool (isNil r0_0)) z z (x_slnil z hsv z underlying47) (wl_nil (tn ?_)))))))))))
 refine bsplit (isNil r0_0) (fun hc274 => ?_) (fun hc274 => ?_)
 {
 refine wp_ift (cvb hc274) ?_
 refine wp_seq (wrl (wv ((.slice none 0 0)) z z z (wl_nil (tn (wp_ret (then_r ?_))))))
 refine post_ret (vs := [Zs]) results126 (rvs_cons (rv_tmp z) rvs_nil) ?_
 obtain rfl := List.eq_nil_of_length_eq_zero (isNil_len hsv hc274)
 exact ⟨_, z, (hst.own_nil ty_api_Part).keep1⟩
}
 {
 refine wp_iff (cvb hc274) ?_
 refine wp_skip (tn (wp_seq (wrl ?_)))
 obtain ⟨b, w1, ew, eb, hst⟩ := hst.lits (E := ty_api_Part) (xs := []) [] 156 0 z Reps.nil
 refine wl_run (v := (.slice (some ⟨b, 0, none⟩) 0 0)) (w' := w1) z z (x_als (by kernel_rfl) ew eb) ?_
 refine wv (r0_0) z z z ?_
 obtain ⟨v2, w2, hr, hst⟩ := run_append elem_47 underlying47 hst (Src.of_rdo hst f0_0) (room_of hg z) 47
 refine wl_run (v := v2) (w' := w2) z z (x_append z z hr) ?_
 refine wv (v2) z z z (wl_nil (tn (wp_ret ?_)))
 refine post_ret (vs := [v2]) results126 (rvs_cons (rv_tmp z) rvs_nil) ?_
 rw [List.nil_append] at hst
 exact ⟨_, z, hst.keep1⟩
}
}

theorem lane_State_find_1_ref {w0 w : World} {I : HL} {R : SP} {a0 : api_Decision} {r0_0 : Value} {a1 : api_ID} (f0_0 : Rd ty_api_Part R I r0_0 a0.Parts) (hst : St w0 w I [] R) {r : (Int)} (hm : lane_State_find_1 a0 a1 = some r) :
  Calls prog 129 #[.agg #[U6 a0.ID.Session, U6 a0.ID.Seq, I6 a0.E, U6 a0.Epoch, U6 a0.Index, U6 a0.Shards, r0_0], .agg #[U6 a1.Session, U6 a1.Seq]] w fun e w' => e = .returned (.int .i64 r) ∧ St w0 w' I [] R := by {
 unfold lane_State_find_1 at hm
 refine calls_start (args := [.agg #[U6 a0.ID.Session, U6 a0.ID.Seq, I6 a0.E, U6 a0.Epoch, U6 a0.Index, U6 a0.Shards, r0_0], .agg #[U6 a1.Session, U6 a1.Seq]]) func129 z ntmps129 (Nat.le_of_ble_eq_true z) ?_
 refine wp_seq (wrl ?_)
 obtain ⟨b370, w371, ew372, eb373, hst⟩ := hst.box [U6 a0.ID.Session, U6 a0.ID.Seq, I6 a0.E, U6 a0.Epoch, U6 a0.Index, U6 a0.Shards, r0_0] 89
 refine wl_run (v := Pt b370 0) (w' := w371) z z (x_al (by kernel_rfl) ew372 eb373) ?_
 obtain ⟨b375, w376, ew377, eb378, hst⟩ := hst.box [U6 a1.Session, U6 a1.Seq] 28
 refine wl_run (v := Pt b375 0) (w' := w376) z z (x_al (by kernel_rfl) ew377 eb378) ?_
 refine wv (.int .i64 (0:Int)) z z z (wl_nil (tn (wp_seq ?_)))
 refine wp_region_St hst 15 [0, 1, 2, 3, 4, 5, 6, 7, 8, 9, 10, 11, 12, 13, 14] [0, 1, 3, 0, 8, 31, 0, 64, 192, 0, 512, 2047, 4095, 8191, 16383] [] z (by kernel_rfl) (by kernel_rfl) Tryz.mixed (by kernel_rfl) ?_
 refine wsr (Pt b370 0) 0 z z z (by kernel_rfl) (fun w hst => x_field z underlying89 z sizeOf28 z) (wsr (Pt b370 0) 1 z z z (by kernel_rfl) (fun w hst => x_field z underlying28 z sizeOf26 z) (wsr (.int .u64 a0.ID.Session) 2 z z z (by kernel_rfl) (fun w hst => x_load z isAgg26 (hst.bc1 z)) (wsr (Pt b375 0) 3 z z z (by kernel_rfl) (fun w hst => x_field z underlying28 z sizeOf26 z) (wsr (.int .u64 a1.Session) 4 z z z (by kernel_rfl) (fun w hst => x_load z isAgg26 (hst.bc0 z)) (wsr (Pt b370 0) 6 z z z (by kernel_rfl) (fun w hst => x_field z underlying89 z sizeOf28 z) (wsr (Pt b370 1) 7 z z z (by kernel_rfl) (fun w hst => x_field z underlying28 z sizeOf26 z) (wsr (.int .u64 a0.ID.Seq) 8 z z z (by kernel_rfl) (fun w hst => x_load z isAgg26 (hst.bc1 z)) (wsr (Pt b375 1) 9 z z z (by kernel_rfl) (fun w hst => x_field z underlying28 z sizeOf26 z) (wsr (.int .u64 a1.Seq) 10 z z z (by kernel_rfl) (fun w hst => x_load z isAgg26 (hst.bc0 z)) ?_)))))))))
 refine ws_e1 5 (by kernel_rfl) ?_
 refine nxe [11, 12, 13, 14] (by kernel_rfl) z z ?_
 clear hst
 intro w hst
 obtain ⟨t380, ht381, hm⟩ := bind_some hm
 refine wec call131 [U6 a0.ID.Session, U6 a1.Session] z z ?_
 refine (cmp_Compare_uint64_ref hst.to0 ht381).mono ?_
 rintro _ w382 ⟨rfl, hst⟩
 refine ⟨_, z, ?_⟩
 replace hst := hst.of0
 refine ws_next (pend' := [(10, U6 a1.Seq), (9, Pt b375 1), (8, U6 a0.ID.Seq), (7, Pt b370 1), (6, Pt b370 0)]) hst (by kernel_rfl) (pkr z z (fun w hst => x_load z isAgg26 (hst.bc0 z)) (pkr z z (fun w hst => x_field z underlying28 z sizeOf26 z) (pkr z z (fun w hst => x_load z isAgg26 (hst.bc1 z)) (pkr z z (fun w hst => x_field z underlying28 z sizeOf26 z) (pkr z z (fun w hst => x_field z underlying89 z sizeOf28 z) pk_nil))))) ?_
 refine ws_e1 11 (by kernel_rfl) ?_
 refine nxe [12, 13, 14] (by kernel_rfl) z z ?_
 clear hst
 intro w hst
 obtain ⟨t385, ht386, hm⟩ := bind_some hm
 refine wec call131 [U6 a0.ID.Seq, U6 a1.Seq] z z ?_
 refine (cmp_Compare_uint64_ref hst.to0 ht386).mono ?_
 rintro _ w387 ⟨rfl, hst⟩
 refine ⟨_, z, ?_⟩
 replace hst := hst.of0
 refine ws_next (pend' := []) hst (by kernel_rfl) pk_nil ?_
 refine ws_e1 12 (by kernel_rfl) ?_
 refine nxe [13, 14] (by kernel_rfl) z z ?_
 clear hst
 intro w hst
 obtain ⟨b390, w391, ew392, eb393, hst⟩ := hst.lits (E := (tyInt .i64)) (xs := [t380, t385]) [[I6 t380], [I6 t385]] 3 2 z (Reps.cons z (Reps.cons z Reps.nil))
 refine we_run (v := (.slice (some ⟨b390, 0, none⟩) 2 2)) (w' := w391) z (x_als (by kernel_rfl) ew392 eb393) ?_
 refine ws_next (pend' := []) hst (by kernel_rfl) pk_nil ?_
 refine ws_e1 13 (by kernel_rfl) ?_
 refine nxe [14] (by kernel_rfl) z z ?_
 clear hst
 intro w hst
 obtain ⟨css395, hq396, hst⟩ := hst.own_open
 obtain ⟨t397, ht398, hm⟩ := bind_some hm
 refine wec call130 [(.slice (some ⟨b390, 0, none⟩) 2 2)] z z ?_
 refine (cmp_Or_int_ref (hst.rdrow0 hq396) hst.to0 ht398).mono ?_
 rintro _ w399 ⟨rfl, hst⟩
 refine ⟨_, z, ?_⟩
 replace hst := hst.of0.own_close hq396
 refine ws_next (pend' := []) hst (by kernel_rfl) pk_nil ?_
 refine wsr (.int .i64 t397) 14 z z z (by kernel_rfl) (fun w hst => z) ?_
 refine ws_nil ?_
 intro w hst
 refine tn (wp_ret ?_)
 obtain rfl := some_inj hm
 refine post_ret (vs := [I6 t397]) results129 (rvs_cons (rv_tmp z) rvs_nil) ?_
 exact ⟨z, hst.keep0⟩
}

theorem lane_State_find_ref {w0 w : World} {I : HL} {R : SP} {a0 : (Option lane_State)} {p0 : Value} {a1 : api_ID}  (hst : St w0 w I [objO at_lane_State p0 a0] R) {r : (Int × Bool)} (hm : lane_State_find a0 a1 = some r) :
  Calls prog 51 #[p0, .agg #[U6 a1.Session, U6 a1.Seq]] w fun e w' => e = .returned (.tuple #[I6 r.1, .bool r.2]) ∧ St w0 w' I [objO at_lane_State p0 a0] R := by {
 rcases a0 with _ | o0
 {
 obtain ⟨rfl, hst'⟩ := objO_none hst
 clear hst
 have hst := hst'
 clear hst'
 dsimp only [lane_State_find] at hm
 refine calls_start (args := [.pointer none, .agg #[U6 a1.Session, U6 a1.Seq]]) func51 z ntmps51 (Nat.le_of_ble_eq_true z) ?_
 refine wp_seq (wrl ?_)
 obtain ⟨b426, w427, ew428, eb429, hst⟩ := hst.box [U6 a1.Session, U6 a1.Seq] 28
 refine wl_run (v := Pt b426 0) (w' := w427) z z (x_al (by kernel_rfl) ew428 eb429) ?_
 refine wv (.int .i64 (0:Int)) z z z (wv (.bool false) z z z (wl_nil (tn (wp_seq ?_))))
 refine wp_region_St hst 10 [0, 1, 2, 3, 4, 5, 6, 7, 8, 9] [0, 1, 3, 7, 0, 31, 63, 63, 255, 511] [] z (by kernel_rfl) (by kernel_rfl) Tryz.mixed (by kernel_rfl) ?_
 refine wsr (.pointer none) 0 z z z (by kernel_rfl) (fun w hst => z) ?_
 cases hm
}
 {
 replace hst := objO_get hst
 dsimp only [lane_State_find] at hm
 refine calls_start (args := [p0, .agg #[U6 a1.Session, U6 a1.Seq]]) func51 z ntmps51 (Nat.le_of_ble_eq_true z) ?_
 refine wp_seq (wrl ?_)
 obtain ⟨b431, w432, ew433, eb434, hst⟩ := hst.box [U6 a1.Session, U6 a1.Seq] 28
 refine wl_run (v := Pt b431 0) (w' := w432) z z (x_al (by kernel_rfl) ew433 eb434) ?_
 refine wv (.int .i64 (0:Int)) z z z (wv (.bool false) z z z (wl_nil (tn (wp_seq ?_))))
 replace hst := hst.pull1
 obtain ⟨b436, v437, v439, v441, v443, v445, v447, v449, rfl, hst'⟩ := at_lane_State_open hst
 clear hst
 have hst := hst'
 clear hst'
 refine wp_region_St hst 10 [0, 1, 2, 3, 4, 5, 6, 7, 8, 9] [0, 1, 3, 7, 0, 31, 63, 63, 255, 511] [] z (by kernel_rfl) (by kernel_rfl) Tryz.mixed (by kernel_rfl) ?_
 refine wsr (Pt b436 0) 0 z z z (by kernel_rfl) (fun w hst => z) (wsr (Pt b436 0) 1 z z z (by kernel_rfl) (fun w hst => z) (wsr (Pt b436 6) 2 z z z (by kernel_rfl) (fun w hst => x_field z underlying111 z sizeOf65 z) (wsr (v445) 3 z z z (by kernel_rfl) (fun w hst => x_load z isAgg65 (hst.bc0 z)) (wsr (.agg #[U6 a1.Session, U6 a1.Seq]) 4 z z z (by kernel_rfl) (fun w hst => x_loadN (cs := [U6 a1.Session, U6 a1.Seq]) z isAgg28 sizeOf28 (hst.bcs8 0 z)) ?_))))
 refine ws_e1 5 (by kernel_rfl) ?_
 refine nxe [6, 7, 8, 9] (by kernel_rfl) z z ?_
 clear hst
 intro w hst
 obtain ⟨y556, hq557, hm⟩ := bind_some hm
 refine we_call z (x_callv call128 (caps := []) z (vs := [v445, .agg #[U6 a1.Session, U6 a1.Seq], .func (.func 129) #[] #[]]) z) ?_
 refine Calls.mono (show Calls prog 128 #[v445, .agg #[U6 a1.Session, U6 a1.Seq], .func (.func 129) #[] #[]] _ (fun e w' => ∃ (z553 : Int) (z554 : Bool), (z553, z554) = y556 ∧ e = .returned (.tuple #[I6 z553, .bool z554]) ∧ St w0 w' I [cells b436 [I6 o0.wide, U6 o0.epoch, v437, v439, v441, v443, v445, v447, v449], objO at_mvcc_Store v437 o0.store, objO at_locks_Table v439 o0.locks, objO at_session_Table v441 o0.last, objO at_policy_Book v443 o0.book, ownS ty_api_Decision v445 o0.open_, ownS ty_api_Item v447 o0.out, ownS ty_lane_used v449 o0.used, cells b431 [U6 a1.Session, U6 a1.Seq]] R) from ?_) ?_
 {
 clear hm; have hm := hq557
 refine calls_start (args := [v445, .agg #[U6 a1.Session, U6 a1.Seq], .func (.func 129) #[] #[]]) func128 z ntmps128 (Nat.le_of_ble_eq_true z) ?_
 refine wp_seq (wrl ?_)
 obtain ⟨b451, w452, ew453, eb454, hst⟩ := hst.box [U6 a1.Session, U6 a1.Seq] 28
 refine wl_run (v := Pt b451 0) (w' := w452) z z (x_al (by kernel_rfl) ew453 eb454) ?_
 refine wv (.int .i64 (0:Int)) z z z (wv (.bool false) z z z (wl_nil (tn (wp_seq (wrl (wv (v445) z z z (wv (.int .i64 ((o0.open_).length : Int)) z z (x_len z underlying65 hst.sv6) (wv (.int .i64 ((o0.open_).length : Int)) z z z (wl_nil (tn (wp_seq (wrl (wv (.int .i64 ((o0.open_).length : Int)) z z z (wv (.int .i64 (0:Int)) z z z (wv (.int .i64 ((o0.open_).length : Int)) z z z (wl_nil (tn ?_)))))))))))))))))
 obtain ⟨y531, hm, hx532⟩ := bind_some hm
 refine wp_cut (fun a w => ∃ (z528 : Int) (σ529 : Nat → Value), (lane_State_find_j0 o0 a1) z528 = some y556 ∧ a = Fr 49 (upd (upd (upd (upd (upd σ529 0 (v445)) 2 (.func (.func 129) #[] #[])) 4 (Pt b451 0)) 8 (.int .i64 ((o0.open_).length : Int))) 9 (.int .i64 z528)) ∧ St w0 w I [ownS ty_api_Decision v445 o0.open_, cells b451 [U6 a1.Session, U6 a1.Seq], cells b436 [I6 o0.wide, U6 o0.epoch, v437, v439, v441, v443, v445, v447, v449], objO at_mvcc_Store v437 o0.store, objO at_locks_Table v439 o0.locks, objO at_session_Table v441 o0.last, objO at_policy_Book v443 o0.book, ownS ty_api_Item v447 o0.out, ownS ty_lane_used v449 o0.used, cells b431 [U6 a1.Session, U6 a1.Seq]] R) ?_ ?_
 {
 refine wp_block ?_
 obtain ⟨n501, hm⟩ := loopO_some hm
 refine wp_loop_n (fun n a w => ∃ (z498 : Int) (z499 : Int) (σ500 : Nat → Value), loopN (lane_State_find_l1 o0 a1) n (z498, z499) = some y531 ∧ a = Fr 49 (upd (upd (upd (upd (upd (upd σ500 0 (v445)) 2 (.func (.func 129) #[] #[])) 4 (Pt b451 0)) 8 (.int .i64 ((o0.open_).length : Int))) 9 (.int .i64 z499)) 10 (.int .i64 z498)) ∧ St w0 w I [cells b451 [U6 a1.Session, U6 a1.Seq], cells b436 [I6 o0.wide, U6 o0.epoch, v437, v439, v441, v443, v445, v447, v449], objO at_mvcc_Store v437 o0.store, objO at_locks_Table v439 o0.locks, objO at_session_Table v441 o0.last, objO at_policy_Book v443 o0.book, ownS ty_api_Decision v445 o0.open_, ownS ty_api_Item v447 o0.out, ownS ty_lane_used v449 o0.used, cells b431 [U6 a1.Session, U6 a1.Seq]] R) n501 ⟨((o0.open_).length : Int), (0:Int), _, hm, (fu 0 v445 z (fu 2 (.func (.func 129) #[] #[]) z (fu 4 (Pt b451 0) z (fu 8 (.int .i64 ((o0.open_).length : Int)) z (fu 9 (.int .i64 (0:Int)) z (fu 10 (.int .i64 ((o0.open_).length : Int)) z z)))))), hst⟩ ?_
 rintro n507 _ w502 ⟨z498, z499, σ500, hm, rfl, hst⟩
 obtain ⟨n504, y505, rfl, hm, hx506⟩ := loopN_some hm
 dsimp only [lane_State_find_l1] at hm
 refine wp_seq (wp_seq (wrl (wv (.int .i64 z499) z z z (wv (.int .i64 z498) z z z (wv (.bool (decide (z499 < z498))) z z z (wl_nil (tn ?_)))))))
 refine bsplit (decide (z499 < z498)) (fun hc508 => ?_) (fun hc508 => ?_)
 {
 replace hm := bif_t hc508 hm
 refine wp_ift (cvb hc508) ?_
 refine wp_skip (tn (wp_block (wp_seq (wrl ?_))))
 refine wv (.int .i64 z499) z z z (wv (.int .i64 z498) z z z (wv (.int .i64 (i64.wrap (z499 + z498))) z z z (wv (.int .u64 (u64.wrap (i64.wrap (z499 + z498)))) z z (by kernel_rfl) (wv (.int .u64 (iShr .u64 (u64.wrap (i64.wrap (z499 + z498))) (1:Int))) z z (x_shr (by decide) z z) (wv (.int .i64 (i64.wrap (iShr .u64 (u64.wrap (i64.wrap (z499 + z498))) (1:Int)))) z z (by kernel_rfl) (wv (.int .i64 (i64.wrap (iShr .u64 (u64.wrap (i64.wrap (z499 + z498))) (1:Int)))) z z z (wl_nil (tn (wp_seq ?_)))))))))
 replace hst := hst.pull6
 obtain ⟨css509, hq510, hst⟩ := hst.own_open
 refine wp_region_St hst 8 [0, 1, 2, 3, 4, 5, 6, 7] [0, 0, 0, 6, 14, 0, 63, 127] [] z (by kernel_rfl) (by kernel_rfl) Tryz.mixed (by kernel_rfl) ?_
 refine wsr (.func (.func 129) #[] #[]) 0 z z z (by kernel_rfl) (fun w hst => z) (wsr (v445) 1 z z z (by kernel_rfl) (fun w hst => z) (wsr (.int .i64 (i64.wrap (iShr .u64 (u64.wrap (i64.wrap (z499 + z498))) (1:Int)))) 2 z z z (by kernel_rfl) (fun w hst => z) ?_))
 obtain ⟨x511, hx512, hm⟩ := bind_some hm
 obtain ⟨h513, h514, hi515⟩ := geto_some hx512
 refine wsr (.pointer (some (eAddr v445 ((i64.wrap (iShr .u64 (u64.wrap (i64.wrap (z499 + z498))) (1:Int))).toNat * 7 + 0)))) 3 z z z (by kernel_rfl) (fun w hst => x_index z z underlying65 sizeOf89 (hst.rsv 0 z hq510) h513 h514) ?_
 obtain ⟨cs516, hc518, hr517⟩ := Reps.get hq510 hi515
 obtain ⟨v519, rfl, f520, -⟩ := hr517
 refine wsr (.agg #[U6 x511.ID.Session, U6 x511.ID.Seq, I6 x511.E, U6 x511.Epoch, U6 x511.Index, U6 x511.Shards, v519]) 4 z z z (by kernel_rfl) (fun w hst => x_loadN (cs := [U6 x511.ID.Session, U6 x511.ID.Seq, I6 x511.E, U6 x511.Epoch, U6 x511.Index, U6 x511.Shards, v519]) z isAgg89 sizeOf89 (eCells (o := 0) (hst.rcell 0 z hc518) z)) (wsr (.agg #[U6 a1.Session, U6 a1.Seq]) 5 z z z (by kernel_rfl) (fun w hst => x_loadN (cs := [U6 a1.Session, U6 a1.Seq]) z isAgg28 sizeOf28 (hst.bcs1 0 z)) ?_)
 refine ws_e1 6 (by kernel_rfl) ?_
 refine nxe [7] (by kernel_rfl) z z ?_
 clear hst
 intro w hst
 obtain ⟨t522, ht523, hm⟩ := bind_some hm
 refine we_call z (x_callv call129 (caps := []) z (vs := [.agg #[U6 x511.ID.Session, U6 x511.ID.Seq, I6 x511.E, U6 x511.Epoch, U6 x511.Index, U6 x511.Shards, v519], .agg #[U6 a1.Session, U6 a1.Seq]]) z) ?_
 refine (lane_State_find_1_ref (f520.mono ro_rd) hst.to0 ht523).mono ?_
 rintro _ w524 ⟨rfl, hst⟩
 refine ⟨_, z, ?_⟩
 replace hst := hst.of0
 refine ws_next (pend' := []) hst (by kernel_rfl) pk_nil ?_
 refine wsr (.bool (decide (t522 < (0:Int)))) 7 z z z (by kernel_rfl) (fun w hst => z) ?_
 refine ws_nil ?_
 intro w hst
 replace hst := hst.own_close hq510
 refine tn ?_
 refine bsplit (decide (t522 < (0:Int))) (fun hc527 => ?_) (fun hc527 => ?_)
 {
 replace hm := bif_t hc527 hm
 refine wp_ift (cvb hc527) ?_
 refine wrl (wv (.int .i64 (i64.wrap (iShr .u64 (u64.wrap (i64.wrap (z499 + z498))) (1:Int)))) z z z (wv (.int .i64 (i64.wrap ((i64.wrap (iShr .u64 (u64.wrap (i64.wrap (z499 + z498))) (1:Int))) + (1:Int)))) z z z (wv (.int .i64 (i64.wrap ((i64.wrap (iShr .u64 (u64.wrap (i64.wrap (z499 + z498))) (1:Int))) + (1:Int)))) z z z (wl_nil (blk_n (tn ?_))))))
 replace hst := hst.pull9.pull9.pull9.pull3.pull9.pull9.pull9.pull9.pull9.pull9.keep10
 obtain rfl := some_inj hm
 exact ⟨_, Nat.lt_succ_self _, z498, (i64.wrap ((i64.wrap (iShr .u64 (u64.wrap (i64.wrap (z499 + z498))) (1:Int))) + (1:Int))), _, hx506, (fu 0 v445 z (fu 2 (.func (.func 129) #[] #[]) z (fu 4 (Pt b451 0) z (fu 8 (.int .i64 ((o0.open_).length : Int)) z (fu 9 (.int .i64 (i64.wrap ((i64.wrap (iShr .u64 (u64.wrap (i64.wrap (z499 + z498))) (1:Int))) + (1:Int)))) z (fu 10 (.int .i64 z498) z z)))))), hst⟩
}
 {
 replace hm := bif_f hc527 hm
 refine wp_iff (cvb hc527) ?_
 refine wrl (wv (.int .i64 (i64.wrap (iShr .u64 (u64.wrap (i64.wrap (z499 + z498))) (1:Int)))) z z z (wv (.int .i64 (i64.wrap (iShr .u64 (u64.wrap (i64.wrap (z499 + z498))) (1:Int)))) z z z (wl_nil (blk_n (tn ?_)))))
 replace hst := hst.pull9.pull9.pull9.pull3.pull9.pull9.pull9.pull9.pull9.pull9.keep10
 obtain rfl := some_inj hm
 exact ⟨_, Nat.lt_succ_self _, (i64.wrap (iShr .u64 (u64.wrap (i64.wrap (z499 + z498))) (1:Int))), z499, _, hx506, (fu 0 v445 z (fu 2 (.func (.func 129) #[] #[]) z (fu 4 (Pt b451 0) z (fu 8 (.int .i64 ((o0.open_).length : Int)) z (fu 9 (.int .i64 z499) z (fu 10 (.int .i64 (i64.wrap (iShr .u64 (u64.wrap (i64.wrap (z499 + z498))) (1:Int)))) z z)))))), hst⟩
}
}
 {
 replace hm := bif_f hc508 hm
 refine wp_iff (cvb hc508) ?_
 refine wp_exit (then_x (then_x ?_))
 replace hm := inr_up hm hx506
 refine blk_x (tn ?_)
 replace hst := hst.pull9.pull9.pull9.pull8.pull8.pull8.pull8.pull8.pull8.pull9.keep10
 obtain rfl := some_inj hm
 exact ⟨z499, _, hx532, (fu 0 v445 z (fu 2 (.func (.func 129) #[] #[]) z (fu 4 (Pt b451 0) z (fu 8 (.int .i64 ((o0.open_).length : Int)) z (fu 9 (.int .i64 z499) z z))))), hst⟩
}
}
 {
 clear hst
 rintro _ w533 ⟨z528, σ529, hm, rfl, hst⟩
 dsimp only [lane_State_find_j0] at hm
 refine wp_seq ?_
 obtain ⟨css534, hq535, hst⟩ := hst.own_open
 refine wp_region_St hst 16 [0, 1, 2, 3, 4, 5, 6, 7, 8, 9, 10, 11, 12, 13, 14, 15] [0, 0, 0, 6, 14, 30, 30, 30, 222, 478, 30, 2046, 4094, 8190, 4095, 32767] [] z (by kernel_rfl) (by kernel_rfl) Tryz.mixed (by kernel_rfl) ?_
 refine wsr (.int .i64 z528) 0 z z z (by kernel_rfl) (fun w hst => z) (wsr (.int .i64 z528) 1 z z z (by kernel_rfl) (fun w hst => z) (wsr (.int .i64 ((o0.open_).length : Int)) 2 z z z (by kernel_rfl) (fun w hst => z) (wsr (.bool (decide (z528 < ((o0.open_).length : Int)))) 3 z z z (by kernel_rfl) (fun w hst => z) (wsr (.bool (decide (z528 < ((o0.open_).length : Int)))) 4 z z z (by kernel_rfl) (fun w hst => z) ?_))))
 refine bsplit (decide (z528 < ((o0.open_).length : Int))) (fun hc536 => ?_) (fun hc536 => ?_)
 {
 replace hm := bif_t hc536 hm
 refine ws_q (v := .func (.func 129) #[] #[]) 5 [6, 7, 8, 9, 10, 11, 12, 13, 14, 15] (by kernel_rfl) z z (yi_run ((wanted_eq z z z (cvb hc536)).trans z) (fun w hst => z)) (ws_q (v := v445) 6 [7, 8, 9, 10, 11, 12, 13, 14, 15] (by kernel_rfl) z z (yi_run ((wanted_eq z z z (cvb hc536)).trans z) (fun w hst => z)) (ws_q (v := .int .i64 z528) 7 [8, 9, 10, 11, 12, 13, 14, 15] (by kernel_rfl) z z (yi_run ((wanted_eq z z z (cvb hc536)).trans z) (fun w hst => z)) ?_))
 obtain ⟨x537, hx538, hm⟩ := bind_some hm
 obtain ⟨h539, h540, hi541⟩ := geto_some hx538
 refine ws_q (v := .pointer (some (eAddr v445 (z528.toNat * 7 + 0)))) 8 [9, 10, 11, 12, 13, 14, 15] (by kernel_rfl) z z (yi_run ((wanted_eq z z z (cvb hc536)).trans z) (fun w hst => x_index z z underlying65 sizeOf89 (hst.rsv 0 z hq535) h539 h540)) ?_
 obtain ⟨cs542, hc544, hr543⟩ := Reps.get hq535 hi541
 obtain ⟨v545, rfl, f546, -⟩ := hr543
 refine ws_q (v := .agg #[U6 x537.ID.Session, U6 x537.ID.Seq, I6 x537.E, U6 x537.Epoch, U6 x537.Index, U6 x537.Shards, v545]) 9 [10, 11, 12, 13, 14, 15] (by kernel_rfl) z z (yi_run ((wanted_eq z z z (cvb hc536)).trans z) (fun w hst => x_loadN (cs := [U6 x537.ID.Session, U6 x537.ID.Seq, I6 x537.E, U6 x537.Epoch, U6 x537.Index, U6 x537.Shards, v545]) z isAgg89 sizeOf89 (eCells (o := 0) (hst.rcell 0 z hc544) z))) (ws_q (v := .agg #[U6 a1.Session, U6 a1.Seq]) 10 [11, 12, 13, 14, 15] (by kernel_rfl) z z (yi_run ((wanted_eq z z z (cvb hc536)).trans z) (fun w hst => x_loadN (cs := [U6 a1.Session, U6 a1.Seq]) z isAgg28 sizeOf28 (hst.bcs1 0 z))) ?_)
 refine ws_e1 11 (by kernel_rfl) ?_
 refine nxe [12, 13, 14, 15] (by kernel_rfl) z ((wanted_eq z z z (cvb hc536)).trans z) ?_
 clear hst
 intro w hst
 obtain ⟨t548, ht549, hm⟩ := bind_some hm
 refine we_call z (x_callv call129 (caps := []) z (vs := [.agg #[U6 x537.ID.Session, U6 x537.ID.Seq, I6 x537.E, U6 x537.Epoch, U6 x537.Index, U6 x537.Shards, v545], .agg #[U6 a1.Session, U6 a1.Seq]]) z) ?_
 refine (lane_State_find_1_ref (f546.mono ro_rd) hst.to0 ht549).mono ?_
 rintro _ w550 ⟨rfl, hst⟩
 refine ⟨_, z, ?_⟩
 replace hst := hst.of0
 refine ws_next (pend' := [(0, I6 z528)]) hst (by kernel_rfl) (pkr z z (fun w hst => z) pk_nil) ?_
 refine ws_q (v := .bool (t548 == (0:Int))) 12 [13, 14, 15] (by kernel_rfl) z z (yi_run ((wanted_eq z z z (cvb hc536)).trans z) (fun w hst => z)) (wsr (.bool (t548 == (0:Int))) 13 z z z (by kernel_rfl) (fun w hst => x_pick_t hc536 z z) (wsr (.int .i64 z528) 14 z z z (by kernel_rfl) (fun w hst => z) (wsr (.bool (t548 == (0:Int))) 15 z z z (by kernel_rfl) (fun w hst => z) ?_)))
 refine ws_nil ?_
 intro w hst
 replace hst := hst.own_close hq535
 refine tn (wp_ret ?_)
 refine post_ret (vs := [I6 z528, .bool (t548 == (0:Int))]) results128 (rvs_cons (rv_tmp z) (rvs_cons (rv_tmp z) rvs_nil)) ?_
 replace hst := hst.pull9.pull9.pull9.pull3.pull9.pull9.pull9.pull9.pull9.keep9
 obtain rfl := some_inj hm
 exact ⟨z528, (t548 == (0:Int)), z, z, hst⟩
}
 {
 replace hm := bif_f hc536 hm
 refine ws_q (v := undef) 5 [6, 7, 8, 9, 10, 11, 12, 13, 14, 15] (by kernel_rfl) z z (yi_off ((wanted_eq z z z (cvb hc536)).trans z)) (ws_q (v := undef) 6 [7, 8, 9, 10, 11, 12, 13, 14, 15] (by kernel_rfl) z z (yi_off ((wanted_eq z z z (cvb hc536)).trans z)) (ws_q (v := undef) 7 [8, 9, 10, 11, 12, 13, 14, 15] (by kernel_rfl) z z (yi_off ((wanted_eq z z z (cvb hc536)).trans z)) (ws_q (v := undef) 8 [9, 10, 11, 12, 13, 14, 15] (by kernel_rfl) z z (yi_off ((wanted_eq z z z (cvb hc536)).trans z)) (ws_q (v := undef) 9 [10, 11, 12, 13, 14, 15] (by kernel_rfl) z z (yi_off ((wanted_eq z z z (cvb hc536)).trans z)) (ws_q (v := undef) 10 [11, 12, 13, 14, 15] (by kernel_rfl) z z (yi_off ((wanted_eq z z z (cvb hc536)).trans z)) (ws_q (v := undef) 11 [12, 13, 14, 15] (by kernel_rfl) z z (yi_off ((wanted_eq z z z (cvb hc536)).trans z)) (ws_q (v := undef) 12 [13, 14, 15] (by kernel_rfl) z z (yi_off ((wanted_eq z z z (cvb hc536)).trans z)) (wsr (.bool false) 13 z z z (by kernel_rfl) (fun w hst => x_pick_f hc536 z z) (wsr (.int .i64 z528) 14 z z z (by kernel_rfl) (fun w hst => z) (wsr (.bool false) 15 z z z (by kernel_rfl) (fun w hst => z) ?_))))))))))
 refine ws_nil ?_
 intro w hst
 replace hst := hst.own_close hq535
 refine tn (wp_ret ?_)
 refine post_ret (vs := [I6 z528, .bool false]) results128 (rvs_cons (rv_tmp z) (rvs_cons (rv_tmp z) rvs_nil)) ?_
 replace hst := hst.pull9.pull9.pull9.pull3.pull9.pull9.pull9.pull9.pull9.keep9
 obtain rfl := some_inj hm
 exact ⟨z528, false, z, z, hst⟩
}
}
}
 clear hst
 rintro _ w558 ⟨z553, z554, rfl, rfl, hst⟩
 refine ⟨_, z, ?_⟩
 try dsimp only at hm
 refine ws_next (pend' := []) hst (by kernel_rfl) pk_nil ?_
 refine wsr (.int .i64 z553) 6 z z z (by kernel_rfl) (fun w hst => z) (wsr (.bool z554) 7 z z z (by kernel_rfl) (fun w hst => z) (wsr (.int .i64 z553) 8 z z z (by kernel_rfl) (fun w hst => z) (wsr (.bool z554) 9 z z z (by kernel_rfl) (fun w hst => z) ?_)))
 refine ws_nil ?_
 intro w hst
 refine tn (wp_ret ?_)
 replace hst := hst.pull7.pull7.pull7.pull7.pull7.pull7.pull7.pull7
 replace hst := at_lane_State_close (pv := Pt b436 0) (x := o0) hst z
 replace hst := objO_some hst
 obtain rfl := some_inj hm
 refine post_ret (vs := [I6 z553, .bool z554]) results51 (rvs_cons (rv_tmp z) (rvs_cons (rv_tmp z) rvs_nil)) ?_
 exact ⟨z, hst.keep1⟩
}
}

theorem slices_Insert_api_Decision_api_Decision_ref {w0 w : World} {I : HL} {R : SP} {a0 : (List api_Decision)} {r0_0 : Value} {a1 : Int} {a2 : (List api_Decision)} {r2_0 : Value} (hst : St w0 w I [ownS ty_api_Decision r0_0 a0, ownS ty_api_Decision r2_0 a2] R) {r : (List api_Decision)} (hm : slices_Insert_api_Decision_api_Decision a0 a1 a2 = some r) :
  Calls prog 127 #[r0_0, I6 a1, r2_0] w fun e w' => ∃ (q0_0 : Value), e = .returned (q0_0) ∧ St w0 w' I [ownS ty_api_Decision q0_0 r] R := by {
 unfold slices_Insert_api_Decision_api_Decision at hm
 obtain ⟨hg, hm⟩ := gd_some hm
 obtain rfl := some_inj hm
 obtain ⟨hi0, hi1, hrm⟩ := insOK_of hg
 obtain ⟨k, rfl⟩ := Int.eq_ofNat_of_zero_le hi0
 have hsm := room_sum hrm
 have hk : k ≤ a0.length := by omega
 have hs : ∀ w : World, (sizeOf 89).run prog w = .ok ty_api_Decision.sz w := sizeOf89
 have hs0 : 0 < ty_api_Decision.sz := Nat.le_of_ble_eq_true rfl
 have hov : ∀ (args : Array Value) (w : World), (callFunc 188 args).run prog w = (Extern.SlicesOverlaps.overlaps #[65, 65] #[4] args >>= fun v => (pure (.value v) : Sem Next)).run prog w := by intro args w; kernel_rfl
 obtain ⟨css, hr, hst⟩ := hst.own_open
 replace hst := hst.pull1
 obtain ⟨dss, hq, hst⟩ := hst.own_open
 replace hst := hst.pull1
 obtain ⟨n, hn⟩ : ∃ n, css.length = n := ⟨_, rfl⟩
 obtain ⟨m, hm'⟩ : ∃ m, dss.length = m := ⟨_, rfl⟩
 have hln : a0.length = n := hr.1.trans hn
 have hlm : a2.length = m := hq.1.trans hm'
 rw [hln] at hsm hk
 rw [hlm] at hsm
 have hsv : SliceV r0_0 n := by have := hst.row_form.2; rwa [hn] at this
 have hsq : SliceV r2_0 m := by have := hst.pull1.row_form.2; rwa [hm'] at this
 have hoc := hr.ones
 have hoq := hq.ones
 have hw1 := wrap_add (a := n) (b := m) (by omega)
 have hw2 := wrap_add (a := k) (b := m) (by omega)
 have hw3 := wrap_sub (a := n + m) (b := k) (by omega) (by omega)
 have hrb := room_of (b := 72) hrm rfl
 rw [hln, hlm] at hrb
 refine calls_start (args := [r0_0, I6 (k : Int), r2_0]) func127 z ntmps127 (Nat.le_of_ble_eq_true z) ?_
 refine wp_seq (wrl (wv ((.slice none 0 0)) z z z (wl_nil (tn (wp_seq (wrl (wv (r0_0) z z z (wv (.int .i64 (k : Int)) z z z (wv ((slcV ty_api_Decision.sz r0_0 k n)) z z (x_slice (lo := (k : Nat)) (hi := (n : Nat)) underlying65 hs z hsv (by omega) (by omega) (by omega) .i64 .i64 (.inl z) (.inr ⟨z, z⟩)) (wl_nil (tn (wp_seq (wrl (wv (r2_0) z z z (wv (.int .i64 (m : Int)) z z (x_len z underlying65 hsq) (wv (.int .i64 (m : Int)) z z z (wl_nil (tn (wp_seq (wp_seq (wrl (wv (.int .i64 (m : Int)) z z z (wv (.bool ((m : Int) == (0:Int))) z z z ?_)))))))))))))))))))))))
 refine wl_nil (tn ?_)
 refine bsplit ((m : Int) == (0:Int)) (fun hc296 => ?_) (fun hc296 => ?_)
 {
 refine wp_ift (cvb hc296) ?_
 refine wp_seq (wrl (wv (r0_0) z z z (wv (r0_0) z z z (wl_nil (tn (wp_ret (then_r ?_)))))))
 refine post_ret (vs := [r0_0]) results127 (rvs_cons (rv_tmp z) rvs_nil) ?_
 rw [ins_nil (by rw [hlm]; exact hc296)]
 exact ⟨_, z, (hst.own_close hr).keep1⟩
}
 {
 refine wp_iff (cvb hc296) ?_
 have hm0 : m ≠ 0 := fun h => by rw [h] at hc296; cases hc296
 have hq0 : dss ≠ [] := fun h => hm0 (by rw [← hm', h]; rfl)
 refine wp_skip (tn (wp_seq (wrl ?_)))
 refine wv (r0_0) z z z (wv (.int .i64 (n : Int)) z z (x_len z underlying65 hsv) (wv (.int .i64 (n : Int)) z z z (wl_nil (tn (wp_seq (wp_seq (wrl (wv (.int .i64 (k : Int)) z z z (wv (.int .i64 (n : Int)) z z z (wv (.bool ((k : Int) == (n : Int))) z z z (wl_nil (tn ?_))))))))))))
 refine bsplit ((k : Int) == (n : Int)) (fun hc297 => ?_) (fun hc297 => ?_)
 {
 refine wp_ift (cvb hc297) ?_
 refine wp_seq (wrl (wv (r0_0) z z z (wv (r2_0) z z z ?_)))
 replace hst := (hst.own_close hr).pull1.own_close hq
 replace hst := hst.pull1
 obtain ⟨v2, w2, hra, hst⟩ := run_append elem_65 underlying65 hst hst.src1 (room_of hrm z) 65
 refine wl_run (v := v2) (w' := w2) z z (x_append z z hra) ?_
 refine wv (v2) z z z (wl_nil (tn (wp_ret (then_r ?_))))
 refine post_ret (vs := [v2]) results127 (rvs_cons (rv_tmp z) rvs_nil) ?_
 rw [ins_end (by rw [hln]; exact hc297)]
 exact ⟨_, z, hst.keep1⟩
}
 {
 refine wp_iff (cvb hc297) ?_
 have hkn : k ≠ n := fun h => by rw [h] at hc297; simp at hc297
 have hn0 : 0 < n := by omega
 have hc0 : css ≠ [] := fun h => by rw [h] at hn; simp at hn; omega
 refine wp_skip (tn (wp_seq (wp_seq (wrl ?_))))
 refine wv (.int .i64 (n : Int)) z z z (wv (.int .i64 (m : Int)) z z z (wv (.int .i64 ((n + m : Nat) : Int)) z z (ok_cast hw1 z) (wv (r0_0) z z z (wv (.int .i64 (sCap r0_0 : Int)) z z (x_cap z underlying65 hsv) (wv (.bool (decide (((n + m : Nat) : Int) > (sCap r0_0 : Int)))) z z z (wl_nil (tn ?_)))))))
 refine bsplit (decide (((n + m : Nat) : Int) > (sCap r0_0 : Int))) (fun hc298 => ?_) (fun hc298 => ?_)
 {
 refine wp_ift (cvb hc298) ?_
 refine wp_seq (wrl (wv (r0_0) z z z (wv (.int .i64 (k : Int)) z z z (wv ((slcV ty_api_Decision.sz r0_0 0 k)) z z (x_slice (lo := (0 : Nat)) (hi := (k : Nat)) underlying65 hs z hsv (by omega) (by omega) (by omega) .i64 .i64 (.inr ⟨z, z⟩) (.inl z)) (wv (.int .i64 (n : Int)) z z z (wv (.int .i64 (m : Int)) z z z (wv (.int .i64 ((n + m : Nat) : Int)) z z (ok_cast hw1 z) (wv (.int .i64 (k : Int)) z z z (wv (.int .i64 ((n + m - k : Nat) : Int)) z z (ok_cast hw3 z) ?_)))))))))
 obtain ⟨v2, w2, hra, hs2, zss, hzl, hst⟩ := run_app0 elem_65 underlying3 hst k (n + m - k) (by omega) (by have := of_decide_eq_true hc298; omega) (by rw [show k + (n + m - k) = n + m by omega]; exact hrb) hs0 65
 rw [show k + (n + m - k) = n + m by omega] at hs2
 refine wl_run (v := v2) (w' := w2) z z (x_append z z hra) ?_
 refine wv (v2) z z z (wl_nil (tn (wp_seq (wrl (wv (v2) z z z (wv (.int .i64 (k : Int)) z z z (wv ((slcV ty_api_Decision.sz v2 k (n + m))) z z (x_slice (lo := (k : Nat)) (hi := ((n + m) : Nat)) underlying65 hs z hs2 (by omega) (by omega) (by omega) .i64 .i64 (.inl z) (.inr ⟨z, z⟩)) (wv (r2_0) z z z ?_))))))))
 obtain ⟨w299, hr300, hst⟩ := run_copyRows (P := prog) (t2 := 65) (ty := 3) underlying65 hs hst hst.pull2 k m (N := n + m) (by first | omega | (simp only [List.length_append, List.length_take, List.length_drop]; omega)) (by first | omega | (simp only [List.length_append, List.length_take, List.length_drop]; omega)) (by omega) (by first | omega | (simp only [List.length_append, List.length_take, List.length_drop]; omega)) (ones_take hoq _)
 refine wl_run (v := .int .i64 (m : Nat)) (w' := w299) z z (x_copy z z hr300) ?_
 refine wl_nil (tn (wp_seq ?_))
 refine wp_region_St hst 9 [0, 1, 2, 3, 4, 5, 6, 7, 8] [0, 0, 0, 6, 15, 0, 0, 96, 255] [] z (by kernel_rfl) (by kernel_rfl) Tryz.mixed (by kernel_rfl) ?_
 refine wsr (v2) 0 z z z (by kernel_rfl) (fun w hst => z) (wsr (.int .i64 (k : Int)) 1 z z z (by kernel_rfl) (fun w hst => z) (wsr (.int .i64 (m : Int)) 2 z z z (by kernel_rfl) (fun w hst => z) (wsr (.int .i64 ((k + m : Nat) : Int)) 3 z z z (by kernel_rfl) (fun w hst => ok_cast hw2 z) (wsr ((slcV ty_api_Decision.sz v2 (k + m) (n + m))) 4 z z z (by kernel_rfl) (fun w hst => x_slice (lo := ((k + m) : Nat)) (hi := ((n + m) : Nat)) underlying65 hs z hs2 (by omega) (by omega) (by omega) .i64 .i64 (.inl z) (.inr ⟨z, z⟩)) (wsr (r0_0) 5 z z z (by kernel_rfl) (fun w hst => z) (wsr (.int .i64 (k : Int)) 6 z z z (by kernel_rfl) (fun w hst => z) (wsr ((slcV ty_api_Decision.sz r0_0 k n)) 7 z z z (by kernel_rfl) (fun w hst => x_slice (lo := (k : Nat)) (hi := (n : Nat)) underlying65 hs z hsv (by omega) (by omega) (by omega) .i64 .i64 (.inl z) (.inr ⟨z, z⟩)) ?_)))))))
 refine ws_e1 8 (by kernel_rfl) ?_
 refine nxe [] (by kernel_rfl) z z ?_
 clear hst
 intro w hst
 obtain ⟨w301, hr302, hst⟩ := run_copyRows (P := prog) (t2 := 65) (ty := 3) underlying65 hs hst (hst.pull1.row_part (l := k) (h := n) hk (by omega)) (k + m) (n - k) (N := n + m) (by first | omega | (simp only [List.length_append, List.length_take, List.length_drop]; omega)) (by first | omega | (simp only [List.length_append, List.length_take, List.length_drop]; omega)) (by omega) (by first | omega | (simp only [List.length_append, List.length_take, List.length_drop]; omega)) (ones_take (ones_drop (ones_take hoc _) _) _)
 refine we_run (v := .int .i64 ((n - k) : Nat)) (w' := w301) z (x_copy z z hr302) ?_
 refine ws_next (pend' := []) hst (by kernel_rfl) pk_nil ?_
 refine ws_nil ?_
 intro w hst
 refine tn (wp_seq (wrl (wv (v2) z z z (wv (v2) z z z (wl_nil (tn (wp_ret (then_r ?_))))))))
 refine post_ret (vs := [v2]) results127 (rvs_cons (rv_tmp z) rvs_nil) ?_
 rw [grow_rows hn hm' hk hzl] at hst
 exact ⟨_, z, (hst.own_close ((hr.take k).app (hq.app (hr.drop k)))).keep1⟩
}
 {
 refine wp_iff (cvb hc298) ?_
 have hup : n + m ≤ sCap r0_0 := by have := of_decide_eq_false hc298; omega
 obtain ⟨ess, hel, hem, hst'⟩ := hst.row_up (n + m) (by omega) hup hc0
 rw [show n + m - css.length = m by omega] at hel
 have hs2 : SliceV (upV r0_0 (n + m)) (n + m) := by have := hst'.row_form.2; rwa [List.length_append, hn, hel] at this
 clear hst
 have hst := hst'
 clear hst'
 refine wp_skip (tn (wp_seq (wrl ?_)))
 refine wv (r0_0) z z z (wv (.int .i64 (n : Int)) z z z (wv (.int .i64 (m : Int)) z z z (wv (.int .i64 ((n + m : Nat) : Int)) z z (ok_cast hw1 z) (wv ((upV r0_0 (n + m))) z z (x_sliceUp underlying65 hs z hsv z hup hn0) (wv ((upV r0_0 (n + m))) z z z (wl_nil (tn (wp_seq (wp_seq (wrl (wv (r2_0) z z z (wv ((upV r0_0 (n + m))) z z z (wv (.int .i64 (k : Int)) z z z (wv (.int .i64 (m : Int)) z z z (wv (.int .i64 ((k + m : Nat) : Int)) z z (ok_cast hw2 z) (wv ((slcV ty_api_Decision.sz (upV r0_0 (n + m)) (k + m) (n + m))) z z (x_slice (lo := ((k + m) : Nat)) (hi := ((n + m) : Nat)) underlying65 hs z hs2 (by omega) (by omega) (by omega) .i64 .i64 (.inl z) (.inr ⟨z, z⟩)) ?_))))))))))))))))
 refine wv (.bool false) z z (x_ext z z z (hov _) (run_overlaps z underlying65 hs hst.pull1 (k + m) (N := n + m) (by rw [List.length_append]; omega) (by omega) hq0 hs0)) (wv (.bool true) z z z (wl_nil (tn ?_)))
 refine wp_ift z ?_
 refine wp_seq ?_
 refine wp_region_St hst 9 [0, 1, 2, 3, 4, 5, 6, 7, 8] [0, 0, 0, 6, 15, 0, 0, 96, 255] [] z (by kernel_rfl) (by kernel_rfl) Tryz.mixed (by kernel_rfl) ?_
 refine wsr ((upV r0_0 (n + m))) 0 z z z (by kernel_rfl) (fun w hst => z) (wsr (.int .i64 (k : Int)) 1 z z z (by kernel_rfl) (fun w hst => z) (wsr (.int .i64 (m : Int)) 2 z z z (by kernel_rfl) (fun w hst => z) (wsr (.int .i64 ((k + m : Nat) : Int)) 3 z z z (by kernel_rfl) (fun w hst => ok_cast hw2 z) (wsr ((slcV ty_api_Decision.sz (upV r0_0 (n + m)) (k + m) (n + m))) 4 z z z (by kernel_rfl) (fun w hst => x_slice (lo := ((k + m) : Nat)) (hi := ((n + m) : Nat)) underlying65 hs z hs2 (by omega) (by omega) (by omega) .i64 .i64 (.inl z) (.inr ⟨z, z⟩)) (wsr ((upV r0_0 (n + m))) 5 z z z (by kernel_rfl) (fun w hst => z) (wsr (.int .i64 (k : Int)) 6 z z z (by kernel_rfl) (fun w hst => z) (wsr ((slcV ty_api_Decision.sz (upV r0_0 (n + m)) k (n + m))) 7 z z z (by kernel_rfl) (fun w hst => x_slice (lo := (k : Nat)) (hi := ((n + m) : Nat)) underlying65 hs z hs2 (by omega) (by omega) (by omega) .i64 .i64 (.inl z) (.inr ⟨z, z⟩)) ?_)))))))
 refine ws_e1 8 (by kernel_rfl) ?_
 refine nxe [] (by kernel_rfl) z z ?_
 clear hst
 intro w hst
 obtain ⟨w303, hr304, hst⟩ := run_copyRows (P := prog) (t2 := 65) (ty := 3) underlying65 hs hst (hst.row_part (l := k) (h := n + m) (by omega) (by rw [List.length_append]; omega)) (k + m) (n - k) (N := n + m) (by first | omega | (simp only [List.length_append, List.length_take, List.length_drop]; omega)) (by first | omega | (simp only [List.length_append, List.length_take, List.length_drop]; omega)) (by omega) (by first | omega | (simp only [List.length_append, List.length_take, List.length_drop]; omega)) (by rw [stay_src hn hm' hk hel]; exact ones_drop hoc _)
 refine we_run (v := .int .i64 ((n - k) : Nat)) (w' := w303) z (x_copy z z hr304) ?_
 refine ws_next (pend' := []) hst (by kernel_rfl) pk_nil ?_
 refine ws_nil ?_
 intro w hst
 refine tn (wp_seq (wrl (wv ((upV r0_0 (n + m))) z z z (wv (.int .i64 (k : Int)) z z z (wv ((slcV ty_api_Decision.sz (upV r0_0 (n + m)) k (n + m))) z z (x_slice (lo := (k : Nat)) (hi := ((n + m) : Nat)) underlying65 hs z hs2 (by omega) (by omega) (by omega) .i64 .i64 (.inl z) (.inr ⟨z, z⟩)) (wv (r2_0) z z z ?_))))))
 obtain ⟨w305, hr306, hst⟩ := run_copyRows (P := prog) (t2 := 65) (ty := 3) underlying65 hs hst hst.pull1 k m (N := n + m) (by first | omega | (simp only [List.length_append, List.length_take, List.length_drop]; omega)) (by first | omega | (simp only [List.length_append, List.length_take, List.length_drop]; omega)) (by omega) (by first | omega | (simp only [List.length_append, List.length_take, List.length_drop]; omega)) (ones_take hoq _)
 refine wl_run (v := .int .i64 (m : Nat)) (w' := w305) z z (x_copy z z hr306) ?_
 refine wl_nil (tn (wp_seq (wrl (wv ((upV r0_0 (n + m))) z z z (wv ((upV r0_0 (n + m))) z z z (wl_nil (tn (wp_ret (then_r ?_)))))))))
 refine post_ret (vs := [(upV r0_0 (n + m))]) results127 (rvs_cons (rv_tmp z) rvs_nil) ?_
 rw [stay_rows hn hm' hk hel] at hst
 exact ⟨_, z, (hst.own_close ((hr.take k).app (hq.app (hr.drop k)))).keep1⟩
}
}
}
}

theorem lane_State_decide_ref {w0 w : World} {I : HL} {R : SP} {a0 : (Option lane_State)} {p0 : Value} {a1 : Int} {a2 : api_Command} {r2_0 : Value} {r2_1 : Value} {r2_2 : Value} {r2_3 : Value} {r2_4 : Value} {r2_5 : Value} {r2_6 : Value} {r2_7 : Value} (f2_0 : Ro tyF64 I r2_0 a2.Hold.Gets) (f2_1 : Ro tyF2 I r2_1 a2.Hold.Scans) (f2_2 : Ro tyF64 I r2_2 a2.Hold.Puts) (f2_3 : Ro (tyInt .u8) I r2_3 a2.Hold.Data) (f2_4 : Ro ty_api_Write I r2_4 a2.Writes) (f2_5 : Ro ty_api_Got I r2_5 a2.R.Gots) (f2_6 : Ro (tySl ty_api_Pair) I r2_6 a2.R.Scans) (f2_7 : Ro ty_api_Part I r2_7 a2.Parts) (hst : St w0 w I [objO at_lane_State p0 a0] R) {r : (api_Effect × (Option lane_State))} (hm : lane_State_decide a0 a1 a2 = some r) :
  Calls prog 50 #[p0, U6 a1, .agg #[U1 a2.Kind, U6 a2.ID.Session, U6 a2.ID.Seq, U6 a2.Epoch, U6 a2.Index, I6 a2.E, U6 a2.Hold.ID.Session, U6 a2.Hold.ID.Seq, U6 a2.Hold.Epoch, r2_0, r2_1, r2_2, r2_3, r2_4, I6 a2.R.E, U6 a2.R.Epoch, U6 a2.R.Index, r2_5, r2_6, U6 a2.Shards, r2_7, U6 a2.Rule.ID, I6 a2.Rule.From, I6 a2.Rule.To, F6 a2.Rule.Lo, F6 a2.Rule.Hi, U6 a2.Rule.Authority, I6 a2.Rule.Quota, .bool a2.On]] w fun e w' => ∃ (I' : HL) (q0_0 : Value) (q0_1 : Value), e = .returned (.agg #[U1 r.1.Kind, U6 r.1.ID.Session, U6 r.1.ID.Seq, I6 r.1.R.E, U6 r.1.R.Epoch, U6 r.1.R.Index, q0_0, q0_1]) ∧ I.le I' ∧ Ro ty_api_Got I' q0_0 r.1.R.Gots ∧ Ro (tySl ty_api_Pair) I' q0_1 r.1.R.Scans ∧ St w0 w' I' [objO at_lane_State p0 r.2] R := by {
 rcases a0 with _ | o0
 {
 obtain ⟨rfl, hst'⟩ := objO_none hst
 clear hst
 have hst := hst'
 clear hst'
 dsimp only [lane_State_decide] at hm
 refine calls_start (args := [.pointer none, U6 a1, .agg #[U1 a2.Kind, U6 a2.ID.Session, U6 a2.ID.Seq, U6 a2.Epoch, U6 a2.Index, I6 a2.E, U6 a2.Hold.ID.Session, U6 a2.Hold.ID.Seq, U6 a2.Hold.Epoch, r2_0, r2_1, r2_2, r2_3, r2_4, I6 a2.R.E, U6 a2.R.Epoch, U6 a2.R.Index, r2_5, r2_6, U6 a2.Shards, r2_7, U6 a2.Rule.ID, I6 a2.Rule.From, I6 a2.Rule.To, F6 a2.Rule.Lo, F6 a2.Rule.Hi, U6 a2.Rule.Authority, I6 a2.Rule.Quota, .bool a2.On]]) func50 z ntmps50 (Nat.le_of_ble_eq_true z) ?_
 have hI0 := HL.le.refl I
 refine wp_seq (wrl ?_)
 obtain ⟨b566, w567, ew568, eb569, hst⟩ := hst.box [U1 a2.Kind, U6 a2.ID.Session, U6 a2.ID.Seq, U6 a2.Epoch, U6 a2.Index, I6 a2.E, U6 a2.Hold.ID.Session, U6 a2.Hold.ID.Seq, U6 a2.Hold.Epoch, r2_0, r2_1, r2_2, r2_3, r2_4, I6 a2.R.E, U6 a2.R.Epoch, U6 a2.R.Index, r2_5, r2_6, U6 a2.Shards, r2_7, U6 a2.Rule.ID, I6 a2.Rule.From, I6 a2.Rule.To, F6 a2.Rule.Lo, F6 a2.Rule.Hi, U6 a2.Rule.Authority, I6 a2.Rule.Quota, .bool a2.On] 49
 refine wl_run (v := Pt b566 0) (w' := w567) z z (x_al (by kernel_rfl) ew568 eb569) ?_
 obtain ⟨b573, w574, ew575, eb576, hst⟩ := hst.box [Zb, Zu, Zu, Zi, Zu, Zu, Zs, Zs] 35
 refine wl_run (v := Pt b573 0) (w' := w574) z z (x_al (by kernel_rfl) ew575 eb576) ?_
 refine wl_nil (tn (wp_seq (wrl (wv (Pt b566 14) z z (x_field z underlying49 z sizeOf33 z) (wv (.agg #[I6 a2.R.E, U6 a2.R.Epoch, U6 a2.R.Index, r2_5, r2_6]) z z (x_loadN (cs := [I6 a2.R.E, U6 a2.R.Epoch, U6 a2.R.Index, r2_5, r2_6]) z isAgg33 sizeOf33 (hst.bcs1 14 z)) ?_)))))
 obtain ⟨b580, w581, ew582, eb583, hst⟩ := hst.box [Zi, Zu, Zu, Zs, Zs] 33
 refine wl_run (v := Pt b580 0) (w' := w581) z z (x_al (by kernel_rfl) ew582 eb583) ?_
 obtain ⟨w585, hr586, hst⟩ := hst.bx [I6 a2.R.E, U6 a2.R.Epoch, U6 a2.R.Index, r2_5, r2_6] sizeOf33 z (oC z (oC z (oC z (oC (one_of_sliceV (ro_sliceV f2_5)) (oC (one_of_sliceV (ro_sliceV f2_6)) oN))))) (by kernel_rfl)
 refine wl_unit z z (x_unit hr586) ?_
 refine wl_nil (tn (wp_seq (wrl (wv (Pt b566 3) z z (x_field z underlying49 z sizeOf26 z) (wv (.int .u64 a2.Epoch) z z (x_load z isAgg26 (hst.bc2 z)) (wv (.int .u64 a1) z z z (wv (Pt b580 1) z z (x_field z underlying33 z sizeOf26 z) ?_)))))))
 obtain ⟨w587, hr588, hst⟩ := hst.by_ [I6 a2.R.E, U6 a2.Epoch, U6 a2.R.Index, r2_5, r2_6] 1 (.int .u64 a2.Epoch) sizeOf26 z (oC z oN) (by kernel_rfl)
 refine wl_unit z z (x_unit hr588) ?_
 refine wv (Pt b580 2) z z (x_field z underlying33 z sizeOf26 z) ?_
 obtain ⟨w589, hr590, hst⟩ := hst.by_ [I6 a2.R.E, U6 a2.Epoch, U6 a1, r2_5, r2_6] 2 (.int .u64 a1) sizeOf26 z (oC z oN) (by kernel_rfl)
 refine wl_unit z z (x_unit hr590) ?_
 refine wl_nil (tn (wp_seq (wp_seq ?_)))
 refine wq_regionS hst Tryz.mixed (by kernel_rfl) ?_
 refine wq_run (v := Pt b580 0) z z (fun w hst => x_field z underlying33 z sizeOf29 z) ?_
 refine wq_run (v := .int .i64 a2.R.E) z z (fun w hst => x_load z isAgg29 (hst.bc0 z)) ?_
 refine wq_run (v := .bool (a2.R.E == (0:Int))) z z (fun w hst => z) ?_
 refine wq_run (v := .bool (a2.R.E == (0:Int))) z z (fun w hst => z) ?_
 refine bsplit (a2.R.E == (0:Int)) (fun hc591 => ?_) (fun hc591 => ?_)
 {
 replace hm := bif_t hc591 hm
 refine wq_run (v := Pt b566 3) ((wanted_eq z z z (cvb hc591)).trans z) z (fun w hst => x_field z underlying49 z sizeOf26 z) ?_
 refine wq_run (v := .int .u64 a2.Epoch) ((wanted_eq z z z (cvb hc591)).trans z) z (fun w hst => x_load z isAgg26 (hst.bc2 z)) ?_
 refine wq_run (v := .pointer none) ((wanted_eq z z z (cvb hc591)).trans z) z (fun w hst => z) ?_
 cases hm
}
 {
 replace hm := bif_f hc591 hm
 refine wq_off ((wanted_eq z z z (cvb hc591)).trans z) z ?_
 refine wq_off ((wanted_eq z z z (cvb hc591)).trans z) z ?_
 refine wq_off ((wanted_eq z z z (cvb hc591)).trans z) z ?_
 refine wq_off ((wanted_eq z z z (cvb hc591)).trans z) z ?_
 refine wq_off ((wanted_eq z z z (cvb hc591)).trans z) z ?_
 refine wq_off ((wanted_eq z z z (cvb hc591)).trans z) z ?_
 refine wq_off ((wanted_eq z z z (cvb hc591)).trans z) z ?_
 refine wq_run (v := .bool false) z z (fun w hst => x_pick_f hc591 z z) ?_
 refine wq_nil ?_
 intro w hst
 refine tn ?_
 refine wp_iff z ?_
 refine wp_skip (tn ?_)
 obtain ⟨y600, hm, hx601⟩ := joinO_some hm
 refine wp_cut (fun a w => ∃ (σ598 : Nat → Value), (lane_State_decide_j0) () = some r ∧ a = Fr 103 (upd (upd (upd (upd (upd σ598 0 (.pointer none)) 1 (.int .u64 a1)) 5 (Pt b566 0)) 6 (Pt b573 0)) 7 (Pt b580 0)) ∧ St w0 w I [cells b566 [U1 a2.Kind, U6 a2.ID.Session, U6 a2.ID.Seq, U6 a2.Epoch, U6 a2.Index, I6 a2.E, U6 a2.Hold.ID.Session, U6 a2.Hold.ID.Seq, U6 a2.Hold.Epoch, r2_0, r2_1, r2_2, r2_3, r2_4, I6 a2.R.E, U6 a2.R.Epoch, U6 a2.R.Index, r2_5, r2_6, U6 a2.Shards, r2_7, U6 a2.Rule.ID, I6 a2.Rule.From, I6 a2.Rule.To, F6 a2.Rule.Lo, F6 a2.Rule.Hi, U6 a2.Rule.Authority, I6 a2.Rule.Quota, .bool a2.On], cells b573 [Zb, Zu, Zu, Zi, Zu, Zu, Zs, Zs], cells b580 [I6 a2.R.E, U6 a2.Epoch, U6 a1, r2_5, r2_6]] R) ?_ ?_
 {
 refine wp_seq (wrl (wv (Pt b580 0) z z (x_field z underlying33 z sizeOf29 z) (wv (.int .i64 a2.R.E) z z (x_load z isAgg29 (hst.bc0 z)) (wv (.bool (a2.R.E != (0:Int))) z z z (wv (.bool (a2.R.E != (0:Int))) z z z ?_)))))
 refine bsplit (a2.R.E != (0:Int)) (fun hc592 => ?_) (fun hc592 => ?_)
 {
 replace hm := bif_t hc592 hm
 refine wv (Pt b566 1) ((wanted_eq z z z (cvb hc592)).trans z) z (x_field z underlying49 z sizeOf28 z) (wv (Pt b566 1) ((wanted_eq z z z (cvb hc592)).trans z) z (x_field z underlying28 z sizeOf26 z) (wv (.int .u64 a2.ID.Session) ((wanted_eq z z z (cvb hc592)).trans z) z (x_load z isAgg26 (hst.bc2 z)) (wv (.bool (decide (a2.ID.Session ≥ (9223372036854775808:Int)))) ((wanted_eq z z z (cvb hc592)).trans z) z z (wv (.bool (decide (a2.ID.Session ≥ (9223372036854775808:Int)))) z z (x_pick_t hc592 z z) (wl_nil (tn ?_))))))
 refine bsplit (decide (a2.ID.Session ≥ (9223372036854775808:Int))) (fun hc593 => ?_) (fun hc593 => ?_)
 {
 replace hm := bif_t hc593 hm
 refine wp_ift (cvb hc593) ?_
 refine wp_seq (wrl (wv (.agg #[Zb, Zu, Zu, Zi, Zu, Zu, Zs, Zs]) z z (by kernel_rfl) ?_))
 replace hst := hst.pull1
 obtain ⟨w596, hr597, hst⟩ := hst.bx [Zb, Zu, Zu, Zi, Zu, Zu, Zs, Zs] sizeOf35 z (oC z (oC z (oC z (oC z (oC z (oC z (oC z (oC z oN)))))))) (by kernel_rfl)
 refine wl_unit z z (x_unit hr597) ?_
 refine wl_nil (tn (wp_ret (then_r ?_)))
 replace hm := inr_up hm hx601
 have f598 : Ro ty_api_Got I (.slice none 0 0) [] := ro_nil
 have f599 : Ro (tySl ty_api_Pair) I (.slice none 0 0) [] := ro_nil
 replace hst := hst.objO_nil at_lane_State
 obtain rfl := some_inj hm
 refine post_ret (vs := [.agg #[Zb, Zu, Zu, Zi, Zu, Zu, Zs, Zs]]) results50 (rvs_cons (rv_cell (cs := [Zb, Zu, Zu, Zi, Zu, Zu, Zs, Zs]) z isAgg35 sizeOf35 (hst.bcs1 0 z)) rvs_nil) ?_
 exact ⟨_, Zs, Zs, z, hI0, f598, f599, hst.keep1⟩
}
 {
 replace hm := bif_f hc593 hm
 refine wp_iff (cvb hc593) ?_
 refine wp_skip (tn ?_)
 replace hst := hst.pull1.pull2.keep3
 obtain rfl := some_inj hm
 exact ⟨_, hx601, (fu 0 (.pointer none) z (fu 1 (.int .u64 a1) z (fu 5 (Pt b566 0) z (fu 6 (Pt b573 0) z (fu 7 (Pt b580 0) z z))))), hst⟩
}
}
 {
 replace hm := bif_f hc592 hm
 refine wo hc592 z z z z z z (wo hc592 z z z z z z (wo hc592 z z z z z z (wo hc592 z z z z z z (wv (.bool false) z z (x_pick_f hc592 z z) (wl_nil (tn ?_))))))
 refine wp_iff z ?_
 refine wp_skip (tn ?_)
 replace hst := hst.pull1.pull2.keep3
 obtain rfl := some_inj hm
 exact ⟨_, hx601, (fu 0 (.pointer none) z (fu 1 (.int .u64 a1) z (fu 5 (Pt b566 0) z (fu 6 (Pt b573 0) z (fu 7 (Pt b580 0) z z))))), hst⟩
}
}
 {
 clear hst
 rintro _ w602 ⟨σ598, hm, rfl, hst⟩
 dsimp only [lane_State_decide_j0] at hm
 refine wp_seq (wp_seq ?_)
 refine wp_region_St hst 13 [0, 1, 2, 3, 4, 5, 6, 7, 8, 9, 10, 11, 12] [0, 1, 3, 7, 0, 16, 48, 0, 128, 384, 0, 2047, 4095] [] z (by kernel_rfl) (by kernel_rfl) Tryz.mixed (by kernel_rfl) ?_
 refine wsr (.pointer none) 0 z z z (by kernel_rfl) (fun w hst => z) ?_
 cases hm
}
}
}
 {
 replace hst := objO_get hst
 dsimp only [lane_State_decide] at hm
 refine calls_start (args := [p0, U6 a1, .agg #[U1 a2.Kind, U6 a2.ID.Session, U6 a2.ID.Seq, U6 a2.Epoch, U6 a2.Index, I6 a2.E, U6 a2.Hold.ID.Session, U6 a2.Hold.ID.Seq, U6 a2.Hold.Epoch, r2_0, r2_1, r2_2, r2_3, r2_4, I6 a2.R.E, U6 a2.R.Epoch, U6 a2.R.Index, r2_5, r2_6, U6 a2.Shards, r2_7, U6 a2.Rule.ID, I6 a2.Rule.From, I6 a2.Rule.To, F6 a2.Rule.Lo, F6 a2.Rule.Hi, U6 a2.Rule.Authority, I6 a2.Rule.Quota, .bool a2.On]]) func50 z ntmps50 (Nat.le_of_ble_eq_true z) ?_
 have hI0 := HL.le.refl I
 refine wp_seq (wrl ?_)
 obtain ⟨b603, w604, ew605, eb606, hst⟩ := hst.box [U1 a2.Kind, U6 a2.ID.Session, U6 a2.ID.Seq, U6 a2.Epoch, U6 a2.Index, I6 a2.E, U6 a2.Hold.ID.Session, U6 a2.Hold.ID.Seq, U6 a2.Hold.Epoch, r2_0, r2_1, r2_2, r2_3, r2_4, I6 a2.R.E, U6 a2.R.Epoch, U6 a2.R.Index, r2_5, r2_6, U6 a2.Shards, r2_7, U6 a2.Rule.ID, I6 a2.Rule.From, I6 a2.Rule.To, F6 a2.Rule.Lo, F6 a2.Rule.Hi, U6 a2.Rule.Authority, I6 a2.Rule.Quota, .bool a2.On] 49
 refine wl_run (v := Pt b603 0) (w' := w604) z z (x_al (by kernel_rfl) ew605 eb606) ?_
 obtain ⟨b610, w611, ew612, eb613, hst⟩ := hst.box [Zb, Zu, Zu, Zi, Zu, Zu, Zs, Zs] 35
 refine wl_run (v := Pt b610 0) (w' := w611) z z (x_al (by kernel_rfl) ew612 eb613) ?_
 refine wl_nil (tn (wp_seq (wrl (wv (Pt b603 14) z z (x_field z underlying49 z sizeOf33 z) (wv (.agg #[I6 a2.R.E, U6 a2.R.Epoch, U6 a2.R.Index, r2_5, r2_6]) z z (x_loadN (cs := [I6 a2.R.E, U6 a2.R.Epoch, U6 a2.R.Index, r2_5, r2_6]) z isAgg33 sizeOf33 (hst.bcs1 14 z)) ?_)))))
 obtain ⟨b617, w618, ew619, eb620, hst⟩ := hst.box [Zi, Zu, Zu, Zs, Zs] 33
 refine wl_run (v := Pt b617 0) (w' := w618) z z (x_al (by kernel_rfl) ew619 eb620) ?_
 obtain ⟨w622, hr623, hst⟩ := hst.bx [I6 a2.R.E, U6 a2.R.Epoch, U6 a2.R.Index, r2_5, r2_6] sizeOf33 z (oC z (oC z (oC z (oC (one_of_sliceV (ro_sliceV f2_5)) (oC (one_of_sliceV (ro_sliceV f2_6)) oN))))) (by kernel_rfl)
 refine wl_unit z z (x_unit hr623) ?_
 refine wl_nil (tn (wp_seq (wrl (wv (Pt b603 3) z z (x_field z underlying49 z sizeOf26 z) (wv (.int .u64 a2.Epoch) z z (x_load z isAgg26 (hst.bc2 z)) (wv (.int .u64 a1) z z z (wv (Pt b617 1) z z (x_field z underlying33 z sizeOf26 z) ?_)))))))
 obtain ⟨w624, hr625, hst⟩ := hst.by_ [I6 a2.R.E, U6 a2.Epoch, U6 a2.R.Index, r2_5, r2_6] 1 (.int .u64 a2.Epoch) sizeOf26 z (oC z oN) (by kernel_rfl)
 refine wl_unit z z (x_unit hr625) ?_
 refine wv (Pt b617 2) z z (x_field z underlying33 z sizeOf26 z) ?_
 obtain ⟨w626, hr627, hst⟩ := hst.by_ [I6 a2.R.E, U6 a2.Epoch, U6 a1, r2_5, r2_6] 2 (.int .u64 a1) sizeOf26 z (oC z oN) (by kernel_rfl)
 refine wl_unit z z (x_unit hr627) ?_
 refine wl_nil (tn (wp_seq (wp_seq ?_)))
 replace hst := hst.pull3
 obtain ⟨b628, v629, v631, v633, v635, v637, v639, v641, rfl, hst'⟩ := at_lane_State_open hst
 clear hst
 have hst := hst'
 clear hst'
 refine wq_regionS hst Tryz.mixed (by kernel_rfl) ?_
 refine wq_run (v := Pt b617 0) z z (fun w hst => x_field z underlying33 z sizeOf29 z) ?_
 refine wq_run (v := .int .i64 a2.R.E) z z (fun w hst => x_load z isAgg29 (hst.bc8 z)) ?_
 refine wq_run (v := .bool (a2.R.E == (0:Int))) z z (fun w hst => z) ?_
 refine wq_run (v := .bool (a2.R.E == (0:Int))) z z (fun w hst => z) ?_
 refine bsplit (a2.R.E == (0:Int)) (fun hc643 => ?_) (fun hc643 => ?_)
 {
 replace hm := bif_t hc643 hm
 refine wq_run (v := Pt b603 3) ((wanted_eq z z z (cvb hc643)).trans z) z (fun w hst => x_field z underlying49 z sizeOf26 z) ?_
 refine wq_run (v := .int .u64 a2.Epoch) ((wanted_eq z z z (cvb hc643)).trans z) z (fun w hst => x_load z isAgg26 (hst.bc10 z)) ?_
 refine wq_run (v := Pt b628 0) ((wanted_eq z z z (cvb hc643)).trans z) z (fun w hst => z) ?_
 refine wq_run (v := Pt b628 0) ((wanted_eq z z z (cvb hc643)).trans z) z (fun w hst => z) ?_
 refine wq_run (v := Pt b628 1) ((wanted_eq z z z (cvb hc643)).trans z) z (fun w hst => x_field z underlying111 z sizeOf26 z) ?_
 refine wq_run (v := .int .u64 o0.epoch) ((wanted_eq z z z (cvb hc643)).trans z) z (fun w hst => x_load z isAgg26 (hst.bc0 z)) ?_
 refine wq_run (v := .bool (a2.Epoch != o0.epoch)) ((wanted_eq z z z (cvb hc643)).trans z) z (fun w hst => z) ?_
 refine wq_run (v := .bool (a2.Epoch != o0.epoch)) z z (fun w hst => x_pick_t hc643 z z) ?_
 refine wq_nil ?_
 intro w hst
 refine tn ?_
 refine bsplit (a2.Epoch != o0.epoch) (fun hc644 => ?_) (fun hc644 => ?_)
 {
 replace hm := bif_t hc644 hm
 refine wp_ift (cvb hc644) ?_
 refine wrl (wv (Pt b603 3) z z (x_field z underlying49 z sizeOf26 z) (wv (.int .u64 a2.Epoch) z z (x_load z isAgg26 (hst.bc10 z)) (wv (.int .u64 a1) z z z (wv (.agg #[I6 (9:Int), U6 a2.Epoch, U6 a1, Zs, Zs]) z z (by kernel_rfl) ?_))))
 replace hst := hst.pull8
 obtain ⟨w647, hr648, hst⟩ := hst.bx [I6 (9:Int), U6 a2.Epoch, U6 a1, Zs, Zs] sizeOf33 z (oC z (oC z (oC z (oC z (oC z oN))))) (by kernel_rfl)
 refine wl_unit z z (x_unit hr648) ?_
 refine wl_nil (tn ?_)
 obtain ⟨y657, hm, hx658⟩ := joinO_some hm
 refine wp_cut (fun a w => ∃ (σ655 : Nat → Value), (lane_State_decide_j1 o0 a2 a1) () = some r ∧ a = Fr 103 (upd (upd (upd (upd (upd σ655 0 (Pt b628 0)) 1 (.int .u64 a1)) 5 (Pt b603 0)) 6 (Pt b610 0)) 7 (Pt b617 0)) ∧ St w0 w I [at_lane_State (Pt b628 0) o0, cells b603 [U1 a2.Kind, U6 a2.ID.Session, U6 a2.ID.Seq, U6 a2.Epoch, U6 a2.Index, I6 a2.E, U6 a2.Hold.ID.Session, U6 a2.Hold.ID.Seq, U6 a2.Hold.Epoch, r2_0, r2_1, r2_2, r2_3, r2_4, I6 a2.R.E, U6 a2.R.Epoch, U6 a2.R.Index, r2_5, r2_6, U6 a2.Shards, r2_7, U6 a2.Rule.ID, I6 a2.Rule.From, I6 a2.Rule.To, F6 a2.Rule.Lo, F6 a2.Rule.Hi, U6 a2.Rule.Authority, I6 a2.Rule.Quota, .bool a2.On], cells b610 [Zb, Zu, Zu, Zi, Zu, Zu, Zs, Zs], cells b617 [I6 (9:Int), U6 a2.Epoch, U6 a1, Zs, Zs]] R) ?_ ?_
 {
 refine wp_seq (wrl (wv (Pt b617 0) z z (x_field z underlying33 z sizeOf29 z) (wv (.int .i64 (9:Int)) z z (x_load z isAgg29 (hst.bc0 z)) (wv (.bool ((9:Int) != (0:Int))) z z z (wv (.bool ((9:Int) != (0:Int))) z z z ?_)))))
 refine bsplit ((9:Int) != (0:Int)) (fun hc649 => ?_) (fun hc649 => ?_)
 {
 replace hm := bif_t hc649 hm
 refine wv (Pt b603 1) ((wanted_eq z z z (cvb hc649)).trans z) z (x_field z underlying49 z sizeOf28 z) (wv (Pt b603 1) ((wanted_eq z z z (cvb hc649)).trans z) z (x_field z underlying28 z sizeOf26 z) (wv (.int .u64 a2.ID.Session) ((wanted_eq z z z (cvb hc649)).trans z) z (x_load z isAgg26 (hst.bc10 z)) (wv (.bool (decide (a2.ID.Session ≥ (9223372036854775808:Int)))) ((wanted_eq z z z (cvb hc649)).trans z) z z (wv (.bool (decide (a2.ID.Session ≥ (9223372036854775808:Int)))) z z (x_pick_t hc649 z z) (wl_nil (tn ?_))))))
 refine bsplit (decide (a2.ID.Session ≥ (9223372036854775808:Int))) (fun hc650 => ?_) (fun hc650 => ?_)
 {
 replace hm := bif_t hc650 hm
 refine wp_ift (cvb hc650) ?_
 refine wp_seq (wrl (wv (.agg #[Zb, Zu, Zu, Zi, Zu, Zu, Zs, Zs]) z z (by kernel_rfl) ?_))
 replace hst := hst.pull9
 obtain ⟨w653, hr654, hst⟩ := hst.bx [Zb, Zu, Zu, Zi, Zu, Zu, Zs, Zs] sizeOf35 z (oC z (oC z (oC z (oC z (oC z (oC z (oC z (oC z oN)))))))) (by kernel_rfl)
 refine wl_unit z z (x_unit hr654) ?_
 refine wl_nil (tn (wp_ret (then_r ?_)))
 replace hm := inr_up hm hx658
 have f655 : Ro ty_api_Got I (.slice none 0 0) [] := ro_nil
 have f656 : Ro (tySl ty_api_Pair) I (.slice none 0 0) [] := ro_nil
 replace hst := hst.pull9.pull9.pull9.pull9.pull9.pull9.pull9.pull9
 replace hst := at_lane_State_close (pv := Pt b628 0) (x := o0) hst z
 replace hst := objO_some hst
 obtain rfl := some_inj hm
 refine post_ret (vs := [.agg #[Zb, Zu, Zu, Zi, Zu, Zu, Zs, Zs]]) results50 (rvs_cons (rv_cell (cs := [Zb, Zu, Zu, Zi, Zu, Zu, Zs, Zs]) z isAgg35 sizeOf35 (hst.bcs1 0 z)) rvs_nil) ?_
 exact ⟨_, Zs, Zs, z, hI0, f655, f656, hst.keep1⟩
}
 {
 replace hm := bif_f hc650 hm
 refine wp_iff (cvb hc650) ?_
 refine wp_skip (tn ?_)
 replace hst := hst.pull8.pull8.pull8.pull8.pull8.pull8.pull8.pull8
 replace hst := at_lane_State_close (pv := Pt b628 0) (x := o0) hst z
 replace hst := hst.pull1.pull2.pull3.pull3.keep4
 obtain rfl := some_inj hm
 exact ⟨_, hx658, (fu 0 (Pt b628 0) z (fu 1 (.int .u64 a1) z (fu 5 (Pt b603 0) z (fu 6 (Pt b610 0) z (fu 7 (Pt b617 0) z z))))), hst⟩
}
}
 {
 replace hm := bif_f hc649 hm
 refine wo hc649 z z z z z z (wo hc649 z z z z z z (wo hc649 z z z z z z (wo hc649 z z z z z z (wv (.bool false) z z (x_pick_f hc649 z z) (wl_nil (tn ?_))))))
 refine wp_iff z ?_
 refine wp_skip (tn ?_)
 replace hst := hst.pull8.pull8.pull8.pull8.pull8.pull8.pull8.pull8
 replace hst := at_lane_State_close (pv := Pt b628 0) (x := o0) hst z
 replace hst := hst.pull1.pull2.pull3.pull3.keep4
 obtain rfl := some_inj hm
 exact ⟨_, hx658, (fu 0 (Pt b628 0) z (fu 1 (.int .u64 a1) z (fu 5 (Pt b603 0) z (fu 6 (Pt b610 0) z (fu 7 (Pt b617 0) z z))))), hst⟩
}
}
 {
 clear hst
 rintro _ w659 ⟨σ655, hm, rfl, hst⟩
 dsimp only [lane_State_decide_j1] at hm
 refine wp_seq (wp_seq ?_)
 obtain ⟨b660, v661, v663, v665, v667, v669, v671, v673, e675, hst'⟩ := at_lane_State_open hst
 clear hst
 have e675 := ptr_inj e675
 subst e675
 have hst := hst'
 clear hst'
 refine wp_region_St hst 13 [0, 1, 2, 3, 4, 5, 6, 7, 8, 9, 10, 11, 12] [0, 1, 3, 7, 0, 16, 48, 0, 128, 384, 0, 2047, 4095] [] z (by kernel_rfl) (by kernel_rfl) Tryz.mixed (by kernel_rfl) ?_
 refine wsr (Pt b628 0) 0 z z z (by kernel_rfl) (fun w hst => z) (wsr (Pt b628 0) 1 z z z (by kernel_rfl) (fun w hst => z) (wsr (Pt b628 4) 2 z z z (by kernel_rfl) (fun w hst => x_field z underlying111 z sizeOf105 z) (wsr (v665) 3 z z z (by kernel_rfl) (fun w hst => x_load z isAgg105 (hst.bc0 z)) (wsr (Pt b603 1) 4 z z z (by kernel_rfl) (fun w hst => x_field z underlying49 z sizeOf28 z) (wsr (Pt b603 1) 5 z z z (by kernel_rfl) (fun w hst => x_field z underlying28 z sizeOf26 z) (wsr (.int .u64 a2.ID.Session) 6 z z z (by kernel_rfl) (fun w hst => x_load z isAgg26 (hst.bc8 z)) (wsr (Pt b603 1) 7 z z z (by kernel_rfl) (fun w hst => x_field z underlying49 z sizeOf28 z) (wsr (Pt b603 2) 8 z z z (by kernel_rfl) (fun w hst => x_field z underlying28 z sizeOf26 z) (wsr (.int .u64 a2.ID.Seq) 9 z z z (by kernel_rfl) (fun w hst => x_load z isAgg26 (hst.bc8 z)) (wsr (.agg #[I6 (9:Int), U6 a2.Epoch, U6 a1, Zs, Zs]) 10 z z z (by kernel_rfl) (fun w hst => x_loadN (cs := [I6 (9:Int), U6 a2.Epoch, U6 a1, Zs, Zs]) z isAgg33 sizeOf33 (hst.bcs10 0 z)) ?_))))))))))
 refine ws_e1 11 (by kernel_rfl) ?_
 refine nxe [12] (by kernel_rfl) z z ?_
 clear hst
 intro w hst
 have f676 : Ro ty_api_Got I (.slice none 0 0) [] := ro_nil
 have f677 : Ro (tySl ty_api_Pair) I (.slice none 0 0) [] := ro_nil
 replace hst := hst.pull3
 obtain ⟨t678, ht679, hm⟩ := bind_some hm
 refine wec call124 [v665, U6 a2.ID.Session, U6 a2.ID.Seq, .agg #[I6 (9:Int), U6 a2.Epoch, U6 a1, Zs, Zs]] z z ?_
 refine (session_Table_Put_ref (a3 := ({ E := (9:Int), Epoch := a2.Epoch, Index := a1, Gots := [], Scans := [] } : api_Reply)) f676 f677 hst.to1 ht679).mono ?_
 rintro _ w680 ⟨rfl, hst⟩
 refine ⟨_, z, ?_⟩
 replace hst := hst.of1
 refine ws_next (pend' := []) hst (by kernel_rfl) pk_nil ?_
 refine wsr (.bool (t678.1 != (0:Int))) 12 z z z (by kernel_rfl) (fun w hst => z) ?_
 refine ws_nil ?_
 intro w hst
 refine tn ?_
 refine bsplit (t678.1 != (0:Int)) (fun hc683 => ?_) (fun hc683 => ?_)
 {
 replace hm := bif_t hc683 hm
 refine wp_ift (cvb hc683) ?_
 refine wp_seq (wrl (wv (Pt b628 0) z z z (wv (Pt b603 1) z z (x_field z underlying49 z sizeOf28 z) (wv (.agg #[U6 a2.ID.Session, U6 a2.ID.Seq]) z z (x_loadN (cs := [U6 a2.ID.Session, U6 a2.ID.Seq]) z isAgg28 sizeOf28 (hst.bcs8 1 z)) ?_))))
 replace hst := hst.pull7.pull7.pull7.pull7.pull4.pull7.pull7.pull7
 replace hst := at_lane_State_close (pv := Pt b628 0) (x := ({ wide := o0.wide, epoch := o0.epoch, store := o0.store, locks := o0.locks, last := t678.2, book := o0.book, open_ := o0.open_, out := o0.out, used := o0.used } : lane_State)) hst z
 replace hst := objO_some hst
 obtain ⟨t684, ht685, hm⟩ := bind_some hm
 refine wc call125 [Pt b628 0, .agg #[U6 a2.ID.Session, U6 a2.ID.Seq]] z z z ?_
 refine (lane_State_late_ref hst.to1 ht685).mono ?_
 rintro _ w686 ⟨v689, v691, rfl, hst⟩
 refine ⟨_, z, ?_⟩
 replace hst := hst.of3.pull2
 replace hst := objO_get hst
 replace hst := hst.pull4
 obtain ⟨w693, hr694, hst⟩ := hst.bx [U1 t684.Kind, U6 t684.ID.Session, U6 t684.ID.Seq, I6 t684.R.E, U6 t684.R.Epoch, U6 t684.R.Index, v689, v691] sizeOf35 z (oC z (oC z (oC z (oC z (oC z (oC z (oC (one_of_sliceV hst.sv2) (oC (one_of_sliceV hst.sv3) oN)))))))) (by kernel_rfl)
 refine wl_unit z z (x_unit hr694) ?_
 refine wl_nil (tn (wp_ret (then_r ?_)))
 replace hst := hst.pull2
 obtain ⟨I695, hI696, f697, hst⟩ := hst.own_fix
 replace f2_0 := f2_0.mono (ro_le hI696)
 replace f2_1 := f2_1.mono (ro_le hI696)
 replace f2_2 := f2_2.mono (ro_le hI696)
 replace f2_3 := f2_3.mono (ro_le hI696)
 replace f2_4 := f2_4.mono (ro_le hI696)
 replace f2_5 := f2_5.mono (ro_le hI696)
 replace f2_6 := f2_6.mono (ro_le hI696)
 replace f2_7 := f2_7.mono (ro_le hI696)
 replace f676 := f676.mono (ro_le hI696)
 replace f677 := f677.mono (ro_le hI696)
 replace hI0 := hI0.trans hI696
 replace hst := hst.pull2
 obtain ⟨I698, hI699, f700, hst⟩ := hst.own_fix
 replace f2_0 := f2_0.mono (ro_le hI699)
 replace f2_1 := f2_1.mono (ro_le hI699)
 replace f2_2 := f2_2.mono (ro_le hI699)
 replace f2_3 := f2_3.mono (ro_le hI699)
 replace f2_4 := f2_4.mono (ro_le hI699)
 replace f2_5 := f2_5.mono (ro_le hI699)
 replace f2_6 := f2_6.mono (ro_le hI699)
 replace f2_7 := f2_7.mono (ro_le hI699)
 replace f676 := f676.mono (ro_le hI699)
 replace f677 := f677.mono (ro_le hI699)
 replace f697 := f697.mono (ro_le hI699)
 replace hI0 := hI0.trans hI699
 replace hst := hst.pull1
 replace hst := objO_some hst
 obtain rfl := some_inj hm
 refine post_ret (vs := [.agg #[U1 t684.Kind, U6 t684.ID.Session, U6 t684.ID.Seq, I6 t684.R.E, U6 t684.R.Epoch, U6 t684.R.Index, v689, v691]]) results50 (rvs_cons (rv_cell (cs := [U1 t684.Kind, U6 t684.ID.Session, U6 t684.ID.Seq, I6 t684.R.E, U6 t684.R.Epoch, U6 t684.R.Index, v689, v691]) z isAgg35 sizeOf35 (hst.bcs1 0 z)) rvs_nil) ?_
 exact ⟨_, v689, v691, z, hI0, f697, f700, hst.keep1⟩
}
 {
 replace hm := bif_f hc683 hm
 refine wp_iff (cvb hc683) ?_
 refine wp_skip (tn ?_)
 obtain ⟨y801, hm, hx802⟩ := bind_some hm
 refine wp_cut (fun a w => ∃ (I798 : HL) (z797 : lane_State) (σ799 : Nat → Value), (lane_State_decide_j2 a2 a1) z797 = some r ∧ a = Fr 103 (upd (upd (upd σ799 5 (Pt b603 0)) 6 (Pt b610 0)) 7 (Pt b617 0)) ∧ I.le I798 ∧ St w0 w I798 [cells b603 [U1 a2.Kind, U6 a2.ID.Session, U6 a2.ID.Seq, U6 a2.Epoch, U6 a2.Index, I6 a2.E, U6 a2.Hold.ID.Session, U6 a2.Hold.ID.Seq, U6 a2.Hold.Epoch, r2_0, r2_1, r2_2, r2_3, r2_4, I6 a2.R.E, U6 a2.R.Epoch, U6 a2.R.Index, r2_5, r2_6, U6 a2.Shards, r2_7, U6 a2.Rule.ID, I6 a2.Rule.From, I6 a2.Rule.To, F6 a2.Rule.Lo, F6 a2.Rule.Hi, U6 a2.Rule.Authority, I6 a2.Rule.Quota, .bool a2.On], cells b610 [Zb, Zu, Zu, Zi, Zu, Zu, Zs, Zs], cells b617 [I6 (9:Int), U6 a2.Epoch, U6 a1, Zs, Zs], at_lane_State (Pt b628 0) z797] R) ?_ ?_
 {
 have hL803 := HL.le.refl I
 refine wp_seq (wrl (wv (Pt b603 19) z z (x_field z underlying49 z sizeOf26 z) (wv (.int .u64 a2.Shards) z z (x_load z isAgg26 (hst.bc8 z)) (wv (.bool (a2.Shards != (0:Int))) z z z (wl_nil (tn ?_))))))
 refine bsplit (a2.Shards != (0:Int)) (fun hc701 => ?_) (fun hc701 => ?_)
 {
 replace hm := bif_t hc701 hm
 refine wp_ift (cvb hc701) ?_
 refine wp_seq (wrl (wv (Pt b603 1) z z (x_field z underlying49 z sizeOf28 z) (wv (.agg #[U6 a2.ID.Session, U6 a2.ID.Seq]) z z (x_loadN (cs := [U6 a2.ID.Session, U6 a2.ID.Seq]) z isAgg28 sizeOf28 (hst.bcs8 1 z)) (wv (Pt b617 0) z z (x_field z underlying33 z sizeOf29 z) (wv (.int .i64 (9:Int)) z z (x_load z isAgg29 (hst.bc10 z)) (wv (Pt b603 3) z z (x_field z underlying49 z sizeOf26 z) (wv (.int .u64 a2.Epoch) z z (x_load z isAgg26 (hst.bc8 z)) (wv (.int .u64 a1) z z z (wv (Pt b603 19) z z (x_field z underlying49 z sizeOf26 z) (wv (.int .u64 a2.Shards) z z (x_load z isAgg26 (hst.bc8 z)) (wv (.agg #[U6 a2.ID.Session, U6 a2.ID.Seq, I6 (9:Int), U6 a2.Epoch, U6 a1, U6 a2.Shards, Zs]) z z (by kernel_rfl) ?_)))))))))))
 obtain ⟨b704, w705, ew706, eb707, hst⟩ := hst.box [Zu, Zu, Zi, Zu, Zu, Zu, Zs] 89
 refine wl_run (v := Pt b704 0) (w' := w705) z z (x_al (by kernel_rfl) ew706 eb707) ?_
 obtain ⟨w709, hr710, hst⟩ := hst.bx [U6 a2.ID.Session, U6 a2.ID.Seq, I6 (9:Int), U6 a2.Epoch, U6 a1, U6 a2.Shards, Zs] sizeOf89 z (oC z (oC z (oC z (oC z (oC z (oC z (oC z oN))))))) (by kernel_rfl)
 refine wl_unit z z (x_unit hr710) ?_
 refine wl_nil (tn (wp_seq (wp_seq (wrl (wv (Pt b617 0) z z (x_field z underlying33 z sizeOf29 z) (wv (.int .i64 (9:Int)) z z (x_load z isAgg29 (hst.bc11 z)) (wv (.bool ((9:Int) == (0:Int))) z z z (wl_nil (tn ?_)))))))))
 refine bsplit ((9:Int) == (0:Int)) (fun hc711 => ?_) (fun hc711 => ?_)
 {
 replace hm := bif_t hc711 hm
 refine wp_ift (cvb hc711) ?_
 refine wrl (wv (Pt b603 20) z z (x_field z underlying49 z sizeOf47 z) (wv (r2_7) z z (x_load z isAgg47 (hst.bc9 z)) ?_))
 obtain ⟨t712, ht713, hm⟩ := bind_some hm
 refine wc call126 [r2_7] z z z ?_
 refine (slices_Clone_api_Part_api_Part_ref (RdO.of_ro f2_7 _) hst.to0 ht713).mono ?_
 rintro _ w714 ⟨v717, rfl, hst⟩
 refine ⟨_, z, ?_⟩
 replace hst := hst.of1
 refine wv (Pt b704 6) z z (x_field z underlying89 z sizeOf47 z) ?_
 replace hst := hst.pull1
 obtain ⟨w719, hr720, hst⟩ := hst.boxStore1 (P := prog) (t := 47) (cs' := [U6 a2.ID.Session, U6 a2.ID.Seq, I6 (9:Int), U6 a2.Epoch, U6 a1, U6 a2.Shards, v717]) 6 v717 (one_of_sliceV hst.sv1) sizeOf47 z z
 refine wl_unit z z (x_unit hr720) ?_
 refine wl_nil (tn (wp_seq (wrl (wv (Pt b628 0) z z z (wv (Pt b603 1) z z (x_field z underlying49 z sizeOf28 z) (wv (.agg #[U6 a2.ID.Session, U6 a2.ID.Seq]) z z (x_loadN (cs := [U6 a2.ID.Session, U6 a2.ID.Seq]) z isAgg28 sizeOf28 (hst.bcs10 1 z)) ?_))))))
 replace hst := hst.pull9.pull9.pull9.pull9.pull6.pull9.pull9.pull9
 replace hst := at_lane_State_close (pv := Pt b628 0) (x := ({ wide := o0.wide, epoch := o0.epoch, store := o0.store, locks := o0.locks, last := t678.2, book := o0.book, open_ := o0.open_, out := o0.out, used := o0.used } : lane_State)) hst z
 replace hst := objO_some hst
 obtain ⟨t721, ht722, hm⟩ := bind_some hm
 refine wc call51 [Pt b628 0, .agg #[U6 a2.ID.Session, U6 a2.ID.Seq]] z z z ?_
 refine (lane_State_find_ref hst.to1 ht722).mono ?_
 rintro _ w723 ⟨rfl, hst⟩
 refine ⟨_, z, ?_⟩
 replace hst := hst.of1
 replace hst := objO_get hst
 refine wv (.tuple #[I6 t721.1, .bool t721.2]) z z z (wv (.int .i64 t721.1) z z z (wv (.bool t721.2) z z z (wv (.int .i64 t721.1) z z z (wv (.bool t721.2) z z z (wl_nil (tn ?_))))))
 obtain ⟨b726, v727, v729, v731, v733, v735, v737, v739, e741, hst'⟩ := at_lane_State_open hst
 clear hst
 have e741 := ptr_inj e741
 subst e741
 have hst := hst'
 clear hst'
 refine wp_region_St hst 12 [0, 1, 2, 3, 4, 5, 6, 7, 8, 9, 10, 11] [0, 0, 2, 6, 14, 0, 0, 64, 254, 511, 1023, 2047] [] z (by kernel_rfl) (by kernel_rfl) Tryz.mixed (by kernel_rfl) ?_
 refine wsr (Pt b628 0) 0 z z z (by kernel_rfl) (fun w hst => z) (wsr (Pt b628 0) 1 z z z (by kernel_rfl) (fun w hst => z) (wsr (Pt b628 0) 2 z z z (by kernel_rfl) (fun w hst => z) (wsr (Pt b628 6) 3 z z z (by kernel_rfl) (fun w hst => x_field z underlying111 z sizeOf65 z) (wsr (v735) 4 z z z (by kernel_rfl) (fun w hst => x_load z isAgg65 (hst.bc0 z)) (wsr (.int .i64 t721.1) 5 z z z (by kernel_rfl) (fun w hst => z) (wsr (.agg #[U6 a2.ID.Session, U6 a2.ID.Seq, I6 (9:Int), U6 a2.Epoch, U6 a1, U6 a2.Shards, v717]) 6 z z z (by kernel_rfl) (fun w hst => x_loadN (cs := [U6 a2.ID.Session, U6 a2.ID.Seq, I6 (9:Int), U6 a2.Epoch, U6 a1, U6 a2.Shards, v717]) z isAgg89 sizeOf89 (hst.bcs8 0 z)) ?_))))))
 refine ws_e1 7 (by kernel_rfl) ?_
 refine nxe [8, 9, 10, 11] (by kernel_rfl) z z ?_
 clear hst
 intro w hst
 replace hst := hst.pull9
 obtain ⟨I743, hI744, f745, hst⟩ := hst.own_fix
 replace f2_0 := f2_0.mono (ro_le hI744)
 replace f2_1 := f2_1.mono (ro_le hI744)
 replace f2_2 := f2_2.mono (ro_le hI744)
 replace f2_3 := f2_3.mono (ro_le hI744)
 replace f2_4 := f2_4.mono (ro_le hI744)
 replace f2_5 := f2_5.mono (ro_le hI744)
 replace f2_6 := f2_6.mono (ro_le hI744)
 replace f2_7 := f2_7.mono (ro_le hI744)
 replace f676 := f676.mono (ro_le hI744)
 replace f677 := f677.mono (ro_le hI744)
 replace hI0 := hI0.trans hI744
 replace hL803 := hL803.trans hI744
 obtain ⟨b746, w747, ew748, eb749, hst⟩ := hst.lits (E := ty_api_Decision) (xs := [({ ID := a2.ID, E := (9:Int), Epoch := a2.Epoch, Index := a1, Shards := a2.Shards, Parts := t712 } : api_Decision)]) [[U6 a2.ID.Session, U6 a2.ID.Seq, I6 (9:Int), U6 a2.Epoch, U6 a1, U6 a2.Shards, v717]] 89 1 z (Reps.cons ⟨_, z, f745, one_of_sliceV (ro_sliceV f745)⟩ Reps.nil)
 refine we_run (v := (.slice (some ⟨b746, 0, none⟩) 1 1)) (w' := w747) z (x_als (by kernel_rfl) ew748 eb749) ?_
 refine ws_next (pend' := [(5, I6 t721.1), (4, v735), (3, Pt b628 6), (2, Pt b628 0), (1, Pt b628 0), (0, Pt b628 0)]) hst (by kernel_rfl) (pkr z z (fun w hst => z) (pkr z z (fun w hst => x_load z isAgg65 (hst.bc1 z)) (pkr z z (fun w hst => x_field z underlying111 z sizeOf65 z) (pkr z z (fun w hst => z) (pkr z z (fun w hst => z) (pkr z z (fun w hst => z) pk_nil)))))) ?_
 refine ws_e1 8 (by kernel_rfl) ?_
 refine nxe [9, 10, 11] (by kernel_rfl) z z ?_
 clear hst
 intro w hst
 replace hst := hst.pull6
 obtain ⟨t751, ht752, hm⟩ := bind_some hm
 refine wec call127 [v735, I6 t721.1, (.slice (some ⟨b746, 0, none⟩) 1 1)] z z ?_
 refine (slices_Insert_api_Decision_api_Decision_ref hst.to2 ht752).mono ?_
 rintro _ w753 ⟨v756, rfl, hst⟩
 refine ⟨_, z, ?_⟩
 replace hst := hst.of1
 refine ws_next (pend' := [(0, Pt b628 0)]) hst (by kernel_rfl) (pkr z z (fun w hst => z) pk_nil) ?_
 refine wsr (Pt b628 0) 9 z z z (by kernel_rfl) (fun w hst => z) (wsr (Pt b628 6) 10 z z z (by kernel_rfl) (fun w hst => x_field z underlying111 z sizeOf65 z) ?_)
 refine ws_e1 11 (by kernel_rfl) ?_
 refine nxe [] (by kernel_rfl) z z ?_
 clear hst
 intro w hst
 replace hst := hst.pull1
 obtain ⟨w758, hr759, hst⟩ := hst.boxStore1 (P := prog) (t := 65) (cs' := [I6 (({ wide := o0.wide, epoch := o0.epoch, store := o0.store, locks := o0.locks, last := t678.2, book := o0.book, open_ := o0.open_, out := o0.out, used := o0.used } : lane_State).wide), U6 (({ wide := o0.wide, epoch := o0.epoch, store := o0.store, locks := o0.locks, last := t678.2, book := o0.book, open_ := o0.open_, out := o0.out, used := o0.used } : lane_State).epoch), v727, v729, v731, v733, v756, v737, v739]) 6 v756 (one_of_sliceV hst.sv1) sizeOf65 z z
 refine we_unit z (x_unit hr759) ?_
 refine ws_next (pend' := []) hst (by kernel_rfl) pk_nil ?_
 refine ws_nil ?_
 intro w hst
 refine tn ?_
 replace hst := hst.pull7.pull7.pull3.pull7.pull7.pull7.pull7.pull7
 replace hst := at_lane_State_close (pv := Pt b628 0) (x := ({ wide := ({ wide := o0.wide, epoch := o0.epoch, store := o0.store, locks := o0.locks, last := t678.2, book := o0.book, open_ := o0.open_, out := o0.out, used := o0.used } : lane_State).wide, epoch := ({ wide := o0.wide, epoch := o0.epoch, store := o0.store, locks := o0.locks, last := t678.2, book := o0.book, open_ := o0.open_, out := o0.out, used := o0.used } : lane_State).epoch, store := ({ wide := o0.wide, epoch := o0.epoch, store := o0.store, locks := o0.locks, last := t678.2, book := o0.book, open_ := o0.open_, out := o0.out, used := o0.used } : lane_State).store, locks := ({ wide := o0.wide, epoch := o0.epoch, store := o0.store, locks := o0.locks, last := t678.2, book := o0.book, open_ := o0.open_, out := o0.out, used := o0.used } : lane_State).locks, last := ({ wide := o0.wide, epoch := o0.epoch, store := o0.store, locks := o0.locks, last := t678.2, book := o0.book, open_ := o0.open_, out := o0.out, used := o0.used } : lane_State).last, book := ({ wide := o0.wide, epoch := o0.epoch, store := o0.store, locks := o0.locks, last := t678.2, book := o0.book, open_ := o0.open_, out := o0.out, used := o0.used } : lane_State).book, open_ := t751, out := ({ wide := o0.wide, epoch := o0.epoch, store := o0.store, locks := o0.locks, last := t678.2, book := o0.book, open_ := o0.open_, out := o0.out, used := o0.used } : lane_State).out, used := ({ wide := o0.wide, epoch := o0.epoch, store := o0.store, locks := o0.locks, last := t678.2, book := o0.book, open_ := o0.open_, out := o0.out, used := o0.used } : lane_State).used } : lane_State)) hst z
 replace hst := hst.pull4.pull4.pull4.keep4
 obtain rfl := some_inj hm
 exact ⟨_, ({ wide := ({ wide := o0.wide, epoch := o0.epoch, store := o0.store, locks := o0.locks, last := t678.2, book := o0.book, open_ := o0.open_, out := o0.out, used := o0.used } : lane_State).wide, epoch := ({ wide := o0.wide, epoch := o0.epoch, store := o0.store, locks := o0.locks, last := t678.2, book := o0.book, open_ := o0.open_, out := o0.out, used := o0.used } : lane_State).epoch, store := ({ wide := o0.wide, epoch := o0.epoch, store := o0.store, locks := o0.locks, last := t678.2, book := o0.book, open_ := o0.open_, out := o0.out, used := o0.used } : lane_State).store, locks := ({ wide := o0.wide, epoch := o0.epoch, store := o0.store, locks := o0.locks, last := t678.2, book := o0.book, open_ := o0.open_, out := o0.out, used := o0.used } : lane_State).locks, last := ({ wide := o0.wide, epoch := o0.epoch, store := o0.store, locks := o0.locks, last := t678.2, book := o0.book, open_ := o0.open_, out := o0.out, used := o0.used } : lane_State).last, book := ({ wide := o0.wide, epoch := o0.epoch, store := o0.store, locks := o0.locks, last := t678.2, book := o0.book, open_ := o0.open_, out := o0.out, used := o0.used } : lane_State).book, open_ := t751, out := ({ wide := o0.wide, epoch := o0.epoch, store := o0.store, locks := o0.locks, last := t678.2, book := o0.book, open_ := o0.open_, out := o0.out, used := o0.used } : lane_State).out, used := ({ wide := o0.wide, epoch := o0.epoch, store := o0.store, locks := o0.locks, last := t678.2, book := o0.book, open_ := o0.open_, out := o0.out, used := o0.used } : lane_State).used } : lane_State), _, hx802, (fu 5 (Pt b603 0) z (fu 6 (Pt b610 0) z (fu 7 (Pt b617 0) z z))), hL803, hst⟩
}
 {
 replace hm := bif_f hc711 hm
 refine wp_iff (cvb hc711) ?_
 refine wp_skip (tn (wp_seq (wrl ?_)))
 refine wv (Pt b628 0) z z z (wv (Pt b603 1) z z (x_field z underlying49 z sizeOf28 z) (wv (.agg #[U6 a2.ID.Session, U6 a2.ID.Seq]) z z (x_loadN (cs := [U6 a2.ID.Session, U6 a2.ID.Seq]) z isAgg28 sizeOf28 (hst.bcs9 1 z)) ?_))
 replace hst := hst.pull8.pull8.pull8.pull8.pull5.pull8.pull8.pull8
 replace hst := at_lane_State_close (pv := Pt b628 0) (x := ({ wide := o0.wide, epoch := o0.epoch, store := o0.store, locks := o0.locks, last := t678.2, book := o0.book, open_ := o0.open_, out := o0.out, used := o0.used } : lane_State)) hst z
 replace hst := objO_some hst
 obtain ⟨t760, ht761, hm⟩ := bind_some hm
 refine wc call51 [Pt b628 0, .agg #[U6 a2.ID.Session, U6 a2.ID.Seq]] z z z ?_
 refine (lane_State_find_ref hst.to1 ht761).mono ?_
 rintro _ w762 ⟨rfl, hst⟩
 refine ⟨_, z, ?_⟩
 replace hst := hst.of1
 replace hst := objO_get hst
 refine wv (.tuple #[I6 t760.1, .bool t760.2]) z z z (wv (.int .i64 t760.1) z z z (wv (.bool t760.2) z z z (wv (.int .i64 t760.1) z z z (wv (.bool t760.2) z z z (wl_nil (tn ?_))))))
 obtain ⟨b765, v766, v768, v770, v772, v774, v776, v778, e780, hst'⟩ := at_lane_State_open hst
 clear hst
 have e780 := ptr_inj e780
 subst e780
 have hst := hst'
 clear hst'
 refine wp_region_St hst 12 [0, 1, 2, 3, 4, 5, 6, 7, 8, 9, 10, 11] [0, 0, 2, 6, 14, 0, 0, 64, 254, 511, 1023, 2047] [] z (by kernel_rfl) (by kernel_rfl) Tryz.mixed (by kernel_rfl) ?_
 refine wsr (Pt b628 0) 0 z z z (by kernel_rfl) (fun w hst => z) (wsr (Pt b628 0) 1 z z z (by kernel_rfl) (fun w hst => z) (wsr (Pt b628 0) 2 z z z (by kernel_rfl) (fun w hst => z) (wsr (Pt b628 6) 3 z z z (by kernel_rfl) (fun w hst => x_field z underlying111 z sizeOf65 z) (wsr (v774) 4 z z z (by kernel_rfl) (fun w hst => x_load z isAgg65 (hst.bc0 z)) (wsr (.int .i64 t760.1) 5 z z z (by kernel_rfl) (fun w hst => z) (wsr (.agg #[U6 a2.ID.Session, U6 a2.ID.Seq, I6 (9:Int), U6 a2.Epoch, U6 a1, U6 a2.Shards, Zs]) 6 z z z (by kernel_rfl) (fun w hst => x_loadN (cs := [U6 a2.ID.Session, U6 a2.ID.Seq, I6 (9:Int), U6 a2.Epoch, U6 a1, U6 a2.Shards, Zs]) z isAgg89 sizeOf89 (hst.bcs8 0 z)) ?_))))))
 refine ws_e1 7 (by kernel_rfl) ?_
 refine nxe [8, 9, 10, 11] (by kernel_rfl) z z ?_
 clear hst
 intro w hst
 have f782 : Ro ty_api_Part I (.slice none 0 0) [] := ro_nil
 obtain ⟨b783, w784, ew785, eb786, hst⟩ := hst.lits (E := ty_api_Decision) (xs := [({ ID := a2.ID, E := (9:Int), Epoch := a2.Epoch, Index := a1, Shards := a2.Shards, Parts := [] } : api_Decision)]) [[U6 a2.ID.Session, U6 a2.ID.Seq, I6 (9:Int), U6 a2.Epoch, U6 a1, U6 a2.Shards, Zs]] 89 1 z (Reps.cons ⟨_, z, f782, one_of_sliceV (ro_sliceV f782)⟩ Reps.nil)
 refine we_run (v := (.slice (some ⟨b783, 0, none⟩) 1 1)) (w' := w784) z (x_als (by kernel_rfl) ew785 eb786) ?_
 refine ws_next (pend' := [(5, I6 t760.1), (4, v774), (3, Pt b628 6), (2, Pt b628 0), (1, Pt b628 0), (0, Pt b628 0)]) hst (by kernel_rfl) (pkr z z (fun w hst => z) (pkr z z (fun w hst => x_load z isAgg65 (hst.bc1 z)) (pkr z z (fun w hst => x_field z underlying111 z sizeOf65 z) (pkr z z (fun w hst => z) (pkr z z (fun w hst => z) (pkr z z (fun w hst => z) pk_nil)))))) ?_
 refine ws_e1 8 (by kernel_rfl) ?_
 refine nxe [9, 10, 11] (by kernel_rfl) z z ?_
 clear hst
 intro w hst
 replace hst := hst.pull6
 obtain ⟨t788, ht789, hm⟩ := bind_some hm
 refine wec call127 [v774, I6 t760.1, (.slice (some ⟨b783, 0, none⟩) 1 1)] z z ?_
 refine (slices_Insert_api_Decision_api_Decision_ref hst.to2 ht789).mono ?_
 rintro _ w790 ⟨v793, rfl, hst⟩
 refine ⟨_, z, ?_⟩
 replace hst := hst.of1
 refine ws_next (pend' := [(0, Pt b628 0)]) hst (by kernel_rfl) (pkr z z (fun w hst => z) pk_nil) ?_
 refine wsr (Pt b628 0) 9 z z z (by kernel_rfl) (fun w hst => z) (wsr (Pt b628 6) 10 z z z (by kernel_rfl) (fun w hst => x_field z underlying111 z sizeOf65 z) ?_)
 refine ws_e1 11 (by kernel_rfl) ?_
 refine nxe [] (by kernel_rfl) z z ?_
 clear hst
 intro w hst
 replace hst := hst.pull1
 obtain ⟨w795, hr796, hst⟩ := hst.boxStore1 (P := prog) (t := 65) (cs' := [I6 (({ wide := o0.wide, epoch := o0.epoch, store := o0.store, locks := o0.locks, last := t678.2, book := o0.book, open_ := o0.open_, out := o0.out, used := o0.used } : lane_State).wide), U6 (({ wide := o0.wide, epoch := o0.epoch, store := o0.store, locks := o0.locks, last := t678.2, book := o0.book, open_ := o0.open_, out := o0.out, used := o0.used } : lane_State).epoch), v766, v768, v770, v772, v793, v776, v778]) 6 v793 (one_of_sliceV hst.sv1) sizeOf65 z z
 refine we_unit z (x_unit hr796) ?_
 refine ws_next (pend' := []) hst (by kernel_rfl) pk_nil ?_
 refine ws_nil ?_
 intro w hst
 refine tn ?_
 replace hst := hst.pull7.pull7.pull3.pull7.pull7.pull7.pull7.pull7
 replace hst := at_lane_State_close (pv := Pt b628 0) (x := ({ wide := ({ wide := o0.wide, epoch := o0.epoch, store := o0.store, locks := o0.locks, last := t678.2, book := o0.book, open_ := o0.open_, out := o0.out, used := o0.used } : lane_State).wide, epoch := ({ wide := o0.wide, epoch := o0.epoch, store := o0.store, locks := o0.locks, last := t678.2, book := o0.book, open_ := o0.open_, out := o0.out, used := o0.used } : lane_State).epoch, store := ({ wide := o0.wide, epoch := o0.epoch, store := o0.store, locks := o0.locks, last := t678.2, book := o0.book, open_ := o0.open_, out := o0.out, used := o0.used } : lane_State).store, locks := ({ wide := o0.wide, epoch := o0.epoch, store := o0.store, locks := o0.locks, last := t678.2, book := o0.book, open_ := o0.open_, out := o0.out, used := o0.used } : lane_State).locks, last := ({ wide := o0.wide, epoch := o0.epoch, store := o0.store, locks := o0.locks, last := t678.2, book := o0.book, open_ := o0.open_, out := o0.out, used := o0.used } : lane_State).last, book := ({ wide := o0.wide, epoch := o0.epoch, store := o0.store, locks := o0.locks, last := t678.2, book := o0.book, open_ := o0.open_, out := o0.out, used := o0.used } : lane_State).book, open_ := t788, out := ({ wide := o0.wide, epoch := o0.epoch, store := o0.store, locks := o0.locks, last := t678.2, book := o0.book, open_ := o0.open_, out := o0.out, used := o0.used } : lane_State).out, used := ({ wide := o0.wide, epoch := o0.epoch, store := o0.store, locks := o0.locks, last := t678.2, book := o0.book, open_ := o0.open_, out := o0.out, used := o0.used } : lane_State).used } : lane_State)) hst z
 replace hst := hst.pull4.pull4.pull4.keep4
 obtain rfl := some_inj hm
 exact ⟨_, ({ wide := ({ wide := o0.wide, epoch := o0.epoch, store := o0.store, locks := o0.locks, last := t678.2, book := o0.book, open_ := o0.open_, out := o0.out, used := o0.used } : lane_State).wide, epoch := ({ wide := o0.wide, epoch := o0.epoch, store := o0.store, locks := o0.locks, last := t678.2, book := o0.book, open_ := o0.open_, out := o0.out, used := o0.used } : lane_State).epoch, store := ({ wide := o0.wide, epoch := o0.epoch, store := o0.store, locks := o0.locks, last := t678.2, book := o0.book, open_ := o0.open_, out := o0.out, used := o0.used } : lane_State).store, locks := ({ wide := o0.wide, epoch := o0.epoch, store := o0.store, locks := o0.locks, last := t678.2, book := o0.book, open_ := o0.open_, out := o0.out, used := o0.used } : lane_State).locks, last := ({ wide := o0.wide, epoch := o0.epoch, store := o0.store, locks := o0.locks, last := t678.2, book := o0.book, open_ := o0.open_, out := o0.out, used := o0.used } : lane_State).last, book := ({ wide := o0.wide, epoch := o0.epoch, store := o0.store, locks := o0.locks, last := t678.2, book := o0.book, open_ := o0.open_, out := o0.out, used := o0.used } : lane_State).book, open_ := t788, out := ({ wide := o0.wide, epoch := o0.epoch, store := o0.store, locks := o0.locks, last := t678.2, book := o0.book, open_ := o0.open_, out := o0.out, used := o0.used } : lane_State).out, used := ({ wide := o0.wide, epoch := o0.epoch, store := o0.store, locks := o0.locks, last := t678.2, book := o0.book, open_ := o0.open_, out := o0.out, used := o0.used } : lane_State).used } : lane_State), _, hx802, (fu 5 (Pt b603 0) z (fu 6 (Pt b610 0) z (fu 7 (Pt b617 0) z z))), hL803, hst⟩
}
}
 {
 replace hm := bif_f hc701 hm
 refine wp_iff (cvb hc701) ?_
 refine wp_skip (tn ?_)
 replace hst := hst.pull7.pull7.pull7.pull7.pull4.pull7.pull7.pull7
 replace hst := at_lane_State_close (pv := Pt b628 0) (x := ({ wide := o0.wide, epoch := o0.epoch, store := o0.store, locks := o0.locks, last := t678.2, book := o0.book, open_ := o0.open_, out := o0.out, used := o0.used } : lane_State)) hst z
 replace hst := hst.pull3.pull3.pull3.keep4
 obtain rfl := some_inj hm
 exact ⟨_, ({ wide := o0.wide, epoch := o0.epoch, store := o0.store, locks := o0.locks, last := t678.2, book := o0.book, open_ := o0.open_, out := o0.out, used := o0.used } : lane_State), _, hx802, (fu 5 (Pt b603 0) z (fu 6 (Pt b610 0) z (fu 7 (Pt b617 0) z z))), hL803, hst⟩
}
}
 {
 clear hst
 rintro _ w804 ⟨I798, z797, σ799, hm, rfl, hL800, hst⟩
 dsimp only [lane_State_decide_j2] at hm
 replace f2_0 := f2_0.mono (ro_le hL800)
 replace f2_1 := f2_1.mono (ro_le hL800)
 replace f2_2 := f2_2.mono (ro_le hL800)
 replace f2_3 := f2_3.mono (ro_le hL800)
 replace f2_4 := f2_4.mono (ro_le hL800)
 replace f2_5 := f2_5.mono (ro_le hL800)
 replace f2_6 := f2_6.mono (ro_le hL800)
 replace f2_7 := f2_7.mono (ro_le hL800)
 replace f676 := f676.mono (ro_le hL800)
 replace f677 := f677.mono (ro_le hL800)
 replace hI0 := hI0.trans hL800
 refine wp_seq (wrl (wv (Pt b603 1) z z (x_field z underlying49 z sizeOf28 z) (wv (.agg #[U6 a2.ID.Session, U6 a2.ID.Seq]) z z (x_loadN (cs := [U6 a2.ID.Session, U6 a2.ID.Seq]) z isAgg28 sizeOf28 (hst.bcs0 1 z)) (wv (.agg #[I6 (9:Int), U6 a2.Epoch, U6 a1, Zs, Zs]) z z (x_loadN (cs := [I6 (9:Int), U6 a2.Epoch, U6 a1, Zs, Zs]) z isAgg33 sizeOf33 (hst.bcs2 0 z)) (wv (.agg #[U1 (4:Int), U6 a2.ID.Session, U6 a2.ID.Seq, I6 (9:Int), U6 a2.Epoch, U6 a1, Zs, Zs]) z z (by kernel_rfl) ?_)))))
 replace hst := hst.pull1
 obtain ⟨w807, hr808, hst⟩ := hst.bx [U1 (4:Int), U6 a2.ID.Session, U6 a2.ID.Seq, I6 (9:Int), U6 a2.Epoch, U6 a1, Zs, Zs] sizeOf35 z (oC z (oC z (oC z (oC z (oC z (oC z (oC (one_of_sliceV (ro_sliceV f676)) (oC (one_of_sliceV (ro_sliceV f677)) oN)))))))) (by kernel_rfl)
 refine wl_unit z z (x_unit hr808) ?_
 refine wl_nil (tn (wp_ret ?_))
 replace hst := hst.pull3
 replace hst := objO_some hst
 obtain rfl := some_inj hm
 refine post_ret (vs := [.agg #[U1 (4:Int), U6 a2.ID.Session, U6 a2.ID.Seq, I6 (9:Int), U6 a2.Epoch, U6 a1, Zs, Zs]]) results50 (rvs_cons (rv_cell (cs := [U1 (4:Int), U6 a2.ID.Session, U6 a2.ID.Seq, I6 (9:Int), U6 a2.Epoch, U6 a1, Zs, Zs]) z isAgg35 sizeOf35 (hst.bcs1 0 z)) rvs_nil) ?_
 exact ⟨_, Zs, Zs, z, hI0, f676, f677, hst.keep1⟩
}
}
}
}
 {
 replace hm := bif_f hc644 hm
 refine wp_iff (cvb hc644) ?_
 refine wp_skip (tn ?_)
 obtain ⟨y817, hm, hx818⟩ := joinO_some hm
 refine wp_cut (fun a w => ∃ (σ815 : Nat → Value), (lane_State_decide_j3 o0 a2 a1) () = some r ∧ a = Fr 103 (upd (upd (upd (upd (upd σ815 0 (Pt b628 0)) 1 (.int .u64 a1)) 5 (Pt b603 0)) 6 (Pt b610 0)) 7 (Pt b617 0)) ∧ St w0 w I [at_lane_State (Pt b628 0) o0, cells b603 [U1 a2.Kind, U6 a2.ID.Session, U6 a2.ID.Seq, U6 a2.Epoch, U6 a2.Index, I6 a2.E, U6 a2.Hold.ID.Session, U6 a2.Hold.ID.Seq, U6 a2.Hold.Epoch, r2_0, r2_1, r2_2, r2_3, r2_4, I6 a2.R.E, U6 a2.R.Epoch, U6 a2.R.Index, r2_5, r2_6, U6 a2.Shards, r2_7, U6 a2.Rule.ID, I6 a2.Rule.From, I6 a2.Rule.To, F6 a2.Rule.Lo, F6 a2.Rule.Hi, U6 a2.Rule.Authority, I6 a2.Rule.Quota, .bool a2.On], cells b610 [Zb, Zu, Zu, Zi, Zu, Zu, Zs, Zs], cells b617 [I6 a2.R.E, U6 a2.Epoch, U6 a1, r2_5, r2_6]] R) ?_ ?_
 {
 refine wp_seq (wrl (wv (Pt b617 0) z z (x_field z underlying33 z sizeOf29 z) (wv (.int .i64 a2.R.E) z z (x_load z isAgg29 (hst.bc8 z)) (wv (.bool (a2.R.E != (0:Int))) z z z (wv (.bool (a2.R.E != (0:Int))) z z z ?_)))))
 refine bsplit (a2.R.E != (0:Int)) (fun hc809 => ?_) (fun hc809 => ?_)
 {
 replace hm := bif_t hc809 hm
 refine wv (Pt b603 1) ((wanted_eq z z z (cvb hc809)).trans z) z (x_field z underlying49 z sizeOf28 z) (wv (Pt b603 1) ((wanted_eq z z z (cvb hc809)).trans z) z (x_field z underlying28 z sizeOf26 z) (wv (.int .u64 a2.ID.Session) ((wanted_eq z z z (cvb hc809)).trans z) z (x_load z isAgg26 (hst.bc10 z)) (wv (.bool (decide (a2.ID.Session ≥ (9223372036854775808:Int)))) ((wanted_eq z z z (cvb hc809)).trans z) z z (wv (.bool (decide (a2.ID.Session ≥ (9223372036854775808:Int)))) z z (x_pick_t hc809 z z) (wl_nil (tn ?_))))))
 refine bsplit (decide (a2.ID.Session ≥ (9223372036854775808:Int))) (fun hc810 => ?_) (fun hc810 => ?_)
 {
 replace hm := bif_t hc810 hm
 refine wp_ift (cvb hc810) ?_
 refine wp_seq (wrl (wv (.agg #[Zb, Zu, Zu, Zi, Zu, Zu, Zs, Zs]) z z (by kernel_rfl) ?_))
 replace hst := hst.pull9
 obtain ⟨w813, hr814, hst⟩ := hst.bx [Zb, Zu, Zu, Zi, Zu, Zu, Zs, Zs] sizeOf35 z (oC z (oC z (oC z (oC z (oC z (oC z (oC z (oC z oN)))))))) (by kernel_rfl)
 refine wl_unit z z (x_unit hr814) ?_
 refine wl_nil (tn (wp_ret (then_r ?_)))
 replace hm := inr_up hm hx818
 have f815 : Ro ty_api_Got I (.slice none 0 0) [] := ro_nil
 have f816 : Ro (tySl ty_api_Pair) I (.slice none 0 0) [] := ro_nil
 replace hst := hst.pull8.pull8.pull8.pull8.pull8.pull8.pull8.pull8
 replace hst := at_lane_State_close (pv := Pt b628 0) (x := o0) hst z
 replace hst := objO_some hst
 obtain rfl := some_inj hm
 refine post_ret (vs := [.agg #[Zb, Zu, Zu, Zi, Zu, Zu, Zs, Zs]]) results50 (rvs_cons (rv_cell (cs := [Zb, Zu, Zu, Zi, Zu, Zu, Zs, Zs]) z isAgg35 sizeOf35 (hst.bcs1 0 z)) rvs_nil) ?_
 exact ⟨_, Zs, Zs, z, hI0, f815, f816, hst.keep1⟩
}
 {
 replace hm := bif_f hc810 hm
 refine wp_iff (cvb hc810) ?_
 refine wp_skip (tn ?_)
 replace hst := hst.pull7.pull7.pull7.pull7.pull7.pull7.pull7.pull7
 replace hst := at_lane_State_close (pv := Pt b628 0) (x := o0) hst z
 replace hst := hst.pull1.pull2.pull3.pull3.keep4
 obtain rfl := some_inj hm
 exact ⟨_, hx818, (fu 0 (Pt b628 0) z (fu 1 (.int .u64 a1) z (fu 5 (Pt b603 0) z (fu 6 (Pt b610 0) z (fu 7 (Pt b617 0) z z))))), hst⟩
}
}
 {
 replace hm := bif_f hc809 hm
 refine wo hc809 z z z z z z (wo hc809 z z z z z z (wo hc809 z z z z z z (wo hc809 z z z z z z (wv (.bool false) z z (x_pick_f hc809 z z) (wl_nil (tn ?_))))))
 refine wp_iff z ?_
 refine wp_skip (tn ?_)
 replace hst := hst.pull7.pull7.pull7.pull7.pull7.pull7.pull7.pull7
 replace hst := at_lane_State_close (pv := Pt b628 0) (x := o0) hst z
 replace hst := hst.pull1.pull2.pull3.pull3.keep4
 obtain rfl := some_inj hm
 exact ⟨_, hx818, (fu 0 (Pt b628 0) z (fu 1 (.int .u64 a1) z (fu 5 (Pt b603 0) z (fu 6 (Pt b610 0) z (fu 7 (Pt b617 0) z z))))), hst⟩
}
}
 {
 clear hst
 rintro _ w819 ⟨σ815, hm, rfl, hst⟩
 dsimp only [lane_State_decide_j3] at hm
 refine wp_seq (wp_seq ?_)
 obtain ⟨b820, v821, v823, v825, v827, v829, v831, v833, e835, hst'⟩ := at_lane_State_open hst
 clear hst
 have e835 := ptr_inj e835
 subst e835
 have hst := hst'
 clear hst'
 refine wp_region_St hst 13 [0, 1, 2, 3, 4, 5, 6, 7, 8, 9, 10, 11, 12] [0, 1, 3, 7, 0, 16, 48, 0, 128, 384, 0, 2047, 4095] [] z (by kernel_rfl) (by kernel_rfl) Tryz.mixed (by kernel_rfl) ?_
 refine wsr (Pt b628 0) 0 z z z (by kernel_rfl) (fun w hst => z) (wsr (Pt b628 0) 1 z z z (by kernel_rfl) (fun w hst => z) (wsr (Pt b628 4) 2 z z z (by kernel_rfl) (fun w hst => x_field z underlying111 z sizeOf105 z) (wsr (v825) 3 z z z (by kernel_rfl) (fun w hst => x_load z isAgg105 (hst.bc0 z)) (wsr (Pt b603 1) 4 z z z (by kernel_rfl) (fun w hst => x_field z underlying49 z sizeOf28 z) (wsr (Pt b603 1) 5 z z z (by kernel_rfl) (fun w hst => x_field z underlying28 z sizeOf26 z) (wsr (.int .u64 a2.ID.Session) 6 z z z (by kernel_rfl) (fun w hst => x_load z isAgg26 (hst.bc8 z)) (wsr (Pt b603 1) 7 z z z (by kernel_rfl) (fun w hst => x_field z underlying49 z sizeOf28 z) (wsr (Pt b603 2) 8 z z z (by kernel_rfl) (fun w hst => x_field z underlying28 z sizeOf26 z) (wsr (.int .u64 a2.ID.Seq) 9 z z z (by kernel_rfl) (fun w hst => x_load z isAgg26 (hst.bc8 z)) (wsr (.agg #[I6 a2.R.E, U6 a2.Epoch, U6 a1, r2_5, r2_6]) 10 z z z (by kernel_rfl) (fun w hst => x_loadN (cs := [I6 a2.R.E, U6 a2.Epoch, U6 a1, r2_5, r2_6]) z isAgg33 sizeOf33 (hst.bcs10 0 z)) ?_))))))))))
 refine ws_e1 11 (by kernel_rfl) ?_
 refine nxe [12] (by kernel_rfl) z z ?_
 clear hst
 intro w hst
 replace hst := hst.pull3
 obtain ⟨t836, ht837, hm⟩ := bind_some hm
 refine wec call124 [v825, U6 a2.ID.Session, U6 a2.ID.Seq, .agg #[I6 a2.R.E, U6 a2.Epoch, U6 a1, r2_5, r2_6]] z z ?_
 refine (session_Table_Put_ref (a3 := ({ E := a2.R.E, Epoch := a2.Epoch, Index := a1, Gots := a2.R.Gots, Scans := a2.R.Scans } : api_Reply)) f2_5 f2_6 hst.to1 ht837).mono ?_
 rintro _ w838 ⟨rfl, hst⟩
 refine ⟨_, z, ?_⟩
 replace hst := hst.of1
 refine ws_next (pend' := []) hst (by kernel_rfl) pk_nil ?_
 refine wsr (.bool (t836.1 != (0:Int))) 12 z z z (by kernel_rfl) (fun w hst => z) ?_
 refine ws_nil ?_
 intro w hst
 refine tn ?_
 refine bsplit (t836.1 != (0:Int)) (fun hc841 => ?_) (fun hc841 => ?_)
 {
 replace hm := bif_t hc841 hm
 refine wp_ift (cvb hc841) ?_
 refine wp_seq (wrl (wv (Pt b628 0) z z z (wv (Pt b603 1) z z (x_field z underlying49 z sizeOf28 z) (wv (.agg #[U6 a2.ID.Session, U6 a2.ID.Seq]) z z (x_loadN (cs := [U6 a2.ID.Session, U6 a2.ID.Seq]) z isAgg28 sizeOf28 (hst.bcs8 1 z)) ?_))))
 replace hst := hst.pull7.pull7.pull7.pull7.pull4.pull7.pull7.pull7
 replace hst := at_lane_State_close (pv := Pt b628 0) (x := ({ wide := o0.wide, epoch := o0.epoch, store := o0.store, locks := o0.locks, last := t836.2, book := o0.book, open_ := o0.open_, out := o0.out, used := o0.used } : lane_State)) hst z
 replace hst := objO_some hst
 obtain ⟨t842, ht843, hm⟩ := bind_some hm
 refine wc call125 [Pt b628 0, .agg #[U6 a2.ID.Session, U6 a2.ID.Seq]] z z z ?_
 refine (lane_State_late_ref hst.to1 ht843).mono ?_
 rintro _ w844 ⟨v847, v849, rfl, hst⟩
 refine ⟨_, z, ?_⟩
 replace hst := hst.of3.pull2
 replace hst := objO_get hst
 replace hst := hst.pull4
 obtain ⟨w851, hr852, hst⟩ := hst.bx [U1 t842.Kind, U6 t842.ID.Session, U6 t842.ID.Seq, I6 t842.R.E, U6 t842.R.Epoch, U6 t842.R.Index, v847, v849] sizeOf35 z (oC z (oC z (oC z (oC z (oC z (oC z (oC (one_of_sliceV hst.sv2) (oC (one_of_sliceV hst.sv3) oN)))))))) (by kernel_rfl)
 refine wl_unit z z (x_unit hr852) ?_
 refine wl_nil (tn (wp_ret (then_r ?_)))
 replace hst := hst.pull2
 obtain ⟨I853, hI854, f855, hst⟩ := hst.own_fix
 replace f2_0 := f2_0.mono (ro_le hI854)
 replace f2_1 := f2_1.mono (ro_le hI854)
 replace f2_2 := f2_2.mono (ro_le hI854)
 replace f2_3 := f2_3.mono (ro_le hI854)
 replace f2_4 := f2_4.mono (ro_le hI854)
 replace f2_5 := f2_5.mono (ro_le hI854)
 replace f2_6 := f2_6.mono (ro_le hI854)
 replace f2_7 := f2_7.mono (ro_le hI854)
 replace hI0 := hI0.trans hI854
 replace hst := hst.pull2
 obtain ⟨I856, hI857, f858, hst⟩ := hst.own_fix
 replace f2_0 := f2_0.mono (ro_le hI857)
 replace f2_1 := f2_1.mono (ro_le hI857)
 replace f2_2 := f2_2.mono (ro_le hI857)
 replace f2_3 := f2_3.mono (ro_le hI857)
 replace f2_4 := f2_4.mono (ro_le hI857)
 replace f2_5 := f2_5.mono (ro_le hI857)
 replace f2_6 := f2_6.mono (ro_le hI857)
 replace f2_7 := f2_7.mono (ro_le hI857)
 replace f855 := f855.mono (ro_le hI857)
 replace hI0 := hI0.trans hI857
 replace hst := hst.pull1
 replace hst := objO_some hst
 obtain rfl := some_inj hm
 refine post_ret (vs := [.agg #[U1 t842.Kind, U6 t842.ID.Session, U6 t842.ID.Seq, I6 t842.R.E, U6 t842.R.Epoch, U6 t842.R.Index, v847, v849]]) results50 (rvs_cons (rv_cell (cs := [U1 t842.Kind, U6 t842.ID.Session, U6 t842.ID.Seq, I6 t842.R.E, U6 t842.R.Epoch, U6 t842.R.Index, v847, v849]) z isAgg35 sizeOf35 (hst.bcs1 0 z)) rvs_nil) ?_
 exact ⟨_, v847, v849, z, hI0, f855, f858, hst.keep1⟩
}
 {
 replace hm := bif_f hc841 hm
 refine wp_iff (cvb hc841) ?_
 refine wp_skip (tn ?_)
 obtain ⟨y921, hm, hx922⟩ := bind_some hm
 refine wp_cut (fun a w => ∃ (I918 : HL) (z917 : lane_State) (σ919 : Nat → Value), (lane_State_decide_j4 a2 a1) z917 = some r ∧ a = Fr 103 (upd (upd (upd σ919 5 (Pt b603 0)) 6 (Pt b610 0)) 7 (Pt b617 0)) ∧ I.le I918 ∧ St w0 w I918 [cells b603 [U1 a2.Kind, U6 a2.ID.Session, U6 a2.ID.Seq, U6 a2.Epoch, U6 a2.Index, I6 a2.E, U6 a2.Hold.ID.Session, U6 a2.Hold.ID.Seq, U6 a2.Hold.Epoch, r2_0, r2_1, r2_2, r2_3, r2_4, I6 a2.R.E, U6 a2.R.Epoch, U6 a2.R.Index, r2_5, r2_6, U6 a2.Shards, r2_7, U6 a2.Rule.ID, I6 a2.Rule.From, I6 a2.Rule.To, F6 a2.Rule.Lo, F6 a2.Rule.Hi, U6 a2.Rule.Authority, I6 a2.Rule.Quota, .bool a2.On], cells b610 [Zb, Zu, Zu, Zi, Zu, Zu, Zs, Zs], cells b617 [I6 a2.R.E, U6 a2.Epoch, U6 a1, r2_5, r2_6], at_lane_State (Pt b628 0) z917] R) ?_ ?_
 {
 have hL923 := HL.le.refl I
 refine wp_seq (wrl (wv (Pt b603 19) z z (x_field z underlying49 z sizeOf26 z) (wv (.int .u64 a2.Shards) z z (x_load z isAgg26 (hst.bc8 z)) (wv (.bool (a2.Shards != (0:Int))) z z z (wl_nil (tn ?_))))))
 refine bsplit (a2.Shards != (0:Int)) (fun hc859 => ?_) (fun hc859 => ?_)
 {
 replace hm := bif_t hc859 hm
 refine wp_ift (cvb hc859) ?_
 refine wp_seq (wrl (wv (Pt b603 1) z z (x_field z underlying49 z sizeOf28 z) (wv (.agg #[U6 a2.ID.Session, U6 a2.ID.Seq]) z z (x_loadN (cs := [U6 a2.ID.Session, U6 a2.ID.Seq]) z isAgg28 sizeOf28 (hst.bcs8 1 z)) (wv (Pt b617 0) z z (x_field z underlying33 z sizeOf29 z) (wv (.int .i64 a2.R.E) z z (x_load z isAgg29 (hst.bc10 z)) (wv (Pt b603 3) z z (x_field z underlying49 z sizeOf26 z) (wv (.int .u64 a2.Epoch) z z (x_load z isAgg26 (hst.bc8 z)) (wv (.int .u64 a1) z z z (wv (Pt b603 19) z z (x_field z underlying49 z sizeOf26 z) (wv (.int .u64 a2.Shards) z z (x_load z isAgg26 (hst.bc8 z)) (wv (.agg #[U6 a2.ID.Session, U6 a2.ID.Seq, I6 a2.R.E, U6 a2.Epoch, U6 a1, U6 a2.Shards, Zs]) z z (by kernel_rfl) ?_)))))))))))
 obtain ⟨b862, w863, ew864, eb865, hst⟩ := hst.box [Zu, Zu, Zi, Zu, Zu, Zu, Zs] 89
 refine wl_run (v := Pt b862 0) (w' := w863) z z (x_al (by kernel_rfl) ew864 eb865) ?_
 obtain ⟨w867, hr868, hst⟩ := hst.bx [U6 a2.ID.Session, U6 a2.ID.Seq, I6 a2.R.E, U6 a2.Epoch, U6 a1, U6 a2.Shards, Zs] sizeOf89 z (oC z (oC z (oC z (oC z (oC z (oC z (oC z oN))))))) (by kernel_rfl)
 refine wl_unit z z (x_unit hr868) ?_
 refine wl_nil (tn (wp_seq (wp_seq (wrl (wv (Pt b617 0) z z (x_field z underlying33 z sizeOf29 z) (wv (.int .i64 a2.R.E) z z (x_load z isAgg29 (hst.bc11 z)) (wv (.bool (a2.R.E == (0:Int))) z z z (wl_nil (tn ?_)))))))))
 refine wp_ift (cvb hc643) ?_
 refine wrl (wv (Pt b603 20) z z (x_field z underlying49 z sizeOf47 z) (wv (r2_7) z z (x_load z isAgg47 (hst.bc9 z)) ?_))
 obtain ⟨t869, ht870, hm⟩ := bind_some hm
 refine wc call126 [r2_7] z z z ?_
 refine (slices_Clone_api_Part_api_Part_ref (RdO.of_ro f2_7 _) hst.to0 ht870).mono ?_
 rintro _ w871 ⟨v874, rfl, hst⟩
 refine ⟨_, z, ?_⟩
 replace hst := hst.of1
 refine wv (Pt b862 6) z z (x_field z underlying89 z sizeOf47 z) ?_
 replace hst := hst.pull1
 obtain ⟨w876, hr877, hst⟩ := hst.boxStore1 (P := prog) (t := 47) (cs' := [U6 a2.ID.Session, U6 a2.ID.Seq, I6 a2.R.E, U6 a2.Epoch, U6 a1, U6 a2.Shards, v874]) 6 v874 (one_of_sliceV hst.sv1) sizeOf47 z z
 refine wl_unit z z (x_unit hr877) ?_
 refine wl_nil (tn (wp_seq (wrl (wv (Pt b628 0) z z z (wv (Pt b603 1) z z (x_field z underlying49 z sizeOf28 z) (wv (.agg #[U6 a2.ID.Session, U6 a2.ID.Seq]) z z (x_loadN (cs := [U6 a2.ID.Session, U6 a2.ID.Seq]) z isAgg28 sizeOf28 (hst.bcs10 1 z)) ?_))))))
 replace hst := hst.pull9.pull9.pull9.pull9.pull6.pull9.pull9.pull9
 replace hst := at_lane_State_close (pv := Pt b628 0) (x := ({ wide := o0.wide, epoch := o0.epoch, store := o0.store, locks := o0.locks, last := t836.2, book := o0.book, open_ := o0.open_, out := o0.out, used := o0.used } : lane_State)) hst z
 replace hst := objO_some hst
 obtain ⟨t878, ht879, hm⟩ := bind_some hm
 refine wc call51 [Pt b628 0, .agg #[U6 a2.ID.Session, U6 a2.ID.Seq]] z z z ?_
 refine (lane_State_find_ref hst.to1 ht879).mono ?_
 rintro _ w880 ⟨rfl, hst⟩
 refine ⟨_, z, ?_⟩
 replace hst := hst.of1
 replace hst := objO_get hst
 refine wv (.tuple #[I6 t878.1, .bool t878.2]) z z z (wv (.int .i64 t878.1) z z z (wv (.bool t878.2) z z z (wv (.int .i64 t878.1) z z z (wv (.bool t878.2) z z z (wl_nil (tn ?_))))))
 obtain ⟨b883, v884, v886, v888, v890, v892, v894, v896, e898, hst'⟩ := at_lane_State_open hst
 clear hst
 have e898 := ptr_inj e898
 subst e898
 have hst := hst'
 clear hst'
 refine wp_region_St hst 12 [0, 1, 2, 3, 4, 5, 6, 7, 8, 9, 10, 11] [0, 0, 2, 6, 14, 0, 0, 64, 254, 511, 1023, 2047] [] z (by kernel_rfl) (by kernel_rfl) Tryz.mixed (by kernel_rfl) ?_
 refine wsr (Pt b628 0) 0 z z z (by kernel_rfl) (fun w hst => z) (wsr (Pt b628 0) 1 z z z (by kernel_rfl) (fun w hst => z) (wsr (Pt b628 0) 2 z z z (by kernel_rfl) (fun w hst => z) (wsr (Pt b628 6) 3 z z z (by kernel_rfl) (fun w hst => x_field z underlying111 z sizeOf65 z) (wsr (v892) 4 z z z (by kernel_rfl) (fun w hst => x_load z isAgg65 (hst.bc0 z)) (wsr (.int .i64 t878.1) 5 z z z (by kernel_rfl) (fun w hst => z) (wsr (.agg #[U6 a2.ID.Session, U6 a2.ID.Seq, I6 a2.R.E, U6 a2.Epoch, U6 a1, U6 a2.Shards, v874]) 6 z z z (by kernel_rfl) (fun w hst => x_loadN (cs := [U6 a2.ID.Session, U6 a2.ID.Seq, I6 a2.R.E, U6 a2.Epoch, U6 a1, U6 a2.Shards, v874]) z isAgg89 sizeOf89 (hst.bcs8 0 z)) ?_))))))
 refine ws_e1 7 (by kernel_rfl) ?_
 refine nxe [8, 9, 10, 11] (by kernel_rfl) z z ?_
 clear hst
 intro w hst
 replace hst := hst.pull9
 obtain ⟨I900, hI901, f902, hst⟩ := hst.own_fix
 replace f2_0 := f2_0.mono (ro_le hI901)
 replace f2_1 := f2_1.mono (ro_le hI901)
 replace f2_2 := f2_2.mono (ro_le hI901)
 replace f2_3 := f2_3.mono (ro_le hI901)
 replace f2_4 := f2_4.mono (ro_le hI901)
 replace f2_5 := f2_5.mono (ro_le hI901)
 replace f2_6 := f2_6.mono (ro_le hI901)
 replace f2_7 := f2_7.mono (ro_le hI901)
 replace hI0 := hI0.trans hI901
 replace hL923 := hL923.trans hI901
 obtain ⟨b903, w904, ew905, eb906, hst⟩ := hst.lits (E := ty_api_Decision) (xs := [({ ID := a2.ID, E := a2.R.E, Epoch := a2.Epoch, Index := a1, Shards := a2.Shards, Parts := t869 } : api_Decision)]) [[U6 a2.ID.Session, U6 a2.ID.Seq, I6 a2.R.E, U6 a2.Epoch, U6 a1, U6 a2.Shards, v874]] 89 1 z (Reps.cons ⟨_, z, f902, one_of_sliceV (ro_sliceV f902)⟩ Reps.nil)
 refine we_run (v := (.slice (some ⟨b903, 0, none⟩) 1 1)) (w' := w904) z (x_als (by kernel_rfl) ew905 eb906) ?_
 refine ws_next (pend' := [(5, I6 t878.1), (4, v892), (3, Pt b628 6), (2, Pt b628 0), (1, Pt b628 0), (0, Pt b628 0)]) hst (by kernel_rfl) (pkr z z (fun w hst => z) (pkr z z (fun w hst => x_load z isAgg65 (hst.bc1 z)) (pkr z z (fun w hst => x_field z underlying111 z sizeOf65 z) (pkr z z (fun w hst => z) (pkr z z (fun w hst => z) (pkr z z (fun w hst => z) pk_nil)))))) ?_
 refine ws_e1 8 (by kernel_rfl) ?_
 refine nxe [9, 10, 11] (by kernel_rfl) z z ?_
 clear hst
 intro w hst
 replace hst := hst.pull6
 obtain ⟨t908, ht909, hm⟩ := bind_some hm
 refine wec call127 [v892, I6 t878.1, (.slice (some ⟨b903, 0, none⟩) 1 1)] z z ?_
 refine (slices_Insert_api_Decision_api_Decision_ref hst.to2 ht909).mono ?_
 rintro _ w910 ⟨v913, rfl, hst⟩
 refine ⟨_, z, ?_⟩
 replace hst := hst.of1
 refine ws_next (pend' := [(0, Pt b628 0)]) hst (by kernel_rfl) (pkr z z (fun w hst => z) pk_nil) ?_
 refine wsr (Pt b628 0) 9 z z z (by kernel_rfl) (fun w hst => z) (wsr (Pt b628 6) 10 z z z (by kernel_rfl) (fun w hst => x_field z underlying111 z sizeOf65 z) ?_)
 refine ws_e1 11 (by kernel_rfl) ?_
 refine nxe [] (by kernel_rfl) z z ?_
 clear hst
 intro w hst
 replace hst := hst.pull1
 obtain ⟨w915, hr916, hst⟩ := hst.boxStore1 (P := prog) (t := 65) (cs' := [I6 (({ wide := o0.wide, epoch := o0.epoch, store := o0.store, locks := o0.locks, last := t836.2, book := o0.book, open_ := o0.open_, out := o0.out, used := o0.used } : lane_State).wide), U6 (({ wide := o0.wide, epoch := o0.epoch, store := o0.store, locks := o0.locks, last := t836.2, book := o0.book, open_ := o0.open_, out := o0.out, used := o0.used } : lane_State).epoch), v884, v886, v888, v890, v913, v894, v896]) 6 v913 (one_of_sliceV hst.sv1) sizeOf65 z z
 refine we_unit z (x_unit hr916) ?_
 refine ws_next (pend' := []) hst (by kernel_rfl) pk_nil ?_
 refine ws_nil ?_
 intro w hst
 refine tn ?_
 replace hst := hst.pull7.pull7.pull3.pull7.pull7.pull7.pull7.pull7
 replace hst := at_lane_State_close (pv := Pt b628 0) (x := ({ wide := ({ wide := o0.wide, epoch := o0.epoch, store := o0.store, locks := o0.locks, last := t836.2, book := o0.book, open_ := o0.open_, out := o0.out, used := o0.used } : lane_State).wide, epoch := ({ wide := o0.wide, epoch := o0.epoch, store := o0.store, locks := o0.locks, last := t836.2, book := o0.book, open_ := o0.open_, out := o0.out, used := o0.used } : lane_State).epoch, store := ({ wide := o0.wide, epoch := o0.epoch, store := o0.store, locks := o0.locks, last := t836.2, book := o0.book, open_ := o0.open_, out := o0.out, used := o0.used } : lane_State).store, locks := ({ wide := o0.wide, epoch := o0.epoch, store := o0.store, locks := o0.locks, last := t836.2, book := o0.book, open_ := o0.open_, out := o0.out, used := o0.used } : lane_State).locks, last := ({ wide := o0.wide, epoch := o0.epoch, store := o0.store, locks := o0.locks, last := t836.2, book := o0.book, open_ := o0.open_, out := o0.out, used := o0.used } : lane_State).last, book := ({ wide := o0.wide, epoch := o0.epoch, store := o0.store, locks := o0.locks, last := t836.2, book := o0.book, open_ := o0.open_, out := o0.out, used := o0.used } : lane_State).book, open_ := t908, out := ({ wide := o0.wide, epoch := o0.epoch, store := o0.store, locks := o0.locks, last := t836.2, book := o0.book, open_ := o0.open_, out := o0.out, used := o0.used } : lane_State).out, used := ({ wide := o0.wide, epoch := o0.epoch, store := o0.store, locks := o0.locks, last := t836.2, book := o0.book, open_ := o0.open_, out := o0.out, used := o0.used } : lane_State).used } : lane_State)) hst z
 replace hst := hst.pull4.pull4.pull4.keep4
 obtain rfl := some_inj hm
 exact ⟨_, ({ wide := ({ wide := o0.wide, epoch := o0.epoch, store := o0.store, locks := o0.locks, last := t836.2, book := o0.book, open_ := o0.open_, out := o0.out, used := o0.used } : lane_State).wide, epoch := ({ wide := o0.wide, epoch := o0.epoch, store := o0.store, locks := o0.locks, last := t836.2, book := o0.book, open_ := o0.open_, out := o0.out, used := o0.used } : lane_State).epoch, store := ({ wide := o0.wide, epoch := o0.epoch, store := o0.store, locks := o0.locks, last := t836.2, book := o0.book, open_ := o0.open_, out := o0.out, used := o0.used } : lane_State).store, locks := ({ wide := o0.wide, epoch := o0.epoch, store := o0.store, locks := o0.locks, last := t836.2, book := o0.book, open_ := o0.open_, out := o0.out, used := o0.used } : lane_State).locks, last := ({ wide := o0.wide, epoch := o0.epoch, store := o0.store, locks := o0.locks, last := t836.2, book := o0.book, open_ := o0.open_, out := o0.out, used := o0.used } : lane_State).last, book := ({ wide := o0.wide, epoch := o0.epoch, store := o0.store, locks := o0.locks, last := t836.2, book := o0.book, open_ := o0.open_, out := o0.out, used := o0.used } : lane_State).book, open_ := t908, out := ({ wide := o0.wide, epoch := o0.epoch, store := o0.store, locks := o0.locks, last := t836.2, book := o0.book, open_ := o0.open_, out := o0.out, used := o0.used } : lane_State).out, used := ({ wide := o0.wide, epoch := o0.epoch, store := o0.store, locks := o0.locks, last := t836.2, book := o0.book, open_ := o0.open_, out := o0.out, used := o0.used } : lane_State).used } : lane_State), _, hx922, (fu 5 (Pt b603 0) z (fu 6 (Pt b610 0) z (fu 7 (Pt b617 0) z z))), hL923, hst⟩
}
 {
 replace hm := bif_f hc859 hm
 refine wp_iff (cvb hc859) ?_
 refine wp_skip (tn ?_)
 replace hst := hst.pull7.pull7.pull7.pull7.pull4.pull7.pull7.pull7
 replace hst := at_lane_State_close (pv := Pt b628 0) (x := ({ wide := o0.wide, epoch := o0.epoch, store := o0.store, locks := o0.locks, last := t836.2, book := o0.book, open_ := o0.open_, out := o0.out, used := o0.used } : lane_State)) hst z
 replace hst := hst.pull3.pull3.pull3.keep4
 obtain rfl := some_inj hm
 exact ⟨_, ({ wide := o0.wide, epoch := o0.epoch, store := o0.store, locks := o0.locks, last := t836.2, book := o0.book, open_ := o0.open_, out := o0.out, used := o0.used } : lane_State), _, hx922, (fu 5 (Pt b603 0) z (fu 6 (Pt b610 0) z (fu 7 (Pt b617 0) z z))), hL923, hst⟩
}
}
 {
 clear hst
 rintro _ w924 ⟨I918, z917, σ919, hm, rfl, hL920, hst⟩
 dsimp only [lane_State_decide_j4] at hm
 replace f2_0 := f2_0.mono (ro_le hL920)
 replace f2_1 := f2_1.mono (ro_le hL920)
 replace f2_2 := f2_2.mono (ro_le hL920)
 replace f2_3 := f2_3.mono (ro_le hL920)
 replace f2_4 := f2_4.mono (ro_le hL920)
 replace f2_5 := f2_5.mono (ro_le hL920)
 replace f2_6 := f2_6.mono (ro_le hL920)
 replace f2_7 := f2_7.mono (ro_le hL920)
 replace hI0 := hI0.trans hL920
 refine wp_seq (wrl (wv (Pt b603 1) z z (x_field z underlying49 z sizeOf28 z) (wv (.agg #[U6 a2.ID.Session, U6 a2.ID.Seq]) z z (x_loadN (cs := [U6 a2.ID.Session, U6 a2.ID.Seq]) z isAgg28 sizeOf28 (hst.bcs0 1 z)) (wv (.agg #[I6 a2.R.E, U6 a2.Epoch, U6 a1, r2_5, r2_6]) z z (x_loadN (cs := [I6 a2.R.E, U6 a2.Epoch, U6 a1, r2_5, r2_6]) z isAgg33 sizeOf33 (hst.bcs2 0 z)) (wv (.agg #[U1 (4:Int), U6 a2.ID.Session, U6 a2.ID.Seq, I6 a2.R.E, U6 a2.Epoch, U6 a1, r2_5, r2_6]) z z (by obtain ⟨_, _, hv_, _⟩ := (ro_sliceV f2_6); rw [hv_]; obtain ⟨_, _, hv_, _⟩ := (ro_sliceV f2_5); rw [hv_]; kernel_rfl) ?_)))))
 replace hst := hst.pull1
 obtain ⟨w927, hr928, hst⟩ := hst.bx [U1 (4:Int), U6 a2.ID.Session, U6 a2.ID.Seq, I6 a2.R.E, U6 a2.Epoch, U6 a1, r2_5, r2_6] sizeOf35 z (oC z (oC z (oC z (oC z (oC z (oC z (oC (one_of_sliceV (ro_sliceV f2_5)) (oC (one_of_sliceV (ro_sliceV f2_6)) oN)))))))) (by kernel_rfl)
 refine wl_unit z z (x_unit hr928) ?_
 refine wl_nil (tn (wp_ret ?_))
 replace hst := hst.pull3
 replace hst := objO_some hst
 obtain rfl := some_inj hm
 refine post_ret (vs := [.agg #[U1 (4:Int), U6 a2.ID.Session, U6 a2.ID.Seq, I6 a2.R.E, U6 a2.Epoch, U6 a1, r2_5, r2_6]]) results50 (rvs_cons (rv_cell (cs := [U1 (4:Int), U6 a2.ID.Session, U6 a2.ID.Seq, I6 a2.R.E, U6 a2.Epoch, U6 a1, r2_5, r2_6]) z isAgg35 sizeOf35 (hst.bcs1 0 z)) rvs_nil) ?_
 exact ⟨_, r2_5, r2_6, z, hI0, f2_5, f2_6, hst.keep1⟩
}
}
}
}
}
 {
 replace hm := bif_f hc643 hm
 refine wq_off ((wanted_eq z z z (cvb hc643)).trans z) z ?_
 refine wq_off ((wanted_eq z z z (cvb hc643)).trans z) z ?_
 refine wq_off ((wanted_eq z z z (cvb hc643)).trans z) z ?_
 refine wq_off ((wanted_eq z z z (cvb hc643)).trans z) z ?_
 refine wq_off ((wanted_eq z z z (cvb hc643)).trans z) z ?_
 refine wq_off ((wanted_eq z z z (cvb hc643)).trans z) z ?_
 refine wq_off ((wanted_eq z z z (cvb hc643)).trans z) z ?_
 refine wq_run (v := .bool false) z z (fun w hst => x_pick_f hc643 z z) ?_
 refine wq_nil ?_
 intro w hst
 refine tn ?_
 refine wp_iff z ?_
 refine wp_skip (tn ?_)
 obtain ⟨y937, hm, hx938⟩ := joinO_some hm
 refine wp_cut (fun a w => ∃ (σ935 : Nat → Value), (lane_State_decide_j5 o0 a2 a1) () = some r ∧ a = Fr 103 (upd (upd (upd (upd (upd σ935 0 (Pt b628 0)) 1 (.int .u64 a1)) 5 (Pt b603 0)) 6 (Pt b610 0)) 7 (Pt b617 0)) ∧ St w0 w I [at_lane_State (Pt b628 0) o0, cells b603 [U1 a2.Kind, U6 a2.ID.Session, U6 a2.ID.Seq, U6 a2.Epoch, U6 a2.Index, I6 a2.E, U6 a2.Hold.ID.Session, U6 a2.Hold.ID.Seq, U6 a2.Hold.Epoch, r2_0, r2_1, r2_2, r2_3, r2_4, I6 a2.R.E, U6 a2.R.Epoch, U6 a2.R.Index, r2_5, r2_6, U6 a2.Shards, r2_7, U6 a2.Rule.ID, I6 a2.Rule.From, I6 a2.Rule.To, F6 a2.Rule.Lo, F6 a2.Rule.Hi, U6 a2.Rule.Authority, I6 a2.Rule.Quota, .bool a2.On], cells b610 [Zb, Zu, Zu, Zi, Zu, Zu, Zs, Zs], cells b617 [I6 a2.R.E, U6 a2.Epoch, U6 a1, r2_5, r2_6]] R) ?_ ?_
 {
 refine wp_seq (wrl (wv (Pt b617 0) z z (x_field z underlying33 z sizeOf29 z) (wv (.int .i64 a2.R.E) z z (x_load z isAgg29 (hst.bc8 z)) (wv (.bool (a2.R.E != (0:Int))) z z z (wv (.bool (a2.R.E != (0:Int))) z z z ?_)))))
 refine bsplit (a2.R.E != (0:Int)) (fun hc929 => ?_) (fun hc929 => ?_)
 {
 replace hm := bif_t hc929 hm
 refine wv (Pt b603 1) ((wanted_eq z z z (cvb hc929)).trans z) z (x_field z underlying49 z sizeOf28 z) (wv (Pt b603 1) ((wanted_eq z z z (cvb hc929)).trans z) z (x_field z underlying28 z sizeOf26 z) (wv (.int .u64 a2.ID.Session) ((wanted_eq z z z (cvb hc929)).trans z) z (x_load z isAgg26 (hst.bc10 z)) (wv (.bool (decide (a2.ID.Session ≥ (9223372036854775808:Int)))) ((wanted_eq z z z (cvb hc929)).trans z) z z (wv (.bool (decide (a2.ID.Session ≥ (9223372036854775808:Int)))) z z (x_pick_t hc929 z z) (wl_nil (tn ?_))))))
 refine bsplit (decide (a2.ID.Session ≥ (9223372036854775808:Int))) (fun hc930 => ?_) (fun hc930 => ?_)
 {
 replace hm := bif_t hc930 hm
 refine wp_ift (cvb hc930) ?_
 refine wp_seq (wrl (wv (.agg #[Zb, Zu, Zu, Zi, Zu, Zu, Zs, Zs]) z z (by kernel_rfl) ?_))
 replace hst := hst.pull9
 obtain ⟨w933, hr934, hst⟩ := hst.bx [Zb, Zu, Zu, Zi, Zu, Zu, Zs, Zs] sizeOf35 z (oC z (oC z (oC z (oC z (oC z (oC z (oC z (oC z oN)))))))) (by kernel_rfl)
 refine wl_unit z z (x_unit hr934) ?_
 refine wl_nil (tn (wp_ret (then_r ?_)))
 replace hm := inr_up hm hx938
 have f935 : Ro ty_api_Got I (.slice none 0 0) [] := ro_nil
 have f936 : Ro (tySl ty_api_Pair) I (.slice none 0 0) [] := ro_nil
 replace hst := hst.pull8.pull8.pull8.pull8.pull8.pull8.pull8.pull8
 replace hst := at_lane_State_close (pv := Pt b628 0) (x := o0) hst z
 replace hst := objO_some hst
 obtain rfl := some_inj hm
 refine post_ret (vs := [.agg #[Zb, Zu, Zu, Zi, Zu, Zu, Zs, Zs]]) results50 (rvs_cons (rv_cell (cs := [Zb, Zu, Zu, Zi, Zu, Zu, Zs, Zs]) z isAgg35 sizeOf35 (hst.bcs1 0 z)) rvs_nil) ?_
 exact ⟨_, Zs, Zs, z, hI0, f935, f936, hst.keep1⟩
}
 {
 replace hm := bif_f hc930 hm
 refine wp_iff (cvb hc930) ?_
 refine wp_skip (tn ?_)
 replace hst := hst.pull7.pull7.pull7.pull7.pull7.pull7.pull7.pull7
 replace hst := at_lane_State_close (pv := Pt b628 0) (x := o0) hst z
 replace hst := hst.pull1.pull2.pull3.pull3.keep4
 obtain rfl := some_inj hm
 exact ⟨_, hx938, (fu 0 (Pt b628 0) z (fu 1 (.int .u64 a1) z (fu 5 (Pt b603 0) z (fu 6 (Pt b610 0) z (fu 7 (Pt b617 0) z z))))), hst⟩
}
}
 {
 replace hm := bif_f hc929 hm
 refine wo hc929 z z z z z z (wo hc929 z z z z z z (wo hc929 z z z z z z (wo hc929 z z z z z z (wv (.bool false) z z (x_pick_f hc929 z z) (wl_nil (tn ?_))))))
 refine wp_iff z ?_
 refine wp_skip (tn ?_)
 replace hst := hst.pull7.pull7.pull7.pull7.pull7.pull7.pull7.pull7
 replace hst := at_lane_State_close (pv := Pt b628 0) (x := o0) hst z
 replace hst := hst.pull1.pull2.pull3.pull3.keep4
 obtain rfl := some_inj hm
 exact ⟨_, hx938, (fu 0 (Pt b628 0) z (fu 1 (.int .u64 a1) z (fu 5 (Pt b603 0) z (fu 6 (Pt b610 0) z (fu 7 (Pt b617 0) z z))))), hst⟩
}
}
 {
 clear hst
 rintro _ w939 ⟨σ935, hm, rfl, hst⟩
 dsimp only [lane_State_decide_j5] at hm
 refine wp_seq (wp_seq ?_)
 obtain ⟨b940, v941, v943, v945, v947, v949, v951, v953, e955, hst'⟩ := at_lane_State_open hst
 clear hst
 have e955 := ptr_inj e955
 subst e955
 have hst := hst'
 clear hst'
 refine wp_region_St hst 13 [0, 1, 2, 3, 4, 5, 6, 7, 8, 9, 10, 11, 12] [0, 1, 3, 7, 0, 16, 48, 0, 128, 384, 0, 2047, 4095] [] z (by kernel_rfl) (by kernel_rfl) Tryz.mixed (by kernel_rfl) ?_
 refine wsr (Pt b628 0) 0 z z z (by kernel_rfl) (fun w hst => z) (wsr (Pt b628 0) 1 z z z (by kernel_rfl) (fun w hst => z) (wsr (Pt b628 4) 2 z z z (by kernel_rfl) (fun w hst => x_field z underlying111 z sizeOf105 z) (wsr (v945) 3 z z z (by kernel_rfl) (fun w hst => x_load z isAgg105 (hst.bc0 z)) (wsr (Pt b603 1) 4 z z z (by kernel_rfl) (fun w hst => x_field z underlying49 z sizeOf28 z) (wsr (Pt b603 1) 5 z z z (by kernel_rfl) (fun w hst => x_field z underlying28 z sizeOf26 z) (wsr (.int .u64 a2.ID.Session) 6 z z z (by kernel_rfl) (fun w hst => x_load z isAgg26 (hst.bc8 z)) (wsr (Pt b603 1) 7 z z z (by kernel_rfl) (fun w hst => x_field z underlying49 z sizeOf28 z) (wsr (Pt b603 2) 8 z z z (by kernel_rfl) (fun w hst => x_field z underlying28 z sizeOf26 z) (wsr (.int .u64 a2.ID.Seq) 9 z z z (by kernel_rfl) (fun w hst => x_load z isAgg26 (hst.bc8 z)) (wsr (.agg #[I6 a2.R.E, U6 a2.Epoch, U6 a1, r2_5, r2_6]) 10 z z z (by kernel_rfl) (fun w hst => x_loadN (cs := [I6 a2.R.E, U6 a2.Epoch, U6 a1, r2_5, r2_6]) z isAgg33 sizeOf33 (hst.bcs10 0 z)) ?_))))))))))
 refine ws_e1 11 (by kernel_rfl) ?_
 refine nxe [12] (by kernel_rfl) z z ?_
 clear hst
 intro w hst
 replace hst := hst.pull3
 obtain ⟨t956, ht957, hm⟩ := bind_some hm
 refine wec call124 [v945, U6 a2.ID.Session, U6 a2.ID.Seq, .agg #[I6 a2.R.E, U6 a2.Epoch, U6 a1, r2_5, r2_6]] z z ?_
 refine (session_Table_Put_ref (a3 := ({ E := a2.R.E, Epoch := a2.Epoch, Index := a1, Gots := a2.R.Gots, Scans := a2.R.Scans } : api_Reply)) f2_5 f2_6 hst.to1 ht957).mono ?_
 rintro _ w958 ⟨rfl, hst⟩
 refine ⟨_, z, ?_⟩
 replace hst := hst.of1
 refine ws_next (pend' := []) hst (by kernel_rfl) pk_nil ?_
 refine wsr (.bool (t956.1 != (0:Int))) 12 z z z (by kernel_rfl) (fun w hst => z) ?_
 refine ws_nil ?_
 intro w hst
 refine tn ?_
 refine bsplit (t956.1 != (0:Int)) (fun hc961 => ?_) (fun hc961 => ?_)
 {
 replace hm := bif_t hc961 hm
 refine wp_ift (cvb hc961) ?_
 refine wp_seq (wrl (wv (Pt b628 0) z z z (wv (Pt b603 1) z z (x_field z underlying49 z sizeOf28 z) (wv (.agg #[U6 a2.ID.Session, U6 a2.ID.Seq]) z z (x_loadN (cs := [U6 a2.ID.Session, U6 a2.ID.Seq]) z isAgg28 sizeOf28 (hst.bcs8 1 z)) ?_))))
 replace hst := hst.pull7.pull7.pull7.pull7.pull4.pull7.pull7.pull7
 replace hst := at_lane_State_close (pv := Pt b628 0) (x := ({ wide := o0.wide, epoch := o0.epoch, store := o0.store, locks := o0.locks, last := t956.2, book := o0.book, open_ := o0.open_, out := o0.out, used := o0.used } : lane_State)) hst z
 replace hst := objO_some hst
 obtain ⟨t962, ht963, hm⟩ := bind_some hm
 refine wc call125 [Pt b628 0, .agg #[U6 a2.ID.Session, U6 a2.ID.Seq]] z z z ?_
 refine (lane_State_late_ref hst.to1 ht963).mono ?_
 rintro _ w964 ⟨v967, v969, rfl, hst⟩
 refine ⟨_, z, ?_⟩
 replace hst := hst.of3.pull2
 replace hst := objO_get hst
 replace hst := hst.pull4
 obtain ⟨w971, hr972, hst⟩ := hst.bx [U1 t962.Kind, U6 t962.ID.Session, U6 t962.ID.Seq, I6 t962.R.E, U6 t962.R.Epoch, U6 t962.R.Index, v967, v969] sizeOf35 z (oC z (oC z (oC z (oC z (oC z (oC z (oC (one_of_sliceV hst.sv2) (oC (one_of_sliceV hst.sv3) oN)))))))) (by kernel_rfl)
 refine wl_unit z z (x_unit hr972) ?_
 refine wl_nil (tn (wp_ret (then_r ?_)))
 replace hst := hst.pull2
 obtain ⟨I973, hI974, f975, hst⟩ := hst.own_fix
 replace f2_0 := f2_0.mono (ro_le hI974)
 replace f2_1 := f2_1.mono (ro_le hI974)
 replace f2_2 := f2_2.mono (ro_le hI974)
 replace f2_3 := f2_3.mono (ro_le hI974)
 replace f2_4 := f2_4.mono (ro_le hI974)
 replace f2_5 := f2_5.mono (ro_le hI974)
 replace f2_6 := f2_6.mono (ro_le hI974)
 replace f2_7 := f2_7.mono (ro_le hI974)
 replace hI0 := hI0.trans hI974
 replace hst := hst.pull2
 obtain ⟨I976, hI977, f978, hst⟩ := hst.own_fix
 replace f2_0 := f2_0.mono (ro_le hI977)
 replace f2_1 := f2_1.mono (ro_le hI977)
 replace f2_2 := f2_2.mono (ro_le hI977)
 replace f2_3 := f2_3.mono (ro_le hI977)
 replace f2_4 := f2_4.mono (ro_le hI977)
 replace f2_5 := f2_5.mono (ro_le hI977)
 replace f2_6 := f2_6.mono (ro_le hI977)
 replace f2_7 := f2_7.mono (ro_le hI977)
 replace f975 := f975.mono (ro_le hI977)
 replace hI0 := hI0.trans hI977
 replace hst := hst.pull1
 replace hst := objO_some hst
 obtain rfl := some_inj hm
 refine post_ret (vs := [.agg #[U1 t962.Kind, U6 t962.ID.Session, U6 t962.ID.Seq, I6 t962.R.E, U6 t962.R.Epoch, U6 t962.R.Index, v967, v969]]) results50 (rvs_cons (rv_cell (cs := [U1 t962.Kind, U6 t962.ID.Session, U6 t962.ID.Seq, I6 t962.R.E, U6 t962.R.Epoch, U6 t962.R.Index, v967, v969]) z isAgg35 sizeOf35 (hst.bcs1 0 z)) rvs_nil) ?_
 exact ⟨_, v967, v969, z, hI0, f975, f978, hst.keep1⟩
}
 {
 replace hm := bif_f hc961 hm
 refine wp_iff (cvb hc961) ?_
 refine wp_skip (tn ?_)
 obtain ⟨y1029, hm, hx1030⟩ := bind_some hm
 refine wp_cut (fun a w => ∃ (z1026 : lane_State) (σ1027 : Nat → Value), (lane_State_decide_j6 a2 a1) z1026 = some r ∧ a = Fr 103 (upd (upd (upd σ1027 5 (Pt b603 0)) 6 (Pt b610 0)) 7 (Pt b617 0)) ∧ St w0 w I [cells b603 [U1 a2.Kind, U6 a2.ID.Session, U6 a2.ID.Seq, U6 a2.Epoch, U6 a2.Index, I6 a2.E, U6 a2.Hold.ID.Session, U6 a2.Hold.ID.Seq, U6 a2.Hold.Epoch, r2_0, r2_1, r2_2, r2_3, r2_4, I6 a2.R.E, U6 a2.R.Epoch, U6 a2.R.Index, r2_5, r2_6, U6 a2.Shards, r2_7, U6 a2.Rule.ID, I6 a2.Rule.From, I6 a2.Rule.To, F6 a2.Rule.Lo, F6 a2.Rule.Hi, U6 a2.Rule.Authority, I6 a2.Rule.Quota, .bool a2.On], cells b610 [Zb, Zu, Zu, Zi, Zu, Zu, Zs, Zs], cells b617 [I6 a2.R.E, U6 a2.Epoch, U6 a1, r2_5, r2_6], at_lane_State (Pt b628 0) z1026] R) ?_ ?_
 {
 refine wp_seq (wrl (wv (Pt b603 19) z z (x_field z underlying49 z sizeOf26 z) (wv (.int .u64 a2.Shards) z z (x_load z isAgg26 (hst.bc8 z)) (wv (.bool (a2.Shards != (0:Int))) z z z (wl_nil (tn ?_))))))
 refine bsplit (a2.Shards != (0:Int)) (fun hc979 => ?_) (fun hc979 => ?_)
 {
 replace hm := bif_t hc979 hm
 refine wp_ift (cvb hc979) ?_
 refine wp_seq (wrl (wv (Pt b603 1) z z (x_field z underlying49 z sizeOf28 z) (wv (.agg #[U6 a2.ID.Session, U6 a2.ID.Seq]) z z (x_loadN (cs := [U6 a2.ID.Session, U6 a2.ID.Seq]) z isAgg28 sizeOf28 (hst.bcs8 1 z)) (wv (Pt b617 0) z z (x_field z underlying33 z sizeOf29 z) (wv (.int .i64 a2.R.E) z z (x_load z isAgg29 (hst.bc10 z)) (wv (Pt b603 3) z z (x_field z underlying49 z sizeOf26 z) (wv (.int .u64 a2.Epoch) z z (x_load z isAgg26 (hst.bc8 z)) (wv (.int .u64 a1) z z z (wv (Pt b603 19) z z (x_field z underlying49 z sizeOf26 z) (wv (.int .u64 a2.Shards) z z (x_load z isAgg26 (hst.bc8 z)) (wv (.agg #[U6 a2.ID.Session, U6 a2.ID.Seq, I6 a2.R.E, U6 a2.Epoch, U6 a1, U6 a2.Shards, Zs]) z z (by kernel_rfl) ?_)))))))))))
 obtain ⟨b982, w983, ew984, eb985, hst⟩ := hst.box [Zu, Zu, Zi, Zu, Zu, Zu, Zs] 89
 refine wl_run (v := Pt b982 0) (w' := w983) z z (x_al (by kernel_rfl) ew984 eb985) ?_
 obtain ⟨w987, hr988, hst⟩ := hst.bx [U6 a2.ID.Session, U6 a2.ID.Seq, I6 a2.R.E, U6 a2.Epoch, U6 a1, U6 a2.Shards, Zs] sizeOf89 z (oC z (oC z (oC z (oC z (oC z (oC z (oC z oN))))))) (by kernel_rfl)
 refine wl_unit z z (x_unit hr988) ?_
 refine wl_nil (tn (wp_seq (wp_seq (wrl (wv (Pt b617 0) z z (x_field z underlying33 z sizeOf29 z) (wv (.int .i64 a2.R.E) z z (x_load z isAgg29 (hst.bc11 z)) (wv (.bool (a2.R.E == (0:Int))) z z z (wl_nil (tn ?_)))))))))
 refine wp_iff (cvb hc643) ?_
 refine wp_skip (tn (wp_seq (wrl ?_)))
 refine wv (Pt b628 0) z z z (wv (Pt b603 1) z z (x_field z underlying49 z sizeOf28 z) (wv (.agg #[U6 a2.ID.Session, U6 a2.ID.Seq]) z z (x_loadN (cs := [U6 a2.ID.Session, U6 a2.ID.Seq]) z isAgg28 sizeOf28 (hst.bcs9 1 z)) ?_))
 replace hst := hst.pull8.pull8.pull8.pull8.pull5.pull8.pull8.pull8
 replace hst := at_lane_State_close (pv := Pt b628 0) (x := ({ wide := o0.wide, epoch := o0.epoch, store := o0.store, locks := o0.locks, last := t956.2, book := o0.book, open_ := o0.open_, out := o0.out, used := o0.used } : lane_State)) hst z
 replace hst := objO_some hst
 obtain ⟨t989, ht990, hm⟩ := bind_some hm
 refine wc call51 [Pt b628 0, .agg #[U6 a2.ID.Session, U6 a2.ID.Seq]] z z z ?_
 refine (lane_State_find_ref hst.to1 ht990).mono ?_
 rintro _ w991 ⟨rfl, hst⟩
 refine ⟨_, z, ?_⟩
 replace hst := hst.of1
 replace hst := objO_get hst
 refine wv (.tuple #[I6 t989.1, .bool t989.2]) z z z (wv (.int .i64 t989.1) z z z (wv (.bool t989.2) z z z (wv (.int .i64 t989.1) z z z (wv (.bool t989.2) z z z (wl_nil (tn ?_))))))
 obtain ⟨b994, v995, v997, v999, v1001, v1003, v1005, v1007, e1009, hst'⟩ := at_lane_State_open hst
 clear hst
 have e1009 := ptr_inj e1009
 subst e1009
 have hst := hst'
 clear hst'
 refine wp_region_St hst 12 [0, 1, 2, 3, 4, 5, 6, 7, 8, 9, 10, 11] [0, 0, 2, 6, 14, 0, 0, 64, 254, 511, 1023, 2047] [] z (by kernel_rfl) (by kernel_rfl) Tryz.mixed (by kernel_rfl) ?_
 refine wsr (Pt b628 0) 0 z z z (by kernel_rfl) (fun w hst => z) (wsr (Pt b628 0) 1 z z z (by kernel_rfl) (fun w hst => z) (wsr (Pt b628 0) 2 z z z (by kernel_rfl) (fun w hst => z) (wsr (Pt b628 6) 3 z z z (by kernel_rfl) (fun w hst => x_field z underlying111 z sizeOf65 z) (wsr (v1003) 4 z z z (by kernel_rfl) (fun w hst => x_load z isAgg65 (hst.bc0 z)) (wsr (.int .i64 t989.1) 5 z z z (by kernel_rfl) (fun w hst => z) (wsr (.agg #[U6 a2.ID.Session, U6 a2.ID.Seq, I6 a2.R.E, U6 a2.Epoch, U6 a1, U6 a2.Shards, Zs]) 6 z z z (by kernel_rfl) (fun w hst => x_loadN (cs := [U6 a2.ID.Session, U6 a2.ID.Seq, I6 a2.R.E, U6 a2.Epoch, U6 a1, U6 a2.Shards, Zs]) z isAgg89 sizeOf89 (hst.bcs8 0 z)) ?_))))))
 refine ws_e1 7 (by kernel_rfl) ?_
 refine nxe [8, 9, 10, 11] (by kernel_rfl) z z ?_
 clear hst
 intro w hst
 have f1011 : Ro ty_api_Part I (.slice none 0 0) [] := ro_nil
 obtain ⟨b1012, w1013, ew1014, eb1015, hst⟩ := hst.lits (E := ty_api_Decision) (xs := [({ ID := a2.ID, E := a2.R.E, Epoch := a2.Epoch, Index := a1, Shards := a2.Shards, Parts := [] } : api_Decision)]) [[U6 a2.ID.Session, U6 a2.ID.Seq, I6 a2.R.E, U6 a2.Epoch, U6 a1, U6 a2.Shards, Zs]] 89 1 z (Reps.cons ⟨_, z, f1011, one_of_sliceV (ro_sliceV f1011)⟩ Reps.nil)
 refine we_run (v := (.slice (some ⟨b1012, 0, none⟩) 1 1)) (w' := w1013) z (x_als (by kernel_rfl) ew1014 eb1015) ?_
 refine ws_next (pend' := [(5, I6 t989.1), (4, v1003), (3, Pt b628 6), (2, Pt b628 0), (1, Pt b628 0), (0, Pt b628 0)]) hst (by kernel_rfl) (pkr z z (fun w hst => z) (pkr z z (fun w hst => x_load z isAgg65 (hst.bc1 z)) (pkr z z (fun w hst => x_field z underlying111 z sizeOf65 z) (pkr z z (fun w hst => z) (pkr z z (fun w hst => z) (pkr z z (fun w hst => z) pk_nil)))))) ?_
 refine ws_e1 8 (by kernel_rfl) ?_
 refine nxe [9, 10, 11] (by kernel_rfl) z z ?_
 clear hst
 intro w hst
 replace hst := hst.pull6
 obtain ⟨t1017, ht1018, hm⟩ := bind_some hm
 refine wec call127 [v1003, I6 t989.1, (.slice (some ⟨b1012, 0, none⟩) 1 1)] z z ?_
 refine (slices_Insert_api_Decision_api_Decision_ref hst.to2 ht1018).mono ?_
 rintro _ w1019 ⟨v1022, rfl, hst⟩
 refine ⟨_, z, ?_⟩
 replace hst := hst.of1
 refine ws_next (pend' := [(0, Pt b628 0)]) hst (by kernel_rfl) (pkr z z (fun w hst => z) pk_nil) ?_
 refine wsr (Pt b628 0) 9 z z z (by kernel_rfl) (fun w hst => z) (wsr (Pt b628 6) 10 z z z (by kernel_rfl) (fun w hst => x_field z underlying111 z sizeOf65 z) ?_)
 refine ws_e1 11 (by kernel_rfl) ?_
 refine nxe [] (by kernel_rfl) z z ?_
 clear hst
 intro w hst
 replace hst := hst.pull1
 obtain ⟨w1024, hr1025, hst⟩ := hst.boxStore1 (P := prog) (t := 65) (cs' := [I6 (({ wide := o0.wide, epoch := o0.epoch, store := o0.store, locks := o0.locks, last := t956.2, book := o0.book, open_ := o0.open_, out := o0.out, used := o0.used } : lane_State).wide), U6 (({ wide := o0.wide, epoch := o0.epoch, store := o0.store, locks := o0.locks, last := t956.2, book := o0.book, open_ := o0.open_, out := o0.out, used := o0.used } : lane_State).epoch), v995, v997, v999, v1001, v1022, v1005, v1007]) 6 v1022 (one_of_sliceV hst.sv1) sizeOf65 z z
 refine we_unit z (x_unit hr1025) ?_
 refine ws_next (pend' := []) hst (by kernel_rfl) pk_nil ?_
 refine ws_nil ?_
 intro w hst
 refine tn ?_
 replace hst := hst.pull7.pull7.pull3.pull7.pull7.pull7.pull7.pull7
 replace hst := at_lane_State_close (pv := Pt b628 0) (x := ({ wide := ({ wide := o0.wide, epoch := o0.epoch, store := o0.store, locks := o0.locks, last := t956.2, book := o0.book, open_ := o0.open_, out := o0.out, used := o0.used } : lane_State).wide, epoch := ({ wide := o0.wide, epoch := o0.epoch, store := o0.store, locks := o0.locks, last := t956.2, book := o0.book, open_ := o0.open_, out := o0.out, used := o0.used } : lane_State).epoch, store := ({ wide := o0.wide, epoch := o0.epoch, store := o0.store, locks := o0.locks, last := t956.2, book := o0.book, open_ := o0.open_, out := o0.out, used := o0.used } : lane_State).store, locks := ({ wide := o0.wide, epoch := o0.epoch, store := o0.store, locks := o0.locks, last := t956.2, book := o0.book, open_ := o0.open_, out := o0.out, used := o0.used } : lane_State).locks, last := ({ wide := o0.wide, epoch := o0.epoch, store := o0.store, locks := o0.locks, last := t956.2, book := o0.book, open_ := o0.open_, out := o0.out, used := o0.used } : lane_State).last, book := ({ wide := o0.wide, epoch := o0.epoch, store := o0.store, locks := o0.locks, last := t956.2, book := o0.book, open_ := o0.open_, out := o0.out, used := o0.used } : lane_State).book, open_ := t1017, out := ({ wide := o0.wide, epoch := o0.epoch, store := o0.store, locks := o0.locks, last := t956.2, book := o0.book, open_ := o0.open_, out := o0.out, used := o0.used } : lane_State).out, used := ({ wide := o0.wide, epoch := o0.epoch, store := o0.store, locks := o0.locks, last := t956.2, book := o0.book, open_ := o0.open_, out := o0.out, used := o0.used } : lane_State).used } : lane_State)) hst z
 replace hst := hst.pull4.pull4.pull4.keep4
 obtain rfl := some_inj hm
 exact ⟨({ wide := ({ wide := o0.wide, epoch := o0.epoch, store := o0.store, locks := o0.locks, last := t956.2, book := o0.book, open_ := o0.open_, out := o0.out, used := o0.used } : lane_State).wide, epoch := ({ wide := o0.wide, epoch := o0.epoch, store := o0.store, locks := o0.locks, last := t956.2, book := o0.book, open_ := o0.open_, out := o0.out, used := o0.used } : lane_State).epoch, store := ({ wide := o0.wide, epoch := o0.epoch, store := o0.store, locks := o0.locks, last := t956.2, book := o0.book, open_ := o0.open_, out := o0.out, used := o0.used } : lane_State).store, locks := ({ wide := o0.wide, epoch := o0.epoch, store := o0.store, locks := o0.locks, last := t956.2, book := o0.book, open_ := o0.open_, out := o0.out, used := o0.used } : lane_State).locks, last := ({ wide := o0.wide, epoch := o0.epoch, store := o0.store, locks := o0.locks, last := t956.2, book := o0.book, open_ := o0.open_, out := o0.out, used := o0.used } : lane_State).last, book := ({ wide := o0.wide, epoch := o0.epoch, store := o0.store, locks := o0.locks, last := t956.2, book := o0.book, open_ := o0.open_, out := o0.out, used := o0.used } : lane_State).book, open_ := t1017, out := ({ wide := o0.wide, epoch := o0.epoch, store := o0.store, locks := o0.locks, last := t956.2, book := o0.book, open_ := o0.open_, out := o0.out, used := o0.used } : lane_State).out, used := ({ wide := o0.wide, epoch := o0.epoch, store := o0.store, locks := o0.locks, last := t956.2, book := o0.book, open_ := o0.open_, out := o0.out, used := o0.used } : lane_State).used } : lane_State), _, hx1030, (fu 5 (Pt b603 0) z (fu 6 (Pt b610 0) z (fu 7 (Pt b617 0) z z))), hst⟩
}
 {
 replace hm := bif_f hc979 hm
 refine wp_iff (cvb hc979) ?_
 refine wp_skip (tn ?_)
 replace hst := hst.pull7.pull7.pull7.pull7.pull4.pull7.pull7.pull7
 replace hst := at_lane_State_close (pv := Pt b628 0) (x := ({ wide := o0.wide, epoch := o0.epoch, store := o0.store, locks := o0.locks, last := t956.2, book := o0.book, open_ := o0.open_, out := o0.out, used := o0.used } : lane_State)) hst z
 replace hst := hst.pull3.pull3.pull3.keep4
 obtain rfl := some_inj hm
 exact ⟨({ wide := o0.wide, epoch := o0.epoch, store := o0.store, locks := o0.locks, last := t956.2, book := o0.book, open_ := o0.open_, out := o0.out, used := o0.used } : lane_State), _, hx1030, (fu 5 (Pt b603 0) z (fu 6 (Pt b610 0) z (fu 7 (Pt b617 0) z z))), hst⟩
}
}
 {
 clear hst
 rintro _ w1031 ⟨z1026, σ1027, hm, rfl, hst⟩
 dsimp only [lane_State_decide_j6] at hm
 refine wp_seq (wrl (wv (Pt b603 1) z z (x_field z underlying49 z sizeOf28 z) (wv (.agg #[U6 a2.ID.Session, U6 a2.ID.Seq]) z z (x_loadN (cs := [U6 a2.ID.Session, U6 a2.ID.Seq]) z isAgg28 sizeOf28 (hst.bcs0 1 z)) (wv (.agg #[I6 a2.R.E, U6 a2.Epoch, U6 a1, r2_5, r2_6]) z z (x_loadN (cs := [I6 a2.R.E, U6 a2.Epoch, U6 a1, r2_5, r2_6]) z isAgg33 sizeOf33 (hst.bcs2 0 z)) (wv (.agg #[U1 (4:Int), U6 a2.ID.Session, U6 a2.ID.Seq, I6 a2.R.E, U6 a2.Epoch, U6 a1, r2_5, r2_6]) z z (by obtain ⟨_, _, hv_, _⟩ := (ro_sliceV f2_6); rw [hv_]; obtain ⟨_, _, hv_, _⟩ := (ro_sliceV f2_5); rw [hv_]; kernel_rfl) ?_)))))
 replace hst := hst.pull1
 obtain ⟨w1034, hr1035, hst⟩ := hst.bx [U1 (4:Int), U6 a2.ID.Session, U6 a2.ID.Seq, I6 a2.R.E, U6 a2.Epoch, U6 a1, r2_5, r2_6] sizeOf35 z (oC z (oC z (oC z (oC z (oC z (oC z (oC (one_of_sliceV (ro_sliceV f2_5)) (oC (one_of_sliceV (ro_sliceV f2_6)) oN)))))))) (by kernel_rfl)
 refine wl_unit z z (x_unit hr1035) ?_
 refine wl_nil (tn (wp_ret ?_))
 replace hst := hst.pull3
 replace hst := objO_some hst
 obtain rfl := some_inj hm
 refine post_ret (vs := [.agg #[U1 (4:Int), U6 a2.ID.Session, U6 a2.ID.Seq, I6 a2.R.E, U6 a2.Epoch, U6 a1, r2_5, r2_6]]) results50 (rvs_cons (rv_cell (cs := [U1 (4:Int), U6 a2.ID.Session, U6 a2.ID.Seq, I6 a2.R.E, U6 a2.Epoch, U6 a1, r2_5, r2_6]) z isAgg35 sizeOf35 (hst.bcs1 0 z)) rvs_nil) ?_
 exact ⟨_, r2_5, r2_6, z, hI0, f2_5, f2_6, hst.keep1⟩
}
}
}
}
}
}

theorem slices_Delete_api_Decision_api_Decision_ref {w0 w : World} {I : HL} {R : SP} {a0 : (List api_Decision)} {r0_0 : Value} {a1 a2 : Int} (hst : St w0 w I [ownS ty_api_Decision r0_0 a0] R) {r : (List api_Decision)} (hm : slices_Delete_api_Decision_api_Decision a0 a1 a2 = some r) :
  Calls prog 52 #[r0_0, I6 a1, I6 a2] w fun e w' => ∃ (q0_0 : Value), e = .returned (q0_0) ∧ St w0 w' I [ownS ty_api_Decision q0_0 r] R := by {
 unfold slices_Delete_api_Decision_api_Decision at hm
 obtain ⟨hg, hm⟩ := gd_some hm
 obtain rfl := some_inj hm
 obtain ⟨hi0, hi1, hi2⟩ := fits_of hg
 obtain ⟨j, rfl⟩ := Int.eq_ofNat_of_zero_le (Int.le_trans hi0 hi1)
 obtain ⟨k, rfl⟩ := Int.eq_ofNat_of_zero_le hi0
 have hkj : k ≤ j := by omega
 have hs : ∀ w : World, (sizeOf 89).run prog w = .ok ty_api_Decision.sz w := sizeOf89
 obtain ⟨css, hr, hst⟩ := hst.own_open
 obtain ⟨n, hn⟩ : ∃ n, css.length = n := ⟨_, rfl⟩
 have hln : a0.length = n := hr.1.trans hn
 have hjn : j ≤ n := by omega
 have hsv : SliceV r0_0 n := by have := hst.row_form.2; rwa [hn] at this
 have hoc := hr.ones
 refine calls_start (args := [r0_0, I6 (k : Int), I6 (j : Int)]) func52 z ntmps52 (Nat.le_of_ble_eq_true z) ?_
 refine wp_seq (wrl (wv ((.slice none 0 0)) z z z (wl_nil (tn (wp_seq (wrl (wv (r0_0) z z z (wv (.int .i64 (k : Int)) z z z (wv (.int .i64 (j : Int)) z z z (wv (r0_0) z z z (wv (.int .i64 (n : Int)) z z (x_len z underlying65 hsv) ?_)))))))))))
 refine wl_ex z z (x_slice3 underlying65 hs z hsv z z z hkj hjn) fun v3 => ?_
 refine wl_nil (tn (wp_seq (wp_seq (wrl (wv (.int .i64 (k : Int)) z z z (wv (.int .i64 (j : Int)) z z z (wv (.bool ((k : Int) == (j : Int))) z z z (wl_nil (tn ?_)))))))))
 refine bsplit ((k : Int) == (j : Int)) (fun hc163 => ?_) (fun hc163 => ?_)
 {
 refine wp_ift (cvb hc163) ?_
 refine wp_seq (wrl (wv (r0_0) z z z (wv (r0_0) z z z (wl_nil (tn (wp_ret (then_r ?_)))))))
 refine post_ret (vs := [r0_0]) results52 (rvs_cons (rv_tmp z) rvs_nil) ?_
 rw [del_nil hc163]
 exact ⟨_, z, (hst.own_close hr).keep1⟩
}
 {
 refine wp_iff (cvb hc163) ?_
 have hne : ¬ ((k : Int) = (j : Int)) := by simpa using hc163
 have hlt : k < j := by omega
 refine wp_skip (tn (wp_seq (wrl ?_)))
 refine wv (r0_0) z z z (wv (.int .i64 (n : Int)) z z (x_len z underlying65 hsv) (wv (.int .i64 (n : Int)) z z z (wl_nil (tn (wp_seq ?_)))))
 refine wp_region_St hst 8 [0, 1, 2, 3, 4, 5, 6, 7] [0, 0, 3, 0, 0, 24, 63, 127] [7] z (by kernel_rfl) (by kernel_rfl) Tryz.mixed (by kernel_rfl) ?_
 refine wsr (r0_0) 0 z z z (by kernel_rfl) (fun w hst => z) (wsr (.int .i64 (k : Int)) 1 z z z (by kernel_rfl) (fun w hst => z) (wsr ((slcV ty_api_Decision.sz r0_0 0 k)) 2 z z z (by kernel_rfl) (fun w hst => x_slice (lo := (0 : Nat)) (hi := (k : Nat)) underlying65 hs z hsv (by omega) (by omega) (by omega) .i64 .i64 (.inr ⟨z, z⟩) (.inl z)) (wsr (r0_0) 3 z z z (by kernel_rfl) (fun w hst => z) (wsr (.int .i64 (j : Int)) 4 z z z (by kernel_rfl) (fun w hst => z) (wsr ((slcV ty_api_Decision.sz r0_0 j n)) 5 z z z (by kernel_rfl) (fun w hst => x_slice (lo := (j : Nat)) (hi := (n : Nat)) underlying65 hs z hsv (by omega) (by omega) (by omega) .i64 .i64 (.inl z) (.inr ⟨z, z⟩)) ?_)))))
 refine ws_e1 6 (by kernel_rfl) ?_
 refine nxe [7] (by kernel_rfl) z z ?_
 clear hst
 intro w hst
 obtain ⟨w2, hra, hst⟩ := run_appDel (P := prog) underlying65 hs hst hn hlt hjn hoc 65
 refine we_run (v := (slcV ty_api_Decision.sz r0_0 0 (k + (n - j)))) (w' := w2) z (x_append z z hra) ?_
 have hnl := (show _ from hst)
 clear hnl
 have hn2 : (css.take k ++ (css.drop j ++ css.drop (k + (n - j)))).length = n := by simp only [List.length_append, List.length_take, List.length_drop]; omega
 have hsm := row_slc hst hn2 (m := (k + (n - j))) (by omega)
 refine ws_next (pend' := []) hst (by kernel_rfl) pk_nil ?_
 refine ws_e1 7 (by kernel_rfl) ?_
 refine nxe [] (by kernel_rfl) z z ?_
 clear hst
 intro w hst
 refine we_run (v := (slcV ty_api_Decision.sz r0_0 0 (k + (n - j)))) (w' := w) z z ?_
 refine ws_next (pend' := []) hst (by kernel_rfl) pk_nil ?_
 refine ws_nil ?_
 intro w hst
 refine tn (wp_seq (wrl (wv ((slcV ty_api_Decision.sz r0_0 0 (k + (n - j)))) z z z (wv ((slcV ty_api_Decision.sz r0_0 0 (k + (n - j)))) z z z (wv (.int .i64 (((k + (n - j)) : Nat) : Int)) z z (x_len z underlying65 hsm) (wv (.int .i64 (n : Int)) z z z (wv ((slcV ty_api_Decision.sz r0_0 (k + (n - j)) n)) z z (x_sliceRe underlying65 hs z hsv z z (by omega) (by omega)) ?_)))))))
 obtain ⟨w3, hrc, hst⟩ := run_clear elem_65 z (ones_of (by kernel_rfl)) hst hn2 (m := (k + (n - j))) (by omega) 0
 refine wl_run0 z z (x_clear z hrc) ?_
 refine wl_nil (tn (wp_seq (wrl (wv ((slcV ty_api_Decision.sz r0_0 0 (k + (n - j)))) z z z (wv ((slcV ty_api_Decision.sz r0_0 0 (k + (n - j)))) z z z (wl_nil (tn (wp_ret ?_))))))))
 refine post_ret (vs := [(slcV ty_api_Decision.sz r0_0 0 (k + (n - j)))]) results52 (rvs_cons (rv_tmp z) rvs_nil) ?_
 replace hst := hst.row_part (l := 0) (h := (k + (n - j))) (Nat.zero_le _) (by simp only [List.length_append, List.length_take, List.length_drop, List.length_replicate]; omega)
 rw [del_rows hn hlt hjn (List.length_replicate ..)] at hst
 exact ⟨_, z, (hst.own_close ((hr.take k).app (hr.drop j))).keep1⟩
}
}

theorem policy_Book_Revoke_ref {w0 w : World} {I : HL} {R : SP} {a0 : (Option policy_Book)} {p0 : Value} {a1 : Int} {a2 : Int}  (hst : St w0 w I [objO at_policy_Book p0 a0] R) {r : (Bool × (Option policy_Book))} (hm : policy_Book_Revoke a0 a1 a2 = some r) :
  Calls prog 54 #[p0, U6 a1, U6 a2] w fun e w' => e = .returned (.bool r.1) ∧ St w0 w' I [objO at_policy_Book p0 r.2] R := by {
 rcases a0 with _ | o0
 {
 obtain ⟨rfl, hst'⟩ := objO_none hst
 clear hst
 have hst := hst'
 clear hst'
 dsimp only [policy_Book_Revoke] at hm
 refine calls_start (args := [.pointer none, U6 a1, U6 a2]) func54 z ntmps54 (Nat.le_of_ble_eq_true z) ?_
 refine wp_seq (wrl (wv (.bool false) z z z (wl_nil (tn (wp_seq (wp_seq (wrl (wv (.pointer none) z z z (wv (.bool true) z z (by kernel_rfl) (wl_nil (tn ?_)))))))))))
 refine wp_ift z ?_
 refine wp_seq (wrl (wv (.bool false) z z z (wl_nil (tn (wp_ret (then_r ?_))))))
 replace hst := hst.objO_nil at_policy_Book
 obtain rfl := some_inj hm
 refine post_ret (vs := [.bool false]) results54 (rvs_cons (rv_tmp z) rvs_nil) ?_
 exact ⟨z, hst.keep1⟩
}
 {
 replace hst := objO_get hst
 dsimp only [policy_Book_Revoke] at hm
 refine calls_start (args := [p0, U6 a1, U6 a2]) func54 z ntmps54 (Nat.le_of_ble_eq_true z) ?_
 refine wp_seq (wrl (wv (.bool false) z z z (wl_nil (tn (wp_seq (wp_seq (wrl (wv (p0) z z z ?_))))))))
 obtain ⟨b263, v264, rfl, hst'⟩ := at_policy_Book_open hst
 clear hst
 have hst := hst'
 clear hst'
 refine wv (.bool false) z z (by kernel_rfl) (wl_nil (tn ?_))
 refine wp_iff z ?_
 refine wp_skip (tn (wp_seq (wrl ?_)))
 refine wv (.bool false) z z z (wl_nil (tn (wp_seq (wp_seq (wrl (wv (Pt b263 0) z z z (wv (Pt b263 0) z z z (wv (Pt b263 0) z z (x_field z underlying209 z sizeOf207 z) (wv (v264) z z (x_load z isAgg207 (hst.bc0 z)) (wv (.int .i64 ((o0.l).length : Int)) z z (x_len z underlying207 hst.sv1) (wv (.int .i64 (0:Int)) z z z (wl_nil (tn (wp_block ?_))))))))))))))
 replace hst := hst.pull1.pull1
 replace hst := at_policy_Book_close (pv := Pt b263 0) (x := o0) hst z
 obtain ⟨n305, hm⟩ := loopO_some hm
 refine wp_loop_n (fun n a w => ∃ (z301 : policy_Book) (z302 : Int) (z303 : Bool) (σ304 : Nat → Value), loopN (policy_Book_Revoke_l0 o0 a1 a2) n (z301, z302, z303) = some r ∧ a = Fr 52 (upd (upd (upd (upd (upd (upd σ304 0 (Pt b263 0)) 1 (.int .u64 a1)) 2 (.int .u64 a2)) 7 (.bool z303)) 15 (.int .i64 ((o0.l).length : Int))) 16 (.int .i64 z302)) ∧ St w0 w I [at_policy_Book (Pt b263 0) z301] R) n305 ⟨o0, (0:Int), false, _, hm, (fu 0 (Pt b263 0) z (fu 1 (.int .u64 a1) z (fu 2 (.int .u64 a2) z (fu 7 (.bool false) z (fu 15 (.int .i64 ((o0.l).length : Int)) z (fu 16 (.int .i64 (0:Int)) z z)))))), hst⟩ ?_
 rintro n311 _ w306 ⟨z301, z302, z303, σ304, hm, rfl, hst⟩
 obtain ⟨n308, y309, rfl, hm, hx310⟩ := loopN_some hm
 dsimp only [policy_Book_Revoke_l0] at hm
 refine wp_seq (wrl (wv (.bool (decide (z302 < ((o0.l).length : Int)))) z z z (wl_nil (tn (wp_seq ?_)))))
 refine bsplit (decide (z302 < ((o0.l).length : Int))) (fun hc312 => ?_) (fun hc312 => ?_)
 {
 replace hm := bif_t hc312 hm
 refine wp_ift (cvb hc312) ?_
 refine wp_skip (tn (wp_seq (wp_block (wp_seq (wrl ?_)))))
 refine wv (.int .i64 z302) z z z (wv (.int .i64 z302) z z z (wl_nil (tn (wp_seq (wrl (wv (Pt b263 0) z z z ?_))))))
 obtain ⟨b313, v314, e316, hst'⟩ := at_policy_Book_open hst
 clear hst
 have e316 := ptr_inj e316
 subst e316
 have hst := hst'
 clear hst'
 refine wv (Pt b263 0) z z z (wv (Pt b263 0) z z (x_field z underlying209 z sizeOf207 z) (wv (v314) z z (x_load z isAgg207 (hst.bc0 z)) (wv (.int .i64 z302) z z z ?_)))
 obtain ⟨x317, hx318, hm⟩ := bind_some hm
 obtain ⟨h319, h320, hi321⟩ := geto_some hx318
 refine wv (.pointer (some (eAddr v314 (z302.toNat * 9 + 0)))) z z (x_index z z underlying207 sizeOf224 hst.sv1 h319 h320) (wv (.pointer (some (eAddr v314 (z302.toNat * 9 + 0)))) z z (x_field_e z underlying224 z sizeOf39 z) (wv (.pointer (some (eAddr v314 (z302.toNat * 9 + 0)))) z z (x_field_e z underlying39 z sizeOf26 z) (wv (.int .u64 x317.r.ID) z z (x_load z isAgg26 (hst.ol1 hi321 (by rintro _ rfl; rfl))) (wv (.int .u64 a1) z z z (wv (.bool (x317.r.ID == a1)) z z z (wv (.bool (x317.r.ID == a1)) z z z ?_))))))
 refine bsplit (x317.r.ID == a1) (fun hc322 => ?_) (fun hc322 => ?_)
 {
 replace hm := bif_t hc322 hm
 refine wv (Pt b263 0) ((wanted_eq z z z (cvb hc322)).trans z) z z (wv (Pt b263 0) ((wanted_eq z z z (cvb hc322)).trans z) z z (wv (Pt b263 0) ((wanted_eq z z z (cvb hc322)).trans z) z (x_field z underlying209 z sizeOf207 z) (wv (v314) ((wanted_eq z z z (cvb hc322)).trans z) z (x_load z isAgg207 (hst.bc0 z)) (wv (.int .i64 z302) ((wanted_eq z z z (cvb hc322)).trans z) z z (wv (.pointer (some (eAddr v314 (z302.toNat * 9 + 0)))) ((wanted_eq z z z (cvb hc322)).trans z) z (x_index z z underlying207 sizeOf224 hst.sv1 h319 h320) (wv (.pointer (some (eAddr v314 (z302.toNat * 9 + 8)))) ((wanted_eq z z z (cvb hc322)).trans z) z (x_field_e z underlying224 z sizeOf26 z) (wv (.int .u64 x317.to_) ((wanted_eq z z z (cvb hc322)).trans z) z (x_load z isAgg26 (hst.ol1 hi321 (by rintro _ rfl; rfl))) (wv (.bool (x317.to_ == (0:Int))) ((wanted_eq z z z (cvb hc322)).trans z) z z (wv (.bool (x317.to_ == (0:Int))) z z (x_pick_t hc322 z z) (wl_nil (tn ?_)))))))))))
 refine bsplit (x317.to_ == (0:Int)) (fun hc323 => ?_) (fun hc323 => ?_)
 {
 replace hm := bif_t hc323 hm
 refine wp_ift (cvb hc323) ?_
 refine wrl (wv (Pt b263 0) z z z (wv (Pt b263 0) z z z (wv (Pt b263 0) z z (x_field z underlying209 z sizeOf207 z) (wv (v314) z z (x_load z isAgg207 (hst.bc0 z)) (wv (.int .i64 z302) z z z (wv (.int .u64 a2) z z z (wv (.int .u64 (if (1:Int) > a2 then (1:Int) else a2)) z z (by kernel_rfl) (wv (.pointer (some (eAddr v314 (z302.toNat * 9 + 0)))) z z (x_index z z underlying207 sizeOf224 hst.sv1 h319 h320) (wv (.pointer (some (eAddr v314 (z302.toNat * 9 + 8)))) z z (x_field_e z underlying224 z sizeOf26 z) ?_)))))))))
 replace hst := hst.pull1
 obtain ⟨w324, hr325, hst⟩ := hst.own_store (P := prog) (t := 26) (y := ({ r := x317.r, from_ := x317.from_, to_ := (if (1:Int) > a2 then (1:Int) else a2) } : policy_line)) hi321 8 (.int .u64 (if (1:Int) > a2 then (1:Int) else a2)) sizeOf26 (Nat.le_of_ble_eq_true z) (oC z oN) (by rintro _ rfl; rfl)
 have hi326 := set_get hi321 ({ r := x317.r, from_ := x317.from_, to_ := (if (1:Int) > a2 then (1:Int) else a2) } : policy_line)
 have h327 := set_lt h320 z302.toNat ({ r := x317.r, from_ := x317.from_, to_ := (if (1:Int) > a2 then (1:Int) else a2) } : policy_line)
 refine wl_unit z z (x_unit hr325) ?_
 refine wv (.bool true) z z z (wl_nil (blk_n (tn (wrl (wv (.int .i64 (i64.wrap (z302 + (1:Int)))) z z z (wv (.int .i64 (i64.wrap (z302 + (1:Int)))) z z z (wl_nil (tn ?_))))))))
 replace hst := hst.pull1
 replace hst := at_policy_Book_close (pv := Pt b263 0) (x := ({ l := (z301.l.set z302.toNat ({ r := x317.r, from_ := x317.from_, to_ := (if (1:Int) > a2 then (1:Int) else a2) } : policy_line)) } : policy_Book)) hst z
 replace hst := hst.keep1
 obtain rfl := some_inj hm
 exact ⟨_, Nat.lt_succ_self _, ({ l := (z301.l.set z302.toNat ({ r := x317.r, from_ := x317.from_, to_ := (if (1:Int) > a2 then (1:Int) else a2) } : policy_line)) } : policy_Book), (i64.wrap (z302 + (1:Int))), true, _, hx310, (fu 0 (Pt b263 0) z (fu 1 (.int .u64 a1) z (fu 2 (.int .u64 a2) z (fu 7 (.bool true) z (fu 15 (.int .i64 ((o0.l).length : Int)) z (fu 16 (.int .i64 (i64.wrap (z302 + (1:Int)))) z z)))))), hst⟩
}
 {
 replace hm := bif_f hc323 hm
 refine wp_iff (cvb hc323) ?_
 refine wp_skip (blk_n (tn (wrl ?_)))
 refine wv (.int .i64 (i64.wrap (z302 + (1:Int)))) z z z (wv (.int .i64 (i64.wrap (z302 + (1:Int)))) z z z (wl_nil (tn ?_)))
 replace hst := hst.pull1.pull1
 replace hst := at_policy_Book_close (pv := Pt b263 0) (x := z301) hst z
 replace hst := hst.keep1
 obtain rfl := some_inj hm
 exact ⟨_, Nat.lt_succ_self _, z301, (i64.wrap (z302 + (1:Int))), z303, _, hx310, (fu 0 (Pt b263 0) z (fu 1 (.int .u64 a1) z (fu 2 (.int .u64 a2) z (fu 7 (.bool z303) z (fu 15 (.int .i64 ((o0.l).length : Int)) z (fu 16 (.int .i64 (i64.wrap (z302 + (1:Int)))) z z)))))), hst⟩
}
}
 {
 replace hm := bif_f hc322 hm
 refine wo hc322 z z z z z z (wo hc322 z z z z z z (wo hc322 z z z z z z (wo hc322 z z z z z z (wo hc322 z z z z z z (wo hc322 z z z z z z (wo hc322 z z z z z z (wo hc322 z z z z z z (wo hc322 z z z z z z (wv (.bool false) z z (x_pick_f hc322 z z) (wl_nil (tn ?_)))))))))))
 refine wp_iff z ?_
 refine wp_skip (blk_n (tn (wrl ?_)))
 refine wv (.int .i64 (i64.wrap (z302 + (1:Int)))) z z z (wv (.int .i64 (i64.wrap (z302 + (1:Int)))) z z z (wl_nil (tn ?_)))
 replace hst := hst.pull1.pull1
 replace hst := at_policy_Book_close (pv := Pt b263 0) (x := z301) hst z
 replace hst := hst.keep1
 obtain rfl := some_inj hm
 exact ⟨_, Nat.lt_succ_self _, z301, (i64.wrap (z302 + (1:Int))), z303, _, hx310, (fu 0 (Pt b263 0) z (fu 1 (.int .u64 a1) z (fu 2 (.int .u64 a2) z (fu 7 (.bool z303) z (fu 15 (.int .i64 ((o0.l).length : Int)) z (fu 16 (.int .i64 (i64.wrap (z302 + (1:Int)))) z z)))))), hst⟩
}
}
 {
 replace hm := bif_f hc312 hm
 refine wp_iff (cvb hc312) ?_
 refine wp_exit (then_x (then_x ?_))
 replace hm := inr_up hm hx310
 refine blk_x (tn (wp_seq (wrl ?_)))
 refine wv (.bool z303) z z z (wv (.bool z303) z z z (wl_nil (tn (wp_ret ?_))))
 replace hst := objO_some hst
 obtain rfl := some_inj hm
 refine post_ret (vs := [.bool z303]) results54 (rvs_cons (rv_tmp z) rvs_nil) ?_
 exact ⟨z, hst.keep1⟩
}
}
}

end Go.Proofs.YtgnkkopjkgdieaaGreat
