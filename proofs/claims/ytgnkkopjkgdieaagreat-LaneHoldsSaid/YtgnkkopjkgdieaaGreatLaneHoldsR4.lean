/- The Go functions refine their models, part 4. -/
import Derived.Test.YtgnkkopjkgdieaaGreatLaneHoldsR3
set_option linter.unusedVariables false
set_option linter.unusedSimpArgs false
set_option maxRecDepth 100000
set_option maxHeartbeats 4000000
namespace Go.Proofs.YtgnkkopjkgdieaaGreat
open Go Go.V
open _root_.Go.Proofs.Tryz IntKind
attribute [local irreducible] wpList Code.wp wpQuiet Calls bodyPost Oper.wp wpS Nx PendOK YieldsIn
theorem lane_State_decide_ref {w0 w : World} {I : HL} {R : SP} {a0 : (Option lane_State)} {p0 : Value} {a1 : Int} {a2 : api_Command} {r2_0 : Value} {r2_1 : Value} {r2_2 : Value} {r2_3 : Value} {r2_4 : Value} {r2_5 : Value} {r2_6 : Value} {r2_7 : Value} (f2_0 : Ro tyF64 I r2_0 a2.Hold.Gets) (f2_1 : Ro tyF2 I r2_1 a2.Hold.Scans) (f2_2 : Ro tyF64 I r2_2 a2.Hold.Puts) (f2_3 : Ro (tyInt .u8) I r2_3 a2.Hold.Data) (f2_4 : Ro ty_api_Write I r2_4 a2.Writes) (f2_5 : Ro ty_api_Got I r2_5 a2.R.Gots) (f2_6 : Ro (tySl ty_api_Pair) I r2_6 a2.R.Scans) (f2_7 : Ro ty_api_Part I r2_7 a2.Parts) (hst : St w0 w I [objO at_lane_State p0 a0] R) {r : (api_Effect × (Option lane_State))} (hm : lane_State_decide a0 a1 a2 = some r) :
  Calls prog 50 #[p0, U6 a1, .agg #[U1 a2.Kind, U6 a2.ID.Session, U6 a2.ID.Seq, U6 a2.Epoch, U6 a2.Index, I6 a2.E, U6 a2.Hold.ID.Session, U6 a2.Hold.ID.Seq, U6 a2.Hold.Epoch, r2_0, r2_1, r2_2, r2_3, r2_4, I6 a2.R.E, U6 a2.R.Epoch, U6 a2.R.Index, r2_5, r2_6, U6 a2.Shards, r2_7, U6 a2.Rule.ID, I6 a2.Rule.From, I6 a2.Rule.To, F6 a2.Rule.Lo, F6 a2.Rule.Hi, U6 a2.Rule.Authority, I6 a2.Rule.Quota, .bool a2.On]] w fun e w' => ∃ (I' : HL) (q0_0 : Value) (q0_1 : Value), e = .returned (.agg #[U1 r.1.Kind, U6 r.1.ID.Session, U6 r.1.ID.Seq, I6 r.1.R.E, U6 r.1.R.Epoch, U6 r.1.R.Index, q0_0, q0_1]) ∧ I.le I' ∧ Ro ty_api_Got I' q0_0 r.1.R.Gots ∧ Ro (tySl ty_api_Pair) I' q0_1 r.1.R.Scans ∧ St w0 w' I' [objO at_lane_State p0 r.2] R := by {
 rcases a0 with _ | o0
 {
 obtain ⟨rfl, hst'⟩ := objO_none hst
 clear hst
 have hst := hst'
 clear hst'
 dsimp only [lane_State_decide] at hm
 refine calls_start (args := [.pointer none, U6 a1, .agg #[U1 a2.Kind, U6 a2.ID.Session, U6 a2.ID.Seq, U6 a2.Epoch, U6 a2.Index, I6 a2.E, U6 a2.Hold.ID.Session, U6 a2.Hold.ID.Seq, U6 a2.Hold.Epoch, r2_0, r2_1, r2_2, r2_3, r2_4, I6 a2.R.E, U6 a2.R.Epoch, U6 a2.R.Index, r2_5, r2_6, U6 a2.Shards, r2_7, U6 a2.Rule.ID, I6 a2.Rule.From, I6 a2.Rule.To, F6 a2.Rule.Lo, F6 a2.Rule.Hi, U6 a2.Rule.Authority, I6 a2.Rule.Quota, .bool a2.On]]) func50 z ntmps50 (Nat.le_of_ble_eq_true z) ?_
 have hI0 := HL.le.refl I
 refine wp_seq (wrl ?_)
 obtain ⟨b659, w660, ew661, eb662, hst⟩ := hst.box [U1 a2.Kind, U6 a2.ID.Session, U6 a2.ID.Seq, U6 a2.Epoch, U6 a2.Index, I6 a2.E, U6 a2.Hold.ID.Session, U6 a2.Hold.ID.Seq, U6 a2.Hold.Epoch, r2_0, r2_1, r2_2, r2_3, r2_4, I6 a2.R.E, U6 a2.R.Epoch, U6 a2.R.Index, r2_5, r2_6, U6 a2.Shards, r2_7, U6 a2.Rule.ID, I6 a2.Rule.From, I6 a2.Rule.To, F6 a2.Rule.Lo, F6 a2.Rule.Hi, U6 a2.Rule.Authority, I6 a2.Rule.Quota, .bool a2.On] 49
 refine wl_run (v := Pt b659 0) (w' := w660) z z (x_al (by kernel_rfl) ew661 eb662) ?_
 obtain ⟨b666, w667, ew668, eb669, hst⟩ := hst.box [Zb, Zu, Zu, Zi, Zu, Zu, Zs, Zs] 35
 refine wl_run (v := Pt b666 0) (w' := w667) z z (x_al (by kernel_rfl) ew668 eb669) ?_
 refine wl_nil (tn (wp_seq (wrl (wv (Pt b659 14) z z (x_field z underlying49 z sizeOf33 z) (wv (.agg #[I6 a2.R.E, U6 a2.R.Epoch, U6 a2.R.Index, r2_5, r2_6]) z z (x_loadN (cs := [I6 a2.R.E, U6 a2.R.Epoch, U6 a2.R.Index, r2_5, r2_6]) z isAgg33 sizeOf33 (hst.bcs1 14 z)) ?_)))))
 obtain ⟨b673, w674, ew675, eb676, hst⟩ := hst.box [Zi, Zu, Zu, Zs, Zs] 33
 refine wl_run (v := Pt b673 0) (w' := w674) z z (x_al (by kernel_rfl) ew675 eb676) ?_
 obtain ⟨w678, hr679, hst⟩ := hst.bx [I6 a2.R.E, U6 a2.R.Epoch, U6 a2.R.Index, r2_5, r2_6] sizeOf33 z (oC z (oC z (oC z (oC (one_of_sliceV (ro_sliceV f2_5)) (oC (one_of_sliceV (ro_sliceV f2_6)) oN))))) (by kernel_rfl)
 refine wl_unit z z (x_unit hr679) ?_
 refine wl_nil (tn (wp_seq (wrl (wv (Pt b659 3) z z (x_field z underlying49 z sizeOf26 z) (wv (.int .u64 a2.Epoch) z z (x_load z isAgg26 (hst.bc2 z)) (wv (.int .u64 a1) z z z (wv (Pt b673 1) z z (x_field z underlying33 z sizeOf26 z) ?_)))))))
 obtain ⟨w680, hr681, hst⟩ := hst.by_ [I6 a2.R.E, U6 a2.Epoch, U6 a2.R.Index, r2_5, r2_6] 1 (.int .u64 a2.Epoch) sizeOf26 z (oC z oN) (by kernel_rfl)
 refine wl_unit z z (x_unit hr681) ?_
 refine wv (Pt b673 2) z z (x_field z underlying33 z sizeOf26 z) ?_
 obtain ⟨w682, hr683, hst⟩ := hst.by_ [I6 a2.R.E, U6 a2.Epoch, U6 a1, r2_5, r2_6] 2 (.int .u64 a1) sizeOf26 z (oC z oN) (by kernel_rfl)
 refine wl_unit z z (x_unit hr683) ?_
 refine wl_nil (tn (wp_seq (wp_seq ?_)))
 refine wq_regionS hst Tryz.mixed (by kernel_rfl) ?_
 refine wq_run (v := Pt b673 0) z z (fun w hst => x_field z underlying33 z sizeOf29 z) ?_
 refine wq_run (v := .int .i64 a2.R.E) z z (fun w hst => x_load z isAgg29 (hst.bc0 z)) ?_
 refine wq_run (v := .bool (a2.R.E == (0:Int))) z z (fun w hst => z) ?_
 refine wq_run (v := .bool (a2.R.E == (0:Int))) z z (fun w hst => z) ?_
 refine bsplit (a2.R.E == (0:Int)) (fun hc684 => ?_) (fun hc684 => ?_)
 {
 replace hm := bif_t hc684 hm
 refine wq_run (v := Pt b659 3) ((wanted_eq z z z (cvb hc684)).trans z) z (fun w hst => x_field z underlying49 z sizeOf26 z) ?_
 refine wq_run (v := .int .u64 a2.Epoch) ((wanted_eq z z z (cvb hc684)).trans z) z (fun w hst => x_load z isAgg26 (hst.bc2 z)) ?_
 refine wq_run (v := .pointer none) ((wanted_eq z z z (cvb hc684)).trans z) z (fun w hst => z) ?_
 cases hm
}
 {
 replace hm := bif_f hc684 hm
 refine wq_off ((wanted_eq z z z (cvb hc684)).trans z) z ?_
 refine wq_off ((wanted_eq z z z (cvb hc684)).trans z) z ?_
 refine wq_off ((wanted_eq z z z (cvb hc684)).trans z) z ?_
 refine wq_off ((wanted_eq z z z (cvb hc684)).trans z) z ?_
 refine wq_off ((wanted_eq z z z (cvb hc684)).trans z) z ?_
 refine wq_off ((wanted_eq z z z (cvb hc684)).trans z) z ?_
 refine wq_off ((wanted_eq z z z (cvb hc684)).trans z) z ?_
 refine wq_run (v := .bool false) z z (fun w hst => x_pick_f hc684 z z) ?_
 refine wq_nil ?_
 intro w hst
 refine tn ?_
 refine wp_iff z ?_
 refine wp_skip (tn ?_)
 obtain ⟨y693, hm, hx694⟩ := joinO_some hm
 refine wp_cut (fun a w => ∃ (σ691 : Nat → Value), (lane_State_decide_j0) () = some r ∧ a = Fr 103 (upd (upd (upd (upd (upd σ691 0 (.pointer none)) 1 (.int .u64 a1)) 5 (Pt b659 0)) 6 (Pt b666 0)) 7 (Pt b673 0)) ∧ St w0 w I [cells b659 [U1 a2.Kind, U6 a2.ID.Session, U6 a2.ID.Seq, U6 a2.Epoch, U6 a2.Index, I6 a2.E, U6 a2.Hold.ID.Session, U6 a2.Hold.ID.Seq, U6 a2.Hold.Epoch, r2_0, r2_1, r2_2, r2_3, r2_4, I6 a2.R.E, U6 a2.R.Epoch, U6 a2.R.Index, r2_5, r2_6, U6 a2.Shards, r2_7, U6 a2.Rule.ID, I6 a2.Rule.From, I6 a2.Rule.To, F6 a2.Rule.Lo, F6 a2.Rule.Hi, U6 a2.Rule.Authority, I6 a2.Rule.Quota, .bool a2.On], cells b666 [Zb, Zu, Zu, Zi, Zu, Zu, Zs, Zs], cells b673 [I6 a2.R.E, U6 a2.Epoch, U6 a1, r2_5, r2_6]] R) ?_ ?_
 {
 refine wp_seq (wrl (wv (Pt b673 0) z z (x_field z underlying33 z sizeOf29 z) (wv (.int .i64 a2.R.E) z z (x_load z isAgg29 (hst.bc0 z)) (wv (.bool (a2.R.E != (0:Int))) z z z (wv (.bool (a2.R.E != (0:Int))) z z z ?_)))))
 refine bsplit (a2.R.E != (0:Int)) (fun hc685 => ?_) (fun hc685 => ?_)
 {
 replace hm := bif_t hc685 hm
 refine wv (Pt b659 1) ((wanted_eq z z z (cvb hc685)).trans z) z (x_field z underlying49 z sizeOf28 z) (wv (Pt b659 1) ((wanted_eq z z z (cvb hc685)).trans z) z (x_field z underlying28 z sizeOf26 z) (wv (.int .u64 a2.ID.Session) ((wanted_eq z z z (cvb hc685)).trans z) z (x_load z isAgg26 (hst.bc2 z)) (wv (.bool (decide (a2.ID.Session ≥ (9223372036854775808:Int)))) ((wanted_eq z z z (cvb hc685)).trans z) z z (wv (.bool (decide (a2.ID.Session ≥ (9223372036854775808:Int)))) z z (x_pick_t hc685 z z) (wl_nil (tn ?_))))))
 refine bsplit (decide (a2.ID.Session ≥ (9223372036854775808:Int))) (fun hc686 => ?_) (fun hc686 => ?_)
 {
 replace hm := bif_t hc686 hm
 refine wp_ift (cvb hc686) ?_
 refine wp_seq (wrl (wv (.agg #[Zb, Zu, Zu, Zi, Zu, Zu, Zs, Zs]) z z (by kernel_rfl) ?_))
 replace hst := hst.pull1
 obtain ⟨w689, hr690, hst⟩ := hst.bx [Zb, Zu, Zu, Zi, Zu, Zu, Zs, Zs] sizeOf35 z (oC z (oC z (oC z (oC z (oC z (oC z (oC z (oC z oN)))))))) (by kernel_rfl)
 refine wl_unit z z (x_unit hr690) ?_
 refine wl_nil (tn (wp_ret (then_r ?_)))
 replace hm := inr_up hm hx694
 have f691 : Ro ty_api_Got I (.slice none 0 0) [] := ro_nil
 have f692 : Ro (tySl ty_api_Pair) I (.slice none 0 0) [] := ro_nil
 replace hst := hst.objO_nil at_lane_State
 obtain rfl := some_inj hm
 refine post_ret (vs := [.agg #[Zb, Zu, Zu, Zi, Zu, Zu, Zs, Zs]]) results50 (rvs_cons (rv_cell (cs := [Zb, Zu, Zu, Zi, Zu, Zu, Zs, Zs]) z isAgg35 sizeOf35 (hst.bcs1 0 z)) rvs_nil) ?_
 exact ⟨_, Zs, Zs, z, hI0, f691, f692, hst.keep1⟩
}
 {
 replace hm := bif_f hc686 hm
 refine wp_iff (cvb hc686) ?_
 refine wp_skip (tn ?_)
 replace hst := hst.pull1.pull2.keep3
 obtain rfl := some_inj hm
 exact ⟨_, hx694, (fu 0 (.pointer none) z (fu 1 (.int .u64 a1) z (fu 5 (Pt b659 0) z (fu 6 (Pt b666 0) z (fu 7 (Pt b673 0) z z))))), hst⟩
}
}
 {
 replace hm := bif_f hc685 hm
 refine wo hc685 z z z z z z (wo hc685 z z z z z z (wo hc685 z z z z z z (wo hc685 z z z z z z (wv (.bool false) z z (x_pick_f hc685 z z) (wl_nil (tn ?_))))))
 refine wp_iff z ?_
 refine wp_skip (tn ?_)
 replace hst := hst.pull1.pull2.keep3
 obtain rfl := some_inj hm
 exact ⟨_, hx694, (fu 0 (.pointer none) z (fu 1 (.int .u64 a1) z (fu 5 (Pt b659 0) z (fu 6 (Pt b666 0) z (fu 7 (Pt b673 0) z z))))), hst⟩
}
}
 {
 clear hst
 rintro _ w695 ⟨σ691, hm, rfl, hst⟩
 dsimp only [lane_State_decide_j0] at hm
 refine wp_seq (wp_seq ?_)
 refine wp_region_St hst 13 [0, 1, 2, 3, 4, 5, 6, 7, 8, 9, 10, 11, 12] [0, 1, 3, 7, 0, 16, 48, 0, 128, 384, 0, 2047, 4095] [] z (by kernel_rfl) (by kernel_rfl) Tryz.mixed (by kernel_rfl) ?_
 refine wsr (.pointer none) 0 z z z (by kernel_rfl) (fun w hst => z) ?_
 cases hm
}
}
}
 {
 replace hst := objO_get hst
 dsimp only [lane_State_decide] at hm
 refine calls_start (args := [p0, U6 a1, .agg #[U1 a2.Kind, U6 a2.ID.Session, U6 a2.ID.Seq, U6 a2.Epoch, U6 a2.Index, I6 a2.E, U6 a2.Hold.ID.Session, U6 a2.Hold.ID.Seq, U6 a2.Hold.Epoch, r2_0, r2_1, r2_2, r2_3, r2_4, I6 a2.R.E, U6 a2.R.Epoch, U6 a2.R.Index, r2_5, r2_6, U6 a2.Shards, r2_7, U6 a2.Rule.ID, I6 a2.Rule.From, I6 a2.Rule.To, F6 a2.Rule.Lo, F6 a2.Rule.Hi, U6 a2.Rule.Authority, I6 a2.Rule.Quota, .bool a2.On]]) func50 z ntmps50 (Nat.le_of_ble_eq_true z) ?_
 have hI0 := HL.le.refl I
 refine wp_seq (wrl ?_)
 obtain ⟨b696, w697, ew698, eb699, hst⟩ := hst.box [U1 a2.Kind, U6 a2.ID.Session, U6 a2.ID.Seq, U6 a2.Epoch, U6 a2.Index, I6 a2.E, U6 a2.Hold.ID.Session, U6 a2.Hold.ID.Seq, U6 a2.Hold.Epoch, r2_0, r2_1, r2_2, r2_3, r2_4, I6 a2.R.E, U6 a2.R.Epoch, U6 a2.R.Index, r2_5, r2_6, U6 a2.Shards, r2_7, U6 a2.Rule.ID, I6 a2.Rule.From, I6 a2.Rule.To, F6 a2.Rule.Lo, F6 a2.Rule.Hi, U6 a2.Rule.Authority, I6 a2.Rule.Quota, .bool a2.On] 49
 refine wl_run (v := Pt b696 0) (w' := w697) z z (x_al (by kernel_rfl) ew698 eb699) ?_
 obtain ⟨b703, w704, ew705, eb706, hst⟩ := hst.box [Zb, Zu, Zu, Zi, Zu, Zu, Zs, Zs] 35
 refine wl_run (v := Pt b703 0) (w' := w704) z z (x_al (by kernel_rfl) ew705 eb706) ?_
 refine wl_nil (tn (wp_seq (wrl (wv (Pt b696 14) z z (x_field z underlying49 z sizeOf33 z) (wv (.agg #[I6 a2.R.E, U6 a2.R.Epoch, U6 a2.R.Index, r2_5, r2_6]) z z (x_loadN (cs := [I6 a2.R.E, U6 a2.R.Epoch, U6 a2.R.Index, r2_5, r2_6]) z isAgg33 sizeOf33 (hst.bcs1 14 z)) ?_)))))
 obtain ⟨b710, w711, ew712, eb713, hst⟩ := hst.box [Zi, Zu, Zu, Zs, Zs] 33
 refine wl_run (v := Pt b710 0) (w' := w711) z z (x_al (by kernel_rfl) ew712 eb713) ?_
 obtain ⟨w715, hr716, hst⟩ := hst.bx [I6 a2.R.E, U6 a2.R.Epoch, U6 a2.R.Index, r2_5, r2_6] sizeOf33 z (oC z (oC z (oC z (oC (one_of_sliceV (ro_sliceV f2_5)) (oC (one_of_sliceV (ro_sliceV f2_6)) oN))))) (by kernel_rfl)
 refine wl_unit z z (x_unit hr716) ?_
 refine wl_nil (tn (wp_seq (wrl (wv (Pt b696 3) z z (x_field z underlying49 z sizeOf26 z) (wv (.int .u64 a2.Epoch) z z (x_load z isAgg26 (hst.bc2 z)) (wv (.int .u64 a1) z z z (wv (Pt b710 1) z z (x_field z underlying33 z sizeOf26 z) ?_)))))))
 obtain ⟨w717, hr718, hst⟩ := hst.by_ [I6 a2.R.E, U6 a2.Epoch, U6 a2.R.Index, r2_5, r2_6] 1 (.int .u64 a2.Epoch) sizeOf26 z (oC z oN) (by kernel_rfl)
 refine wl_unit z z (x_unit hr718) ?_
 refine wv (Pt b710 2) z z (x_field z underlying33 z sizeOf26 z) ?_
 obtain ⟨w719, hr720, hst⟩ := hst.by_ [I6 a2.R.E, U6 a2.Epoch, U6 a1, r2_5, r2_6] 2 (.int .u64 a1) sizeOf26 z (oC z oN) (by kernel_rfl)
 refine wl_unit z z (x_unit hr720) ?_
 refine wl_nil (tn (wp_seq (wp_seq ?_)))
 replace hst := hst.pull3
 obtain ⟨b721, v722, v724, v726, v728, v730, v732, v734, rfl, hst'⟩ := at_lane_State_open hst
 clear hst
 have hst := hst'
 clear hst'
 refine wq_regionS hst Tryz.mixed (by kernel_rfl) ?_
 refine wq_run (v := Pt b710 0) z z (fun w hst => x_field z underlying33 z sizeOf29 z) ?_
 refine wq_run (v := .int .i64 a2.R.E) z z (fun w hst => x_load z isAgg29 (hst.bc8 z)) ?_
 refine wq_run (v := .bool (a2.R.E == (0:Int))) z z (fun w hst => z) ?_
 refine wq_run (v := .bool (a2.R.E == (0:Int))) z z (fun w hst => z) ?_
 refine bsplit (a2.R.E == (0:Int)) (fun hc736 => ?_) (fun hc736 => ?_)
 {
 replace hm := bif_t hc736 hm
 refine wq_run (v := Pt b696 3) ((wanted_eq z z z (cvb hc736)).trans z) z (fun w hst => x_field z underlying49 z sizeOf26 z) ?_
 refine wq_run (v := .int .u64 a2.Epoch) ((wanted_eq z z z (cvb hc736)).trans z) z (fun w hst => x_load z isAgg26 (hst.bc10 z)) ?_
 refine wq_run (v := Pt b721 0) ((wanted_eq z z z (cvb hc736)).trans z) z (fun w hst => z) ?_
 refine wq_run (v := Pt b721 0) ((wanted_eq z z z (cvb hc736)).trans z) z (fun w hst => z) ?_
 refine wq_run (v := Pt b721 1) ((wanted_eq z z z (cvb hc736)).trans z) z (fun w hst => x_field z underlying111 z sizeOf26 z) ?_
 refine wq_run (v := .int .u64 o0.epoch) ((wanted_eq z z z (cvb hc736)).trans z) z (fun w hst => x_load z isAgg26 (hst.bc0 z)) ?_
 refine wq_run (v := .bool (a2.Epoch != o0.epoch)) ((wanted_eq z z z (cvb hc736)).trans z) z (fun w hst => z) ?_
 refine wq_run (v := .bool (a2.Epoch != o0.epoch)) z z (fun w hst => x_pick_t hc736 z z) ?_
 refine wq_nil ?_
 intro w hst
 refine tn ?_
 refine bsplit (a2.Epoch != o0.epoch) (fun hc737 => ?_) (fun hc737 => ?_)
 {
 replace hm := bif_t hc737 hm
 refine wp_ift (cvb hc737) ?_
 refine wrl (wv (Pt b696 3) z z (x_field z underlying49 z sizeOf26 z) (wv (.int .u64 a2.Epoch) z z (x_load z isAgg26 (hst.bc10 z)) (wv (.int .u64 a1) z z z (wv (.agg #[I6 (9:Int), U6 a2.Epoch, U6 a1, Zs, Zs]) z z (by kernel_rfl) ?_))))
 replace hst := hst.pull8
 obtain ⟨w740, hr741, hst⟩ := hst.bx [I6 (9:Int), U6 a2.Epoch, U6 a1, Zs, Zs] sizeOf33 z (oC z (oC z (oC z (oC z (oC z oN))))) (by kernel_rfl)
 refine wl_unit z z (x_unit hr741) ?_
 refine wl_nil (tn ?_)
 obtain ⟨y750, hm, hx751⟩ := joinO_some hm
 refine wp_cut (fun a w => ∃ (σ748 : Nat → Value), (lane_State_decide_j1 o0 a2 a1) () = some r ∧ a = Fr 103 (upd (upd (upd (upd (upd σ748 0 (Pt b721 0)) 1 (.int .u64 a1)) 5 (Pt b696 0)) 6 (Pt b703 0)) 7 (Pt b710 0)) ∧ St w0 w I [at_lane_State (Pt b721 0) o0, cells b696 [U1 a2.Kind, U6 a2.ID.Session, U6 a2.ID.Seq, U6 a2.Epoch, U6 a2.Index, I6 a2.E, U6 a2.Hold.ID.Session, U6 a2.Hold.ID.Seq, U6 a2.Hold.Epoch, r2_0, r2_1, r2_2, r2_3, r2_4, I6 a2.R.E, U6 a2.R.Epoch, U6 a2.R.Index, r2_5, r2_6, U6 a2.Shards, r2_7, U6 a2.Rule.ID, I6 a2.Rule.From, I6 a2.Rule.To, F6 a2.Rule.Lo, F6 a2.Rule.Hi, U6 a2.Rule.Authority, I6 a2.Rule.Quota, .bool a2.On], cells b703 [Zb, Zu, Zu, Zi, Zu, Zu, Zs, Zs], cells b710 [I6 (9:Int), U6 a2.Epoch, U6 a1, Zs, Zs]] R) ?_ ?_
 {
 refine wp_seq (wrl (wv (Pt b710 0) z z (x_field z underlying33 z sizeOf29 z) (wv (.int .i64 (9:Int)) z z (x_load z isAgg29 (hst.bc0 z)) (wv (.bool ((9:Int) != (0:Int))) z z z (wv (.bool ((9:Int) != (0:Int))) z z z ?_)))))
 refine bsplit ((9:Int) != (0:Int)) (fun hc742 => ?_) (fun hc742 => ?_)
 {
 replace hm := bif_t hc742 hm
 refine wv (Pt b696 1) ((wanted_eq z z z (cvb hc742)).trans z) z (x_field z underlying49 z sizeOf28 z) (wv (Pt b696 1) ((wanted_eq z z z (cvb hc742)).trans z) z (x_field z underlying28 z sizeOf26 z) (wv (.int .u64 a2.ID.Session) ((wanted_eq z z z (cvb hc742)).trans z) z (x_load z isAgg26 (hst.bc10 z)) (wv (.bool (decide (a2.ID.Session ≥ (9223372036854775808:Int)))) ((wanted_eq z z z (cvb hc742)).trans z) z z (wv (.bool (decide (a2.ID.Session ≥ (9223372036854775808:Int)))) z z (x_pick_t hc742 z z) (wl_nil (tn ?_))))))
 refine bsplit (decide (a2.ID.Session ≥ (9223372036854775808:Int))) (fun hc743 => ?_) (fun hc743 => ?_)
 {
 replace hm := bif_t hc743 hm
 refine wp_ift (cvb hc743) ?_
 refine wp_seq (wrl (wv (.agg #[Zb, Zu, Zu, Zi, Zu, Zu, Zs, Zs]) z z (by kernel_rfl) ?_))
 replace hst := hst.pull9
 obtain ⟨w746, hr747, hst⟩ := hst.bx [Zb, Zu, Zu, Zi, Zu, Zu, Zs, Zs] sizeOf35 z (oC z (oC z (oC z (oC z (oC z (oC z (oC z (oC z oN)))))))) (by kernel_rfl)
 refine wl_unit z z (x_unit hr747) ?_
 refine wl_nil (tn (wp_ret (then_r ?_)))
 replace hm := inr_up hm hx751
 have f748 : Ro ty_api_Got I (.slice none 0 0) [] := ro_nil
 have f749 : Ro (tySl ty_api_Pair) I (.slice none 0 0) [] := ro_nil
 replace hst := hst.pull9.pull9.pull9.pull9.pull9.pull9.pull9.pull9
 replace hst := at_lane_State_close (pv := Pt b721 0) (x := o0) hst z
 replace hst := objO_some hst
 obtain rfl := some_inj hm
 refine post_ret (vs := [.agg #[Zb, Zu, Zu, Zi, Zu, Zu, Zs, Zs]]) results50 (rvs_cons (rv_cell (cs := [Zb, Zu, Zu, Zi, Zu, Zu, Zs, Zs]) z isAgg35 sizeOf35 (hst.bcs1 0 z)) rvs_nil) ?_
 exact ⟨_, Zs, Zs, z, hI0, f748, f749, hst.keep1⟩
}
 {
 replace hm := bif_f hc743 hm
 refine wp_iff (cvb hc743) ?_
 refine wp_skip (tn ?_)
 replace hst := hst.pull8.pull8.pull8.pull8.pull8.pull8.pull8.pull8
 replace hst := at_lane_State_close (pv := Pt b721 0) (x := o0) hst z
 replace hst := hst.pull1.pull2.pull3.pull3.keep4
 obtain rfl := some_inj hm
 exact ⟨_, hx751, (fu 0 (Pt b721 0) z (fu 1 (.int .u64 a1) z (fu 5 (Pt b696 0) z (fu 6 (Pt b703 0) z (fu 7 (Pt b710 0) z z))))), hst⟩
}
}
 {
 replace hm := bif_f hc742 hm
 refine wo hc742 z z z z z z (wo hc742 z z z z z z (wo hc742 z z z z z z (wo hc742 z z z z z z (wv (.bool false) z z (x_pick_f hc742 z z) (wl_nil (tn ?_))))))
 refine wp_iff z ?_
 refine wp_skip (tn ?_)
 replace hst := hst.pull8.pull8.pull8.pull8.pull8.pull8.pull8.pull8
 replace hst := at_lane_State_close (pv := Pt b721 0) (x := o0) hst z
 replace hst := hst.pull1.pull2.pull3.pull3.keep4
 obtain rfl := some_inj hm
 exact ⟨_, hx751, (fu 0 (Pt b721 0) z (fu 1 (.int .u64 a1) z (fu 5 (Pt b696 0) z (fu 6 (Pt b703 0) z (fu 7 (Pt b710 0) z z))))), hst⟩
}
}
 {
 clear hst
 rintro _ w752 ⟨σ748, hm, rfl, hst⟩
 dsimp only [lane_State_decide_j1] at hm
 refine wp_seq (wp_seq ?_)
 obtain ⟨b753, v754, v756, v758, v760, v762, v764, v766, e768, hst'⟩ := at_lane_State_open hst
 clear hst
 have e768 := ptr_inj e768
 subst e768
 have hst := hst'
 clear hst'
 refine wp_region_St hst 13 [0, 1, 2, 3, 4, 5, 6, 7, 8, 9, 10, 11, 12] [0, 1, 3, 7, 0, 16, 48, 0, 128, 384, 0, 2047, 4095] [] z (by kernel_rfl) (by kernel_rfl) Tryz.mixed (by kernel_rfl) ?_
 refine wsr (Pt b721 0) 0 z z z (by kernel_rfl) (fun w hst => z) (wsr (Pt b721 0) 1 z z z (by kernel_rfl) (fun w hst => z) (wsr (Pt b721 4) 2 z z z (by kernel_rfl) (fun w hst => x_field z underlying111 z sizeOf105 z) (wsr (v758) 3 z z z (by kernel_rfl) (fun w hst => x_load z isAgg105 (hst.bc0 z)) (wsr (Pt b696 1) 4 z z z (by kernel_rfl) (fun w hst => x_field z underlying49 z sizeOf28 z) (wsr (Pt b696 1) 5 z z z (by kernel_rfl) (fun w hst => x_field z underlying28 z sizeOf26 z) (wsr (.int .u64 a2.ID.Session) 6 z z z (by kernel_rfl) (fun w hst => x_load z isAgg26 (hst.bc8 z)) (wsr (Pt b696 1) 7 z z z (by kernel_rfl) (fun w hst => x_field z underlying49 z sizeOf28 z) (wsr (Pt b696 2) 8 z z z (by kernel_rfl) (fun w hst => x_field z underlying28 z sizeOf26 z) (wsr (.int .u64 a2.ID.Seq) 9 z z z (by kernel_rfl) (fun w hst => x_load z isAgg26 (hst.bc8 z)) (wsr (.agg #[I6 (9:Int), U6 a2.Epoch, U6 a1, Zs, Zs]) 10 z z z (by kernel_rfl) (fun w hst => x_loadN (cs := [I6 (9:Int), U6 a2.Epoch, U6 a1, Zs, Zs]) z isAgg33 sizeOf33 (hst.bcs10 0 z)) ?_))))))))))
 refine ws_e1 11 (by kernel_rfl) ?_
 refine nxe [12] (by kernel_rfl) z z ?_
 clear hst
 intro w hst
 have f769 : Ro ty_api_Got I (.slice none 0 0) [] := ro_nil
 have f770 : Ro (tySl ty_api_Pair) I (.slice none 0 0) [] := ro_nil
 replace hst := hst.pull3
 obtain ⟨t771, ht772, hm⟩ := bind_some hm
 refine wec call124 [v758, U6 a2.ID.Session, U6 a2.ID.Seq, .agg #[I6 (9:Int), U6 a2.Epoch, U6 a1, Zs, Zs]] z z ?_
 refine (session_Table_Put_ref (a3 := ({ E := (9:Int), Epoch := a2.Epoch, Index := a1, Gots := [], Scans := [] } : api_Reply)) f769 f770 hst.to1 ht772).mono ?_
 rintro _ w773 ⟨rfl, hst⟩
 refine ⟨_, z, ?_⟩
 replace hst := hst.of1
 refine ws_next (pend' := []) hst (by kernel_rfl) pk_nil ?_
 refine wsr (.bool (t771.1 != (0:Int))) 12 z z z (by kernel_rfl) (fun w hst => z) ?_
 refine ws_nil ?_
 intro w hst
 refine tn ?_
 refine bsplit (t771.1 != (0:Int)) (fun hc776 => ?_) (fun hc776 => ?_)
 {
 replace hm := bif_t hc776 hm
 refine wp_ift (cvb hc776) ?_
 refine wp_seq (wrl (wv (Pt b721 0) z z z (wv (Pt b696 1) z z (x_field z underlying49 z sizeOf28 z) (wv (.agg #[U6 a2.ID.Session, U6 a2.ID.Seq]) z z (x_loadN (cs := [U6 a2.ID.Session, U6 a2.ID.Seq]) z isAgg28 sizeOf28 (hst.bcs8 1 z)) ?_))))
 replace hst := hst.pull7.pull7.pull7.pull7.pull4.pull7.pull7.pull7
 replace hst := at_lane_State_close (pv := Pt b721 0) (x := ({ wide := o0.wide, epoch := o0.epoch, store := o0.store, locks := o0.locks, last := t771.2, book := o0.book, open_ := o0.open_, out := o0.out, used := o0.used } : lane_State)) hst z
 replace hst := objO_some hst
 obtain ⟨t777, ht778, hm⟩ := bind_some hm
 refine wc call125 [Pt b721 0, .agg #[U6 a2.ID.Session, U6 a2.ID.Seq]] z z z ?_
 refine (lane_State_late_ref hst.to1 ht778).mono ?_
 rintro _ w779 ⟨v782, v784, rfl, hst⟩
 refine ⟨_, z, ?_⟩
 replace hst := hst.of3.pull2
 replace hst := objO_get hst
 replace hst := hst.pull4
 obtain ⟨w786, hr787, hst⟩ := hst.bx [U1 t777.Kind, U6 t777.ID.Session, U6 t777.ID.Seq, I6 t777.R.E, U6 t777.R.Epoch, U6 t777.R.Index, v782, v784] sizeOf35 z (oC z (oC z (oC z (oC z (oC z (oC z (oC (one_of_sliceV hst.sv2) (oC (one_of_sliceV hst.sv3) oN)))))))) (by kernel_rfl)
 refine wl_unit z z (x_unit hr787) ?_
 refine wl_nil (tn (wp_ret (then_r ?_)))
 replace hst := hst.pull2
 obtain ⟨I788, hI789, f790, hst⟩ := hst.own_fix
 replace f2_0 := f2_0.mono (ro_le hI789)
 replace f2_1 := f2_1.mono (ro_le hI789)
 replace f2_2 := f2_2.mono (ro_le hI789)
 replace f2_3 := f2_3.mono (ro_le hI789)
 replace f2_4 := f2_4.mono (ro_le hI789)
 replace f2_5 := f2_5.mono (ro_le hI789)
 replace f2_6 := f2_6.mono (ro_le hI789)
 replace f2_7 := f2_7.mono (ro_le hI789)
 replace f769 := f769.mono (ro_le hI789)
 replace f770 := f770.mono (ro_le hI789)
 replace hI0 := hI0.trans hI789
 replace hst := hst.pull2
 obtain ⟨I791, hI792, f793, hst⟩ := hst.own_fix
 replace f2_0 := f2_0.mono (ro_le hI792)
 replace f2_1 := f2_1.mono (ro_le hI792)
 replace f2_2 := f2_2.mono (ro_le hI792)
 replace f2_3 := f2_3.mono (ro_le hI792)
 replace f2_4 := f2_4.mono (ro_le hI792)
 replace f2_5 := f2_5.mono (ro_le hI792)
 replace f2_6 := f2_6.mono (ro_le hI792)
 replace f2_7 := f2_7.mono (ro_le hI792)
 replace f769 := f769.mono (ro_le hI792)
 replace f770 := f770.mono (ro_le hI792)
 replace f790 := f790.mono (ro_le hI792)
 replace hI0 := hI0.trans hI792
 replace hst := hst.pull1
 replace hst := objO_some hst
 obtain rfl := some_inj hm
 refine post_ret (vs := [.agg #[U1 t777.Kind, U6 t777.ID.Session, U6 t777.ID.Seq, I6 t777.R.E, U6 t777.R.Epoch, U6 t777.R.Index, v782, v784]]) results50 (rvs_cons (rv_cell (cs := [U1 t777.Kind, U6 t777.ID.Session, U6 t777.ID.Seq, I6 t777.R.E, U6 t777.R.Epoch, U6 t777.R.Index, v782, v784]) z isAgg35 sizeOf35 (hst.bcs1 0 z)) rvs_nil) ?_
 exact ⟨_, v782, v784, z, hI0, f790, f793, hst.keep1⟩
}
 {
 replace hm := bif_f hc776 hm
 refine wp_iff (cvb hc776) ?_
 refine wp_skip (tn ?_)
 obtain ⟨y894, hm, hx895⟩ := bind_some hm
 refine wp_cut (fun a w => ∃ (I891 : HL) (z890 : lane_State) (σ892 : Nat → Value), (lane_State_decide_j2 a2 a1) z890 = some r ∧ a = Fr 103 (upd (upd (upd σ892 5 (Pt b696 0)) 6 (Pt b703 0)) 7 (Pt b710 0)) ∧ I.le I891 ∧ St w0 w I891 [cells b696 [U1 a2.Kind, U6 a2.ID.Session, U6 a2.ID.Seq, U6 a2.Epoch, U6 a2.Index, I6 a2.E, U6 a2.Hold.ID.Session, U6 a2.Hold.ID.Seq, U6 a2.Hold.Epoch, r2_0, r2_1, r2_2, r2_3, r2_4, I6 a2.R.E, U6 a2.R.Epoch, U6 a2.R.Index, r2_5, r2_6, U6 a2.Shards, r2_7, U6 a2.Rule.ID, I6 a2.Rule.From, I6 a2.Rule.To, F6 a2.Rule.Lo, F6 a2.Rule.Hi, U6 a2.Rule.Authority, I6 a2.Rule.Quota, .bool a2.On], cells b703 [Zb, Zu, Zu, Zi, Zu, Zu, Zs, Zs], cells b710 [I6 (9:Int), U6 a2.Epoch, U6 a1, Zs, Zs], at_lane_State (Pt b721 0) z890] R) ?_ ?_
 {
 have hL896 := HL.le.refl I
 refine wp_seq (wrl (wv (Pt b696 19) z z (x_field z underlying49 z sizeOf26 z) (wv (.int .u64 a2.Shards) z z (x_load z isAgg26 (hst.bc8 z)) (wv (.bool (a2.Shards != (0:Int))) z z z (wl_nil (tn ?_))))))
 refine bsplit (a2.Shards != (0:Int)) (fun hc794 => ?_) (fun hc794 => ?_)
 {
 replace hm := bif_t hc794 hm
 refine wp_ift (cvb hc794) ?_
 refine wp_seq (wrl (wv (Pt b696 1) z z (x_field z underlying49 z sizeOf28 z) (wv (.agg #[U6 a2.ID.Session, U6 a2.ID.Seq]) z z (x_loadN (cs := [U6 a2.ID.Session, U6 a2.ID.Seq]) z isAgg28 sizeOf28 (hst.bcs8 1 z)) (wv (Pt b710 0) z z (x_field z underlying33 z sizeOf29 z) (wv (.int .i64 (9:Int)) z z (x_load z isAgg29 (hst.bc10 z)) (wv (Pt b696 3) z z (x_field z underlying49 z sizeOf26 z) (wv (.int .u64 a2.Epoch) z z (x_load z isAgg26 (hst.bc8 z)) (wv (.int .u64 a1) z z z (wv (Pt b696 19) z z (x_field z underlying49 z sizeOf26 z) (wv (.int .u64 a2.Shards) z z (x_load z isAgg26 (hst.bc8 z)) (wv (.agg #[U6 a2.ID.Session, U6 a2.ID.Seq, I6 (9:Int), U6 a2.Epoch, U6 a1, U6 a2.Shards, Zs]) z z (by kernel_rfl) ?_)))))))))))
 obtain ⟨b797, w798, ew799, eb800, hst⟩ := hst.box [Zu, Zu, Zi, Zu, Zu, Zu, Zs] 89
 refine wl_run (v := Pt b797 0) (w' := w798) z z (x_al (by kernel_rfl) ew799 eb800) ?_
 obtain ⟨w802, hr803, hst⟩ := hst.bx [U6 a2.ID.Session, U6 a2.ID.Seq, I6 (9:Int), U6 a2.Epoch, U6 a1, U6 a2.Shards, Zs] sizeOf89 z (oC z (oC z (oC z (oC z (oC z (oC z (oC z oN))))))) (by kernel_rfl)
 refine wl_unit z z (x_unit hr803) ?_
 refine wl_nil (tn (wp_seq (wp_seq (wrl (wv (Pt b710 0) z z (x_field z underlying33 z sizeOf29 z) (wv (.int .i64 (9:Int)) z z (x_load z isAgg29 (hst.bc11 z)) (wv (.bool ((9:Int) == (0:Int))) z z z (wl_nil (tn ?_)))))))))
 refine bsplit ((9:Int) == (0:Int)) (fun hc804 => ?_) (fun hc804 => ?_)
 {
 replace hm := bif_t hc804 hm
 refine wp_ift (cvb hc804) ?_
 refine wrl (wv (Pt b696 20) z z (x_field z underlying49 z sizeOf47 z) (wv (r2_7) z z (x_load z isAgg47 (hst.bc9 z)) ?_))
 obtain ⟨t805, ht806, hm⟩ := bind_some hm
 refine wc call126 [r2_7] z z z ?_
 refine (slices_Clone_api_Part_api_Part_ref (RdO.of_ro f2_7 _) hst.to0 ht806).mono ?_
 rintro _ w807 ⟨v810, rfl, hst⟩
 refine ⟨_, z, ?_⟩
 replace hst := hst.of1
 refine wv (Pt b797 6) z z (x_field z underlying89 z sizeOf47 z) ?_
 replace hst := hst.pull1
 obtain ⟨w812, hr813, hst⟩ := hst.boxStore1 (P := prog) (t := 47) (cs' := [U6 a2.ID.Session, U6 a2.ID.Seq, I6 (9:Int), U6 a2.Epoch, U6 a1, U6 a2.Shards, v810]) 6 v810 (one_of_sliceV hst.sv1) sizeOf47 z z
 refine wl_unit z z (x_unit hr813) ?_
 refine wl_nil (tn (wp_seq (wrl (wv (Pt b721 0) z z z (wv (Pt b696 1) z z (x_field z underlying49 z sizeOf28 z) (wv (.agg #[U6 a2.ID.Session, U6 a2.ID.Seq]) z z (x_loadN (cs := [U6 a2.ID.Session, U6 a2.ID.Seq]) z isAgg28 sizeOf28 (hst.bcs10 1 z)) ?_))))))
 replace hst := hst.pull9.pull9.pull9.pull9.pull6.pull9.pull9.pull9
 replace hst := at_lane_State_close (pv := Pt b721 0) (x := ({ wide := o0.wide, epoch := o0.epoch, store := o0.store, locks := o0.locks, last := t771.2, book := o0.book, open_ := o0.open_, out := o0.out, used := o0.used } : lane_State)) hst z
 replace hst := objO_some hst
 obtain ⟨t814, ht815, hm⟩ := bind_some hm
 refine wc call51 [Pt b721 0, .agg #[U6 a2.ID.Session, U6 a2.ID.Seq]] z z z ?_
 refine (lane_State_find_ref hst.to1 ht815).mono ?_
 rintro _ w816 ⟨rfl, hst⟩
 refine ⟨_, z, ?_⟩
 replace hst := hst.of1
 replace hst := objO_get hst
 refine wv (.tuple #[I6 t814.1, .bool t814.2]) z z z (wv (.int .i64 t814.1) z z z (wv (.bool t814.2) z z z (wv (.int .i64 t814.1) z z z (wv (.bool t814.2) z z z (wl_nil (tn ?_))))))
 obtain ⟨b819, v820, v822, v824, v826, v828, v830, v832, e834, hst'⟩ := at_lane_State_open hst
 clear hst
 have e834 := ptr_inj e834
 subst e834
 have hst := hst'
 clear hst'
 refine wp_region_St hst 12 [0, 1, 2, 3, 4, 5, 6, 7, 8, 9, 10, 11] [0, 0, 2, 6, 14, 0, 0, 64, 254, 511, 1023, 2047] [] z (by kernel_rfl) (by kernel_rfl) Tryz.mixed (by kernel_rfl) ?_
 refine wsr (Pt b721 0) 0 z z z (by kernel_rfl) (fun w hst => z) (wsr (Pt b721 0) 1 z z z (by kernel_rfl) (fun w hst => z) (wsr (Pt b721 0) 2 z z z (by kernel_rfl) (fun w hst => z) (wsr (Pt b721 6) 3 z z z (by kernel_rfl) (fun w hst => x_field z underlying111 z sizeOf65 z) (wsr (v828) 4 z z z (by kernel_rfl) (fun w hst => x_load z isAgg65 (hst.bc0 z)) (wsr (.int .i64 t814.1) 5 z z z (by kernel_rfl) (fun w hst => z) (wsr (.agg #[U6 a2.ID.Session, U6 a2.ID.Seq, I6 (9:Int), U6 a2.Epoch, U6 a1, U6 a2.Shards, v810]) 6 z z z (by kernel_rfl) (fun w hst => x_loadN (cs := [U6 a2.ID.Session, U6 a2.ID.Seq, I6 (9:Int), U6 a2.Epoch, U6 a1, U6 a2.Shards, v810]) z isAgg89 sizeOf89 (hst.bcs8 0 z)) ?_))))))
 refine ws_e1 7 (by kernel_rfl) ?_
 refine nxe [8, 9, 10, 11] (by kernel_rfl) z z ?_
 clear hst
 intro w hst
 replace hst := hst.pull9
 obtain ⟨I836, hI837, f838, hst⟩ := hst.own_fix
 replace f2_0 := f2_0.mono (ro_le hI837)
 replace f2_1 := f2_1.mono (ro_le hI837)
 replace f2_2 := f2_2.mono (ro_le hI837)
 replace f2_3 := f2_3.mono (ro_le hI837)
 replace f2_4 := f2_4.mono (ro_le hI837)
 replace f2_5 := f2_5.mono (ro_le hI837)
 replace f2_6 := f2_6.mono (ro_le hI837)
 replace f2_7 := f2_7.mono (ro_le hI837)
 replace f769 := f769.mono (ro_le hI837)
 replace f770 := f770.mono (ro_le hI837)
 replace hI0 := hI0.trans hI837
 replace hL896 := hL896.trans hI837
 obtain ⟨b839, w840, ew841, eb842, hst⟩ := hst.lits (E := ty_api_Decision) (xs := [({ ID := a2.ID, E := (9:Int), Epoch := a2.Epoch, Index := a1, Shards := a2.Shards, Parts := t805 } : api_Decision)]) [[U6 a2.ID.Session, U6 a2.ID.Seq, I6 (9:Int), U6 a2.Epoch, U6 a1, U6 a2.Shards, v810]] 89 1 z (Reps.cons ⟨_, z, f838, one_of_sliceV (ro_sliceV f838)⟩ Reps.nil)
 refine we_run (v := (.slice (some ⟨b839, 0, none⟩) 1 1)) (w' := w840) z (x_als (by kernel_rfl) ew841 eb842) ?_
 refine ws_next (pend' := [(5, I6 t814.1), (4, v828), (3, Pt b721 6), (2, Pt b721 0), (1, Pt b721 0), (0, Pt b721 0)]) hst (by kernel_rfl) (pkr z z (fun w hst => z) (pkr z z (fun w hst => x_load z isAgg65 (hst.bc1 z)) (pkr z z (fun w hst => x_field z underlying111 z sizeOf65 z) (pkr z z (fun w hst => z) (pkr z z (fun w hst => z) (pkr z z (fun w hst => z) pk_nil)))))) ?_
 refine ws_e1 8 (by kernel_rfl) ?_
 refine nxe [9, 10, 11] (by kernel_rfl) z z ?_
 clear hst
 intro w hst
 replace hst := hst.pull6
 obtain ⟨t844, ht845, hm⟩ := bind_some hm
 refine wec call127 [v828, I6 t814.1, (.slice (some ⟨b839, 0, none⟩) 1 1)] z z ?_
 refine (slices_Insert_api_Decision_api_Decision_ref hst.to2 ht845).mono ?_
 rintro _ w846 ⟨v849, rfl, hst⟩
 refine ⟨_, z, ?_⟩
 replace hst := hst.of1
 refine ws_next (pend' := [(0, Pt b721 0)]) hst (by kernel_rfl) (pkr z z (fun w hst => z) pk_nil) ?_
 refine wsr (Pt b721 0) 9 z z z (by kernel_rfl) (fun w hst => z) (wsr (Pt b721 6) 10 z z z (by kernel_rfl) (fun w hst => x_field z underlying111 z sizeOf65 z) ?_)
 refine ws_e1 11 (by kernel_rfl) ?_
 refine nxe [] (by kernel_rfl) z z ?_
 clear hst
 intro w hst
 replace hst := hst.pull1
 obtain ⟨w851, hr852, hst⟩ := hst.boxStore1 (P := prog) (t := 65) (cs' := [I6 (({ wide := o0.wide, epoch := o0.epoch, store := o0.store, locks := o0.locks, last := t771.2, book := o0.book, open_ := o0.open_, out := o0.out, used := o0.used } : lane_State).wide), U6 (({ wide := o0.wide, epoch := o0.epoch, store := o0.store, locks := o0.locks, last := t771.2, book := o0.book, open_ := o0.open_, out := o0.out, used := o0.used } : lane_State).epoch), v820, v822, v824, v826, v849, v830, v832]) 6 v849 (one_of_sliceV hst.sv1) sizeOf65 z z
 refine we_unit z (x_unit hr852) ?_
 refine ws_next (pend' := []) hst (by kernel_rfl) pk_nil ?_
 refine ws_nil ?_
 intro w hst
 refine tn ?_
 replace hst := hst.pull7.pull7.pull3.pull7.pull7.pull7.pull7.pull7
 replace hst := at_lane_State_close (pv := Pt b721 0) (x := ({ wide := ({ wide := o0.wide, epoch := o0.epoch, store := o0.store, locks := o0.locks, last := t771.2, book := o0.book, open_ := o0.open_, out := o0.out, used := o0.used } : lane_State).wide, epoch := ({ wide := o0.wide, epoch := o0.epoch, store := o0.store, locks := o0.locks, last := t771.2, book := o0.book, open_ := o0.open_, out := o0.out, used := o0.used } : lane_State).epoch, store := ({ wide := o0.wide, epoch := o0.epoch, store := o0.store, locks := o0.locks, last := t771.2, book := o0.book, open_ := o0.open_, out := o0.out, used := o0.used } : lane_State).store, locks := ({ wide := o0.wide, epoch := o0.epoch, store := o0.store, locks := o0.locks, last := t771.2, book := o0.book, open_ := o0.open_, out := o0.out, used := o0.used } : lane_State).locks, last := ({ wide := o0.wide, epoch := o0.epoch, store := o0.store, locks := o0.locks, last := t771.2, book := o0.book, open_ := o0.open_, out := o0.out, used := o0.used } : lane_State).last, book := ({ wide := o0.wide, epoch := o0.epoch, store := o0.store, locks := o0.locks, last := t771.2, book := o0.book, open_ := o0.open_, out := o0.out, used := o0.used } : lane_State).book, open_ := t844, out := ({ wide := o0.wide, epoch := o0.epoch, store := o0.store, locks := o0.locks, last := t771.2, book := o0.book, open_ := o0.open_, out := o0.out, used := o0.used } : lane_State).out, used := ({ wide := o0.wide, epoch := o0.epoch, store := o0.store, locks := o0.locks, last := t771.2, book := o0.book, open_ := o0.open_, out := o0.out, used := o0.used } : lane_State).used } : lane_State)) hst z
 replace hst := hst.pull4.pull4.pull4.keep4
 obtain rfl := some_inj hm
 exact ⟨_, ({ wide := ({ wide := o0.wide, epoch := o0.epoch, store := o0.store, locks := o0.locks, last := t771.2, book := o0.book, open_ := o0.open_, out := o0.out, used := o0.used } : lane_State).wide, epoch := ({ wide := o0.wide, epoch := o0.epoch, store := o0.store, locks := o0.locks, last := t771.2, book := o0.book, open_ := o0.open_, out := o0.out, used := o0.used } : lane_State).epoch, store := ({ wide := o0.wide, epoch := o0.epoch, store := o0.store, locks := o0.locks, last := t771.2, book := o0.book, open_ := o0.open_, out := o0.out, used := o0.used } : lane_State).store, locks := ({ wide := o0.wide, epoch := o0.epoch, store := o0.store, locks := o0.locks, last := t771.2, book := o0.book, open_ := o0.open_, out := o0.out, used := o0.used } : lane_State).locks, last := ({ wide := o0.wide, epoch := o0.epoch, store := o0.store, locks := o0.locks, last := t771.2, book := o0.book, open_ := o0.open_, out := o0.out, used := o0.used } : lane_State).last, book := ({ wide := o0.wide, epoch := o0.epoch, store := o0.store, locks := o0.locks, last := t771.2, book := o0.book, open_ := o0.open_, out := o0.out, used := o0.used } : lane_State).book, open_ := t844, out := ({ wide := o0.wide, epoch := o0.epoch, store := o0.store, locks := o0.locks, last := t771.2, book := o0.book, open_ := o0.open_, out := o0.out, used := o0.used } : lane_State).out, used := ({ wide := o0.wide, epoch := o0.epoch, store := o0.store, locks := o0.locks, last := t771.2, book := o0.book, open_ := o0.open_, out := o0.out, used := o0.used } : lane_State).used } : lane_State), _, hx895, (fu 5 (Pt b696 0) z (fu 6 (Pt b703 0) z (fu 7 (Pt b710 0) z z))), hL896, hst⟩
}
 {
 replace hm := bif_f hc804 hm
 refine wp_iff (cvb hc804) ?_
 refine wp_skip (tn (wp_seq (wrl ?_)))
 refine wv (Pt b721 0) z z z (wv (Pt b696 1) z z (x_field z underlying49 z sizeOf28 z) (wv (.agg #[U6 a2.ID.Session, U6 a2.ID.Seq]) z z (x_loadN (cs := [U6 a2.ID.Session, U6 a2.ID.Seq]) z isAgg28 sizeOf28 (hst.bcs9 1 z)) ?_))
 replace hst := hst.pull8.pull8.pull8.pull8.pull5.pull8.pull8.pull8
 replace hst := at_lane_State_close (pv := Pt b721 0) (x := ({ wide := o0.wide, epoch := o0.epoch, store := o0.store, locks := o0.locks, last := t771.2, book := o0.book, open_ := o0.open_, out := o0.out, used := o0.used } : lane_State)) hst z
 replace hst := objO_some hst
 obtain ⟨t853, ht854, hm⟩ := bind_some hm
 refine wc call51 [Pt b721 0, .agg #[U6 a2.ID.Session, U6 a2.ID.Seq]] z z z ?_
 refine (lane_State_find_ref hst.to1 ht854).mono ?_
 rintro _ w855 ⟨rfl, hst⟩
 refine ⟨_, z, ?_⟩
 replace hst := hst.of1
 replace hst := objO_get hst
 refine wv (.tuple #[I6 t853.1, .bool t853.2]) z z z (wv (.int .i64 t853.1) z z z (wv (.bool t853.2) z z z (wv (.int .i64 t853.1) z z z (wv (.bool t853.2) z z z (wl_nil (tn ?_))))))
 obtain ⟨b858, v859, v861, v863, v865, v867, v869, v871, e873, hst'⟩ := at_lane_State_open hst
 clear hst
 have e873 := ptr_inj e873
 subst e873
 have hst := hst'
 clear hst'
 refine wp_region_St hst 12 [0, 1, 2, 3, 4, 5, 6, 7, 8, 9, 10, 11] [0, 0, 2, 6, 14, 0, 0, 64, 254, 511, 1023, 2047] [] z (by kernel_rfl) (by kernel_rfl) Tryz.mixed (by kernel_rfl) ?_
 refine wsr (Pt b721 0) 0 z z z (by kernel_rfl) (fun w hst => z) (wsr (Pt b721 0) 1 z z z (by kernel_rfl) (fun w hst => z) (wsr (Pt b721 0) 2 z z z (by kernel_rfl) (fun w hst => z) (wsr (Pt b721 6) 3 z z z (by kernel_rfl) (fun w hst => x_field z underlying111 z sizeOf65 z) (wsr (v867) 4 z z z (by kernel_rfl) (fun w hst => x_load z isAgg65 (hst.bc0 z)) (wsr (.int .i64 t853.1) 5 z z z (by kernel_rfl) (fun w hst => z) (wsr (.agg #[U6 a2.ID.Session, U6 a2.ID.Seq, I6 (9:Int), U6 a2.Epoch, U6 a1, U6 a2.Shards, Zs]) 6 z z z (by kernel_rfl) (fun w hst => x_loadN (cs := [U6 a2.ID.Session, U6 a2.ID.Seq, I6 (9:Int), U6 a2.Epoch, U6 a1, U6 a2.Shards, Zs]) z isAgg89 sizeOf89 (hst.bcs8 0 z)) ?_))))))
 refine ws_e1 7 (by kernel_rfl) ?_
 refine nxe [8, 9, 10, 11] (by kernel_rfl) z z ?_
 clear hst
 intro w hst
 have f875 : Ro ty_api_Part I (.slice none 0 0) [] := ro_nil
 obtain ⟨b876, w877, ew878, eb879, hst⟩ := hst.lits (E := ty_api_Decision) (xs := [({ ID := a2.ID, E := (9:Int), Epoch := a2.Epoch, Index := a1, Shards := a2.Shards, Parts := [] } : api_Decision)]) [[U6 a2.ID.Session, U6 a2.ID.Seq, I6 (9:Int), U6 a2.Epoch, U6 a1, U6 a2.Shards, Zs]] 89 1 z (Reps.cons ⟨_, z, f875, one_of_sliceV (ro_sliceV f875)⟩ Reps.nil)
 refine we_run (v := (.slice (some ⟨b876, 0, none⟩) 1 1)) (w' := w877) z (x_als (by kernel_rfl) ew878 eb879) ?_
 refine ws_next (pend' := [(5, I6 t853.1), (4, v867), (3, Pt b721 6), (2, Pt b721 0), (1, Pt b721 0), (0, Pt b721 0)]) hst (by kernel_rfl) (pkr z z (fun w hst => z) (pkr z z (fun w hst => x_load z isAgg65 (hst.bc1 z)) (pkr z z (fun w hst => x_field z underlying111 z sizeOf65 z) (pkr z z (fun w hst => z) (pkr z z (fun w hst => z) (pkr z z (fun w hst => z) pk_nil)))))) ?_
 refine ws_e1 8 (by kernel_rfl) ?_
 refine nxe [9, 10, 11] (by kernel_rfl) z z ?_
 clear hst
 intro w hst
 replace hst := hst.pull6
 obtain ⟨t881, ht882, hm⟩ := bind_some hm
 refine wec call127 [v867, I6 t853.1, (.slice (some ⟨b876, 0, none⟩) 1 1)] z z ?_
 refine (slices_Insert_api_Decision_api_Decision_ref hst.to2 ht882).mono ?_
 rintro _ w883 ⟨v886, rfl, hst⟩
 refine ⟨_, z, ?_⟩
 replace hst := hst.of1
 refine ws_next (pend' := [(0, Pt b721 0)]) hst (by kernel_rfl) (pkr z z (fun w hst => z) pk_nil) ?_
 refine wsr (Pt b721 0) 9 z z z (by kernel_rfl) (fun w hst => z) (wsr (Pt b721 6) 10 z z z (by kernel_rfl) (fun w hst => x_field z underlying111 z sizeOf65 z) ?_)
 refine ws_e1 11 (by kernel_rfl) ?_
 refine nxe [] (by kernel_rfl) z z ?_
 clear hst
 intro w hst
 replace hst := hst.pull1
 obtain ⟨w888, hr889, hst⟩ := hst.boxStore1 (P := prog) (t := 65) (cs' := [I6 (({ wide := o0.wide, epoch := o0.epoch, store := o0.store, locks := o0.locks, last := t771.2, book := o0.book, open_ := o0.open_, out := o0.out, used := o0.used } : lane_State).wide), U6 (({ wide := o0.wide, epoch := o0.epoch, store := o0.store, locks := o0.locks, last := t771.2, book := o0.book, open_ := o0.open_, out := o0.out, used := o0.used } : lane_State).epoch), v859, v861, v863, v865, v886, v869, v871]) 6 v886 (one_of_sliceV hst.sv1) sizeOf65 z z
 refine we_unit z (x_unit hr889) ?_
 refine ws_next (pend' := []) hst (by kernel_rfl) pk_nil ?_
 refine ws_nil ?_
 intro w hst
 refine tn ?_
 replace hst := hst.pull7.pull7.pull3.pull7.pull7.pull7.pull7.pull7
 replace hst := at_lane_State_close (pv := Pt b721 0) (x := ({ wide := ({ wide := o0.wide, epoch := o0.epoch, store := o0.store, locks := o0.locks, last := t771.2, book := o0.book, open_ := o0.open_, out := o0.out, used := o0.used } : lane_State).wide, epoch := ({ wide := o0.wide, epoch := o0.epoch, store := o0.store, locks := o0.locks, last := t771.2, book := o0.book, open_ := o0.open_, out := o0.out, used := o0.used } : lane_State).epoch, store := ({ wide := o0.wide, epoch := o0.epoch, store := o0.store, locks := o0.locks, last := t771.2, book := o0.book, open_ := o0.open_, out := o0.out, used := o0.used } : lane_State).store, locks := ({ wide := o0.wide, epoch := o0.epoch, store := o0.store, locks := o0.locks, last := t771.2, book := o0.book, open_ := o0.open_, out := o0.out, used := o0.used } : lane_State).locks, last := ({ wide := o0.wide, epoch := o0.epoch, store := o0.store, locks := o0.locks, last := t771.2, book := o0.book, open_ := o0.open_, out := o0.out, used := o0.used } : lane_State).last, book := ({ wide := o0.wide, epoch := o0.epoch, store := o0.store, locks := o0.locks, last := t771.2, book := o0.book, open_ := o0.open_, out := o0.out, used := o0.used } : lane_State).book, open_ := t881, out := ({ wide := o0.wide, epoch := o0.epoch, store := o0.store, locks := o0.locks, last := t771.2, book := o0.book, open_ := o0.open_, out := o0.out, used := o0.used } : lane_State).out, used := ({ wide := o0.wide, epoch := o0.epoch, store := o0.store, locks := o0.locks, last := t771.2, book := o0.book, open_ := o0.open_, out := o0.out, used := o0.used } : lane_State).used } : lane_State)) hst z
 replace hst := hst.pull4.pull4.pull4.keep4
 obtain rfl := some_inj hm
 exact ⟨_, ({ wide := ({ wide := o0.wide, epoch := o0.epoch, store := o0.store, locks := o0.locks, last := t771.2, book := o0.book, open_ := o0.open_, out := o0.out, used := o0.used } : lane_State).wide, epoch := ({ wide := o0.wide, epoch := o0.epoch, store := o0.store, locks := o0.locks, last := t771.2, book := o0.book, open_ := o0.open_, out := o0.out, used := o0.used } : lane_State).epoch, store := ({ wide := o0.wide, epoch := o0.epoch, store := o0.store, locks := o0.locks, last := t771.2, book := o0.book, open_ := o0.open_, out := o0.out, used := o0.used } : lane_State).store, locks := ({ wide := o0.wide, epoch := o0.epoch, store := o0.store, locks := o0.locks, last := t771.2, book := o0.book, open_ := o0.open_, out := o0.out, used := o0.used } : lane_State).locks, last := ({ wide := o0.wide, epoch := o0.epoch, store := o0.store, locks := o0.locks, last := t771.2, book := o0.book, open_ := o0.open_, out := o0.out, used := o0.used } : lane_State).last, book := ({ wide := o0.wide, epoch := o0.epoch, store := o0.store, locks := o0.locks, last := t771.2, book := o0.book, open_ := o0.open_, out := o0.out, used := o0.used } : lane_State).book, open_ := t881, out := ({ wide := o0.wide, epoch := o0.epoch, store := o0.store, locks := o0.locks, last := t771.2, book := o0.book, open_ := o0.open_, out := o0.out, used := o0.used } : lane_State).out, used := ({ wide := o0.wide, epoch := o0.epoch, store := o0.store, locks := o0.locks, last := t771.2, book := o0.book, open_ := o0.open_, out := o0.out, used := o0.used } : lane_State).used } : lane_State), _, hx895, (fu 5 (Pt b696 0) z (fu 6 (Pt b703 0) z (fu 7 (Pt b710 0) z z))), hL896, hst⟩
}
}
 {
 replace hm := bif_f hc794 hm
 refine wp_iff (cvb hc794) ?_
 refine wp_skip (tn ?_)
 replace hst := hst.pull7.pull7.pull7.pull7.pull4.pull7.pull7.pull7
 replace hst := at_lane_State_close (pv := Pt b721 0) (x := ({ wide := o0.wide, epoch := o0.epoch, store := o0.store, locks := o0.locks, last := t771.2, book := o0.book, open_ := o0.open_, out := o0.out, used := o0.used } : lane_State)) hst z
 replace hst := hst.pull3.pull3.pull3.keep4
 obtain rfl := some_inj hm
 exact ⟨_, ({ wide := o0.wide, epoch := o0.epoch, store := o0.store, locks := o0.locks, last := t771.2, book := o0.book, open_ := o0.open_, out := o0.out, used := o0.used } : lane_State), _, hx895, (fu 5 (Pt b696 0) z (fu 6 (Pt b703 0) z (fu 7 (Pt b710 0) z z))), hL896, hst⟩
}
}
 {
 clear hst
 rintro _ w897 ⟨I891, z890, σ892, hm, rfl, hL893, hst⟩
 dsimp only [lane_State_decide_j2] at hm
 replace f2_0 := f2_0.mono (ro_le hL893)
 replace f2_1 := f2_1.mono (ro_le hL893)
 replace f2_2 := f2_2.mono (ro_le hL893)
 replace f2_3 := f2_3.mono (ro_le hL893)
 replace f2_4 := f2_4.mono (ro_le hL893)
 replace f2_5 := f2_5.mono (ro_le hL893)
 replace f2_6 := f2_6.mono (ro_le hL893)
 replace f2_7 := f2_7.mono (ro_le hL893)
 replace f769 := f769.mono (ro_le hL893)
 replace f770 := f770.mono (ro_le hL893)
 replace hI0 := hI0.trans hL893
 refine wp_seq (wrl (wv (Pt b696 1) z z (x_field z underlying49 z sizeOf28 z) (wv (.agg #[U6 a2.ID.Session, U6 a2.ID.Seq]) z z (x_loadN (cs := [U6 a2.ID.Session, U6 a2.ID.Seq]) z isAgg28 sizeOf28 (hst.bcs0 1 z)) (wv (.agg #[I6 (9:Int), U6 a2.Epoch, U6 a1, Zs, Zs]) z z (x_loadN (cs := [I6 (9:Int), U6 a2.Epoch, U6 a1, Zs, Zs]) z isAgg33 sizeOf33 (hst.bcs2 0 z)) (wv (.agg #[U1 (4:Int), U6 a2.ID.Session, U6 a2.ID.Seq, I6 (9:Int), U6 a2.Epoch, U6 a1, Zs, Zs]) z z (by kernel_rfl) ?_)))))
 replace hst := hst.pull1
 obtain ⟨w900, hr901, hst⟩ := hst.bx [U1 (4:Int), U6 a2.ID.Session, U6 a2.ID.Seq, I6 (9:Int), U6 a2.Epoch, U6 a1, Zs, Zs] sizeOf35 z (oC z (oC z (oC z (oC z (oC z (oC z (oC (one_of_sliceV (ro_sliceV f769)) (oC (one_of_sliceV (ro_sliceV f770)) oN)))))))) (by kernel_rfl)
 refine wl_unit z z (x_unit hr901) ?_
 refine wl_nil (tn (wp_ret ?_))
 replace hst := hst.pull3
 replace hst := objO_some hst
 obtain rfl := some_inj hm
 refine post_ret (vs := [.agg #[U1 (4:Int), U6 a2.ID.Session, U6 a2.ID.Seq, I6 (9:Int), U6 a2.Epoch, U6 a1, Zs, Zs]]) results50 (rvs_cons (rv_cell (cs := [U1 (4:Int), U6 a2.ID.Session, U6 a2.ID.Seq, I6 (9:Int), U6 a2.Epoch, U6 a1, Zs, Zs]) z isAgg35 sizeOf35 (hst.bcs1 0 z)) rvs_nil) ?_
 exact ⟨_, Zs, Zs, z, hI0, f769, f770, hst.keep1⟩
}
}
}
}
 {
 replace hm := bif_f hc737 hm
 refine wp_iff (cvb hc737) ?_
 refine wp_skip (tn ?_)
 obtain ⟨y910, hm, hx911⟩ := joinO_some hm
 refine wp_cut (fun a w => ∃ (σ908 : Nat → Value), (lane_State_decide_j3 o0 a2 a1) () = some r ∧ a = Fr 103 (upd (upd (upd (upd (upd σ908 0 (Pt b721 0)) 1 (.int .u64 a1)) 5 (Pt b696 0)) 6 (Pt b703 0)) 7 (Pt b710 0)) ∧ St w0 w I [at_lane_State (Pt b721 0) o0, cells b696 [U1 a2.Kind, U6 a2.ID.Session, U6 a2.ID.Seq, U6 a2.Epoch, U6 a2.Index, I6 a2.E, U6 a2.Hold.ID.Session, U6 a2.Hold.ID.Seq, U6 a2.Hold.Epoch, r2_0, r2_1, r2_2, r2_3, r2_4, I6 a2.R.E, U6 a2.R.Epoch, U6 a2.R.Index, r2_5, r2_6, U6 a2.Shards, r2_7, U6 a2.Rule.ID, I6 a2.Rule.From, I6 a2.Rule.To, F6 a2.Rule.Lo, F6 a2.Rule.Hi, U6 a2.Rule.Authority, I6 a2.Rule.Quota, .bool a2.On], cells b703 [Zb, Zu, Zu, Zi, Zu, Zu, Zs, Zs], cells b710 [I6 a2.R.E, U6 a2.Epoch, U6 a1, r2_5, r2_6]] R) ?_ ?_
 {
 refine wp_seq (wrl (wv (Pt b710 0) z z (x_field z underlying33 z sizeOf29 z) (wv (.int .i64 a2.R.E) z z (x_load z isAgg29 (hst.bc8 z)) (wv (.bool (a2.R.E != (0:Int))) z z z (wv (.bool (a2.R.E != (0:Int))) z z z ?_)))))
 refine bsplit (a2.R.E != (0:Int)) (fun hc902 => ?_) (fun hc902 => ?_)
 {
 replace hm := bif_t hc902 hm
 refine wv (Pt b696 1) ((wanted_eq z z z (cvb hc902)).trans z) z (x_field z underlying49 z sizeOf28 z) (wv (Pt b696 1) ((wanted_eq z z z (cvb hc902)).trans z) z (x_field z underlying28 z sizeOf26 z) (wv (.int .u64 a2.ID.Session) ((wanted_eq z z z (cvb hc902)).trans z) z (x_load z isAgg26 (hst.bc10 z)) (wv (.bool (decide (a2.ID.Session ≥ (9223372036854775808:Int)))) ((wanted_eq z z z (cvb hc902)).trans z) z z (wv (.bool (decide (a2.ID.Session ≥ (9223372036854775808:Int)))) z z (x_pick_t hc902 z z) (wl_nil (tn ?_))))))
 refine bsplit (decide (a2.ID.Session ≥ (9223372036854775808:Int))) (fun hc903 => ?_) (fun hc903 => ?_)
 {
 replace hm := bif_t hc903 hm
 refine wp_ift (cvb hc903) ?_
 refine wp_seq (wrl (wv (.agg #[Zb, Zu, Zu, Zi, Zu, Zu, Zs, Zs]) z z (by kernel_rfl) ?_))
 replace hst := hst.pull9
 obtain ⟨w906, hr907, hst⟩ := hst.bx [Zb, Zu, Zu, Zi, Zu, Zu, Zs, Zs] sizeOf35 z (oC z (oC z (oC z (oC z (oC z (oC z (oC z (oC z oN)))))))) (by kernel_rfl)
 refine wl_unit z z (x_unit hr907) ?_
 refine wl_nil (tn (wp_ret (then_r ?_)))
 replace hm := inr_up hm hx911
 have f908 : Ro ty_api_Got I (.slice none 0 0) [] := ro_nil
 have f909 : Ro (tySl ty_api_Pair) I (.slice none 0 0) [] := ro_nil
 replace hst := hst.pull8.pull8.pull8.pull8.pull8.pull8.pull8.pull8
 replace hst := at_lane_State_close (pv := Pt b721 0) (x := o0) hst z
 replace hst := objO_some hst
 obtain rfl := some_inj hm
 refine post_ret (vs := [.agg #[Zb, Zu, Zu, Zi, Zu, Zu, Zs, Zs]]) results50 (rvs_cons (rv_cell (cs := [Zb, Zu, Zu, Zi, Zu, Zu, Zs, Zs]) z isAgg35 sizeOf35 (hst.bcs1 0 z)) rvs_nil) ?_
 exact ⟨_, Zs, Zs, z, hI0, f908, f909, hst.keep1⟩
}
 {
 replace hm := bif_f hc903 hm
 refine wp_iff (cvb hc903) ?_
 refine wp_skip (tn ?_)
 replace hst := hst.pull7.pull7.pull7.pull7.pull7.pull7.pull7.pull7
 replace hst := at_lane_State_close (pv := Pt b721 0) (x := o0) hst z
 replace hst := hst.pull1.pull2.pull3.pull3.keep4
 obtain rfl := some_inj hm
 exact ⟨_, hx911, (fu 0 (Pt b721 0) z (fu 1 (.int .u64 a1) z (fu 5 (Pt b696 0) z (fu 6 (Pt b703 0) z (fu 7 (Pt b710 0) z z))))), hst⟩
}
}
 {
 replace hm := bif_f hc902 hm
 refine wo hc902 z z z z z z (wo hc902 z z z z z z (wo hc902 z z z z z z (wo hc902 z z z z z z (wv (.bool false) z z (x_pick_f hc902 z z) (wl_nil (tn ?_))))))
 refine wp_iff z ?_
 refine wp_skip (tn ?_)
 replace hst := hst.pull7.pull7.pull7.pull7.pull7.pull7.pull7.pull7
 replace hst := at_lane_State_close (pv := Pt b721 0) (x := o0) hst z
 replace hst := hst.pull1.pull2.pull3.pull3.keep4
 obtain rfl := some_inj hm
 exact ⟨_, hx911, (fu 0 (Pt b721 0) z (fu 1 (.int .u64 a1) z (fu 5 (Pt b696 0) z (fu 6 (Pt b703 0) z (fu 7 (Pt b710 0) z z))))), hst⟩
}
}
 {
 clear hst
 rintro _ w912 ⟨σ908, hm, rfl, hst⟩
 dsimp only [lane_State_decide_j3] at hm
 refine wp_seq (wp_seq ?_)
 obtain ⟨b913, v914, v916, v918, v920, v922, v924, v926, e928, hst'⟩ := at_lane_State_open hst
 clear hst
 have e928 := ptr_inj e928
 subst e928
 have hst := hst'
 clear hst'
 refine wp_region_St hst 13 [0, 1, 2, 3, 4, 5, 6, 7, 8, 9, 10, 11, 12] [0, 1, 3, 7, 0, 16, 48, 0, 128, 384, 0, 2047, 4095] [] z (by kernel_rfl) (by kernel_rfl) Tryz.mixed (by kernel_rfl) ?_
 refine wsr (Pt b721 0) 0 z z z (by kernel_rfl) (fun w hst => z) (wsr (Pt b721 0) 1 z z z (by kernel_rfl) (fun w hst => z) (wsr (Pt b721 4) 2 z z z (by kernel_rfl) (fun w hst => x_field z underlying111 z sizeOf105 z) (wsr (v918) 3 z z z (by kernel_rfl) (fun w hst => x_load z isAgg105 (hst.bc0 z)) (wsr (Pt b696 1) 4 z z z (by kernel_rfl) (fun w hst => x_field z underlying49 z sizeOf28 z) (wsr (Pt b696 1) 5 z z z (by kernel_rfl) (fun w hst => x_field z underlying28 z sizeOf26 z) (wsr (.int .u64 a2.ID.Session) 6 z z z (by kernel_rfl) (fun w hst => x_load z isAgg26 (hst.bc8 z)) (wsr (Pt b696 1) 7 z z z (by kernel_rfl) (fun w hst => x_field z underlying49 z sizeOf28 z) (wsr (Pt b696 2) 8 z z z (by kernel_rfl) (fun w hst => x_field z underlying28 z sizeOf26 z) (wsr (.int .u64 a2.ID.Seq) 9 z z z (by kernel_rfl) (fun w hst => x_load z isAgg26 (hst.bc8 z)) (wsr (.agg #[I6 a2.R.E, U6 a2.Epoch, U6 a1, r2_5, r2_6]) 10 z z z (by kernel_rfl) (fun w hst => x_loadN (cs := [I6 a2.R.E, U6 a2.Epoch, U6 a1, r2_5, r2_6]) z isAgg33 sizeOf33 (hst.bcs10 0 z)) ?_))))))))))
 refine ws_e1 11 (by kernel_rfl) ?_
 refine nxe [12] (by kernel_rfl) z z ?_
 clear hst
 intro w hst
 replace hst := hst.pull3
 obtain ⟨t929, ht930, hm⟩ := bind_some hm
 refine wec call124 [v918, U6 a2.ID.Session, U6 a2.ID.Seq, .agg #[I6 a2.R.E, U6 a2.Epoch, U6 a1, r2_5, r2_6]] z z ?_
 refine (session_Table_Put_ref (a3 := ({ E := a2.R.E, Epoch := a2.Epoch, Index := a1, Gots := a2.R.Gots, Scans := a2.R.Scans } : api_Reply)) f2_5 f2_6 hst.to1 ht930).mono ?_
 rintro _ w931 ⟨rfl, hst⟩
 refine ⟨_, z, ?_⟩
 replace hst := hst.of1
 refine ws_next (pend' := []) hst (by kernel_rfl) pk_nil ?_
 refine wsr (.bool (t929.1 != (0:Int))) 12 z z z (by kernel_rfl) (fun w hst => z) ?_
 refine ws_nil ?_
 intro w hst
 refine tn ?_
 refine bsplit (t929.1 != (0:Int)) (fun hc934 => ?_) (fun hc934 => ?_)
 {
 replace hm := bif_t hc934 hm
 refine wp_ift (cvb hc934) ?_
 refine wp_seq (wrl (wv (Pt b721 0) z z z (wv (Pt b696 1) z z (x_field z underlying49 z sizeOf28 z) (wv (.agg #[U6 a2.ID.Session, U6 a2.ID.Seq]) z z (x_loadN (cs := [U6 a2.ID.Session, U6 a2.ID.Seq]) z isAgg28 sizeOf28 (hst.bcs8 1 z)) ?_))))
 replace hst := hst.pull7.pull7.pull7.pull7.pull4.pull7.pull7.pull7
 replace hst := at_lane_State_close (pv := Pt b721 0) (x := ({ wide := o0.wide, epoch := o0.epoch, store := o0.store, locks := o0.locks, last := t929.2, book := o0.book, open_ := o0.open_, out := o0.out, used := o0.used } : lane_State)) hst z
 replace hst := objO_some hst
 obtain ⟨t935, ht936, hm⟩ := bind_some hm
 refine wc call125 [Pt b721 0, .agg #[U6 a2.ID.Session, U6 a2.ID.Seq]] z z z ?_
 refine (lane_State_late_ref hst.to1 ht936).mono ?_
 rintro _ w937 ⟨v940, v942, rfl, hst⟩
 refine ⟨_, z, ?_⟩
 replace hst := hst.of3.pull2
 replace hst := objO_get hst
 replace hst := hst.pull4
 obtain ⟨w944, hr945, hst⟩ := hst.bx [U1 t935.Kind, U6 t935.ID.Session, U6 t935.ID.Seq, I6 t935.R.E, U6 t935.R.Epoch, U6 t935.R.Index, v940, v942] sizeOf35 z (oC z (oC z (oC z (oC z (oC z (oC z (oC (one_of_sliceV hst.sv2) (oC (one_of_sliceV hst.sv3) oN)))))))) (by kernel_rfl)
 refine wl_unit z z (x_unit hr945) ?_
 refine wl_nil (tn (wp_ret (then_r ?_)))
 replace hst := hst.pull2
 obtain ⟨I946, hI947, f948, hst⟩ := hst.own_fix
 replace f2_0 := f2_0.mono (ro_le hI947)
 replace f2_1 := f2_1.mono (ro_le hI947)
 replace f2_2 := f2_2.mono (ro_le hI947)
 replace f2_3 := f2_3.mono (ro_le hI947)
 replace f2_4 := f2_4.mono (ro_le hI947)
 replace f2_5 := f2_5.mono (ro_le hI947)
 replace f2_6 := f2_6.mono (ro_le hI947)
 replace f2_7 := f2_7.mono (ro_le hI947)
 replace hI0 := hI0.trans hI947
 replace hst := hst.pull2
 obtain ⟨I949, hI950, f951, hst⟩ := hst.own_fix
 replace f2_0 := f2_0.mono (ro_le hI950)
 replace f2_1 := f2_1.mono (ro_le hI950)
 replace f2_2 := f2_2.mono (ro_le hI950)
 replace f2_3 := f2_3.mono (ro_le hI950)
 replace f2_4 := f2_4.mono (ro_le hI950)
 replace f2_5 := f2_5.mono (ro_le hI950)
 replace f2_6 := f2_6.mono (ro_le hI950)
 replace f2_7 := f2_7.mono (ro_le hI950)
 replace f948 := f948.mono (ro_le hI950)
 replace hI0 := hI0.trans hI950
 replace hst := hst.pull1
 replace hst := objO_some hst
 obtain rfl := some_inj hm
 refine post_ret (vs := [.agg #[U1 t935.Kind, U6 t935.ID.Session, U6 t935.ID.Seq, I6 t935.R.E, U6 t935.R.Epoch, U6 t935.R.Index, v940, v942]]) results50 (rvs_cons (rv_cell (cs := [U1 t935.Kind, U6 t935.ID.Session, U6 t935.ID.Seq, I6 t935.R.E, U6 t935.R.Epoch, U6 t935.R.Index, v940, v942]) z isAgg35 sizeOf35 (hst.bcs1 0 z)) rvs_nil) ?_
 exact ⟨_, v940, v942, z, hI0, f948, f951, hst.keep1⟩
}
 {
 replace hm := bif_f hc934 hm
 refine wp_iff (cvb hc934) ?_
 refine wp_skip (tn ?_)
 obtain ⟨y1014, hm, hx1015⟩ := bind_some hm
 refine wp_cut (fun a w => ∃ (I1011 : HL) (z1010 : lane_State) (σ1012 : Nat → Value), (lane_State_decide_j4 a2 a1) z1010 = some r ∧ a = Fr 103 (upd (upd (upd σ1012 5 (Pt b696 0)) 6 (Pt b703 0)) 7 (Pt b710 0)) ∧ I.le I1011 ∧ St w0 w I1011 [cells b696 [U1 a2.Kind, U6 a2.ID.Session, U6 a2.ID.Seq, U6 a2.Epoch, U6 a2.Index, I6 a2.E, U6 a2.Hold.ID.Session, U6 a2.Hold.ID.Seq, U6 a2.Hold.Epoch, r2_0, r2_1, r2_2, r2_3, r2_4, I6 a2.R.E, U6 a2.R.Epoch, U6 a2.R.Index, r2_5, r2_6, U6 a2.Shards, r2_7, U6 a2.Rule.ID, I6 a2.Rule.From, I6 a2.Rule.To, F6 a2.Rule.Lo, F6 a2.Rule.Hi, U6 a2.Rule.Authority, I6 a2.Rule.Quota, .bool a2.On], cells b703 [Zb, Zu, Zu, Zi, Zu, Zu, Zs, Zs], cells b710 [I6 a2.R.E, U6 a2.Epoch, U6 a1, r2_5, r2_6], at_lane_State (Pt b721 0) z1010] R) ?_ ?_
 {
 have hL1016 := HL.le.refl I
 refine wp_seq (wrl (wv (Pt b696 19) z z (x_field z underlying49 z sizeOf26 z) (wv (.int .u64 a2.Shards) z z (x_load z isAgg26 (hst.bc8 z)) (wv (.bool (a2.Shards != (0:Int))) z z z (wl_nil (tn ?_))))))
 refine bsplit (a2.Shards != (0:Int)) (fun hc952 => ?_) (fun hc952 => ?_)
 {
 replace hm := bif_t hc952 hm
 refine wp_ift (cvb hc952) ?_
 refine wp_seq (wrl (wv (Pt b696 1) z z (x_field z underlying49 z sizeOf28 z) (wv (.agg #[U6 a2.ID.Session, U6 a2.ID.Seq]) z z (x_loadN (cs := [U6 a2.ID.Session, U6 a2.ID.Seq]) z isAgg28 sizeOf28 (hst.bcs8 1 z)) (wv (Pt b710 0) z z (x_field z underlying33 z sizeOf29 z) (wv (.int .i64 a2.R.E) z z (x_load z isAgg29 (hst.bc10 z)) (wv (Pt b696 3) z z (x_field z underlying49 z sizeOf26 z) (wv (.int .u64 a2.Epoch) z z (x_load z isAgg26 (hst.bc8 z)) (wv (.int .u64 a1) z z z (wv (Pt b696 19) z z (x_field z underlying49 z sizeOf26 z) (wv (.int .u64 a2.Shards) z z (x_load z isAgg26 (hst.bc8 z)) (wv (.agg #[U6 a2.ID.Session, U6 a2.ID.Seq, I6 a2.R.E, U6 a2.Epoch, U6 a1, U6 a2.Shards, Zs]) z z (by kernel_rfl) ?_)))))))))))
 obtain ⟨b955, w956, ew957, eb958, hst⟩ := hst.box [Zu, Zu, Zi, Zu, Zu, Zu, Zs] 89
 refine wl_run (v := Pt b955 0) (w' := w956) z z (x_al (by kernel_rfl) ew957 eb958) ?_
 obtain ⟨w960, hr961, hst⟩ := hst.bx [U6 a2.ID.Session, U6 a2.ID.Seq, I6 a2.R.E, U6 a2.Epoch, U6 a1, U6 a2.Shards, Zs] sizeOf89 z (oC z (oC z (oC z (oC z (oC z (oC z (oC z oN))))))) (by kernel_rfl)
 refine wl_unit z z (x_unit hr961) ?_
 refine wl_nil (tn (wp_seq (wp_seq (wrl (wv (Pt b710 0) z z (x_field z underlying33 z sizeOf29 z) (wv (.int .i64 a2.R.E) z z (x_load z isAgg29 (hst.bc11 z)) (wv (.bool (a2.R.E == (0:Int))) z z z (wl_nil (tn ?_)))))))))
 refine wp_ift (cvb hc736) ?_
 refine wrl (wv (Pt b696 20) z z (x_field z underlying49 z sizeOf47 z) (wv (r2_7) z z (x_load z isAgg47 (hst.bc9 z)) ?_))
 obtain ⟨t962, ht963, hm⟩ := bind_some hm
 refine wc call126 [r2_7] z z z ?_
 refine (slices_Clone_api_Part_api_Part_ref (RdO.of_ro f2_7 _) hst.to0 ht963).mono ?_
 rintro _ w964 ⟨v967, rfl, hst⟩
 refine ⟨_, z, ?_⟩
 replace hst := hst.of1
 refine wv (Pt b955 6) z z (x_field z underlying89 z sizeOf47 z) ?_
 replace hst := hst.pull1
 obtain ⟨w969, hr970, hst⟩ := hst.boxStore1 (P := prog) (t := 47) (cs' := [U6 a2.ID.Session, U6 a2.ID.Seq, I6 a2.R.E, U6 a2.Epoch, U6 a1, U6 a2.Shards, v967]) 6 v967 (one_of_sliceV hst.sv1) sizeOf47 z z
 refine wl_unit z z (x_unit hr970) ?_
 refine wl_nil (tn (wp_seq (wrl (wv (Pt b721 0) z z z (wv (Pt b696 1) z z (x_field z underlying49 z sizeOf28 z) (wv (.agg #[U6 a2.ID.Session, U6 a2.ID.Seq]) z z (x_loadN (cs := [U6 a2.ID.Session, U6 a2.ID.Seq]) z isAgg28 sizeOf28 (hst.bcs10 1 z)) ?_))))))
 replace hst := hst.pull9.pull9.pull9.pull9.pull6.pull9.pull9.pull9
 replace hst := at_lane_State_close (pv := Pt b721 0) (x := ({ wide := o0.wide, epoch := o0.epoch, store := o0.store, locks := o0.locks, last := t929.2, book := o0.book, open_ := o0.open_, out := o0.out, used := o0.used } : lane_State)) hst z
 replace hst := objO_some hst
 obtain ⟨t971, ht972, hm⟩ := bind_some hm
 refine wc call51 [Pt b721 0, .agg #[U6 a2.ID.Session, U6 a2.ID.Seq]] z z z ?_
 refine (lane_State_find_ref hst.to1 ht972).mono ?_
 rintro _ w973 ⟨rfl, hst⟩
 refine ⟨_, z, ?_⟩
 replace hst := hst.of1
 replace hst := objO_get hst
 refine wv (.tuple #[I6 t971.1, .bool t971.2]) z z z (wv (.int .i64 t971.1) z z z (wv (.bool t971.2) z z z (wv (.int .i64 t971.1) z z z (wv (.bool t971.2) z z z (wl_nil (tn ?_))))))
 obtain ⟨b976, v977, v979, v981, v983, v985, v987, v989, e991, hst'⟩ := at_lane_State_open hst
 clear hst
 have e991 := ptr_inj e991
 subst e991
 have hst := hst'
 clear hst'
 refine wp_region_St hst 12 [0, 1, 2, 3, 4, 5, 6, 7, 8, 9, 10, 11] [0, 0, 2, 6, 14, 0, 0, 64, 254, 511, 1023, 2047] [] z (by kernel_rfl) (by kernel_rfl) Tryz.mixed (by kernel_rfl) ?_
 refine wsr (Pt b721 0) 0 z z z (by kernel_rfl) (fun w hst => z) (wsr (Pt b721 0) 1 z z z (by kernel_rfl) (fun w hst => z) (wsr (Pt b721 0) 2 z z z (by kernel_rfl) (fun w hst => z) (wsr (Pt b721 6) 3 z z z (by kernel_rfl) (fun w hst => x_field z underlying111 z sizeOf65 z) (wsr (v985) 4 z z z (by kernel_rfl) (fun w hst => x_load z isAgg65 (hst.bc0 z)) (wsr (.int .i64 t971.1) 5 z z z (by kernel_rfl) (fun w hst => z) (wsr (.agg #[U6 a2.ID.Session, U6 a2.ID.Seq, I6 a2.R.E, U6 a2.Epoch, U6 a1, U6 a2.Shards, v967]) 6 z z z (by kernel_rfl) (fun w hst => x_loadN (cs := [U6 a2.ID.Session, U6 a2.ID.Seq, I6 a2.R.E, U6 a2.Epoch, U6 a1, U6 a2.Shards, v967]) z isAgg89 sizeOf89 (hst.bcs8 0 z)) ?_))))))
 refine ws_e1 7 (by kernel_rfl) ?_
 refine nxe [8, 9, 10, 11] (by kernel_rfl) z z ?_
 clear hst
 intro w hst
 replace hst := hst.pull9
 obtain ⟨I993, hI994, f995, hst⟩ := hst.own_fix
 replace f2_0 := f2_0.mono (ro_le hI994)
 replace f2_1 := f2_1.mono (ro_le hI994)
 replace f2_2 := f2_2.mono (ro_le hI994)
 replace f2_3 := f2_3.mono (ro_le hI994)
 replace f2_4 := f2_4.mono (ro_le hI994)
 replace f2_5 := f2_5.mono (ro_le hI994)
 replace f2_6 := f2_6.mono (ro_le hI994)
 replace f2_7 := f2_7.mono (ro_le hI994)
 replace hI0 := hI0.trans hI994
 replace hL1016 := hL1016.trans hI994
 obtain ⟨b996, w997, ew998, eb999, hst⟩ := hst.lits (E := ty_api_Decision) (xs := [({ ID := a2.ID, E := a2.R.E, Epoch := a2.Epoch, Index := a1, Shards := a2.Shards, Parts := t962 } : api_Decision)]) [[U6 a2.ID.Session, U6 a2.ID.Seq, I6 a2.R.E, U6 a2.Epoch, U6 a1, U6 a2.Shards, v967]] 89 1 z (Reps.cons ⟨_, z, f995, one_of_sliceV (ro_sliceV f995)⟩ Reps.nil)
 refine we_run (v := (.slice (some ⟨b996, 0, none⟩) 1 1)) (w' := w997) z (x_als (by kernel_rfl) ew998 eb999) ?_
 refine ws_next (pend' := [(5, I6 t971.1), (4, v985), (3, Pt b721 6), (2, Pt b721 0), (1, Pt b721 0), (0, Pt b721 0)]) hst (by kernel_rfl) (pkr z z (fun w hst => z) (pkr z z (fun w hst => x_load z isAgg65 (hst.bc1 z)) (pkr z z (fun w hst => x_field z underlying111 z sizeOf65 z) (pkr z z (fun w hst => z) (pkr z z (fun w hst => z) (pkr z z (fun w hst => z) pk_nil)))))) ?_
 refine ws_e1 8 (by kernel_rfl) ?_
 refine nxe [9, 10, 11] (by kernel_rfl) z z ?_
 clear hst
 intro w hst
 replace hst := hst.pull6
 obtain ⟨t1001, ht1002, hm⟩ := bind_some hm
 refine wec call127 [v985, I6 t971.1, (.slice (some ⟨b996, 0, none⟩) 1 1)] z z ?_
 refine (slices_Insert_api_Decision_api_Decision_ref hst.to2 ht1002).mono ?_
 rintro _ w1003 ⟨v1006, rfl, hst⟩
 refine ⟨_, z, ?_⟩
 replace hst := hst.of1
 refine ws_next (pend' := [(0, Pt b721 0)]) hst (by kernel_rfl) (pkr z z (fun w hst => z) pk_nil) ?_
 refine wsr (Pt b721 0) 9 z z z (by kernel_rfl) (fun w hst => z) (wsr (Pt b721 6) 10 z z z (by kernel_rfl) (fun w hst => x_field z underlying111 z sizeOf65 z) ?_)
 refine ws_e1 11 (by kernel_rfl) ?_
 refine nxe [] (by kernel_rfl) z z ?_
 clear hst
 intro w hst
 replace hst := hst.pull1
 obtain ⟨w1008, hr1009, hst⟩ := hst.boxStore1 (P := prog) (t := 65) (cs' := [I6 (({ wide := o0.wide, epoch := o0.epoch, store := o0.store, locks := o0.locks, last := t929.2, book := o0.book, open_ := o0.open_, out := o0.out, used := o0.used } : lane_State).wide), U6 (({ wide := o0.wide, epoch := o0.epoch, store := o0.store, locks := o0.locks, last := t929.2, book := o0.book, open_ := o0.open_, out := o0.out, used := o0.used } : lane_State).epoch), v977, v979, v981, v983, v1006, v987, v989]) 6 v1006 (one_of_sliceV hst.sv1) sizeOf65 z z
 refine we_unit z (x_unit hr1009) ?_
 refine ws_next (pend' := []) hst (by kernel_rfl) pk_nil ?_
 refine ws_nil ?_
 intro w hst
 refine tn ?_
 replace hst := hst.pull7.pull7.pull3.pull7.pull7.pull7.pull7.pull7
 replace hst := at_lane_State_close (pv := Pt b721 0) (x := ({ wide := ({ wide := o0.wide, epoch := o0.epoch, store := o0.store, locks := o0.locks, last := t929.2, book := o0.book, open_ := o0.open_, out := o0.out, used := o0.used } : lane_State).wide, epoch := ({ wide := o0.wide, epoch := o0.epoch, store := o0.store, locks := o0.locks, last := t929.2, book := o0.book, open_ := o0.open_, out := o0.out, used := o0.used } : lane_State).epoch, store := ({ wide := o0.wide, epoch := o0.epoch, store := o0.store, locks := o0.locks, last := t929.2, book := o0.book, open_ := o0.open_, out := o0.out, used := o0.used } : lane_State).store, locks := ({ wide := o0.wide, epoch := o0.epoch, store := o0.store, locks := o0.locks, last := t929.2, book := o0.book, open_ := o0.open_, out := o0.out, used := o0.used } : lane_State).locks, last := ({ wide := o0.wide, epoch := o0.epoch, store := o0.store, locks := o0.locks, last := t929.2, book := o0.book, open_ := o0.open_, out := o0.out, used := o0.used } : lane_State).last, book := ({ wide := o0.wide, epoch := o0.epoch, store := o0.store, locks := o0.locks, last := t929.2, book := o0.book, open_ := o0.open_, out := o0.out, used := o0.used } : lane_State).book, open_ := t1001, out := ({ wide := o0.wide, epoch := o0.epoch, store := o0.store, locks := o0.locks, last := t929.2, book := o0.book, open_ := o0.open_, out := o0.out, used := o0.used } : lane_State).out, used := ({ wide := o0.wide, epoch := o0.epoch, store := o0.store, locks := o0.locks, last := t929.2, book := o0.book, open_ := o0.open_, out := o0.out, used := o0.used } : lane_State).used } : lane_State)) hst z
 replace hst := hst.pull4.pull4.pull4.keep4
 obtain rfl := some_inj hm
 exact ⟨_, ({ wide := ({ wide := o0.wide, epoch := o0.epoch, store := o0.store, locks := o0.locks, last := t929.2, book := o0.book, open_ := o0.open_, out := o0.out, used := o0.used } : lane_State).wide, epoch := ({ wide := o0.wide, epoch := o0.epoch, store := o0.store, locks := o0.locks, last := t929.2, book := o0.book, open_ := o0.open_, out := o0.out, used := o0.used } : lane_State).epoch, store := ({ wide := o0.wide, epoch := o0.epoch, store := o0.store, locks := o0.locks, last := t929.2, book := o0.book, open_ := o0.open_, out := o0.out, used := o0.used } : lane_State).store, locks := ({ wide := o0.wide, epoch := o0.epoch, store := o0.store, locks := o0.locks, last := t929.2, book := o0.book, open_ := o0.open_, out := o0.out, used := o0.used } : lane_State).locks, last := ({ wide := o0.wide, epoch := o0.epoch, store := o0.store, locks := o0.locks, last := t929.2, book := o0.book, open_ := o0.open_, out := o0.out, used := o0.used } : lane_State).last, book := ({ wide := o0.wide, epoch := o0.epoch, store := o0.store, locks := o0.locks, last := t929.2, book := o0.book, open_ := o0.open_, out := o0.out, used := o0.used } : lane_State).book, open_ := t1001, out := ({ wide := o0.wide, epoch := o0.epoch, store := o0.store, locks := o0.locks, last := t929.2, book := o0.book, open_ := o0.open_, out := o0.out, used := o0.used } : lane_State).out, used := ({ wide := o0.wide, epoch := o0.epoch, store := o0.store, locks := o0.locks, last := t929.2, book := o0.book, open_ := o0.open_, out := o0.out, used := o0.used } : lane_State).used } : lane_State), _, hx1015, (fu 5 (Pt b696 0) z (fu 6 (Pt b703 0) z (fu 7 (Pt b710 0) z z))), hL1016, hst⟩
}
 {
 replace hm := bif_f hc952 hm
 refine wp_iff (cvb hc952) ?_
 refine wp_skip (tn ?_)
 replace hst := hst.pull7.pull7.pull7.pull7.pull4.pull7.pull7.pull7
 replace hst := at_lane_State_close (pv := Pt b721 0) (x := ({ wide := o0.wide, epoch := o0.epoch, store := o0.store, locks := o0.locks, last := t929.2, book := o0.book, open_ := o0.open_, out := o0.out, used := o0.used } : lane_State)) hst z
 replace hst := hst.pull3.pull3.pull3.keep4
 obtain rfl := some_inj hm
 exact ⟨_, ({ wide := o0.wide, epoch := o0.epoch, store := o0.store, locks := o0.locks, last := t929.2, book := o0.book, open_ := o0.open_, out := o0.out, used := o0.used } : lane_State), _, hx1015, (fu 5 (Pt b696 0) z (fu 6 (Pt b703 0) z (fu 7 (Pt b710 0) z z))), hL1016, hst⟩
}
}
 {
 clear hst
 rintro _ w1017 ⟨I1011, z1010, σ1012, hm, rfl, hL1013, hst⟩
 dsimp only [lane_State_decide_j4] at hm
 replace f2_0 := f2_0.mono (ro_le hL1013)
 replace f2_1 := f2_1.mono (ro_le hL1013)
 replace f2_2 := f2_2.mono (ro_le hL1013)
 replace f2_3 := f2_3.mono (ro_le hL1013)
 replace f2_4 := f2_4.mono (ro_le hL1013)
 replace f2_5 := f2_5.mono (ro_le hL1013)
 replace f2_6 := f2_6.mono (ro_le hL1013)
 replace f2_7 := f2_7.mono (ro_le hL1013)
 replace hI0 := hI0.trans hL1013
 refine wp_seq (wrl (wv (Pt b696 1) z z (x_field z underlying49 z sizeOf28 z) (wv (.agg #[U6 a2.ID.Session, U6 a2.ID.Seq]) z z (x_loadN (cs := [U6 a2.ID.Session, U6 a2.ID.Seq]) z isAgg28 sizeOf28 (hst.bcs0 1 z)) (wv (.agg #[I6 a2.R.E, U6 a2.Epoch, U6 a1, r2_5, r2_6]) z z (x_loadN (cs := [I6 a2.R.E, U6 a2.Epoch, U6 a1, r2_5, r2_6]) z isAgg33 sizeOf33 (hst.bcs2 0 z)) (wv (.agg #[U1 (4:Int), U6 a2.ID.Session, U6 a2.ID.Seq, I6 a2.R.E, U6 a2.Epoch, U6 a1, r2_5, r2_6]) z z (by obtain ⟨_, _, hv_, _⟩ := (ro_sliceV f2_6); rw [hv_]; obtain ⟨_, _, hv_, _⟩ := (ro_sliceV f2_5); rw [hv_]; kernel_rfl) ?_)))))
 replace hst := hst.pull1
 obtain ⟨w1020, hr1021, hst⟩ := hst.bx [U1 (4:Int), U6 a2.ID.Session, U6 a2.ID.Seq, I6 a2.R.E, U6 a2.Epoch, U6 a1, r2_5, r2_6] sizeOf35 z (oC z (oC z (oC z (oC z (oC z (oC z (oC (one_of_sliceV (ro_sliceV f2_5)) (oC (one_of_sliceV (ro_sliceV f2_6)) oN)))))))) (by kernel_rfl)
 refine wl_unit z z (x_unit hr1021) ?_
 refine wl_nil (tn (wp_ret ?_))
 replace hst := hst.pull3
 replace hst := objO_some hst
 obtain rfl := some_inj hm
 refine post_ret (vs := [.agg #[U1 (4:Int), U6 a2.ID.Session, U6 a2.ID.Seq, I6 a2.R.E, U6 a2.Epoch, U6 a1, r2_5, r2_6]]) results50 (rvs_cons (rv_cell (cs := [U1 (4:Int), U6 a2.ID.Session, U6 a2.ID.Seq, I6 a2.R.E, U6 a2.Epoch, U6 a1, r2_5, r2_6]) z isAgg35 sizeOf35 (hst.bcs1 0 z)) rvs_nil) ?_
 exact ⟨_, r2_5, r2_6, z, hI0, f2_5, f2_6, hst.keep1⟩
}
}
}
}
}
 {
 replace hm := bif_f hc736 hm
 refine wq_off ((wanted_eq z z z (cvb hc736)).trans z) z ?_
 refine wq_off ((wanted_eq z z z (cvb hc736)).trans z) z ?_
 refine wq_off ((wanted_eq z z z (cvb hc736)).trans z) z ?_
 refine wq_off ((wanted_eq z z z (cvb hc736)).trans z) z ?_
 refine wq_off ((wanted_eq z z z (cvb hc736)).trans z) z ?_
 refine wq_off ((wanted_eq z z z (cvb hc736)).trans z) z ?_
 refine wq_off ((wanted_eq z z z (cvb hc736)).trans z) z ?_
 refine wq_run (v := .bool false) z z (fun w hst => x_pick_f hc736 z z) ?_
 refine wq_nil ?_
 intro w hst
 refine tn ?_
 refine wp_iff z ?_
 refine wp_skip (tn ?_)
 obtain ⟨y1030, hm, hx1031⟩ := joinO_some hm
 refine wp_cut (fun a w => ∃ (σ1028 : Nat → Value), (lane_State_decide_j5 o0 a2 a1) () = some r ∧ a = Fr 103 (upd (upd (upd (upd (upd σ1028 0 (Pt b721 0)) 1 (.int .u64 a1)) 5 (Pt b696 0)) 6 (Pt b703 0)) 7 (Pt b710 0)) ∧ St w0 w I [at_lane_State (Pt b721 0) o0, cells b696 [U1 a2.Kind, U6 a2.ID.Session, U6 a2.ID.Seq, U6 a2.Epoch, U6 a2.Index, I6 a2.E, U6 a2.Hold.ID.Session, U6 a2.Hold.ID.Seq, U6 a2.Hold.Epoch, r2_0, r2_1, r2_2, r2_3, r2_4, I6 a2.R.E, U6 a2.R.Epoch, U6 a2.R.Index, r2_5, r2_6, U6 a2.Shards, r2_7, U6 a2.Rule.ID, I6 a2.Rule.From, I6 a2.Rule.To, F6 a2.Rule.Lo, F6 a2.Rule.Hi, U6 a2.Rule.Authority, I6 a2.Rule.Quota, .bool a2.On], cells b703 [Zb, Zu, Zu, Zi, Zu, Zu, Zs, Zs], cells b710 [I6 a2.R.E, U6 a2.Epoch, U6 a1, r2_5, r2_6]] R) ?_ ?_
 {
 refine wp_seq (wrl (wv (Pt b710 0) z z (x_field z underlying33 z sizeOf29 z) (wv (.int .i64 a2.R.E) z z (x_load z isAgg29 (hst.bc8 z)) (wv (.bool (a2.R.E != (0:Int))) z z z (wv (.bool (a2.R.E != (0:Int))) z z z ?_)))))
 refine bsplit (a2.R.E != (0:Int)) (fun hc1022 => ?_) (fun hc1022 => ?_)
 {
 replace hm := bif_t hc1022 hm
 refine wv (Pt b696 1) ((wanted_eq z z z (cvb hc1022)).trans z) z (x_field z underlying49 z sizeOf28 z) (wv (Pt b696 1) ((wanted_eq z z z (cvb hc1022)).trans z) z (x_field z underlying28 z sizeOf26 z) (wv (.int .u64 a2.ID.Session) ((wanted_eq z z z (cvb hc1022)).trans z) z (x_load z isAgg26 (hst.bc10 z)) (wv (.bool (decide (a2.ID.Session ≥ (9223372036854775808:Int)))) ((wanted_eq z z z (cvb hc1022)).trans z) z z (wv (.bool (decide (a2.ID.Session ≥ (9223372036854775808:Int)))) z z (x_pick_t hc1022 z z) (wl_nil (tn ?_))))))
 refine bsplit (decide (a2.ID.Session ≥ (9223372036854775808:Int))) (fun hc1023 => ?_) (fun hc1023 => ?_)
 {
 replace hm := bif_t hc1023 hm
 refine wp_ift (cvb hc1023) ?_
 refine wp_seq (wrl (wv (.agg #[Zb, Zu, Zu, Zi, Zu, Zu, Zs, Zs]) z z (by kernel_rfl) ?_))
 replace hst := hst.pull9
 obtain ⟨w1026, hr1027, hst⟩ := hst.bx [Zb, Zu, Zu, Zi, Zu, Zu, Zs, Zs] sizeOf35 z (oC z (oC z (oC z (oC z (oC z (oC z (oC z (oC z oN)))))))) (by kernel_rfl)
 refine wl_unit z z (x_unit hr1027) ?_
 refine wl_nil (tn (wp_ret (then_r ?_)))
 replace hm := inr_up hm hx1031
 have f1028 : Ro ty_api_Got I (.slice none 0 0) [] := ro_nil
 have f1029 : Ro (tySl ty_api_Pair) I (.slice none 0 0) [] := ro_nil
 replace hst := hst.pull8.pull8.pull8.pull8.pull8.pull8.pull8.pull8
 replace hst := at_lane_State_close (pv := Pt b721 0) (x := o0) hst z
 replace hst := objO_some hst
 obtain rfl := some_inj hm
 refine post_ret (vs := [.agg #[Zb, Zu, Zu, Zi, Zu, Zu, Zs, Zs]]) results50 (rvs_cons (rv_cell (cs := [Zb, Zu, Zu, Zi, Zu, Zu, Zs, Zs]) z isAgg35 sizeOf35 (hst.bcs1 0 z)) rvs_nil) ?_
 exact ⟨_, Zs, Zs, z, hI0, f1028, f1029, hst.keep1⟩
}
 {
 replace hm := bif_f hc1023 hm
 refine wp_iff (cvb hc1023) ?_
 refine wp_skip (tn ?_)
 replace hst := hst.pull7.pull7.pull7.pull7.pull7.pull7.pull7.pull7
 replace hst := at_lane_State_close (pv := Pt b721 0) (x := o0) hst z
 replace hst := hst.pull1.pull2.pull3.pull3.keep4
 obtain rfl := some_inj hm
 exact ⟨_, hx1031, (fu 0 (Pt b721 0) z (fu 1 (.int .u64 a1) z (fu 5 (Pt b696 0) z (fu 6 (Pt b703 0) z (fu 7 (Pt b710 0) z z))))), hst⟩
}
}
 {
 replace hm := bif_f hc1022 hm
 refine wo hc1022 z z z z z z (wo hc1022 z z z z z z (wo hc1022 z z z z z z (wo hc1022 z z z z z z (wv (.bool false) z z (x_pick_f hc1022 z z) (wl_nil (tn ?_))))))
 refine wp_iff z ?_
 refine wp_skip (tn ?_)
 replace hst := hst.pull7.pull7.pull7.pull7.pull7.pull7.pull7.pull7
 replace hst := at_lane_State_close (pv := Pt b721 0) (x := o0) hst z
 replace hst := hst.pull1.pull2.pull3.pull3.keep4
 obtain rfl := some_inj hm
 exact ⟨_, hx1031, (fu 0 (Pt b721 0) z (fu 1 (.int .u64 a1) z (fu 5 (Pt b696 0) z (fu 6 (Pt b703 0) z (fu 7 (Pt b710 0) z z))))), hst⟩
}
}
 {
 clear hst
 rintro _ w1032 ⟨σ1028, hm, rfl, hst⟩
 dsimp only [lane_State_decide_j5] at hm
 refine wp_seq (wp_seq ?_)
 obtain ⟨b1033, v1034, v1036, v1038, v1040, v1042, v1044, v1046, e1048, hst'⟩ := at_lane_State_open hst
 clear hst
 have e1048 := ptr_inj e1048
 subst e1048
 have hst := hst'
 clear hst'
 refine wp_region_St hst 13 [0, 1, 2, 3, 4, 5, 6, 7, 8, 9, 10, 11, 12] [0, 1, 3, 7, 0, 16, 48, 0, 128, 384, 0, 2047, 4095] [] z (by kernel_rfl) (by kernel_rfl) Tryz.mixed (by kernel_rfl) ?_
 refine wsr (Pt b721 0) 0 z z z (by kernel_rfl) (fun w hst => z) (wsr (Pt b721 0) 1 z z z (by kernel_rfl) (fun w hst => z) (wsr (Pt b721 4) 2 z z z (by kernel_rfl) (fun w hst => x_field z underlying111 z sizeOf105 z) (wsr (v1038) 3 z z z (by kernel_rfl) (fun w hst => x_load z isAgg105 (hst.bc0 z)) (wsr (Pt b696 1) 4 z z z (by kernel_rfl) (fun w hst => x_field z underlying49 z sizeOf28 z) (wsr (Pt b696 1) 5 z z z (by kernel_rfl) (fun w hst => x_field z underlying28 z sizeOf26 z) (wsr (.int .u64 a2.ID.Session) 6 z z z (by kernel_rfl) (fun w hst => x_load z isAgg26 (hst.bc8 z)) (wsr (Pt b696 1) 7 z z z (by kernel_rfl) (fun w hst => x_field z underlying49 z sizeOf28 z) (wsr (Pt b696 2) 8 z z z (by kernel_rfl) (fun w hst => x_field z underlying28 z sizeOf26 z) (wsr (.int .u64 a2.ID.Seq) 9 z z z (by kernel_rfl) (fun w hst => x_load z isAgg26 (hst.bc8 z)) (wsr (.agg #[I6 a2.R.E, U6 a2.Epoch, U6 a1, r2_5, r2_6]) 10 z z z (by kernel_rfl) (fun w hst => x_loadN (cs := [I6 a2.R.E, U6 a2.Epoch, U6 a1, r2_5, r2_6]) z isAgg33 sizeOf33 (hst.bcs10 0 z)) ?_))))))))))
 refine ws_e1 11 (by kernel_rfl) ?_
 refine nxe [12] (by kernel_rfl) z z ?_
 clear hst
 intro w hst
 replace hst := hst.pull3
 obtain ⟨t1049, ht1050, hm⟩ := bind_some hm
 refine wec call124 [v1038, U6 a2.ID.Session, U6 a2.ID.Seq, .agg #[I6 a2.R.E, U6 a2.Epoch, U6 a1, r2_5, r2_6]] z z ?_
 refine (session_Table_Put_ref (a3 := ({ E := a2.R.E, Epoch := a2.Epoch, Index := a1, Gots := a2.R.Gots, Scans := a2.R.Scans } : api_Reply)) f2_5 f2_6 hst.to1 ht1050).mono ?_
 rintro _ w1051 ⟨rfl, hst⟩
 refine ⟨_, z, ?_⟩
 replace hst := hst.of1
 refine ws_next (pend' := []) hst (by kernel_rfl) pk_nil ?_
 refine wsr (.bool (t1049.1 != (0:Int))) 12 z z z (by kernel_rfl) (fun w hst => z) ?_
 refine ws_nil ?_
 intro w hst
 refine tn ?_
 refine bsplit (t1049.1 != (0:Int)) (fun hc1054 => ?_) (fun hc1054 => ?_)
 {
 replace hm := bif_t hc1054 hm
 refine wp_ift (cvb hc1054) ?_
 refine wp_seq (wrl (wv (Pt b721 0) z z z (wv (Pt b696 1) z z (x_field z underlying49 z sizeOf28 z) (wv (.agg #[U6 a2.ID.Session, U6 a2.ID.Seq]) z z (x_loadN (cs := [U6 a2.ID.Session, U6 a2.ID.Seq]) z isAgg28 sizeOf28 (hst.bcs8 1 z)) ?_))))
 replace hst := hst.pull7.pull7.pull7.pull7.pull4.pull7.pull7.pull7
 replace hst := at_lane_State_close (pv := Pt b721 0) (x := ({ wide := o0.wide, epoch := o0.epoch, store := o0.store, locks := o0.locks, last := t1049.2, book := o0.book, open_ := o0.open_, out := o0.out, used := o0.used } : lane_State)) hst z
 replace hst := objO_some hst
 obtain ⟨t1055, ht1056, hm⟩ := bind_some hm
 refine wc call125 [Pt b721 0, .agg #[U6 a2.ID.Session, U6 a2.ID.Seq]] z z z ?_
 refine (lane_State_late_ref hst.to1 ht1056).mono ?_
 rintro _ w1057 ⟨v1060, v1062, rfl, hst⟩
 refine ⟨_, z, ?_⟩
 replace hst := hst.of3.pull2
 replace hst := objO_get hst
 replace hst := hst.pull4
 obtain ⟨w1064, hr1065, hst⟩ := hst.bx [U1 t1055.Kind, U6 t1055.ID.Session, U6 t1055.ID.Seq, I6 t1055.R.E, U6 t1055.R.Epoch, U6 t1055.R.Index, v1060, v1062] sizeOf35 z (oC z (oC z (oC z (oC z (oC z (oC z (oC (one_of_sliceV hst.sv2) (oC (one_of_sliceV hst.sv3) oN)))))))) (by kernel_rfl)
 refine wl_unit z z (x_unit hr1065) ?_
 refine wl_nil (tn (wp_ret (then_r ?_)))
 replace hst := hst.pull2
 obtain ⟨I1066, hI1067, f1068, hst⟩ := hst.own_fix
 replace f2_0 := f2_0.mono (ro_le hI1067)
 replace f2_1 := f2_1.mono (ro_le hI1067)
 replace f2_2 := f2_2.mono (ro_le hI1067)
 replace f2_3 := f2_3.mono (ro_le hI1067)
 replace f2_4 := f2_4.mono (ro_le hI1067)
 replace f2_5 := f2_5.mono (ro_le hI1067)
 replace f2_6 := f2_6.mono (ro_le hI1067)
 replace f2_7 := f2_7.mono (ro_le hI1067)
 replace hI0 := hI0.trans hI1067
 replace hst := hst.pull2
 obtain ⟨I1069, hI1070, f1071, hst⟩ := hst.own_fix
 replace f2_0 := f2_0.mono (ro_le hI1070)
 replace f2_1 := f2_1.mono (ro_le hI1070)
 replace f2_2 := f2_2.mono (ro_le hI1070)
 replace f2_3 := f2_3.mono (ro_le hI1070)
 replace f2_4 := f2_4.mono (ro_le hI1070)
 replace f2_5 := f2_5.mono (ro_le hI1070)
 replace f2_6 := f2_6.mono (ro_le hI1070)
 replace f2_7 := f2_7.mono (ro_le hI1070)
 replace f1068 := f1068.mono (ro_le hI1070)
 replace hI0 := hI0.trans hI1070
 replace hst := hst.pull1
 replace hst := objO_some hst
 obtain rfl := some_inj hm
 refine post_ret (vs := [.agg #[U1 t1055.Kind, U6 t1055.ID.Session, U6 t1055.ID.Seq, I6 t1055.R.E, U6 t1055.R.Epoch, U6 t1055.R.Index, v1060, v1062]]) results50 (rvs_cons (rv_cell (cs := [U1 t1055.Kind, U6 t1055.ID.Session, U6 t1055.ID.Seq, I6 t1055.R.E, U6 t1055.R.Epoch, U6 t1055.R.Index, v1060, v1062]) z isAgg35 sizeOf35 (hst.bcs1 0 z)) rvs_nil) ?_
 exact ⟨_, v1060, v1062, z, hI0, f1068, f1071, hst.keep1⟩
}
 {
 replace hm := bif_f hc1054 hm
 refine wp_iff (cvb hc1054) ?_
 refine wp_skip (tn ?_)
 obtain ⟨y1122, hm, hx1123⟩ := bind_some hm
 refine wp_cut (fun a w => ∃ (z1119 : lane_State) (σ1120 : Nat → Value), (lane_State_decide_j6 a2 a1) z1119 = some r ∧ a = Fr 103 (upd (upd (upd σ1120 5 (Pt b696 0)) 6 (Pt b703 0)) 7 (Pt b710 0)) ∧ St w0 w I [cells b696 [U1 a2.Kind, U6 a2.ID.Session, U6 a2.ID.Seq, U6 a2.Epoch, U6 a2.Index, I6 a2.E, U6 a2.Hold.ID.Session, U6 a2.Hold.ID.Seq, U6 a2.Hold.Epoch, r2_0, r2_1, r2_2, r2_3, r2_4, I6 a2.R.E, U6 a2.R.Epoch, U6 a2.R.Index, r2_5, r2_6, U6 a2.Shards, r2_7, U6 a2.Rule.ID, I6 a2.Rule.From, I6 a2.Rule.To, F6 a2.Rule.Lo, F6 a2.Rule.Hi, U6 a2.Rule.Authority, I6 a2.Rule.Quota, .bool a2.On], cells b703 [Zb, Zu, Zu, Zi, Zu, Zu, Zs, Zs], cells b710 [I6 a2.R.E, U6 a2.Epoch, U6 a1, r2_5, r2_6], at_lane_State (Pt b721 0) z1119] R) ?_ ?_
 {
 refine wp_seq (wrl (wv (Pt b696 19) z z (x_field z underlying49 z sizeOf26 z) (wv (.int .u64 a2.Shards) z z (x_load z isAgg26 (hst.bc8 z)) (wv (.bool (a2.Shards != (0:Int))) z z z (wl_nil (tn ?_))))))
 refine bsplit (a2.Shards != (0:Int)) (fun hc1072 => ?_) (fun hc1072 => ?_)
 {
 replace hm := bif_t hc1072 hm
 refine wp_ift (cvb hc1072) ?_
 refine wp_seq (wrl (wv (Pt b696 1) z z (x_field z underlying49 z sizeOf28 z) (wv (.agg #[U6 a2.ID.Session, U6 a2.ID.Seq]) z z (x_loadN (cs := [U6 a2.ID.Session, U6 a2.ID.Seq]) z isAgg28 sizeOf28 (hst.bcs8 1 z)) (wv (Pt b710 0) z z (x_field z underlying33 z sizeOf29 z) (wv (.int .i64 a2.R.E) z z (x_load z isAgg29 (hst.bc10 z)) (wv (Pt b696 3) z z (x_field z underlying49 z sizeOf26 z) (wv (.int .u64 a2.Epoch) z z (x_load z isAgg26 (hst.bc8 z)) (wv (.int .u64 a1) z z z (wv (Pt b696 19) z z (x_field z underlying49 z sizeOf26 z) (wv (.int .u64 a2.Shards) z z (x_load z isAgg26 (hst.bc8 z)) (wv (.agg #[U6 a2.ID.Session, U6 a2.ID.Seq, I6 a2.R.E, U6 a2.Epoch, U6 a1, U6 a2.Shards, Zs]) z z (by kernel_rfl) ?_)))))))))))
 obtain ⟨b1075, w1076, ew1077, eb1078, hst⟩ := hst.box [Zu, Zu, Zi, Zu, Zu, Zu, Zs] 89
 refine wl_run (v := Pt b1075 0) (w' := w1076) z z (x_al (by kernel_rfl) ew1077 eb1078) ?_
 obtain ⟨w1080, hr1081, hst⟩ := hst.bx [U6 a2.ID.Session, U6 a2.ID.Seq, I6 a2.R.E, U6 a2.Epoch, U6 a1, U6 a2.Shards, Zs] sizeOf89 z (oC z (oC z (oC z (oC z (oC z (oC z (oC z oN))))))) (by kernel_rfl)
 refine wl_unit z z (x_unit hr1081) ?_
 refine wl_nil (tn (wp_seq (wp_seq (wrl (wv (Pt b710 0) z z (x_field z underlying33 z sizeOf29 z) (wv (.int .i64 a2.R.E) z z (x_load z isAgg29 (hst.bc11 z)) (wv (.bool (a2.R.E == (0:Int))) z z z (wl_nil (tn ?_)))))))))
 refine wp_iff (cvb hc736) ?_
 refine wp_skip (tn (wp_seq (wrl ?_)))
 refine wv (Pt b721 0) z z z (wv (Pt b696 1) z z (x_field z underlying49 z sizeOf28 z) (wv (.agg #[U6 a2.ID.Session, U6 a2.ID.Seq]) z z (x_loadN (cs := [U6 a2.ID.Session, U6 a2.ID.Seq]) z isAgg28 sizeOf28 (hst.bcs9 1 z)) ?_))
 replace hst := hst.pull8.pull8.pull8.pull8.pull5.pull8.pull8.pull8
 replace hst := at_lane_State_close (pv := Pt b721 0) (x := ({ wide := o0.wide, epoch := o0.epoch, store := o0.store, locks := o0.locks, last := t1049.2, book := o0.book, open_ := o0.open_, out := o0.out, used := o0.used } : lane_State)) hst z
 replace hst := objO_some hst
 obtain ⟨t1082, ht1083, hm⟩ := bind_some hm
 refine wc call51 [Pt b721 0, .agg #[U6 a2.ID.Session, U6 a2.ID.Seq]] z z z ?_
 refine (lane_State_find_ref hst.to1 ht1083).mono ?_
 rintro _ w1084 ⟨rfl, hst⟩
 refine ⟨_, z, ?_⟩
 replace hst := hst.of1
 replace hst := objO_get hst
 refine wv (.tuple #[I6 t1082.1, .bool t1082.2]) z z z (wv (.int .i64 t1082.1) z z z (wv (.bool t1082.2) z z z (wv (.int .i64 t1082.1) z z z (wv (.bool t1082.2) z z z (wl_nil (tn ?_))))))
 obtain ⟨b1087, v1088, v1090, v1092, v1094, v1096, v1098, v1100, e1102, hst'⟩ := at_lane_State_open hst
 clear hst
 have e1102 := ptr_inj e1102
 subst e1102
 have hst := hst'
 clear hst'
 refine wp_region_St hst 12 [0, 1, 2, 3, 4, 5, 6, 7, 8, 9, 10, 11] [0, 0, 2, 6, 14, 0, 0, 64, 254, 511, 1023, 2047] [] z (by kernel_rfl) (by kernel_rfl) Tryz.mixed (by kernel_rfl) ?_
 refine wsr (Pt b721 0) 0 z z z (by kernel_rfl) (fun w hst => z) (wsr (Pt b721 0) 1 z z z (by kernel_rfl) (fun w hst => z) (wsr (Pt b721 0) 2 z z z (by kernel_rfl) (fun w hst => z) (wsr (Pt b721 6) 3 z z z (by kernel_rfl) (fun w hst => x_field z underlying111 z sizeOf65 z) (wsr (v1096) 4 z z z (by kernel_rfl) (fun w hst => x_load z isAgg65 (hst.bc0 z)) (wsr (.int .i64 t1082.1) 5 z z z (by kernel_rfl) (fun w hst => z) (wsr (.agg #[U6 a2.ID.Session, U6 a2.ID.Seq, I6 a2.R.E, U6 a2.Epoch, U6 a1, U6 a2.Shards, Zs]) 6 z z z (by kernel_rfl) (fun w hst => x_loadN (cs := [U6 a2.ID.Session, U6 a2.ID.Seq, I6 a2.R.E, U6 a2.Epoch, U6 a1, U6 a2.Shards, Zs]) z isAgg89 sizeOf89 (hst.bcs8 0 z)) ?_))))))
 refine ws_e1 7 (by kernel_rfl) ?_
 refine nxe [8, 9, 10, 11] (by kernel_rfl) z z ?_
 clear hst
 intro w hst
 have f1104 : Ro ty_api_Part I (.slice none 0 0) [] := ro_nil
 obtain ⟨b1105, w1106, ew1107, eb1108, hst⟩ := hst.lits (E := ty_api_Decision) (xs := [({ ID := a2.ID, E := a2.R.E, Epoch := a2.Epoch, Index := a1, Shards := a2.Shards, Parts := [] } : api_Decision)]) [[U6 a2.ID.Session, U6 a2.ID.Seq, I6 a2.R.E, U6 a2.Epoch, U6 a1, U6 a2.Shards, Zs]] 89 1 z (Reps.cons ⟨_, z, f1104, one_of_sliceV (ro_sliceV f1104)⟩ Reps.nil)
 refine we_run (v := (.slice (some ⟨b1105, 0, none⟩) 1 1)) (w' := w1106) z (x_als (by kernel_rfl) ew1107 eb1108) ?_
 refine ws_next (pend' := [(5, I6 t1082.1), (4, v1096), (3, Pt b721 6), (2, Pt b721 0), (1, Pt b721 0), (0, Pt b721 0)]) hst (by kernel_rfl) (pkr z z (fun w hst => z) (pkr z z (fun w hst => x_load z isAgg65 (hst.bc1 z)) (pkr z z (fun w hst => x_field z underlying111 z sizeOf65 z) (pkr z z (fun w hst => z) (pkr z z (fun w hst => z) (pkr z z (fun w hst => z) pk_nil)))))) ?_
 refine ws_e1 8 (by kernel_rfl) ?_
 refine nxe [9, 10, 11] (by kernel_rfl) z z ?_
 clear hst
 intro w hst
 replace hst := hst.pull6
 obtain ⟨t1110, ht1111, hm⟩ := bind_some hm
 refine wec call127 [v1096, I6 t1082.1, (.slice (some ⟨b1105, 0, none⟩) 1 1)] z z ?_
 refine (slices_Insert_api_Decision_api_Decision_ref hst.to2 ht1111).mono ?_
 rintro _ w1112 ⟨v1115, rfl, hst⟩
 refine ⟨_, z, ?_⟩
 replace hst := hst.of1
 refine ws_next (pend' := [(0, Pt b721 0)]) hst (by kernel_rfl) (pkr z z (fun w hst => z) pk_nil) ?_
 refine wsr (Pt b721 0) 9 z z z (by kernel_rfl) (fun w hst => z) (wsr (Pt b721 6) 10 z z z (by kernel_rfl) (fun w hst => x_field z underlying111 z sizeOf65 z) ?_)
 refine ws_e1 11 (by kernel_rfl) ?_
 refine nxe [] (by kernel_rfl) z z ?_
 clear hst
 intro w hst
 replace hst := hst.pull1
 obtain ⟨w1117, hr1118, hst⟩ := hst.boxStore1 (P := prog) (t := 65) (cs' := [I6 (({ wide := o0.wide, epoch := o0.epoch, store := o0.store, locks := o0.locks, last := t1049.2, book := o0.book, open_ := o0.open_, out := o0.out, used := o0.used } : lane_State).wide), U6 (({ wide := o0.wide, epoch := o0.epoch, store := o0.store, locks := o0.locks, last := t1049.2, book := o0.book, open_ := o0.open_, out := o0.out, used := o0.used } : lane_State).epoch), v1088, v1090, v1092, v1094, v1115, v1098, v1100]) 6 v1115 (one_of_sliceV hst.sv1) sizeOf65 z z
 refine we_unit z (x_unit hr1118) ?_
 refine ws_next (pend' := []) hst (by kernel_rfl) pk_nil ?_
 refine ws_nil ?_
 intro w hst
 refine tn ?_
 replace hst := hst.pull7.pull7.pull3.pull7.pull7.pull7.pull7.pull7
 replace hst := at_lane_State_close (pv := Pt b721 0) (x := ({ wide := ({ wide := o0.wide, epoch := o0.epoch, store := o0.store, locks := o0.locks, last := t1049.2, book := o0.book, open_ := o0.open_, out := o0.out, used := o0.used } : lane_State).wide, epoch := ({ wide := o0.wide, epoch := o0.epoch, store := o0.store, locks := o0.locks, last := t1049.2, book := o0.book, open_ := o0.open_, out := o0.out, used := o0.used } : lane_State).epoch, store := ({ wide := o0.wide, epoch := o0.epoch, store := o0.store, locks := o0.locks, last := t1049.2, book := o0.book, open_ := o0.open_, out := o0.out, used := o0.used } : lane_State).store, locks := ({ wide := o0.wide, epoch := o0.epoch, store := o0.store, locks := o0.locks, last := t1049.2, book := o0.book, open_ := o0.open_, out := o0.out, used := o0.used } : lane_State).locks, last := ({ wide := o0.wide, epoch := o0.epoch, store := o0.store, locks := o0.locks, last := t1049.2, book := o0.book, open_ := o0.open_, out := o0.out, used := o0.used } : lane_State).last, book := ({ wide := o0.wide, epoch := o0.epoch, store := o0.store, locks := o0.locks, last := t1049.2, book := o0.book, open_ := o0.open_, out := o0.out, used := o0.used } : lane_State).book, open_ := t1110, out := ({ wide := o0.wide, epoch := o0.epoch, store := o0.store, locks := o0.locks, last := t1049.2, book := o0.book, open_ := o0.open_, out := o0.out, used := o0.used } : lane_State).out, used := ({ wide := o0.wide, epoch := o0.epoch, store := o0.store, locks := o0.locks, last := t1049.2, book := o0.book, open_ := o0.open_, out := o0.out, used := o0.used } : lane_State).used } : lane_State)) hst z
 replace hst := hst.pull4.pull4.pull4.keep4
 obtain rfl := some_inj hm
 exact ⟨({ wide := ({ wide := o0.wide, epoch := o0.epoch, store := o0.store, locks := o0.locks, last := t1049.2, book := o0.book, open_ := o0.open_, out := o0.out, used := o0.used } : lane_State).wide, epoch := ({ wide := o0.wide, epoch := o0.epoch, store := o0.store, locks := o0.locks, last := t1049.2, book := o0.book, open_ := o0.open_, out := o0.out, used := o0.used } : lane_State).epoch, store := ({ wide := o0.wide, epoch := o0.epoch, store := o0.store, locks := o0.locks, last := t1049.2, book := o0.book, open_ := o0.open_, out := o0.out, used := o0.used } : lane_State).store, locks := ({ wide := o0.wide, epoch := o0.epoch, store := o0.store, locks := o0.locks, last := t1049.2, book := o0.book, open_ := o0.open_, out := o0.out, used := o0.used } : lane_State).locks, last := ({ wide := o0.wide, epoch := o0.epoch, store := o0.store, locks := o0.locks, last := t1049.2, book := o0.book, open_ := o0.open_, out := o0.out, used := o0.used } : lane_State).last, book := ({ wide := o0.wide, epoch := o0.epoch, store := o0.store, locks := o0.locks, last := t1049.2, book := o0.book, open_ := o0.open_, out := o0.out, used := o0.used } : lane_State).book, open_ := t1110, out := ({ wide := o0.wide, epoch := o0.epoch, store := o0.store, locks := o0.locks, last := t1049.2, book := o0.book, open_ := o0.open_, out := o0.out, used := o0.used } : lane_State).out, used := ({ wide := o0.wide, epoch := o0.epoch, store := o0.store, locks := o0.locks, last := t1049.2, book := o0.book, open_ := o0.open_, out := o0.out, used := o0.used } : lane_State).used } : lane_State), _, hx1123, (fu 5 (Pt b696 0) z (fu 6 (Pt b703 0) z (fu 7 (Pt b710 0) z z))), hst⟩
}
 {
 replace hm := bif_f hc1072 hm
 refine wp_iff (cvb hc1072) ?_
 refine wp_skip (tn ?_)
 replace hst := hst.pull7.pull7.pull7.pull7.pull4.pull7.pull7.pull7
 replace hst := at_lane_State_close (pv := Pt b721 0) (x := ({ wide := o0.wide, epoch := o0.epoch, store := o0.store, locks := o0.locks, last := t1049.2, book := o0.book, open_ := o0.open_, out := o0.out, used := o0.used } : lane_State)) hst z
 replace hst := hst.pull3.pull3.pull3.keep4
 obtain rfl := some_inj hm
 exact ⟨({ wide := o0.wide, epoch := o0.epoch, store := o0.store, locks := o0.locks, last := t1049.2, book := o0.book, open_ := o0.open_, out := o0.out, used := o0.used } : lane_State), _, hx1123, (fu 5 (Pt b696 0) z (fu 6 (Pt b703 0) z (fu 7 (Pt b710 0) z z))), hst⟩
}
}
 {
 clear hst
 rintro _ w1124 ⟨z1119, σ1120, hm, rfl, hst⟩
 dsimp only [lane_State_decide_j6] at hm
 refine wp_seq (wrl (wv (Pt b696 1) z z (x_field z underlying49 z sizeOf28 z) (wv (.agg #[U6 a2.ID.Session, U6 a2.ID.Seq]) z z (x_loadN (cs := [U6 a2.ID.Session, U6 a2.ID.Seq]) z isAgg28 sizeOf28 (hst.bcs0 1 z)) (wv (.agg #[I6 a2.R.E, U6 a2.Epoch, U6 a1, r2_5, r2_6]) z z (x_loadN (cs := [I6 a2.R.E, U6 a2.Epoch, U6 a1, r2_5, r2_6]) z isAgg33 sizeOf33 (hst.bcs2 0 z)) (wv (.agg #[U1 (4:Int), U6 a2.ID.Session, U6 a2.ID.Seq, I6 a2.R.E, U6 a2.Epoch, U6 a1, r2_5, r2_6]) z z (by obtain ⟨_, _, hv_, _⟩ := (ro_sliceV f2_6); rw [hv_]; obtain ⟨_, _, hv_, _⟩ := (ro_sliceV f2_5); rw [hv_]; kernel_rfl) ?_)))))
 replace hst := hst.pull1
 obtain ⟨w1127, hr1128, hst⟩ := hst.bx [U1 (4:Int), U6 a2.ID.Session, U6 a2.ID.Seq, I6 a2.R.E, U6 a2.Epoch, U6 a1, r2_5, r2_6] sizeOf35 z (oC z (oC z (oC z (oC z (oC z (oC z (oC (one_of_sliceV (ro_sliceV f2_5)) (oC (one_of_sliceV (ro_sliceV f2_6)) oN)))))))) (by kernel_rfl)
 refine wl_unit z z (x_unit hr1128) ?_
 refine wl_nil (tn (wp_ret ?_))
 replace hst := hst.pull3
 replace hst := objO_some hst
 obtain rfl := some_inj hm
 refine post_ret (vs := [.agg #[U1 (4:Int), U6 a2.ID.Session, U6 a2.ID.Seq, I6 a2.R.E, U6 a2.Epoch, U6 a1, r2_5, r2_6]]) results50 (rvs_cons (rv_cell (cs := [U1 (4:Int), U6 a2.ID.Session, U6 a2.ID.Seq, I6 a2.R.E, U6 a2.Epoch, U6 a1, r2_5, r2_6]) z isAgg35 sizeOf35 (hst.bcs1 0 z)) rvs_nil) ?_
 exact ⟨_, r2_5, r2_6, z, hI0, f2_5, f2_6, hst.keep1⟩
}
}
}
}
}
}

theorem slices_Delete_api_Decision_api_Decision_ref {w0 w : World} {I : HL} {R : SP} {a0 : (List api_Decision)} {r0_0 : Value} {a1 a2 : Int} (hst : St w0 w I [ownS ty_api_Decision r0_0 a0] R) {r : (List api_Decision)} (hm : slices_Delete_api_Decision_api_Decision a0 a1 a2 = some r) :
  Calls prog 52 #[r0_0, I6 a1, I6 a2] w fun e w' => ∃ (q0_0 : Value), e = .returned (q0_0) ∧ St w0 w' I [ownS ty_api_Decision q0_0 r] R := by {
 unfold slices_Delete_api_Decision_api_Decision at hm
 obtain ⟨hg, hm⟩ := gd_some hm
 obtain rfl := some_inj hm
 obtain ⟨hi0, hi1, hi2⟩ := fits_of hg
 obtain ⟨j, rfl⟩ := Int.eq_ofNat_of_zero_le (Int.le_trans hi0 hi1)
 obtain ⟨k, rfl⟩ := Int.eq_ofNat_of_zero_le hi0
 have hkj : k ≤ j := by omega
 have hs : ∀ w : World, (sizeOf 89).run prog w = .ok ty_api_Decision.sz w := sizeOf89
 obtain ⟨css, hr, hst⟩ := hst.own_open
 obtain ⟨n, hn⟩ : ∃ n, css.length = n := ⟨_, rfl⟩
 have hln : a0.length = n := hr.1.trans hn
 have hjn : j ≤ n := by omega
 have hsv : SliceV r0_0 n := by have := hst.row_form.2; rwa [hn] at this
 have hoc := hr.ones
 refine calls_start (args := [r0_0, I6 (k : Int), I6 (j : Int)]) func52 z ntmps52 (Nat.le_of_ble_eq_true z) ?_
 refine wp_seq (wrl (wv ((.slice none 0 0)) z z z (wl_nil (tn (wp_seq (wrl (wv (r0_0) z z z (wv (.int .i64 (k : Int)) z z z (wv (.int .i64 (j : Int)) z z z (wv (r0_0) z z z (wv (.int .i64 (n : Int)) z z (x_len z underlying65 hsv) ?_)))))))))))
 refine wl_ex z z (x_slice3 underlying65 hs z hsv z z z hkj hjn) fun v3 => ?_
 refine wl_nil (tn (wp_seq (wp_seq (wrl (wv (.int .i64 (k : Int)) z z z (wv (.int .i64 (j : Int)) z z z (wv (.bool ((k : Int) == (j : Int))) z z z (wl_nil (tn ?_)))))))))
 refine bsplit ((k : Int) == (j : Int)) (fun hc256 => ?_) (fun hc256 => ?_)
 {
 refine wp_ift (cvb hc256) ?_
 refine wp_seq (wrl (wv (r0_0) z z z (wv (r0_0) z z z (wl_nil (tn (wp_ret (then_r ?_)))))))
 refine post_ret (vs := [r0_0]) results52 (rvs_cons (rv_tmp z) rvs_nil) ?_
 rw [del_nil hc256]
 exact ⟨_, z, (hst.own_close hr).keep1⟩
}
 {
 refine wp_iff (cvb hc256) ?_
 have hne : ¬ ((k : Int) = (j : Int)) := by simpa using hc256
 have hlt : k < j := by omega
 refine wp_skip (tn (wp_seq (wrl ?_)))
 refine wv (r0_0) z z z (wv (.int .i64 (n : Int)) z z (x_len z underlying65 hsv) (wv (.int .i64 (n : Int)) z z z (wl_nil (tn (wp_seq ?_)))))
 refine wp_region_St hst 8 [0, 1, 2, 3, 4, 5, 6, 7] [0, 0, 3, 0, 0, 24, 63, 127] [7] z (by kernel_rfl) (by kernel_rfl) Tryz.mixed (by kernel_rfl) ?_
 refine wsr (r0_0) 0 z z z (by kernel_rfl) (fun w hst => z) (wsr (.int .i64 (k : Int)) 1 z z z (by kernel_rfl) (fun w hst => z) (wsr ((slcV ty_api_Decision.sz r0_0 0 k)) 2 z z z (by kernel_rfl) (fun w hst => x_slice (lo := (0 : Nat)) (hi := (k : Nat)) underlying65 hs z hsv (by omega) (by omega) (by omega) .i64 .i64 (.inr ⟨z, z⟩) (.inl z)) (wsr (r0_0) 3 z z z (by kernel_rfl) (fun w hst => z) (wsr (.int .i64 (j : Int)) 4 z z z (by kernel_rfl) (fun w hst => z) (wsr ((slcV ty_api_Decision.sz r0_0 j n)) 5 z z z (by kernel_rfl) (fun w hst => x_slice (lo := (j : Nat)) (hi := (n : Nat)) underlying65 hs z hsv (by omega) (by omega) (by omega) .i64 .i64 (.inl z) (.inr ⟨z, z⟩)) ?_)))))
 refine ws_e1 6 (by kernel_rfl) ?_
 refine nxe [7] (by kernel_rfl) z z ?_
 clear hst
 intro w hst
 obtain ⟨w2, hra, hst⟩ := run_appDel (P := prog) underlying65 hs hst hn hlt hjn hoc 65
 refine we_run (v := (slcV ty_api_Decision.sz r0_0 0 (k + (n - j)))) (w' := w2) z (x_append z z hra) ?_
 have hnl := (show _ from hst)
 clear hnl
 have hn2 : (css.take k ++ (css.drop j ++ css.drop (k + (n - j)))).length = n := by simp only [List.length_append, List.length_take, List.length_drop]; omega
 have hsm := row_slc hst hn2 (m := (k + (n - j))) (by omega)
 refine ws_next (pend' := []) hst (by kernel_rfl) pk_nil ?_
 refine ws_e1 7 (by kernel_rfl) ?_
 refine nxe [] (by kernel_rfl) z z ?_
 clear hst
 intro w hst
 refine we_run (v := (slcV ty_api_Decision.sz r0_0 0 (k + (n - j)))) (w' := w) z z ?_
 refine ws_next (pend' := []) hst (by kernel_rfl) pk_nil ?_
 refine ws_nil ?_
 intro w hst
 refine tn (wp_seq (wrl (wv ((slcV ty_api_Decision.sz r0_0 0 (k + (n - j)))) z z z (wv ((slcV ty_api_Decision.sz r0_0 0 (k + (n - j)))) z z z (wv (.int .i64 (((k + (n - j)) : Nat) : Int)) z z (x_len z underlying65 hsm) (wv (.int .i64 (n : Int)) z z z (wv ((slcV ty_api_Decision.sz r0_0 (k + (n - j)) n)) z z (x_sliceRe underlying65 hs z hsv z z (by omega) (by omega)) ?_)))))))
 obtain ⟨w3, hrc, hst⟩ := run_clear elem_65 z (ones_of (by kernel_rfl)) hst hn2 (m := (k + (n - j))) (by omega) 0
 refine wl_run0 z z (x_clear z hrc) ?_
 refine wl_nil (tn (wp_seq (wrl (wv ((slcV ty_api_Decision.sz r0_0 0 (k + (n - j)))) z z z (wv ((slcV ty_api_Decision.sz r0_0 0 (k + (n - j)))) z z z (wl_nil (tn (wp_ret ?_))))))))
 refine post_ret (vs := [(slcV ty_api_Decision.sz r0_0 0 (k + (n - j)))]) results52 (rvs_cons (rv_tmp z) rvs_nil) ?_
 replace hst := hst.row_part (l := 0) (h := (k + (n - j))) (Nat.zero_le _) (by simp only [List.length_append, List.length_take, List.length_drop, List.length_replicate]; omega)
 rw [del_rows hn hlt hjn (List.length_replicate ..)] at hst
 exact ⟨_, z, (hst.own_close ((hr.take k).app (hr.drop j))).keep1⟩
}
}

theorem policy_Book_Revoke_ref {w0 w : World} {I : HL} {R : SP} {a0 : (Option policy_Book)} {p0 : Value} {a1 : Int} {a2 : Int}  (hst : St w0 w I [objO at_policy_Book p0 a0] R) {r : (Bool × (Option policy_Book))} (hm : policy_Book_Revoke a0 a1 a2 = some r) :
  Calls prog 54 #[p0, U6 a1, U6 a2] w fun e w' => e = .returned (.bool r.1) ∧ St w0 w' I [objO at_policy_Book p0 r.2] R := by {
 rcases a0 with _ | o0
 {
 obtain ⟨rfl, hst'⟩ := objO_none hst
 clear hst
 have hst := hst'
 clear hst'
 dsimp only [policy_Book_Revoke] at hm
 refine calls_start (args := [.pointer none, U6 a1, U6 a2]) func54 z ntmps54 (Nat.le_of_ble_eq_true z) ?_
 refine wp_seq (wrl (wv (.bool false) z z z (wl_nil (tn (wp_seq (wp_seq (wrl (wv (.pointer none) z z z (wv (.bool true) z z (by kernel_rfl) (wl_nil (tn ?_)))))))))))
 refine wp_ift z ?_
 refine wp_seq (wrl (wv (.bool false) z z z (wl_nil (tn (wp_ret (then_r ?_))))))
 replace hst := hst.objO_nil at_policy_Book
 obtain rfl := some_inj hm
 refine post_ret (vs := [.bool false]) results54 (rvs_cons (rv_tmp z) rvs_nil) ?_
 exact ⟨z, hst.keep1⟩
}
 {
 replace hst := objO_get hst
 dsimp only [policy_Book_Revoke] at hm
 refine calls_start (args := [p0, U6 a1, U6 a2]) func54 z ntmps54 (Nat.le_of_ble_eq_true z) ?_
 refine wp_seq (wrl (wv (.bool false) z z z (wl_nil (tn (wp_seq (wp_seq (wrl (wv (p0) z z z ?_))))))))
 obtain ⟨b356, v357, rfl, hst'⟩ := at_policy_Book_open hst
 clear hst
 have hst := hst'
 clear hst'
 refine wv (.bool false) z z (by kernel_rfl) (wl_nil (tn ?_))
 refine wp_iff z ?_
 refine wp_skip (tn (wp_seq (wrl ?_)))
 refine wv (.bool false) z z z (wl_nil (tn (wp_seq (wp_seq (wrl (wv (Pt b356 0) z z z (wv (Pt b356 0) z z z (wv (Pt b356 0) z z (x_field z underlying209 z sizeOf207 z) (wv (v357) z z (x_load z isAgg207 (hst.bc0 z)) (wv (.int .i64 ((o0.l).length : Int)) z z (x_len z underlying207 hst.sv1) (wv (.int .i64 (0:Int)) z z z (wl_nil (tn (wp_block ?_))))))))))))))
 replace hst := hst.pull1.pull1
 replace hst := at_policy_Book_close (pv := Pt b356 0) (x := o0) hst z
 obtain ⟨n398, hm⟩ := loopO_some hm
 refine wp_loop_n (fun n a w => ∃ (z394 : policy_Book) (z395 : Int) (z396 : Bool) (σ397 : Nat → Value), loopN (policy_Book_Revoke_l0 o0 a1 a2) n (z394, z395, z396) = some r ∧ a = Fr 52 (upd (upd (upd (upd (upd (upd σ397 0 (Pt b356 0)) 1 (.int .u64 a1)) 2 (.int .u64 a2)) 7 (.bool z396)) 15 (.int .i64 ((o0.l).length : Int))) 16 (.int .i64 z395)) ∧ St w0 w I [at_policy_Book (Pt b356 0) z394] R) n398 ⟨o0, (0:Int), false, _, hm, (fu 0 (Pt b356 0) z (fu 1 (.int .u64 a1) z (fu 2 (.int .u64 a2) z (fu 7 (.bool false) z (fu 15 (.int .i64 ((o0.l).length : Int)) z (fu 16 (.int .i64 (0:Int)) z z)))))), hst⟩ ?_
 rintro n404 _ w399 ⟨z394, z395, z396, σ397, hm, rfl, hst⟩
 obtain ⟨n401, y402, rfl, hm, hx403⟩ := loopN_some hm
 dsimp only [policy_Book_Revoke_l0] at hm
 refine wp_seq (wrl (wv (.bool (decide (z395 < ((o0.l).length : Int)))) z z z (wl_nil (tn (wp_seq ?_)))))
 refine bsplit (decide (z395 < ((o0.l).length : Int))) (fun hc405 => ?_) (fun hc405 => ?_)
 {
 replace hm := bif_t hc405 hm
 refine wp_ift (cvb hc405) ?_
 refine wp_skip (tn (wp_seq (wp_block (wp_seq (wrl ?_)))))
 refine wv (.int .i64 z395) z z z (wv (.int .i64 z395) z z z (wl_nil (tn (wp_seq (wrl (wv (Pt b356 0) z z z ?_))))))
 obtain ⟨b406, v407, e409, hst'⟩ := at_policy_Book_open hst
 clear hst
 have e409 := ptr_inj e409
 subst e409
 have hst := hst'
 clear hst'
 refine wv (Pt b356 0) z z z (wv (Pt b356 0) z z (x_field z underlying209 z sizeOf207 z) (wv (v407) z z (x_load z isAgg207 (hst.bc0 z)) (wv (.int .i64 z395) z z z ?_)))
 obtain ⟨x410, hx411, hm⟩ := bind_some hm
 obtain ⟨h412, h413, hi414⟩ := geto_some hx411
 refine wv (.pointer (some (eAddr v407 (z395.toNat * 9 + 0)))) z z (x_index z z underlying207 sizeOf224 hst.sv1 h412 h413) (wv (.pointer (some (eAddr v407 (z395.toNat * 9 + 0)))) z z (x_field_e z underlying224 z sizeOf39 z) (wv (.pointer (some (eAddr v407 (z395.toNat * 9 + 0)))) z z (x_field_e z underlying39 z sizeOf26 z) (wv (.int .u64 x410.r.ID) z z (x_load z isAgg26 (hst.ol1 hi414 (by rintro _ rfl; rfl))) (wv (.int .u64 a1) z z z (wv (.bool (x410.r.ID == a1)) z z z (wv (.bool (x410.r.ID == a1)) z z z ?_))))))
 refine bsplit (x410.r.ID == a1) (fun hc415 => ?_) (fun hc415 => ?_)
 {
 replace hm := bif_t hc415 hm
 refine wv (Pt b356 0) ((wanted_eq z z z (cvb hc415)).trans z) z z (wv (Pt b356 0) ((wanted_eq z z z (cvb hc415)).trans z) z z (wv (Pt b356 0) ((wanted_eq z z z (cvb hc415)).trans z) z (x_field z underlying209 z sizeOf207 z) (wv (v407) ((wanted_eq z z z (cvb hc415)).trans z) z (x_load z isAgg207 (hst.bc0 z)) (wv (.int .i64 z395) ((wanted_eq z z z (cvb hc415)).trans z) z z (wv (.pointer (some (eAddr v407 (z395.toNat * 9 + 0)))) ((wanted_eq z z z (cvb hc415)).trans z) z (x_index z z underlying207 sizeOf224 hst.sv1 h412 h413) (wv (.pointer (some (eAddr v407 (z395.toNat * 9 + 8)))) ((wanted_eq z z z (cvb hc415)).trans z) z (x_field_e z underlying224 z sizeOf26 z) (wv (.int .u64 x410.to_) ((wanted_eq z z z (cvb hc415)).trans z) z (x_load z isAgg26 (hst.ol1 hi414 (by rintro _ rfl; rfl))) (wv (.bool (x410.to_ == (0:Int))) ((wanted_eq z z z (cvb hc415)).trans z) z z (wv (.bool (x410.to_ == (0:Int))) z z (x_pick_t hc415 z z) (wl_nil (tn ?_)))))))))))
 refine bsplit (x410.to_ == (0:Int)) (fun hc416 => ?_) (fun hc416 => ?_)
 {
 replace hm := bif_t hc416 hm
 refine wp_ift (cvb hc416) ?_
 refine wrl (wv (Pt b356 0) z z z (wv (Pt b356 0) z z z (wv (Pt b356 0) z z (x_field z underlying209 z sizeOf207 z) (wv (v407) z z (x_load z isAgg207 (hst.bc0 z)) (wv (.int .i64 z395) z z z (wv (.int .u64 a2) z z z (wv (.int .u64 (if (1:Int) > a2 then (1:Int) else a2)) z z (by kernel_rfl) (wv (.pointer (some (eAddr v407 (z395.toNat * 9 + 0)))) z z (x_index z z underlying207 sizeOf224 hst.sv1 h412 h413) (wv (.pointer (some (eAddr v407 (z395.toNat * 9 + 8)))) z z (x_field_e z underlying224 z sizeOf26 z) ?_)))))))))
 replace hst := hst.pull1
 obtain ⟨w417, hr418, hst⟩ := hst.own_store (P := prog) (t := 26) (y := ({ r := x410.r, from_ := x410.from_, to_ := (if (1:Int) > a2 then (1:Int) else a2) } : policy_line)) hi414 8 (.int .u64 (if (1:Int) > a2 then (1:Int) else a2)) sizeOf26 (Nat.le_of_ble_eq_true z) (oC z oN) (by rintro _ rfl; rfl)
 have hi419 := set_get hi414 ({ r := x410.r, from_ := x410.from_, to_ := (if (1:Int) > a2 then (1:Int) else a2) } : policy_line)
 have h420 := set_lt h413 z395.toNat ({ r := x410.r, from_ := x410.from_, to_ := (if (1:Int) > a2 then (1:Int) else a2) } : policy_line)
 refine wl_unit z z (x_unit hr418) ?_
 refine wv (.bool true) z z z (wl_nil (blk_n (tn (wrl (wv (.int .i64 (i64.wrap (z395 + (1:Int)))) z z z (wv (.int .i64 (i64.wrap (z395 + (1:Int)))) z z z (wl_nil (tn ?_))))))))
 replace hst := hst.pull1
 replace hst := at_policy_Book_close (pv := Pt b356 0) (x := ({ l := (z394.l.set z395.toNat ({ r := x410.r, from_ := x410.from_, to_ := (if (1:Int) > a2 then (1:Int) else a2) } : policy_line)) } : policy_Book)) hst z
 replace hst := hst.keep1
 obtain rfl := some_inj hm
 exact ⟨_, Nat.lt_succ_self _, ({ l := (z394.l.set z395.toNat ({ r := x410.r, from_ := x410.from_, to_ := (if (1:Int) > a2 then (1:Int) else a2) } : policy_line)) } : policy_Book), (i64.wrap (z395 + (1:Int))), true, _, hx403, (fu 0 (Pt b356 0) z (fu 1 (.int .u64 a1) z (fu 2 (.int .u64 a2) z (fu 7 (.bool true) z (fu 15 (.int .i64 ((o0.l).length : Int)) z (fu 16 (.int .i64 (i64.wrap (z395 + (1:Int)))) z z)))))), hst⟩
}
 {
 replace hm := bif_f hc416 hm
 refine wp_iff (cvb hc416) ?_
 refine wp_skip (blk_n (tn (wrl ?_)))
 refine wv (.int .i64 (i64.wrap (z395 + (1:Int)))) z z z (wv (.int .i64 (i64.wrap (z395 + (1:Int)))) z z z (wl_nil (tn ?_)))
 replace hst := hst.pull1.pull1
 replace hst := at_policy_Book_close (pv := Pt b356 0) (x := z394) hst z
 replace hst := hst.keep1
 obtain rfl := some_inj hm
 exact ⟨_, Nat.lt_succ_self _, z394, (i64.wrap (z395 + (1:Int))), z396, _, hx403, (fu 0 (Pt b356 0) z (fu 1 (.int .u64 a1) z (fu 2 (.int .u64 a2) z (fu 7 (.bool z396) z (fu 15 (.int .i64 ((o0.l).length : Int)) z (fu 16 (.int .i64 (i64.wrap (z395 + (1:Int)))) z z)))))), hst⟩
}
}
 {
 replace hm := bif_f hc415 hm
 refine wo hc415 z z z z z z (wo hc415 z z z z z z (wo hc415 z z z z z z (wo hc415 z z z z z z (wo hc415 z z z z z z (wo hc415 z z z z z z (wo hc415 z z z z z z (wo hc415 z z z z z z (wo hc415 z z z z z z (wv (.bool false) z z (x_pick_f hc415 z z) (wl_nil (tn ?_)))))))))))
 refine wp_iff z ?_
 refine wp_skip (blk_n (tn (wrl ?_)))
 refine wv (.int .i64 (i64.wrap (z395 + (1:Int)))) z z z (wv (.int .i64 (i64.wrap (z395 + (1:Int)))) z z z (wl_nil (tn ?_)))
 replace hst := hst.pull1.pull1
 replace hst := at_policy_Book_close (pv := Pt b356 0) (x := z394) hst z
 replace hst := hst.keep1
 obtain rfl := some_inj hm
 exact ⟨_, Nat.lt_succ_self _, z394, (i64.wrap (z395 + (1:Int))), z396, _, hx403, (fu 0 (Pt b356 0) z (fu 1 (.int .u64 a1) z (fu 2 (.int .u64 a2) z (fu 7 (.bool z396) z (fu 15 (.int .i64 ((o0.l).length : Int)) z (fu 16 (.int .i64 (i64.wrap (z395 + (1:Int)))) z z)))))), hst⟩
}
}
 {
 replace hm := bif_f hc405 hm
 refine wp_iff (cvb hc405) ?_
 refine wp_exit (then_x (then_x ?_))
 replace hm := inr_up hm hx403
 refine blk_x (tn (wp_seq (wrl ?_)))
 refine wv (.bool z396) z z z (wv (.bool z396) z z z (wl_nil (tn (wp_ret ?_))))
 replace hst := objO_some hst
 obtain rfl := some_inj hm
 refine post_ret (vs := [.bool z396]) results54 (rvs_cons (rv_tmp z) rvs_nil) ?_
 exact ⟨z, hst.keep1⟩
}
}
}

theorem policy_Book_Grant_ref {w0 w : World} {I : HL} {R : SP} {a0 : (Option policy_Book)} {p0 : Value} {a1 : api_Rule} {a2 : Int}  (hst : St w0 w I [objO at_policy_Book p0 a0] R) {r : ((Option policy_Book))} (hm : policy_Book_Grant a0 a1 a2 = some r) :
  Calls prog 53 #[p0, .agg #[U6 a1.ID, I6 a1.From, I6 a1.To, F6 a1.Lo, F6 a1.Hi, U6 a1.Authority, I6 a1.Quota], U6 a2] w fun e w' => e = .returned (.tuple #[]) ∧ St w0 w' I [objO at_policy_Book p0 r] R := by {
 rcases a0 with _ | o0
 {
 obtain ⟨rfl, hst'⟩ := objO_none hst
 clear hst
 have hst := hst'
 clear hst'
 dsimp only [policy_Book_Grant] at hm
 refine calls_start (args := [.pointer none, .agg #[U6 a1.ID, I6 a1.From, I6 a1.To, F6 a1.Lo, F6 a1.Hi, U6 a1.Authority, I6 a1.Quota], U6 a2]) func53 z ntmps53 (Nat.le_of_ble_eq_true z) ?_
 refine wp_seq (wrl ?_)
 obtain ⟨b313, w314, ew315, eb316, hst⟩ := hst.box [U6 a1.ID, I6 a1.From, I6 a1.To, F6 a1.Lo, F6 a1.Hi, U6 a1.Authority, I6 a1.Quota] 39
 refine wl_run (v := Pt b313 0) (w' := w314) z z (x_al (by kernel_rfl) ew315 eb316) ?_
 refine wl_nil (tn (wp_seq (wp_seq (wrl (wv (.pointer none) z z z (wv (.bool true) z z (by kernel_rfl) (wl_nil (tn ?_))))))))
 refine wp_ift z ?_
 refine wp_ret (then_r ?_)
 replace hst := hst.objO_nil at_policy_Book
 obtain rfl := some_inj hm
 refine post_ret (vs := []) results53 rvs_nil ?_
 exact ⟨z, hst.keep1⟩
}
 {
 replace hst := objO_get hst
 dsimp only [policy_Book_Grant] at hm
 refine calls_start (args := [p0, .agg #[U6 a1.ID, I6 a1.From, I6 a1.To, F6 a1.Lo, F6 a1.Hi, U6 a1.Authority, I6 a1.Quota], U6 a2]) func53 z ntmps53 (Nat.le_of_ble_eq_true z) ?_
 refine wp_seq (wrl ?_)
 obtain ⟨b318, w319, ew320, eb321, hst⟩ := hst.box [U6 a1.ID, I6 a1.From, I6 a1.To, F6 a1.Lo, F6 a1.Hi, U6 a1.Authority, I6 a1.Quota] 39
 refine wl_run (v := Pt b318 0) (w' := w319) z z (x_al (by kernel_rfl) ew320 eb321) ?_
 refine wl_nil (tn (wp_seq (wp_seq (wrl (wv (p0) z z z ?_)))))
 replace hst := hst.pull1
 obtain ⟨b323, v324, rfl, hst'⟩ := at_policy_Book_open hst
 clear hst
 have hst := hst'
 clear hst'
 refine wv (.bool false) z z (by kernel_rfl) (wl_nil (tn ?_))
 refine wp_iff z ?_
 refine wp_skip (tn (wp_seq (wrl ?_)))
 refine wv (Pt b323 0) z z z (wv (Pt b318 0) z z (x_field z underlying39 z sizeOf26 z) (wv (.int .u64 a1.ID) z z (x_load z isAgg26 (hst.bc2 z)) (wv (.int .u64 a2) z z z ?_)))
 replace hst := hst.pull1.pull1
 replace hst := at_policy_Book_close (pv := Pt b323 0) (x := o0) hst z
 replace hst := objO_some hst
 obtain ⟨t326, ht327, hm⟩ := bind_some hm
 refine wc call54 [Pt b323 0, U6 a1.ID, U6 a2] z z z ?_
 refine (policy_Book_Revoke_ref hst.to1 ht327).mono ?_
 rintro _ w328 ⟨rfl, hst⟩
 refine ⟨_, z, ?_⟩
 replace hst := hst.of1
 rcases he332 : t326.2 with _ | y331
 · rw [he332] at hm; cases hm
 rw [he332] at hm hst; dsimp only at hm; replace hst := objO_get hst
 refine wl_nil (tn ?_)
 obtain ⟨b333, v334, e336, hst'⟩ := at_policy_Book_open hst
 clear hst
 have e336 := ptr_inj e336
 subst e336
 have hst := hst'
 clear hst'
 refine wp_region_St hst 13 [0, 1, 2, 3, 4, 5, 6, 7, 8, 9, 10, 11, 12] [0, 0, 2, 6, 14, 0, 0, 96, 224, 510, 1023, 2047, 4095] [] z (by kernel_rfl) (by kernel_rfl) Tryz.mixed (by kernel_rfl) ?_
 refine wsr (Pt b323 0) 0 z z z (by kernel_rfl) (fun w hst => z) (wsr (Pt b323 0) 1 z z z (by kernel_rfl) (fun w hst => z) (wsr (Pt b323 0) 2 z z z (by kernel_rfl) (fun w hst => z) (wsr (Pt b323 0) 3 z z z (by kernel_rfl) (fun w hst => x_field z underlying209 z sizeOf207 z) (wsr (v334) 4 z z z (by kernel_rfl) (fun w hst => x_load z isAgg207 (hst.bc0 z)) (wsr (.agg #[U6 a1.ID, I6 a1.From, I6 a1.To, F6 a1.Lo, F6 a1.Hi, U6 a1.Authority, I6 a1.Quota]) 5 z z z (by kernel_rfl) (fun w hst => x_loadN (cs := [U6 a1.ID, I6 a1.From, I6 a1.To, F6 a1.Lo, F6 a1.Hi, U6 a1.Authority, I6 a1.Quota]) z isAgg39 sizeOf39 (hst.bcs2 0 z)) (wsr (.int .u64 a2) 6 z z z (by kernel_rfl) (fun w hst => z) (wsr (.agg #[U6 a1.ID, I6 a1.From, I6 a1.To, F6 a1.Lo, F6 a1.Hi, U6 a1.Authority, I6 a1.Quota, U6 a2, Zu]) 7 z z z (by kernel_rfl) (fun w hst => by kernel_rfl) ?_)))))))
 refine ws_e1 8 (by kernel_rfl) ?_
 refine nxe [9, 10, 11, 12] (by kernel_rfl) z z ?_
 clear hst
 intro w hst
 obtain ⟨b337, w338, ew339, eb340, hst⟩ := hst.lits (E := ty_policy_line) (xs := [({ r := a1, from_ := a2, to_ := (0:Int) } : policy_line)]) [[U6 a1.ID, I6 a1.From, I6 a1.To, F6 a1.Lo, F6 a1.Hi, U6 a1.Authority, I6 a1.Quota, U6 a2, Zu]] 224 1 z (Reps.cons z Reps.nil)
 refine we_run (v := (.slice (some ⟨b337, 0, none⟩) 1 1)) (w' := w338) z (x_als (by kernel_rfl) ew339 eb340) ?_
 refine ws_next (pend' := [(4, v334), (3, Pt b323 0), (2, Pt b323 0), (1, Pt b323 0), (0, Pt b323 0)]) hst (by kernel_rfl) (pkr z z (fun w hst => x_load z isAgg207 (hst.bc1 z)) (pkr z z (fun w hst => x_field z underlying209 z sizeOf207 z) (pkr z z (fun w hst => z) (pkr z z (fun w hst => z) (pkr z z (fun w hst => z) pk_nil))))) ?_
 refine ws_e1 9 (by kernel_rfl) ?_
 refine nxe [10, 11, 12] (by kernel_rfl) z z ?_
 clear hst
 intro w hst
 obtain ⟨hg342, hm⟩ := gd_some hm
 replace hst := hst.pull2
 obtain ⟨v343, w344, hr345, hst⟩ := run_append elem_207 underlying207 hst hst.src1 (room_of hg342 z) 207
 refine we_run (v := v343) (w' := w344) z (x_append z z hr345) ?_
 refine ws_next (pend' := [(0, Pt b323 0)]) hst (by kernel_rfl) (pkr z z (fun w hst => z) pk_nil) ?_
 refine wsr (Pt b323 0) 10 z z z (by kernel_rfl) (fun w hst => z) (wsr (Pt b323 0) 11 z z z (by kernel_rfl) (fun w hst => x_field z underlying209 z sizeOf207 z) ?_)
 refine ws_e1 12 (by kernel_rfl) ?_
 refine nxe [] (by kernel_rfl) z z ?_
 clear hst
 intro w hst
 replace hst := hst.pull2
 obtain ⟨w347, hr348, hst⟩ := hst.boxStore1 (P := prog) (t := 207) (cs' := [v343]) 0 v343 (one_of_sliceV hst.sv1) sizeOf207 z z
 refine we_unit z (x_unit hr348) ?_
 refine ws_next (pend' := []) hst (by kernel_rfl) pk_nil ?_
 refine ws_nil ?_
 intro w hst
 replace hst := hst.pull1.pull1
 replace hst := at_policy_Book_close (pv := Pt b323 0) (x := ({ l := (y331.l ++ ([({ r := a1, from_ := a2, to_ := (0:Int) } : policy_line)])) } : policy_Book)) hst z
 replace hst := objO_some hst
 obtain rfl := some_inj hm
 refine post_end (vs := []) results53 rvs_nil ?_
 exact ⟨z, hst.keep1⟩
}
}

theorem lane_State_give_1_ref {w0 w : World} {I : HL} {R : SP} {a0 : lane_used} {a1 : Int}  (hst : St w0 w I [] R) {r : (Int)} (hm : lane_State_give_1 a0 a1 = some r) :
  Calls prog 133 #[.agg #[U6 a0.rule, U6 a0.epoch, I6 a0.n], U6 a1] w fun e w' => e = .returned (.int .i64 r) ∧ St w0 w' I [] R := by {
 unfold lane_State_give_1 at hm
 refine calls_start (args := [.agg #[U6 a0.rule, U6 a0.epoch, I6 a0.n], U6 a1]) func133 z ntmps133 (Nat.le_of_ble_eq_true z) ?_
 refine wp_seq (wrl ?_)
 obtain ⟨b380, w381, ew382, eb383, hst⟩ := hst.box [U6 a0.rule, U6 a0.epoch, I6 a0.n] 189
 refine wl_run (v := Pt b380 0) (w' := w381) z z (x_al (by kernel_rfl) ew382 eb383) ?_
 refine wv (.int .i64 (0:Int)) z z z (wl_nil (tn (wp_seq (wrl (wv (Pt b380 0) z z (x_field z underlying189 z sizeOf26 z) (wv (.int .u64 a0.rule) z z (x_load z isAgg26 (hst.bc0 z)) (wv (.int .u64 a1) z z z ?_)))))))
 obtain ⟨t385, ht386, hm⟩ := bind_some hm
 refine wc call131 [U6 a0.rule, U6 a1] z z z ?_
 refine (cmp_Compare_uint64_ref hst.to0 ht386).mono ?_
 rintro _ w387 ⟨rfl, hst⟩
 refine ⟨_, z, ?_⟩
 replace hst := hst.of0
 refine wv (.int .i64 t385) z z z (wl_nil (tn (wp_ret ?_)))
 obtain rfl := some_inj hm
 refine post_ret (vs := [I6 t385]) results133 (rvs_cons (rv_tmp z) rvs_nil) ?_
 exact ⟨z, hst.keep0⟩
}

theorem slices_Insert_lane_used_lane_used_ref {w0 w : World} {I : HL} {R : SP} {a0 : (List lane_used)} {r0_0 : Value} {a1 : Int} {a2 : (List lane_used)} {r2_0 : Value} (hst : St w0 w I [ownS ty_lane_used r0_0 a0, ownS ty_lane_used r2_0 a2] R) {r : (List lane_used)} (hm : slices_Insert_lane_used_lane_used a0 a1 a2 = some r) :
  Calls prog 134 #[r0_0, I6 a1, r2_0] w fun e w' => ∃ (q0_0 : Value), e = .returned (q0_0) ∧ St w0 w' I [ownS ty_lane_used q0_0 r] R := by {
 unfold slices_Insert_lane_used_lane_used at hm
 obtain ⟨hg, hm⟩ := gd_some hm
 obtain rfl := some_inj hm
 obtain ⟨hi0, hi1, hrm⟩ := insOK_of hg
 obtain ⟨k, rfl⟩ := Int.eq_ofNat_of_zero_le hi0
 have hsm := room_sum hrm
 have hk : k ≤ a0.length := by omega
 have hs : ∀ w : World, (sizeOf 189).run prog w = .ok ty_lane_used.sz w := sizeOf189
 have hs0 : 0 < ty_lane_used.sz := Nat.le_of_ble_eq_true rfl
 have hov : ∀ (args : Array Value) (w : World), (callFunc 191 args).run prog w = (Extern.SlicesOverlaps.overlaps #[109, 109] #[4] args >>= fun v => (pure (.value v) : Sem Next)).run prog w := by intro args w; kernel_rfl
 obtain ⟨css, hr, hst⟩ := hst.own_open
 replace hst := hst.pull1
 obtain ⟨dss, hq, hst⟩ := hst.own_open
 replace hst := hst.pull1
 obtain ⟨n, hn⟩ : ∃ n, css.length = n := ⟨_, rfl⟩
 obtain ⟨m, hm'⟩ : ∃ m, dss.length = m := ⟨_, rfl⟩
 have hln : a0.length = n := hr.1.trans hn
 have hlm : a2.length = m := hq.1.trans hm'
 rw [hln] at hsm hk
 rw [hlm] at hsm
 have hsv : SliceV r0_0 n := by have := hst.row_form.2; rwa [hn] at this
 have hsq : SliceV r2_0 m := by have := hst.pull1.row_form.2; rwa [hm'] at this
 have hoc := hr.ones
 have hoq := hq.ones
 have hw1 := wrap_add (a := n) (b := m) (by omega)
 have hw2 := wrap_add (a := k) (b := m) (by omega)
 have hw3 := wrap_sub (a := n + m) (b := k) (by omega) (by omega)
 have hrb := room_of (b := 24) hrm rfl
 rw [hln, hlm] at hrb
 refine calls_start (args := [r0_0, I6 (k : Int), r2_0]) func134 z ntmps134 (Nat.le_of_ble_eq_true z) ?_
 refine wp_seq (wrl (wv ((.slice none 0 0)) z z z (wl_nil (tn (wp_seq (wrl (wv (r0_0) z z z (wv (.int .i64 (k : Int)) z z z (wv ((slcV ty_lane_used.sz r0_0 k n)) z z (x_slice (lo := (k : Nat)) (hi := (n : Nat)) underlying109 hs z hsv (by omega) (by omega) (by omega) .i64 .i64 (.inl z) (.inr ⟨z, z⟩)) (wl_nil (tn (wp_seq (wrl (wv (r2_0) z z z (wv (.int .i64 (m : Int)) z z (x_len z underlying109 hsq) (wv (.int .i64 (m : Int)) z z z (wl_nil (tn (wp_seq (wp_seq (wrl (wv (.int .i64 (m : Int)) z z z (wv (.bool ((m : Int) == (0:Int))) z z z ?_)))))))))))))))))))))))
 refine wl_nil (tn ?_)
 refine bsplit ((m : Int) == (0:Int)) (fun hc517 => ?_) (fun hc517 => ?_)
 {
 refine wp_ift (cvb hc517) ?_
 refine wp_seq (wrl (wv (r0_0) z z z (wv (r0_0) z z z (wl_nil (tn (wp_ret (then_r ?_)))))))
 refine post_ret (vs := [r0_0]) results134 (rvs_cons (rv_tmp z) rvs_nil) ?_
 rw [ins_nil (by rw [hlm]; exact hc517)]
 exact ⟨_, z, (hst.own_close hr).keep1⟩
}
 {
 refine wp_iff (cvb hc517) ?_
 have hm0 : m ≠ 0 := fun h => by rw [h] at hc517; cases hc517
 have hq0 : dss ≠ [] := fun h => hm0 (by rw [← hm', h]; rfl)
 refine wp_skip (tn (wp_seq (wrl ?_)))
 refine wv (r0_0) z z z (wv (.int .i64 (n : Int)) z z (x_len z underlying109 hsv) (wv (.int .i64 (n : Int)) z z z (wl_nil (tn (wp_seq (wp_seq (wrl (wv (.int .i64 (k : Int)) z z z (wv (.int .i64 (n : Int)) z z z (wv (.bool ((k : Int) == (n : Int))) z z z (wl_nil (tn ?_))))))))))))
 refine bsplit ((k : Int) == (n : Int)) (fun hc518 => ?_) (fun hc518 => ?_)
 {
 refine wp_ift (cvb hc518) ?_
 refine wp_seq (wrl (wv (r0_0) z z z (wv (r2_0) z z z ?_)))
 replace hst := (hst.own_close hr).pull1.own_close hq
 replace hst := hst.pull1
 obtain ⟨v2, w2, hra, hst⟩ := run_append elem_109 underlying109 hst hst.src1 (room_of hrm z) 109
 refine wl_run (v := v2) (w' := w2) z z (x_append z z hra) ?_
 refine wv (v2) z z z (wl_nil (tn (wp_ret (then_r ?_))))
 refine post_ret (vs := [v2]) results134 (rvs_cons (rv_tmp z) rvs_nil) ?_
 rw [ins_end (by rw [hln]; exact hc518)]
 exact ⟨_, z, hst.keep1⟩
}
 {
 refine wp_iff (cvb hc518) ?_
 have hkn : k ≠ n := fun h => by rw [h] at hc518; simp at hc518
 have hn0 : 0 < n := by omega
 have hc0 : css ≠ [] := fun h => by rw [h] at hn; simp at hn; omega
 refine wp_skip (tn (wp_seq (wp_seq (wrl ?_))))
 refine wv (.int .i64 (n : Int)) z z z (wv (.int .i64 (m : Int)) z z z (wv (.int .i64 ((n + m : Nat) : Int)) z z (ok_cast hw1 z) (wv (r0_0) z z z (wv (.int .i64 (sCap r0_0 : Int)) z z (x_cap z underlying109 hsv) (wv (.bool (decide (((n + m : Nat) : Int) > (sCap r0_0 : Int)))) z z z (wl_nil (tn ?_)))))))
 refine bsplit (decide (((n + m : Nat) : Int) > (sCap r0_0 : Int))) (fun hc519 => ?_) (fun hc519 => ?_)
 {
 refine wp_ift (cvb hc519) ?_
 refine wp_seq (wrl (wv (r0_0) z z z (wv (.int .i64 (k : Int)) z z z (wv ((slcV ty_lane_used.sz r0_0 0 k)) z z (x_slice (lo := (0 : Nat)) (hi := (k : Nat)) underlying109 hs z hsv (by omega) (by omega) (by omega) .i64 .i64 (.inr ⟨z, z⟩) (.inl z)) (wv (.int .i64 (n : Int)) z z z (wv (.int .i64 (m : Int)) z z z (wv (.int .i64 ((n + m : Nat) : Int)) z z (ok_cast hw1 z) (wv (.int .i64 (k : Int)) z z z (wv (.int .i64 ((n + m - k : Nat) : Int)) z z (ok_cast hw3 z) ?_)))))))))
 obtain ⟨v2, w2, hra, hs2, zss, hzl, hst⟩ := run_app0 elem_109 underlying3 hst k (n + m - k) (by omega) (by have := of_decide_eq_true hc519; omega) (by rw [show k + (n + m - k) = n + m by omega]; exact hrb) hs0 109
 rw [show k + (n + m - k) = n + m by omega] at hs2
 refine wl_run (v := v2) (w' := w2) z z (x_append z z hra) ?_
 refine wv (v2) z z z (wl_nil (tn (wp_seq (wrl (wv (v2) z z z (wv (.int .i64 (k : Int)) z z z (wv ((slcV ty_lane_used.sz v2 k (n + m))) z z (x_slice (lo := (k : Nat)) (hi := ((n + m) : Nat)) underlying109 hs z hs2 (by omega) (by omega) (by omega) .i64 .i64 (.inl z) (.inr ⟨z, z⟩)) (wv (r2_0) z z z ?_))))))))
 obtain ⟨w520, hr521, hst⟩ := run_copyRows (P := prog) (t2 := 109) (ty := 3) underlying109 hs hst hst.pull2 k m (N := n + m) (by first | omega | (simp only [List.length_append, List.length_take, List.length_drop]; omega)) (by first | omega | (simp only [List.length_append, List.length_take, List.length_drop]; omega)) (by omega) (by first | omega | (simp only [List.length_append, List.length_take, List.length_drop]; omega)) (ones_take hoq _)
 refine wl_run (v := .int .i64 (m : Nat)) (w' := w520) z z (x_copy z z hr521) ?_
 refine wl_nil (tn (wp_seq ?_))
 refine wp_region_St hst 9 [0, 1, 2, 3, 4, 5, 6, 7, 8] [0, 0, 0, 6, 15, 0, 0, 96, 255] [] z (by kernel_rfl) (by kernel_rfl) Tryz.mixed (by kernel_rfl) ?_
 refine wsr (v2) 0 z z z (by kernel_rfl) (fun w hst => z) (wsr (.int .i64 (k : Int)) 1 z z z (by kernel_rfl) (fun w hst => z) (wsr (.int .i64 (m : Int)) 2 z z z (by kernel_rfl) (fun w hst => z) (wsr (.int .i64 ((k + m : Nat) : Int)) 3 z z z (by kernel_rfl) (fun w hst => ok_cast hw2 z) (wsr ((slcV ty_lane_used.sz v2 (k + m) (n + m))) 4 z z z (by kernel_rfl) (fun w hst => x_slice (lo := ((k + m) : Nat)) (hi := ((n + m) : Nat)) underlying109 hs z hs2 (by omega) (by omega) (by omega) .i64 .i64 (.inl z) (.inr ⟨z, z⟩)) (wsr (r0_0) 5 z z z (by kernel_rfl) (fun w hst => z) (wsr (.int .i64 (k : Int)) 6 z z z (by kernel_rfl) (fun w hst => z) (wsr ((slcV ty_lane_used.sz r0_0 k n)) 7 z z z (by kernel_rfl) (fun w hst => x_slice (lo := (k : Nat)) (hi := (n : Nat)) underlying109 hs z hsv (by omega) (by omega) (by omega) .i64 .i64 (.inl z) (.inr ⟨z, z⟩)) ?_)))))))
 refine ws_e1 8 (by kernel_rfl) ?_
 refine nxe [] (by kernel_rfl) z z ?_
 clear hst
 intro w hst
 obtain ⟨w522, hr523, hst⟩ := run_copyRows (P := prog) (t2 := 109) (ty := 3) underlying109 hs hst (hst.pull1.row_part (l := k) (h := n) hk (by omega)) (k + m) (n - k) (N := n + m) (by first | omega | (simp only [List.length_append, List.length_take, List.length_drop]; omega)) (by first | omega | (simp only [List.length_append, List.length_take, List.length_drop]; omega)) (by omega) (by first | omega | (simp only [List.length_append, List.length_take, List.length_drop]; omega)) (ones_take (ones_drop (ones_take hoc _) _) _)
 refine we_run (v := .int .i64 ((n - k) : Nat)) (w' := w522) z (x_copy z z hr523) ?_
 refine ws_next (pend' := []) hst (by kernel_rfl) pk_nil ?_
 refine ws_nil ?_
 intro w hst
 refine tn (wp_seq (wrl (wv (v2) z z z (wv (v2) z z z (wl_nil (tn (wp_ret (then_r ?_))))))))
 refine post_ret (vs := [v2]) results134 (rvs_cons (rv_tmp z) rvs_nil) ?_
 rw [grow_rows hn hm' hk hzl] at hst
 exact ⟨_, z, (hst.own_close ((hr.take k).app (hq.app (hr.drop k)))).keep1⟩
}
 {
 refine wp_iff (cvb hc519) ?_
 have hup : n + m ≤ sCap r0_0 := by have := of_decide_eq_false hc519; omega
 obtain ⟨ess, hel, hem, hst'⟩ := hst.row_up (n + m) (by omega) hup hc0
 rw [show n + m - css.length = m by omega] at hel
 have hs2 : SliceV (upV r0_0 (n + m)) (n + m) := by have := hst'.row_form.2; rwa [List.length_append, hn, hel] at this
 clear hst
 have hst := hst'
 clear hst'
 refine wp_skip (tn (wp_seq (wrl ?_)))
 refine wv (r0_0) z z z (wv (.int .i64 (n : Int)) z z z (wv (.int .i64 (m : Int)) z z z (wv (.int .i64 ((n + m : Nat) : Int)) z z (ok_cast hw1 z) (wv ((upV r0_0 (n + m))) z z (x_sliceUp underlying109 hs z hsv z hup hn0) (wv ((upV r0_0 (n + m))) z z z (wl_nil (tn (wp_seq (wp_seq (wrl (wv (r2_0) z z z (wv ((upV r0_0 (n + m))) z z z (wv (.int .i64 (k : Int)) z z z (wv (.int .i64 (m : Int)) z z z (wv (.int .i64 ((k + m : Nat) : Int)) z z (ok_cast hw2 z) (wv ((slcV ty_lane_used.sz (upV r0_0 (n + m)) (k + m) (n + m))) z z (x_slice (lo := ((k + m) : Nat)) (hi := ((n + m) : Nat)) underlying109 hs z hs2 (by omega) (by omega) (by omega) .i64 .i64 (.inl z) (.inr ⟨z, z⟩)) ?_))))))))))))))))
 refine wv (.bool false) z z (x_ext z z z (hov _) (run_overlaps z underlying109 hs hst.pull1 (k + m) (N := n + m) (by rw [List.length_append]; omega) (by omega) hq0 hs0)) (wv (.bool true) z z z (wl_nil (tn ?_)))
 refine wp_ift z ?_
 refine wp_seq ?_
 refine wp_region_St hst 9 [0, 1, 2, 3, 4, 5, 6, 7, 8] [0, 0, 0, 6, 15, 0, 0, 96, 255] [] z (by kernel_rfl) (by kernel_rfl) Tryz.mixed (by kernel_rfl) ?_
 refine wsr ((upV r0_0 (n + m))) 0 z z z (by kernel_rfl) (fun w hst => z) (wsr (.int .i64 (k : Int)) 1 z z z (by kernel_rfl) (fun w hst => z) (wsr (.int .i64 (m : Int)) 2 z z z (by kernel_rfl) (fun w hst => z) (wsr (.int .i64 ((k + m : Nat) : Int)) 3 z z z (by kernel_rfl) (fun w hst => ok_cast hw2 z) (wsr ((slcV ty_lane_used.sz (upV r0_0 (n + m)) (k + m) (n + m))) 4 z z z (by kernel_rfl) (fun w hst => x_slice (lo := ((k + m) : Nat)) (hi := ((n + m) : Nat)) underlying109 hs z hs2 (by omega) (by omega) (by omega) .i64 .i64 (.inl z) (.inr ⟨z, z⟩)) (wsr ((upV r0_0 (n + m))) 5 z z z (by kernel_rfl) (fun w hst => z) (wsr (.int .i64 (k : Int)) 6 z z z (by kernel_rfl) (fun w hst => z) (wsr ((slcV ty_lane_used.sz (upV r0_0 (n + m)) k (n + m))) 7 z z z (by kernel_rfl) (fun w hst => x_slice (lo := (k : Nat)) (hi := ((n + m) : Nat)) underlying109 hs z hs2 (by omega) (by omega) (by omega) .i64 .i64 (.inl z) (.inr ⟨z, z⟩)) ?_)))))))
 refine ws_e1 8 (by kernel_rfl) ?_
 refine nxe [] (by kernel_rfl) z z ?_
 clear hst
 intro w hst
 obtain ⟨w524, hr525, hst⟩ := run_copyRows (P := prog) (t2 := 109) (ty := 3) underlying109 hs hst (hst.row_part (l := k) (h := n + m) (by omega) (by rw [List.length_append]; omega)) (k + m) (n - k) (N := n + m) (by first | omega | (simp only [List.length_append, List.length_take, List.length_drop]; omega)) (by first | omega | (simp only [List.length_append, List.length_take, List.length_drop]; omega)) (by omega) (by first | omega | (simp only [List.length_append, List.length_take, List.length_drop]; omega)) (by rw [stay_src hn hm' hk hel]; exact ones_drop hoc _)
 refine we_run (v := .int .i64 ((n - k) : Nat)) (w' := w524) z (x_copy z z hr525) ?_
 refine ws_next (pend' := []) hst (by kernel_rfl) pk_nil ?_
 refine ws_nil ?_
 intro w hst
 refine tn (wp_seq (wrl (wv ((upV r0_0 (n + m))) z z z (wv (.int .i64 (k : Int)) z z z (wv ((slcV ty_lane_used.sz (upV r0_0 (n + m)) k (n + m))) z z (x_slice (lo := (k : Nat)) (hi := ((n + m) : Nat)) underlying109 hs z hs2 (by omega) (by omega) (by omega) .i64 .i64 (.inl z) (.inr ⟨z, z⟩)) (wv (r2_0) z z z ?_))))))
 obtain ⟨w526, hr527, hst⟩ := run_copyRows (P := prog) (t2 := 109) (ty := 3) underlying109 hs hst hst.pull1 k m (N := n + m) (by first | omega | (simp only [List.length_append, List.length_take, List.length_drop]; omega)) (by first | omega | (simp only [List.length_append, List.length_take, List.length_drop]; omega)) (by omega) (by first | omega | (simp only [List.length_append, List.length_take, List.length_drop]; omega)) (ones_take hoq _)
 refine wl_run (v := .int .i64 (m : Nat)) (w' := w526) z z (x_copy z z hr527) ?_
 refine wl_nil (tn (wp_seq (wrl (wv ((upV r0_0 (n + m))) z z z (wv ((upV r0_0 (n + m))) z z z (wl_nil (tn (wp_ret (then_r ?_)))))))))
 refine post_ret (vs := [(upV r0_0 (n + m))]) results134 (rvs_cons (rv_tmp z) rvs_nil) ?_
 rw [stay_rows hn hm' hk hel] at hst
 exact ⟨_, z, (hst.own_close ((hr.take k).app (hq.app (hr.drop k)))).keep1⟩
}
}
}
}

theorem lane_Pad_ref {w0 w : World} {I : HL} {R : SP} {a0 : api_Write} {r0_0 : Value} {a1 : Int} (f0_0 : Rd (tyInt .u8) R I r0_0 a0.Val) (hst : St w0 w I [] R) {r : (api_Write)} (hm : lane_Pad a0 a1 = some r) :
  Calls prog 17 #[.agg #[F6 a0.At, .bool a0.Del, r0_0], I6 a1] w fun e w' => ∃ (q0_0 : Value), e = .returned (.agg #[F6 r.At, .bool r.Del, q0_0]) ∧ St w0 w' I [ownS (tyInt .u8) q0_0 r.Val] R := by {
 unfold lane_Pad at hm
 refine calls_start (args := [.agg #[F6 a0.At, .bool a0.Del, r0_0], I6 a1]) func17 z ntmps17 (Nat.le_of_ble_eq_true z) ?_
 refine wp_seq (wrl ?_)
 obtain ⟨b599, w600, ew601, eb602, hst⟩ := hst.box [F6 a0.At, .bool a0.Del, r0_0] 41
 refine wl_run (v := Pt b599 0) (w' := w600) z z (x_al (by kernel_rfl) ew601 eb602) ?_
 obtain ⟨b605, w606, ew607, eb608, hst⟩ := hst.box [Zf, .bool false, Zs] 41
 refine wl_run (v := Pt b605 0) (w' := w606) z z (x_al (by kernel_rfl) ew607 eb608) ?_
 refine wl_nil (tn (wp_seq (wrl (wv (.int .i64 a1) z z z (wv (.int .i64 (if (0:Int) > a1 then (0:Int) else a1)) z z (by kernel_rfl) ?_)))))
 obtain ⟨hg610, hm⟩ := gd_some hm
 obtain ⟨v611, w612, hr613, hst⟩ := run_mk (k := .i64) (k' := .i64) (zm := (0:Int)) elem_22 hst hg610 (by decide) z
 refine wl_run (v := v611) (w' := w612) z z (x_make z z hr613) ?_
 refine wv (v611) z z z (wl_nil (tn (wp_seq (wrl (wv (v611) z z z (wv (Pt b599 2) z z (x_field z underlying41 z sizeOf22 z) (wv (r0_0) z z (x_load z isAgg22 (hst.bc2 z)) ?_)))))))
 obtain ⟨w615, hr616, hst⟩ := run_copySrc (P := prog) (t2 := 22) (ty := 3) underlying22 sizeOf5 hst (Src.of_rd hst f0_0 flat_int)
 refine wl_run (v := .int .i64 ((min (a0.Val).length ((List.replicate (Int.toNat (if (0:Int) > a1 then (0:Int) else a1)) (0:Int))).length : Nat) : Int)) (w' := w615) z z (x_copy z z hr616) ?_
 refine wl_nil (tn ?_)
 obtain ⟨y624, hm, hx625⟩ := bind_some hm
 refine wp_cut (fun a w => ∃ (z621 : (List Int)) (v620 : Value) (σ622 : Nat → Value), (lane_Pad_j0 a0) z621 = some r ∧ a = Fr 21 (upd (upd (upd σ622 2 (Pt b599 0)) 4 (Pt b605 0)) 5 (v620)) ∧ St w0 w I [cells b599 [F6 a0.At, .bool a0.Del, r0_0], cells b605 [Zf, .bool false, Zs], ownS (tyInt .u8) v620 z621] R) ?_ ?_
 {
 refine wp_seq (wrl (wv (Pt b599 1) z z (x_field z underlying41 z sizeOf4 z) (wv (.bool a0.Del) z z (x_load z isAgg4 (hst.bc2 z)) (wl_nil (tn ?_)))))
 refine bsplit a0.Del (fun hc617 => ?_) (fun hc617 => ?_)
 {
 replace hm := bif_t hc617 hm
 refine wp_ift (cvb hc617) ?_
 refine wrl (wv ((.slice none 0 0)) z z z (wl_nil (tn ?_)))
 replace hst := hst.own_nil (tyInt .u8)
 replace hst := hst.pull2.pull3.keep3
 obtain rfl := some_inj hm
 exact ⟨([]), Zs, _, hx625, (fu 2 (Pt b599 0) z (fu 4 (Pt b605 0) z (fu 5 (.slice none 0 0) z z))), hst⟩
}
 {
 replace hm := bif_f hc617 hm
 refine wp_iff (cvb hc617) ?_
 refine wp_skip (tn ?_)
 replace hst := hst.pull1.pull2.keep3
 obtain rfl := some_inj hm
 exact ⟨(cpy (List.replicate (Int.toNat (if (0:Int) > a1 then (0:Int) else a1)) (0:Int)) a0.Val), v611, _, hx625, (fu 2 (Pt b599 0) z (fu 4 (Pt b605 0) z (fu 5 v611 z z))), hst⟩
}
}
 {
 clear hst
 rintro _ w626 ⟨z621, v620, σ622, hm, rfl, hst⟩
 dsimp only [lane_Pad_j0] at hm
 refine wp_seq (wrl (wv (Pt b599 0) z z (x_field z underlying41 z sizeOf37 z) (wv (.float .f64 a0.At) z z (x_load z isAgg37 (hst.bc0 z)) (wv (Pt b599 1) z z (x_field z underlying41 z sizeOf4 z) (wv (.bool a0.Del) z z (x_load z isAgg4 (hst.bc0 z)) (wv (v620) z z z (wv (.agg #[F6 a0.At, .bool a0.Del, v620]) z z (by obtain ⟨_, _, hv_, _⟩ := hst.sv2; rw [hv_]; kernel_rfl) ?_)))))))
 replace hst := hst.pull1
 obtain ⟨w628, hr629, hst⟩ := hst.bx [F6 a0.At, .bool a0.Del, v620] sizeOf41 z (oC z (oC z (oC (one_of_sliceV hst.sv2) oN))) (by kernel_rfl)
 refine wl_unit z z (x_unit hr629) ?_
 refine wl_nil (tn (wp_ret ?_))
 obtain rfl := some_inj hm
 refine post_ret (vs := [.agg #[F6 a0.At, .bool a0.Del, v620]]) results17 (rvs_cons (rv_cell (cs := [F6 a0.At, .bool a0.Del, v620]) z isAgg41 sizeOf41 (hst.bcs0 0 z)) rvs_nil) ?_
 replace hst := hst.pull2
 exact ⟨v620, z, hst.keep1⟩
}
}

end Go.Proofs.YtgnkkopjkgdieaaGreat
