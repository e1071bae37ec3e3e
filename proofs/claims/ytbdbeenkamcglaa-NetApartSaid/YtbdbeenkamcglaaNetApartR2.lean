/- The Go functions refine their models, part 2. -/
import Derived.Test.YtbdbeenkamcglaaNetApartR1
set_option linter.unusedVariables false
set_option linter.unusedSimpArgs false
set_option maxRecDepth 100000
set_option maxHeartbeats 4000000
namespace Go.Proofs.Ytbdbeenkamcglaa
open Go Go.V
open _root_.Go.Proofs.Try IntKind
attribute [local irreducible] wpList Code.wp wpQuiet Calls bodyPost Oper.wp wpS Nx PendOK YieldsIn
theorem config_New_ref {w0 w : World} {I : HL} {R : SP} {a0 : api_Config} {r0_0 : Value} {r0_1 : Value} (f0_0 : Ro (tyInt .u64) I r0_0 a0.Up) (f0_1 : Ro tyF64 I r0_1 a0.Cuts) (hst : St w0 w I [] R) {r : (Option config_Plan × Int)} (hm : config_New a0 = some r) :
  Calls prog 12 #[.agg #[r0_0, I6 a0.Nodes, r0_1, I6 a0.Frame, I6 a0.Depth, I6 a0.Quota, I6 a0.Wide, I6 a0.Beat, I6 a0.Elect]] w fun e w' => ∃ (I' : HL) (q0 : Value), e = .returned (.tuple #[q0, I6 r.2]) ∧ I.le I' ∧ St w0 w' I' [objO at_config_Plan q0 r.1] R := by {
 unfold config_New at hm
 refine calls_start (args := [.agg #[r0_0, I6 a0.Nodes, r0_1, I6 a0.Frame, I6 a0.Depth, I6 a0.Quota, I6 a0.Wide, I6 a0.Beat, I6 a0.Elect]]) func12 z ntmps12 (Nat.le_of_ble_eq_true z) ?_
 have hI0 := HL.le.refl I
 refine wp_seq (wrl ?_)
 obtain ⟨b94, w95, ew96, eb97, hst⟩ := hst.box [r0_0, I6 a0.Nodes, r0_1, I6 a0.Frame, I6 a0.Depth, I6 a0.Quota, I6 a0.Wide, I6 a0.Beat, I6 a0.Elect] 43
 refine wl_run (v := Pt b94 0) (w' := w95) z z (x_al (by kernel_rfl) ew96 eb97) ?_
 refine wv (.pointer none) z z z (wv (.int .i64 (0:Int)) z z z (wl_nil (tn (wp_seq (wp_block ?_)))))
 obtain ⟨y110, hm, hx111⟩ := bind_some hm
 refine wp_cut (fun a w => ∃ (z107 : Bool) (σ108 : Nat → Value), (config_New_j0 a0) z107 = some r ∧ a = Fr 86 (upd (upd σ108 1 (Pt b94 0)) 6 (.bool z107)) ∧ St w0 w I [cells b94 [r0_0, I6 a0.Nodes, r0_1, I6 a0.Frame, I6 a0.Depth, I6 a0.Quota, I6 a0.Wide, I6 a0.Beat, I6 a0.Elect]] R) ?_ ?_
 {
 refine wp_seq (wrl (wv (Pt b94 1) z z (x_field z underlying43 z sizeOf3 z) (wv (.int .i64 a0.Nodes) z z (x_load z isAgg3 (hst.bc0 z)) (wv (.bool (decide (a0.Nodes < (1:Int)))) z z z (wv (.bool (decide (a0.Nodes < (1:Int)))) z z z ?_)))))
 refine bsplit (decide (a0.Nodes < (1:Int))) (fun hc99 => ?_) (fun hc99 => ?_)
 {
 replace hm := bif_t hc99 hm
 refine wo hc99 z z z z z z (wo hc99 z z z z z z (wo hc99 z z z z z z (wv (.bool true) z z (x_pick_t hc99 z z) (wv (.bool true) z z z (wl_nil (tn ?_))))))
 refine wp_ift z ?_
 refine wp_skip (tn ?_)
 replace hst := hst.keep1
 obtain rfl := some_inj hm
 exact ⟨true, _, hx111, (fu 1 (Pt b94 0) z (fu 6 (.bool true) z z)), hst⟩
}
 {
 replace hm := bif_f hc99 hm
 refine wv (Pt b94 1) ((wanted_eq z z z (cvb hc99)).trans z) z (x_field z underlying43 z sizeOf3 z) (wv (.int .i64 a0.Nodes) ((wanted_eq z z z (cvb hc99)).trans z) z (x_load z isAgg3 (hst.bc0 z)) (wv (.bool (decide (a0.Nodes > (7:Int)))) ((wanted_eq z z z (cvb hc99)).trans z) z z (wv (.bool (decide (a0.Nodes > (7:Int)))) z z (x_pick_f hc99 z z) (wv (.bool (decide (a0.Nodes > (7:Int)))) z z z (wl_nil (tn ?_))))))
 refine bsplit (decide (a0.Nodes > (7:Int))) (fun hc100 => ?_) (fun hc100 => ?_)
 {
 replace hm := bif_t hc100 hm
 refine wp_ift (cvb hc100) ?_
 refine wp_skip (tn ?_)
 replace hst := hst.keep1
 obtain rfl := some_inj hm
 exact ⟨(decide (a0.Nodes > (7:Int))), _, hx111, (fu 1 (Pt b94 0) z (fu 6 (.bool (decide (a0.Nodes > (7:Int)))) z z)), hst⟩
}
 {
 replace hm := bif_f hc100 hm
 refine wp_iff (cvb hc100) ?_
 refine wp_seq (wrl (wv (Pt b94 2) z z (x_field z underlying43 z sizeOf41 z) (wv (r0_1) z z (x_load z isAgg41 (hst.bc0 z)) (wv (.int .i64 ((a0.Cuts).length : Int)) z z (x_len z underlying41 (ro_sliceV f0_1)) (wv (.bool (decide (((a0.Cuts).length : Int) ≥ (8:Int)))) z z z (wv (.bool (decide (((a0.Cuts).length : Int) ≥ (8:Int)))) z z z (wl_nil (tn ?_))))))))
 refine bsplit (decide (((a0.Cuts).length : Int) ≥ (8:Int))) (fun hc101 => ?_) (fun hc101 => ?_)
 {
 replace hm := bif_t hc101 hm
 refine wp_ift (cvb hc101) ?_
 refine wp_skip (tn ?_)
 replace hst := hst.keep1
 obtain rfl := some_inj hm
 exact ⟨(decide (((a0.Cuts).length : Int) ≥ (8:Int))), _, hx111, (fu 1 (Pt b94 0) z (fu 6 (.bool (decide (((a0.Cuts).length : Int) ≥ (8:Int)))) z z)), hst⟩
}
 {
 replace hm := bif_f hc101 hm
 refine wp_iff (cvb hc101) ?_
 refine wrl (wv (Pt b94 2) z z (x_field z underlying43 z sizeOf41 z) (wv (r0_1) z z (x_load z isAgg41 (hst.bc0 z)) ?_))
 obtain ⟨t102, ht103, hm⟩ := bind_some hm
 refine wc call19 [r0_1] z z z ?_
 refine (number_Rising_ref (f0_1.mono ro_rd) hst.to0 ht103).mono ?_
 rintro _ w104 ⟨rfl, hst⟩
 refine ⟨_, z, ?_⟩
 replace hst := hst.of0
 refine wv (.bool (!t102)) z z z (wv (.bool (!t102)) z z z (wl_nil (tn ?_)))
 replace hst := hst.keep1
 obtain rfl := some_inj hm
 exact ⟨(!t102), _, hx111, (fu 1 (Pt b94 0) z (fu 6 (.bool (!t102)) z z)), hst⟩
}
}
}
}
 {
 clear hst
 rintro _ w112 ⟨z107, σ108, hm, rfl, hst⟩
 dsimp only [config_New_j0] at hm
 refine bsplit z107 (fun hc113 => ?_) (fun hc113 => ?_)
 {
 replace hm := bif_t hc113 hm
 refine wp_ift (cvb hc113) ?_
 refine wp_seq (wrl (wv (.pointer none) z z z (wv (.int .i64 (1:Int)) z z z (wl_nil (tn (wp_ret (blk_r (then_r ?_))))))))
 replace hst := hst.objO_nil at_config_Plan
 obtain rfl := some_inj hm
 refine post_ret (vs := [.pointer none, I6 (1:Int)]) results12 (rvs_cons (rv_tmp z) (rvs_cons (rv_tmp z) rvs_nil)) ?_
 exact ⟨_, .pointer none, z, hI0, hst.keep1⟩
}
 {
 replace hm := bif_f hc113 hm
 refine wp_iff (cvb hc113) ?_
 obtain ⟨y121, hm, hx122⟩ := bind_some hm
 refine wp_cut (fun a w => ∃ (z118 : Bool) (σ119 : Nat → Value), (config_New_j1 a0) z118 = some r ∧ a = Fr 86 (upd (upd σ119 1 (Pt b94 0)) 23 (.bool z118)) ∧ St w0 w I [cells b94 [r0_0, I6 a0.Nodes, r0_1, I6 a0.Frame, I6 a0.Depth, I6 a0.Quota, I6 a0.Wide, I6 a0.Beat, I6 a0.Elect]] R) ?_ ?_
 {
 refine wp_seq (wrl (wv (Pt b94 3) z z (x_field z underlying43 z sizeOf3 z) (wv (.int .i64 a0.Frame) z z (x_load z isAgg3 (hst.bc0 z)) (wv (.bool (decide (a0.Frame < (64:Int)))) z z z (wv (.bool (decide (a0.Frame < (64:Int)))) z z z ?_)))))
 refine bsplit (decide (a0.Frame < (64:Int))) (fun hc115 => ?_) (fun hc115 => ?_)
 {
 replace hm := bif_t hc115 hm
 refine wo hc115 z z z z z z (wo hc115 z z z z z z (wo hc115 z z z z z z (wv (.bool true) z z (x_pick_t hc115 z z) (wv (.bool true) z z z (wl_nil (tn ?_))))))
 refine wp_ift z ?_
 refine wp_skip (tn ?_)
 replace hst := hst.keep1
 obtain rfl := some_inj hm
 exact ⟨true, _, hx122, (fu 1 (Pt b94 0) z (fu 23 (.bool true) z z)), hst⟩
}
 {
 replace hm := bif_f hc115 hm
 refine wv (Pt b94 3) ((wanted_eq z z z (cvb hc115)).trans z) z (x_field z underlying43 z sizeOf3 z) (wv (.int .i64 a0.Frame) ((wanted_eq z z z (cvb hc115)).trans z) z (x_load z isAgg3 (hst.bc0 z)) (wv (.bool (decide (a0.Frame > (4096:Int)))) ((wanted_eq z z z (cvb hc115)).trans z) z z (wv (.bool (decide (a0.Frame > (4096:Int)))) z z (x_pick_f hc115 z z) (wv (.bool (decide (a0.Frame > (4096:Int)))) z z z (wl_nil (tn ?_))))))
 refine bsplit (decide (a0.Frame > (4096:Int))) (fun hc116 => ?_) (fun hc116 => ?_)
 {
 replace hm := bif_t hc116 hm
 refine wp_ift (cvb hc116) ?_
 refine wp_skip (tn ?_)
 replace hst := hst.keep1
 obtain rfl := some_inj hm
 exact ⟨(decide (a0.Frame > (4096:Int))), _, hx122, (fu 1 (Pt b94 0) z (fu 23 (.bool (decide (a0.Frame > (4096:Int)))) z z)), hst⟩
}
 {
 replace hm := bif_f hc116 hm
 refine wp_iff (cvb hc116) ?_
 refine wrl (wv (Pt b94 4) z z (x_field z underlying43 z sizeOf3 z) (wv (.int .i64 a0.Depth) z z (x_load z isAgg3 (hst.bc0 z)) (wv (.bool (decide (a0.Depth < (1:Int)))) z z z (wv (.bool (decide (a0.Depth < (1:Int)))) z z z ?_))))
 refine bsplit (decide (a0.Depth < (1:Int))) (fun hc117 => ?_) (fun hc117 => ?_)
 {
 replace hm := bif_t hc117 hm
 refine wo hc117 z z z z z z (wo hc117 z z z z z z (wo hc117 z z z z z z (wv (.bool true) z z (x_pick_t hc117 z z) (wv (.bool true) z z z (wl_nil (tn ?_))))))
 replace hst := hst.keep1
 obtain rfl := some_inj hm
 exact ⟨true, _, hx122, (fu 1 (Pt b94 0) z (fu 23 (.bool true) z z)), hst⟩
}
 {
 replace hm := bif_f hc117 hm
 refine wv (Pt b94 4) ((wanted_eq z z z (cvb hc117)).trans z) z (x_field z underlying43 z sizeOf3 z) (wv (.int .i64 a0.Depth) ((wanted_eq z z z (cvb hc117)).trans z) z (x_load z isAgg3 (hst.bc0 z)) (wv (.bool (decide (a0.Depth > (65536:Int)))) ((wanted_eq z z z (cvb hc117)).trans z) z z (wv (.bool (decide (a0.Depth > (65536:Int)))) z z (x_pick_f hc117 z z) (wv (.bool (decide (a0.Depth > (65536:Int)))) z z z (wl_nil (tn ?_))))))
 replace hst := hst.keep1
 obtain rfl := some_inj hm
 exact ⟨(decide (a0.Depth > (65536:Int))), _, hx122, (fu 1 (Pt b94 0) z (fu 23 (.bool (decide (a0.Depth > (65536:Int)))) z z)), hst⟩
}
}
}
}
 {
 clear hst
 rintro _ w123 ⟨z118, σ119, hm, rfl, hst⟩
 dsimp only [config_New_j1] at hm
 refine bsplit z118 (fun hc124 => ?_) (fun hc124 => ?_)
 {
 replace hm := bif_t hc124 hm
 refine wp_ift (cvb hc124) ?_
 refine wp_seq (wrl (wv (.pointer none) z z z (wv (.int .i64 (1:Int)) z z z (wl_nil (tn (wp_ret (blk_r (then_r ?_))))))))
 replace hst := hst.objO_nil at_config_Plan
 obtain rfl := some_inj hm
 refine post_ret (vs := [.pointer none, I6 (1:Int)]) results12 (rvs_cons (rv_tmp z) (rvs_cons (rv_tmp z) rvs_nil)) ?_
 exact ⟨_, .pointer none, z, hI0, hst.keep1⟩
}
 {
 replace hm := bif_f hc124 hm
 refine wp_iff (cvb hc124) ?_
 obtain ⟨y132, hm, hx133⟩ := bind_some hm
 refine wp_cut (fun a w => ∃ (z129 : Bool) (σ130 : Nat → Value), (config_New_j2 a0) z129 = some r ∧ a = Fr 86 (upd (upd σ130 1 (Pt b94 0)) 40 (.bool z129)) ∧ St w0 w I [cells b94 [r0_0, I6 a0.Nodes, r0_1, I6 a0.Frame, I6 a0.Depth, I6 a0.Quota, I6 a0.Wide, I6 a0.Beat, I6 a0.Elect]] R) ?_ ?_
 {
 refine wp_seq (wrl (wv (Pt b94 5) z z (x_field z underlying43 z sizeOf3 z) (wv (.int .i64 a0.Quota) z z (x_load z isAgg3 (hst.bc0 z)) (wv (.bool (decide (a0.Quota < (1:Int)))) z z z (wv (.bool (decide (a0.Quota < (1:Int)))) z z z ?_)))))
 refine bsplit (decide (a0.Quota < (1:Int))) (fun hc126 => ?_) (fun hc126 => ?_)
 {
 replace hm := bif_t hc126 hm
 refine wo hc126 z z z z z z (wo hc126 z z z z z z (wo hc126 z z z z z z (wv (.bool true) z z (x_pick_t hc126 z z) (wv (.bool true) z z z (wl_nil (tn ?_))))))
 refine wp_ift z ?_
 refine wp_skip (tn ?_)
 replace hst := hst.keep1
 obtain rfl := some_inj hm
 exact ⟨true, _, hx133, (fu 1 (Pt b94 0) z (fu 40 (.bool true) z z)), hst⟩
}
 {
 replace hm := bif_f hc126 hm
 refine wv (Pt b94 5) ((wanted_eq z z z (cvb hc126)).trans z) z (x_field z underlying43 z sizeOf3 z) (wv (.int .i64 a0.Quota) ((wanted_eq z z z (cvb hc126)).trans z) z (x_load z isAgg3 (hst.bc0 z)) (wv (.bool (decide (a0.Quota > (268435456:Int)))) ((wanted_eq z z z (cvb hc126)).trans z) z z (wv (.bool (decide (a0.Quota > (268435456:Int)))) z z (x_pick_f hc126 z z) (wv (.bool (decide (a0.Quota > (268435456:Int)))) z z z (wl_nil (tn ?_))))))
 refine bsplit (decide (a0.Quota > (268435456:Int))) (fun hc127 => ?_) (fun hc127 => ?_)
 {
 replace hm := bif_t hc127 hm
 refine wp_ift (cvb hc127) ?_
 refine wp_skip (tn ?_)
 replace hst := hst.keep1
 obtain rfl := some_inj hm
 exact ⟨(decide (a0.Quota > (268435456:Int))), _, hx133, (fu 1 (Pt b94 0) z (fu 40 (.bool (decide (a0.Quota > (268435456:Int)))) z z)), hst⟩
}
 {
 replace hm := bif_f hc127 hm
 refine wp_iff (cvb hc127) ?_
 refine wrl (wv (Pt b94 6) z z (x_field z underlying43 z sizeOf3 z) (wv (.int .i64 a0.Wide) z z (x_load z isAgg3 (hst.bc0 z)) (wv (.bool (decide (a0.Wide < (0:Int)))) z z z (wv (.bool (decide (a0.Wide < (0:Int)))) z z z ?_))))
 refine bsplit (decide (a0.Wide < (0:Int))) (fun hc128 => ?_) (fun hc128 => ?_)
 {
 replace hm := bif_t hc128 hm
 refine wo hc128 z z z z z z (wo hc128 z z z z z z (wo hc128 z z z z z z (wv (.bool true) z z (x_pick_t hc128 z z) (wv (.bool true) z z z (wl_nil (tn ?_))))))
 replace hst := hst.keep1
 obtain rfl := some_inj hm
 exact ⟨true, _, hx133, (fu 1 (Pt b94 0) z (fu 40 (.bool true) z z)), hst⟩
}
 {
 replace hm := bif_f hc128 hm
 refine wv (Pt b94 6) ((wanted_eq z z z (cvb hc128)).trans z) z (x_field z underlying43 z sizeOf3 z) (wv (.int .i64 a0.Wide) ((wanted_eq z z z (cvb hc128)).trans z) z (x_load z isAgg3 (hst.bc0 z)) (wv (.bool (decide (a0.Wide > (256:Int)))) ((wanted_eq z z z (cvb hc128)).trans z) z z (wv (.bool (decide (a0.Wide > (256:Int)))) z z (x_pick_f hc128 z z) (wv (.bool (decide (a0.Wide > (256:Int)))) z z z (wl_nil (tn ?_))))))
 replace hst := hst.keep1
 obtain rfl := some_inj hm
 exact ⟨(decide (a0.Wide > (256:Int))), _, hx133, (fu 1 (Pt b94 0) z (fu 40 (.bool (decide (a0.Wide > (256:Int)))) z z)), hst⟩
}
}
}
}
 {
 clear hst
 rintro _ w134 ⟨z129, σ130, hm, rfl, hst⟩
 dsimp only [config_New_j2] at hm
 refine bsplit z129 (fun hc135 => ?_) (fun hc135 => ?_)
 {
 replace hm := bif_t hc135 hm
 refine wp_ift (cvb hc135) ?_
 refine wp_seq (wrl (wv (.pointer none) z z z (wv (.int .i64 (1:Int)) z z z (wl_nil (tn (wp_ret (blk_r (then_r ?_))))))))
 replace hst := hst.objO_nil at_config_Plan
 obtain rfl := some_inj hm
 refine post_ret (vs := [.pointer none, I6 (1:Int)]) results12 (rvs_cons (rv_tmp z) (rvs_cons (rv_tmp z) rvs_nil)) ?_
 exact ⟨_, .pointer none, z, hI0, hst.keep1⟩
}
 {
 replace hm := bif_f hc135 hm
 refine wp_iff (cvb hc135) ?_
 refine wp_seq (wrl (wv (Pt b94 7) z z (x_field z underlying43 z sizeOf3 z) (wv (.int .i64 a0.Beat) z z (x_load z isAgg3 (hst.bc0 z)) (wv (.bool (decide (a0.Beat < (1:Int)))) z z z (wv (.bool (decide (a0.Beat < (1:Int)))) z z z ?_)))))
 refine bsplit (decide (a0.Beat < (1:Int))) (fun hc137 => ?_) (fun hc137 => ?_)
 {
 replace hm := bif_t hc137 hm
 refine wo hc137 z z z z z z (wo hc137 z z z z z z (wo hc137 z z z z z z (wo hc137 z z z z z z (wo hc137 z z z z z z (wv (.bool true) z z (x_pick_t hc137 z z) (wv (.bool true) z z z (wz z z z z z z (wz z z z z z z (wz z z z z z z (wv (.bool true) z z (x_pick_t z z z) (wv (.bool true) z z z (wl_nil (tn ?_)))))))))))))
 refine wp_ift z ?_
 refine wp_seq (wrl (wv (.pointer none) z z z (wv (.int .i64 (1:Int)) z z z (wl_nil (tn (wp_ret (blk_r (then_r ?_))))))))
 replace hst := hst.objO_nil at_config_Plan
 obtain rfl := some_inj hm
 refine post_ret (vs := [.pointer none, I6 (1:Int)]) results12 (rvs_cons (rv_tmp z) (rvs_cons (rv_tmp z) rvs_nil)) ?_
 exact ⟨_, .pointer none, z, hI0, hst.keep1⟩
}
 {
 replace hm := bif_f hc137 hm
 refine wv (Pt b94 8) ((wanted_eq z z z (cvb hc137)).trans z) z (x_field z underlying43 z sizeOf3 z) (wv (.int .i64 a0.Elect) ((wanted_eq z z z (cvb hc137)).trans z) z (x_load z isAgg3 (hst.bc0 z)) (wv (Pt b94 7) ((wanted_eq z z z (cvb hc137)).trans z) z (x_field z underlying43 z sizeOf3 z) (wv (.int .i64 a0.Beat) ((wanted_eq z z z (cvb hc137)).trans z) z (x_load z isAgg3 (hst.bc0 z)) (wv (.bool (decide (a0.Elect ≤ a0.Beat))) ((wanted_eq z z z (cvb hc137)).trans z) z z (wv (.bool (decide (a0.Elect ≤ a0.Beat))) z z (x_pick_f hc137 z z) (wv (.bool (decide (a0.Elect ≤ a0.Beat))) z z z ?_))))))
 refine bsplit (decide (a0.Elect ≤ a0.Beat)) (fun hc139 => ?_) (fun hc139 => ?_)
 {
 replace hm := bif_t hc139 hm
 refine wo hc139 z z z z z z (wo hc139 z z z z z z (wo hc139 z z z z z z (wv (.bool true) z z (x_pick_t hc139 z z) (wv (.bool true) z z z (wl_nil (tn ?_))))))
 refine wp_ift z ?_
 refine wp_seq (wrl (wv (.pointer none) z z z (wv (.int .i64 (1:Int)) z z z (wl_nil (tn (wp_ret (blk_r (then_r ?_))))))))
 replace hst := hst.objO_nil at_config_Plan
 obtain rfl := some_inj hm
 refine post_ret (vs := [.pointer none, I6 (1:Int)]) results12 (rvs_cons (rv_tmp z) (rvs_cons (rv_tmp z) rvs_nil)) ?_
 exact ⟨_, .pointer none, z, hI0, hst.keep1⟩
}
 {
 replace hm := bif_f hc139 hm
 refine wv (Pt b94 8) ((wanted_eq z z z (cvb hc139)).trans z) z (x_field z underlying43 z sizeOf3 z) (wv (.int .i64 a0.Elect) ((wanted_eq z z z (cvb hc139)).trans z) z (x_load z isAgg3 (hst.bc0 z)) (wv (.bool (decide (a0.Elect > (1000:Int)))) ((wanted_eq z z z (cvb hc139)).trans z) z z (wv (.bool (decide (a0.Elect > (1000:Int)))) z z (x_pick_f hc139 z z) (wv (.bool (decide (a0.Elect > (1000:Int)))) z z z (wl_nil (tn ?_))))))
 refine bsplit (decide (a0.Elect > (1000:Int))) (fun hc141 => ?_) (fun hc141 => ?_)
 {
 replace hm := bif_t hc141 hm
 refine wp_ift (cvb hc141) ?_
 refine wp_seq (wrl (wv (.pointer none) z z z (wv (.int .i64 (1:Int)) z z z (wl_nil (tn (wp_ret (blk_r (then_r ?_))))))))
 replace hst := hst.objO_nil at_config_Plan
 obtain rfl := some_inj hm
 refine post_ret (vs := [.pointer none, I6 (1:Int)]) results12 (rvs_cons (rv_tmp z) (rvs_cons (rv_tmp z) rvs_nil)) ?_
 exact ⟨_, .pointer none, z, hI0, hst.keep1⟩
}
 {
 replace hm := bif_f hc141 hm
 refine wp_iff (cvb hc141) ?_
 refine wp_skip (blk_n (tn (wp_seq (wrl ?_))))
 refine wv (Pt b94 0) z z (x_field z underlying43 z sizeOf40 z) (wv (r0_0) z z (x_load z isAgg40 (hst.bc0 z)) ?_)
 obtain ⟨t143, ht144, hm⟩ := bind_some hm
 refine wc call20 [r0_0] z z z ?_
 refine (label_New_ref (f0_0.mono ro_rd) hst.to0 ht144).mono ?_
 rintro _ w145 ⟨I146, v148, rfl, hI147, hst⟩
 refine ⟨_, z, ?_⟩
 replace hst := hst.of1
 replace f0_0 := f0_0.mono (ro_le hI147)
 replace f0_1 := f0_1.mono (ro_le hI147)
 replace hI0 := hI0.trans hI147
 refine wv (.tuple #[v148, I6 t143.2]) z z z (wv (v148) z z z (wv (.int .i64 t143.2) z z z (wv (v148) z z z (wv (.int .i64 t143.2) z z z (wl_nil (tn (wp_seq (wp_seq (wrl (wv (.int .i64 t143.2) z z z (wv (.bool (t143.2 != (0:Int))) z z z (wl_nil (tn ?_)))))))))))))
 refine bsplit (t143.2 != (0:Int)) (fun hc150 => ?_) (fun hc150 => ?_)
 {
 replace hm := bif_t hc150 hm
 refine wp_ift (cvb hc150) ?_
 refine wp_seq (wrl (wv (.int .i64 t143.2) z z z (wv (.pointer none) z z z (wv (.int .i64 t143.2) z z z (wl_nil (tn (wp_ret (then_r ?_))))))))
 replace hst := hst.objO_nil at_config_Plan
 obtain rfl := some_inj hm
 refine post_ret (vs := [.pointer none, I6 t143.2]) results12 (rvs_cons (rv_tmp z) (rvs_cons (rv_tmp z) rvs_nil)) ?_
 exact ⟨_, .pointer none, z, hI0, hst.keep1⟩
}
 {
 replace hm := bif_f hc150 hm
 refine wp_iff (cvb hc150) ?_
 refine wp_skip (tn (wp_seq (wrl ?_)))
 refine wv (.agg #[r0_0, I6 a0.Nodes, r0_1, I6 a0.Frame, I6 a0.Depth, I6 a0.Quota, I6 a0.Wide, I6 a0.Beat, I6 a0.Elect]) z z (x_loadN (cs := [r0_0, I6 a0.Nodes, r0_1, I6 a0.Frame, I6 a0.Depth, I6 a0.Quota, I6 a0.Wide, I6 a0.Beat, I6 a0.Elect]) z isAgg43 sizeOf43 (hst.bcs1 0 z)) (wv (v148) z z z (wv (.agg #[r0_0, I6 a0.Nodes, r0_1, I6 a0.Frame, I6 a0.Depth, I6 a0.Quota, I6 a0.Wide, I6 a0.Beat, I6 a0.Elect, v148]) z z (by obtain ⟨_, ha_, _⟩ := at_label_Lattice_isnil hst; rw [ha_]; obtain ⟨_, _, hv_, _⟩ := (ro_sliceV f0_1); rw [hv_]; obtain ⟨_, _, hv_, _⟩ := (ro_sliceV f0_0); rw [hv_]; kernel_rfl) ?_))
 obtain ⟨b154, w155, ew156, eb157, hst⟩ := hst.box [r0_0, I6 a0.Nodes, r0_1, I6 a0.Frame, I6 a0.Depth, I6 a0.Quota, I6 a0.Wide, I6 a0.Beat, I6 a0.Elect, v148] 63
 refine wl_run (v := Pt b154 0) (w' := w155) z z (x_al (by kernel_rfl) ew156 eb157) ?_
 refine wv (Pt b154 0) z z z (wv (.int .i64 (0:Int)) z z z (wl_nil (tn (wp_ret ?_))))
 replace hst := hst.pull1.pull1
 replace hst := at_config_Plan_close (pv := Pt b154 0) (x := ({ C := a0, L := t143.1 } : config_Plan)) hst ⟨z, f0_0, f0_1⟩
 replace hst := objO_some hst
 obtain rfl := some_inj hm
 refine post_ret (vs := [Pt b154 0, Zi]) results12 (rvs_cons (rv_tmp z) (rvs_cons (rv_tmp z) rvs_nil)) ?_
 exact ⟨_, Pt b154 0, z, hI0, hst.keep1⟩
}
}
}
}
}
}
}
}
}
}
}

theorem net_New_ref {w0 w : World} {I : HL} {R : SP} {a0 : (Option config_Plan)} {p0 : Value}  (hst : St w0 w I [objO at_config_Plan p0 a0] R) {r : (net_Net)} (hm : net_New a0 = some r) :
  Calls prog 13 #[p0] w fun e w' => ∃ (q0 : Value), e = .returned (q0) ∧ St w0 w' I [at_net_Net q0 r] R := by {
 unfold net_New at hm
 refine calls_start (args := [p0]) func13 z ntmps13 (Nat.le_of_ble_eq_true z) ?_
 refine wp_seq (wrl (wv (.pointer none) z z z (wl_nil (tn (wp_seq (wrl (wv (p0) z z z ?_)))))))
 obtain ⟨b57, w58, hr59, hst⟩ := run_mkmap (P := prog) hst 50
 refine wl_run (v := .map (some b57)) (w' := w58) z z (x_mkmap hr59) ?_
 refine wv (.agg #[p0, (.map (some b57))]) z z (by obtain ⟨_, ha_, _⟩ := at_config_Plan_isnil hst.pull1; rw [ha_]; kernel_rfl) ?_
 obtain ⟨b61, w62, ew63, eb64, hst⟩ := hst.box [p0, (.map (some b57))] 52
 refine wl_run (v := Pt b61 0) (w' := w62) z z (x_al (by kernel_rfl) ew63 eb64) ?_
 refine wv (Pt b61 0) z z z (wl_nil (tn (wp_ret ?_)))
 replace hst := hst.pull1.E_mapO (E := (tySl (tyInt .u8))) (kf := kv_net_Link)
 replace hst := hst.pull2.pull2
 replace hst := at_net_Net_close (pv := Pt b61 0) (x := ({ p := a0, m := none } : net_Net)) hst z
 obtain rfl := some_inj hm
 refine post_ret (vs := [Pt b61 0]) results13 (rvs_cons (rv_tmp z) rvs_nil) ?_
 exact ⟨.pointer (some ⟨b61, 0, none⟩), z, hst.keep1⟩
}

theorem law21_open_ref {w0 w : World} {I : HL} {R : SP}   (hst : St w0 w I [] R) {r : (Option net_Net)} (hm : law21_open = some r) :
  Calls prog 6 #[] w fun e w' => ∃ (I' : HL) (q0 : Value) (q1 : Value), e = .returned (.tuple #[q0, q1]) ∧ I.le I' ∧ St w0 w' I' [objO at_net_Net q0 r] R := by {
 unfold law21_open at hm
 refine calls_start (args := []) func6 z ntmps6 (Nat.le_of_ble_eq_true z) ?_
 have hI0 := HL.le.refl I
 refine wp_seq (wrl (wv (.pointer none) z z z (wv (.pointer none) z z z (wl_nil (tn (wp_seq (wrl ?_)))))))
 obtain ⟨t53, ht54, hm⟩ := bind_some hm
 refine wc call11 [Zb] z z z ?_
 refine (ref04_Small_ref hst.to0 ht54).mono ?_
 rintro _ w55 ⟨v58, v60, rfl, hst⟩
 refine ⟨_, z, ?_⟩
 replace hst := hst.of2
 obtain ⟨b64, w65, ew66, eb67, hst⟩ := hst.box [Zs, Zi, Zs, Zi, Zi, Zi, Zi, Zi, Zi] 43
 refine wl_run (v := Pt b64 0) (w' := w65) z z (x_al (by kernel_rfl) ew66 eb67) ?_
 obtain ⟨w69, hr70, hst⟩ := hst.bx [v58, I6 t53.Nodes, v60, I6 t53.Frame, I6 t53.Depth, I6 t53.Quota, I6 t53.Wide, I6 t53.Beat, I6 t53.Elect] sizeOf43 z (oC (one_of_sliceV hst.sv1) (oC z (oC (one_of_sliceV hst.sv2) (oC z (oC z (oC z (oC z (oC z (oC z oN))))))))) (by kernel_rfl)
 refine wl_unit z z (x_unit hr70) ?_
 refine wl_nil (tn (wp_seq (wrl (wv (Pt b64 1) z z (x_field z underlying43 z sizeOf3 z) ?_))))
 obtain ⟨w71, hr72, hst⟩ := hst.by_ [v58, I6 (3:Int), v60, I6 t53.Frame, I6 t53.Depth, I6 t53.Quota, I6 t53.Wide, I6 t53.Beat, I6 t53.Elect] 1 (.int .i64 (3:Int)) sizeOf3 z (oC z oN) (by kernel_rfl)
 refine wl_unit z z (x_unit hr72) ?_
 refine wl_nil (tn (wp_seq (wrl (wv (.agg #[v58, I6 (3:Int), v60, I6 t53.Frame, I6 t53.Depth, I6 t53.Quota, I6 t53.Wide, I6 t53.Beat, I6 t53.Elect]) z z (x_loadN (cs := [v58, I6 (3:Int), v60, I6 t53.Frame, I6 t53.Depth, I6 t53.Quota, I6 t53.Wide, I6 t53.Beat, I6 t53.Elect]) z isAgg43 sizeOf43 (hst.bcs0 0 z)) ?_))))
 replace hst := hst.pull1
 obtain ⟨I73, hI74, f75, hst⟩ := hst.own_fix
 replace hI0 := hI0.trans hI74
 replace hst := hst.pull1
 obtain ⟨I76, hI77, f78, hst⟩ := hst.own_fix
 replace f75 := f75.mono (ro_le hI77)
 replace hI0 := hI0.trans hI77
 obtain ⟨t79, ht80, hm⟩ := bind_some hm
 refine wc call12 [.agg #[v58, I6 (3:Int), v60, I6 t53.Frame, I6 t53.Depth, I6 t53.Quota, I6 t53.Wide, I6 t53.Beat, I6 t53.Elect]] z z z ?_
 refine (config_New_ref (a0 := ({ Up := t53.Up, Nodes := (3:Int), Cuts := t53.Cuts, Frame := t53.Frame, Depth := t53.Depth, Quota := t53.Quota, Wide := t53.Wide, Beat := t53.Beat, Elect := t53.Elect } : api_Config)) f75 f78 hst.to0 ht80).mono ?_
 rintro _ w81 ⟨I82, v84, rfl, hI83, hst⟩
 refine ⟨_, z, ?_⟩
 replace hst := hst.of1
 replace f75 := f75.mono (ro_le hI83)
 replace f78 := f78.mono (ro_le hI83)
 replace hI0 := hI0.trans hI83
 refine wv (.tuple #[v84, I6 t79.2]) z z z (wv (v84) z z z (wv (.int .i64 t79.2) z z z (wv (v84) z z z (wv (.int .i64 t79.2) z z z (wl_nil (tn (wp_seq (wp_seq (wrl (wv (.int .i64 t79.2) z z z (wv (.bool (t79.2 != (0:Int))) z z z (wl_nil (tn ?_)))))))))))))
 refine bsplit (t79.2 != (0:Int)) (fun hc86 => ?_) (fun hc86 => ?_)
 {
 replace hm := bif_t hc86 hm
 refine wp_ift (cvb hc86) ?_
 refine wp_seq (wrl (wv (.pointer none) z z z (wv (.pointer none) z z z (wl_nil (tn (wp_ret (then_r ?_)))))))
 replace hst := hst.objO_nil at_net_Net
 obtain rfl := some_inj hm
 refine post_ret (vs := [.pointer none, .pointer none]) results6 (rvs_cons (rv_tmp z) (rvs_cons (rv_tmp z) rvs_nil)) ?_
 exact ⟨_, .pointer none, .pointer none, z, hI0, hst.keep1⟩
}
 {
 replace hm := bif_f hc86 hm
 refine wp_iff (cvb hc86) ?_
 refine wp_skip (tn (wp_seq (wrl ?_)))
 refine wv (v84) z z z ?_
 obtain ⟨t88, ht89, hm⟩ := bind_some hm
 refine wc call13 [v84] z z z ?_
 refine (net_New_ref hst.to1 ht89).mono ?_
 rintro _ w90 ⟨v93, rfl, hst⟩
 refine ⟨_, z, ?_⟩
 replace hst := hst.of1
 refine wv (v84) z z z (wv (v93) z z z (wv (v84) z z z (wl_nil (tn (wp_ret ?_)))))
 replace hst := objO_some hst
 obtain rfl := some_inj hm
 refine post_ret (vs := [v93, v84]) results6 (rvs_cons (rv_tmp z) (rvs_cons (rv_tmp z) rvs_nil)) ?_
 exact ⟨_, v93, v84, z, hI0, hst.keep1⟩
}
}

theorem config_Plan_Node_ref {w0 w : World} {I : HL} {R : SP} {a0 : (Option config_Plan)} {p0 : Value} {a1 : Int}  (hst : St w0 w I [objO at_config_Plan p0 a0] R) {r : (Bool)} (hm : config_Plan_Node a0 a1 = some r) :
  Calls prog 21 #[p0, I6 a1] w fun e w' => e = .returned (.bool r) ∧ St w0 w' I [objO at_config_Plan p0 a0] R := by {
 rcases a0 with _ | o0
 {
 obtain ⟨rfl, hst'⟩ := objO_none hst
 clear hst
 have hst := hst'
 clear hst'
 dsimp only [config_Plan_Node] at hm
 refine calls_start (args := [.pointer none, I6 a1]) func21 z ntmps21 (Nat.le_of_ble_eq_true z) ?_
 refine wp_seq (wrl (wv (.bool false) z z z (wl_nil (tn (wp_seq (wrl (wv (.pointer none) z z z (wv (.bool false) z z (by kernel_rfl) (wv (.bool false) z z z (wz z z z z z z (wz z z z z z z (wv (.bool false) z z (x_pick_f z z z) (wv (.bool false) z z z (wz z z z z z z (wz z z z z z z (wz z z z z z z ?_))))))))))))))))
 refine wz z z z z z z (wz z z z z z z (wz z z z z z z (wz z z z z z z (wv (.bool false) z z (x_pick_f z z z) (wv (.bool false) z z z (wl_nil (tn (wp_ret ?_))))))))
 replace hst := hst.objO_nil at_config_Plan
 obtain rfl := some_inj hm
 refine post_ret (vs := [.bool false]) results21 (rvs_cons (rv_tmp z) rvs_nil) ?_
 exact ⟨z, hst.keep1⟩
}
 {
 replace hst := objO_get hst
 dsimp only [config_Plan_Node] at hm
 refine calls_start (args := [p0, I6 a1]) func21 z ntmps21 (Nat.le_of_ble_eq_true z) ?_
 refine wp_seq (wrl (wv (.bool false) z z z (wl_nil (tn (wp_seq (wrl (wv (p0) z z z ?_)))))))
 obtain ⟨b63, v64, v67, v70, ⟨rfl, f66, f69⟩, hst'⟩ := at_config_Plan_open hst
 clear hst
 have hst := hst'
 clear hst'
 refine wv (.bool true) z z (by kernel_rfl) (wv (.bool true) z z z (wv (.int .i64 a1) ((wanted_eq z z z z).trans z) z z (wv (.bool (decide (a1 ≥ (0:Int)))) ((wanted_eq z z z z).trans z) z z (wv (.bool (decide (a1 ≥ (0:Int)))) z z (x_pick_t z z z) (wv (.bool (decide (a1 ≥ (0:Int)))) z z z ?_)))))
 refine bsplit (decide (a1 ≥ (0:Int))) (fun hc72 => ?_) (fun hc72 => ?_)
 {
 replace hm := bif_t hc72 hm
 refine wv (.int .i64 a1) ((wanted_eq z z z (cvb hc72)).trans z) z z (wv (Pt b63 0) ((wanted_eq z z z (cvb hc72)).trans z) z z (wv (Pt b63 0) ((wanted_eq z z z (cvb hc72)).trans z) z z (wv (Pt b63 0) ((wanted_eq z z z (cvb hc72)).trans z) z (x_field z underlying63 z sizeOf43 z) (wv (Pt b63 1) ((wanted_eq z z z (cvb hc72)).trans z) z (x_field z underlying43 z sizeOf3 z) (wv (.int .i64 o0.C.Nodes) ((wanted_eq z z z (cvb hc72)).trans z) z (x_load z isAgg3 (hst.bc0 z)) (wv (.bool (decide (a1 < o0.C.Nodes))) ((wanted_eq z z z (cvb hc72)).trans z) z z (wv (.bool (decide (a1 < o0.C.Nodes))) z z (x_pick_t hc72 z z) (wv (.bool (decide (a1 < o0.C.Nodes))) z z z (wl_nil (tn (wp_ret ?_)))))))))))
 replace hst := hst.pull1.pull1
 replace hst := at_config_Plan_close (pv := Pt b63 0) (x := o0) hst ⟨z, f66, f69⟩
 replace hst := objO_some hst
 obtain rfl := some_inj hm
 refine post_ret (vs := [.bool (decide (a1 < o0.C.Nodes))]) results21 (rvs_cons (rv_tmp z) rvs_nil) ?_
 exact ⟨z, hst.keep1⟩
}
 {
 replace hm := bif_f hc72 hm
 refine wo hc72 z z z z z z (wo hc72 z z z z z z (wo hc72 z z z z z z (wo hc72 z z z z z z (wo hc72 z z z z z z (wo hc72 z z z z z z (wo hc72 z z z z z z (wv (.bool false) z z (x_pick_f hc72 z z) (wv (.bool false) z z z (wl_nil (tn (wp_ret ?_)))))))))))
 replace hst := hst.pull1.pull1
 replace hst := at_config_Plan_close (pv := Pt b63 0) (x := o0) hst ⟨z, f66, f69⟩
 replace hst := objO_some hst
 obtain rfl := some_inj hm
 refine post_ret (vs := [.bool false]) results21 (rvs_cons (rv_tmp z) rvs_nil) ?_
 exact ⟨z, hst.keep1⟩
}
}
}

theorem label_Lattice_Len_ref {w0 w : World} {I : HL} {R : SP} {a0 : (Option label_Lattice)} {p0 : Value}  (hst : St w0 w I [objO at_label_Lattice p0 a0] R) {r : (Int)} (hm : label_Lattice_Len a0 = some r) :
  Calls prog 43 #[p0] w fun e w' => e = .returned (.int .i64 r) ∧ St w0 w' I [objO at_label_Lattice p0 a0] R := by {
 rcases a0 with _ | o0
 {
 obtain ⟨rfl, hst'⟩ := objO_none hst
 clear hst
 have hst := hst'
 clear hst'
 dsimp only [label_Lattice_Len] at hm
 refine calls_start (args := [.pointer none]) func43 z ntmps43 (Nat.le_of_ble_eq_true z) ?_
 refine wp_seq (wrl (wv (.int .i64 (0:Int)) z z z (wl_nil (tn (wp_seq (wp_seq (wrl (wv (.pointer none) z z z (wv (.bool true) z z (by kernel_rfl) (wl_nil (tn ?_)))))))))))
 refine wp_ift z ?_
 refine wp_seq (wrl (wv (.int .i64 (0:Int)) z z z (wl_nil (tn (wp_ret (then_r ?_))))))
 replace hst := hst.objO_nil at_label_Lattice
 obtain rfl := some_inj hm
 refine post_ret (vs := [Zi]) results43 (rvs_cons (rv_tmp z) rvs_nil) ?_
 exact ⟨z, hst.keep1⟩
}
 {
 replace hst := objO_get hst
 dsimp only [label_Lattice_Len] at hm
 refine calls_start (args := [p0]) func43 z ntmps43 (Nat.le_of_ble_eq_true z) ?_
 refine wp_seq (wrl (wv (.int .i64 (0:Int)) z z z (wl_nil (tn (wp_seq (wp_seq (wrl (wv (p0) z z z ?_))))))))
 obtain ⟨b88, v89, v91, v93, v95, v97, v99, rfl, hst'⟩ := at_label_Lattice_open hst
 clear hst
 have hst := hst'
 clear hst'
 refine wv (.bool false) z z (by kernel_rfl) (wl_nil (tn ?_))
 refine wp_iff z ?_
 refine wp_skip (tn (wp_seq (wrl ?_)))
 refine wv (Pt b88 0) z z z (wv (Pt b88 0) z z z (wv (Pt b88 0) z z (x_field z underlying72 z sizeOf40 z) (wv (v89) z z (x_load z isAgg40 (hst.bc0 z)) (wv (.int .i64 ((o0.up).length : Int)) z z (x_len z underlying40 hst.sv1) (wv (.int .i64 ((o0.up).length : Int)) z z z (wl_nil (tn (wp_ret ?_))))))))
 replace hst := hst.pull6.pull6.pull6.pull6.pull6.pull6.pull6
 replace hst := at_label_Lattice_close (pv := Pt b88 0) (x := o0) hst z
 replace hst := objO_some hst
 obtain rfl := some_inj hm
 refine post_ret (vs := [I6 ((o0.up).length : Int)]) results43 (rvs_cons (rv_tmp z) rvs_nil) ?_
 exact ⟨z, hst.keep1⟩
}
}

theorem config_Plan_L0_ref {w0 w : World} {I : HL} {R : SP} {a0 : (Option config_Plan)} {p0 : Value}  (hst : St w0 w I [objO at_config_Plan p0 a0] R) {r : (Int)} (hm : config_Plan_L0 a0 = some r) :
  Calls prog 38 #[p0] w fun e w' => e = .returned (.int .i64 r) ∧ St w0 w' I [objO at_config_Plan p0 a0] R := by {
 rcases a0 with _ | o0
 {
 obtain ⟨rfl, hst'⟩ := objO_none hst
 clear hst
 have hst := hst'
 clear hst'
 dsimp only [config_Plan_L0] at hm
 refine calls_start (args := [.pointer none]) func38 z ntmps38 (Nat.le_of_ble_eq_true z) ?_
 refine wp_seq (wrl (wv (.int .i64 (0:Int)) z z z (wl_nil (tn (wp_seq (wp_seq (wrl (wv (.pointer none) z z z (wv (.bool true) z z (by kernel_rfl) (wl_nil (tn ?_)))))))))))
 refine wp_ift z ?_
 refine wp_seq (wrl (wv (.int .i64 (0:Int)) z z z (wl_nil (tn (wp_ret (then_r ?_))))))
 replace hst := hst.objO_nil at_config_Plan
 obtain rfl := some_inj hm
 refine post_ret (vs := [Zi]) results38 (rvs_cons (rv_tmp z) rvs_nil) ?_
 exact ⟨z, hst.keep1⟩
}
 {
 replace hst := objO_get hst
 dsimp only [config_Plan_L0] at hm
 refine calls_start (args := [p0]) func38 z ntmps38 (Nat.le_of_ble_eq_true z) ?_
 refine wp_seq (wrl (wv (.int .i64 (0:Int)) z z z (wl_nil (tn (wp_seq (wp_seq (wrl (wv (p0) z z z ?_))))))))
 obtain ⟨b79, v80, v83, v86, ⟨rfl, f82, f85⟩, hst'⟩ := at_config_Plan_open hst
 clear hst
 have hst := hst'
 clear hst'
 refine wv (.bool false) z z (by kernel_rfl) (wl_nil (tn ?_))
 refine wp_iff z ?_
 refine wp_skip (tn (wp_seq (wrl ?_)))
 refine wv (Pt b79 0) z z z (wv (Pt b79 0) z z z (wv (Pt b79 9) z z (x_field z underlying63 z sizeOf59 z) (wv (v86) z z (x_load z isAgg59 (hst.bc0 z)) ?_)))
 replace hst := hst.pull1
 obtain ⟨t88, ht89, hm⟩ := bind_some hm
 refine wc call43 [v86] z z z ?_
 refine (label_Lattice_Len_ref hst.to1 ht89).mono ?_
 rintro _ w90 ⟨rfl, hst⟩
 refine ⟨_, z, ?_⟩
 replace hst := hst.of1
 refine wv (.int .i64 t88) z z z (wl_nil (tn (wp_ret ?_)))
 replace hst := hst.pull1
 replace hst := at_config_Plan_close (pv := Pt b79 0) (x := o0) hst ⟨z, f82, f85⟩
 replace hst := objO_some hst
 obtain rfl := some_inj hm
 refine post_ret (vs := [I6 t88]) results38 (rvs_cons (rv_tmp z) rvs_nil) ?_
 exact ⟨z, hst.keep1⟩
}
}

theorem config_Plan_Shards_ref {w0 w : World} {I : HL} {R : SP} {a0 : (Option config_Plan)} {p0 : Value}  (hst : St w0 w I [objO at_config_Plan p0 a0] R) {r : (Int)} (hm : config_Plan_Shards a0 = some r) :
  Calls prog 34 #[p0] w fun e w' => e = .returned (.int .i64 r) ∧ St w0 w' I [objO at_config_Plan p0 a0] R := by {
 rcases a0 with _ | o0
 {
 obtain ⟨rfl, hst'⟩ := objO_none hst
 clear hst
 have hst := hst'
 clear hst'
 dsimp only [config_Plan_Shards] at hm
 refine calls_start (args := [.pointer none]) func34 z ntmps34 (Nat.le_of_ble_eq_true z) ?_
 refine wp_seq (wrl (wv (.int .i64 (0:Int)) z z z (wl_nil (tn (wp_seq (wp_seq (wrl (wv (.pointer none) z z z (wv (.bool true) z z (by kernel_rfl) (wl_nil (tn ?_)))))))))))
 refine wp_ift z ?_
 refine wp_seq (wrl (wv (.int .i64 (0:Int)) z z z (wl_nil (tn (wp_ret (then_r ?_))))))
 replace hst := hst.objO_nil at_config_Plan
 obtain rfl := some_inj hm
 refine post_ret (vs := [Zi]) results34 (rvs_cons (rv_tmp z) rvs_nil) ?_
 exact ⟨z, hst.keep1⟩
}
 {
 replace hst := objO_get hst
 dsimp only [config_Plan_Shards] at hm
 refine calls_start (args := [p0]) func34 z ntmps34 (Nat.le_of_ble_eq_true z) ?_
 refine wp_seq (wrl (wv (.int .i64 (0:Int)) z z z (wl_nil (tn (wp_seq (wp_seq (wrl (wv (p0) z z z ?_))))))))
 obtain ⟨b79, v80, v83, v86, ⟨rfl, f82, f85⟩, hst'⟩ := at_config_Plan_open hst
 clear hst
 have hst := hst'
 clear hst'
 refine wv (.bool false) z z (by kernel_rfl) (wl_nil (tn ?_))
 refine wp_iff z ?_
 refine wp_skip (tn (wp_seq (wrl ?_)))
 refine wv (Pt b79 0) z z z (wv (Pt b79 0) z z z (wv (Pt b79 0) z z (x_field z underlying63 z sizeOf43 z) (wv (Pt b79 2) z z (x_field z underlying43 z sizeOf41 z) (wv (v83) z z (x_load z isAgg41 (hst.bc0 z)) (wv (.int .i64 ((o0.C.Cuts).length : Int)) z z (x_len z underlying41 (ro_sliceV f85)) (wv (.int .i64 (i64.wrap (((o0.C.Cuts).length : Int) + (1:Int)))) z z z (wv (.int .i64 (i64.wrap (((o0.C.Cuts).length : Int) + (1:Int)))) z z z (wl_nil (tn (wp_ret ?_))))))))))
 replace hst := hst.pull1.pull1
 replace hst := at_config_Plan_close (pv := Pt b79 0) (x := o0) hst ⟨z, f82, f85⟩
 replace hst := objO_some hst
 obtain rfl := some_inj hm
 refine post_ret (vs := [I6 (i64.wrap (((o0.C.Cuts).length : Int) + (1:Int)))]) results34 (rvs_cons (rv_tmp z) rvs_nil) ?_
 exact ⟨z, hst.keep1⟩
}
}

theorem config_Plan_Lanes_ref {w0 w : World} {I : HL} {R : SP} {a0 : (Option config_Plan)} {p0 : Value}  (hst : St w0 w I [objO at_config_Plan p0 a0] R) {r : (Int)} (hm : config_Plan_Lanes a0 = some r) :
  Calls prog 31 #[p0] w fun e w' => e = .returned (.int .i64 r) ∧ St w0 w' I [objO at_config_Plan p0 a0] R := by {
 unfold config_Plan_Lanes at hm
 refine calls_start (args := [p0]) func31 z ntmps31 (Nat.le_of_ble_eq_true z) ?_
 refine wp_seq (wrl (wv (.int .i64 (0:Int)) z z z (wl_nil (tn (wp_seq (wrl (wv (p0) z z z ?_)))))))
 obtain ⟨t74, ht75, hm⟩ := bind_some hm
 refine wc call38 [p0] z z z ?_
 refine (config_Plan_L0_ref hst.to1 ht75).mono ?_
 rintro _ w76 ⟨rfl, hst⟩
 refine ⟨_, z, ?_⟩
 replace hst := hst.of1
 refine wv (p0) z z z ?_
 obtain ⟨t79, ht80, hm⟩ := bind_some hm
 refine wc call34 [p0] z z z ?_
 refine (config_Plan_Shards_ref hst.to1 ht80).mono ?_
 rintro _ w81 ⟨rfl, hst⟩
 refine ⟨_, z, ?_⟩
 replace hst := hst.of1
 refine wv (.int .i64 (i64.wrap (t74 * t79))) z z z (wv (.int .i64 (i64.wrap ((i64.wrap (t74 * t79)) + (1:Int)))) z z z (wv (.int .i64 (i64.wrap ((i64.wrap (t74 * t79)) + (1:Int)))) z z z (wl_nil (tn (wp_ret ?_)))))
 obtain rfl := some_inj hm
 refine post_ret (vs := [I6 (i64.wrap ((i64.wrap (t74 * t79)) + (1:Int)))]) results31 (rvs_cons (rv_tmp z) rvs_nil) ?_
 exact ⟨z, hst.keep1⟩
}

theorem config_Plan_Rules_ref {w0 w : World} {I : HL} {R : SP} {a0 : (Option config_Plan)} {p0 : Value}  (hst : St w0 w I [objO at_config_Plan p0 a0] R) {r : (Int)} (hm : config_Plan_Rules a0 = some r) :
  Calls prog 32 #[p0] w fun e w' => e = .returned (.int .i64 r) ∧ St w0 w' I [objO at_config_Plan p0 a0] R := by {
 unfold config_Plan_Rules at hm
 refine calls_start (args := [p0]) func32 z ntmps32 (Nat.le_of_ble_eq_true z) ?_
 refine wp_seq (wrl (wv (.int .i64 (0:Int)) z z z (wl_nil (tn (wp_seq (wrl (wv (p0) z z z ?_)))))))
 obtain ⟨t75, ht76, hm⟩ := bind_some hm
 refine wc call31 [p0] z z z ?_
 refine (config_Plan_Lanes_ref hst.to1 ht76).mono ?_
 rintro _ w77 ⟨rfl, hst⟩
 refine ⟨_, z, ?_⟩
 replace hst := hst.of1
 refine wv (.int .i64 (i64.wrap (t75 - (1:Int)))) z z z (wv (.int .i64 (i64.wrap (t75 - (1:Int)))) z z z (wl_nil (tn (wp_ret ?_))))
 obtain rfl := some_inj hm
 refine post_ret (vs := [I6 (i64.wrap (t75 - (1:Int)))]) results32 (rvs_cons (rv_tmp z) rvs_nil) ?_
 exact ⟨z, hst.keep1⟩
}

theorem label_Lattice_Bottom_ref {w0 w : World} {I : HL} {R : SP} {a0 : (Option label_Lattice)} {p0 : Value}  (hst : St w0 w I [objO at_label_Lattice p0 a0] R) {r : (Int)} (hm : label_Lattice_Bottom a0 = some r) :
  Calls prog 33 #[p0] w fun e w' => e = .returned (.int .i64 r) ∧ St w0 w' I [objO at_label_Lattice p0 a0] R := by {
 rcases a0 with _ | o0
 {
 obtain ⟨rfl, hst'⟩ := objO_none hst
 clear hst
 have hst := hst'
 clear hst'
 dsimp only [label_Lattice_Bottom] at hm
 refine calls_start (args := [.pointer none]) func33 z ntmps33 (Nat.le_of_ble_eq_true z) ?_
 refine wp_seq (wrl (wv (.int .i64 (0:Int)) z z z (wl_nil (tn (wp_seq (wp_seq (wrl (wv (.pointer none) z z z (wv (.bool true) z z (by kernel_rfl) (wl_nil (tn ?_)))))))))))
 refine wp_ift z ?_
 refine wp_seq (wrl (wv (.int .i64 ((-1):Int)) z z z (wl_nil (tn (wp_ret (then_r ?_))))))
 replace hst := hst.objO_nil at_label_Lattice
 obtain rfl := some_inj hm
 refine post_ret (vs := [I6 ((-1):Int)]) results33 (rvs_cons (rv_tmp z) rvs_nil) ?_
 exact ⟨z, hst.keep1⟩
}
 {
 replace hst := objO_get hst
 dsimp only [label_Lattice_Bottom] at hm
 refine calls_start (args := [p0]) func33 z ntmps33 (Nat.le_of_ble_eq_true z) ?_
 refine wp_seq (wrl (wv (.int .i64 (0:Int)) z z z (wl_nil (tn (wp_seq (wp_seq (wrl (wv (p0) z z z ?_))))))))
 obtain ⟨b104, v105, v107, v109, v111, v113, v115, rfl, hst'⟩ := at_label_Lattice_open hst
 clear hst
 have hst := hst'
 clear hst'
 refine wv (.bool false) z z (by kernel_rfl) (wl_nil (tn ?_))
 refine wp_iff z ?_
 refine wp_skip (tn (wp_seq (wrl ?_)))
 refine wv (Pt b104 0) z z z (wv (Pt b104 0) z z z (wv (Pt b104 5) z z (x_field z underlying72 z sizeOf69 z) (wv (v115) z z (x_load z isAgg69 (hst.bc0 z)) ?_)))
 obtain ⟨x117, hx118, hm⟩ := bind_some hm
 obtain ⟨h119, h120, hi121⟩ := geto_some hx118
 refine wv (.pointer (some (eAddr v115 ((0:Int).toNat * 1 + 0)))) z z (x_index z z underlying69 sizeOf3 hst.sv6 h119 h120) (wv (.int .i64 x117) z z (x_load z isAgg3 (hst.ol6 hi121 (by rintro _ rfl; rfl))) (wv (.int .i64 x117) z z z (wl_nil (tn (wp_ret ?_)))))
 replace hst := hst.pull6.pull6.pull6.pull6.pull6.pull6.pull6
 replace hst := at_label_Lattice_close (pv := Pt b104 0) (x := o0) hst z
 replace hst := objO_some hst
 obtain rfl := some_inj hm
 refine post_ret (vs := [I6 x117]) results33 (rvs_cons (rv_tmp z) rvs_nil) ?_
 exact ⟨z, hst.keep1⟩
}
}

theorem config_Plan_Label_ref {w0 w : World} {I : HL} {R : SP} {a0 : (Option config_Plan)} {p0 : Value} {a1 : Int}  (hst : St w0 w I [objO at_config_Plan p0 a0] R) {r : (Int)} (hm : config_Plan_Label a0 a1 = some r) :
  Calls prog 22 #[p0, I6 a1] w fun e w' => e = .returned (.int .i64 r) ∧ St w0 w' I [objO at_config_Plan p0 a0] R := by {
 rcases a0 with _ | o0
 {
 obtain ⟨rfl, hst'⟩ := objO_none hst
 clear hst
 have hst := hst'
 clear hst'
 dsimp only [config_Plan_Label] at hm
 refine calls_start (args := [.pointer none, I6 a1]) func22 z ntmps22 (Nat.le_of_ble_eq_true z) ?_
 refine wp_seq (wrl (wv (.int .i64 (0:Int)) z z z (wl_nil (tn (wp_seq (wp_block (wp_seq (wrl (wv (.pointer none) z z z (wv (.bool true) z z (by kernel_rfl) (wv (.bool true) z z z (wz z z z z z z (wz z z z z z z (wv (.bool true) z z (x_pick_t z z z) (wv (.bool true) z z z (wz z z z z z z (wz z z z z z z (wz z z z z z z ?_))))))))))))))))))
 refine wz z z z z z z (wv (.bool true) z z (x_pick_t z z z) (wv (.bool true) z z z (wl_nil (tn ?_))))
 refine wp_ift z ?_
 refine wp_seq (wrl (wv (.int .i64 ((-1):Int)) z z z (wl_nil (tn (wp_ret (blk_r (then_r ?_)))))))
 replace hst := hst.objO_nil at_config_Plan
 obtain rfl := some_inj hm
 refine post_ret (vs := [I6 ((-1):Int)]) results22 (rvs_cons (rv_tmp z) rvs_nil) ?_
 exact ⟨z, hst.keep1⟩
}
 {
 replace hst := objO_get hst
 dsimp only [config_Plan_Label] at hm
 refine calls_start (args := [p0, I6 a1]) func22 z ntmps22 (Nat.le_of_ble_eq_true z) ?_
 refine wp_seq (wrl (wv (.int .i64 (0:Int)) z z z (wl_nil (tn (wp_seq (wp_block (wp_seq (wrl (wv (p0) z z z ?_)))))))))
 obtain ⟨b96, v97, v100, v103, ⟨rfl, f99, f102⟩, hst'⟩ := at_config_Plan_open hst
 clear hst
 have hst := hst'
 clear hst'
 refine wv (.bool false) z z (by kernel_rfl) (wv (.bool false) z z z (wv (.int .i64 a1) ((wanted_eq z z z z).trans z) z z (wv (.bool (decide (a1 < (0:Int)))) ((wanted_eq z z z z).trans z) z z (wv (.bool (decide (a1 < (0:Int)))) z z (x_pick_f z z z) (wv (.bool (decide (a1 < (0:Int)))) z z z ?_)))))
 refine bsplit (decide (a1 < (0:Int))) (fun hc105 => ?_) (fun hc105 => ?_)
 {
 replace hm := bif_t hc105 hm
 refine wo hc105 z z z z z z (wo hc105 z z z z z z (wo hc105 z z z z z z (wo hc105 z z z z z z (wv (.bool true) z z (x_pick_t hc105 z z) (wv (.bool true) z z z (wl_nil (tn ?_)))))))
 refine wp_ift z ?_
 refine wp_seq (wrl (wv (.int .i64 ((-1):Int)) z z z (wl_nil (tn (wp_ret (blk_r (then_r ?_)))))))
 replace hst := hst.pull1.pull1
 replace hst := at_config_Plan_close (pv := Pt b96 0) (x := o0) hst ⟨z, f99, f102⟩
 replace hst := objO_some hst
 obtain rfl := some_inj hm
 refine post_ret (vs := [I6 ((-1):Int)]) results22 (rvs_cons (rv_tmp z) rvs_nil) ?_
 exact ⟨z, hst.keep1⟩
}
 {
 replace hm := bif_f hc105 hm
 refine wv (.int .i64 a1) ((wanted_eq z z z (cvb hc105)).trans z) z z (wv (Pt b96 0) ((wanted_eq z z z (cvb hc105)).trans z) z z ?_)
 replace hst := hst.pull1.pull1
 replace hst := at_config_Plan_close (pv := Pt b96 0) (x := o0) hst ⟨z, f99, f102⟩
 replace hst := objO_some hst
 obtain ⟨t106, ht107, hm⟩ := bind_some hm
 refine wl_call ((wanted_eq z z z (cvb hc105)).trans z) z (x_call call31 z (vs := [Pt b96 0]) z) ?_
 refine (config_Plan_Lanes_ref hst.to1 ht107).mono ?_
 rintro _ w108 ⟨rfl, hst⟩
 refine ⟨_, z, ?_⟩
 replace hst := hst.of1
 replace hst := objO_get hst
 refine wv (.bool (decide (a1 ≥ t106))) ((wanted_eq z z z (cvb hc105)).trans z) z z (wv (.bool (decide (a1 ≥ t106))) z z (x_pick_f hc105 z z) (wv (.bool (decide (a1 ≥ t106))) z z z (wl_nil (tn ?_))))
 refine bsplit (decide (a1 ≥ t106)) (fun hc111 => ?_) (fun hc111 => ?_)
 {
 replace hm := bif_t hc111 hm
 refine wp_ift (cvb hc111) ?_
 refine wp_seq (wrl (wv (.int .i64 ((-1):Int)) z z z (wl_nil (tn (wp_ret (blk_r (then_r ?_)))))))
 replace hst := objO_some hst
 obtain rfl := some_inj hm
 refine post_ret (vs := [I6 ((-1):Int)]) results22 (rvs_cons (rv_tmp z) rvs_nil) ?_
 exact ⟨z, hst.keep1⟩
}
 {
 replace hm := bif_f hc111 hm
 refine wp_iff (cvb hc111) ?_
 refine wp_seq (wrl (wv (.int .i64 a1) z z z (wv (Pt b96 0) z z z ?_)))
 replace hst := objO_some hst
 obtain ⟨t112, ht113, hm⟩ := bind_some hm
 refine wc call32 [Pt b96 0] z z z ?_
 refine (config_Plan_Rules_ref hst.to1 ht113).mono ?_
 rintro _ w114 ⟨rfl, hst⟩
 refine ⟨_, z, ?_⟩
 replace hst := hst.of1
 replace hst := objO_get hst
 refine wv (.bool (a1 == t112)) z z z (wv (.bool (a1 == t112)) z z z (wl_nil (tn ?_)))
 refine bsplit (a1 == t112) (fun hc117 => ?_) (fun hc117 => ?_)
 {
 replace hm := bif_t hc117 hm
 refine wp_ift (cvb hc117) ?_
 refine wp_seq (wrl (wv (Pt b96 0) z z z ?_))
 obtain ⟨b118, v119, v122, v125, ⟨e127, f121, f124⟩, hst'⟩ := at_config_Plan_open hst
 clear hst
 have e127 := ptr_inj e127
 subst e127
 have hst := hst'
 clear hst'
 refine wv (Pt b96 0) z z z (wv (Pt b96 9) z z (x_field z underlying63 z sizeOf59 z) (wv (v125) z z (x_load z isAgg59 (hst.bc0 z)) ?_))
 replace hst := hst.pull1
 obtain ⟨t128, ht129, hm⟩ := bind_some hm
 refine wc call33 [v125] z z z ?_
 refine (label_Lattice_Bottom_ref hst.to1 ht129).mono ?_
 rintro _ w130 ⟨rfl, hst⟩
 refine ⟨_, z, ?_⟩
 replace hst := hst.of1
 refine wv (.int .i64 t128) z z z (wl_nil (tn (wp_ret (blk_r (then_r ?_)))))
 replace hst := hst.pull1
 replace hst := at_config_Plan_close (pv := Pt b96 0) (x := o0) hst ⟨z, f121, f124⟩
 replace hst := objO_some hst
 obtain rfl := some_inj hm
 refine post_ret (vs := [I6 t128]) results22 (rvs_cons (rv_tmp z) rvs_nil) ?_
 exact ⟨z, hst.keep1⟩
}
 {
 replace hm := bif_f hc117 hm
 refine wp_iff (cvb hc117) ?_
 refine wp_skip (blk_n (tn (wp_seq (wrl ?_))))
 refine wv (.int .i64 a1) z z z (wv (Pt b96 0) z z z ?_)
 replace hst := objO_some hst
 obtain ⟨t133, ht134, hm⟩ := bind_some hm
 refine wc call34 [Pt b96 0] z z z ?_
 refine (config_Plan_Shards_ref hst.to1 ht134).mono ?_
 rintro _ w135 ⟨rfl, hst⟩
 refine ⟨_, z, ?_⟩
 replace hst := hst.of1
 replace hst := objO_get hst
 obtain ⟨hg138, hm⟩ := gd_some hm
 refine wv (.int .i64 (i64.wrap (Int.tdiv a1 t133))) z z (x_quo (not_t hg138) z z) (wv (.int .i64 (i64.wrap (Int.tdiv a1 t133))) z z z (wl_nil (tn (wp_ret ?_))))
 replace hst := objO_some hst
 obtain rfl := some_inj hm
 refine post_ret (vs := [I6 (i64.wrap (Int.tdiv a1 t133))]) results22 (rvs_cons (rv_tmp z) rvs_nil) ?_
 exact ⟨z, hst.keep1⟩
}
}
}
}
}

theorem net_Net_is_ref {w0 w : World} {I : HL} {R : SP} {a0 : (Option net_Net)} {p0 : Value} {a1 : net_Link}  (hst : St w0 w I [objO at_net_Net p0 a0] R) {r : (Bool)} (hm : net_Net_is a0 a1 = some r) :
  Calls prog 14 #[p0, .agg #[I6 a1.From, I6 a1.To, I6 a1.Lane]] w fun e w' => e = .returned (.bool r) ∧ St w0 w' I [objO at_net_Net p0 a0] R := by {
 rcases a0 with _ | o0
 {
 obtain ⟨rfl, hst'⟩ := objO_none hst
 clear hst
 have hst := hst'
 clear hst'
 dsimp only [net_Net_is] at hm
 refine calls_start (args := [.pointer none, .agg #[I6 a1.From, I6 a1.To, I6 a1.Lane]]) func14 z ntmps14 (Nat.le_of_ble_eq_true z) ?_
 refine wp_seq (wrl ?_)
 obtain ⟨b80, w81, ew82, eb83, hst⟩ := hst.box [I6 a1.From, I6 a1.To, I6 a1.Lane] 23
 refine wl_run (v := Pt b80 0) (w' := w81) z z (x_al (by kernel_rfl) ew82 eb83) ?_
 refine wv (.bool false) z z z (wl_nil (tn (wp_seq ?_)))
 refine wp_region_St hst 38 [0, 1, 2, 3, 4, 5, 6, 7, 8, 9, 10, 11, 12, 13, 14, 15, 16, 17, 18, 19, 20, 21, 22, 23, 24, 25, 26, 27, 28, 29, 30, 31, 32, 33, 34, 35, 36, 37] [0, 1, 3, 7, 15, 31, 63, 7, 135, 511, 1023, 2047, 4095, 8191, 16383, 32767, 4095, 69631, 262143, 524287, 1048575, 2097151, 4194303, 2097151, 10485759, 33554431, 67108863, 134217727, 268435455, 536870911, 1073741823, 2147483647, 268435455, 4563402751, 17179869183, 34359738367, 68719476735, 137438953471] [] z (by kernel_rfl) (by kernel_rfl) Try.mixed (by kernel_rfl) ?_
 refine wsr (.pointer none) 0 z z z (by kernel_rfl) (fun w hst => z) (wsr (.bool false) 1 z z z (by kernel_rfl) (fun w hst => by kernel_rfl) (wsr (.bool false) 2 z z z (by kernel_rfl) (fun w hst => z) (ws_q (v := undef) 3 [4, 5, 6, 7, 8, 9, 10, 11, 12, 13, 14, 15, 16, 17, 18, 19, 20, 21, 22, 23, 24, 25, 26, 27, 28, 29, 30, 31, 32, 33, 34, 35, 36, 37] (by kernel_rfl) z z (yi_off ((wanted_eq z z z z).trans z)) (ws_q (v := undef) 4 [5, 6, 7, 8, 9, 10, 11, 12, 13, 14, 15, 16, 17, 18, 19, 20, 21, 22, 23, 24, 25, 26, 27, 28, 29, 30, 31, 32, 33, 34, 35, 36, 37] (by kernel_rfl) z z (yi_off ((wanted_eq z z z z).trans z)) (ws_q (v := undef) 5 [6, 7, 8, 9, 10, 11, 12, 13, 14, 15, 16, 17, 18, 19, 20, 21, 22, 23, 24, 25, 26, 27, 28, 29, 30, 31, 32, 33, 34, 35, 36, 37] (by kernel_rfl) z z (yi_off ((wanted_eq z z z z).trans z)) (ws_q (v := undef) 6 [7, 8, 9, 10, 11, 12, 13, 14, 15, 16, 17, 18, 19, 20, 21, 22, 23, 24, 25, 26, 27, 28, 29, 30, 31, 32, 33, 34, 35, 36, 37] (by kernel_rfl) z z (yi_off ((wanted_eq z z z z).trans z)) (ws_q (v := undef) 7 [8, 9, 10, 11, 12, 13, 14, 15, 16, 17, 18, 19, 20, 21, 22, 23, 24, 25, 26, 27, 28, 29, 30, 31, 32, 33, 34, 35, 36, 37] (by kernel_rfl) z z (yi_off ((wanted_eq z z z z).trans z)) (ws_q (v := undef) 8 [9, 10, 11, 12, 13, 14, 15, 16, 17, 18, 19, 20, 21, 22, 23, 24, 25, 26, 27, 28, 29, 30, 31, 32, 33, 34, 35, 36, 37] (by kernel_rfl) z z (yi_off ((wanted_eq z z z z).trans z)) (ws_q (v := undef) 9 [10, 11, 12, 13, 14, 15, 16, 17, 18, 19, 20, 21, 22, 23, 24, 25, 26, 27, 28, 29, 30, 31, 32, 33, 34, 35, 36, 37] (by kernel_rfl) z z (yi_off ((wanted_eq z z z z).trans z)) (wsr (.bool false) 10 z z z (by kernel_rfl) (fun w hst => x_pick_f z z z) (wsr (.bool false) 11 z z z (by kernel_rfl) (fun w hst => z) (ws_q (v := undef) 12 [13, 14, 15, 16, 17, 18, 19, 20, 21, 22, 23, 24, 25, 26, 27, 28, 29, 30, 31, 32, 33, 34, 35, 36, 37] (by kernel_rfl) z z (yi_off ((wanted_eq z z z z).trans z)) ?_))))))))))))
 refine ws_q (v := undef) 13 [14, 15, 16, 17, 18, 19, 20, 21, 22, 23, 24, 25, 26, 27, 28, 29, 30, 31, 32, 33, 34, 35, 36, 37] (by kernel_rfl) z z (yi_off ((wanted_eq z z z z).trans z)) (ws_q (v := undef) 14 [15, 16, 17, 18, 19, 20, 21, 22, 23, 24, 25, 26, 27, 28, 29, 30, 31, 32, 33, 34, 35, 36, 37] (by kernel_rfl) z z (yi_off ((wanted_eq z z z z).trans z)) (ws_q (v := undef) 15 [16, 17, 18, 19, 20, 21, 22, 23, 24, 25, 26, 27, 28, 29, 30, 31, 32, 33, 34, 35, 36, 37] (by kernel_rfl) z z (yi_off ((wanted_eq z z z z).trans z)) (ws_q (v := undef) 16 [17, 18, 19, 20, 21, 22, 23, 24, 25, 26, 27, 28, 29, 30, 31, 32, 33, 34, 35, 36, 37] (by kernel_rfl) z z (yi_off ((wanted_eq z z z z).trans z)) (ws_q (v := undef) 17 [18, 19, 20, 21, 22, 23, 24, 25, 26, 27, 28, 29, 30, 31, 32, 33, 34, 35, 36, 37] (by kernel_rfl) z z (yi_off ((wanted_eq z z z z).trans z)) (ws_q (v := undef) 18 [19, 20, 21, 22, 23, 24, 25, 26, 27, 28, 29, 30, 31, 32, 33, 34, 35, 36, 37] (by kernel_rfl) z z (yi_off ((wanted_eq z z z z).trans z)) (wsr (.bool false) 19 z z z (by kernel_rfl) (fun w hst => x_pick_f z z z) (wsr (.bool false) 20 z z z (by kernel_rfl) (fun w hst => z) (ws_q (v := undef) 21 [22, 23, 24, 25, 26, 27, 28, 29, 30, 31, 32, 33, 34, 35, 36, 37] (by kernel_rfl) z z (yi_off ((wanted_eq z z z z).trans z)) (ws_q (v := undef) 22 [23, 24, 25, 26, 27, 28, 29, 30, 31, 32, 33, 34, 35, 36, 37] (by kernel_rfl) z z (yi_off ((wanted_eq z z z z).trans z)) (ws_q (v := undef) 23 [24, 25, 26, 27, 28, 29, 30, 31, 32, 33, 34, 35, 36, 37] (by kernel_rfl) z z (yi_off ((wanted_eq z z z z).trans z)) (ws_q (v := undef) 24 [25, 26, 27, 28, 29, 30, 31, 32, 33, 34, 35, 36, 37] (by kernel_rfl) z z (yi_off ((wanted_eq z z z z).trans z)) (ws_q (v := undef) 25 [26, 27, 28, 29, 30, 31, 32, 33, 34, 35, 36, 37] (by kernel_rfl) z z (yi_off ((wanted_eq z z z z).trans z)) ?_))))))))))))
 refine wsr (.bool false) 26 z z z (by kernel_rfl) (fun w hst => x_pick_f z z z) (wsr (.bool false) 27 z z z (by kernel_rfl) (fun w hst => z) (ws_q (v := undef) 28 [29, 30, 31, 32, 33, 34, 35, 36, 37] (by kernel_rfl) z z (yi_off ((wanted_eq z z z z).trans z)) (ws_q (v := undef) 29 [30, 31, 32, 33, 34, 35, 36, 37] (by kernel_rfl) z z (yi_off ((wanted_eq z z z z).trans z)) (ws_q (v := undef) 30 [31, 32, 33, 34, 35, 36, 37] (by kernel_rfl) z z (yi_off ((wanted_eq z z z z).trans z)) (ws_q (v := undef) 31 [32, 33, 34, 35, 36, 37] (by kernel_rfl) z z (yi_off ((wanted_eq z z z z).trans z)) (ws_q (v := undef) 32 [33, 34, 35, 36, 37] (by kernel_rfl) z z (yi_off ((wanted_eq z z z z).trans z)) (ws_q (v := undef) 33 [34, 35, 36, 37] (by kernel_rfl) z z (yi_off ((wanted_eq z z z z).trans z)) (ws_q (v := undef) 34 [35, 36, 37] (by kernel_rfl) z z (yi_off ((wanted_eq z z z z).trans z)) (ws_q (v := undef) 35 [36, 37] (by kernel_rfl) z z (yi_off ((wanted_eq z z z z).trans z)) (wsr (.bool false) 36 z z z (by kernel_rfl) (fun w hst => x_pick_f z z z) (wsr (.bool false) 37 z z z (by kernel_rfl) (fun w hst => z) ?_)))))))))))
 refine ws_nil ?_
 intro w hst
 refine tn (wp_ret ?_)
 replace hst := hst.objO_nil at_net_Net
 obtain rfl := some_inj hm
 refine post_ret (vs := [.bool false]) results14 (rvs_cons (rv_tmp z) rvs_nil) ?_
 exact ⟨z, hst.keep1⟩
}
 {
 replace hst := objO_get hst
 dsimp only [net_Net_is] at hm
 refine calls_start (args := [p0, .agg #[I6 a1.From, I6 a1.To, I6 a1.Lane]]) func14 z ntmps14 (Nat.le_of_ble_eq_true z) ?_
 refine wp_seq (wrl ?_)
 obtain ⟨b85, w86, ew87, eb88, hst⟩ := hst.box [I6 a1.From, I6 a1.To, I6 a1.Lane] 23
 refine wl_run (v := Pt b85 0) (w' := w86) z z (x_al (by kernel_rfl) ew87 eb88) ?_
 refine wv (.bool false) z z z (wl_nil (tn (wp_seq ?_)))
 replace hst := hst.pull1
 obtain ⟨b90, v91, v93, rfl, hst'⟩ := at_net_Net_open hst
 clear hst
 have hst := hst'
 clear hst'
 refine wp_region_St hst 38 [0, 1, 2, 3, 4, 5, 6, 7, 8, 9, 10, 11, 12, 13, 14, 15, 16, 17, 18, 19, 20, 21, 22, 23, 24, 25, 26, 27, 28, 29, 30, 31, 32, 33, 34, 35, 36, 37] [0, 1, 3, 7, 15, 31, 63, 7, 135, 511, 1023, 2047, 4095, 8191, 16383, 32767, 4095, 69631, 262143, 524287, 1048575, 2097151, 4194303, 2097151, 10485759, 33554431, 67108863, 134217727, 268435455, 536870911, 1073741823, 2147483647, 268435455, 4563402751, 17179869183, 34359738367, 68719476735, 137438953471] [] z (by kernel_rfl) (by kernel_rfl) Try.mixed (by kernel_rfl) ?_
 refine wsr (Pt b90 0) 0 z z z (by kernel_rfl) (fun w hst => z) (wsr (.bool true) 1 z z z (by kernel_rfl) (fun w hst => by kernel_rfl) (wsr (.bool true) 2 z z z (by kernel_rfl) (fun w hst => z) (ws_q (v := Pt b90 0) 3 [4, 5, 6, 7, 8, 9, 10, 11, 12, 13, 14, 15, 16, 17, 18, 19, 20, 21, 22, 23, 24, 25, 26, 27, 28, 29, 30, 31, 32, 33, 34, 35, 36, 37] (by kernel_rfl) z z (yi_run ((wanted_eq z z z z).trans z) (fun w hst => z)) (ws_q (v := Pt b90 0) 4 [5, 6, 7, 8, 9, 10, 11, 12, 13, 14, 15, 16, 17, 18, 19, 20, 21, 22, 23, 24, 25, 26, 27, 28, 29, 30, 31, 32, 33, 34, 35, 36, 37] (by kernel_rfl) z z (yi_run ((wanted_eq z z z z).trans z) (fun w hst => z)) (ws_q (v := Pt b90 0) 5 [6, 7, 8, 9, 10, 11, 12, 13, 14, 15, 16, 17, 18, 19, 20, 21, 22, 23, 24, 25, 26, 27, 28, 29, 30, 31, 32, 33, 34, 35, 36, 37] (by kernel_rfl) z z (yi_run ((wanted_eq z z z z).trans z) (fun w hst => x_field z underlying52 z sizeOf27 z)) (ws_q (v := v91) 6 [7, 8, 9, 10, 11, 12, 13, 14, 15, 16, 17, 18, 19, 20, 21, 22, 23, 24, 25, 26, 27, 28, 29, 30, 31, 32, 33, 34, 35, 36, 37] (by kernel_rfl) z z (yi_run ((wanted_eq z z z z).trans z) (fun w hst => x_load z isAgg27 (hst.bc0 z))) (ws_q (v := Pt b85 0) 7 [8, 9, 10, 11, 12, 13, 14, 15, 16, 17, 18, 19, 20, 21, 22, 23, 24, 25, 26, 27, 28, 29, 30, 31, 32, 33, 34, 35, 36, 37] (by kernel_rfl) z z (yi_run ((wanted_eq z z z z).trans z) (fun w hst => x_field z underlying23 z sizeOf3 z)) (ws_q (v := .int .i64 a1.From) 8 [9, 10, 11, 12, 13, 14, 15, 16, 17, 18, 19, 20, 21, 22, 23, 24, 25, 26, 27, 28, 29, 30, 31, 32, 33, 34, 35, 36, 37] (by kernel_rfl) z z (yi_run ((wanted_eq z z z z).trans z) (fun w hst => x_load z isAgg3 (hst.bc3 z))) ?_))))))))
 refine ws_e1 9 (by kernel_rfl) ?_
 refine nxe [10, 11, 12, 13, 14, 15, 16, 17, 18, 19, 20, 21, 22, 23, 24, 25, 26, 27, 28, 29, 30, 31, 32, 33, 34, 35, 36, 37] (by kernel_rfl) z ((wanted_eq z z z z).trans z) ?_
 clear hst
 intro w hst
 replace hst := hst.pull1
 obtain ⟨t95, ht96, hm⟩ := bind_some hm
 refine wec call21 [v91, I6 a1.From] z z ?_
 refine (config_Plan_Node_ref hst.to1 ht96).mono ?_
 rintro _ w97 ⟨rfl, hst⟩
 refine ⟨_, z, ?_⟩
 replace hst := hst.of1
 refine ws_next (pend' := []) hst (by kernel_rfl) pk_nil ?_
 refine wsr (.bool t95) 10 z z z (by kernel_rfl) (fun w hst => x_pick_t z z z) (wsr (.bool t95) 11 z z z (by kernel_rfl) (fun w hst => z) ?_)
 refine bsplit t95 (fun hc100 => ?_) (fun hc100 => ?_)
 {
 replace hm := bif_t hc100 hm
 refine ws_q (v := Pt b90 0) 12 [13, 14, 15, 16, 17, 18, 19, 20, 21, 22, 23, 24, 25, 26, 27, 28, 29, 30, 31, 32, 33, 34, 35, 36, 37] (by kernel_rfl) z z (yi_run ((wanted_eq z z z (cvb hc100)).trans z) (fun w hst => z)) (ws_q (v := Pt b90 0) 13 [14, 15, 16, 17, 18, 19, 20, 21, 22, 23, 24, 25, 26, 27, 28, 29, 30, 31, 32, 33, 34, 35, 36, 37] (by kernel_rfl) z z (yi_run ((wanted_eq z z z (cvb hc100)).trans z) (fun w hst => z)) (ws_q (v := Pt b90 0) 14 [15, 16, 17, 18, 19, 20, 21, 22, 23, 24, 25, 26, 27, 28, 29, 30, 31, 32, 33, 34, 35, 36, 37] (by kernel_rfl) z z (yi_run ((wanted_eq z z z (cvb hc100)).trans z) (fun w hst => x_field z underlying52 z sizeOf27 z)) (ws_q (v := v91) 15 [16, 17, 18, 19, 20, 21, 22, 23, 24, 25, 26, 27, 28, 29, 30, 31, 32, 33, 34, 35, 36, 37] (by kernel_rfl) z z (yi_run ((wanted_eq z z z (cvb hc100)).trans z) (fun w hst => x_load z isAgg27 (hst.bc1 z))) (ws_q (v := Pt b85 1) 16 [17, 18, 19, 20, 21, 22, 23, 24, 25, 26, 27, 28, 29, 30, 31, 32, 33, 34, 35, 36, 37] (by kernel_rfl) z z (yi_run ((wanted_eq z z z (cvb hc100)).trans z) (fun w hst => x_field z underlying23 z sizeOf3 z)) (ws_q (v := .int .i64 a1.To) 17 [18, 19, 20, 21, 22, 23, 24, 25, 26, 27, 28, 29, 30, 31, 32, 33, 34, 35, 36, 37] (by kernel_rfl) z z (yi_run ((wanted_eq z z z (cvb hc100)).trans z) (fun w hst => x_load z isAgg3 (hst.bc3 z))) ?_)))))
 refine ws_e1 18 (by kernel_rfl) ?_
 refine nxe [19, 20, 21, 22, 23, 24, 25, 26, 27, 28, 29, 30, 31, 32, 33, 34, 35, 36, 37] (by kernel_rfl) z ((wanted_eq z z z (cvb hc100)).trans z) ?_
 clear hst
 intro w hst
 obtain ⟨t101, ht102, hm⟩ := bind_some hm
 refine wec call21 [v91, I6 a1.To] z z ?_
 refine (config_Plan_Node_ref hst.to1 ht102).mono ?_
 rintro _ w103 ⟨rfl, hst⟩
 refine ⟨_, z, ?_⟩
 replace hst := hst.of1
 refine ws_next (pend' := []) hst (by kernel_rfl) pk_nil ?_
 refine wsr (.bool t101) 19 z z z (by kernel_rfl) (fun w hst => x_pick_t hc100 z z) (wsr (.bool t101) 20 z z z (by kernel_rfl) (fun w hst => z) ?_)
 refine bsplit t101 (fun hc106 => ?_) (fun hc106 => ?_)
 {
 replace hm := bif_t hc106 hm
 refine ws_q (v := Pt b85 0) 21 [22, 23, 24, 25, 26, 27, 28, 29, 30, 31, 32, 33, 34, 35, 36, 37] (by kernel_rfl) z z (yi_run ((wanted_eq z z z (cvb hc106)).trans z) (fun w hst => x_field z underlying23 z sizeOf3 z)) (ws_q (v := .int .i64 a1.From) 22 [23, 24, 25, 26, 27, 28, 29, 30, 31, 32, 33, 34, 35, 36, 37] (by kernel_rfl) z z (yi_run ((wanted_eq z z z (cvb hc106)).trans z) (fun w hst => x_load z isAgg3 (hst.bc3 z))) (ws_q (v := Pt b85 1) 23 [24, 25, 26, 27, 28, 29, 30, 31, 32, 33, 34, 35, 36, 37] (by kernel_rfl) z z (yi_run ((wanted_eq z z z (cvb hc106)).trans z) (fun w hst => x_field z underlying23 z sizeOf3 z)) (ws_q (v := .int .i64 a1.To) 24 [25, 26, 27, 28, 29, 30, 31, 32, 33, 34, 35, 36, 37] (by kernel_rfl) z z (yi_run ((wanted_eq z z z (cvb hc106)).trans z) (fun w hst => x_load z isAgg3 (hst.bc3 z))) (ws_q (v := .bool (a1.From != a1.To)) 25 [26, 27, 28, 29, 30, 31, 32, 33, 34, 35, 36, 37] (by kernel_rfl) z z (yi_run ((wanted_eq z z z (cvb hc106)).trans z) (fun w hst => z)) (wsr (.bool (a1.From != a1.To)) 26 z z z (by kernel_rfl) (fun w hst => x_pick_t hc106 z z) (wsr (.bool (a1.From != a1.To)) 27 z z z (by kernel_rfl) (fun w hst => z) ?_))))))
 refine bsplit (a1.From != a1.To) (fun hc107 => ?_) (fun hc107 => ?_)
 {
 replace hm := bif_t hc107 hm
 refine ws_q (v := Pt b90 0) 28 [29, 30, 31, 32, 33, 34, 35, 36, 37] (by kernel_rfl) z z (yi_run ((wanted_eq z z z (cvb hc107)).trans z) (fun w hst => z)) (ws_q (v := Pt b90 0) 29 [30, 31, 32, 33, 34, 35, 36, 37] (by kernel_rfl) z z (yi_run ((wanted_eq z z z (cvb hc107)).trans z) (fun w hst => z)) (ws_q (v := Pt b90 0) 30 [31, 32, 33, 34, 35, 36, 37] (by kernel_rfl) z z (yi_run ((wanted_eq z z z (cvb hc107)).trans z) (fun w hst => x_field z underlying52 z sizeOf27 z)) (ws_q (v := v91) 31 [32, 33, 34, 35, 36, 37] (by kernel_rfl) z z (yi_run ((wanted_eq z z z (cvb hc107)).trans z) (fun w hst => x_load z isAgg27 (hst.bc1 z))) (ws_q (v := Pt b85 2) 32 [33, 34, 35, 36, 37] (by kernel_rfl) z z (yi_run ((wanted_eq z z z (cvb hc107)).trans z) (fun w hst => x_field z underlying23 z sizeOf3 z)) (ws_q (v := .int .i64 a1.Lane) 33 [34, 35, 36, 37] (by kernel_rfl) z z (yi_run ((wanted_eq z z z (cvb hc107)).trans z) (fun w hst => x_load z isAgg3 (hst.bc3 z))) ?_)))))
 refine ws_e1 34 (by kernel_rfl) ?_
 refine nxe [35, 36, 37] (by kernel_rfl) z ((wanted_eq z z z (cvb hc107)).trans z) ?_
 clear hst
 intro w hst
 obtain ⟨t108, ht109, hm⟩ := bind_some hm
 refine wec call22 [v91, I6 a1.Lane] z z ?_
 refine (config_Plan_Label_ref hst.to1 ht109).mono ?_
 rintro _ w110 ⟨rfl, hst⟩
 refine ⟨_, z, ?_⟩
 replace hst := hst.of1
 refine ws_next (pend' := []) hst (by kernel_rfl) pk_nil ?_
 refine ws_q (v := .bool (decide (t108 ≥ (0:Int)))) 35 [36, 37] (by kernel_rfl) z z (yi_run ((wanted_eq z z z (cvb hc107)).trans z) (fun w hst => z)) (wsr (.bool (decide (t108 ≥ (0:Int)))) 36 z z z (by kernel_rfl) (fun w hst => x_pick_t hc107 z z) (wsr (.bool (decide (t108 ≥ (0:Int)))) 37 z z z (by kernel_rfl) (fun w hst => z) ?_))
 refine ws_nil ?_
 intro w hst
 refine tn (wp_ret ?_)
 replace hst := hst.pull2.pull1.pull2
 replace hst := at_net_Net_close (pv := Pt b90 0) (x := o0) hst z
 replace hst := objO_some hst
 obtain rfl := some_inj hm
 refine post_ret (vs := [.bool (decide (t108 ≥ (0:Int)))]) results14 (rvs_cons (rv_tmp z) rvs_nil) ?_
 exact ⟨z, hst.keep1⟩
}
 {
 replace hm := bif_f hc107 hm
 refine ws_q (v := undef) 28 [29, 30, 31, 32, 33, 34, 35, 36, 37] (by kernel_rfl) z z (yi_off ((wanted_eq z z z (cvb hc107)).trans z)) (ws_q (v := undef) 29 [30, 31, 32, 33, 34, 35, 36, 37] (by kernel_rfl) z z (yi_off ((wanted_eq z z z (cvb hc107)).trans z)) (ws_q (v := undef) 30 [31, 32, 33, 34, 35, 36, 37] (by kernel_rfl) z z (yi_off ((wanted_eq z z z (cvb hc107)).trans z)) (ws_q (v := undef) 31 [32, 33, 34, 35, 36, 37] (by kernel_rfl) z z (yi_off ((wanted_eq z z z (cvb hc107)).trans z)) (ws_q (v := undef) 32 [33, 34, 35, 36, 37] (by kernel_rfl) z z (yi_off ((wanted_eq z z z (cvb hc107)).trans z)) (ws_q (v := undef) 33 [34, 35, 36, 37] (by kernel_rfl) z z (yi_off ((wanted_eq z z z (cvb hc107)).trans z)) (ws_q (v := undef) 34 [35, 36, 37] (by kernel_rfl) z z (yi_off ((wanted_eq z z z (cvb hc107)).trans z)) (ws_q (v := undef) 35 [36, 37] (by kernel_rfl) z z (yi_off ((wanted_eq z z z (cvb hc107)).trans z)) (wsr (.bool false) 36 z z z (by kernel_rfl) (fun w hst => x_pick_f hc107 z z) (wsr (.bool false) 37 z z z (by kernel_rfl) (fun w hst => z) ?_)))))))))
 refine ws_nil ?_
 intro w hst
 refine tn (wp_ret ?_)
 replace hst := hst.pull2.pull1.pull2
 replace hst := at_net_Net_close (pv := Pt b90 0) (x := o0) hst z
 replace hst := objO_some hst
 obtain rfl := some_inj hm
 refine post_ret (vs := [.bool false]) results14 (rvs_cons (rv_tmp z) rvs_nil) ?_
 exact ⟨z, hst.keep1⟩
}
}
 {
 replace hm := bif_f hc106 hm
 refine ws_q (v := undef) 21 [22, 23, 24, 25, 26, 27, 28, 29, 30, 31, 32, 33, 34, 35, 36, 37] (by kernel_rfl) z z (yi_off ((wanted_eq z z z (cvb hc106)).trans z)) (ws_q (v := undef) 22 [23, 24, 25, 26, 27, 28, 29, 30, 31, 32, 33, 34, 35, 36, 37] (by kernel_rfl) z z (yi_off ((wanted_eq z z z (cvb hc106)).trans z)) (ws_q (v := undef) 23 [24, 25, 26, 27, 28, 29, 30, 31, 32, 33, 34, 35, 36, 37] (by kernel_rfl) z z (yi_off ((wanted_eq z z z (cvb hc106)).trans z)) (ws_q (v := undef) 24 [25, 26, 27, 28, 29, 30, 31, 32, 33, 34, 35, 36, 37] (by kernel_rfl) z z (yi_off ((wanted_eq z z z (cvb hc106)).trans z)) (ws_q (v := undef) 25 [26, 27, 28, 29, 30, 31, 32, 33, 34, 35, 36, 37] (by kernel_rfl) z z (yi_off ((wanted_eq z z z (cvb hc106)).trans z)) (wsr (.bool false) 26 z z z (by kernel_rfl) (fun w hst => x_pick_f hc106 z z) (wsr (.bool false) 27 z z z (by kernel_rfl) (fun w hst => z) (ws_q (v := undef) 28 [29, 30, 31, 32, 33, 34, 35, 36, 37] (by kernel_rfl) z z (yi_off ((wanted_eq z z z z).trans z)) (ws_q (v := undef) 29 [30, 31, 32, 33, 34, 35, 36, 37] (by kernel_rfl) z z (yi_off ((wanted_eq z z z z).trans z)) (ws_q (v := undef) 30 [31, 32, 33, 34, 35, 36, 37] (by kernel_rfl) z z (yi_off ((wanted_eq z z z z).trans z)) (ws_q (v := undef) 31 [32, 33, 34, 35, 36, 37] (by kernel_rfl) z z (yi_off ((wanted_eq z z z z).trans z)) (ws_q (v := undef) 32 [33, 34, 35, 36, 37] (by kernel_rfl) z z (yi_off ((wanted_eq z z z z).trans z)) (ws_q (v := undef) 33 [34, 35, 36, 37] (by kernel_rfl) z z (yi_off ((wanted_eq z z z z).trans z)) ?_))))))))))))
 refine ws_q (v := undef) 34 [35, 36, 37] (by kernel_rfl) z z (yi_off ((wanted_eq z z z z).trans z)) (ws_q (v := undef) 35 [36, 37] (by kernel_rfl) z z (yi_off ((wanted_eq z z z z).trans z)) (wsr (.bool false) 36 z z z (by kernel_rfl) (fun w hst => x_pick_f z z z) (wsr (.bool false) 37 z z z (by kernel_rfl) (fun w hst => z) ?_)))
 refine ws_nil ?_
 intro w hst
 refine tn (wp_ret ?_)
 replace hst := hst.pull2.pull1.pull2
 replace hst := at_net_Net_close (pv := Pt b90 0) (x := o0) hst z
 replace hst := objO_some hst
 obtain rfl := some_inj hm
 refine post_ret (vs := [.bool false]) results14 (rvs_cons (rv_tmp z) rvs_nil) ?_
 exact ⟨z, hst.keep1⟩
}
}
 {
 replace hm := bif_f hc100 hm
 refine ws_q (v := undef) 12 [13, 14, 15, 16, 17, 18, 19, 20, 21, 22, 23, 24, 25, 26, 27, 28, 29, 30, 31, 32, 33, 34, 35, 36, 37] (by kernel_rfl) z z (yi_off ((wanted_eq z z z (cvb hc100)).trans z)) (ws_q (v := undef) 13 [14, 15, 16, 17, 18, 19, 20, 21, 22, 23, 24, 25, 26, 27, 28, 29, 30, 31, 32, 33, 34, 35, 36, 37] (by kernel_rfl) z z (yi_off ((wanted_eq z z z (cvb hc100)).trans z)) (ws_q (v := undef) 14 [15, 16, 17, 18, 19, 20, 21, 22, 23, 24, 25, 26, 27, 28, 29, 30, 31, 32, 33, 34, 35, 36, 37] (by kernel_rfl) z z (yi_off ((wanted_eq z z z (cvb hc100)).trans z)) (ws_q (v := undef) 15 [16, 17, 18, 19, 20, 21, 22, 23, 24, 25, 26, 27, 28, 29, 30, 31, 32, 33, 34, 35, 36, 37] (by kernel_rfl) z z (yi_off ((wanted_eq z z z (cvb hc100)).trans z)) (ws_q (v := undef) 16 [17, 18, 19, 20, 21, 22, 23, 24, 25, 26, 27, 28, 29, 30, 31, 32, 33, 34, 35, 36, 37] (by kernel_rfl) z z (yi_off ((wanted_eq z z z (cvb hc100)).trans z)) (ws_q (v := undef) 17 [18, 19, 20, 21, 22, 23, 24, 25, 26, 27, 28, 29, 30, 31, 32, 33, 34, 35, 36, 37] (by kernel_rfl) z z (yi_off ((wanted_eq z z z (cvb hc100)).trans z)) (ws_q (v := undef) 18 [19, 20, 21, 22, 23, 24, 25, 26, 27, 28, 29, 30, 31, 32, 33, 34, 35, 36, 37] (by kernel_rfl) z z (yi_off ((wanted_eq z z z (cvb hc100)).trans z)) (wsr (.bool false) 19 z z z (by kernel_rfl) (fun w hst => x_pick_f hc100 z z) (wsr (.bool false) 20 z z z (by kernel_rfl) (fun w hst => z) (ws_q (v := undef) 21 [22, 23, 24, 25, 26, 27, 28, 29, 30, 31, 32, 33, 34, 35, 36, 37] (by kernel_rfl) z z (yi_off ((wanted_eq z z z z).trans z)) (ws_q (v := undef) 22 [23, 24, 25, 26, 27, 28, 29, 30, 31, 32, 33, 34, 35, 36, 37] (by kernel_rfl) z z (yi_off ((wanted_eq z z z z).trans z)) (ws_q (v := undef) 23 [24, 25, 26, 27, 28, 29, 30, 31, 32, 33, 34, 35, 36, 37] (by kernel_rfl) z z (yi_off ((wanted_eq z z z z).trans z)) (ws_q (v := undef) 24 [25, 26, 27, 28, 29, 30, 31, 32, 33, 34, 35, 36, 37] (by kernel_rfl) z z (yi_off ((wanted_eq z z z z).trans z)) ?_))))))))))))
 refine ws_q (v := undef) 25 [26, 27, 28, 29, 30, 31, 32, 33, 34, 35, 36, 37] (by kernel_rfl) z z (yi_off ((wanted_eq z z z z).trans z)) (wsr (.bool false) 26 z z z (by kernel_rfl) (fun w hst => x_pick_f z z z) (wsr (.bool false) 27 z z z (by kernel_rfl) (fun w hst => z) (ws_q (v := undef) 28 [29, 30, 31, 32, 33, 34, 35, 36, 37] (by kernel_rfl) z z (yi_off ((wanted_eq z z z z).trans z)) (ws_q (v := undef) 29 [30, 31, 32, 33, 34, 35, 36, 37] (by kernel_rfl) z z (yi_off ((wanted_eq z z z z).trans z)) (ws_q (v := undef) 30 [31, 32, 33, 34, 35, 36, 37] (by kernel_rfl) z z (yi_off ((wanted_eq z z z z).trans z)) (ws_q (v := undef) 31 [32, 33, 34, 35, 36, 37] (by kernel_rfl) z z (yi_off ((wanted_eq z z z z).trans z)) (ws_q (v := undef) 32 [33, 34, 35, 36, 37] (by kernel_rfl) z z (yi_off ((wanted_eq z z z z).trans z)) (ws_q (v := undef) 33 [34, 35, 36, 37] (by kernel_rfl) z z (yi_off ((wanted_eq z z z z).trans z)) (ws_q (v := undef) 34 [35, 36, 37] (by kernel_rfl) z z (yi_off ((wanted_eq z z z z).trans z)) (ws_q (v := undef) 35 [36, 37] (by kernel_rfl) z z (yi_off ((wanted_eq z z z z).trans z)) (wsr (.bool false) 36 z z z (by kernel_rfl) (fun w hst => x_pick_f z z z) (wsr (.bool false) 37 z z z (by kernel_rfl) (fun w hst => z) ?_))))))))))))
 refine ws_nil ?_
 intro w hst
 refine tn (wp_ret ?_)
 replace hst := hst.pull2.pull1.pull2
 replace hst := at_net_Net_close (pv := Pt b90 0) (x := o0) hst z
 replace hst := objO_some hst
 obtain rfl := some_inj hm
 refine post_ret (vs := [.bool false]) results14 (rvs_cons (rv_tmp z) rvs_nil) ?_
 exact ⟨z, hst.keep1⟩
}
}
}

theorem slices_Clone_byte_byte_ref {w0 w : World} {I : HL} {R : SP} {a0 : (List Int)} {r0_0 : Value} (f0_0 : Rd (tyInt .u8) R I r0_0 a0) (hst : St w0 w I [] R) {r : (List Int)} (hm : slices_Clone_byte_byte a0 = some r) :
  Calls prog 15 #[r0_0] w fun e w' => ∃ (q0_0 : Value), e = .returned (q0_0) ∧ St w0 w' I [ownS (tyInt .u8) q0_0 r] R := by {
 unfold slices_Clone_byte_byte at hm
 obtain ⟨hg, hm⟩ := gd_some hm
 obtain rfl := some_inj hm
 have hsv := rd_sliceV f0_0
 refine calls_start (args := [r0_0]) func15 z ntmps15 (Nat.le_of_ble_eq_true z) ?_
 refine wp_seq (wrl (wv ((.slice none 0 0)) z z z (wl_nil (tn (wp_seq (wp_seq (wrl (wv (r0_0) z z z (wv (.bool (isNil r0_0)) z z (x_slnil z hsv z underlying24) (wl_nil (tn ?_)))))))))))
 refine bsplit (isNil r0_0) (fun hc52 => ?_) (fun hc52 => ?_)
 {
 refine wp_ift (cvb hc52) ?_
 refine wp_seq (wrl (wv ((.slice none 0 0)) z z z (wl_nil (tn (wp_ret (then_r ?_))))))
 refine post_ret (vs := [Zs]) results15 (rvs_cons (rv_tmp z) rvs_nil) ?_
 obtain rfl := List.eq_nil_of_length_eq_zero (isNil_len hsv hc52)
 exact ⟨_, z, (hst.own_nil (tyInt .u8)).keep1⟩
}
 {
 refine wp_iff (cvb hc52) ?_
 refine wp_skip (tn (wp_seq (wrl ?_)))
 obtain ⟨b, w1, ew, eb, hst⟩ := hst.lits (E := (tyInt .u8)) (xs := []) [] 5 0 z Reps.nil
 refine wl_run (v := (.slice (some ⟨b, 0, none⟩) 0 0)) (w' := w1) z z (x_als (by kernel_rfl) ew eb) ?_
 refine wv (r0_0) z z z ?_
 obtain ⟨v2, w2, hr, hst⟩ := run_append elem_24 underlying24 hst (Src.of_rd hst f0_0 flat_int) (room_of hg z) 24
 refine wl_run (v := v2) (w' := w2) z z (x_append z z hr) ?_
 refine wv (v2) z z z (wl_nil (tn (wp_ret ?_)))
 refine post_ret (vs := [v2]) results15 (rvs_cons (rv_tmp z) rvs_nil) ?_
 rw [List.nil_append] at hst
 exact ⟨_, z, hst.keep1⟩
}
}

theorem net_Net_Put_ref {w0 w : World} {I : HL} {R : SP} {a0 : (Option net_Net)} {p0 : Value} {a1 : net_Link} {a2 : (List Int)} {r2_0 : Value} (f2_0 : Rd (tyInt .u8) R I r2_0 a2) (hst : St w0 w I [objO at_net_Net p0 a0] R) {r : (Int × (Option net_Net))} (hm : net_Net_Put a0 a1 a2 = some r) :
  Calls prog 7 #[p0, .agg #[I6 a1.From, I6 a1.To, I6 a1.Lane], r2_0] w fun e w' => ∃ (I' : HL), e = .returned (.int .i64 r.1) ∧ I.le I' ∧ St w0 w' I' [objO at_net_Net p0 r.2] R := by {
 rcases a0 with _ | o0
 {
 obtain ⟨rfl, hst'⟩ := objO_none hst
 clear hst
 have hst := hst'
 clear hst'
 dsimp only [net_Net_Put] at hm
 refine calls_start (args := [.pointer none, .agg #[I6 a1.From, I6 a1.To, I6 a1.Lane], r2_0]) func7 z ntmps7 (Nat.le_of_ble_eq_true z) ?_
 have hI0 := HL.le.refl I
 refine wp_seq (wrl ?_)
 obtain ⟨b159, w160, ew161, eb162, hst⟩ := hst.box [I6 a1.From, I6 a1.To, I6 a1.Lane] 23
 refine wl_run (v := Pt b159 0) (w' := w160) z z (x_al (by kernel_rfl) ew161 eb162) ?_
 refine wv (.int .i64 (0:Int)) z z z (wl_nil (tn (wp_seq (wp_seq (wrl (wv (.pointer none) z z z (wv (.agg #[I6 a1.From, I6 a1.To, I6 a1.Lane]) z z (x_loadN (cs := [I6 a1.From, I6 a1.To, I6 a1.Lane]) z isAgg23 sizeOf23 (hst.bcs0 0 z)) ?_)))))))
 replace hst := hst.objO_nil at_net_Net
 obtain ⟨t165, ht166, hm⟩ := bind_some hm
 refine wc call14 [.pointer none, .agg #[I6 a1.From, I6 a1.To, I6 a1.Lane]] z z z ?_
 refine (net_Net_is_ref hst.to1 ht166).mono ?_
 rintro _ w167 ⟨rfl, hst⟩
 refine ⟨_, z, ?_⟩
 replace hst := hst.of1
 refine wv (.bool (!t165)) z z z (wl_nil (tn ?_))
 refine bsplit (!t165) (fun hc170 => ?_) (fun hc170 => ?_)
 {
 replace hm := bif_t hc170 hm
 refine wp_ift (cvb hc170) ?_
 refine wp_seq (wrl (wv (.int .i64 (1:Int)) z z z (wl_nil (tn (wp_ret (then_r ?_))))))
 replace hst := hst.objO_nil at_net_Net
 obtain rfl := some_inj hm
 refine post_ret (vs := [I6 (1:Int)]) results7 (rvs_cons (rv_tmp z) rvs_nil) ?_
 exact ⟨_, z, hI0, hst.keep1⟩
}
 {
 replace hm := bif_f hc170 hm
 refine wp_iff (cvb hc170) ?_
 refine wp_skip (tn (wp_seq ?_))
 refine wp_region_St hst 11 [0, 1, 2, 3, 4, 5, 6, 7, 8, 9, 10] [0, 1, 3, 7, 0, 31, 0, 64, 192, 511, 1023] [] z (by kernel_rfl) (by kernel_rfl) Try.mixed (by kernel_rfl) ?_
 refine wsr (.pointer none) 0 z z z (by kernel_rfl) (fun w hst => z) ?_
 cases hm
}
}
 {
 replace hst := objO_get hst
 dsimp only [net_Net_Put] at hm
 refine calls_start (args := [p0, .agg #[I6 a1.From, I6 a1.To, I6 a1.Lane], r2_0]) func7 z ntmps7 (Nat.le_of_ble_eq_true z) ?_
 have hI0 := HL.le.refl I
 refine wp_seq (wrl ?_)
 obtain ⟨b171, w172, ew173, eb174, hst⟩ := hst.box [I6 a1.From, I6 a1.To, I6 a1.Lane] 23
 refine wl_run (v := Pt b171 0) (w' := w172) z z (x_al (by kernel_rfl) ew173 eb174) ?_
 refine wv (.int .i64 (0:Int)) z z z (wl_nil (tn (wp_seq (wp_seq (wrl (wv (p0) z z z (wv (.agg #[I6 a1.From, I6 a1.To, I6 a1.Lane]) z z (x_loadN (cs := [I6 a1.From, I6 a1.To, I6 a1.Lane]) z isAgg23 sizeOf23 (hst.bcs0 0 z)) ?_)))))))
 replace hst := hst.pull1
 replace hst := objO_some hst
 obtain ⟨t176, ht177, hm⟩ := bind_some hm
 refine wc call14 [p0, .agg #[I6 a1.From, I6 a1.To, I6 a1.Lane]] z z z ?_
 refine (net_Net_is_ref hst.to1 ht177).mono ?_
 rintro _ w178 ⟨rfl, hst⟩
 refine ⟨_, z, ?_⟩
 replace hst := hst.of1
 replace hst := objO_get hst
 refine wv (.bool (!t176)) z z z (wl_nil (tn ?_))
 refine bsplit (!t176) (fun hc181 => ?_) (fun hc181 => ?_)
 {
 replace hm := bif_t hc181 hm
 refine wp_ift (cvb hc181) ?_
 refine wp_seq (wrl (wv (.int .i64 (1:Int)) z z z (wl_nil (tn (wp_ret (then_r ?_))))))
 replace hst := objO_some hst
 obtain rfl := some_inj hm
 refine post_ret (vs := [I6 (1:Int)]) results7 (rvs_cons (rv_tmp z) rvs_nil) ?_
 exact ⟨_, z, hI0, hst.keep1⟩
}
 {
 replace hm := bif_f hc181 hm
 refine wp_iff (cvb hc181) ?_
 refine wp_skip (tn (wp_seq ?_))
 obtain ⟨b182, v183, v185, rfl, hst'⟩ := at_net_Net_open hst
 clear hst
 have hst := hst'
 clear hst'
 rcases he188 : o0.m with _ | y187
 {
 rw [he188] at hm hst
 dsimp only at hm
 replace hst := hst.pull2.mapO_E
 refine wp_region_St hst 11 [0, 1, 2, 3, 4, 5, 6, 7, 8, 9, 10] [0, 1, 3, 7, 0, 31, 0, 64, 192, 511, 1023] [] z (by kernel_rfl) (by kernel_rfl) Try.mixed (by kernel_rfl) ?_
 refine wsr (Pt b182 0) 0 z z z (by kernel_rfl) (fun w hst => z) (wsr (Pt b182 0) 1 z z z (by kernel_rfl) (fun w hst => z) (wsr (Pt b182 1) 2 z z z (by kernel_rfl) (fun w hst => x_field z underlying52 z sizeOf50 z) (wsr (v185) 3 z z z (by kernel_rfl) (fun w hst => x_load z isAgg50 (hst.bc1 z)) (wsr (.agg #[I6 a1.From, I6 a1.To, I6 a1.Lane]) 4 z z z (by kernel_rfl) (fun w hst => x_loadN (cs := [I6 a1.From, I6 a1.To, I6 a1.Lane]) z isAgg23 sizeOf23 (hst.bcs3 0 z)) (wsr ((.slice none 0 0)) 5 z z z (by kernel_rfl) (fun w hst => x_look (kv := (lk a1.From a1.To a1.Lane)) z z (run_lookE hst (j := 0) z key3_23 underlying50 (fun _ => by kernel_rfl))) (wsr (r2_0) 6 z z z (by kernel_rfl) (fun w hst => z) ?_))))))
 refine ws_e1 7 (by kernel_rfl) ?_
 refine nxe [8, 9, 10] (by kernel_rfl) z z ?_
 clear hst
 intro w hst
 obtain ⟨t190, ht191, hm⟩ := bind_some hm
 refine wec call15 [r2_0] z z ?_
 refine (slices_Clone_byte_byte_ref (f2_0.mono (rd_weak _)) hst.to0 ht191).mono ?_
 rintro _ w192 ⟨v195, rfl, hst⟩
 refine ⟨_, z, ?_⟩
 replace hst := hst.of1
 refine ws_next (pend' := [(5, Zs), (4, .agg #[I6 a1.From, I6 a1.To, I6 a1.Lane]), (3, v185), (2, Pt b182 1), (1, Pt b182 0), (0, Pt b182 0)]) hst (by kernel_rfl) (pkr z z (fun w hst => x_look (kv := (lk a1.From a1.To a1.Lane)) z z (run_lookE hst (j := 1) z key3_23 underlying50 (fun _ => by kernel_rfl))) (pkr z z (fun w hst => x_loadN (cs := [I6 a1.From, I6 a1.To, I6 a1.Lane]) z isAgg23 sizeOf23 (hst.bcs4 0 z)) (pkr z z (fun w hst => x_load z isAgg50 (hst.bc2 z)) (pkr z z (fun w hst => x_field z underlying52 z sizeOf50 z) (pkr z z (fun w hst => z) (pkr z z (fun w hst => z) pk_nil)))))) ?_
 refine ws_e1 8 (by kernel_rfl) ?_
 refine nxe [9, 10] (by kernel_rfl) z z ?_
 clear hst
 intro w hst
 obtain ⟨I198, hI199, f200, hst⟩ := hst.own_fix
 replace f2_0 := f2_0.mono (rd_le hI199)
 replace hI0 := hI0.trans hI199
 obtain ⟨b201, w202, ew203, eb204, hst⟩ := hst.lits (E := (tySl (tyInt .u8))) (xs := [t190]) [[v195]] 24 1 z (Reps.cons ⟨_, z, f200, one_of_sliceV (ro_sliceV f200)⟩ Reps.nil)
 refine we_run (v := (.slice (some ⟨b201, 0, none⟩) 1 1)) (w' := w202) z (x_als (by obtain ⟨_, _, hv_, _⟩ := (ro_sliceV f200); rw [hv_]; kernel_rfl) ew203 eb204) ?_
 refine ws_next (pend' := [(5, Zs), (4, .agg #[I6 a1.From, I6 a1.To, I6 a1.Lane]), (3, v185), (2, Pt b182 1), (1, Pt b182 0), (0, Pt b182 0)]) hst (by kernel_rfl) (pkr z z (fun w hst => x_look (kv := (lk a1.From a1.To a1.Lane)) z z (run_lookE hst (j := 1) z key3_23 underlying50 (fun _ => by kernel_rfl))) (pkr z z (fun w hst => x_loadN (cs := [I6 a1.From, I6 a1.To, I6 a1.Lane]) z isAgg23 sizeOf23 (hst.bcs4 0 z)) (pkr z z (fun w hst => x_load z isAgg50 (hst.bc2 z)) (pkr z z (fun w hst => x_field z underlying52 z sizeOf50 z) (pkr z z (fun w hst => z) (pkr z z (fun w hst => z) pk_nil)))))) ?_
 refine ws_e1 9 (by kernel_rfl) ?_
 refine nxe [10] (by kernel_rfl) z z ?_
 clear hst
 intro w hst
 replace hst := hst.own_nil (tySl (tyInt .u8))
 obtain ⟨hg206, hm⟩ := gd_some hm
 obtain ⟨v207, w208, hr209, hst⟩ := run_append elem_49 underlying49 hst hst.src1 (room_of hg206 z) 49
 replace hst := St.nil_app hst
 refine we_run (v := v207) (w' := w208) z (x_append z z hr209) ?_
 refine ws_next (pend' := []) hst (by kernel_rfl) pk_nil ?_
 refine wsr (v207) 10 z z z (by kernel_rfl) (fun w hst => z) ?_
 refine ws_nil ?_
 intro w hst
 refine tn (wp_seq ?_)
 refine wp_region_St hst 12 [0, 1, 2, 3, 4, 5, 6, 7, 8, 9, 10, 11] [0, 1, 3, 7, 0, 0, 0, 64, 192, 448, 992, 2047] [] z (by kernel_rfl) (by kernel_rfl) Try.mixed (by kernel_rfl) ?_
 refine wsr (Pt b182 0) 0 z z z (by kernel_rfl) (fun w hst => z) (wsr (Pt b182 0) 1 z z z (by kernel_rfl) (fun w hst => z) (wsr (Pt b182 1) 2 z z z (by kernel_rfl) (fun w hst => x_field z underlying52 z sizeOf50 z) (wsr (v185) 3 z z z (by kernel_rfl) (fun w hst => x_load z isAgg50 (hst.bc3 z)) (wsr (.agg #[I6 a1.From, I6 a1.To, I6 a1.Lane]) 4 z z z (by kernel_rfl) (fun w hst => x_loadN (cs := [I6 a1.From, I6 a1.To, I6 a1.Lane]) z isAgg23 sizeOf23 (hst.bcs5 0 z)) (wsr (v207) 5 z z z (by kernel_rfl) (fun w hst => z) (wsr (v207) 6 z z z (by kernel_rfl) (fun w hst => z) (wsr (.int .i64 (([t190]).length : Int)) 7 z z z (by kernel_rfl) (fun w hst => x_len z underlying49 hst.sv0) (wsr (.int .i64 (i64.wrap ((([t190]).length : Int) - (256:Int)))) 8 z z z (by kernel_rfl) (fun w hst => z) (wsr (.int .i64 (if (i64.wrap ((([t190]).length : Int) - (256:Int))) > (0:Int) then (i64.wrap ((([t190]).length : Int) - (256:Int))) else (0:Int))) 9 z z z (by kernel_rfl) (fun w hst => by kernel_rfl) ?_)))))))))
 obtain ⟨hg211, hm⟩ := gd_some hm
 obtain ⟨h212, h213, h214⟩ := fits_of hg211
 refine wsr ((slcV 1 v207 (if (i64.wrap ((([t190]).length : Int) - (256:Int))) > (0:Int) then (i64.wrap ((([t190]).length : Int) - (256:Int))) else (0:Int)).toNat ((([t190]).length : Nat) : Int).toNat)) 10 z z z (by kernel_rfl) (fun w hst => x_slice underlying49 sizeOf24 z hst.sv0 h212 h213 h214 .i64 .i64 (.inl z) (.inr ⟨z, z⟩)) ?_
 refine ws_e1 11 (by kernel_rfl) ?_
 refine nxe [] (by kernel_rfl) z z ?_
 clear hst
 intro w hst
 replace hst := hst.own_part h213 h214 h212
 replace hst := hst.pull2
 obtain ⟨w216, hr217, hst⟩ := run_putE (P := prog) hst key3_23 underlying50 a1.From a1.To a1.Lane (slcV 1 v207 (if (i64.wrap ((([t190]).length : Int) - (256:Int))) > (0:Int) then (i64.wrap ((([t190]).length : Int) - (256:Int))) else (0:Int)).toNat ((([t190]).length : Nat) : Int).toNat)
 refine we_unit z (x_put (kv := (lk a1.From a1.To a1.Lane)) z z z hr217) ?_
 refine ws_next (pend' := []) hst (by kernel_rfl) pk_nil ?_
 refine ws_nil ?_
 intro w hst
 refine tn (wp_seq (wrl (wv (.int .i64 (0:Int)) z z z (wl_nil (tn (wp_ret ?_))))))
 replace hst := hst.pull1.C_mapO (kf := kv_net_Link) (kk := a1)
 replace hst := hst.pull3.pull3
 replace hst := at_net_Net_close (pv := Pt b182 0) (x := ({ p := o0.p, m := (some (a1, (subs ([t190]) (if (i64.wrap ((([t190]).length : Int) - (256:Int))) > (0:Int) then (i64.wrap ((([t190]).length : Int) - (256:Int))) else (0:Int)) ((([t190]).length : Nat) : Int)))) } : net_Net)) hst z
 replace hst := objO_some hst
 obtain rfl := some_inj hm
 refine post_ret (vs := [Zi]) results7 (rvs_cons (rv_tmp z) rvs_nil) ?_
 exact ⟨_, z, hI0, hst.keep1⟩
}
 {
 rw [he188] at hm hst
 dsimp only at hm
 replace hst := hst.pull2
 obtain ⟨v218, hst⟩ := hst.mapO_C
 refine bsplit ((a1.From == y187.1.From) && (a1.To == y187.1.To) && (a1.Lane == y187.1.Lane)) (fun hc220 => ?_) (fun hc220 => ?_)
 {
 replace hm := bif_t hc220 hm
 refine wp_region_St hst 11 [0, 1, 2, 3, 4, 5, 6, 7, 8, 9, 10] [0, 1, 3, 7, 0, 31, 0, 64, 192, 511, 1023] [] z (by kernel_rfl) (by kernel_rfl) Try.mixed (by kernel_rfl) ?_
 refine wsr (Pt b182 0) 0 z z z (by kernel_rfl) (fun w hst => z) (wsr (Pt b182 0) 1 z z z (by kernel_rfl) (fun w hst => z) (wsr (Pt b182 1) 2 z z z (by kernel_rfl) (fun w hst => x_field z underlying52 z sizeOf50 z) (wsr (v185) 3 z z z (by kernel_rfl) (fun w hst => x_load z isAgg50 (hst.bc2 z)) (wsr (.agg #[I6 a1.From, I6 a1.To, I6 a1.Lane]) 4 z z z (by kernel_rfl) (fun w hst => x_loadN (cs := [I6 a1.From, I6 a1.To, I6 a1.Lane]) z isAgg23 sizeOf23 (hst.bcs4 0 z)) (wsr (v218) 5 z z z (by kernel_rfl) (fun w hst => x_look (kv := (lk a1.From a1.To a1.Lane)) z z (run_lookC hst (j := 1) z key3_23 underlying50 hc220)) (wsr (r2_0) 6 z z z (by kernel_rfl) (fun w hst => z) ?_))))))
 refine ws_e1 7 (by kernel_rfl) ?_
 refine nxe [8, 9, 10] (by kernel_rfl) z z ?_
 clear hst
 intro w hst
 obtain ⟨t221, ht222, hm⟩ := bind_some hm
 refine wec call15 [r2_0] z z ?_
 refine (slices_Clone_byte_byte_ref (f2_0.mono (rd_weak _)) hst.to0 ht222).mono ?_
 rintro _ w223 ⟨v226, rfl, hst⟩
 refine ⟨_, z, ?_⟩
 replace hst := hst.of1
 refine ws_next (pend' := [(5, v218), (4, .agg #[I6 a1.From, I6 a1.To, I6 a1.Lane]), (3, v185), (2, Pt b182 1), (1, Pt b182 0), (0, Pt b182 0)]) hst (by kernel_rfl) (pkr z z (fun w hst => x_look (kv := (lk a1.From a1.To a1.Lane)) z z (run_lookC hst (j := 2) z key3_23 underlying50 hc220)) (pkr z z (fun w hst => x_loadN (cs := [I6 a1.From, I6 a1.To, I6 a1.Lane]) z isAgg23 sizeOf23 (hst.bcs5 0 z)) (pkr z z (fun w hst => x_load z isAgg50 (hst.bc3 z)) (pkr z z (fun w hst => x_field z underlying52 z sizeOf50 z) (pkr z z (fun w hst => z) (pkr z z (fun w hst => z) pk_nil)))))) ?_
 refine ws_e1 8 (by kernel_rfl) ?_
 refine nxe [9, 10] (by kernel_rfl) z z ?_
 clear hst
 intro w hst
 obtain ⟨I229, hI230, f231, hst⟩ := hst.own_fix
 replace f2_0 := f2_0.mono (rd_le hI230)
 replace hI0 := hI0.trans hI230
 obtain ⟨b232, w233, ew234, eb235, hst⟩ := hst.lits (E := (tySl (tyInt .u8))) (xs := [t221]) [[v226]] 24 1 z (Reps.cons ⟨_, z, f231, one_of_sliceV (ro_sliceV f231)⟩ Reps.nil)
 refine we_run (v := (.slice (some ⟨b232, 0, none⟩) 1 1)) (w' := w233) z (x_als (by obtain ⟨_, _, hv_, _⟩ := (ro_sliceV f231); rw [hv_]; kernel_rfl) ew234 eb235) ?_
 refine ws_next (pend' := [(5, v218), (4, .agg #[I6 a1.From, I6 a1.To, I6 a1.Lane]), (3, v185), (2, Pt b182 1), (1, Pt b182 0), (0, Pt b182 0)]) hst (by kernel_rfl) (pkr z z (fun w hst => x_look (kv := (lk a1.From a1.To a1.Lane)) z z (run_lookC hst (j := 2) z key3_23 underlying50 hc220)) (pkr z z (fun w hst => x_loadN (cs := [I6 a1.From, I6 a1.To, I6 a1.Lane]) z isAgg23 sizeOf23 (hst.bcs5 0 z)) (pkr z z (fun w hst => x_load z isAgg50 (hst.bc3 z)) (pkr z z (fun w hst => x_field z underlying52 z sizeOf50 z) (pkr z z (fun w hst => z) (pkr z z (fun w hst => z) pk_nil)))))) ?_
 refine ws_e1 9 (by kernel_rfl) ?_
 refine nxe [10] (by kernel_rfl) z z ?_
 clear hst
 intro w hst
 obtain ⟨hg237, hm⟩ := gd_some hm
 replace hst := hst.pull1
 obtain ⟨v238, w239, hr240, hst⟩ := run_append elem_49 underlying49 hst hst.src1 (room_of hg237 z) 49
 refine we_run (v := v238) (w' := w239) z (x_append z z hr240) ?_
 refine ws_next (pend' := []) hst (by kernel_rfl) pk_nil ?_
 refine wsr (v238) 10 z z z (by kernel_rfl) (fun w hst => z) ?_
 refine ws_nil ?_
 intro w hst
 refine tn (wp_seq ?_)
 refine wp_region_St hst 12 [0, 1, 2, 3, 4, 5, 6, 7, 8, 9, 10, 11] [0, 1, 3, 7, 0, 0, 0, 64, 192, 448, 992, 2047] [] z (by kernel_rfl) (by kernel_rfl) Try.mixed (by kernel_rfl) ?_
 refine wsr (Pt b182 0) 0 z z z (by kernel_rfl) (fun w hst => z) (wsr (Pt b182 0) 1 z z z (by kernel_rfl) (fun w hst => z) (wsr (Pt b182 1) 2 z z z (by kernel_rfl) (fun w hst => x_field z underlying52 z sizeOf50 z) (wsr (v185) 3 z z z (by kernel_rfl) (fun w hst => x_load z isAgg50 (hst.bc3 z)) (wsr (.agg #[I6 a1.From, I6 a1.To, I6 a1.Lane]) 4 z z z (by kernel_rfl) (fun w hst => x_loadN (cs := [I6 a1.From, I6 a1.To, I6 a1.Lane]) z isAgg23 sizeOf23 (hst.bcs5 0 z)) (wsr (v238) 5 z z z (by kernel_rfl) (fun w hst => z) (wsr (v238) 6 z z z (by kernel_rfl) (fun w hst => z) (wsr (.int .i64 (((y187.2 ++ ([t221]))).length : Int)) 7 z z z (by kernel_rfl) (fun w hst => x_len z underlying49 hst.sv0) (wsr (.int .i64 (i64.wrap ((((y187.2 ++ ([t221]))).length : Int) - (256:Int)))) 8 z z z (by kernel_rfl) (fun w hst => z) (wsr (.int .i64 (if (i64.wrap ((((y187.2 ++ ([t221]))).length : Int) - (256:Int))) > (0:Int) then (i64.wrap ((((y187.2 ++ ([t221]))).length : Int) - (256:Int))) else (0:Int))) 9 z z z (by kernel_rfl) (fun w hst => by kernel_rfl) ?_)))))))))
 obtain ⟨hg242, hm⟩ := gd_some hm
 obtain ⟨h243, h244, h245⟩ := fits_of hg242
 refine wsr ((slcV 1 v238 (if (i64.wrap ((((y187.2 ++ ([t221]))).length : Int) - (256:Int))) > (0:Int) then (i64.wrap ((((y187.2 ++ ([t221]))).length : Int) - (256:Int))) else (0:Int)).toNat ((((y187.2 ++ ([t221]))).length : Nat) : Int).toNat)) 10 z z z (by kernel_rfl) (fun w hst => x_slice underlying49 sizeOf24 z hst.sv0 h243 h244 h245 .i64 .i64 (.inl z) (.inr ⟨z, z⟩)) ?_
 refine ws_e1 11 (by kernel_rfl) ?_
 refine nxe [] (by kernel_rfl) z z ?_
 clear hst
 intro w hst
 replace hst := hst.own_part h244 h245 h243
 replace hst := hst.pull2
 obtain ⟨w247, hr248, hst⟩ := run_putC (P := prog) hst key3_23 underlying50 hc220 (slcV 1 v238 (if (i64.wrap ((((y187.2 ++ ([t221]))).length : Int) - (256:Int))) > (0:Int) then (i64.wrap ((((y187.2 ++ ([t221]))).length : Int) - (256:Int))) else (0:Int)).toNat ((((y187.2 ++ ([t221]))).length : Nat) : Int).toNat)
 refine we_unit z (x_put (kv := (lk a1.From a1.To a1.Lane)) z z z hr248) ?_
 refine ws_next (pend' := []) hst (by kernel_rfl) pk_nil ?_
 refine ws_nil ?_
 intro w hst
 refine tn (wp_seq (wrl (wv (.int .i64 (0:Int)) z z z (wl_nil (tn (wp_ret ?_))))))
 replace hst := hst.pull1.C_mapO (kf := kv_net_Link) (kk := a1)
 replace hst := hst.pull3.pull3
 replace hst := at_net_Net_close (pv := Pt b182 0) (x := ({ p := o0.p, m := (some (a1, (subs (y187.2 ++ ([t221])) (if (i64.wrap ((((y187.2 ++ ([t221]))).length : Int) - (256:Int))) > (0:Int) then (i64.wrap ((((y187.2 ++ ([t221]))).length : Int) - (256:Int))) else (0:Int)) ((((y187.2 ++ ([t221]))).length : Nat) : Int)))) } : net_Net)) hst z
 replace hst := objO_some hst
 obtain rfl := some_inj hm
 refine post_ret (vs := [Zi]) results7 (rvs_cons (rv_tmp z) rvs_nil) ?_
 exact ⟨_, z, hI0, hst.keep1⟩
}
 {
 replace hm := bif_f hc220 hm
 refine wp_region_St hst 11 [0, 1, 2, 3, 4, 5, 6, 7, 8, 9, 10] [0, 1, 3, 7, 0, 31, 0, 64, 192, 511, 1023] [] z (by kernel_rfl) (by kernel_rfl) Try.mixed (by kernel_rfl) ?_
 refine wsr (Pt b182 0) 0 z z z (by kernel_rfl) (fun w hst => z) (wsr (Pt b182 0) 1 z z z (by kernel_rfl) (fun w hst => z) (wsr (Pt b182 1) 2 z z z (by kernel_rfl) (fun w hst => x_field z underlying52 z sizeOf50 z) (wsr (v185) 3 z z z (by kernel_rfl) (fun w hst => x_load z isAgg50 (hst.bc2 z)) (wsr (.agg #[I6 a1.From, I6 a1.To, I6 a1.Lane]) 4 z z z (by kernel_rfl) (fun w hst => x_loadN (cs := [I6 a1.From, I6 a1.To, I6 a1.Lane]) z isAgg23 sizeOf23 (hst.bcs4 0 z)) (wsr ((.slice none 0 0)) 5 z z z (by kernel_rfl) (fun w hst => x_look (kv := (lk a1.From a1.To a1.Lane)) z z (run_lookN hst (j := 1) z key3_23 underlying50 (fun _ => by kernel_rfl) hc220)) (wsr (r2_0) 6 z z z (by kernel_rfl) (fun w hst => z) ?_))))))
 refine ws_e1 7 (by kernel_rfl) ?_
 refine nxe [8, 9, 10] (by kernel_rfl) z z ?_
 clear hst
 intro w hst
 obtain ⟨t250, ht251, hm⟩ := bind_some hm
 refine wec call15 [r2_0] z z ?_
 refine (slices_Clone_byte_byte_ref (f2_0.mono (rd_weak _)) hst.to0 ht251).mono ?_
 rintro _ w252 ⟨v255, rfl, hst⟩
 refine ⟨_, z, ?_⟩
 replace hst := hst.of1
 refine ws_next (pend' := [(5, Zs), (4, .agg #[I6 a1.From, I6 a1.To, I6 a1.Lane]), (3, v185), (2, Pt b182 1), (1, Pt b182 0), (0, Pt b182 0)]) hst (by kernel_rfl) (pkr z z (fun w hst => x_look (kv := (lk a1.From a1.To a1.Lane)) z z (run_lookN hst (j := 2) z key3_23 underlying50 (fun _ => by kernel_rfl) hc220)) (pkr z z (fun w hst => x_loadN (cs := [I6 a1.From, I6 a1.To, I6 a1.Lane]) z isAgg23 sizeOf23 (hst.bcs5 0 z)) (pkr z z (fun w hst => x_load z isAgg50 (hst.bc3 z)) (pkr z z (fun w hst => x_field z underlying52 z sizeOf50 z) (pkr z z (fun w hst => z) (pkr z z (fun w hst => z) pk_nil)))))) ?_
 refine ws_e1 8 (by kernel_rfl) ?_
 refine nxe [9, 10] (by kernel_rfl) z z ?_
 clear hst
 intro w hst
 obtain ⟨I258, hI259, f260, hst⟩ := hst.own_fix
 replace f2_0 := f2_0.mono (rd_le hI259)
 replace hI0 := hI0.trans hI259
 obtain ⟨b261, w262, ew263, eb264, hst⟩ := hst.lits (E := (tySl (tyInt .u8))) (xs := [t250]) [[v255]] 24 1 z (Reps.cons ⟨_, z, f260, one_of_sliceV (ro_sliceV f260)⟩ Reps.nil)
 refine we_run (v := (.slice (some ⟨b261, 0, none⟩) 1 1)) (w' := w262) z (x_als (by obtain ⟨_, _, hv_, _⟩ := (ro_sliceV f260); rw [hv_]; kernel_rfl) ew263 eb264) ?_
 refine ws_next (pend' := [(5, Zs), (4, .agg #[I6 a1.From, I6 a1.To, I6 a1.Lane]), (3, v185), (2, Pt b182 1), (1, Pt b182 0), (0, Pt b182 0)]) hst (by kernel_rfl) (pkr z z (fun w hst => x_look (kv := (lk a1.From a1.To a1.Lane)) z z (run_lookN hst (j := 2) z key3_23 underlying50 (fun _ => by kernel_rfl) hc220)) (pkr z z (fun w hst => x_loadN (cs := [I6 a1.From, I6 a1.To, I6 a1.Lane]) z isAgg23 sizeOf23 (hst.bcs5 0 z)) (pkr z z (fun w hst => x_load z isAgg50 (hst.bc3 z)) (pkr z z (fun w hst => x_field z underlying52 z sizeOf50 z) (pkr z z (fun w hst => z) (pkr z z (fun w hst => z) pk_nil)))))) ?_
 refine ws_e1 9 (by kernel_rfl) ?_
 refine nxe [10] (by kernel_rfl) z z ?_
 clear hst
 intro w hst
 replace hst := hst.own_nil (tySl (tyInt .u8))
 obtain ⟨hg266, hm⟩ := gd_some hm
 obtain ⟨v267, w268, hr269, hst⟩ := run_append elem_49 underlying49 hst hst.src1 (room_of hg266 z) 49
 replace hst := St.nil_app hst
 refine we_run (v := v267) (w' := w268) z (x_append z z hr269) ?_
 refine ws_next (pend' := []) hst (by kernel_rfl) pk_nil ?_
 refine wsr (v267) 10 z z z (by kernel_rfl) (fun w hst => z) ?_
 refine ws_nil ?_
 intro w hst
 refine tn (wp_seq ?_)
 refine wp_region_St hst 12 [0, 1, 2, 3, 4, 5, 6, 7, 8, 9, 10, 11] [0, 1, 3, 7, 0, 0, 0, 64, 192, 448, 992, 2047] [] z (by kernel_rfl) (by kernel_rfl) Try.mixed (by kernel_rfl) ?_
 refine wsr (Pt b182 0) 0 z z z (by kernel_rfl) (fun w hst => z) (wsr (Pt b182 0) 1 z z z (by kernel_rfl) (fun w hst => z) (wsr (Pt b182 1) 2 z z z (by kernel_rfl) (fun w hst => x_field z underlying52 z sizeOf50 z) (wsr (v185) 3 z z z (by kernel_rfl) (fun w hst => x_load z isAgg50 (hst.bc4 z)) (wsr (.agg #[I6 a1.From, I6 a1.To, I6 a1.Lane]) 4 z z z (by kernel_rfl) (fun w hst => x_loadN (cs := [I6 a1.From, I6 a1.To, I6 a1.Lane]) z isAgg23 sizeOf23 (hst.bcs6 0 z)) (wsr (v267) 5 z z z (by kernel_rfl) (fun w hst => z) (wsr (v267) 6 z z z (by kernel_rfl) (fun w hst => z) (wsr (.int .i64 (([t250]).length : Int)) 7 z z z (by kernel_rfl) (fun w hst => x_len z underlying49 hst.sv0) (wsr (.int .i64 (i64.wrap ((([t250]).length : Int) - (256:Int)))) 8 z z z (by kernel_rfl) (fun w hst => z) (wsr (.int .i64 (if (i64.wrap ((([t250]).length : Int) - (256:Int))) > (0:Int) then (i64.wrap ((([t250]).length : Int) - (256:Int))) else (0:Int))) 9 z z z (by kernel_rfl) (fun w hst => by kernel_rfl) ?_)))))))))
 obtain ⟨hg271, hm⟩ := gd_some hm
 obtain ⟨h272, h273, h274⟩ := fits_of hg271
 refine wsr ((slcV 1 v267 (if (i64.wrap ((([t250]).length : Int) - (256:Int))) > (0:Int) then (i64.wrap ((([t250]).length : Int) - (256:Int))) else (0:Int)).toNat ((([t250]).length : Nat) : Int).toNat)) 10 z z z (by kernel_rfl) (fun w hst => x_slice underlying49 sizeOf24 z hst.sv0 h272 h273 h274 .i64 .i64 (.inl z) (.inr ⟨z, z⟩)) ?_
 refine ws_e1 11 (by kernel_rfl) ?_
 cases hm
}
}
}
}
}

theorem net_Net_place_ref {w0 w : World} {I : HL} {R : SP} {a0 : (Option net_Net)} {p0 : Value} {a1 : net_Link} {a2 : Int}  (hst : St w0 w I [objO at_net_Net p0 a0] R) {r : (Int)} (hm : net_Net_place a0 a1 a2 = some r) :
  Calls prog 16 #[p0, .agg #[I6 a1.From, I6 a1.To, I6 a1.Lane], I6 a2] w fun e w' => e = .returned (.int .i64 r) ∧ St w0 w' I [objO at_net_Net p0 a0] R := by {
 rcases a0 with _ | o0
 {
 obtain ⟨rfl, hst'⟩ := objO_none hst
 clear hst
 have hst := hst'
 clear hst'
 dsimp only [net_Net_place] at hm
 refine calls_start (args := [.pointer none, .agg #[I6 a1.From, I6 a1.To, I6 a1.Lane], I6 a2]) func16 z ntmps16 (Nat.le_of_ble_eq_true z) ?_
 refine wp_seq (wrl ?_)
 obtain ⟨b150, w151, ew152, eb153, hst⟩ := hst.box [I6 a1.From, I6 a1.To, I6 a1.Lane] 23
 refine wl_run (v := Pt b150 0) (w' := w151) z z (x_al (by kernel_rfl) ew152 eb153) ?_
 refine wv (.int .i64 (0:Int)) z z z (wl_nil (tn (wp_seq (wp_seq ?_))))
 refine wp_region_St hst 14 [0, 1, 2, 3, 4, 5, 6, 7, 8, 9, 10, 11, 12, 13] [0, 0, 3, 7, 15, 31, 63, 127, 255, 31, 1023, 2047, 4095, 8191] [] z (by kernel_rfl) (by kernel_rfl) Try.mixed (by kernel_rfl) ?_
 refine wsr (.pointer none) 0 z z z (by kernel_rfl) (fun w hst => z) (wsr (.agg #[I6 a1.From, I6 a1.To, I6 a1.Lane]) 1 z z z (by kernel_rfl) (fun w hst => x_loadN (cs := [I6 a1.From, I6 a1.To, I6 a1.Lane]) z isAgg23 sizeOf23 (hst.bcs0 0 z)) ?_)
 refine ws_e1 2 (by kernel_rfl) ?_
 refine nxe [3, 4, 5, 6, 7, 8, 9, 10, 11, 12, 13] (by kernel_rfl) z z ?_
 clear hst
 intro w hst
 replace hst := hst.objO_nil at_net_Net
 obtain ⟨t156, ht157, hm⟩ := bind_some hm
 refine wec call14 [.pointer none, .agg #[I6 a1.From, I6 a1.To, I6 a1.Lane]] z z ?_
 refine (net_Net_is_ref hst.to1 ht157).mono ?_
 rintro _ w158 ⟨rfl, hst⟩
 refine ⟨_, z, ?_⟩
 replace hst := hst.of1
 refine ws_next (pend' := []) hst (by kernel_rfl) pk_nil ?_
 refine wsr (.bool (!t156)) 3 z z z (by kernel_rfl) (fun w hst => z) (wsr (.bool (!t156)) 4 z z z (by kernel_rfl) (fun w hst => z) ?_)
 refine bsplit (!t156) (fun hc161 => ?_) (fun hc161 => ?_)
 {
 replace hm := bif_t hc161 hm
 refine ws_q (v := undef) 5 [6, 7, 8, 9, 10, 11, 12, 13] (by kernel_rfl) z z (yi_off ((wanted_eq z z z (cvb hc161)).trans z)) (ws_q (v := undef) 6 [7, 8, 9, 10, 11, 12, 13] (by kernel_rfl) z z (yi_off ((wanted_eq z z z (cvb hc161)).trans z)) (ws_q (v := undef) 7 [8, 9, 10, 11, 12, 13] (by kernel_rfl) z z (yi_off ((wanted_eq z z z (cvb hc161)).trans z)) (ws_q (v := undef) 8 [9, 10, 11, 12, 13] (by kernel_rfl) z z (yi_off ((wanted_eq z z z (cvb hc161)).trans z)) (ws_q (v := undef) 9 [10, 11, 12, 13] (by kernel_rfl) z z (yi_off ((wanted_eq z z z (cvb hc161)).trans z)) (ws_q (v := undef) 10 [11, 12, 13] (by kernel_rfl) z z (yi_off ((wanted_eq z z z (cvb hc161)).trans z)) (ws_q (v := undef) 11 [12, 13] (by kernel_rfl) z z (yi_off ((wanted_eq z z z (cvb hc161)).trans z)) (ws_q (v := undef) 12 [13] (by kernel_rfl) z z (yi_off ((wanted_eq z z z (cvb hc161)).trans z)) (wsr (.bool true) 13 z z z (by kernel_rfl) (fun w hst => x_pick_t hc161 z z) ?_))))))))
 refine ws_nil ?_
 intro w hst
 refine tn ?_
 refine wp_ift z ?_
 refine wp_seq (wrl (wv (.int .i64 ((-1):Int)) z z z (wl_nil (tn (wp_ret (then_r ?_))))))
 replace hst := hst.objO_nil at_net_Net
 obtain rfl := some_inj hm
 refine post_ret (vs := [I6 ((-1):Int)]) results16 (rvs_cons (rv_tmp z) rvs_nil) ?_
 exact ⟨z, hst.keep1⟩
}
 {
 replace hm := bif_f hc161 hm
 refine ws_q (v := .pointer none) 5 [6, 7, 8, 9, 10, 11, 12, 13] (by kernel_rfl) z z (yi_run ((wanted_eq z z z (cvb hc161)).trans z) (fun w hst => z)) ?_
 cases hm
}
}
 {
 replace hst := objO_get hst
 dsimp only [net_Net_place] at hm
 refine calls_start (args := [p0, .agg #[I6 a1.From, I6 a1.To, I6 a1.Lane], I6 a2]) func16 z ntmps16 (Nat.le_of_ble_eq_true z) ?_
 refine wp_seq (wrl ?_)
 obtain ⟨b162, w163, ew164, eb165, hst⟩ := hst.box [I6 a1.From, I6 a1.To, I6 a1.Lane] 23
 refine wl_run (v := Pt b162 0) (w' := w163) z z (x_al (by kernel_rfl) ew164 eb165) ?_
 refine wv (.int .i64 (0:Int)) z z z (wl_nil (tn (wp_seq (wp_seq ?_))))
 replace hst := hst.pull1
 obtain ⟨b167, v168, v170, rfl, hst'⟩ := at_net_Net_open hst
 clear hst
 have hst := hst'
 clear hst'
 rcases he173 : o0.m with _ | y172
 {
 rw [he173] at hm hst
 dsimp only at hm
 replace hst := hst.pull2.mapO_E
 refine wp_region_St hst 14 [0, 1, 2, 3, 4, 5, 6, 7, 8, 9, 10, 11, 12, 13] [0, 0, 3, 7, 15, 31, 63, 127, 255, 31, 1023, 2047, 4095, 8191] [] z (by kernel_rfl) (by kernel_rfl) Try.mixed (by kernel_rfl) ?_
 refine wsr (Pt b167 0) 0 z z z (by kernel_rfl) (fun w hst => z) (wsr (.agg #[I6 a1.From, I6 a1.To, I6 a1.Lane]) 1 z z z (by kernel_rfl) (fun w hst => x_loadN (cs := [I6 a1.From, I6 a1.To, I6 a1.Lane]) z isAgg23 sizeOf23 (hst.bcs3 0 z)) ?_)
 refine ws_e1 2 (by kernel_rfl) ?_
 refine nxe [3, 4, 5, 6, 7, 8, 9, 10, 11, 12, 13] (by kernel_rfl) z z ?_
 clear hst
 intro w hst
 replace hst := hst.E_mapO (E := (tySl (tyInt .u8))) (kf := kv_net_Link)
 rw [← he173] at hst
 replace hst := hst.pull2.pull2
 replace hst := at_net_Net_close (pv := Pt b167 0) (x := o0) hst z
 replace hst := objO_some hst
 obtain ⟨t174, ht175, hm⟩ := bind_some hm
 refine wec call14 [Pt b167 0, .agg #[I6 a1.From, I6 a1.To, I6 a1.Lane]] z z ?_
 refine (net_Net_is_ref hst.to1 ht175).mono ?_
 rintro _ w176 ⟨rfl, hst⟩
 refine ⟨_, z, ?_⟩
 replace hst := hst.of1
 replace hst := objO_get hst
 obtain ⟨b179, v180, v182, e184, hst'⟩ := at_net_Net_open hst
 clear hst
 have e184 := ptr_inj e184
 subst e184
 have hst := hst'
 clear hst'
 rw [he173] at hst
 replace hst := hst.pull2.mapO_E
 refine ws_next (pend' := []) hst (by kernel_rfl) pk_nil ?_
 refine wsr (.bool (!t174)) 3 z z z (by kernel_rfl) (fun w hst => z) (wsr (.bool (!t174)) 4 z z z (by kernel_rfl) (fun w hst => z) ?_)
 refine bsplit (!t174) (fun hc187 => ?_) (fun hc187 => ?_)
 {
 replace hm := bif_t hc187 hm
 refine ws_q (v := undef) 5 [6, 7, 8, 9, 10, 11, 12, 13] (by kernel_rfl) z z (yi_off ((wanted_eq z z z (cvb hc187)).trans z)) (ws_q (v := undef) 6 [7, 8, 9, 10, 11, 12, 13] (by kernel_rfl) z z (yi_off ((wanted_eq z z z (cvb hc187)).trans z)) (ws_q (v := undef) 7 [8, 9, 10, 11, 12, 13] (by kernel_rfl) z z (yi_off ((wanted_eq z z z (cvb hc187)).trans z)) (ws_q (v := undef) 8 [9, 10, 11, 12, 13] (by kernel_rfl) z z (yi_off ((wanted_eq z z z (cvb hc187)).trans z)) (ws_q (v := undef) 9 [10, 11, 12, 13] (by kernel_rfl) z z (yi_off ((wanted_eq z z z (cvb hc187)).trans z)) (ws_q (v := undef) 10 [11, 12, 13] (by kernel_rfl) z z (yi_off ((wanted_eq z z z (cvb hc187)).trans z)) (ws_q (v := undef) 11 [12, 13] (by kernel_rfl) z z (yi_off ((wanted_eq z z z (cvb hc187)).trans z)) (ws_q (v := undef) 12 [13] (by kernel_rfl) z z (yi_off ((wanted_eq z z z (cvb hc187)).trans z)) (wsr (.bool true) 13 z z z (by kernel_rfl) (fun w hst => x_pick_t hc187 z z) ?_))))))))
 refine ws_nil ?_
 intro w hst
 refine tn ?_
 refine wp_ift z ?_
 refine wp_seq (wrl (wv (.int .i64 ((-1):Int)) z z z (wl_nil (tn (wp_ret (then_r ?_))))))
 replace hst := hst.E_mapO (E := (tySl (tyInt .u8))) (kf := kv_net_Link)
 rw [← he173] at hst
 replace hst := hst.pull2.pull2
 replace hst := at_net_Net_close (pv := Pt b167 0) (x := o0) hst z
 replace hst := objO_some hst
 obtain rfl := some_inj hm
 refine post_ret (vs := [I6 ((-1):Int)]) results16 (rvs_cons (rv_tmp z) rvs_nil) ?_
 exact ⟨z, hst.keep1⟩
}
 {
 replace hm := bif_f hc187 hm
 refine ws_q (v := Pt b167 0) 5 [6, 7, 8, 9, 10, 11, 12, 13] (by kernel_rfl) z z (yi_run ((wanted_eq z z z (cvb hc187)).trans z) (fun w hst => z)) (ws_q (v := Pt b167 0) 6 [7, 8, 9, 10, 11, 12, 13] (by kernel_rfl) z z (yi_run ((wanted_eq z z z (cvb hc187)).trans z) (fun w hst => z)) (ws_q (v := Pt b167 1) 7 [8, 9, 10, 11, 12, 13] (by kernel_rfl) z z (yi_run ((wanted_eq z z z (cvb hc187)).trans z) (fun w hst => x_field z underlying52 z sizeOf50 z)) (ws_q (v := v182) 8 [9, 10, 11, 12, 13] (by kernel_rfl) z z (yi_run ((wanted_eq z z z (cvb hc187)).trans z) (fun w hst => x_load z isAgg50 (hst.bc1 z))) (ws_q (v := .agg #[I6 a1.From, I6 a1.To, I6 a1.Lane]) 9 [10, 11, 12, 13] (by kernel_rfl) z z (yi_run ((wanted_eq z z z (cvb hc187)).trans z) (fun w hst => x_loadN (cs := [I6 a1.From, I6 a1.To, I6 a1.Lane]) z isAgg23 sizeOf23 (hst.bcs3 0 z))) (ws_q (v := (.slice none 0 0)) 10 [11, 12, 13] (by kernel_rfl) z z (yi_run ((wanted_eq z z z (cvb hc187)).trans z) (fun w hst => x_look (kv := (lk a1.From a1.To a1.Lane)) z z (run_lookE hst (j := 0) z key3_23 underlying50 (fun _ => by kernel_rfl)))) (ws_q (v := .int .i64 ((([] : List (List Int))).length : Int)) 11 [12, 13] (by kernel_rfl) z z (yi_run ((wanted_eq z z z (cvb hc187)).trans z) (fun w hst => x_len z underlying49 SliceV.nil)) (ws_q (v := .bool (((([] : List (List Int))).length : Int) == (0:Int))) 12 [13] (by kernel_rfl) z z (yi_run ((wanted_eq z z z (cvb hc187)).trans z) (fun w hst => z)) (wsr (.bool (((([] : List (List Int))).length : Int) == (0:Int))) 13 z z z (by kernel_rfl) (fun w hst => x_pick_f hc187 z z) ?_))))))))
 refine ws_nil ?_
 intro w hst
 refine tn ?_
 refine bsplit (((([] : List (List Int))).length : Int) == (0:Int)) (fun hc189 => ?_) (fun hc189 => ?_)
 {
 replace hm := bif_t hc189 hm
 refine wp_ift (cvb hc189) ?_
 refine wp_seq (wrl (wv (.int .i64 ((-1):Int)) z z z (wl_nil (tn (wp_ret (then_r ?_))))))
 replace hst := hst.E_mapO (E := (tySl (tyInt .u8))) (kf := kv_net_Link)
 rw [← he173] at hst
 replace hst := hst.pull2.pull2
 replace hst := at_net_Net_close (pv := Pt b167 0) (x := o0) hst z
 replace hst := objO_some hst
 obtain rfl := some_inj hm
 refine post_ret (vs := [I6 ((-1):Int)]) results16 (rvs_cons (rv_tmp z) rvs_nil) ?_
 exact ⟨z, hst.keep1⟩
}
 {
 replace hm := bif_f hc189 hm
 refine wp_iff (cvb hc189) ?_
 refine wp_skip (tn (wp_seq ?_))
 refine wq_regionS hst Try.mixed (by kernel_rfl) ?_
 refine wq_run (v := Pt b167 0) z z (fun w hst => z) ?_
 refine wq_run (v := Pt b167 0) z z (fun w hst => z) ?_
 refine wq_run (v := Pt b167 1) z z (fun w hst => x_field z underlying52 z sizeOf50 z) ?_
 refine wq_run (v := v182) z z (fun w hst => x_load z isAgg50 (hst.bc1 z)) ?_
 refine wq_run (v := .agg #[I6 a1.From, I6 a1.To, I6 a1.Lane]) z z (fun w hst => x_loadN (cs := [I6 a1.From, I6 a1.To, I6 a1.Lane]) z isAgg23 sizeOf23 (hst.bcs3 0 z)) ?_
 refine wq_run (v := (.slice none 0 0)) z z (fun w hst => x_look (kv := (lk a1.From a1.To a1.Lane)) z z (run_lookE hst (j := 0) z key3_23 underlying50 (fun _ => by kernel_rfl))) ?_
 refine wq_run (v := .int .i64 ((([] : List (List Int))).length : Int)) z z (fun w hst => x_len z underlying49 SliceV.nil) ?_
 refine wq_run (v := .int .i64 ((([] : List (List Int))).length : Int)) z z (fun w hst => z) ?_
 refine wq_nil ?_
 intro w hst
 refine tn (wp_seq (wrl (wv (.int .i64 a2) z z z (wv (.int .u64 (u64.wrap a2)) z z (by kernel_rfl) (wv (.int .i64 ((([] : List (List Int))).length : Int)) z z z (wv (.int .u64 (u64.wrap ((([] : List (List Int))).length : Int))) z z (by kernel_rfl) ?_))))))
 obtain ⟨hg191, hm⟩ := gd_some hm
 refine wv (.int .u64 (Int.tmod (u64.wrap a2) (u64.wrap ((([] : List (List Int))).length : Int)))) z z (x_rem (not_t hg191) z z) (wv (.int .i64 (i64.wrap (Int.tmod (u64.wrap a2) (u64.wrap ((([] : List (List Int))).length : Int))))) z z (by kernel_rfl) (wv (.int .i64 (i64.wrap (Int.tmod (u64.wrap a2) (u64.wrap ((([] : List (List Int))).length : Int))))) z z z (wl_nil (tn (wp_ret ?_)))))
 replace hst := hst.E_mapO (E := (tySl (tyInt .u8))) (kf := kv_net_Link)
 rw [← he173] at hst
 replace hst := hst.pull2.pull2
 replace hst := at_net_Net_close (pv := Pt b167 0) (x := o0) hst z
 replace hst := objO_some hst
 obtain rfl := some_inj hm
 refine post_ret (vs := [I6 (i64.wrap (Int.tmod (u64.wrap a2) (u64.wrap ((([] : List (List Int))).length : Int))))]) results16 (rvs_cons (rv_tmp z) rvs_nil) ?_
 exact ⟨z, hst.keep1⟩
}
}
}
 {
 rw [he173] at hm hst
 dsimp only at hm
 replace hst := hst.pull2
 obtain ⟨v192, hst⟩ := hst.mapO_C
 refine bsplit ((a1.From == y172.1.From) && (a1.To == y172.1.To) && (a1.Lane == y172.1.Lane)) (fun hc194 => ?_) (fun hc194 => ?_)
 {
 replace hm := bif_t hc194 hm
 refine wp_region_St hst 14 [0, 1, 2, 3, 4, 5, 6, 7, 8, 9, 10, 11, 12, 13] [0, 0, 3, 7, 15, 31, 63, 127, 255, 31, 1023, 2047, 4095, 8191] [] z (by kernel_rfl) (by kernel_rfl) Try.mixed (by kernel_rfl) ?_
 refine wsr (Pt b167 0) 0 z z z (by kernel_rfl) (fun w hst => z) (wsr (.agg #[I6 a1.From, I6 a1.To, I6 a1.Lane]) 1 z z z (by kernel_rfl) (fun w hst => x_loadN (cs := [I6 a1.From, I6 a1.To, I6 a1.Lane]) z isAgg23 sizeOf23 (hst.bcs4 0 z)) ?_)
 refine ws_e1 2 (by kernel_rfl) ?_
 refine nxe [3, 4, 5, 6, 7, 8, 9, 10, 11, 12, 13] (by kernel_rfl) z z ?_
 clear hst
 intro w hst
 replace hst := hst.pull1.pull1.C_mapO (kf := kv_net_Link) (kk := y172.1)
 replace hst := St.eqO he173 hst
 replace hst := hst.pull2.pull2
 replace hst := at_net_Net_close (pv := Pt b167 0) (x := o0) hst z
 replace hst := objO_some hst
 obtain ⟨t195, ht196, hm⟩ := bind_some hm
 refine wec call14 [Pt b167 0, .agg #[I6 a1.From, I6 a1.To, I6 a1.Lane]] z z ?_
 refine (net_Net_is_ref hst.to1 ht196).mono ?_
 rintro _ w197 ⟨rfl, hst⟩
 refine ⟨_, z, ?_⟩
 replace hst := hst.of1
 replace hst := objO_get hst
 obtain ⟨b200, v201, v203, e205, hst'⟩ := at_net_Net_open hst
 clear hst
 have e205 := ptr_inj e205
 subst e205
 have hst := hst'
 clear hst'
 rw [he173] at hst
 replace hst := hst.pull2
 obtain ⟨v208, hst⟩ := hst.mapO_C
 refine ws_next (pend' := []) hst (by kernel_rfl) pk_nil ?_
 refine wsr (.bool (!t195)) 3 z z z (by kernel_rfl) (fun w hst => z) (wsr (.bool (!t195)) 4 z z z (by kernel_rfl) (fun w hst => z) ?_)
 refine bsplit (!t195) (fun hc210 => ?_) (fun hc210 => ?_)
 {
 replace hm := bif_t hc210 hm
 refine ws_q (v := undef) 5 [6, 7, 8, 9, 10, 11, 12, 13] (by kernel_rfl) z z (yi_off ((wanted_eq z z z (cvb hc210)).trans z)) (ws_q (v := undef) 6 [7, 8, 9, 10, 11, 12, 13] (by kernel_rfl) z z (yi_off ((wanted_eq z z z (cvb hc210)).trans z)) (ws_q (v := undef) 7 [8, 9, 10, 11, 12, 13] (by kernel_rfl) z z (yi_off ((wanted_eq z z z (cvb hc210)).trans z)) (ws_q (v := undef) 8 [9, 10, 11, 12, 13] (by kernel_rfl) z z (yi_off ((wanted_eq z z z (cvb hc210)).trans z)) (ws_q (v := undef) 9 [10, 11, 12, 13] (by kernel_rfl) z z (yi_off ((wanted_eq z z z (cvb hc210)).trans z)) (ws_q (v := undef) 10 [11, 12, 13] (by kernel_rfl) z z (yi_off ((wanted_eq z z z (cvb hc210)).trans z)) (ws_q (v := undef) 11 [12, 13] (by kernel_rfl) z z (yi_off ((wanted_eq z z z (cvb hc210)).trans z)) (ws_q (v := undef) 12 [13] (by kernel_rfl) z z (yi_off ((wanted_eq z z z (cvb hc210)).trans z)) (wsr (.bool true) 13 z z z (by kernel_rfl) (fun w hst => x_pick_t hc210 z z) ?_))))))))
 refine ws_nil ?_
 intro w hst
 refine tn ?_
 refine wp_ift z ?_
 refine wp_seq (wrl (wv (.int .i64 ((-1):Int)) z z z (wl_nil (tn (wp_ret (then_r ?_))))))
 replace hst := hst.pull1.pull1.C_mapO (kf := kv_net_Link) (kk := y172.1)
 replace hst := St.eqO he173 hst
 replace hst := hst.pull2.pull2
 replace hst := at_net_Net_close (pv := Pt b167 0) (x := o0) hst z
 replace hst := objO_some hst
 obtain rfl := some_inj hm
 refine post_ret (vs := [I6 ((-1):Int)]) results16 (rvs_cons (rv_tmp z) rvs_nil) ?_
 exact ⟨z, hst.keep1⟩
}
 {
 replace hm := bif_f hc210 hm
 refine ws_q (v := Pt b167 0) 5 [6, 7, 8, 9, 10, 11, 12, 13] (by kernel_rfl) z z (yi_run ((wanted_eq z z z (cvb hc210)).trans z) (fun w hst => z)) (ws_q (v := Pt b167 0) 6 [7, 8, 9, 10, 11, 12, 13] (by kernel_rfl) z z (yi_run ((wanted_eq z z z (cvb hc210)).trans z) (fun w hst => z)) (ws_q (v := Pt b167 1) 7 [8, 9, 10, 11, 12, 13] (by kernel_rfl) z z (yi_run ((wanted_eq z z z (cvb hc210)).trans z) (fun w hst => x_field z underlying52 z sizeOf50 z)) (ws_q (v := v203) 8 [9, 10, 11, 12, 13] (by kernel_rfl) z z (yi_run ((wanted_eq z z z (cvb hc210)).trans z) (fun w hst => x_load z isAgg50 (hst.bc2 z))) (ws_q (v := .agg #[I6 a1.From, I6 a1.To, I6 a1.Lane]) 9 [10, 11, 12, 13] (by kernel_rfl) z z (yi_run ((wanted_eq z z z (cvb hc210)).trans z) (fun w hst => x_loadN (cs := [I6 a1.From, I6 a1.To, I6 a1.Lane]) z isAgg23 sizeOf23 (hst.bcs4 0 z))) (ws_q (v := v208) 10 [11, 12, 13] (by kernel_rfl) z z (yi_run ((wanted_eq z z z (cvb hc210)).trans z) (fun w hst => x_look (kv := (lk a1.From a1.To a1.Lane)) z z (run_lookC hst (j := 1) z key3_23 underlying50 hc194))) (ws_q (v := .int .i64 ((y172.2).length : Int)) 11 [12, 13] (by kernel_rfl) z z (yi_run ((wanted_eq z z z (cvb hc210)).trans z) (fun w hst => x_len z underlying49 hst.sv0)) (ws_q (v := .bool (((y172.2).length : Int) == (0:Int))) 12 [13] (by kernel_rfl) z z (yi_run ((wanted_eq z z z (cvb hc210)).trans z) (fun w hst => z)) (wsr (.bool (((y172.2).length : Int) == (0:Int))) 13 z z z (by kernel_rfl) (fun w hst => x_pick_f hc210 z z) ?_))))))))
 refine ws_nil ?_
 intro w hst
 refine tn ?_
 refine bsplit (((y172.2).length : Int) == (0:Int)) (fun hc211 => ?_) (fun hc211 => ?_)
 {
 replace hm := bif_t hc211 hm
 refine wp_ift (cvb hc211) ?_
 refine wp_seq (wrl (wv (.int .i64 ((-1):Int)) z z z (wl_nil (tn (wp_ret (then_r ?_))))))
 replace hst := hst.pull1.pull1.C_mapO (kf := kv_net_Link) (kk := y172.1)
 replace hst := St.eqO he173 hst
 replace hst := hst.pull2.pull2
 replace hst := at_net_Net_close (pv := Pt b167 0) (x := o0) hst z
 replace hst := objO_some hst
 obtain rfl := some_inj hm
 refine post_ret (vs := [I6 ((-1):Int)]) results16 (rvs_cons (rv_tmp z) rvs_nil) ?_
 exact ⟨z, hst.keep1⟩
}
 {
 replace hm := bif_f hc211 hm
 refine wp_iff (cvb hc211) ?_
 refine wp_skip (tn (wp_seq ?_))
 refine wq_regionS hst Try.mixed (by kernel_rfl) ?_
 refine wq_run (v := Pt b167 0) z z (fun w hst => z) ?_
 refine wq_run (v := Pt b167 0) z z (fun w hst => z) ?_
 refine wq_run (v := Pt b167 1) z z (fun w hst => x_field z underlying52 z sizeOf50 z) ?_
 refine wq_run (v := v203) z z (fun w hst => x_load z isAgg50 (hst.bc2 z)) ?_
 refine wq_run (v := .agg #[I6 a1.From, I6 a1.To, I6 a1.Lane]) z z (fun w hst => x_loadN (cs := [I6 a1.From, I6 a1.To, I6 a1.Lane]) z isAgg23 sizeOf23 (hst.bcs4 0 z)) ?_
 refine wq_run (v := v208) z z (fun w hst => x_look (kv := (lk a1.From a1.To a1.Lane)) z z (run_lookC hst (j := 1) z key3_23 underlying50 hc194)) ?_
 refine wq_run (v := .int .i64 ((y172.2).length : Int)) z z (fun w hst => x_len z underlying49 hst.sv0) ?_
 refine wq_run (v := .int .i64 ((y172.2).length : Int)) z z (fun w hst => z) ?_
 refine wq_nil ?_
 intro w hst
 refine tn (wp_seq (wrl (wv (.int .i64 a2) z z z (wv (.int .u64 (u64.wrap a2)) z z (by kernel_rfl) (wv (.int .i64 ((y172.2).length : Int)) z z z (wv (.int .u64 (u64.wrap ((y172.2).length : Int))) z z (by kernel_rfl) ?_))))))
 obtain ⟨hg212, hm⟩ := gd_some hm
 refine wv (.int .u64 (Int.tmod (u64.wrap a2) (u64.wrap ((y172.2).length : Int)))) z z (x_rem (not_t hg212) z z) (wv (.int .i64 (i64.wrap (Int.tmod (u64.wrap a2) (u64.wrap ((y172.2).length : Int))))) z z (by kernel_rfl) (wv (.int .i64 (i64.wrap (Int.tmod (u64.wrap a2) (u64.wrap ((y172.2).length : Int))))) z z z (wl_nil (tn (wp_ret ?_)))))
 replace hst := hst.pull1.pull1.C_mapO (kf := kv_net_Link) (kk := y172.1)
 replace hst := St.eqO he173 hst
 replace hst := hst.pull2.pull2
 replace hst := at_net_Net_close (pv := Pt b167 0) (x := o0) hst z
 replace hst := objO_some hst
 obtain rfl := some_inj hm
 refine post_ret (vs := [I6 (i64.wrap (Int.tmod (u64.wrap a2) (u64.wrap ((y172.2).length : Int))))]) results16 (rvs_cons (rv_tmp z) rvs_nil) ?_
 exact ⟨z, hst.keep1⟩
}
}
}
 {
 replace hm := bif_f hc194 hm
 refine wp_region_St hst 14 [0, 1, 2, 3, 4, 5, 6, 7, 8, 9, 10, 11, 12, 13] [0, 0, 3, 7, 15, 31, 63, 127, 255, 31, 1023, 2047, 4095, 8191] [] z (by kernel_rfl) (by kernel_rfl) Try.mixed (by kernel_rfl) ?_
 refine wsr (Pt b167 0) 0 z z z (by kernel_rfl) (fun w hst => z) (wsr (.agg #[I6 a1.From, I6 a1.To, I6 a1.Lane]) 1 z z z (by kernel_rfl) (fun w hst => x_loadN (cs := [I6 a1.From, I6 a1.To, I6 a1.Lane]) z isAgg23 sizeOf23 (hst.bcs4 0 z)) ?_)
 refine ws_e1 2 (by kernel_rfl) ?_
 refine nxe [3, 4, 5, 6, 7, 8, 9, 10, 11, 12, 13] (by kernel_rfl) z z ?_
 clear hst
 intro w hst
 replace hst := hst.pull1.pull1.C_mapO (kf := kv_net_Link) (kk := y172.1)
 replace hst := St.eqO he173 hst
 replace hst := hst.pull2.pull2
 replace hst := at_net_Net_close (pv := Pt b167 0) (x := o0) hst z
 replace hst := objO_some hst
 obtain ⟨t213, ht214, hm⟩ := bind_some hm
 refine wec call14 [Pt b167 0, .agg #[I6 a1.From, I6 a1.To, I6 a1.Lane]] z z ?_
 refine (net_Net_is_ref hst.to1 ht214).mono ?_
 rintro _ w215 ⟨rfl, hst⟩
 refine ⟨_, z, ?_⟩
 replace hst := hst.of1
 replace hst := objO_get hst
 obtain ⟨b218, v219, v221, e223, hst'⟩ := at_net_Net_open hst
 clear hst
 have e223 := ptr_inj e223
 subst e223
 have hst := hst'
 clear hst'
 rw [he173] at hst
 replace hst := hst.pull2
 obtain ⟨v226, hst⟩ := hst.mapO_C
 refine ws_next (pend' := []) hst (by kernel_rfl) pk_nil ?_
 refine wsr (.bool (!t213)) 3 z z z (by kernel_rfl) (fun w hst => z) (wsr (.bool (!t213)) 4 z z z (by kernel_rfl) (fun w hst => z) ?_)
 refine bsplit (!t213) (fun hc228 => ?_) (fun hc228 => ?_)
 {
 replace hm := bif_t hc228 hm
 refine ws_q (v := undef) 5 [6, 7, 8, 9, 10, 11, 12, 13] (by kernel_rfl) z z (yi_off ((wanted_eq z z z (cvb hc228)).trans z)) (ws_q (v := undef) 6 [7, 8, 9, 10, 11, 12, 13] (by kernel_rfl) z z (yi_off ((wanted_eq z z z (cvb hc228)).trans z)) (ws_q (v := undef) 7 [8, 9, 10, 11, 12, 13] (by kernel_rfl) z z (yi_off ((wanted_eq z z z (cvb hc228)).trans z)) (ws_q (v := undef) 8 [9, 10, 11, 12, 13] (by kernel_rfl) z z (yi_off ((wanted_eq z z z (cvb hc228)).trans z)) (ws_q (v := undef) 9 [10, 11, 12, 13] (by kernel_rfl) z z (yi_off ((wanted_eq z z z (cvb hc228)).trans z)) (ws_q (v := undef) 10 [11, 12, 13] (by kernel_rfl) z z (yi_off ((wanted_eq z z z (cvb hc228)).trans z)) (ws_q (v := undef) 11 [12, 13] (by kernel_rfl) z z (yi_off ((wanted_eq z z z (cvb hc228)).trans z)) (ws_q (v := undef) 12 [13] (by kernel_rfl) z z (yi_off ((wanted_eq z z z (cvb hc228)).trans z)) (wsr (.bool true) 13 z z z (by kernel_rfl) (fun w hst => x_pick_t hc228 z z) ?_))))))))
 refine ws_nil ?_
 intro w hst
 refine tn ?_
 refine wp_ift z ?_
 refine wp_seq (wrl (wv (.int .i64 ((-1):Int)) z z z (wl_nil (tn (wp_ret (then_r ?_))))))
 replace hst := hst.pull1.pull1.C_mapO (kf := kv_net_Link) (kk := y172.1)
 replace hst := St.eqO he173 hst
 replace hst := hst.pull2.pull2
 replace hst := at_net_Net_close (pv := Pt b167 0) (x := o0) hst z
 replace hst := objO_some hst
 obtain rfl := some_inj hm
 refine post_ret (vs := [I6 ((-1):Int)]) results16 (rvs_cons (rv_tmp z) rvs_nil) ?_
 exact ⟨z, hst.keep1⟩
}
 {
 replace hm := bif_f hc228 hm
 refine ws_q (v := Pt b167 0) 5 [6, 7, 8, 9, 10, 11, 12, 13] (by kernel_rfl) z z (yi_run ((wanted_eq z z z (cvb hc228)).trans z) (fun w hst => z)) (ws_q (v := Pt b167 0) 6 [7, 8, 9, 10, 11, 12, 13] (by kernel_rfl) z z (yi_run ((wanted_eq z z z (cvb hc228)).trans z) (fun w hst => z)) (ws_q (v := Pt b167 1) 7 [8, 9, 10, 11, 12, 13] (by kernel_rfl) z z (yi_run ((wanted_eq z z z (cvb hc228)).trans z) (fun w hst => x_field z underlying52 z sizeOf50 z)) (ws_q (v := v221) 8 [9, 10, 11, 12, 13] (by kernel_rfl) z z (yi_run ((wanted_eq z z z (cvb hc228)).trans z) (fun w hst => x_load z isAgg50 (hst.bc2 z))) (ws_q (v := .agg #[I6 a1.From, I6 a1.To, I6 a1.Lane]) 9 [10, 11, 12, 13] (by kernel_rfl) z z (yi_run ((wanted_eq z z z (cvb hc228)).trans z) (fun w hst => x_loadN (cs := [I6 a1.From, I6 a1.To, I6 a1.Lane]) z isAgg23 sizeOf23 (hst.bcs4 0 z))) (ws_q (v := (.slice none 0 0)) 10 [11, 12, 13] (by kernel_rfl) z z (yi_run ((wanted_eq z z z (cvb hc228)).trans z) (fun w hst => x_look (kv := (lk a1.From a1.To a1.Lane)) z z (run_lookN hst (j := 1) z key3_23 underlying50 (fun _ => by kernel_rfl) hc194))) (ws_q (v := .int .i64 ((([] : List (List Int))).length : Int)) 11 [12, 13] (by kernel_rfl) z z (yi_run ((wanted_eq z z z (cvb hc228)).trans z) (fun w hst => x_len z underlying49 SliceV.nil)) (ws_q (v := .bool (((([] : List (List Int))).length : Int) == (0:Int))) 12 [13] (by kernel_rfl) z z (yi_run ((wanted_eq z z z (cvb hc228)).trans z) (fun w hst => z)) (wsr (.bool (((([] : List (List Int))).length : Int) == (0:Int))) 13 z z z (by kernel_rfl) (fun w hst => x_pick_f hc228 z z) ?_))))))))
 refine ws_nil ?_
 intro w hst
 refine tn ?_
 refine bsplit (((([] : List (List Int))).length : Int) == (0:Int)) (fun hc230 => ?_) (fun hc230 => ?_)
 {
 replace hm := bif_t hc230 hm
 refine wp_ift (cvb hc230) ?_
 refine wp_seq (wrl (wv (.int .i64 ((-1):Int)) z z z (wl_nil (tn (wp_ret (then_r ?_))))))
 replace hst := hst.pull1.pull1.C_mapO (kf := kv_net_Link) (kk := y172.1)
 replace hst := St.eqO he173 hst
 replace hst := hst.pull2.pull2
 replace hst := at_net_Net_close (pv := Pt b167 0) (x := o0) hst z
 replace hst := objO_some hst
 obtain rfl := some_inj hm
 refine post_ret (vs := [I6 ((-1):Int)]) results16 (rvs_cons (rv_tmp z) rvs_nil) ?_
 exact ⟨z, hst.keep1⟩
}
 {
 replace hm := bif_f hc230 hm
 refine wp_iff (cvb hc230) ?_
 refine wp_skip (tn (wp_seq ?_))
 refine wq_regionS hst Try.mixed (by kernel_rfl) ?_
 refine wq_run (v := Pt b167 0) z z (fun w hst => z) ?_
 refine wq_run (v := Pt b167 0) z z (fun w hst => z) ?_
 refine wq_run (v := Pt b167 1) z z (fun w hst => x_field z underlying52 z sizeOf50 z) ?_
 refine wq_run (v := v221) z z (fun w hst => x_load z isAgg50 (hst.bc2 z)) ?_
 refine wq_run (v := .agg #[I6 a1.From, I6 a1.To, I6 a1.Lane]) z z (fun w hst => x_loadN (cs := [I6 a1.From, I6 a1.To, I6 a1.Lane]) z isAgg23 sizeOf23 (hst.bcs4 0 z)) ?_
 refine wq_run (v := (.slice none 0 0)) z z (fun w hst => x_look (kv := (lk a1.From a1.To a1.Lane)) z z (run_lookN hst (j := 1) z key3_23 underlying50 (fun _ => by kernel_rfl) hc194)) ?_
 refine wq_run (v := .int .i64 ((([] : List (List Int))).length : Int)) z z (fun w hst => x_len z underlying49 SliceV.nil) ?_
 refine wq_run (v := .int .i64 ((([] : List (List Int))).length : Int)) z z (fun w hst => z) ?_
 refine wq_nil ?_
 intro w hst
 refine tn (wp_seq (wrl (wv (.int .i64 a2) z z z (wv (.int .u64 (u64.wrap a2)) z z (by kernel_rfl) (wv (.int .i64 ((([] : List (List Int))).length : Int)) z z z (wv (.int .u64 (u64.wrap ((([] : List (List Int))).length : Int))) z z (by kernel_rfl) ?_))))))
 obtain ⟨hg232, hm⟩ := gd_some hm
 refine wv (.int .u64 (Int.tmod (u64.wrap a2) (u64.wrap ((([] : List (List Int))).length : Int)))) z z (x_rem (not_t hg232) z z) (wv (.int .i64 (i64.wrap (Int.tmod (u64.wrap a2) (u64.wrap ((([] : List (List Int))).length : Int))))) z z (by kernel_rfl) (wv (.int .i64 (i64.wrap (Int.tmod (u64.wrap a2) (u64.wrap ((([] : List (List Int))).length : Int))))) z z z (wl_nil (tn (wp_ret ?_)))))
 replace hst := hst.pull1.pull1.C_mapO (kf := kv_net_Link) (kk := y172.1)
 replace hst := St.eqO he173 hst
 replace hst := hst.pull2.pull2
 replace hst := at_net_Net_close (pv := Pt b167 0) (x := o0) hst z
 replace hst := objO_some hst
 obtain rfl := some_inj hm
 refine post_ret (vs := [I6 (i64.wrap (Int.tmod (u64.wrap a2) (u64.wrap ((([] : List (List Int))).length : Int))))]) results16 (rvs_cons (rv_tmp z) rvs_nil) ?_
 exact ⟨z, hst.keep1⟩
}
}
}
}
}
}

theorem slices_Delete_byte_byte_ref {w0 w : World} {I : HL} {R : SP} {a0 : (List (List Int))} {r0_0 : Value} {a1 a2 : Int} (hst : St w0 w I [ownS (tySl (tyInt .u8)) r0_0 a0] R) {r : (List (List Int))} (hm : slices_Delete_byte_byte a0 a1 a2 = some r) :
  Calls prog 17 #[r0_0, I6 a1, I6 a2] w fun e w' => ∃ (q0_0 : Value), e = .returned (q0_0) ∧ St w0 w' I [ownS (tySl (tyInt .u8)) q0_0 r] R := by {
 unfold slices_Delete_byte_byte at hm
 obtain ⟨hg, hm⟩ := gd_some hm
 obtain rfl := some_inj hm
 obtain ⟨hi0, hi1, hi2⟩ := fits_of hg
 obtain ⟨j, rfl⟩ := Int.eq_ofNat_of_zero_le (Int.le_trans hi0 hi1)
 obtain ⟨k, rfl⟩ := Int.eq_ofNat_of_zero_le hi0
 have hkj : k ≤ j := by omega
 have hs : ∀ w : World, (sizeOf 24).run prog w = .ok (tySl (tyInt .u8)).sz w := sizeOf24
 obtain ⟨css, hr, hst⟩ := hst.own_open
 obtain ⟨n, hn⟩ : ∃ n, css.length = n := ⟨_, rfl⟩
 have hln : a0.length = n := hr.1.trans hn
 have hjn : j ≤ n := by omega
 have hsv : SliceV r0_0 n := by have := hst.row_form.2; rwa [hn] at this
 have hoc := hr.ones
 refine calls_start (args := [r0_0, I6 (k : Int), I6 (j : Int)]) func17 z ntmps17 (Nat.le_of_ble_eq_true z) ?_
 refine wp_seq (wrl (wv ((.slice none 0 0)) z z z (wl_nil (tn (wp_seq (wrl (wv (r0_0) z z z (wv (.int .i64 (k : Int)) z z z (wv (.int .i64 (j : Int)) z z z (wv (r0_0) z z z (wv (.int .i64 (n : Int)) z z (x_len z underlying49 hsv) ?_)))))))))))
 refine wl_ex z z (x_slice3 underlying49 hs z hsv z z z hkj hjn) fun v3 => ?_
 refine wl_nil (tn (wp_seq (wp_seq (wrl (wv (.int .i64 (k : Int)) z z z (wv (.int .i64 (j : Int)) z z z (wv (.bool ((k : Int) == (j : Int))) z z z (wl_nil (tn ?_)))))))))
 refine bsplit ((k : Int) == (j : Int)) (fun hc110 => ?_) (fun hc110 => ?_)
 {
 refine wp_ift (cvb hc110) ?_
 refine wp_seq (wrl (wv (r0_0) z z z (wv (r0_0) z z z (wl_nil (tn (wp_ret (then_r ?_)))))))
 refine post_ret (vs := [r0_0]) results17 (rvs_cons (rv_tmp z) rvs_nil) ?_
 rw [del_nil hc110]
 exact ⟨_, z, (hst.own_close hr).keep1⟩
}
 {
 refine wp_iff (cvb hc110) ?_
 have hne : ¬ ((k : Int) = (j : Int)) := by simpa using hc110
 have hlt : k < j := by omega
 refine wp_skip (tn (wp_seq (wrl ?_)))
 refine wv (r0_0) z z z (wv (.int .i64 (n : Int)) z z (x_len z underlying49 hsv) (wv (.int .i64 (n : Int)) z z z (wl_nil (tn (wp_seq ?_)))))
 refine wp_region_St hst 8 [0, 1, 2, 3, 4, 5, 6, 7] [0, 0, 3, 0, 0, 24, 63, 127] [7] z (by kernel_rfl) (by kernel_rfl) Try.mixed (by kernel_rfl) ?_
 refine wsr (r0_0) 0 z z z (by kernel_rfl) (fun w hst => z) (wsr (.int .i64 (k : Int)) 1 z z z (by kernel_rfl) (fun w hst => z) (wsr ((slcV (tySl (tyInt .u8)).sz r0_0 0 k)) 2 z z z (by kernel_rfl) (fun w hst => x_slice (lo := (0 : Nat)) (hi := (k : Nat)) underlying49 hs z hsv (by omega) (by omega) (by omega) .i64 .i64 (.inr ⟨z, z⟩) (.inl z)) (wsr (r0_0) 3 z z z (by kernel_rfl) (fun w hst => z) (wsr (.int .i64 (j : Int)) 4 z z z (by kernel_rfl) (fun w hst => z) (wsr ((slcV (tySl (tyInt .u8)).sz r0_0 j n)) 5 z z z (by kernel_rfl) (fun w hst => x_slice (lo := (j : Nat)) (hi := (n : Nat)) underlying49 hs z hsv (by omega) (by omega) (by omega) .i64 .i64 (.inl z) (.inr ⟨z, z⟩)) ?_)))))
 refine ws_e1 6 (by kernel_rfl) ?_
 refine nxe [7] (by kernel_rfl) z z ?_
 clear hst
 intro w hst
 obtain ⟨w2, hra, hst⟩ := run_appDel (P := prog) underlying49 hs hst hn hlt hjn hoc 49
 refine we_run (v := (slcV (tySl (tyInt .u8)).sz r0_0 0 (k + (n - j)))) (w' := w2) z (x_append z z hra) ?_
 have hnl := (show _ from hst)
 clear hnl
 have hn2 : (css.take k ++ (css.drop j ++ css.drop (k + (n - j)))).length = n := by simp only [List.length_append, List.length_take, List.length_drop]; omega
 have hsm := row_slc hst hn2 (m := (k + (n - j))) (by omega)
 refine ws_next (pend' := []) hst (by kernel_rfl) pk_nil ?_
 refine ws_e1 7 (by kernel_rfl) ?_
 refine nxe [] (by kernel_rfl) z z ?_
 clear hst
 intro w hst
 refine we_run (v := (slcV (tySl (tyInt .u8)).sz r0_0 0 (k + (n - j)))) (w' := w) z z ?_
 refine ws_next (pend' := []) hst (by kernel_rfl) pk_nil ?_
 refine ws_nil ?_
 intro w hst
 refine tn (wp_seq (wrl (wv ((slcV (tySl (tyInt .u8)).sz r0_0 0 (k + (n - j)))) z z z (wv ((slcV (tySl (tyInt .u8)).sz r0_0 0 (k + (n - j)))) z z z (wv (.int .i64 (((k + (n - j)) : Nat) : Int)) z z (x_len z underlying49 hsm) (wv (.int .i64 (n : Int)) z z z (wv ((slcV (tySl (tyInt .u8)).sz r0_0 (k + (n - j)) n)) z z (x_sliceRe underlying49 hs z hsv z z (by omega) (by omega)) ?_)))))))
 obtain ⟨w3, hrc, hst⟩ := run_clear elem_49 z (ones_of (by kernel_rfl)) hst hn2 (m := (k + (n - j))) (by omega) 0
 refine wl_run0 z z (x_clear z hrc) ?_
 refine wl_nil (tn (wp_seq (wrl (wv ((slcV (tySl (tyInt .u8)).sz r0_0 0 (k + (n - j)))) z z z (wv ((slcV (tySl (tyInt .u8)).sz r0_0 0 (k + (n - j)))) z z z (wl_nil (tn (wp_ret ?_))))))))
 refine post_ret (vs := [(slcV (tySl (tyInt .u8)).sz r0_0 0 (k + (n - j)))]) results17 (rvs_cons (rv_tmp z) rvs_nil) ?_
 replace hst := hst.row_part (l := 0) (h := (k + (n - j))) (Nat.zero_le _) (by simp only [List.length_append, List.length_take, List.length_drop, List.length_replicate]; omega)
 rw [del_rows hn hlt hjn (List.length_replicate ..)] at hst
 exact ⟨_, z, (hst.own_close ((hr.take k).app (hr.drop j))).keep1⟩
}
}

theorem net_Net_Take_ref {w0 w : World} {I : HL} {R : SP} {a0 : (Option net_Net)} {p0 : Value} {a1 : net_Link} {a2 : Int}  (hst : St w0 w I [objO at_net_Net p0 a0] R) {r : ((List Int) × Bool × (Option net_Net))} (hm : net_Net_Take a0 a1 a2 = some r) :
  Calls prog 9 #[p0, .agg #[I6 a1.From, I6 a1.To, I6 a1.Lane], I6 a2] w fun e w' => ∃ (I' : HL) (q0_0 : Value), e = .returned (.tuple #[q0_0, .bool r.2.1]) ∧ I.le I' ∧ Ro (tyInt .u8) I' q0_0 r.1 ∧ St w0 w' I' [objO at_net_Net p0 r.2.2] R := by {
 rcases a0 with _ | o0
 {
 obtain ⟨rfl, hst'⟩ := objO_none hst
 clear hst
 have hst := hst'
 clear hst'
 dsimp only [net_Net_Take] at hm
 refine calls_start (args := [.pointer none, .agg #[I6 a1.From, I6 a1.To, I6 a1.Lane], I6 a2]) func9 z ntmps9 (Nat.le_of_ble_eq_true z) ?_
 have hI0 := HL.le.refl I
 refine wp_seq (wrl ?_)
 obtain ⟨b121, w122, ew123, eb124, hst⟩ := hst.box [I6 a1.From, I6 a1.To, I6 a1.Lane] 23
 refine wl_run (v := Pt b121 0) (w' := w122) z z (x_al (by kernel_rfl) ew123 eb124) ?_
 refine wv ((.slice none 0 0)) z z z (wv (.bool false) z z z (wl_nil (tn (wp_seq (wrl (wv (.pointer none) z z z (wv (.agg #[I6 a1.From, I6 a1.To, I6 a1.Lane]) z z (x_loadN (cs := [I6 a1.From, I6 a1.To, I6 a1.Lane]) z isAgg23 sizeOf23 (hst.bcs0 0 z)) (wv (.int .i64 a2) z z z ?_))))))))
 replace hst := hst.objO_nil at_net_Net
 obtain ⟨t128, ht129, hm⟩ := bind_some hm
 refine wc call16 [.pointer none, .agg #[I6 a1.From, I6 a1.To, I6 a1.Lane], I6 a2] z z z ?_
 refine (net_Net_place_ref hst.to1 ht129).mono ?_
 rintro _ w130 ⟨rfl, hst⟩
 refine ⟨_, z, ?_⟩
 replace hst := hst.of1
 refine wv (.int .i64 t128) z z z (wl_nil (tn (wp_seq (wp_seq (wrl (wv (.int .i64 t128) z z z (wv (.bool (decide (t128 < (0:Int)))) z z z (wl_nil (tn ?_)))))))))
 refine bsplit (decide (t128 < (0:Int))) (fun hc133 => ?_) (fun hc133 => ?_)
 {
 replace hm := bif_t hc133 hm
 refine wp_ift (cvb hc133) ?_
 refine wp_seq (wrl (wv ((.slice none 0 0)) z z z (wv (.bool false) z z z (wl_nil (tn (wp_ret (then_r ?_)))))))
 have f135 : Ro (tyInt .u8) I (.slice none 0 0) [] := ro_nil
 replace hst := hst.objO_nil at_net_Net
 obtain rfl := some_inj hm
 refine post_ret (vs := [Zs, .bool false]) results9 (rvs_cons (rv_tmp z) (rvs_cons (rv_tmp z) rvs_nil)) ?_
 exact ⟨_, Zs, z, hI0, f135, hst.keep1⟩
}
 {
 replace hm := bif_f hc133 hm
 refine wp_iff (cvb hc133) ?_
 refine wp_skip (tn (wp_seq ?_))
 refine wq_regionS hst Try.mixed (by kernel_rfl) ?_
 refine wq_run (v := .pointer none) z z (fun w hst => z) ?_
 cases hm
}
}
 {
 replace hst := objO_get hst
 dsimp only [net_Net_Take] at hm
 refine calls_start (args := [p0, .agg #[I6 a1.From, I6 a1.To, I6 a1.Lane], I6 a2]) func9 z ntmps9 (Nat.le_of_ble_eq_true z) ?_
 have hI0 := HL.le.refl I
 refine wp_seq (wrl ?_)
 obtain ⟨b136, w137, ew138, eb139, hst⟩ := hst.box [I6 a1.From, I6 a1.To, I6 a1.Lane] 23
 refine wl_run (v := Pt b136 0) (w' := w137) z z (x_al (by kernel_rfl) ew138 eb139) ?_
 refine wv ((.slice none 0 0)) z z z (wv (.bool false) z z z (wl_nil (tn (wp_seq (wrl (wv (p0) z z z (wv (.agg #[I6 a1.From, I6 a1.To, I6 a1.Lane]) z z (x_loadN (cs := [I6 a1.From, I6 a1.To, I6 a1.Lane]) z isAgg23 sizeOf23 (hst.bcs0 0 z)) (wv (.int .i64 a2) z z z ?_))))))))
 replace hst := hst.pull1
 replace hst := objO_some hst
 obtain ⟨t142, ht143, hm⟩ := bind_some hm
 refine wc call16 [p0, .agg #[I6 a1.From, I6 a1.To, I6 a1.Lane], I6 a2] z z z ?_
 refine (net_Net_place_ref hst.to1 ht143).mono ?_
 rintro _ w144 ⟨rfl, hst⟩
 refine ⟨_, z, ?_⟩
 replace hst := hst.of1
 replace hst := objO_get hst
 refine wv (.int .i64 t142) z z z (wl_nil (tn (wp_seq (wp_seq (wrl (wv (.int .i64 t142) z z z (wv (.bool (decide (t142 < (0:Int)))) z z z (wl_nil (tn ?_)))))))))
 refine bsplit (decide (t142 < (0:Int))) (fun hc147 => ?_) (fun hc147 => ?_)
 {
 replace hm := bif_t hc147 hm
 refine wp_ift (cvb hc147) ?_
 refine wp_seq (wrl (wv ((.slice none 0 0)) z z z (wv (.bool false) z z z (wl_nil (tn (wp_ret (then_r ?_)))))))
 have f149 : Ro (tyInt .u8) I (.slice none 0 0) [] := ro_nil
 replace hst := objO_some hst
 obtain rfl := some_inj hm
 refine post_ret (vs := [Zs, .bool false]) results9 (rvs_cons (rv_tmp z) (rvs_cons (rv_tmp z) rvs_nil)) ?_
 exact ⟨_, Zs, z, hI0, f149, hst.keep1⟩
}
 {
 replace hm := bif_f hc147 hm
 refine wp_iff (cvb hc147) ?_
 refine wp_skip (tn (wp_seq ?_))
 obtain ⟨b150, v151, v153, rfl, hst'⟩ := at_net_Net_open hst
 clear hst
 have hst := hst'
 clear hst'
 rcases he156 : o0.m with _ | y155
 {
 rw [he156] at hm hst
 dsimp only at hm
 replace hst := hst.pull2.mapO_E
 refine wq_regionS hst Try.mixed (by kernel_rfl) ?_
 refine wq_run (v := Pt b150 0) z z (fun w hst => z) ?_
 refine wq_run (v := Pt b150 0) z z (fun w hst => z) ?_
 refine wq_run (v := Pt b150 1) z z (fun w hst => x_field z underlying52 z sizeOf50 z) ?_
 refine wq_run (v := v153) z z (fun w hst => x_load z isAgg50 (hst.bc1 z)) ?_
 refine wq_run (v := .agg #[I6 a1.From, I6 a1.To, I6 a1.Lane]) z z (fun w hst => x_loadN (cs := [I6 a1.From, I6 a1.To, I6 a1.Lane]) z isAgg23 sizeOf23 (hst.bcs3 0 z)) ?_
 refine wq_run (v := (.slice none 0 0)) z z (fun w hst => x_look (kv := (lk a1.From a1.To a1.Lane)) z z (run_lookE hst (j := 0) z key3_23 underlying50 (fun _ => by kernel_rfl))) ?_
 refine wq_run (v := .int .i64 t142) z z (fun w hst => z) ?_
 cases hm
}
 {
 rw [he156] at hm hst
 dsimp only at hm
 replace hst := hst.pull2
 obtain ⟨v158, hst⟩ := hst.mapO_C
 refine bsplit ((a1.From == y155.1.From) && (a1.To == y155.1.To) && (a1.Lane == y155.1.Lane)) (fun hc160 => ?_) (fun hc160 => ?_)
 {
 replace hm := bif_t hc160 hm
 obtain ⟨css161, hq162, hst⟩ := hst.own_open
 refine wq_regionS hst Try.mixed (by kernel_rfl) ?_
 refine wq_run (v := Pt b150 0) z z (fun w hst => z) ?_
 refine wq_run (v := Pt b150 0) z z (fun w hst => z) ?_
 refine wq_run (v := Pt b150 1) z z (fun w hst => x_field z underlying52 z sizeOf50 z) ?_
 refine wq_run (v := v153) z z (fun w hst => x_load z isAgg50 (hst.bc2 z)) ?_
 refine wq_run (v := .agg #[I6 a1.From, I6 a1.To, I6 a1.Lane]) z z (fun w hst => x_loadN (cs := [I6 a1.From, I6 a1.To, I6 a1.Lane]) z isAgg23 sizeOf23 (hst.bcs4 0 z)) ?_
 refine wq_run (v := v158) z z (fun w hst => x_look (kv := (lk a1.From a1.To a1.Lane)) z z (run_lookC hst (j := 1) z key3_23 underlying50 hc160)) ?_
 refine wq_run (v := .int .i64 t142) z z (fun w hst => z) ?_
 obtain ⟨x163, hx164, hm⟩ := bind_some hm
 obtain ⟨h165, h166, hi167⟩ := geto_some hx164
 refine wq_run (v := .pointer (some (eAddr v158 (t142.toNat * 1 + 0)))) z z (fun w hst => x_index z z underlying49 sizeOf24 (hst.rsv 0 z hq162) h165 h166) ?_
 obtain ⟨cs168, hc170, hr169⟩ := Reps.get hq162 hi167
 obtain ⟨v171, rfl, f172, -⟩ := hr169
 refine wq_run (v := v171) z z (fun w hst => x_load z isAgg24 ((hst.rcell 0 z hc170) 0 _ z)) ?_
 refine wq_run (v := v171) z z (fun w hst => z) ?_
 refine wq_nil ?_
 intro w hst
 replace hst := hst.own_close hq162
 refine tn (wp_seq ?_)
 refine wp_region_St hst 16 [0, 1, 2, 3, 4, 5, 6, 7, 8, 9, 10, 11, 12, 13, 14, 15] [0, 1, 3, 7, 0, 0, 32, 96, 224, 0, 992, 0, 0, 4096, 16352, 32767] [] z (by kernel_rfl) (by kernel_rfl) Try.mixed (by kernel_rfl) ?_
 refine wsr (Pt b150 0) 0 z z z (by kernel_rfl) (fun w hst => z) (wsr (Pt b150 0) 1 z z z (by kernel_rfl) (fun w hst => z) (wsr (Pt b150 1) 2 z z z (by kernel_rfl) (fun w hst => x_field z underlying52 z sizeOf50 z) (wsr (v153) 3 z z z (by kernel_rfl) (fun w hst => x_load z isAgg50 (hst.bc2 z)) (wsr (.agg #[I6 a1.From, I6 a1.To, I6 a1.Lane]) 4 z z z (by kernel_rfl) (fun w hst => x_loadN (cs := [I6 a1.From, I6 a1.To, I6 a1.Lane]) z isAgg23 sizeOf23 (hst.bcs4 0 z)) (wsr (Pt b150 0) 5 z z z (by kernel_rfl) (fun w hst => z) (wsr (Pt b150 0) 6 z z z (by kernel_rfl) (fun w hst => z) (wsr (Pt b150 1) 7 z z z (by kernel_rfl) (fun w hst => x_field z underlying52 z sizeOf50 z) (wsr (v153) 8 z z z (by kernel_rfl) (fun w hst => x_load z isAgg50 (hst.bc2 z)) (wsr (.agg #[I6 a1.From, I6 a1.To, I6 a1.Lane]) 9 z z z (by kernel_rfl) (fun w hst => x_loadN (cs := [I6 a1.From, I6 a1.To, I6 a1.Lane]) z isAgg23 sizeOf23 (hst.bcs4 0 z)) (wsr (v158) 10 z z z (by kernel_rfl) (fun w hst => x_look (kv := (lk a1.From a1.To a1.Lane)) z z (run_lookC hst (j := 1) z key3_23 underlying50 hc160)) (wsr (.int .i64 t142) 11 z z z (by kernel_rfl) (fun w hst => z) (wsr (.int .i64 t142) 12 z z z (by kernel_rfl) (fun w hst => z) ?_))))))))))))
 refine wsr (.int .i64 (i64.wrap (t142 + (1:Int)))) 13 z z z (by kernel_rfl) (fun w hst => z) ?_
 refine ws_e1 14 (by kernel_rfl) ?_
 refine nxe [15] (by kernel_rfl) z z ?_
 clear hst
 intro w hst
 obtain ⟨t174, ht175, hm⟩ := bind_some hm
 refine wec call17 [v158, I6 t142, I6 (i64.wrap (t142 + (1:Int)))] z z ?_
 refine (slices_Delete_byte_byte_ref hst.to1 ht175).mono ?_
 rintro _ w176 ⟨v179, rfl, hst⟩
 refine ⟨_, z, ?_⟩
 replace hst := hst.of1
 refine ws_next (pend' := [(4, .agg #[I6 a1.From, I6 a1.To, I6 a1.Lane]), (3, v153), (2, Pt b150 1), (1, Pt b150 0), (0, Pt b150 0)]) hst (by kernel_rfl) (pkr z z (fun w hst => x_loadN (cs := [I6 a1.From, I6 a1.To, I6 a1.Lane]) z isAgg23 sizeOf23 (hst.bcs4 0 z)) (pkr z z (fun w hst => x_load z isAgg50 (hst.bc2 z)) (pkr z z (fun w hst => x_field z underlying52 z sizeOf50 z) (pkr z z (fun w hst => z) (pkr z z (fun w hst => z) pk_nil))))) ?_
 refine ws_e1 15 (by kernel_rfl) ?_
 refine nxe [] (by kernel_rfl) z z ?_
 clear hst
 intro w hst
 replace hst := hst.pull1
 obtain ⟨w181, hr182, hst⟩ := run_putC (P := prog) hst key3_23 underlying50 hc160 v179
 refine we_unit z (x_put (kv := (lk a1.From a1.To a1.Lane)) z z z hr182) ?_
 refine ws_next (pend' := []) hst (by kernel_rfl) pk_nil ?_
 refine ws_nil ?_
 intro w hst
 refine tn (wp_seq (wrl (wv (v171) z z z (wv (v171) z z z (wv (.bool true) z z z (wl_nil (tn (wp_ret ?_))))))))
 replace hst := hst.pull1.C_mapO (kf := kv_net_Link) (kk := a1)
 replace hst := hst.pull2.pull2
 replace hst := at_net_Net_close (pv := Pt b150 0) (x := ({ p := o0.p, m := (some (a1, t174)) } : net_Net)) hst z
 replace hst := objO_some hst
 obtain rfl := some_inj hm
 refine post_ret (vs := [v171, .bool true]) results9 (rvs_cons (rv_tmp z) (rvs_cons (rv_tmp z) rvs_nil)) ?_
 exact ⟨_, v171, z, hI0, f172, hst.keep1⟩
}
 {
 replace hm := bif_f hc160 hm
 refine wq_regionS hst Try.mixed (by kernel_rfl) ?_
 refine wq_run (v := Pt b150 0) z z (fun w hst => z) ?_
 refine wq_run (v := Pt b150 0) z z (fun w hst => z) ?_
 refine wq_run (v := Pt b150 1) z z (fun w hst => x_field z underlying52 z sizeOf50 z) ?_
 refine wq_run (v := v153) z z (fun w hst => x_load z isAgg50 (hst.bc2 z)) ?_
 refine wq_run (v := .agg #[I6 a1.From, I6 a1.To, I6 a1.Lane]) z z (fun w hst => x_loadN (cs := [I6 a1.From, I6 a1.To, I6 a1.Lane]) z isAgg23 sizeOf23 (hst.bcs4 0 z)) ?_
 refine wq_run (v := (.slice none 0 0)) z z (fun w hst => x_look (kv := (lk a1.From a1.To a1.Lane)) z z (run_lookN hst (j := 1) z key3_23 underlying50 (fun _ => by kernel_rfl) hc160)) ?_
 refine wq_run (v := .int .i64 t142) z z (fun w hst => z) ?_
 cases hm
}
}
}
}
}

theorem net_Net_Len_ref {w0 w : World} {I : HL} {R : SP} {a0 : (Option net_Net)} {p0 : Value} {a1 : net_Link}  (hst : St w0 w I [objO at_net_Net p0 a0] R) {r : (Int)} (hm : net_Net_Len a0 a1 = some r) :
  Calls prog 8 #[p0, .agg #[I6 a1.From, I6 a1.To, I6 a1.Lane]] w fun e w' => e = .returned (.int .i64 r) ∧ St w0 w' I [objO at_net_Net p0 a0] R := by {
 rcases a0 with _ | o0
 {
 obtain ⟨rfl, hst'⟩ := objO_none hst
 clear hst
 have hst := hst'
 clear hst'
 dsimp only [net_Net_Len] at hm
 refine calls_start (args := [.pointer none, .agg #[I6 a1.From, I6 a1.To, I6 a1.Lane]]) func8 z ntmps8 (Nat.le_of_ble_eq_true z) ?_
 refine wp_seq (wrl ?_)
 obtain ⟨b105, w106, ew107, eb108, hst⟩ := hst.box [I6 a1.From, I6 a1.To, I6 a1.Lane] 23
 refine wl_run (v := Pt b105 0) (w' := w106) z z (x_al (by kernel_rfl) ew107 eb108) ?_
 refine wv (.int .i64 (0:Int)) z z z (wl_nil (tn (wp_seq (wp_seq (wrl (wv (.pointer none) z z z (wv (.agg #[I6 a1.From, I6 a1.To, I6 a1.Lane]) z z (x_loadN (cs := [I6 a1.From, I6 a1.To, I6 a1.Lane]) z isAgg23 sizeOf23 (hst.bcs0 0 z)) ?_)))))))
 replace hst := hst.objO_nil at_net_Net
 obtain ⟨t111, ht112, hm⟩ := bind_some hm
 refine wc call14 [.pointer none, .agg #[I6 a1.From, I6 a1.To, I6 a1.Lane]] z z z ?_
 refine (net_Net_is_ref hst.to1 ht112).mono ?_
 rintro _ w113 ⟨rfl, hst⟩
 refine ⟨_, z, ?_⟩
 replace hst := hst.of1
 refine wv (.bool (!t111)) z z z (wl_nil (tn ?_))
 refine bsplit (!t111) (fun hc116 => ?_) (fun hc116 => ?_)
 {
 replace hm := bif_t hc116 hm
 refine wp_ift (cvb hc116) ?_
 refine wp_seq (wrl (wv (.int .i64 (0:Int)) z z z (wl_nil (tn (wp_ret (then_r ?_))))))
 replace hst := hst.objO_nil at_net_Net
 obtain rfl := some_inj hm
 refine post_ret (vs := [Zi]) results8 (rvs_cons (rv_tmp z) rvs_nil) ?_
 exact ⟨z, hst.keep1⟩
}
 {
 replace hm := bif_f hc116 hm
 refine wp_iff (cvb hc116) ?_
 refine wp_skip (tn (wp_seq ?_))
 refine wq_regionS hst Try.mixed (by kernel_rfl) ?_
 refine wq_run (v := .pointer none) z z (fun w hst => z) ?_
 cases hm
}
}
 {
 replace hst := objO_get hst
 dsimp only [net_Net_Len] at hm
 refine calls_start (args := [p0, .agg #[I6 a1.From, I6 a1.To, I6 a1.Lane]]) func8 z ntmps8 (Nat.le_of_ble_eq_true z) ?_
 refine wp_seq (wrl ?_)
 obtain ⟨b117, w118, ew119, eb120, hst⟩ := hst.box [I6 a1.From, I6 a1.To, I6 a1.Lane] 23
 refine wl_run (v := Pt b117 0) (w' := w118) z z (x_al (by kernel_rfl) ew119 eb120) ?_
 refine wv (.int .i64 (0:Int)) z z z (wl_nil (tn (wp_seq (wp_seq (wrl (wv (p0) z z z (wv (.agg #[I6 a1.From, I6 a1.To, I6 a1.Lane]) z z (x_loadN (cs := [I6 a1.From, I6 a1.To, I6 a1.Lane]) z isAgg23 sizeOf23 (hst.bcs0 0 z)) ?_)))))))
 replace hst := hst.pull1
 replace hst := objO_some hst
 obtain ⟨t122, ht123, hm⟩ := bind_some hm
 refine wc call14 [p0, .agg #[I6 a1.From, I6 a1.To, I6 a1.Lane]] z z z ?_
 refine (net_Net_is_ref hst.to1 ht123).mono ?_
 rintro _ w124 ⟨rfl, hst⟩
 refine ⟨_, z, ?_⟩
 replace hst := hst.of1
 replace hst := objO_get hst
 refine wv (.bool (!t122)) z z z (wl_nil (tn ?_))
 refine bsplit (!t122) (fun hc127 => ?_) (fun hc127 => ?_)
 {
 replace hm := bif_t hc127 hm
 refine wp_ift (cvb hc127) ?_
 refine wp_seq (wrl (wv (.int .i64 (0:Int)) z z z (wl_nil (tn (wp_ret (then_r ?_))))))
 replace hst := objO_some hst
 obtain rfl := some_inj hm
 refine post_ret (vs := [Zi]) results8 (rvs_cons (rv_tmp z) rvs_nil) ?_
 exact ⟨z, hst.keep1⟩
}
 {
 replace hm := bif_f hc127 hm
 refine wp_iff (cvb hc127) ?_
 refine wp_skip (tn (wp_seq ?_))
 obtain ⟨b128, v129, v131, rfl, hst'⟩ := at_net_Net_open hst
 clear hst
 have hst := hst'
 clear hst'
 rcases he134 : o0.m with _ | y133
 {
 rw [he134] at hm hst
 dsimp only at hm
 replace hst := hst.pull2.mapO_E
 refine wq_regionS hst Try.mixed (by kernel_rfl) ?_
 refine wq_run (v := Pt b128 0) z z (fun w hst => z) ?_
 refine wq_run (v := Pt b128 0) z z (fun w hst => z) ?_
 refine wq_run (v := Pt b128 1) z z (fun w hst => x_field z underlying52 z sizeOf50 z) ?_
 refine wq_run (v := v131) z z (fun w hst => x_load z isAgg50 (hst.bc1 z)) ?_
 refine wq_run (v := .agg #[I6 a1.From, I6 a1.To, I6 a1.Lane]) z z (fun w hst => x_loadN (cs := [I6 a1.From, I6 a1.To, I6 a1.Lane]) z isAgg23 sizeOf23 (hst.bcs3 0 z)) ?_
 refine wq_run (v := (.slice none 0 0)) z z (fun w hst => x_look (kv := (lk a1.From a1.To a1.Lane)) z z (run_lookE hst (j := 0) z key3_23 underlying50 (fun _ => by kernel_rfl))) ?_
 refine wq_run (v := .int .i64 ((([] : List (List Int))).length : Int)) z z (fun w hst => x_len z underlying49 SliceV.nil) ?_
 refine wq_run (v := .int .i64 ((([] : List (List Int))).length : Int)) z z (fun w hst => z) ?_
 refine wq_nil ?_
 intro w hst
 refine tn (wp_ret ?_)
 replace hst := hst.E_mapO (E := (tySl (tyInt .u8))) (kf := kv_net_Link)
 rw [← he134] at hst
 replace hst := hst.pull2.pull2
 replace hst := at_net_Net_close (pv := Pt b128 0) (x := o0) hst z
 replace hst := objO_some hst
 obtain rfl := some_inj hm
 refine post_ret (vs := [I6 ((([] : List (List Int))).length : Int)]) results8 (rvs_cons (rv_tmp z) rvs_nil) ?_
 exact ⟨z, hst.keep1⟩
}
 {
 rw [he134] at hm hst
 dsimp only at hm
 replace hst := hst.pull2
 obtain ⟨v136, hst⟩ := hst.mapO_C
 refine bsplit ((a1.From == y133.1.From) && (a1.To == y133.1.To) && (a1.Lane == y133.1.Lane)) (fun hc138 => ?_) (fun hc138 => ?_)
 {
 replace hm := bif_t hc138 hm
 refine wq_regionS hst Try.mixed (by kernel_rfl) ?_
 refine wq_run (v := Pt b128 0) z z (fun w hst => z) ?_
 refine wq_run (v := Pt b128 0) z z (fun w hst => z) ?_
 refine wq_run (v := Pt b128 1) z z (fun w hst => x_field z underlying52 z sizeOf50 z) ?_
 refine wq_run (v := v131) z z (fun w hst => x_load z isAgg50 (hst.bc2 z)) ?_
 refine wq_run (v := .agg #[I6 a1.From, I6 a1.To, I6 a1.Lane]) z z (fun w hst => x_loadN (cs := [I6 a1.From, I6 a1.To, I6 a1.Lane]) z isAgg23 sizeOf23 (hst.bcs4 0 z)) ?_
 refine wq_run (v := v136) z z (fun w hst => x_look (kv := (lk a1.From a1.To a1.Lane)) z z (run_lookC hst (j := 1) z key3_23 underlying50 hc138)) ?_
 refine wq_run (v := .int .i64 ((y133.2).length : Int)) z z (fun w hst => x_len z underlying49 hst.sv0) ?_
 refine wq_run (v := .int .i64 ((y133.2).length : Int)) z z (fun w hst => z) ?_
 refine wq_nil ?_
 intro w hst
 refine tn (wp_ret ?_)
 replace hst := hst.pull1.pull1.C_mapO (kf := kv_net_Link) (kk := y133.1)
 replace hst := St.eqO he134 hst
 replace hst := hst.pull2.pull2
 replace hst := at_net_Net_close (pv := Pt b128 0) (x := o0) hst z
 replace hst := objO_some hst
 obtain rfl := some_inj hm
 refine post_ret (vs := [I6 ((y133.2).length : Int)]) results8 (rvs_cons (rv_tmp z) rvs_nil) ?_
 exact ⟨z, hst.keep1⟩
}
 {
 replace hm := bif_f hc138 hm
 refine wq_regionS hst Try.mixed (by kernel_rfl) ?_
 refine wq_run (v := Pt b128 0) z z (fun w hst => z) ?_
 refine wq_run (v := Pt b128 0) z z (fun w hst => z) ?_
 refine wq_run (v := Pt b128 1) z z (fun w hst => x_field z underlying52 z sizeOf50 z) ?_
 refine wq_run (v := v131) z z (fun w hst => x_load z isAgg50 (hst.bc2 z)) ?_
 refine wq_run (v := .agg #[I6 a1.From, I6 a1.To, I6 a1.Lane]) z z (fun w hst => x_loadN (cs := [I6 a1.From, I6 a1.To, I6 a1.Lane]) z isAgg23 sizeOf23 (hst.bcs4 0 z)) ?_
 refine wq_run (v := (.slice none 0 0)) z z (fun w hst => x_look (kv := (lk a1.From a1.To a1.Lane)) z z (run_lookN hst (j := 1) z key3_23 underlying50 (fun _ => by kernel_rfl) hc138)) ?_
 refine wq_run (v := .int .i64 ((([] : List (List Int))).length : Int)) z z (fun w hst => x_len z underlying49 SliceV.nil) ?_
 refine wq_run (v := .int .i64 ((([] : List (List Int))).length : Int)) z z (fun w hst => z) ?_
 refine wq_nil ?_
 intro w hst
 refine tn (wp_ret ?_)
 replace hst := hst.pull1.pull1.C_mapO (kf := kv_net_Link) (kk := y133.1)
 replace hst := St.eqO he134 hst
 replace hst := hst.pull2.pull2
 replace hst := at_net_Net_close (pv := Pt b128 0) (x := o0) hst z
 replace hst := objO_some hst
 obtain rfl := some_inj hm
 refine post_ret (vs := [I6 ((([] : List (List Int))).length : Int)]) results8 (rvs_cons (rv_tmp z) rvs_nil) ?_
 exact ⟨z, hst.keep1⟩
}
}
}
}
}

theorem law21_awake_ref {w0 w : World} {I : HL} {R : SP}   (hst : St w0 w I [] R) {r : (Bool)} (hm : law21_awake = some r) :
  Calls prog 5 #[] w fun e w' => ∃ (I' : HL), e = .returned (.bool r) ∧ I.le I' ∧ St w0 w' I' [] R := by {
 unfold law21_awake at hm
 refine calls_start (args := []) func5 z ntmps5 (Nat.le_of_ble_eq_true z) ?_
 have hI0 := HL.le.refl I
 refine wp_seq (wrl (wv (.bool false) z z z (wl_nil (tn (wp_seq (wrl ?_))))))
 obtain ⟨t73, ht74, hm⟩ := bind_some hm
 refine wc call6 [] z z z ?_
 refine (law21_open_ref hst.to0 ht74).mono ?_
 rintro _ w75 ⟨I76, v78, v80, rfl, hI77, hst⟩
 refine ⟨_, z, ?_⟩
 replace hst := hst.of1
 replace hI0 := hI0.trans hI77
 refine wv (.tuple #[v78, v80]) z z z (wv (v78) z z z (wv (v80) z z z (wv (v78) z z z (wv (v80) z z z (wl_nil (tn (wp_seq (wrl (wv (.agg #[Zi, I6 (1:Int), I6 (2:Int)]) z z (by kernel_rfl) ?_)))))))))
 obtain ⟨b81, w82, ew83, eb84, hst⟩ := hst.box [Zi, Zi, Zi] 23
 refine wl_run (v := Pt b81 0) (w' := w82) z z (x_al (by kernel_rfl) ew83 eb84) ?_
 obtain ⟨w86, hr87, hst⟩ := hst.bx [Zi, I6 (1:Int), I6 (2:Int)] sizeOf23 z (oC z (oC z (oC z oN))) (by kernel_rfl)
 refine wl_unit z z (x_unit hr87) ?_
 refine wl_nil (tn (wp_seq (wp_seq (wrl (wv (v78) z z z (wv (.bool (t73.isNone)) z z (by obtain ⟨a_, ha_, hb_⟩ := at_net_Net_isnil hst.pull1; subst ha_; rw [← hb_]; cases a_ <;> kernel_rfl) (wl_nil (tn ?_))))))))
 refine bsplit (t73.isNone) (fun hc88 => ?_) (fun hc88 => ?_)
 {
 replace hm := bif_t hc88 hm
 refine wp_ift (cvb hc88) ?_
 refine wp_seq (wrl (wv (.bool false) z z z (wl_nil (tn (wp_ret (then_r ?_))))))
 obtain rfl := some_inj hm
 refine post_ret (vs := [.bool false]) results5 (rvs_cons (rv_tmp z) rvs_nil) ?_
 exact ⟨_, z, hI0, hst.keep0⟩
}
 {
 replace hm := bif_f hc88 hm
 refine wp_iff (cvb hc88) ?_
 refine wp_skip (tn (wp_seq (wrl ?_)))
 refine wv (v78) z z z (wv (.agg #[Zi, I6 (1:Int), I6 (2:Int)]) z z (x_loadN (cs := [Zi, I6 (1:Int), I6 (2:Int)]) z isAgg23 sizeOf23 (hst.bcs0 0 z)) ?_)
 obtain ⟨b89, w90, ew91, eb92, hst⟩ := hst.lits (E := (tyInt .u8)) (xs := [(97:Int)]) [[U1 (97:Int)]] 5 1 z (Reps.cons z Reps.nil)
 refine wl_run (v := (.slice (some ⟨b89, 0, none⟩) 1 1)) (w' := w90) z z (x_als (by kernel_rfl) ew91 eb92) ?_
 obtain ⟨I94, w97, hI95, f96, hr98, hst⟩ := hst.own_mark (P := prog) underlying24 underlying5 (List.cons_ne_nil _ _)
 replace hI0 := hI0.trans hI95
 refine wl_run (v := (.slice (some ⟨b89, 0, none⟩) 1 1)) (w' := w97) z z (x_conv z hr98) ?_
 replace hst := hst.pull1
 obtain ⟨t99, ht100, hm⟩ := bind_some hm
 refine wc call7 [v78, .agg #[Zi, I6 (1:Int), I6 (2:Int)], (.slice (some ⟨b89, 0, none⟩) 1 1)] z z z ?_
 refine (net_Net_Put_ref (f96.mono ro_rd) hst.to1 ht100).mono ?_
 rintro _ w101 ⟨I102, rfl, hI103, hst⟩
 refine ⟨_, z, ?_⟩
 replace hst := hst.of1
 replace f96 := f96.mono (ro_le hI103)
 replace hI0 := hI0.trans hI103
 refine wl_nil (tn (wp_seq (wrl (wv (v78) z z z (wv (.agg #[Zi, I6 (1:Int), I6 (2:Int)]) z z (x_loadN (cs := [Zi, I6 (1:Int), I6 (2:Int)]) z isAgg23 sizeOf23 (hst.bcs1 0 z)) ?_)))))
 obtain ⟨b104, w105, ew106, eb107, hst⟩ := hst.lits (E := (tyInt .u8)) (xs := [(98:Int)]) [[U1 (98:Int)]] 5 1 z (Reps.cons z Reps.nil)
 refine wl_run (v := (.slice (some ⟨b104, 0, none⟩) 1 1)) (w' := w105) z z (x_als (by kernel_rfl) ew106 eb107) ?_
 obtain ⟨I109, w112, hI110, f111, hr113, hst⟩ := hst.own_mark (P := prog) underlying24 underlying5 (List.cons_ne_nil _ _)
 replace f96 := f96.mono (ro_le hI110)
 replace hI0 := hI0.trans hI110
 refine wl_run (v := (.slice (some ⟨b104, 0, none⟩) 1 1)) (w' := w112) z z (x_conv z hr113) ?_
 obtain ⟨t114, ht115, hm⟩ := bind_some hm
 refine wc call7 [v78, .agg #[Zi, I6 (1:Int), I6 (2:Int)], (.slice (some ⟨b104, 0, none⟩) 1 1)] z z z ?_
 refine (net_Net_Put_ref (f111.mono ro_rd) hst.to1 ht115).mono ?_
 rintro _ w116 ⟨I117, rfl, hI118, hst⟩
 refine ⟨_, z, ?_⟩
 replace hst := hst.of1
 replace f96 := f96.mono (ro_le hI118)
 replace f111 := f111.mono (ro_le hI118)
 replace hI0 := hI0.trans hI118
 refine wl_nil (tn (wp_seq (wrl (wv (v78) z z z (wv (.agg #[Zi, I6 (1:Int), I6 (2:Int)]) z z (x_loadN (cs := [Zi, I6 (1:Int), I6 (2:Int)]) z isAgg23 sizeOf23 (hst.bcs1 0 z)) ?_)))))
 obtain ⟨t119, ht120, hm⟩ := bind_some hm
 refine wc call9 [v78, .agg #[Zi, I6 (1:Int), I6 (2:Int)], I6 (3:Int)] z z z ?_
 refine (net_Net_Take_ref hst.to1 ht120).mono ?_
 rintro _ w121 ⟨I122, v124, rfl, hI123, f126, hst⟩
 refine ⟨_, z, ?_⟩
 replace hst := hst.of1
 replace f96 := f96.mono (ro_le hI123)
 replace f111 := f111.mono (ro_le hI123)
 replace hI0 := hI0.trans hI123
 refine wv (.tuple #[v124, .bool t119.2.1]) z z z (wv (v124) z z z (wv (.bool t119.2.1) z z z (wv (v124) z z z (wv (.bool t119.2.1) z z z (wl_nil (tn (wp_seq (wrl (wv (.bool t119.2.1) z z z (wv (.bool t119.2.1) z z z ?_))))))))))
 refine bsplit t119.2.1 (fun hc127 => ?_) (fun hc127 => ?_)
 {
 replace hm := bif_t hc127 hm
 refine wv (v124) ((wanted_eq z z z (cvb hc127)).trans z) z z (wv (.string (toStr t119.1)) ((wanted_eq z z z (cvb hc127)).trans z) z (x_tostr underlying24 underlying9 underlying5 z (Src.of_ro hst f126)) (wv (.bool (sEq (toStr t119.1) (ByteArray.mk #[98]))) ((wanted_eq z z z (cvb hc127)).trans z) z (by kernel_rfl) (wv (.bool (sEq (toStr t119.1) (ByteArray.mk #[98]))) z z (x_pick_t hc127 z z) (wv (.bool (sEq (toStr t119.1) (ByteArray.mk #[98]))) z z z ?_))))
 refine bsplit (sEq (toStr t119.1) (ByteArray.mk #[98])) (fun hc128 => ?_) (fun hc128 => ?_)
 {
 replace hm := bif_t hc128 hm
 refine wv (v78) ((wanted_eq z z z (cvb hc128)).trans z) z z (wv (.agg #[Zi, I6 (1:Int), I6 (2:Int)]) ((wanted_eq z z z (cvb hc128)).trans z) z (x_loadN (cs := [Zi, I6 (1:Int), I6 (2:Int)]) z isAgg23 sizeOf23 (hst.bcs1 0 z)) ?_)
 obtain ⟨t129, ht130, hm⟩ := bind_some hm
 refine wl_call ((wanted_eq z z z (cvb hc128)).trans z) z (x_call call8 z (vs := [v78, .agg #[Zi, I6 (1:Int), I6 (2:Int)]]) z) ?_
 refine (net_Net_Len_ref hst.to1 ht130).mono ?_
 rintro _ w131 ⟨rfl, hst⟩
 refine ⟨_, z, ?_⟩
 replace hst := hst.of1
 refine wv (.bool (t129 == (1:Int))) ((wanted_eq z z z (cvb hc128)).trans z) z z (wv (.bool (t129 == (1:Int))) z z (x_pick_t hc128 z z) (wv (.bool (t129 == (1:Int))) z z z (wl_nil (tn (wp_ret ?_)))))
 obtain rfl := some_inj hm
 refine post_ret (vs := [.bool (t129 == (1:Int))]) results5 (rvs_cons (rv_tmp z) rvs_nil) ?_
 exact ⟨_, z, hI0, hst.keep0⟩
}
 {
 replace hm := bif_f hc128 hm
 refine wo hc128 z z z z z z (wo hc128 z z z z z z (wo hc128 z z z z z z (wo hc128 z z z z z z (wv (.bool false) z z (x_pick_f hc128 z z) (wv (.bool false) z z z (wl_nil (tn (wp_ret ?_))))))))
 obtain rfl := some_inj hm
 refine post_ret (vs := [.bool false]) results5 (rvs_cons (rv_tmp z) rvs_nil) ?_
 exact ⟨_, z, hI0, hst.keep0⟩
}
}
 {
 replace hm := bif_f hc127 hm
 refine wo hc127 z z z z z z (wo hc127 z z z z z z (wo hc127 z z z z z z (wv (.bool false) z z (x_pick_f hc127 z z) (wv (.bool false) z z z (wz z z z z z z (wz z z z z z z (wz z z z z z z (wz z z z z z z (wv (.bool false) z z (x_pick_f z z z) (wv (.bool false) z z z (wl_nil (tn (wp_ret ?_)))))))))))))
 obtain rfl := some_inj hm
 refine post_ret (vs := [.bool false]) results5 (rvs_cons (rv_tmp z) rvs_nil) ?_
 exact ⟨_, z, hI0, hst.keep0⟩
}
}
}

theorem law21_NetApart_ref {w0 w : World} {I : HL} {R : SP} {a0 : net_Link} {a1 : net_Link} {a2 : (List Int)} {r2_0 : Value} (f2_0 : Rd (tyInt .u8) R I r2_0 a2) (hst : St w0 w I [] R) {r : (Bool)} (hm : law21_NetApart a0 a1 a2 = some r) :
  Calls prog 3 #[.agg #[I6 a0.From, I6 a0.To, I6 a0.Lane], .agg #[I6 a1.From, I6 a1.To, I6 a1.Lane], r2_0] w fun e w' => ∃ (I' : HL), e = .returned (.bool r) ∧ I.le I' ∧ St w0 w' I' [] R := by {
 unfold law21_NetApart at hm
 refine calls_start (args := [.agg #[I6 a0.From, I6 a0.To, I6 a0.Lane], .agg #[I6 a1.From, I6 a1.To, I6 a1.Lane], r2_0]) func3 z ntmps3 (Nat.le_of_ble_eq_true z) ?_
 have hI0 := HL.le.refl I
 refine wp_seq (wrl ?_)
 obtain ⟨b67, w68, ew69, eb70, hst⟩ := hst.box [I6 a0.From, I6 a0.To, I6 a0.Lane] 23
 refine wl_run (v := Pt b67 0) (w' := w68) z z (x_al (by kernel_rfl) ew69 eb70) ?_
 obtain ⟨b72, w73, ew74, eb75, hst⟩ := hst.box [I6 a1.From, I6 a1.To, I6 a1.Lane] 23
 refine wl_run (v := Pt b72 0) (w' := w73) z z (x_al (by kernel_rfl) ew74 eb75) ?_
 refine wv (.bool false) z z z (wl_nil (tn (wp_seq (wp_seq (wrl ?_)))))
 obtain ⟨t77, ht78, hm⟩ := bind_some hm
 refine wc call5 [] z z z ?_
 refine (law21_awake_ref hst.to0 ht78).mono ?_
 rintro _ w79 ⟨I80, rfl, hI81, hst⟩
 refine ⟨_, z, ?_⟩
 replace hst := hst.of0
 replace f2_0 := f2_0.mono (rd_le hI81)
 replace hI0 := hI0.trans hI81
 refine wv (.bool (!t77)) z z z (wv (.bool (!t77)) z z z ?_)
 refine bsplit (!t77) (fun hc82 => ?_) (fun hc82 => ?_)
 {
 replace hm := bif_t hc82 hm
 refine wo hc82 z z z z z z (wo hc82 z z z z z z (wo hc82 z z z z z z (wv (.bool true) z z (x_pick_t hc82 z z) (wl_nil (tn ?_)))))
 refine wp_ift z ?_
 refine wp_seq (wrl ?_)
 obtain ⟨t83, ht84, hm⟩ := bind_some hm
 refine wc call5 [] z z z ?_
 refine (law21_awake_ref hst.to0 ht84).mono ?_
 rintro _ w85 ⟨I86, rfl, hI87, hst⟩
 refine ⟨_, z, ?_⟩
 replace hst := hst.of0
 replace f2_0 := f2_0.mono (rd_le hI87)
 replace hI0 := hI0.trans hI87
 refine wv (.bool t83) z z z (wl_nil (tn (wp_ret (then_r ?_))))
 obtain rfl := some_inj hm
 refine post_ret (vs := [.bool t83]) results3 (rvs_cons (rv_tmp z) rvs_nil) ?_
 exact ⟨_, z, hI0, hst.keep0⟩
}
 {
 replace hm := bif_f hc82 hm
 refine wv (r2_0) ((wanted_eq z z z (cvb hc82)).trans z) z z (wv (.int .i64 ((a2).length : Int)) ((wanted_eq z z z (cvb hc82)).trans z) z (x_len z underlying24 (rd_sliceV f2_0)) (wv (.bool (decide (((a2).length : Int) > (100:Int)))) ((wanted_eq z z z (cvb hc82)).trans z) z z (wv (.bool (decide (((a2).length : Int) > (100:Int)))) z z (x_pick_f hc82 z z) (wl_nil (tn ?_)))))
 refine bsplit (decide (((a2).length : Int) > (100:Int))) (fun hc88 => ?_) (fun hc88 => ?_)
 {
 replace hm := bif_t hc88 hm
 refine wp_ift (cvb hc88) ?_
 refine wp_seq (wrl ?_)
 obtain ⟨t89, ht90, hm⟩ := bind_some hm
 refine wc call5 [] z z z ?_
 refine (law21_awake_ref hst.to0 ht90).mono ?_
 rintro _ w91 ⟨I92, rfl, hI93, hst⟩
 refine ⟨_, z, ?_⟩
 replace hst := hst.of0
 replace f2_0 := f2_0.mono (rd_le hI93)
 replace hI0 := hI0.trans hI93
 refine wv (.bool t89) z z z (wl_nil (tn (wp_ret (then_r ?_))))
 obtain rfl := some_inj hm
 refine post_ret (vs := [.bool t89]) results3 (rvs_cons (rv_tmp z) rvs_nil) ?_
 exact ⟨_, z, hI0, hst.keep0⟩
}
 {
 replace hm := bif_f hc88 hm
 refine wp_iff (cvb hc88) ?_
 refine wp_skip (tn (wp_seq (wrl ?_)))
 obtain ⟨t94, ht95, hm⟩ := bind_some hm
 refine wc call6 [] z z z ?_
 refine (law21_open_ref hst.to0 ht95).mono ?_
 rintro _ w96 ⟨I97, v99, v101, rfl, hI98, hst⟩
 refine ⟨_, z, ?_⟩
 replace hst := hst.of1
 replace f2_0 := f2_0.mono (rd_le hI98)
 replace hI0 := hI0.trans hI98
 refine wv (.tuple #[v99, v101]) z z z (wv (v99) z z z (wv (v101) z z z (wv (v99) z z z (wv (v101) z z z (wl_nil (tn (wp_seq (wrl (wv (Pt b67 0) z z (x_field z underlying23 z sizeOf3 z) (wv (.int .i64 a0.From) z z (x_load z isAgg3 (hst.bc2 z)) (wv (.int .u64 (u64.wrap a0.From)) z z (by kernel_rfl) (wv (.int .u64 (Int.tmod (u64.wrap a0.From) (3:Int))) z z (x_rem (by decide) z z) (wv (.int .i64 (i64.wrap (Int.tmod (u64.wrap a0.From) (3:Int)))) z z (by kernel_rfl) (wv (Pt b67 1) z z (x_field z underlying23 z sizeOf3 z) (wv (.int .i64 a0.To) z z (x_load z isAgg3 (hst.bc2 z)) ?_)))))))))))))))
 refine wv (.int .u64 (u64.wrap a0.To)) z z (by kernel_rfl) (wv (.int .u64 (Int.tmod (u64.wrap a0.To) (3:Int))) z z (x_rem (by decide) z z) (wv (.int .i64 (i64.wrap (Int.tmod (u64.wrap a0.To) (3:Int)))) z z (by kernel_rfl) (wv (Pt b67 2) z z (x_field z underlying23 z sizeOf3 z) (wv (.int .i64 a0.Lane) z z (x_load z isAgg3 (hst.bc2 z)) (wv (.int .u64 (u64.wrap a0.Lane)) z z (by kernel_rfl) (wv (.int .u64 (Int.tmod (u64.wrap a0.Lane) (3:Int))) z z (x_rem (by decide) z z) (wv (.int .i64 (i64.wrap (Int.tmod (u64.wrap a0.Lane) (3:Int)))) z z (by kernel_rfl) (wv (.agg #[I6 (i64.wrap (Int.tmod (u64.wrap a0.From) (3:Int))), I6 (i64.wrap (Int.tmod (u64.wrap a0.To) (3:Int))), I6 (i64.wrap (Int.tmod (u64.wrap a0.Lane) (3:Int)))]) z z (by kernel_rfl) ?_))))))))
 replace hst := hst.pull2
 obtain ⟨w102, hr103, hst⟩ := hst.bx [I6 (i64.wrap (Int.tmod (u64.wrap a0.From) (3:Int))), I6 (i64.wrap (Int.tmod (u64.wrap a0.To) (3:Int))), I6 (i64.wrap (Int.tmod (u64.wrap a0.Lane) (3:Int)))] sizeOf23 z (oC z (oC z (oC z oN))) (by kernel_rfl)
 refine wl_unit z z (x_unit hr103) ?_
 refine wl_nil (tn (wp_seq (wrl (wv (v99) z z z (wv (.agg #[I6 (i64.wrap (Int.tmod (u64.wrap a0.From) (3:Int))), I6 (i64.wrap (Int.tmod (u64.wrap a0.To) (3:Int))), I6 (i64.wrap (Int.tmod (u64.wrap a0.Lane) (3:Int)))]) z z (x_loadN (cs := [I6 (i64.wrap (Int.tmod (u64.wrap a0.From) (3:Int))), I6 (i64.wrap (Int.tmod (u64.wrap a0.To) (3:Int))), I6 (i64.wrap (Int.tmod (u64.wrap a0.Lane) (3:Int)))]) z isAgg23 sizeOf23 (hst.bcs0 0 z)) (wv (r2_0) z z z ?_))))))
 replace hst := hst.pull1
 obtain ⟨t104, ht105, hm⟩ := bind_some hm
 refine wc call7 [v99, .agg #[I6 (i64.wrap (Int.tmod (u64.wrap a0.From) (3:Int))), I6 (i64.wrap (Int.tmod (u64.wrap a0.To) (3:Int))), I6 (i64.wrap (Int.tmod (u64.wrap a0.Lane) (3:Int)))], r2_0] z z z ?_
 refine (net_Net_Put_ref (f2_0.mono (rd_weak _)) hst.to1 ht105).mono ?_
 rintro _ w106 ⟨I107, rfl, hI108, hst⟩
 refine ⟨_, z, ?_⟩
 replace hst := hst.of1
 replace f2_0 := f2_0.mono (rd_le hI108)
 replace hI0 := hI0.trans hI108
 refine wv (.int .i64 t104.1) z z z (wl_nil (tn (wp_seq (wp_seq (wrl (wv (.int .i64 t104.1) z z z (wv (.bool (t104.1 != (0:Int))) z z z (wl_nil (tn ?_)))))))))
 refine bsplit (t104.1 != (0:Int)) (fun hc109 => ?_) (fun hc109 => ?_)
 {
 replace hm := bif_t hc109 hm
 refine wp_ift (cvb hc109) ?_
 refine wp_seq (wrl (wv (Pt b67 0) z z (x_field z underlying23 z sizeOf3 z) (wv (.int .i64 (i64.wrap (Int.tmod (u64.wrap a0.From) (3:Int)))) z z (x_load z isAgg3 (hst.bc1 z)) (wv (Pt b67 1) z z (x_field z underlying23 z sizeOf3 z) (wv (.int .i64 (i64.wrap (Int.tmod (u64.wrap a0.To) (3:Int)))) z z (x_load z isAgg3 (hst.bc1 z)) (wv (.bool ((i64.wrap (Int.tmod (u64.wrap a0.From) (3:Int))) == (i64.wrap (Int.tmod (u64.wrap a0.To) (3:Int))))) z z z (wv (.bool ((i64.wrap (Int.tmod (u64.wrap a0.From) (3:Int))) == (i64.wrap (Int.tmod (u64.wrap a0.To) (3:Int))))) z z z ?_)))))))
 refine bsplit ((i64.wrap (Int.tmod (u64.wrap a0.From) (3:Int))) == (i64.wrap (Int.tmod (u64.wrap a0.To) (3:Int)))) (fun hc110 => ?_) (fun hc110 => ?_)
 {
 replace hm := bif_t hc110 hm
 refine wv (v99) ((wanted_eq z z z (cvb hc110)).trans z) z z (wv (.agg #[I6 (i64.wrap (Int.tmod (u64.wrap a0.From) (3:Int))), I6 (i64.wrap (Int.tmod (u64.wrap a0.To) (3:Int))), I6 (i64.wrap (Int.tmod (u64.wrap a0.Lane) (3:Int)))]) ((wanted_eq z z z (cvb hc110)).trans z) z (x_loadN (cs := [I6 (i64.wrap (Int.tmod (u64.wrap a0.From) (3:Int))), I6 (i64.wrap (Int.tmod (u64.wrap a0.To) (3:Int))), I6 (i64.wrap (Int.tmod (u64.wrap a0.Lane) (3:Int)))]) z isAgg23 sizeOf23 (hst.bcs1 0 z)) ?_)
 obtain ⟨t111, ht112, hm⟩ := bind_some hm
 refine wl_call ((wanted_eq z z z (cvb hc110)).trans z) z (x_call call8 z (vs := [v99, .agg #[I6 (i64.wrap (Int.tmod (u64.wrap a0.From) (3:Int))), I6 (i64.wrap (Int.tmod (u64.wrap a0.To) (3:Int))), I6 (i64.wrap (Int.tmod (u64.wrap a0.Lane) (3:Int)))]]) z) ?_
 refine (net_Net_Len_ref hst.to1 ht112).mono ?_
 rintro _ w113 ⟨rfl, hst⟩
 refine ⟨_, z, ?_⟩
 replace hst := hst.of1
 refine wv (.bool (t111 == (0:Int))) ((wanted_eq z z z (cvb hc110)).trans z) z z (wv (.bool (t111 == (0:Int))) z z (x_pick_t hc110 z z) (wv (.bool (t111 == (0:Int))) z z z (wl_nil (tn (wp_ret (then_r ?_))))))
 obtain rfl := some_inj hm
 refine post_ret (vs := [.bool (t111 == (0:Int))]) results3 (rvs_cons (rv_tmp z) rvs_nil) ?_
 exact ⟨_, z, hI0, hst.keep0⟩
}
 {
 replace hm := bif_f hc110 hm
 refine wo hc110 z z z z z z (wo hc110 z z z z z z (wo hc110 z z z z z z (wo hc110 z z z z z z (wv (.bool false) z z (x_pick_f hc110 z z) (wv (.bool false) z z z (wl_nil (tn (wp_ret (then_r ?_)))))))))
 obtain rfl := some_inj hm
 refine post_ret (vs := [.bool false]) results3 (rvs_cons (rv_tmp z) rvs_nil) ?_
 exact ⟨_, z, hI0, hst.keep0⟩
}
}
 {
 replace hm := bif_f hc109 hm
 refine wp_iff (cvb hc109) ?_
 refine wp_skip (tn (wp_seq (wrl ?_)))
 refine wv (v99) z z z (wv (.agg #[I6 a1.From, I6 a1.To, I6 a1.Lane]) z z (x_loadN (cs := [I6 a1.From, I6 a1.To, I6 a1.Lane]) z isAgg23 sizeOf23 (hst.bcs2 0 z)) ?_)
 obtain ⟨t116, ht117, hm⟩ := bind_some hm
 refine wc call9 [v99, .agg #[I6 a1.From, I6 a1.To, I6 a1.Lane], Zi] z z z ?_
 refine (net_Net_Take_ref hst.to1 ht117).mono ?_
 rintro _ w118 ⟨I119, v121, rfl, hI120, f123, hst⟩
 refine ⟨_, z, ?_⟩
 replace hst := hst.of1
 replace f2_0 := f2_0.mono (rd_le hI120)
 replace hI0 := hI0.trans hI120
 refine wv (.tuple #[v121, .bool t116.2.1]) z z z (wv (v121) z z z (wv (.bool t116.2.1) z z z (wv (v121) z z z (wv (.bool t116.2.1) z z z (wl_nil (tn (wp_seq (wrl (wv (.bool t116.2.1) z z z (wv (.agg #[I6 (i64.wrap (Int.tmod (u64.wrap a0.From) (3:Int))), I6 (i64.wrap (Int.tmod (u64.wrap a0.To) (3:Int))), I6 (i64.wrap (Int.tmod (u64.wrap a0.Lane) (3:Int)))]) z z (x_loadN (cs := [I6 (i64.wrap (Int.tmod (u64.wrap a0.From) (3:Int))), I6 (i64.wrap (Int.tmod (u64.wrap a0.To) (3:Int))), I6 (i64.wrap (Int.tmod (u64.wrap a0.Lane) (3:Int)))]) z isAgg23 sizeOf23 (hst.bcs1 0 z)) (wv (.agg #[I6 a1.From, I6 a1.To, I6 a1.Lane]) z z (x_loadN (cs := [I6 a1.From, I6 a1.To, I6 a1.Lane]) z isAgg23 sizeOf23 (hst.bcs2 0 z)) (wv (.bool (((i64.wrap (Int.tmod (u64.wrap a0.From) (3:Int))) == a1.From) && ((i64.wrap (Int.tmod (u64.wrap a0.To) (3:Int))) == a1.To) && ((i64.wrap (Int.tmod (u64.wrap a0.Lane) (3:Int))) == a1.Lane))) z z (x_agg3 (a0 := (i64.wrap (Int.tmod (u64.wrap a0.From) (3:Int)))) (a1 := (i64.wrap (Int.tmod (u64.wrap a0.To) (3:Int)))) (a2 := (i64.wrap (Int.tmod (u64.wrap a0.Lane) (3:Int)))) (b0 := a1.From) (b1 := a1.To) (b2 := a1.Lane) z z (by kernel_rfl) key3_23) (wv (.bool (t116.2.1 == (((i64.wrap (Int.tmod (u64.wrap a0.From) (3:Int))) == a1.From) && ((i64.wrap (Int.tmod (u64.wrap a0.To) (3:Int))) == a1.To) && ((i64.wrap (Int.tmod (u64.wrap a0.Lane) (3:Int))) == a1.Lane)))) z z (by kernel_rfl) (wv (.bool (t116.2.1 == (((i64.wrap (Int.tmod (u64.wrap a0.From) (3:Int))) == a1.From) && ((i64.wrap (Int.tmod (u64.wrap a0.To) (3:Int))) == a1.To) && ((i64.wrap (Int.tmod (u64.wrap a0.Lane) (3:Int))) == a1.Lane)))) z z z ?_))))))))))))))
 refine bsplit (t116.2.1 == (((i64.wrap (Int.tmod (u64.wrap a0.From) (3:Int))) == a1.From) && ((i64.wrap (Int.tmod (u64.wrap a0.To) (3:Int))) == a1.To) && ((i64.wrap (Int.tmod (u64.wrap a0.Lane) (3:Int))) == a1.Lane))) (fun hc124 => ?_) (fun hc124 => ?_)
 {
 replace hm := bif_t hc124 hm
 refine wv (.bool t116.2.1) ((wanted_eq z z z (cvb hc124)).trans z) z z (wv (.bool t116.2.1) ((wanted_eq z z z (cvb hc124)).trans z) z z ?_)
 refine bsplit t116.2.1 (fun hc125 => ?_) (fun hc125 => ?_)
 {
 replace hm := bif_t hc125 hm
 refine wo hc125 z z z z z z (wo hc125 z z z z z z (wo hc125 z z z z z z (wo hc125 z z z z z z (wv (.bool true) ((wanted_eq z z z (cvb hc124)).trans z) z (x_pick_t hc125 z z) (wv (.bool true) z z (x_pick_t hc124 z z) (wv (.bool true) z z z (wl_nil (tn (wp_ret ?_)))))))))
 obtain rfl := some_inj hm
 refine post_ret (vs := [.bool true]) results3 (rvs_cons (rv_tmp z) rvs_nil) ?_
 exact ⟨_, z, hI0, hst.keep0⟩
}
 {
 replace hm := bif_f hc125 hm
 refine wv (v99) ((wanted_eq z z z (cvb hc125)).trans z) z z (wv (.agg #[I6 (i64.wrap (Int.tmod (u64.wrap a0.From) (3:Int))), I6 (i64.wrap (Int.tmod (u64.wrap a0.To) (3:Int))), I6 (i64.wrap (Int.tmod (u64.wrap a0.Lane) (3:Int)))]) ((wanted_eq z z z (cvb hc125)).trans z) z (x_loadN (cs := [I6 (i64.wrap (Int.tmod (u64.wrap a0.From) (3:Int))), I6 (i64.wrap (Int.tmod (u64.wrap a0.To) (3:Int))), I6 (i64.wrap (Int.tmod (u64.wrap a0.Lane) (3:Int)))]) z isAgg23 sizeOf23 (hst.bcs1 0 z)) ?_)
 obtain ⟨t126, ht127, hm⟩ := bind_some hm
 refine wl_call ((wanted_eq z z z (cvb hc125)).trans z) z (x_call call8 z (vs := [v99, .agg #[I6 (i64.wrap (Int.tmod (u64.wrap a0.From) (3:Int))), I6 (i64.wrap (Int.tmod (u64.wrap a0.To) (3:Int))), I6 (i64.wrap (Int.tmod (u64.wrap a0.Lane) (3:Int)))]]) z) ?_
 refine (net_Net_Len_ref hst.to1 ht127).mono ?_
 rintro _ w128 ⟨rfl, hst⟩
 refine ⟨_, z, ?_⟩
 replace hst := hst.of1
 refine wv (.bool (t126 == (1:Int))) ((wanted_eq z z z (cvb hc125)).trans z) z z (wv (.bool (t126 == (1:Int))) ((wanted_eq z z z (cvb hc124)).trans z) z (x_pick_f hc125 z z) (wv (.bool (t126 == (1:Int))) z z (x_pick_t hc124 z z) (wv (.bool (t126 == (1:Int))) z z z (wl_nil (tn (wp_ret ?_))))))
 obtain rfl := some_inj hm
 refine post_ret (vs := [.bool (t126 == (1:Int))]) results3 (rvs_cons (rv_tmp z) rvs_nil) ?_
 exact ⟨_, z, hI0, hst.keep0⟩
}
}
 {
 replace hm := bif_f hc124 hm
 refine wo hc124 z z z z z z (wo hc124 z z z z z z (wl_off (wanted_undef z z z z) z (wl_off (wanted_undef z z z z) z (wl_off (wanted_undef z z z z) z (wl_off (wanted_undef z z z z) z (wo hc124 z z z z z z (wv (.bool false) z z (x_pick_f hc124 z z) (wv (.bool false) z z z (wl_nil (tn (wp_ret ?_)))))))))))
 obtain rfl := some_inj hm
 refine post_ret (vs := [.bool false]) results3 (rvs_cons (rv_tmp z) rvs_nil) ?_
 exact ⟨_, z, hI0, hst.keep0⟩
}
}
}
}
}

end Go.Proofs.Ytbdbeenkamcglaa
