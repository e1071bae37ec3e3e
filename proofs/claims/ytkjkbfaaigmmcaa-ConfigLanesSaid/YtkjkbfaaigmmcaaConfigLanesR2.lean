/- The Go functions refine their models, part 2. -/
import Derived.Test.YtkjkbfaaigmmcaaConfigLanesR1
set_option linter.unusedVariables false
set_option linter.unusedSimpArgs false
set_option maxRecDepth 100000
set_option maxHeartbeats 4000000
namespace Go.Proofs.Ytkjkbfaaigmmcaa
open Go Go.V
open _root_.Go.Proofs.Try IntKind
attribute [local irreducible] wpList Code.wp wpQuiet Calls bodyPost Oper.wp wpS Nx PendOK YieldsIn
theorem config_New_ref {w0 w : World} {I : HL} {R : SP} {a0 : api_Config} {r0_0 : Value} {r0_1 : Value} (f0_0 : Ro (tyInt .u64) I r0_0 a0.Up) (f0_1 : Ro tyF64 I r0_1 a0.Cuts) (hst : St w0 w I [] R) {r : (Option config_Plan × Int)} (hm : config_New a0 = some r) :
  Calls prog 11 #[.agg #[r0_0, I6 a0.Nodes, r0_1, I6 a0.Frame, I6 a0.Depth, I6 a0.Quota, I6 a0.Wide, I6 a0.Beat, I6 a0.Elect]] w fun e w' => ∃ (I' : HL) (q0 : Value), e = .returned (.tuple #[q0, I6 r.2]) ∧ I.le I' ∧ St w0 w' I' [objO at_config_Plan q0 r.1] R := by {
 unfold config_New at hm
 refine calls_start (args := [.agg #[r0_0, I6 a0.Nodes, r0_1, I6 a0.Frame, I6 a0.Depth, I6 a0.Quota, I6 a0.Wide, I6 a0.Beat, I6 a0.Elect]]) func11 z ntmps11 (Nat.le_of_ble_eq_true z) ?_
 have hI0 := HL.le.refl I
 refine wp_seq (wrl ?_)
 obtain ⟨b89, w90, ew91, eb92, hst⟩ := hst.box [r0_0, I6 a0.Nodes, r0_1, I6 a0.Frame, I6 a0.Depth, I6 a0.Quota, I6 a0.Wide, I6 a0.Beat, I6 a0.Elect] 28
 refine wl_run (v := Pt b89 0) (w' := w90) z z (x_al (by kernel_rfl) ew91 eb92) ?_
 refine wv (.pointer none) z z z (wv (.int .i64 (0:Int)) z z z (wl_nil (tn (wp_seq (wp_block ?_)))))
 obtain ⟨y105, hm, hx106⟩ := bind_some hm
 refine wp_cut (fun a w => ∃ (z102 : Bool) (σ103 : Nat → Value), (config_New_j0 a0) z102 = some r ∧ a = Fr 86 (upd (upd σ103 1 (Pt b89 0)) 6 (.bool z102)) ∧ St w0 w I [cells b89 [r0_0, I6 a0.Nodes, r0_1, I6 a0.Frame, I6 a0.Depth, I6 a0.Quota, I6 a0.Wide, I6 a0.Beat, I6 a0.Elect]] R) ?_ ?_
 {
 refine wp_seq (wrl (wv (Pt b89 1) z z (x_field z underlying28 z sizeOf3 z) (wv (.int .i64 a0.Nodes) z z (x_load z isAgg3 (hst.bc0 z)) (wv (.bool (decide (a0.Nodes < (1:Int)))) z z z (wv (.bool (decide (a0.Nodes < (1:Int)))) z z z ?_)))))
 refine bsplit (decide (a0.Nodes < (1:Int))) (fun hc94 => ?_) (fun hc94 => ?_)
 {
 replace hm := bif_t hc94 hm
 refine wo hc94 z z z z z z (wo hc94 z z z z z z (wo hc94 z z z z z z (wv (.bool true) z z (x_pick_t hc94 z z) (wv (.bool true) z z z (wl_nil (tn ?_))))))
 refine wp_ift z ?_
 refine wp_skip (tn ?_)
 replace hst := hst.keep1
 obtain rfl := some_inj hm
 exact ⟨true, _, hx106, (fu 1 (Pt b89 0) z (fu 6 (.bool true) z z)), hst⟩
}
 {
 replace hm := bif_f hc94 hm
 refine wv (Pt b89 1) ((wanted_eq z z z (cvb hc94)).trans z) z (x_field z underlying28 z sizeOf3 z) (wv (.int .i64 a0.Nodes) ((wanted_eq z z z (cvb hc94)).trans z) z (x_load z isAgg3 (hst.bc0 z)) (wv (.bool (decide (a0.Nodes > (7:Int)))) ((wanted_eq z z z (cvb hc94)).trans z) z z (wv (.bool (decide (a0.Nodes > (7:Int)))) z z (x_pick_f hc94 z z) (wv (.bool (decide (a0.Nodes > (7:Int)))) z z z (wl_nil (tn ?_))))))
 refine bsplit (decide (a0.Nodes > (7:Int))) (fun hc95 => ?_) (fun hc95 => ?_)
 {
 replace hm := bif_t hc95 hm
 refine wp_ift (cvb hc95) ?_
 refine wp_skip (tn ?_)
 replace hst := hst.keep1
 obtain rfl := some_inj hm
 exact ⟨(decide (a0.Nodes > (7:Int))), _, hx106, (fu 1 (Pt b89 0) z (fu 6 (.bool (decide (a0.Nodes > (7:Int)))) z z)), hst⟩
}
 {
 replace hm := bif_f hc95 hm
 refine wp_iff (cvb hc95) ?_
 refine wp_seq (wrl (wv (Pt b89 2) z z (x_field z underlying28 z sizeOf26 z) (wv (r0_1) z z (x_load z isAgg26 (hst.bc0 z)) (wv (.int .i64 ((a0.Cuts).length : Int)) z z (x_len z underlying26 (ro_sliceV f0_1)) (wv (.bool (decide (((a0.Cuts).length : Int) ≥ (8:Int)))) z z z (wv (.bool (decide (((a0.Cuts).length : Int) ≥ (8:Int)))) z z z (wl_nil (tn ?_))))))))
 refine bsplit (decide (((a0.Cuts).length : Int) ≥ (8:Int))) (fun hc96 => ?_) (fun hc96 => ?_)
 {
 replace hm := bif_t hc96 hm
 refine wp_ift (cvb hc96) ?_
 refine wp_skip (tn ?_)
 replace hst := hst.keep1
 obtain rfl := some_inj hm
 exact ⟨(decide (((a0.Cuts).length : Int) ≥ (8:Int))), _, hx106, (fu 1 (Pt b89 0) z (fu 6 (.bool (decide (((a0.Cuts).length : Int) ≥ (8:Int)))) z z)), hst⟩
}
 {
 replace hm := bif_f hc96 hm
 refine wp_iff (cvb hc96) ?_
 refine wrl (wv (Pt b89 2) z z (x_field z underlying28 z sizeOf26 z) (wv (r0_1) z z (x_load z isAgg26 (hst.bc0 z)) ?_))
 obtain ⟨t97, ht98, hm⟩ := bind_some hm
 refine wc call33 [r0_1] z z z ?_
 refine (number_Rising_ref (f0_1.mono ro_rd) hst.to0 ht98).mono ?_
 rintro _ w99 ⟨rfl, hst⟩
 refine ⟨_, z, ?_⟩
 replace hst := hst.of0
 refine wv (.bool (!t97)) z z z (wv (.bool (!t97)) z z z (wl_nil (tn ?_)))
 replace hst := hst.keep1
 obtain rfl := some_inj hm
 exact ⟨(!t97), _, hx106, (fu 1 (Pt b89 0) z (fu 6 (.bool (!t97)) z z)), hst⟩
}
}
}
}
 {
 clear hst
 rintro _ w107 ⟨z102, σ103, hm, rfl, hst⟩
 dsimp only [config_New_j0] at hm
 refine bsplit z102 (fun hc108 => ?_) (fun hc108 => ?_)
 {
 replace hm := bif_t hc108 hm
 refine wp_ift (cvb hc108) ?_
 refine wp_seq (wrl (wv (.pointer none) z z z (wv (.int .i64 (1:Int)) z z z (wl_nil (tn (wp_ret (blk_r (then_r ?_))))))))
 replace hst := hst.objO_nil at_config_Plan
 obtain rfl := some_inj hm
 refine post_ret (vs := [.pointer none, I6 (1:Int)]) results11 (rvs_cons (rv_tmp z) (rvs_cons (rv_tmp z) rvs_nil)) ?_
 exact ⟨_, .pointer none, z, hI0, hst.keep1⟩
}
 {
 replace hm := bif_f hc108 hm
 refine wp_iff (cvb hc108) ?_
 obtain ⟨y116, hm, hx117⟩ := bind_some hm
 refine wp_cut (fun a w => ∃ (z113 : Bool) (σ114 : Nat → Value), (config_New_j1 a0) z113 = some r ∧ a = Fr 86 (upd (upd σ114 1 (Pt b89 0)) 23 (.bool z113)) ∧ St w0 w I [cells b89 [r0_0, I6 a0.Nodes, r0_1, I6 a0.Frame, I6 a0.Depth, I6 a0.Quota, I6 a0.Wide, I6 a0.Beat, I6 a0.Elect]] R) ?_ ?_
 {
 refine wp_seq (wrl (wv (Pt b89 3) z z (x_field z underlying28 z sizeOf3 z) (wv (.int .i64 a0.Frame) z z (x_load z isAgg3 (hst.bc0 z)) (wv (.bool (decide (a0.Frame < (64:Int)))) z z z (wv (.bool (decide (a0.Frame < (64:Int)))) z z z ?_)))))
 refine bsplit (decide (a0.Frame < (64:Int))) (fun hc110 => ?_) (fun hc110 => ?_)
 {
 replace hm := bif_t hc110 hm
 refine wo hc110 z z z z z z (wo hc110 z z z z z z (wo hc110 z z z z z z (wv (.bool true) z z (x_pick_t hc110 z z) (wv (.bool true) z z z (wl_nil (tn ?_))))))
 refine wp_ift z ?_
 refine wp_skip (tn ?_)
 replace hst := hst.keep1
 obtain rfl := some_inj hm
 exact ⟨true, _, hx117, (fu 1 (Pt b89 0) z (fu 23 (.bool true) z z)), hst⟩
}
 {
 replace hm := bif_f hc110 hm
 refine wv (Pt b89 3) ((wanted_eq z z z (cvb hc110)).trans z) z (x_field z underlying28 z sizeOf3 z) (wv (.int .i64 a0.Frame) ((wanted_eq z z z (cvb hc110)).trans z) z (x_load z isAgg3 (hst.bc0 z)) (wv (.bool (decide (a0.Frame > (4096:Int)))) ((wanted_eq z z z (cvb hc110)).trans z) z z (wv (.bool (decide (a0.Frame > (4096:Int)))) z z (x_pick_f hc110 z z) (wv (.bool (decide (a0.Frame > (4096:Int)))) z z z (wl_nil (tn ?_))))))
 refine bsplit (decide (a0.Frame > (4096:Int))) (fun hc111 => ?_) (fun hc111 => ?_)
 {
 replace hm := bif_t hc111 hm
 refine wp_ift (cvb hc111) ?_
 refine wp_skip (tn ?_)
 replace hst := hst.keep1
 obtain rfl := some_inj hm
 exact ⟨(decide (a0.Frame > (4096:Int))), _, hx117, (fu 1 (Pt b89 0) z (fu 23 (.bool (decide (a0.Frame > (4096:Int)))) z z)), hst⟩
}
 {
 replace hm := bif_f hc111 hm
 refine wp_iff (cvb hc111) ?_
 refine wrl (wv (Pt b89 4) z z (x_field z underlying28 z sizeOf3 z) (wv (.int .i64 a0.Depth) z z (x_load z isAgg3 (hst.bc0 z)) (wv (.bool (decide (a0.Depth < (1:Int)))) z z z (wv (.bool (decide (a0.Depth < (1:Int)))) z z z ?_))))
 refine bsplit (decide (a0.Depth < (1:Int))) (fun hc112 => ?_) (fun hc112 => ?_)
 {
 replace hm := bif_t hc112 hm
 refine wo hc112 z z z z z z (wo hc112 z z z z z z (wo hc112 z z z z z z (wv (.bool true) z z (x_pick_t hc112 z z) (wv (.bool true) z z z (wl_nil (tn ?_))))))
 replace hst := hst.keep1
 obtain rfl := some_inj hm
 exact ⟨true, _, hx117, (fu 1 (Pt b89 0) z (fu 23 (.bool true) z z)), hst⟩
}
 {
 replace hm := bif_f hc112 hm
 refine wv (Pt b89 4) ((wanted_eq z z z (cvb hc112)).trans z) z (x_field z underlying28 z sizeOf3 z) (wv (.int .i64 a0.Depth) ((wanted_eq z z z (cvb hc112)).trans z) z (x_load z isAgg3 (hst.bc0 z)) (wv (.bool (decide (a0.Depth > (65536:Int)))) ((wanted_eq z z z (cvb hc112)).trans z) z z (wv (.bool (decide (a0.Depth > (65536:Int)))) z z (x_pick_f hc112 z z) (wv (.bool (decide (a0.Depth > (65536:Int)))) z z z (wl_nil (tn ?_))))))
 replace hst := hst.keep1
 obtain rfl := some_inj hm
 exact ⟨(decide (a0.Depth > (65536:Int))), _, hx117, (fu 1 (Pt b89 0) z (fu 23 (.bool (decide (a0.Depth > (65536:Int)))) z z)), hst⟩
}
}
}
}
 {
 clear hst
 rintro _ w118 ⟨z113, σ114, hm, rfl, hst⟩
 dsimp only [config_New_j1] at hm
 refine bsplit z113 (fun hc119 => ?_) (fun hc119 => ?_)
 {
 replace hm := bif_t hc119 hm
 refine wp_ift (cvb hc119) ?_
 refine wp_seq (wrl (wv (.pointer none) z z z (wv (.int .i64 (1:Int)) z z z (wl_nil (tn (wp_ret (blk_r (then_r ?_))))))))
 replace hst := hst.objO_nil at_config_Plan
 obtain rfl := some_inj hm
 refine post_ret (vs := [.pointer none, I6 (1:Int)]) results11 (rvs_cons (rv_tmp z) (rvs_cons (rv_tmp z) rvs_nil)) ?_
 exact ⟨_, .pointer none, z, hI0, hst.keep1⟩
}
 {
 replace hm := bif_f hc119 hm
 refine wp_iff (cvb hc119) ?_
 obtain ⟨y127, hm, hx128⟩ := bind_some hm
 refine wp_cut (fun a w => ∃ (z124 : Bool) (σ125 : Nat → Value), (config_New_j2 a0) z124 = some r ∧ a = Fr 86 (upd (upd σ125 1 (Pt b89 0)) 40 (.bool z124)) ∧ St w0 w I [cells b89 [r0_0, I6 a0.Nodes, r0_1, I6 a0.Frame, I6 a0.Depth, I6 a0.Quota, I6 a0.Wide, I6 a0.Beat, I6 a0.Elect]] R) ?_ ?_
 {
 refine wp_seq (wrl (wv (Pt b89 5) z z (x_field z underlying28 z sizeOf3 z) (wv (.int .i64 a0.Quota) z z (x_load z isAgg3 (hst.bc0 z)) (wv (.bool (decide (a0.Quota < (1:Int)))) z z z (wv (.bool (decide (a0.Quota < (1:Int)))) z z z ?_)))))
 refine bsplit (decide (a0.Quota < (1:Int))) (fun hc121 => ?_) (fun hc121 => ?_)
 {
 replace hm := bif_t hc121 hm
 refine wo hc121 z z z z z z (wo hc121 z z z z z z (wo hc121 z z z z z z (wv (.bool true) z z (x_pick_t hc121 z z) (wv (.bool true) z z z (wl_nil (tn ?_))))))
 refine wp_ift z ?_
 refine wp_skip (tn ?_)
 replace hst := hst.keep1
 obtain rfl := some_inj hm
 exact ⟨true, _, hx128, (fu 1 (Pt b89 0) z (fu 40 (.bool true) z z)), hst⟩
}
 {
 replace hm := bif_f hc121 hm
 refine wv (Pt b89 5) ((wanted_eq z z z (cvb hc121)).trans z) z (x_field z underlying28 z sizeOf3 z) (wv (.int .i64 a0.Quota) ((wanted_eq z z z (cvb hc121)).trans z) z (x_load z isAgg3 (hst.bc0 z)) (wv (.bool (decide (a0.Quota > (268435456:Int)))) ((wanted_eq z z z (cvb hc121)).trans z) z z (wv (.bool (decide (a0.Quota > (268435456:Int)))) z z (x_pick_f hc121 z z) (wv (.bool (decide (a0.Quota > (268435456:Int)))) z z z (wl_nil (tn ?_))))))
 refine bsplit (decide (a0.Quota > (268435456:Int))) (fun hc122 => ?_) (fun hc122 => ?_)
 {
 replace hm := bif_t hc122 hm
 refine wp_ift (cvb hc122) ?_
 refine wp_skip (tn ?_)
 replace hst := hst.keep1
 obtain rfl := some_inj hm
 exact ⟨(decide (a0.Quota > (268435456:Int))), _, hx128, (fu 1 (Pt b89 0) z (fu 40 (.bool (decide (a0.Quota > (268435456:Int)))) z z)), hst⟩
}
 {
 replace hm := bif_f hc122 hm
 refine wp_iff (cvb hc122) ?_
 refine wrl (wv (Pt b89 6) z z (x_field z underlying28 z sizeOf3 z) (wv (.int .i64 a0.Wide) z z (x_load z isAgg3 (hst.bc0 z)) (wv (.bool (decide (a0.Wide < (0:Int)))) z z z (wv (.bool (decide (a0.Wide < (0:Int)))) z z z ?_))))
 refine bsplit (decide (a0.Wide < (0:Int))) (fun hc123 => ?_) (fun hc123 => ?_)
 {
 replace hm := bif_t hc123 hm
 refine wo hc123 z z z z z z (wo hc123 z z z z z z (wo hc123 z z z z z z (wv (.bool true) z z (x_pick_t hc123 z z) (wv (.bool true) z z z (wl_nil (tn ?_))))))
 replace hst := hst.keep1
 obtain rfl := some_inj hm
 exact ⟨true, _, hx128, (fu 1 (Pt b89 0) z (fu 40 (.bool true) z z)), hst⟩
}
 {
 replace hm := bif_f hc123 hm
 refine wv (Pt b89 6) ((wanted_eq z z z (cvb hc123)).trans z) z (x_field z underlying28 z sizeOf3 z) (wv (.int .i64 a0.Wide) ((wanted_eq z z z (cvb hc123)).trans z) z (x_load z isAgg3 (hst.bc0 z)) (wv (.bool (decide (a0.Wide > (256:Int)))) ((wanted_eq z z z (cvb hc123)).trans z) z z (wv (.bool (decide (a0.Wide > (256:Int)))) z z (x_pick_f hc123 z z) (wv (.bool (decide (a0.Wide > (256:Int)))) z z z (wl_nil (tn ?_))))))
 replace hst := hst.keep1
 obtain rfl := some_inj hm
 exact ⟨(decide (a0.Wide > (256:Int))), _, hx128, (fu 1 (Pt b89 0) z (fu 40 (.bool (decide (a0.Wide > (256:Int)))) z z)), hst⟩
}
}
}
}
 {
 clear hst
 rintro _ w129 ⟨z124, σ125, hm, rfl, hst⟩
 dsimp only [config_New_j2] at hm
 refine bsplit z124 (fun hc130 => ?_) (fun hc130 => ?_)
 {
 replace hm := bif_t hc130 hm
 refine wp_ift (cvb hc130) ?_
 refine wp_seq (wrl (wv (.pointer none) z z z (wv (.int .i64 (1:Int)) z z z (wl_nil (tn (wp_ret (blk_r (then_r ?_))))))))
 replace hst := hst.objO_nil at_config_Plan
 obtain rfl := some_inj hm
 refine post_ret (vs := [.pointer none, I6 (1:Int)]) results11 (rvs_cons (rv_tmp z) (rvs_cons (rv_tmp z) rvs_nil)) ?_
 exact ⟨_, .pointer none, z, hI0, hst.keep1⟩
}
 {
 replace hm := bif_f hc130 hm
 refine wp_iff (cvb hc130) ?_
 refine wp_seq (wrl (wv (Pt b89 7) z z (x_field z underlying28 z sizeOf3 z) (wv (.int .i64 a0.Beat) z z (x_load z isAgg3 (hst.bc0 z)) (wv (.bool (decide (a0.Beat < (1:Int)))) z z z (wv (.bool (decide (a0.Beat < (1:Int)))) z z z ?_)))))
 refine bsplit (decide (a0.Beat < (1:Int))) (fun hc132 => ?_) (fun hc132 => ?_)
 {
 replace hm := bif_t hc132 hm
 refine wo hc132 z z z z z z (wo hc132 z z z z z z (wo hc132 z z z z z z (wo hc132 z z z z z z (wo hc132 z z z z z z (wv (.bool true) z z (x_pick_t hc132 z z) (wv (.bool true) z z z (wz z z z z z z (wz z z z z z z (wz z z z z z z (wv (.bool true) z z (x_pick_t z z z) (wv (.bool true) z z z (wl_nil (tn ?_)))))))))))))
 refine wp_ift z ?_
 refine wp_seq (wrl (wv (.pointer none) z z z (wv (.int .i64 (1:Int)) z z z (wl_nil (tn (wp_ret (blk_r (then_r ?_))))))))
 replace hst := hst.objO_nil at_config_Plan
 obtain rfl := some_inj hm
 refine post_ret (vs := [.pointer none, I6 (1:Int)]) results11 (rvs_cons (rv_tmp z) (rvs_cons (rv_tmp z) rvs_nil)) ?_
 exact ⟨_, .pointer none, z, hI0, hst.keep1⟩
}
 {
 replace hm := bif_f hc132 hm
 refine wv (Pt b89 8) ((wanted_eq z z z (cvb hc132)).trans z) z (x_field z underlying28 z sizeOf3 z) (wv (.int .i64 a0.Elect) ((wanted_eq z z z (cvb hc132)).trans z) z (x_load z isAgg3 (hst.bc0 z)) (wv (Pt b89 7) ((wanted_eq z z z (cvb hc132)).trans z) z (x_field z underlying28 z sizeOf3 z) (wv (.int .i64 a0.Beat) ((wanted_eq z z z (cvb hc132)).trans z) z (x_load z isAgg3 (hst.bc0 z)) (wv (.bool (decide (a0.Elect ≤ a0.Beat))) ((wanted_eq z z z (cvb hc132)).trans z) z z (wv (.bool (decide (a0.Elect ≤ a0.Beat))) z z (x_pick_f hc132 z z) (wv (.bool (decide (a0.Elect ≤ a0.Beat))) z z z ?_))))))
 refine bsplit (decide (a0.Elect ≤ a0.Beat)) (fun hc134 => ?_) (fun hc134 => ?_)
 {
 replace hm := bif_t hc134 hm
 refine wo hc134 z z z z z z (wo hc134 z z z z z z (wo hc134 z z z z z z (wv (.bool true) z z (x_pick_t hc134 z z) (wv (.bool true) z z z (wl_nil (tn ?_))))))
 refine wp_ift z ?_
 refine wp_seq (wrl (wv (.pointer none) z z z (wv (.int .i64 (1:Int)) z z z (wl_nil (tn (wp_ret (blk_r (then_r ?_))))))))
 replace hst := hst.objO_nil at_config_Plan
 obtain rfl := some_inj hm
 refine post_ret (vs := [.pointer none, I6 (1:Int)]) results11 (rvs_cons (rv_tmp z) (rvs_cons (rv_tmp z) rvs_nil)) ?_
 exact ⟨_, .pointer none, z, hI0, hst.keep1⟩
}
 {
 replace hm := bif_f hc134 hm
 refine wv (Pt b89 8) ((wanted_eq z z z (cvb hc134)).trans z) z (x_field z underlying28 z sizeOf3 z) (wv (.int .i64 a0.Elect) ((wanted_eq z z z (cvb hc134)).trans z) z (x_load z isAgg3 (hst.bc0 z)) (wv (.bool (decide (a0.Elect > (1000:Int)))) ((wanted_eq z z z (cvb hc134)).trans z) z z (wv (.bool (decide (a0.Elect > (1000:Int)))) z z (x_pick_f hc134 z z) (wv (.bool (decide (a0.Elect > (1000:Int)))) z z z (wl_nil (tn ?_))))))
 refine bsplit (decide (a0.Elect > (1000:Int))) (fun hc136 => ?_) (fun hc136 => ?_)
 {
 replace hm := bif_t hc136 hm
 refine wp_ift (cvb hc136) ?_
 refine wp_seq (wrl (wv (.pointer none) z z z (wv (.int .i64 (1:Int)) z z z (wl_nil (tn (wp_ret (blk_r (then_r ?_))))))))
 replace hst := hst.objO_nil at_config_Plan
 obtain rfl := some_inj hm
 refine post_ret (vs := [.pointer none, I6 (1:Int)]) results11 (rvs_cons (rv_tmp z) (rvs_cons (rv_tmp z) rvs_nil)) ?_
 exact ⟨_, .pointer none, z, hI0, hst.keep1⟩
}
 {
 replace hm := bif_f hc136 hm
 refine wp_iff (cvb hc136) ?_
 refine wp_skip (blk_n (tn (wp_seq (wrl ?_))))
 refine wv (Pt b89 0) z z (x_field z underlying28 z sizeOf25 z) (wv (r0_0) z z (x_load z isAgg25 (hst.bc0 z)) ?_)
 obtain ⟨t138, ht139, hm⟩ := bind_some hm
 refine wc call34 [r0_0] z z z ?_
 refine (label_New_ref (f0_0.mono ro_rd) hst.to0 ht139).mono ?_
 rintro _ w140 ⟨I141, v143, rfl, hI142, hst⟩
 refine ⟨_, z, ?_⟩
 replace hst := hst.of1
 replace f0_0 := f0_0.mono (ro_le hI142)
 replace f0_1 := f0_1.mono (ro_le hI142)
 replace hI0 := hI0.trans hI142
 refine wv (.tuple #[v143, I6 t138.2]) z z z (wv (v143) z z z (wv (.int .i64 t138.2) z z z (wv (v143) z z z (wv (.int .i64 t138.2) z z z (wl_nil (tn (wp_seq (wp_seq (wrl (wv (.int .i64 t138.2) z z z (wv (.bool (t138.2 != (0:Int))) z z z (wl_nil (tn ?_)))))))))))))
 refine bsplit (t138.2 != (0:Int)) (fun hc145 => ?_) (fun hc145 => ?_)
 {
 replace hm := bif_t hc145 hm
 refine wp_ift (cvb hc145) ?_
 refine wp_seq (wrl (wv (.int .i64 t138.2) z z z (wv (.pointer none) z z z (wv (.int .i64 t138.2) z z z (wl_nil (tn (wp_ret (then_r ?_))))))))
 replace hst := hst.objO_nil at_config_Plan
 obtain rfl := some_inj hm
 refine post_ret (vs := [.pointer none, I6 t138.2]) results11 (rvs_cons (rv_tmp z) (rvs_cons (rv_tmp z) rvs_nil)) ?_
 exact ⟨_, .pointer none, z, hI0, hst.keep1⟩
}
 {
 replace hm := bif_f hc145 hm
 refine wp_iff (cvb hc145) ?_
 refine wp_skip (tn (wp_seq (wrl ?_)))
 refine wv (.agg #[r0_0, I6 a0.Nodes, r0_1, I6 a0.Frame, I6 a0.Depth, I6 a0.Quota, I6 a0.Wide, I6 a0.Beat, I6 a0.Elect]) z z (x_loadN (cs := [r0_0, I6 a0.Nodes, r0_1, I6 a0.Frame, I6 a0.Depth, I6 a0.Quota, I6 a0.Wide, I6 a0.Beat, I6 a0.Elect]) z isAgg28 sizeOf28 (hst.bcs1 0 z)) (wv (v143) z z z (wv (.agg #[r0_0, I6 a0.Nodes, r0_1, I6 a0.Frame, I6 a0.Depth, I6 a0.Quota, I6 a0.Wide, I6 a0.Beat, I6 a0.Elect, v143]) z z (by obtain ⟨_, ha_, _⟩ := at_label_Lattice_isnil hst; rw [ha_]; obtain ⟨_, _, hv_, _⟩ := (ro_sliceV f0_1); rw [hv_]; obtain ⟨_, _, hv_, _⟩ := (ro_sliceV f0_0); rw [hv_]; kernel_rfl) ?_))
 obtain ⟨b149, w150, ew151, eb152, hst⟩ := hst.box [r0_0, I6 a0.Nodes, r0_1, I6 a0.Frame, I6 a0.Depth, I6 a0.Quota, I6 a0.Wide, I6 a0.Beat, I6 a0.Elect, v143] 64
 refine wl_run (v := Pt b149 0) (w' := w150) z z (x_al (by kernel_rfl) ew151 eb152) ?_
 refine wv (Pt b149 0) z z z (wv (.int .i64 (0:Int)) z z z (wl_nil (tn (wp_ret ?_))))
 replace hst := hst.pull1.pull1
 replace hst := at_config_Plan_close (pv := Pt b149 0) (x := ({ C := a0, L := t138.1 } : config_Plan)) hst ⟨z, f0_0, f0_1⟩
 replace hst := objO_some hst
 obtain rfl := some_inj hm
 refine post_ret (vs := [Pt b149 0, Zi]) results11 (rvs_cons (rv_tmp z) (rvs_cons (rv_tmp z) rvs_nil)) ?_
 exact ⟨_, Pt b149 0, z, hI0, hst.keep1⟩
}
}
}
}
}
}
}
}
}
}
}

theorem label_Lattice_Len_ref {w0 w : World} {I : HL} {R : SP} {a0 : (Option label_Lattice)} {p0 : Value}  (hst : St w0 w I [objO at_label_Lattice p0 a0] R) {r : (Int)} (hm : label_Lattice_Len a0 = some r) :
  Calls prog 40 #[p0] w fun e w' => e = .returned (.int .i64 r) ∧ St w0 w' I [objO at_label_Lattice p0 a0] R := by {
 rcases a0 with _ | o0
 {
 obtain ⟨rfl, hst'⟩ := objO_none hst
 clear hst
 have hst := hst'
 clear hst'
 dsimp only [label_Lattice_Len] at hm
 refine calls_start (args := [.pointer none]) func40 z ntmps40 (Nat.le_of_ble_eq_true z) ?_
 refine wp_seq (wrl (wv (.int .i64 (0:Int)) z z z (wl_nil (tn (wp_seq (wp_seq (wrl (wv (.pointer none) z z z (wv (.bool true) z z (by kernel_rfl) (wl_nil (tn ?_)))))))))))
 refine wp_ift z ?_
 refine wp_seq (wrl (wv (.int .i64 (0:Int)) z z z (wl_nil (tn (wp_ret (then_r ?_))))))
 replace hst := hst.objO_nil at_label_Lattice
 obtain rfl := some_inj hm
 refine post_ret (vs := [Zi]) results40 (rvs_cons (rv_tmp z) rvs_nil) ?_
 exact ⟨z, hst.keep1⟩
}
 {
 replace hst := objO_get hst
 dsimp only [label_Lattice_Len] at hm
 refine calls_start (args := [p0]) func40 z ntmps40 (Nat.le_of_ble_eq_true z) ?_
 refine wp_seq (wrl (wv (.int .i64 (0:Int)) z z z (wl_nil (tn (wp_seq (wp_seq (wrl (wv (p0) z z z ?_))))))))
 obtain ⟨b67, v68, v70, v72, v74, v76, v78, rfl, hst'⟩ := at_label_Lattice_open hst
 clear hst
 have hst := hst'
 clear hst'
 refine wv (.bool false) z z (by kernel_rfl) (wl_nil (tn ?_))
 refine wp_iff z ?_
 refine wp_skip (tn (wp_seq (wrl ?_)))
 refine wv (Pt b67 0) z z z (wv (Pt b67 0) z z z (wv (Pt b67 0) z z (x_field z underlying73 z sizeOf25 z) (wv (v68) z z (x_load z isAgg25 (hst.bc0 z)) (wv (.int .i64 ((o0.up).length : Int)) z z (x_len z underlying25 hst.sv1) (wv (.int .i64 ((o0.up).length : Int)) z z z (wl_nil (tn (wp_ret ?_))))))))
 replace hst := hst.pull6.pull6.pull6.pull6.pull6.pull6.pull6
 replace hst := at_label_Lattice_close (pv := Pt b67 0) (x := o0) hst z
 replace hst := objO_some hst
 obtain rfl := some_inj hm
 refine post_ret (vs := [I6 ((o0.up).length : Int)]) results40 (rvs_cons (rv_tmp z) rvs_nil) ?_
 exact ⟨z, hst.keep1⟩
}
}

theorem config_Plan_L0_ref {w0 w : World} {I : HL} {R : SP} {a0 : (Option config_Plan)} {p0 : Value}  (hst : St w0 w I [objO at_config_Plan p0 a0] R) {r : (Int)} (hm : config_Plan_L0 a0 = some r) :
  Calls prog 20 #[p0] w fun e w' => e = .returned (.int .i64 r) ∧ St w0 w' I [objO at_config_Plan p0 a0] R := by {
 rcases a0 with _ | o0
 {
 obtain ⟨rfl, hst'⟩ := objO_none hst
 clear hst
 have hst := hst'
 clear hst'
 dsimp only [config_Plan_L0] at hm
 refine calls_start (args := [.pointer none]) func20 z ntmps20 (Nat.le_of_ble_eq_true z) ?_
 refine wp_seq (wrl (wv (.int .i64 (0:Int)) z z z (wl_nil (tn (wp_seq (wp_seq (wrl (wv (.pointer none) z z z (wv (.bool true) z z (by kernel_rfl) (wl_nil (tn ?_)))))))))))
 refine wp_ift z ?_
 refine wp_seq (wrl (wv (.int .i64 (0:Int)) z z z (wl_nil (tn (wp_ret (then_r ?_))))))
 replace hst := hst.objO_nil at_config_Plan
 obtain rfl := some_inj hm
 refine post_ret (vs := [Zi]) results20 (rvs_cons (rv_tmp z) rvs_nil) ?_
 exact ⟨z, hst.keep1⟩
}
 {
 replace hst := objO_get hst
 dsimp only [config_Plan_L0] at hm
 refine calls_start (args := [p0]) func20 z ntmps20 (Nat.le_of_ble_eq_true z) ?_
 refine wp_seq (wrl (wv (.int .i64 (0:Int)) z z z (wl_nil (tn (wp_seq (wp_seq (wrl (wv (p0) z z z ?_))))))))
 obtain ⟨b58, v59, v62, v65, ⟨rfl, f61, f64⟩, hst'⟩ := at_config_Plan_open hst
 clear hst
 have hst := hst'
 clear hst'
 refine wv (.bool false) z z (by kernel_rfl) (wl_nil (tn ?_))
 refine wp_iff z ?_
 refine wp_skip (tn (wp_seq (wrl ?_)))
 refine wv (Pt b58 0) z z z (wv (Pt b58 0) z z z (wv (Pt b58 9) z z (x_field z underlying64 z sizeOf60 z) (wv (v65) z z (x_load z isAgg60 (hst.bc0 z)) ?_)))
 replace hst := hst.pull1
 obtain ⟨t67, ht68, hm⟩ := bind_some hm
 refine wc call40 [v65] z z z ?_
 refine (label_Lattice_Len_ref hst.to1 ht68).mono ?_
 rintro _ w69 ⟨rfl, hst⟩
 refine ⟨_, z, ?_⟩
 replace hst := hst.of1
 refine wv (.int .i64 t67) z z z (wl_nil (tn (wp_ret ?_)))
 replace hst := hst.pull1
 replace hst := at_config_Plan_close (pv := Pt b58 0) (x := o0) hst ⟨z, f61, f64⟩
 replace hst := objO_some hst
 obtain rfl := some_inj hm
 refine post_ret (vs := [I6 t67]) results20 (rvs_cons (rv_tmp z) rvs_nil) ?_
 exact ⟨z, hst.keep1⟩
}
}

theorem config_Plan_Shards_ref {w0 w : World} {I : HL} {R : SP} {a0 : (Option config_Plan)} {p0 : Value}  (hst : St w0 w I [objO at_config_Plan p0 a0] R) {r : (Int)} (hm : config_Plan_Shards a0 = some r) :
  Calls prog 17 #[p0] w fun e w' => e = .returned (.int .i64 r) ∧ St w0 w' I [objO at_config_Plan p0 a0] R := by {
 rcases a0 with _ | o0
 {
 obtain ⟨rfl, hst'⟩ := objO_none hst
 clear hst
 have hst := hst'
 clear hst'
 dsimp only [config_Plan_Shards] at hm
 refine calls_start (args := [.pointer none]) func17 z ntmps17 (Nat.le_of_ble_eq_true z) ?_
 refine wp_seq (wrl (wv (.int .i64 (0:Int)) z z z (wl_nil (tn (wp_seq (wp_seq (wrl (wv (.pointer none) z z z (wv (.bool true) z z (by kernel_rfl) (wl_nil (tn ?_)))))))))))
 refine wp_ift z ?_
 refine wp_seq (wrl (wv (.int .i64 (0:Int)) z z z (wl_nil (tn (wp_ret (then_r ?_))))))
 replace hst := hst.objO_nil at_config_Plan
 obtain rfl := some_inj hm
 refine post_ret (vs := [Zi]) results17 (rvs_cons (rv_tmp z) rvs_nil) ?_
 exact ⟨z, hst.keep1⟩
}
 {
 replace hst := objO_get hst
 dsimp only [config_Plan_Shards] at hm
 refine calls_start (args := [p0]) func17 z ntmps17 (Nat.le_of_ble_eq_true z) ?_
 refine wp_seq (wrl (wv (.int .i64 (0:Int)) z z z (wl_nil (tn (wp_seq (wp_seq (wrl (wv (p0) z z z ?_))))))))
 obtain ⟨b58, v59, v62, v65, ⟨rfl, f61, f64⟩, hst'⟩ := at_config_Plan_open hst
 clear hst
 have hst := hst'
 clear hst'
 refine wv (.bool false) z z (by kernel_rfl) (wl_nil (tn ?_))
 refine wp_iff z ?_
 refine wp_skip (tn (wp_seq (wrl ?_)))
 refine wv (Pt b58 0) z z z (wv (Pt b58 0) z z z (wv (Pt b58 0) z z (x_field z underlying64 z sizeOf28 z) (wv (Pt b58 2) z z (x_field z underlying28 z sizeOf26 z) (wv (v62) z z (x_load z isAgg26 (hst.bc0 z)) (wv (.int .i64 ((o0.C.Cuts).length : Int)) z z (x_len z underlying26 (ro_sliceV f64)) (wv (.int .i64 (i64.wrap (((o0.C.Cuts).length : Int) + (1:Int)))) z z z (wv (.int .i64 (i64.wrap (((o0.C.Cuts).length : Int) + (1:Int)))) z z z (wl_nil (tn (wp_ret ?_))))))))))
 replace hst := hst.pull1.pull1
 replace hst := at_config_Plan_close (pv := Pt b58 0) (x := o0) hst ⟨z, f61, f64⟩
 replace hst := objO_some hst
 obtain rfl := some_inj hm
 refine post_ret (vs := [I6 (i64.wrap (((o0.C.Cuts).length : Int) + (1:Int)))]) results17 (rvs_cons (rv_tmp z) rvs_nil) ?_
 exact ⟨z, hst.keep1⟩
}
}

theorem config_Plan_Lanes_ref {w0 w : World} {I : HL} {R : SP} {a0 : (Option config_Plan)} {p0 : Value}  (hst : St w0 w I [objO at_config_Plan p0 a0] R) {r : (Int)} (hm : config_Plan_Lanes a0 = some r) :
  Calls prog 18 #[p0] w fun e w' => e = .returned (.int .i64 r) ∧ St w0 w' I [objO at_config_Plan p0 a0] R := by {
 unfold config_Plan_Lanes at hm
 refine calls_start (args := [p0]) func18 z ntmps18 (Nat.le_of_ble_eq_true z) ?_
 refine wp_seq (wrl (wv (.int .i64 (0:Int)) z z z (wl_nil (tn (wp_seq (wrl (wv (p0) z z z ?_)))))))
 obtain ⟨t53, ht54, hm⟩ := bind_some hm
 refine wc call20 [p0] z z z ?_
 refine (config_Plan_L0_ref hst.to1 ht54).mono ?_
 rintro _ w55 ⟨rfl, hst⟩
 refine ⟨_, z, ?_⟩
 replace hst := hst.of1
 refine wv (p0) z z z ?_
 obtain ⟨t58, ht59, hm⟩ := bind_some hm
 refine wc call17 [p0] z z z ?_
 refine (config_Plan_Shards_ref hst.to1 ht59).mono ?_
 rintro _ w60 ⟨rfl, hst⟩
 refine ⟨_, z, ?_⟩
 replace hst := hst.of1
 refine wv (.int .i64 (i64.wrap (t53 * t58))) z z z (wv (.int .i64 (i64.wrap ((i64.wrap (t53 * t58)) + (1:Int)))) z z z (wv (.int .i64 (i64.wrap ((i64.wrap (t53 * t58)) + (1:Int)))) z z z (wl_nil (tn (wp_ret ?_)))))
 obtain rfl := some_inj hm
 refine post_ret (vs := [I6 (i64.wrap ((i64.wrap (t53 * t58)) + (1:Int)))]) results18 (rvs_cons (rv_tmp z) rvs_nil) ?_
 exact ⟨z, hst.keep1⟩
}

theorem config_Plan_Lane_ref {w0 w : World} {I : HL} {R : SP} {a0 : (Option config_Plan)} {p0 : Value} {a1 : Int} {a2 : Int}  (hst : St w0 w I [objO at_config_Plan p0 a0] R) {r : (Int)} (hm : config_Plan_Lane a0 a1 a2 = some r) :
  Calls prog 24 #[p0, I6 a1, I6 a2] w fun e w' => e = .returned (.int .i64 r) ∧ St w0 w' I [objO at_config_Plan p0 a0] R := by {
 unfold config_Plan_Lane at hm
 refine calls_start (args := [p0, I6 a1, I6 a2]) func24 z ntmps24 (Nat.le_of_ble_eq_true z) ?_
 refine wp_seq (wrl (wv (.int .i64 (0:Int)) z z z (wl_nil (tn (wp_seq (wp_seq (wrl (wv (.int .i64 a1) z z z (wv (.bool (decide (a1 < (0:Int)))) z z z (wv (.bool (decide (a1 < (0:Int)))) z z z ?_))))))))))
 refine bsplit (decide (a1 < (0:Int))) (fun hc68 => ?_) (fun hc68 => ?_)
 {
 replace hm := bif_t hc68 hm
 refine wo hc68 z z z z z z (wo hc68 z z z z z z (wo hc68 z z z z z z (wo hc68 z z z z z z (wv (.bool true) z z (x_pick_t hc68 z z) (wv (.bool true) z z z (wz z z z z z z (wz z z z z z z (wv (.bool true) z z (x_pick_t z z z) (wv (.bool true) z z z (wz z z z z z z (wz z z z z z z (wz z z z z z z ?_))))))))))))
 refine wz z z z z z z (wv (.bool true) z z (x_pick_t z z z) (wl_nil (tn ?_)))
 refine wp_ift z ?_
 refine wp_seq (wrl (wv (.int .i64 ((-1):Int)) z z z (wl_nil (tn (wp_ret (then_r ?_))))))
 obtain rfl := some_inj hm
 refine post_ret (vs := [I6 ((-1):Int)]) results24 (rvs_cons (rv_tmp z) rvs_nil) ?_
 exact ⟨z, hst.keep1⟩
}
 {
 replace hm := bif_f hc68 hm
 refine wv (.int .i64 a1) ((wanted_eq z z z (cvb hc68)).trans z) z z (wv (p0) ((wanted_eq z z z (cvb hc68)).trans z) z z ?_)
 obtain ⟨t69, ht70, hm⟩ := bind_some hm
 refine wl_call ((wanted_eq z z z (cvb hc68)).trans z) z (x_call call20 z (vs := [p0]) z) ?_
 refine (config_Plan_L0_ref hst.to1 ht70).mono ?_
 rintro _ w71 ⟨rfl, hst⟩
 refine ⟨_, z, ?_⟩
 replace hst := hst.of1
 refine wv (.bool (decide (a1 ≥ t69))) ((wanted_eq z z z (cvb hc68)).trans z) z z (wv (.bool (decide (a1 ≥ t69))) z z (x_pick_f hc68 z z) (wv (.bool (decide (a1 ≥ t69))) z z z ?_))
 refine bsplit (decide (a1 ≥ t69)) (fun hc74 => ?_) (fun hc74 => ?_)
 {
 replace hm := bif_t hc74 hm
 refine wo hc74 z z z z z z (wo hc74 z z z z z z (wv (.bool true) z z (x_pick_t hc74 z z) (wv (.bool true) z z z (wz z z z z z z (wz z z z z z z (wz z z z z z z (wz z z z z z z (wv (.bool true) z z (x_pick_t z z z) (wl_nil (tn ?_))))))))))
 refine wp_ift z ?_
 refine wp_seq (wrl (wv (.int .i64 ((-1):Int)) z z z (wl_nil (tn (wp_ret (then_r ?_))))))
 obtain rfl := some_inj hm
 refine post_ret (vs := [I6 ((-1):Int)]) results24 (rvs_cons (rv_tmp z) rvs_nil) ?_
 exact ⟨z, hst.keep1⟩
}
 {
 replace hm := bif_f hc74 hm
 refine wv (.int .i64 a2) ((wanted_eq z z z (cvb hc74)).trans z) z z (wv (.bool (decide (a2 < (0:Int)))) ((wanted_eq z z z (cvb hc74)).trans z) z z (wv (.bool (decide (a2 < (0:Int)))) z z (x_pick_f hc74 z z) (wv (.bool (decide (a2 < (0:Int)))) z z z ?_)))
 refine bsplit (decide (a2 < (0:Int))) (fun hc75 => ?_) (fun hc75 => ?_)
 {
 replace hm := bif_t hc75 hm
 refine wo hc75 z z z z z z (wo hc75 z z z z z z (wo hc75 z z z z z z (wo hc75 z z z z z z (wv (.bool true) z z (x_pick_t hc75 z z) (wl_nil (tn ?_))))))
 refine wp_ift z ?_
 refine wp_seq (wrl (wv (.int .i64 ((-1):Int)) z z z (wl_nil (tn (wp_ret (then_r ?_))))))
 obtain rfl := some_inj hm
 refine post_ret (vs := [I6 ((-1):Int)]) results24 (rvs_cons (rv_tmp z) rvs_nil) ?_
 exact ⟨z, hst.keep1⟩
}
 {
 replace hm := bif_f hc75 hm
 refine wv (.int .i64 a2) ((wanted_eq z z z (cvb hc75)).trans z) z z (wv (p0) ((wanted_eq z z z (cvb hc75)).trans z) z z ?_)
 obtain ⟨t76, ht77, hm⟩ := bind_some hm
 refine wl_call ((wanted_eq z z z (cvb hc75)).trans z) z (x_call call17 z (vs := [p0]) z) ?_
 refine (config_Plan_Shards_ref hst.to1 ht77).mono ?_
 rintro _ w78 ⟨rfl, hst⟩
 refine ⟨_, z, ?_⟩
 replace hst := hst.of1
 refine wv (.bool (decide (a2 ≥ t76))) ((wanted_eq z z z (cvb hc75)).trans z) z z (wv (.bool (decide (a2 ≥ t76))) z z (x_pick_f hc75 z z) (wl_nil (tn ?_)))
 refine bsplit (decide (a2 ≥ t76)) (fun hc81 => ?_) (fun hc81 => ?_)
 {
 replace hm := bif_t hc81 hm
 refine wp_ift (cvb hc81) ?_
 refine wp_seq (wrl (wv (.int .i64 ((-1):Int)) z z z (wl_nil (tn (wp_ret (then_r ?_))))))
 obtain rfl := some_inj hm
 refine post_ret (vs := [I6 ((-1):Int)]) results24 (rvs_cons (rv_tmp z) rvs_nil) ?_
 exact ⟨z, hst.keep1⟩
}
 {
 replace hm := bif_f hc81 hm
 refine wp_iff (cvb hc81) ?_
 refine wp_skip (tn (wp_seq (wrl ?_)))
 refine wv (.int .i64 a1) z z z (wv (p0) z z z ?_)
 obtain ⟨t82, ht83, hm⟩ := bind_some hm
 refine wc call17 [p0] z z z ?_
 refine (config_Plan_Shards_ref hst.to1 ht83).mono ?_
 rintro _ w84 ⟨rfl, hst⟩
 refine ⟨_, z, ?_⟩
 replace hst := hst.of1
 refine wv (.int .i64 (i64.wrap (a1 * t82))) z z z (wv (.int .i64 a2) z z z (wv (.int .i64 (i64.wrap ((i64.wrap (a1 * t82)) + a2))) z z z (wv (.int .i64 (i64.wrap ((i64.wrap (a1 * t82)) + a2))) z z z (wl_nil (tn (wp_ret ?_))))))
 obtain rfl := some_inj hm
 refine post_ret (vs := [I6 (i64.wrap ((i64.wrap (a1 * t82)) + a2))]) results24 (rvs_cons (rv_tmp z) rvs_nil) ?_
 exact ⟨z, hst.keep1⟩
}
}
}
}
}

theorem config_Plan_Rules_ref {w0 w : World} {I : HL} {R : SP} {a0 : (Option config_Plan)} {p0 : Value}  (hst : St w0 w I [objO at_config_Plan p0 a0] R) {r : (Int)} (hm : config_Plan_Rules a0 = some r) :
  Calls prog 19 #[p0] w fun e w' => e = .returned (.int .i64 r) ∧ St w0 w' I [objO at_config_Plan p0 a0] R := by {
 unfold config_Plan_Rules at hm
 refine calls_start (args := [p0]) func19 z ntmps19 (Nat.le_of_ble_eq_true z) ?_
 refine wp_seq (wrl (wv (.int .i64 (0:Int)) z z z (wl_nil (tn (wp_seq (wrl (wv (p0) z z z ?_)))))))
 obtain ⟨t60, ht61, hm⟩ := bind_some hm
 refine wc call18 [p0] z z z ?_
 refine (config_Plan_Lanes_ref hst.to1 ht61).mono ?_
 rintro _ w62 ⟨rfl, hst⟩
 refine ⟨_, z, ?_⟩
 replace hst := hst.of1
 refine wv (.int .i64 (i64.wrap (t60 - (1:Int)))) z z z (wv (.int .i64 (i64.wrap (t60 - (1:Int)))) z z z (wl_nil (tn (wp_ret ?_))))
 obtain rfl := some_inj hm
 refine post_ret (vs := [I6 (i64.wrap (t60 - (1:Int)))]) results19 (rvs_cons (rv_tmp z) rvs_nil) ?_
 exact ⟨z, hst.keep1⟩
}

theorem label_Lattice_Bottom_ref {w0 w : World} {I : HL} {R : SP} {a0 : (Option label_Lattice)} {p0 : Value}  (hst : St w0 w I [objO at_label_Lattice p0 a0] R) {r : (Int)} (hm : label_Lattice_Bottom a0 = some r) :
  Calls prog 41 #[p0] w fun e w' => e = .returned (.int .i64 r) ∧ St w0 w' I [objO at_label_Lattice p0 a0] R := by {
 rcases a0 with _ | o0
 {
 obtain ⟨rfl, hst'⟩ := objO_none hst
 clear hst
 have hst := hst'
 clear hst'
 dsimp only [label_Lattice_Bottom] at hm
 refine calls_start (args := [.pointer none]) func41 z ntmps41 (Nat.le_of_ble_eq_true z) ?_
 refine wp_seq (wrl (wv (.int .i64 (0:Int)) z z z (wl_nil (tn (wp_seq (wp_seq (wrl (wv (.pointer none) z z z (wv (.bool true) z z (by kernel_rfl) (wl_nil (tn ?_)))))))))))
 refine wp_ift z ?_
 refine wp_seq (wrl (wv (.int .i64 ((-1):Int)) z z z (wl_nil (tn (wp_ret (then_r ?_))))))
 replace hst := hst.objO_nil at_label_Lattice
 obtain rfl := some_inj hm
 refine post_ret (vs := [I6 ((-1):Int)]) results41 (rvs_cons (rv_tmp z) rvs_nil) ?_
 exact ⟨z, hst.keep1⟩
}
 {
 replace hst := objO_get hst
 dsimp only [label_Lattice_Bottom] at hm
 refine calls_start (args := [p0]) func41 z ntmps41 (Nat.le_of_ble_eq_true z) ?_
 refine wp_seq (wrl (wv (.int .i64 (0:Int)) z z z (wl_nil (tn (wp_seq (wp_seq (wrl (wv (p0) z z z ?_))))))))
 obtain ⟨b112, v113, v115, v117, v119, v121, v123, rfl, hst'⟩ := at_label_Lattice_open hst
 clear hst
 have hst := hst'
 clear hst'
 refine wv (.bool false) z z (by kernel_rfl) (wl_nil (tn ?_))
 refine wp_iff z ?_
 refine wp_skip (tn (wp_seq (wrl ?_)))
 refine wv (Pt b112 0) z z z (wv (Pt b112 0) z z z (wv (Pt b112 5) z z (x_field z underlying73 z sizeOf46 z) (wv (v123) z z (x_load z isAgg46 (hst.bc0 z)) ?_)))
 obtain ⟨x125, hx126, hm⟩ := bind_some hm
 obtain ⟨h127, h128, hi129⟩ := geto_some hx126
 refine wv (.pointer (some (eAddr v123 ((0:Int).toNat * 1 + 0)))) z z (x_index z z underlying46 sizeOf3 hst.sv6 h127 h128) (wv (.int .i64 x125) z z (x_load z isAgg3 (hst.ol6 hi129 (by rintro _ rfl; rfl))) (wv (.int .i64 x125) z z z (wl_nil (tn (wp_ret ?_)))))
 replace hst := hst.pull6.pull6.pull6.pull6.pull6.pull6.pull6
 replace hst := at_label_Lattice_close (pv := Pt b112 0) (x := o0) hst z
 replace hst := objO_some hst
 obtain rfl := some_inj hm
 refine post_ret (vs := [I6 x125]) results41 (rvs_cons (rv_tmp z) rvs_nil) ?_
 exact ⟨z, hst.keep1⟩
}
}

theorem config_Plan_Label_ref {w0 w : World} {I : HL} {R : SP} {a0 : (Option config_Plan)} {p0 : Value} {a1 : Int}  (hst : St w0 w I [objO at_config_Plan p0 a0] R) {r : (Int)} (hm : config_Plan_Label a0 a1 = some r) :
  Calls prog 22 #[p0, I6 a1] w fun e w' => e = .returned (.int .i64 r) ∧ St w0 w' I [objO at_config_Plan p0 a0] R := by {
 rcases a0 with _ | o0
 {
 obtain ⟨rfl, hst'⟩ := objO_none hst
 clear hst
 have hst := hst'
 clear hst'
 dsimp only [config_Plan_Label] at hm
 refine calls_start (args := [.pointer none, I6 a1]) func22 z ntmps22 (Nat.le_of_ble_eq_true z) ?_
 refine wp_seq (wrl (wv (.int .i64 (0:Int)) z z z (wl_nil (tn (wp_seq (wp_block (wp_seq (wrl (wv (.pointer none) z z z (wv (.bool true) z z (by kernel_rfl) (wv (.bool true) z z z (wz z z z z z z (wz z z z z z z (wv (.bool true) z z (x_pick_t z z z) (wv (.bool true) z z z (wz z z z z z z (wz z z z z z z (wz z z z z z z ?_))))))))))))))))))
 refine wz z z z z z z (wv (.bool true) z z (x_pick_t z z z) (wv (.bool true) z z z (wl_nil (tn ?_))))
 refine wp_ift z ?_
 refine wp_seq (wrl (wv (.int .i64 ((-1):Int)) z z z (wl_nil (tn (wp_ret (blk_r (then_r ?_)))))))
 replace hst := hst.objO_nil at_config_Plan
 obtain rfl := some_inj hm
 refine post_ret (vs := [I6 ((-1):Int)]) results22 (rvs_cons (rv_tmp z) rvs_nil) ?_
 exact ⟨z, hst.keep1⟩
}
 {
 replace hst := objO_get hst
 dsimp only [config_Plan_Label] at hm
 refine calls_start (args := [p0, I6 a1]) func22 z ntmps22 (Nat.le_of_ble_eq_true z) ?_
 refine wp_seq (wrl (wv (.int .i64 (0:Int)) z z z (wl_nil (tn (wp_seq (wp_block (wp_seq (wrl (wv (p0) z z z ?_)))))))))
 obtain ⟨b104, v105, v108, v111, ⟨rfl, f107, f110⟩, hst'⟩ := at_config_Plan_open hst
 clear hst
 have hst := hst'
 clear hst'
 refine wv (.bool false) z z (by kernel_rfl) (wv (.bool false) z z z (wv (.int .i64 a1) ((wanted_eq z z z z).trans z) z z (wv (.bool (decide (a1 < (0:Int)))) ((wanted_eq z z z z).trans z) z z (wv (.bool (decide (a1 < (0:Int)))) z z (x_pick_f z z z) (wv (.bool (decide (a1 < (0:Int)))) z z z ?_)))))
 refine bsplit (decide (a1 < (0:Int))) (fun hc113 => ?_) (fun hc113 => ?_)
 {
 replace hm := bif_t hc113 hm
 refine wo hc113 z z z z z z (wo hc113 z z z z z z (wo hc113 z z z z z z (wo hc113 z z z z z z (wv (.bool true) z z (x_pick_t hc113 z z) (wv (.bool true) z z z (wl_nil (tn ?_)))))))
 refine wp_ift z ?_
 refine wp_seq (wrl (wv (.int .i64 ((-1):Int)) z z z (wl_nil (tn (wp_ret (blk_r (then_r ?_)))))))
 replace hst := hst.pull1.pull1
 replace hst := at_config_Plan_close (pv := Pt b104 0) (x := o0) hst ⟨z, f107, f110⟩
 replace hst := objO_some hst
 obtain rfl := some_inj hm
 refine post_ret (vs := [I6 ((-1):Int)]) results22 (rvs_cons (rv_tmp z) rvs_nil) ?_
 exact ⟨z, hst.keep1⟩
}
 {
 replace hm := bif_f hc113 hm
 refine wv (.int .i64 a1) ((wanted_eq z z z (cvb hc113)).trans z) z z (wv (Pt b104 0) ((wanted_eq z z z (cvb hc113)).trans z) z z ?_)
 replace hst := hst.pull1.pull1
 replace hst := at_config_Plan_close (pv := Pt b104 0) (x := o0) hst ⟨z, f107, f110⟩
 replace hst := objO_some hst
 obtain ⟨t114, ht115, hm⟩ := bind_some hm
 refine wl_call ((wanted_eq z z z (cvb hc113)).trans z) z (x_call call18 z (vs := [Pt b104 0]) z) ?_
 refine (config_Plan_Lanes_ref hst.to1 ht115).mono ?_
 rintro _ w116 ⟨rfl, hst⟩
 refine ⟨_, z, ?_⟩
 replace hst := hst.of1
 replace hst := objO_get hst
 refine wv (.bool (decide (a1 ≥ t114))) ((wanted_eq z z z (cvb hc113)).trans z) z z (wv (.bool (decide (a1 ≥ t114))) z z (x_pick_f hc113 z z) (wv (.bool (decide (a1 ≥ t114))) z z z (wl_nil (tn ?_))))
 refine bsplit (decide (a1 ≥ t114)) (fun hc119 => ?_) (fun hc119 => ?_)
 {
 replace hm := bif_t hc119 hm
 refine wp_ift (cvb hc119) ?_
 refine wp_seq (wrl (wv (.int .i64 ((-1):Int)) z z z (wl_nil (tn (wp_ret (blk_r (then_r ?_)))))))
 replace hst := objO_some hst
 obtain rfl := some_inj hm
 refine post_ret (vs := [I6 ((-1):Int)]) results22 (rvs_cons (rv_tmp z) rvs_nil) ?_
 exact ⟨z, hst.keep1⟩
}
 {
 replace hm := bif_f hc119 hm
 refine wp_iff (cvb hc119) ?_
 refine wp_seq (wrl (wv (.int .i64 a1) z z z (wv (Pt b104 0) z z z ?_)))
 replace hst := objO_some hst
 obtain ⟨t120, ht121, hm⟩ := bind_some hm
 refine wc call19 [Pt b104 0] z z z ?_
 refine (config_Plan_Rules_ref hst.to1 ht121).mono ?_
 rintro _ w122 ⟨rfl, hst⟩
 refine ⟨_, z, ?_⟩
 replace hst := hst.of1
 replace hst := objO_get hst
 refine wv (.bool (a1 == t120)) z z z (wv (.bool (a1 == t120)) z z z (wl_nil (tn ?_)))
 refine bsplit (a1 == t120) (fun hc125 => ?_) (fun hc125 => ?_)
 {
 replace hm := bif_t hc125 hm
 refine wp_ift (cvb hc125) ?_
 refine wp_seq (wrl (wv (Pt b104 0) z z z ?_))
 obtain ⟨b126, v127, v130, v133, ⟨e135, f129, f132⟩, hst'⟩ := at_config_Plan_open hst
 clear hst
 have e135 := ptr_inj e135
 subst e135
 have hst := hst'
 clear hst'
 refine wv (Pt b104 0) z z z (wv (Pt b104 9) z z (x_field z underlying64 z sizeOf60 z) (wv (v133) z z (x_load z isAgg60 (hst.bc0 z)) ?_))
 replace hst := hst.pull1
 obtain ⟨t136, ht137, hm⟩ := bind_some hm
 refine wc call41 [v133] z z z ?_
 refine (label_Lattice_Bottom_ref hst.to1 ht137).mono ?_
 rintro _ w138 ⟨rfl, hst⟩
 refine ⟨_, z, ?_⟩
 replace hst := hst.of1
 refine wv (.int .i64 t136) z z z (wl_nil (tn (wp_ret (blk_r (then_r ?_)))))
 replace hst := hst.pull1
 replace hst := at_config_Plan_close (pv := Pt b104 0) (x := o0) hst ⟨z, f129, f132⟩
 replace hst := objO_some hst
 obtain rfl := some_inj hm
 refine post_ret (vs := [I6 t136]) results22 (rvs_cons (rv_tmp z) rvs_nil) ?_
 exact ⟨z, hst.keep1⟩
}
 {
 replace hm := bif_f hc125 hm
 refine wp_iff (cvb hc125) ?_
 refine wp_skip (blk_n (tn (wp_seq (wrl ?_))))
 refine wv (.int .i64 a1) z z z (wv (Pt b104 0) z z z ?_)
 replace hst := objO_some hst
 obtain ⟨t141, ht142, hm⟩ := bind_some hm
 refine wc call17 [Pt b104 0] z z z ?_
 refine (config_Plan_Shards_ref hst.to1 ht142).mono ?_
 rintro _ w143 ⟨rfl, hst⟩
 refine ⟨_, z, ?_⟩
 replace hst := hst.of1
 replace hst := objO_get hst
 obtain ⟨hg146, hm⟩ := gd_some hm
 refine wv (.int .i64 (i64.wrap (Int.tdiv a1 t141))) z z (x_quo (not_t hg146) z z) (wv (.int .i64 (i64.wrap (Int.tdiv a1 t141))) z z z (wl_nil (tn (wp_ret ?_))))
 replace hst := objO_some hst
 obtain rfl := some_inj hm
 refine post_ret (vs := [I6 (i64.wrap (Int.tdiv a1 t141))]) results22 (rvs_cons (rv_tmp z) rvs_nil) ?_
 exact ⟨z, hst.keep1⟩
}
}
}
}
}

theorem law04_awake_ref {w0 w : World} {I : HL} {R : SP}   (hst : St w0 w I [] R) {r : (Bool)} (hm : law04_awake = some r) :
  Calls prog 9 #[] w fun e w' => ∃ (I' : HL), e = .returned (.bool r) ∧ I.le I' ∧ St w0 w' I' [] R := by {
 unfold law04_awake at hm
 refine calls_start (args := []) func9 z ntmps9 (Nat.le_of_ble_eq_true z) ?_
 have hI0 := HL.le.refl I
 refine wp_seq (wrl (wv (.bool false) z z z (wl_nil (tn (wp_seq (wrl ?_))))))
 obtain ⟨t64, ht65, hm⟩ := bind_some hm
 refine wc call13 [Zb] z z z ?_
 refine (ref04_Small_ref hst.to0 ht65).mono ?_
 rintro _ w66 ⟨v69, v71, rfl, hst⟩
 refine ⟨_, z, ?_⟩
 replace hst := hst.of2
 obtain ⟨b75, w76, ew77, eb78, hst⟩ := hst.box [Zs, Zi, Zs, Zi, Zi, Zi, Zi, Zi, Zi] 28
 refine wl_run (v := Pt b75 0) (w' := w76) z z (x_al (by kernel_rfl) ew77 eb78) ?_
 obtain ⟨w80, hr81, hst⟩ := hst.bx [v69, I6 t64.Nodes, v71, I6 t64.Frame, I6 t64.Depth, I6 t64.Quota, I6 t64.Wide, I6 t64.Beat, I6 t64.Elect] sizeOf28 z (oC (one_of_sliceV hst.sv1) (oC z (oC (one_of_sliceV hst.sv2) (oC z (oC z (oC z (oC z (oC z (oC z oN))))))))) (by kernel_rfl)
 refine wl_unit z z (x_unit hr81) ?_
 refine wl_nil (tn (wp_seq (wrl ?_)))
 obtain ⟨b82, w83, ew84, eb85, hst⟩ := hst.lits (E := tyF64) (xs := [(0:Nat)]) [[Zf]] 36 1 z (Reps.cons z Reps.nil)
 refine wl_run (v := (.slice (some ⟨b82, 0, none⟩) 1 1)) (w' := w83) z z (x_als (by kernel_rfl) ew84 eb85) ?_
 refine wv (Pt b75 2) z z (x_field z underlying28 z sizeOf26 z) ?_
 replace hst := hst.pull1
 obtain ⟨w87, hr88, hst⟩ := hst.by_ [v69, I6 t64.Nodes, (.slice (some ⟨b82, 0, none⟩) 1 1), I6 t64.Frame, I6 t64.Depth, I6 t64.Quota, I6 t64.Wide, I6 t64.Beat, I6 t64.Elect] 2 ((.slice (some ⟨b82, 0, none⟩) 1 1)) sizeOf26 z (oC (one_of_sliceV hst.sv1) oN) (by kernel_rfl)
 refine wl_unit z z (x_unit hr88) ?_
 refine wl_nil (tn (wp_seq (wrl (wv (.agg #[v69, I6 t64.Nodes, (.slice (some ⟨b82, 0, none⟩) 1 1), I6 t64.Frame, I6 t64.Depth, I6 t64.Quota, I6 t64.Wide, I6 t64.Beat, I6 t64.Elect]) z z (x_loadN (cs := [v69, I6 t64.Nodes, (.slice (some ⟨b82, 0, none⟩) 1 1), I6 t64.Frame, I6 t64.Depth, I6 t64.Quota, I6 t64.Wide, I6 t64.Beat, I6 t64.Elect]) z isAgg28 sizeOf28 (hst.bcs0 0 z)) ?_))))
 replace hst := hst.pull2
 obtain ⟨I89, hI90, f91, hst⟩ := hst.own_fix
 replace hI0 := hI0.trans hI90
 replace hst := hst.pull1
 obtain ⟨I92, hI93, f94, hst⟩ := hst.own_fix
 replace f91 := f91.mono (ro_le hI93)
 replace hI0 := hI0.trans hI93
 obtain ⟨t95, ht96, hm⟩ := bind_some hm
 refine wc call11 [.agg #[v69, I6 t64.Nodes, (.slice (some ⟨b82, 0, none⟩) 1 1), I6 t64.Frame, I6 t64.Depth, I6 t64.Quota, I6 t64.Wide, I6 t64.Beat, I6 t64.Elect]] z z z ?_
 refine (config_New_ref (a0 := ({ Up := t64.Up, Nodes := t64.Nodes, Cuts := [(0:Nat)], Frame := t64.Frame, Depth := t64.Depth, Quota := t64.Quota, Wide := t64.Wide, Beat := t64.Beat, Elect := t64.Elect } : api_Config)) f91 f94 hst.to0 ht96).mono ?_
 rintro _ w97 ⟨I98, v100, rfl, hI99, hst⟩
 refine ⟨_, z, ?_⟩
 replace hst := hst.of1
 replace f91 := f91.mono (ro_le hI99)
 replace f94 := f94.mono (ro_le hI99)
 replace hI0 := hI0.trans hI99
 refine wv (.tuple #[v100, I6 t95.2]) z z z (wv (v100) z z z (wv (.int .i64 t95.2) z z z (wv (v100) z z z (wv (.int .i64 t95.2) z z z (wl_nil (tn (wp_seq (wrl (wv (.int .i64 t95.2) z z z (wv (.bool (t95.2 == (0:Int))) z z z (wv (.bool (t95.2 == (0:Int))) z z z ?_)))))))))))
 refine bsplit (t95.2 == (0:Int)) (fun hc102 => ?_) (fun hc102 => ?_)
 {
 replace hm := bif_t hc102 hm
 refine wv (v100) ((wanted_eq z z z (cvb hc102)).trans z) z z ?_
 obtain ⟨t103, ht104, hm⟩ := bind_some hm
 refine wl_call ((wanted_eq z z z (cvb hc102)).trans z) z (x_call call18 z (vs := [v100]) z) ?_
 refine (config_Plan_Lanes_ref hst.to1 ht104).mono ?_
 rintro _ w105 ⟨rfl, hst⟩
 refine ⟨_, z, ?_⟩
 replace hst := hst.of1
 refine wv (.bool (t103 == (5:Int))) ((wanted_eq z z z (cvb hc102)).trans z) z z (wv (.bool (t103 == (5:Int))) z z (x_pick_t hc102 z z) (wv (.bool (t103 == (5:Int))) z z z ?_))
 refine bsplit (t103 == (5:Int)) (fun hc108 => ?_) (fun hc108 => ?_)
 {
 replace hm := bif_t hc108 hm
 refine wv (v100) ((wanted_eq z z z (cvb hc108)).trans z) z z ?_
 obtain ⟨t109, ht110, hm⟩ := bind_some hm
 refine wl_call ((wanted_eq z z z (cvb hc108)).trans z) z (x_call call24 z (vs := [v100, I6 (1:Int), I6 (1:Int)]) z) ?_
 refine (config_Plan_Lane_ref hst.to1 ht110).mono ?_
 rintro _ w111 ⟨rfl, hst⟩
 refine ⟨_, z, ?_⟩
 replace hst := hst.of1
 refine wv (.bool (t109 == (3:Int))) ((wanted_eq z z z (cvb hc108)).trans z) z z (wv (.bool (t109 == (3:Int))) z z (x_pick_t hc108 z z) (wv (.bool (t109 == (3:Int))) z z z ?_))
 refine bsplit (t109 == (3:Int)) (fun hc114 => ?_) (fun hc114 => ?_)
 {
 replace hm := bif_t hc114 hm
 refine wv (v100) ((wanted_eq z z z (cvb hc114)).trans z) z z ?_
 obtain ⟨t115, ht116, hm⟩ := bind_some hm
 refine wl_call ((wanted_eq z z z (cvb hc114)).trans z) z (x_call call19 z (vs := [v100]) z) ?_
 refine (config_Plan_Rules_ref hst.to1 ht116).mono ?_
 rintro _ w117 ⟨rfl, hst⟩
 refine ⟨_, z, ?_⟩
 replace hst := hst.of1
 refine wv (.bool (t115 == (4:Int))) ((wanted_eq z z z (cvb hc114)).trans z) z z (wv (.bool (t115 == (4:Int))) z z (x_pick_t hc114 z z) (wv (.bool (t115 == (4:Int))) z z z ?_))
 refine bsplit (t115 == (4:Int)) (fun hc120 => ?_) (fun hc120 => ?_)
 {
 replace hm := bif_t hc120 hm
 refine wv (v100) ((wanted_eq z z z (cvb hc120)).trans z) z z ?_
 obtain ⟨t121, ht122, hm⟩ := bind_some hm
 refine wl_call ((wanted_eq z z z (cvb hc120)).trans z) z (x_call call22 z (vs := [v100, I6 (2:Int)]) z) ?_
 refine (config_Plan_Label_ref hst.to1 ht122).mono ?_
 rintro _ w123 ⟨rfl, hst⟩
 refine ⟨_, z, ?_⟩
 replace hst := hst.of1
 refine wv (.bool (t121 == (1:Int))) ((wanted_eq z z z (cvb hc120)).trans z) z z (wv (.bool (t121 == (1:Int))) z z (x_pick_t hc120 z z) (wv (.bool (t121 == (1:Int))) z z z (wl_nil (tn (wp_ret ?_)))))
 obtain rfl := some_inj hm
 refine post_ret (vs := [.bool (t121 == (1:Int))]) results9 (rvs_cons (rv_tmp z) rvs_nil) ?_
 exact ⟨_, z, hI0, hst.keep0⟩
}
 {
 replace hm := bif_f hc120 hm
 refine wo hc120 z z z z z z (wo hc120 z z z z z z (wo hc120 z z z z z z (wv (.bool false) z z (x_pick_f hc120 z z) (wv (.bool false) z z z (wl_nil (tn (wp_ret ?_)))))))
 obtain rfl := some_inj hm
 refine post_ret (vs := [.bool false]) results9 (rvs_cons (rv_tmp z) rvs_nil) ?_
 exact ⟨_, z, hI0, hst.keep0⟩
}
}
 {
 replace hm := bif_f hc114 hm
 refine wo hc114 z z z z z z (wo hc114 z z z z z z (wo hc114 z z z z z z (wv (.bool false) z z (x_pick_f hc114 z z) (wv (.bool false) z z z (wz z z z z z z (wz z z z z z z (wz z z z z z z (wv (.bool false) z z (x_pick_f z z z) (wv (.bool false) z z z (wl_nil (tn (wp_ret ?_))))))))))))
 obtain rfl := some_inj hm
 refine post_ret (vs := [.bool false]) results9 (rvs_cons (rv_tmp z) rvs_nil) ?_
 exact ⟨_, z, hI0, hst.keep0⟩
}
}
 {
 replace hm := bif_f hc108 hm
 refine wo hc108 z z z z z z (wo hc108 z z z z z z (wo hc108 z z z z z z (wv (.bool false) z z (x_pick_f hc108 z z) (wv (.bool false) z z z (wz z z z z z z (wz z z z z z z (wz z z z z z z (wv (.bool false) z z (x_pick_f z z z) (wv (.bool false) z z z (wz z z z z z z (wz z z z z z z (wz z z z z z z ?_))))))))))))
 refine wv (.bool false) z z (x_pick_f z z z) (wv (.bool false) z z z (wl_nil (tn (wp_ret ?_))))
 obtain rfl := some_inj hm
 refine post_ret (vs := [.bool false]) results9 (rvs_cons (rv_tmp z) rvs_nil) ?_
 exact ⟨_, z, hI0, hst.keep0⟩
}
}
 {
 replace hm := bif_f hc102 hm
 refine wo hc102 z z z z z z (wo hc102 z z z z z z (wo hc102 z z z z z z (wv (.bool false) z z (x_pick_f hc102 z z) (wv (.bool false) z z z (wz z z z z z z (wz z z z z z z (wz z z z z z z (wv (.bool false) z z (x_pick_f z z z) (wv (.bool false) z z z (wz z z z z z z (wz z z z z z z (wz z z z z z z ?_))))))))))))
 refine wv (.bool false) z z (x_pick_f z z z) (wv (.bool false) z z z (wz z z z z z z (wz z z z z z z (wz z z z z z z (wv (.bool false) z z (x_pick_f z z z) (wv (.bool false) z z z (wl_nil (tn (wp_ret ?_)))))))))
 obtain rfl := some_inj hm
 refine post_ret (vs := [.bool false]) results9 (rvs_cons (rv_tmp z) rvs_nil) ?_
 exact ⟨_, z, hI0, hst.keep0⟩
}
}

theorem math_Signbit_ref {w0 w : World} {I : HL} {R : SP} {a0 : Nat}  (hst : St w0 w I [] R) {r : (Bool)} (hm : math_Signbit a0 = some r) :
  Calls prog 37 #[F6 a0] w fun e w' => e = .returned (.bool r) ∧ St w0 w' I [] R := by {
 unfold math_Signbit at hm
 refine calls_start (args := [F6 a0]) func37 z ntmps37 (Nat.le_of_ble_eq_true z) ?_
 refine wp_seq (wrl (wv (.bool false) z z z (wl_nil (tn (wp_seq (wrl (wv (.float .f64 a0) z z z (wv (.int .u64 (Int.ofNat a0)) z z (by kernel_rfl) (wv (.int .i64 (i64.wrap (Int.ofNat a0))) z z (by kernel_rfl) (wv (.bool (decide ((i64.wrap (Int.ofNat a0)) < (0:Int)))) z z z (wv (.bool (decide ((i64.wrap (Int.ofNat a0)) < (0:Int)))) z z z (wl_nil (tn (wp_ret ?_))))))))))))))
 obtain rfl := some_inj hm
 refine post_ret (vs := [.bool (decide ((i64.wrap (Int.ofNat a0)) < (0:Int)))]) results37 (rvs_cons (rv_tmp z) rvs_nil) ?_
 exact ⟨z, hst.keep0⟩
}

theorem ref01_Ahead_ref {w0 w : World} {I : HL} {R : SP} {a0 : Nat} {a1 : Nat}  (hst : St w0 w I [] R) {r : (Bool)} (hm : ref01_Ahead a0 a1 = some r) :
  Calls prog 14 #[F6 a0, F6 a1] w fun e w' => e = .returned (.bool r) ∧ St w0 w' I [] R := by {
 unfold ref01_Ahead at hm
 refine calls_start (args := [F6 a0, F6 a1]) func14 z ntmps14 (Nat.le_of_ble_eq_true z) ?_
 refine wp_seq (wrl (wv (.bool false) z z z (wl_nil (tn (wp_seq (wp_seq (wrl (wv (.float .f64 a0) z z z (wv (.float .f64 a0) z z z (wv (.bool (fNe a0 a0)) z z z (wl_nil (tn ?_))))))))))))
 refine bsplit (fNe a0 a0) (fun hc72 => ?_) (fun hc72 => ?_)
 {
 replace hm := bif_t hc72 hm
 refine wp_ift (cvb hc72) ?_
 refine wp_seq (wrl (wv (.bool false) z z z (wl_nil (tn (wp_ret (then_r ?_))))))
 obtain rfl := some_inj hm
 refine post_ret (vs := [.bool false]) results14 (rvs_cons (rv_tmp z) rvs_nil) ?_
 exact ⟨z, hst.keep0⟩
}
 {
 replace hm := bif_f hc72 hm
 refine wp_iff (cvb hc72) ?_
 refine wp_skip (tn (wp_seq (wp_seq (wrl ?_))))
 refine wv (.float .f64 a1) z z z (wv (.float .f64 a1) z z z (wv (.bool (fNe a1 a1)) z z z (wl_nil (tn ?_))))
 refine bsplit (fNe a1 a1) (fun hc73 => ?_) (fun hc73 => ?_)
 {
 replace hm := bif_t hc73 hm
 refine wp_ift (cvb hc73) ?_
 refine wp_seq (wrl (wv (.bool true) z z z (wl_nil (tn (wp_ret (then_r ?_))))))
 obtain rfl := some_inj hm
 refine post_ret (vs := [.bool true]) results14 (rvs_cons (rv_tmp z) rvs_nil) ?_
 exact ⟨z, hst.keep0⟩
}
 {
 replace hm := bif_f hc73 hm
 refine wp_iff (cvb hc73) ?_
 refine wp_skip (tn ?_)
 obtain ⟨y89, hm, hx90⟩ := joinO_some hm
 refine wp_cut (fun a w => ∃ (σ87 : Nat → Value), (ref01_Ahead_j0 a0 a1) () = some r ∧ a = Fr 27 (upd (upd σ87 0 (.float .f64 a0)) 1 (.float .f64 a1)) ∧ St w0 w I [] R) ?_ ?_
 {
 refine wp_seq (wrl (wv (.float .f64 a0) z z z (wv (.bool (fEq a0 (0:Nat))) z z z (wv (.bool (fEq a0 (0:Nat))) z z z ?_))))
 refine bsplit (fEq a0 (0:Nat)) (fun hc74 => ?_) (fun hc74 => ?_)
 {
 replace hm := bif_t hc74 hm
 refine wv (.float .f64 a1) ((wanted_eq z z z (cvb hc74)).trans z) z z (wv (.bool (fEq a1 (0:Nat))) ((wanted_eq z z z (cvb hc74)).trans z) z z (wv (.bool (fEq a1 (0:Nat))) z z (x_pick_t hc74 z z) (wl_nil (tn ?_))))
 refine bsplit (fEq a1 (0:Nat)) (fun hc75 => ?_) (fun hc75 => ?_)
 {
 replace hm := bif_t hc75 hm
 refine wp_ift (cvb hc75) ?_
 refine wp_seq (wrl (wv (.float .f64 a0) z z z ?_))
 obtain ⟨t76, ht77, hm⟩ := bind_some hm
 refine wc call37 [F6 a0] z z z ?_
 refine (math_Signbit_ref hst.to0 ht77).mono ?_
 rintro _ w78 ⟨rfl, hst⟩
 refine ⟨_, z, ?_⟩
 replace hst := hst.of0
 refine wv (.bool t76) z z z ?_
 refine bsplit t76 (fun hc81 => ?_) (fun hc81 => ?_)
 {
 replace hm := bif_t hc81 hm
 refine wv (.float .f64 a1) ((wanted_eq z z z (cvb hc81)).trans z) z z ?_
 obtain ⟨t82, ht83, hm⟩ := bind_some hm
 refine wl_call ((wanted_eq z z z (cvb hc81)).trans z) z (x_call call37 z (vs := [F6 a1]) z) ?_
 refine (math_Signbit_ref hst.to0 ht83).mono ?_
 rintro _ w84 ⟨rfl, hst⟩
 refine ⟨_, z, ?_⟩
 replace hst := hst.of0
 refine wv (.bool (!t82)) ((wanted_eq z z z (cvb hc81)).trans z) z z (wv (.bool (!t82)) z z (x_pick_t hc81 z z) (wv (.bool (!t82)) z z z (wl_nil (tn (wp_ret (then_r ?_))))))
 replace hm := inr_up hm hx90
 obtain rfl := some_inj hm
 refine post_ret (vs := [.bool (!t82)]) results14 (rvs_cons (rv_tmp z) rvs_nil) ?_
 exact ⟨z, hst.keep0⟩
}
 {
 replace hm := bif_f hc81 hm
 refine wo hc81 z z z z z z (wo hc81 z z z z z z (wo hc81 z z z z z z (wv (.bool false) z z (x_pick_f hc81 z z) (wv (.bool false) z z z (wl_nil (tn (wp_ret (then_r ?_))))))))
 replace hm := inr_up hm hx90
 obtain rfl := some_inj hm
 refine post_ret (vs := [.bool false]) results14 (rvs_cons (rv_tmp z) rvs_nil) ?_
 exact ⟨z, hst.keep0⟩
}
}
 {
 replace hm := bif_f hc75 hm
 refine wp_iff (cvb hc75) ?_
 refine wp_skip (tn ?_)
 replace hst := hst.keep0
 obtain rfl := some_inj hm
 exact ⟨_, hx90, (fu 0 (.float .f64 a0) z (fu 1 (.float .f64 a1) z z)), hst⟩
}
}
 {
 replace hm := bif_f hc74 hm
 refine wo hc74 z z z z z z (wo hc74 z z z z z z (wv (.bool false) z z (x_pick_f hc74 z z) (wl_nil (tn ?_))))
 refine wp_iff z ?_
 refine wp_skip (tn ?_)
 replace hst := hst.keep0
 obtain rfl := some_inj hm
 exact ⟨_, hx90, (fu 0 (.float .f64 a0) z (fu 1 (.float .f64 a1) z z)), hst⟩
}
}
 {
 clear hst
 rintro _ w91 ⟨σ87, hm, rfl, hst⟩
 dsimp only [ref01_Ahead_j0] at hm
 refine wp_seq (wrl (wv (.float .f64 a0) z z z (wv (.float .f64 a1) z z z (wv (.bool (fLt a0 a1)) z z z (wv (.bool (fLt a0 a1)) z z z (wl_nil (tn (wp_ret ?_))))))))
 obtain rfl := some_inj hm
 refine post_ret (vs := [.bool (fLt a0 a1)]) results14 (rvs_cons (rv_tmp z) rvs_nil) ?_
 exact ⟨z, hst.keep0⟩
}
}
}
}

theorem ref01_Rising_ref {w0 w : World} {I : HL} {R : SP} {a0 : (List Nat)} {r0_0 : Value} (f0_0 : Rd tyF64 R I r0_0 a0) (hst : St w0 w I [] R) {r : (Bool)} (hm : ref01_Rising a0 = some r) :
  Calls prog 16 #[r0_0] w fun e w' => e = .returned (.bool r) ∧ St w0 w' I [] R := by {
 unfold ref01_Rising at hm
 refine calls_start (args := [r0_0]) func16 z ntmps16 (Nat.le_of_ble_eq_true z) ?_
 refine wp_seq (wrl (wv (.bool false) z z z (wl_nil (tn (wp_seq (wp_seq (wrl (wv (.int .i64 (1:Int)) z z z (wl_nil (tn (wp_block ?_)))))))))))
 obtain ⟨n150, hm⟩ := loopO_some hm
 refine wp_loop_n (fun n a w => ∃ (z148 : Int) (σ149 : Nat → Value), loopN (ref01_Rising_l0 a0) n z148 = some r ∧ a = Fr 21 (upd (upd σ149 0 (r0_0)) 3 (.int .i64 z148)) ∧ St w0 w I [] R) n150 ⟨(1:Int), _, hm, (fu 0 r0_0 z (fu 3 (.int .i64 (1:Int)) z z)), hst⟩ ?_
 rintro n156 _ w151 ⟨z148, σ149, hm, rfl, hst⟩
 obtain ⟨n153, y154, rfl, hm, hx155⟩ := loopN_some hm
 dsimp only [ref01_Rising_l0] at hm
 refine wp_seq (wp_seq (wrl (wv (.int .i64 z148) z z z (wv (r0_0) z z z (wv (.int .i64 ((a0).length : Int)) z z (x_len z underlying26 (rd_sliceV f0_0)) (wv (.bool (decide (z148 < ((a0).length : Int)))) z z z (wl_nil (tn ?_))))))))
 refine bsplit (decide (z148 < ((a0).length : Int))) (fun hc157 => ?_) (fun hc157 => ?_)
 {
 replace hm := bif_t hc157 hm
 refine wp_ift (cvb hc157) ?_
 refine wp_skip (tn (wp_seq (wp_block (wp_seq ?_))))
 refine wp_region_St hst 11 [0, 1, 2, 3, 4, 5, 6, 7, 8, 9, 10] [0, 0, 2, 7, 15, 0, 0, 96, 224, 511, 1023] [] z (by kernel_rfl) (by kernel_rfl) Try.mixed (by kernel_rfl) ?_
 refine wsr (r0_0) 0 z z z (by kernel_rfl) (fun w hst => z) (wsr (.int .i64 z148) 1 z z z (by kernel_rfl) (fun w hst => z) (wsr (.int .i64 (i64.wrap (z148 - (1:Int)))) 2 z z z (by kernel_rfl) (fun w hst => z) ?_))
 obtain ⟨x158, hx159, hm⟩ := bind_some hm
 obtain ⟨h160, h161, hi162⟩ := geto_some hx159
 refine wsr (.pointer (some (eAddr r0_0 ((i64.wrap (z148 - (1:Int))).toNat * 1 + 0)))) 3 z z z (by kernel_rfl) (fun w hst => x_index z z underlying26 sizeOf36 (rd_sliceV f0_0) h160 h161) (wsr (.float .f64 x158) 4 z z z (by kernel_rfl) (fun w hst => x_load z isAgg36 (rd_load f0_0 (HL.le.refl _) hst hi162 (by rintro _ rfl; rfl))) (wsr (r0_0) 5 z z z (by kernel_rfl) (fun w hst => z) (wsr (.int .i64 z148) 6 z z z (by kernel_rfl) (fun w hst => z) ?_)))
 obtain ⟨x163, hx164, hm⟩ := bind_some hm
 obtain ⟨h165, h166, hi167⟩ := geto_some hx164
 refine wsr (.pointer (some (eAddr r0_0 (z148.toNat * 1 + 0)))) 7 z z z (by kernel_rfl) (fun w hst => x_index z z underlying26 sizeOf36 (rd_sliceV f0_0) h165 h166) (wsr (.float .f64 x163) 8 z z z (by kernel_rfl) (fun w hst => x_load z isAgg36 (rd_load f0_0 (HL.le.refl _) hst hi167 (by rintro _ rfl; rfl))) ?_)
 refine ws_e1 9 (by kernel_rfl) ?_
 refine nxe [10] (by kernel_rfl) z z ?_
 clear hst
 intro w hst
 obtain ⟨t168, ht169, hm⟩ := bind_some hm
 refine wec call14 [F6 x158, F6 x163] z z ?_
 refine (ref01_Ahead_ref hst.to0 ht169).mono ?_
 rintro _ w170 ⟨rfl, hst⟩
 refine ⟨_, z, ?_⟩
 replace hst := hst.of0
 refine ws_next (pend' := []) hst (by kernel_rfl) pk_nil ?_
 refine wsr (.bool (!t168)) 10 z z z (by kernel_rfl) (fun w hst => z) ?_
 refine ws_nil ?_
 intro w hst
 refine tn ?_
 refine bsplit (!t168) (fun hc173 => ?_) (fun hc173 => ?_)
 {
 replace hm := bif_t hc173 hm
 refine wp_ift (cvb hc173) ?_
 refine wp_seq (wrl (wv (.bool false) z z z (wl_nil (tn (wp_ret (blk_r (then_r (then_r ?_))))))))
 replace hm := inr_up hm hx155
 refine blk_r (then_r ?_)
 obtain rfl := some_inj hm
 refine post_ret (vs := [.bool false]) results16 (rvs_cons (rv_tmp z) rvs_nil) ?_
 exact ⟨z, hst.keep0⟩
}
 {
 replace hm := bif_f hc173 hm
 refine wp_iff (cvb hc173) ?_
 refine wp_skip (blk_n (tn (wrl ?_)))
 refine wv (.int .i64 z148) z z z (wv (.int .i64 (i64.wrap (z148 + (1:Int)))) z z z (wv (.int .i64 (i64.wrap (z148 + (1:Int)))) z z z (wl_nil (tn ?_))))
 replace hst := hst.keep0
 obtain rfl := some_inj hm
 exact ⟨_, Nat.lt_succ_self _, (i64.wrap (z148 + (1:Int))), _, hx155, (fu 0 r0_0 z (fu 3 (.int .i64 (i64.wrap (z148 + (1:Int)))) z z)), hst⟩
}
}
 {
 replace hm := bif_f hc157 hm
 refine wp_iff (cvb hc157) ?_
 refine wp_exit (then_x (then_x ?_))
 replace hm := inr_up hm hx155
 refine blk_x (tn (wp_seq (wrl ?_)))
 refine wv (.bool true) z z z (wl_nil (tn (wp_ret ?_)))
 obtain rfl := some_inj hm
 refine post_ret (vs := [.bool true]) results16 (rvs_cons (rv_tmp z) rvs_nil) ?_
 exact ⟨z, hst.keep0⟩
}
}

theorem config_Plan_Part_ref {w0 w : World} {I : HL} {R : SP} {a0 : (Option config_Plan)} {p0 : Value} {a1 : Int}  (hst : St w0 w I [objO at_config_Plan p0 a0] R) {r : (Int)} (hm : config_Plan_Part a0 a1 = some r) :
  Calls prog 21 #[p0, I6 a1] w fun e w' => e = .returned (.int .i64 r) ∧ St w0 w' I [objO at_config_Plan p0 a0] R := by {
 rcases a0 with _ | o0
 {
 obtain ⟨rfl, hst'⟩ := objO_none hst
 clear hst
 have hst := hst'
 clear hst'
 dsimp only [config_Plan_Part] at hm
 refine calls_start (args := [.pointer none, I6 a1]) func21 z ntmps21 (Nat.le_of_ble_eq_true z) ?_
 refine wp_seq (wrl (wv (.int .i64 (0:Int)) z z z (wl_nil (tn (wp_seq (wp_seq (wrl (wv (.pointer none) z z z (wv (.bool true) z z (by kernel_rfl) (wv (.bool true) z z z (wz z z z z z z (wz z z z z z z (wv (.bool true) z z (x_pick_t z z z) (wv (.bool true) z z z (wz z z z z z z (wz z z z z z z (wz z z z z z z ?_)))))))))))))))))
 refine wz z z z z z z (wv (.bool true) z z (x_pick_t z z z) (wl_nil (tn ?_)))
 refine wp_ift z ?_
 refine wp_seq (wrl (wv (.int .i64 ((-1):Int)) z z z (wl_nil (tn (wp_ret (then_r ?_))))))
 replace hst := hst.objO_nil at_config_Plan
 obtain rfl := some_inj hm
 refine post_ret (vs := [I6 ((-1):Int)]) results21 (rvs_cons (rv_tmp z) rvs_nil) ?_
 exact ⟨z, hst.keep1⟩
}
 {
 replace hst := objO_get hst
 dsimp only [config_Plan_Part] at hm
 refine calls_start (args := [p0, I6 a1]) func21 z ntmps21 (Nat.le_of_ble_eq_true z) ?_
 refine wp_seq (wrl (wv (.int .i64 (0:Int)) z z z (wl_nil (tn (wp_seq (wp_seq (wrl (wv (p0) z z z ?_))))))))
 obtain ⟨b79, v80, v83, v86, ⟨rfl, f82, f85⟩, hst'⟩ := at_config_Plan_open hst
 clear hst
 have hst := hst'
 clear hst'
 refine wv (.bool false) z z (by kernel_rfl) (wv (.bool false) z z z (wv (.int .i64 a1) ((wanted_eq z z z z).trans z) z z (wv (.bool (decide (a1 < (0:Int)))) ((wanted_eq z z z z).trans z) z z (wv (.bool (decide (a1 < (0:Int)))) z z (x_pick_f z z z) (wv (.bool (decide (a1 < (0:Int)))) z z z ?_)))))
 refine bsplit (decide (a1 < (0:Int))) (fun hc88 => ?_) (fun hc88 => ?_)
 {
 replace hm := bif_t hc88 hm
 refine wo hc88 z z z z z z (wo hc88 z z z z z z (wo hc88 z z z z z z (wo hc88 z z z z z z (wv (.bool true) z z (x_pick_t hc88 z z) (wl_nil (tn ?_))))))
 refine wp_ift z ?_
 refine wp_seq (wrl (wv (.int .i64 ((-1):Int)) z z z (wl_nil (tn (wp_ret (then_r ?_))))))
 replace hst := hst.pull1.pull1
 replace hst := at_config_Plan_close (pv := Pt b79 0) (x := o0) hst ⟨z, f82, f85⟩
 replace hst := objO_some hst
 obtain rfl := some_inj hm
 refine post_ret (vs := [I6 ((-1):Int)]) results21 (rvs_cons (rv_tmp z) rvs_nil) ?_
 exact ⟨z, hst.keep1⟩
}
 {
 replace hm := bif_f hc88 hm
 refine wv (.int .i64 a1) ((wanted_eq z z z (cvb hc88)).trans z) z z (wv (Pt b79 0) ((wanted_eq z z z (cvb hc88)).trans z) z z ?_)
 replace hst := hst.pull1.pull1
 replace hst := at_config_Plan_close (pv := Pt b79 0) (x := o0) hst ⟨z, f82, f85⟩
 replace hst := objO_some hst
 obtain ⟨t89, ht90, hm⟩ := bind_some hm
 refine wl_call ((wanted_eq z z z (cvb hc88)).trans z) z (x_call call19 z (vs := [Pt b79 0]) z) ?_
 refine (config_Plan_Rules_ref hst.to1 ht90).mono ?_
 rintro _ w91 ⟨rfl, hst⟩
 refine ⟨_, z, ?_⟩
 replace hst := hst.of1
 replace hst := objO_get hst
 refine wv (.bool (decide (a1 ≥ t89))) ((wanted_eq z z z (cvb hc88)).trans z) z z (wv (.bool (decide (a1 ≥ t89))) z z (x_pick_f hc88 z z) (wl_nil (tn ?_)))
 refine bsplit (decide (a1 ≥ t89)) (fun hc94 => ?_) (fun hc94 => ?_)
 {
 replace hm := bif_t hc94 hm
 refine wp_ift (cvb hc94) ?_
 refine wp_seq (wrl (wv (.int .i64 ((-1):Int)) z z z (wl_nil (tn (wp_ret (then_r ?_))))))
 replace hst := objO_some hst
 obtain rfl := some_inj hm
 refine post_ret (vs := [I6 ((-1):Int)]) results21 (rvs_cons (rv_tmp z) rvs_nil) ?_
 exact ⟨z, hst.keep1⟩
}
 {
 replace hm := bif_f hc94 hm
 refine wp_iff (cvb hc94) ?_
 refine wp_skip (tn (wp_seq (wrl ?_)))
 refine wv (.int .i64 a1) z z z (wv (Pt b79 0) z z z ?_)
 replace hst := objO_some hst
 obtain ⟨t95, ht96, hm⟩ := bind_some hm
 refine wc call17 [Pt b79 0] z z z ?_
 refine (config_Plan_Shards_ref hst.to1 ht96).mono ?_
 rintro _ w97 ⟨rfl, hst⟩
 refine ⟨_, z, ?_⟩
 replace hst := hst.of1
 replace hst := objO_get hst
 obtain ⟨hg100, hm⟩ := gd_some hm
 refine wv (.int .i64 (Int.tmod a1 t95)) z z (x_rem (not_t hg100) z z) (wv (.int .i64 (Int.tmod a1 t95)) z z z (wl_nil (tn (wp_ret ?_))))
 replace hst := objO_some hst
 obtain rfl := some_inj hm
 refine post_ret (vs := [I6 (Int.tmod a1 t95)]) results21 (rvs_cons (rv_tmp z) rvs_nil) ?_
 exact ⟨z, hst.keep1⟩
}
}
}
}

theorem ref03_Leq_ref {w0 w : World} {I : HL} {R : SP} {a0 : (List Int)} {r0_0 : Value} {a1 : Int} {a2 : Int} (f0_0 : Rd (tyInt .u64) R I r0_0 a0) (hst : St w0 w I [] R) {r : (Bool)} (hm : ref03_Leq a0 a1 a2 = some r) :
  Calls prog 42 #[r0_0, I6 a1, I6 a2] w fun e w' => e = .returned (.bool r) ∧ St w0 w' I [] R := by {
 unfold ref03_Leq at hm
 refine calls_start (args := [r0_0, I6 a1, I6 a2]) func42 z ntmps42 (Nat.le_of_ble_eq_true z) ?_
 refine wp_seq (wrl (wv (.bool false) z z z (wl_nil (tn (wp_seq (wrl (wv (.int .i64 a1) z z z (wv (.bool (decide (a1 ≥ (0:Int)))) z z z (wv (.bool (decide (a1 ≥ (0:Int)))) z z z ?_)))))))))
 refine bsplit (decide (a1 ≥ (0:Int))) (fun hc72 => ?_) (fun hc72 => ?_)
 {
 replace hm := bif_t hc72 hm
 refine wv (.int .i64 a2) ((wanted_eq z z z (cvb hc72)).trans z) z z (wv (.bool (decide (a2 ≥ (0:Int)))) ((wanted_eq z z z (cvb hc72)).trans z) z z (wv (.bool (decide (a2 ≥ (0:Int)))) z z (x_pick_t hc72 z z) (wv (.bool (decide (a2 ≥ (0:Int)))) z z z ?_)))
 refine bsplit (decide (a2 ≥ (0:Int))) (fun hc73 => ?_) (fun hc73 => ?_)
 {
 replace hm := bif_t hc73 hm
 refine wv (.int .i64 a1) ((wanted_eq z z z (cvb hc73)).trans z) z z (wv (r0_0) ((wanted_eq z z z (cvb hc73)).trans z) z z (wv (.int .i64 ((a0).length : Int)) ((wanted_eq z z z (cvb hc73)).trans z) z (x_len z underlying25 (rd_sliceV f0_0)) (wv (.bool (decide (a1 < ((a0).length : Int)))) ((wanted_eq z z z (cvb hc73)).trans z) z z (wv (.bool (decide (a1 < ((a0).length : Int)))) z z (x_pick_t hc73 z z) (wv (.bool (decide (a1 < ((a0).length : Int)))) z z z ?_)))))
 refine bsplit (decide (a1 < ((a0).length : Int))) (fun hc74 => ?_) (fun hc74 => ?_)
 {
 replace hm := bif_t hc74 hm
 refine wv (.int .i64 a2) ((wanted_eq z z z (cvb hc74)).trans z) z z (wv (r0_0) ((wanted_eq z z z (cvb hc74)).trans z) z z (wv (.int .i64 ((a0).length : Int)) ((wanted_eq z z z (cvb hc74)).trans z) z (x_len z underlying25 (rd_sliceV f0_0)) (wv (.bool (decide (a2 < ((a0).length : Int)))) ((wanted_eq z z z (cvb hc74)).trans z) z z (wv (.bool (decide (a2 < ((a0).length : Int)))) z z (x_pick_t hc74 z z) (wv (.bool (decide (a2 < ((a0).length : Int)))) z z z ?_)))))
 refine bsplit (decide (a2 < ((a0).length : Int))) (fun hc75 => ?_) (fun hc75 => ?_)
 {
 replace hm := bif_t hc75 hm
 refine wv (r0_0) ((wanted_eq z z z (cvb hc75)).trans z) z z (wv (.int .i64 a1) ((wanted_eq z z z (cvb hc75)).trans z) z z ?_)
 obtain ⟨x76, hx77, hm⟩ := bind_some hm
 obtain ⟨h78, h79, hi80⟩ := geto_some hx77
 refine wv (.pointer (some (eAddr r0_0 (a1.toNat * 1 + 0)))) ((wanted_eq z z z (cvb hc75)).trans z) z (x_index z z underlying25 sizeOf22 (rd_sliceV f0_0) h78 h79) (wv (.int .u64 x76) ((wanted_eq z z z (cvb hc75)).trans z) z (x_load z isAgg22 (rd_load f0_0 (HL.le.refl _) hst hi80 (by rintro _ rfl; rfl))) (wv (.int .i64 a2) ((wanted_eq z z z (cvb hc75)).trans z) z z ?_))
 obtain ⟨hg81, hm⟩ := gd_some hm
 refine wv (.int .u64 (iShr .u64 x76 a2)) ((wanted_eq z z z (cvb hc75)).trans z) z (x_shr (of_decide_eq_true hg81) z z) (wv (.int .u64 (bAnd .u64 (iShr .u64 x76 a2) (1:Int))) ((wanted_eq z z z (cvb hc75)).trans z) z z (wv (.bool ((bAnd .u64 (iShr .u64 x76 a2) (1:Int)) == (1:Int))) ((wanted_eq z z z (cvb hc75)).trans z) z z (wv (.bool ((bAnd .u64 (iShr .u64 x76 a2) (1:Int)) == (1:Int))) z z (x_pick_t hc75 z z) (wv (.bool ((bAnd .u64 (iShr .u64 x76 a2) (1:Int)) == (1:Int))) z z z (wl_nil (tn (wp_ret ?_)))))))
 obtain rfl := some_inj hm
 refine post_ret (vs := [.bool ((bAnd .u64 (iShr .u64 x76 a2) (1:Int)) == (1:Int))]) results42 (rvs_cons (rv_tmp z) rvs_nil) ?_
 exact ⟨z, hst.keep0⟩
}
 {
 replace hm := bif_f hc75 hm
 refine wo hc75 z z z z z z (wo hc75 z z z z z z (wo hc75 z z z z z z (wo hc75 z z z z z z (wo hc75 z z z z z z (wo hc75 z z z z z z (wo hc75 z z z z z z (wo hc75 z z z z z z (wv (.bool false) z z (x_pick_f hc75 z z) (wv (.bool false) z z z (wl_nil (tn (wp_ret ?_))))))))))))
 obtain rfl := some_inj hm
 refine post_ret (vs := [.bool false]) results42 (rvs_cons (rv_tmp z) rvs_nil) ?_
 exact ⟨z, hst.keep0⟩
}
}
 {
 replace hm := bif_f hc74 hm
 refine wo hc74 z z z z z z (wo hc74 z z z z z z (wo hc74 z z z z z z (wo hc74 z z z z z z (wv (.bool false) z z (x_pick_f hc74 z z) (wv (.bool false) z z z (wz z z z z z z (wz z z z z z z (wz z z z z z z (wz z z z z z z (wz z z z z z z (wz z z z z z z (wz z z z z z z ?_))))))))))))
 refine wz z z z z z z (wv (.bool false) z z (x_pick_f z z z) (wv (.bool false) z z z (wl_nil (tn (wp_ret ?_)))))
 obtain rfl := some_inj hm
 refine post_ret (vs := [.bool false]) results42 (rvs_cons (rv_tmp z) rvs_nil) ?_
 exact ⟨z, hst.keep0⟩
}
}
 {
 replace hm := bif_f hc73 hm
 refine wo hc73 z z z z z z (wo hc73 z z z z z z (wo hc73 z z z z z z (wo hc73 z z z z z z (wv (.bool false) z z (x_pick_f hc73 z z) (wv (.bool false) z z z (wz z z z z z z (wz z z z z z z (wz z z z z z z (wz z z z z z z (wv (.bool false) z z (x_pick_f z z z) (wv (.bool false) z z z (wz z z z z z z ?_))))))))))))
 refine wz z z z z z z (wz z z z z z z (wz z z z z z z (wz z z z z z z (wz z z z z z z (wz z z z z z z (wz z z z z z z (wv (.bool false) z z (x_pick_f z z z) (wv (.bool false) z z z (wl_nil (tn (wp_ret ?_)))))))))))
 obtain rfl := some_inj hm
 refine post_ret (vs := [.bool false]) results42 (rvs_cons (rv_tmp z) rvs_nil) ?_
 exact ⟨z, hst.keep0⟩
}
}
 {
 replace hm := bif_f hc72 hm
 refine wo hc72 z z z z z z (wo hc72 z z z z z z (wv (.bool false) z z (x_pick_f hc72 z z) (wv (.bool false) z z z (wz z z z z z z (wz z z z z z z (wz z z z z z z (wz z z z z z z (wv (.bool false) z z (x_pick_f z z z) (wv (.bool false) z z z (wz z z z z z z (wz z z z z z z (wz z z z z z z ?_))))))))))))
 refine wz z z z z z z (wv (.bool false) z z (x_pick_f z z z) (wv (.bool false) z z z (wz z z z z z z (wz z z z z z z (wz z z z z z z (wz z z z z z z (wz z z z z z z (wz z z z z z z (wz z z z z z z (wz z z z z z z (wv (.bool false) z z (x_pick_f z z z) (wv (.bool false) z z z ?_))))))))))))
 refine wl_nil (tn (wp_ret ?_))
 obtain rfl := some_inj hm
 refine post_ret (vs := [.bool false]) results42 (rvs_cons (rv_tmp z) rvs_nil) ?_
 exact ⟨z, hst.keep0⟩
}
}

theorem ref03_Order_ref {w0 w : World} {I : HL} {R : SP} {a0 : (List Int)} {r0_0 : Value} (f0_0 : Rd (tyInt .u64) R I r0_0 a0) (hst : St w0 w I [] R) {r : ((List Int))} (hm : ref03_Order a0 = some r) :
  Calls prog 23 #[r0_0] w fun e w' => ∃ (q0_0 : Value), e = .returned (q0_0) ∧ St w0 w' I [ownS (tyInt .i64) q0_0 r] R := by {
 unfold ref03_Order at hm
 refine calls_start (args := [r0_0]) func23 z ntmps23 (Nat.le_of_ble_eq_true z) ?_
 refine wp_seq (wrl (wv ((.slice none 0 0)) z z z (wl_nil (tn (wp_seq (wrl (wv ((.slice none 0 0)) z z z (wl_nil (tn (wp_seq (wp_seq (wrl (wv (.int .i64 (0:Int)) z z z (wl_nil (tn (wp_block ?_))))))))))))))))
 replace hst := hst.own_nil (tyInt .i64)
 obtain ⟨n1369, hm⟩ := loopO_some hm
 refine wp_loop_n (fun n a w => ∃ (z1364 : (List Int)) (z1367 : Int) (v1365 : Value) (σ1368 : Nat → Value), loopN (ref03_Order_l0 a0) n (z1364, z1367) = some r ∧ a = Fr 40 (upd (upd (upd σ1368 0 (r0_0)) 3 (v1365)) 4 (.int .i64 z1367)) ∧ St w0 w I [ownS (tyInt .i64) v1365 z1364] R) n1369 ⟨[], (0:Int), Zs, _, hm, (fu 0 r0_0 z (fu 3 (.slice none 0 0) z (fu 4 (.int .i64 (0:Int)) z z))), hst⟩ ?_
 rintro n1375 _ w1370 ⟨z1364, z1367, v1365, σ1368, hm, rfl, hst⟩
 obtain ⟨n1372, y1373, rfl, hm, hx1374⟩ := loopN_some hm
 dsimp only [ref03_Order_l0] at hm
 refine wp_seq (wp_seq (wrl (wv (.int .i64 z1367) z z z (wv (r0_0) z z z (wv (.int .i64 ((a0).length : Int)) z z (x_len z underlying25 (rd_sliceV f0_0)) (wv (.bool (decide (z1367 ≤ ((a0).length : Int)))) z z z (wl_nil (tn ?_))))))))
 refine bsplit (decide (z1367 ≤ ((a0).length : Int))) (fun hc1376 => ?_) (fun hc1376 => ?_)
 {
 replace hm := bif_t hc1376 hm
 refine wp_ift (cvb hc1376) ?_
 refine wp_skip (tn (wp_seq (wp_block (wp_seq (wrl ?_)))))
 refine wv (.int .i64 (0:Int)) z z z (wl_nil (tn (wp_block ?_)))
 obtain ⟨n1487, hm⟩ := loopO_some hm
 refine wp_loop_n (fun n a w => ∃ (z1482 : (List Int)) (z1485 : Int) (v1483 : Value) (σ1486 : Nat → Value), loopN (ref03_Order_l1 a0 z1367) n (z1482, z1485) = some y1373 ∧ a = Fr 40 (upd (upd (upd (upd σ1486 0 (r0_0)) 3 (v1483)) 4 (.int .i64 z1367)) 5 (.int .i64 z1485)) ∧ St w0 w I [ownS (tyInt .i64) v1483 z1482] R) n1487 ⟨z1364, (0:Int), v1365, _, hm, (fu 0 r0_0 z (fu 3 v1365 z (fu 4 (.int .i64 z1367) z (fu 5 (.int .i64 (0:Int)) z z)))), hst⟩ ?_
 rintro n1493 _ w1488 ⟨z1482, z1485, v1483, σ1486, hm, rfl, hst⟩
 obtain ⟨n1490, y1491, rfl, hm, hx1492⟩ := loopN_some hm
 dsimp only [ref03_Order_l1] at hm
 refine wp_seq (wp_seq (wrl (wv (.int .i64 z1485) z z z (wv (r0_0) z z z (wv (.int .i64 ((a0).length : Int)) z z (x_len z underlying25 (rd_sliceV f0_0)) (wv (.bool (decide (z1485 < ((a0).length : Int)))) z z z (wl_nil (tn ?_))))))))
 refine bsplit (decide (z1485 < ((a0).length : Int))) (fun hc1494 => ?_) (fun hc1494 => ?_)
 {
 replace hm := bif_t hc1494 hm
 refine wp_ift (cvb hc1494) ?_
 refine wp_skip (tn (wp_seq (wp_block (wp_seq (wrl ?_)))))
 refine wv (.int .i64 (0:Int)) z z z (wl_nil (tn ?_))
 obtain ⟨y1531, hm, hx1532⟩ := bind_some hm
 refine wp_cut (fun a w => ∃ (z1528 : Int) (σ1529 : Nat → Value), (ref03_Order_j2 z1367 z1482 z1485) z1528 = some y1491 ∧ a = Fr 40 (upd (upd (upd (upd (upd σ1529 0 (r0_0)) 3 (v1483)) 4 (.int .i64 z1367)) 5 (.int .i64 z1485)) 6 (.int .i64 z1528)) ∧ St w0 w I [ownS (tyInt .i64) v1483 z1482] R) ?_ ?_
 {
 refine wp_seq (wrl (wv (.int .i64 (0:Int)) z z z (wl_nil (tn (wp_block ?_)))))
 obtain ⟨n1514, hm⟩ := loopO_some hm
 refine wp_loop_n (fun n a w => ∃ (z1511 : Int) (z1512 : Int) (σ1513 : Nat → Value), loopN (ref03_Order_l3 a0 z1485) n (z1511, z1512) = some y1531 ∧ a = Fr 40 (upd (upd (upd (upd (upd (upd σ1513 0 (r0_0)) 3 (v1483)) 4 (.int .i64 z1367)) 5 (.int .i64 z1485)) 6 (.int .i64 z1511)) 7 (.int .i64 z1512)) ∧ St w0 w I [ownS (tyInt .i64) v1483 z1482] R) n1514 ⟨(0:Int), (0:Int), _, hm, (fu 0 r0_0 z (fu 3 v1483 z (fu 4 (.int .i64 z1367) z (fu 5 (.int .i64 z1485) z (fu 6 (.int .i64 (0:Int)) z (fu 7 (.int .i64 (0:Int)) z z)))))), hst⟩ ?_
 rintro n1520 _ w1515 ⟨z1511, z1512, σ1513, hm, rfl, hst⟩
 obtain ⟨n1517, y1518, rfl, hm, hx1519⟩ := loopN_some hm
 dsimp only [ref03_Order_l3] at hm
 refine wp_seq (wp_seq (wrl (wv (.int .i64 z1512) z z z (wv (r0_0) z z z (wv (.int .i64 ((a0).length : Int)) z z (x_len z underlying25 (rd_sliceV f0_0)) (wv (.bool (decide (z1512 < ((a0).length : Int)))) z z z (wl_nil (tn ?_))))))))
 refine bsplit (decide (z1512 < ((a0).length : Int))) (fun hc1521 => ?_) (fun hc1521 => ?_)
 {
 replace hm := bif_t hc1521 hm
 refine wp_ift (cvb hc1521) ?_
 refine wp_skip (tn (wp_seq (wp_block (wp_seq (wrl ?_)))))
 refine wv (r0_0) z z z (wv (.int .i64 z1512) z z z (wv (.int .i64 z1485) z z z ?_))
 obtain ⟨t1522, ht1523, hm⟩ := bind_some hm
 refine wc call42 [r0_0, I6 z1512, I6 z1485] z z z ?_
 refine (ref03_Leq_ref (f0_0.mono (rd_weak _)) hst.to0 ht1523).mono ?_
 rintro _ w1524 ⟨rfl, hst⟩
 refine ⟨_, z, ?_⟩
 replace hst := hst.of0
 refine wl_nil (tn ?_)
 refine bsplit t1522 (fun hc1527 => ?_) (fun hc1527 => ?_)
 {
 replace hm := bif_t hc1527 hm
 refine wp_ift (cvb hc1527) ?_
 refine wrl (wv (.int .i64 z1511) z z z (wv (.int .i64 (i64.wrap (z1511 + (1:Int)))) z z z (wv (.int .i64 (i64.wrap (z1511 + (1:Int)))) z z z (wl_nil (blk_n (tn (wrl (wv (.int .i64 z1512) z z z (wv (.int .i64 (i64.wrap (z1512 + (1:Int)))) z z z (wv (.int .i64 (i64.wrap (z1512 + (1:Int)))) z z z (wl_nil (tn ?_))))))))))))
 replace hst := hst.keep1
 obtain rfl := some_inj hm
 exact ⟨_, Nat.lt_succ_self _, (i64.wrap (z1511 + (1:Int))), (i64.wrap (z1512 + (1:Int))), _, hx1519, (fu 0 r0_0 z (fu 3 v1483 z (fu 4 (.int .i64 z1367) z (fu 5 (.int .i64 z1485) z (fu 6 (.int .i64 (i64.wrap (z1511 + (1:Int)))) z (fu 7 (.int .i64 (i64.wrap (z1512 + (1:Int)))) z z)))))), hst⟩
}
 {
 replace hm := bif_f hc1527 hm
 refine wp_iff (cvb hc1527) ?_
 refine wp_skip (blk_n (tn (wrl ?_)))
 refine wv (.int .i64 z1512) z z z (wv (.int .i64 (i64.wrap (z1512 + (1:Int)))) z z z (wv (.int .i64 (i64.wrap (z1512 + (1:Int)))) z z z (wl_nil (tn ?_))))
 replace hst := hst.keep1
 obtain rfl := some_inj hm
 exact ⟨_, Nat.lt_succ_self _, z1511, (i64.wrap (z1512 + (1:Int))), _, hx1519, (fu 0 r0_0 z (fu 3 v1483 z (fu 4 (.int .i64 z1367) z (fu 5 (.int .i64 z1485) z (fu 6 (.int .i64 z1511) z (fu 7 (.int .i64 (i64.wrap (z1512 + (1:Int)))) z z)))))), hst⟩
}
}
 {
 replace hm := bif_f hc1521 hm
 refine wp_iff (cvb hc1521) ?_
 refine wp_exit (then_x (then_x ?_))
 replace hm := inr_up hm hx1519
 refine blk_x (tn ?_)
 replace hst := hst.keep1
 obtain rfl := some_inj hm
 exact ⟨z1511, _, hx1532, (fu 0 r0_0 z (fu 3 v1483 z (fu 4 (.int .i64 z1367) z (fu 5 (.int .i64 z1485) z (fu 6 (.int .i64 z1511) z z))))), hst⟩
}
}
 {
 clear hst
 rintro _ w1533 ⟨z1528, σ1529, hm, rfl, hst⟩
 dsimp only [ref03_Order_j2] at hm
 refine wp_seq (wrl (wv (.int .i64 z1528) z z z (wv (.int .i64 z1367) z z z (wv (.bool (z1528 == z1367)) z z z (wl_nil (tn ?_))))))
 refine bsplit (z1528 == z1367) (fun hc1534 => ?_) (fun hc1534 => ?_)
 {
 replace hm := bif_t hc1534 hm
 refine wp_ift (cvb hc1534) ?_
 refine wrl (wv (v1483) z z z (wv (.int .i64 z1485) z z z ?_))
 obtain ⟨b1535, w1536, ew1537, eb1538, hst⟩ := hst.lits (E := (tyInt .i64)) (xs := [z1485]) [[I6 z1485]] 3 1 z (Reps.cons z Reps.nil)
 refine wl_run (v := (.slice (some ⟨b1535, 0, none⟩) 1 1)) (w' := w1536) z z (x_als (by kernel_rfl) ew1537 eb1538) ?_
 obtain ⟨hg1540, hm⟩ := gd_some hm
 replace hst := hst.pull1
 obtain ⟨v1541, w1542, hr1543, hst⟩ := run_append elem_46 underlying46 hst hst.src1 (room_of hg1540 z) 46
 refine wl_run (v := v1541) (w' := w1542) z z (x_append z z hr1543) ?_
 refine wv (v1541) z z z (wl_nil (blk_n (tn (wrl (wv (.int .i64 z1485) z z z (wv (.int .i64 (i64.wrap (z1485 + (1:Int)))) z z z (wv (.int .i64 (i64.wrap (z1485 + (1:Int)))) z z z (wl_nil (tn ?_)))))))))
 replace hst := hst.keep1
 obtain rfl := some_inj hm
 exact ⟨_, Nat.lt_succ_self _, (z1482 ++ ([z1485])), (i64.wrap (z1485 + (1:Int))), v1541, _, hx1492, (fu 0 r0_0 z (fu 3 v1541 z (fu 4 (.int .i64 z1367) z (fu 5 (.int .i64 (i64.wrap (z1485 + (1:Int)))) z z)))), hst⟩
}
 {
 replace hm := bif_f hc1534 hm
 refine wp_iff (cvb hc1534) ?_
 refine wp_skip (blk_n (tn (wrl ?_)))
 refine wv (.int .i64 z1485) z z z (wv (.int .i64 (i64.wrap (z1485 + (1:Int)))) z z z (wv (.int .i64 (i64.wrap (z1485 + (1:Int)))) z z z (wl_nil (tn ?_))))
 replace hst := hst.keep1
 obtain rfl := some_inj hm
 exact ⟨_, Nat.lt_succ_self _, z1482, (i64.wrap (z1485 + (1:Int))), v1483, _, hx1492, (fu 0 r0_0 z (fu 3 v1483 z (fu 4 (.int .i64 z1367) z (fu 5 (.int .i64 (i64.wrap (z1485 + (1:Int)))) z z)))), hst⟩
}
}
}
 {
 replace hm := bif_f hc1494 hm
 refine wp_iff (cvb hc1494) ?_
 refine wp_exit (then_x (then_x ?_))
 replace hm := inr_up hm hx1492
 refine blk_x (blk_n (tn (wrl ?_)))
 refine wv (.int .i64 z1367) z z z (wv (.int .i64 (i64.wrap (z1367 + (1:Int)))) z z z (wv (.int .i64 (i64.wrap (z1367 + (1:Int)))) z z z (wl_nil (tn ?_))))
 replace hst := hst.keep1
 obtain rfl := some_inj hm
 exact ⟨_, Nat.lt_succ_self _, z1482, (i64.wrap (z1367 + (1:Int))), v1483, _, hx1374, (fu 0 r0_0 z (fu 3 v1483 z (fu 4 (.int .i64 (i64.wrap (z1367 + (1:Int)))) z z))), hst⟩
}
}
 {
 replace hm := bif_f hc1376 hm
 refine wp_iff (cvb hc1376) ?_
 refine wp_exit (then_x (then_x ?_))
 replace hm := inr_up hm hx1374
 refine blk_x (tn (wp_seq (wrl ?_)))
 refine wv (v1365) z z z (wv (v1365) z z z (wl_nil (tn (wp_ret ?_))))
 obtain rfl := some_inj hm
 refine post_ret (vs := [v1365]) results23 (rvs_cons (rv_tmp z) rvs_nil) ?_
 exact ⟨v1365, z, hst.keep1⟩
}
}

theorem config_Plan_Chief_ref {w0 w : World} {I : HL} {R : SP} {a0 : (Option config_Plan)} {p0 : Value} {a1 : Int}  (hst : St w0 w I [objO at_config_Plan p0 a0] R) {r : (Int)} (hm : config_Plan_Chief a0 a1 = some r) :
  Calls prog 25 #[p0, I6 a1] w fun e w' => e = .returned (.int .i64 r) ∧ St w0 w' I [objO at_config_Plan p0 a0] R := by {
 unfold config_Plan_Chief at hm
 refine calls_start (args := [p0, I6 a1]) func25 z ntmps25 (Nat.le_of_ble_eq_true z) ?_
 refine wp_seq (wrl (wv (.int .i64 (0:Int)) z z z (wl_nil (tn (wp_seq (wrl (wv (p0) z z z (wv (.int .i64 a1) z z z ?_))))))))
 obtain ⟨t136, ht137, hm⟩ := bind_some hm
 refine wc call24 [p0, I6 a1, Zi] z z z ?_
 refine (config_Plan_Lane_ref hst.to1 ht137).mono ?_
 rintro _ w138 ⟨rfl, hst⟩
 refine ⟨_, z, ?_⟩
 replace hst := hst.of1
 refine wv (.int .i64 t136) z z z (wl_nil (tn (wp_ret ?_)))
 obtain rfl := some_inj hm
 refine post_ret (vs := [I6 t136]) results25 (rvs_cons (rv_tmp z) rvs_nil) ?_
 exact ⟨z, hst.keep1⟩
}

theorem config_Plan_All_ref {w0 w : World} {I : HL} {R : SP} {a0 : (Option config_Plan)} {p0 : Value}  (hst : St w0 w I [objO at_config_Plan p0 a0] R) {r : (Int)} (hm : config_Plan_All a0 = some r) :
  Calls prog 26 #[p0] w fun e w' => e = .returned (.int .u64 r) ∧ St w0 w' I [objO at_config_Plan p0 a0] R := by {
 rcases a0 with _ | o0
 {
 obtain ⟨rfl, hst'⟩ := objO_none hst
 clear hst
 have hst := hst'
 clear hst'
 dsimp only [config_Plan_All] at hm
 refine calls_start (args := [.pointer none]) func26 z ntmps26 (Nat.le_of_ble_eq_true z) ?_
 refine wp_seq (wrl (wv (.int .u64 (0:Int)) z z z (wl_nil (tn (wp_seq (wp_seq (wrl (wv (.pointer none) z z z (wv (.bool true) z z (by kernel_rfl) (wl_nil (tn ?_)))))))))))
 refine wp_ift z ?_
 refine wp_seq (wrl (wv (.int .u64 (0:Int)) z z z (wl_nil (tn (wp_ret (then_r ?_))))))
 replace hst := hst.objO_nil at_config_Plan
 obtain rfl := some_inj hm
 refine post_ret (vs := [Zu]) results26 (rvs_cons (rv_tmp z) rvs_nil) ?_
 exact ⟨z, hst.keep1⟩
}
 {
 replace hst := objO_get hst
 dsimp only [config_Plan_All] at hm
 refine calls_start (args := [p0]) func26 z ntmps26 (Nat.le_of_ble_eq_true z) ?_
 refine wp_seq (wrl (wv (.int .u64 (0:Int)) z z z (wl_nil (tn (wp_seq (wp_seq (wrl (wv (p0) z z z ?_))))))))
 obtain ⟨b458, v459, v462, v465, ⟨rfl, f461, f464⟩, hst'⟩ := at_config_Plan_open hst
 clear hst
 have hst := hst'
 clear hst'
 refine wv (.bool false) z z (by kernel_rfl) (wl_nil (tn ?_))
 refine wp_iff z ?_
 refine wp_skip (tn (wp_seq (wrl ?_)))
 refine wv (Pt b458 0) z z z (wv (Pt b458 0) z z z (wv (Pt b458 0) z z (x_field z underlying64 z sizeOf28 z) (wv (Pt b458 1) z z (x_field z underlying28 z sizeOf3 z) (wv (.int .i64 o0.C.Nodes) z z (x_load z isAgg3 (hst.bc0 z)) ?_))))
 obtain ⟨hg467, hm⟩ := gd_some hm
 refine wv (.int .u64 (iShl .u64 (1:Int) o0.C.Nodes)) z z (x_shl (of_decide_eq_true hg467) z z) (wv (.int .u64 (u64.wrap ((iShl .u64 (1:Int) o0.C.Nodes) - (1:Int)))) z z z (wv (.int .u64 (u64.wrap ((iShl .u64 (1:Int) o0.C.Nodes) - (1:Int)))) z z z (wl_nil (tn (wp_ret ?_)))))
 replace hst := hst.pull1.pull1
 replace hst := at_config_Plan_close (pv := Pt b458 0) (x := o0) hst ⟨z, f461, f464⟩
 replace hst := objO_some hst
 obtain rfl := some_inj hm
 refine post_ret (vs := [U6 (u64.wrap ((iShl .u64 (1:Int) o0.C.Nodes) - (1:Int)))]) results26 (rvs_cons (rv_tmp z) rvs_nil) ?_
 exact ⟨z, hst.keep1⟩
}
}

theorem config_Plan_Node_ref {w0 w : World} {I : HL} {R : SP} {a0 : (Option config_Plan)} {p0 : Value} {a1 : Int}  (hst : St w0 w I [objO at_config_Plan p0 a0] R) {r : (Bool)} (hm : config_Plan_Node a0 a1 = some r) :
  Calls prog 27 #[p0, I6 a1] w fun e w' => e = .returned (.bool r) ∧ St w0 w' I [objO at_config_Plan p0 a0] R := by {
 rcases a0 with _ | o0
 {
 obtain ⟨rfl, hst'⟩ := objO_none hst
 clear hst
 have hst := hst'
 clear hst'
 dsimp only [config_Plan_Node] at hm
 refine calls_start (args := [.pointer none, I6 a1]) func27 z ntmps27 (Nat.le_of_ble_eq_true z) ?_
 refine wp_seq (wrl (wv (.bool false) z z z (wl_nil (tn (wp_seq (wrl (wv (.pointer none) z z z (wv (.bool false) z z (by kernel_rfl) (wv (.bool false) z z z (wz z z z z z z (wz z z z z z z (wv (.bool false) z z (x_pick_f z z z) (wv (.bool false) z z z (wz z z z z z z (wz z z z z z z (wz z z z z z z ?_))))))))))))))))
 refine wz z z z z z z (wz z z z z z z (wz z z z z z z (wz z z z z z z (wv (.bool false) z z (x_pick_f z z z) (wv (.bool false) z z z (wl_nil (tn (wp_ret ?_))))))))
 replace hst := hst.objO_nil at_config_Plan
 obtain rfl := some_inj hm
 refine post_ret (vs := [.bool false]) results27 (rvs_cons (rv_tmp z) rvs_nil) ?_
 exact ⟨z, hst.keep1⟩
}
 {
 replace hst := objO_get hst
 dsimp only [config_Plan_Node] at hm
 refine calls_start (args := [p0, I6 a1]) func27 z ntmps27 (Nat.le_of_ble_eq_true z) ?_
 refine wp_seq (wrl (wv (.bool false) z z z (wl_nil (tn (wp_seq (wrl (wv (p0) z z z ?_)))))))
 obtain ⟨b458, v459, v462, v465, ⟨rfl, f461, f464⟩, hst'⟩ := at_config_Plan_open hst
 clear hst
 have hst := hst'
 clear hst'
 refine wv (.bool true) z z (by kernel_rfl) (wv (.bool true) z z z (wv (.int .i64 a1) ((wanted_eq z z z z).trans z) z z (wv (.bool (decide (a1 ≥ (0:Int)))) ((wanted_eq z z z z).trans z) z z (wv (.bool (decide (a1 ≥ (0:Int)))) z z (x_pick_t z z z) (wv (.bool (decide (a1 ≥ (0:Int)))) z z z ?_)))))
 refine bsplit (decide (a1 ≥ (0:Int))) (fun hc467 => ?_) (fun hc467 => ?_)
 {
 replace hm := bif_t hc467 hm
 refine wv (.int .i64 a1) ((wanted_eq z z z (cvb hc467)).trans z) z z (wv (Pt b458 0) ((wanted_eq z z z (cvb hc467)).trans z) z z (wv (Pt b458 0) ((wanted_eq z z z (cvb hc467)).trans z) z z (wv (Pt b458 0) ((wanted_eq z z z (cvb hc467)).trans z) z (x_field z underlying64 z sizeOf28 z) (wv (Pt b458 1) ((wanted_eq z z z (cvb hc467)).trans z) z (x_field z underlying28 z sizeOf3 z) (wv (.int .i64 o0.C.Nodes) ((wanted_eq z z z (cvb hc467)).trans z) z (x_load z isAgg3 (hst.bc0 z)) (wv (.bool (decide (a1 < o0.C.Nodes))) ((wanted_eq z z z (cvb hc467)).trans z) z z (wv (.bool (decide (a1 < o0.C.Nodes))) z z (x_pick_t hc467 z z) (wv (.bool (decide (a1 < o0.C.Nodes))) z z z (wl_nil (tn (wp_ret ?_)))))))))))
 replace hst := hst.pull1.pull1
 replace hst := at_config_Plan_close (pv := Pt b458 0) (x := o0) hst ⟨z, f461, f464⟩
 replace hst := objO_some hst
 obtain rfl := some_inj hm
 refine post_ret (vs := [.bool (decide (a1 < o0.C.Nodes))]) results27 (rvs_cons (rv_tmp z) rvs_nil) ?_
 exact ⟨z, hst.keep1⟩
}
 {
 replace hm := bif_f hc467 hm
 refine wo hc467 z z z z z z (wo hc467 z z z z z z (wo hc467 z z z z z z (wo hc467 z z z z z z (wo hc467 z z z z z z (wo hc467 z z z z z z (wo hc467 z z z z z z (wv (.bool false) z z (x_pick_f hc467 z z) (wv (.bool false) z z z (wl_nil (tn (wp_ret ?_)))))))))))
 replace hst := hst.pull1.pull1
 replace hst := at_config_Plan_close (pv := Pt b458 0) (x := o0) hst ⟨z, f461, f464⟩
 replace hst := objO_some hst
 obtain rfl := some_inj hm
 refine post_ret (vs := [.bool false]) results27 (rvs_cons (rv_tmp z) rvs_nil) ?_
 exact ⟨z, hst.keep1⟩
}
}
}

end Go.Proofs.Ytkjkbfaaigmmcaa
