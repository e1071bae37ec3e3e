/- The Go functions refine their models, part 2. -/
import Derived.Test.YtkjkbfaaigmmcaaConfigShardsR1
set_option linter.unusedVariables false
set_option linter.unusedSimpArgs false
set_option maxRecDepth 100000
set_option maxHeartbeats 4000000
namespace Go.Proofs.Ytkjkbfaaigmmcaa
open Go Go.V
open _root_.Go.Proofs.Try IntKind
attribute [local irreducible] wpList Code.wp wpQuiet Calls bodyPost Oper.wp wpS Nx PendOK YieldsIn
theorem config_New_ref {w0 w : World} {I : HL} {R : SP} {a0 : api_Config} {r0_0 : Value} {r0_1 : Value} (f0_0 : Ro (tyInt .u64) I r0_0 a0.Up) (f0_1 : Ro tyF64 I r0_1 a0.Cuts) (hst : St w0 w I [] R) {r : (Option config_Plan × Int)} (hm : config_New a0 = some r) :
  Calls prog 11 #[.agg #[r0_0, I6 a0.Nodes, r0_1, I6 a0.Frame, I6 a0.Depth, I6 a0.Quota, I6 a0.Wide, I6 a0.Beat, I6 a0.Elect]] w fun e w' => ∃ (I' : HL) (q0 : Value), e = .returned (.tuple #[q0, I6 r.2]) ∧ I.le I' ∧ St w0 w' I' [objO at_config_Plan q0 r.1] R := by {
 unfold config_New at hm
 refine calls_start (args := [.agg #[r0_0, I6 a0.Nodes, r0_1, I6 a0.Frame, I6 a0.Depth, I6 a0.Quota, I6 a0.Wide, I6 a0.Beat, I6 a0.Elect]]) func11 z ntmps11 (Nat.le_of_ble_eq_true z) ?_
 have hI0 := HL.le.refl I
 refine wp_seq (wrl ?_)
 obtain ⟨b89, w90, ew91, eb92, hst⟩ := hst.box [r0_0, I6 a0.Nodes, r0_1, I6 a0.Frame, I6 a0.Depth, I6 a0.Quota, I6 a0.Wide, I6 a0.Beat, I6 a0.Elect] 28
 refine wl_run (v := Pt b89 0) (w' := w90) z z (x_al (by kernel_rfl) ew91 eb92) ?_
 refine wv (.pointer none) z z z (wv (.int .i64 (0:Int)) z z z (wl_nil (tn (wp_seq (wp_block ?_)))))
 obtain ⟨y105, hm, hx106⟩ := bind_some hm
 refine wp_cut (fun a w => ∃ (z102 : Bool) (σ103 : Nat → Value), (config_New_j0 a0) z102 = some r ∧ a = Fr 86 (upd (upd σ103 1 (Pt b89 0)) 6 (.bool z102)) ∧ St w0 w I [cells b89 [r0_0, I6 a0.Nodes, r0_1, I6 a0.Frame, I6 a0.Depth, I6 a0.Quota, I6 a0.Wide, I6 a0.Beat, I6 a0.Elect]] R) ?_ ?_
 {
 refine wp_seq (wrl (wv (Pt b89 1) z z (x_field z underlying28 z sizeOf3 z) (wv (.int .i64 a0.Nodes) z z (x_load z isAgg3 (hst.bc0 z)) (wv (.bool (decide (a0.Nodes < (1:Int)))) z z z (wv (.bool (decide (a0.Nodes < (1:Int)))) z z z ?_)))))
 refine bsplit (decide (a0.Nodes < (1:Int))) (fun hc94 => ?_) (fun hc94 => ?_)
 {
 replace hm := bif_t hc94 hm
 refine wo hc94 z z z z z z (wo hc94 z z z z z z (wo hc94 z z z z z z (wv (.bool true) z z (x_pick_t hc94 z z) (wv (.bool true) z z z (wl_nil (tn ?_))))))
 refine wp_ift z ?_
 refine wp_skip (tn ?_)
 replace hst := hst.keep1
 obtain rfl := some_inj hm
 exact ⟨true, _, hx106, (fu 1 (Pt b89 0) z (fu 6 (.bool true) z z)), hst⟩
}
 {
 replace hm := bif_f hc94 hm
 refine wv (Pt b89 1) ((wanted_eq z z z (cvb hc94)).trans z) z (x_field z underlying28 z sizeOf3 z) (wv (.int .i64 a0.Nodes) ((wanted_eq z z z (cvb hc94)).trans z) z (x_load z isAgg3 (hst.bc0 z)) (wv (.bool (decide (a0.Nodes > (7:Int)))) ((wanted_eq z z z (cvb hc94)).trans z) z z (wv (.bool (decide (a0.Nodes > (7:Int)))) z z (x_pick_f hc94 z z) (wv (.bool (decide (a0.Nodes > (7:Int)))) z z z (wl_nil (tn ?_))))))
 refine bsplit (decide (a0.Nodes > (7:Int))) (fun hc95 => ?_) (fun hc95 => ?_)
 {
 replace hm := bif_t hc95 hm
 refine wp_ift (cvb hc95) ?_
 refine wp_skip (tn ?_)
 replace hst := hst.keep1
 obtain rfl := some_inj hm
 exact ⟨(decide (a0.Nodes > (7:Int))), _, hx106, (fu 1 (Pt b89 0) z (fu 6 (.bool (decide (a0.Nodes > (7:Int)))) z z)), hst⟩
}
 {
 replace hm := bif_f hc95 hm
 refine wp_iff (cvb hc95) ?_
 refine wp_seq (wrl (wv (Pt b89 2) z z (x_field z underlying28 z sizeOf26 z) (wv (r0_1) z z (x_load z isAgg26 (hst.bc0 z)) (wv (.int .i64 ((a0.Cuts).length : Int)) z z (x_len z underlying26 (ro_sliceV f0_1)) (wv (.bool (decide (((a0.Cuts).length : Int) ≥ (8:Int)))) z z z (wv (.bool (decide (((a0.Cuts).length : Int) ≥ (8:Int)))) z z z (wl_nil (tn ?_))))))))
 refine bsplit (decide (((a0.Cuts).length : Int) ≥ (8:Int))) (fun hc96 => ?_) (fun hc96 => ?_)
 {
 replace hm := bif_t hc96 hm
 refine wp_ift (cvb hc96) ?_
 refine wp_skip (tn ?_)
 replace hst := hst.keep1
 obtain rfl := some_inj hm
 exact ⟨(decide (((a0.Cuts).length : Int) ≥ (8:Int))), _, hx106, (fu 1 (Pt b89 0) z (fu 6 (.bool (decide (((a0.Cuts).length : Int) ≥ (8:Int)))) z z)), hst⟩
}
 {
 replace hm := bif_f hc96 hm
 refine wp_iff (cvb hc96) ?_
 refine wrl (wv (Pt b89 2) z z (x_field z underlying28 z sizeOf26 z) (wv (r0_1) z z (x_load z isAgg26 (hst.bc0 z)) ?_))
 obtain ⟨t97, ht98, hm⟩ := bind_some hm
 refine wc call33 [r0_1] z z z ?_
 refine (number_Rising_ref (f0_1.mono ro_rd) hst.to0 ht98).mono ?_
 rintro _ w99 ⟨rfl, hst⟩
 refine ⟨_, z, ?_⟩
 replace hst := hst.of0
 refine wv (.bool (!t97)) z z z (wv (.bool (!t97)) z z z (wl_nil (tn ?_)))
 replace hst := hst.keep1
 obtain rfl := some_inj hm
 exact ⟨(!t97), _, hx106, (fu 1 (Pt b89 0) z (fu 6 (.bool (!t97)) z z)), hst⟩
}
}
}
}
 {
 clear hst
 rintro _ w107 ⟨z102, σ103, hm, rfl, hst⟩
 dsimp only [config_New_j0] at hm
 refine bsplit z102 (fun hc108 => ?_) (fun hc108 => ?_)
 {
 replace hm := bif_t hc108 hm
 refine wp_ift (cvb hc108) ?_
 refine wp_seq (wrl (wv (.pointer none) z z z (wv (.int .i64 (1:Int)) z z z (wl_nil (tn (wp_ret (blk_r (then_r ?_))))))))
 replace hst := hst.objO_nil at_config_Plan
 obtain rfl := some_inj hm
 refine post_ret (vs := [.pointer none, I6 (1:Int)]) results11 (rvs_cons (rv_tmp z) (rvs_cons (rv_tmp z) rvs_nil)) ?_
 exact ⟨_, .pointer none, z, hI0, hst.keep1⟩
}
 {
 replace hm := bif_f hc108 hm
 refine wp_iff (cvb hc108) ?_
 obtain ⟨y116, hm, hx117⟩ := bind_some hm
 refine wp_cut (fun a w => ∃ (z113 : Bool) (σ114 : Nat → Value), (config_New_j1 a0) z113 = some r ∧ a = Fr 86 (upd (upd σ114 1 (Pt b89 0)) 23 (.bool z113)) ∧ St w0 w I [cells b89 [r0_0, I6 a0.Nodes, r0_1, I6 a0.Frame, I6 a0.Depth, I6 a0.Quota, I6 a0.Wide, I6 a0.Beat, I6 a0.Elect]] R) ?_ ?_
 {
 refine wp_seq (wrl (wv (Pt b89 3) z z (x_field z underlying28 z sizeOf3 z) (wv (.int .i64 a0.Frame) z z (x_load z isAgg3 (hst.bc0 z)) (wv (.bool (decide (a0.Frame < (64:Int)))) z z z (wv (.bool (decide (a0.Frame < (64:Int)))) z z z ?_)))))
 refine bsplit (decide (a0.Frame < (64:Int))) (fun hc110 => ?_) (fun hc110 => ?_)
 {
 replace hm := bif_t hc110 hm
 refine wo hc110 z z z z z z (wo hc110 z z z z z z (wo hc110 z z z z z z (wv (.bool true) z z (x_pick_t hc110 z z) (wv (.bool true) z z z (wl_nil (tn ?_))))))
 refine wp_ift z ?_
 refine wp_skip (tn ?_)
 replace hst := hst.keep1
 obtain rfl := some_inj hm
 exact ⟨true, _, hx117, (fu 1 (Pt b89 0) z (fu 23 (.bool true) z z)), hst⟩
}
 {
 replace hm := bif_f hc110 hm
 refine wv (Pt b89 3) ((wanted_eq z z z (cvb hc110)).trans z) z (x_field z underlying28 z sizeOf3 z) (wv (.int .i64 a0.Frame) ((wanted_eq z z z (cvb hc110)).trans z) z (x_load z isAgg3 (hst.bc0 z)) (wv (.bool (decide (a0.Frame > (4096:Int)))) ((wanted_eq z z z (cvb hc110)).trans z) z z (wv (.bool (decide (a0.Frame > (4096:Int)))) z z (x_pick_f hc110 z z) (wv (.bool (decide (a0.Frame > (4096:Int)))) z z z (wl_nil (tn ?_))))))
 refine bsplit (decide (a0.Frame > (4096:Int))) (fun hc111 => ?_) (fun hc111 => ?_)
 {
 replace hm := bif_t hc111 hm
 refine wp_ift (cvb hc111) ?_
 refine wp_skip (tn ?_)
 replace hst := hst.keep1
 obtain rfl := some_inj hm
 exact ⟨(decide (a0.Frame > (4096:Int))), _, hx117, (fu 1 (Pt b89 0) z (fu 23 (.bool (decide (a0.Frame > (4096:Int)))) z z)), hst⟩
}
 {
 replace hm := bif_f hc111 hm
 refine wp_iff (cvb hc111) ?_
 refine wrl (wv (Pt b89 4) z z (x_field z underlying28 z sizeOf3 z) (wv (.int .i64 a0.Depth) z z (x_load z isAgg3 (hst.bc0 z)) (wv (.bool (decide (a0.Depth < (1:Int)))) z z z (wv (.bool (decide (a0.Depth < (1:Int)))) z z z ?_))))
 refine bsplit (decide (a0.Depth < (1:Int))) (fun hc112 => ?_) (fun hc112 => ?_)
 {
 replace hm := bif_t hc112 hm
 refine wo hc112 z z z z z z (wo hc112 z z z z z z (wo hc112 z z z z z z (wv (.bool true) z z (x_pick_t hc112 z z) (wv (.bool true) z z z (wl_nil (tn ?_))))))
 replace hst := hst.keep1
 obtain rfl := some_inj hm
 exact ⟨true, _, hx117, (fu 1 (Pt b89 0) z (fu 23 (.bool true) z z)), hst⟩
}
 {
 replace hm := bif_f hc112 hm
 refine wv (Pt b89 4) ((wanted_eq z z z (cvb hc112)).trans z) z (x_field z underlying28 z sizeOf3 z) (wv (.int .i64 a0.Depth) ((wanted_eq z z z (cvb hc112)).trans z) z (x_load z isAgg3 (hst.bc0 z)) (wv (.bool (decide (a0.Depth > (65536:Int)))) ((wanted_eq z z z (cvb hc112)).trans z) z z (wv (.bool (decide (a0.Depth > (65536:Int)))) z z (x_pick_f hc112 z z) (wv (.bool (decide (a0.Depth > (65536:Int)))) z z z (wl_nil (tn ?_))))))
 replace hst := hst.keep1
 obtain rfl := some_inj hm
 exact ⟨(decide (a0.Depth > (65536:Int))), _, hx117, (fu 1 (Pt b89 0) z (fu 23 (.bool (decide (a0.Depth > (65536:Int)))) z z)), hst⟩
}
}
}
}
 {
 clear hst
 rintro _ w118 ⟨z113, σ114, hm, rfl, hst⟩
 dsimp only [config_New_j1] at hm
 refine bsplit z113 (fun hc119 => ?_) (fun hc119 => ?_)
 {
 replace hm := bif_t hc119 hm
 refine wp_ift (cvb hc119) ?_
 refine wp_seq (wrl (wv (.pointer none) z z z (wv (.int .i64 (1:Int)) z z z (wl_nil (tn (wp_ret (blk_r (then_r ?_))))))))
 replace hst := hst.objO_nil at_config_Plan
 obtain rfl := some_inj hm
 refine post_ret (vs := [.pointer none, I6 (1:Int)]) results11 (rvs_cons (rv_tmp z) (rvs_cons (rv_tmp z) rvs_nil)) ?_
 exact ⟨_, .pointer none, z, hI0, hst.keep1⟩
}
 {
 replace hm := bif_f hc119 hm
 refine wp_iff (cvb hc119) ?_
 obtain ⟨y127, hm, hx128⟩ := bind_some hm
 refine wp_cut (fun a w => ∃ (z124 : Bool) (σ125 : Nat → Value), (config_New_j2 a0) z124 = some r ∧ a = Fr 86 (upd (upd σ125 1 (Pt b89 0)) 40 (.bool z124)) ∧ St w0 w I [cells b89 [r0_0, I6 a0.Nodes, r0_1, I6 a0.Frame, I6 a0.Depth, I6 a0.Quota, I6 a0.Wide, I6 a0.Beat, I6 a0.Elect]] R) ?_ ?_
 {
 refine wp_seq (wrl (wv (Pt b89 5) z z (x_field z underlying28 z sizeOf3 z) (wv (.int .i64 a0.Quota) z z (x_load z isAgg3 (hst.bc0 z)) (wv (.bool (decide (a0.Quota < (1:Int)))) z z z (wv (.bool (decide (a0.Quota < (1:Int)))) z z z ?_)))))
 refine bsplit (decide (a0.Quota < (1:Int))) (fun hc121 => ?_) (fun hc121 => ?_)
 {
 replace hm := bif_t hc121 hm
 refine wo hc121 z z z z z z (wo hc121 z z z z z z (wo hc121 z z z z z z (wv (.bool true) z z (x_pick_t hc121 z z) (wv (.bool true) z z z (wl_nil (tn ?_))))))
 refine wp_ift z ?_
 refine wp_skip (tn ?_)
 replace hst := hst.keep1
 obtain rfl := some_inj hm
 exact ⟨true, _, hx128, (fu 1 (Pt b89 0) z (fu 40 (.bool true) z z)), hst⟩
}
 {
 replace hm := bif_f hc121 hm
 refine wv (Pt b89 5) ((wanted_eq z z z (cvb hc121)).trans z) z (x_field z underlying28 z sizeOf3 z) (wv (.int .i64 a0.Quota) ((wanted_eq z z z (cvb hc121)).trans z) z (x_load z isAgg3 (hst.bc0 z)) (wv (.bool (decide (a0.Quota > (268435456:Int)))) ((wanted_eq z z z (cvb hc121)).trans z) z z (wv (.bool (decide (a0.Quota > (268435456:Int)))) z z (x_pick_f hc121 z z) (wv (.bool (decide (a0.Quota > (268435456:Int)))) z z z (wl_nil (tn ?_))))))
 refine bsplit (decide (a0.Quota > (268435456:Int))) (fun hc122 => ?_) (fun hc122 => ?_)
 {
 replace hm := bif_t hc122 hm
 refine wp_ift (cvb hc122) ?_
 refine wp_skip (tn ?_)
 replace hst := hst.keep1
 obtain rfl := some_inj hm
 exact ⟨(decide (a0.Quota > (268435456:Int))), _, hx128, (fu 1 (Pt b89 0) z (fu 40 (.bool (decide (a0.Quota > (268435456:Int)))) z z)), hst⟩
}
 {
 replace hm := bif_f hc122 hm
 refine wp_iff (cvb hc122) ?_
 refine wrl (wv (Pt b89 6) z z (x_field z underlying28 z sizeOf3 z) (wv (.int .i64 a0.Wide) z z (x_load z isAgg3 (hst.bc0 z)) (wv (.bool (decide (a0.Wide < (0:Int)))) z z z (wv (.bool (decide (a0.Wide < (0:Int)))) z z z ?_))))
 refine bsplit (decide (a0.Wide < (0:Int))) (fun hc123 => ?_) (fun hc123 => ?_)
 {
 replace hm := bif_t hc123 hm
 refine wo hc123 z z z z z z (wo hc123 z z z z z z (wo hc123 z z z z z z (wv (.bool true) z z (x_pick_t hc123 z z) (wv (.bool true) z z z (wl_nil (tn ?_))))))
 replace hst := hst.keep1
 obtain rfl := some_inj hm
 exact ⟨true, _, hx128, (fu 1 (Pt b89 0) z (fu 40 (.bool true) z z)), hst⟩
}
 {
 replace hm := bif_f hc123 hm
 refine wv (Pt b89 6) ((wanted_eq z z z (cvb hc123)).trans z) z (x_field z underlying28 z sizeOf3 z) (wv (.int .i64 a0.Wide) ((wanted_eq z z z (cvb hc123)).trans z) z (x_load z isAgg3 (hst.bc0 z)) (wv (.bool (decide (a0.Wide > (256:Int)))) ((wanted_eq z z z (cvb hc123)).trans z) z z (wv (.bool (decide (a0.Wide > (256:Int)))) z z (x_pick_f hc123 z z) (wv (.bool (decide (a0.Wide > (256:Int)))) z z z (wl_nil (tn ?_))))))
 replace hst := hst.keep1
 obtain rfl := some_inj hm
 exact ⟨(decide (a0.Wide > (256:Int))), _, hx128, (fu 1 (Pt b89 0) z (fu 40 (.bool (decide (a0.Wide > (256:Int)))) z z)), hst⟩
}
}
}
}
 {
 clear hst
 rintro _ w129 ⟨z124, σ125, hm, rfl, hst⟩
 dsimp only [config_New_j2] at hm
 refine bsplit z124 (fun hc130 => ?_) (fun hc130 => ?_)
 {
 replace hm := bif_t hc130 hm
 refine wp_ift (cvb hc130) ?_
 refine wp_seq (wrl (wv (.pointer none) z z z (wv (.int .i64 (1:Int)) z z z (wl_nil (tn (wp_ret (blk_r (then_r ?_))))))))
 replace hst := hst.objO_nil at_config_Plan
 obtain rfl := some_inj hm
 refine post_ret (vs := [.pointer none, I6 (1:Int)]) results11 (rvs_cons (rv_tmp z) (rvs_cons (rv_tmp z) rvs_nil)) ?_
 exact ⟨_, .pointer none, z, hI0, hst.keep1⟩
}
 {
 replace hm := bif_f hc130 hm
 refine wp_iff (cvb hc130) ?_
 refine wp_seq (wrl (wv (Pt b89 7) z z (x_field z underlying28 z sizeOf3 z) (wv (.int .i64 a0.Beat) z z (x_load z isAgg3 (hst.bc0 z)) (wv (.bool (decide (a0.Beat < (1:Int)))) z z z (wv (.bool (decide (a0.Beat < (1:Int)))) z z z ?_)))))
 refine bsplit (decide (a0.Beat < (1:Int))) (fun hc132 => ?_) (fun hc132 => ?_)
 {
 replace hm := bif_t hc132 hm
 refine wo hc132 z z z z z z (wo hc132 z z z z z z (wo hc132 z z z z z z (wo hc132 z z z z z z (wo hc132 z z z z z z (wv (.bool true) z z (x_pick_t hc132 z z) (wv (.bool true) z z z (wz z z z z z z (wz z z z z z z (wz z z z z z z (wv (.bool true) z z (x_pick_t z z z) (wv (.bool true) z z z (wl_nil (tn ?_)))))))))))))
 refine wp_ift z ?_
 refine wp_seq (wrl (wv (.pointer none) z z z (wv (.int .i64 (1:Int)) z z z (wl_nil (tn (wp_ret (blk_r (then_r ?_))))))))
 replace hst := hst.objO_nil at_config_Plan
 obtain rfl := some_inj hm
 refine post_ret (vs := [.pointer none, I6 (1:Int)]) results11 (rvs_cons (rv_tmp z) (rvs_cons (rv_tmp z) rvs_nil)) ?_
 exact ⟨_, .pointer none, z, hI0, hst.keep1⟩
}
 {
 replace hm := bif_f hc132 hm
 refine wv (Pt b89 8) ((wanted_eq z z z (cvb hc132)).trans z) z (x_field z underlying28 z sizeOf3 z) (wv (.int .i64 a0.Elect) ((wanted_eq z z z (cvb hc132)).trans z) z (x_load z isAgg3 (hst.bc0 z)) (wv (Pt b89 7) ((wanted_eq z z z (cvb hc132)).trans z) z (x_field z underlying28 z sizeOf3 z) (wv (.int .i64 a0.Beat) ((wanted_eq z z z (cvb hc132)).trans z) z (x_load z isAgg3 (hst.bc0 z)) (wv (.bool (decide (a0.Elect ≤ a0.Beat))) ((wanted_eq z z z (cvb hc132)).trans z) z z (wv (.bool (decide (a0.Elect ≤ a0.Beat))) z z (x_pick_f hc132 z z) (wv (.bool (decide (a0.Elect ≤ a0.Beat))) z z z ?_))))))
 refine bsplit (decide (a0.Elect ≤ a0.Beat)) (fun hc134 => ?_) (fun hc134 => ?_)
 {
 replace hm := bif_t hc134 hm
 refine wo hc134 z z z z z z (wo hc134 z z z z z z (wo hc134 z z z z z z (wv (.bool true) z z (x_pick_t hc134 z z) (wv (.bool true) z z z (wl_nil (tn ?_))))))
 refine wp_ift z ?_
 refine wp_seq (wrl (wv (.pointer none) z z z (wv (.int .i64 (1:Int)) z z z (wl_nil (tn (wp_ret (blk_r (then_r ?_))))))))
 replace hst := hst.objO_nil at_config_Plan
 obtain rfl := some_inj hm
 refine post_ret (vs := [.pointer none, I6 (1:Int)]) results11 (rvs_cons (rv_tmp z) (rvs_cons (rv_tmp z) rvs_nil)) ?_
 exact ⟨_, .pointer none, z, hI0, hst.keep1⟩
}
 {
 replace hm := bif_f hc134 hm
 refine wv (Pt b89 8) ((wanted_eq z z z (cvb hc134)).trans z) z (x_field z underlying28 z sizeOf3 z) (wv (.int .i64 a0.Elect) ((wanted_eq z z z (cvb hc134)).trans z) z (x_load z isAgg3 (hst.bc0 z)) (wv (.bool (decide (a0.Elect > (1000:Int)))) ((wanted_eq z z z (cvb hc134)).trans z) z z (wv (.bool (decide (a0.Elect > (1000:Int)))) z z (x_pick_f hc134 z z) (wv (.bool (decide (a0.Elect > (1000:Int)))) z z z (wl_nil (tn ?_))))))
 refine bsplit (decide (a0.Elect > (1000:Int))) (fun hc136 => ?_) (fun hc136 => ?_)
 {
 replace hm := bif_t hc136 hm
 refine wp_ift (cvb hc136) ?_
 refine wp_seq (wrl (wv (.pointer none) z z z (wv (.int .i64 (1:Int)) z z z (wl_nil (tn (wp_ret (blk_r (then_r ?_))))))))
 replace hst := hst.objO_nil at_config_Plan
 obtain rfl := some_inj hm
 refine post_ret (vs := [.pointer none, I6 (1:Int)]) results11 (rvs_cons (rv_tmp z) (rvs_cons (rv_tmp z) rvs_nil)) ?_
 exact ⟨_, .pointer none, z, hI0, hst.keep1⟩
}
 {
 replace hm := bif_f hc136 hm
 refine wp_iff (cvb hc136) ?_
 refine wp_skip (blk_n (tn (wp_seq (wrl ?_))))
 refine wv (Pt b89 0) z z (x_field z underlying28 z sizeOf25 z) (wv (r0_0) z z (x_load z isAgg25 (hst.bc0 z)) ?_)
 obtain ⟨t138, ht139, hm⟩ := bind_some hm
 refine wc call34 [r0_0] z z z ?_
 refine (label_New_ref (f0_0.mono ro_rd) hst.to0 ht139).mono ?_
 rintro _ w140 ⟨I141, v143, rfl, hI142, hst⟩
 refine ⟨_, z, ?_⟩
 replace hst := hst.of1
 replace f0_0 := f0_0.mono (ro_le hI142)
 replace f0_1 := f0_1.mono (ro_le hI142)
 replace hI0 := hI0.trans hI142
 refine wv (.tuple #[v143, I6 t138.2]) z z z (wv (v143) z z z (wv (.int .i64 t138.2) z z z (wv (v143) z z z (wv (.int .i64 t138.2) z z z (wl_nil (tn (wp_seq (wp_seq (wrl (wv (.int .i64 t138.2) z z z (wv (.bool (t138.2 != (0:Int))) z z z (wl_nil (tn ?_)))))))))))))
 refine bsplit (t138.2 != (0:Int)) (fun hc145 => ?_) (fun hc145 => ?_)
 {
 replace hm := bif_t hc145 hm
 refine wp_ift (cvb hc145) ?_
 refine wp_seq (wrl (wv (.int .i64 t138.2) z z z (wv (.pointer none) z z z (wv (.int .i64 t138.2) z z z (wl_nil (tn (wp_ret (then_r ?_))))))))
 replace hst := hst.objO_nil at_config_Plan
 obtain rfl := some_inj hm
 refine post_ret (vs := [.pointer none, I6 t138.2]) results11 (rvs_cons (rv_tmp z) (rvs_cons (rv_tmp z) rvs_nil)) ?_
 exact ⟨_, .pointer none, z, hI0, hst.keep1⟩
}
 {
 replace hm := bif_f hc145 hm
 refine wp_iff (cvb hc145) ?_
 refine wp_skip (tn (wp_seq (wrl ?_)))
 refine wv (.agg #[r0_0, I6 a0.Nodes, r0_1, I6 a0.Frame, I6 a0.Depth, I6 a0.Quota, I6 a0.Wide, I6 a0.Beat, I6 a0.Elect]) z z (x_loadN (cs := [r0_0, I6 a0.Nodes, r0_1, I6 a0.Frame, I6 a0.Depth, I6 a0.Quota, I6 a0.Wide, I6 a0.Beat, I6 a0.Elect]) z isAgg28 sizeOf28 (hst.bcs1 0 z)) (wv (v143) z z z (wv (.agg #[r0_0, I6 a0.Nodes, r0_1, I6 a0.Frame, I6 a0.Depth, I6 a0.Quota, I6 a0.Wide, I6 a0.Beat, I6 a0.Elect, v143]) z z (by obtain ⟨_, ha_, _⟩ := at_label_Lattice_isnil hst; rw [ha_]; obtain ⟨_, _, hv_, _⟩ := (ro_sliceV f0_1); rw [hv_]; obtain ⟨_, _, hv_, _⟩ := (ro_sliceV f0_0); rw [hv_]; kernel_rfl) ?_))
 obtain ⟨b149, w150, ew151, eb152, hst⟩ := hst.box [r0_0, I6 a0.Nodes, r0_1, I6 a0.Frame, I6 a0.Depth, I6 a0.Quota, I6 a0.Wide, I6 a0.Beat, I6 a0.Elect, v143] 64
 refine wl_run (v := Pt b149 0) (w' := w150) z z (x_al (by kernel_rfl) ew151 eb152) ?_
 refine wv (Pt b149 0) z z z (wv (.int .i64 (0:Int)) z z z (wl_nil (tn (wp_ret ?_))))
 replace hst := hst.pull1.pull1
 replace hst := at_config_Plan_close (pv := Pt b149 0) (x := ({ C := a0, L := t138.1 } : config_Plan)) hst ⟨z, f0_0, f0_1⟩
 replace hst := objO_some hst
 obtain rfl := some_inj hm
 refine post_ret (vs := [Pt b149 0, Zi]) results11 (rvs_cons (rv_tmp z) (rvs_cons (rv_tmp z) rvs_nil)) ?_
 exact ⟨_, Pt b149 0, z, hI0, hst.keep1⟩
}
}
}
}
}
}
}
}
}
}
}

theorem label_Lattice_Len_ref {w0 w : World} {I : HL} {R : SP} {a0 : (Option label_Lattice)} {p0 : Value}  (hst : St w0 w I [objO at_label_Lattice p0 a0] R) {r : (Int)} (hm : label_Lattice_Len a0 = some r) :
  Calls prog 40 #[p0] w fun e w' => e = .returned (.int .i64 r) ∧ St w0 w' I [objO at_label_Lattice p0 a0] R := by {
 rcases a0 with _ | o0
 {
 obtain ⟨rfl, hst'⟩ := objO_none hst
 clear hst
 have hst := hst'
 clear hst'
 dsimp only [label_Lattice_Len] at hm
 refine calls_start (args := [.pointer none]) func40 z ntmps40 (Nat.le_of_ble_eq_true z) ?_
 refine wp_seq (wrl (wv (.int .i64 (0:Int)) z z z (wl_nil (tn (wp_seq (wp_seq (wrl (wv (.pointer none) z z z (wv (.bool true) z z (by kernel_rfl) (wl_nil (tn ?_)))))))))))
 refine wp_ift z ?_
 refine wp_seq (wrl (wv (.int .i64 (0:Int)) z z z (wl_nil (tn (wp_ret (then_r ?_))))))
 replace hst := hst.objO_nil at_label_Lattice
 obtain rfl := some_inj hm
 refine post_ret (vs := [Zi]) results40 (rvs_cons (rv_tmp z) rvs_nil) ?_
 exact ⟨z, hst.keep1⟩
}
 {
 replace hst := objO_get hst
 dsimp only [label_Lattice_Len] at hm
 refine calls_start (args := [p0]) func40 z ntmps40 (Nat.le_of_ble_eq_true z) ?_
 refine wp_seq (wrl (wv (.int .i64 (0:Int)) z z z (wl_nil (tn (wp_seq (wp_seq (wrl (wv (p0) z z z ?_))))))))
 obtain ⟨b67, v68, v70, v72, v74, v76, v78, rfl, hst'⟩ := at_label_Lattice_open hst
 clear hst
 have hst := hst'
 clear hst'
 refine wv (.bool false) z z (by kernel_rfl) (wl_nil (tn ?_))
 refine wp_iff z ?_
 refine wp_skip (tn (wp_seq (wrl ?_)))
 refine wv (Pt b67 0) z z z (wv (Pt b67 0) z z z (wv (Pt b67 0) z z (x_field z underlying73 z sizeOf25 z) (wv (v68) z z (x_load z isAgg25 (hst.bc0 z)) (wv (.int .i64 ((o0.up).length : Int)) z z (x_len z underlying25 hst.sv1) (wv (.int .i64 ((o0.up).length : Int)) z z z (wl_nil (tn (wp_ret ?_))))))))
 replace hst := hst.pull6.pull6.pull6.pull6.pull6.pull6.pull6
 replace hst := at_label_Lattice_close (pv := Pt b67 0) (x := o0) hst z
 replace hst := objO_some hst
 obtain rfl := some_inj hm
 refine post_ret (vs := [I6 ((o0.up).length : Int)]) results40 (rvs_cons (rv_tmp z) rvs_nil) ?_
 exact ⟨z, hst.keep1⟩
}
}

theorem config_Plan_L0_ref {w0 w : World} {I : HL} {R : SP} {a0 : (Option config_Plan)} {p0 : Value}  (hst : St w0 w I [objO at_config_Plan p0 a0] R) {r : (Int)} (hm : config_Plan_L0 a0 = some r) :
  Calls prog 20 #[p0] w fun e w' => e = .returned (.int .i64 r) ∧ St w0 w' I [objO at_config_Plan p0 a0] R := by {
 rcases a0 with _ | o0
 {
 obtain ⟨rfl, hst'⟩ := objO_none hst
 clear hst
 have hst := hst'
 clear hst'
 dsimp only [config_Plan_L0] at hm
 refine calls_start (args := [.pointer none]) func20 z ntmps20 (Nat.le_of_ble_eq_true z) ?_
 refine wp_seq (wrl (wv (.int .i64 (0:Int)) z z z (wl_nil (tn (wp_seq (wp_seq (wrl (wv (.pointer none) z z z (wv (.bool true) z z (by kernel_rfl) (wl_nil (tn ?_)))))))))))
 refine wp_ift z ?_
 refine wp_seq (wrl (wv (.int .i64 (0:Int)) z z z (wl_nil (tn (wp_ret (then_r ?_))))))
 replace hst := hst.objO_nil at_config_Plan
 obtain rfl := some_inj hm
 refine post_ret (vs := [Zi]) results20 (rvs_cons (rv_tmp z) rvs_nil) ?_
 exact ⟨z, hst.keep1⟩
}
 {
 replace hst := objO_get hst
 dsimp only [config_Plan_L0] at hm
 refine calls_start (args := [p0]) func20 z ntmps20 (Nat.le_of_ble_eq_true z) ?_
 refine wp_seq (wrl (wv (.int .i64 (0:Int)) z z z (wl_nil (tn (wp_seq (wp_seq (wrl (wv (p0) z z z ?_))))))))
 obtain ⟨b58, v59, v62, v65, ⟨rfl, f61, f64⟩, hst'⟩ := at_config_Plan_open hst
 clear hst
 have hst := hst'
 clear hst'
 refine wv (.bool false) z z (by kernel_rfl) (wl_nil (tn ?_))
 refine wp_iff z ?_
 refine wp_skip (tn (wp_seq (wrl ?_)))
 refine wv (Pt b58 0) z z z (wv (Pt b58 0) z z z (wv (Pt b58 9) z z (x_field z underlying64 z sizeOf60 z) (wv (v65) z z (x_load z isAgg60 (hst.bc0 z)) ?_)))
 replace hst := hst.pull1
 obtain ⟨t67, ht68, hm⟩ := bind_some hm
 refine wc call40 [v65] z z z ?_
 refine (label_Lattice_Len_ref hst.to1 ht68).mono ?_
 rintro _ w69 ⟨rfl, hst⟩
 refine ⟨_, z, ?_⟩
 replace hst := hst.of1
 refine wv (.int .i64 t67) z z z (wl_nil (tn (wp_ret ?_)))
 replace hst := hst.pull1
 replace hst := at_config_Plan_close (pv := Pt b58 0) (x := o0) hst ⟨z, f61, f64⟩
 replace hst := objO_some hst
 obtain rfl := some_inj hm
 refine post_ret (vs := [I6 t67]) results20 (rvs_cons (rv_tmp z) rvs_nil) ?_
 exact ⟨z, hst.keep1⟩
}
}

theorem config_Plan_Shards_ref {w0 w : World} {I : HL} {R : SP} {a0 : (Option config_Plan)} {p0 : Value}  (hst : St w0 w I [objO at_config_Plan p0 a0] R) {r : (Int)} (hm : config_Plan_Shards a0 = some r) :
  Calls prog 17 #[p0] w fun e w' => e = .returned (.int .i64 r) ∧ St w0 w' I [objO at_config_Plan p0 a0] R := by {
 rcases a0 with _ | o0
 {
 obtain ⟨rfl, hst'⟩ := objO_none hst
 clear hst
 have hst := hst'
 clear hst'
 dsimp only [config_Plan_Shards] at hm
 refine calls_start (args := [.pointer none]) func17 z ntmps17 (Nat.le_of_ble_eq_true z) ?_
 refine wp_seq (wrl (wv (.int .i64 (0:Int)) z z z (wl_nil (tn (wp_seq (wp_seq (wrl (wv (.pointer none) z z z (wv (.bool true) z z (by kernel_rfl) (wl_nil (tn ?_)))))))))))
 refine wp_ift z ?_
 refine wp_seq (wrl (wv (.int .i64 (0:Int)) z z z (wl_nil (tn (wp_ret (then_r ?_))))))
 replace hst := hst.objO_nil at_config_Plan
 obtain rfl := some_inj hm
 refine post_ret (vs := [Zi]) results17 (rvs_cons (rv_tmp z) rvs_nil) ?_
 exact ⟨z, hst.keep1⟩
}
 {
 replace hst := objO_get hst
 dsimp only [config_Plan_Shards] at hm
 refine calls_start (args := [p0]) func17 z ntmps17 (Nat.le_of_ble_eq_true z) ?_
 refine wp_seq (wrl (wv (.int .i64 (0:Int)) z z z (wl_nil (tn (wp_seq (wp_seq (wrl (wv (p0) z z z ?_))))))))
 obtain ⟨b58, v59, v62, v65, ⟨rfl, f61, f64⟩, hst'⟩ := at_config_Plan_open hst
 clear hst
 have hst := hst'
 clear hst'
 refine wv (.bool false) z z (by kernel_rfl) (wl_nil (tn ?_))
 refine wp_iff z ?_
 refine wp_skip (tn (wp_seq (wrl ?_)))
 refine wv (Pt b58 0) z z z (wv (Pt b58 0) z z z (wv (Pt b58 0) z z (x_field z underlying64 z sizeOf28 z) (wv (Pt b58 2) z z (x_field z underlying28 z sizeOf26 z) (wv (v62) z z (x_load z isAgg26 (hst.bc0 z)) (wv (.int .i64 ((o0.C.Cuts).length : Int)) z z (x_len z underlying26 (ro_sliceV f64)) (wv (.int .i64 (i64.wrap (((o0.C.Cuts).length : Int) + (1:Int)))) z z z (wv (.int .i64 (i64.wrap (((o0.C.Cuts).length : Int) + (1:Int)))) z z z (wl_nil (tn (wp_ret ?_))))))))))
 replace hst := hst.pull1.pull1
 replace hst := at_config_Plan_close (pv := Pt b58 0) (x := o0) hst ⟨z, f61, f64⟩
 replace hst := objO_some hst
 obtain rfl := some_inj hm
 refine post_ret (vs := [I6 (i64.wrap (((o0.C.Cuts).length : Int) + (1:Int)))]) results17 (rvs_cons (rv_tmp z) rvs_nil) ?_
 exact ⟨z, hst.keep1⟩
}
}

theorem config_Plan_Lanes_ref {w0 w : World} {I : HL} {R : SP} {a0 : (Option config_Plan)} {p0 : Value}  (hst : St w0 w I [objO at_config_Plan p0 a0] R) {r : (Int)} (hm : config_Plan_Lanes a0 = some r) :
  Calls prog 18 #[p0] w fun e w' => e = .returned (.int .i64 r) ∧ St w0 w' I [objO at_config_Plan p0 a0] R := by {
 unfold config_Plan_Lanes at hm
 refine calls_start (args := [p0]) func18 z ntmps18 (Nat.le_of_ble_eq_true z) ?_
 refine wp_seq (wrl (wv (.int .i64 (0:Int)) z z z (wl_nil (tn (wp_seq (wrl (wv (p0) z z z ?_)))))))
 obtain ⟨t53, ht54, hm⟩ := bind_some hm
 refine wc call20 [p0] z z z ?_
 refine (config_Plan_L0_ref hst.to1 ht54).mono ?_
 rintro _ w55 ⟨rfl, hst⟩
 refine ⟨_, z, ?_⟩
 replace hst := hst.of1
 refine wv (p0) z z z ?_
 obtain ⟨t58, ht59, hm⟩ := bind_some hm
 refine wc call17 [p0] z z z ?_
 refine (config_Plan_Shards_ref hst.to1 ht59).mono ?_
 rintro _ w60 ⟨rfl, hst⟩
 refine ⟨_, z, ?_⟩
 replace hst := hst.of1
 refine wv (.int .i64 (i64.wrap (t53 * t58))) z z z (wv (.int .i64 (i64.wrap ((i64.wrap (t53 * t58)) + (1:Int)))) z z z (wv (.int .i64 (i64.wrap ((i64.wrap (t53 * t58)) + (1:Int)))) z z z (wl_nil (tn (wp_ret ?_)))))
 obtain rfl := some_inj hm
 refine post_ret (vs := [I6 (i64.wrap ((i64.wrap (t53 * t58)) + (1:Int)))]) results18 (rvs_cons (rv_tmp z) rvs_nil) ?_
 exact ⟨z, hst.keep1⟩
}

theorem config_Plan_Lane_ref {w0 w : World} {I : HL} {R : SP} {a0 : (Option config_Plan)} {p0 : Value} {a1 : Int} {a2 : Int}  (hst : St w0 w I [objO at_config_Plan p0 a0] R) {r : (Int)} (hm : config_Plan_Lane a0 a1 a2 = some r) :
  Calls prog 24 #[p0, I6 a1, I6 a2] w fun e w' => e = .returned (.int .i64 r) ∧ St w0 w' I [objO at_config_Plan p0 a0] R := by {
 unfold config_Plan_Lane at hm
 refine calls_start (args := [p0, I6 a1, I6 a2]) func24 z ntmps24 (Nat.le_of_ble_eq_true z) ?_
 refine wp_seq (wrl (wv (.int .i64 (0:Int)) z z z (wl_nil (tn (wp_seq (wp_seq (wrl (wv (.int .i64 a1) z z z (wv (.bool (decide (a1 < (0:Int)))) z z z (wv (.bool (decide (a1 < (0:Int)))) z z z ?_))))))))))
 refine bsplit (decide (a1 < (0:Int))) (fun hc68 => ?_) (fun hc68 => ?_)
 {
 replace hm := bif_t hc68 hm
 refine wo hc68 z z z z z z (wo hc68 z z z z z z (wo hc68 z z z z z z (wo hc68 z z z z z z (wv (.bool true) z z (x_pick_t hc68 z z) (wv (.bool true) z z z (wz z z z z z z (wz z z z z z z (wv (.bool true) z z (x_pick_t z z z) (wv (.bool true) z z z (wz z z z z z z (wz z z z z z z (wz z z z z z z ?_))))))))))))
 refine wz z z z z z z (wv (.bool true) z z (x_pick_t z z z) (wl_nil (tn ?_)))
 refine wp_ift z ?_
 refine wp_seq (wrl (wv (.int .i64 ((-1):Int)) z z z (wl_nil (tn (wp_ret (then_r ?_))))))
 obtain rfl := some_inj hm
 refine post_ret (vs := [I6 ((-1):Int)]) results24 (rvs_cons (rv_tmp z) rvs_nil) ?_
 exact ⟨z, hst.keep1⟩
}
 {
 replace hm := bif_f hc68 hm
 refine wv (.int .i64 a1) ((wanted_eq z z z (cvb hc68)).trans z) z z (wv (p0) ((wanted_eq z z z (cvb hc68)).trans z) z z ?_)
 obtain ⟨t69, ht70, hm⟩ := bind_some hm
 refine wl_call ((wanted_eq z z z (cvb hc68)).trans z) z (x_call call20 z (vs := [p0]) z) ?_
 refine (config_Plan_L0_ref hst.to1 ht70).mono ?_
 rintro _ w71 ⟨rfl, hst⟩
 refine ⟨_, z, ?_⟩
 replace hst := hst.of1
 refine wv (.bool (decide (a1 ≥ t69))) ((wanted_eq z z z (cvb hc68)).trans z) z z (wv (.bool (decide (a1 ≥ t69))) z z (x_pick_f hc68 z z) (wv (.bool (decide (a1 ≥ t69))) z z z ?_))
 refine bsplit (decide (a1 ≥ t69)) (fun hc74 => ?_) (fun hc74 => ?_)
 {
 replace hm := bif_t hc74 hm
 refine wo hc74 z z z z z z (wo hc74 z z z z z z (wv (.bool true) z z (x_pick_t hc74 z z) (wv (.bool true) z z z (wz z z z z z z (wz z z z z z z (wz z z z z z z (wz z z z z z z (wv (.bool true) z z (x_pick_t z z z) (wl_nil (tn ?_))))))))))
 refine wp_ift z ?_
 refine wp_seq (wrl (wv (.int .i64 ((-1):Int)) z z z (wl_nil (tn (wp_ret (then_r ?_))))))
 obtain rfl := some_inj hm
 refine post_ret (vs := [I6 ((-1):Int)]) results24 (rvs_cons (rv_tmp z) rvs_nil) ?_
 exact ⟨z, hst.keep1⟩
}
 {
 replace hm := bif_f hc74 hm
 refine wv (.int .i64 a2) ((wanted_eq z z z (cvb hc74)).trans z) z z (wv (.bool (decide (a2 < (0:Int)))) ((wanted_eq z z z (cvb hc74)).trans z) z z (wv (.bool (decide (a2 < (0:Int)))) z z (x_pick_f hc74 z z) (wv (.bool (decide (a2 < (0:Int)))) z z z ?_)))
 refine bsplit (decide (a2 < (0:Int))) (fun hc75 => ?_) (fun hc75 => ?_)
 {
 replace hm := bif_t hc75 hm
 refine wo hc75 z z z z z z (wo hc75 z z z z z z (wo hc75 z z z z z z (wo hc75 z z z z z z (wv (.bool true) z z (x_pick_t hc75 z z) (wl_nil (tn ?_))))))
 refine wp_ift z ?_
 refine wp_seq (wrl (wv (.int .i64 ((-1):Int)) z z z (wl_nil (tn (wp_ret (then_r ?_))))))
 obtain rfl := some_inj hm
 refine post_ret (vs := [I6 ((-1):Int)]) results24 (rvs_cons (rv_tmp z) rvs_nil) ?_
 exact ⟨z, hst.keep1⟩
}
 {
 replace hm := bif_f hc75 hm
 refine wv (.int .i64 a2) ((wanted_eq z z z (cvb hc75)).trans z) z z (wv (p0) ((wanted_eq z z z (cvb hc75)).trans z) z z ?_)
 obtain ⟨t76, ht77, hm⟩ := bind_some hm
 refine wl_call ((wanted_eq z z z (cvb hc75)).trans z) z (x_call call17 z (vs := [p0]) z) ?_
 refine (config_Plan_Shards_ref hst.to1 ht77).mono ?_
 rintro _ w78 ⟨rfl, hst⟩
 refine ⟨_, z, ?_⟩
 replace hst := hst.of1
 refine wv (.bool (decide (a2 ≥ t76))) ((wanted_eq z z z (cvb hc75)).trans z) z z (wv (.bool (decide (a2 ≥ t76))) z z (x_pick_f hc75 z z) (wl_nil (tn ?_)))
 refine bsplit (decide (a2 ≥ t76)) (fun hc81 => ?_) (fun hc81 => ?_)
 {
 replace hm := bif_t hc81 hm
 refine wp_ift (cvb hc81) ?_
 refine wp_seq (wrl (wv (.int .i64 ((-1):Int)) z z z (wl_nil (tn (wp_ret (then_r ?_))))))
 obtain rfl := some_inj hm
 refine post_ret (vs := [I6 ((-1):Int)]) results24 (rvs_cons (rv_tmp z) rvs_nil) ?_
 exact ⟨z, hst.keep1⟩
}
 {
 replace hm := bif_f hc81 hm
 refine wp_iff (cvb hc81) ?_
 refine wp_skip (tn (wp_seq (wrl ?_)))
 refine wv (.int .i64 a1) z z z (wv (p0) z z z ?_)
 obtain ⟨t82, ht83, hm⟩ := bind_some hm
 refine wc call17 [p0] z z z ?_
 refine (config_Plan_Shards_ref hst.to1 ht83).mono ?_
 rintro _ w84 ⟨rfl, hst⟩
 refine ⟨_, z, ?_⟩
 replace hst := hst.of1
 refine wv (.int .i64 (i64.wrap (a1 * t82))) z z z (wv (.int .i64 a2) z z z (wv (.int .i64 (i64.wrap ((i64.wrap (a1 * t82)) + a2))) z z z (wv (.int .i64 (i64.wrap ((i64.wrap (a1 * t82)) + a2))) z z z (wl_nil (tn (wp_ret ?_))))))
 obtain rfl := some_inj hm
 refine post_ret (vs := [I6 (i64.wrap ((i64.wrap (a1 * t82)) + a2))]) results24 (rvs_cons (rv_tmp z) rvs_nil) ?_
 exact ⟨z, hst.keep1⟩
}
}
}
}
}

theorem config_Plan_Rules_ref {w0 w : World} {I : HL} {R : SP} {a0 : (Option config_Plan)} {p0 : Value}  (hst : St w0 w I [objO at_config_Plan p0 a0] R) {r : (Int)} (hm : config_Plan_Rules a0 = some r) :
  Calls prog 19 #[p0] w fun e w' => e = .returned (.int .i64 r) ∧ St w0 w' I [objO at_config_Plan p0 a0] R := by {
 unfold config_Plan_Rules at hm
 refine calls_start (args := [p0]) func19 z ntmps19 (Nat.le_of_ble_eq_true z) ?_
 refine wp_seq (wrl (wv (.int .i64 (0:Int)) z z z (wl_nil (tn (wp_seq (wrl (wv (p0) z z z ?_)))))))
 obtain ⟨t60, ht61, hm⟩ := bind_some hm
 refine wc call18 [p0] z z z ?_
 refine (config_Plan_Lanes_ref hst.to1 ht61).mono ?_
 rintro _ w62 ⟨rfl, hst⟩
 refine ⟨_, z, ?_⟩
 replace hst := hst.of1
 refine wv (.int .i64 (i64.wrap (t60 - (1:Int)))) z z z (wv (.int .i64 (i64.wrap (t60 - (1:Int)))) z z z (wl_nil (tn (wp_ret ?_))))
 obtain rfl := some_inj hm
 refine post_ret (vs := [I6 (i64.wrap (t60 - (1:Int)))]) results19 (rvs_cons (rv_tmp z) rvs_nil) ?_
 exact ⟨z, hst.keep1⟩
}

theorem label_Lattice_Bottom_ref {w0 w : World} {I : HL} {R : SP} {a0 : (Option label_Lattice)} {p0 : Value}  (hst : St w0 w I [objO at_label_Lattice p0 a0] R) {r : (Int)} (hm : label_Lattice_Bottom a0 = some r) :
  Calls prog 41 #[p0] w fun e w' => e = .returned (.int .i64 r) ∧ St w0 w' I [objO at_label_Lattice p0 a0] R := by {
 rcases a0 with _ | o0
 {
 obtain ⟨rfl, hst'⟩ := objO_none hst
 clear hst
 have hst := hst'
 clear hst'
 dsimp only [label_Lattice_Bottom] at hm
 refine calls_start (args := [.pointer none]) func41 z ntmps41 (Nat.le_of_ble_eq_true z) ?_
 refine wp_seq (wrl (wv (.int .i64 (0:Int)) z z z (wl_nil (tn (wp_seq (wp_seq (wrl (wv (.pointer none) z z z (wv (.bool true) z z (by kernel_rfl) (wl_nil (tn ?_)))))))))))
 refine wp_ift z ?_
 refine wp_seq (wrl (wv (.int .i64 ((-1):Int)) z z z (wl_nil (tn (wp_ret (then_r ?_))))))
 replace hst := hst.objO_nil at_label_Lattice
 obtain rfl := some_inj hm
 refine post_ret (vs := [I6 ((-1):Int)]) results41 (rvs_cons (rv_tmp z) rvs_nil) ?_
 exact ⟨z, hst.keep1⟩
}
 {
 replace hst := objO_get hst
 dsimp only [label_Lattice_Bottom] at hm
 refine calls_start (args := [p0]) func41 z ntmps41 (Nat.le_of_ble_eq_true z) ?_
 refine wp_seq (wrl (wv (.int .i64 (0:Int)) z z z (wl_nil (tn (wp_seq (wp_seq (wrl (wv (p0) z z z ?_))))))))
 obtain ⟨b112, v113, v115, v117, v119, v121, v123, rfl, hst'⟩ := at_label_Lattice_open hst
 clear hst
 have hst := hst'
 clear hst'
 refine wv (.bool false) z z (by kernel_rfl) (wl_nil (tn ?_))
 refine wp_iff z ?_
 refine wp_skip (tn (wp_seq (wrl ?_)))
 refine wv (Pt b112 0) z z z (wv (Pt b112 0) z z z (wv (Pt b112 5) z z (x_field z underlying73 z sizeOf46 z) (wv (v123) z z (x_load z isAgg46 (hst.bc0 z)) ?_)))
 obtain ⟨x125, hx126, hm⟩ := bind_some hm
 obtain ⟨h127, h128, hi129⟩ := geto_some hx126
 refine wv (.pointer (some (eAddr v123 ((0:Int).toNat * 1 + 0)))) z z (x_index z z underlying46 sizeOf3 hst.sv6 h127 h128) (wv (.int .i64 x125) z z (x_load z isAgg3 (hst.ol6 hi129 (by rintro _ rfl; rfl))) (wv (.int .i64 x125) z z z (wl_nil (tn (wp_ret ?_)))))
 replace hst := hst.pull6.pull6.pull6.pull6.pull6.pull6.pull6
 replace hst := at_label_Lattice_close (pv := Pt b112 0) (x := o0) hst z
 replace hst := objO_some hst
 obtain rfl := some_inj hm
 refine post_ret (vs := [I6 x125]) results41 (rvs_cons (rv_tmp z) rvs_nil) ?_
 exact ⟨z, hst.keep1⟩
}
}

theorem config_Plan_Label_ref {w0 w : World} {I : HL} {R : SP} {a0 : (Option config_Plan)} {p0 : Value} {a1 : Int}  (hst : St w0 w I [objO at_config_Plan p0 a0] R) {r : (Int)} (hm : config_Plan_Label a0 a1 = some r) :
  Calls prog 22 #[p0, I6 a1] w fun e w' => e = .returned (.int .i64 r) ∧ St w0 w' I [objO at_config_Plan p0 a0] R := by {
 rcases a0 with _ | o0
 {
 obtain ⟨rfl, hst'⟩ := objO_none hst
 clear hst
 have hst := hst'
 clear hst'
 dsimp only [config_Plan_Label] at hm
 refine calls_start (args := [.pointer none, I6 a1]) func22 z ntmps22 (Nat.le_of_ble_eq_true z) ?_
 refine wp_seq (wrl (wv (.int .i64 (0:Int)) z z z (wl_nil (tn (wp_seq (wp_block (wp_seq (wrl (wv (.pointer none) z z z (wv (.bool true) z z (by kernel_rfl) (wv (.bool true) z z z (wz z z z z z z (wz z z z z z z (wv (.bool true) z z (x_pick_t z z z) (wv (.bool true) z z z (wz z z z z z z (wz z z z z z z (wz z z z z z z ?_))))))))))))))))))
 refine wz z z z z z z (wv (.bool true) z z (x_pick_t z z z) (wv (.bool true) z z z (wl_nil (tn ?_))))
 refine wp_ift z ?_
 refine wp_seq (wrl (wv (.int .i64 ((-1):Int)) z z z (wl_nil (tn (wp_ret (blk_r (then_r ?_)))))))
 replace hst := hst.objO_nil at_config_Plan
 obtain rfl := some_inj hm
 refine post_ret (vs := [I6 ((-1):Int)]) results22 (rvs_cons (rv_tmp z) rvs_nil) ?_
 exact ⟨z, hst.keep1⟩
}
 {
 replace hst := objO_get hst
 dsimp only [config_Plan_Label] at hm
 refine calls_start (args := [p0, I6 a1]) func22 z ntmps22 (Nat.le_of_ble_eq_true z) ?_
 refine wp_seq (wrl (wv (.int .i64 (0:Int)) z z z (wl_nil (tn (wp_seq (wp_block (wp_seq (wrl (wv (p0) z z z ?_)))))))))
 obtain ⟨b104, v105, v108, v111, ⟨rfl, f107, f110⟩, hst'⟩ := at_config_Plan_open hst
 clear hst
 have hst := hst'
 clear hst'
 refine wv (.bool false) z z (by kernel_rfl) (wv (.bool false) z z z (wv (.int .i64 a1) ((wanted_eq z z z z).trans z) z z (wv (.bool (decide (a1 < (0:Int)))) ((wanted_eq z z z z).trans z) z z (wv (.bool (decide (a1 < (0:Int)))) z z (x_pick_f z z z) (wv (.bool (decide (a1 < (0:Int)))) z z z ?_)))))
 refine bsplit (decide (a1 < (0:Int))) (fun hc113 => ?_) (fun hc113 => ?_)
 {
 replace hm := bif_t hc113 hm
 refine wo hc113 z z z z z z (wo hc113 z z z z z z (wo hc113 z z z z z z (wo hc113 z z z z z z (wv (.bool true) z z (x_pick_t hc113 z z) (wv (.bool true) z z z (wl_nil (tn ?_)))))))
 refine wp_ift z ?_
 refine wp_seq (wrl (wv (.int .i64 ((-1):Int)) z z z (wl_nil (tn (wp_ret (blk_r (then_r ?_)))))))
 replace hst := hst.pull1.pull1
 replace hst := at_config_Plan_close (pv := Pt b104 0) (x := o0) hst ⟨z, f107, f110⟩
 replace hst := objO_some hst
 obtain rfl := some_inj hm
 refine post_ret (vs := [I6 ((-1):Int)]) results22 (rvs_cons (rv_tmp z) rvs_nil) ?_
 exact ⟨z, hst.keep1⟩
}
 {
 replace hm := bif_f hc113 hm
 refine wv (.int .i64 a1) ((wanted_eq z z z (cvb hc113)).trans z) z z (wv (Pt b104 0) ((wanted_eq z z z (cvb hc113)).trans z) z z ?_)
 replace hst := hst.pull1.pull1
 replace hst := at_config_Plan_close (pv := Pt b104 0) (x := o0) hst ⟨z, f107, f110⟩
 replace hst := objO_some hst
 obtain ⟨t114, ht115, hm⟩ := bind_some hm
 refine wl_call ((wanted_eq z z z (cvb hc113)).trans z) z (x_call call18 z (vs := [Pt b104 0]) z) ?_
 refine (config_Plan_Lanes_ref hst.to1 ht115).mono ?_
 rintro _ w116 ⟨rfl, hst⟩
 refine ⟨_, z, ?_⟩
 replace hst := hst.of1
 replace hst := objO_get hst
 refine wv (.bool (decide (a1 ≥ t114))) ((wanted_eq z z z (cvb hc113)).trans z) z z (wv (.bool (decide (a1 ≥ t114))) z z (x_pick_f hc113 z z) (wv (.bool (decide (a1 ≥ t114))) z z z (wl_nil (tn ?_))))
 refine bsplit (decide (a1 ≥ t114)) (fun hc119 => ?_) (fun hc119 => ?_)
 {
 replace hm := bif_t hc119 hm
 refine wp_ift (cvb hc119) ?_
 refine wp_seq (wrl (wv (.int .i64 ((-1):Int)) z z z (wl_nil (tn (wp_ret (blk_r (then_r ?_)))))))
 replace hst := objO_some hst
 obtain rfl := some_inj hm
 refine post_ret (vs := [I6 ((-1):Int)]) results22 (rvs_cons (rv_tmp z) rvs_nil) ?_
 exact ⟨z, hst.keep1⟩
}
 {
 replace hm := bif_f hc119 hm
 refine wp_iff (cvb hc119) ?_
 refine wp_seq (wrl (wv (.int .i64 a1) z z z (wv (Pt b104 0) z z z ?_)))
 replace hst := objO_some hst
 obtain ⟨t120, ht121, hm⟩ := bind_some hm
 refine wc call19 [Pt b104 0] z z z ?_
 refine (config_Plan_Rules_ref hst.to1 ht121).mono ?_
 rintro _ w122 ⟨rfl, hst⟩
 refine ⟨_, z, ?_⟩
 replace hst := hst.of1
 replace hst := objO_get hst
 refine wv (.bool (a1 == t120)) z z z (wv (.bool (a1 == t120)) z z z (wl_nil (tn ?_)))
 refine bsplit (a1 == t120) (fun hc125 => ?_) (fun hc125 => ?_)
 {
 replace hm := bif_t hc125 hm
 refine wp_ift (cvb hc125) ?_
 refine wp_seq (wrl (wv (Pt b104 0) z z z ?_))
 obtain ⟨b126, v127, v130, v133, ⟨e135, f129, f132⟩, hst'⟩ := at_config_Plan_open hst
 clear hst
 have e135 := ptr_inj e135
 subst e135
 have hst := hst'
 clear hst'
 refine wv (Pt b104 0) z z z (wv (Pt b104 9) z z (x_field z underlying64 z sizeOf60 z) (wv (v133) z z (x_load z isAgg60 (hst.bc0 z)) ?_))
 replace hst := hst.pull1
 obtain ⟨t136, ht137, hm⟩ := bind_some hm
 refine wc call41 [v133] z z z ?_
 refine (label_Lattice_Bottom_ref hst.to1 ht137).mono ?_
 rintro _ w138 ⟨rfl, hst⟩
 refine ⟨_, z, ?_⟩
 replace hst := hst.of1
 refine wv (.int .i64 t136) z z z (wl_nil (tn (wp_ret (blk_r (then_r ?_)))))
 replace hst := hst.pull1
 replace hst := at_config_Plan_close (pv := Pt b104 0) (x := o0) hst ⟨z, f129, f132⟩
 replace hst := objO_some hst
 obtain rfl := some_inj hm
 refine post_ret (vs := [I6 t136]) results22 (rvs_cons (rv_tmp z) rvs_nil) ?_
 exact ⟨z, hst.keep1⟩
}
 {
 replace hm := bif_f hc125 hm
 refine wp_iff (cvb hc125) ?_
 refine wp_skip (blk_n (tn (wp_seq (wrl ?_))))
 refine wv (.int .i64 a1) z z z (wv (Pt b104 0) z z z ?_)
 replace hst := objO_some hst
 obtain ⟨t141, ht142, hm⟩ := bind_some hm
 refine wc call17 [Pt b104 0] z z z ?_
 refine (config_Plan_Shards_ref hst.to1 ht142).mono ?_
 rintro _ w143 ⟨rfl, hst⟩
 refine ⟨_, z, ?_⟩
 replace hst := hst.of1
 replace hst := objO_get hst
 obtain ⟨hg146, hm⟩ := gd_some hm
 refine wv (.int .i64 (i64.wrap (Int.tdiv a1 t141))) z z (x_quo (not_t hg146) z z) (wv (.int .i64 (i64.wrap (Int.tdiv a1 t141))) z z z (wl_nil (tn (wp_ret ?_))))
 replace hst := objO_some hst
 obtain rfl := some_inj hm
 refine post_ret (vs := [I6 (i64.wrap (Int.tdiv a1 t141))]) results22 (rvs_cons (rv_tmp z) rvs_nil) ?_
 exact ⟨z, hst.keep1⟩
}
}
}
}
}

theorem law04_awake_ref {w0 w : World} {I : HL} {R : SP}   (hst : St w0 w I [] R) {r : (Bool)} (hm : law04_awake = some r) :
  Calls prog 9 #[] w fun e w' => ∃ (I' : HL), e = .returned (.bool r) ∧ I.le I' ∧ St w0 w' I' [] R := by {
 unfold law04_awake at hm
 refine calls_start (args := []) func9 z ntmps9 (Nat.le_of_ble_eq_true z) ?_
 have hI0 := HL.le.refl I
 refine wp_seq (wrl (wv (.bool false) z z z (wl_nil (tn (wp_seq (wrl ?_))))))
 obtain ⟨t64, ht65, hm⟩ := bind_some hm
 refine wc call13 [Zb] z z z ?_
 refine (ref04_Small_ref hst.to0 ht65).mono ?_
 rintro _ w66 ⟨v69, v71, rfl, hst⟩
 refine ⟨_, z, ?_⟩
 replace hst := hst.of2
 obtain ⟨b75, w76, ew77, eb78, hst⟩ := hst.box [Zs, Zi, Zs, Zi, Zi, Zi, Zi, Zi, Zi] 28
 refine wl_run (v := Pt b75 0) (w' := w76) z z (x_al (by kernel_rfl) ew77 eb78) ?_
 obtain ⟨w80, hr81, hst⟩ := hst.bx [v69, I6 t64.Nodes, v71, I6 t64.Frame, I6 t64.Depth, I6 t64.Quota, I6 t64.Wide, I6 t64.Beat, I6 t64.Elect] sizeOf28 z (oC (one_of_sliceV hst.sv1) (oC z (oC (one_of_sliceV hst.sv2) (oC z (oC z (oC z (oC z (oC z (oC z oN))))))))) (by kernel_rfl)
 refine wl_unit z z (x_unit hr81) ?_
 refine wl_nil (tn (wp_seq (wrl ?_)))
 obtain ⟨b82, w83, ew84, eb85, hst⟩ := hst.lits (E := tyF64) (xs := [(0:Nat)]) [[Zf]] 36 1 z (Reps.cons z Reps.nil)
 refine wl_run (v := (.slice (some ⟨b82, 0, none⟩) 1 1)) (w' := w83) z z (x_als (by kernel_rfl) ew84 eb85) ?_
 refine wv (Pt b75 2) z z (x_field z underlying28 z sizeOf26 z) ?_
 replace hst := hst.pull1
 obtain ⟨w87, hr88, hst⟩ := hst.by_ [v69, I6 t64.Nodes, (.slice (some ⟨b82, 0, none⟩) 1 1), I6 t64.Frame, I6 t64.Depth, I6 t64.Quota, I6 t64.Wide, I6 t64.Beat, I6 t64.Elect] 2 ((.slice (some ⟨b82, 0, none⟩) 1 1)) sizeOf26 z (oC (one_of_sliceV hst.sv1) oN) (by kernel_rfl)
 refine wl_unit z z (x_unit hr88) ?_
 refine wl_nil (tn (wp_seq (wrl (wv (.agg #[v69, I6 t64.Nodes, (.slice (some ⟨b82, 0, none⟩) 1 1), I6 t64.Frame, I6 t64.Depth, I6 t64.Quota, I6 t64.Wide, I6 t64.Beat, I6 t64.Elect]) z z (x_loadN (cs := [v69, I6 t64.Nodes, (.slice (some ⟨b82, 0, none⟩) 1 1), I6 t64.Frame, I6 t64.Depth, I6 t64.Quota, I6 t64.Wide, I6 t64.Beat, I6 t64.Elect]) z isAgg28 sizeOf28 (hst.bcs0 0 z)) ?_))))
 replace hst := hst.pull2
 obtain ⟨I89, hI90, f91, hst⟩ := hst.own_fix
 replace hI0 := hI0.trans hI90
 replace hst := hst.pull1
 obtain ⟨I92, hI93, f94, hst⟩ := hst.own_fix
 replace f91 := f91.mono (ro_le hI93)
 replace hI0 := hI0.trans hI93
 obtain ⟨t95, ht96, hm⟩ := bind_some hm
 refine wc call11 [.agg #[v69, I6 t64.Nodes, (.slice (some ⟨b82, 0, none⟩) 1 1), I6 t64.Frame, I6 t64.Depth, I6 t64.Quota, I6 t64.Wide, I6 t64.Beat, I6 t64.Elect]] z z z ?_
 refine (config_New_ref (a0 := ({ Up := t64.Up, Nodes := t64.Nodes, Cuts := [(0:Nat)], Frame := t64.Frame, Depth := t64.Depth, Quota := t64.Quota, Wide := t64.Wide, Beat := t64.Beat, Elect := t64.Elect } : api_Config)) f91 f94 hst.to0 ht96).mono ?_
 rintro _ w97 ⟨I98, v100, rfl, hI99, hst⟩
 refine ⟨_, z, ?_⟩
 replace hst := hst.of1
 replace f91 := f91.mono (ro_le hI99)
 replace f94 := f94.mono (ro_le hI99)
 replace hI0 := hI0.trans hI99
 refine wv (.tuple #[v100, I6 t95.2]) z z z (wv (v100) z z z (wv (.int .i64 t95.2) z z z (wv (v100) z z z (wv (.int .i64 t95.2) z z z (wl_nil (tn (wp_seq (wrl (wv (.int .i64 t95.2) z z z (wv (.bool (t95.2 == (0:Int))) z z z (wv (.bool (t95.2 == (0:Int))) z z z ?_)))))))))))
 refine bsplit (t95.2 == (0:Int)) (fun hc102 => ?_) (fun hc102 => ?_)
 {
 replace hm := bif_t hc102 hm
 refine wv (v100) ((wanted_eq z z z (cvb hc102)).trans z) z z ?_
 obtain ⟨t103, ht104, hm⟩ := bind_some hm
 refine wl_call ((wanted_eq z z z (cvb hc102)).trans z) z (x_call call18 z (vs := [v100]) z) ?_
 refine (config_Plan_Lanes_ref hst.to1 ht104).mono ?_
 rintro _ w105 ⟨rfl, hst⟩
 refine ⟨_, z, ?_⟩
 replace hst := hst.of1
 refine wv (.bool (t103 == (5:Int))) ((wanted_eq z z z (cvb hc102)).trans z) z z (wv (.bool (t103 == (5:Int))) z z (x_pick_t hc102 z z) (wv (.bool (t103 == (5:Int))) z z z ?_))
 refine bsplit (t103 == (5:Int)) (fun hc108 => ?_) (fun hc108 => ?_)
 {
 replace hm := bif_t hc108 hm
 refine wv (v100) ((wanted_eq z z z (cvb hc108)).trans z) z z ?_
 obtain ⟨t109, ht110, hm⟩ := bind_some hm
 refine wl_call ((wanted_eq z z z (cvb hc108)).trans z) z (x_call call24 z (vs := [v100, I6 (1:Int), I6 (1:Int)]) z) ?_
 refine (config_Plan_Lane_ref hst.to1 ht110).mono ?_
 rintro _ w111 ⟨rfl, hst⟩
 refine ⟨_, z, ?_⟩
 replace hst := hst.of1
 refine wv (.bool (t109 == (3:Int))) ((wanted_eq z z z (cvb hc108)).trans z) z z (wv (.bool (t109 == (3:Int))) z z (x_pick_t hc108 z z) (wv (.bool (t109 == (3:Int))) z z z ?_))
 refine bsplit (t109 == (3:Int)) (fun hc114 => ?_) (fun hc114 => ?_)
 {
 replace hm := bif_t hc114 hm
 refine wv (v100) ((wanted_eq z z z (cvb hc114)).trans z) z z ?_
 obtain ⟨t115, ht116, hm⟩ := bind_some hm
 refine wl_call ((wanted_eq z z z (cvb hc114)).trans z) z (x_call call19 z (vs := [v100]) z) ?_
 refine (config_Plan_Rules_ref hst.to1 ht116).mono ?_
 rintro _ w117 ⟨rfl, hst⟩
 refine ⟨_, z, ?_⟩
 replace hst := hst.of1
 refine wv (.bool (t115 == (4:Int))) ((wanted_eq z z z (cvb hc114)).trans z) z z (wv (.bool (t115 == (4:Int))) z z (x_pick_t hc114 z z) (wv (.bool (t115 == (4:Int))) z z z ?_))
 refine bsplit (t115 == (4:Int)) (fun hc120 => ?_) (fun hc120 => ?_)
 {
 replace hm := bif_t hc120 hm
 refine wv (v100) ((wanted_eq z z z (cvb hc120)).trans z) z z ?_
 obtain ⟨t121, ht122, hm⟩ := bind_some hm
 refine wl_call ((wanted_eq z z z (cvb hc120)).trans z) z (x_call call22 z (vs := [v100, I6 (2:Int)]) z) ?_
 refine (config_Plan_Label_ref hst.to1 ht122).mono ?_
 rintro _ w123 ⟨rfl, hst⟩
 refine ⟨_, z, ?_⟩
 replace hst := hst.of1
 refine wv (.bool (t121 == (1:Int))) ((wanted_eq z z z (cvb hc120)).trans z) z z (wv (.bool (t121 == (1:Int))) z z (x_pick_t hc120 z z) (wv (.bool (t121 == (1:Int))) z z z (wl_nil (tn (wp_ret ?_)))))
 obtain rfl := some_inj hm
 refine post_ret (vs := [.bool (t121 == (1:Int))]) results9 (rvs_cons (rv_tmp z) rvs_nil) ?_
 exact ⟨_, z, hI0, hst.keep0⟩
}
 {
 replace hm := bif_f hc120 hm
 refine wo hc120 z z z z z z (wo hc120 z z z z z z (wo hc120 z z z z z z (wv (.bool false) z z (x_pick_f hc120 z z) (wv (.bool false) z z z (wl_nil (tn (wp_ret ?_)))))))
 obtain rfl := some_inj hm
 refine post_ret (vs := [.bool false]) results9 (rvs_cons (rv_tmp z) rvs_nil) ?_
 exact ⟨_, z, hI0, hst.keep0⟩
}
}
 {
 replace hm := bif_f hc114 hm
 refine wo hc114 z z z z z z (wo hc114 z z z z z z (wo hc114 z z z z z z (wv (.bool false) z z (x_pick_f hc114 z z) (wv (.bool false) z z z (wz z z z z z z (wz z z z z z z (wz z z z z z z (wv (.bool false) z z (x_pick_f z z z) (wv (.bool false) z z z (wl_nil (tn (wp_ret ?_))))))))))))
 obtain rfl := some_inj hm
 refine post_ret (vs := [.bool false]) results9 (rvs_cons (rv_tmp z) rvs_nil) ?_
 exact ⟨_, z, hI0, hst.keep0⟩
}
}
 {
 replace hm := bif_f hc108 hm
 refine wo hc108 z z z z z z (wo hc108 z z z z z z (wo hc108 z z z z z z (wv (.bool false) z z (x_pick_f hc108 z z) (wv (.bool false) z z z (wz z z z z z z (wz z z z z z z (wz z z z z z z (wv (.bool false) z z (x_pick_f z z z) (wv (.bool false) z z z (wz z z z z z z (wz z z z z z z (wz z z z z z z ?_))))))))))))
 refine wv (.bool false) z z (x_pick_f z z z) (wv (.bool false) z z z (wl_nil (tn (wp_ret ?_))))
 obtain rfl := some_inj hm
 refine post_ret (vs := [.bool false]) results9 (rvs_cons (rv_tmp z) rvs_nil) ?_
 exact ⟨_, z, hI0, hst.keep0⟩
}
}
 {
 replace hm := bif_f hc102 hm
 refine wo hc102 z z z z z z (wo hc102 z z z z z z (wo hc102 z z z z z z (wv (.bool false) z z (x_pick_f hc102 z z) (wv (.bool false) z z z (wz z z z z z z (wz z z z z z z (wz z z z z z z (wv (.bool false) z z (x_pick_f z z z) (wv (.bool false) z z z (wz z z z z z z (wz z z z z z z (wz z z z z z z ?_))))))))))))
 refine wv (.bool false) z z (x_pick_f z z z) (wv (.bool false) z z z (wz z z z z z z (wz z z z z z z (wz z z z z z z (wv (.bool false) z z (x_pick_f z z z) (wv (.bool false) z z z (wl_nil (tn (wp_ret ?_)))))))))
 obtain rfl := some_inj hm
 refine post_ret (vs := [.bool false]) results9 (rvs_cons (rv_tmp z) rvs_nil) ?_
 exact ⟨_, z, hI0, hst.keep0⟩
}
}

theorem math_Signbit_ref {w0 w : World} {I : HL} {R : SP} {a0 : Nat}  (hst : St w0 w I [] R) {r : (Bool)} (hm : math_Signbit a0 = some r) :
  Calls prog 37 #[F6 a0] w fun e w' => e = .returned (.bool r) ∧ St w0 w' I [] R := by {
 unfold math_Signbit at hm
 refine calls_start (args := [F6 a0]) func37 z ntmps37 (Nat.le_of_ble_eq_true z) ?_
 refine wp_seq (wrl (wv (.bool false) z z z (wl_nil (tn (wp_seq (wrl (wv (.float .f64 a0) z z z (wv (.int .u64 (Int.ofNat a0)) z z (by kernel_rfl) (wv (.int .i64 (i64.wrap (Int.ofNat a0))) z z (by kernel_rfl) (wv (.bool (decide ((i64.wrap (Int.ofNat a0)) < (0:Int)))) z z z (wv (.bool (decide ((i64.wrap (Int.ofNat a0)) < (0:Int)))) z z z (wl_nil (tn (wp_ret ?_))))))))))))))
 obtain rfl := some_inj hm
 refine post_ret (vs := [.bool (decide ((i64.wrap (Int.ofNat a0)) < (0:Int)))]) results37 (rvs_cons (rv_tmp z) rvs_nil) ?_
 exact ⟨z, hst.keep0⟩
}

theorem ref01_Ahead_ref {w0 w : World} {I : HL} {R : SP} {a0 : Nat} {a1 : Nat}  (hst : St w0 w I [] R) {r : (Bool)} (hm : ref01_Ahead a0 a1 = some r) :
  Calls prog 14 #[F6 a0, F6 a1] w fun e w' => e = .returned (.bool r) ∧ St w0 w' I [] R := by {
 unfold ref01_Ahead at hm
 refine calls_start (args := [F6 a0, F6 a1]) func14 z ntmps14 (Nat.le_of_ble_eq_true z) ?_
 refine wp_seq (wrl (wv (.bool false) z z z (wl_nil (tn (wp_seq (wp_seq (wrl (wv (.float .f64 a0) z z z (wv (.float .f64 a0) z z z (wv (.bool (fNe a0 a0)) z z z (wl_nil (tn ?_))))))))))))
 refine bsplit (fNe a0 a0) (fun hc41 => ?_) (fun hc41 => ?_)
 {
 replace hm := bif_t hc41 hm
 refine wp_ift (cvb hc41) ?_
 refine wp_seq (wrl (wv (.bool false) z z z (wl_nil (tn (wp_ret (then_r ?_))))))
 obtain rfl := some_inj hm
 refine post_ret (vs := [.bool false]) results14 (rvs_cons (rv_tmp z) rvs_nil) ?_
 exact ⟨z, hst.keep0⟩
}
 {
 replace hm := bif_f hc41 hm
 refine wp_iff (cvb hc41) ?_
 refine wp_skip (tn (wp_seq (wp_seq (wrl ?_))))
 refine wv (.float .f64 a1) z z z (wv (.float .f64 a1) z z z (wv (.bool (fNe a1 a1)) z z z (wl_nil (tn ?_))))
 refine bsplit (fNe a1 a1) (fun hc42 => ?_) (fun hc42 => ?_)
 {
 replace hm := bif_t hc42 hm
 refine wp_ift (cvb hc42) ?_
 refine wp_seq (wrl (wv (.bool true) z z z (wl_nil (tn (wp_ret (then_r ?_))))))
 obtain rfl := some_inj hm
 refine post_ret (vs := [.bool true]) results14 (rvs_cons (rv_tmp z) rvs_nil) ?_
 exact ⟨z, hst.keep0⟩
}
 {
 replace hm := bif_f hc42 hm
 refine wp_iff (cvb hc42) ?_
 refine wp_skip (tn ?_)
 obtain ⟨y58, hm, hx59⟩ := joinO_some hm
 refine wp_cut (fun a w => ∃ (σ56 : Nat → Value), (ref01_Ahead_j0 a0 a1) () = some r ∧ a = Fr 27 (upd (upd σ56 0 (.float .f64 a0)) 1 (.float .f64 a1)) ∧ St w0 w I [] R) ?_ ?_
 {
 refine wp_seq (wrl (wv (.float .f64 a0) z z z (wv (.bool (fEq a0 (0:Nat))) z z z (wv (.bool (fEq a0 (0:Nat))) z z z ?_))))
 refine bsplit (fEq a0 (0:Nat)) (fun hc43 => ?_) (fun hc43 => ?_)
 {
 replace hm := bif_t hc43 hm
 refine wv (.float .f64 a1) ((wanted_eq z z z (cvb hc43)).trans z) z z (wv (.bool (fEq a1 (0:Nat))) ((wanted_eq z z z (cvb hc43)).trans z) z z (wv (.bool (fEq a1 (0:Nat))) z z (x_pick_t hc43 z z) (wl_nil (tn ?_))))
 refine bsplit (fEq a1 (0:Nat)) (fun hc44 => ?_) (fun hc44 => ?_)
 {
 replace hm := bif_t hc44 hm
 refine wp_ift (cvb hc44) ?_
 refine wp_seq (wrl (wv (.float .f64 a0) z z z ?_))
 obtain ⟨t45, ht46, hm⟩ := bind_some hm
 refine wc call37 [F6 a0] z z z ?_
 refine (math_Signbit_ref hst.to0 ht46).mono ?_
 rintro _ w47 ⟨rfl, hst⟩
 refine ⟨_, z, ?_⟩
 replace hst := hst.of0
 refine wv (.bool t45) z z z ?_
 refine bsplit t45 (fun hc50 => ?_) (fun hc50 => ?_)
 {
 replace hm := bif_t hc50 hm
 refine wv (.float .f64 a1) ((wanted_eq z z z (cvb hc50)).trans z) z z ?_
 obtain ⟨t51, ht52, hm⟩ := bind_some hm
 refine wl_call ((wanted_eq z z z (cvb hc50)).trans z) z (x_call call37 z (vs := [F6 a1]) z) ?_
 refine (math_Signbit_ref hst.to0 ht52).mono ?_
 rintro _ w53 ⟨rfl, hst⟩
 refine ⟨_, z, ?_⟩
 replace hst := hst.of0
 refine wv (.bool (!t51)) ((wanted_eq z z z (cvb hc50)).trans z) z z (wv (.bool (!t51)) z z (x_pick_t hc50 z z) (wv (.bool (!t51)) z z z (wl_nil (tn (wp_ret (then_r ?_))))))
 replace hm := inr_up hm hx59
 obtain rfl := some_inj hm
 refine post_ret (vs := [.bool (!t51)]) results14 (rvs_cons (rv_tmp z) rvs_nil) ?_
 exact ⟨z, hst.keep0⟩
}
 {
 replace hm := bif_f hc50 hm
 refine wo hc50 z z z z z z (wo hc50 z z z z z z (wo hc50 z z z z z z (wv (.bool false) z z (x_pick_f hc50 z z) (wv (.bool false) z z z (wl_nil (tn (wp_ret (then_r ?_))))))))
 replace hm := inr_up hm hx59
 obtain rfl := some_inj hm
 refine post_ret (vs := [.bool false]) results14 (rvs_cons (rv_tmp z) rvs_nil) ?_
 exact ⟨z, hst.keep0⟩
}
}
 {
 replace hm := bif_f hc44 hm
 refine wp_iff (cvb hc44) ?_
 refine wp_skip (tn ?_)
 replace hst := hst.keep0
 obtain rfl := some_inj hm
 exact ⟨_, hx59, (fu 0 (.float .f64 a0) z (fu 1 (.float .f64 a1) z z)), hst⟩
}
}
 {
 replace hm := bif_f hc43 hm
 refine wo hc43 z z z z z z (wo hc43 z z z z z z (wv (.bool false) z z (x_pick_f hc43 z z) (wl_nil (tn ?_))))
 refine wp_iff z ?_
 refine wp_skip (tn ?_)
 replace hst := hst.keep0
 obtain rfl := some_inj hm
 exact ⟨_, hx59, (fu 0 (.float .f64 a0) z (fu 1 (.float .f64 a1) z z)), hst⟩
}
}
 {
 clear hst
 rintro _ w60 ⟨σ56, hm, rfl, hst⟩
 dsimp only [ref01_Ahead_j0] at hm
 refine wp_seq (wrl (wv (.float .f64 a0) z z z (wv (.float .f64 a1) z z z (wv (.bool (fLt a0 a1)) z z z (wv (.bool (fLt a0 a1)) z z z (wl_nil (tn (wp_ret ?_))))))))
 obtain rfl := some_inj hm
 refine post_ret (vs := [.bool (fLt a0 a1)]) results14 (rvs_cons (rv_tmp z) rvs_nil) ?_
 exact ⟨z, hst.keep0⟩
}
}
}
}

theorem ref01_Rising_ref {w0 w : World} {I : HL} {R : SP} {a0 : (List Nat)} {r0_0 : Value} (f0_0 : Rd tyF64 R I r0_0 a0) (hst : St w0 w I [] R) {r : (Bool)} (hm : ref01_Rising a0 = some r) :
  Calls prog 16 #[r0_0] w fun e w' => e = .returned (.bool r) ∧ St w0 w' I [] R := by {
 unfold ref01_Rising at hm
 refine calls_start (args := [r0_0]) func16 z ntmps16 (Nat.le_of_ble_eq_true z) ?_
 refine wp_seq (wrl (wv (.bool false) z z z (wl_nil (tn (wp_seq (wp_seq (wrl (wv (.int .i64 (1:Int)) z z z (wl_nil (tn (wp_block ?_)))))))))))
 obtain ⟨n119, hm⟩ := loopO_some hm
 refine wp_loop_n (fun n a w => ∃ (z117 : Int) (σ118 : Nat → Value), loopN (ref01_Rising_l0 a0) n z117 = some r ∧ a = Fr 21 (upd (upd σ118 0 (r0_0)) 3 (.int .i64 z117)) ∧ St w0 w I [] R) n119 ⟨(1:Int), _, hm, (fu 0 r0_0 z (fu 3 (.int .i64 (1:Int)) z z)), hst⟩ ?_
 rintro n125 _ w120 ⟨z117, σ118, hm, rfl, hst⟩
 obtain ⟨n122, y123, rfl, hm, hx124⟩ := loopN_some hm
 dsimp only [ref01_Rising_l0] at hm
 refine wp_seq (wp_seq (wrl (wv (.int .i64 z117) z z z (wv (r0_0) z z z (wv (.int .i64 ((a0).length : Int)) z z (x_len z underlying26 (rd_sliceV f0_0)) (wv (.bool (decide (z117 < ((a0).length : Int)))) z z z (wl_nil (tn ?_))))))))
 refine bsplit (decide (z117 < ((a0).length : Int))) (fun hc126 => ?_) (fun hc126 => ?_)
 {
 replace hm := bif_t hc126 hm
 refine wp_ift (cvb hc126) ?_
 refine wp_skip (tn (wp_seq (wp_block (wp_seq ?_))))
 refine wp_region_St hst 11 [0, 1, 2, 3, 4, 5, 6, 7, 8, 9, 10] [0, 0, 2, 7, 15, 0, 0, 96, 224, 511, 1023] [] z (by kernel_rfl) (by kernel_rfl) Try.mixed (by kernel_rfl) ?_
 refine wsr (r0_0) 0 z z z (by kernel_rfl) (fun w hst => z) (wsr (.int .i64 z117) 1 z z z (by kernel_rfl) (fun w hst => z) (wsr (.int .i64 (i64.wrap (z117 - (1:Int)))) 2 z z z (by kernel_rfl) (fun w hst => z) ?_))
 obtain ⟨x127, hx128, hm⟩ := bind_some hm
 obtain ⟨h129, h130, hi131⟩ := geto_some hx128
 refine wsr (.pointer (some (eAddr r0_0 ((i64.wrap (z117 - (1:Int))).toNat * 1 + 0)))) 3 z z z (by kernel_rfl) (fun w hst => x_index z z underlying26 sizeOf36 (rd_sliceV f0_0) h129 h130) (wsr (.float .f64 x127) 4 z z z (by kernel_rfl) (fun w hst => x_load z isAgg36 (rd_load f0_0 (HL.le.refl _) hst hi131 (by rintro _ rfl; rfl))) (wsr (r0_0) 5 z z z (by kernel_rfl) (fun w hst => z) (wsr (.int .i64 z117) 6 z z z (by kernel_rfl) (fun w hst => z) ?_)))
 obtain ⟨x132, hx133, hm⟩ := bind_some hm
 obtain ⟨h134, h135, hi136⟩ := geto_some hx133
 refine wsr (.pointer (some (eAddr r0_0 (z117.toNat * 1 + 0)))) 7 z z z (by kernel_rfl) (fun w hst => x_index z z underlying26 sizeOf36 (rd_sliceV f0_0) h134 h135) (wsr (.float .f64 x132) 8 z z z (by kernel_rfl) (fun w hst => x_load z isAgg36 (rd_load f0_0 (HL.le.refl _) hst hi136 (by rintro _ rfl; rfl))) ?_)
 refine ws_e1 9 (by kernel_rfl) ?_
 refine nxe [10] (by kernel_rfl) z z ?_
 clear hst
 intro w hst
 obtain ⟨t137, ht138, hm⟩ := bind_some hm
 refine wec call14 [F6 x127, F6 x132] z z ?_
 refine (ref01_Ahead_ref hst.to0 ht138).mono ?_
 rintro _ w139 ⟨rfl, hst⟩
 refine ⟨_, z, ?_⟩
 replace hst := hst.of0
 refine ws_next (pend' := []) hst (by kernel_rfl) pk_nil ?_
 refine wsr (.bool (!t137)) 10 z z z (by kernel_rfl) (fun w hst => z) ?_
 refine ws_nil ?_
 intro w hst
 refine tn ?_
 refine bsplit (!t137) (fun hc142 => ?_) (fun hc142 => ?_)
 {
 replace hm := bif_t hc142 hm
 refine wp_ift (cvb hc142) ?_
 refine wp_seq (wrl (wv (.bool false) z z z (wl_nil (tn (wp_ret (blk_r (then_r (then_r ?_))))))))
 replace hm := inr_up hm hx124
 refine blk_r (then_r ?_)
 obtain rfl := some_inj hm
 refine post_ret (vs := [.bool false]) results16 (rvs_cons (rv_tmp z) rvs_nil) ?_
 exact ⟨z, hst.keep0⟩
}
 {
 replace hm := bif_f hc142 hm
 refine wp_iff (cvb hc142) ?_
 refine wp_skip (blk_n (tn (wrl ?_)))
 refine wv (.int .i64 z117) z z z (wv (.int .i64 (i64.wrap (z117 + (1:Int)))) z z z (wv (.int .i64 (i64.wrap (z117 + (1:Int)))) z z z (wl_nil (tn ?_))))
 replace hst := hst.keep0
 obtain rfl := some_inj hm
 exact ⟨_, Nat.lt_succ_self _, (i64.wrap (z117 + (1:Int))), _, hx124, (fu 0 r0_0 z (fu 3 (.int .i64 (i64.wrap (z117 + (1:Int)))) z z)), hst⟩
}
}
 {
 replace hm := bif_f hc126 hm
 refine wp_iff (cvb hc126) ?_
 refine wp_exit (then_x (then_x ?_))
 replace hm := inr_up hm hx124
 refine blk_x (tn (wp_seq (wrl ?_)))
 refine wv (.bool true) z z z (wl_nil (tn (wp_ret ?_)))
 obtain rfl := some_inj hm
 refine post_ret (vs := [.bool true]) results16 (rvs_cons (rv_tmp z) rvs_nil) ?_
 exact ⟨z, hst.keep0⟩
}
}

theorem number_Shard_ref {w0 w : World} {I : HL} {R : SP} {a0 : (List Nat)} {r0_0 : Value} {a1 : Nat} (f0_0 : Rd tyF64 R I r0_0 a0) (hst : St w0 w I [] R) {r : (Int)} (hm : number_Shard a0 a1 = some r) :
  Calls prog 43 #[r0_0, F6 a1] w fun e w' => e = .returned (.int .i64 r) ∧ St w0 w' I [] R := by {
 unfold number_Shard at hm
 refine calls_start (args := [r0_0, F6 a1]) func43 z ntmps43 (Nat.le_of_ble_eq_true z) ?_
 refine wp_seq (wrl ?_)
 have hv165 := (rd_sliceV f0_0)
 obtain ⟨b159, w160, ew161, eb162, hst⟩ := hst.box [r0_0] 26
 refine wl_run (v := Pt b159 0) (w' := w160) z z (x_al (by obtain ⟨_, _, hv_, _⟩ := hv165; rw [hv_]; kernel_rfl) ew161 eb162) ?_
 obtain ⟨b166, w167, ew168, eb169, hst⟩ := hst.box [F6 a1] 36
 refine wl_run (v := Pt b166 0) (w' := w167) z z (x_al (by kernel_rfl) ew168 eb169) ?_
 refine wv (.int .i64 (0:Int)) z z z (wl_nil (tn (wp_seq (wrl (wv (r0_0) z z (x_load z isAgg26 (hst.bc1 z)) (wv (.int .i64 ((a0).length : Int)) z z (x_len z underlying26 (rd_sliceV f0_0)) (wv (.func (.func 55) #[] #[Pt b166 0, Pt b159 0]) z z (by kernel_rfl) ?_)))))))
 obtain ⟨y236, hq237, hm⟩ := bind_some hm
 refine wl_call z z (x_callv call54 (caps := []) z (vs := [I6 ((a0).length : Int), .func (.func 55) #[] #[Pt b166 0, Pt b159 0]]) z) ?_
 refine Calls.mono (show Calls prog 54 #[I6 ((a0).length : Int), .func (.func 55) #[] #[Pt b166 0, Pt b159 0]] _ (fun e w' => ∃ (z234 : Int), z234 = y236 ∧ e = .returned (.int .i64 z234) ∧ St w0 w' I [cells b159 [r0_0], cells b166 [F6 a1]] R) from ?_) ?_
 {
 clear hm; have hm := hq237
 refine calls_start (args := [I6 ((a0).length : Int), .func (.func 55) #[] #[Pt b166 0, Pt b159 0]]) func54 z ntmps54 (Nat.le_of_ble_eq_true z) ?_
 refine wp_seq (wrl (wv (.int .i64 (0:Int)) z z z (wl_nil (tn (wp_seq (wrl (wv (.int .i64 ((a0).length : Int)) z z z (wv (.int .i64 (0:Int)) z z z (wv (.int .i64 ((a0).length : Int)) z z z (wl_nil (tn (wp_seq (wp_block ?_)))))))))))))
 obtain ⟨n210, hm⟩ := loopO_some hm
 refine wp_loop_n (fun n a w => ∃ (z207 : Int) (z208 : Int) (σ209 : Nat → Value), loopN (number_Shard_l0 a0 a1) n (z207, z208) = some y236 ∧ a = Fr 26 (upd (upd (upd σ209 1 (.func (.func 55) #[] #[Pt b166 0, Pt b159 0])) 5 (.int .i64 z207)) 6 (.int .i64 z208)) ∧ St w0 w I [cells b166 [F6 a1], cells b159 [r0_0]] R) n210 ⟨(0:Int), ((a0).length : Int), _, hm, (fu 1 (.func (.func 55) #[] #[Pt b166 0, Pt b159 0]) z (fu 5 (.int .i64 (0:Int)) z (fu 6 (.int .i64 ((a0).length : Int)) z z))), hst⟩ ?_
 rintro n216 _ w211 ⟨z207, z208, σ209, hm, rfl, hst⟩
 obtain ⟨n213, y214, rfl, hm, hx215⟩ := loopN_some hm
 dsimp only [number_Shard_l0] at hm
 refine wp_seq (wp_seq (wrl (wv (.int .i64 z207) z z z (wv (.int .i64 z208) z z z (wv (.bool (decide (z207 < z208))) z z z (wl_nil (tn ?_)))))))
 refine bsplit (decide (z207 < z208)) (fun hc217 => ?_) (fun hc217 => ?_)
 {
 replace hm := bif_t hc217 hm
 refine wp_ift (cvb hc217) ?_
 refine wp_skip (tn (wp_block (wp_seq (wrl ?_))))
 refine wv (.int .i64 z207) z z z (wv (.int .i64 z208) z z z (wv (.int .i64 (i64.wrap (z207 + z208))) z z z (wv (.int .u64 (u64.wrap (i64.wrap (z207 + z208)))) z z (by kernel_rfl) (wv (.int .u64 (iShr .u64 (u64.wrap (i64.wrap (z207 + z208))) (1:Int))) z z (x_shr (by decide) z z) (wv (.int .i64 (i64.wrap (iShr .u64 (u64.wrap (i64.wrap (z207 + z208))) (1:Int)))) z z (by kernel_rfl) (wv (.int .i64 (i64.wrap (iShr .u64 (u64.wrap (i64.wrap (z207 + z208))) (1:Int)))) z z z (wl_nil (tn (wp_seq (wrl (wv (.func (.func 55) #[] #[Pt b166 0, Pt b159 0]) z z z (wv (.int .i64 (i64.wrap (iShr .u64 (u64.wrap (i64.wrap (z207 + z208))) (1:Int)))) z z z ?_))))))))))))
 obtain ⟨y230, hq231, hm⟩ := bind_some hm
 refine wl_call z z (x_callv call55 (caps := [Pt b166 0, Pt b159 0]) z (vs := [I6 (i64.wrap (iShr .u64 (u64.wrap (i64.wrap (z207 + z208))) (1:Int)))]) z) ?_
 refine Calls.mono (show Calls prog 55 #[I6 (i64.wrap (iShr .u64 (u64.wrap (i64.wrap (z207 + z208))) (1:Int))), Pt b166 0, Pt b159 0] _ (fun e w' => ∃ (z228 : Bool), z228 = y230 ∧ e = .returned (.bool z228) ∧ St w0 w' I [cells b159 [r0_0], cells b166 [F6 a1]] R) from ?_) ?_
 {
 clear hm; have hm := hq231
 refine calls_start (args := [I6 (i64.wrap (iShr .u64 (u64.wrap (i64.wrap (z207 + z208))) (1:Int))), Pt b166 0, Pt b159 0]) func55 z ntmps55 (Nat.le_of_ble_eq_true z) ?_
 refine wp_seq (wrl (wv (.bool false) z z z (wl_nil (tn (wp_seq ?_)))))
 refine wp_region_St hst 7 [0, 1, 2, 3, 4, 5, 6] [0, 0, 0, 6, 14, 31, 63] [] z (by kernel_rfl) (by kernel_rfl) Try.mixed (by kernel_rfl) ?_
 refine wsr (.float .f64 a1) 0 z z z (by kernel_rfl) (fun w hst => x_load z isAgg36 (hst.bc0 z)) (wsr (r0_0) 1 z z z (by kernel_rfl) (fun w hst => x_load z isAgg26 (hst.bc1 z)) (wsr (.int .i64 (i64.wrap (iShr .u64 (u64.wrap (i64.wrap (z207 + z208))) (1:Int)))) 2 z z z (by kernel_rfl) (fun w hst => z) ?_))
 obtain ⟨x218, hx219, hm⟩ := bind_some hm
 obtain ⟨h220, h221, hi222⟩ := geto_some hx219
 refine wsr (.pointer (some (eAddr r0_0 ((i64.wrap (iShr .u64 (u64.wrap (i64.wrap (z207 + z208))) (1:Int))).toNat * 1 + 0)))) 3 z z z (by kernel_rfl) (fun w hst => x_index z z underlying26 sizeOf36 (rd_sliceV f0_0) h220 h221) (wsr (.float .f64 x218) 4 z z z (by kernel_rfl) (fun w hst => x_load z isAgg36 (rd_load f0_0 (HL.le.refl _) hst hi222 (by rintro _ rfl; rfl))) ?_)
 refine ws_e1 5 (by kernel_rfl) ?_
 refine nxe [6] (by kernel_rfl) z z ?_
 clear hst
 intro w hst
 obtain ⟨t223, ht224, hm⟩ := bind_some hm
 refine wec call39 [F6 a1, F6 x218] z z ?_
 refine (number_Less_ref hst.to0 ht224).mono ?_
 rintro _ w225 ⟨rfl, hst⟩
 refine ⟨_, z, ?_⟩
 replace hst := hst.of0
 refine ws_next (pend' := []) hst (by kernel_rfl) pk_nil ?_
 refine wsr (.bool t223) 6 z z z (by kernel_rfl) (fun w hst => z) ?_
 refine ws_nil ?_
 intro w hst
 refine tn (wp_ret ?_)
 refine post_ret (vs := [.bool t223]) results55 (rvs_cons (rv_tmp z) rvs_nil) ?_
 replace hst := hst.pull1.keep2
 obtain rfl := some_inj hm
 exact ⟨t223, z, z, hst⟩
}
 clear hst
 rintro _ w232 ⟨z228, rfl, rfl, hst⟩
 refine ⟨_, z, ?_⟩
 try dsimp only at hm
 refine wv (.bool (!z228)) z z z (wl_nil (tn ?_))
 refine bsplit (!z228) (fun hc233 => ?_) (fun hc233 => ?_)
 {
 replace hm := bif_t hc233 hm
 refine wp_ift (cvb hc233) ?_
 refine wrl (wv (.int .i64 (i64.wrap (iShr .u64 (u64.wrap (i64.wrap (z207 + z208))) (1:Int)))) z z z (wv (.int .i64 (i64.wrap ((i64.wrap (iShr .u64 (u64.wrap (i64.wrap (z207 + z208))) (1:Int))) + (1:Int)))) z z z (wv (.int .i64 (i64.wrap ((i64.wrap (iShr .u64 (u64.wrap (i64.wrap (z207 + z208))) (1:Int))) + (1:Int)))) z z z (wl_nil (blk_n (tn ?_))))))
 replace hst := hst.pull1.keep2
 obtain rfl := some_inj hm
 exact ⟨_, Nat.lt_succ_self _, (i64.wrap ((i64.wrap (iShr .u64 (u64.wrap (i64.wrap (z207 + z208))) (1:Int))) + (1:Int))), z208, _, hx215, (fu 1 (.func (.func 55) #[] #[Pt b166 0, Pt b159 0]) z (fu 5 (.int .i64 (i64.wrap ((i64.wrap (iShr .u64 (u64.wrap (i64.wrap (z207 + z208))) (1:Int))) + (1:Int)))) z (fu 6 (.int .i64 z208) z z))), hst⟩
}
 {
 replace hm := bif_f hc233 hm
 refine wp_iff (cvb hc233) ?_
 refine wrl (wv (.int .i64 (i64.wrap (iShr .u64 (u64.wrap (i64.wrap (z207 + z208))) (1:Int)))) z z z (wv (.int .i64 (i64.wrap (iShr .u64 (u64.wrap (i64.wrap (z207 + z208))) (1:Int)))) z z z (wl_nil (blk_n (tn ?_)))))
 replace hst := hst.pull1.keep2
 obtain rfl := some_inj hm
 exact ⟨_, Nat.lt_succ_self _, z207, (i64.wrap (iShr .u64 (u64.wrap (i64.wrap (z207 + z208))) (1:Int))), _, hx215, (fu 1 (.func (.func 55) #[] #[Pt b166 0, Pt b159 0]) z (fu 5 (.int .i64 z207) z (fu 6 (.int .i64 (i64.wrap (iShr .u64 (u64.wrap (i64.wrap (z207 + z208))) (1:Int)))) z z))), hst⟩
}
}
 {
 replace hm := bif_f hc217 hm
 refine wp_iff (cvb hc217) ?_
 refine wp_exit (then_x (then_x ?_))
 replace hm := inr_up hm hx215
 refine blk_x (tn (wp_seq (wrl ?_)))
 refine wv (.int .i64 z207) z z z (wv (.int .i64 z207) z z z (wl_nil (tn (wp_ret ?_))))
 refine post_ret (vs := [I6 z207]) results54 (rvs_cons (rv_tmp z) rvs_nil) ?_
 replace hst := hst.pull1.keep2
 obtain rfl := some_inj hm
 exact ⟨z207, z, z, hst⟩
}
}
 clear hst
 rintro _ w238 ⟨z234, rfl, rfl, hst⟩
 refine ⟨_, z, ?_⟩
 try dsimp only at hm
 refine wv (.int .i64 z234) z z z (wl_nil (tn (wp_ret ?_)))
 obtain rfl := some_inj hm
 refine post_ret (vs := [I6 z234]) results43 (rvs_cons (rv_tmp z) rvs_nil) ?_
 exact ⟨z, hst.keep0⟩
}

theorem config_Plan_Shard_ref {w0 w : World} {I : HL} {R : SP} {a0 : (Option config_Plan)} {p0 : Value} {a1 : Nat}  (hst : St w0 w I [objO at_config_Plan p0 a0] R) {r : (Int)} (hm : config_Plan_Shard a0 a1 = some r) :
  Calls prog 28 #[p0, F6 a1] w fun e w' => e = .returned (.int .i64 r) ∧ St w0 w' I [objO at_config_Plan p0 a0] R := by {
 rcases a0 with _ | o0
 {
 obtain ⟨rfl, hst'⟩ := objO_none hst
 clear hst
 have hst := hst'
 clear hst'
 dsimp only [config_Plan_Shard] at hm
 refine calls_start (args := [.pointer none, F6 a1]) func28 z ntmps28 (Nat.le_of_ble_eq_true z) ?_
 refine wp_seq (wrl (wv (.int .i64 (0:Int)) z z z (wl_nil (tn (wp_seq (wp_seq (wrl (wv (.pointer none) z z z (wv (.bool true) z z (by kernel_rfl) (wl_nil (tn ?_)))))))))))
 refine wp_ift z ?_
 refine wp_seq (wrl (wv (.int .i64 (0:Int)) z z z (wl_nil (tn (wp_ret (then_r ?_))))))
 replace hst := hst.objO_nil at_config_Plan
 obtain rfl := some_inj hm
 refine post_ret (vs := [Zi]) results28 (rvs_cons (rv_tmp z) rvs_nil) ?_
 exact ⟨z, hst.keep1⟩
}
 {
 replace hst := objO_get hst
 dsimp only [config_Plan_Shard] at hm
 refine calls_start (args := [p0, F6 a1]) func28 z ntmps28 (Nat.le_of_ble_eq_true z) ?_
 refine wp_seq (wrl (wv (.int .i64 (0:Int)) z z z (wl_nil (tn (wp_seq (wp_seq (wrl (wv (p0) z z z ?_))))))))
 obtain ⟨b83, v84, v87, v90, ⟨rfl, f86, f89⟩, hst'⟩ := at_config_Plan_open hst
 clear hst
 have hst := hst'
 clear hst'
 refine wv (.bool false) z z (by kernel_rfl) (wl_nil (tn ?_))
 refine wp_iff z ?_
 refine wp_skip (tn (wp_seq (wrl ?_)))
 refine wv (Pt b83 0) z z z (wv (Pt b83 0) z z z (wv (Pt b83 0) z z (x_field z underlying64 z sizeOf28 z) (wv (Pt b83 2) z z (x_field z underlying28 z sizeOf26 z) (wv (v87) z z (x_load z isAgg26 (hst.bc0 z)) (wv (.float .f64 a1) z z z ?_)))))
 obtain ⟨t92, ht93, hm⟩ := bind_some hm
 refine wc call43 [v87, F6 a1] z z z ?_
 refine (number_Shard_ref (f89.mono ro_rd) hst.to0 ht93).mono ?_
 rintro _ w94 ⟨rfl, hst⟩
 refine ⟨_, z, ?_⟩
 replace hst := hst.of0
 refine wv (.int .i64 t92) z z z (wl_nil (tn (wp_ret ?_)))
 replace hst := hst.pull1.pull1
 replace hst := at_config_Plan_close (pv := Pt b83 0) (x := o0) hst ⟨z, f86, f89⟩
 replace hst := objO_some hst
 obtain rfl := some_inj hm
 refine post_ret (vs := [I6 t92]) results28 (rvs_cons (rv_tmp z) rvs_nil) ?_
 exact ⟨z, hst.keep1⟩
}
}

theorem ref01_Shard_ref {w0 w : World} {I : HL} {R : SP} {a0 : (List Nat)} {r0_0 : Value} {a1 : Nat} (f0_0 : Rd tyF64 R I r0_0 a0) (hst : St w0 w I [] R) {r : (Int)} (hm : ref01_Shard a0 a1 = some r) :
  Calls prog 29 #[r0_0, F6 a1] w fun e w' => e = .returned (.int .i64 r) ∧ St w0 w' I [] R := by {
 unfold ref01_Shard at hm
 refine calls_start (args := [r0_0, F6 a1]) func29 z ntmps29 (Nat.le_of_ble_eq_true z) ?_
 refine wp_seq (wrl (wv (.int .i64 (0:Int)) z z z (wl_nil (tn (wp_seq (wrl (wv (.int .i64 (0:Int)) z z z (wl_nil (tn (wp_seq (wp_seq (wrl (wv (.int .i64 (0:Int)) z z z (wl_nil (tn (wp_block ?_))))))))))))))))
 obtain ⟨n146, hm⟩ := loopO_some hm
 refine wp_loop_n (fun n a w => ∃ (z143 : Int) (z144 : Int) (σ145 : Nat → Value), loopN (ref01_Shard_l0 a0 a1) n (z143, z144) = some r ∧ a = Fr 23 (upd (upd (upd (upd σ145 0 (r0_0)) 1 (.float .f64 a1)) 5 (.int .i64 z143)) 6 (.int .i64 z144)) ∧ St w0 w I [] R) n146 ⟨(0:Int), (0:Int), _, hm, (fu 0 r0_0 z (fu 1 (.float .f64 a1) z (fu 5 (.int .i64 (0:Int)) z (fu 6 (.int .i64 (0:Int)) z z)))), hst⟩ ?_
 rintro n152 _ w147 ⟨z143, z144, σ145, hm, rfl, hst⟩
 obtain ⟨n149, y150, rfl, hm, hx151⟩ := loopN_some hm
 dsimp only [ref01_Shard_l0] at hm
 refine wp_seq (wp_seq (wrl (wv (.int .i64 z144) z z z (wv (r0_0) z z z (wv (.int .i64 ((a0).length : Int)) z z (x_len z underlying26 (rd_sliceV f0_0)) (wv (.bool (decide (z144 < ((a0).length : Int)))) z z z (wl_nil (tn ?_))))))))
 refine bsplit (decide (z144 < ((a0).length : Int))) (fun hc153 => ?_) (fun hc153 => ?_)
 {
 replace hm := bif_t hc153 hm
 refine wp_ift (cvb hc153) ?_
 refine wp_skip (tn (wp_seq (wp_block (wp_seq (wrl ?_)))))
 refine wv (.float .f64 a1) z z z (wv (r0_0) z z z (wv (.int .i64 z144) z z z ?_))
 obtain ⟨x154, hx155, hm⟩ := bind_some hm
 obtain ⟨h156, h157, hi158⟩ := geto_some hx155
 refine wv (.pointer (some (eAddr r0_0 (z144.toNat * 1 + 0)))) z z (x_index z z underlying26 sizeOf36 (rd_sliceV f0_0) h156 h157) (wv (.float .f64 x154) z z (x_load z isAgg36 (rd_load f0_0 (HL.le.refl _) hst hi158 (by rintro _ rfl; rfl))) ?_)
 obtain ⟨t159, ht160, hm⟩ := bind_some hm
 refine wc call14 [F6 a1, F6 x154] z z z ?_
 refine (ref01_Ahead_ref hst.to0 ht160).mono ?_
 rintro _ w161 ⟨rfl, hst⟩
 refine ⟨_, z, ?_⟩
 replace hst := hst.of0
 refine wv (.bool (!t159)) z z z (wl_nil (tn ?_))
 refine bsplit (!t159) (fun hc164 => ?_) (fun hc164 => ?_)
 {
 replace hm := bif_t hc164 hm
 refine wp_ift (cvb hc164) ?_
 refine wrl (wv (.int .i64 z143) z z z (wv (.int .i64 (i64.wrap (z143 + (1:Int)))) z z z (wv (.int .i64 (i64.wrap (z143 + (1:Int)))) z z z (wl_nil (blk_n (tn (wrl (wv (.int .i64 z144) z z z (wv (.int .i64 (i64.wrap (z144 + (1:Int)))) z z z (wv (.int .i64 (i64.wrap (z144 + (1:Int)))) z z z (wl_nil (tn ?_))))))))))))
 replace hst := hst.keep0
 obtain rfl := some_inj hm
 exact ⟨_, Nat.lt_succ_self _, (i64.wrap (z143 + (1:Int))), (i64.wrap (z144 + (1:Int))), _, hx151, (fu 0 r0_0 z (fu 1 (.float .f64 a1) z (fu 5 (.int .i64 (i64.wrap (z143 + (1:Int)))) z (fu 6 (.int .i64 (i64.wrap (z144 + (1:Int)))) z z)))), hst⟩
}
 {
 replace hm := bif_f hc164 hm
 refine wp_iff (cvb hc164) ?_
 refine wp_skip (blk_n (tn (wrl ?_)))
 refine wv (.int .i64 z144) z z z (wv (.int .i64 (i64.wrap (z144 + (1:Int)))) z z z (wv (.int .i64 (i64.wrap (z144 + (1:Int)))) z z z (wl_nil (tn ?_))))
 replace hst := hst.keep0
 obtain rfl := some_inj hm
 exact ⟨_, Nat.lt_succ_self _, z143, (i64.wrap (z144 + (1:Int))), _, hx151, (fu 0 r0_0 z (fu 1 (.float .f64 a1) z (fu 5 (.int .i64 z143) z (fu 6 (.int .i64 (i64.wrap (z144 + (1:Int)))) z z)))), hst⟩
}
}
 {
 replace hm := bif_f hc153 hm
 refine wp_iff (cvb hc153) ?_
 refine wp_exit (then_x (then_x ?_))
 replace hm := inr_up hm hx151
 refine blk_x (tn (wp_seq (wrl ?_)))
 refine wv (.int .i64 z143) z z z (wv (.int .i64 z143) z z z (wl_nil (tn (wp_ret ?_))))
 obtain rfl := some_inj hm
 refine post_ret (vs := [I6 z143]) results29 (rvs_cons (rv_tmp z) rvs_nil) ?_
 exact ⟨z, hst.keep0⟩
}
}

theorem config_Plan_Span_ref {w0 w : World} {I : HL} {R : SP} {a0 : (Option config_Plan)} {p0 : Value} {a1 : api_Span}  (hst : St w0 w I [objO at_config_Plan p0 a0] R) {r : (Int)} (hm : config_Plan_Span a0 a1 = some r) :
  Calls prog 30 #[p0, .agg #[I6 a1.Label, F6 a1.From, F6 a1.To]] w fun e w' => e = .returned (.int .u64 r) ∧ St w0 w' I [objO at_config_Plan p0 a0] R := by {
 unfold config_Plan_Span at hm
 refine calls_start (args := [p0, .agg #[I6 a1.Label, F6 a1.From, F6 a1.To]]) func30 z ntmps30 (Nat.le_of_ble_eq_true z) ?_
 refine wp_seq (wrl ?_)
 obtain ⟨b118, w119, ew120, eb121, hst⟩ := hst.box [I6 a1.Label, F6 a1.From, F6 a1.To] 53
 refine wl_run (v := Pt b118 0) (w' := w119) z z (x_al (by kernel_rfl) ew120 eb121) ?_
 refine wv (.int .u64 (0:Int)) z z z (wl_nil (tn (wp_seq (wrl (wv (.int .u64 (0:Int)) z z z (wl_nil (tn (wp_seq (wp_seq (wrl (wv (Pt b118 2) z z (x_field z underlying53 z sizeOf36 z) (wv (.float .f64 a1.To) z z (x_load z isAgg36 (hst.bc0 z)) (wv (Pt b118 1) z z (x_field z underlying53 z sizeOf36 z) (wv (.float .f64 a1.From) z z (x_load z isAgg36 (hst.bc0 z)) ?_))))))))))))))
 obtain ⟨t123, ht124, hm⟩ := bind_some hm
 refine wc call39 [F6 a1.To, F6 a1.From] z z z ?_
 refine (number_Less_ref hst.to0 ht124).mono ?_
 rintro _ w125 ⟨rfl, hst⟩
 refine ⟨_, z, ?_⟩
 replace hst := hst.of0
 refine wv (.bool (!t123)) z z z (wl_nil (tn ?_))
 refine bsplit (!t123) (fun hc128 => ?_) (fun hc128 => ?_)
 {
 replace hm := bif_t hc128 hm
 refine wp_ift (cvb hc128) ?_
 refine wp_seq (wrl (wv (p0) z z z (wv (Pt b118 1) z z (x_field z underlying53 z sizeOf36 z) (wv (.float .f64 a1.From) z z (x_load z isAgg36 (hst.bc0 z)) ?_))))
 replace hst := hst.pull1
 obtain ⟨t129, ht130, hm⟩ := bind_some hm
 refine wc call28 [p0, F6 a1.From] z z z ?_
 refine (config_Plan_Shard_ref hst.to1 ht130).mono ?_
 rintro _ w131 ⟨rfl, hst⟩
 refine ⟨_, z, ?_⟩
 replace hst := hst.of1
 refine wv (.int .i64 t129) z z z (wl_nil (tn (wp_block ?_)))
 obtain ⟨n153, hm⟩ := loopO_some hm
 refine wp_loop_n (fun n a w => ∃ (z150 : Int) (z151 : Int) (σ152 : Nat → Value), loopN (config_Plan_Span_l0 a0 a1) n (z150, z151) = some r ∧ a = Fr 30 (upd (upd (upd (upd σ152 0 (p0)) 3 (Pt b118 0)) 5 (.int .u64 z150)) 6 (.int .i64 z151)) ∧ St w0 w I [objO at_config_Plan p0 a0, cells b118 [I6 a1.Label, F6 a1.From, F6 a1.To]] R) n153 ⟨(0:Int), t129, _, hm, (fu 0 p0 z (fu 3 (Pt b118 0) z (fu 5 (.int .u64 (0:Int)) z (fu 6 (.int .i64 t129) z z)))), hst⟩ ?_
 rintro n159 _ w154 ⟨z150, z151, σ152, hm, rfl, hst⟩
 obtain ⟨n156, y157, rfl, hm, hx158⟩ := loopN_some hm
 dsimp only [config_Plan_Span_l0] at hm
 refine wp_seq (wp_seq (wrl (wv (.int .i64 z151) z z z (wv (p0) z z z (wv (Pt b118 2) z z (x_field z underlying53 z sizeOf36 z) (wv (.float .f64 a1.To) z z (x_load z isAgg36 (hst.bc1 z)) ?_))))))
 obtain ⟨t160, ht161, hm⟩ := bind_some hm
 refine wc call28 [p0, F6 a1.To] z z z ?_
 refine (config_Plan_Shard_ref hst.to1 ht161).mono ?_
 rintro _ w162 ⟨rfl, hst⟩
 refine ⟨_, z, ?_⟩
 replace hst := hst.of1
 refine wv (.bool (decide (z151 ≤ t160))) z z z (wl_nil (tn ?_))
 refine bsplit (decide (z151 ≤ t160)) (fun hc165 => ?_) (fun hc165 => ?_)
 {
 replace hm := bif_t hc165 hm
 refine wp_ift (cvb hc165) ?_
 refine wp_skip (tn (wp_seq (wp_block (wrl ?_))))
 refine wv (.int .u64 z150) z z z (wv (.int .i64 z151) z z z ?_)
 obtain ⟨hg166, hm⟩ := gd_some hm
 refine wv (.int .u64 (iShl .u64 (1:Int) z151)) z z (x_shl (of_decide_eq_true hg166) z z) (wv (.int .u64 (bOr .u64 z150 (iShl .u64 (1:Int) z151))) z z z (wv (.int .u64 (bOr .u64 z150 (iShl .u64 (1:Int) z151))) z z z (wl_nil (blk_n (tn (wrl (wv (.int .i64 z151) z z z (wv (.int .i64 (i64.wrap (z151 + (1:Int)))) z z z (wv (.int .i64 (i64.wrap (z151 + (1:Int)))) z z z (wl_nil (tn ?_)))))))))))
 replace hst := hst.pull1.pull1.keep2
 obtain rfl := some_inj hm
 exact ⟨_, Nat.lt_succ_self _, (bOr .u64 z150 (iShl .u64 (1:Int) z151)), (i64.wrap (z151 + (1:Int))), _, hx158, (fu 0 p0 z (fu 3 (Pt b118 0) z (fu 5 (.int .u64 (bOr .u64 z150 (iShl .u64 (1:Int) z151))) z (fu 6 (.int .i64 (i64.wrap (z151 + (1:Int)))) z z)))), hst⟩
}
 {
 replace hm := bif_f hc165 hm
 refine wp_iff (cvb hc165) ?_
 refine wp_exit (then_x (then_x ?_))
 replace hm := inr_up hm hx158
 refine blk_x (tn (wp_seq (wrl ?_)))
 refine wv (.int .u64 z150) z z z (wv (.int .u64 z150) z z z (wl_nil (tn (wp_ret ?_))))
 obtain rfl := some_inj hm
 refine post_ret (vs := [U6 z150]) results30 (rvs_cons (rv_tmp z) rvs_nil) ?_
 exact ⟨z, hst.keep1⟩
}
}
 {
 replace hm := bif_f hc128 hm
 refine wp_iff (cvb hc128) ?_
 refine wp_skip (tn (wp_seq (wrl ?_)))
 refine wv (.int .u64 (0:Int)) z z z (wv (.int .u64 (0:Int)) z z z (wl_nil (tn (wp_ret ?_))))
 obtain rfl := some_inj hm
 refine post_ret (vs := [Zu]) results30 (rvs_cons (rv_tmp z) rvs_nil) ?_
 replace hst := hst.pull1
 exact ⟨z, hst.keep1⟩
}
}

theorem ref04_Span_ref {w0 w : World} {I : HL} {R : SP} {a0 : api_Config} {r0_0 : Value} {r0_1 : Value} {a1 : api_Span} (f0_0 : Rd (tyInt .u64) R I r0_0 a0.Up) (f0_1 : Rd tyF64 R I r0_1 a0.Cuts) (hst : St w0 w I [] R) {r : (Int)} (hm : ref04_Span a0 a1 = some r) :
  Calls prog 31 #[.agg #[r0_0, I6 a0.Nodes, r0_1, I6 a0.Frame, I6 a0.Depth, I6 a0.Quota, I6 a0.Wide, I6 a0.Beat, I6 a0.Elect], .agg #[I6 a1.Label, F6 a1.From, F6 a1.To]] w fun e w' => e = .returned (.int .u64 r) ∧ St w0 w' I [] R := by {
 unfold ref04_Span at hm
 refine calls_start (args := [.agg #[r0_0, I6 a0.Nodes, r0_1, I6 a0.Frame, I6 a0.Depth, I6 a0.Quota, I6 a0.Wide, I6 a0.Beat, I6 a0.Elect], .agg #[I6 a1.Label, F6 a1.From, F6 a1.To]]) func31 z ntmps31 (Nat.le_of_ble_eq_true z) ?_
 refine wp_seq (wrl ?_)
 obtain ⟨b152, w153, ew154, eb155, hst⟩ := hst.box [r0_0, I6 a0.Nodes, r0_1, I6 a0.Frame, I6 a0.Depth, I6 a0.Quota, I6 a0.Wide, I6 a0.Beat, I6 a0.Elect] 28
 refine wl_run (v := Pt b152 0) (w' := w153) z z (x_al (by kernel_rfl) ew154 eb155) ?_
 obtain ⟨b157, w158, ew159, eb160, hst⟩ := hst.box [I6 a1.Label, F6 a1.From, F6 a1.To] 53
 refine wl_run (v := Pt b157 0) (w' := w158) z z (x_al (by kernel_rfl) ew159 eb160) ?_
 refine wv (.int .u64 (0:Int)) z z z (wl_nil (tn (wp_seq (wrl (wv (.int .u64 (0:Int)) z z z (wl_nil (tn (wp_seq (wp_seq (wrl (wv (.int .i64 (0:Int)) z z z (wl_nil (tn (wp_block ?_))))))))))))))
 obtain ⟨n206, hm⟩ := loopO_some hm
 refine wp_loop_n (fun n a w => ∃ (z203 : Int) (z204 : Int) (σ205 : Nat → Value), loopN (ref04_Span_l0 a0 a1) n (z203, z204) = some r ∧ a = Fr 43 (upd (upd (upd (upd σ205 2 (Pt b152 0)) 3 (Pt b157 0)) 5 (.int .u64 z203)) 6 (.int .i64 z204)) ∧ St w0 w I [cells b157 [I6 a1.Label, F6 a1.From, F6 a1.To], cells b152 [r0_0, I6 a0.Nodes, r0_1, I6 a0.Frame, I6 a0.Depth, I6 a0.Quota, I6 a0.Wide, I6 a0.Beat, I6 a0.Elect]] R) n206 ⟨(0:Int), (0:Int), _, hm, (fu 2 (Pt b152 0) z (fu 3 (Pt b157 0) z (fu 5 (.int .u64 (0:Int)) z (fu 6 (.int .i64 (0:Int)) z z)))), hst⟩ ?_
 rintro n212 _ w207 ⟨z203, z204, σ205, hm, rfl, hst⟩
 obtain ⟨n209, y210, rfl, hm, hx211⟩ := loopN_some hm
 dsimp only [ref04_Span_l0] at hm
 refine wp_seq (wp_seq (wrl (wv (.int .i64 z204) z z z (wv (Pt b152 2) z z (x_field z underlying28 z sizeOf26 z) (wv (r0_1) z z (x_load z isAgg26 (hst.bc1 z)) (wv (.int .i64 ((a0.Cuts).length : Int)) z z (x_len z underlying26 (rd_sliceV f0_1)) (wv (.bool (decide (z204 ≤ ((a0.Cuts).length : Int)))) z z z (wl_nil (tn ?_)))))))))
 refine bsplit (decide (z204 ≤ ((a0.Cuts).length : Int))) (fun hc213 => ?_) (fun hc213 => ?_)
 {
 replace hm := bif_t hc213 hm
 refine wp_ift (cvb hc213) ?_
 refine wp_skip (tn (wp_seq (wp_block (wp_seq (wrl ?_)))))
 refine wv (Pt b157 2) z z (x_field z underlying53 z sizeOf36 z) (wv (.float .f64 a1.To) z z (x_load z isAgg36 (hst.bc0 z)) (wv (Pt b157 1) z z (x_field z underlying53 z sizeOf36 z) (wv (.float .f64 a1.From) z z (x_load z isAgg36 (hst.bc0 z)) ?_)))
 obtain ⟨t214, ht215, hm⟩ := bind_some hm
 refine wc call14 [F6 a1.To, F6 a1.From] z z z ?_
 refine (ref01_Ahead_ref hst.to0 ht215).mono ?_
 rintro _ w216 ⟨rfl, hst⟩
 refine ⟨_, z, ?_⟩
 replace hst := hst.of0
 refine wv (.bool (!t214)) z z z (wv (.bool (!t214)) z z z ?_)
 refine bsplit (!t214) (fun hc219 => ?_) (fun hc219 => ?_)
 {
 replace hm := bif_t hc219 hm
 refine wv (.int .i64 z204) ((wanted_eq z z z (cvb hc219)).trans z) z z (wv (Pt b152 2) ((wanted_eq z z z (cvb hc219)).trans z) z (x_field z underlying28 z sizeOf26 z) (wv (r0_1) ((wanted_eq z z z (cvb hc219)).trans z) z (x_load z isAgg26 (hst.bc1 z)) (wv (Pt b157 1) ((wanted_eq z z z (cvb hc219)).trans z) z (x_field z underlying53 z sizeOf36 z) (wv (.float .f64 a1.From) ((wanted_eq z z z (cvb hc219)).trans z) z (x_load z isAgg36 (hst.bc0 z)) ?_))))
 obtain ⟨t220, ht221, hm⟩ := bind_some hm
 refine wl_call ((wanted_eq z z z (cvb hc219)).trans z) z (x_call call29 z (vs := [r0_1, F6 a1.From]) z) ?_
 refine (ref01_Shard_ref (f0_1.mono (rd_weak _)) hst.to0 ht221).mono ?_
 rintro _ w222 ⟨rfl, hst⟩
 refine ⟨_, z, ?_⟩
 replace hst := hst.of0
 refine wv (.bool (decide (z204 ≥ t220))) ((wanted_eq z z z (cvb hc219)).trans z) z z (wv (.bool (decide (z204 ≥ t220))) z z (x_pick_t hc219 z z) (wv (.bool (decide (z204 ≥ t220))) z z z ?_))
 refine bsplit (decide (z204 ≥ t220)) (fun hc225 => ?_) (fun hc225 => ?_)
 {
 replace hm := bif_t hc225 hm
 refine wv (.int .i64 z204) ((wanted_eq z z z (cvb hc225)).trans z) z z (wv (Pt b152 2) ((wanted_eq z z z (cvb hc225)).trans z) z (x_field z underlying28 z sizeOf26 z) (wv (r0_1) ((wanted_eq z z z (cvb hc225)).trans z) z (x_load z isAgg26 (hst.bc1 z)) (wv (Pt b157 2) ((wanted_eq z z z (cvb hc225)).trans z) z (x_field z underlying53 z sizeOf36 z) (wv (.float .f64 a1.To) ((wanted_eq z z z (cvb hc225)).trans z) z (x_load z isAgg36 (hst.bc0 z)) ?_))))
 obtain ⟨t226, ht227, hm⟩ := bind_some hm
 refine wl_call ((wanted_eq z z z (cvb hc225)).trans z) z (x_call call29 z (vs := [r0_1, F6 a1.To]) z) ?_
 refine (ref01_Shard_ref (f0_1.mono (rd_weak _)) hst.to0 ht227).mono ?_
 rintro _ w228 ⟨rfl, hst⟩
 refine ⟨_, z, ?_⟩
 replace hst := hst.of0
 refine wv (.bool (decide (z204 ≤ t226))) ((wanted_eq z z z (cvb hc225)).trans z) z z (wv (.bool (decide (z204 ≤ t226))) z z (x_pick_t hc225 z z) (wl_nil (tn ?_)))
 refine bsplit (decide (z204 ≤ t226)) (fun hc231 => ?_) (fun hc231 => ?_)
 {
 replace hm := bif_t hc231 hm
 refine wp_ift (cvb hc231) ?_
 refine wrl (wv (.int .u64 z203) z z z (wv (.int .i64 z204) z z z ?_))
 obtain ⟨hg232, hm⟩ := gd_some hm
 refine wv (.int .u64 (iShl .u64 (1:Int) z204)) z z (x_shl (of_decide_eq_true hg232) z z) (wv (.int .u64 (bOr .u64 z203 (iShl .u64 (1:Int) z204))) z z z (wv (.int .u64 (bOr .u64 z203 (iShl .u64 (1:Int) z204))) z z z (wl_nil (blk_n (tn (wrl (wv (.int .i64 z204) z z z (wv (.int .i64 (i64.wrap (z204 + (1:Int)))) z z z (wv (.int .i64 (i64.wrap (z204 + (1:Int)))) z z z (wl_nil (tn ?_)))))))))))
 replace hst := hst.pull1.pull1.keep2
 obtain rfl := some_inj hm
 exact ⟨_, Nat.lt_succ_self _, (bOr .u64 z203 (iShl .u64 (1:Int) z204)), (i64.wrap (z204 + (1:Int))), _, hx211, (fu 2 (Pt b152 0) z (fu 3 (Pt b157 0) z (fu 5 (.int .u64 (bOr .u64 z203 (iShl .u64 (1:Int) z204))) z (fu 6 (.int .i64 (i64.wrap (z204 + (1:Int)))) z z)))), hst⟩
}
 {
 replace hm := bif_f hc231 hm
 refine wp_iff (cvb hc231) ?_
 refine wp_skip (blk_n (tn (wrl ?_)))
 refine wv (.int .i64 z204) z z z (wv (.int .i64 (i64.wrap (z204 + (1:Int)))) z z z (wv (.int .i64 (i64.wrap (z204 + (1:Int)))) z z z (wl_nil (tn ?_))))
 replace hst := hst.pull1.pull1.keep2
 obtain rfl := some_inj hm
 exact ⟨_, Nat.lt_succ_self _, z203, (i64.wrap (z204 + (1:Int))), _, hx211, (fu 2 (Pt b152 0) z (fu 3 (Pt b157 0) z (fu 5 (.int .u64 z203) z (fu 6 (.int .i64 (i64.wrap (z204 + (1:Int)))) z z)))), hst⟩
}
}
 {
 replace hm := bif_f hc225 hm
 refine wo hc225 z z z z z z (wo hc225 z z z z z z (wo hc225 z z z z z z (wo hc225 z z z z z z (wo hc225 z z z z z z (wo hc225 z z z z z z (wo hc225 z z z z z z (wv (.bool false) z z (x_pick_f hc225 z z) (wl_nil (tn ?_)))))))))
 refine wp_iff z ?_
 refine wp_skip (blk_n (tn (wrl ?_)))
 refine wv (.int .i64 z204) z z z (wv (.int .i64 (i64.wrap (z204 + (1:Int)))) z z z (wv (.int .i64 (i64.wrap (z204 + (1:Int)))) z z z (wl_nil (tn ?_))))
 replace hst := hst.pull1.pull1.keep2
 obtain rfl := some_inj hm
 exact ⟨_, Nat.lt_succ_self _, z203, (i64.wrap (z204 + (1:Int))), _, hx211, (fu 2 (Pt b152 0) z (fu 3 (Pt b157 0) z (fu 5 (.int .u64 z203) z (fu 6 (.int .i64 (i64.wrap (z204 + (1:Int)))) z z)))), hst⟩
}
}
 {
 replace hm := bif_f hc219 hm
 refine wo hc219 z z z z z z (wo hc219 z z z z z z (wo hc219 z z z z z z (wo hc219 z z z z z z (wo hc219 z z z z z z (wo hc219 z z z z z z (wo hc219 z z z z z z (wv (.bool false) z z (x_pick_f hc219 z z) (wv (.bool false) z z z (wz z z z z z z (wz z z z z z z (wz z z z z z z (wz z z z z z z ?_))))))))))))
 refine wz z z z z z z (wz z z z z z z (wz z z z z z z (wv (.bool false) z z (x_pick_f z z z) (wl_nil (tn ?_)))))
 refine wp_iff z ?_
 refine wp_skip (blk_n (tn (wrl ?_)))
 refine wv (.int .i64 z204) z z z (wv (.int .i64 (i64.wrap (z204 + (1:Int)))) z z z (wv (.int .i64 (i64.wrap (z204 + (1:Int)))) z z z (wl_nil (tn ?_))))
 replace hst := hst.pull1.pull1.keep2
 obtain rfl := some_inj hm
 exact ⟨_, Nat.lt_succ_self _, z203, (i64.wrap (z204 + (1:Int))), _, hx211, (fu 2 (Pt b152 0) z (fu 3 (Pt b157 0) z (fu 5 (.int .u64 z203) z (fu 6 (.int .i64 (i64.wrap (z204 + (1:Int)))) z z)))), hst⟩
}
}
 {
 replace hm := bif_f hc213 hm
 refine wp_iff (cvb hc213) ?_
 refine wp_exit (then_x (then_x ?_))
 replace hm := inr_up hm hx211
 refine blk_x (tn (wp_seq (wrl ?_)))
 refine wv (.int .u64 z203) z z z (wv (.int .u64 z203) z z z (wl_nil (tn (wp_ret ?_))))
 obtain rfl := some_inj hm
 refine post_ret (vs := [U6 z203]) results31 (rvs_cons (rv_tmp z) rvs_nil) ?_
 exact ⟨z, hst.keep0⟩
}
}

theorem law04_ConfigShards_ref {w0 w : World} {I : HL} {R : SP} {a0 : (List Nat)} {r0_0 : Value} {a1 : Nat} {a2 : Nat} (f0_0 : Ro tyF64 I r0_0 a0) (hst : St w0 w I [] R) {r : (Bool)} (hm : law04_ConfigShards a0 a1 a2 = some r) :
  Calls prog 8 #[r0_0, F6 a1, F6 a2] w fun e w' => ∃ (I' : HL), e = .returned (.bool r) ∧ I.le I' ∧ St w0 w' I' [] R := by {
 unfold law04_ConfigShards at hm
 refine calls_start (args := [r0_0, F6 a1, F6 a2]) func8 z ntmps8 (Nat.le_of_ble_eq_true z) ?_
 have hI0 := HL.le.refl I
 refine wp_seq (wrl (wv (.bool false) z z z (wl_nil (tn (wp_seq (wp_seq (wrl ?_)))))))
 obtain ⟨t90, ht91, hm⟩ := bind_some hm
 refine wc call9 [] z z z ?_
 refine (law04_awake_ref hst.to0 ht91).mono ?_
 rintro _ w92 ⟨I93, rfl, hI94, hst⟩
 refine ⟨_, z, ?_⟩
 replace hst := hst.of0
 replace f0_0 := f0_0.mono (ro_le hI94)
 replace hI0 := hI0.trans hI94
 refine wv (.bool (!t90)) z z z (wv (.bool (!t90)) z z z ?_)
 refine bsplit (!t90) (fun hc95 => ?_) (fun hc95 => ?_)
 {
 replace hm := bif_t hc95 hm
 refine wo hc95 z z z z z z (wo hc95 z z z z z z (wo hc95 z z z z z z (wv (.bool true) z z (x_pick_t hc95 z z) (wv (.bool true) z z z (wz z z z z z z (wz z z z z z z (wz z z z z z z (wv (.bool true) z z (x_pick_t z z z) (wl_nil (tn ?_))))))))))
 refine wp_ift z ?_
 refine wp_seq (wrl ?_)
 obtain ⟨t96, ht97, hm⟩ := bind_some hm
 refine wc call9 [] z z z ?_
 refine (law04_awake_ref hst.to0 ht97).mono ?_
 rintro _ w98 ⟨I99, rfl, hI100, hst⟩
 refine ⟨_, z, ?_⟩
 replace hst := hst.of0
 replace f0_0 := f0_0.mono (ro_le hI100)
 replace hI0 := hI0.trans hI100
 refine wv (.bool t96) z z z (wl_nil (tn (wp_ret (then_r ?_))))
 obtain rfl := some_inj hm
 refine post_ret (vs := [.bool t96]) results8 (rvs_cons (rv_tmp z) rvs_nil) ?_
 exact ⟨_, z, hI0, hst.keep0⟩
}
 {
 replace hm := bif_f hc95 hm
 refine wv (r0_0) ((wanted_eq z z z (cvb hc95)).trans z) z z (wv (.int .i64 ((a0).length : Int)) ((wanted_eq z z z (cvb hc95)).trans z) z (x_len z underlying26 (ro_sliceV f0_0)) (wv (.bool (decide (((a0).length : Int) > (7:Int)))) ((wanted_eq z z z (cvb hc95)).trans z) z z (wv (.bool (decide (((a0).length : Int) > (7:Int)))) z z (x_pick_f hc95 z z) (wv (.bool (decide (((a0).length : Int) > (7:Int)))) z z z ?_))))
 refine bsplit (decide (((a0).length : Int) > (7:Int))) (fun hc101 => ?_) (fun hc101 => ?_)
 {
 replace hm := bif_t hc101 hm
 refine wo hc101 z z z z z z (wo hc101 z z z z z z (wo hc101 z z z z z z (wv (.bool true) z z (x_pick_t hc101 z z) (wl_nil (tn ?_)))))
 refine wp_ift z ?_
 refine wp_seq (wrl ?_)
 obtain ⟨t102, ht103, hm⟩ := bind_some hm
 refine wc call9 [] z z z ?_
 refine (law04_awake_ref hst.to0 ht103).mono ?_
 rintro _ w104 ⟨I105, rfl, hI106, hst⟩
 refine ⟨_, z, ?_⟩
 replace hst := hst.of0
 replace f0_0 := f0_0.mono (ro_le hI106)
 replace hI0 := hI0.trans hI106
 refine wv (.bool t102) z z z (wl_nil (tn (wp_ret (then_r ?_))))
 obtain rfl := some_inj hm
 refine post_ret (vs := [.bool t102]) results8 (rvs_cons (rv_tmp z) rvs_nil) ?_
 exact ⟨_, z, hI0, hst.keep0⟩
}
 {
 replace hm := bif_f hc101 hm
 refine wv (r0_0) ((wanted_eq z z z (cvb hc101)).trans z) z z ?_
 obtain ⟨t107, ht108, hm⟩ := bind_some hm
 refine wl_call ((wanted_eq z z z (cvb hc101)).trans z) z (x_call call16 z (vs := [r0_0]) z) ?_
 refine (ref01_Rising_ref (f0_0.mono ro_rd) hst.to0 ht108).mono ?_
 rintro _ w109 ⟨rfl, hst⟩
 refine ⟨_, z, ?_⟩
 replace hst := hst.of0
 refine wv (.bool (!t107)) ((wanted_eq z z z (cvb hc101)).trans z) z z (wv (.bool (!t107)) z z (x_pick_f hc101 z z) (wl_nil (tn ?_)))
 refine bsplit (!t107) (fun hc112 => ?_) (fun hc112 => ?_)
 {
 replace hm := bif_t hc112 hm
 refine wp_ift (cvb hc112) ?_
 refine wp_seq (wrl ?_)
 obtain ⟨t113, ht114, hm⟩ := bind_some hm
 refine wc call9 [] z z z ?_
 refine (law04_awake_ref hst.to0 ht114).mono ?_
 rintro _ w115 ⟨I116, rfl, hI117, hst⟩
 refine ⟨_, z, ?_⟩
 replace hst := hst.of0
 replace f0_0 := f0_0.mono (ro_le hI117)
 replace hI0 := hI0.trans hI117
 refine wv (.bool t113) z z z (wl_nil (tn (wp_ret (then_r ?_))))
 obtain rfl := some_inj hm
 refine post_ret (vs := [.bool t113]) results8 (rvs_cons (rv_tmp z) rvs_nil) ?_
 exact ⟨_, z, hI0, hst.keep0⟩
}
 {
 replace hm := bif_f hc112 hm
 refine wp_iff (cvb hc112) ?_
 refine wp_skip (tn (wp_seq (wrl ?_)))
 obtain ⟨t118, ht119, hm⟩ := bind_some hm
 refine wc call13 [Zb] z z z ?_
 refine (ref04_Small_ref hst.to0 ht119).mono ?_
 rintro _ w120 ⟨v123, v125, rfl, hst⟩
 refine ⟨_, z, ?_⟩
 replace hst := hst.of2
 obtain ⟨b129, w130, ew131, eb132, hst⟩ := hst.box [Zs, Zi, Zs, Zi, Zi, Zi, Zi, Zi, Zi] 28
 refine wl_run (v := Pt b129 0) (w' := w130) z z (x_al (by kernel_rfl) ew131 eb132) ?_
 obtain ⟨w134, hr135, hst⟩ := hst.bx [v123, I6 t118.Nodes, v125, I6 t118.Frame, I6 t118.Depth, I6 t118.Quota, I6 t118.Wide, I6 t118.Beat, I6 t118.Elect] sizeOf28 z (oC (one_of_sliceV hst.sv1) (oC z (oC (one_of_sliceV hst.sv2) (oC z (oC z (oC z (oC z (oC z (oC z oN))))))))) (by kernel_rfl)
 refine wl_unit z z (x_unit hr135) ?_
 refine wl_nil (tn (wp_seq (wrl (wv (r0_0) z z z (wv (Pt b129 2) z z (x_field z underlying28 z sizeOf26 z) ?_)))))
 obtain ⟨w136, hr137, hst⟩ := hst.boxStore1 (P := prog) (t := 26) (cs' := [v123, I6 t118.Nodes, r0_0, I6 t118.Frame, I6 t118.Depth, I6 t118.Quota, I6 t118.Wide, I6 t118.Beat, I6 t118.Elect]) 2 r0_0 (one_of_sliceV (ro_sliceV f0_0)) sizeOf26 z z
 refine wl_unit z z (x_unit hr137) ?_
 refine wl_nil (tn (wp_seq (wrl (wv (.agg #[v123, I6 t118.Nodes, r0_0, I6 t118.Frame, I6 t118.Depth, I6 t118.Quota, I6 t118.Wide, I6 t118.Beat, I6 t118.Elect]) z z (x_loadN (cs := [v123, I6 t118.Nodes, r0_0, I6 t118.Frame, I6 t118.Depth, I6 t118.Quota, I6 t118.Wide, I6 t118.Beat, I6 t118.Elect]) z isAgg28 sizeOf28 (hst.bcs0 0 z)) ?_))))
 replace hst := hst.pull1
 obtain ⟨I138, hI139, f140, hst⟩ := hst.own_fix
 replace f0_0 := f0_0.mono (ro_le hI139)
 replace hI0 := hI0.trans hI139
 obtain ⟨t141, ht142, hm⟩ := bind_some hm
 refine wc call11 [.agg #[v123, I6 t118.Nodes, r0_0, I6 t118.Frame, I6 t118.Depth, I6 t118.Quota, I6 t118.Wide, I6 t118.Beat, I6 t118.Elect]] z z z ?_
 refine (config_New_ref (a0 := ({ Up := t118.Up, Nodes := t118.Nodes, Cuts := a0, Frame := t118.Frame, Depth := t118.Depth, Quota := t118.Quota, Wide := t118.Wide, Beat := t118.Beat, Elect := t118.Elect } : api_Config)) f140 f0_0 hst.to0 ht142).mono ?_
 rintro _ w143 ⟨I144, v146, rfl, hI145, hst⟩
 refine ⟨_, z, ?_⟩
 replace hst := hst.of1
 replace f0_0 := f0_0.mono (ro_le hI145)
 replace f140 := f140.mono (ro_le hI145)
 replace hI0 := hI0.trans hI145
 refine wv (.tuple #[v146, I6 t141.2]) z z z (wv (v146) z z z (wv (.int .i64 t141.2) z z z (wv (v146) z z z (wv (.int .i64 t141.2) z z z (wl_nil (tn (wp_seq (wrl (wv (.float .f64 a1) z z z (wv (.float .f64 a2) z z z (wv (.agg #[Zi, F6 a1, F6 a2]) z z (by kernel_rfl) ?_)))))))))))
 obtain ⟨b148, w149, ew150, eb151, hst⟩ := hst.box [Zi, Zf, Zf] 53
 refine wl_run (v := Pt b148 0) (w' := w149) z z (x_al (by kernel_rfl) ew150 eb151) ?_
 obtain ⟨w153, hr154, hst⟩ := hst.bx [Zi, F6 a1, F6 a2] sizeOf53 z (oC z (oC z (oC z oN))) (by kernel_rfl)
 refine wl_unit z z (x_unit hr154) ?_
 refine wl_nil (tn (wp_seq ?_))
 refine wp_region_St hst 21 [0, 1, 2, 3, 4, 5, 6, 7, 8, 9, 10, 11, 12, 13, 14, 15, 16, 17, 18, 19, 20] [0, 1, 3, 7, 7, 31, 7, 7, 255, 511, 1023, 2047, 4095, 4095, 16383, 4095, 4095, 131071, 262143, 524287, 1048575] [] z (by kernel_rfl) (by kernel_rfl) Try.mixed (by kernel_rfl) ?_
 refine wsr (.int .i64 t141.2) 0 z z z (by kernel_rfl) (fun w hst => z) (wsr (.bool (t141.2 == (0:Int))) 1 z z z (by kernel_rfl) (fun w hst => z) (wsr (.bool (t141.2 == (0:Int))) 2 z z z (by kernel_rfl) (fun w hst => z) ?_))
 refine bsplit (t141.2 == (0:Int)) (fun hc155 => ?_) (fun hc155 => ?_)
 {
 replace hm := bif_t hc155 hm
 refine ws_q (v := v146) 3 [4, 5, 6, 7, 8, 9, 10, 11, 12, 13, 14, 15, 16, 17, 18, 19, 20] (by kernel_rfl) z z (yi_run ((wanted_eq z z z (cvb hc155)).trans z) (fun w hst => z)) (ws_q (v := .float .f64 a1) 4 [5, 6, 7, 8, 9, 10, 11, 12, 13, 14, 15, 16, 17, 18, 19, 20] (by kernel_rfl) z z (yi_run ((wanted_eq z z z (cvb hc155)).trans z) (fun w hst => z)) (ws_q (v := r0_0) 6 [5, 7, 8, 9, 10, 11, 12, 13, 14, 15, 16, 17, 18, 19, 20] (by kernel_rfl) z z (yi_run ((wanted_eq z z z (cvb hc155)).trans z) (fun w hst => z)) (ws_q (v := .float .f64 a1) 7 [5, 8, 9, 10, 11, 12, 13, 14, 15, 16, 17, 18, 19, 20] (by kernel_rfl) z z (yi_run ((wanted_eq z z z (cvb hc155)).trans z) (fun w hst => z)) ?_)))
 refine ws_e1 5 (by kernel_rfl) ?_
 refine nxe [8, 9, 10, 11, 12, 13, 14, 15, 16, 17, 18, 19, 20] (by kernel_rfl) z ((wanted_eq z z z (cvb hc155)).trans z) ?_
 clear hst
 intro w hst
 replace hst := hst.pull1
 obtain ⟨t156, ht157, hm⟩ := bind_some hm
 refine wec call28 [v146, F6 a1] z z ?_
 refine (config_Plan_Shard_ref hst.to1 ht157).mono ?_
 rintro _ w158 ⟨rfl, hst⟩
 refine ⟨_, z, ?_⟩
 replace hst := hst.of1
 refine ws_next (pend' := [(7, F6 a1), (6, r0_0)]) hst (by kernel_rfl) (pk_cons z (yi_run ((wanted_eq z z z (cvb hc155)).trans z) (fun w hst => z)) (pk_cons z (yi_run ((wanted_eq z z z (cvb hc155)).trans z) (fun w hst => z)) pk_nil)) ?_
 refine ws_e1 8 (by kernel_rfl) ?_
 refine nxe [9, 10, 11, 12, 13, 14, 15, 16, 17, 18, 19, 20] (by kernel_rfl) z ((wanted_eq z z z (cvb hc155)).trans z) ?_
 clear hst
 intro w hst
 obtain ⟨t161, ht162, hm⟩ := bind_some hm
 refine wec call29 [r0_0, F6 a1] z z ?_
 refine (ref01_Shard_ref (f0_0.mono ro_rd) hst.to0 ht162).mono ?_
 rintro _ w163 ⟨rfl, hst⟩
 refine ⟨_, z, ?_⟩
 replace hst := hst.of0
 refine ws_next (pend' := []) hst (by kernel_rfl) pk_nil ?_
 refine ws_q (v := .bool (t156 == t161)) 9 [10, 11, 12, 13, 14, 15, 16, 17, 18, 19, 20] (by kernel_rfl) z z (yi_run ((wanted_eq z z z (cvb hc155)).trans z) (fun w hst => z)) (wsr (.bool (t156 == t161)) 10 z z z (by kernel_rfl) (fun w hst => x_pick_t hc155 z z) (wsr (.bool (t156 == t161)) 11 z z z (by kernel_rfl) (fun w hst => z) ?_))
 refine bsplit (t156 == t161) (fun hc166 => ?_) (fun hc166 => ?_)
 {
 replace hm := bif_t hc166 hm
 refine ws_q (v := v146) 12 [13, 14, 15, 16, 17, 18, 19, 20] (by kernel_rfl) z z (yi_run ((wanted_eq z z z (cvb hc166)).trans z) (fun w hst => z)) (ws_q (v := .agg #[Zi, F6 a1, F6 a2]) 13 [14, 15, 16, 17, 18, 19, 20] (by kernel_rfl) z z (yi_run ((wanted_eq z z z (cvb hc166)).trans z) (fun w hst => x_loadN (cs := [Zi, F6 a1, F6 a2]) z isAgg53 sizeOf53 (hst.bcs1 0 z))) (ws_q (v := .agg #[v123, I6 t118.Nodes, r0_0, I6 t118.Frame, I6 t118.Depth, I6 t118.Quota, I6 t118.Wide, I6 t118.Beat, I6 t118.Elect]) 15 [14, 16, 17, 18, 19, 20] (by kernel_rfl) z z (yi_run ((wanted_eq z z z (cvb hc166)).trans z) (fun w hst => x_loadN (cs := [v123, I6 t118.Nodes, r0_0, I6 t118.Frame, I6 t118.Depth, I6 t118.Quota, I6 t118.Wide, I6 t118.Beat, I6 t118.Elect]) z isAgg28 sizeOf28 (hst.bcs2 0 z))) (ws_q (v := .agg #[Zi, F6 a1, F6 a2]) 16 [14, 17, 18, 19, 20] (by kernel_rfl) z z (yi_run ((wanted_eq z z z (cvb hc166)).trans z) (fun w hst => x_loadN (cs := [Zi, F6 a1, F6 a2]) z isAgg53 sizeOf53 (hst.bcs1 0 z))) ?_)))
 refine ws_e1 14 (by kernel_rfl) ?_
 refine nxe [17, 18, 19, 20] (by kernel_rfl) z ((wanted_eq z z z (cvb hc166)).trans z) ?_
 clear hst
 intro w hst
 obtain ⟨t167, ht168, hm⟩ := bind_some hm
 refine wec call30 [v146, .agg #[Zi, F6 a1, F6 a2]] z z ?_
 refine (config_Plan_Span_ref hst.to1 ht168).mono ?_
 rintro _ w169 ⟨rfl, hst⟩
 refine ⟨_, z, ?_⟩
 replace hst := hst.of1
 refine ws_next (pend' := [(16, .agg #[Zi, F6 a1, F6 a2]), (15, .agg #[v123, I6 t118.Nodes, r0_0, I6 t118.Frame, I6 t118.Depth, I6 t118.Quota, I6 t118.Wide, I6 t118.Beat, I6 t118.Elect])]) hst (by kernel_rfl) (pk_cons z (yi_run ((wanted_eq z z z (cvb hc166)).trans z) (fun w hst => x_loadN (cs := [Zi, F6 a1, F6 a2]) z isAgg53 sizeOf53 (hst.bcs1 0 z))) (pk_cons z (yi_run ((wanted_eq z z z (cvb hc166)).trans z) (fun w hst => x_loadN (cs := [v123, I6 t118.Nodes, r0_0, I6 t118.Frame, I6 t118.Depth, I6 t118.Quota, I6 t118.Wide, I6 t118.Beat, I6 t118.Elect]) z isAgg28 sizeOf28 (hst.bcs2 0 z))) pk_nil)) ?_
 refine ws_e1 17 (by kernel_rfl) ?_
 refine nxe [18, 19, 20] (by kernel_rfl) z ((wanted_eq z z z (cvb hc166)).trans z) ?_
 clear hst
 intro w hst
 obtain ⟨t172, ht173, hm⟩ := bind_some hm
 refine wec call31 [.agg #[v123, I6 t118.Nodes, r0_0, I6 t118.Frame, I6 t118.Depth, I6 t118.Quota, I6 t118.Wide, I6 t118.Beat, I6 t118.Elect], .agg #[Zi, F6 a1, F6 a2]] z z ?_
 refine (ref04_Span_ref (a0 := ({ Up := t118.Up, Nodes := t118.Nodes, Cuts := a0, Frame := t118.Frame, Depth := t118.Depth, Quota := t118.Quota, Wide := t118.Wide, Beat := t118.Beat, Elect := t118.Elect } : api_Config)) (f140.mono ro_rd) (f0_0.mono ro_rd) hst.to0 ht173).mono ?_
 rintro _ w174 ⟨rfl, hst⟩
 refine ⟨_, z, ?_⟩
 replace hst := hst.of0
 refine ws_next (pend' := []) hst (by kernel_rfl) pk_nil ?_
 refine ws_q (v := .bool (t167 == t172)) 18 [19, 20] (by kernel_rfl) z z (yi_run ((wanted_eq z z z (cvb hc166)).trans z) (fun w hst => z)) (wsr (.bool (t167 == t172)) 19 z z z (by kernel_rfl) (fun w hst => x_pick_t hc166 z z) (wsr (.bool (t167 == t172)) 20 z z z (by kernel_rfl) (fun w hst => z) ?_))
 refine ws_nil ?_
 intro w hst
 refine tn (wp_ret ?_)
 obtain rfl := some_inj hm
 refine post_ret (vs := [.bool (t167 == t172)]) results8 (rvs_cons (rv_tmp z) rvs_nil) ?_
 exact ⟨_, z, hI0, hst.keep0⟩
}
 {
 replace hm := bif_f hc166 hm
 refine ws_q (v := undef) 12 [13, 14, 15, 16, 17, 18, 19, 20] (by kernel_rfl) z z (yi_off ((wanted_eq z z z (cvb hc166)).trans z)) (ws_q (v := undef) 13 [14, 15, 16, 17, 18, 19, 20] (by kernel_rfl) z z (yi_off ((wanted_eq z z z (cvb hc166)).trans z)) (ws_q (v := undef) 14 [15, 16, 17, 18, 19, 20] (by kernel_rfl) z z (yi_off ((wanted_eq z z z (cvb hc166)).trans z)) (ws_q (v := undef) 15 [16, 17, 18, 19, 20] (by kernel_rfl) z z (yi_off ((wanted_eq z z z (cvb hc166)).trans z)) (ws_q (v := undef) 16 [17, 18, 19, 20] (by kernel_rfl) z z (yi_off ((wanted_eq z z z (cvb hc166)).trans z)) (ws_q (v := undef) 17 [18, 19, 20] (by kernel_rfl) z z (yi_off ((wanted_eq z z z (cvb hc166)).trans z)) (ws_q (v := undef) 18 [19, 20] (by kernel_rfl) z z (yi_off ((wanted_eq z z z (cvb hc166)).trans z)) (wsr (.bool false) 19 z z z (by kernel_rfl) (fun w hst => x_pick_f hc166 z z) (wsr (.bool false) 20 z z z (by kernel_rfl) (fun w hst => z) ?_))))))))
 refine ws_nil ?_
 intro w hst
 refine tn (wp_ret ?_)
 obtain rfl := some_inj hm
 refine post_ret (vs := [.bool false]) results8 (rvs_cons (rv_tmp z) rvs_nil) ?_
 exact ⟨_, z, hI0, hst.keep0⟩
}
}
 {
 replace hm := bif_f hc155 hm
 refine ws_q (v := undef) 3 [4, 5, 6, 7, 8, 9, 10, 11, 12, 13, 14, 15, 16, 17, 18, 19, 20] (by kernel_rfl) z z (yi_off ((wanted_eq z z z (cvb hc155)).trans z)) (ws_q (v := undef) 4 [5, 6, 7, 8, 9, 10, 11, 12, 13, 14, 15, 16, 17, 18, 19, 20] (by kernel_rfl) z z (yi_off ((wanted_eq z z z (cvb hc155)).trans z)) (ws_q (v := undef) 5 [6, 7, 8, 9, 10, 11, 12, 13, 14, 15, 16, 17, 18, 19, 20] (by kernel_rfl) z z (yi_off ((wanted_eq z z z (cvb hc155)).trans z)) (ws_q (v := undef) 6 [7, 8, 9, 10, 11, 12, 13, 14, 15, 16, 17, 18, 19, 20] (by kernel_rfl) z z (yi_off ((wanted_eq z z z (cvb hc155)).trans z)) (ws_q (v := undef) 7 [8, 9, 10, 11, 12, 13, 14, 15, 16, 17, 18, 19, 20] (by kernel_rfl) z z (yi_off ((wanted_eq z z z (cvb hc155)).trans z)) (ws_q (v := undef) 8 [9, 10, 11, 12, 13, 14, 15, 16, 17, 18, 19, 20] (by kernel_rfl) z z (yi_off ((wanted_eq z z z (cvb hc155)).trans z)) (ws_q (v := undef) 9 [10, 11, 12, 13, 14, 15, 16, 17, 18, 19, 20] (by kernel_rfl) z z (yi_off ((wanted_eq z z z (cvb hc155)).trans z)) (wsr (.bool false) 10 z z z (by kernel_rfl) (fun w hst => x_pick_f hc155 z z) (wsr (.bool false) 11 z z z (by kernel_rfl) (fun w hst => z) (ws_q (v := undef) 12 [13, 14, 15, 16, 17, 18, 19, 20] (by kernel_rfl) z z (yi_off ((wanted_eq z z z z).trans z)) (ws_q (v := undef) 13 [14, 15, 16, 17, 18, 19, 20] (by kernel_rfl) z z (yi_off ((wanted_eq z z z z).trans z)) (ws_q (v := undef) 14 [15, 16, 17, 18, 19, 20] (by kernel_rfl) z z (yi_off ((wanted_eq z z z z).trans z)) (ws_q (v := undef) 15 [16, 17, 18, 19, 20] (by kernel_rfl) z z (yi_off ((wanted_eq z z z z).trans z)) ?_))))))))))))
 refine ws_q (v := undef) 16 [17, 18, 19, 20] (by kernel_rfl) z z (yi_off ((wanted_eq z z z z).trans z)) (ws_q (v := undef) 17 [18, 19, 20] (by kernel_rfl) z z (yi_off ((wanted_eq z z z z).trans z)) (ws_q (v := undef) 18 [19, 20] (by kernel_rfl) z z (yi_off ((wanted_eq z z z z).trans z)) (wsr (.bool false) 19 z z z (by kernel_rfl) (fun w hst => x_pick_f z z z) (wsr (.bool false) 20 z z z (by kernel_rfl) (fun w hst => z) ?_))))
 refine ws_nil ?_
 intro w hst
 refine tn (wp_ret ?_)
 obtain rfl := some_inj hm
 refine post_ret (vs := [.bool false]) results8 (rvs_cons (rv_tmp z) rvs_nil) ?_
 exact ⟨_, z, hI0, hst.keep0⟩
}
}
}
}
}

end Go.Proofs.Ytkjkbfaaigmmcaa
