/- The Go functions refine their models, part 2. -/
import Derived.Test.YtkjkbfaaigmmcaaConfigNearR1
set_option linter.unusedVariables false
set_option linter.unusedSimpArgs false
set_option maxRecDepth 100000
set_option maxHeartbeats 4000000
namespace Go.Proofs.Ytkjkbfaaigmmcaa
open Go Go.V
open _root_.Go.Proofs.Try IntKind
attribute [local irreducible] wpList Code.wp wpQuiet Calls bodyPost Oper.wp wpS Nx PendOK YieldsIn
theorem config_New_ref {w0 w : World} {I : HL} {R : SP} {a0 : api_Config} {r0_0 : Value} {r0_1 : Value} (f0_0 : Ro (tyInt .u64) I r0_0 a0.Up) (f0_1 : Ro tyF64 I r0_1 a0.Cuts) (hst : St w0 w I [] R) {r : (Option config_Plan × Int)} (hm : config_New a0 = some r) :
  Calls prog 11 #[.agg #[r0_0, I6 a0.Nodes, r0_1, I6 a0.Frame, I6 a0.Depth, I6 a0.Quota, I6 a0.Wide, I6 a0.Beat, I6 a0.Elect]] w fun e w' => ∃ (I' : HL) (q0 : Value), e = .returned (.tuple #[q0, I6 r.2]) ∧ I.le I' ∧ St w0 w' I' [objO at_config_Plan q0 r.1] R := by {
 unfold config_New at hm
 refine calls_start (args := [.agg #[r0_0, I6 a0.Nodes, r0_1, I6 a0.Frame, I6 a0.Depth, I6 a0.Quota, I6 a0.Wide, I6 a0.Beat, I6 a0.Elect]]) func11 z ntmps11 (Nat.le_of_ble_eq_true z) ?_
 have hI0 := HL.le.refl I
 refine wp_seq (wrl ?_)
 obtain ⟨b117, w118, ew119, eb120, hst⟩ := hst.box [r0_0, I6 a0.Nodes, r0_1, I6 a0.Frame, I6 a0.Depth, I6 a0.Quota, I6 a0.Wide, I6 a0.Beat, I6 a0.Elect] 28
 refine wl_run (v := Pt b117 0) (w' := w118) z z (x_al (by kernel_rfl) ew119 eb120) ?_
 refine wv (.pointer none) z z z (wv (.int .i64 (0:Int)) z z z (wl_nil (tn (wp_seq (wp_block ?_)))))
 obtain ⟨y133, hm, hx134⟩ := bind_some hm
 refine wp_cut (fun a w => ∃ (z130 : Bool) (σ131 : Nat → Value), (config_New_j0 a0) z130 = some r ∧ a = Fr 86 (upd (upd σ131 1 (Pt b117 0)) 6 (.bool z130)) ∧ St w0 w I [cells b117 [r0_0, I6 a0.Nodes, r0_1, I6 a0.Frame, I6 a0.Depth, I6 a0.Quota, I6 a0.Wide, I6 a0.Beat, I6 a0.Elect]] R) ?_ ?_
 {
 refine wp_seq (wrl (wv (Pt b117 1) z z (x_field z underlying28 z sizeOf3 z) (wv (.int .i64 a0.Nodes) z z (x_load z isAgg3 (hst.bc0 z)) (wv (.bool (decide (a0.Nodes < (1:Int)))) z z z (wv (.bool (decide (a0.Nodes < (1:Int)))) z z z ?_)))))
 refine bsplit (decide (a0.Nodes < (1:Int))) (fun hc122 => ?_) (fun hc122 => ?_)
 {
 replace hm := bif_t hc122 hm
 refine wo hc122 z z z z z z (wo hc122 z z z z z z (wo hc122 z z z z z z (wv (.bool true) z z (x_pick_t hc122 z z) (wv (.bool true) z z z (wl_nil (tn ?_))))))
 refine wp_ift z ?_
 refine wp_skip (tn ?_)
 replace hst := hst.keep1
 obtain rfl := some_inj hm
 exact ⟨true, _, hx134, (fu 1 (Pt b117 0) z (fu 6 (.bool true) z z)), hst⟩
}
 {
 replace hm := bif_f hc122 hm
 refine wv (Pt b117 1) ((wanted_eq z z z (cvb hc122)).trans z) z (x_field z underlying28 z sizeOf3 z) (wv (.int .i64 a0.Nodes) ((wanted_eq z z z (cvb hc122)).trans z) z (x_load z isAgg3 (hst.bc0 z)) (wv (.bool (decide (a0.Nodes > (7:Int)))) ((wanted_eq z z z (cvb hc122)).trans z) z z (wv (.bool (decide (a0.Nodes > (7:Int)))) z z (x_pick_f hc122 z z) (wv (.bool (decide (a0.Nodes > (7:Int)))) z z z (wl_nil (tn ?_))))))
 refine bsplit (decide (a0.Nodes > (7:Int))) (fun hc123 => ?_) (fun hc123 => ?_)
 {
 replace hm := bif_t hc123 hm
 refine wp_ift (cvb hc123) ?_
 refine wp_skip (tn ?_)
 replace hst := hst.keep1
 obtain rfl := some_inj hm
 exact ⟨(decide (a0.Nodes > (7:Int))), _, hx134, (fu 1 (Pt b117 0) z (fu 6 (.bool (decide (a0.Nodes > (7:Int)))) z z)), hst⟩
}
 {
 replace hm := bif_f hc123 hm
 refine wp_iff (cvb hc123) ?_
 refine wp_seq (wrl (wv (Pt b117 2) z z (x_field z underlying28 z sizeOf26 z) (wv (r0_1) z z (x_load z isAgg26 (hst.bc0 z)) (wv (.int .i64 ((a0.Cuts).length : Int)) z z (x_len z underlying26 (ro_sliceV f0_1)) (wv (.bool (decide (((a0.Cuts).length : Int) ≥ (8:Int)))) z z z (wv (.bool (decide (((a0.Cuts).length : Int) ≥ (8:Int)))) z z z (wl_nil (tn ?_))))))))
 refine bsplit (decide (((a0.Cuts).length : Int) ≥ (8:Int))) (fun hc124 => ?_) (fun hc124 => ?_)
 {
 replace hm := bif_t hc124 hm
 refine wp_ift (cvb hc124) ?_
 refine wp_skip (tn ?_)
 replace hst := hst.keep1
 obtain rfl := some_inj hm
 exact ⟨(decide (((a0.Cuts).length : Int) ≥ (8:Int))), _, hx134, (fu 1 (Pt b117 0) z (fu 6 (.bool (decide (((a0.Cuts).length : Int) ≥ (8:Int)))) z z)), hst⟩
}
 {
 replace hm := bif_f hc124 hm
 refine wp_iff (cvb hc124) ?_
 refine wrl (wv (Pt b117 2) z z (x_field z underlying28 z sizeOf26 z) (wv (r0_1) z z (x_load z isAgg26 (hst.bc0 z)) ?_))
 obtain ⟨t125, ht126, hm⟩ := bind_some hm
 refine wc call33 [r0_1] z z z ?_
 refine (number_Rising_ref (f0_1.mono ro_rd) hst.to0 ht126).mono ?_
 rintro _ w127 ⟨rfl, hst⟩
 refine ⟨_, z, ?_⟩
 replace hst := hst.of0
 refine wv (.bool (!t125)) z z z (wv (.bool (!t125)) z z z (wl_nil (tn ?_)))
 replace hst := hst.keep1
 obtain rfl := some_inj hm
 exact ⟨(!t125), _, hx134, (fu 1 (Pt b117 0) z (fu 6 (.bool (!t125)) z z)), hst⟩
}
}
}
}
 {
 clear hst
 rintro _ w135 ⟨z130, σ131, hm, rfl, hst⟩
 dsimp only [config_New_j0] at hm
 refine bsplit z130 (fun hc136 => ?_) (fun hc136 => ?_)
 {
 replace hm := bif_t hc136 hm
 refine wp_ift (cvb hc136) ?_
 refine wp_seq (wrl (wv (.pointer none) z z z (wv (.int .i64 (1:Int)) z z z (wl_nil (tn (wp_ret (blk_r (then_r ?_))))))))
 replace hst := hst.objO_nil at_config_Plan
 obtain rfl := some_inj hm
 refine post_ret (vs := [.pointer none, I6 (1:Int)]) results11 (rvs_cons (rv_tmp z) (rvs_cons (rv_tmp z) rvs_nil)) ?_
 exact ⟨_, .pointer none, z, hI0, hst.keep1⟩
}
 {
 replace hm := bif_f hc136 hm
 refine wp_iff (cvb hc136) ?_
 obtain ⟨y144, hm, hx145⟩ := bind_some hm
 refine wp_cut (fun a w => ∃ (z141 : Bool) (σ142 : Nat → Value), (config_New_j1 a0) z141 = some r ∧ a = Fr 86 (upd (upd σ142 1 (Pt b117 0)) 23 (.bool z141)) ∧ St w0 w I [cells b117 [r0_0, I6 a0.Nodes, r0_1, I6 a0.Frame, I6 a0.Depth, I6 a0.Quota, I6 a0.Wide, I6 a0.Beat, I6 a0.Elect]] R) ?_ ?_
 {
 refine wp_seq (wrl (wv (Pt b117 3) z z (x_field z underlying28 z sizeOf3 z) (wv (.int .i64 a0.Frame) z z (x_load z isAgg3 (hst.bc0 z)) (wv (.bool (decide (a0.Frame < (64:Int)))) z z z (wv (.bool (decide (a0.Frame < (64:Int)))) z z z ?_)))))
 refine bsplit (decide (a0.Frame < (64:Int))) (fun hc138 => ?_) (fun hc138 => ?_)
 {
 replace hm := bif_t hc138 hm
 refine wo hc138 z z z z z z (wo hc138 z z z z z z (wo hc138 z z z z z z (wv (.bool true) z z (x_pick_t hc138 z z) (wv (.bool true) z z z (wl_nil (tn ?_))))))
 refine wp_ift z ?_
 refine wp_skip (tn ?_)
 replace hst := hst.keep1
 obtain rfl := some_inj hm
 exact ⟨true, _, hx145, (fu 1 (Pt b117 0) z (fu 23 (.bool true) z z)), hst⟩
}
 {
 replace hm := bif_f hc138 hm
 refine wv (Pt b117 3) ((wanted_eq z z z (cvb hc138)).trans z) z (x_field z underlying28 z sizeOf3 z) (wv (.int .i64 a0.Frame) ((wanted_eq z z z (cvb hc138)).trans z) z (x_load z isAgg3 (hst.bc0 z)) (wv (.bool (decide (a0.Frame > (4096:Int)))) ((wanted_eq z z z (cvb hc138)).trans z) z z (wv (.bool (decide (a0.Frame > (4096:Int)))) z z (x_pick_f hc138 z z) (wv (.bool (decide (a0.Frame > (4096:Int)))) z z z (wl_nil (tn ?_))))))
 refine bsplit (decide (a0.Frame > (4096:Int))) (fun hc139 => ?_) (fun hc139 => ?_)
 {
 replace hm := bif_t hc139 hm
 refine wp_ift (cvb hc139) ?_
 refine wp_skip (tn ?_)
 replace hst := hst.keep1
 obtain rfl := some_inj hm
 exact ⟨(decide (a0.Frame > (4096:Int))), _, hx145, (fu 1 (Pt b117 0) z (fu 23 (.bool (decide (a0.Frame > (4096:Int)))) z z)), hst⟩
}
 {
 replace hm := bif_f hc139 hm
 refine wp_iff (cvb hc139) ?_
 refine wrl (wv (Pt b117 4) z z (x_field z underlying28 z sizeOf3 z) (wv (.int .i64 a0.Depth) z z (x_load z isAgg3 (hst.bc0 z)) (wv (.bool (decide (a0.Depth < (1:Int)))) z z z (wv (.bool (decide (a0.Depth < (1:Int)))) z z z ?_))))
 refine bsplit (decide (a0.Depth < (1:Int))) (fun hc140 => ?_) (fun hc140 => ?_)
 {
 replace hm := bif_t hc140 hm
 refine wo hc140 z z z z z z (wo hc140 z z z z z z (wo hc140 z z z z z z (wv (.bool true) z z (x_pick_t hc140 z z) (wv (.bool true) z z z (wl_nil (tn ?_))))))
 replace hst := hst.keep1
 obtain rfl := some_inj hm
 exact ⟨true, _, hx145, (fu 1 (Pt b117 0) z (fu 23 (.bool true) z z)), hst⟩
}
 {
 replace hm := bif_f hc140 hm
 refine wv (Pt b117 4) ((wanted_eq z z z (cvb hc140)).trans z) z (x_field z underlying28 z sizeOf3 z) (wv (.int .i64 a0.Depth) ((wanted_eq z z z (cvb hc140)).trans z) z (x_load z isAgg3 (hst.bc0 z)) (wv (.bool (decide (a0.Depth > (65536:Int)))) ((wanted_eq z z z (cvb hc140)).trans z) z z (wv (.bool (decide (a0.Depth > (65536:Int)))) z z (x_pick_f hc140 z z) (wv (.bool (decide (a0.Depth > (65536:Int)))) z z z (wl_nil (tn ?_))))))
 replace hst := hst.keep1
 obtain rfl := some_inj hm
 exact ⟨(decide (a0.Depth > (65536:Int))), _, hx145, (fu 1 (Pt b117 0) z (fu 23 (.bool (decide (a0.Depth > (65536:Int)))) z z)), hst⟩
}
}
}
}
 {
 clear hst
 rintro _ w146 ⟨z141, σ142, hm, rfl, hst⟩
 dsimp only [config_New_j1] at hm
 refine bsplit z141 (fun hc147 => ?_) (fun hc147 => ?_)
 {
 replace hm := bif_t hc147 hm
 refine wp_ift (cvb hc147) ?_
 refine wp_seq (wrl (wv (.pointer none) z z z (wv (.int .i64 (1:Int)) z z z (wl_nil (tn (wp_ret (blk_r (then_r ?_))))))))
 replace hst := hst.objO_nil at_config_Plan
 obtain rfl := some_inj hm
 refine post_ret (vs := [.pointer none, I6 (1:Int)]) results11 (rvs_cons (rv_tmp z) (rvs_cons (rv_tmp z) rvs_nil)) ?_
 exact ⟨_, .pointer none, z, hI0, hst.keep1⟩
}
 {
 replace hm := bif_f hc147 hm
 refine wp_iff (cvb hc147) ?_
 obtain ⟨y155, hm, hx156⟩ := bind_some hm
 refine wp_cut (fun a w => ∃ (z152 : Bool) (σ153 : Nat → Value), (config_New_j2 a0) z152 = some r ∧ a = Fr 86 (upd (upd σ153 1 (Pt b117 0)) 40 (.bool z152)) ∧ St w0 w I [cells b117 [r0_0, I6 a0.Nodes, r0_1, I6 a0.Frame, I6 a0.Depth, I6 a0.Quota, I6 a0.Wide, I6 a0.Beat, I6 a0.Elect]] R) ?_ ?_
 {
 refine wp_seq (wrl (wv (Pt b117 5) z z (x_field z underlying28 z sizeOf3 z) (wv (.int .i64 a0.Quota) z z (x_load z isAgg3 (hst.bc0 z)) (wv (.bool (decide (a0.Quota < (1:Int)))) z z z (wv (.bool (decide (a0.Quota < (1:Int)))) z z z ?_)))))
 refine bsplit (decide (a0.Quota < (1:Int))) (fun hc149 => ?_) (fun hc149 => ?_)
 {
 replace hm := bif_t hc149 hm
 refine wo hc149 z z z z z z (wo hc149 z z z z z z (wo hc149 z z z z z z (wv (.bool true) z z (x_pick_t hc149 z z) (wv (.bool true) z z z (wl_nil (tn ?_))))))
 refine wp_ift z ?_
 refine wp_skip (tn ?_)
 replace hst := hst.keep1
 obtain rfl := some_inj hm
 exact ⟨true, _, hx156, (fu 1 (Pt b117 0) z (fu 40 (.bool true) z z)), hst⟩
}
 {
 replace hm := bif_f hc149 hm
 refine wv (Pt b117 5) ((wanted_eq z z z (cvb hc149)).trans z) z (x_field z underlying28 z sizeOf3 z) (wv (.int .i64 a0.Quota) ((wanted_eq z z z (cvb hc149)).trans z) z (x_load z isAgg3 (hst.bc0 z)) (wv (.bool (decide (a0.Quota > (268435456:Int)))) ((wanted_eq z z z (cvb hc149)).trans z) z z (wv (.bool (decide (a0.Quota > (268435456:Int)))) z z (x_pick_f hc149 z z) (wv (.bool (decide (a0.Quota > (268435456:Int)))) z z z (wl_nil (tn ?_))))))
 refine bsplit (decide (a0.Quota > (268435456:Int))) (fun hc150 => ?_) (fun hc150 => ?_)
 {
 replace hm := bif_t hc150 hm
 refine wp_ift (cvb hc150) ?_
 refine wp_skip (tn ?_)
 replace hst := hst.keep1
 obtain rfl := some_inj hm
 exact ⟨(decide (a0.Quota > (268435456:Int))), _, hx156, (fu 1 (Pt b117 0) z (fu 40 (.bool (decide (a0.Quota > (268435456:Int)))) z z)), hst⟩
}
 {
 replace hm := bif_f hc150 hm
 refine wp_iff (cvb hc150) ?_
 refine wrl (wv (Pt b117 6) z z (x_field z underlying28 z sizeOf3 z) (wv (.int .i64 a0.Wide) z z (x_load z isAgg3 (hst.bc0 z)) (wv (.bool (decide (a0.Wide < (0:Int)))) z z z (wv (.bool (decide (a0.Wide < (0:Int)))) z z z ?_))))
 refine bsplit (decide (a0.Wide < (0:Int))) (fun hc151 => ?_) (fun hc151 => ?_)
 {
 replace hm := bif_t hc151 hm
 refine wo hc151 z z z z z z (wo hc151 z z z z z z (wo hc151 z z z z z z (wv (.bool true) z z (x_pick_t hc151 z z) (wv (.bool true) z z z (wl_nil (tn ?_))))))
 replace hst := hst.keep1
 obtain rfl := some_inj hm
 exact ⟨true, _, hx156, (fu 1 (Pt b117 0) z (fu 40 (.bool true) z z)), hst⟩
}
 {
 replace hm := bif_f hc151 hm
 refine wv (Pt b117 6) ((wanted_eq z z z (cvb hc151)).trans z) z (x_field z underlying28 z sizeOf3 z) (wv (.int .i64 a0.Wide) ((wanted_eq z z z (cvb hc151)).trans z) z (x_load z isAgg3 (hst.bc0 z)) (wv (.bool (decide (a0.Wide > (256:Int)))) ((wanted_eq z z z (cvb hc151)).trans z) z z (wv (.bool (decide (a0.Wide > (256:Int)))) z z (x_pick_f hc151 z z) (wv (.bool (decide (a0.Wide > (256:Int)))) z z z (wl_nil (tn ?_))))))
 replace hst := hst.keep1
 obtain rfl := some_inj hm
 exact ⟨(decide (a0.Wide > (256:Int))), _, hx156, (fu 1 (Pt b117 0) z (fu 40 (.bool (decide (a0.Wide > (256:Int)))) z z)), hst⟩
}
}
}
}
 {
 clear hst
 rintro _ w157 ⟨z152, σ153, hm, rfl, hst⟩
 dsimp only [config_New_j2] at hm
 refine bsplit z152 (fun hc158 => ?_) (fun hc158 => ?_)
 {
 replace hm := bif_t hc158 hm
 refine wp_ift (cvb hc158) ?_
 refine wp_seq (wrl (wv (.pointer none) z z z (wv (.int .i64 (1:Int)) z z z (wl_nil (tn (wp_ret (blk_r (then_r ?_))))))))
 replace hst := hst.objO_nil at_config_Plan
 obtain rfl := some_inj hm
 refine post_ret (vs := [.pointer none, I6 (1:Int)]) results11 (rvs_cons (rv_tmp z) (rvs_cons (rv_tmp z) rvs_nil)) ?_
 exact ⟨_, .pointer none, z, hI0, hst.keep1⟩
}
 {
 replace hm := bif_f hc158 hm
 refine wp_iff (cvb hc158) ?_
 refine wp_seq (wrl (wv (Pt b117 7) z z (x_field z underlying28 z sizeOf3 z) (wv (.int .i64 a0.Beat) z z (x_load z isAgg3 (hst.bc0 z)) (wv (.bool (decide (a0.Beat < (1:Int)))) z z z (wv (.bool (decide (a0.Beat < (1:Int)))) z z z ?_)))))
 refine bsplit (decide (a0.Beat < (1:Int))) (fun hc160 => ?_) (fun hc160 => ?_)
 {
 replace hm := bif_t hc160 hm
 refine wo hc160 z z z z z z (wo hc160 z z z z z z (wo hc160 z z z z z z (wo hc160 z z z z z z (wo hc160 z z z z z z (wv (.bool true) z z (x_pick_t hc160 z z) (wv (.bool true) z z z (wz z z z z z z (wz z z z z z z (wz z z z z z z (wv (.bool true) z z (x_pick_t z z z) (wv (.bool true) z z z (wl_nil (tn ?_)))))))))))))
 refine wp_ift z ?_
 refine wp_seq (wrl (wv (.pointer none) z z z (wv (.int .i64 (1:Int)) z z z (wl_nil (tn (wp_ret (blk_r (then_r ?_))))))))
 replace hst := hst.objO_nil at_config_Plan
 obtain rfl := some_inj hm
 refine post_ret (vs := [.pointer none, I6 (1:Int)]) results11 (rvs_cons (rv_tmp z) (rvs_cons (rv_tmp z) rvs_nil)) ?_
 exact ⟨_, .pointer none, z, hI0, hst.keep1⟩
}
 {
 replace hm := bif_f hc160 hm
 refine wv (Pt b117 8) ((wanted_eq z z z (cvb hc160)).trans z) z (x_field z underlying28 z sizeOf3 z) (wv (.int .i64 a0.Elect) ((wanted_eq z z z (cvb hc160)).trans z) z (x_load z isAgg3 (hst.bc0 z)) (wv (Pt b117 7) ((wanted_eq z z z (cvb hc160)).trans z) z (x_field z underlying28 z sizeOf3 z) (wv (.int .i64 a0.Beat) ((wanted_eq z z z (cvb hc160)).trans z) z (x_load z isAgg3 (hst.bc0 z)) (wv (.bool (decide (a0.Elect ≤ a0.Beat))) ((wanted_eq z z z (cvb hc160)).trans z) z z (wv (.bool (decide (a0.Elect ≤ a0.Beat))) z z (x_pick_f hc160 z z) (wv (.bool (decide (a0.Elect ≤ a0.Beat))) z z z ?_))))))
 refine bsplit (decide (a0.Elect ≤ a0.Beat)) (fun hc162 => ?_) (fun hc162 => ?_)
 {
 replace hm := bif_t hc162 hm
 refine wo hc162 z z z z z z (wo hc162 z z z z z z (wo hc162 z z z z z z (wv (.bool true) z z (x_pick_t hc162 z z) (wv (.bool true) z z z (wl_nil (tn ?_))))))
 refine wp_ift z ?_
 refine wp_seq (wrl (wv (.pointer none) z z z (wv (.int .i64 (1:Int)) z z z (wl_nil (tn (wp_ret (blk_r (then_r ?_))))))))
 replace hst := hst.objO_nil at_config_Plan
 obtain rfl := some_inj hm
 refine post_ret (vs := [.pointer none, I6 (1:Int)]) results11 (rvs_cons (rv_tmp z) (rvs_cons (rv_tmp z) rvs_nil)) ?_
 exact ⟨_, .pointer none, z, hI0, hst.keep1⟩
}
 {
 replace hm := bif_f hc162 hm
 refine wv (Pt b117 8) ((wanted_eq z z z (cvb hc162)).trans z) z (x_field z underlying28 z sizeOf3 z) (wv (.int .i64 a0.Elect) ((wanted_eq z z z (cvb hc162)).trans z) z (x_load z isAgg3 (hst.bc0 z)) (wv (.bool (decide (a0.Elect > (1000:Int)))) ((wanted_eq z z z (cvb hc162)).trans z) z z (wv (.bool (decide (a0.Elect > (1000:Int)))) z z (x_pick_f hc162 z z) (wv (.bool (decide (a0.Elect > (1000:Int)))) z z z (wl_nil (tn ?_))))))
 refine bsplit (decide (a0.Elect > (1000:Int))) (fun hc164 => ?_) (fun hc164 => ?_)
 {
 replace hm := bif_t hc164 hm
 refine wp_ift (cvb hc164) ?_
 refine wp_seq (wrl (wv (.pointer none) z z z (wv (.int .i64 (1:Int)) z z z (wl_nil (tn (wp_ret (blk_r (then_r ?_))))))))
 replace hst := hst.objO_nil at_config_Plan
 obtain rfl := some_inj hm
 refine post_ret (vs := [.pointer none, I6 (1:Int)]) results11 (rvs_cons (rv_tmp z) (rvs_cons (rv_tmp z) rvs_nil)) ?_
 exact ⟨_, .pointer none, z, hI0, hst.keep1⟩
}
 {
 replace hm := bif_f hc164 hm
 refine wp_iff (cvb hc164) ?_
 refine wp_skip (blk_n (tn (wp_seq (wrl ?_))))
 refine wv (Pt b117 0) z z (x_field z underlying28 z sizeOf25 z) (wv (r0_0) z z (x_load z isAgg25 (hst.bc0 z)) ?_)
 obtain ⟨t166, ht167, hm⟩ := bind_some hm
 refine wc call34 [r0_0] z z z ?_
 refine (label_New_ref (f0_0.mono ro_rd) hst.to0 ht167).mono ?_
 rintro _ w168 ⟨I169, v171, rfl, hI170, hst⟩
 refine ⟨_, z, ?_⟩
 replace hst := hst.of1
 replace f0_0 := f0_0.mono (ro_le hI170)
 replace f0_1 := f0_1.mono (ro_le hI170)
 replace hI0 := hI0.trans hI170
 refine wv (.tuple #[v171, I6 t166.2]) z z z (wv (v171) z z z (wv (.int .i64 t166.2) z z z (wv (v171) z z z (wv (.int .i64 t166.2) z z z (wl_nil (tn (wp_seq (wp_seq (wrl (wv (.int .i64 t166.2) z z z (wv (.bool (t166.2 != (0:Int))) z z z (wl_nil (tn ?_)))))))))))))
 refine bsplit (t166.2 != (0:Int)) (fun hc173 => ?_) (fun hc173 => ?_)
 {
 replace hm := bif_t hc173 hm
 refine wp_ift (cvb hc173) ?_
 refine wp_seq (wrl (wv (.int .i64 t166.2) z z z (wv (.pointer none) z z z (wv (.int .i64 t166.2) z z z (wl_nil (tn (wp_ret (then_r ?_))))))))
 replace hst := hst.objO_nil at_config_Plan
 obtain rfl := some_inj hm
 refine post_ret (vs := [.pointer none, I6 t166.2]) results11 (rvs_cons (rv_tmp z) (rvs_cons (rv_tmp z) rvs_nil)) ?_
 exact ⟨_, .pointer none, z, hI0, hst.keep1⟩
}
 {
 replace hm := bif_f hc173 hm
 refine wp_iff (cvb hc173) ?_
 refine wp_skip (tn (wp_seq (wrl ?_)))
 refine wv (.agg #[r0_0, I6 a0.Nodes, r0_1, I6 a0.Frame, I6 a0.Depth, I6 a0.Quota, I6 a0.Wide, I6 a0.Beat, I6 a0.Elect]) z z (x_loadN (cs := [r0_0, I6 a0.Nodes, r0_1, I6 a0.Frame, I6 a0.Depth, I6 a0.Quota, I6 a0.Wide, I6 a0.Beat, I6 a0.Elect]) z isAgg28 sizeOf28 (hst.bcs1 0 z)) (wv (v171) z z z (wv (.agg #[r0_0, I6 a0.Nodes, r0_1, I6 a0.Frame, I6 a0.Depth, I6 a0.Quota, I6 a0.Wide, I6 a0.Beat, I6 a0.Elect, v171]) z z (by obtain ⟨_, ha_, _⟩ := at_label_Lattice_isnil hst; rw [ha_]; obtain ⟨_, _, hv_, _⟩ := (ro_sliceV f0_1); rw [hv_]; obtain ⟨_, _, hv_, _⟩ := (ro_sliceV f0_0); rw [hv_]; kernel_rfl) ?_))
 obtain ⟨b177, w178, ew179, eb180, hst⟩ := hst.box [r0_0, I6 a0.Nodes, r0_1, I6 a0.Frame, I6 a0.Depth, I6 a0.Quota, I6 a0.Wide, I6 a0.Beat, I6 a0.Elect, v171] 64
 refine wl_run (v := Pt b177 0) (w' := w178) z z (x_al (by kernel_rfl) ew179 eb180) ?_
 refine wv (Pt b177 0) z z z (wv (.int .i64 (0:Int)) z z z (wl_nil (tn (wp_ret ?_))))
 replace hst := hst.pull1.pull1
 replace hst := at_config_Plan_close (pv := Pt b177 0) (x := ({ C := a0, L := t166.1 } : config_Plan)) hst ⟨z, f0_0, f0_1⟩
 replace hst := objO_some hst
 obtain rfl := some_inj hm
 refine post_ret (vs := [Pt b177 0, Zi]) results11 (rvs_cons (rv_tmp z) (rvs_cons (rv_tmp z) rvs_nil)) ?_
 exact ⟨_, Pt b177 0, z, hI0, hst.keep1⟩
}
}
}
}
}
}
}
}
}
}
}

theorem label_Lattice_Len_ref {w0 w : World} {I : HL} {R : SP} {a0 : (Option label_Lattice)} {p0 : Value}  (hst : St w0 w I [objO at_label_Lattice p0 a0] R) {r : (Int)} (hm : label_Lattice_Len a0 = some r) :
  Calls prog 40 #[p0] w fun e w' => e = .returned (.int .i64 r) ∧ St w0 w' I [objO at_label_Lattice p0 a0] R := by {
 rcases a0 with _ | o0
 {
 obtain ⟨rfl, hst'⟩ := objO_none hst
 clear hst
 have hst := hst'
 clear hst'
 dsimp only [label_Lattice_Len] at hm
 refine calls_start (args := [.pointer none]) func40 z ntmps40 (Nat.le_of_ble_eq_true z) ?_
 refine wp_seq (wrl (wv (.int .i64 (0:Int)) z z z (wl_nil (tn (wp_seq (wp_seq (wrl (wv (.pointer none) z z z (wv (.bool true) z z (by kernel_rfl) (wl_nil (tn ?_)))))))))))
 refine wp_ift z ?_
 refine wp_seq (wrl (wv (.int .i64 (0:Int)) z z z (wl_nil (tn (wp_ret (then_r ?_))))))
 replace hst := hst.objO_nil at_label_Lattice
 obtain rfl := some_inj hm
 refine post_ret (vs := [Zi]) results40 (rvs_cons (rv_tmp z) rvs_nil) ?_
 exact ⟨z, hst.keep1⟩
}
 {
 replace hst := objO_get hst
 dsimp only [label_Lattice_Len] at hm
 refine calls_start (args := [p0]) func40 z ntmps40 (Nat.le_of_ble_eq_true z) ?_
 refine wp_seq (wrl (wv (.int .i64 (0:Int)) z z z (wl_nil (tn (wp_seq (wp_seq (wrl (wv (p0) z z z ?_))))))))
 obtain ⟨b133, v134, v136, v138, v140, v142, v144, rfl, hst'⟩ := at_label_Lattice_open hst
 clear hst
 have hst := hst'
 clear hst'
 refine wv (.bool false) z z (by kernel_rfl) (wl_nil (tn ?_))
 refine wp_iff z ?_
 refine wp_skip (tn (wp_seq (wrl ?_)))
 refine wv (Pt b133 0) z z z (wv (Pt b133 0) z z z (wv (Pt b133 0) z z (x_field z underlying73 z sizeOf25 z) (wv (v134) z z (x_load z isAgg25 (hst.bc0 z)) (wv (.int .i64 ((o0.up).length : Int)) z z (x_len z underlying25 hst.sv1) (wv (.int .i64 ((o0.up).length : Int)) z z z (wl_nil (tn (wp_ret ?_))))))))
 replace hst := hst.pull6.pull6.pull6.pull6.pull6.pull6.pull6
 replace hst := at_label_Lattice_close (pv := Pt b133 0) (x := o0) hst z
 replace hst := objO_some hst
 obtain rfl := some_inj hm
 refine post_ret (vs := [I6 ((o0.up).length : Int)]) results40 (rvs_cons (rv_tmp z) rvs_nil) ?_
 exact ⟨z, hst.keep1⟩
}
}

theorem config_Plan_L0_ref {w0 w : World} {I : HL} {R : SP} {a0 : (Option config_Plan)} {p0 : Value}  (hst : St w0 w I [objO at_config_Plan p0 a0] R) {r : (Int)} (hm : config_Plan_L0 a0 = some r) :
  Calls prog 20 #[p0] w fun e w' => e = .returned (.int .i64 r) ∧ St w0 w' I [objO at_config_Plan p0 a0] R := by {
 rcases a0 with _ | o0
 {
 obtain ⟨rfl, hst'⟩ := objO_none hst
 clear hst
 have hst := hst'
 clear hst'
 dsimp only [config_Plan_L0] at hm
 refine calls_start (args := [.pointer none]) func20 z ntmps20 (Nat.le_of_ble_eq_true z) ?_
 refine wp_seq (wrl (wv (.int .i64 (0:Int)) z z z (wl_nil (tn (wp_seq (wp_seq (wrl (wv (.pointer none) z z z (wv (.bool true) z z (by kernel_rfl) (wl_nil (tn ?_)))))))))))
 refine wp_ift z ?_
 refine wp_seq (wrl (wv (.int .i64 (0:Int)) z z z (wl_nil (tn (wp_ret (then_r ?_))))))
 replace hst := hst.objO_nil at_config_Plan
 obtain rfl := some_inj hm
 refine post_ret (vs := [Zi]) results20 (rvs_cons (rv_tmp z) rvs_nil) ?_
 exact ⟨z, hst.keep1⟩
}
 {
 replace hst := objO_get hst
 dsimp only [config_Plan_L0] at hm
 refine calls_start (args := [p0]) func20 z ntmps20 (Nat.le_of_ble_eq_true z) ?_
 refine wp_seq (wrl (wv (.int .i64 (0:Int)) z z z (wl_nil (tn (wp_seq (wp_seq (wrl (wv (p0) z z z ?_))))))))
 obtain ⟨b124, v125, v128, v131, ⟨rfl, f127, f130⟩, hst'⟩ := at_config_Plan_open hst
 clear hst
 have hst := hst'
 clear hst'
 refine wv (.bool false) z z (by kernel_rfl) (wl_nil (tn ?_))
 refine wp_iff z ?_
 refine wp_skip (tn (wp_seq (wrl ?_)))
 refine wv (Pt b124 0) z z z (wv (Pt b124 0) z z z (wv (Pt b124 9) z z (x_field z underlying64 z sizeOf60 z) (wv (v131) z z (x_load z isAgg60 (hst.bc0 z)) ?_)))
 replace hst := hst.pull1
 obtain ⟨t133, ht134, hm⟩ := bind_some hm
 refine wc call40 [v131] z z z ?_
 refine (label_Lattice_Len_ref hst.to1 ht134).mono ?_
 rintro _ w135 ⟨rfl, hst⟩
 refine ⟨_, z, ?_⟩
 replace hst := hst.of1
 refine wv (.int .i64 t133) z z z (wl_nil (tn (wp_ret ?_)))
 replace hst := hst.pull1
 replace hst := at_config_Plan_close (pv := Pt b124 0) (x := o0) hst ⟨z, f127, f130⟩
 replace hst := objO_some hst
 obtain rfl := some_inj hm
 refine post_ret (vs := [I6 t133]) results20 (rvs_cons (rv_tmp z) rvs_nil) ?_
 exact ⟨z, hst.keep1⟩
}
}

theorem config_Plan_Shards_ref {w0 w : World} {I : HL} {R : SP} {a0 : (Option config_Plan)} {p0 : Value}  (hst : St w0 w I [objO at_config_Plan p0 a0] R) {r : (Int)} (hm : config_Plan_Shards a0 = some r) :
  Calls prog 17 #[p0] w fun e w' => e = .returned (.int .i64 r) ∧ St w0 w' I [objO at_config_Plan p0 a0] R := by {
 rcases a0 with _ | o0
 {
 obtain ⟨rfl, hst'⟩ := objO_none hst
 clear hst
 have hst := hst'
 clear hst'
 dsimp only [config_Plan_Shards] at hm
 refine calls_start (args := [.pointer none]) func17 z ntmps17 (Nat.le_of_ble_eq_true z) ?_
 refine wp_seq (wrl (wv (.int .i64 (0:Int)) z z z (wl_nil (tn (wp_seq (wp_seq (wrl (wv (.pointer none) z z z (wv (.bool true) z z (by kernel_rfl) (wl_nil (tn ?_)))))))))))
 refine wp_ift z ?_
 refine wp_seq (wrl (wv (.int .i64 (0:Int)) z z z (wl_nil (tn (wp_ret (then_r ?_))))))
 replace hst := hst.objO_nil at_config_Plan
 obtain rfl := some_inj hm
 refine post_ret (vs := [Zi]) results17 (rvs_cons (rv_tmp z) rvs_nil) ?_
 exact ⟨z, hst.keep1⟩
}
 {
 replace hst := objO_get hst
 dsimp only [config_Plan_Shards] at hm
 refine calls_start (args := [p0]) func17 z ntmps17 (Nat.le_of_ble_eq_true z) ?_
 refine wp_seq (wrl (wv (.int .i64 (0:Int)) z z z (wl_nil (tn (wp_seq (wp_seq (wrl (wv (p0) z z z ?_))))))))
 obtain ⟨b124, v125, v128, v131, ⟨rfl, f127, f130⟩, hst'⟩ := at_config_Plan_open hst
 clear hst
 have hst := hst'
 clear hst'
 refine wv (.bool false) z z (by kernel_rfl) (wl_nil (tn ?_))
 refine wp_iff z ?_
 refine wp_skip (tn (wp_seq (wrl ?_)))
 refine wv (Pt b124 0) z z z (wv (Pt b124 0) z z z (wv (Pt b124 0) z z (x_field z underlying64 z sizeOf28 z) (wv (Pt b124 2) z z (x_field z underlying28 z sizeOf26 z) (wv (v128) z z (x_load z isAgg26 (hst.bc0 z)) (wv (.int .i64 ((o0.C.Cuts).length : Int)) z z (x_len z underlying26 (ro_sliceV f130)) (wv (.int .i64 (i64.wrap (((o0.C.Cuts).length : Int) + (1:Int)))) z z z (wv (.int .i64 (i64.wrap (((o0.C.Cuts).length : Int) + (1:Int)))) z z z (wl_nil (tn (wp_ret ?_))))))))))
 replace hst := hst.pull1.pull1
 replace hst := at_config_Plan_close (pv := Pt b124 0) (x := o0) hst ⟨z, f127, f130⟩
 replace hst := objO_some hst
 obtain rfl := some_inj hm
 refine post_ret (vs := [I6 (i64.wrap (((o0.C.Cuts).length : Int) + (1:Int)))]) results17 (rvs_cons (rv_tmp z) rvs_nil) ?_
 exact ⟨z, hst.keep1⟩
}
}

theorem config_Plan_Lanes_ref {w0 w : World} {I : HL} {R : SP} {a0 : (Option config_Plan)} {p0 : Value}  (hst : St w0 w I [objO at_config_Plan p0 a0] R) {r : (Int)} (hm : config_Plan_Lanes a0 = some r) :
  Calls prog 18 #[p0] w fun e w' => e = .returned (.int .i64 r) ∧ St w0 w' I [objO at_config_Plan p0 a0] R := by {
 unfold config_Plan_Lanes at hm
 refine calls_start (args := [p0]) func18 z ntmps18 (Nat.le_of_ble_eq_true z) ?_
 refine wp_seq (wrl (wv (.int .i64 (0:Int)) z z z (wl_nil (tn (wp_seq (wrl (wv (p0) z z z ?_)))))))
 obtain ⟨t119, ht120, hm⟩ := bind_some hm
 refine wc call20 [p0] z z z ?_
 refine (config_Plan_L0_ref hst.to1 ht120).mono ?_
 rintro _ w121 ⟨rfl, hst⟩
 refine ⟨_, z, ?_⟩
 replace hst := hst.of1
 refine wv (p0) z z z ?_
 obtain ⟨t124, ht125, hm⟩ := bind_some hm
 refine wc call17 [p0] z z z ?_
 refine (config_Plan_Shards_ref hst.to1 ht125).mono ?_
 rintro _ w126 ⟨rfl, hst⟩
 refine ⟨_, z, ?_⟩
 replace hst := hst.of1
 refine wv (.int .i64 (i64.wrap (t119 * t124))) z z z (wv (.int .i64 (i64.wrap ((i64.wrap (t119 * t124)) + (1:Int)))) z z z (wv (.int .i64 (i64.wrap ((i64.wrap (t119 * t124)) + (1:Int)))) z z z (wl_nil (tn (wp_ret ?_)))))
 obtain rfl := some_inj hm
 refine post_ret (vs := [I6 (i64.wrap ((i64.wrap (t119 * t124)) + (1:Int)))]) results18 (rvs_cons (rv_tmp z) rvs_nil) ?_
 exact ⟨z, hst.keep1⟩
}

theorem config_Plan_Lane_ref {w0 w : World} {I : HL} {R : SP} {a0 : (Option config_Plan)} {p0 : Value} {a1 : Int} {a2 : Int}  (hst : St w0 w I [objO at_config_Plan p0 a0] R) {r : (Int)} (hm : config_Plan_Lane a0 a1 a2 = some r) :
  Calls prog 24 #[p0, I6 a1, I6 a2] w fun e w' => e = .returned (.int .i64 r) ∧ St w0 w' I [objO at_config_Plan p0 a0] R := by {
 unfold config_Plan_Lane at hm
 refine calls_start (args := [p0, I6 a1, I6 a2]) func24 z ntmps24 (Nat.le_of_ble_eq_true z) ?_
 refine wp_seq (wrl (wv (.int .i64 (0:Int)) z z z (wl_nil (tn (wp_seq (wp_seq (wrl (wv (.int .i64 a1) z z z (wv (.bool (decide (a1 < (0:Int)))) z z z (wv (.bool (decide (a1 < (0:Int)))) z z z ?_))))))))))
 refine bsplit (decide (a1 < (0:Int))) (fun hc134 => ?_) (fun hc134 => ?_)
 {
 replace hm := bif_t hc134 hm
 refine wo hc134 z z z z z z (wo hc134 z z z z z z (wo hc134 z z z z z z (wo hc134 z z z z z z (wv (.bool true) z z (x_pick_t hc134 z z) (wv (.bool true) z z z (wz z z z z z z (wz z z z z z z (wv (.bool true) z z (x_pick_t z z z) (wv (.bool true) z z z (wz z z z z z z (wz z z z z z z (wz z z z z z z ?_))))))))))))
 refine wz z z z z z z (wv (.bool true) z z (x_pick_t z z z) (wl_nil (tn ?_)))
 refine wp_ift z ?_
 refine wp_seq (wrl (wv (.int .i64 ((-1):Int)) z z z (wl_nil (tn (wp_ret (then_r ?_))))))
 obtain rfl := some_inj hm
 refine post_ret (vs := [I6 ((-1):Int)]) results24 (rvs_cons (rv_tmp z) rvs_nil) ?_
 exact ⟨z, hst.keep1⟩
}
 {
 replace hm := bif_f hc134 hm
 refine wv (.int .i64 a1) ((wanted_eq z z z (cvb hc134)).trans z) z z (wv (p0) ((wanted_eq z z z (cvb hc134)).trans z) z z ?_)
 obtain ⟨t135, ht136, hm⟩ := bind_some hm
 refine wl_call ((wanted_eq z z z (cvb hc134)).trans z) z (x_call call20 z (vs := [p0]) z) ?_
 refine (config_Plan_L0_ref hst.to1 ht136).mono ?_
 rintro _ w137 ⟨rfl, hst⟩
 refine ⟨_, z, ?_⟩
 replace hst := hst.of1
 refine wv (.bool (decide (a1 ≥ t135))) ((wanted_eq z z z (cvb hc134)).trans z) z z (wv (.bool (decide (a1 ≥ t135))) z z (x_pick_f hc134 z z) (wv (.bool (decide (a1 ≥ t135))) z z z ?_))
 refine bsplit (decide (a1 ≥ t135)) (fun hc140 => ?_) (fun hc140 => ?_)
 {
 replace hm := bif_t hc140 hm
 refine wo hc140 z z z z z z (wo hc140 z z z z z z (wv (.bool true) z z (x_pick_t hc140 z z) (wv (.bool true) z z z (wz z z z z z z (wz z z z z z z (wz z z z z z z (wz z z z z z z (wv (.bool true) z z (x_pick_t z z z) (wl_nil (tn ?_))))))))))
 refine wp_ift z ?_
 refine wp_seq (wrl (wv (.int .i64 ((-1):Int)) z z z (wl_nil (tn (wp_ret (then_r ?_))))))
 obtain rfl := some_inj hm
 refine post_ret (vs := [I6 ((-1):Int)]) results24 (rvs_cons (rv_tmp z) rvs_nil) ?_
 exact ⟨z, hst.keep1⟩
}
 {
 replace hm := bif_f hc140 hm
 refine wv (.int .i64 a2) ((wanted_eq z z z (cvb hc140)).trans z) z z (wv (.bool (decide (a2 < (0:Int)))) ((wanted_eq z z z (cvb hc140)).trans z) z z (wv (.bool (decide (a2 < (0:Int)))) z z (x_pick_f hc140 z z) (wv (.bool (decide (a2 < (0:Int)))) z z z ?_)))
 refine bsplit (decide (a2 < (0:Int))) (fun hc141 => ?_) (fun hc141 => ?_)
 {
 replace hm := bif_t hc141 hm
 refine wo hc141 z z z z z z (wo hc141 z z z z z z (wo hc141 z z z z z z (wo hc141 z z z z z z (wv (.bool true) z z (x_pick_t hc141 z z) (wl_nil (tn ?_))))))
 refine wp_ift z ?_
 refine wp_seq (wrl (wv (.int .i64 ((-1):Int)) z z z (wl_nil (tn (wp_ret (then_r ?_))))))
 obtain rfl := some_inj hm
 refine post_ret (vs := [I6 ((-1):Int)]) results24 (rvs_cons (rv_tmp z) rvs_nil) ?_
 exact ⟨z, hst.keep1⟩
}
 {
 replace hm := bif_f hc141 hm
 refine wv (.int .i64 a2) ((wanted_eq z z z (cvb hc141)).trans z) z z (wv (p0) ((wanted_eq z z z (cvb hc141)).trans z) z z ?_)
 obtain ⟨t142, ht143, hm⟩ := bind_some hm
 refine wl_call ((wanted_eq z z z (cvb hc141)).trans z) z (x_call call17 z (vs := [p0]) z) ?_
 refine (config_Plan_Shards_ref hst.to1 ht143).mono ?_
 rintro _ w144 ⟨rfl, hst⟩
 refine ⟨_, z, ?_⟩
 replace hst := hst.of1
 refine wv (.bool (decide (a2 ≥ t142))) ((wanted_eq z z z (cvb hc141)).trans z) z z (wv (.bool (decide (a2 ≥ t142))) z z (x_pick_f hc141 z z) (wl_nil (tn ?_)))
 refine bsplit (decide (a2 ≥ t142)) (fun hc147 => ?_) (fun hc147 => ?_)
 {
 replace hm := bif_t hc147 hm
 refine wp_ift (cvb hc147) ?_
 refine wp_seq (wrl (wv (.int .i64 ((-1):Int)) z z z (wl_nil (tn (wp_ret (then_r ?_))))))
 obtain rfl := some_inj hm
 refine post_ret (vs := [I6 ((-1):Int)]) results24 (rvs_cons (rv_tmp z) rvs_nil) ?_
 exact ⟨z, hst.keep1⟩
}
 {
 replace hm := bif_f hc147 hm
 refine wp_iff (cvb hc147) ?_
 refine wp_skip (tn (wp_seq (wrl ?_)))
 refine wv (.int .i64 a1) z z z (wv (p0) z z z ?_)
 obtain ⟨t148, ht149, hm⟩ := bind_some hm
 refine wc call17 [p0] z z z ?_
 refine (config_Plan_Shards_ref hst.to1 ht149).mono ?_
 rintro _ w150 ⟨rfl, hst⟩
 refine ⟨_, z, ?_⟩
 replace hst := hst.of1
 refine wv (.int .i64 (i64.wrap (a1 * t148))) z z z (wv (.int .i64 a2) z z z (wv (.int .i64 (i64.wrap ((i64.wrap (a1 * t148)) + a2))) z z z (wv (.int .i64 (i64.wrap ((i64.wrap (a1 * t148)) + a2))) z z z (wl_nil (tn (wp_ret ?_))))))
 obtain rfl := some_inj hm
 refine post_ret (vs := [I6 (i64.wrap ((i64.wrap (a1 * t148)) + a2))]) results24 (rvs_cons (rv_tmp z) rvs_nil) ?_
 exact ⟨z, hst.keep1⟩
}
}
}
}
}

theorem config_Plan_Rules_ref {w0 w : World} {I : HL} {R : SP} {a0 : (Option config_Plan)} {p0 : Value}  (hst : St w0 w I [objO at_config_Plan p0 a0] R) {r : (Int)} (hm : config_Plan_Rules a0 = some r) :
  Calls prog 19 #[p0] w fun e w' => e = .returned (.int .i64 r) ∧ St w0 w' I [objO at_config_Plan p0 a0] R := by {
 unfold config_Plan_Rules at hm
 refine calls_start (args := [p0]) func19 z ntmps19 (Nat.le_of_ble_eq_true z) ?_
 refine wp_seq (wrl (wv (.int .i64 (0:Int)) z z z (wl_nil (tn (wp_seq (wrl (wv (p0) z z z ?_)))))))
 obtain ⟨t126, ht127, hm⟩ := bind_some hm
 refine wc call18 [p0] z z z ?_
 refine (config_Plan_Lanes_ref hst.to1 ht127).mono ?_
 rintro _ w128 ⟨rfl, hst⟩
 refine ⟨_, z, ?_⟩
 replace hst := hst.of1
 refine wv (.int .i64 (i64.wrap (t126 - (1:Int)))) z z z (wv (.int .i64 (i64.wrap (t126 - (1:Int)))) z z z (wl_nil (tn (wp_ret ?_))))
 obtain rfl := some_inj hm
 refine post_ret (vs := [I6 (i64.wrap (t126 - (1:Int)))]) results19 (rvs_cons (rv_tmp z) rvs_nil) ?_
 exact ⟨z, hst.keep1⟩
}

theorem label_Lattice_Bottom_ref {w0 w : World} {I : HL} {R : SP} {a0 : (Option label_Lattice)} {p0 : Value}  (hst : St w0 w I [objO at_label_Lattice p0 a0] R) {r : (Int)} (hm : label_Lattice_Bottom a0 = some r) :
  Calls prog 41 #[p0] w fun e w' => e = .returned (.int .i64 r) ∧ St w0 w' I [objO at_label_Lattice p0 a0] R := by {
 rcases a0 with _ | o0
 {
 obtain ⟨rfl, hst'⟩ := objO_none hst
 clear hst
 have hst := hst'
 clear hst'
 dsimp only [label_Lattice_Bottom] at hm
 refine calls_start (args := [.pointer none]) func41 z ntmps41 (Nat.le_of_ble_eq_true z) ?_
 refine wp_seq (wrl (wv (.int .i64 (0:Int)) z z z (wl_nil (tn (wp_seq (wp_seq (wrl (wv (.pointer none) z z z (wv (.bool true) z z (by kernel_rfl) (wl_nil (tn ?_)))))))))))
 refine wp_ift z ?_
 refine wp_seq (wrl (wv (.int .i64 ((-1):Int)) z z z (wl_nil (tn (wp_ret (then_r ?_))))))
 replace hst := hst.objO_nil at_label_Lattice
 obtain rfl := some_inj hm
 refine post_ret (vs := [I6 ((-1):Int)]) results41 (rvs_cons (rv_tmp z) rvs_nil) ?_
 exact ⟨z, hst.keep1⟩
}
 {
 replace hst := objO_get hst
 dsimp only [label_Lattice_Bottom] at hm
 refine calls_start (args := [p0]) func41 z ntmps41 (Nat.le_of_ble_eq_true z) ?_
 refine wp_seq (wrl (wv (.int .i64 (0:Int)) z z z (wl_nil (tn (wp_seq (wp_seq (wrl (wv (p0) z z z ?_))))))))
 obtain ⟨b178, v179, v181, v183, v185, v187, v189, rfl, hst'⟩ := at_label_Lattice_open hst
 clear hst
 have hst := hst'
 clear hst'
 refine wv (.bool false) z z (by kernel_rfl) (wl_nil (tn ?_))
 refine wp_iff z ?_
 refine wp_skip (tn (wp_seq (wrl ?_)))
 refine wv (Pt b178 0) z z z (wv (Pt b178 0) z z z (wv (Pt b178 5) z z (x_field z underlying73 z sizeOf46 z) (wv (v189) z z (x_load z isAgg46 (hst.bc0 z)) ?_)))
 obtain ⟨x191, hx192, hm⟩ := bind_some hm
 obtain ⟨h193, h194, hi195⟩ := geto_some hx192
 refine wv (.pointer (some (eAddr v189 ((0:Int).toNat * 1 + 0)))) z z (x_index z z underlying46 sizeOf3 hst.sv6 h193 h194) (wv (.int .i64 x191) z z (x_load z isAgg3 (hst.ol6 hi195 (by rintro _ rfl; rfl))) (wv (.int .i64 x191) z z z (wl_nil (tn (wp_ret ?_)))))
 replace hst := hst.pull6.pull6.pull6.pull6.pull6.pull6.pull6
 replace hst := at_label_Lattice_close (pv := Pt b178 0) (x := o0) hst z
 replace hst := objO_some hst
 obtain rfl := some_inj hm
 refine post_ret (vs := [I6 x191]) results41 (rvs_cons (rv_tmp z) rvs_nil) ?_
 exact ⟨z, hst.keep1⟩
}
}

theorem config_Plan_Label_ref {w0 w : World} {I : HL} {R : SP} {a0 : (Option config_Plan)} {p0 : Value} {a1 : Int}  (hst : St w0 w I [objO at_config_Plan p0 a0] R) {r : (Int)} (hm : config_Plan_Label a0 a1 = some r) :
  Calls prog 22 #[p0, I6 a1] w fun e w' => e = .returned (.int .i64 r) ∧ St w0 w' I [objO at_config_Plan p0 a0] R := by {
 rcases a0 with _ | o0
 {
 obtain ⟨rfl, hst'⟩ := objO_none hst
 clear hst
 have hst := hst'
 clear hst'
 dsimp only [config_Plan_Label] at hm
 refine calls_start (args := [.pointer none, I6 a1]) func22 z ntmps22 (Nat.le_of_ble_eq_true z) ?_
 refine wp_seq (wrl (wv (.int .i64 (0:Int)) z z z (wl_nil (tn (wp_seq (wp_block (wp_seq (wrl (wv (.pointer none) z z z (wv (.bool true) z z (by kernel_rfl) (wv (.bool true) z z z (wz z z z z z z (wz z z z z z z (wv (.bool true) z z (x_pick_t z z z) (wv (.bool true) z z z (wz z z z z z z (wz z z z z z z (wz z z z z z z ?_))))))))))))))))))
 refine wz z z z z z z (wv (.bool true) z z (x_pick_t z z z) (wv (.bool true) z z z (wl_nil (tn ?_))))
 refine wp_ift z ?_
 refine wp_seq (wrl (wv (.int .i64 ((-1):Int)) z z z (wl_nil (tn (wp_ret (blk_r (then_r ?_)))))))
 replace hst := hst.objO_nil at_config_Plan
 obtain rfl := some_inj hm
 refine post_ret (vs := [I6 ((-1):Int)]) results22 (rvs_cons (rv_tmp z) rvs_nil) ?_
 exact ⟨z, hst.keep1⟩
}
 {
 replace hst := objO_get hst
 dsimp only [config_Plan_Label] at hm
 refine calls_start (args := [p0, I6 a1]) func22 z ntmps22 (Nat.le_of_ble_eq_true z) ?_
 refine wp_seq (wrl (wv (.int .i64 (0:Int)) z z z (wl_nil (tn (wp_seq (wp_block (wp_seq (wrl (wv (p0) z z z ?_)))))))))
 obtain ⟨b170, v171, v174, v177, ⟨rfl, f173, f176⟩, hst'⟩ := at_config_Plan_open hst
 clear hst
 have hst := hst'
 clear hst'
 refine wv (.bool false) z z (by kernel_rfl) (wv (.bool false) z z z (wv (.int .i64 a1) ((wanted_eq z z z z).trans z) z z (wv (.bool (decide (a1 < (0:Int)))) ((wanted_eq z z z z).trans z) z z (wv (.bool (decide (a1 < (0:Int)))) z z (x_pick_f z z z) (wv (.bool (decide (a1 < (0:Int)))) z z z ?_)))))
 refine bsplit (decide (a1 < (0:Int))) (fun hc179 => ?_) (fun hc179 => ?_)
 {
 replace hm := bif_t hc179 hm
 refine wo hc179 z z z z z z (wo hc179 z z z z z z (wo hc179 z z z z z z (wo hc179 z z z z z z (wv (.bool true) z z (x_pick_t hc179 z z) (wv (.bool true) z z z (wl_nil (tn ?_)))))))
 refine wp_ift z ?_
 refine wp_seq (wrl (wv (.int .i64 ((-1):Int)) z z z (wl_nil (tn (wp_ret (blk_r (then_r ?_)))))))
 replace hst := hst.pull1.pull1
 replace hst := at_config_Plan_close (pv := Pt b170 0) (x := o0) hst ⟨z, f173, f176⟩
 replace hst := objO_some hst
 obtain rfl := some_inj hm
 refine post_ret (vs := [I6 ((-1):Int)]) results22 (rvs_cons (rv_tmp z) rvs_nil) ?_
 exact ⟨z, hst.keep1⟩
}
 {
 replace hm := bif_f hc179 hm
 refine wv (.int .i64 a1) ((wanted_eq z z z (cvb hc179)).trans z) z z (wv (Pt b170 0) ((wanted_eq z z z (cvb hc179)).trans z) z z ?_)
 replace hst := hst.pull1.pull1
 replace hst := at_config_Plan_close (pv := Pt b170 0) (x := o0) hst ⟨z, f173, f176⟩
 replace hst := objO_some hst
 obtain ⟨t180, ht181, hm⟩ := bind_some hm
 refine wl_call ((wanted_eq z z z (cvb hc179)).trans z) z (x_call call18 z (vs := [Pt b170 0]) z) ?_
 refine (config_Plan_Lanes_ref hst.to1 ht181).mono ?_
 rintro _ w182 ⟨rfl, hst⟩
 refine ⟨_, z, ?_⟩
 replace hst := hst.of1
 replace hst := objO_get hst
 refine wv (.bool (decide (a1 ≥ t180))) ((wanted_eq z z z (cvb hc179)).trans z) z z (wv (.bool (decide (a1 ≥ t180))) z z (x_pick_f hc179 z z) (wv (.bool (decide (a1 ≥ t180))) z z z (wl_nil (tn ?_))))
 refine bsplit (decide (a1 ≥ t180)) (fun hc185 => ?_) (fun hc185 => ?_)
 {
 replace hm := bif_t hc185 hm
 refine wp_ift (cvb hc185) ?_
 refine wp_seq (wrl (wv (.int .i64 ((-1):Int)) z z z (wl_nil (tn (wp_ret (blk_r (then_r ?_)))))))
 replace hst := objO_some hst
 obtain rfl := some_inj hm
 refine post_ret (vs := [I6 ((-1):Int)]) results22 (rvs_cons (rv_tmp z) rvs_nil) ?_
 exact ⟨z, hst.keep1⟩
}
 {
 replace hm := bif_f hc185 hm
 refine wp_iff (cvb hc185) ?_
 refine wp_seq (wrl (wv (.int .i64 a1) z z z (wv (Pt b170 0) z z z ?_)))
 replace hst := objO_some hst
 obtain ⟨t186, ht187, hm⟩ := bind_some hm
 refine wc call19 [Pt b170 0] z z z ?_
 refine (config_Plan_Rules_ref hst.to1 ht187).mono ?_
 rintro _ w188 ⟨rfl, hst⟩
 refine ⟨_, z, ?_⟩
 replace hst := hst.of1
 replace hst := objO_get hst
 refine wv (.bool (a1 == t186)) z z z (wv (.bool (a1 == t186)) z z z (wl_nil (tn ?_)))
 refine bsplit (a1 == t186) (fun hc191 => ?_) (fun hc191 => ?_)
 {
 replace hm := bif_t hc191 hm
 refine wp_ift (cvb hc191) ?_
 refine wp_seq (wrl (wv (Pt b170 0) z z z ?_))
 obtain ⟨b192, v193, v196, v199, ⟨e201, f195, f198⟩, hst'⟩ := at_config_Plan_open hst
 clear hst
 have e201 := ptr_inj e201
 subst e201
 have hst := hst'
 clear hst'
 refine wv (Pt b170 0) z z z (wv (Pt b170 9) z z (x_field z underlying64 z sizeOf60 z) (wv (v199) z z (x_load z isAgg60 (hst.bc0 z)) ?_))
 replace hst := hst.pull1
 obtain ⟨t202, ht203, hm⟩ := bind_some hm
 refine wc call41 [v199] z z z ?_
 refine (label_Lattice_Bottom_ref hst.to1 ht203).mono ?_
 rintro _ w204 ⟨rfl, hst⟩
 refine ⟨_, z, ?_⟩
 replace hst := hst.of1
 refine wv (.int .i64 t202) z z z (wl_nil (tn (wp_ret (blk_r (then_r ?_)))))
 replace hst := hst.pull1
 replace hst := at_config_Plan_close (pv := Pt b170 0) (x := o0) hst ⟨z, f195, f198⟩
 replace hst := objO_some hst
 obtain rfl := some_inj hm
 refine post_ret (vs := [I6 t202]) results22 (rvs_cons (rv_tmp z) rvs_nil) ?_
 exact ⟨z, hst.keep1⟩
}
 {
 replace hm := bif_f hc191 hm
 refine wp_iff (cvb hc191) ?_
 refine wp_skip (blk_n (tn (wp_seq (wrl ?_))))
 refine wv (.int .i64 a1) z z z (wv (Pt b170 0) z z z ?_)
 replace hst := objO_some hst
 obtain ⟨t207, ht208, hm⟩ := bind_some hm
 refine wc call17 [Pt b170 0] z z z ?_
 refine (config_Plan_Shards_ref hst.to1 ht208).mono ?_
 rintro _ w209 ⟨rfl, hst⟩
 refine ⟨_, z, ?_⟩
 replace hst := hst.of1
 replace hst := objO_get hst
 obtain ⟨hg212, hm⟩ := gd_some hm
 refine wv (.int .i64 (i64.wrap (Int.tdiv a1 t207))) z z (x_quo (not_t hg212) z z) (wv (.int .i64 (i64.wrap (Int.tdiv a1 t207))) z z z (wl_nil (tn (wp_ret ?_))))
 replace hst := objO_some hst
 obtain rfl := some_inj hm
 refine post_ret (vs := [I6 (i64.wrap (Int.tdiv a1 t207))]) results22 (rvs_cons (rv_tmp z) rvs_nil) ?_
 exact ⟨z, hst.keep1⟩
}
}
}
}
}

theorem law04_awake_ref {w0 w : World} {I : HL} {R : SP}   (hst : St w0 w I [] R) {r : (Bool)} (hm : law04_awake = some r) :
  Calls prog 9 #[] w fun e w' => ∃ (I' : HL), e = .returned (.bool r) ∧ I.le I' ∧ St w0 w' I' [] R := by {
 unfold law04_awake at hm
 refine calls_start (args := []) func9 z ntmps9 (Nat.le_of_ble_eq_true z) ?_
 have hI0 := HL.le.refl I
 refine wp_seq (wrl (wv (.bool false) z z z (wl_nil (tn (wp_seq (wrl ?_))))))
 obtain ⟨t130, ht131, hm⟩ := bind_some hm
 refine wc call13 [Zb] z z z ?_
 refine (ref04_Small_ref hst.to0 ht131).mono ?_
 rintro _ w132 ⟨v135, v137, rfl, hst⟩
 refine ⟨_, z, ?_⟩
 replace hst := hst.of2
 obtain ⟨b141, w142, ew143, eb144, hst⟩ := hst.box [Zs, Zi, Zs, Zi, Zi, Zi, Zi, Zi, Zi] 28
 refine wl_run (v := Pt b141 0) (w' := w142) z z (x_al (by kernel_rfl) ew143 eb144) ?_
 obtain ⟨w146, hr147, hst⟩ := hst.bx [v135, I6 t130.Nodes, v137, I6 t130.Frame, I6 t130.Depth, I6 t130.Quota, I6 t130.Wide, I6 t130.Beat, I6 t130.Elect] sizeOf28 z (oC (one_of_sliceV hst.sv1) (oC z (oC (one_of_sliceV hst.sv2) (oC z (oC z (oC z (oC z (oC z (oC z oN))))))))) (by kernel_rfl)
 refine wl_unit z z (x_unit hr147) ?_
 refine wl_nil (tn (wp_seq (wrl ?_)))
 obtain ⟨b148, w149, ew150, eb151, hst⟩ := hst.lits (E := tyF64) (xs := [(0:Nat)]) [[Zf]] 36 1 z (Reps.cons z Reps.nil)
 refine wl_run (v := (.slice (some ⟨b148, 0, none⟩) 1 1)) (w' := w149) z z (x_als (by kernel_rfl) ew150 eb151) ?_
 refine wv (Pt b141 2) z z (x_field z underlying28 z sizeOf26 z) ?_
 replace hst := hst.pull1
 obtain ⟨w153, hr154, hst⟩ := hst.by_ [v135, I6 t130.Nodes, (.slice (some ⟨b148, 0, none⟩) 1 1), I6 t130.Frame, I6 t130.Depth, I6 t130.Quota, I6 t130.Wide, I6 t130.Beat, I6 t130.Elect] 2 ((.slice (some ⟨b148, 0, none⟩) 1 1)) sizeOf26 z (oC (one_of_sliceV hst.sv1) oN) (by kernel_rfl)
 refine wl_unit z z (x_unit hr154) ?_
 refine wl_nil (tn (wp_seq (wrl (wv (.agg #[v135, I6 t130.Nodes, (.slice (some ⟨b148, 0, none⟩) 1 1), I6 t130.Frame, I6 t130.Depth, I6 t130.Quota, I6 t130.Wide, I6 t130.Beat, I6 t130.Elect]) z z (x_loadN (cs := [v135, I6 t130.Nodes, (.slice (some ⟨b148, 0, none⟩) 1 1), I6 t130.Frame, I6 t130.Depth, I6 t130.Quota, I6 t130.Wide, I6 t130.Beat, I6 t130.Elect]) z isAgg28 sizeOf28 (hst.bcs0 0 z)) ?_))))
 replace hst := hst.pull2
 obtain ⟨I155, hI156, f157, hst⟩ := hst.own_fix
 replace hI0 := hI0.trans hI156
 replace hst := hst.pull1
 obtain ⟨I158, hI159, f160, hst⟩ := hst.own_fix
 replace f157 := f157.mono (ro_le hI159)
 replace hI0 := hI0.trans hI159
 obtain ⟨t161, ht162, hm⟩ := bind_some hm
 refine wc call11 [.agg #[v135, I6 t130.Nodes, (.slice (some ⟨b148, 0, none⟩) 1 1), I6 t130.Frame, I6 t130.Depth, I6 t130.Quota, I6 t130.Wide, I6 t130.Beat, I6 t130.Elect]] z z z ?_
 refine (config_New_ref (a0 := ({ Up := t130.Up, Nodes := t130.Nodes, Cuts := [(0:Nat)], Frame := t130.Frame, Depth := t130.Depth, Quota := t130.Quota, Wide := t130.Wide, Beat := t130.Beat, Elect := t130.Elect } : api_Config)) f157 f160 hst.to0 ht162).mono ?_
 rintro _ w163 ⟨I164, v166, rfl, hI165, hst⟩
 refine ⟨_, z, ?_⟩
 replace hst := hst.of1
 replace f157 := f157.mono (ro_le hI165)
 replace f160 := f160.mono (ro_le hI165)
 replace hI0 := hI0.trans hI165
 refine wv (.tuple #[v166, I6 t161.2]) z z z (wv (v166) z z z (wv (.int .i64 t161.2) z z z (wv (v166) z z z (wv (.int .i64 t161.2) z z z (wl_nil (tn (wp_seq (wrl (wv (.int .i64 t161.2) z z z (wv (.bool (t161.2 == (0:Int))) z z z (wv (.bool (t161.2 == (0:Int))) z z z ?_)))))))))))
 refine bsplit (t161.2 == (0:Int)) (fun hc168 => ?_) (fun hc168 => ?_)
 {
 replace hm := bif_t hc168 hm
 refine wv (v166) ((wanted_eq z z z (cvb hc168)).trans z) z z ?_
 obtain ⟨t169, ht170, hm⟩ := bind_some hm
 refine wl_call ((wanted_eq z z z (cvb hc168)).trans z) z (x_call call18 z (vs := [v166]) z) ?_
 refine (config_Plan_Lanes_ref hst.to1 ht170).mono ?_
 rintro _ w171 ⟨rfl, hst⟩
 refine ⟨_, z, ?_⟩
 replace hst := hst.of1
 refine wv (.bool (t169 == (5:Int))) ((wanted_eq z z z (cvb hc168)).trans z) z z (wv (.bool (t169 == (5:Int))) z z (x_pick_t hc168 z z) (wv (.bool (t169 == (5:Int))) z z z ?_))
 refine bsplit (t169 == (5:Int)) (fun hc174 => ?_) (fun hc174 => ?_)
 {
 replace hm := bif_t hc174 hm
 refine wv (v166) ((wanted_eq z z z (cvb hc174)).trans z) z z ?_
 obtain ⟨t175, ht176, hm⟩ := bind_some hm
 refine wl_call ((wanted_eq z z z (cvb hc174)).trans z) z (x_call call24 z (vs := [v166, I6 (1:Int), I6 (1:Int)]) z) ?_
 refine (config_Plan_Lane_ref hst.to1 ht176).mono ?_
 rintro _ w177 ⟨rfl, hst⟩
 refine ⟨_, z, ?_⟩
 replace hst := hst.of1
 refine wv (.bool (t175 == (3:Int))) ((wanted_eq z z z (cvb hc174)).trans z) z z (wv (.bool (t175 == (3:Int))) z z (x_pick_t hc174 z z) (wv (.bool (t175 == (3:Int))) z z z ?_))
 refine bsplit (t175 == (3:Int)) (fun hc180 => ?_) (fun hc180 => ?_)
 {
 replace hm := bif_t hc180 hm
 refine wv (v166) ((wanted_eq z z z (cvb hc180)).trans z) z z ?_
 obtain ⟨t181, ht182, hm⟩ := bind_some hm
 refine wl_call ((wanted_eq z z z (cvb hc180)).trans z) z (x_call call19 z (vs := [v166]) z) ?_
 refine (config_Plan_Rules_ref hst.to1 ht182).mono ?_
 rintro _ w183 ⟨rfl, hst⟩
 refine ⟨_, z, ?_⟩
 replace hst := hst.of1
 refine wv (.bool (t181 == (4:Int))) ((wanted_eq z z z (cvb hc180)).trans z) z z (wv (.bool (t181 == (4:Int))) z z (x_pick_t hc180 z z) (wv (.bool (t181 == (4:Int))) z z z ?_))
 refine bsplit (t181 == (4:Int)) (fun hc186 => ?_) (fun hc186 => ?_)
 {
 replace hm := bif_t hc186 hm
 refine wv (v166) ((wanted_eq z z z (cvb hc186)).trans z) z z ?_
 obtain ⟨t187, ht188, hm⟩ := bind_some hm
 refine wl_call ((wanted_eq z z z (cvb hc186)).trans z) z (x_call call22 z (vs := [v166, I6 (2:Int)]) z) ?_
 refine (config_Plan_Label_ref hst.to1 ht188).mono ?_
 rintro _ w189 ⟨rfl, hst⟩
 refine ⟨_, z, ?_⟩
 replace hst := hst.of1
 refine wv (.bool (t187 == (1:Int))) ((wanted_eq z z z (cvb hc186)).trans z) z z (wv (.bool (t187 == (1:Int))) z z (x_pick_t hc186 z z) (wv (.bool (t187 == (1:Int))) z z z (wl_nil (tn (wp_ret ?_)))))
 obtain rfl := some_inj hm
 refine post_ret (vs := [.bool (t187 == (1:Int))]) results9 (rvs_cons (rv_tmp z) rvs_nil) ?_
 exact ⟨_, z, hI0, hst.keep0⟩
}
 {
 replace hm := bif_f hc186 hm
 refine wo hc186 z z z z z z (wo hc186 z z z z z z (wo hc186 z z z z z z (wv (.bool false) z z (x_pick_f hc186 z z) (wv (.bool false) z z z (wl_nil (tn (wp_ret ?_)))))))
 obtain rfl := some_inj hm
 refine post_ret (vs := [.bool false]) results9 (rvs_cons (rv_tmp z) rvs_nil) ?_
 exact ⟨_, z, hI0, hst.keep0⟩
}
}
 {
 replace hm := bif_f hc180 hm
 refine wo hc180 z z z z z z (wo hc180 z z z z z z (wo hc180 z z z z z z (wv (.bool false) z z (x_pick_f hc180 z z) (wv (.bool false) z z z (wz z z z z z z (wz z z z z z z (wz z z z z z z (wv (.bool false) z z (x_pick_f z z z) (wv (.bool false) z z z (wl_nil (tn (wp_ret ?_))))))))))))
 obtain rfl := some_inj hm
 refine post_ret (vs := [.bool false]) results9 (rvs_cons (rv_tmp z) rvs_nil) ?_
 exact ⟨_, z, hI0, hst.keep0⟩
}
}
 {
 replace hm := bif_f hc174 hm
 refine wo hc174 z z z z z z (wo hc174 z z z z z z (wo hc174 z z z z z z (wv (.bool false) z z (x_pick_f hc174 z z) (wv (.bool false) z z z (wz z z z z z z (wz z z z z z z (wz z z z z z z (wv (.bool false) z z (x_pick_f z z z) (wv (.bool false) z z z (wz z z z z z z (wz z z z z z z (wz z z z z z z ?_))))))))))))
 refine wv (.bool false) z z (x_pick_f z z z) (wv (.bool false) z z z (wl_nil (tn (wp_ret ?_))))
 obtain rfl := some_inj hm
 refine post_ret (vs := [.bool false]) results9 (rvs_cons (rv_tmp z) rvs_nil) ?_
 exact ⟨_, z, hI0, hst.keep0⟩
}
}
 {
 replace hm := bif_f hc168 hm
 refine wo hc168 z z z z z z (wo hc168 z z z z z z (wo hc168 z z z z z z (wv (.bool false) z z (x_pick_f hc168 z z) (wv (.bool false) z z z (wz z z z z z z (wz z z z z z z (wz z z z z z z (wv (.bool false) z z (x_pick_f z z z) (wv (.bool false) z z z (wz z z z z z z (wz z z z z z z (wz z z z z z z ?_))))))))))))
 refine wv (.bool false) z z (x_pick_f z z z) (wv (.bool false) z z z (wz z z z z z z (wz z z z z z z (wz z z z z z z (wv (.bool false) z z (x_pick_f z z z) (wv (.bool false) z z z (wl_nil (tn (wp_ret ?_)))))))))
 obtain rfl := some_inj hm
 refine post_ret (vs := [.bool false]) results9 (rvs_cons (rv_tmp z) rvs_nil) ?_
 exact ⟨_, z, hI0, hst.keep0⟩
}
}

theorem math_Signbit_ref {w0 w : World} {I : HL} {R : SP} {a0 : Nat}  (hst : St w0 w I [] R) {r : (Bool)} (hm : math_Signbit a0 = some r) :
  Calls prog 37 #[F6 a0] w fun e w' => e = .returned (.bool r) ∧ St w0 w' I [] R := by {
 unfold math_Signbit at hm
 refine calls_start (args := [F6 a0]) func37 z ntmps37 (Nat.le_of_ble_eq_true z) ?_
 refine wp_seq (wrl (wv (.bool false) z z z (wl_nil (tn (wp_seq (wrl (wv (.float .f64 a0) z z z (wv (.int .u64 (Int.ofNat a0)) z z (by kernel_rfl) (wv (.int .i64 (i64.wrap (Int.ofNat a0))) z z (by kernel_rfl) (wv (.bool (decide ((i64.wrap (Int.ofNat a0)) < (0:Int)))) z z z (wv (.bool (decide ((i64.wrap (Int.ofNat a0)) < (0:Int)))) z z z (wl_nil (tn (wp_ret ?_))))))))))))))
 obtain rfl := some_inj hm
 refine post_ret (vs := [.bool (decide ((i64.wrap (Int.ofNat a0)) < (0:Int)))]) results37 (rvs_cons (rv_tmp z) rvs_nil) ?_
 exact ⟨z, hst.keep0⟩
}

theorem ref01_Ahead_ref {w0 w : World} {I : HL} {R : SP} {a0 : Nat} {a1 : Nat}  (hst : St w0 w I [] R) {r : (Bool)} (hm : ref01_Ahead a0 a1 = some r) :
  Calls prog 14 #[F6 a0, F6 a1] w fun e w' => e = .returned (.bool r) ∧ St w0 w' I [] R := by {
 unfold ref01_Ahead at hm
 refine calls_start (args := [F6 a0, F6 a1]) func14 z ntmps14 (Nat.le_of_ble_eq_true z) ?_
 refine wp_seq (wrl (wv (.bool false) z z z (wl_nil (tn (wp_seq (wp_seq (wrl (wv (.float .f64 a0) z z z (wv (.float .f64 a0) z z z (wv (.bool (fNe a0 a0)) z z z (wl_nil (tn ?_))))))))))))
 refine bsplit (fNe a0 a0) (fun hc106 => ?_) (fun hc106 => ?_)
 {
 replace hm := bif_t hc106 hm
 refine wp_ift (cvb hc106) ?_
 refine wp_seq (wrl (wv (.bool false) z z z (wl_nil (tn (wp_ret (then_r ?_))))))
 obtain rfl := some_inj hm
 refine post_ret (vs := [.bool false]) results14 (rvs_cons (rv_tmp z) rvs_nil) ?_
 exact ⟨z, hst.keep0⟩
}
 {
 replace hm := bif_f hc106 hm
 refine wp_iff (cvb hc106) ?_
 refine wp_skip (tn (wp_seq (wp_seq (wrl ?_))))
 refine wv (.float .f64 a1) z z z (wv (.float .f64 a1) z z z (wv (.bool (fNe a1 a1)) z z z (wl_nil (tn ?_))))
 refine bsplit (fNe a1 a1) (fun hc107 => ?_) (fun hc107 => ?_)
 {
 replace hm := bif_t hc107 hm
 refine wp_ift (cvb hc107) ?_
 refine wp_seq (wrl (wv (.bool true) z z z (wl_nil (tn (wp_ret (then_r ?_))))))
 obtain rfl := some_inj hm
 refine post_ret (vs := [.bool true]) results14 (rvs_cons (rv_tmp z) rvs_nil) ?_
 exact ⟨z, hst.keep0⟩
}
 {
 replace hm := bif_f hc107 hm
 refine wp_iff (cvb hc107) ?_
 refine wp_skip (tn ?_)
 obtain ⟨y123, hm, hx124⟩ := joinO_some hm
 refine wp_cut (fun a w => ∃ (σ121 : Nat → Value), (ref01_Ahead_j0 a0 a1) () = some r ∧ a = Fr 27 (upd (upd σ121 0 (.float .f64 a0)) 1 (.float .f64 a1)) ∧ St w0 w I [] R) ?_ ?_
 {
 refine wp_seq (wrl (wv (.float .f64 a0) z z z (wv (.bool (fEq a0 (0:Nat))) z z z (wv (.bool (fEq a0 (0:Nat))) z z z ?_))))
 refine bsplit (fEq a0 (0:Nat)) (fun hc108 => ?_) (fun hc108 => ?_)
 {
 replace hm := bif_t hc108 hm
 refine wv (.float .f64 a1) ((wanted_eq z z z (cvb hc108)).trans z) z z (wv (.bool (fEq a1 (0:Nat))) ((wanted_eq z z z (cvb hc108)).trans z) z z (wv (.bool (fEq a1 (0:Nat))) z z (x_pick_t hc108 z z) (wl_nil (tn ?_))))
 refine bsplit (fEq a1 (0:Nat)) (fun hc109 => ?_) (fun hc109 => ?_)
 {
 replace hm := bif_t hc109 hm
 refine wp_ift (cvb hc109) ?_
 refine wp_seq (wrl (wv (.float .f64 a0) z z z ?_))
 obtain ⟨t110, ht111, hm⟩ := bind_some hm
 refine wc call37 [F6 a0] z z z ?_
 refine (math_Signbit_ref hst.to0 ht111).mono ?_
 rintro _ w112 ⟨rfl, hst⟩
 refine ⟨_, z, ?_⟩
 replace hst := hst.of0
 refine wv (.bool t110) z z z ?_
 refine bsplit t110 (fun hc115 => ?_) (fun hc115 => ?_)
 {
 replace hm := bif_t hc115 hm
 refine wv (.float .f64 a1) ((wanted_eq z z z (cvb hc115)).trans z) z z ?_
 obtain ⟨t116, ht117, hm⟩ := bind_some hm
 refine wl_call ((wanted_eq z z z (cvb hc115)).trans z) z (x_call call37 z (vs := [F6 a1]) z) ?_
 refine (math_Signbit_ref hst.to0 ht117).mono ?_
 rintro _ w118 ⟨rfl, hst⟩
 refine ⟨_, z, ?_⟩
 replace hst := hst.of0
 refine wv (.bool (!t116)) ((wanted_eq z z z (cvb hc115)).trans z) z z (wv (.bool (!t116)) z z (x_pick_t hc115 z z) (wv (.bool (!t116)) z z z (wl_nil (tn (wp_ret (then_r ?_))))))
 replace hm := inr_up hm hx124
 obtain rfl := some_inj hm
 refine post_ret (vs := [.bool (!t116)]) results14 (rvs_cons (rv_tmp z) rvs_nil) ?_
 exact ⟨z, hst.keep0⟩
}
 {
 replace hm := bif_f hc115 hm
 refine wo hc115 z z z z z z (wo hc115 z z z z z z (wo hc115 z z z z z z (wv (.bool false) z z (x_pick_f hc115 z z) (wv (.bool false) z z z (wl_nil (tn (wp_ret (then_r ?_))))))))
 replace hm := inr_up hm hx124
 obtain rfl := some_inj hm
 refine post_ret (vs := [.bool false]) results14 (rvs_cons (rv_tmp z) rvs_nil) ?_
 exact ⟨z, hst.keep0⟩
}
}
 {
 replace hm := bif_f hc109 hm
 refine wp_iff (cvb hc109) ?_
 refine wp_skip (tn ?_)
 replace hst := hst.keep0
 obtain rfl := some_inj hm
 exact ⟨_, hx124, (fu 0 (.float .f64 a0) z (fu 1 (.float .f64 a1) z z)), hst⟩
}
}
 {
 replace hm := bif_f hc108 hm
 refine wo hc108 z z z z z z (wo hc108 z z z z z z (wv (.bool false) z z (x_pick_f hc108 z z) (wl_nil (tn ?_))))
 refine wp_iff z ?_
 refine wp_skip (tn ?_)
 replace hst := hst.keep0
 obtain rfl := some_inj hm
 exact ⟨_, hx124, (fu 0 (.float .f64 a0) z (fu 1 (.float .f64 a1) z z)), hst⟩
}
}
 {
 clear hst
 rintro _ w125 ⟨σ121, hm, rfl, hst⟩
 dsimp only [ref01_Ahead_j0] at hm
 refine wp_seq (wrl (wv (.float .f64 a0) z z z (wv (.float .f64 a1) z z z (wv (.bool (fLt a0 a1)) z z z (wv (.bool (fLt a0 a1)) z z z (wl_nil (tn (wp_ret ?_))))))))
 obtain rfl := some_inj hm
 refine post_ret (vs := [.bool (fLt a0 a1)]) results14 (rvs_cons (rv_tmp z) rvs_nil) ?_
 exact ⟨z, hst.keep0⟩
}
}
}
}

theorem ref01_Rising_ref {w0 w : World} {I : HL} {R : SP} {a0 : (List Nat)} {r0_0 : Value} (f0_0 : Rd tyF64 R I r0_0 a0) (hst : St w0 w I [] R) {r : (Bool)} (hm : ref01_Rising a0 = some r) :
  Calls prog 16 #[r0_0] w fun e w' => e = .returned (.bool r) ∧ St w0 w' I [] R := by {
 unfold ref01_Rising at hm
 refine calls_start (args := [r0_0]) func16 z ntmps16 (Nat.le_of_ble_eq_true z) ?_
 refine wp_seq (wrl (wv (.bool false) z z z (wl_nil (tn (wp_seq (wp_seq (wrl (wv (.int .i64 (1:Int)) z z z (wl_nil (tn (wp_block ?_)))))))))))
 obtain ⟨n184, hm⟩ := loopO_some hm
 refine wp_loop_n (fun n a w => ∃ (z182 : Int) (σ183 : Nat → Value), loopN (ref01_Rising_l0 a0) n z182 = some r ∧ a = Fr 21 (upd (upd σ183 0 (r0_0)) 3 (.int .i64 z182)) ∧ St w0 w I [] R) n184 ⟨(1:Int), _, hm, (fu 0 r0_0 z (fu 3 (.int .i64 (1:Int)) z z)), hst⟩ ?_
 rintro n190 _ w185 ⟨z182, σ183, hm, rfl, hst⟩
 obtain ⟨n187, y188, rfl, hm, hx189⟩ := loopN_some hm
 dsimp only [ref01_Rising_l0] at hm
 refine wp_seq (wp_seq (wrl (wv (.int .i64 z182) z z z (wv (r0_0) z z z (wv (.int .i64 ((a0).length : Int)) z z (x_len z underlying26 (rd_sliceV f0_0)) (wv (.bool (decide (z182 < ((a0).length : Int)))) z z z (wl_nil (tn ?_))))))))
 refine bsplit (decide (z182 < ((a0).length : Int))) (fun hc191 => ?_) (fun hc191 => ?_)
 {
 replace hm := bif_t hc191 hm
 refine wp_ift (cvb hc191) ?_
 refine wp_skip (tn (wp_seq (wp_block (wp_seq ?_))))
 refine wp_region_St hst 11 [0, 1, 2, 3, 4, 5, 6, 7, 8, 9, 10] [0, 0, 2, 7, 15, 0, 0, 96, 224, 511, 1023] [] z (by kernel_rfl) (by kernel_rfl) Try.mixed (by kernel_rfl) ?_
 refine wsr (r0_0) 0 z z z (by kernel_rfl) (fun w hst => z) (wsr (.int .i64 z182) 1 z z z (by kernel_rfl) (fun w hst => z) (wsr (.int .i64 (i64.wrap (z182 - (1:Int)))) 2 z z z (by kernel_rfl) (fun w hst => z) ?_))
 obtain ⟨x192, hx193, hm⟩ := bind_some hm
 obtain ⟨h194, h195, hi196⟩ := geto_some hx193
 refine wsr (.pointer (some (eAddr r0_0 ((i64.wrap (z182 - (1:Int))).toNat * 1 + 0)))) 3 z z z (by kernel_rfl) (fun w hst => x_index z z underlying26 sizeOf36 (rd_sliceV f0_0) h194 h195) (wsr (.float .f64 x192) 4 z z z (by kernel_rfl) (fun w hst => x_load z isAgg36 (rd_load f0_0 (HL.le.refl _) hst hi196 (by rintro _ rfl; rfl))) (wsr (r0_0) 5 z z z (by kernel_rfl) (fun w hst => z) (wsr (.int .i64 z182) 6 z z z (by kernel_rfl) (fun w hst => z) ?_)))
 obtain ⟨x197, hx198, hm⟩ := bind_some hm
 obtain ⟨h199, h200, hi201⟩ := geto_some hx198
 refine wsr (.pointer (some (eAddr r0_0 (z182.toNat * 1 + 0)))) 7 z z z (by kernel_rfl) (fun w hst => x_index z z underlying26 sizeOf36 (rd_sliceV f0_0) h199 h200) (wsr (.float .f64 x197) 8 z z z (by kernel_rfl) (fun w hst => x_load z isAgg36 (rd_load f0_0 (HL.le.refl _) hst hi201 (by rintro _ rfl; rfl))) ?_)
 refine ws_e1 9 (by kernel_rfl) ?_
 refine nxe [10] (by kernel_rfl) z z ?_
 clear hst
 intro w hst
 obtain ⟨t202, ht203, hm⟩ := bind_some hm
 refine wec call14 [F6 x192, F6 x197] z z ?_
 refine (ref01_Ahead_ref hst.to0 ht203).mono ?_
 rintro _ w204 ⟨rfl, hst⟩
 refine ⟨_, z, ?_⟩
 replace hst := hst.of0
 refine ws_next (pend' := []) hst (by kernel_rfl) pk_nil ?_
 refine wsr (.bool (!t202)) 10 z z z (by kernel_rfl) (fun w hst => z) ?_
 refine ws_nil ?_
 intro w hst
 refine tn ?_
 refine bsplit (!t202) (fun hc207 => ?_) (fun hc207 => ?_)
 {
 replace hm := bif_t hc207 hm
 refine wp_ift (cvb hc207) ?_
 refine wp_seq (wrl (wv (.bool false) z z z (wl_nil (tn (wp_ret (blk_r (then_r (then_r ?_))))))))
 replace hm := inr_up hm hx189
 refine blk_r (then_r ?_)
 obtain rfl := some_inj hm
 refine post_ret (vs := [.bool false]) results16 (rvs_cons (rv_tmp z) rvs_nil) ?_
 exact ⟨z, hst.keep0⟩
}
 {
 replace hm := bif_f hc207 hm
 refine wp_iff (cvb hc207) ?_
 refine wp_skip (blk_n (tn (wrl ?_)))
 refine wv (.int .i64 z182) z z z (wv (.int .i64 (i64.wrap (z182 + (1:Int)))) z z z (wv (.int .i64 (i64.wrap (z182 + (1:Int)))) z z z (wl_nil (tn ?_))))
 replace hst := hst.keep0
 obtain rfl := some_inj hm
 exact ⟨_, Nat.lt_succ_self _, (i64.wrap (z182 + (1:Int))), _, hx189, (fu 0 r0_0 z (fu 3 (.int .i64 (i64.wrap (z182 + (1:Int)))) z z)), hst⟩
}
}
 {
 replace hm := bif_f hc191 hm
 refine wp_iff (cvb hc191) ?_
 refine wp_exit (then_x (then_x ?_))
 replace hm := inr_up hm hx189
 refine blk_x (tn (wp_seq (wrl ?_)))
 refine wv (.bool true) z z z (wl_nil (tn (wp_ret ?_)))
 obtain rfl := some_inj hm
 refine post_ret (vs := [.bool true]) results16 (rvs_cons (rv_tmp z) rvs_nil) ?_
 exact ⟨z, hst.keep0⟩
}
}

theorem ref03_Leq_ref {w0 w : World} {I : HL} {R : SP} {a0 : (List Int)} {r0_0 : Value} {a1 : Int} {a2 : Int} (f0_0 : Rd (tyInt .u64) R I r0_0 a0) (hst : St w0 w I [] R) {r : (Bool)} (hm : ref03_Leq a0 a1 a2 = some r) :
  Calls prog 42 #[r0_0, I6 a1, I6 a2] w fun e w' => e = .returned (.bool r) ∧ St w0 w' I [] R := by {
 unfold ref03_Leq at hm
 refine calls_start (args := [r0_0, I6 a1, I6 a2]) func42 z ntmps42 (Nat.le_of_ble_eq_true z) ?_
 refine wp_seq (wrl (wv (.bool false) z z z (wl_nil (tn (wp_seq (wrl (wv (.int .i64 a1) z z z (wv (.bool (decide (a1 ≥ (0:Int)))) z z z (wv (.bool (decide (a1 ≥ (0:Int)))) z z z ?_)))))))))
 refine bsplit (decide (a1 ≥ (0:Int))) (fun hc136 => ?_) (fun hc136 => ?_)
 {
 replace hm := bif_t hc136 hm
 refine wv (.int .i64 a2) ((wanted_eq z z z (cvb hc136)).trans z) z z (wv (.bool (decide (a2 ≥ (0:Int)))) ((wanted_eq z z z (cvb hc136)).trans z) z z (wv (.bool (decide (a2 ≥ (0:Int)))) z z (x_pick_t hc136 z z) (wv (.bool (decide (a2 ≥ (0:Int)))) z z z ?_)))
 refine bsplit (decide (a2 ≥ (0:Int))) (fun hc137 => ?_) (fun hc137 => ?_)
 {
 replace hm := bif_t hc137 hm
 refine wv (.int .i64 a1) ((wanted_eq z z z (cvb hc137)).trans z) z z (wv (r0_0) ((wanted_eq z z z (cvb hc137)).trans z) z z (wv (.int .i64 ((a0).length : Int)) ((wanted_eq z z z (cvb hc137)).trans z) z (x_len z underlying25 (rd_sliceV f0_0)) (wv (.bool (decide (a1 < ((a0).length : Int)))) ((wanted_eq z z z (cvb hc137)).trans z) z z (wv (.bool (decide (a1 < ((a0).length : Int)))) z z (x_pick_t hc137 z z) (wv (.bool (decide (a1 < ((a0).length : Int)))) z z z ?_)))))
 refine bsplit (decide (a1 < ((a0).length : Int))) (fun hc138 => ?_) (fun hc138 => ?_)
 {
 replace hm := bif_t hc138 hm
 refine wv (.int .i64 a2) ((wanted_eq z z z (cvb hc138)).trans z) z z (wv (r0_0) ((wanted_eq z z z (cvb hc138)).trans z) z z (wv (.int .i64 ((a0).length : Int)) ((wanted_eq z z z (cvb hc138)).trans z) z (x_len z underlying25 (rd_sliceV f0_0)) (wv (.bool (decide (a2 < ((a0).length : Int)))) ((wanted_eq z z z (cvb hc138)).trans z) z z (wv (.bool (decide (a2 < ((a0).length : Int)))) z z (x_pick_t hc138 z z) (wv (.bool (decide (a2 < ((a0).length : Int)))) z z z ?_)))))
 refine bsplit (decide (a2 < ((a0).length : Int))) (fun hc139 => ?_) (fun hc139 => ?_)
 {
 replace hm := bif_t hc139 hm
 refine wv (r0_0) ((wanted_eq z z z (cvb hc139)).trans z) z z (wv (.int .i64 a1) ((wanted_eq z z z (cvb hc139)).trans z) z z ?_)
 obtain ⟨x140, hx141, hm⟩ := bind_some hm
 obtain ⟨h142, h143, hi144⟩ := geto_some hx141
 refine wv (.pointer (some (eAddr r0_0 (a1.toNat * 1 + 0)))) ((wanted_eq z z z (cvb hc139)).trans z) z (x_index z z underlying25 sizeOf22 (rd_sliceV f0_0) h142 h143) (wv (.int .u64 x140) ((wanted_eq z z z (cvb hc139)).trans z) z (x_load z isAgg22 (rd_load f0_0 (HL.le.refl _) hst hi144 (by rintro _ rfl; rfl))) (wv (.int .i64 a2) ((wanted_eq z z z (cvb hc139)).trans z) z z ?_))
 obtain ⟨hg145, hm⟩ := gd_some hm
 refine wv (.int .u64 (iShr .u64 x140 a2)) ((wanted_eq z z z (cvb hc139)).trans z) z (x_shr (of_decide_eq_true hg145) z z) (wv (.int .u64 (bAnd .u64 (iShr .u64 x140 a2) (1:Int))) ((wanted_eq z z z (cvb hc139)).trans z) z z (wv (.bool ((bAnd .u64 (iShr .u64 x140 a2) (1:Int)) == (1:Int))) ((wanted_eq z z z (cvb hc139)).trans z) z z (wv (.bool ((bAnd .u64 (iShr .u64 x140 a2) (1:Int)) == (1:Int))) z z (x_pick_t hc139 z z) (wv (.bool ((bAnd .u64 (iShr .u64 x140 a2) (1:Int)) == (1:Int))) z z z (wl_nil (tn (wp_ret ?_)))))))
 obtain rfl := some_inj hm
 refine post_ret (vs := [.bool ((bAnd .u64 (iShr .u64 x140 a2) (1:Int)) == (1:Int))]) results42 (rvs_cons (rv_tmp z) rvs_nil) ?_
 exact ⟨z, hst.keep0⟩
}
 {
 replace hm := bif_f hc139 hm
 refine wo hc139 z z z z z z (wo hc139 z z z z z z (wo hc139 z z z z z z (wo hc139 z z z z z z (wo hc139 z z z z z z (wo hc139 z z z z z z (wo hc139 z z z z z z (wo hc139 z z z z z z (wv (.bool false) z z (x_pick_f hc139 z z) (wv (.bool false) z z z (wl_nil (tn (wp_ret ?_))))))))))))
 obtain rfl := some_inj hm
 refine post_ret (vs := [.bool false]) results42 (rvs_cons (rv_tmp z) rvs_nil) ?_
 exact ⟨z, hst.keep0⟩
}
}
 {
 replace hm := bif_f hc138 hm
 refine wo hc138 z z z z z z (wo hc138 z z z z z z (wo hc138 z z z z z z (wo hc138 z z z z z z (wv (.bool false) z z (x_pick_f hc138 z z) (wv (.bool false) z z z (wz z z z z z z (wz z z z z z z (wz z z z z z z (wz z z z z z z (wz z z z z z z (wz z z z z z z (wz z z z z z z ?_))))))))))))
 refine wz z z z z z z (wv (.bool false) z z (x_pick_f z z z) (wv (.bool false) z z z (wl_nil (tn (wp_ret ?_)))))
 obtain rfl := some_inj hm
 refine post_ret (vs := [.bool false]) results42 (rvs_cons (rv_tmp z) rvs_nil) ?_
 exact ⟨z, hst.keep0⟩
}
}
 {
 replace hm := bif_f hc137 hm
 refine wo hc137 z z z z z z (wo hc137 z z z z z z (wo hc137 z z z z z z (wo hc137 z z z z z z (wv (.bool false) z z (x_pick_f hc137 z z) (wv (.bool false) z z z (wz z z z z z z (wz z z z z z z (wz z z z z z z (wz z z z z z z (wv (.bool false) z z (x_pick_f z z z) (wv (.bool false) z z z (wz z z z z z z ?_))))))))))))
 refine wz z z z z z z (wz z z z z z z (wz z z z z z z (wz z z z z z z (wz z z z z z z (wz z z z z z z (wz z z z z z z (wv (.bool false) z z (x_pick_f z z z) (wv (.bool false) z z z (wl_nil (tn (wp_ret ?_)))))))))))
 obtain rfl := some_inj hm
 refine post_ret (vs := [.bool false]) results42 (rvs_cons (rv_tmp z) rvs_nil) ?_
 exact ⟨z, hst.keep0⟩
}
}
 {
 replace hm := bif_f hc136 hm
 refine wo hc136 z z z z z z (wo hc136 z z z z z z (wv (.bool false) z z (x_pick_f hc136 z z) (wv (.bool false) z z z (wz z z z z z z (wz z z z z z z (wz z z z z z z (wz z z z z z z (wv (.bool false) z z (x_pick_f z z z) (wv (.bool false) z z z (wz z z z z z z (wz z z z z z z (wz z z z z z z ?_))))))))))))
 refine wz z z z z z z (wv (.bool false) z z (x_pick_f z z z) (wv (.bool false) z z z (wz z z z z z z (wz z z z z z z (wz z z z z z z (wz z z z z z z (wz z z z z z z (wz z z z z z z (wz z z z z z z (wz z z z z z z (wv (.bool false) z z (x_pick_f z z z) (wv (.bool false) z z z ?_))))))))))))
 refine wl_nil (tn (wp_ret ?_))
 obtain rfl := some_inj hm
 refine post_ret (vs := [.bool false]) results42 (rvs_cons (rv_tmp z) rvs_nil) ?_
 exact ⟨z, hst.keep0⟩
}
}

theorem ref03_Join_ref {w0 w : World} {I : HL} {R : SP} {a0 : (List Int)} {r0_0 : Value} {a1 : Int} {a2 : Int} (f0_0 : Rd (tyInt .u64) R I r0_0 a0) (hst : St w0 w I [] R) {r : (Int)} (hm : ref03_Join a0 a1 a2 = some r) :
  Calls prog 50 #[r0_0, I6 a1, I6 a2] w fun e w' => e = .returned (.int .i64 r) ∧ St w0 w' I [] R := by {
 unfold ref03_Join at hm
 refine calls_start (args := [r0_0, I6 a1, I6 a2]) func50 z ntmps50 (Nat.le_of_ble_eq_true z) ?_
 refine wp_seq (wrl (wv (.int .i64 (0:Int)) z z z (wl_nil (tn (wp_seq (wp_seq (wrl (wv (.int .i64 (0:Int)) z z z (wl_nil (tn (wp_block ?_)))))))))))
 obtain ⟨n1440, hm⟩ := loopO_some hm
 refine wp_loop_n (fun n a w => ∃ (z1438 : Int) (σ1439 : Nat → Value), loopN (ref03_Join_l0 a0 a1 a2) n z1438 = some r ∧ a = Fr 54 (upd (upd (upd (upd σ1439 0 (r0_0)) 1 (.int .i64 a1)) 2 (.int .i64 a2)) 7 (.int .i64 z1438)) ∧ St w0 w I [] R) n1440 ⟨(0:Int), _, hm, (fu 0 r0_0 z (fu 1 (.int .i64 a1) z (fu 2 (.int .i64 a2) z (fu 7 (.int .i64 (0:Int)) z z)))), hst⟩ ?_
 rintro n1446 _ w1441 ⟨z1438, σ1439, hm, rfl, hst⟩
 obtain ⟨n1443, y1444, rfl, hm, hx1445⟩ := loopN_some hm
 dsimp only [ref03_Join_l0] at hm
 refine wp_seq (wp_seq (wrl (wv (.int .i64 z1438) z z z (wv (r0_0) z z z (wv (.int .i64 ((a0).length : Int)) z z (x_len z underlying25 (rd_sliceV f0_0)) (wv (.bool (decide (z1438 < ((a0).length : Int)))) z z z (wl_nil (tn ?_))))))))
 refine bsplit (decide (z1438 < ((a0).length : Int))) (fun hc1447 => ?_) (fun hc1447 => ?_)
 {
 replace hm := bif_t hc1447 hm
 refine wp_ift (cvb hc1447) ?_
 refine wp_skip (tn (wp_seq (wp_block ?_)))
 obtain ⟨y1462, hm, hx1463⟩ := bind_some hm
 refine wp_cut (fun a w => ∃ (z1459 : Bool) (σ1460 : Nat → Value), (ref03_Join_j1 a0 a1 a2 z1438) z1459 = some y1444 ∧ a = Fr 54 (upd (upd (upd (upd (upd σ1460 0 (r0_0)) 1 (.int .i64 a1)) 2 (.int .i64 a2)) 7 (.int .i64 z1438)) 8 (.bool z1459)) ∧ St w0 w I [] R) ?_ ?_
 {
 refine wrl (wv (r0_0) z z z (wv (.int .i64 a1) z z z (wv (.int .i64 z1438) z z z ?_)))
 obtain ⟨t1448, ht1449, hm⟩ := bind_some hm
 refine wc call42 [r0_0, I6 a1, I6 z1438] z z z ?_
 refine (ref03_Leq_ref (f0_0.mono (rd_weak _)) hst.to0 ht1449).mono ?_
 rintro _ w1450 ⟨rfl, hst⟩
 refine ⟨_, z, ?_⟩
 replace hst := hst.of0
 refine wv (.bool t1448) z z z ?_
 refine bsplit t1448 (fun hc1453 => ?_) (fun hc1453 => ?_)
 {
 replace hm := bif_t hc1453 hm
 refine wv (r0_0) ((wanted_eq z z z (cvb hc1453)).trans z) z z (wv (.int .i64 a2) ((wanted_eq z z z (cvb hc1453)).trans z) z z (wv (.int .i64 z1438) ((wanted_eq z z z (cvb hc1453)).trans z) z z ?_))
 obtain ⟨t1454, ht1455, hm⟩ := bind_some hm
 refine wl_call ((wanted_eq z z z (cvb hc1453)).trans z) z (x_call call42 z (vs := [r0_0, I6 a2, I6 z1438]) z) ?_
 refine (ref03_Leq_ref (f0_0.mono (rd_weak _)) hst.to0 ht1455).mono ?_
 rintro _ w1456 ⟨rfl, hst⟩
 refine ⟨_, z, ?_⟩
 replace hst := hst.of0
 refine wv (.bool t1454) z z (x_pick_t hc1453 z z) (wv (.bool t1454) z z z (wl_nil (tn ?_)))
 replace hst := hst.keep0
 obtain rfl := some_inj hm
 exact ⟨t1454, _, hx1463, (fu 0 r0_0 z (fu 1 (.int .i64 a1) z (fu 2 (.int .i64 a2) z (fu 7 (.int .i64 z1438) z (fu 8 (.bool t1454) z z))))), hst⟩
}
 {
 replace hm := bif_f hc1453 hm
 refine wo hc1453 z z z z z z (wo hc1453 z z z z z z (wo hc1453 z z z z z z (wo hc1453 z z z z z z (wv (.bool false) z z (x_pick_f hc1453 z z) (wv (.bool false) z z z (wl_nil (tn ?_)))))))
 replace hst := hst.keep0
 obtain rfl := some_inj hm
 exact ⟨false, _, hx1463, (fu 0 r0_0 z (fu 1 (.int .i64 a1) z (fu 2 (.int .i64 a2) z (fu 7 (.int .i64 z1438) z (fu 8 (.bool false) z z))))), hst⟩
}
}
 {
 clear hst
 rintro _ w1464 ⟨z1459, σ1460, hm, rfl, hst⟩
 dsimp only [ref03_Join_j1] at hm
 refine wp_seq (wp_seq (wrl (wv (.int .i64 (0:Int)) z z z (wl_nil (tn (wp_block ?_))))))
 obtain ⟨n1510, hm⟩ := loopO_some hm
 refine wp_loop_n (fun n a w => ∃ (z1507 : Bool) (z1508 : Int) (σ1509 : Nat → Value), loopN (ref03_Join_l2 a0 a1 a2 z1438) n (z1507, z1508) = some y1444 ∧ a = Fr 54 (upd (upd (upd (upd (upd (upd σ1509 0 (r0_0)) 1 (.int .i64 a1)) 2 (.int .i64 a2)) 7 (.int .i64 z1438)) 8 (.bool z1507)) 9 (.int .i64 z1508)) ∧ St w0 w I [] R) n1510 ⟨z1459, (0:Int), _, hm, (fu 0 r0_0 z (fu 1 (.int .i64 a1) z (fu 2 (.int .i64 a2) z (fu 7 (.int .i64 z1438) z (fu 8 (.bool z1459) z (fu 9 (.int .i64 (0:Int)) z z)))))), hst⟩ ?_
 rintro n1516 _ w1511 ⟨z1507, z1508, σ1509, hm, rfl, hst⟩
 obtain ⟨n1513, y1514, rfl, hm, hx1515⟩ := loopN_some hm
 dsimp only [ref03_Join_l2] at hm
 refine wp_seq (wp_seq (wrl (wv (.int .i64 z1508) z z z (wv (r0_0) z z z (wv (.int .i64 ((a0).length : Int)) z z (x_len z underlying25 (rd_sliceV f0_0)) (wv (.bool (decide (z1508 < ((a0).length : Int)))) z z z (wv (.bool (decide (z1508 < ((a0).length : Int)))) z z z ?_)))))))
 refine bsplit (decide (z1508 < ((a0).length : Int))) (fun hc1517 => ?_) (fun hc1517 => ?_)
 {
 replace hm := bif_t hc1517 hm
 refine wv (.bool z1507) ((wanted_eq z z z (cvb hc1517)).trans z) z z (wv (.bool z1507) z z (x_pick_t hc1517 z z) (wl_nil (tn ?_)))
 refine bsplit z1507 (fun hc1518 => ?_) (fun hc1518 => ?_)
 {
 replace hm := bif_t hc1518 hm
 refine wp_ift (cvb hc1518) ?_
 refine wp_skip (tn (wp_seq (wp_block (wp_seq (wrl ?_)))))
 refine wv (r0_0) z z z (wv (.int .i64 a1) z z z (wv (.int .i64 z1508) z z z ?_))
 obtain ⟨t1519, ht1520, hm⟩ := bind_some hm
 refine wc call42 [r0_0, I6 a1, I6 z1508] z z z ?_
 refine (ref03_Leq_ref (f0_0.mono (rd_weak _)) hst.to0 ht1520).mono ?_
 rintro _ w1521 ⟨rfl, hst⟩
 refine ⟨_, z, ?_⟩
 replace hst := hst.of0
 refine wv (.bool t1519) z z z ?_
 refine bsplit t1519 (fun hc1524 => ?_) (fun hc1524 => ?_)
 {
 replace hm := bif_t hc1524 hm
 refine wv (r0_0) ((wanted_eq z z z (cvb hc1524)).trans z) z z (wv (.int .i64 a2) ((wanted_eq z z z (cvb hc1524)).trans z) z z (wv (.int .i64 z1508) ((wanted_eq z z z (cvb hc1524)).trans z) z z ?_))
 obtain ⟨t1525, ht1526, hm⟩ := bind_some hm
 refine wl_call ((wanted_eq z z z (cvb hc1524)).trans z) z (x_call call42 z (vs := [r0_0, I6 a2, I6 z1508]) z) ?_
 refine (ref03_Leq_ref (f0_0.mono (rd_weak _)) hst.to0 ht1526).mono ?_
 rintro _ w1527 ⟨rfl, hst⟩
 refine ⟨_, z, ?_⟩
 replace hst := hst.of0
 refine wv (.bool t1525) z z (x_pick_t hc1524 z z) (wv (.bool t1525) z z z ?_)
 refine bsplit t1525 (fun hc1530 => ?_) (fun hc1530 => ?_)
 {
 replace hm := bif_t hc1530 hm
 refine wv (r0_0) ((wanted_eq z z z (cvb hc1530)).trans z) z z (wv (.int .i64 z1438) ((wanted_eq z z z (cvb hc1530)).trans z) z z (wv (.int .i64 z1508) ((wanted_eq z z z (cvb hc1530)).trans z) z z ?_))
 obtain ⟨t1531, ht1532, hm⟩ := bind_some hm
 refine wl_call ((wanted_eq z z z (cvb hc1530)).trans z) z (x_call call42 z (vs := [r0_0, I6 z1438, I6 z1508]) z) ?_
 refine (ref03_Leq_ref (f0_0.mono (rd_weak _)) hst.to0 ht1532).mono ?_
 rintro _ w1533 ⟨rfl, hst⟩
 refine ⟨_, z, ?_⟩
 replace hst := hst.of0
 refine wv (.bool (!t1531)) ((wanted_eq z z z (cvb hc1530)).trans z) z z (wv (.bool (!t1531)) z z (x_pick_t hc1530 z z) (wl_nil (tn ?_)))
 refine bsplit (!t1531) (fun hc1536 => ?_) (fun hc1536 => ?_)
 {
 replace hm := bif_t hc1536 hm
 refine wp_ift (cvb hc1536) ?_
 refine wrl (wv (.bool false) z z z (wl_nil (blk_n (tn (wrl (wv (.int .i64 z1508) z z z (wv (.int .i64 (i64.wrap (z1508 + (1:Int)))) z z z (wv (.int .i64 (i64.wrap (z1508 + (1:Int)))) z z z (wl_nil (tn ?_))))))))))
 replace hst := hst.keep0
 obtain rfl := some_inj hm
 exact ⟨_, Nat.lt_succ_self _, false, (i64.wrap (z1508 + (1:Int))), _, hx1515, (fu 0 r0_0 z (fu 1 (.int .i64 a1) z (fu 2 (.int .i64 a2) z (fu 7 (.int .i64 z1438) z (fu 8 (.bool false) z (fu 9 (.int .i64 (i64.wrap (z1508 + (1:Int)))) z z)))))), hst⟩
}
 {
 replace hm := bif_f hc1536 hm
 refine wp_iff (cvb hc1536) ?_
 refine wp_skip (blk_n (tn (wrl ?_)))
 refine wv (.int .i64 z1508) z z z (wv (.int .i64 (i64.wrap (z1508 + (1:Int)))) z z z (wv (.int .i64 (i64.wrap (z1508 + (1:Int)))) z z z (wl_nil (tn ?_))))
 replace hst := hst.keep0
 obtain rfl := some_inj hm
 exact ⟨_, Nat.lt_succ_self _, z1507, (i64.wrap (z1508 + (1:Int))), _, hx1515, (fu 0 r0_0 z (fu 1 (.int .i64 a1) z (fu 2 (.int .i64 a2) z (fu 7 (.int .i64 z1438) z (fu 8 (.bool z1507) z (fu 9 (.int .i64 (i64.wrap (z1508 + (1:Int)))) z z)))))), hst⟩
}
}
 {
 replace hm := bif_f hc1530 hm
 refine wo hc1530 z z z z z z (wo hc1530 z z z z z z (wo hc1530 z z z z z z (wo hc1530 z z z z z z (wo hc1530 z z z z z z (wv (.bool false) z z (x_pick_f hc1530 z z) (wl_nil (tn ?_)))))))
 refine wp_iff z ?_
 refine wp_skip (blk_n (tn (wrl ?_)))
 refine wv (.int .i64 z1508) z z z (wv (.int .i64 (i64.wrap (z1508 + (1:Int)))) z z z (wv (.int .i64 (i64.wrap (z1508 + (1:Int)))) z z z (wl_nil (tn ?_))))
 replace hst := hst.keep0
 obtain rfl := some_inj hm
 exact ⟨_, Nat.lt_succ_self _, z1507, (i64.wrap (z1508 + (1:Int))), _, hx1515, (fu 0 r0_0 z (fu 1 (.int .i64 a1) z (fu 2 (.int .i64 a2) z (fu 7 (.int .i64 z1438) z (fu 8 (.bool z1507) z (fu 9 (.int .i64 (i64.wrap (z1508 + (1:Int)))) z z)))))), hst⟩
}
}
 {
 replace hm := bif_f hc1524 hm
 refine wo hc1524 z z z z z z (wo hc1524 z z z z z z (wo hc1524 z z z z z z (wo hc1524 z z z z z z (wv (.bool false) z z (x_pick_f hc1524 z z) (wv (.bool false) z z z (wz z z z z z z (wz z z z z z z (wz z z z z z z (wz z z z z z z (wz z z z z z z (wv (.bool false) z z (x_pick_f z z z) (wl_nil (tn ?_)))))))))))))
 refine wp_iff z ?_
 refine wp_skip (blk_n (tn (wrl ?_)))
 refine wv (.int .i64 z1508) z z z (wv (.int .i64 (i64.wrap (z1508 + (1:Int)))) z z z (wv (.int .i64 (i64.wrap (z1508 + (1:Int)))) z z z (wl_nil (tn ?_))))
 replace hst := hst.keep0
 obtain rfl := some_inj hm
 exact ⟨_, Nat.lt_succ_self _, z1507, (i64.wrap (z1508 + (1:Int))), _, hx1515, (fu 0 r0_0 z (fu 1 (.int .i64 a1) z (fu 2 (.int .i64 a2) z (fu 7 (.int .i64 z1438) z (fu 8 (.bool z1507) z (fu 9 (.int .i64 (i64.wrap (z1508 + (1:Int)))) z z)))))), hst⟩
}
}
 {
 replace hm := bif_f hc1518 hm
 refine wp_iff (cvb hc1518) ?_
 refine wp_exit (then_x (then_x ?_))
 replace hm := inr_up hm hx1515
 refine blk_x (tn (wp_seq (wrl ?_)))
 refine wv (.bool z1507) z z z (wl_nil (tn ?_))
 refine wp_iff (cvb hc1518) ?_
 refine wp_skip (blk_n (tn (wrl ?_)))
 refine wv (.int .i64 z1438) z z z (wv (.int .i64 (i64.wrap (z1438 + (1:Int)))) z z z (wv (.int .i64 (i64.wrap (z1438 + (1:Int)))) z z z (wl_nil (tn ?_))))
 replace hst := hst.keep0
 obtain rfl := some_inj hm
 exact ⟨_, Nat.lt_succ_self _, (i64.wrap (z1438 + (1:Int))), _, hx1445, (fu 0 r0_0 z (fu 1 (.int .i64 a1) z (fu 2 (.int .i64 a2) z (fu 7 (.int .i64 (i64.wrap (z1438 + (1:Int)))) z z)))), hst⟩
}
}
 {
 replace hm := bif_f hc1517 hm
 refine wo hc1517 z z z z z z (wv (.bool false) z z (x_pick_f hc1517 z z) (wl_nil (tn ?_)))
 refine wp_iff z ?_
 refine wp_exit (then_x (then_x ?_))
 replace hm := inr_up hm hx1515
 refine blk_x (tn (wp_seq (wrl ?_)))
 refine wv (.bool z1507) z z z (wl_nil (tn ?_))
 refine bsplit z1507 (fun hc1537 => ?_) (fun hc1537 => ?_)
 {
 replace hm := bif_t hc1537 hm
 refine wp_ift (cvb hc1537) ?_
 refine wp_seq (wrl (wv (.int .i64 z1438) z z z (wv (.int .i64 z1438) z z z (wl_nil (tn (wp_ret (blk_r (then_r (then_r ?_)))))))))
 replace hm := inr_up hm hx1445
 refine blk_r (then_r ?_)
 obtain rfl := some_inj hm
 refine post_ret (vs := [I6 z1438]) results50 (rvs_cons (rv_tmp z) rvs_nil) ?_
 exact ⟨z, hst.keep0⟩
}
 {
 replace hm := bif_f hc1537 hm
 refine wp_iff (cvb hc1537) ?_
 refine wp_skip (blk_n (tn (wrl ?_)))
 refine wv (.int .i64 z1438) z z z (wv (.int .i64 (i64.wrap (z1438 + (1:Int)))) z z z (wv (.int .i64 (i64.wrap (z1438 + (1:Int)))) z z z (wl_nil (tn ?_))))
 replace hst := hst.keep0
 obtain rfl := some_inj hm
 exact ⟨_, Nat.lt_succ_self _, (i64.wrap (z1438 + (1:Int))), _, hx1445, (fu 0 r0_0 z (fu 1 (.int .i64 a1) z (fu 2 (.int .i64 a2) z (fu 7 (.int .i64 (i64.wrap (z1438 + (1:Int)))) z z)))), hst⟩
}
}
}
}
 {
 replace hm := bif_f hc1447 hm
 refine wp_iff (cvb hc1447) ?_
 refine wp_exit (then_x (then_x ?_))
 replace hm := inr_up hm hx1445
 refine blk_x (tn (wp_seq (wrl ?_)))
 refine wv (.int .i64 ((-1):Int)) z z z (wl_nil (tn (wp_ret ?_)))
 obtain rfl := some_inj hm
 refine post_ret (vs := [I6 ((-1):Int)]) results50 (rvs_cons (rv_tmp z) rvs_nil) ?_
 exact ⟨z, hst.keep0⟩
}
}

theorem ref03_Meet_ref {w0 w : World} {I : HL} {R : SP} {a0 : (List Int)} {r0_0 : Value} {a1 : Int} {a2 : Int} (f0_0 : Rd (tyInt .u64) R I r0_0 a0) (hst : St w0 w I [] R) {r : (Int)} (hm : ref03_Meet a0 a1 a2 = some r) :
  Calls prog 51 #[r0_0, I6 a1, I6 a2] w fun e w' => e = .returned (.int .i64 r) ∧ St w0 w' I [] R := by {
 unfold ref03_Meet at hm
 refine calls_start (args := [r0_0, I6 a1, I6 a2]) func51 z ntmps51 (Nat.le_of_ble_eq_true z) ?_
 refine wp_seq (wrl (wv (.int .i64 (0:Int)) z z z (wl_nil (tn (wp_seq (wp_seq (wrl (wv (.int .i64 (0:Int)) z z z (wl_nil (tn (wp_block ?_)))))))))))
 obtain ⟨n1446, hm⟩ := loopO_some hm
 refine wp_loop_n (fun n a w => ∃ (z1444 : Int) (σ1445 : Nat → Value), loopN (ref03_Meet_l0 a0 a1 a2) n z1444 = some r ∧ a = Fr 54 (upd (upd (upd (upd σ1445 0 (r0_0)) 1 (.int .i64 a1)) 2 (.int .i64 a2)) 7 (.int .i64 z1444)) ∧ St w0 w I [] R) n1446 ⟨(0:Int), _, hm, (fu 0 r0_0 z (fu 1 (.int .i64 a1) z (fu 2 (.int .i64 a2) z (fu 7 (.int .i64 (0:Int)) z z)))), hst⟩ ?_
 rintro n1452 _ w1447 ⟨z1444, σ1445, hm, rfl, hst⟩
 obtain ⟨n1449, y1450, rfl, hm, hx1451⟩ := loopN_some hm
 dsimp only [ref03_Meet_l0] at hm
 refine wp_seq (wp_seq (wrl (wv (.int .i64 z1444) z z z (wv (r0_0) z z z (wv (.int .i64 ((a0).length : Int)) z z (x_len z underlying25 (rd_sliceV f0_0)) (wv (.bool (decide (z1444 < ((a0).length : Int)))) z z z (wl_nil (tn ?_))))))))
 refine bsplit (decide (z1444 < ((a0).length : Int))) (fun hc1453 => ?_) (fun hc1453 => ?_)
 {
 replace hm := bif_t hc1453 hm
 refine wp_ift (cvb hc1453) ?_
 refine wp_skip (tn (wp_seq (wp_block ?_)))
 obtain ⟨y1468, hm, hx1469⟩ := bind_some hm
 refine wp_cut (fun a w => ∃ (z1465 : Bool) (σ1466 : Nat → Value), (ref03_Meet_j1 a0 a1 a2 z1444) z1465 = some y1450 ∧ a = Fr 54 (upd (upd (upd (upd (upd σ1466 0 (r0_0)) 1 (.int .i64 a1)) 2 (.int .i64 a2)) 7 (.int .i64 z1444)) 8 (.bool z1465)) ∧ St w0 w I [] R) ?_ ?_
 {
 refine wrl (wv (r0_0) z z z (wv (.int .i64 z1444) z z z (wv (.int .i64 a1) z z z ?_)))
 obtain ⟨t1454, ht1455, hm⟩ := bind_some hm
 refine wc call42 [r0_0, I6 z1444, I6 a1] z z z ?_
 refine (ref03_Leq_ref (f0_0.mono (rd_weak _)) hst.to0 ht1455).mono ?_
 rintro _ w1456 ⟨rfl, hst⟩
 refine ⟨_, z, ?_⟩
 replace hst := hst.of0
 refine wv (.bool t1454) z z z ?_
 refine bsplit t1454 (fun hc1459 => ?_) (fun hc1459 => ?_)
 {
 replace hm := bif_t hc1459 hm
 refine wv (r0_0) ((wanted_eq z z z (cvb hc1459)).trans z) z z (wv (.int .i64 z1444) ((wanted_eq z z z (cvb hc1459)).trans z) z z (wv (.int .i64 a2) ((wanted_eq z z z (cvb hc1459)).trans z) z z ?_))
 obtain ⟨t1460, ht1461, hm⟩ := bind_some hm
 refine wl_call ((wanted_eq z z z (cvb hc1459)).trans z) z (x_call call42 z (vs := [r0_0, I6 z1444, I6 a2]) z) ?_
 refine (ref03_Leq_ref (f0_0.mono (rd_weak _)) hst.to0 ht1461).mono ?_
 rintro _ w1462 ⟨rfl, hst⟩
 refine ⟨_, z, ?_⟩
 replace hst := hst.of0
 refine wv (.bool t1460) z z (x_pick_t hc1459 z z) (wv (.bool t1460) z z z (wl_nil (tn ?_)))
 replace hst := hst.keep0
 obtain rfl := some_inj hm
 exact ⟨t1460, _, hx1469, (fu 0 r0_0 z (fu 1 (.int .i64 a1) z (fu 2 (.int .i64 a2) z (fu 7 (.int .i64 z1444) z (fu 8 (.bool t1460) z z))))), hst⟩
}
 {
 replace hm := bif_f hc1459 hm
 refine wo hc1459 z z z z z z (wo hc1459 z z z z z z (wo hc1459 z z z z z z (wo hc1459 z z z z z z (wv (.bool false) z z (x_pick_f hc1459 z z) (wv (.bool false) z z z (wl_nil (tn ?_)))))))
 replace hst := hst.keep0
 obtain rfl := some_inj hm
 exact ⟨false, _, hx1469, (fu 0 r0_0 z (fu 1 (.int .i64 a1) z (fu 2 (.int .i64 a2) z (fu 7 (.int .i64 z1444) z (fu 8 (.bool false) z z))))), hst⟩
}
}
 {
 clear hst
 rintro _ w1470 ⟨z1465, σ1466, hm, rfl, hst⟩
 dsimp only [ref03_Meet_j1] at hm
 refine wp_seq (wp_seq (wrl (wv (.int .i64 (0:Int)) z z z (wl_nil (tn (wp_block ?_))))))
 obtain ⟨n1516, hm⟩ := loopO_some hm
 refine wp_loop_n (fun n a w => ∃ (z1513 : Bool) (z1514 : Int) (σ1515 : Nat → Value), loopN (ref03_Meet_l2 a0 a1 a2 z1444) n (z1513, z1514) = some y1450 ∧ a = Fr 54 (upd (upd (upd (upd (upd (upd σ1515 0 (r0_0)) 1 (.int .i64 a1)) 2 (.int .i64 a2)) 7 (.int .i64 z1444)) 8 (.bool z1513)) 9 (.int .i64 z1514)) ∧ St w0 w I [] R) n1516 ⟨z1465, (0:Int), _, hm, (fu 0 r0_0 z (fu 1 (.int .i64 a1) z (fu 2 (.int .i64 a2) z (fu 7 (.int .i64 z1444) z (fu 8 (.bool z1465) z (fu 9 (.int .i64 (0:Int)) z z)))))), hst⟩ ?_
 rintro n1522 _ w1517 ⟨z1513, z1514, σ1515, hm, rfl, hst⟩
 obtain ⟨n1519, y1520, rfl, hm, hx1521⟩ := loopN_some hm
 dsimp only [ref03_Meet_l2] at hm
 refine wp_seq (wp_seq (wrl (wv (.int .i64 z1514) z z z (wv (r0_0) z z z (wv (.int .i64 ((a0).length : Int)) z z (x_len z underlying25 (rd_sliceV f0_0)) (wv (.bool (decide (z1514 < ((a0).length : Int)))) z z z (wv (.bool (decide (z1514 < ((a0).length : Int)))) z z z ?_)))))))
 refine bsplit (decide (z1514 < ((a0).length : Int))) (fun hc1523 => ?_) (fun hc1523 => ?_)
 {
 replace hm := bif_t hc1523 hm
 refine wv (.bool z1513) ((wanted_eq z z z (cvb hc1523)).trans z) z z (wv (.bool z1513) z z (x_pick_t hc1523 z z) (wl_nil (tn ?_)))
 refine bsplit z1513 (fun hc1524 => ?_) (fun hc1524 => ?_)
 {
 replace hm := bif_t hc1524 hm
 refine wp_ift (cvb hc1524) ?_
 refine wp_skip (tn (wp_seq (wp_block (wp_seq (wrl ?_)))))
 refine wv (r0_0) z z z (wv (.int .i64 z1514) z z z (wv (.int .i64 a1) z z z ?_))
 obtain ⟨t1525, ht1526, hm⟩ := bind_some hm
 refine wc call42 [r0_0, I6 z1514, I6 a1] z z z ?_
 refine (ref03_Leq_ref (f0_0.mono (rd_weak _)) hst.to0 ht1526).mono ?_
 rintro _ w1527 ⟨rfl, hst⟩
 refine ⟨_, z, ?_⟩
 replace hst := hst.of0
 refine wv (.bool t1525) z z z ?_
 refine bsplit t1525 (fun hc1530 => ?_) (fun hc1530 => ?_)
 {
 replace hm := bif_t hc1530 hm
 refine wv (r0_0) ((wanted_eq z z z (cvb hc1530)).trans z) z z (wv (.int .i64 z1514) ((wanted_eq z z z (cvb hc1530)).trans z) z z (wv (.int .i64 a2) ((wanted_eq z z z (cvb hc1530)).trans z) z z ?_))
 obtain ⟨t1531, ht1532, hm⟩ := bind_some hm
 refine wl_call ((wanted_eq z z z (cvb hc1530)).trans z) z (x_call call42 z (vs := [r0_0, I6 z1514, I6 a2]) z) ?_
 refine (ref03_Leq_ref (f0_0.mono (rd_weak _)) hst.to0 ht1532).mono ?_
 rintro _ w1533 ⟨rfl, hst⟩
 refine ⟨_, z, ?_⟩
 replace hst := hst.of0
 refine wv (.bool t1531) z z (x_pick_t hc1530 z z) (wv (.bool t1531) z z z ?_)
 refine bsplit t1531 (fun hc1536 => ?_) (fun hc1536 => ?_)
 {
 replace hm := bif_t hc1536 hm
 refine wv (r0_0) ((wanted_eq z z z (cvb hc1536)).trans z) z z (wv (.int .i64 z1514) ((wanted_eq z z z (cvb hc1536)).trans z) z z (wv (.int .i64 z1444) ((wanted_eq z z z (cvb hc1536)).trans z) z z ?_))
 obtain ⟨t1537, ht1538, hm⟩ := bind_some hm
 refine wl_call ((wanted_eq z z z (cvb hc1536)).trans z) z (x_call call42 z (vs := [r0_0, I6 z1514, I6 z1444]) z) ?_
 refine (ref03_Leq_ref (f0_0.mono (rd_weak _)) hst.to0 ht1538).mono ?_
 rintro _ w1539 ⟨rfl, hst⟩
 refine ⟨_, z, ?_⟩
 replace hst := hst.of0
 refine wv (.bool (!t1537)) ((wanted_eq z z z (cvb hc1536)).trans z) z z (wv (.bool (!t1537)) z z (x_pick_t hc1536 z z) (wl_nil (tn ?_)))
 refine bsplit (!t1537) (fun hc1542 => ?_) (fun hc1542 => ?_)
 {
 replace hm := bif_t hc1542 hm
 refine wp_ift (cvb hc1542) ?_
 refine wrl (wv (.bool false) z z z (wl_nil (blk_n (tn (wrl (wv (.int .i64 z1514) z z z (wv (.int .i64 (i64.wrap (z1514 + (1:Int)))) z z z (wv (.int .i64 (i64.wrap (z1514 + (1:Int)))) z z z (wl_nil (tn ?_))))))))))
 replace hst := hst.keep0
 obtain rfl := some_inj hm
 exact ⟨_, Nat.lt_succ_self _, false, (i64.wrap (z1514 + (1:Int))), _, hx1521, (fu 0 r0_0 z (fu 1 (.int .i64 a1) z (fu 2 (.int .i64 a2) z (fu 7 (.int .i64 z1444) z (fu 8 (.bool false) z (fu 9 (.int .i64 (i64.wrap (z1514 + (1:Int)))) z z)))))), hst⟩
}
 {
 replace hm := bif_f hc1542 hm
 refine wp_iff (cvb hc1542) ?_
 refine wp_skip (blk_n (tn (wrl ?_)))
 refine wv (.int .i64 z1514) z z z (wv (.int .i64 (i64.wrap (z1514 + (1:Int)))) z z z (wv (.int .i64 (i64.wrap (z1514 + (1:Int)))) z z z (wl_nil (tn ?_))))
 replace hst := hst.keep0
 obtain rfl := some_inj hm
 exact ⟨_, Nat.lt_succ_self _, z1513, (i64.wrap (z1514 + (1:Int))), _, hx1521, (fu 0 r0_0 z (fu 1 (.int .i64 a1) z (fu 2 (.int .i64 a2) z (fu 7 (.int .i64 z1444) z (fu 8 (.bool z1513) z (fu 9 (.int .i64 (i64.wrap (z1514 + (1:Int)))) z z)))))), hst⟩
}
}
 {
 replace hm := bif_f hc1536 hm
 refine wo hc1536 z z z z z z (wo hc1536 z z z z z z (wo hc1536 z z z z z z (wo hc1536 z z z z z z (wo hc1536 z z z z z z (wv (.bool false) z z (x_pick_f hc1536 z z) (wl_nil (tn ?_)))))))
 refine wp_iff z ?_
 refine wp_skip (blk_n (tn (wrl ?_)))
 refine wv (.int .i64 z1514) z z z (wv (.int .i64 (i64.wrap (z1514 + (1:Int)))) z z z (wv (.int .i64 (i64.wrap (z1514 + (1:Int)))) z z z (wl_nil (tn ?_))))
 replace hst := hst.keep0
 obtain rfl := some_inj hm
 exact ⟨_, Nat.lt_succ_self _, z1513, (i64.wrap (z1514 + (1:Int))), _, hx1521, (fu 0 r0_0 z (fu 1 (.int .i64 a1) z (fu 2 (.int .i64 a2) z (fu 7 (.int .i64 z1444) z (fu 8 (.bool z1513) z (fu 9 (.int .i64 (i64.wrap (z1514 + (1:Int)))) z z)))))), hst⟩
}
}
 {
 replace hm := bif_f hc1530 hm
 refine wo hc1530 z z z z z z (wo hc1530 z z z z z z (wo hc1530 z z z z z z (wo hc1530 z z z z z z (wv (.bool false) z z (x_pick_f hc1530 z z) (wv (.bool false) z z z (wz z z z z z z (wz z z z z z z (wz z z z z z z (wz z z z z z z (wz z z z z z z (wv (.bool false) z z (x_pick_f z z z) (wl_nil (tn ?_)))))))))))))
 refine wp_iff z ?_
 refine wp_skip (blk_n (tn (wrl ?_)))
 refine wv (.int .i64 z1514) z z z (wv (.int .i64 (i64.wrap (z1514 + (1:Int)))) z z z (wv (.int .i64 (i64.wrap (z1514 + (1:Int)))) z z z (wl_nil (tn ?_))))
 replace hst := hst.keep0
 obtain rfl := some_inj hm
 exact ⟨_, Nat.lt_succ_self _, z1513, (i64.wrap (z1514 + (1:Int))), _, hx1521, (fu 0 r0_0 z (fu 1 (.int .i64 a1) z (fu 2 (.int .i64 a2) z (fu 7 (.int .i64 z1444) z (fu 8 (.bool z1513) z (fu 9 (.int .i64 (i64.wrap (z1514 + (1:Int)))) z z)))))), hst⟩
}
}
 {
 replace hm := bif_f hc1524 hm
 refine wp_iff (cvb hc1524) ?_
 refine wp_exit (then_x (then_x ?_))
 replace hm := inr_up hm hx1521
 refine blk_x (tn (wp_seq (wrl ?_)))
 refine wv (.bool z1513) z z z (wl_nil (tn ?_))
 refine wp_iff (cvb hc1524) ?_
 refine wp_skip (blk_n (tn (wrl ?_)))
 refine wv (.int .i64 z1444) z z z (wv (.int .i64 (i64.wrap (z1444 + (1:Int)))) z z z (wv (.int .i64 (i64.wrap (z1444 + (1:Int)))) z z z (wl_nil (tn ?_))))
 replace hst := hst.keep0
 obtain rfl := some_inj hm
 exact ⟨_, Nat.lt_succ_self _, (i64.wrap (z1444 + (1:Int))), _, hx1451, (fu 0 r0_0 z (fu 1 (.int .i64 a1) z (fu 2 (.int .i64 a2) z (fu 7 (.int .i64 (i64.wrap (z1444 + (1:Int)))) z z)))), hst⟩
}
}
 {
 replace hm := bif_f hc1523 hm
 refine wo hc1523 z z z z z z (wv (.bool false) z z (x_pick_f hc1523 z z) (wl_nil (tn ?_)))
 refine wp_iff z ?_
 refine wp_exit (then_x (then_x ?_))
 replace hm := inr_up hm hx1521
 refine blk_x (tn (wp_seq (wrl ?_)))
 refine wv (.bool z1513) z z z (wl_nil (tn ?_))
 refine bsplit z1513 (fun hc1543 => ?_) (fun hc1543 => ?_)
 {
 replace hm := bif_t hc1543 hm
 refine wp_ift (cvb hc1543) ?_
 refine wp_seq (wrl (wv (.int .i64 z1444) z z z (wv (.int .i64 z1444) z z z (wl_nil (tn (wp_ret (blk_r (then_r (then_r ?_)))))))))
 replace hm := inr_up hm hx1451
 refine blk_r (then_r ?_)
 obtain rfl := some_inj hm
 refine post_ret (vs := [I6 z1444]) results51 (rvs_cons (rv_tmp z) rvs_nil) ?_
 exact ⟨z, hst.keep0⟩
}
 {
 replace hm := bif_f hc1543 hm
 refine wp_iff (cvb hc1543) ?_
 refine wp_skip (blk_n (tn (wrl ?_)))
 refine wv (.int .i64 z1444) z z z (wv (.int .i64 (i64.wrap (z1444 + (1:Int)))) z z z (wv (.int .i64 (i64.wrap (z1444 + (1:Int)))) z z z (wl_nil (tn ?_))))
 replace hst := hst.keep0
 obtain rfl := some_inj hm
 exact ⟨_, Nat.lt_succ_self _, (i64.wrap (z1444 + (1:Int))), _, hx1451, (fu 0 r0_0 z (fu 1 (.int .i64 a1) z (fu 2 (.int .i64 a2) z (fu 7 (.int .i64 (i64.wrap (z1444 + (1:Int)))) z z)))), hst⟩
}
}
}
}
 {
 replace hm := bif_f hc1453 hm
 refine wp_iff (cvb hc1453) ?_
 refine wp_exit (then_x (then_x ?_))
 replace hm := inr_up hm hx1451
 refine blk_x (tn (wp_seq (wrl ?_)))
 refine wv (.int .i64 ((-1):Int)) z z z (wl_nil (tn (wp_ret ?_)))
 obtain rfl := some_inj hm
 refine post_ret (vs := [I6 ((-1):Int)]) results51 (rvs_cons (rv_tmp z) rvs_nil) ?_
 exact ⟨z, hst.keep0⟩
}
}

theorem ref03_Check_ref {w0 w : World} {I : HL} {R : SP} {a0 : (List Int)} {r0_0 : Value} (f0_0 : Rd (tyInt .u64) R I r0_0 a0) (hst : St w0 w I [] R) {r : (Int)} (hm : ref03_Check a0 = some r) :
  Calls prog 35 #[r0_0] w fun e w' => e = .returned (.int .i64 r) ∧ St w0 w' I [] R := by {
 unfold ref03_Check at hm
 refine calls_start (args := [r0_0]) func35 z ntmps35 (Nat.le_of_ble_eq_true z) ?_
 refine wp_seq (wrl (wv (.int .i64 (0:Int)) z z z (wl_nil (tn (wp_seq (wrl (wv (r0_0) z z z (wv (.int .i64 ((a0).length : Int)) z z (x_len z underlying25 (rd_sliceV f0_0)) (wv (.int .i64 ((a0).length : Int)) z z z (wl_nil (tn (wp_seq (wp_seq (wrl (wv (.int .i64 ((a0).length : Int)) z z z (wv (.bool (decide (((a0).length : Int) < (1:Int)))) z z z (wv (.bool (decide (((a0).length : Int) < (1:Int)))) z z z ?_)))))))))))))))))
 refine bsplit (decide (((a0).length : Int) < (1:Int))) (fun hc1131 => ?_) (fun hc1131 => ?_)
 {
 replace hm := bif_t hc1131 hm
 refine wo hc1131 z z z z z z (wo hc1131 z z z z z z (wv (.bool true) z z (x_pick_t hc1131 z z) (wl_nil (tn ?_))))
 refine wp_ift z ?_
 refine wp_seq (wrl (wv (.int .i64 (1:Int)) z z z (wl_nil (tn (wp_ret (then_r ?_))))))
 obtain rfl := some_inj hm
 refine post_ret (vs := [I6 (1:Int)]) results35 (rvs_cons (rv_tmp z) rvs_nil) ?_
 exact ⟨z, hst.keep0⟩
}
 {
 replace hm := bif_f hc1131 hm
 refine wv (.int .i64 ((a0).length : Int)) ((wanted_eq z z z (cvb hc1131)).trans z) z z (wv (.bool (decide (((a0).length : Int) > (16:Int)))) ((wanted_eq z z z (cvb hc1131)).trans z) z z (wv (.bool (decide (((a0).length : Int) > (16:Int)))) z z (x_pick_f hc1131 z z) (wl_nil (tn ?_))))
 refine bsplit (decide (((a0).length : Int) > (16:Int))) (fun hc1132 => ?_) (fun hc1132 => ?_)
 {
 replace hm := bif_t hc1132 hm
 refine wp_ift (cvb hc1132) ?_
 refine wp_seq (wrl (wv (.int .i64 (1:Int)) z z z (wl_nil (tn (wp_ret (then_r ?_))))))
 obtain rfl := some_inj hm
 refine post_ret (vs := [I6 (1:Int)]) results35 (rvs_cons (rv_tmp z) rvs_nil) ?_
 exact ⟨z, hst.keep0⟩
}
 {
 replace hm := bif_f hc1132 hm
 refine wp_iff (cvb hc1132) ?_
 refine wp_skip (tn ?_)
 obtain ⟨y1985, hm, hx1986⟩ := joinO_some hm
 refine wp_cut (fun a w => ∃ (σ1983 : Nat → Value), (ref03_Check_j0 a0) () = some r ∧ a = Fr 100 (upd (upd σ1983 0 (r0_0)) 3 (.int .i64 ((a0).length : Int))) ∧ St w0 w I [] R) ?_ ?_
 {
 refine wp_seq (wrl (wv (.int .i64 (0:Int)) z z z (wl_nil (tn (wp_block ?_)))))
 obtain ⟨n1695, hm⟩ := loopO_some hm
 refine wp_loop_n (fun n a w => ∃ (z1693 : Int) (σ1694 : Nat → Value), loopN (ref03_Check_l1 a0) n z1693 = some y1985 ∧ a = Fr 100 (upd (upd (upd σ1694 0 (r0_0)) 3 (.int .i64 ((a0).length : Int))) 4 (.int .i64 z1693)) ∧ St w0 w I [] R) n1695 ⟨(0:Int), _, hm, (fu 0 r0_0 z (fu 3 (.int .i64 ((a0).length : Int)) z (fu 4 (.int .i64 (0:Int)) z z))), hst⟩ ?_
 rintro n1701 _ w1696 ⟨z1693, σ1694, hm, rfl, hst⟩
 obtain ⟨n1698, y1699, rfl, hm, hx1700⟩ := loopN_some hm
 dsimp only [ref03_Check_l1] at hm
 refine wp_seq (wp_seq (wrl (wv (.int .i64 z1693) z z z (wv (.int .i64 ((a0).length : Int)) z z z (wv (.bool (decide (z1693 < ((a0).length : Int)))) z z z (wl_nil (tn ?_)))))))
 refine bsplit (decide (z1693 < ((a0).length : Int))) (fun hc1702 => ?_) (fun hc1702 => ?_)
 {
 replace hm := bif_t hc1702 hm
 refine wp_ift (cvb hc1702) ?_
 refine wp_skip (tn (wp_seq (wp_block (wp_seq (wp_seq (wrl ?_))))))
 refine wv (r0_0) z z z (wv (.int .i64 z1693) z z z ?_)
 obtain ⟨x1703, hx1704, hm⟩ := bind_some hm
 obtain ⟨h1705, h1706, hi1707⟩ := geto_some hx1704
 refine wv (.pointer (some (eAddr r0_0 (z1693.toNat * 1 + 0)))) z z (x_index z z underlying25 sizeOf22 (rd_sliceV f0_0) h1705 h1706) (wv (.int .u64 x1703) z z (x_load z isAgg22 (rd_load f0_0 (HL.le.refl _) hst hi1707 (by rintro _ rfl; rfl))) (wv (.int .i64 ((a0).length : Int)) z z z ?_))
 obtain ⟨hg1708, hm⟩ := gd_some hm
 refine wv (.int .u64 (iShr .u64 x1703 ((a0).length : Int))) z z (x_shr (of_decide_eq_true hg1708) z z) (wv (.bool ((iShr .u64 x1703 ((a0).length : Int)) != (0:Int))) z z z (wv (.bool ((iShr .u64 x1703 ((a0).length : Int)) != (0:Int))) z z z ?_))
 refine bsplit ((iShr .u64 x1703 ((a0).length : Int)) != (0:Int)) (fun hc1709 => ?_) (fun hc1709 => ?_)
 {
 replace hm := bif_t hc1709 hm
 refine wo hc1709 z z z z z z (wo hc1709 z z z z z z (wo hc1709 z z z z z z (wo hc1709 z z z z z z (wo hc1709 z z z z z z (wv (.bool true) z z (x_pick_t hc1709 z z) (wl_nil (tn ?_)))))))
 refine wp_ift z ?_
 refine wp_seq (wrl (wv (.int .i64 (15:Int)) z z z (wl_nil (tn (wp_ret (then_r (blk_r (then_r (then_r ?_)))))))))
 replace hm := inr_up hm hx1700
 refine blk_r (then_r ?_)
 replace hm := inr_up hm hx1986
 obtain rfl := some_inj hm
 refine post_ret (vs := [I6 (15:Int)]) results35 (rvs_cons (rv_tmp z) rvs_nil) ?_
 exact ⟨z, hst.keep0⟩
}
 {
 replace hm := bif_f hc1709 hm
 refine wv (r0_0) ((wanted_eq z z z (cvb hc1709)).trans z) z z (wv (.int .i64 z1693) ((wanted_eq z z z (cvb hc1709)).trans z) z z (wv (.int .i64 z1693) ((wanted_eq z z z (cvb hc1709)).trans z) z z ?_))
 obtain ⟨t1710, ht1711, hm⟩ := bind_some hm
 refine wl_call ((wanted_eq z z z (cvb hc1709)).trans z) z (x_call call42 z (vs := [r0_0, I6 z1693, I6 z1693]) z) ?_
 refine (ref03_Leq_ref (f0_0.mono (rd_weak _)) hst.to0 ht1711).mono ?_
 rintro _ w1712 ⟨rfl, hst⟩
 refine ⟨_, z, ?_⟩
 replace hst := hst.of0
 refine wv (.bool (!t1710)) ((wanted_eq z z z (cvb hc1709)).trans z) z z (wv (.bool (!t1710)) z z (x_pick_f hc1709 z z) (wl_nil (tn ?_)))
 refine bsplit (!t1710) (fun hc1715 => ?_) (fun hc1715 => ?_)
 {
 replace hm := bif_t hc1715 hm
 refine wp_ift (cvb hc1715) ?_
 refine wp_seq (wrl (wv (.int .i64 (15:Int)) z z z (wl_nil (tn (wp_ret (then_r (blk_r (then_r (then_r ?_)))))))))
 replace hm := inr_up hm hx1700
 refine blk_r (then_r ?_)
 replace hm := inr_up hm hx1986
 obtain rfl := some_inj hm
 refine post_ret (vs := [I6 (15:Int)]) results35 (rvs_cons (rv_tmp z) rvs_nil) ?_
 exact ⟨z, hst.keep0⟩
}
 {
 replace hm := bif_f hc1715 hm
 refine wp_iff (cvb hc1715) ?_
 refine wp_skip (tn (wp_seq (wrl ?_)))
 refine wv (.int .i64 (0:Int)) z z z (wl_nil (tn (wp_block ?_)))
 obtain ⟨n1890, hm⟩ := loopO_some hm
 refine wp_loop_n (fun n a w => ∃ (z1888 : Int) (σ1889 : Nat → Value), loopN (ref03_Check_l2 a0 z1693) n z1888 = some y1699 ∧ a = Fr 100 (upd (upd (upd (upd σ1889 0 (r0_0)) 3 (.int .i64 ((a0).length : Int))) 4 (.int .i64 z1693)) 5 (.int .i64 z1888)) ∧ St w0 w I [] R) n1890 ⟨(0:Int), _, hm, (fu 0 r0_0 z (fu 3 (.int .i64 ((a0).length : Int)) z (fu 4 (.int .i64 z1693) z (fu 5 (.int .i64 (0:Int)) z z)))), hst⟩ ?_
 rintro n1896 _ w1891 ⟨z1888, σ1889, hm, rfl, hst⟩
 obtain ⟨n1893, y1894, rfl, hm, hx1895⟩ := loopN_some hm
 dsimp only [ref03_Check_l2] at hm
 refine wp_seq (wp_seq (wrl (wv (.int .i64 z1888) z z z (wv (.int .i64 ((a0).length : Int)) z z z (wv (.bool (decide (z1888 < ((a0).length : Int)))) z z z (wl_nil (tn ?_)))))))
 refine bsplit (decide (z1888 < ((a0).length : Int))) (fun hc1897 => ?_) (fun hc1897 => ?_)
 {
 replace hm := bif_t hc1897 hm
 refine wp_ift (cvb hc1897) ?_
 refine wp_skip (tn (wp_seq (wp_block ?_)))
 obtain ⟨y1913, hm, hx1914⟩ := joinO_some hm
 refine wp_cut (fun a w => ∃ (σ1911 : Nat → Value), (ref03_Check_j3 a0 z1693 z1888) () = some y1894 ∧ a = Fr 100 (upd (upd (upd (upd σ1911 0 (r0_0)) 3 (.int .i64 ((a0).length : Int))) 4 (.int .i64 z1693)) 5 (.int .i64 z1888)) ∧ St w0 w I [] R) ?_ ?_
 {
 refine wp_seq (wrl (wv (.int .i64 z1693) z z z (wv (.int .i64 z1888) z z z (wv (.bool (z1693 != z1888)) z z z (wv (.bool (z1693 != z1888)) z z z ?_)))))
 refine bsplit (z1693 != z1888) (fun hc1898 => ?_) (fun hc1898 => ?_)
 {
 replace hm := bif_t hc1898 hm
 refine wv (r0_0) ((wanted_eq z z z (cvb hc1898)).trans z) z z (wv (.int .i64 z1693) ((wanted_eq z z z (cvb hc1898)).trans z) z z (wv (.int .i64 z1888) ((wanted_eq z z z (cvb hc1898)).trans z) z z ?_))
 obtain ⟨t1899, ht1900, hm⟩ := bind_some hm
 refine wl_call ((wanted_eq z z z (cvb hc1898)).trans z) z (x_call call42 z (vs := [r0_0, I6 z1693, I6 z1888]) z) ?_
 refine (ref03_Leq_ref (f0_0.mono (rd_weak _)) hst.to0 ht1900).mono ?_
 rintro _ w1901 ⟨rfl, hst⟩
 refine ⟨_, z, ?_⟩
 replace hst := hst.of0
 refine wv (.bool t1899) z z (x_pick_t hc1898 z z) (wv (.bool t1899) z z z ?_)
 refine bsplit t1899 (fun hc1904 => ?_) (fun hc1904 => ?_)
 {
 replace hm := bif_t hc1904 hm
 refine wv (r0_0) ((wanted_eq z z z (cvb hc1904)).trans z) z z (wv (.int .i64 z1888) ((wanted_eq z z z (cvb hc1904)).trans z) z z (wv (.int .i64 z1693) ((wanted_eq z z z (cvb hc1904)).trans z) z z ?_))
 obtain ⟨t1905, ht1906, hm⟩ := bind_some hm
 refine wl_call ((wanted_eq z z z (cvb hc1904)).trans z) z (x_call call42 z (vs := [r0_0, I6 z1888, I6 z1693]) z) ?_
 refine (ref03_Leq_ref (f0_0.mono (rd_weak _)) hst.to0 ht1906).mono ?_
 rintro _ w1907 ⟨rfl, hst⟩
 refine ⟨_, z, ?_⟩
 replace hst := hst.of0
 refine wv (.bool t1905) z z (x_pick_t hc1904 z z) (wl_nil (tn ?_))
 refine bsplit t1905 (fun hc1910 => ?_) (fun hc1910 => ?_)
 {
 replace hm := bif_t hc1910 hm
 refine wp_ift (cvb hc1910) ?_
 refine wp_seq (wrl (wv (.int .i64 (15:Int)) z z z (wl_nil (tn (wp_ret (then_r ?_))))))
 replace hm := inr_up hm hx1914
 refine blk_r (then_r (then_r ?_))
 replace hm := inr_up hm hx1895
 refine blk_r (blk_r (then_r (then_r ?_)))
 replace hm := inr_up hm hx1700
 refine blk_r (then_r ?_)
 replace hm := inr_up hm hx1986
 obtain rfl := some_inj hm
 refine post_ret (vs := [I6 (15:Int)]) results35 (rvs_cons (rv_tmp z) rvs_nil) ?_
 exact ⟨z, hst.keep0⟩
}
 {
 replace hm := bif_f hc1910 hm
 refine wp_iff (cvb hc1910) ?_
 refine wp_skip (tn ?_)
 replace hst := hst.keep0
 obtain rfl := some_inj hm
 exact ⟨_, hx1914, (fu 0 r0_0 z (fu 3 (.int .i64 ((a0).length : Int)) z (fu 4 (.int .i64 z1693) z (fu 5 (.int .i64 z1888) z z)))), hst⟩
}
}
 {
 replace hm := bif_f hc1904 hm
 refine wo hc1904 z z z z z z (wo hc1904 z z z z z z (wo hc1904 z z z z z z (wo hc1904 z z z z z z (wv (.bool false) z z (x_pick_f hc1904 z z) (wl_nil (tn ?_))))))
 refine wp_iff z ?_
 refine wp_skip (tn ?_)
 replace hst := hst.keep0
 obtain rfl := some_inj hm
 exact ⟨_, hx1914, (fu 0 r0_0 z (fu 3 (.int .i64 ((a0).length : Int)) z (fu 4 (.int .i64 z1693) z (fu 5 (.int .i64 z1888) z z)))), hst⟩
}
}
 {
 replace hm := bif_f hc1898 hm
 refine wo hc1898 z z z z z z (wo hc1898 z z z z z z (wo hc1898 z z z z z z (wo hc1898 z z z z z z (wv (.bool false) z z (x_pick_f hc1898 z z) (wv (.bool false) z z z (wz z z z z z z (wz z z z z z z (wz z z z z z z (wz z z z z z z (wv (.bool false) z z (x_pick_f z z z) (wl_nil (tn ?_))))))))))))
 refine wp_iff z ?_
 refine wp_skip (tn ?_)
 replace hst := hst.keep0
 obtain rfl := some_inj hm
 exact ⟨_, hx1914, (fu 0 r0_0 z (fu 3 (.int .i64 ((a0).length : Int)) z (fu 4 (.int .i64 z1693) z (fu 5 (.int .i64 z1888) z z)))), hst⟩
}
}
 {
 clear hst
 rintro _ w1915 ⟨σ1911, hm, rfl, hst⟩
 dsimp only [ref03_Check_j3] at hm
 refine wp_seq (wrl (wv (.int .i64 (0:Int)) z z z (wl_nil (tn (wp_block ?_)))))
 obtain ⟨n1957, hm⟩ := loopO_some hm
 refine wp_loop_n (fun n a w => ∃ (z1955 : Int) (σ1956 : Nat → Value), loopN (ref03_Check_l4 a0 z1693 z1888) n z1955 = some y1894 ∧ a = Fr 100 (upd (upd (upd (upd (upd σ1956 0 (r0_0)) 3 (.int .i64 ((a0).length : Int))) 4 (.int .i64 z1693)) 5 (.int .i64 z1888)) 6 (.int .i64 z1955)) ∧ St w0 w I [] R) n1957 ⟨(0:Int), _, hm, (fu 0 r0_0 z (fu 3 (.int .i64 ((a0).length : Int)) z (fu 4 (.int .i64 z1693) z (fu 5 (.int .i64 z1888) z (fu 6 (.int .i64 (0:Int)) z z))))), hst⟩ ?_
 rintro n1963 _ w1958 ⟨z1955, σ1956, hm, rfl, hst⟩
 obtain ⟨n1960, y1961, rfl, hm, hx1962⟩ := loopN_some hm
 dsimp only [ref03_Check_l4] at hm
 refine wp_seq (wp_seq (wrl (wv (.int .i64 z1955) z z z (wv (.int .i64 ((a0).length : Int)) z z z (wv (.bool (decide (z1955 < ((a0).length : Int)))) z z z (wl_nil (tn ?_)))))))
 refine bsplit (decide (z1955 < ((a0).length : Int))) (fun hc1964 => ?_) (fun hc1964 => ?_)
 {
 replace hm := bif_t hc1964 hm
 refine wp_ift (cvb hc1964) ?_
 refine wp_skip (tn (wp_seq (wp_block (wp_seq (wrl ?_)))))
 refine wv (r0_0) z z z (wv (.int .i64 z1693) z z z (wv (.int .i64 z1888) z z z ?_))
 obtain ⟨t1965, ht1966, hm⟩ := bind_some hm
 refine wc call42 [r0_0, I6 z1693, I6 z1888] z z z ?_
 refine (ref03_Leq_ref (f0_0.mono (rd_weak _)) hst.to0 ht1966).mono ?_
 rintro _ w1967 ⟨rfl, hst⟩
 refine ⟨_, z, ?_⟩
 replace hst := hst.of0
 refine wv (.bool t1965) z z z ?_
 refine bsplit t1965 (fun hc1970 => ?_) (fun hc1970 => ?_)
 {
 replace hm := bif_t hc1970 hm
 refine wv (r0_0) ((wanted_eq z z z (cvb hc1970)).trans z) z z (wv (.int .i64 z1888) ((wanted_eq z z z (cvb hc1970)).trans z) z z (wv (.int .i64 z1955) ((wanted_eq z z z (cvb hc1970)).trans z) z z ?_))
 obtain ⟨t1971, ht1972, hm⟩ := bind_some hm
 refine wl_call ((wanted_eq z z z (cvb hc1970)).trans z) z (x_call call42 z (vs := [r0_0, I6 z1888, I6 z1955]) z) ?_
 refine (ref03_Leq_ref (f0_0.mono (rd_weak _)) hst.to0 ht1972).mono ?_
 rintro _ w1973 ⟨rfl, hst⟩
 refine ⟨_, z, ?_⟩
 replace hst := hst.of0
 refine wv (.bool t1971) z z (x_pick_t hc1970 z z) (wv (.bool t1971) z z z ?_)
 refine bsplit t1971 (fun hc1976 => ?_) (fun hc1976 => ?_)
 {
 replace hm := bif_t hc1976 hm
 refine wv (r0_0) ((wanted_eq z z z (cvb hc1976)).trans z) z z (wv (.int .i64 z1693) ((wanted_eq z z z (cvb hc1976)).trans z) z z (wv (.int .i64 z1955) ((wanted_eq z z z (cvb hc1976)).trans z) z z ?_))
 obtain ⟨t1977, ht1978, hm⟩ := bind_some hm
 refine wl_call ((wanted_eq z z z (cvb hc1976)).trans z) z (x_call call42 z (vs := [r0_0, I6 z1693, I6 z1955]) z) ?_
 refine (ref03_Leq_ref (f0_0.mono (rd_weak _)) hst.to0 ht1978).mono ?_
 rintro _ w1979 ⟨rfl, hst⟩
 refine ⟨_, z, ?_⟩
 replace hst := hst.of0
 refine wv (.bool (!t1977)) ((wanted_eq z z z (cvb hc1976)).trans z) z z (wv (.bool (!t1977)) z z (x_pick_t hc1976 z z) (wl_nil (tn ?_)))
 refine bsplit (!t1977) (fun hc1982 => ?_) (fun hc1982 => ?_)
 {
 replace hm := bif_t hc1982 hm
 refine wp_ift (cvb hc1982) ?_
 refine wp_seq (wrl (wv (.int .i64 (15:Int)) z z z (wl_nil (tn (wp_ret (blk_r (then_r (then_r ?_))))))))
 replace hm := inr_up hm hx1962
 refine blk_r (blk_r (then_r (then_r ?_)))
 replace hm := inr_up hm hx1895
 refine blk_r (blk_r (then_r (then_r ?_)))
 replace hm := inr_up hm hx1700
 refine blk_r (then_r ?_)
 replace hm := inr_up hm hx1986
 obtain rfl := some_inj hm
 refine post_ret (vs := [I6 (15:Int)]) results35 (rvs_cons (rv_tmp z) rvs_nil) ?_
 exact ⟨z, hst.keep0⟩
}
 {
 replace hm := bif_f hc1982 hm
 refine wp_iff (cvb hc1982) ?_
 refine wp_skip (blk_n (tn (wrl ?_)))
 refine wv (.int .i64 z1955) z z z (wv (.int .i64 (i64.wrap (z1955 + (1:Int)))) z z z (wv (.int .i64 (i64.wrap (z1955 + (1:Int)))) z z z (wl_nil (tn ?_))))
 replace hst := hst.keep0
 obtain rfl := some_inj hm
 exact ⟨_, Nat.lt_succ_self _, (i64.wrap (z1955 + (1:Int))), _, hx1962, (fu 0 r0_0 z (fu 3 (.int .i64 ((a0).length : Int)) z (fu 4 (.int .i64 z1693) z (fu 5 (.int .i64 z1888) z (fu 6 (.int .i64 (i64.wrap (z1955 + (1:Int)))) z z))))), hst⟩
}
}
 {
 replace hm := bif_f hc1976 hm
 refine wo hc1976 z z z z z z (wo hc1976 z z z z z z (wo hc1976 z z z z z z (wo hc1976 z z z z z z (wo hc1976 z z z z z z (wv (.bool false) z z (x_pick_f hc1976 z z) (wl_nil (tn ?_)))))))
 refine wp_iff z ?_
 refine wp_skip (blk_n (tn (wrl ?_)))
 refine wv (.int .i64 z1955) z z z (wv (.int .i64 (i64.wrap (z1955 + (1:Int)))) z z z (wv (.int .i64 (i64.wrap (z1955 + (1:Int)))) z z z (wl_nil (tn ?_))))
 replace hst := hst.keep0
 obtain rfl := some_inj hm
 exact ⟨_, Nat.lt_succ_self _, (i64.wrap (z1955 + (1:Int))), _, hx1962, (fu 0 r0_0 z (fu 3 (.int .i64 ((a0).length : Int)) z (fu 4 (.int .i64 z1693) z (fu 5 (.int .i64 z1888) z (fu 6 (.int .i64 (i64.wrap (z1955 + (1:Int)))) z z))))), hst⟩
}
}
 {
 replace hm := bif_f hc1970 hm
 refine wo hc1970 z z z z z z (wo hc1970 z z z z z z (wo hc1970 z z z z z z (wo hc1970 z z z z z z (wv (.bool false) z z (x_pick_f hc1970 z z) (wv (.bool false) z z z (wz z z z z z z (wz z z z z z z (wz z z z z z z (wz z z z z z z (wz z z z z z z (wv (.bool false) z z (x_pick_f z z z) (wl_nil (tn ?_)))))))))))))
 refine wp_iff z ?_
 refine wp_skip (blk_n (tn (wrl ?_)))
 refine wv (.int .i64 z1955) z z z (wv (.int .i64 (i64.wrap (z1955 + (1:Int)))) z z z (wv (.int .i64 (i64.wrap (z1955 + (1:Int)))) z z z (wl_nil (tn ?_))))
 replace hst := hst.keep0
 obtain rfl := some_inj hm
 exact ⟨_, Nat.lt_succ_self _, (i64.wrap (z1955 + (1:Int))), _, hx1962, (fu 0 r0_0 z (fu 3 (.int .i64 ((a0).length : Int)) z (fu 4 (.int .i64 z1693) z (fu 5 (.int .i64 z1888) z (fu 6 (.int .i64 (i64.wrap (z1955 + (1:Int)))) z z))))), hst⟩
}
}
 {
 replace hm := bif_f hc1964 hm
 refine wp_iff (cvb hc1964) ?_
 refine wp_exit (then_x (then_x ?_))
 replace hm := inr_up hm hx1962
 refine blk_x (blk_n (tn (wrl ?_)))
 refine wv (.int .i64 z1888) z z z (wv (.int .i64 (i64.wrap (z1888 + (1:Int)))) z z z (wv (.int .i64 (i64.wrap (z1888 + (1:Int)))) z z z (wl_nil (tn ?_))))
 replace hst := hst.keep0
 obtain rfl := some_inj hm
 exact ⟨_, Nat.lt_succ_self _, (i64.wrap (z1888 + (1:Int))), _, hx1895, (fu 0 r0_0 z (fu 3 (.int .i64 ((a0).length : Int)) z (fu 4 (.int .i64 z1693) z (fu 5 (.int .i64 (i64.wrap (z1888 + (1:Int)))) z z)))), hst⟩
}
}
}
 {
 replace hm := bif_f hc1897 hm
 refine wp_iff (cvb hc1897) ?_
 refine wp_exit (then_x (then_x ?_))
 replace hm := inr_up hm hx1895
 refine blk_x (blk_n (tn (wrl ?_)))
 refine wv (.int .i64 z1693) z z z (wv (.int .i64 (i64.wrap (z1693 + (1:Int)))) z z z (wv (.int .i64 (i64.wrap (z1693 + (1:Int)))) z z z (wl_nil (tn ?_))))
 replace hst := hst.keep0
 obtain rfl := some_inj hm
 exact ⟨_, Nat.lt_succ_self _, (i64.wrap (z1693 + (1:Int))), _, hx1700, (fu 0 r0_0 z (fu 3 (.int .i64 ((a0).length : Int)) z (fu 4 (.int .i64 (i64.wrap (z1693 + (1:Int)))) z z))), hst⟩
}
}
}
}
 {
 replace hm := bif_f hc1702 hm
 refine wp_iff (cvb hc1702) ?_
 refine wp_exit (then_x (then_x ?_))
 replace hm := inr_up hm hx1700
 refine blk_x (tn ?_)
 replace hst := hst.keep0
 obtain rfl := some_inj hm
 exact ⟨_, hx1986, (fu 0 r0_0 z (fu 3 (.int .i64 ((a0).length : Int)) z z)), hst⟩
}
}
 {
 clear hst
 rintro _ w1987 ⟨σ1983, hm, rfl, hst⟩
 dsimp only [ref03_Check_j0] at hm
 refine wp_seq (wp_seq (wrl (wv (.int .i64 (0:Int)) z z z (wl_nil (tn (wp_block ?_))))))
 obtain ⟨n2090, hm⟩ := loopO_some hm
 refine wp_loop_n (fun n a w => ∃ (z2088 : Int) (σ2089 : Nat → Value), loopN (ref03_Check_l5 a0) n z2088 = some r ∧ a = Fr 100 (upd (upd (upd σ2089 0 (r0_0)) 3 (.int .i64 ((a0).length : Int))) 7 (.int .i64 z2088)) ∧ St w0 w I [] R) n2090 ⟨(0:Int), _, hm, (fu 0 r0_0 z (fu 3 (.int .i64 ((a0).length : Int)) z (fu 7 (.int .i64 (0:Int)) z z))), hst⟩ ?_
 rintro n2096 _ w2091 ⟨z2088, σ2089, hm, rfl, hst⟩
 obtain ⟨n2093, y2094, rfl, hm, hx2095⟩ := loopN_some hm
 dsimp only [ref03_Check_l5] at hm
 refine wp_seq (wp_seq (wrl (wv (.int .i64 z2088) z z z (wv (.int .i64 ((a0).length : Int)) z z z (wv (.bool (decide (z2088 < ((a0).length : Int)))) z z z (wl_nil (tn ?_)))))))
 refine bsplit (decide (z2088 < ((a0).length : Int))) (fun hc2097 => ?_) (fun hc2097 => ?_)
 {
 replace hm := bif_t hc2097 hm
 refine wp_ift (cvb hc2097) ?_
 refine wp_skip (tn (wp_seq (wp_block (wp_seq (wrl ?_)))))
 refine wv (.int .i64 (0:Int)) z z z (wl_nil (tn (wp_block ?_)))
 obtain ⟨n2127, hm⟩ := loopO_some hm
 refine wp_loop_n (fun n a w => ∃ (z2125 : Int) (σ2126 : Nat → Value), loopN (ref03_Check_l6 a0 z2088) n z2125 = some y2094 ∧ a = Fr 100 (upd (upd (upd (upd σ2126 0 (r0_0)) 3 (.int .i64 ((a0).length : Int))) 7 (.int .i64 z2088)) 8 (.int .i64 z2125)) ∧ St w0 w I [] R) n2127 ⟨(0:Int), _, hm, (fu 0 r0_0 z (fu 3 (.int .i64 ((a0).length : Int)) z (fu 7 (.int .i64 z2088) z (fu 8 (.int .i64 (0:Int)) z z)))), hst⟩ ?_
 rintro n2133 _ w2128 ⟨z2125, σ2126, hm, rfl, hst⟩
 obtain ⟨n2130, y2131, rfl, hm, hx2132⟩ := loopN_some hm
 dsimp only [ref03_Check_l6] at hm
 refine wp_seq (wp_seq (wrl (wv (.int .i64 z2125) z z z (wv (.int .i64 ((a0).length : Int)) z z z (wv (.bool (decide (z2125 < ((a0).length : Int)))) z z z (wl_nil (tn ?_)))))))
 refine bsplit (decide (z2125 < ((a0).length : Int))) (fun hc2134 => ?_) (fun hc2134 => ?_)
 {
 replace hm := bif_t hc2134 hm
 refine wp_ift (cvb hc2134) ?_
 refine wp_skip (tn (wp_seq (wp_block (wp_seq (wrl ?_)))))
 refine wv (r0_0) z z z (wv (.int .i64 z2088) z z z (wv (.int .i64 z2125) z z z ?_))
 obtain ⟨t2135, ht2136, hm⟩ := bind_some hm
 refine wc call50 [r0_0, I6 z2088, I6 z2125] z z z ?_
 refine (ref03_Join_ref (f0_0.mono (rd_weak _)) hst.to0 ht2136).mono ?_
 rintro _ w2137 ⟨rfl, hst⟩
 refine ⟨_, z, ?_⟩
 replace hst := hst.of0
 refine wv (.bool (decide (t2135 < (0:Int)))) z z z (wv (.bool (decide (t2135 < (0:Int)))) z z z ?_)
 refine bsplit (decide (t2135 < (0:Int))) (fun hc2140 => ?_) (fun hc2140 => ?_)
 {
 replace hm := bif_t hc2140 hm
 refine wo hc2140 z z z z z z (wo hc2140 z z z z z z (wo hc2140 z z z z z z (wo hc2140 z z z z z z (wo hc2140 z z z z z z (wv (.bool true) z z (x_pick_t hc2140 z z) (wl_nil (tn ?_)))))))
 refine wp_ift z ?_
 refine wp_seq (wrl (wv (.int .i64 (15:Int)) z z z (wl_nil (tn (wp_ret (blk_r (then_r (then_r ?_))))))))
 replace hm := inr_up hm hx2132
 refine blk_r (blk_r (then_r (then_r ?_)))
 replace hm := inr_up hm hx2095
 refine blk_r (then_r ?_)
 obtain rfl := some_inj hm
 refine post_ret (vs := [I6 (15:Int)]) results35 (rvs_cons (rv_tmp z) rvs_nil) ?_
 exact ⟨z, hst.keep0⟩
}
 {
 replace hm := bif_f hc2140 hm
 refine wv (r0_0) ((wanted_eq z z z (cvb hc2140)).trans z) z z (wv (.int .i64 z2088) ((wanted_eq z z z (cvb hc2140)).trans z) z z (wv (.int .i64 z2125) ((wanted_eq z z z (cvb hc2140)).trans z) z z ?_))
 obtain ⟨t2141, ht2142, hm⟩ := bind_some hm
 refine wl_call ((wanted_eq z z z (cvb hc2140)).trans z) z (x_call call51 z (vs := [r0_0, I6 z2088, I6 z2125]) z) ?_
 refine (ref03_Meet_ref (f0_0.mono (rd_weak _)) hst.to0 ht2142).mono ?_
 rintro _ w2143 ⟨rfl, hst⟩
 refine ⟨_, z, ?_⟩
 replace hst := hst.of0
 refine wv (.bool (decide (t2141 < (0:Int)))) ((wanted_eq z z z (cvb hc2140)).trans z) z z (wv (.bool (decide (t2141 < (0:Int)))) z z (x_pick_f hc2140 z z) (wl_nil (tn ?_)))
 refine bsplit (decide (t2141 < (0:Int))) (fun hc2146 => ?_) (fun hc2146 => ?_)
 {
 replace hm := bif_t hc2146 hm
 refine wp_ift (cvb hc2146) ?_
 refine wp_seq (wrl (wv (.int .i64 (15:Int)) z z z (wl_nil (tn (wp_ret (blk_r (then_r (then_r ?_))))))))
 replace hm := inr_up hm hx2132
 refine blk_r (blk_r (then_r (then_r ?_)))
 replace hm := inr_up hm hx2095
 refine blk_r (then_r ?_)
 obtain rfl := some_inj hm
 refine post_ret (vs := [I6 (15:Int)]) results35 (rvs_cons (rv_tmp z) rvs_nil) ?_
 exact ⟨z, hst.keep0⟩
}
 {
 replace hm := bif_f hc2146 hm
 refine wp_iff (cvb hc2146) ?_
 refine wp_skip (blk_n (tn (wrl ?_)))
 refine wv (.int .i64 z2125) z z z (wv (.int .i64 (i64.wrap (z2125 + (1:Int)))) z z z (wv (.int .i64 (i64.wrap (z2125 + (1:Int)))) z z z (wl_nil (tn ?_))))
 replace hst := hst.keep0
 obtain rfl := some_inj hm
 exact ⟨_, Nat.lt_succ_self _, (i64.wrap (z2125 + (1:Int))), _, hx2132, (fu 0 r0_0 z (fu 3 (.int .i64 ((a0).length : Int)) z (fu 7 (.int .i64 z2088) z (fu 8 (.int .i64 (i64.wrap (z2125 + (1:Int)))) z z)))), hst⟩
}
}
}
 {
 replace hm := bif_f hc2134 hm
 refine wp_iff (cvb hc2134) ?_
 refine wp_exit (then_x (then_x ?_))
 replace hm := inr_up hm hx2132
 refine blk_x (blk_n (tn (wrl ?_)))
 refine wv (.int .i64 z2088) z z z (wv (.int .i64 (i64.wrap (z2088 + (1:Int)))) z z z (wv (.int .i64 (i64.wrap (z2088 + (1:Int)))) z z z (wl_nil (tn ?_))))
 replace hst := hst.keep0
 obtain rfl := some_inj hm
 exact ⟨_, Nat.lt_succ_self _, (i64.wrap (z2088 + (1:Int))), _, hx2095, (fu 0 r0_0 z (fu 3 (.int .i64 ((a0).length : Int)) z (fu 7 (.int .i64 (i64.wrap (z2088 + (1:Int)))) z z))), hst⟩
}
}
 {
 replace hm := bif_f hc2097 hm
 refine wp_iff (cvb hc2097) ?_
 refine wp_exit (then_x (then_x ?_))
 replace hm := inr_up hm hx2095
 refine blk_x (tn (wp_seq (wrl ?_)))
 refine wv (.int .i64 (0:Int)) z z z (wl_nil (tn (wp_ret ?_)))
 obtain rfl := some_inj hm
 refine post_ret (vs := [Zi]) results35 (rvs_cons (rv_tmp z) rvs_nil) ?_
 exact ⟨z, hst.keep0⟩
}
}
}
}
}

theorem ref04_Check_ref {w0 w : World} {I : HL} {R : SP} {a0 : api_Config} {r0_0 : Value} {r0_1 : Value} (f0_0 : Rd (tyInt .u64) R I r0_0 a0.Up) (f0_1 : Rd tyF64 R I r0_1 a0.Cuts) (hst : St w0 w I [] R) {r : (Int)} (hm : ref04_Check a0 = some r) :
  Calls prog 12 #[.agg #[r0_0, I6 a0.Nodes, r0_1, I6 a0.Frame, I6 a0.Depth, I6 a0.Quota, I6 a0.Wide, I6 a0.Beat, I6 a0.Elect]] w fun e w' => e = .returned (.int .i64 r) ∧ St w0 w' I [] R := by {
 unfold ref04_Check at hm
 refine calls_start (args := [.agg #[r0_0, I6 a0.Nodes, r0_1, I6 a0.Frame, I6 a0.Depth, I6 a0.Quota, I6 a0.Wide, I6 a0.Beat, I6 a0.Elect]]) func12 z ntmps12 (Nat.le_of_ble_eq_true z) ?_
 refine wp_seq (wrl ?_)
 obtain ⟨b120, w121, ew122, eb123, hst⟩ := hst.box [r0_0, I6 a0.Nodes, r0_1, I6 a0.Frame, I6 a0.Depth, I6 a0.Quota, I6 a0.Wide, I6 a0.Beat, I6 a0.Elect] 28
 refine wl_run (v := Pt b120 0) (w' := w121) z z (x_al (by kernel_rfl) ew122 eb123) ?_
 refine wv (.int .i64 (0:Int)) z z z (wl_nil (tn ?_))
 obtain ⟨y140, hm, hx141⟩ := bind_some hm
 refine wp_cut (fun a w => ∃ (z137 : Bool) (σ138 : Nat → Value), (ref04_Check_j0 a0) z137 = some r ∧ a = Fr 86 (upd (upd σ138 1 (Pt b120 0)) 3 (.bool z137)) ∧ St w0 w I [cells b120 [r0_0, I6 a0.Nodes, r0_1, I6 a0.Frame, I6 a0.Depth, I6 a0.Quota, I6 a0.Wide, I6 a0.Beat, I6 a0.Elect]] R) ?_ ?_
 {
 refine wrl (wv (Pt b120 1) z z (x_field z underlying28 z sizeOf3 z) (wv (.int .i64 a0.Nodes) z z (x_load z isAgg3 (hst.bc0 z)) (wv (.bool (decide (a0.Nodes ≥ (1:Int)))) z z z (wv (.bool (decide (a0.Nodes ≥ (1:Int)))) z z z ?_))))
 refine bsplit (decide (a0.Nodes ≥ (1:Int))) (fun hc125 => ?_) (fun hc125 => ?_)
 {
 replace hm := bif_t hc125 hm
 refine wv (Pt b120 1) ((wanted_eq z z z (cvb hc125)).trans z) z (x_field z underlying28 z sizeOf3 z) (wv (.int .i64 a0.Nodes) ((wanted_eq z z z (cvb hc125)).trans z) z (x_load z isAgg3 (hst.bc0 z)) (wv (.bool (decide (a0.Nodes ≤ (7:Int)))) ((wanted_eq z z z (cvb hc125)).trans z) z z (wv (.bool (decide (a0.Nodes ≤ (7:Int)))) z z (x_pick_t hc125 z z) (wv (.bool (decide (a0.Nodes ≤ (7:Int)))) z z z ?_))))
 refine bsplit (decide (a0.Nodes ≤ (7:Int))) (fun hc126 => ?_) (fun hc126 => ?_)
 {
 replace hm := bif_t hc126 hm
 refine wv (Pt b120 2) ((wanted_eq z z z (cvb hc126)).trans z) z (x_field z underlying28 z sizeOf26 z) (wv (r0_1) ((wanted_eq z z z (cvb hc126)).trans z) z (x_load z isAgg26 (hst.bc0 z)) (wv (.int .i64 ((a0.Cuts).length : Int)) ((wanted_eq z z z (cvb hc126)).trans z) z (x_len z underlying26 (rd_sliceV f0_1)) (wv (.bool (decide (((a0.Cuts).length : Int) < (8:Int)))) ((wanted_eq z z z (cvb hc126)).trans z) z z (wv (.bool (decide (((a0.Cuts).length : Int) < (8:Int)))) z z (x_pick_t hc126 z z) (wv (.bool (decide (((a0.Cuts).length : Int) < (8:Int)))) z z z ?_)))))
 refine bsplit (decide (((a0.Cuts).length : Int) < (8:Int))) (fun hc127 => ?_) (fun hc127 => ?_)
 {
 replace hm := bif_t hc127 hm
 refine wv (Pt b120 2) ((wanted_eq z z z (cvb hc127)).trans z) z (x_field z underlying28 z sizeOf26 z) (wv (r0_1) ((wanted_eq z z z (cvb hc127)).trans z) z (x_load z isAgg26 (hst.bc0 z)) ?_)
 obtain ⟨t128, ht129, hm⟩ := bind_some hm
 refine wl_call ((wanted_eq z z z (cvb hc127)).trans z) z (x_call call16 z (vs := [r0_1]) z) ?_
 refine (ref01_Rising_ref (f0_1.mono (rd_weak _)) hst.to0 ht129).mono ?_
 rintro _ w130 ⟨rfl, hst⟩
 refine ⟨_, z, ?_⟩
 replace hst := hst.of0
 refine wv (.bool t128) z z (x_pick_t hc127 z z) (wv (.bool t128) z z z ?_)
 refine bsplit t128 (fun hc133 => ?_) (fun hc133 => ?_)
 {
 replace hm := bif_t hc133 hm
 refine wv (Pt b120 3) ((wanted_eq z z z (cvb hc133)).trans z) z (x_field z underlying28 z sizeOf3 z) (wv (.int .i64 a0.Frame) ((wanted_eq z z z (cvb hc133)).trans z) z (x_load z isAgg3 (hst.bc0 z)) (wv (.bool (decide (a0.Frame ≥ (64:Int)))) ((wanted_eq z z z (cvb hc133)).trans z) z z (wv (.bool (decide (a0.Frame ≥ (64:Int)))) z z (x_pick_t hc133 z z) (wv (.bool (decide (a0.Frame ≥ (64:Int)))) z z z ?_))))
 refine bsplit (decide (a0.Frame ≥ (64:Int))) (fun hc134 => ?_) (fun hc134 => ?_)
 {
 replace hm := bif_t hc134 hm
 refine wv (Pt b120 3) ((wanted_eq z z z (cvb hc134)).trans z) z (x_field z underlying28 z sizeOf3 z) (wv (.int .i64 a0.Frame) ((wanted_eq z z z (cvb hc134)).trans z) z (x_load z isAgg3 (hst.bc0 z)) (wv (.bool (decide (a0.Frame ≤ (4096:Int)))) ((wanted_eq z z z (cvb hc134)).trans z) z z (wv (.bool (decide (a0.Frame ≤ (4096:Int)))) z z (x_pick_t hc134 z z) (wv (.bool (decide (a0.Frame ≤ (4096:Int)))) z z z ?_))))
 refine bsplit (decide (a0.Frame ≤ (4096:Int))) (fun hc135 => ?_) (fun hc135 => ?_)
 {
 replace hm := bif_t hc135 hm
 refine wv (Pt b120 4) ((wanted_eq z z z (cvb hc135)).trans z) z (x_field z underlying28 z sizeOf3 z) (wv (.int .i64 a0.Depth) ((wanted_eq z z z (cvb hc135)).trans z) z (x_load z isAgg3 (hst.bc0 z)) (wv (.bool (decide (a0.Depth ≥ (1:Int)))) ((wanted_eq z z z (cvb hc135)).trans z) z z (wv (.bool (decide (a0.Depth ≥ (1:Int)))) z z (x_pick_t hc135 z z) (wv (.bool (decide (a0.Depth ≥ (1:Int)))) z z z ?_))))
 refine bsplit (decide (a0.Depth ≥ (1:Int))) (fun hc136 => ?_) (fun hc136 => ?_)
 {
 replace hm := bif_t hc136 hm
 refine wv (Pt b120 4) ((wanted_eq z z z (cvb hc136)).trans z) z (x_field z underlying28 z sizeOf3 z) (wv (.int .i64 a0.Depth) ((wanted_eq z z z (cvb hc136)).trans z) z (x_load z isAgg3 (hst.bc0 z)) (wv (.bool (decide (a0.Depth ≤ (65536:Int)))) ((wanted_eq z z z (cvb hc136)).trans z) z z (wv (.bool (decide (a0.Depth ≤ (65536:Int)))) z z (x_pick_t hc136 z z) (wv (.bool (decide (a0.Depth ≤ (65536:Int)))) z z z (wl_nil (tn ?_))))))
 replace hst := hst.keep1
 obtain rfl := some_inj hm
 exact ⟨(decide (a0.Depth ≤ (65536:Int))), _, hx141, (fu 1 (Pt b120 0) z (fu 3 (.bool (decide (a0.Depth ≤ (65536:Int)))) z z)), hst⟩
}
 {
 replace hm := bif_f hc136 hm
 refine wo hc136 z z z z z z (wo hc136 z z z z z z (wo hc136 z z z z z z (wv (.bool false) z z (x_pick_f hc136 z z) (wv (.bool false) z z z (wl_nil (tn ?_))))))
 replace hst := hst.keep1
 obtain rfl := some_inj hm
 exact ⟨false, _, hx141, (fu 1 (Pt b120 0) z (fu 3 (.bool false) z z)), hst⟩
}
}
 {
 replace hm := bif_f hc135 hm
 refine wo hc135 z z z z z z (wo hc135 z z z z z z (wo hc135 z z z z z z (wv (.bool false) z z (x_pick_f hc135 z z) (wv (.bool false) z z z (wz z z z z z z (wz z z z z z z (wz z z z z z z (wv (.bool false) z z (x_pick_f z z z) (wv (.bool false) z z z (wl_nil (tn ?_)))))))))))
 replace hst := hst.keep1
 obtain rfl := some_inj hm
 exact ⟨false, _, hx141, (fu 1 (Pt b120 0) z (fu 3 (.bool false) z z)), hst⟩
}
}
 {
 replace hm := bif_f hc134 hm
 refine wo hc134 z z z z z z (wo hc134 z z z z z z (wo hc134 z z z z z z (wv (.bool false) z z (x_pick_f hc134 z z) (wv (.bool false) z z z (wz z z z z z z (wz z z z z z z (wz z z z z z z (wv (.bool false) z z (x_pick_f z z z) (wv (.bool false) z z z (wz z z z z z z (wz z z z z z z (wz z z z z z z ?_))))))))))))
 refine wv (.bool false) z z (x_pick_f z z z) (wv (.bool false) z z z (wl_nil (tn ?_)))
 replace hst := hst.keep1
 obtain rfl := some_inj hm
 exact ⟨false, _, hx141, (fu 1 (Pt b120 0) z (fu 3 (.bool false) z z)), hst⟩
}
}
 {
 replace hm := bif_f hc133 hm
 refine wo hc133 z z z z z z (wo hc133 z z z z z z (wo hc133 z z z z z z (wv (.bool false) z z (x_pick_f hc133 z z) (wv (.bool false) z z z (wz z z z z z z (wz z z z z z z (wz z z z z z z (wv (.bool false) z z (x_pick_f z z z) (wv (.bool false) z z z (wz z z z z z z (wz z z z z z z (wz z z z z z z ?_))))))))))))
 refine wv (.bool false) z z (x_pick_f z z z) (wv (.bool false) z z z (wz z z z z z z (wz z z z z z z (wz z z z z z z (wv (.bool false) z z (x_pick_f z z z) (wv (.bool false) z z z (wl_nil (tn ?_))))))))
 replace hst := hst.keep1
 obtain rfl := some_inj hm
 exact ⟨false, _, hx141, (fu 1 (Pt b120 0) z (fu 3 (.bool false) z z)), hst⟩
}
}
 {
 replace hm := bif_f hc127 hm
 refine wo hc127 z z z z z z (wo hc127 z z z z z z (wo hc127 z z z z z z (wv (.bool false) z z (x_pick_f hc127 z z) (wv (.bool false) z z z (wz z z z z z z (wz z z z z z z (wz z z z z z z (wv (.bool false) z z (x_pick_f z z z) (wv (.bool false) z z z (wz z z z z z z (wz z z z z z z (wz z z z z z z ?_))))))))))))
 refine wv (.bool false) z z (x_pick_f z z z) (wv (.bool false) z z z (wz z z z z z z (wz z z z z z z (wz z z z z z z (wv (.bool false) z z (x_pick_f z z z) (wv (.bool false) z z z (wz z z z z z z (wz z z z z z z (wz z z z z z z (wv (.bool false) z z (x_pick_f z z z) (wv (.bool false) z z z (wl_nil (tn ?_)))))))))))))
 replace hst := hst.keep1
 obtain rfl := some_inj hm
 exact ⟨false, _, hx141, (fu 1 (Pt b120 0) z (fu 3 (.bool false) z z)), hst⟩
}
}
 {
 replace hm := bif_f hc126 hm
 refine wo hc126 z z z z z z (wo hc126 z z z z z z (wo hc126 z z z z z z (wo hc126 z z z z z z (wv (.bool false) z z (x_pick_f hc126 z z) (wv (.bool false) z z z (wz z z z z z z (wz z z z z z z (wz z z z z z z (wv (.bool false) z z (x_pick_f z z z) (wv (.bool false) z z z (wz z z z z z z (wz z z z z z z ?_))))))))))))
 refine wz z z z z z z (wv (.bool false) z z (x_pick_f z z z) (wv (.bool false) z z z (wz z z z z z z (wz z z z z z z (wz z z z z z z (wv (.bool false) z z (x_pick_f z z z) (wv (.bool false) z z z (wz z z z z z z (wz z z z z z z (wz z z z z z z (wv (.bool false) z z (x_pick_f z z z) (wv (.bool false) z z z ?_))))))))))))
 refine wz z z z z z z (wz z z z z z z (wz z z z z z z (wv (.bool false) z z (x_pick_f z z z) (wv (.bool false) z z z (wl_nil (tn ?_))))))
 replace hst := hst.keep1
 obtain rfl := some_inj hm
 exact ⟨false, _, hx141, (fu 1 (Pt b120 0) z (fu 3 (.bool false) z z)), hst⟩
}
}
 {
 replace hm := bif_f hc125 hm
 refine wo hc125 z z z z z z (wo hc125 z z z z z z (wo hc125 z z z z z z (wv (.bool false) z z (x_pick_f hc125 z z) (wv (.bool false) z z z (wz z z z z z z (wz z z z z z z (wz z z z z z z (wz z z z z z z (wv (.bool false) z z (x_pick_f z z z) (wv (.bool false) z z z (wz z z z z z z (wz z z z z z z ?_))))))))))))
 refine wz z z z z z z (wv (.bool false) z z (x_pick_f z z z) (wv (.bool false) z z z (wz z z z z z z (wz z z z z z z (wz z z z z z z (wv (.bool false) z z (x_pick_f z z z) (wv (.bool false) z z z (wz z z z z z z (wz z z z z z z (wz z z z z z z (wv (.bool false) z z (x_pick_f z z z) (wv (.bool false) z z z ?_))))))))))))
 refine wz z z z z z z (wz z z z z z z (wz z z z z z z (wv (.bool false) z z (x_pick_f z z z) (wv (.bool false) z z z (wz z z z z z z (wz z z z z z z (wz z z z z z z (wv (.bool false) z z (x_pick_f z z z) (wv (.bool false) z z z (wl_nil (tn ?_)))))))))))
 replace hst := hst.keep1
 obtain rfl := some_inj hm
 exact ⟨false, _, hx141, (fu 1 (Pt b120 0) z (fu 3 (.bool false) z z)), hst⟩
}
}
 {
 clear hst
 rintro _ w142 ⟨z137, σ138, hm, rfl, hst⟩
 dsimp only [ref04_Check_j0] at hm
 obtain ⟨y153, hm, hx154⟩ := bind_some hm
 refine wp_cut (fun a w => ∃ (z150 : Bool) (σ151 : Nat → Value), (ref04_Check_j1 a0) z150 = some r ∧ a = Fr 86 (upd (upd σ151 1 (Pt b120 0)) 3 (.bool z150)) ∧ St w0 w I [cells b120 [r0_0, I6 a0.Nodes, r0_1, I6 a0.Frame, I6 a0.Depth, I6 a0.Quota, I6 a0.Wide, I6 a0.Beat, I6 a0.Elect]] R) ?_ ?_
 {
 refine wrl (wv (.bool z137) z z z (wv (.bool z137) z z z ?_))
 refine bsplit z137 (fun hc143 => ?_) (fun hc143 => ?_)
 {
 replace hm := bif_t hc143 hm
 refine wv (Pt b120 5) ((wanted_eq z z z (cvb hc143)).trans z) z (x_field z underlying28 z sizeOf3 z) (wv (.int .i64 a0.Quota) ((wanted_eq z z z (cvb hc143)).trans z) z (x_load z isAgg3 (hst.bc0 z)) (wv (.bool (decide (a0.Quota ≥ (1:Int)))) ((wanted_eq z z z (cvb hc143)).trans z) z z (wv (.bool (decide (a0.Quota ≥ (1:Int)))) z z (x_pick_t hc143 z z) (wv (.bool (decide (a0.Quota ≥ (1:Int)))) z z z ?_))))
 refine bsplit (decide (a0.Quota ≥ (1:Int))) (fun hc144 => ?_) (fun hc144 => ?_)
 {
 replace hm := bif_t hc144 hm
 refine wv (Pt b120 5) ((wanted_eq z z z (cvb hc144)).trans z) z (x_field z underlying28 z sizeOf3 z) (wv (.int .i64 a0.Quota) ((wanted_eq z z z (cvb hc144)).trans z) z (x_load z isAgg3 (hst.bc0 z)) (wv (.bool (decide (a0.Quota ≤ (268435456:Int)))) ((wanted_eq z z z (cvb hc144)).trans z) z z (wv (.bool (decide (a0.Quota ≤ (268435456:Int)))) z z (x_pick_t hc144 z z) (wv (.bool (decide (a0.Quota ≤ (268435456:Int)))) z z z ?_))))
 refine bsplit (decide (a0.Quota ≤ (268435456:Int))) (fun hc145 => ?_) (fun hc145 => ?_)
 {
 replace hm := bif_t hc145 hm
 refine wv (Pt b120 6) ((wanted_eq z z z (cvb hc145)).trans z) z (x_field z underlying28 z sizeOf3 z) (wv (.int .i64 a0.Wide) ((wanted_eq z z z (cvb hc145)).trans z) z (x_load z isAgg3 (hst.bc0 z)) (wv (.bool (decide (a0.Wide ≥ (0:Int)))) ((wanted_eq z z z (cvb hc145)).trans z) z z (wv (.bool (decide (a0.Wide ≥ (0:Int)))) z z (x_pick_t hc145 z z) (wv (.bool (decide (a0.Wide ≥ (0:Int)))) z z z ?_))))
 refine bsplit (decide (a0.Wide ≥ (0:Int))) (fun hc146 => ?_) (fun hc146 => ?_)
 {
 replace hm := bif_t hc146 hm
 refine wv (Pt b120 6) ((wanted_eq z z z (cvb hc146)).trans z) z (x_field z underlying28 z sizeOf3 z) (wv (.int .i64 a0.Wide) ((wanted_eq z z z (cvb hc146)).trans z) z (x_load z isAgg3 (hst.bc0 z)) (wv (.bool (decide (a0.Wide ≤ (256:Int)))) ((wanted_eq z z z (cvb hc146)).trans z) z z (wv (.bool (decide (a0.Wide ≤ (256:Int)))) z z (x_pick_t hc146 z z) (wv (.bool (decide (a0.Wide ≤ (256:Int)))) z z z ?_))))
 refine bsplit (decide (a0.Wide ≤ (256:Int))) (fun hc147 => ?_) (fun hc147 => ?_)
 {
 replace hm := bif_t hc147 hm
 refine wv (Pt b120 7) ((wanted_eq z z z (cvb hc147)).trans z) z (x_field z underlying28 z sizeOf3 z) (wv (.int .i64 a0.Beat) ((wanted_eq z z z (cvb hc147)).trans z) z (x_load z isAgg3 (hst.bc0 z)) (wv (.bool (decide (a0.Beat ≥ (1:Int)))) ((wanted_eq z z z (cvb hc147)).trans z) z z (wv (.bool (decide (a0.Beat ≥ (1:Int)))) z z (x_pick_t hc147 z z) (wv (.bool (decide (a0.Beat ≥ (1:Int)))) z z z ?_))))
 refine bsplit (decide (a0.Beat ≥ (1:Int))) (fun hc148 => ?_) (fun hc148 => ?_)
 {
 replace hm := bif_t hc148 hm
 refine wv (Pt b120 8) ((wanted_eq z z z (cvb hc148)).trans z) z (x_field z underlying28 z sizeOf3 z) (wv (.int .i64 a0.Elect) ((wanted_eq z z z (cvb hc148)).trans z) z (x_load z isAgg3 (hst.bc0 z)) (wv (Pt b120 7) ((wanted_eq z z z (cvb hc148)).trans z) z (x_field z underlying28 z sizeOf3 z) (wv (.int .i64 a0.Beat) ((wanted_eq z z z (cvb hc148)).trans z) z (x_load z isAgg3 (hst.bc0 z)) (wv (.bool (decide (a0.Elect > a0.Beat))) ((wanted_eq z z z (cvb hc148)).trans z) z z (wv (.bool (decide (a0.Elect > a0.Beat))) z z (x_pick_t hc148 z z) (wv (.bool (decide (a0.Elect > a0.Beat))) z z z ?_))))))
 refine bsplit (decide (a0.Elect > a0.Beat)) (fun hc149 => ?_) (fun hc149 => ?_)
 {
 replace hm := bif_t hc149 hm
 refine wv (Pt b120 8) ((wanted_eq z z z (cvb hc149)).trans z) z (x_field z underlying28 z sizeOf3 z) (wv (.int .i64 a0.Elect) ((wanted_eq z z z (cvb hc149)).trans z) z (x_load z isAgg3 (hst.bc0 z)) (wv (.bool (decide (a0.Elect ≤ (1000:Int)))) ((wanted_eq z z z (cvb hc149)).trans z) z z (wv (.bool (decide (a0.Elect ≤ (1000:Int)))) z z (x_pick_t hc149 z z) (wv (.bool (decide (a0.Elect ≤ (1000:Int)))) z z z (wl_nil (tn ?_))))))
 replace hst := hst.keep1
 obtain rfl := some_inj hm
 exact ⟨(decide (a0.Elect ≤ (1000:Int))), _, hx154, (fu 1 (Pt b120 0) z (fu 3 (.bool (decide (a0.Elect ≤ (1000:Int)))) z z)), hst⟩
}
 {
 replace hm := bif_f hc149 hm
 refine wo hc149 z z z z z z (wo hc149 z z z z z z (wo hc149 z z z z z z (wv (.bool false) z z (x_pick_f hc149 z z) (wv (.bool false) z z z (wl_nil (tn ?_))))))
 replace hst := hst.keep1
 obtain rfl := some_inj hm
 exact ⟨false, _, hx154, (fu 1 (Pt b120 0) z (fu 3 (.bool false) z z)), hst⟩
}
}
 {
 replace hm := bif_f hc148 hm
 refine wo hc148 z z z z z z (wo hc148 z z z z z z (wo hc148 z z z z z z (wo hc148 z z z z z z (wo hc148 z z z z z z (wv (.bool false) z z (x_pick_f hc148 z z) (wv (.bool false) z z z (wz z z z z z z (wz z z z z z z (wz z z z z z z (wv (.bool false) z z (x_pick_f z z z) (wv (.bool false) z z z (wl_nil (tn ?_)))))))))))))
 replace hst := hst.keep1
 obtain rfl := some_inj hm
 exact ⟨false, _, hx154, (fu 1 (Pt b120 0) z (fu 3 (.bool false) z z)), hst⟩
}
}
 {
 replace hm := bif_f hc147 hm
 refine wo hc147 z z z z z z (wo hc147 z z z z z z (wo hc147 z z z z z z (wv (.bool false) z z (x_pick_f hc147 z z) (wv (.bool false) z z z (wz z z z z z z (wz z z z z z z (wz z z z z z z (wz z z z z z z (wz z z z z z z (wv (.bool false) z z (x_pick_f z z z) (wv (.bool false) z z z (wz z z z z z z ?_))))))))))))
 refine wz z z z z z z (wz z z z z z z (wv (.bool false) z z (x_pick_f z z z) (wv (.bool false) z z z (wl_nil (tn ?_)))))
 replace hst := hst.keep1
 obtain rfl := some_inj hm
 exact ⟨false, _, hx154, (fu 1 (Pt b120 0) z (fu 3 (.bool false) z z)), hst⟩
}
}
 {
 replace hm := bif_f hc146 hm
 refine wo hc146 z z z z z z (wo hc146 z z z z z z (wo hc146 z z z z z z (wv (.bool false) z z (x_pick_f hc146 z z) (wv (.bool false) z z z (wz z z z z z z (wz z z z z z z (wz z z z z z z (wv (.bool false) z z (x_pick_f z z z) (wv (.bool false) z z z (wz z z z z z z (wz z z z z z z (wz z z z z z z ?_))))))))))))
 refine wz z z z z z z (wz z z z z z z (wv (.bool false) z z (x_pick_f z z z) (wv (.bool false) z z z (wz z z z z z z (wz z z z z z z (wz z z z z z z (wv (.bool false) z z (x_pick_f z z z) (wv (.bool false) z z z (wl_nil (tn ?_))))))))))
 replace hst := hst.keep1
 obtain rfl := some_inj hm
 exact ⟨false, _, hx154, (fu 1 (Pt b120 0) z (fu 3 (.bool false) z z)), hst⟩
}
}
 {
 replace hm := bif_f hc145 hm
 refine wo hc145 z z z z z z (wo hc145 z z z z z z (wo hc145 z z z z z z (wv (.bool false) z z (x_pick_f hc145 z z) (wv (.bool false) z z z (wz z z z z z z (wz z z z z z z (wz z z z z z z (wv (.bool false) z z (x_pick_f z z z) (wv (.bool false) z z z (wz z z z z z z (wz z z z z z z (wz z z z z z z ?_))))))))))))
 refine wv (.bool false) z z (x_pick_f z z z) (wv (.bool false) z z z (wz z z z z z z (wz z z z z z z (wz z z z z z z (wz z z z z z z (wz z z z z z z (wv (.bool false) z z (x_pick_f z z z) (wv (.bool false) z z z (wz z z z z z z (wz z z z z z z (wz z z z z z z (wv (.bool false) z z (x_pick_f z z z) ?_))))))))))))
 refine wv (.bool false) z z z (wl_nil (tn ?_))
 replace hst := hst.keep1
 obtain rfl := some_inj hm
 exact ⟨false, _, hx154, (fu 1 (Pt b120 0) z (fu 3 (.bool false) z z)), hst⟩
}
}
 {
 replace hm := bif_f hc144 hm
 refine wo hc144 z z z z z z (wo hc144 z z z z z z (wo hc144 z z z z z z (wv (.bool false) z z (x_pick_f hc144 z z) (wv (.bool false) z z z (wz z z z z z z (wz z z z z z z (wz z z z z z z (wv (.bool false) z z (x_pick_f z z z) (wv (.bool false) z z z (wz z z z z z z (wz z z z z z z (wz z z z z z z ?_))))))))))))
 refine wv (.bool false) z z (x_pick_f z z z) (wv (.bool false) z z z (wz z z z z z z (wz z z z z z z (wz z z z z z z (wv (.bool false) z z (x_pick_f z z z) (wv (.bool false) z z z (wz z z z z z z (wz z z z z z z (wz z z z z z z (wz z z z z z z (wz z z z z z z (wv (.bool false) z z (x_pick_f z z z) ?_))))))))))))
 refine wv (.bool false) z z z (wz z z z z z z (wz z z z z z z (wz z z z z z z (wv (.bool false) z z (x_pick_f z z z) (wv (.bool false) z z z (wl_nil (tn ?_)))))))
 replace hst := hst.keep1
 obtain rfl := some_inj hm
 exact ⟨false, _, hx154, (fu 1 (Pt b120 0) z (fu 3 (.bool false) z z)), hst⟩
}
}
 {
 replace hm := bif_f hc143 hm
 refine wo hc143 z z z z z z (wo hc143 z z z z z z (wo hc143 z z z z z z (wv (.bool false) z z (x_pick_f hc143 z z) (wv (.bool false) z z z (wz z z z z z z (wz z z z z z z (wz z z z z z z (wv (.bool false) z z (x_pick_f z z z) (wv (.bool false) z z z (wz z z z z z z (wz z z z z z z (wz z z z z z z ?_))))))))))))
 refine wv (.bool false) z z (x_pick_f z z z) (wv (.bool false) z z z (wz z z z z z z (wz z z z z z z (wz z z z z z z (wv (.bool false) z z (x_pick_f z z z) (wv (.bool false) z z z (wz z z z z z z (wz z z z z z z (wz z z z z z z (wv (.bool false) z z (x_pick_f z z z) (wv (.bool false) z z z (wz z z z z z z ?_))))))))))))
 refine wz z z z z z z (wz z z z z z z (wz z z z z z z (wz z z z z z z (wv (.bool false) z z (x_pick_f z z z) (wv (.bool false) z z z (wz z z z z z z (wz z z z z z z (wz z z z z z z (wv (.bool false) z z (x_pick_f z z z) (wv (.bool false) z z z (wl_nil (tn ?_))))))))))))
 replace hst := hst.keep1
 obtain rfl := some_inj hm
 exact ⟨false, _, hx154, (fu 1 (Pt b120 0) z (fu 3 (.bool false) z z)), hst⟩
}
}
 {
 clear hst
 rintro _ w155 ⟨z150, σ151, hm, rfl, hst⟩
 dsimp only [ref04_Check_j1] at hm
 refine wp_seq (wp_seq (wrl (wv (.bool z150) z z z (wv (.bool (!z150)) z z z (wl_nil (tn ?_))))))
 refine bsplit (!z150) (fun hc156 => ?_) (fun hc156 => ?_)
 {
 replace hm := bif_t hc156 hm
 refine wp_ift (cvb hc156) ?_
 refine wp_seq (wrl (wv (.int .i64 (1:Int)) z z z (wl_nil (tn (wp_ret (then_r ?_))))))
 obtain rfl := some_inj hm
 refine post_ret (vs := [I6 (1:Int)]) results12 (rvs_cons (rv_tmp z) rvs_nil) ?_
 exact ⟨z, hst.keep0⟩
}
 {
 replace hm := bif_f hc156 hm
 refine wp_iff (cvb hc156) ?_
 refine wp_skip (tn (wp_seq (wrl ?_)))
 refine wv (Pt b120 0) z z (x_field z underlying28 z sizeOf25 z) (wv (r0_0) z z (x_load z isAgg25 (hst.bc0 z)) ?_)
 obtain ⟨t157, ht158, hm⟩ := bind_some hm
 refine wc call35 [r0_0] z z z ?_
 refine (ref03_Check_ref (f0_0.mono (rd_weak _)) hst.to0 ht158).mono ?_
 rintro _ w159 ⟨rfl, hst⟩
 refine ⟨_, z, ?_⟩
 replace hst := hst.of0
 refine wv (.int .i64 t157) z z z (wl_nil (tn (wp_ret ?_)))
 obtain rfl := some_inj hm
 refine post_ret (vs := [I6 t157]) results12 (rvs_cons (rv_tmp z) rvs_nil) ?_
 exact ⟨z, hst.keep0⟩
}
}
}
}

end Go.Proofs.Ytkjkbfaaigmmcaa
