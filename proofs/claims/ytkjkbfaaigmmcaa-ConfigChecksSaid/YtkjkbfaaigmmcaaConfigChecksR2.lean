/- The Go functions refine their models, part 2. -/
import Derived.Test.YtkjkbfaaigmmcaaConfigChecksR1
set_option linter.unusedVariables false
set_option linter.unusedSimpArgs false
set_option maxRecDepth 100000
set_option maxHeartbeats 4000000
namespace Go.Proofs.Ytkjkbfaaigmmcaa
open Go Go.V
open _root_.Go.Proofs.Try IntKind
attribute [local irreducible] wpList Code.wp wpQuiet Calls bodyPost Oper.wp wpS Nx PendOK YieldsIn
theorem config_New_ref {w0 w : World} {I : HL} {R : SP} {a0 : api_Config} {r0_0 : Value} {r0_1 : Value} (f0_0 : Ro (tyInt .u64) I r0_0 a0.Up) (f0_1 : Ro tyF64 I r0_1 a0.Cuts) (hst : St w0 w I [] R) {r : (Option config_Plan × Int)} (hm : config_New a0 = some r) :
  Calls prog 11 #[.agg #[r0_0, I6 a0.Nodes, r0_1, I6 a0.Frame, I6 a0.Depth, I6 a0.Quota, I6 a0.Wide, I6 a0.Beat, I6 a0.Elect]] w fun e w' => ∃ (I' : HL) (q0 : Value), e = .returned (.tuple #[q0, I6 r.2]) ∧ I.le I' ∧ St w0 w' I' [objO at_config_Plan q0 r.1] R := by {
 unfold config_New at hm
 refine calls_start (args := [.agg #[r0_0, I6 a0.Nodes, r0_1, I6 a0.Frame, I6 a0.Depth, I6 a0.Quota, I6 a0.Wide, I6 a0.Beat, I6 a0.Elect]]) func11 z ntmps11 (Nat.le_of_ble_eq_true z) ?_
 have hI0 := HL.le.refl I
 refine wp_seq (wrl ?_)
 obtain ⟨b95, w96, ew97, eb98, hst⟩ := hst.box [r0_0, I6 a0.Nodes, r0_1, I6 a0.Frame, I6 a0.Depth, I6 a0.Quota, I6 a0.Wide, I6 a0.Beat, I6 a0.Elect] 28
 refine wl_run (v := Pt b95 0) (w' := w96) z z (x_al (by kernel_rfl) ew97 eb98) ?_
 refine wv (.pointer none) z z z (wv (.int .i64 (0:Int)) z z z (wl_nil (tn (wp_seq (wp_block ?_)))))
 obtain ⟨y111, hm, hx112⟩ := bind_some hm
 refine wp_cut (fun a w => ∃ (z108 : Bool) (σ109 : Nat → Value), (config_New_j0 a0) z108 = some r ∧ a = Fr 86 (upd (upd σ109 1 (Pt b95 0)) 6 (.bool z108)) ∧ St w0 w I [cells b95 [r0_0, I6 a0.Nodes, r0_1, I6 a0.Frame, I6 a0.Depth, I6 a0.Quota, I6 a0.Wide, I6 a0.Beat, I6 a0.Elect]] R) ?_ ?_
 {
 refine wp_seq (wrl (wv (Pt b95 1) z z (x_field z underlying28 z sizeOf3 z) (wv (.int .i64 a0.Nodes) z z (x_load z isAgg3 (hst.bc0 z)) (wv (.bool (decide (a0.Nodes < (1:Int)))) z z z (wv (.bool (decide (a0.Nodes < (1:Int)))) z z z ?_)))))
 refine bsplit (decide (a0.Nodes < (1:Int))) (fun hc100 => ?_) (fun hc100 => ?_)
 {
 replace hm := bif_t hc100 hm
 refine wo hc100 z z z z z z (wo hc100 z z z z z z (wo hc100 z z z z z z (wv (.bool true) z z (x_pick_t hc100 z z) (wv (.bool true) z z z (wl_nil (tn ?_))))))
 refine wp_ift z ?_
 refine wp_skip (tn ?_)
 replace hst := hst.keep1
 obtain rfl := some_inj hm
 exact ⟨true, _, hx112, (fu 1 (Pt b95 0) z (fu 6 (.bool true) z z)), hst⟩
}
 {
 replace hm := bif_f hc100 hm
 refine wv (Pt b95 1) ((wanted_eq z z z (cvb hc100)).trans z) z (x_field z underlying28 z sizeOf3 z) (wv (.int .i64 a0.Nodes) ((wanted_eq z z z (cvb hc100)).trans z) z (x_load z isAgg3 (hst.bc0 z)) (wv (.bool (decide (a0.Nodes > (7:Int)))) ((wanted_eq z z z (cvb hc100)).trans z) z z (wv (.bool (decide (a0.Nodes > (7:Int)))) z z (x_pick_f hc100 z z) (wv (.bool (decide (a0.Nodes > (7:Int)))) z z z (wl_nil (tn ?_))))))
 refine bsplit (decide (a0.Nodes > (7:Int))) (fun hc101 => ?_) (fun hc101 => ?_)
 {
 replace hm := bif_t hc101 hm
 refine wp_ift (cvb hc101) ?_
 refine wp_skip (tn ?_)
 replace hst := hst.keep1
 obtain rfl := some_inj hm
 exact ⟨(decide (a0.Nodes > (7:Int))), _, hx112, (fu 1 (Pt b95 0) z (fu 6 (.bool (decide (a0.Nodes > (7:Int)))) z z)), hst⟩
}
 {
 replace hm := bif_f hc101 hm
 refine wp_iff (cvb hc101) ?_
 refine wp_seq (wrl (wv (Pt b95 2) z z (x_field z underlying28 z sizeOf26 z) (wv (r0_1) z z (x_load z isAgg26 (hst.bc0 z)) (wv (.int .i64 ((a0.Cuts).length : Int)) z z (x_len z underlying26 (ro_sliceV f0_1)) (wv (.bool (decide (((a0.Cuts).length : Int) ≥ (8:Int)))) z z z (wv (.bool (decide (((a0.Cuts).length : Int) ≥ (8:Int)))) z z z (wl_nil (tn ?_))))))))
 refine bsplit (decide (((a0.Cuts).length : Int) ≥ (8:Int))) (fun hc102 => ?_) (fun hc102 => ?_)
 {
 replace hm := bif_t hc102 hm
 refine wp_ift (cvb hc102) ?_
 refine wp_skip (tn ?_)
 replace hst := hst.keep1
 obtain rfl := some_inj hm
 exact ⟨(decide (((a0.Cuts).length : Int) ≥ (8:Int))), _, hx112, (fu 1 (Pt b95 0) z (fu 6 (.bool (decide (((a0.Cuts).length : Int) ≥ (8:Int)))) z z)), hst⟩
}
 {
 replace hm := bif_f hc102 hm
 refine wp_iff (cvb hc102) ?_
 refine wrl (wv (Pt b95 2) z z (x_field z underlying28 z sizeOf26 z) (wv (r0_1) z z (x_load z isAgg26 (hst.bc0 z)) ?_))
 obtain ⟨t103, ht104, hm⟩ := bind_some hm
 refine wc call33 [r0_1] z z z ?_
 refine (number_Rising_ref (f0_1.mono ro_rd) hst.to0 ht104).mono ?_
 rintro _ w105 ⟨rfl, hst⟩
 refine ⟨_, z, ?_⟩
 replace hst := hst.of0
 refine wv (.bool (!t103)) z z z (wv (.bool (!t103)) z z z (wl_nil (tn ?_)))
 replace hst := hst.keep1
 obtain rfl := some_inj hm
 exact ⟨(!t103), _, hx112, (fu 1 (Pt b95 0) z (fu 6 (.bool (!t103)) z z)), hst⟩
}
}
}
}
 {
 clear hst
 rintro _ w113 ⟨z108, σ109, hm, rfl, hst⟩
 dsimp only [config_New_j0] at hm
 refine bsplit z108 (fun hc114 => ?_) (fun hc114 => ?_)
 {
 replace hm := bif_t hc114 hm
 refine wp_ift (cvb hc114) ?_
 refine wp_seq (wrl (wv (.pointer none) z z z (wv (.int .i64 (1:Int)) z z z (wl_nil (tn (wp_ret (blk_r (then_r ?_))))))))
 replace hst := hst.objO_nil at_config_Plan
 obtain rfl := some_inj hm
 refine post_ret (vs := [.pointer none, I6 (1:Int)]) results11 (rvs_cons (rv_tmp z) (rvs_cons (rv_tmp z) rvs_nil)) ?_
 exact ⟨_, .pointer none, z, hI0, hst.keep1⟩
}
 {
 replace hm := bif_f hc114 hm
 refine wp_iff (cvb hc114) ?_
 obtain ⟨y122, hm, hx123⟩ := bind_some hm
 refine wp_cut (fun a w => ∃ (z119 : Bool) (σ120 : Nat → Value), (config_New_j1 a0) z119 = some r ∧ a = Fr 86 (upd (upd σ120 1 (Pt b95 0)) 23 (.bool z119)) ∧ St w0 w I [cells b95 [r0_0, I6 a0.Nodes, r0_1, I6 a0.Frame, I6 a0.Depth, I6 a0.Quota, I6 a0.Wide, I6 a0.Beat, I6 a0.Elect]] R) ?_ ?_
 {
 refine wp_seq (wrl (wv (Pt b95 3) z z (x_field z underlying28 z sizeOf3 z) (wv (.int .i64 a0.Frame) z z (x_load z isAgg3 (hst.bc0 z)) (wv (.bool (decide (a0.Frame < (64:Int)))) z z z (wv (.bool (decide (a0.Frame < (64:Int)))) z z z ?_)))))
 refine bsplit (decide (a0.Frame < (64:Int))) (fun hc116 => ?_) (fun hc116 => ?_)
 {
 replace hm := bif_t hc116 hm
 refine wo hc116 z z z z z z (wo hc116 z z z z z z (wo hc116 z z z z z z (wv (.bool true) z z (x_pick_t hc116 z z) (wv (.bool true) z z z (wl_nil (tn ?_))))))
 refine wp_ift z ?_
 refine wp_skip (tn ?_)
 replace hst := hst.keep1
 obtain rfl := some_inj hm
 exact ⟨true, _, hx123, (fu 1 (Pt b95 0) z (fu 23 (.bool true) z z)), hst⟩
}
 {
 replace hm := bif_f hc116 hm
 refine wv (Pt b95 3) ((wanted_eq z z z (cvb hc116)).trans z) z (x_field z underlying28 z sizeOf3 z) (wv (.int .i64 a0.Frame) ((wanted_eq z z z (cvb hc116)).trans z) z (x_load z isAgg3 (hst.bc0 z)) (wv (.bool (decide (a0.Frame > (4096:Int)))) ((wanted_eq z z z (cvb hc116)).trans z) z z (wv (.bool (decide (a0.Frame > (4096:Int)))) z z (x_pick_f hc116 z z) (wv (.bool (decide (a0.Frame > (4096:Int)))) z z z (wl_nil (tn ?_))))))
 refine bsplit (decide (a0.Frame > (4096:Int))) (fun hc117 => ?_) (fun hc117 => ?_)
 {
 replace hm := bif_t hc117 hm
 refine wp_ift (cvb hc117) ?_
 refine wp_skip (tn ?_)
 replace hst := hst.keep1
 obtain rfl := some_inj hm
 exact ⟨(decide (a0.Frame > (4096:Int))), _, hx123, (fu 1 (Pt b95 0) z (fu 23 (.bool (decide (a0.Frame > (4096:Int)))) z z)), hst⟩
}
 {
 replace hm := bif_f hc117 hm
 refine wp_iff (cvb hc117) ?_
 refine wrl (wv (Pt b95 4) z z (x_field z underlying28 z sizeOf3 z) (wv (.int .i64 a0.Depth) z z (x_load z isAgg3 (hst.bc0 z)) (wv (.bool (decide (a0.Depth < (1:Int)))) z z z (wv (.bool (decide (a0.Depth < (1:Int)))) z z z ?_))))
 refine bsplit (decide (a0.Depth < (1:Int))) (fun hc118 => ?_) (fun hc118 => ?_)
 {
 replace hm := bif_t hc118 hm
 refine wo hc118 z z z z z z (wo hc118 z z z z z z (wo hc118 z z z z z z (wv (.bool true) z z (x_pick_t hc118 z z) (wv (.bool true) z z z (wl_nil (tn ?_))))))
 replace hst := hst.keep1
 obtain rfl := some_inj hm
 exact ⟨true, _, hx123, (fu 1 (Pt b95 0) z (fu 23 (.bool true) z z)), hst⟩
}
 {
 replace hm := bif_f hc118 hm
 refine wv (Pt b95 4) ((wanted_eq z z z (cvb hc118)).trans z) z (x_field z underlying28 z sizeOf3 z) (wv (.int .i64 a0.Depth) ((wanted_eq z z z (cvb hc118)).trans z) z (x_load z isAgg3 (hst.bc0 z)) (wv (.bool (decide (a0.Depth > (65536:Int)))) ((wanted_eq z z z (cvb hc118)).trans z) z z (wv (.bool (decide (a0.Depth > (65536:Int)))) z z (x_pick_f hc118 z z) (wv (.bool (decide (a0.Depth > (65536:Int)))) z z z (wl_nil (tn ?_))))))
 replace hst := hst.keep1
 obtain rfl := some_inj hm
 exact ⟨(decide (a0.Depth > (65536:Int))), _, hx123, (fu 1 (Pt b95 0) z (fu 23 (.bool (decide (a0.Depth > (65536:Int)))) z z)), hst⟩
}
}
}
}
 {
 clear hst
 rintro _ w124 ⟨z119, σ120, hm, rfl, hst⟩
 dsimp only [config_New_j1] at hm
 refine bsplit z119 (fun hc125 => ?_) (fun hc125 => ?_)
 {
 replace hm := bif_t hc125 hm
 refine wp_ift (cvb hc125) ?_
 refine wp_seq (wrl (wv (.pointer none) z z z (wv (.int .i64 (1:Int)) z z z (wl_nil (tn (wp_ret (blk_r (then_r ?_))))))))
 replace hst := hst.objO_nil at_config_Plan
 obtain rfl := some_inj hm
 refine post_ret (vs := [.pointer none, I6 (1:Int)]) results11 (rvs_cons (rv_tmp z) (rvs_cons (rv_tmp z) rvs_nil)) ?_
 exact ⟨_, .pointer none, z, hI0, hst.keep1⟩
}
 {
 replace hm := bif_f hc125 hm
 refine wp_iff (cvb hc125) ?_
 obtain ⟨y133, hm, hx134⟩ := bind_some hm
 refine wp_cut (fun a w => ∃ (z130 : Bool) (σ131 : Nat → Value), (config_New_j2 a0) z130 = some r ∧ a = Fr 86 (upd (upd σ131 1 (Pt b95 0)) 40 (.bool z130)) ∧ St w0 w I [cells b95 [r0_0, I6 a0.Nodes, r0_1, I6 a0.Frame, I6 a0.Depth, I6 a0.Quota, I6 a0.Wide, I6 a0.Beat, I6 a0.Elect]] R) ?_ ?_
 {
 refine wp_seq (wrl (wv (Pt b95 5) z z (x_field z underlying28 z sizeOf3 z) (wv (.int .i64 a0.Quota) z z (x_load z isAgg3 (hst.bc0 z)) (wv (.bool (decide (a0.Quota < (1:Int)))) z z z (wv (.bool (decide (a0.Quota < (1:Int)))) z z z ?_)))))
 refine bsplit (decide (a0.Quota < (1:Int))) (fun hc127 => ?_) (fun hc127 => ?_)
 {
 replace hm := bif_t hc127 hm
 refine wo hc127 z z z z z z (wo hc127 z z z z z z (wo hc127 z z z z z z (wv (.bool true) z z (x_pick_t hc127 z z) (wv (.bool true) z z z (wl_nil (tn ?_))))))
 refine wp_ift z ?_
 refine wp_skip (tn ?_)
 replace hst := hst.keep1
 obtain rfl := some_inj hm
 exact ⟨true, _, hx134, (fu 1 (Pt b95 0) z (fu 40 (.bool true) z z)), hst⟩
}
 {
 replace hm := bif_f hc127 hm
 refine wv (Pt b95 5) ((wanted_eq z z z (cvb hc127)).trans z) z (x_field z underlying28 z sizeOf3 z) (wv (.int .i64 a0.Quota) ((wanted_eq z z z (cvb hc127)).trans z) z (x_load z isAgg3 (hst.bc0 z)) (wv (.bool (decide (a0.Quota > (268435456:Int)))) ((wanted_eq z z z (cvb hc127)).trans z) z z (wv (.bool (decide (a0.Quota > (268435456:Int)))) z z (x_pick_f hc127 z z) (wv (.bool (decide (a0.Quota > (268435456:Int)))) z z z (wl_nil (tn ?_))))))
 refine bsplit (decide (a0.Quota > (268435456:Int))) (fun hc128 => ?_) (fun hc128 => ?_)
 {
 replace hm := bif_t hc128 hm
 refine wp_ift (cvb hc128) ?_
 refine wp_skip (tn ?_)
 replace hst := hst.keep1
 obtain rfl := some_inj hm
 exact ⟨(decide (a0.Quota > (268435456:Int))), _, hx134, (fu 1 (Pt b95 0) z (fu 40 (.bool (decide (a0.Quota > (268435456:Int)))) z z)), hst⟩
}
 {
 replace hm := bif_f hc128 hm
 refine wp_iff (cvb hc128) ?_
 refine wrl (wv (Pt b95 6) z z (x_field z underlying28 z sizeOf3 z) (wv (.int .i64 a0.Wide) z z (x_load z isAgg3 (hst.bc0 z)) (wv (.bool (decide (a0.Wide < (0:Int)))) z z z (wv (.bool (decide (a0.Wide < (0:Int)))) z z z ?_))))
 refine bsplit (decide (a0.Wide < (0:Int))) (fun hc129 => ?_) (fun hc129 => ?_)
 {
 replace hm := bif_t hc129 hm
 refine wo hc129 z z z z z z (wo hc129 z z z z z z (wo hc129 z z z z z z (wv (.bool true) z z (x_pick_t hc129 z z) (wv (.bool true) z z z (wl_nil (tn ?_))))))
 replace hst := hst.keep1
 obtain rfl := some_inj hm
 exact ⟨true, _, hx134, (fu 1 (Pt b95 0) z (fu 40 (.bool true) z z)), hst⟩
}
 {
 replace hm := bif_f hc129 hm
 refine wv (Pt b95 6) ((wanted_eq z z z (cvb hc129)).trans z) z (x_field z underlying28 z sizeOf3 z) (wv (.int .i64 a0.Wide) ((wanted_eq z z z (cvb hc129)).trans z) z (x_load z isAgg3 (hst.bc0 z)) (wv (.bool (decide (a0.Wide > (256:Int)))) ((wanted_eq z z z (cvb hc129)).trans z) z z (wv (.bool (decide (a0.Wide > (256:Int)))) z z (x_pick_f hc129 z z) (wv (.bool (decide (a0.Wide > (256:Int)))) z z z (wl_nil (tn ?_))))))
 replace hst := hst.keep1
 obtain rfl := some_inj hm
 exact ⟨(decide (a0.Wide > (256:Int))), _, hx134, (fu 1 (Pt b95 0) z (fu 40 (.bool (decide (a0.Wide > (256:Int)))) z z)), hst⟩
}
}
}
}
 {
 clear hst
 rintro _ w135 ⟨z130, σ131, hm, rfl, hst⟩
 dsimp only [config_New_j2] at hm
 refine bsplit z130 (fun hc136 => ?_) (fun hc136 => ?_)
 {
 replace hm := bif_t hc136 hm
 refine wp_ift (cvb hc136) ?_
 refine wp_seq (wrl (wv (.pointer none) z z z (wv (.int .i64 (1:Int)) z z z (wl_nil (tn (wp_ret (blk_r (then_r ?_))))))))
 replace hst := hst.objO_nil at_config_Plan
 obtain rfl := some_inj hm
 refine post_ret (vs := [.pointer none, I6 (1:Int)]) results11 (rvs_cons (rv_tmp z) (rvs_cons (rv_tmp z) rvs_nil)) ?_
 exact ⟨_, .pointer none, z, hI0, hst.keep1⟩
}
 {
 replace hm := bif_f hc136 hm
 refine wp_iff (cvb hc136) ?_
 refine wp_seq (wrl (wv (Pt b95 7) z z (x_field z underlying28 z sizeOf3 z) (wv (.int .i64 a0.Beat) z z (x_load z isAgg3 (hst.bc0 z)) (wv (.bool (decide (a0.Beat < (1:Int)))) z z z (wv (.bool (decide (a0.Beat < (1:Int)))) z z z ?_)))))
 refine bsplit (decide (a0.Beat < (1:Int))) (fun hc138 => ?_) (fun hc138 => ?_)
 {
 replace hm := bif_t hc138 hm
 refine wo hc138 z z z z z z (wo hc138 z z z z z z (wo hc138 z z z z z z (wo hc138 z z z z z z (wo hc138 z z z z z z (wv (.bool true) z z (x_pick_t hc138 z z) (wv (.bool true) z z z (wz z z z z z z (wz z z z z z z (wz z z z z z z (wv (.bool true) z z (x_pick_t z z z) (wv (.bool true) z z z (wl_nil (tn ?_)))))))))))))
 refine wp_ift z ?_
 refine wp_seq (wrl (wv (.pointer none) z z z (wv (.int .i64 (1:Int)) z z z (wl_nil (tn (wp_ret (blk_r (then_r ?_))))))))
 replace hst := hst.objO_nil at_config_Plan
 obtain rfl := some_inj hm
 refine post_ret (vs := [.pointer none, I6 (1:Int)]) results11 (rvs_cons (rv_tmp z) (rvs_cons (rv_tmp z) rvs_nil)) ?_
 exact ⟨_, .pointer none, z, hI0, hst.keep1⟩
}
 {
 replace hm := bif_f hc138 hm
 refine wv (Pt b95 8) ((wanted_eq z z z (cvb hc138)).trans z) z (x_field z underlying28 z sizeOf3 z) (wv (.int .i64 a0.Elect) ((wanted_eq z z z (cvb hc138)).trans z) z (x_load z isAgg3 (hst.bc0 z)) (wv (Pt b95 7) ((wanted_eq z z z (cvb hc138)).trans z) z (x_field z underlying28 z sizeOf3 z) (wv (.int .i64 a0.Beat) ((wanted_eq z z z (cvb hc138)).trans z) z (x_load z isAgg3 (hst.bc0 z)) (wv (.bool (decide (a0.Elect ≤ a0.Beat))) ((wanted_eq z z z (cvb hc138)).trans z) z z (wv (.bool (decide (a0.Elect ≤ a0.Beat))) z z (x_pick_f hc138 z z) (wv (.bool (decide (a0.Elect ≤ a0.Beat))) z z z ?_))))))
 refine bsplit (decide (a0.Elect ≤ a0.Beat)) (fun hc140 => ?_) (fun hc140 => ?_)
 {
 replace hm := bif_t hc140 hm
 refine wo hc140 z z z z z z (wo hc140 z z z z z z (wo hc140 z z z z z z (wv (.bool true) z z (x_pick_t hc140 z z) (wv (.bool true) z z z (wl_nil (tn ?_))))))
 refine wp_ift z ?_
 refine wp_seq (wrl (wv (.pointer none) z z z (wv (.int .i64 (1:Int)) z z z (wl_nil (tn (wp_ret (blk_r (then_r ?_))))))))
 replace hst := hst.objO_nil at_config_Plan
 obtain rfl := some_inj hm
 refine post_ret (vs := [.pointer none, I6 (1:Int)]) results11 (rvs_cons (rv_tmp z) (rvs_cons (rv_tmp z) rvs_nil)) ?_
 exact ⟨_, .pointer none, z, hI0, hst.keep1⟩
}
 {
 replace hm := bif_f hc140 hm
 refine wv (Pt b95 8) ((wanted_eq z z z (cvb hc140)).trans z) z (x_field z underlying28 z sizeOf3 z) (wv (.int .i64 a0.Elect) ((wanted_eq z z z (cvb hc140)).trans z) z (x_load z isAgg3 (hst.bc0 z)) (wv (.bool (decide (a0.Elect > (1000:Int)))) ((wanted_eq z z z (cvb hc140)).trans z) z z (wv (.bool (decide (a0.Elect > (1000:Int)))) z z (x_pick_f hc140 z z) (wv (.bool (decide (a0.Elect > (1000:Int)))) z z z (wl_nil (tn ?_))))))
 refine bsplit (decide (a0.Elect > (1000:Int))) (fun hc142 => ?_) (fun hc142 => ?_)
 {
 replace hm := bif_t hc142 hm
 refine wp_ift (cvb hc142) ?_
 refine wp_seq (wrl (wv (.pointer none) z z z (wv (.int .i64 (1:Int)) z z z (wl_nil (tn (wp_ret (blk_r (then_r ?_))))))))
 replace hst := hst.objO_nil at_config_Plan
 obtain rfl := some_inj hm
 refine post_ret (vs := [.pointer none, I6 (1:Int)]) results11 (rvs_cons (rv_tmp z) (rvs_cons (rv_tmp z) rvs_nil)) ?_
 exact ⟨_, .pointer none, z, hI0, hst.keep1⟩
}
 {
 replace hm := bif_f hc142 hm
 refine wp_iff (cvb hc142) ?_
 refine wp_skip (blk_n (tn (wp_seq (wrl ?_))))
 refine wv (Pt b95 0) z z (x_field z underlying28 z sizeOf25 z) (wv (r0_0) z z (x_load z isAgg25 (hst.bc0 z)) ?_)
 obtain ⟨t144, ht145, hm⟩ := bind_some hm
 refine wc call34 [r0_0] z z z ?_
 refine (label_New_ref (f0_0.mono ro_rd) hst.to0 ht145).mono ?_
 rintro _ w146 ⟨I147, v149, rfl, hI148, hst⟩
 refine ⟨_, z, ?_⟩
 replace hst := hst.of1
 replace f0_0 := f0_0.mono (ro_le hI148)
 replace f0_1 := f0_1.mono (ro_le hI148)
 replace hI0 := hI0.trans hI148
 refine wv (.tuple #[v149, I6 t144.2]) z z z (wv (v149) z z z (wv (.int .i64 t144.2) z z z (wv (v149) z z z (wv (.int .i64 t144.2) z z z (wl_nil (tn (wp_seq (wp_seq (wrl (wv (.int .i64 t144.2) z z z (wv (.bool (t144.2 != (0:Int))) z z z (wl_nil (tn ?_)))))))))))))
 refine bsplit (t144.2 != (0:Int)) (fun hc151 => ?_) (fun hc151 => ?_)
 {
 replace hm := bif_t hc151 hm
 refine wp_ift (cvb hc151) ?_
 refine wp_seq (wrl (wv (.int .i64 t144.2) z z z (wv (.pointer none) z z z (wv (.int .i64 t144.2) z z z (wl_nil (tn (wp_ret (then_r ?_))))))))
 replace hst := hst.objO_nil at_config_Plan
 obtain rfl := some_inj hm
 refine post_ret (vs := [.pointer none, I6 t144.2]) results11 (rvs_cons (rv_tmp z) (rvs_cons (rv_tmp z) rvs_nil)) ?_
 exact ⟨_, .pointer none, z, hI0, hst.keep1⟩
}
 {
 replace hm := bif_f hc151 hm
 refine wp_iff (cvb hc151) ?_
 refine wp_skip (tn (wp_seq (wrl ?_)))
 refine wv (.agg #[r0_0, I6 a0.Nodes, r0_1, I6 a0.Frame, I6 a0.Depth, I6 a0.Quota, I6 a0.Wide, I6 a0.Beat, I6 a0.Elect]) z z (x_loadN (cs := [r0_0, I6 a0.Nodes, r0_1, I6 a0.Frame, I6 a0.Depth, I6 a0.Quota, I6 a0.Wide, I6 a0.Beat, I6 a0.Elect]) z isAgg28 sizeOf28 (hst.bcs1 0 z)) (wv (v149) z z z (wv (.agg #[r0_0, I6 a0.Nodes, r0_1, I6 a0.Frame, I6 a0.Depth, I6 a0.Quota, I6 a0.Wide, I6 a0.Beat, I6 a0.Elect, v149]) z z (by obtain ⟨_, ha_, _⟩ := at_label_Lattice_isnil hst; rw [ha_]; obtain ⟨_, _, hv_, _⟩ := (ro_sliceV f0_1); rw [hv_]; obtain ⟨_, _, hv_, _⟩ := (ro_sliceV f0_0); rw [hv_]; kernel_rfl) ?_))
 obtain ⟨b155, w156, ew157, eb158, hst⟩ := hst.box [r0_0, I6 a0.Nodes, r0_1, I6 a0.Frame, I6 a0.Depth, I6 a0.Quota, I6 a0.Wide, I6 a0.Beat, I6 a0.Elect, v149] 64
 refine wl_run (v := Pt b155 0) (w' := w156) z z (x_al (by kernel_rfl) ew157 eb158) ?_
 refine wv (Pt b155 0) z z z (wv (.int .i64 (0:Int)) z z z (wl_nil (tn (wp_ret ?_))))
 replace hst := hst.pull1.pull1
 replace hst := at_config_Plan_close (pv := Pt b155 0) (x := ({ C := a0, L := t144.1 } : config_Plan)) hst ⟨z, f0_0, f0_1⟩
 replace hst := objO_some hst
 obtain rfl := some_inj hm
 refine post_ret (vs := [Pt b155 0, Zi]) results11 (rvs_cons (rv_tmp z) (rvs_cons (rv_tmp z) rvs_nil)) ?_
 exact ⟨_, Pt b155 0, z, hI0, hst.keep1⟩
}
}
}
}
}
}
}
}
}
}
}

theorem label_Lattice_Len_ref {w0 w : World} {I : HL} {R : SP} {a0 : (Option label_Lattice)} {p0 : Value}  (hst : St w0 w I [objO at_label_Lattice p0 a0] R) {r : (Int)} (hm : label_Lattice_Len a0 = some r) :
  Calls prog 40 #[p0] w fun e w' => e = .returned (.int .i64 r) ∧ St w0 w' I [objO at_label_Lattice p0 a0] R := by {
 rcases a0 with _ | o0
 {
 obtain ⟨rfl, hst'⟩ := objO_none hst
 clear hst
 have hst := hst'
 clear hst'
 dsimp only [label_Lattice_Len] at hm
 refine calls_start (args := [.pointer none]) func40 z ntmps40 (Nat.le_of_ble_eq_true z) ?_
 refine wp_seq (wrl (wv (.int .i64 (0:Int)) z z z (wl_nil (tn (wp_seq (wp_seq (wrl (wv (.pointer none) z z z (wv (.bool true) z z (by kernel_rfl) (wl_nil (tn ?_)))))))))))
 refine wp_ift z ?_
 refine wp_seq (wrl (wv (.int .i64 (0:Int)) z z z (wl_nil (tn (wp_ret (then_r ?_))))))
 replace hst := hst.objO_nil at_label_Lattice
 obtain rfl := some_inj hm
 refine post_ret (vs := [Zi]) results40 (rvs_cons (rv_tmp z) rvs_nil) ?_
 exact ⟨z, hst.keep1⟩
}
 {
 replace hst := objO_get hst
 dsimp only [label_Lattice_Len] at hm
 refine calls_start (args := [p0]) func40 z ntmps40 (Nat.le_of_ble_eq_true z) ?_
 refine wp_seq (wrl (wv (.int .i64 (0:Int)) z z z (wl_nil (tn (wp_seq (wp_seq (wrl (wv (p0) z z z ?_))))))))
 obtain ⟨b73, v74, v76, v78, v80, v82, v84, rfl, hst'⟩ := at_label_Lattice_open hst
 clear hst
 have hst := hst'
 clear hst'
 refine wv (.bool false) z z (by kernel_rfl) (wl_nil (tn ?_))
 refine wp_iff z ?_
 refine wp_skip (tn (wp_seq (wrl ?_)))
 refine wv (Pt b73 0) z z z (wv (Pt b73 0) z z z (wv (Pt b73 0) z z (x_field z underlying73 z sizeOf25 z) (wv (v74) z z (x_load z isAgg25 (hst.bc0 z)) (wv (.int .i64 ((o0.up).length : Int)) z z (x_len z underlying25 hst.sv1) (wv (.int .i64 ((o0.up).length : Int)) z z z (wl_nil (tn (wp_ret ?_))))))))
 replace hst := hst.pull6.pull6.pull6.pull6.pull6.pull6.pull6
 replace hst := at_label_Lattice_close (pv := Pt b73 0) (x := o0) hst z
 replace hst := objO_some hst
 obtain rfl := some_inj hm
 refine post_ret (vs := [I6 ((o0.up).length : Int)]) results40 (rvs_cons (rv_tmp z) rvs_nil) ?_
 exact ⟨z, hst.keep1⟩
}
}

theorem config_Plan_L0_ref {w0 w : World} {I : HL} {R : SP} {a0 : (Option config_Plan)} {p0 : Value}  (hst : St w0 w I [objO at_config_Plan p0 a0] R) {r : (Int)} (hm : config_Plan_L0 a0 = some r) :
  Calls prog 20 #[p0] w fun e w' => e = .returned (.int .i64 r) ∧ St w0 w' I [objO at_config_Plan p0 a0] R := by {
 rcases a0 with _ | o0
 {
 obtain ⟨rfl, hst'⟩ := objO_none hst
 clear hst
 have hst := hst'
 clear hst'
 dsimp only [config_Plan_L0] at hm
 refine calls_start (args := [.pointer none]) func20 z ntmps20 (Nat.le_of_ble_eq_true z) ?_
 refine wp_seq (wrl (wv (.int .i64 (0:Int)) z z z (wl_nil (tn (wp_seq (wp_seq (wrl (wv (.pointer none) z z z (wv (.bool true) z z (by kernel_rfl) (wl_nil (tn ?_)))))))))))
 refine wp_ift z ?_
 refine wp_seq (wrl (wv (.int .i64 (0:Int)) z z z (wl_nil (tn (wp_ret (then_r ?_))))))
 replace hst := hst.objO_nil at_config_Plan
 obtain rfl := some_inj hm
 refine post_ret (vs := [Zi]) results20 (rvs_cons (rv_tmp z) rvs_nil) ?_
 exact ⟨z, hst.keep1⟩
}
 {
 replace hst := objO_get hst
 dsimp only [config_Plan_L0] at hm
 refine calls_start (args := [p0]) func20 z ntmps20 (Nat.le_of_ble_eq_true z) ?_
 refine wp_seq (wrl (wv (.int .i64 (0:Int)) z z z (wl_nil (tn (wp_seq (wp_seq (wrl (wv (p0) z z z ?_))))))))
 obtain ⟨b64, v65, v68, v71, ⟨rfl, f67, f70⟩, hst'⟩ := at_config_Plan_open hst
 clear hst
 have hst := hst'
 clear hst'
 refine wv (.bool false) z z (by kernel_rfl) (wl_nil (tn ?_))
 refine wp_iff z ?_
 refine wp_skip (tn (wp_seq (wrl ?_)))
 refine wv (Pt b64 0) z z z (wv (Pt b64 0) z z z (wv (Pt b64 9) z z (x_field z underlying64 z sizeOf60 z) (wv (v71) z z (x_load z isAgg60 (hst.bc0 z)) ?_)))
 replace hst := hst.pull1
 obtain ⟨t73, ht74, hm⟩ := bind_some hm
 refine wc call40 [v71] z z z ?_
 refine (label_Lattice_Len_ref hst.to1 ht74).mono ?_
 rintro _ w75 ⟨rfl, hst⟩
 refine ⟨_, z, ?_⟩
 replace hst := hst.of1
 refine wv (.int .i64 t73) z z z (wl_nil (tn (wp_ret ?_)))
 replace hst := hst.pull1
 replace hst := at_config_Plan_close (pv := Pt b64 0) (x := o0) hst ⟨z, f67, f70⟩
 replace hst := objO_some hst
 obtain rfl := some_inj hm
 refine post_ret (vs := [I6 t73]) results20 (rvs_cons (rv_tmp z) rvs_nil) ?_
 exact ⟨z, hst.keep1⟩
}
}

theorem config_Plan_Shards_ref {w0 w : World} {I : HL} {R : SP} {a0 : (Option config_Plan)} {p0 : Value}  (hst : St w0 w I [objO at_config_Plan p0 a0] R) {r : (Int)} (hm : config_Plan_Shards a0 = some r) :
  Calls prog 17 #[p0] w fun e w' => e = .returned (.int .i64 r) ∧ St w0 w' I [objO at_config_Plan p0 a0] R := by {
 rcases a0 with _ | o0
 {
 obtain ⟨rfl, hst'⟩ := objO_none hst
 clear hst
 have hst := hst'
 clear hst'
 dsimp only [config_Plan_Shards] at hm
 refine calls_start (args := [.pointer none]) func17 z ntmps17 (Nat.le_of_ble_eq_true z) ?_
 refine wp_seq (wrl (wv (.int .i64 (0:Int)) z z z (wl_nil (tn (wp_seq (wp_seq (wrl (wv (.pointer none) z z z (wv (.bool true) z z (by kernel_rfl) (wl_nil (tn ?_)))))))))))
 refine wp_ift z ?_
 refine wp_seq (wrl (wv (.int .i64 (0:Int)) z z z (wl_nil (tn (wp_ret (then_r ?_))))))
 replace hst := hst.objO_nil at_config_Plan
 obtain rfl := some_inj hm
 refine post_ret (vs := [Zi]) results17 (rvs_cons (rv_tmp z) rvs_nil) ?_
 exact ⟨z, hst.keep1⟩
}
 {
 replace hst := objO_get hst
 dsimp only [config_Plan_Shards] at hm
 refine calls_start (args := [p0]) func17 z ntmps17 (Nat.le_of_ble_eq_true z) ?_
 refine wp_seq (wrl (wv (.int .i64 (0:Int)) z z z (wl_nil (tn (wp_seq (wp_seq (wrl (wv (p0) z z z ?_))))))))
 obtain ⟨b64, v65, v68, v71, ⟨rfl, f67, f70⟩, hst'⟩ := at_config_Plan_open hst
 clear hst
 have hst := hst'
 clear hst'
 refine wv (.bool false) z z (by kernel_rfl) (wl_nil (tn ?_))
 refine wp_iff z ?_
 refine wp_skip (tn (wp_seq (wrl ?_)))
 refine wv (Pt b64 0) z z z (wv (Pt b64 0) z z z (wv (Pt b64 0) z z (x_field z underlying64 z sizeOf28 z) (wv (Pt b64 2) z z (x_field z underlying28 z sizeOf26 z) (wv (v68) z z (x_load z isAgg26 (hst.bc0 z)) (wv (.int .i64 ((o0.C.Cuts).length : Int)) z z (x_len z underlying26 (ro_sliceV f70)) (wv (.int .i64 (i64.wrap (((o0.C.Cuts).length : Int) + (1:Int)))) z z z (wv (.int .i64 (i64.wrap (((o0.C.Cuts).length : Int) + (1:Int)))) z z z (wl_nil (tn (wp_ret ?_))))))))))
 replace hst := hst.pull1.pull1
 replace hst := at_config_Plan_close (pv := Pt b64 0) (x := o0) hst ⟨z, f67, f70⟩
 replace hst := objO_some hst
 obtain rfl := some_inj hm
 refine post_ret (vs := [I6 (i64.wrap (((o0.C.Cuts).length : Int) + (1:Int)))]) results17 (rvs_cons (rv_tmp z) rvs_nil) ?_
 exact ⟨z, hst.keep1⟩
}
}

theorem config_Plan_Lanes_ref {w0 w : World} {I : HL} {R : SP} {a0 : (Option config_Plan)} {p0 : Value}  (hst : St w0 w I [objO at_config_Plan p0 a0] R) {r : (Int)} (hm : config_Plan_Lanes a0 = some r) :
  Calls prog 18 #[p0] w fun e w' => e = .returned (.int .i64 r) ∧ St w0 w' I [objO at_config_Plan p0 a0] R := by {
 unfold config_Plan_Lanes at hm
 refine calls_start (args := [p0]) func18 z ntmps18 (Nat.le_of_ble_eq_true z) ?_
 refine wp_seq (wrl (wv (.int .i64 (0:Int)) z z z (wl_nil (tn (wp_seq (wrl (wv (p0) z z z ?_)))))))
 obtain ⟨t59, ht60, hm⟩ := bind_some hm
 refine wc call20 [p0] z z z ?_
 refine (config_Plan_L0_ref hst.to1 ht60).mono ?_
 rintro _ w61 ⟨rfl, hst⟩
 refine ⟨_, z, ?_⟩
 replace hst := hst.of1
 refine wv (p0) z z z ?_
 obtain ⟨t64, ht65, hm⟩ := bind_some hm
 refine wc call17 [p0] z z z ?_
 refine (config_Plan_Shards_ref hst.to1 ht65).mono ?_
 rintro _ w66 ⟨rfl, hst⟩
 refine ⟨_, z, ?_⟩
 replace hst := hst.of1
 refine wv (.int .i64 (i64.wrap (t59 * t64))) z z z (wv (.int .i64 (i64.wrap ((i64.wrap (t59 * t64)) + (1:Int)))) z z z (wv (.int .i64 (i64.wrap ((i64.wrap (t59 * t64)) + (1:Int)))) z z z (wl_nil (tn (wp_ret ?_)))))
 obtain rfl := some_inj hm
 refine post_ret (vs := [I6 (i64.wrap ((i64.wrap (t59 * t64)) + (1:Int)))]) results18 (rvs_cons (rv_tmp z) rvs_nil) ?_
 exact ⟨z, hst.keep1⟩
}

theorem config_Plan_Lane_ref {w0 w : World} {I : HL} {R : SP} {a0 : (Option config_Plan)} {p0 : Value} {a1 : Int} {a2 : Int}  (hst : St w0 w I [objO at_config_Plan p0 a0] R) {r : (Int)} (hm : config_Plan_Lane a0 a1 a2 = some r) :
  Calls prog 24 #[p0, I6 a1, I6 a2] w fun e w' => e = .returned (.int .i64 r) ∧ St w0 w' I [objO at_config_Plan p0 a0] R := by {
 unfold config_Plan_Lane at hm
 refine calls_start (args := [p0, I6 a1, I6 a2]) func24 z ntmps24 (Nat.le_of_ble_eq_true z) ?_
 refine wp_seq (wrl (wv (.int .i64 (0:Int)) z z z (wl_nil (tn (wp_seq (wp_seq (wrl (wv (.int .i64 a1) z z z (wv (.bool (decide (a1 < (0:Int)))) z z z (wv (.bool (decide (a1 < (0:Int)))) z z z ?_))))))))))
 refine bsplit (decide (a1 < (0:Int))) (fun hc74 => ?_) (fun hc74 => ?_)
 {
 replace hm := bif_t hc74 hm
 refine wo hc74 z z z z z z (wo hc74 z z z z z z (wo hc74 z z z z z z (wo hc74 z z z z z z (wv (.bool true) z z (x_pick_t hc74 z z) (wv (.bool true) z z z (wz z z z z z z (wz z z z z z z (wv (.bool true) z z (x_pick_t z z z) (wv (.bool true) z z z (wz z z z z z z (wz z z z z z z (wz z z z z z z ?_))))))))))))
 refine wz z z z z z z (wv (.bool true) z z (x_pick_t z z z) (wl_nil (tn ?_)))
 refine wp_ift z ?_
 refine wp_seq (wrl (wv (.int .i64 ((-1):Int)) z z z (wl_nil (tn (wp_ret (then_r ?_))))))
 obtain rfl := some_inj hm
 refine post_ret (vs := [I6 ((-1):Int)]) results24 (rvs_cons (rv_tmp z) rvs_nil) ?_
 exact ⟨z, hst.keep1⟩
}
 {
 replace hm := bif_f hc74 hm
 refine wv (.int .i64 a1) ((wanted_eq z z z (cvb hc74)).trans z) z z (wv (p0) ((wanted_eq z z z (cvb hc74)).trans z) z z ?_)
 obtain ⟨t75, ht76, hm⟩ := bind_some hm
 refine wl_call ((wanted_eq z z z (cvb hc74)).trans z) z (x_call call20 z (vs := [p0]) z) ?_
 refine (config_Plan_L0_ref hst.to1 ht76).mono ?_
 rintro _ w77 ⟨rfl, hst⟩
 refine ⟨_, z, ?_⟩
 replace hst := hst.of1
 refine wv (.bool (decide (a1 ≥ t75))) ((wanted_eq z z z (cvb hc74)).trans z) z z (wv (.bool (decide (a1 ≥ t75))) z z (x_pick_f hc74 z z) (wv (.bool (decide (a1 ≥ t75))) z z z ?_))
 refine bsplit (decide (a1 ≥ t75)) (fun hc80 => ?_) (fun hc80 => ?_)
 {
 replace hm := bif_t hc80 hm
 refine wo hc80 z z z z z z (wo hc80 z z z z z z (wv (.bool true) z z (x_pick_t hc80 z z) (wv (.bool true) z z z (wz z z z z z z (wz z z z z z z (wz z z z z z z (wz z z z z z z (wv (.bool true) z z (x_pick_t z z z) (wl_nil (tn ?_))))))))))
 refine wp_ift z ?_
 refine wp_seq (wrl (wv (.int .i64 ((-1):Int)) z z z (wl_nil (tn (wp_ret (then_r ?_))))))
 obtain rfl := some_inj hm
 refine post_ret (vs := [I6 ((-1):Int)]) results24 (rvs_cons (rv_tmp z) rvs_nil) ?_
 exact ⟨z, hst.keep1⟩
}
 {
 replace hm := bif_f hc80 hm
 refine wv (.int .i64 a2) ((wanted_eq z z z (cvb hc80)).trans z) z z (wv (.bool (decide (a2 < (0:Int)))) ((wanted_eq z z z (cvb hc80)).trans z) z z (wv (.bool (decide (a2 < (0:Int)))) z z (x_pick_f hc80 z z) (wv (.bool (decide (a2 < (0:Int)))) z z z ?_)))
 refine bsplit (decide (a2 < (0:Int))) (fun hc81 => ?_) (fun hc81 => ?_)
 {
 replace hm := bif_t hc81 hm
 refine wo hc81 z z z z z z (wo hc81 z z z z z z (wo hc81 z z z z z z (wo hc81 z z z z z z (wv (.bool true) z z (x_pick_t hc81 z z) (wl_nil (tn ?_))))))
 refine wp_ift z ?_
 refine wp_seq (wrl (wv (.int .i64 ((-1):Int)) z z z (wl_nil (tn (wp_ret (then_r ?_))))))
 obtain rfl := some_inj hm
 refine post_ret (vs := [I6 ((-1):Int)]) results24 (rvs_cons (rv_tmp z) rvs_nil) ?_
 exact ⟨z, hst.keep1⟩
}
 {
 replace hm := bif_f hc81 hm
 refine wv (.int .i64 a2) ((wanted_eq z z z (cvb hc81)).trans z) z z (wv (p0) ((wanted_eq z z z (cvb hc81)).trans z) z z ?_)
 obtain ⟨t82, ht83, hm⟩ := bind_some hm
 refine wl_call ((wanted_eq z z z (cvb hc81)).trans z) z (x_call call17 z (vs := [p0]) z) ?_
 refine (config_Plan_Shards_ref hst.to1 ht83).mono ?_
 rintro _ w84 ⟨rfl, hst⟩
 refine ⟨_, z, ?_⟩
 replace hst := hst.of1
 refine wv (.bool (decide (a2 ≥ t82))) ((wanted_eq z z z (cvb hc81)).trans z) z z (wv (.bool (decide (a2 ≥ t82))) z z (x_pick_f hc81 z z) (wl_nil (tn ?_)))
 refine bsplit (decide (a2 ≥ t82)) (fun hc87 => ?_) (fun hc87 => ?_)
 {
 replace hm := bif_t hc87 hm
 refine wp_ift (cvb hc87) ?_
 refine wp_seq (wrl (wv (.int .i64 ((-1):Int)) z z z (wl_nil (tn (wp_ret (then_r ?_))))))
 obtain rfl := some_inj hm
 refine post_ret (vs := [I6 ((-1):Int)]) results24 (rvs_cons (rv_tmp z) rvs_nil) ?_
 exact ⟨z, hst.keep1⟩
}
 {
 replace hm := bif_f hc87 hm
 refine wp_iff (cvb hc87) ?_
 refine wp_skip (tn (wp_seq (wrl ?_)))
 refine wv (.int .i64 a1) z z z (wv (p0) z z z ?_)
 obtain ⟨t88, ht89, hm⟩ := bind_some hm
 refine wc call17 [p0] z z z ?_
 refine (config_Plan_Shards_ref hst.to1 ht89).mono ?_
 rintro _ w90 ⟨rfl, hst⟩
 refine ⟨_, z, ?_⟩
 replace hst := hst.of1
 refine wv (.int .i64 (i64.wrap (a1 * t88))) z z z (wv (.int .i64 a2) z z z (wv (.int .i64 (i64.wrap ((i64.wrap (a1 * t88)) + a2))) z z z (wv (.int .i64 (i64.wrap ((i64.wrap (a1 * t88)) + a2))) z z z (wl_nil (tn (wp_ret ?_))))))
 obtain rfl := some_inj hm
 refine post_ret (vs := [I6 (i64.wrap ((i64.wrap (a1 * t88)) + a2))]) results24 (rvs_cons (rv_tmp z) rvs_nil) ?_
 exact ⟨z, hst.keep1⟩
}
}
}
}
}

theorem config_Plan_Rules_ref {w0 w : World} {I : HL} {R : SP} {a0 : (Option config_Plan)} {p0 : Value}  (hst : St w0 w I [objO at_config_Plan p0 a0] R) {r : (Int)} (hm : config_Plan_Rules a0 = some r) :
  Calls prog 19 #[p0] w fun e w' => e = .returned (.int .i64 r) ∧ St w0 w' I [objO at_config_Plan p0 a0] R := by {
 unfold config_Plan_Rules at hm
 refine calls_start (args := [p0]) func19 z ntmps19 (Nat.le_of_ble_eq_true z) ?_
 refine wp_seq (wrl (wv (.int .i64 (0:Int)) z z z (wl_nil (tn (wp_seq (wrl (wv (p0) z z z ?_)))))))
 obtain ⟨t66, ht67, hm⟩ := bind_some hm
 refine wc call18 [p0] z z z ?_
 refine (config_Plan_Lanes_ref hst.to1 ht67).mono ?_
 rintro _ w68 ⟨rfl, hst⟩
 refine ⟨_, z, ?_⟩
 replace hst := hst.of1
 refine wv (.int .i64 (i64.wrap (t66 - (1:Int)))) z z z (wv (.int .i64 (i64.wrap (t66 - (1:Int)))) z z z (wl_nil (tn (wp_ret ?_))))
 obtain rfl := some_inj hm
 refine post_ret (vs := [I6 (i64.wrap (t66 - (1:Int)))]) results19 (rvs_cons (rv_tmp z) rvs_nil) ?_
 exact ⟨z, hst.keep1⟩
}

theorem label_Lattice_Bottom_ref {w0 w : World} {I : HL} {R : SP} {a0 : (Option label_Lattice)} {p0 : Value}  (hst : St w0 w I [objO at_label_Lattice p0 a0] R) {r : (Int)} (hm : label_Lattice_Bottom a0 = some r) :
  Calls prog 41 #[p0] w fun e w' => e = .returned (.int .i64 r) ∧ St w0 w' I [objO at_label_Lattice p0 a0] R := by {
 rcases a0 with _ | o0
 {
 obtain ⟨rfl, hst'⟩ := objO_none hst
 clear hst
 have hst := hst'
 clear hst'
 dsimp only [label_Lattice_Bottom] at hm
 refine calls_start (args := [.pointer none]) func41 z ntmps41 (Nat.le_of_ble_eq_true z) ?_
 refine wp_seq (wrl (wv (.int .i64 (0:Int)) z z z (wl_nil (tn (wp_seq (wp_seq (wrl (wv (.pointer none) z z z (wv (.bool true) z z (by kernel_rfl) (wl_nil (tn ?_)))))))))))
 refine wp_ift z ?_
 refine wp_seq (wrl (wv (.int .i64 ((-1):Int)) z z z (wl_nil (tn (wp_ret (then_r ?_))))))
 replace hst := hst.objO_nil at_label_Lattice
 obtain rfl := some_inj hm
 refine post_ret (vs := [I6 ((-1):Int)]) results41 (rvs_cons (rv_tmp z) rvs_nil) ?_
 exact ⟨z, hst.keep1⟩
}
 {
 replace hst := objO_get hst
 dsimp only [label_Lattice_Bottom] at hm
 refine calls_start (args := [p0]) func41 z ntmps41 (Nat.le_of_ble_eq_true z) ?_
 refine wp_seq (wrl (wv (.int .i64 (0:Int)) z z z (wl_nil (tn (wp_seq (wp_seq (wrl (wv (p0) z z z ?_))))))))
 obtain ⟨b118, v119, v121, v123, v125, v127, v129, rfl, hst'⟩ := at_label_Lattice_open hst
 clear hst
 have hst := hst'
 clear hst'
 refine wv (.bool false) z z (by kernel_rfl) (wl_nil (tn ?_))
 refine wp_iff z ?_
 refine wp_skip (tn (wp_seq (wrl ?_)))
 refine wv (Pt b118 0) z z z (wv (Pt b118 0) z z z (wv (Pt b118 5) z z (x_field z underlying73 z sizeOf46 z) (wv (v129) z z (x_load z isAgg46 (hst.bc0 z)) ?_)))
 obtain ⟨x131, hx132, hm⟩ := bind_some hm
 obtain ⟨h133, h134, hi135⟩ := geto_some hx132
 refine wv (.pointer (some (eAddr v129 ((0:Int).toNat * 1 + 0)))) z z (x_index z z underlying46 sizeOf3 hst.sv6 h133 h134) (wv (.int .i64 x131) z z (x_load z isAgg3 (hst.ol6 hi135 (by rintro _ rfl; rfl))) (wv (.int .i64 x131) z z z (wl_nil (tn (wp_ret ?_)))))
 replace hst := hst.pull6.pull6.pull6.pull6.pull6.pull6.pull6
 replace hst := at_label_Lattice_close (pv := Pt b118 0) (x := o0) hst z
 replace hst := objO_some hst
 obtain rfl := some_inj hm
 refine post_ret (vs := [I6 x131]) results41 (rvs_cons (rv_tmp z) rvs_nil) ?_
 exact ⟨z, hst.keep1⟩
}
}

theorem config_Plan_Label_ref {w0 w : World} {I : HL} {R : SP} {a0 : (Option config_Plan)} {p0 : Value} {a1 : Int}  (hst : St w0 w I [objO at_config_Plan p0 a0] R) {r : (Int)} (hm : config_Plan_Label a0 a1 = some r) :
  Calls prog 22 #[p0, I6 a1] w fun e w' => e = .returned (.int .i64 r) ∧ St w0 w' I [objO at_config_Plan p0 a0] R := by {
 rcases a0 with _ | o0
 {
 obtain ⟨rfl, hst'⟩ := objO_none hst
 clear hst
 have hst := hst'
 clear hst'
 dsimp only [config_Plan_Label] at hm
 refine calls_start (args := [.pointer none, I6 a1]) func22 z ntmps22 (Nat.le_of_ble_eq_true z) ?_
 refine wp_seq (wrl (wv (.int .i64 (0:Int)) z z z (wl_nil (tn (wp_seq (wp_block (wp_seq (wrl (wv (.pointer none) z z z (wv (.bool true) z z (by kernel_rfl) (wv (.bool true) z z z (wz z z z z z z (wz z z z z z z (wv (.bool true) z z (x_pick_t z z z) (wv (.bool true) z z z (wz z z z z z z (wz z z z z z z (wz z z z z z z ?_))))))))))))))))))
 refine wz z z z z z z (wv (.bool true) z z (x_pick_t z z z) (wv (.bool true) z z z (wl_nil (tn ?_))))
 refine wp_ift z ?_
 refine wp_seq (wrl (wv (.int .i64 ((-1):Int)) z z z (wl_nil (tn (wp_ret (blk_r (then_r ?_)))))))
 replace hst := hst.objO_nil at_config_Plan
 obtain rfl := some_inj hm
 refine post_ret (vs := [I6 ((-1):Int)]) results22 (rvs_cons (rv_tmp z) rvs_nil) ?_
 exact ⟨z, hst.keep1⟩
}
 {
 replace hst := objO_get hst
 dsimp only [config_Plan_Label] at hm
 refine calls_start (args := [p0, I6 a1]) func22 z ntmps22 (Nat.le_of_ble_eq_true z) ?_
 refine wp_seq (wrl (wv (.int .i64 (0:Int)) z z z (wl_nil (tn (wp_seq (wp_block (wp_seq (wrl (wv (p0) z z z ?_)))))))))
 obtain ⟨b110, v111, v114, v117, ⟨rfl, f113, f116⟩, hst'⟩ := at_config_Plan_open hst
 clear hst
 have hst := hst'
 clear hst'
 refine wv (.bool false) z z (by kernel_rfl) (wv (.bool false) z z z (wv (.int .i64 a1) ((wanted_eq z z z z).trans z) z z (wv (.bool (decide (a1 < (0:Int)))) ((wanted_eq z z z z).trans z) z z (wv (.bool (decide (a1 < (0:Int)))) z z (x_pick_f z z z) (wv (.bool (decide (a1 < (0:Int)))) z z z ?_)))))
 refine bsplit (decide (a1 < (0:Int))) (fun hc119 => ?_) (fun hc119 => ?_)
 {
 replace hm := bif_t hc119 hm
 refine wo hc119 z z z z z z (wo hc119 z z z z z z (wo hc119 z z z z z z (wo hc119 z z z z z z (wv (.bool true) z z (x_pick_t hc119 z z) (wv (.bool true) z z z (wl_nil (tn ?_)))))))
 refine wp_ift z ?_
 refine wp_seq (wrl (wv (.int .i64 ((-1):Int)) z z z (wl_nil (tn (wp_ret (blk_r (then_r ?_)))))))
 replace hst := hst.pull1.pull1
 replace hst := at_config_Plan_close (pv := Pt b110 0) (x := o0) hst ⟨z, f113, f116⟩
 replace hst := objO_some hst
 obtain rfl := some_inj hm
 refine post_ret (vs := [I6 ((-1):Int)]) results22 (rvs_cons (rv_tmp z) rvs_nil) ?_
 exact ⟨z, hst.keep1⟩
}
 {
 replace hm := bif_f hc119 hm
 refine wv (.int .i64 a1) ((wanted_eq z z z (cvb hc119)).trans z) z z (wv (Pt b110 0) ((wanted_eq z z z (cvb hc119)).trans z) z z ?_)
 replace hst := hst.pull1.pull1
 replace hst := at_config_Plan_close (pv := Pt b110 0) (x := o0) hst ⟨z, f113, f116⟩
 replace hst := objO_some hst
 obtain ⟨t120, ht121, hm⟩ := bind_some hm
 refine wl_call ((wanted_eq z z z (cvb hc119)).trans z) z (x_call call18 z (vs := [Pt b110 0]) z) ?_
 refine (config_Plan_Lanes_ref hst.to1 ht121).mono ?_
 rintro _ w122 ⟨rfl, hst⟩
 refine ⟨_, z, ?_⟩
 replace hst := hst.of1
 replace hst := objO_get hst
 refine wv (.bool (decide (a1 ≥ t120))) ((wanted_eq z z z (cvb hc119)).trans z) z z (wv (.bool (decide (a1 ≥ t120))) z z (x_pick_f hc119 z z) (wv (.bool (decide (a1 ≥ t120))) z z z (wl_nil (tn ?_))))
 refine bsplit (decide (a1 ≥ t120)) (fun hc125 => ?_) (fun hc125 => ?_)
 {
 replace hm := bif_t hc125 hm
 refine wp_ift (cvb hc125) ?_
 refine wp_seq (wrl (wv (.int .i64 ((-1):Int)) z z z (wl_nil (tn (wp_ret (blk_r (then_r ?_)))))))
 replace hst := objO_some hst
 obtain rfl := some_inj hm
 refine post_ret (vs := [I6 ((-1):Int)]) results22 (rvs_cons (rv_tmp z) rvs_nil) ?_
 exact ⟨z, hst.keep1⟩
}
 {
 replace hm := bif_f hc125 hm
 refine wp_iff (cvb hc125) ?_
 refine wp_seq (wrl (wv (.int .i64 a1) z z z (wv (Pt b110 0) z z z ?_)))
 replace hst := objO_some hst
 obtain ⟨t126, ht127, hm⟩ := bind_some hm
 refine wc call19 [Pt b110 0] z z z ?_
 refine (config_Plan_Rules_ref hst.to1 ht127).mono ?_
 rintro _ w128 ⟨rfl, hst⟩
 refine ⟨_, z, ?_⟩
 replace hst := hst.of1
 replace hst := objO_get hst
 refine wv (.bool (a1 == t126)) z z z (wv (.bool (a1 == t126)) z z z (wl_nil (tn ?_)))
 refine bsplit (a1 == t126) (fun hc131 => ?_) (fun hc131 => ?_)
 {
 replace hm := bif_t hc131 hm
 refine wp_ift (cvb hc131) ?_
 refine wp_seq (wrl (wv (Pt b110 0) z z z ?_))
 obtain ⟨b132, v133, v136, v139, ⟨e141, f135, f138⟩, hst'⟩ := at_config_Plan_open hst
 clear hst
 have e141 := ptr_inj e141
 subst e141
 have hst := hst'
 clear hst'
 refine wv (Pt b110 0) z z z (wv (Pt b110 9) z z (x_field z underlying64 z sizeOf60 z) (wv (v139) z z (x_load z isAgg60 (hst.bc0 z)) ?_))
 replace hst := hst.pull1
 obtain ⟨t142, ht143, hm⟩ := bind_some hm
 refine wc call41 [v139] z z z ?_
 refine (label_Lattice_Bottom_ref hst.to1 ht143).mono ?_
 rintro _ w144 ⟨rfl, hst⟩
 refine ⟨_, z, ?_⟩
 replace hst := hst.of1
 refine wv (.int .i64 t142) z z z (wl_nil (tn (wp_ret (blk_r (then_r ?_)))))
 replace hst := hst.pull1
 replace hst := at_config_Plan_close (pv := Pt b110 0) (x := o0) hst ⟨z, f135, f138⟩
 replace hst := objO_some hst
 obtain rfl := some_inj hm
 refine post_ret (vs := [I6 t142]) results22 (rvs_cons (rv_tmp z) rvs_nil) ?_
 exact ⟨z, hst.keep1⟩
}
 {
 replace hm := bif_f hc131 hm
 refine wp_iff (cvb hc131) ?_
 refine wp_skip (blk_n (tn (wp_seq (wrl ?_))))
 refine wv (.int .i64 a1) z z z (wv (Pt b110 0) z z z ?_)
 replace hst := objO_some hst
 obtain ⟨t147, ht148, hm⟩ := bind_some hm
 refine wc call17 [Pt b110 0] z z z ?_
 refine (config_Plan_Shards_ref hst.to1 ht148).mono ?_
 rintro _ w149 ⟨rfl, hst⟩
 refine ⟨_, z, ?_⟩
 replace hst := hst.of1
 replace hst := objO_get hst
 obtain ⟨hg152, hm⟩ := gd_some hm
 refine wv (.int .i64 (i64.wrap (Int.tdiv a1 t147))) z z (x_quo (not_t hg152) z z) (wv (.int .i64 (i64.wrap (Int.tdiv a1 t147))) z z z (wl_nil (tn (wp_ret ?_))))
 replace hst := objO_some hst
 obtain rfl := some_inj hm
 refine post_ret (vs := [I6 (i64.wrap (Int.tdiv a1 t147))]) results22 (rvs_cons (rv_tmp z) rvs_nil) ?_
 exact ⟨z, hst.keep1⟩
}
}
}
}
}

theorem law04_awake_ref {w0 w : World} {I : HL} {R : SP}   (hst : St w0 w I [] R) {r : (Bool)} (hm : law04_awake = some r) :
  Calls prog 9 #[] w fun e w' => ∃ (I' : HL), e = .returned (.bool r) ∧ I.le I' ∧ St w0 w' I' [] R := by {
 unfold law04_awake at hm
 refine calls_start (args := []) func9 z ntmps9 (Nat.le_of_ble_eq_true z) ?_
 have hI0 := HL.le.refl I
 refine wp_seq (wrl (wv (.bool false) z z z (wl_nil (tn (wp_seq (wrl ?_))))))
 obtain ⟨t70, ht71, hm⟩ := bind_some hm
 refine wc call13 [Zb] z z z ?_
 refine (ref04_Small_ref hst.to0 ht71).mono ?_
 rintro _ w72 ⟨v75, v77, rfl, hst⟩
 refine ⟨_, z, ?_⟩
 replace hst := hst.of2
 obtain ⟨b81, w82, ew83, eb84, hst⟩ := hst.box [Zs, Zi, Zs, Zi, Zi, Zi, Zi, Zi, Zi] 28
 refine wl_run (v := Pt b81 0) (w' := w82) z z (x_al (by kernel_rfl) ew83 eb84) ?_
 obtain ⟨w86, hr87, hst⟩ := hst.bx [v75, I6 t70.Nodes, v77, I6 t70.Frame, I6 t70.Depth, I6 t70.Quota, I6 t70.Wide, I6 t70.Beat, I6 t70.Elect] sizeOf28 z (oC (one_of_sliceV hst.sv1) (oC z (oC (one_of_sliceV hst.sv2) (oC z (oC z (oC z (oC z (oC z (oC z oN))))))))) (by kernel_rfl)
 refine wl_unit z z (x_unit hr87) ?_
 refine wl_nil (tn (wp_seq (wrl ?_)))
 obtain ⟨b88, w89, ew90, eb91, hst⟩ := hst.lits (E := tyF64) (xs := [(0:Nat)]) [[Zf]] 36 1 z (Reps.cons z Reps.nil)
 refine wl_run (v := (.slice (some ⟨b88, 0, none⟩) 1 1)) (w' := w89) z z (x_als (by kernel_rfl) ew90 eb91) ?_
 refine wv (Pt b81 2) z z (x_field z underlying28 z sizeOf26 z) ?_
 replace hst := hst.pull1
 obtain ⟨w93, hr94, hst⟩ := hst.by_ [v75, I6 t70.Nodes, (.slice (some ⟨b88, 0, none⟩) 1 1), I6 t70.Frame, I6 t70.Depth, I6 t70.Quota, I6 t70.Wide, I6 t70.Beat, I6 t70.Elect] 2 ((.slice (some ⟨b88, 0, none⟩) 1 1)) sizeOf26 z (oC (one_of_sliceV hst.sv1) oN) (by kernel_rfl)
 refine wl_unit z z (x_unit hr94) ?_
 refine wl_nil (tn (wp_seq (wrl (wv (.agg #[v75, I6 t70.Nodes, (.slice (some ⟨b88, 0, none⟩) 1 1), I6 t70.Frame, I6 t70.Depth, I6 t70.Quota, I6 t70.Wide, I6 t70.Beat, I6 t70.Elect]) z z (x_loadN (cs := [v75, I6 t70.Nodes, (.slice (some ⟨b88, 0, none⟩) 1 1), I6 t70.Frame, I6 t70.Depth, I6 t70.Quota, I6 t70.Wide, I6 t70.Beat, I6 t70.Elect]) z isAgg28 sizeOf28 (hst.bcs0 0 z)) ?_))))
 replace hst := hst.pull2
 obtain ⟨I95, hI96, f97, hst⟩ := hst.own_fix
 replace hI0 := hI0.trans hI96
 replace hst := hst.pull1
 obtain ⟨I98, hI99, f100, hst⟩ := hst.own_fix
 replace f97 := f97.mono (ro_le hI99)
 replace hI0 := hI0.trans hI99
 obtain ⟨t101, ht102, hm⟩ := bind_some hm
 refine wc call11 [.agg #[v75, I6 t70.Nodes, (.slice (some ⟨b88, 0, none⟩) 1 1), I6 t70.Frame, I6 t70.Depth, I6 t70.Quota, I6 t70.Wide, I6 t70.Beat, I6 t70.Elect]] z z z ?_
 refine (config_New_ref (a0 := ({ Up := t70.Up, Nodes := t70.Nodes, Cuts := [(0:Nat)], Frame := t70.Frame, Depth := t70.Depth, Quota := t70.Quota, Wide := t70.Wide, Beat := t70.Beat, Elect := t70.Elect } : api_Config)) f97 f100 hst.to0 ht102).mono ?_
 rintro _ w103 ⟨I104, v106, rfl, hI105, hst⟩
 refine ⟨_, z, ?_⟩
 replace hst := hst.of1
 replace f97 := f97.mono (ro_le hI105)
 replace f100 := f100.mono (ro_le hI105)
 replace hI0 := hI0.trans hI105
 refine wv (.tuple #[v106, I6 t101.2]) z z z (wv (v106) z z z (wv (.int .i64 t101.2) z z z (wv (v106) z z z (wv (.int .i64 t101.2) z z z (wl_nil (tn (wp_seq (wrl (wv (.int .i64 t101.2) z z z (wv (.bool (t101.2 == (0:Int))) z z z (wv (.bool (t101.2 == (0:Int))) z z z ?_)))))))))))
 refine bsplit (t101.2 == (0:Int)) (fun hc108 => ?_) (fun hc108 => ?_)
 {
 replace hm := bif_t hc108 hm
 refine wv (v106) ((wanted_eq z z z (cvb hc108)).trans z) z z ?_
 obtain ⟨t109, ht110, hm⟩ := bind_some hm
 refine wl_call ((wanted_eq z z z (cvb hc108)).trans z) z (x_call call18 z (vs := [v106]) z) ?_
 refine (config_Plan_Lanes_ref hst.to1 ht110).mono ?_
 rintro _ w111 ⟨rfl, hst⟩
 refine ⟨_, z, ?_⟩
 replace hst := hst.of1
 refine wv (.bool (t109 == (5:Int))) ((wanted_eq z z z (cvb hc108)).trans z) z z (wv (.bool (t109 == (5:Int))) z z (x_pick_t hc108 z z) (wv (.bool (t109 == (5:Int))) z z z ?_))
 refine bsplit (t109 == (5:Int)) (fun hc114 => ?_) (fun hc114 => ?_)
 {
 replace hm := bif_t hc114 hm
 refine wv (v106) ((wanted_eq z z z (cvb hc114)).trans z) z z ?_
 obtain ⟨t115, ht116, hm⟩ := bind_some hm
 refine wl_call ((wanted_eq z z z (cvb hc114)).trans z) z (x_call call24 z (vs := [v106, I6 (1:Int), I6 (1:Int)]) z) ?_
 refine (config_Plan_Lane_ref hst.to1 ht116).mono ?_
 rintro _ w117 ⟨rfl, hst⟩
 refine ⟨_, z, ?_⟩
 replace hst := hst.of1
 refine wv (.bool (t115 == (3:Int))) ((wanted_eq z z z (cvb hc114)).trans z) z z (wv (.bool (t115 == (3:Int))) z z (x_pick_t hc114 z z) (wv (.bool (t115 == (3:Int))) z z z ?_))
 refine bsplit (t115 == (3:Int)) (fun hc120 => ?_) (fun hc120 => ?_)
 {
 replace hm := bif_t hc120 hm
 refine wv (v106) ((wanted_eq z z z (cvb hc120)).trans z) z z ?_
 obtain ⟨t121, ht122, hm⟩ := bind_some hm
 refine wl_call ((wanted_eq z z z (cvb hc120)).trans z) z (x_call call19 z (vs := [v106]) z) ?_
 refine (config_Plan_Rules_ref hst.to1 ht122).mono ?_
 rintro _ w123 ⟨rfl, hst⟩
 refine ⟨_, z, ?_⟩
 replace hst := hst.of1
 refine wv (.bool (t121 == (4:Int))) ((wanted_eq z z z (cvb hc120)).trans z) z z (wv (.bool (t121 == (4:Int))) z z (x_pick_t hc120 z z) (wv (.bool (t121 == (4:Int))) z z z ?_))
 refine bsplit (t121 == (4:Int)) (fun hc126 => ?_) (fun hc126 => ?_)
 {
 replace hm := bif_t hc126 hm
 refine wv (v106) ((wanted_eq z z z (cvb hc126)).trans z) z z ?_
 obtain ⟨t127, ht128, hm⟩ := bind_some hm
 refine wl_call ((wanted_eq z z z (cvb hc126)).trans z) z (x_call call22 z (vs := [v106, I6 (2:Int)]) z) ?_
 refine (config_Plan_Label_ref hst.to1 ht128).mono ?_
 rintro _ w129 ⟨rfl, hst⟩
 refine ⟨_, z, ?_⟩
 replace hst := hst.of1
 refine wv (.bool (t127 == (1:Int))) ((wanted_eq z z z (cvb hc126)).trans z) z z (wv (.bool (t127 == (1:Int))) z z (x_pick_t hc126 z z) (wv (.bool (t127 == (1:Int))) z z z (wl_nil (tn (wp_ret ?_)))))
 obtain rfl := some_inj hm
 refine post_ret (vs := [.bool (t127 == (1:Int))]) results9 (rvs_cons (rv_tmp z) rvs_nil) ?_
 exact ⟨_, z, hI0, hst.keep0⟩
}
 {
 replace hm := bif_f hc126 hm
 refine wo hc126 z z z z z z (wo hc126 z z z z z z (wo hc126 z z z z z z (wv (.bool false) z z (x_pick_f hc126 z z) (wv (.bool false) z z z (wl_nil (tn (wp_ret ?_)))))))
 obtain rfl := some_inj hm
 refine post_ret (vs := [.bool false]) results9 (rvs_cons (rv_tmp z) rvs_nil) ?_
 exact ⟨_, z, hI0, hst.keep0⟩
}
}
 {
 replace hm := bif_f hc120 hm
 refine wo hc120 z z z z z z (wo hc120 z z z z z z (wo hc120 z z z z z z (wv (.bool false) z z (x_pick_f hc120 z z) (wv (.bool false) z z z (wz z z z z z z (wz z z z z z z (wz z z z z z z (wv (.bool false) z z (x_pick_f z z z) (wv (.bool false) z z z (wl_nil (tn (wp_ret ?_))))))))))))
 obtain rfl := some_inj hm
 refine post_ret (vs := [.bool false]) results9 (rvs_cons (rv_tmp z) rvs_nil) ?_
 exact ⟨_, z, hI0, hst.keep0⟩
}
}
 {
 replace hm := bif_f hc114 hm
 refine wo hc114 z z z z z z (wo hc114 z z z z z z (wo hc114 z z z z z z (wv (.bool false) z z (x_pick_f hc114 z z) (wv (.bool false) z z z (wz z z z z z z (wz z z z z z z (wz z z z z z z (wv (.bool false) z z (x_pick_f z z z) (wv (.bool false) z z z (wz z z z z z z (wz z z z z z z (wz z z z z z z ?_))))))))))))
 refine wv (.bool false) z z (x_pick_f z z z) (wv (.bool false) z z z (wl_nil (tn (wp_ret ?_))))
 obtain rfl := some_inj hm
 refine post_ret (vs := [.bool false]) results9 (rvs_cons (rv_tmp z) rvs_nil) ?_
 exact ⟨_, z, hI0, hst.keep0⟩
}
}
 {
 replace hm := bif_f hc108 hm
 refine wo hc108 z z z z z z (wo hc108 z z z z z z (wo hc108 z z z z z z (wv (.bool false) z z (x_pick_f hc108 z z) (wv (.bool false) z z z (wz z z z z z z (wz z z z z z z (wz z z z z z z (wv (.bool false) z z (x_pick_f z z z) (wv (.bool false) z z z (wz z z z z z z (wz z z z z z z (wz z z z z z z ?_))))))))))))
 refine wv (.bool false) z z (x_pick_f z z z) (wv (.bool false) z z z (wz z z z z z z (wz z z z z z z (wz z z z z z z (wv (.bool false) z z (x_pick_f z z z) (wv (.bool false) z z z (wl_nil (tn (wp_ret ?_)))))))))
 obtain rfl := some_inj hm
 refine post_ret (vs := [.bool false]) results9 (rvs_cons (rv_tmp z) rvs_nil) ?_
 exact ⟨_, z, hI0, hst.keep0⟩
}
}

theorem math_Signbit_ref {w0 w : World} {I : HL} {R : SP} {a0 : Nat}  (hst : St w0 w I [] R) {r : (Bool)} (hm : math_Signbit a0 = some r) :
  Calls prog 37 #[F6 a0] w fun e w' => e = .returned (.bool r) ∧ St w0 w' I [] R := by {
 unfold math_Signbit at hm
 refine calls_start (args := [F6 a0]) func37 z ntmps37 (Nat.le_of_ble_eq_true z) ?_
 refine wp_seq (wrl (wv (.bool false) z z z (wl_nil (tn (wp_seq (wrl (wv (.float .f64 a0) z z z (wv (.int .u64 (Int.ofNat a0)) z z (by kernel_rfl) (wv (.int .i64 (i64.wrap (Int.ofNat a0))) z z (by kernel_rfl) (wv (.bool (decide ((i64.wrap (Int.ofNat a0)) < (0:Int)))) z z z (wv (.bool (decide ((i64.wrap (Int.ofNat a0)) < (0:Int)))) z z z (wl_nil (tn (wp_ret ?_))))))))))))))
 obtain rfl := some_inj hm
 refine post_ret (vs := [.bool (decide ((i64.wrap (Int.ofNat a0)) < (0:Int)))]) results37 (rvs_cons (rv_tmp z) rvs_nil) ?_
 exact ⟨z, hst.keep0⟩
}

theorem ref01_Ahead_ref {w0 w : World} {I : HL} {R : SP} {a0 : Nat} {a1 : Nat}  (hst : St w0 w I [] R) {r : (Bool)} (hm : ref01_Ahead a0 a1 = some r) :
  Calls prog 14 #[F6 a0, F6 a1] w fun e w' => e = .returned (.bool r) ∧ St w0 w' I [] R := by {
 unfold ref01_Ahead at hm
 refine calls_start (args := [F6 a0, F6 a1]) func14 z ntmps14 (Nat.le_of_ble_eq_true z) ?_
 refine wp_seq (wrl (wv (.bool false) z z z (wl_nil (tn (wp_seq (wp_seq (wrl (wv (.float .f64 a0) z z z (wv (.float .f64 a0) z z z (wv (.bool (fNe a0 a0)) z z z (wl_nil (tn ?_))))))))))))
 refine bsplit (fNe a0 a0) (fun hc70 => ?_) (fun hc70 => ?_)
 {
 replace hm := bif_t hc70 hm
 refine wp_ift (cvb hc70) ?_
 refine wp_seq (wrl (wv (.bool false) z z z (wl_nil (tn (wp_ret (then_r ?_))))))
 obtain rfl := some_inj hm
 refine post_ret (vs := [.bool false]) results14 (rvs_cons (rv_tmp z) rvs_nil) ?_
 exact ⟨z, hst.keep0⟩
}
 {
 replace hm := bif_f hc70 hm
 refine wp_iff (cvb hc70) ?_
 refine wp_skip (tn (wp_seq (wp_seq (wrl ?_))))
 refine wv (.float .f64 a1) z z z (wv (.float .f64 a1) z z z (wv (.bool (fNe a1 a1)) z z z (wl_nil (tn ?_))))
 refine bsplit (fNe a1 a1) (fun hc71 => ?_) (fun hc71 => ?_)
 {
 replace hm := bif_t hc71 hm
 refine wp_ift (cvb hc71) ?_
 refine wp_seq (wrl (wv (.bool true) z z z (wl_nil (tn (wp_ret (then_r ?_))))))
 obtain rfl := some_inj hm
 refine post_ret (vs := [.bool true]) results14 (rvs_cons (rv_tmp z) rvs_nil) ?_
 exact ⟨z, hst.keep0⟩
}
 {
 replace hm := bif_f hc71 hm
 refine wp_iff (cvb hc71) ?_
 refine wp_skip (tn ?_)
 obtain ⟨y87, hm, hx88⟩ := joinO_some hm
 refine wp_cut (fun a w => ∃ (σ85 : Nat → Value), (ref01_Ahead_j0 a0 a1) () = some r ∧ a = Fr 27 (upd (upd σ85 0 (.float .f64 a0)) 1 (.float .f64 a1)) ∧ St w0 w I [] R) ?_ ?_
 {
 refine wp_seq (wrl (wv (.float .f64 a0) z z z (wv (.bool (fEq a0 (0:Nat))) z z z (wv (.bool (fEq a0 (0:Nat))) z z z ?_))))
 refine bsplit (fEq a0 (0:Nat)) (fun hc72 => ?_) (fun hc72 => ?_)
 {
 replace hm := bif_t hc72 hm
 refine wv (.float .f64 a1) ((wanted_eq z z z (cvb hc72)).trans z) z z (wv (.bool (fEq a1 (0:Nat))) ((wanted_eq z z z (cvb hc72)).trans z) z z (wv (.bool (fEq a1 (0:Nat))) z z (x_pick_t hc72 z z) (wl_nil (tn ?_))))
 refine bsplit (fEq a1 (0:Nat)) (fun hc73 => ?_) (fun hc73 => ?_)
 {
 replace hm := bif_t hc73 hm
 refine wp_ift (cvb hc73) ?_
 refine wp_seq (wrl (wv (.float .f64 a0) z z z ?_))
 obtain ⟨t74, ht75, hm⟩ := bind_some hm
 refine wc call37 [F6 a0] z z z ?_
 refine (math_Signbit_ref hst.to0 ht75).mono ?_
 rintro _ w76 ⟨rfl, hst⟩
 refine ⟨_, z, ?_⟩
 replace hst := hst.of0
 refine wv (.bool t74) z z z ?_
 refine bsplit t74 (fun hc79 => ?_) (fun hc79 => ?_)
 {
 replace hm := bif_t hc79 hm
 refine wv (.float .f64 a1) ((wanted_eq z z z (cvb hc79)).trans z) z z ?_
 obtain ⟨t80, ht81, hm⟩ := bind_some hm
 refine wl_call ((wanted_eq z z z (cvb hc79)).trans z) z (x_call call37 z (vs := [F6 a1]) z) ?_
 refine (math_Signbit_ref hst.to0 ht81).mono ?_
 rintro _ w82 ⟨rfl, hst⟩
 refine ⟨_, z, ?_⟩
 replace hst := hst.of0
 refine wv (.bool (!t80)) ((wanted_eq z z z (cvb hc79)).trans z) z z (wv (.bool (!t80)) z z (x_pick_t hc79 z z) (wv (.bool (!t80)) z z z (wl_nil (tn (wp_ret (then_r ?_))))))
 replace hm := inr_up hm hx88
 obtain rfl := some_inj hm
 refine post_ret (vs := [.bool (!t80)]) results14 (rvs_cons (rv_tmp z) rvs_nil) ?_
 exact ⟨z, hst.keep0⟩
}
 {
 replace hm := bif_f hc79 hm
 refine wo hc79 z z z z z z (wo hc79 z z z z z z (wo hc79 z z z z z z (wv (.bool false) z z (x_pick_f hc79 z z) (wv (.bool false) z z z (wl_nil (tn (wp_ret (then_r ?_))))))))
 replace hm := inr_up hm hx88
 obtain rfl := some_inj hm
 refine post_ret (vs := [.bool false]) results14 (rvs_cons (rv_tmp z) rvs_nil) ?_
 exact ⟨z, hst.keep0⟩
}
}
 {
 replace hm := bif_f hc73 hm
 refine wp_iff (cvb hc73) ?_
 refine wp_skip (tn ?_)
 replace hst := hst.keep0
 obtain rfl := some_inj hm
 exact ⟨_, hx88, (fu 0 (.float .f64 a0) z (fu 1 (.float .f64 a1) z z)), hst⟩
}
}
 {
 replace hm := bif_f hc72 hm
 refine wo hc72 z z z z z z (wo hc72 z z z z z z (wv (.bool false) z z (x_pick_f hc72 z z) (wl_nil (tn ?_))))
 refine wp_iff z ?_
 refine wp_skip (tn ?_)
 replace hst := hst.keep0
 obtain rfl := some_inj hm
 exact ⟨_, hx88, (fu 0 (.float .f64 a0) z (fu 1 (.float .f64 a1) z z)), hst⟩
}
}
 {
 clear hst
 rintro _ w89 ⟨σ85, hm, rfl, hst⟩
 dsimp only [ref01_Ahead_j0] at hm
 refine wp_seq (wrl (wv (.float .f64 a0) z z z (wv (.float .f64 a1) z z z (wv (.bool (fLt a0 a1)) z z z (wv (.bool (fLt a0 a1)) z z z (wl_nil (tn (wp_ret ?_))))))))
 obtain rfl := some_inj hm
 refine post_ret (vs := [.bool (fLt a0 a1)]) results14 (rvs_cons (rv_tmp z) rvs_nil) ?_
 exact ⟨z, hst.keep0⟩
}
}
}
}

theorem ref01_Rising_ref {w0 w : World} {I : HL} {R : SP} {a0 : (List Nat)} {r0_0 : Value} (f0_0 : Rd tyF64 R I r0_0 a0) (hst : St w0 w I [] R) {r : (Bool)} (hm : ref01_Rising a0 = some r) :
  Calls prog 16 #[r0_0] w fun e w' => e = .returned (.bool r) ∧ St w0 w' I [] R := by {
 unfold ref01_Rising at hm
 refine calls_start (args := [r0_0]) func16 z ntmps16 (Nat.le_of_ble_eq_true z) ?_
 refine wp_seq (wrl (wv (.bool false) z z z (wl_nil (tn (wp_seq (wp_seq (wrl (wv (.int .i64 (1:Int)) z z z (wl_nil (tn (wp_block ?_)))))))))))
 obtain ⟨n148, hm⟩ := loopO_some hm
 refine wp_loop_n (fun n a w => ∃ (z146 : Int) (σ147 : Nat → Value), loopN (ref01_Rising_l0 a0) n z146 = some r ∧ a = Fr 21 (upd (upd σ147 0 (r0_0)) 3 (.int .i64 z146)) ∧ St w0 w I [] R) n148 ⟨(1:Int), _, hm, (fu 0 r0_0 z (fu 3 (.int .i64 (1:Int)) z z)), hst⟩ ?_
 rintro n154 _ w149 ⟨z146, σ147, hm, rfl, hst⟩
 obtain ⟨n151, y152, rfl, hm, hx153⟩ := loopN_some hm
 dsimp only [ref01_Rising_l0] at hm
 refine wp_seq (wp_seq (wrl (wv (.int .i64 z146) z z z (wv (r0_0) z z z (wv (.int .i64 ((a0).length : Int)) z z (x_len z underlying26 (rd_sliceV f0_0)) (wv (.bool (decide (z146 < ((a0).length : Int)))) z z z (wl_nil (tn ?_))))))))
 refine bsplit (decide (z146 < ((a0).length : Int))) (fun hc155 => ?_) (fun hc155 => ?_)
 {
 replace hm := bif_t hc155 hm
 refine wp_ift (cvb hc155) ?_
 refine wp_skip (tn (wp_seq (wp_block (wp_seq ?_))))
 refine wp_region_St hst 11 [0, 1, 2, 3, 4, 5, 6, 7, 8, 9, 10] [0, 0, 2, 7, 15, 0, 0, 96, 224, 511, 1023] [] z (by kernel_rfl) (by kernel_rfl) Try.mixed (by kernel_rfl) ?_
 refine wsr (r0_0) 0 z z z (by kernel_rfl) (fun w hst => z) (wsr (.int .i64 z146) 1 z z z (by kernel_rfl) (fun w hst => z) (wsr (.int .i64 (i64.wrap (z146 - (1:Int)))) 2 z z z (by kernel_rfl) (fun w hst => z) ?_))
 obtain ⟨x156, hx157, hm⟩ := bind_some hm
 obtain ⟨h158, h159, hi160⟩ := geto_some hx157
 refine wsr (.pointer (some (eAddr r0_0 ((i64.wrap (z146 - (1:Int))).toNat * 1 + 0)))) 3 z z z (by kernel_rfl) (fun w hst => x_index z z underlying26 sizeOf36 (rd_sliceV f0_0) h158 h159) (wsr (.float .f64 x156) 4 z z z (by kernel_rfl) (fun w hst => x_load z isAgg36 (rd_load f0_0 (HL.le.refl _) hst hi160 (by rintro _ rfl; rfl))) (wsr (r0_0) 5 z z z (by kernel_rfl) (fun w hst => z) (wsr (.int .i64 z146) 6 z z z (by kernel_rfl) (fun w hst => z) ?_)))
 obtain ⟨x161, hx162, hm⟩ := bind_some hm
 obtain ⟨h163, h164, hi165⟩ := geto_some hx162
 refine wsr (.pointer (some (eAddr r0_0 (z146.toNat * 1 + 0)))) 7 z z z (by kernel_rfl) (fun w hst => x_index z z underlying26 sizeOf36 (rd_sliceV f0_0) h163 h164) (wsr (.float .f64 x161) 8 z z z (by kernel_rfl) (fun w hst => x_load z isAgg36 (rd_load f0_0 (HL.le.refl _) hst hi165 (by rintro _ rfl; rfl))) ?_)
 refine ws_e1 9 (by kernel_rfl) ?_
 refine nxe [10] (by kernel_rfl) z z ?_
 clear hst
 intro w hst
 obtain ⟨t166, ht167, hm⟩ := bind_some hm
 refine wec call14 [F6 x156, F6 x161] z z ?_
 refine (ref01_Ahead_ref hst.to0 ht167).mono ?_
 rintro _ w168 ⟨rfl, hst⟩
 refine ⟨_, z, ?_⟩
 replace hst := hst.of0
 refine ws_next (pend' := []) hst (by kernel_rfl) pk_nil ?_
 refine wsr (.bool (!t166)) 10 z z z (by kernel_rfl) (fun w hst => z) ?_
 refine ws_nil ?_
 intro w hst
 refine tn ?_
 refine bsplit (!t166) (fun hc171 => ?_) (fun hc171 => ?_)
 {
 replace hm := bif_t hc171 hm
 refine wp_ift (cvb hc171) ?_
 refine wp_seq (wrl (wv (.bool false) z z z (wl_nil (tn (wp_ret (blk_r (then_r (then_r ?_))))))))
 replace hm := inr_up hm hx153
 refine blk_r (then_r ?_)
 obtain rfl := some_inj hm
 refine post_ret (vs := [.bool false]) results16 (rvs_cons (rv_tmp z) rvs_nil) ?_
 exact ⟨z, hst.keep0⟩
}
 {
 replace hm := bif_f hc171 hm
 refine wp_iff (cvb hc171) ?_
 refine wp_skip (blk_n (tn (wrl ?_)))
 refine wv (.int .i64 z146) z z z (wv (.int .i64 (i64.wrap (z146 + (1:Int)))) z z z (wv (.int .i64 (i64.wrap (z146 + (1:Int)))) z z z (wl_nil (tn ?_))))
 replace hst := hst.keep0
 obtain rfl := some_inj hm
 exact ⟨_, Nat.lt_succ_self _, (i64.wrap (z146 + (1:Int))), _, hx153, (fu 0 r0_0 z (fu 3 (.int .i64 (i64.wrap (z146 + (1:Int)))) z z)), hst⟩
}
}
 {
 replace hm := bif_f hc155 hm
 refine wp_iff (cvb hc155) ?_
 refine wp_exit (then_x (then_x ?_))
 replace hm := inr_up hm hx153
 refine blk_x (tn (wp_seq (wrl ?_)))
 refine wv (.bool true) z z z (wl_nil (tn (wp_ret ?_)))
 obtain rfl := some_inj hm
 refine post_ret (vs := [.bool true]) results16 (rvs_cons (rv_tmp z) rvs_nil) ?_
 exact ⟨z, hst.keep0⟩
}
}

theorem ref03_Leq_ref {w0 w : World} {I : HL} {R : SP} {a0 : (List Int)} {r0_0 : Value} {a1 : Int} {a2 : Int} (f0_0 : Rd (tyInt .u64) R I r0_0 a0) (hst : St w0 w I [] R) {r : (Bool)} (hm : ref03_Leq a0 a1 a2 = some r) :
  Calls prog 42 #[r0_0, I6 a1, I6 a2] w fun e w' => e = .returned (.bool r) ∧ St w0 w' I [] R := by {
 unfold ref03_Leq at hm
 refine calls_start (args := [r0_0, I6 a1, I6 a2]) func42 z ntmps42 (Nat.le_of_ble_eq_true z) ?_
 refine wp_seq (wrl (wv (.bool false) z z z (wl_nil (tn (wp_seq (wrl (wv (.int .i64 a1) z z z (wv (.bool (decide (a1 ≥ (0:Int)))) z z z (wv (.bool (decide (a1 ≥ (0:Int)))) z z z ?_)))))))))
 refine bsplit (decide (a1 ≥ (0:Int))) (fun hc100 => ?_) (fun hc100 => ?_)
 {
 replace hm := bif_t hc100 hm
 refine wv (.int .i64 a2) ((wanted_eq z z z (cvb hc100)).trans z) z z (wv (.bool (decide (a2 ≥ (0:Int)))) ((wanted_eq z z z (cvb hc100)).trans z) z z (wv (.bool (decide (a2 ≥ (0:Int)))) z z (x_pick_t hc100 z z) (wv (.bool (decide (a2 ≥ (0:Int)))) z z z ?_)))
 refine bsplit (decide (a2 ≥ (0:Int))) (fun hc101 => ?_) (fun hc101 => ?_)
 {
 replace hm := bif_t hc101 hm
 refine wv (.int .i64 a1) ((wanted_eq z z z (cvb hc101)).trans z) z z (wv (r0_0) ((wanted_eq z z z (cvb hc101)).trans z) z z (wv (.int .i64 ((a0).length : Int)) ((wanted_eq z z z (cvb hc101)).trans z) z (x_len z underlying25 (rd_sliceV f0_0)) (wv (.bool (decide (a1 < ((a0).length : Int)))) ((wanted_eq z z z (cvb hc101)).trans z) z z (wv (.bool (decide (a1 < ((a0).length : Int)))) z z (x_pick_t hc101 z z) (wv (.bool (decide (a1 < ((a0).length : Int)))) z z z ?_)))))
 refine bsplit (decide (a1 < ((a0).length : Int))) (fun hc102 => ?_) (fun hc102 => ?_)
 {
 replace hm := bif_t hc102 hm
 refine wv (.int .i64 a2) ((wanted_eq z z z (cvb hc102)).trans z) z z (wv (r0_0) ((wanted_eq z z z (cvb hc102)).trans z) z z (wv (.int .i64 ((a0).length : Int)) ((wanted_eq z z z (cvb hc102)).trans z) z (x_len z underlying25 (rd_sliceV f0_0)) (wv (.bool (decide (a2 < ((a0).length : Int)))) ((wanted_eq z z z (cvb hc102)).trans z) z z (wv (.bool (decide (a2 < ((a0).length : Int)))) z z (x_pick_t hc102 z z) (wv (.bool (decide (a2 < ((a0).length : Int)))) z z z ?_)))))
 refine bsplit (decide (a2 < ((a0).length : Int))) (fun hc103 => ?_) (fun hc103 => ?_)
 {
 replace hm := bif_t hc103 hm
 refine wv (r0_0) ((wanted_eq z z z (cvb hc103)).trans z) z z (wv (.int .i64 a1) ((wanted_eq z z z (cvb hc103)).trans z) z z ?_)
 obtain ⟨x104, hx105, hm⟩ := bind_some hm
 obtain ⟨h106, h107, hi108⟩ := geto_some hx105
 refine wv (.pointer (some (eAddr r0_0 (a1.toNat * 1 + 0)))) ((wanted_eq z z z (cvb hc103)).trans z) z (x_index z z underlying25 sizeOf22 (rd_sliceV f0_0) h106 h107) (wv (.int .u64 x104) ((wanted_eq z z z (cvb hc103)).trans z) z (x_load z isAgg22 (rd_load f0_0 (HL.le.refl _) hst hi108 (by rintro _ rfl; rfl))) (wv (.int .i64 a2) ((wanted_eq z z z (cvb hc103)).trans z) z z ?_))
 obtain ⟨hg109, hm⟩ := gd_some hm
 refine wv (.int .u64 (iShr .u64 x104 a2)) ((wanted_eq z z z (cvb hc103)).trans z) z (x_shr (of_decide_eq_true hg109) z z) (wv (.int .u64 (bAnd .u64 (iShr .u64 x104 a2) (1:Int))) ((wanted_eq z z z (cvb hc103)).trans z) z z (wv (.bool ((bAnd .u64 (iShr .u64 x104 a2) (1:Int)) == (1:Int))) ((wanted_eq z z z (cvb hc103)).trans z) z z (wv (.bool ((bAnd .u64 (iShr .u64 x104 a2) (1:Int)) == (1:Int))) z z (x_pick_t hc103 z z) (wv (.bool ((bAnd .u64 (iShr .u64 x104 a2) (1:Int)) == (1:Int))) z z z (wl_nil (tn (wp_ret ?_)))))))
 obtain rfl := some_inj hm
 refine post_ret (vs := [.bool ((bAnd .u64 (iShr .u64 x104 a2) (1:Int)) == (1:Int))]) results42 (rvs_cons (rv_tmp z) rvs_nil) ?_
 exact ⟨z, hst.keep0⟩
}
 {
 replace hm := bif_f hc103 hm
 refine wo hc103 z z z z z z (wo hc103 z z z z z z (wo hc103 z z z z z z (wo hc103 z z z z z z (wo hc103 z z z z z z (wo hc103 z z z z z z (wo hc103 z z z z z z (wo hc103 z z z z z z (wv (.bool false) z z (x_pick_f hc103 z z) (wv (.bool false) z z z (wl_nil (tn (wp_ret ?_))))))))))))
 obtain rfl := some_inj hm
 refine post_ret (vs := [.bool false]) results42 (rvs_cons (rv_tmp z) rvs_nil) ?_
 exact ⟨z, hst.keep0⟩
}
}
 {
 replace hm := bif_f hc102 hm
 refine wo hc102 z z z z z z (wo hc102 z z z z z z (wo hc102 z z z z z z (wo hc102 z z z z z z (wv (.bool false) z z (x_pick_f hc102 z z) (wv (.bool false) z z z (wz z z z z z z (wz z z z z z z (wz z z z z z z (wz z z z z z z (wz z z z z z z (wz z z z z z z (wz z z z z z z ?_))))))))))))
 refine wz z z z z z z (wv (.bool false) z z (x_pick_f z z z) (wv (.bool false) z z z (wl_nil (tn (wp_ret ?_)))))
 obtain rfl := some_inj hm
 refine post_ret (vs := [.bool false]) results42 (rvs_cons (rv_tmp z) rvs_nil) ?_
 exact ⟨z, hst.keep0⟩
}
}
 {
 replace hm := bif_f hc101 hm
 refine wo hc101 z z z z z z (wo hc101 z z z z z z (wo hc101 z z z z z z (wo hc101 z z z z z z (wv (.bool false) z z (x_pick_f hc101 z z) (wv (.bool false) z z z (wz z z z z z z (wz z z z z z z (wz z z z z z z (wz z z z z z z (wv (.bool false) z z (x_pick_f z z z) (wv (.bool false) z z z (wz z z z z z z ?_))))))))))))
 refine wz z z z z z z (wz z z z z z z (wz z z z z z z (wz z z z z z z (wz z z z z z z (wz z z z z z z (wz z z z z z z (wv (.bool false) z z (x_pick_f z z z) (wv (.bool false) z z z (wl_nil (tn (wp_ret ?_)))))))))))
 obtain rfl := some_inj hm
 refine post_ret (vs := [.bool false]) results42 (rvs_cons (rv_tmp z) rvs_nil) ?_
 exact ⟨z, hst.keep0⟩
}
}
 {
 replace hm := bif_f hc100 hm
 refine wo hc100 z z z z z z (wo hc100 z z z z z z (wv (.bool false) z z (x_pick_f hc100 z z) (wv (.bool false) z z z (wz z z z z z z (wz z z z z z z (wz z z z z z z (wz z z z z z z (wv (.bool false) z z (x_pick_f z z z) (wv (.bool false) z z z (wz z z z z z z (wz z z z z z z (wz z z z z z z ?_))))))))))))
 refine wz z z z z z z (wv (.bool false) z z (x_pick_f z z z) (wv (.bool false) z z z (wz z z z z z z (wz z z z z z z (wz z z z z z z (wz z z z z z z (wz z z z z z z (wz z z z z z z (wz z z z z z z (wz z z z z z z (wv (.bool false) z z (x_pick_f z z z) (wv (.bool false) z z z ?_))))))))))))
 refine wl_nil (tn (wp_ret ?_))
 obtain rfl := some_inj hm
 refine post_ret (vs := [.bool false]) results42 (rvs_cons (rv_tmp z) rvs_nil) ?_
 exact ⟨z, hst.keep0⟩
}
}

theorem ref03_Join_ref {w0 w : World} {I : HL} {R : SP} {a0 : (List Int)} {r0_0 : Value} {a1 : Int} {a2 : Int} (f0_0 : Rd (tyInt .u64) R I r0_0 a0) (hst : St w0 w I [] R) {r : (Int)} (hm : ref03_Join a0 a1 a2 = some r) :
  Calls prog 50 #[r0_0, I6 a1, I6 a2] w fun e w' => e = .returned (.int .i64 r) ∧ St w0 w' I [] R := by {
 unfold ref03_Join at hm
 refine calls_start (args := [r0_0, I6 a1, I6 a2]) func50 z ntmps50 (Nat.le_of_ble_eq_true z) ?_
 refine wp_seq (wrl (wv (.int .i64 (0:Int)) z z z (wl_nil (tn (wp_seq (wp_seq (wrl (wv (.int .i64 (0:Int)) z z z (wl_nil (tn (wp_block ?_)))))))))))
 obtain ⟨n1404, hm⟩ := loopO_some hm
 refine wp_loop_n (fun n a w => ∃ (z1402 : Int) (σ1403 : Nat → Value), loopN (ref03_Join_l0 a0 a1 a2) n z1402 = some r ∧ a = Fr 54 (upd (upd (upd (upd σ1403 0 (r0_0)) 1 (.int .i64 a1)) 2 (.int .i64 a2)) 7 (.int .i64 z1402)) ∧ St w0 w I [] R) n1404 ⟨(0:Int), _, hm, (fu 0 r0_0 z (fu 1 (.int .i64 a1) z (fu 2 (.int .i64 a2) z (fu 7 (.int .i64 (0:Int)) z z)))), hst⟩ ?_
 rintro n1410 _ w1405 ⟨z1402, σ1403, hm, rfl, hst⟩
 obtain ⟨n1407, y1408, rfl, hm, hx1409⟩ := loopN_some hm
 dsimp only [ref03_Join_l0] at hm
 refine wp_seq (wp_seq (wrl (wv (.int .i64 z1402) z z z (wv (r0_0) z z z (wv (.int .i64 ((a0).length : Int)) z z (x_len z underlying25 (rd_sliceV f0_0)) (wv (.bool (decide (z1402 < ((a0).length : Int)))) z z z (wl_nil (tn ?_))))))))
 refine bsplit (decide (z1402 < ((a0).length : Int))) (fun hc1411 => ?_) (fun hc1411 => ?_)
 {
 replace hm := bif_t hc1411 hm
 refine wp_ift (cvb hc1411) ?_
 refine wp_skip (tn (wp_seq (wp_block ?_)))
 obtain ⟨y1426, hm, hx1427⟩ := bind_some hm
 refine wp_cut (fun a w => ∃ (z1423 : Bool) (σ1424 : Nat → Value), (ref03_Join_j1 a0 a1 a2 z1402) z1423 = some y1408 ∧ a = Fr 54 (upd (upd (upd (upd (upd σ1424 0 (r0_0)) 1 (.int .i64 a1)) 2 (.int .i64 a2)) 7 (.int .i64 z1402)) 8 (.bool z1423)) ∧ St w0 w I [] R) ?_ ?_
 {
 refine wrl (wv (r0_0) z z z (wv (.int .i64 a1) z z z (wv (.int .i64 z1402) z z z ?_)))
 obtain ⟨t1412, ht1413, hm⟩ := bind_some hm
 refine wc call42 [r0_0, I6 a1, I6 z1402] z z z ?_
 refine (ref03_Leq_ref (f0_0.mono (rd_weak _)) hst.to0 ht1413).mono ?_
 rintro _ w1414 ⟨rfl, hst⟩
 refine ⟨_, z, ?_⟩
 replace hst := hst.of0
 refine wv (.bool t1412) z z z ?_
 refine bsplit t1412 (fun hc1417 => ?_) (fun hc1417 => ?_)
 {
 replace hm := bif_t hc1417 hm
 refine wv (r0_0) ((wanted_eq z z z (cvb hc1417)).trans z) z z (wv (.int .i64 a2) ((wanted_eq z z z (cvb hc1417)).trans z) z z (wv (.int .i64 z1402) ((wanted_eq z z z (cvb hc1417)).trans z) z z ?_))
 obtain ⟨t1418, ht1419, hm⟩ := bind_some hm
 refine wl_call ((wanted_eq z z z (cvb hc1417)).trans z) z (x_call call42 z (vs := [r0_0, I6 a2, I6 z1402]) z) ?_
 refine (ref03_Leq_ref (f0_0.mono (rd_weak _)) hst.to0 ht1419).mono ?_
 rintro _ w1420 ⟨rfl, hst⟩
 refine ⟨_, z, ?_⟩
 replace hst := hst.of0
 refine wv (.bool t1418) z z (x_pick_t hc1417 z z) (wv (.bool t1418) z z z (wl_nil (tn ?_)))
 replace hst := hst.keep0
 obtain rfl := some_inj hm
 exact ⟨t1418, _, hx1427, (fu 0 r0_0 z (fu 1 (.int .i64 a1) z (fu 2 (.int .i64 a2) z (fu 7 (.int .i64 z1402) z (fu 8 (.bool t1418) z z))))), hst⟩
}
 {
 replace hm := bif_f hc1417 hm
 refine wo hc1417 z z z z z z (wo hc1417 z z z z z z (wo hc1417 z z z z z z (wo hc1417 z z z z z z (wv (.bool false) z z (x_pick_f hc1417 z z) (wv (.bool false) z z z (wl_nil (tn ?_)))))))
 replace hst := hst.keep0
 obtain rfl := some_inj hm
 exact ⟨false, _, hx1427, (fu 0 r0_0 z (fu 1 (.int .i64 a1) z (fu 2 (.int .i64 a2) z (fu 7 (.int .i64 z1402) z (fu 8 (.bool false) z z))))), hst⟩
}
}
 {
 clear hst
 rintro _ w1428 ⟨z1423, σ1424, hm, rfl, hst⟩
 dsimp only [ref03_Join_j1] at hm
 refine wp_seq (wp_seq (wrl (wv (.int .i64 (0:Int)) z z z (wl_nil (tn (wp_block ?_))))))
 obtain ⟨n1474, hm⟩ := loopO_some hm
 refine wp_loop_n (fun n a w => ∃ (z1471 : Bool) (z1472 : Int) (σ1473 : Nat → Value), loopN (ref03_Join_l2 a0 a1 a2 z1402) n (z1471, z1472) = some y1408 ∧ a = Fr 54 (upd (upd (upd (upd (upd (upd σ1473 0 (r0_0)) 1 (.int .i64 a1)) 2 (.int .i64 a2)) 7 (.int .i64 z1402)) 8 (.bool z1471)) 9 (.int .i64 z1472)) ∧ St w0 w I [] R) n1474 ⟨z1423, (0:Int), _, hm, (fu 0 r0_0 z (fu 1 (.int .i64 a1) z (fu 2 (.int .i64 a2) z (fu 7 (.int .i64 z1402) z (fu 8 (.bool z1423) z (fu 9 (.int .i64 (0:Int)) z z)))))), hst⟩ ?_
 rintro n1480 _ w1475 ⟨z1471, z1472, σ1473, hm, rfl, hst⟩
 obtain ⟨n1477, y1478, rfl, hm, hx1479⟩ := loopN_some hm
 dsimp only [ref03_Join_l2] at hm
 refine wp_seq (wp_seq (wrl (wv (.int .i64 z1472) z z z (wv (r0_0) z z z (wv (.int .i64 ((a0).length : Int)) z z (x_len z underlying25 (rd_sliceV f0_0)) (wv (.bool (decide (z1472 < ((a0).length : Int)))) z z z (wv (.bool (decide (z1472 < ((a0).length : Int)))) z z z ?_)))))))
 refine bsplit (decide (z1472 < ((a0).length : Int))) (fun hc1481 => ?_) (fun hc1481 => ?_)
 {
 replace hm := bif_t hc1481 hm
 refine wv (.bool z1471) ((wanted_eq z z z (cvb hc1481)).trans z) z z (wv (.bool z1471) z z (x_pick_t hc1481 z z) (wl_nil (tn ?_)))
 refine bsplit z1471 (fun hc1482 => ?_) (fun hc1482 => ?_)
 {
 replace hm := bif_t hc1482 hm
 refine wp_ift (cvb hc1482) ?_
 refine wp_skip (tn (wp_seq (wp_block (wp_seq (wrl ?_)))))
 refine wv (r0_0) z z z (wv (.int .i64 a1) z z z (wv (.int .i64 z1472) z z z ?_))
 obtain ⟨t1483, ht1484, hm⟩ := bind_some hm
 refine wc call42 [r0_0, I6 a1, I6 z1472] z z z ?_
 refine (ref03_Leq_ref (f0_0.mono (rd_weak _)) hst.to0 ht1484).mono ?_
 rintro _ w1485 ⟨rfl, hst⟩
 refine ⟨_, z, ?_⟩
 replace hst := hst.of0
 refine wv (.bool t1483) z z z ?_
 refine bsplit t1483 (fun hc1488 => ?_) (fun hc1488 => ?_)
 {
 replace hm := bif_t hc1488 hm
 refine wv (r0_0) ((wanted_eq z z z (cvb hc1488)).trans z) z z (wv (.int .i64 a2) ((wanted_eq z z z (cvb hc1488)).trans z) z z (wv (.int .i64 z1472) ((wanted_eq z z z (cvb hc1488)).trans z) z z ?_))
 obtain ⟨t1489, ht1490, hm⟩ := bind_some hm
 refine wl_call ((wanted_eq z z z (cvb hc1488)).trans z) z (x_call call42 z (vs := [r0_0, I6 a2, I6 z1472]) z) ?_
 refine (ref03_Leq_ref (f0_0.mono (rd_weak _)) hst.to0 ht1490).mono ?_
 rintro _ w1491 ⟨rfl, hst⟩
 refine ⟨_, z, ?_⟩
 replace hst := hst.of0
 refine wv (.bool t1489) z z (x_pick_t hc1488 z z) (wv (.bool t1489) z z z ?_)
 refine bsplit t1489 (fun hc1494 => ?_) (fun hc1494 => ?_)
 {
 replace hm := bif_t hc1494 hm
 refine wv (r0_0) ((wanted_eq z z z (cvb hc1494)).trans z) z z (wv (.int .i64 z1402) ((wanted_eq z z z (cvb hc1494)).trans z) z z (wv (.int .i64 z1472) ((wanted_eq z z z (cvb hc1494)).trans z) z z ?_))
 obtain ⟨t1495, ht1496, hm⟩ := bind_some hm
 refine wl_call ((wanted_eq z z z (cvb hc1494)).trans z) z (x_call call42 z (vs := [r0_0, I6 z1402, I6 z1472]) z) ?_
 refine (ref03_Leq_ref (f0_0.mono (rd_weak _)) hst.to0 ht1496).mono ?_
 rintro _ w1497 ⟨rfl, hst⟩
 refine ⟨_, z, ?_⟩
 replace hst := hst.of0
 refine wv (.bool (!t1495)) ((wanted_eq z z z (cvb hc1494)).trans z) z z (wv (.bool (!t1495)) z z (x_pick_t hc1494 z z) (wl_nil (tn ?_)))
 refine bsplit (!t1495) (fun hc1500 => ?_) (fun hc1500 => ?_)
 {
 replace hm := bif_t hc1500 hm
 refine wp_ift (cvb hc1500) ?_
 refine wrl (wv (.bool false) z z z (wl_nil (blk_n (tn (wrl (wv (.int .i64 z1472) z z z (wv (.int .i64 (i64.wrap (z1472 + (1:Int)))) z z z (wv (.int .i64 (i64.wrap (z1472 + (1:Int)))) z z z (wl_nil (tn ?_))))))))))
 replace hst := hst.keep0
 obtain rfl := some_inj hm
 exact ⟨_, Nat.lt_succ_self _, false, (i64.wrap (z1472 + (1:Int))), _, hx1479, (fu 0 r0_0 z (fu 1 (.int .i64 a1) z (fu 2 (.int .i64 a2) z (fu 7 (.int .i64 z1402) z (fu 8 (.bool false) z (fu 9 (.int .i64 (i64.wrap (z1472 + (1:Int)))) z z)))))), hst⟩
}
 {
 replace hm := bif_f hc1500 hm
 refine wp_iff (cvb hc1500) ?_
 refine wp_skip (blk_n (tn (wrl ?_)))
 refine wv (.int .i64 z1472) z z z (wv (.int .i64 (i64.wrap (z1472 + (1:Int)))) z z z (wv (.int .i64 (i64.wrap (z1472 + (1:Int)))) z z z (wl_nil (tn ?_))))
 replace hst := hst.keep0
 obtain rfl := some_inj hm
 exact ⟨_, Nat.lt_succ_self _, z1471, (i64.wrap (z1472 + (1:Int))), _, hx1479, (fu 0 r0_0 z (fu 1 (.int .i64 a1) z (fu 2 (.int .i64 a2) z (fu 7 (.int .i64 z1402) z (fu 8 (.bool z1471) z (fu 9 (.int .i64 (i64.wrap (z1472 + (1:Int)))) z z)))))), hst⟩
}
}
 {
 replace hm := bif_f hc1494 hm
 refine wo hc1494 z z z z z z (wo hc1494 z z z z z z (wo hc1494 z z z z z z (wo hc1494 z z z z z z (wo hc1494 z z z z z z (wv (.bool false) z z (x_pick_f hc1494 z z) (wl_nil (tn ?_)))))))
 refine wp_iff z ?_
 refine wp_skip (blk_n (tn (wrl ?_)))
 refine wv (.int .i64 z1472) z z z (wv (.int .i64 (i64.wrap (z1472 + (1:Int)))) z z z (wv (.int .i64 (i64.wrap (z1472 + (1:Int)))) z z z (wl_nil (tn ?_))))
 replace hst := hst.keep0
 obtain rfl := some_inj hm
 exact ⟨_, Nat.lt_succ_self _, z1471, (i64.wrap (z1472 + (1:Int))), _, hx1479, (fu 0 r0_0 z (fu 1 (.int .i64 a1) z (fu 2 (.int .i64 a2) z (fu 7 (.int .i64 z1402) z (fu 8 (.bool z1471) z (fu 9 (.int .i64 (i64.wrap (z1472 + (1:Int)))) z z)))))), hst⟩
}
}
 {
 replace hm := bif_f hc1488 hm
 refine wo hc1488 z z z z z z (wo hc1488 z z z z z z (wo hc1488 z z z z z z (wo hc1488 z z z z z z (wv (.bool false) z z (x_pick_f hc1488 z z) (wv (.bool false) z z z (wz z z z z z z (wz z z z z z z (wz z z z z z z (wz z z z z z z (wz z z z z z z (wv (.bool false) z z (x_pick_f z z z) (wl_nil (tn ?_)))))))))))))
 refine wp_iff z ?_
 refine wp_skip (blk_n (tn (wrl ?_)))
 refine wv (.int .i64 z1472) z z z (wv (.int .i64 (i64.wrap (z1472 + (1:Int)))) z z z (wv (.int .i64 (i64.wrap (z1472 + (1:Int)))) z z z (wl_nil (tn ?_))))
 replace hst := hst.keep0
 obtain rfl := some_inj hm
 exact ⟨_, Nat.lt_succ_self _, z1471, (i64.wrap (z1472 + (1:Int))), _, hx1479, (fu 0 r0_0 z (fu 1 (.int .i64 a1) z (fu 2 (.int .i64 a2) z (fu 7 (.int .i64 z1402) z (fu 8 (.bool z1471) z (fu 9 (.int .i64 (i64.wrap (z1472 + (1:Int)))) z z)))))), hst⟩
}
}
 {
 replace hm := bif_f hc1482 hm
 refine wp_iff (cvb hc1482) ?_
 refine wp_exit (then_x (then_x ?_))
 replace hm := inr_up hm hx1479
 refine blk_x (tn (wp_seq (wrl ?_)))
 refine wv (.bool z1471) z z z (wl_nil (tn ?_))
 refine wp_iff (cvb hc1482) ?_
 refine wp_skip (blk_n (tn (wrl ?_)))
 refine wv (.int .i64 z1402) z z z (wv (.int .i64 (i64.wrap (z1402 + (1:Int)))) z z z (wv (.int .i64 (i64.wrap (z1402 + (1:Int)))) z z z (wl_nil (tn ?_))))
 replace hst := hst.keep0
 obtain rfl := some_inj hm
 exact ⟨_, Nat.lt_succ_self _, (i64.wrap (z1402 + (1:Int))), _, hx1409, (fu 0 r0_0 z (fu 1 (.int .i64 a1) z (fu 2 (.int .i64 a2) z (fu 7 (.int .i64 (i64.wrap (z1402 + (1:Int)))) z z)))), hst⟩
}
}
 {
 replace hm := bif_f hc1481 hm
 refine wo hc1481 z z z z z z (wv (.bool false) z z (x_pick_f hc1481 z z) (wl_nil (tn ?_)))
 refine wp_iff z ?_
 refine wp_exit (then_x (then_x ?_))
 replace hm := inr_up hm hx1479
 refine blk_x (tn (wp_seq (wrl ?_)))
 refine wv (.bool z1471) z z z (wl_nil (tn ?_))
 refine bsplit z1471 (fun hc1501 => ?_) (fun hc1501 => ?_)
 {
 replace hm := bif_t hc1501 hm
 refine wp_ift (cvb hc1501) ?_
 refine wp_seq (wrl (wv (.int .i64 z1402) z z z (wv (.int .i64 z1402) z z z (wl_nil (tn (wp_ret (blk_r (then_r (then_r ?_)))))))))
 replace hm := inr_up hm hx1409
 refine blk_r (then_r ?_)
 obtain rfl := some_inj hm
 refine post_ret (vs := [I6 z1402]) results50 (rvs_cons (rv_tmp z) rvs_nil) ?_
 exact ⟨z, hst.keep0⟩
}
 {
 replace hm := bif_f hc1501 hm
 refine wp_iff (cvb hc1501) ?_
 refine wp_skip (blk_n (tn (wrl ?_)))
 refine wv (.int .i64 z1402) z z z (wv (.int .i64 (i64.wrap (z1402 + (1:Int)))) z z z (wv (.int .i64 (i64.wrap (z1402 + (1:Int)))) z z z (wl_nil (tn ?_))))
 replace hst := hst.keep0
 obtain rfl := some_inj hm
 exact ⟨_, Nat.lt_succ_self _, (i64.wrap (z1402 + (1:Int))), _, hx1409, (fu 0 r0_0 z (fu 1 (.int .i64 a1) z (fu 2 (.int .i64 a2) z (fu 7 (.int .i64 (i64.wrap (z1402 + (1:Int)))) z z)))), hst⟩
}
}
}
}
 {
 replace hm := bif_f hc1411 hm
 refine wp_iff (cvb hc1411) ?_
 refine wp_exit (then_x (then_x ?_))
 replace hm := inr_up hm hx1409
 refine blk_x (tn (wp_seq (wrl ?_)))
 refine wv (.int .i64 ((-1):Int)) z z z (wl_nil (tn (wp_ret ?_)))
 obtain rfl := some_inj hm
 refine post_ret (vs := [I6 ((-1):Int)]) results50 (rvs_cons (rv_tmp z) rvs_nil) ?_
 exact ⟨z, hst.keep0⟩
}
}

theorem ref03_Meet_ref {w0 w : World} {I : HL} {R : SP} {a0 : (List Int)} {r0_0 : Value} {a1 : Int} {a2 : Int} (f0_0 : Rd (tyInt .u64) R I r0_0 a0) (hst : St w0 w I [] R) {r : (Int)} (hm : ref03_Meet a0 a1 a2 = some r) :
  Calls prog 51 #[r0_0, I6 a1, I6 a2] w fun e w' => e = .returned (.int .i64 r) ∧ St w0 w' I [] R := by {
 unfold ref03_Meet at hm
 refine calls_start (args := [r0_0, I6 a1, I6 a2]) func51 z ntmps51 (Nat.le_of_ble_eq_true z) ?_
 refine wp_seq (wrl (wv (.int .i64 (0:Int)) z z z (wl_nil (tn (wp_seq (wp_seq (wrl (wv (.int .i64 (0:Int)) z z z (wl_nil (tn (wp_block ?_)))))))))))
 obtain ⟨n1410, hm⟩ := loopO_some hm
 refine wp_loop_n (fun n a w => ∃ (z1408 : Int) (σ1409 : Nat → Value), loopN (ref03_Meet_l0 a0 a1 a2) n z1408 = some r ∧ a = Fr 54 (upd (upd (upd (upd σ1409 0 (r0_0)) 1 (.int .i64 a1)) 2 (.int .i64 a2)) 7 (.int .i64 z1408)) ∧ St w0 w I [] R) n1410 ⟨(0:Int), _, hm, (fu 0 r0_0 z (fu 1 (.int .i64 a1) z (fu 2 (.int .i64 a2) z (fu 7 (.int .i64 (0:Int)) z z)))), hst⟩ ?_
 rintro n1416 _ w1411 ⟨z1408, σ1409, hm, rfl, hst⟩
 obtain ⟨n1413, y1414, rfl, hm, hx1415⟩ := loopN_some hm
 dsimp only [ref03_Meet_l0] at hm
 refine wp_seq (wp_seq (wrl (wv (.int .i64 z1408) z z z (wv (r0_0) z z z (wv (.int .i64 ((a0).length : Int)) z z (x_len z underlying25 (rd_sliceV f0_0)) (wv (.bool (decide (z1408 < ((a0).length : Int)))) z z z (wl_nil (tn ?_))))))))
 refine bsplit (decide (z1408 < ((a0).length : Int))) (fun hc1417 => ?_) (fun hc1417 => ?_)
 {
 replace hm := bif_t hc1417 hm
 refine wp_ift (cvb hc1417) ?_
 refine wp_skip (tn (wp_seq (wp_block ?_)))
 obtain ⟨y1432, hm, hx1433⟩ := bind_some hm
 refine wp_cut (fun a w => ∃ (z1429 : Bool) (σ1430 : Nat → Value), (ref03_Meet_j1 a0 a1 a2 z1408) z1429 = some y1414 ∧ a = Fr 54 (upd (upd (upd (upd (upd σ1430 0 (r0_0)) 1 (.int .i64 a1)) 2 (.int .i64 a2)) 7 (.int .i64 z1408)) 8 (.bool z1429)) ∧ St w0 w I [] R) ?_ ?_
 {
 refine wrl (wv (r0_0) z z z (wv (.int .i64 z1408) z z z (wv (.int .i64 a1) z z z ?_)))
 obtain ⟨t1418, ht1419, hm⟩ := bind_some hm
 refine wc call42 [r0_0, I6 z1408, I6 a1] z z z ?_
 refine (ref03_Leq_ref (f0_0.mono (rd_weak _)) hst.to0 ht1419).mono ?_
 rintro _ w1420 ⟨rfl, hst⟩
 refine ⟨_, z, ?_⟩
 replace hst := hst.of0
 refine wv (.bool t1418) z z z ?_
 refine bsplit t1418 (fun hc1423 => ?_) (fun hc1423 => ?_)
 {
 replace hm := bif_t hc1423 hm
 refine wv (r0_0) ((wanted_eq z z z (cvb hc1423)).trans z) z z (wv (.int .i64 z1408) ((wanted_eq z z z (cvb hc1423)).trans z) z z (wv (.int .i64 a2) ((wanted_eq z z z (cvb hc1423)).trans z) z z ?_))
 obtain ⟨t1424, ht1425, hm⟩ := bind_some hm
 refine wl_call ((wanted_eq z z z (cvb hc1423)).trans z) z (x_call call42 z (vs := [r0_0, I6 z1408, I6 a2]) z) ?_
 refine (ref03_Leq_ref (f0_0.mono (rd_weak _)) hst.to0 ht1425).mono ?_
 rintro _ w1426 ⟨rfl, hst⟩
 refine ⟨_, z, ?_⟩
 replace hst := hst.of0
 refine wv (.bool t1424) z z (x_pick_t hc1423 z z) (wv (.bool t1424) z z z (wl_nil (tn ?_)))
 replace hst := hst.keep0
 obtain rfl := some_inj hm
 exact ⟨t1424, _, hx1433, (fu 0 r0_0 z (fu 1 (.int .i64 a1) z (fu 2 (.int .i64 a2) z (fu 7 (.int .i64 z1408) z (fu 8 (.bool t1424) z z))))), hst⟩
}
 {
 replace hm := bif_f hc1423 hm
 refine wo hc1423 z z z z z z (wo hc1423 z z z z z z (wo hc1423 z z z z z z (wo hc1423 z z z z z z (wv (.bool false) z z (x_pick_f hc1423 z z) (wv (.bool false) z z z (wl_nil (tn ?_)))))))
 replace hst := hst.keep0
 obtain rfl := some_inj hm
 exact ⟨false, _, hx1433, (fu 0 r0_0 z (fu 1 (.int .i64 a1) z (fu 2 (.int .i64 a2) z (fu 7 (.int .i64 z1408) z (fu 8 (.bool false) z z))))), hst⟩
}
}
 {
 clear hst
 rintro _ w1434 ⟨z1429, σ1430, hm, rfl, hst⟩
 dsimp only [ref03_Meet_j1] at hm
 refine wp_seq (wp_seq (wrl (wv (.int .i64 (0:Int)) z z z (wl_nil (tn (wp_block ?_))))))
 obtain ⟨n1480, hm⟩ := loopO_some hm
 refine wp_loop_n (fun n a w => ∃ (z1477 : Bool) (z1478 : Int) (σ1479 : Nat → Value), loopN (ref03_Meet_l2 a0 a1 a2 z1408) n (z1477, z1478) = some y1414 ∧ a = Fr 54 (upd (upd (upd (upd (upd (upd σ1479 0 (r0_0)) 1 (.int .i64 a1)) 2 (.int .i64 a2)) 7 (.int .i64 z1408)) 8 (.bool z1477)) 9 (.int .i64 z1478)) ∧ St w0 w I [] R) n1480 ⟨z1429, (0:Int), _, hm, (fu 0 r0_0 z (fu 1 (.int .i64 a1) z (fu 2 (.int .i64 a2) z (fu 7 (.int .i64 z1408) z (fu 8 (.bool z1429) z (fu 9 (.int .i64 (0:Int)) z z)))))), hst⟩ ?_
 rintro n1486 _ w1481 ⟨z1477, z1478, σ1479, hm, rfl, hst⟩
 obtain ⟨n1483, y1484, rfl, hm, hx1485⟩ := loopN_some hm
 dsimp only [ref03_Meet_l2] at hm
 refine wp_seq (wp_seq (wrl (wv (.int .i64 z1478) z z z (wv (r0_0) z z z (wv (.int .i64 ((a0).length : Int)) z z (x_len z underlying25 (rd_sliceV f0_0)) (wv (.bool (decide (z1478 < ((a0).length : Int)))) z z z (wv (.bool (decide (z1478 < ((a0).length : Int)))) z z z ?_)))))))
 refine bsplit (decide (z1478 < ((a0).length : Int))) (fun hc1487 => ?_) (fun hc1487 => ?_)
 {
 replace hm := bif_t hc1487 hm
 refine wv (.bool z1477) ((wanted_eq z z z (cvb hc1487)).trans z) z z (wv (.bool z1477) z z (x_pick_t hc1487 z z) (wl_nil (tn ?_)))
 refine bsplit z1477 (fun hc1488 => ?_) (fun hc1488 => ?_)
 {
 replace hm := bif_t hc1488 hm
 refine wp_ift (cvb hc1488) ?_
 refine wp_skip (tn (wp_seq (wp_block (wp_seq (wrl ?_)))))
 refine wv (r0_0) z z z (wv (.int .i64 z1478) z z z (wv (.int .i64 a1) z z z ?_))
 obtain ⟨t1489, ht1490, hm⟩ := bind_some hm
 refine wc call42 [r0_0, I6 z1478, I6 a1] z z z ?_
 refine (ref03_Leq_ref (f0_0.mono (rd_weak _)) hst.to0 ht1490).mono ?_
 rintro _ w1491 ⟨rfl, hst⟩
 refine ⟨_, z, ?_⟩
 replace hst := hst.of0
 refine wv (.bool t1489) z z z ?_
 refine bsplit t1489 (fun hc1494 => ?_) (fun hc1494 => ?_)
 {
 replace hm := bif_t hc1494 hm
 refine wv (r0_0) ((wanted_eq z z z (cvb hc1494)).trans z) z z (wv (.int .i64 z1478) ((wanted_eq z z z (cvb hc1494)).trans z) z z (wv (.int .i64 a2) ((wanted_eq z z z (cvb hc1494)).trans z) z z ?_))
 obtain ⟨t1495, ht1496, hm⟩ := bind_some hm
 refine wl_call ((wanted_eq z z z (cvb hc1494)).trans z) z (x_call call42 z (vs := [r0_0, I6 z1478, I6 a2]) z) ?_
 refine (ref03_Leq_ref (f0_0.mono (rd_weak _)) hst.to0 ht1496).mono ?_
 rintro _ w1497 ⟨rfl, hst⟩
 refine ⟨_, z, ?_⟩
 replace hst := hst.of0
 refine wv (.bool t1495) z z (x_pick_t hc1494 z z) (wv (.bool t1495) z z z ?_)
 refine bsplit t1495 (fun hc1500 => ?_) (fun hc1500 => ?_)
 {
 replace hm := bif_t hc1500 hm
 refine wv (r0_0) ((wanted_eq z z z (cvb hc1500)).trans z) z z (wv (.int .i64 z1478) ((wanted_eq z z z (cvb hc1500)).trans z) z z (wv (.int .i64 z1408) ((wanted_eq z z z (cvb hc1500)).trans z) z z ?_))
 obtain ⟨t1501, ht1502, hm⟩ := bind_some hm
 refine wl_call ((wanted_eq z z z (cvb hc1500)).trans z) z (x_call call42 z (vs := [r0_0, I6 z1478, I6 z1408]) z) ?_
 refine (ref03_Leq_ref (f0_0.mono (rd_weak _)) hst.to0 ht1502).mono ?_
 rintro _ w1503 ⟨rfl, hst⟩
 refine ⟨_, z, ?_⟩
 replace hst := hst.of0
 refine wv (.bool (!t1501)) ((wanted_eq z z z (cvb hc1500)).trans z) z z (wv (.bool (!t1501)) z z (x_pick_t hc1500 z z) (wl_nil (tn ?_)))
 refine bsplit (!t1501) (fun hc1506 => ?_) (fun hc1506 => ?_)
 {
 replace hm := bif_t hc1506 hm
 refine wp_ift (cvb hc1506) ?_
 refine wrl (wv (.bool false) z z z (wl_nil (blk_n (tn (wrl (wv (.int .i64 z1478) z z z (wv (.int .i64 (i64.wrap (z1478 + (1:Int)))) z z z (wv (.int .i64 (i64.wrap (z1478 + (1:Int)))) z z z (wl_nil (tn ?_))))))))))
 replace hst := hst.keep0
 obtain rfl := some_inj hm
 exact ⟨_, Nat.lt_succ_self _, false, (i64.wrap (z1478 + (1:Int))), _, hx1485, (fu 0 r0_0 z (fu 1 (.int .i64 a1) z (fu 2 (.int .i64 a2) z (fu 7 (.int .i64 z1408) z (fu 8 (.bool false) z (fu 9 (.int .i64 (i64.wrap (z1478 + (1:Int)))) z z)))))), hst⟩
}
 {
 replace hm := bif_f hc1506 hm
 refine wp_iff (cvb hc1506) ?_
 refine wp_skip (blk_n (tn (wrl ?_)))
 refine wv (.int .i64 z1478) z z z (wv (.int .i64 (i64.wrap (z1478 + (1:Int)))) z z z (wv (.int .i64 (i64.wrap (z1478 + (1:Int)))) z z z (wl_nil (tn ?_))))
 replace hst := hst.keep0
 obtain rfl := some_inj hm
 exact ⟨_, Nat.lt_succ_self _, z1477, (i64.wrap (z1478 + (1:Int))), _, hx1485, (fu 0 r0_0 z (fu 1 (.int .i64 a1) z (fu 2 (.int .i64 a2) z (fu 7 (.int .i64 z1408) z (fu 8 (.bool z1477) z (fu 9 (.int .i64 (i64.wrap (z1478 + (1:Int)))) z z)))))), hst⟩
}
}
 {
 replace hm := bif_f hc1500 hm
 refine wo hc1500 z z z z z z (wo hc1500 z z z z z z (wo hc1500 z z z z z z (wo hc1500 z z z z z z (wo hc1500 z z z z z z (wv (.bool false) z z (x_pick_f hc1500 z z) (wl_nil (tn ?_)))))))
 refine wp_iff z ?_
 refine wp_skip (blk_n (tn (wrl ?_)))
 refine wv (.int .i64 z1478) z z z (wv (.int .i64 (i64.wrap (z1478 + (1:Int)))) z z z (wv (.int .i64 (i64.wrap (z1478 + (1:Int)))) z z z (wl_nil (tn ?_))))
 replace hst := hst.keep0
 obtain rfl := some_inj hm
 exact ⟨_, Nat.lt_succ_self _, z1477, (i64.wrap (z1478 + (1:Int))), _, hx1485, (fu 0 r0_0 z (fu 1 (.int .i64 a1) z (fu 2 (.int .i64 a2) z (fu 7 (.int .i64 z1408) z (fu 8 (.bool z1477) z (fu 9 (.int .i64 (i64.wrap (z1478 + (1:Int)))) z z)))))), hst⟩
}
}
 {
 replace hm := bif_f hc1494 hm
 refine wo hc1494 z z z z z z (wo hc1494 z z z z z z (wo hc1494 z z z z z z (wo hc1494 z z z z z z (wv (.bool false) z z (x_pick_f hc1494 z z) (wv (.bool false) z z z (wz z z z z z z (wz z z z z z z (wz z z z z z z (wz z z z z z z (wz z z z z z z (wv (.bool false) z z (x_pick_f z z z) (wl_nil (tn ?_)))))))))))))
 refine wp_iff z ?_
 refine wp_skip (blk_n (tn (wrl ?_)))
 refine wv (.int .i64 z1478) z z z (wv (.int .i64 (i64.wrap (z1478 + (1:Int)))) z z z (wv (.int .i64 (i64.wrap (z1478 + (1:Int)))) z z z (wl_nil (tn ?_))))
 replace hst := hst.keep0
 obtain rfl := some_inj hm
 exact ⟨_, Nat.lt_succ_self _, z1477, (i64.wrap (z1478 + (1:Int))), _, hx1485, (fu 0 r0_0 z (fu 1 (.int .i64 a1) z (fu 2 (.int .i64 a2) z (fu 7 (.int .i64 z1408) z (fu 8 (.bool z1477) z (fu 9 (.int .i64 (i64.wrap (z1478 + (1:Int)))) z z)))))), hst⟩
}
}
 {
 replace hm := bif_f hc1488 hm
 refine wp_iff (cvb hc1488) ?_
 refine wp_exit (then_x (then_x ?_))
 replace hm := inr_up hm hx1485
 refine blk_x (tn (wp_seq (wrl ?_)))
 refine wv (.bool z1477) z z z (wl_nil (tn ?_))
 refine wp_iff (cvb hc1488) ?_
 refine wp_skip (blk_n (tn (wrl ?_)))
 refine wv (.int .i64 z1408) z z z (wv (.int .i64 (i64.wrap (z1408 + (1:Int)))) z z z (wv (.int .i64 (i64.wrap (z1408 + (1:Int)))) z z z (wl_nil (tn ?_))))
 replace hst := hst.keep0
 obtain rfl := some_inj hm
 exact ⟨_, Nat.lt_succ_self _, (i64.wrap (z1408 + (1:Int))), _, hx1415, (fu 0 r0_0 z (fu 1 (.int .i64 a1) z (fu 2 (.int .i64 a2) z (fu 7 (.int .i64 (i64.wrap (z1408 + (1:Int)))) z z)))), hst⟩
}
}
 {
 replace hm := bif_f hc1487 hm
 refine wo hc1487 z z z z z z (wv (.bool false) z z (x_pick_f hc1487 z z) (wl_nil (tn ?_)))
 refine wp_iff z ?_
 refine wp_exit (then_x (then_x ?_))
 replace hm := inr_up hm hx1485
 refine blk_x (tn (wp_seq (wrl ?_)))
 refine wv (.bool z1477) z z z (wl_nil (tn ?_))
 refine bsplit z1477 (fun hc1507 => ?_) (fun hc1507 => ?_)
 {
 replace hm := bif_t hc1507 hm
 refine wp_ift (cvb hc1507) ?_
 refine wp_seq (wrl (wv (.int .i64 z1408) z z z (wv (.int .i64 z1408) z z z (wl_nil (tn (wp_ret (blk_r (then_r (then_r ?_)))))))))
 replace hm := inr_up hm hx1415
 refine blk_r (then_r ?_)
 obtain rfl := some_inj hm
 refine post_ret (vs := [I6 z1408]) results51 (rvs_cons (rv_tmp z) rvs_nil) ?_
 exact ⟨z, hst.keep0⟩
}
 {
 replace hm := bif_f hc1507 hm
 refine wp_iff (cvb hc1507) ?_
 refine wp_skip (blk_n (tn (wrl ?_)))
 refine wv (.int .i64 z1408) z z z (wv (.int .i64 (i64.wrap (z1408 + (1:Int)))) z z z (wv (.int .i64 (i64.wrap (z1408 + (1:Int)))) z z z (wl_nil (tn ?_))))
 replace hst := hst.keep0
 obtain rfl := some_inj hm
 exact ⟨_, Nat.lt_succ_self _, (i64.wrap (z1408 + (1:Int))), _, hx1415, (fu 0 r0_0 z (fu 1 (.int .i64 a1) z (fu 2 (.int .i64 a2) z (fu 7 (.int .i64 (i64.wrap (z1408 + (1:Int)))) z z)))), hst⟩
}
}
}
}
 {
 replace hm := bif_f hc1417 hm
 refine wp_iff (cvb hc1417) ?_
 refine wp_exit (then_x (then_x ?_))
 replace hm := inr_up hm hx1415
 refine blk_x (tn (wp_seq (wrl ?_)))
 refine wv (.int .i64 ((-1):Int)) z z z (wl_nil (tn (wp_ret ?_)))
 obtain rfl := some_inj hm
 refine post_ret (vs := [I6 ((-1):Int)]) results51 (rvs_cons (rv_tmp z) rvs_nil) ?_
 exact ⟨z, hst.keep0⟩
}
}

theorem ref03_Check_ref {w0 w : World} {I : HL} {R : SP} {a0 : (List Int)} {r0_0 : Value} (f0_0 : Rd (tyInt .u64) R I r0_0 a0) (hst : St w0 w I [] R) {r : (Int)} (hm : ref03_Check a0 = some r) :
  Calls prog 35 #[r0_0] w fun e w' => e = .returned (.int .i64 r) ∧ St w0 w' I [] R := by {
 unfold ref03_Check at hm
 refine calls_start (args := [r0_0]) func35 z ntmps35 (Nat.le_of_ble_eq_true z) ?_
 refine wp_seq (wrl (wv (.int .i64 (0:Int)) z z z (wl_nil (tn (wp_seq (wrl (wv (r0_0) z z z (wv (.int .i64 ((a0).length : Int)) z z (x_len z underlying25 (rd_sliceV f0_0)) (wv (.int .i64 ((a0).length : Int)) z z z (wl_nil (tn (wp_seq (wp_seq (wrl (wv (.int .i64 ((a0).length : Int)) z z z (wv (.bool (decide (((a0).length : Int) < (1:Int)))) z z z (wv (.bool (decide (((a0).length : Int) < (1:Int)))) z z z ?_)))))))))))))))))
 refine bsplit (decide (((a0).length : Int) < (1:Int))) (fun hc1095 => ?_) (fun hc1095 => ?_)
 {
 replace hm := bif_t hc1095 hm
 refine wo hc1095 z z z z z z (wo hc1095 z z z z z z (wv (.bool true) z z (x_pick_t hc1095 z z) (wl_nil (tn ?_))))
 refine wp_ift z ?_
 refine wp_seq (wrl (wv (.int .i64 (1:Int)) z z z (wl_nil (tn (wp_ret (then_r ?_))))))
 obtain rfl := some_inj hm
 refine post_ret (vs := [I6 (1:Int)]) results35 (rvs_cons (rv_tmp z) rvs_nil) ?_
 exact ⟨z, hst.keep0⟩
}
 {
 replace hm := bif_f hc1095 hm
 refine wv (.int .i64 ((a0).length : Int)) ((wanted_eq z z z (cvb hc1095)).trans z) z z (wv (.bool (decide (((a0).length : Int) > (16:Int)))) ((wanted_eq z z z (cvb hc1095)).trans z) z z (wv (.bool (decide (((a0).length : Int) > (16:Int)))) z z (x_pick_f hc1095 z z) (wl_nil (tn ?_))))
 refine bsplit (decide (((a0).length : Int) > (16:Int))) (fun hc1096 => ?_) (fun hc1096 => ?_)
 {
 replace hm := bif_t hc1096 hm
 refine wp_ift (cvb hc1096) ?_
 refine wp_seq (wrl (wv (.int .i64 (1:Int)) z z z (wl_nil (tn (wp_ret (then_r ?_))))))
 obtain rfl := some_inj hm
 refine post_ret (vs := [I6 (1:Int)]) results35 (rvs_cons (rv_tmp z) rvs_nil) ?_
 exact ⟨z, hst.keep0⟩
}
 {
 replace hm := bif_f hc1096 hm
 refine wp_iff (cvb hc1096) ?_
 refine wp_skip (tn ?_)
 obtain ⟨y1949, hm, hx1950⟩ := joinO_some hm
 refine wp_cut (fun a w => ∃ (σ1947 : Nat → Value), (ref03_Check_j0 a0) () = some r ∧ a = Fr 100 (upd (upd σ1947 0 (r0_0)) 3 (.int .i64 ((a0).length : Int))) ∧ St w0 w I [] R) ?_ ?_
 {
 refine wp_seq (wrl (wv (.int .i64 (0:Int)) z z z (wl_nil (tn (wp_block ?_)))))
 obtain ⟨n1659, hm⟩ := loopO_some hm
 refine wp_loop_n (fun n a w => ∃ (z1657 : Int) (σ1658 : Nat → Value), loopN (ref03_Check_l1 a0) n z1657 = some y1949 ∧ a = Fr 100 (upd (upd (upd σ1658 0 (r0_0)) 3 (.int .i64 ((a0).length : Int))) 4 (.int .i64 z1657)) ∧ St w0 w I [] R) n1659 ⟨(0:Int), _, hm, (fu 0 r0_0 z (fu 3 (.int .i64 ((a0).length : Int)) z (fu 4 (.int .i64 (0:Int)) z z))), hst⟩ ?_
 rintro n1665 _ w1660 ⟨z1657, σ1658, hm, rfl, hst⟩
 obtain ⟨n1662, y1663, rfl, hm, hx1664⟩ := loopN_some hm
 dsimp only [ref03_Check_l1] at hm
 refine wp_seq (wp_seq (wrl (wv (.int .i64 z1657) z z z (wv (.int .i64 ((a0).length : Int)) z z z (wv (.bool (decide (z1657 < ((a0).length : Int)))) z z z (wl_nil (tn ?_)))))))
 refine bsplit (decide (z1657 < ((a0).length : Int))) (fun hc1666 => ?_) (fun hc1666 => ?_)
 {
 replace hm := bif_t hc1666 hm
 refine wp_ift (cvb hc1666) ?_
 refine wp_skip (tn (wp_seq (wp_block (wp_seq (wp_seq (wrl ?_))))))
 refine wv (r0_0) z z z (wv (.int .i64 z1657) z z z ?_)
 obtain ⟨x1667, hx1668, hm⟩ := bind_some hm
 obtain ⟨h1669, h1670, hi1671⟩ := geto_some hx1668
 refine wv (.pointer (some (eAddr r0_0 (z1657.toNat * 1 + 0)))) z z (x_index z z underlying25 sizeOf22 (rd_sliceV f0_0) h1669 h1670) (wv (.int .u64 x1667) z z (x_load z isAgg22 (rd_load f0_0 (HL.le.refl _) hst hi1671 (by rintro _ rfl; rfl))) (wv (.int .i64 ((a0).length : Int)) z z z ?_))
 obtain ⟨hg1672, hm⟩ := gd_some hm
 refine wv (.int .u64 (iShr .u64 x1667 ((a0).length : Int))) z z (x_shr (of_decide_eq_true hg1672) z z) (wv (.bool ((iShr .u64 x1667 ((a0).length : Int)) != (0:Int))) z z z (wv (.bool ((iShr .u64 x1667 ((a0).length : Int)) != (0:Int))) z z z ?_))
 refine bsplit ((iShr .u64 x1667 ((a0).length : Int)) != (0:Int)) (fun hc1673 => ?_) (fun hc1673 => ?_)
 {
 replace hm := bif_t hc1673 hm
 refine wo hc1673 z z z z z z (wo hc1673 z z z z z z (wo hc1673 z z z z z z (wo hc1673 z z z z z z (wo hc1673 z z z z z z (wv (.bool true) z z (x_pick_t hc1673 z z) (wl_nil (tn ?_)))))))
 refine wp_ift z ?_
 refine wp_seq (wrl (wv (.int .i64 (15:Int)) z z z (wl_nil (tn (wp_ret (then_r (blk_r (then_r (then_r ?_)))))))))
 replace hm := inr_up hm hx1664
 refine blk_r (then_r ?_)
 replace hm := inr_up hm hx1950
 obtain rfl := some_inj hm
 refine post_ret (vs := [I6 (15:Int)]) results35 (rvs_cons (rv_tmp z) rvs_nil) ?_
 exact ⟨z, hst.keep0⟩
}
 {
 replace hm := bif_f hc1673 hm
 refine wv (r0_0) ((wanted_eq z z z (cvb hc1673)).trans z) z z (wv (.int .i64 z1657) ((wanted_eq z z z (cvb hc1673)).trans z) z z (wv (.int .i64 z1657) ((wanted_eq z z z (cvb hc1673)).trans z) z z ?_))
 obtain ⟨t1674, ht1675, hm⟩ := bind_some hm
 refine wl_call ((wanted_eq z z z (cvb hc1673)).trans z) z (x_call call42 z (vs := [r0_0, I6 z1657, I6 z1657]) z) ?_
 refine (ref03_Leq_ref (f0_0.mono (rd_weak _)) hst.to0 ht1675).mono ?_
 rintro _ w1676 ⟨rfl, hst⟩
 refine ⟨_, z, ?_⟩
 replace hst := hst.of0
 refine wv (.bool (!t1674)) ((wanted_eq z z z (cvb hc1673)).trans z) z z (wv (.bool (!t1674)) z z (x_pick_f hc1673 z z) (wl_nil (tn ?_)))
 refine bsplit (!t1674) (fun hc1679 => ?_) (fun hc1679 => ?_)
 {
 replace hm := bif_t hc1679 hm
 refine wp_ift (cvb hc1679) ?_
 refine wp_seq (wrl (wv (.int .i64 (15:Int)) z z z (wl_nil (tn (wp_ret (then_r (blk_r (then_r (then_r ?_)))))))))
 replace hm := inr_up hm hx1664
 refine blk_r (then_r ?_)
 replace hm := inr_up hm hx1950
 obtain rfl := some_inj hm
 refine post_ret (vs := [I6 (15:Int)]) results35 (rvs_cons (rv_tmp z) rvs_nil) ?_
 exact ⟨z, hst.keep0⟩
}
 {
 replace hm := bif_f hc1679 hm
 refine wp_iff (cvb hc1679) ?_
 refine wp_skip (tn (wp_seq (wrl ?_)))
 refine wv (.int .i64 (0:Int)) z z z (wl_nil (tn (wp_block ?_)))
 obtain ⟨n1854, hm⟩ := loopO_some hm
 refine wp_loop_n (fun n a w => ∃ (z1852 : Int) (σ1853 : Nat → Value), loopN (ref03_Check_l2 a0 z1657) n z1852 = some y1663 ∧ a = Fr 100 (upd (upd (upd (upd σ1853 0 (r0_0)) 3 (.int .i64 ((a0).length : Int))) 4 (.int .i64 z1657)) 5 (.int .i64 z1852)) ∧ St w0 w I [] R) n1854 ⟨(0:Int), _, hm, (fu 0 r0_0 z (fu 3 (.int .i64 ((a0).length : Int)) z (fu 4 (.int .i64 z1657) z (fu 5 (.int .i64 (0:Int)) z z)))), hst⟩ ?_
 rintro n1860 _ w1855 ⟨z1852, σ1853, hm, rfl, hst⟩
 obtain ⟨n1857, y1858, rfl, hm, hx1859⟩ := loopN_some hm
 dsimp only [ref03_Check_l2] at hm
 refine wp_seq (wp_seq (wrl (wv (.int .i64 z1852) z z z (wv (.int .i64 ((a0).length : Int)) z z z (wv (.bool (decide (z1852 < ((a0).length : Int)))) z z z (wl_nil (tn ?_)))))))
 refine bsplit (decide (z1852 < ((a0).length : Int))) (fun hc1861 => ?_) (fun hc1861 => ?_)
 {
 replace hm := bif_t hc1861 hm
 refine wp_ift (cvb hc1861) ?_
 refine wp_skip (tn (wp_seq (wp_block ?_)))
 obtain ⟨y1877, hm, hx1878⟩ := joinO_some hm
 refine wp_cut (fun a w => ∃ (σ1875 : Nat → Value), (ref03_Check_j3 a0 z1657 z1852) () = some y1858 ∧ a = Fr 100 (upd (upd (upd (upd σ1875 0 (r0_0)) 3 (.int .i64 ((a0).length : Int))) 4 (.int .i64 z1657)) 5 (.int .i64 z1852)) ∧ St w0 w I [] R) ?_ ?_
 {
 refine wp_seq (wrl (wv (.int .i64 z1657) z z z (wv (.int .i64 z1852) z z z (wv (.bool (z1657 != z1852)) z z z (wv (.bool (z1657 != z1852)) z z z ?_)))))
 refine bsplit (z1657 != z1852) (fun hc1862 => ?_) (fun hc1862 => ?_)
 {
 replace hm := bif_t hc1862 hm
 refine wv (r0_0) ((wanted_eq z z z (cvb hc1862)).trans z) z z (wv (.int .i64 z1657) ((wanted_eq z z z (cvb hc1862)).trans z) z z (wv (.int .i64 z1852) ((wanted_eq z z z (cvb hc1862)).trans z) z z ?_))
 obtain ⟨t1863, ht1864, hm⟩ := bind_some hm
 refine wl_call ((wanted_eq z z z (cvb hc1862)).trans z) z (x_call call42 z (vs := [r0_0, I6 z1657, I6 z1852]) z) ?_
 refine (ref03_Leq_ref (f0_0.mono (rd_weak _)) hst.to0 ht1864).mono ?_
 rintro _ w1865 ⟨rfl, hst⟩
 refine ⟨_, z, ?_⟩
 replace hst := hst.of0
 refine wv (.bool t1863) z z (x_pick_t hc1862 z z) (wv (.bool t1863) z z z ?_)
 refine bsplit t1863 (fun hc1868 => ?_) (fun hc1868 => ?_)
 {
 replace hm := bif_t hc1868 hm
 refine wv (r0_0) ((wanted_eq z z z (cvb hc1868)).trans z) z z (wv (.int .i64 z1852) ((wanted_eq z z z (cvb hc1868)).trans z) z z (wv (.int .i64 z1657) ((wanted_eq z z z (cvb hc1868)).trans z) z z ?_))
 obtain ⟨t1869, ht1870, hm⟩ := bind_some hm
 refine wl_call ((wanted_eq z z z (cvb hc1868)).trans z) z (x_call call42 z (vs := [r0_0, I6 z1852, I6 z1657]) z) ?_
 refine (ref03_Leq_ref (f0_0.mono (rd_weak _)) hst.to0 ht1870).mono ?_
 rintro _ w1871 ⟨rfl, hst⟩
 refine ⟨_, z, ?_⟩
 replace hst := hst.of0
 refine wv (.bool t1869) z z (x_pick_t hc1868 z z) (wl_nil (tn ?_))
 refine bsplit t1869 (fun hc1874 => ?_) (fun hc1874 => ?_)
 {
 replace hm := bif_t hc1874 hm
 refine wp_ift (cvb hc1874) ?_
 refine wp_seq (wrl (wv (.int .i64 (15:Int)) z z z (wl_nil (tn (wp_ret (then_r ?_))))))
 replace hm := inr_up hm hx1878
 refine blk_r (then_r (then_r ?_))
 replace hm := inr_up hm hx1859
 refine blk_r (blk_r (then_r (then_r ?_)))
 replace hm := inr_up hm hx1664
 refine blk_r (then_r ?_)
 replace hm := inr_up hm hx1950
 obtain rfl := some_inj hm
 refine post_ret (vs := [I6 (15:Int)]) results35 (rvs_cons (rv_tmp z) rvs_nil) ?_
 exact ⟨z, hst.keep0⟩
}
 {
 replace hm := bif_f hc1874 hm
 refine wp_iff (cvb hc1874) ?_
 refine wp_skip (tn ?_)
 replace hst := hst.keep0
 obtain rfl := some_inj hm
 exact ⟨_, hx1878, (fu 0 r0_0 z (fu 3 (.int .i64 ((a0).length : Int)) z (fu 4 (.int .i64 z1657) z (fu 5 (.int .i64 z1852) z z)))), hst⟩
}
}
 {
 replace hm := bif_f hc1868 hm
 refine wo hc1868 z z z z z z (wo hc1868 z z z z z z (wo hc1868 z z z z z z (wo hc1868 z z z z z z (wv (.bool false) z z (x_pick_f hc1868 z z) (wl_nil (tn ?_))))))
 refine wp_iff z ?_
 refine wp_skip (tn ?_)
 replace hst := hst.keep0
 obtain rfl := some_inj hm
 exact ⟨_, hx1878, (fu 0 r0_0 z (fu 3 (.int .i64 ((a0).length : Int)) z (fu 4 (.int .i64 z1657) z (fu 5 (.int .i64 z1852) z z)))), hst⟩
}
}
 {
 replace hm := bif_f hc1862 hm
 refine wo hc1862 z z z z z z (wo hc1862 z z z z z z (wo hc1862 z z z z z z (wo hc1862 z z z z z z (wv (.bool false) z z (x_pick_f hc1862 z z) (wv (.bool false) z z z (wz z z z z z z (wz z z z z z z (wz z z z z z z (wz z z z z z z (wv (.bool false) z z (x_pick_f z z z) (wl_nil (tn ?_))))))))))))
 refine wp_iff z ?_
 refine wp_skip (tn ?_)
 replace hst := hst.keep0
 obtain rfl := some_inj hm
 exact ⟨_, hx1878, (fu 0 r0_0 z (fu 3 (.int .i64 ((a0).length : Int)) z (fu 4 (.int .i64 z1657) z (fu 5 (.int .i64 z1852) z z)))), hst⟩
}
}
 {
 clear hst
 rintro _ w1879 ⟨σ1875, hm, rfl, hst⟩
 dsimp only [ref03_Check_j3] at hm
 refine wp_seq (wrl (wv (.int .i64 (0:Int)) z z z (wl_nil (tn (wp_block ?_)))))
 obtain ⟨n1921, hm⟩ := loopO_some hm
 refine wp_loop_n (fun n a w => ∃ (z1919 : Int) (σ1920 : Nat → Value), loopN (ref03_Check_l4 a0 z1657 z1852) n z1919 = some y1858 ∧ a = Fr 100 (upd (upd (upd (upd (upd σ1920 0 (r0_0)) 3 (.int .i64 ((a0).length : Int))) 4 (.int .i64 z1657)) 5 (.int .i64 z1852)) 6 (.int .i64 z1919)) ∧ St w0 w I [] R) n1921 ⟨(0:Int), _, hm, (fu 0 r0_0 z (fu 3 (.int .i64 ((a0).length : Int)) z (fu 4 (.int .i64 z1657) z (fu 5 (.int .i64 z1852) z (fu 6 (.int .i64 (0:Int)) z z))))), hst⟩ ?_
 rintro n1927 _ w1922 ⟨z1919, σ1920, hm, rfl, hst⟩
 obtain ⟨n1924, y1925, rfl, hm, hx1926⟩ := loopN_some hm
 dsimp only [ref03_Check_l4] at hm
 refine wp_seq (wp_seq (wrl (wv (.int .i64 z1919) z z z (wv (.int .i64 ((a0).length : Int)) z z z (wv (.bool (decide (z1919 < ((a0).length : Int)))) z z z (wl_nil (tn ?_)))))))
 refine bsplit (decide (z1919 < ((a0).length : Int))) (fun hc1928 => ?_) (fun hc1928 => ?_)
 {
 replace hm := bif_t hc1928 hm
 refine wp_ift (cvb hc1928) ?_
 refine wp_skip (tn (wp_seq (wp_block (wp_seq (wrl ?_)))))
 refine wv (r0_0) z z z (wv (.int .i64 z1657) z z z (wv (.int .i64 z1852) z z z ?_))
 obtain ⟨t1929, ht1930, hm⟩ := bind_some hm
 refine wc call42 [r0_0, I6 z1657, I6 z1852] z z z ?_
 refine (ref03_Leq_ref (f0_0.mono (rd_weak _)) hst.to0 ht1930).mono ?_
 rintro _ w1931 ⟨rfl, hst⟩
 refine ⟨_, z, ?_⟩
 replace hst := hst.of0
 refine wv (.bool t1929) z z z ?_
 refine bsplit t1929 (fun hc1934 => ?_) (fun hc1934 => ?_)
 {
 replace hm := bif_t hc1934 hm
 refine wv (r0_0) ((wanted_eq z z z (cvb hc1934)).trans z) z z (wv (.int .i64 z1852) ((wanted_eq z z z (cvb hc1934)).trans z) z z (wv (.int .i64 z1919) ((wanted_eq z z z (cvb hc1934)).trans z) z z ?_))
 obtain ⟨t1935, ht1936, hm⟩ := bind_some hm
 refine wl_call ((wanted_eq z z z (cvb hc1934)).trans z) z (x_call call42 z (vs := [r0_0, I6 z1852, I6 z1919]) z) ?_
 refine (ref03_Leq_ref (f0_0.mono (rd_weak _)) hst.to0 ht1936).mono ?_
 rintro _ w1937 ⟨rfl, hst⟩
 refine ⟨_, z, ?_⟩
 replace hst := hst.of0
 refine wv (.bool t1935) z z (x_pick_t hc1934 z z) (wv (.bool t1935) z z z ?_)
 refine bsplit t1935 (fun hc1940 => ?_) (fun hc1940 => ?_)
 {
 replace hm := bif_t hc1940 hm
 refine wv (r0_0) ((wanted_eq z z z (cvb hc1940)).trans z) z z (wv (.int .i64 z1657) ((wanted_eq z z z (cvb hc1940)).trans z) z z (wv (.int .i64 z1919) ((wanted_eq z z z (cvb hc1940)).trans z) z z ?_))
 obtain ⟨t1941, ht1942, hm⟩ := bind_some hm
 refine wl_call ((wanted_eq z z z (cvb hc1940)).trans z) z (x_call call42 z (vs := [r0_0, I6 z1657, I6 z1919]) z) ?_
 refine (ref03_Leq_ref (f0_0.mono (rd_weak _)) hst.to0 ht1942).mono ?_
 rintro _ w1943 ⟨rfl, hst⟩
 refine ⟨_, z, ?_⟩
 replace hst := hst.of0
 refine wv (.bool (!t1941)) ((wanted_eq z z z (cvb hc1940)).trans z) z z (wv (.bool (!t1941)) z z (x_pick_t hc1940 z z) (wl_nil (tn ?_)))
 refine bsplit (!t1941) (fun hc1946 => ?_) (fun hc1946 => ?_)
 {
 replace hm := bif_t hc1946 hm
 refine wp_ift (cvb hc1946) ?_
 refine wp_seq (wrl (wv (.int .i64 (15:Int)) z z z (wl_nil (tn (wp_ret (blk_r (then_r (then_r ?_))))))))
 replace hm := inr_up hm hx1926
 refine blk_r (blk_r (then_r (then_r ?_)))
 replace hm := inr_up hm hx1859
 refine blk_r (blk_r (then_r (then_r ?_)))
 replace hm := inr_up hm hx1664
 refine blk_r (then_r ?_)
 replace hm := inr_up hm hx1950
 obtain rfl := some_inj hm
 refine post_ret (vs := [I6 (15:Int)]) results35 (rvs_cons (rv_tmp z) rvs_nil) ?_
 exact ⟨z, hst.keep0⟩
}
 {
 replace hm := bif_f hc1946 hm
 refine wp_iff (cvb hc1946) ?_
 refine wp_skip (blk_n (tn (wrl ?_)))
 refine wv (.int .i64 z1919) z z z (wv (.int .i64 (i64.wrap (z1919 + (1:Int)))) z z z (wv (.int .i64 (i64.wrap (z1919 + (1:Int)))) z z z (wl_nil (tn ?_))))
 replace hst := hst.keep0
 obtain rfl := some_inj hm
 exact ⟨_, Nat.lt_succ_self _, (i64.wrap (z1919 + (1:Int))), _, hx1926, (fu 0 r0_0 z (fu 3 (.int .i64 ((a0).length : Int)) z (fu 4 (.int .i64 z1657) z (fu 5 (.int .i64 z1852) z (fu 6 (.int .i64 (i64.wrap (z1919 + (1:Int)))) z z))))), hst⟩
}
}
 {
 replace hm := bif_f hc1940 hm
 refine wo hc1940 z z z z z z (wo hc1940 z z z z z z (wo hc1940 z z z z z z (wo hc1940 z z z z z z (wo hc1940 z z z z z z (wv (.bool false) z z (x_pick_f hc1940 z z) (wl_nil (tn ?_)))))))
 refine wp_iff z ?_
 refine wp_skip (blk_n (tn (wrl ?_)))
 refine wv (.int .i64 z1919) z z z (wv (.int .i64 (i64.wrap (z1919 + (1:Int)))) z z z (wv (.int .i64 (i64.wrap (z1919 + (1:Int)))) z z z (wl_nil (tn ?_))))
 replace hst := hst.keep0
 obtain rfl := some_inj hm
 exact ⟨_, Nat.lt_succ_self _, (i64.wrap (z1919 + (1:Int))), _, hx1926, (fu 0 r0_0 z (fu 3 (.int .i64 ((a0).length : Int)) z (fu 4 (.int .i64 z1657) z (fu 5 (.int .i64 z1852) z (fu 6 (.int .i64 (i64.wrap (z1919 + (1:Int)))) z z))))), hst⟩
}
}
 {
 replace hm := bif_f hc1934 hm
 refine wo hc1934 z z z z z z (wo hc1934 z z z z z z (wo hc1934 z z z z z z (wo hc1934 z z z z z z (wv (.bool false) z z (x_pick_f hc1934 z z) (wv (.bool false) z z z (wz z z z z z z (wz z z z z z z (wz z z z z z z (wz z z z z z z (wz z z z z z z (wv (.bool false) z z (x_pick_f z z z) (wl_nil (tn ?_)))))))))))))
 refine wp_iff z ?_
 refine wp_skip (blk_n (tn (wrl ?_)))
 refine wv (.int .i64 z1919) z z z (wv (.int .i64 (i64.wrap (z1919 + (1:Int)))) z z z (wv (.int .i64 (i64.wrap (z1919 + (1:Int)))) z z z (wl_nil (tn ?_))))
 replace hst := hst.keep0
 obtain rfl := some_inj hm
 exact ⟨_, Nat.lt_succ_self _, (i64.wrap (z1919 + (1:Int))), _, hx1926, (fu 0 r0_0 z (fu 3 (.int .i64 ((a0).length : Int)) z (fu 4 (.int .i64 z1657) z (fu 5 (.int .i64 z1852) z (fu 6 (.int .i64 (i64.wrap (z1919 + (1:Int)))) z z))))), hst⟩
}
}
 {
 replace hm := bif_f hc1928 hm
 refine wp_iff (cvb hc1928) ?_
 refine wp_exit (then_x (then_x ?_))
 replace hm := inr_up hm hx1926
 refine blk_x (blk_n (tn (wrl ?_)))
 refine wv (.int .i64 z1852) z z z (wv (.int .i64 (i64.wrap (z1852 + (1:Int)))) z z z (wv (.int .i64 (i64.wrap (z1852 + (1:Int)))) z z z (wl_nil (tn ?_))))
 replace hst := hst.keep0
 obtain rfl := some_inj hm
 exact ⟨_, Nat.lt_succ_self _, (i64.wrap (z1852 + (1:Int))), _, hx1859, (fu 0 r0_0 z (fu 3 (.int .i64 ((a0).length : Int)) z (fu 4 (.int .i64 z1657) z (fu 5 (.int .i64 (i64.wrap (z1852 + (1:Int)))) z z)))), hst⟩
}
}
}
 {
 replace hm := bif_f hc1861 hm
 refine wp_iff (cvb hc1861) ?_
 refine wp_exit (then_x (then_x ?_))
 replace hm := inr_up hm hx1859
 refine blk_x (blk_n (tn (wrl ?_)))
 refine wv (.int .i64 z1657) z z z (wv (.int .i64 (i64.wrap (z1657 + (1:Int)))) z z z (wv (.int .i64 (i64.wrap (z1657 + (1:Int)))) z z z (wl_nil (tn ?_))))
 replace hst := hst.keep0
 obtain rfl := some_inj hm
 exact ⟨_, Nat.lt_succ_self _, (i64.wrap (z1657 + (1:Int))), _, hx1664, (fu 0 r0_0 z (fu 3 (.int .i64 ((a0).length : Int)) z (fu 4 (.int .i64 (i64.wrap (z1657 + (1:Int)))) z z))), hst⟩
}
}
}
}
 {
 replace hm := bif_f hc1666 hm
 refine wp_iff (cvb hc1666) ?_
 refine wp_exit (then_x (then_x ?_))
 replace hm := inr_up hm hx1664
 refine blk_x (tn ?_)
 replace hst := hst.keep0
 obtain rfl := some_inj hm
 exact ⟨_, hx1950, (fu 0 r0_0 z (fu 3 (.int .i64 ((a0).length : Int)) z z)), hst⟩
}
}
 {
 clear hst
 rintro _ w1951 ⟨σ1947, hm, rfl, hst⟩
 dsimp only [ref03_Check_j0] at hm
 refine wp_seq (wp_seq (wrl (wv (.int .i64 (0:Int)) z z z (wl_nil (tn (wp_block ?_))))))
 obtain ⟨n2054, hm⟩ := loopO_some hm
 refine wp_loop_n (fun n a w => ∃ (z2052 : Int) (σ2053 : Nat → Value), loopN (ref03_Check_l5 a0) n z2052 = some r ∧ a = Fr 100 (upd (upd (upd σ2053 0 (r0_0)) 3 (.int .i64 ((a0).length : Int))) 7 (.int .i64 z2052)) ∧ St w0 w I [] R) n2054 ⟨(0:Int), _, hm, (fu 0 r0_0 z (fu 3 (.int .i64 ((a0).length : Int)) z (fu 7 (.int .i64 (0:Int)) z z))), hst⟩ ?_
 rintro n2060 _ w2055 ⟨z2052, σ2053, hm, rfl, hst⟩
 obtain ⟨n2057, y2058, rfl, hm, hx2059⟩ := loopN_some hm
 dsimp only [ref03_Check_l5] at hm
 refine wp_seq (wp_seq (wrl (wv (.int .i64 z2052) z z z (wv (.int .i64 ((a0).length : Int)) z z z (wv (.bool (decide (z2052 < ((a0).length : Int)))) z z z (wl_nil (tn ?_)))))))
 refine bsplit (decide (z2052 < ((a0).length : Int))) (fun hc2061 => ?_) (fun hc2061 => ?_)
 {
 replace hm := bif_t hc2061 hm
 refine wp_ift (cvb hc2061) ?_
 refine wp_skip (tn (wp_seq (wp_block (wp_seq (wrl ?_)))))
 refine wv (.int .i64 (0:Int)) z z z (wl_nil (tn (wp_block ?_)))
 obtain ⟨n2091, hm⟩ := loopO_some hm
 refine wp_loop_n (fun n a w => ∃ (z2089 : Int) (σ2090 : Nat → Value), loopN (ref03_Check_l6 a0 z2052) n z2089 = some y2058 ∧ a = Fr 100 (upd (upd (upd (upd σ2090 0 (r0_0)) 3 (.int .i64 ((a0).length : Int))) 7 (.int .i64 z2052)) 8 (.int .i64 z2089)) ∧ St w0 w I [] R) n2091 ⟨(0:Int), _, hm, (fu 0 r0_0 z (fu 3 (.int .i64 ((a0).length : Int)) z (fu 7 (.int .i64 z2052) z (fu 8 (.int .i64 (0:Int)) z z)))), hst⟩ ?_
 rintro n2097 _ w2092 ⟨z2089, σ2090, hm, rfl, hst⟩
 obtain ⟨n2094, y2095, rfl, hm, hx2096⟩ := loopN_some hm
 dsimp only [ref03_Check_l6] at hm
 refine wp_seq (wp_seq (wrl (wv (.int .i64 z2089) z z z (wv (.int .i64 ((a0).length : Int)) z z z (wv (.bool (decide (z2089 < ((a0).length : Int)))) z z z (wl_nil (tn ?_)))))))
 refine bsplit (decide (z2089 < ((a0).length : Int))) (fun hc2098 => ?_) (fun hc2098 => ?_)
 {
 replace hm := bif_t hc2098 hm
 refine wp_ift (cvb hc2098) ?_
 refine wp_skip (tn (wp_seq (wp_block (wp_seq (wrl ?_)))))
 refine wv (r0_0) z z z (wv (.int .i64 z2052) z z z (wv (.int .i64 z2089) z z z ?_))
 obtain ⟨t2099, ht2100, hm⟩ := bind_some hm
 refine wc call50 [r0_0, I6 z2052, I6 z2089] z z z ?_
 refine (ref03_Join_ref (f0_0.mono (rd_weak _)) hst.to0 ht2100).mono ?_
 rintro _ w2101 ⟨rfl, hst⟩
 refine ⟨_, z, ?_⟩
 replace hst := hst.of0
 refine wv (.bool (decide (t2099 < (0:Int)))) z z z (wv (.bool (decide (t2099 < (0:Int)))) z z z ?_)
 refine bsplit (decide (t2099 < (0:Int))) (fun hc2104 => ?_) (fun hc2104 => ?_)
 {
 replace hm := bif_t hc2104 hm
 refine wo hc2104 z z z z z z (wo hc2104 z z z z z z (wo hc2104 z z z z z z (wo hc2104 z z z z z z (wo hc2104 z z z z z z (wv (.bool true) z z (x_pick_t hc2104 z z) (wl_nil (tn ?_)))))))
 refine wp_ift z ?_
 refine wp_seq (wrl (wv (.int .i64 (15:Int)) z z z (wl_nil (tn (wp_ret (blk_r (then_r (then_r ?_))))))))
 replace hm := inr_up hm hx2096
 refine blk_r (blk_r (then_r (then_r ?_)))
 replace hm := inr_up hm hx2059
 refine blk_r (then_r ?_)
 obtain rfl := some_inj hm
 refine post_ret (vs := [I6 (15:Int)]) results35 (rvs_cons (rv_tmp z) rvs_nil) ?_
 exact ⟨z, hst.keep0⟩
}
 {
 replace hm := bif_f hc2104 hm
 refine wv (r0_0) ((wanted_eq z z z (cvb hc2104)).trans z) z z (wv (.int .i64 z2052) ((wanted_eq z z z (cvb hc2104)).trans z) z z (wv (.int .i64 z2089) ((wanted_eq z z z (cvb hc2104)).trans z) z z ?_))
 obtain ⟨t2105, ht2106, hm⟩ := bind_some hm
 refine wl_call ((wanted_eq z z z (cvb hc2104)).trans z) z (x_call call51 z (vs := [r0_0, I6 z2052, I6 z2089]) z) ?_
 refine (ref03_Meet_ref (f0_0.mono (rd_weak _)) hst.to0 ht2106).mono ?_
 rintro _ w2107 ⟨rfl, hst⟩
 refine ⟨_, z, ?_⟩
 replace hst := hst.of0
 refine wv (.bool (decide (t2105 < (0:Int)))) ((wanted_eq z z z (cvb hc2104)).trans z) z z (wv (.bool (decide (t2105 < (0:Int)))) z z (x_pick_f hc2104 z z) (wl_nil (tn ?_)))
 refine bsplit (decide (t2105 < (0:Int))) (fun hc2110 => ?_) (fun hc2110 => ?_)
 {
 replace hm := bif_t hc2110 hm
 refine wp_ift (cvb hc2110) ?_
 refine wp_seq (wrl (wv (.int .i64 (15:Int)) z z z (wl_nil (tn (wp_ret (blk_r (then_r (then_r ?_))))))))
 replace hm := inr_up hm hx2096
 refine blk_r (blk_r (then_r (then_r ?_)))
 replace hm := inr_up hm hx2059
 refine blk_r (then_r ?_)
 obtain rfl := some_inj hm
 refine post_ret (vs := [I6 (15:Int)]) results35 (rvs_cons (rv_tmp z) rvs_nil) ?_
 exact ⟨z, hst.keep0⟩
}
 {
 replace hm := bif_f hc2110 hm
 refine wp_iff (cvb hc2110) ?_
 refine wp_skip (blk_n (tn (wrl ?_)))
 refine wv (.int .i64 z2089) z z z (wv (.int .i64 (i64.wrap (z2089 + (1:Int)))) z z z (wv (.int .i64 (i64.wrap (z2089 + (1:Int)))) z z z (wl_nil (tn ?_))))
 replace hst := hst.keep0
 obtain rfl := some_inj hm
 exact ⟨_, Nat.lt_succ_self _, (i64.wrap (z2089 + (1:Int))), _, hx2096, (fu 0 r0_0 z (fu 3 (.int .i64 ((a0).length : Int)) z (fu 7 (.int .i64 z2052) z (fu 8 (.int .i64 (i64.wrap (z2089 + (1:Int)))) z z)))), hst⟩
}
}
}
 {
 replace hm := bif_f hc2098 hm
 refine wp_iff (cvb hc2098) ?_
 refine wp_exit (then_x (then_x ?_))
 replace hm := inr_up hm hx2096
 refine blk_x (blk_n (tn (wrl ?_)))
 refine wv (.int .i64 z2052) z z z (wv (.int .i64 (i64.wrap (z2052 + (1:Int)))) z z z (wv (.int .i64 (i64.wrap (z2052 + (1:Int)))) z z z (wl_nil (tn ?_))))
 replace hst := hst.keep0
 obtain rfl := some_inj hm
 exact ⟨_, Nat.lt_succ_self _, (i64.wrap (z2052 + (1:Int))), _, hx2059, (fu 0 r0_0 z (fu 3 (.int .i64 ((a0).length : Int)) z (fu 7 (.int .i64 (i64.wrap (z2052 + (1:Int)))) z z))), hst⟩
}
}
 {
 replace hm := bif_f hc2061 hm
 refine wp_iff (cvb hc2061) ?_
 refine wp_exit (then_x (then_x ?_))
 replace hm := inr_up hm hx2059
 refine blk_x (tn (wp_seq (wrl ?_)))
 refine wv (.int .i64 (0:Int)) z z z (wl_nil (tn (wp_ret ?_)))
 obtain rfl := some_inj hm
 refine post_ret (vs := [Zi]) results35 (rvs_cons (rv_tmp z) rvs_nil) ?_
 exact ⟨z, hst.keep0⟩
}
}
}
}
}

theorem ref04_Check_ref {w0 w : World} {I : HL} {R : SP} {a0 : api_Config} {r0_0 : Value} {r0_1 : Value} (f0_0 : Rd (tyInt .u64) R I r0_0 a0.Up) (f0_1 : Rd tyF64 R I r0_1 a0.Cuts) (hst : St w0 w I [] R) {r : (Int)} (hm : ref04_Check a0 = some r) :
  Calls prog 12 #[.agg #[r0_0, I6 a0.Nodes, r0_1, I6 a0.Frame, I6 a0.Depth, I6 a0.Quota, I6 a0.Wide, I6 a0.Beat, I6 a0.Elect]] w fun e w' => e = .returned (.int .i64 r) ∧ St w0 w' I [] R := by {
 unfold ref04_Check at hm
 refine calls_start (args := [.agg #[r0_0, I6 a0.Nodes, r0_1, I6 a0.Frame, I6 a0.Depth, I6 a0.Quota, I6 a0.Wide, I6 a0.Beat, I6 a0.Elect]]) func12 z ntmps12 (Nat.le_of_ble_eq_true z) ?_
 refine wp_seq (wrl ?_)
 obtain ⟨b84, w85, ew86, eb87, hst⟩ := hst.box [r0_0, I6 a0.Nodes, r0_1, I6 a0.Frame, I6 a0.Depth, I6 a0.Quota, I6 a0.Wide, I6 a0.Beat, I6 a0.Elect] 28
 refine wl_run (v := Pt b84 0) (w' := w85) z z (x_al (by kernel_rfl) ew86 eb87) ?_
 refine wv (.int .i64 (0:Int)) z z z (wl_nil (tn ?_))
 obtain ⟨y104, hm, hx105⟩ := bind_some hm
 refine wp_cut (fun a w => ∃ (z101 : Bool) (σ102 : Nat → Value), (ref04_Check_j0 a0) z101 = some r ∧ a = Fr 86 (upd (upd σ102 1 (Pt b84 0)) 3 (.bool z101)) ∧ St w0 w I [cells b84 [r0_0, I6 a0.Nodes, r0_1, I6 a0.Frame, I6 a0.Depth, I6 a0.Quota, I6 a0.Wide, I6 a0.Beat, I6 a0.Elect]] R) ?_ ?_
 {
 refine wrl (wv (Pt b84 1) z z (x_field z underlying28 z sizeOf3 z) (wv (.int .i64 a0.Nodes) z z (x_load z isAgg3 (hst.bc0 z)) (wv (.bool (decide (a0.Nodes ≥ (1:Int)))) z z z (wv (.bool (decide (a0.Nodes ≥ (1:Int)))) z z z ?_))))
 refine bsplit (decide (a0.Nodes ≥ (1:Int))) (fun hc89 => ?_) (fun hc89 => ?_)
 {
 replace hm := bif_t hc89 hm
 refine wv (Pt b84 1) ((wanted_eq z z z (cvb hc89)).trans z) z (x_field z underlying28 z sizeOf3 z) (wv (.int .i64 a0.Nodes) ((wanted_eq z z z (cvb hc89)).trans z) z (x_load z isAgg3 (hst.bc0 z)) (wv (.bool (decide (a0.Nodes ≤ (7:Int)))) ((wanted_eq z z z (cvb hc89)).trans z) z z (wv (.bool (decide (a0.Nodes ≤ (7:Int)))) z z (x_pick_t hc89 z z) (wv (.bool (decide (a0.Nodes ≤ (7:Int)))) z z z ?_))))
 refine bsplit (decide (a0.Nodes ≤ (7:Int))) (fun hc90 => ?_) (fun hc90 => ?_)
 {
 replace hm := bif_t hc90 hm
 refine wv (Pt b84 2) ((wanted_eq z z z (cvb hc90)).trans z) z (x_field z underlying28 z sizeOf26 z) (wv (r0_1) ((wanted_eq z z z (cvb hc90)).trans z) z (x_load z isAgg26 (hst.bc0 z)) (wv (.int .i64 ((a0.Cuts).length : Int)) ((wanted_eq z z z (cvb hc90)).trans z) z (x_len z underlying26 (rd_sliceV f0_1)) (wv (.bool (decide (((a0.Cuts).length : Int) < (8:Int)))) ((wanted_eq z z z (cvb hc90)).trans z) z z (wv (.bool (decide (((a0.Cuts).length : Int) < (8:Int)))) z z (x_pick_t hc90 z z) (wv (.bool (decide (((a0.Cuts).length : Int) < (8:Int)))) z z z ?_)))))
 refine bsplit (decide (((a0.Cuts).length : Int) < (8:Int))) (fun hc91 => ?_) (fun hc91 => ?_)
 {
 replace hm := bif_t hc91 hm
 refine wv (Pt b84 2) ((wanted_eq z z z (cvb hc91)).trans z) z (x_field z underlying28 z sizeOf26 z) (wv (r0_1) ((wanted_eq z z z (cvb hc91)).trans z) z (x_load z isAgg26 (hst.bc0 z)) ?_)
 obtain ⟨t92, ht93, hm⟩ := bind_some hm
 refine wl_call ((wanted_eq z z z (cvb hc91)).trans z) z (x_call call16 z (vs := [r0_1]) z) ?_
 refine (ref01_Rising_ref (f0_1.mono (rd_weak _)) hst.to0 ht93).mono ?_
 rintro _ w94 ⟨rfl, hst⟩
 refine ⟨_, z, ?_⟩
 replace hst := hst.of0
 refine wv (.bool t92) z z (x_pick_t hc91 z z) (wv (.bool t92) z z z ?_)
 refine bsplit t92 (fun hc97 => ?_) (fun hc97 => ?_)
 {
 replace hm := bif_t hc97 hm
 refine wv (Pt b84 3) ((wanted_eq z z z (cvb hc97)).trans z) z (x_field z underlying28 z sizeOf3 z) (wv (.int .i64 a0.Frame) ((wanted_eq z z z (cvb hc97)).trans z) z (x_load z isAgg3 (hst.bc0 z)) (wv (.bool (decide (a0.Frame ≥ (64:Int)))) ((wanted_eq z z z (cvb hc97)).trans z) z z (wv (.bool (decide (a0.Frame ≥ (64:Int)))) z z (x_pick_t hc97 z z) (wv (.bool (decide (a0.Frame ≥ (64:Int)))) z z z ?_))))
 refine bsplit (decide (a0.Frame ≥ (64:Int))) (fun hc98 => ?_) (fun hc98 => ?_)
 {
 replace hm := bif_t hc98 hm
 refine wv (Pt b84 3) ((wanted_eq z z z (cvb hc98)).trans z) z (x_field z underlying28 z sizeOf3 z) (wv (.int .i64 a0.Frame) ((wanted_eq z z z (cvb hc98)).trans z) z (x_load z isAgg3 (hst.bc0 z)) (wv (.bool (decide (a0.Frame ≤ (4096:Int)))) ((wanted_eq z z z (cvb hc98)).trans z) z z (wv (.bool (decide (a0.Frame ≤ (4096:Int)))) z z (x_pick_t hc98 z z) (wv (.bool (decide (a0.Frame ≤ (4096:Int)))) z z z ?_))))
 refine bsplit (decide (a0.Frame ≤ (4096:Int))) (fun hc99 => ?_) (fun hc99 => ?_)
 {
 replace hm := bif_t hc99 hm
 refine wv (Pt b84 4) ((wanted_eq z z z (cvb hc99)).trans z) z (x_field z underlying28 z sizeOf3 z) (wv (.int .i64 a0.Depth) ((wanted_eq z z z (cvb hc99)).trans z) z (x_load z isAgg3 (hst.bc0 z)) (wv (.bool (decide (a0.Depth ≥ (1:Int)))) ((wanted_eq z z z (cvb hc99)).trans z) z z (wv (.bool (decide (a0.Depth ≥ (1:Int)))) z z (x_pick_t hc99 z z) (wv (.bool (decide (a0.Depth ≥ (1:Int)))) z z z ?_))))
 refine bsplit (decide (a0.Depth ≥ (1:Int))) (fun hc100 => ?_) (fun hc100 => ?_)
 {
 replace hm := bif_t hc100 hm
 refine wv (Pt b84 4) ((wanted_eq z z z (cvb hc100)).trans z) z (x_field z underlying28 z sizeOf3 z) (wv (.int .i64 a0.Depth) ((wanted_eq z z z (cvb hc100)).trans z) z (x_load z isAgg3 (hst.bc0 z)) (wv (.bool (decide (a0.Depth ≤ (65536:Int)))) ((wanted_eq z z z (cvb hc100)).trans z) z z (wv (.bool (decide (a0.Depth ≤ (65536:Int)))) z z (x_pick_t hc100 z z) (wv (.bool (decide (a0.Depth ≤ (65536:Int)))) z z z (wl_nil (tn ?_))))))
 replace hst := hst.keep1
 obtain rfl := some_inj hm
 exact ⟨(decide (a0.Depth ≤ (65536:Int))), _, hx105, (fu 1 (Pt b84 0) z (fu 3 (.bool (decide (a0.Depth ≤ (65536:Int)))) z z)), hst⟩
}
 {
 replace hm := bif_f hc100 hm
 refine wo hc100 z z z z z z (wo hc100 z z z z z z (wo hc100 z z z z z z (wv (.bool false) z z (x_pick_f hc100 z z) (wv (.bool false) z z z (wl_nil (tn ?_))))))
 replace hst := hst.keep1
 obtain rfl := some_inj hm
 exact ⟨false, _, hx105, (fu 1 (Pt b84 0) z (fu 3 (.bool false) z z)), hst⟩
}
}
 {
 replace hm := bif_f hc99 hm
 refine wo hc99 z z z z z z (wo hc99 z z z z z z (wo hc99 z z z z z z (wv (.bool false) z z (x_pick_f hc99 z z) (wv (.bool false) z z z (wz z z z z z z (wz z z z z z z (wz z z z z z z (wv (.bool false) z z (x_pick_f z z z) (wv (.bool false) z z z (wl_nil (tn ?_)))))))))))
 replace hst := hst.keep1
 obtain rfl := some_inj hm
 exact ⟨false, _, hx105, (fu 1 (Pt b84 0) z (fu 3 (.bool false) z z)), hst⟩
}
}
 {
 replace hm := bif_f hc98 hm
 refine wo hc98 z z z z z z (wo hc98 z z z z z z (wo hc98 z z z z z z (wv (.bool false) z z (x_pick_f hc98 z z) (wv (.bool false) z z z (wz z z z z z z (wz z z z z z z (wz z z z z z z (wv (.bool false) z z (x_pick_f z z z) (wv (.bool false) z z z (wz z z z z z z (wz z z z z z z (wz z z z z z z ?_))))))))))))
 refine wv (.bool false) z z (x_pick_f z z z) (wv (.bool false) z z z (wl_nil (tn ?_)))
 replace hst := hst.keep1
 obtain rfl := some_inj hm
 exact ⟨false, _, hx105, (fu 1 (Pt b84 0) z (fu 3 (.bool false) z z)), hst⟩
}
}
 {
 replace hm := bif_f hc97 hm
 refine wo hc97 z z z z z z (wo hc97 z z z z z z (wo hc97 z z z z z z (wv (.bool false) z z (x_pick_f hc97 z z) (wv (.bool false) z z z (wz z z z z z z (wz z z z z z z (wz z z z z z z (wv (.bool false) z z (x_pick_f z z z) (wv (.bool false) z z z (wz z z z z z z (wz z z z z z z (wz z z z z z z ?_))))))))))))
 refine wv (.bool false) z z (x_pick_f z z z) (wv (.bool false) z z z (wz z z z z z z (wz z z z z z z (wz z z z z z z (wv (.bool false) z z (x_pick_f z z z) (wv (.bool false) z z z (wl_nil (tn ?_))))))))
 replace hst := hst.keep1
 obtain rfl := some_inj hm
 exact ⟨false, _, hx105, (fu 1 (Pt b84 0) z (fu 3 (.bool false) z z)), hst⟩
}
}
 {
 replace hm := bif_f hc91 hm
 refine wo hc91 z z z z z z (wo hc91 z z z z z z (wo hc91 z z z z z z (wv (.bool false) z z (x_pick_f hc91 z z) (wv (.bool false) z z z (wz z z z z z z (wz z z z z z z (wz z z z z z z (wv (.bool false) z z (x_pick_f z z z) (wv (.bool false) z z z (wz z z z z z z (wz z z z z z z (wz z z z z z z ?_))))))))))))
 refine wv (.bool false) z z (x_pick_f z z z) (wv (.bool false) z z z (wz z z z z z z (wz z z z z z z (wz z z z z z z (wv (.bool false) z z (x_pick_f z z z) (wv (.bool false) z z z (wz z z z z z z (wz z z z z z z (wz z z z z z z (wv (.bool false) z z (x_pick_f z z z) (wv (.bool false) z z z (wl_nil (tn ?_)))))))))))))
 replace hst := hst.keep1
 obtain rfl := some_inj hm
 exact ⟨false, _, hx105, (fu 1 (Pt b84 0) z (fu 3 (.bool false) z z)), hst⟩
}
}
 {
 replace hm := bif_f hc90 hm
 refine wo hc90 z z z z z z (wo hc90 z z z z z z (wo hc90 z z z z z z (wo hc90 z z z z z z (wv (.bool false) z z (x_pick_f hc90 z z) (wv (.bool false) z z z (wz z z z z z z (wz z z z z z z (wz z z z z z z (wv (.bool false) z z (x_pick_f z z z) (wv (.bool false) z z z (wz z z z z z z (wz z z z z z z ?_))))))))))))
 refine wz z z z z z z (wv (.bool false) z z (x_pick_f z z z) (wv (.bool false) z z z (wz z z z z z z (wz z z z z z z (wz z z z z z z (wv (.bool false) z z (x_pick_f z z z) (wv (.bool false) z z z (wz z z z z z z (wz z z z z z z (wz z z z z z z (wv (.bool false) z z (x_pick_f z z z) (wv (.bool false) z z z ?_))))))))))))
 refine wz z z z z z z (wz z z z z z z (wz z z z z z z (wv (.bool false) z z (x_pick_f z z z) (wv (.bool false) z z z (wl_nil (tn ?_))))))
 replace hst := hst.keep1
 obtain rfl := some_inj hm
 exact ⟨false, _, hx105, (fu 1 (Pt b84 0) z (fu 3 (.bool false) z z)), hst⟩
}
}
 {
 replace hm := bif_f hc89 hm
 refine wo hc89 z z z z z z (wo hc89 z z z z z z (wo hc89 z z z z z z (wv (.bool false) z z (x_pick_f hc89 z z) (wv (.bool false) z z z (wz z z z z z z (wz z z z z z z (wz z z z z z z (wz z z z z z z (wv (.bool false) z z (x_pick_f z z z) (wv (.bool false) z z z (wz z z z z z z (wz z z z z z z ?_))))))))))))
 refine wz z z z z z z (wv (.bool false) z z (x_pick_f z z z) (wv (.bool false) z z z (wz z z z z z z (wz z z z z z z (wz z z z z z z (wv (.bool false) z z (x_pick_f z z z) (wv (.bool false) z z z (wz z z z z z z (wz z z z z z z (wz z z z z z z (wv (.bool false) z z (x_pick_f z z z) (wv (.bool false) z z z ?_))))))))))))
 refine wz z z z z z z (wz z z z z z z (wz z z z z z z (wv (.bool false) z z (x_pick_f z z z) (wv (.bool false) z z z (wz z z z z z z (wz z z z z z z (wz z z z z z z (wv (.bool false) z z (x_pick_f z z z) (wv (.bool false) z z z (wl_nil (tn ?_)))))))))))
 replace hst := hst.keep1
 obtain rfl := some_inj hm
 exact ⟨false, _, hx105, (fu 1 (Pt b84 0) z (fu 3 (.bool false) z z)), hst⟩
}
}
 {
 clear hst
 rintro _ w106 ⟨z101, σ102, hm, rfl, hst⟩
 dsimp only [ref04_Check_j0] at hm
 obtain ⟨y117, hm, hx118⟩ := bind_some hm
 refine wp_cut (fun a w => ∃ (z114 : Bool) (σ115 : Nat → Value), (ref04_Check_j1 a0) z114 = some r ∧ a = Fr 86 (upd (upd σ115 1 (Pt b84 0)) 3 (.bool z114)) ∧ St w0 w I [cells b84 [r0_0, I6 a0.Nodes, r0_1, I6 a0.Frame, I6 a0.Depth, I6 a0.Quota, I6 a0.Wide, I6 a0.Beat, I6 a0.Elect]] R) ?_ ?_
 {
 refine wrl (wv (.bool z101) z z z (wv (.bool z101) z z z ?_))
 refine bsplit z101 (fun hc107 => ?_) (fun hc107 => ?_)
 {
 replace hm := bif_t hc107 hm
 refine wv (Pt b84 5) ((wanted_eq z z z (cvb hc107)).trans z) z (x_field z underlying28 z sizeOf3 z) (wv (.int .i64 a0.Quota) ((wanted_eq z z z (cvb hc107)).trans z) z (x_load z isAgg3 (hst.bc0 z)) (wv (.bool (decide (a0.Quota ≥ (1:Int)))) ((wanted_eq z z z (cvb hc107)).trans z) z z (wv (.bool (decide (a0.Quota ≥ (1:Int)))) z z (x_pick_t hc107 z z) (wv (.bool (decide (a0.Quota ≥ (1:Int)))) z z z ?_))))
 refine bsplit (decide (a0.Quota ≥ (1:Int))) (fun hc108 => ?_) (fun hc108 => ?_)
 {
 replace hm := bif_t hc108 hm
 refine wv (Pt b84 5) ((wanted_eq z z z (cvb hc108)).trans z) z (x_field z underlying28 z sizeOf3 z) (wv (.int .i64 a0.Quota) ((wanted_eq z z z (cvb hc108)).trans z) z (x_load z isAgg3 (hst.bc0 z)) (wv (.bool (decide (a0.Quota ≤ (268435456:Int)))) ((wanted_eq z z z (cvb hc108)).trans z) z z (wv (.bool (decide (a0.Quota ≤ (268435456:Int)))) z z (x_pick_t hc108 z z) (wv (.bool (decide (a0.Quota ≤ (268435456:Int)))) z z z ?_))))
 refine bsplit (decide (a0.Quota ≤ (268435456:Int))) (fun hc109 => ?_) (fun hc109 => ?_)
 {
 replace hm := bif_t hc109 hm
 refine wv (Pt b84 6) ((wanted_eq z z z (cvb hc109)).trans z) z (x_field z underlying28 z sizeOf3 z) (wv (.int .i64 a0.Wide) ((wanted_eq z z z (cvb hc109)).trans z) z (x_load z isAgg3 (hst.bc0 z)) (wv (.bool (decide (a0.Wide ≥ (0:Int)))) ((wanted_eq z z z (cvb hc109)).trans z) z z (wv (.bool (decide (a0.Wide ≥ (0:Int)))) z z (x_pick_t hc109 z z) (wv (.bool (decide (a0.Wide ≥ (0:Int)))) z z z ?_))))
 refine bsplit (decide (a0.Wide ≥ (0:Int))) (fun hc110 => ?_) (fun hc110 => ?_)
 {
 replace hm := bif_t hc110 hm
 refine wv (Pt b84 6) ((wanted_eq z z z (cvb hc110)).trans z) z (x_field z underlying28 z sizeOf3 z) (wv (.int .i64 a0.Wide) ((wanted_eq z z z (cvb hc110)).trans z) z (x_load z isAgg3 (hst.bc0 z)) (wv (.bool (decide (a0.Wide ≤ (256:Int)))) ((wanted_eq z z z (cvb hc110)).trans z) z z (wv (.bool (decide (a0.Wide ≤ (256:Int)))) z z (x_pick_t hc110 z z) (wv (.bool (decide (a0.Wide ≤ (256:Int)))) z z z ?_))))
 refine bsplit (decide (a0.Wide ≤ (256:Int))) (fun hc111 => ?_) (fun hc111 => ?_)
 {
 replace hm := bif_t hc111 hm
 refine wv (Pt b84 7) ((wanted_eq z z z (cvb hc111)).trans z) z (x_field z underlying28 z sizeOf3 z) (wv (.int .i64 a0.Beat) ((wanted_eq z z z (cvb hc111)).trans z) z (x_load z isAgg3 (hst.bc0 z)) (wv (.bool (decide (a0.Beat ≥ (1:Int)))) ((wanted_eq z z z (cvb hc111)).trans z) z z (wv (.bool (decide (a0.Beat ≥ (1:Int)))) z z (x_pick_t hc111 z z) (wv (.bool (decide (a0.Beat ≥ (1:Int)))) z z z ?_))))
 refine bsplit (decide (a0.Beat ≥ (1:Int))) (fun hc112 => ?_) (fun hc112 => ?_)
 {
 replace hm := bif_t hc112 hm
 refine wv (Pt b84 8) ((wanted_eq z z z (cvb hc112)).trans z) z (x_field z underlying28 z sizeOf3 z) (wv (.int .i64 a0.Elect) ((wanted_eq z z z (cvb hc112)).trans z) z (x_load z isAgg3 (hst.bc0 z)) (wv (Pt b84 7) ((wanted_eq z z z (cvb hc112)).trans z) z (x_field z underlying28 z sizeOf3 z) (wv (.int .i64 a0.Beat) ((wanted_eq z z z (cvb hc112)).trans z) z (x_load z isAgg3 (hst.bc0 z)) (wv (.bool (decide (a0.Elect > a0.Beat))) ((wanted_eq z z z (cvb hc112)).trans z) z z (wv (.bool (decide (a0.Elect > a0.Beat))) z z (x_pick_t hc112 z z) (wv (.bool (decide (a0.Elect > a0.Beat))) z z z ?_))))))
 refine bsplit (decide (a0.Elect > a0.Beat)) (fun hc113 => ?_) (fun hc113 => ?_)
 {
 replace hm := bif_t hc113 hm
 refine wv (Pt b84 8) ((wanted_eq z z z (cvb hc113)).trans z) z (x_field z underlying28 z sizeOf3 z) (wv (.int .i64 a0.Elect) ((wanted_eq z z z (cvb hc113)).trans z) z (x_load z isAgg3 (hst.bc0 z)) (wv (.bool (decide (a0.Elect ≤ (1000:Int)))) ((wanted_eq z z z (cvb hc113)).trans z) z z (wv (.bool (decide (a0.Elect ≤ (1000:Int)))) z z (x_pick_t hc113 z z) (wv (.bool (decide (a0.Elect ≤ (1000:Int)))) z z z (wl_nil (tn ?_))))))
 replace hst := hst.keep1
 obtain rfl := some_inj hm
 exact ⟨(decide (a0.Elect ≤ (1000:Int))), _, hx118, (fu 1 (Pt b84 0) z (fu 3 (.bool (decide (a0.Elect ≤ (1000:Int)))) z z)), hst⟩
}
 {
 replace hm := bif_f hc113 hm
 refine wo hc113 z z z z z z (wo hc113 z z z z z z (wo hc113 z z z z z z (wv (.bool false) z z (x_pick_f hc113 z z) (wv (.bool false) z z z (wl_nil (tn ?_))))))
 replace hst := hst.keep1
 obtain rfl := some_inj hm
 exact ⟨false, _, hx118, (fu 1 (Pt b84 0) z (fu 3 (.bool false) z z)), hst⟩
}
}
 {
 replace hm := bif_f hc112 hm
 refine wo hc112 z z z z z z (wo hc112 z z z z z z (wo hc112 z z z z z z (wo hc112 z z z z z z (wo hc112 z z z z z z (wv (.bool false) z z (x_pick_f hc112 z z) (wv (.bool false) z z z (wz z z z z z z (wz z z z z z z (wz z z z z z z (wv (.bool false) z z (x_pick_f z z z) (wv (.bool false) z z z (wl_nil (tn ?_)))))))))))))
 replace hst := hst.keep1
 obtain rfl := some_inj hm
 exact ⟨false, _, hx118, (fu 1 (Pt b84 0) z (fu 3 (.bool false) z z)), hst⟩
}
}
 {
 replace hm := bif_f hc111 hm
 refine wo hc111 z z z z z z (wo hc111 z z z z z z (wo hc111 z z z z z z (wv (.bool false) z z (x_pick_f hc111 z z) (wv (.bool false) z z z (wz z z z z z z (wz z z z z z z (wz z z z z z z (wz z z z z z z (wz z z z z z z (wv (.bool false) z z (x_pick_f z z z) (wv (.bool false) z z z (wz z z z z z z ?_))))))))))))
 refine wz z z z z z z (wz z z z z z z (wv (.bool false) z z (x_pick_f z z z) (wv (.bool false) z z z (wl_nil (tn ?_)))))
 replace hst := hst.keep1
 obtain rfl := some_inj hm
 exact ⟨false, _, hx118, (fu 1 (Pt b84 0) z (fu 3 (.bool false) z z)), hst⟩
}
}
 {
 replace hm := bif_f hc110 hm
 refine wo hc110 z z z z z z (wo hc110 z z z z z z (wo hc110 z z z z z z (wv (.bool false) z z (x_pick_f hc110 z z) (wv (.bool false) z z z (wz z z z z z z (wz z z z z z z (wz z z z z z z (wv (.bool false) z z (x_pick_f z z z) (wv (.bool false) z z z (wz z z z z z z (wz z z z z z z (wz z z z z z z ?_))))))))))))
 refine wz z z z z z z (wz z z z z z z (wv (.bool false) z z (x_pick_f z z z) (wv (.bool false) z z z (wz z z z z z z (wz z z z z z z (wz z z z z z z (wv (.bool false) z z (x_pick_f z z z) (wv (.bool false) z z z (wl_nil (tn ?_))))))))))
 replace hst := hst.keep1
 obtain rfl := some_inj hm
 exact ⟨false, _, hx118, (fu 1 (Pt b84 0) z (fu 3 (.bool false) z z)), hst⟩
}
}
 {
 replace hm := bif_f hc109 hm
 refine wo hc109 z z z z z z (wo hc109 z z z z z z (wo hc109 z z z z z z (wv (.bool false) z z (x_pick_f hc109 z z) (wv (.bool false) z z z (wz z z z z z z (wz z z z z z z (wz z z z z z z (wv (.bool false) z z (x_pick_f z z z) (wv (.bool false) z z z (wz z z z z z z (wz z z z z z z (wz z z z z z z ?_))))))))))))
 refine wv (.bool false) z z (x_pick_f z z z) (wv (.bool false) z z z (wz z z z z z z (wz z z z z z z (wz z z z z z z (wz z z z z z z (wz z z z z z z (wv (.bool false) z z (x_pick_f z z z) (wv (.bool false) z z z (wz z z z z z z (wz z z z z z z (wz z z z z z z (wv (.bool false) z z (x_pick_f z z z) ?_))))))))))))
 refine wv (.bool false) z z z (wl_nil (tn ?_))
 replace hst := hst.keep1
 obtain rfl := some_inj hm
 exact ⟨false, _, hx118, (fu 1 (Pt b84 0) z (fu 3 (.bool false) z z)), hst⟩
}
}
 {
 replace hm := bif_f hc108 hm
 refine wo hc108 z z z z z z (wo hc108 z z z z z z (wo hc108 z z z z z z (wv (.bool false) z z (x_pick_f hc108 z z) (wv (.bool false) z z z (wz z z z z z z (wz z z z z z z (wz z z z z z z (wv (.bool false) z z (x_pick_f z z z) (wv (.bool false) z z z (wz z z z z z z (wz z z z z z z (wz z z z z z z ?_))))))))))))
 refine wv (.bool false) z z (x_pick_f z z z) (wv (.bool false) z z z (wz z z z z z z (wz z z z z z z (wz z z z z z z (wv (.bool false) z z (x_pick_f z z z) (wv (.bool false) z z z (wz z z z z z z (wz z z z z z z (wz z z z z z z (wz z z z z z z (wz z z z z z z (wv (.bool false) z z (x_pick_f z z z) ?_))))))))))))
 refine wv (.bool false) z z z (wz z z z z z z (wz z z z z z z (wz z z z z z z (wv (.bool false) z z (x_pick_f z z z) (wv (.bool false) z z z (wl_nil (tn ?_)))))))
 replace hst := hst.keep1
 obtain rfl := some_inj hm
 exact ⟨false, _, hx118, (fu 1 (Pt b84 0) z (fu 3 (.bool false) z z)), hst⟩
}
}
 {
 replace hm := bif_f hc107 hm
 refine wo hc107 z z z z z z (wo hc107 z z z z z z (wo hc107 z z z z z z (wv (.bool false) z z (x_pick_f hc107 z z) (wv (.bool false) z z z (wz z z z z z z (wz z z z z z z (wz z z z z z z (wv (.bool false) z z (x_pick_f z z z) (wv (.bool false) z z z (wz z z z z z z (wz z z z z z z (wz z z z z z z ?_))))))))))))
 refine wv (.bool false) z z (x_pick_f z z z) (wv (.bool false) z z z (wz z z z z z z (wz z z z z z z (wz z z z z z z (wv (.bool false) z z (x_pick_f z z z) (wv (.bool false) z z z (wz z z z z z z (wz z z z z z z (wz z z z z z z (wv (.bool false) z z (x_pick_f z z z) (wv (.bool false) z z z (wz z z z z z z ?_))))))))))))
 refine wz z z z z z z (wz z z z z z z (wz z z z z z z (wz z z z z z z (wv (.bool false) z z (x_pick_f z z z) (wv (.bool false) z z z (wz z z z z z z (wz z z z z z z (wz z z z z z z (wv (.bool false) z z (x_pick_f z z z) (wv (.bool false) z z z (wl_nil (tn ?_))))))))))))
 replace hst := hst.keep1
 obtain rfl := some_inj hm
 exact ⟨false, _, hx118, (fu 1 (Pt b84 0) z (fu 3 (.bool false) z z)), hst⟩
}
}
 {
 clear hst
 rintro _ w119 ⟨z114, σ115, hm, rfl, hst⟩
 dsimp only [ref04_Check_j1] at hm
 refine wp_seq (wp_seq (wrl (wv (.bool z114) z z z (wv (.bool (!z114)) z z z (wl_nil (tn ?_))))))
 refine bsplit (!z114) (fun hc120 => ?_) (fun hc120 => ?_)
 {
 replace hm := bif_t hc120 hm
 refine wp_ift (cvb hc120) ?_
 refine wp_seq (wrl (wv (.int .i64 (1:Int)) z z z (wl_nil (tn (wp_ret (then_r ?_))))))
 obtain rfl := some_inj hm
 refine post_ret (vs := [I6 (1:Int)]) results12 (rvs_cons (rv_tmp z) rvs_nil) ?_
 exact ⟨z, hst.keep0⟩
}
 {
 replace hm := bif_f hc120 hm
 refine wp_iff (cvb hc120) ?_
 refine wp_skip (tn (wp_seq (wrl ?_)))
 refine wv (Pt b84 0) z z (x_field z underlying28 z sizeOf25 z) (wv (r0_0) z z (x_load z isAgg25 (hst.bc0 z)) ?_)
 obtain ⟨t121, ht122, hm⟩ := bind_some hm
 refine wc call35 [r0_0] z z z ?_
 refine (ref03_Check_ref (f0_0.mono (rd_weak _)) hst.to0 ht122).mono ?_
 rintro _ w123 ⟨rfl, hst⟩
 refine ⟨_, z, ?_⟩
 replace hst := hst.of0
 refine wv (.int .i64 t121) z z z (wl_nil (tn (wp_ret ?_)))
 obtain rfl := some_inj hm
 refine post_ret (vs := [I6 t121]) results12 (rvs_cons (rv_tmp z) rvs_nil) ?_
 exact ⟨z, hst.keep0⟩
}
}
}
}

end Go.Proofs.Ytkjkbfaaigmmcaa
