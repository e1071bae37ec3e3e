/- The Go functions refine their models, part 2. -/
import Derived.Test.YtbdbeenkamcglaaNetMostR1
set_option linter.unusedVariables false
set_option linter.unusedSimpArgs false
set_option maxRecDepth 100000
set_option maxHeartbeats 4000000
namespace Go.Proofs.Ytbdbeenkamcglaa
open Go Go.V
open _root_.Go.Proofs.Try IntKind
attribute [local irreducible] wpList Code.wp wpQuiet Calls bodyPost Oper.wp wpS Nx PendOK YieldsIn
theorem config_New_ref {w0 w : World} {I : HL} {R : SP} {a0 : api_Config} {r0_0 : Value} {r0_1 : Value} (f0_0 : Ro (tyInt .u64) I r0_0 a0.Up) (f0_1 : Ro tyF64 I r0_1 a0.Cuts) (hst : St w0 w I [] R) {r : (Option config_Plan × Int)} (hm : config_New a0 = some r) :
  Calls prog 12 #[.agg #[r0_0, I6 a0.Nodes, r0_1, I6 a0.Frame, I6 a0.Depth, I6 a0.Quota, I6 a0.Wide, I6 a0.Beat, I6 a0.Elect]] w fun e w' => ∃ (I' : HL) (q0 : Value), e = .returned (.tuple #[q0, I6 r.2]) ∧ I.le I' ∧ St w0 w' I' [objO at_config_Plan q0 r.1] R := by {
 unfold config_New at hm
 refine calls_start (args := [.agg #[r0_0, I6 a0.Nodes, r0_1, I6 a0.Frame, I6 a0.Depth, I6 a0.Quota, I6 a0.Wide, I6 a0.Beat, I6 a0.Elect]]) func12 z ntmps12 (Nat.le_of_ble_eq_true z) ?_
 have hI0 := HL.le.refl I
 refine wp_seq (wrl ?_)
 obtain ⟨b83, w84, ew85, eb86, hst⟩ := hst.box [r0_0, I6 a0.Nodes, r0_1, I6 a0.Frame, I6 a0.Depth, I6 a0.Quota, I6 a0.Wide, I6 a0.Beat, I6 a0.Elect] 43
 refine wl_run (v := Pt b83 0) (w' := w84) z z (x_al (by kernel_rfl) ew85 eb86) ?_
 refine wv (.pointer none) z z z (wv (.int .i64 (0:Int)) z z z (wl_nil (tn (wp_seq (wp_block ?_)))))
 obtain ⟨y99, hm, hx100⟩ := bind_some hm
 refine wp_cut (fun a w => ∃ (z96 : Bool) (σ97 : Nat → Value), (config_New_j0 a0) z96 = some r ∧ a = Fr 86 (upd (upd σ97 1 (Pt b83 0)) 6 (.bool z96)) ∧ St w0 w I [cells b83 [r0_0, I6 a0.Nodes, r0_1, I6 a0.Frame, I6 a0.Depth, I6 a0.Quota, I6 a0.Wide, I6 a0.Beat, I6 a0.Elect]] R) ?_ ?_
 {
 refine wp_seq (wrl (wv (Pt b83 1) z z (x_field z underlying43 z sizeOf3 z) (wv (.int .i64 a0.Nodes) z z (x_load z isAgg3 (hst.bc0 z)) (wv (.bool (decide (a0.Nodes < (1:Int)))) z z z (wv (.bool (decide (a0.Nodes < (1:Int)))) z z z ?_)))))
 refine bsplit (decide (a0.Nodes < (1:Int))) (fun hc88 => ?_) (fun hc88 => ?_)
 {
 replace hm := bif_t hc88 hm
 refine wo hc88 z z z z z z (wo hc88 z z z z z z (wo hc88 z z z z z z (wv (.bool true) z z (x_pick_t hc88 z z) (wv (.bool true) z z z (wl_nil (tn ?_))))))
 refine wp_ift z ?_
 refine wp_skip (tn ?_)
 replace hst := hst.keep1
 obtain rfl := some_inj hm
 exact ⟨true, _, hx100, (fu 1 (Pt b83 0) z (fu 6 (.bool true) z z)), hst⟩
}
 {
 replace hm := bif_f hc88 hm
 refine wv (Pt b83 1) ((wanted_eq z z z (cvb hc88)).trans z) z (x_field z underlying43 z sizeOf3 z) (wv (.int .i64 a0.Nodes) ((wanted_eq z z z (cvb hc88)).trans z) z (x_load z isAgg3 (hst.bc0 z)) (wv (.bool (decide (a0.Nodes > (7:Int)))) ((wanted_eq z z z (cvb hc88)).trans z) z z (wv (.bool (decide (a0.Nodes > (7:Int)))) z z (x_pick_f hc88 z z) (wv (.bool (decide (a0.Nodes > (7:Int)))) z z z (wl_nil (tn ?_))))))
 refine bsplit (decide (a0.Nodes > (7:Int))) (fun hc89 => ?_) (fun hc89 => ?_)
 {
 replace hm := bif_t hc89 hm
 refine wp_ift (cvb hc89) ?_
 refine wp_skip (tn ?_)
 replace hst := hst.keep1
 obtain rfl := some_inj hm
 exact ⟨(decide (a0.Nodes > (7:Int))), _, hx100, (fu 1 (Pt b83 0) z (fu 6 (.bool (decide (a0.Nodes > (7:Int)))) z z)), hst⟩
}
 {
 replace hm := bif_f hc89 hm
 refine wp_iff (cvb hc89) ?_
 refine wp_seq (wrl (wv (Pt b83 2) z z (x_field z underlying43 z sizeOf41 z) (wv (r0_1) z z (x_load z isAgg41 (hst.bc0 z)) (wv (.int .i64 ((a0.Cuts).length : Int)) z z (x_len z underlying41 (ro_sliceV f0_1)) (wv (.bool (decide (((a0.Cuts).length : Int) ≥ (8:Int)))) z z z (wv (.bool (decide (((a0.Cuts).length : Int) ≥ (8:Int)))) z z z (wl_nil (tn ?_))))))))
 refine bsplit (decide (((a0.Cuts).length : Int) ≥ (8:Int))) (fun hc90 => ?_) (fun hc90 => ?_)
 {
 replace hm := bif_t hc90 hm
 refine wp_ift (cvb hc90) ?_
 refine wp_skip (tn ?_)
 replace hst := hst.keep1
 obtain rfl := some_inj hm
 exact ⟨(decide (((a0.Cuts).length : Int) ≥ (8:Int))), _, hx100, (fu 1 (Pt b83 0) z (fu 6 (.bool (decide (((a0.Cuts).length : Int) ≥ (8:Int)))) z z)), hst⟩
}
 {
 replace hm := bif_f hc90 hm
 refine wp_iff (cvb hc90) ?_
 refine wrl (wv (Pt b83 2) z z (x_field z underlying43 z sizeOf41 z) (wv (r0_1) z z (x_load z isAgg41 (hst.bc0 z)) ?_))
 obtain ⟨t91, ht92, hm⟩ := bind_some hm
 refine wc call19 [r0_1] z z z ?_
 refine (number_Rising_ref (f0_1.mono ro_rd) hst.to0 ht92).mono ?_
 rintro _ w93 ⟨rfl, hst⟩
 refine ⟨_, z, ?_⟩
 replace hst := hst.of0
 refine wv (.bool (!t91)) z z z (wv (.bool (!t91)) z z z (wl_nil (tn ?_)))
 replace hst := hst.keep1
 obtain rfl := some_inj hm
 exact ⟨(!t91), _, hx100, (fu 1 (Pt b83 0) z (fu 6 (.bool (!t91)) z z)), hst⟩
}
}
}
}
 {
 clear hst
 rintro _ w101 ⟨z96, σ97, hm, rfl, hst⟩
 dsimp only [config_New_j0] at hm
 refine bsplit z96 (fun hc102 => ?_) (fun hc102 => ?_)
 {
 replace hm := bif_t hc102 hm
 refine wp_ift (cvb hc102) ?_
 refine wp_seq (wrl (wv (.pointer none) z z z (wv (.int .i64 (1:Int)) z z z (wl_nil (tn (wp_ret (blk_r (then_r ?_))))))))
 replace hst := hst.objO_nil at_config_Plan
 obtain rfl := some_inj hm
 refine post_ret (vs := [.pointer none, I6 (1:Int)]) results12 (rvs_cons (rv_tmp z) (rvs_cons (rv_tmp z) rvs_nil)) ?_
 exact ⟨_, .pointer none, z, hI0, hst.keep1⟩
}
 {
 replace hm := bif_f hc102 hm
 refine wp_iff (cvb hc102) ?_
 obtain ⟨y110, hm, hx111⟩ := bind_some hm
 refine wp_cut (fun a w => ∃ (z107 : Bool) (σ108 : Nat → Value), (config_New_j1 a0) z107 = some r ∧ a = Fr 86 (upd (upd σ108 1 (Pt b83 0)) 23 (.bool z107)) ∧ St w0 w I [cells b83 [r0_0, I6 a0.Nodes, r0_1, I6 a0.Frame, I6 a0.Depth, I6 a0.Quota, I6 a0.Wide, I6 a0.Beat, I6 a0.Elect]] R) ?_ ?_
 {
 refine wp_seq (wrl (wv (Pt b83 3) z z (x_field z underlying43 z sizeOf3 z) (wv (.int .i64 a0.Frame) z z (x_load z isAgg3 (hst.bc0 z)) (wv (.bool (decide (a0.Frame < (64:Int)))) z z z (wv (.bool (decide (a0.Frame < (64:Int)))) z z z ?_)))))
 refine bsplit (decide (a0.Frame < (64:Int))) (fun hc104 => ?_) (fun hc104 => ?_)
 {
 replace hm := bif_t hc104 hm
 refine wo hc104 z z z z z z (wo hc104 z z z z z z (wo hc104 z z z z z z (wv (.bool true) z z (x_pick_t hc104 z z) (wv (.bool true) z z z (wl_nil (tn ?_))))))
 refine wp_ift z ?_
 refine wp_skip (tn ?_)
 replace hst := hst.keep1
 obtain rfl := some_inj hm
 exact ⟨true, _, hx111, (fu 1 (Pt b83 0) z (fu 23 (.bool true) z z)), hst⟩
}
 {
 replace hm := bif_f hc104 hm
 refine wv (Pt b83 3) ((wanted_eq z z z (cvb hc104)).trans z) z (x_field z underlying43 z sizeOf3 z) (wv (.int .i64 a0.Frame) ((wanted_eq z z z (cvb hc104)).trans z) z (x_load z isAgg3 (hst.bc0 z)) (wv (.bool (decide (a0.Frame > (4096:Int)))) ((wanted_eq z z z (cvb hc104)).trans z) z z (wv (.bool (decide (a0.Frame > (4096:Int)))) z z (x_pick_f hc104 z z) (wv (.bool (decide (a0.Frame > (4096:Int)))) z z z (wl_nil (tn ?_))))))
 refine bsplit (decide (a0.Frame > (4096:Int))) (fun hc105 => ?_) (fun hc105 => ?_)
 {
 replace hm := bif_t hc105 hm
 refine wp_ift (cvb hc105) ?_
 refine wp_skip (tn ?_)
 replace hst := hst.keep1
 obtain rfl := some_inj hm
 exact ⟨(decide (a0.Frame > (4096:Int))), _, hx111, (fu 1 (Pt b83 0) z (fu 23 (.bool (decide (a0.Frame > (4096:Int)))) z z)), hst⟩
}
 {
 replace hm := bif_f hc105 hm
 refine wp_iff (cvb hc105) ?_
 refine wrl (wv (Pt b83 4) z z (x_field z underlying43 z sizeOf3 z) (wv (.int .i64 a0.Depth) z z (x_load z isAgg3 (hst.bc0 z)) (wv (.bool (decide (a0.Depth < (1:Int)))) z z z (wv (.bool (decide (a0.Depth < (1:Int)))) z z z ?_))))
 refine bsplit (decide (a0.Depth < (1:Int))) (fun hc106 => ?_) (fun hc106 => ?_)
 {
 replace hm := bif_t hc106 hm
 refine wo hc106 z z z z z z (wo hc106 z z z z z z (wo hc106 z z z z z z (wv (.bool true) z z (x_pick_t hc106 z z) (wv (.bool true) z z z (wl_nil (tn ?_))))))
 replace hst := hst.keep1
 obtain rfl := some_inj hm
 exact ⟨true, _, hx111, (fu 1 (Pt b83 0) z (fu 23 (.bool true) z z)), hst⟩
}
 {
 replace hm := bif_f hc106 hm
 refine wv (Pt b83 4) ((wanted_eq z z z (cvb hc106)).trans z) z (x_field z underlying43 z sizeOf3 z) (wv (.int .i64 a0.Depth) ((wanted_eq z z z (cvb hc106)).trans z) z (x_load z isAgg3 (hst.bc0 z)) (wv (.bool (decide (a0.Depth > (65536:Int)))) ((wanted_eq z z z (cvb hc106)).trans z) z z (wv (.bool (decide (a0.Depth > (65536:Int)))) z z (x_pick_f hc106 z z) (wv (.bool (decide (a0.Depth > (65536:Int)))) z z z (wl_nil (tn ?_))))))
 replace hst := hst.keep1
 obtain rfl := some_inj hm
 exact ⟨(decide (a0.Depth > (65536:Int))), _, hx111, (fu 1 (Pt b83 0) z (fu 23 (.bool (decide (a0.Depth > (65536:Int)))) z z)), hst⟩
}
}
}
}
 {
 clear hst
 rintro _ w112 ⟨z107, σ108, hm, rfl, hst⟩
 dsimp only [config_New_j1] at hm
 refine bsplit z107 (fun hc113 => ?_) (fun hc113 => ?_)
 {
 replace hm := bif_t hc113 hm
 refine wp_ift (cvb hc113) ?_
 refine wp_seq (wrl (wv (.pointer none) z z z (wv (.int .i64 (1:Int)) z z z (wl_nil (tn (wp_ret (blk_r (then_r ?_))))))))
 replace hst := hst.objO_nil at_config_Plan
 obtain rfl := some_inj hm
 refine post_ret (vs := [.pointer none, I6 (1:Int)]) results12 (rvs_cons (rv_tmp z) (rvs_cons (rv_tmp z) rvs_nil)) ?_
 exact ⟨_, .pointer none, z, hI0, hst.keep1⟩
}
 {
 replace hm := bif_f hc113 hm
 refine wp_iff (cvb hc113) ?_
 obtain ⟨y121, hm, hx122⟩ := bind_some hm
 refine wp_cut (fun a w => ∃ (z118 : Bool) (σ119 : Nat → Value), (config_New_j2 a0) z118 = some r ∧ a = Fr 86 (upd (upd σ119 1 (Pt b83 0)) 40 (.bool z118)) ∧ St w0 w I [cells b83 [r0_0, I6 a0.Nodes, r0_1, I6 a0.Frame, I6 a0.Depth, I6 a0.Quota, I6 a0.Wide, I6 a0.Beat, I6 a0.Elect]] R) ?_ ?_
 {
 refine wp_seq (wrl (wv (Pt b83 5) z z (x_field z underlying43 z sizeOf3 z) (wv (.int .i64 a0.Quota) z z (x_load z isAgg3 (hst.bc0 z)) (wv (.bool (decide (a0.Quota < (1:Int)))) z z z (wv (.bool (decide (a0.Quota < (1:Int)))) z z z ?_)))))
 refine bsplit (decide (a0.Quota < (1:Int))) (fun hc115 => ?_) (fun hc115 => ?_)
 {
 replace hm := bif_t hc115 hm
 refine wo hc115 z z z z z z (wo hc115 z z z z z z (wo hc115 z z z z z z (wv (.bool true) z z (x_pick_t hc115 z z) (wv (.bool true) z z z (wl_nil (tn ?_))))))
 refine wp_ift z ?_
 refine wp_skip (tn ?_)
 replace hst := hst.keep1
 obtain rfl := some_inj hm
 exact ⟨true, _, hx122, (fu 1 (Pt b83 0) z (fu 40 (.bool true) z z)), hst⟩
}
 {
 replace hm := bif_f hc115 hm
 refine wv (Pt b83 5) ((wanted_eq z z z (cvb hc115)).trans z) z (x_field z underlying43 z sizeOf3 z) (wv (.int .i64 a0.Quota) ((wanted_eq z z z (cvb hc115)).trans z) z (x_load z isAgg3 (hst.bc0 z)) (wv (.bool (decide (a0.Quota > (268435456:Int)))) ((wanted_eq z z z (cvb hc115)).trans z) z z (wv (.bool (decide (a0.Quota > (268435456:Int)))) z z (x_pick_f hc115 z z) (wv (.bool (decide (a0.Quota > (268435456:Int)))) z z z (wl_nil (tn ?_))))))
 refine bsplit (decide (a0.Quota > (268435456:Int))) (fun hc116 => ?_) (fun hc116 => ?_)
 {
 replace hm := bif_t hc116 hm
 refine wp_ift (cvb hc116) ?_
 refine wp_skip (tn ?_)
 replace hst := hst.keep1
 obtain rfl := some_inj hm
 exact ⟨(decide (a0.Quota > (268435456:Int))), _, hx122, (fu 1 (Pt b83 0) z (fu 40 (.bool (decide (a0.Quota > (268435456:Int)))) z z)), hst⟩
}
 {
 replace hm := bif_f hc116 hm
 refine wp_iff (cvb hc116) ?_
 refine wrl (wv (Pt b83 6) z z (x_field z underlying43 z sizeOf3 z) (wv (.int .i64 a0.Wide) z z (x_load z isAgg3 (hst.bc0 z)) (wv (.bool (decide (a0.Wide < (0:Int)))) z z z (wv (.bool (decide (a0.Wide < (0:Int)))) z z z ?_))))
 refine bsplit (decide (a0.Wide < (0:Int))) (fun hc117 => ?_) (fun hc117 => ?_)
 {
 replace hm := bif_t hc117 hm
 refine wo hc117 z z z z z z (wo hc117 z z z z z z (wo hc117 z z z z z z (wv (.bool true) z z (x_pick_t hc117 z z) (wv (.bool true) z z z (wl_nil (tn ?_))))))
 replace hst := hst.keep1
 obtain rfl := some_inj hm
 exact ⟨true, _, hx122, (fu 1 (Pt b83 0) z (fu 40 (.bool true) z z)), hst⟩
}
 {
 replace hm := bif_f hc117 hm
 refine wv (Pt b83 6) ((wanted_eq z z z (cvb hc117)).trans z) z (x_field z underlying43 z sizeOf3 z) (wv (.int .i64 a0.Wide) ((wanted_eq z z z (cvb hc117)).trans z) z (x_load z isAgg3 (hst.bc0 z)) (wv (.bool (decide (a0.Wide > (256:Int)))) ((wanted_eq z z z (cvb hc117)).trans z) z z (wv (.bool (decide (a0.Wide > (256:Int)))) z z (x_pick_f hc117 z z) (wv (.bool (decide (a0.Wide > (256:Int)))) z z z (wl_nil (tn ?_))))))
 replace hst := hst.keep1
 obtain rfl := some_inj hm
 exact ⟨(decide (a0.Wide > (256:Int))), _, hx122, (fu 1 (Pt b83 0) z (fu 40 (.bool (decide (a0.Wide > (256:Int)))) z z)), hst⟩
}
}
}
}
 {
 clear hst
 rintro _ w123 ⟨z118, σ119, hm, rfl, hst⟩
 dsimp only [config_New_j2] at hm
 refine bsplit z118 (fun hc124 => ?_) (fun hc124 => ?_)
 {
 replace hm := bif_t hc124 hm
 refine wp_ift (cvb hc124) ?_
 refine wp_seq (wrl (wv (.pointer none) z z z (wv (.int .i64 (1:Int)) z z z (wl_nil (tn (wp_ret (blk_r (then_r ?_))))))))
 replace hst := hst.objO_nil at_config_Plan
 obtain rfl := some_inj hm
 refine post_ret (vs := [.pointer none, I6 (1:Int)]) results12 (rvs_cons (rv_tmp z) (rvs_cons (rv_tmp z) rvs_nil)) ?_
 exact ⟨_, .pointer none, z, hI0, hst.keep1⟩
}
 {
 replace hm := bif_f hc124 hm
 refine wp_iff (cvb hc124) ?_
 refine wp_seq (wrl (wv (Pt b83 7) z z (x_field z underlying43 z sizeOf3 z) (wv (.int .i64 a0.Beat) z z (x_load z isAgg3 (hst.bc0 z)) (wv (.bool (decide (a0.Beat < (1:Int)))) z z z (wv (.bool (decide (a0.Beat < (1:Int)))) z z z ?_)))))
 refine bsplit (decide (a0.Beat < (1:Int))) (fun hc126 => ?_) (fun hc126 => ?_)
 {
 replace hm := bif_t hc126 hm
 refine wo hc126 z z z z z z (wo hc126 z z z z z z (wo hc126 z z z z z z (wo hc126 z z z z z z (wo hc126 z z z z z z (wv (.bool true) z z (x_pick_t hc126 z z) (wv (.bool true) z z z (wz z z z z z z (wz z z z z z z (wz z z z z z z (wv (.bool true) z z (x_pick_t z z z) (wv (.bool true) z z z (wl_nil (tn ?_)))))))))))))
 refine wp_ift z ?_
 refine wp_seq (wrl (wv (.pointer none) z z z (wv (.int .i64 (1:Int)) z z z (wl_nil (tn (wp_ret (blk_r (then_r ?_))))))))
 replace hst := hst.objO_nil at_config_Plan
 obtain rfl := some_inj hm
 refine post_ret (vs := [.pointer none, I6 (1:Int)]) results12 (rvs_cons (rv_tmp z) (rvs_cons (rv_tmp z) rvs_nil)) ?_
 exact ⟨_, .pointer none, z, hI0, hst.keep1⟩
}
 {
 replace hm := bif_f hc126 hm
 refine wv (Pt b83 8) ((wanted_eq z z z (cvb hc126)).trans z) z (x_field z underlying43 z sizeOf3 z) (wv (.int .i64 a0.Elect) ((wanted_eq z z z (cvb hc126)).trans z) z (x_load z isAgg3 (hst.bc0 z)) (wv (Pt b83 7) ((wanted_eq z z z (cvb hc126)).trans z) z (x_field z underlying43 z sizeOf3 z) (wv (.int .i64 a0.Beat) ((wanted_eq z z z (cvb hc126)).trans z) z (x_load z isAgg3 (hst.bc0 z)) (wv (.bool (decide (a0.Elect ≤ a0.Beat))) ((wanted_eq z z z (cvb hc126)).trans z) z z (wv (.bool (decide (a0.Elect ≤ a0.Beat))) z z (x_pick_f hc126 z z) (wv (.bool (decide (a0.Elect ≤ a0.Beat))) z z z ?_))))))
 refine bsplit (decide (a0.Elect ≤ a0.Beat)) (fun hc128 => ?_) (fun hc128 => ?_)
 {
 replace hm := bif_t hc128 hm
 refine wo hc128 z z z z z z (wo hc128 z z z z z z (wo hc128 z z z z z z (wv (.bool true) z z (x_pick_t hc128 z z) (wv (.bool true) z z z (wl_nil (tn ?_))))))
 refine wp_ift z ?_
 refine wp_seq (wrl (wv (.pointer none) z z z (wv (.int .i64 (1:Int)) z z z (wl_nil (tn (wp_ret (blk_r (then_r ?_))))))))
 replace hst := hst.objO_nil at_config_Plan
 obtain rfl := some_inj hm
 refine post_ret (vs := [.pointer none, I6 (1:Int)]) results12 (rvs_cons (rv_tmp z) (rvs_cons (rv_tmp z) rvs_nil)) ?_
 exact ⟨_, .pointer none, z, hI0, hst.keep1⟩
}
 {
 replace hm := bif_f hc128 hm
 refine wv (Pt b83 8) ((wanted_eq z z z (cvb hc128)).trans z) z (x_field z underlying43 z sizeOf3 z) (wv (.int .i64 a0.Elect) ((wanted_eq z z z (cvb hc128)).trans z) z (x_load z isAgg3 (hst.bc0 z)) (wv (.bool (decide (a0.Elect > (1000:Int)))) ((wanted_eq z z z (cvb hc128)).trans z) z z (wv (.bool (decide (a0.Elect > (1000:Int)))) z z (x_pick_f hc128 z z) (wv (.bool (decide (a0.Elect > (1000:Int)))) z z z (wl_nil (tn ?_))))))
 refine bsplit (decide (a0.Elect > (1000:Int))) (fun hc130 => ?_) (fun hc130 => ?_)
 {
 replace hm := bif_t hc130 hm
 refine wp_ift (cvb hc130) ?_
 refine wp_seq (wrl (wv (.pointer none) z z z (wv (.int .i64 (1:Int)) z z z (wl_nil (tn (wp_ret (blk_r (then_r ?_))))))))
 replace hst := hst.objO_nil at_config_Plan
 obtain rfl := some_inj hm
 refine post_ret (vs := [.pointer none, I6 (1:Int)]) results12 (rvs_cons (rv_tmp z) (rvs_cons (rv_tmp z) rvs_nil)) ?_
 exact ⟨_, .pointer none, z, hI0, hst.keep1⟩
}
 {
 replace hm := bif_f hc130 hm
 refine wp_iff (cvb hc130) ?_
 refine wp_skip (blk_n (tn (wp_seq (wrl ?_))))
 refine wv (Pt b83 0) z z (x_field z underlying43 z sizeOf40 z) (wv (r0_0) z z (x_load z isAgg40 (hst.bc0 z)) ?_)
 obtain ⟨t132, ht133, hm⟩ := bind_some hm
 refine wc call20 [r0_0] z z z ?_
 refine (label_New_ref (f0_0.mono ro_rd) hst.to0 ht133).mono ?_
 rintro _ w134 ⟨I135, v137, rfl, hI136, hst⟩
 refine ⟨_, z, ?_⟩
 replace hst := hst.of1
 replace f0_0 := f0_0.mono (ro_le hI136)
 replace f0_1 := f0_1.mono (ro_le hI136)
 replace hI0 := hI0.trans hI136
 refine wv (.tuple #[v137, I6 t132.2]) z z z (wv (v137) z z z (wv (.int .i64 t132.2) z z z (wv (v137) z z z (wv (.int .i64 t132.2) z z z (wl_nil (tn (wp_seq (wp_seq (wrl (wv (.int .i64 t132.2) z z z (wv (.bool (t132.2 != (0:Int))) z z z (wl_nil (tn ?_)))))))))))))
 refine bsplit (t132.2 != (0:Int)) (fun hc139 => ?_) (fun hc139 => ?_)
 {
 replace hm := bif_t hc139 hm
 refine wp_ift (cvb hc139) ?_
 refine wp_seq (wrl (wv (.int .i64 t132.2) z z z (wv (.pointer none) z z z (wv (.int .i64 t132.2) z z z (wl_nil (tn (wp_ret (then_r ?_))))))))
 replace hst := hst.objO_nil at_config_Plan
 obtain rfl := some_inj hm
 refine post_ret (vs := [.pointer none, I6 t132.2]) results12 (rvs_cons (rv_tmp z) (rvs_cons (rv_tmp z) rvs_nil)) ?_
 exact ⟨_, .pointer none, z, hI0, hst.keep1⟩
}
 {
 replace hm := bif_f hc139 hm
 refine wp_iff (cvb hc139) ?_
 refine wp_skip (tn (wp_seq (wrl ?_)))
 refine wv (.agg #[r0_0, I6 a0.Nodes, r0_1, I6 a0.Frame, I6 a0.Depth, I6 a0.Quota, I6 a0.Wide, I6 a0.Beat, I6 a0.Elect]) z z (x_loadN (cs := [r0_0, I6 a0.Nodes, r0_1, I6 a0.Frame, I6 a0.Depth, I6 a0.Quota, I6 a0.Wide, I6 a0.Beat, I6 a0.Elect]) z isAgg43 sizeOf43 (hst.bcs1 0 z)) (wv (v137) z z z (wv (.agg #[r0_0, I6 a0.Nodes, r0_1, I6 a0.Frame, I6 a0.Depth, I6 a0.Quota, I6 a0.Wide, I6 a0.Beat, I6 a0.Elect, v137]) z z (by obtain ⟨_, ha_, _⟩ := at_label_Lattice_isnil hst; rw [ha_]; obtain ⟨_, _, hv_, _⟩ := (ro_sliceV f0_1); rw [hv_]; obtain ⟨_, _, hv_, _⟩ := (ro_sliceV f0_0); rw [hv_]; kernel_rfl) ?_))
 obtain ⟨b143, w144, ew145, eb146, hst⟩ := hst.box [r0_0, I6 a0.Nodes, r0_1, I6 a0.Frame, I6 a0.Depth, I6 a0.Quota, I6 a0.Wide, I6 a0.Beat, I6 a0.Elect, v137] 63
 refine wl_run (v := Pt b143 0) (w' := w144) z z (x_al (by kernel_rfl) ew145 eb146) ?_
 refine wv (Pt b143 0) z z z (wv (.int .i64 (0:Int)) z z z (wl_nil (tn (wp_ret ?_))))
 replace hst := hst.pull1.pull1
 replace hst := at_config_Plan_close (pv := Pt b143 0) (x := ({ C := a0, L := t132.1 } : config_Plan)) hst ⟨z, f0_0, f0_1⟩
 replace hst := objO_some hst
 obtain rfl := some_inj hm
 refine post_ret (vs := [Pt b143 0, Zi]) results12 (rvs_cons (rv_tmp z) (rvs_cons (rv_tmp z) rvs_nil)) ?_
 exact ⟨_, Pt b143 0, z, hI0, hst.keep1⟩
}
}
}
}
}
}
}
}
}
}
}

theorem net_New_ref {w0 w : World} {I : HL} {R : SP} {a0 : (Option config_Plan)} {p0 : Value}  (hst : St w0 w I [objO at_config_Plan p0 a0] R) {r : (net_Net)} (hm : net_New a0 = some r) :
  Calls prog 13 #[p0] w fun e w' => ∃ (q0 : Value), e = .returned (q0) ∧ St w0 w' I [at_net_Net q0 r] R := by {
 unfold net_New at hm
 refine calls_start (args := [p0]) func13 z ntmps13 (Nat.le_of_ble_eq_true z) ?_
 refine wp_seq (wrl (wv (.pointer none) z z z (wl_nil (tn (wp_seq (wrl (wv (p0) z z z ?_)))))))
 obtain ⟨b46, w47, hr48, hst⟩ := run_mkmap (P := prog) hst 50
 refine wl_run (v := .map (some b46)) (w' := w47) z z (x_mkmap hr48) ?_
 refine wv (.agg #[p0, (.map (some b46))]) z z (by obtain ⟨_, ha_, _⟩ := at_config_Plan_isnil hst.pull1; rw [ha_]; kernel_rfl) ?_
 obtain ⟨b50, w51, ew52, eb53, hst⟩ := hst.box [p0, (.map (some b46))] 52
 refine wl_run (v := Pt b50 0) (w' := w51) z z (x_al (by kernel_rfl) ew52 eb53) ?_
 refine wv (Pt b50 0) z z z (wl_nil (tn (wp_ret ?_)))
 replace hst := hst.pull1.E_mapO (E := (tySl (tyInt .u8))) (kf := kv_net_Link)
 replace hst := hst.pull2.pull2
 replace hst := at_net_Net_close (pv := Pt b50 0) (x := ({ p := a0, m := none } : net_Net)) hst z
 obtain rfl := some_inj hm
 refine post_ret (vs := [Pt b50 0]) results13 (rvs_cons (rv_tmp z) rvs_nil) ?_
 exact ⟨.pointer (some ⟨b50, 0, none⟩), z, hst.keep1⟩
}

theorem law21_open_ref {w0 w : World} {I : HL} {R : SP}   (hst : St w0 w I [] R) {r : (Option net_Net)} (hm : law21_open = some r) :
  Calls prog 6 #[] w fun e w' => ∃ (I' : HL) (q0 : Value) (q1 : Value), e = .returned (.tuple #[q0, q1]) ∧ I.le I' ∧ St w0 w' I' [objO at_net_Net q0 r] R := by {
 unfold law21_open at hm
 refine calls_start (args := []) func6 z ntmps6 (Nat.le_of_ble_eq_true z) ?_
 have hI0 := HL.le.refl I
 refine wp_seq (wrl (wv (.pointer none) z z z (wv (.pointer none) z z z (wl_nil (tn (wp_seq (wrl ?_)))))))
 obtain ⟨t42, ht43, hm⟩ := bind_some hm
 refine wc call11 [Zb] z z z ?_
 refine (ref04_Small_ref hst.to0 ht43).mono ?_
 rintro _ w44 ⟨v47, v49, rfl, hst⟩
 refine ⟨_, z, ?_⟩
 replace hst := hst.of2
 obtain ⟨b53, w54, ew55, eb56, hst⟩ := hst.box [Zs, Zi, Zs, Zi, Zi, Zi, Zi, Zi, Zi] 43
 refine wl_run (v := Pt b53 0) (w' := w54) z z (x_al (by kernel_rfl) ew55 eb56) ?_
 obtain ⟨w58, hr59, hst⟩ := hst.bx [v47, I6 t42.Nodes, v49, I6 t42.Frame, I6 t42.Depth, I6 t42.Quota, I6 t42.Wide, I6 t42.Beat, I6 t42.Elect] sizeOf43 z (oC (one_of_sliceV hst.sv1) (oC z (oC (one_of_sliceV hst.sv2) (oC z (oC z (oC z (oC z (oC z (oC z oN))))))))) (by kernel_rfl)
 refine wl_unit z z (x_unit hr59) ?_
 refine wl_nil (tn (wp_seq (wrl (wv (Pt b53 1) z z (x_field z underlying43 z sizeOf3 z) ?_))))
 obtain ⟨w60, hr61, hst⟩ := hst.by_ [v47, I6 (3:Int), v49, I6 t42.Frame, I6 t42.Depth, I6 t42.Quota, I6 t42.Wide, I6 t42.Beat, I6 t42.Elect] 1 (.int .i64 (3:Int)) sizeOf3 z (oC z oN) (by kernel_rfl)
 refine wl_unit z z (x_unit hr61) ?_
 refine wl_nil (tn (wp_seq (wrl (wv (.agg #[v47, I6 (3:Int), v49, I6 t42.Frame, I6 t42.Depth, I6 t42.Quota, I6 t42.Wide, I6 t42.Beat, I6 t42.Elect]) z z (x_loadN (cs := [v47, I6 (3:Int), v49, I6 t42.Frame, I6 t42.Depth, I6 t42.Quota, I6 t42.Wide, I6 t42.Beat, I6 t42.Elect]) z isAgg43 sizeOf43 (hst.bcs0 0 z)) ?_))))
 replace hst := hst.pull1
 obtain ⟨I62, hI63, f64, hst⟩ := hst.own_fix
 replace hI0 := hI0.trans hI63
 replace hst := hst.pull1
 obtain ⟨I65, hI66, f67, hst⟩ := hst.own_fix
 replace f64 := f64.mono (ro_le hI66)
 replace hI0 := hI0.trans hI66
 obtain ⟨t68, ht69, hm⟩ := bind_some hm
 refine wc call12 [.agg #[v47, I6 (3:Int), v49, I6 t42.Frame, I6 t42.Depth, I6 t42.Quota, I6 t42.Wide, I6 t42.Beat, I6 t42.Elect]] z z z ?_
 refine (config_New_ref (a0 := ({ Up := t42.Up, Nodes := (3:Int), Cuts := t42.Cuts, Frame := t42.Frame, Depth := t42.Depth, Quota := t42.Quota, Wide := t42.Wide, Beat := t42.Beat, Elect := t42.Elect } : api_Config)) f64 f67 hst.to0 ht69).mono ?_
 rintro _ w70 ⟨I71, v73, rfl, hI72, hst⟩
 refine ⟨_, z, ?_⟩
 replace hst := hst.of1
 replace f64 := f64.mono (ro_le hI72)
 replace f67 := f67.mono (ro_le hI72)
 replace hI0 := hI0.trans hI72
 refine wv (.tuple #[v73, I6 t68.2]) z z z (wv (v73) z z z (wv (.int .i64 t68.2) z z z (wv (v73) z z z (wv (.int .i64 t68.2) z z z (wl_nil (tn (wp_seq (wp_seq (wrl (wv (.int .i64 t68.2) z z z (wv (.bool (t68.2 != (0:Int))) z z z (wl_nil (tn ?_)))))))))))))
 refine bsplit (t68.2 != (0:Int)) (fun hc75 => ?_) (fun hc75 => ?_)
 {
 replace hm := bif_t hc75 hm
 refine wp_ift (cvb hc75) ?_
 refine wp_seq (wrl (wv (.pointer none) z z z (wv (.pointer none) z z z (wl_nil (tn (wp_ret (then_r ?_)))))))
 replace hst := hst.objO_nil at_net_Net
 obtain rfl := some_inj hm
 refine post_ret (vs := [.pointer none, .pointer none]) results6 (rvs_cons (rv_tmp z) (rvs_cons (rv_tmp z) rvs_nil)) ?_
 exact ⟨_, .pointer none, .pointer none, z, hI0, hst.keep1⟩
}
 {
 replace hm := bif_f hc75 hm
 refine wp_iff (cvb hc75) ?_
 refine wp_skip (tn (wp_seq (wrl ?_)))
 refine wv (v73) z z z ?_
 obtain ⟨t77, ht78, hm⟩ := bind_some hm
 refine wc call13 [v73] z z z ?_
 refine (net_New_ref hst.to1 ht78).mono ?_
 rintro _ w79 ⟨v82, rfl, hst⟩
 refine ⟨_, z, ?_⟩
 replace hst := hst.of1
 refine wv (v73) z z z (wv (v82) z z z (wv (v73) z z z (wl_nil (tn (wp_ret ?_)))))
 replace hst := objO_some hst
 obtain rfl := some_inj hm
 refine post_ret (vs := [v82, v73]) results6 (rvs_cons (rv_tmp z) (rvs_cons (rv_tmp z) rvs_nil)) ?_
 exact ⟨_, v82, v73, z, hI0, hst.keep1⟩
}
}

theorem config_Plan_Node_ref {w0 w : World} {I : HL} {R : SP} {a0 : (Option config_Plan)} {p0 : Value} {a1 : Int}  (hst : St w0 w I [objO at_config_Plan p0 a0] R) {r : (Bool)} (hm : config_Plan_Node a0 a1 = some r) :
  Calls prog 21 #[p0, I6 a1] w fun e w' => e = .returned (.bool r) ∧ St w0 w' I [objO at_config_Plan p0 a0] R := by {
 rcases a0 with _ | o0
 {
 obtain ⟨rfl, hst'⟩ := objO_none hst
 clear hst
 have hst := hst'
 clear hst'
 dsimp only [config_Plan_Node] at hm
 refine calls_start (args := [.pointer none, I6 a1]) func21 z ntmps21 (Nat.le_of_ble_eq_true z) ?_
 refine wp_seq (wrl (wv (.bool false) z z z (wl_nil (tn (wp_seq (wrl (wv (.pointer none) z z z (wv (.bool false) z z (by kernel_rfl) (wv (.bool false) z z z (wz z z z z z z (wz z z z z z z (wv (.bool false) z z (x_pick_f z z z) (wv (.bool false) z z z (wz z z z z z z (wz z z z z z z (wz z z z z z z ?_))))))))))))))))
 refine wz z z z z z z (wz z z z z z z (wz z z z z z z (wz z z z z z z (wv (.bool false) z z (x_pick_f z z z) (wv (.bool false) z z z (wl_nil (tn (wp_ret ?_))))))))
 replace hst := hst.objO_nil at_config_Plan
 obtain rfl := some_inj hm
 refine post_ret (vs := [.bool false]) results21 (rvs_cons (rv_tmp z) rvs_nil) ?_
 exact ⟨z, hst.keep1⟩
}
 {
 replace hst := objO_get hst
 dsimp only [config_Plan_Node] at hm
 refine calls_start (args := [p0, I6 a1]) func21 z ntmps21 (Nat.le_of_ble_eq_true z) ?_
 refine wp_seq (wrl (wv (.bool false) z z z (wl_nil (tn (wp_seq (wrl (wv (p0) z z z ?_)))))))
 obtain ⟨b52, v53, v56, v59, ⟨rfl, f55, f58⟩, hst'⟩ := at_config_Plan_open hst
 clear hst
 have hst := hst'
 clear hst'
 refine wv (.bool true) z z (by kernel_rfl) (wv (.bool true) z z z (wv (.int .i64 a1) ((wanted_eq z z z z).trans z) z z (wv (.bool (decide (a1 ≥ (0:Int)))) ((wanted_eq z z z z).trans z) z z (wv (.bool (decide (a1 ≥ (0:Int)))) z z (x_pick_t z z z) (wv (.bool (decide (a1 ≥ (0:Int)))) z z z ?_)))))
 refine bsplit (decide (a1 ≥ (0:Int))) (fun hc61 => ?_) (fun hc61 => ?_)
 {
 replace hm := bif_t hc61 hm
 refine wv (.int .i64 a1) ((wanted_eq z z z (cvb hc61)).trans z) z z (wv (Pt b52 0) ((wanted_eq z z z (cvb hc61)).trans z) z z (wv (Pt b52 0) ((wanted_eq z z z (cvb hc61)).trans z) z z (wv (Pt b52 0) ((wanted_eq z z z (cvb hc61)).trans z) z (x_field z underlying63 z sizeOf43 z) (wv (Pt b52 1) ((wanted_eq z z z (cvb hc61)).trans z) z (x_field z underlying43 z sizeOf3 z) (wv (.int .i64 o0.C.Nodes) ((wanted_eq z z z (cvb hc61)).trans z) z (x_load z isAgg3 (hst.bc0 z)) (wv (.bool (decide (a1 < o0.C.Nodes))) ((wanted_eq z z z (cvb hc61)).trans z) z z (wv (.bool (decide (a1 < o0.C.Nodes))) z z (x_pick_t hc61 z z) (wv (.bool (decide (a1 < o0.C.Nodes))) z z z (wl_nil (tn (wp_ret ?_)))))))))))
 replace hst := hst.pull1.pull1
 replace hst := at_config_Plan_close (pv := Pt b52 0) (x := o0) hst ⟨z, f55, f58⟩
 replace hst := objO_some hst
 obtain rfl := some_inj hm
 refine post_ret (vs := [.bool (decide (a1 < o0.C.Nodes))]) results21 (rvs_cons (rv_tmp z) rvs_nil) ?_
 exact ⟨z, hst.keep1⟩
}
 {
 replace hm := bif_f hc61 hm
 refine wo hc61 z z z z z z (wo hc61 z z z z z z (wo hc61 z z z z z z (wo hc61 z z z z z z (wo hc61 z z z z z z (wo hc61 z z z z z z (wo hc61 z z z z z z (wv (.bool false) z z (x_pick_f hc61 z z) (wv (.bool false) z z z (wl_nil (tn (wp_ret ?_)))))))))))
 replace hst := hst.pull1.pull1
 replace hst := at_config_Plan_close (pv := Pt b52 0) (x := o0) hst ⟨z, f55, f58⟩
 replace hst := objO_some hst
 obtain rfl := some_inj hm
 refine post_ret (vs := [.bool false]) results21 (rvs_cons (rv_tmp z) rvs_nil) ?_
 exact ⟨z, hst.keep1⟩
}
}
}

theorem label_Lattice_Len_ref {w0 w : World} {I : HL} {R : SP} {a0 : (Option label_Lattice)} {p0 : Value}  (hst : St w0 w I [objO at_label_Lattice p0 a0] R) {r : (Int)} (hm : label_Lattice_Len a0 = some r) :
  Calls prog 43 #[p0] w fun e w' => e = .returned (.int .i64 r) ∧ St w0 w' I [objO at_label_Lattice p0 a0] R := by {
 rcases a0 with _ | o0
 {
 obtain ⟨rfl, hst'⟩ := objO_none hst
 clear hst
 have hst := hst'
 clear hst'
 dsimp only [label_Lattice_Len] at hm
 refine calls_start (args := [.pointer none]) func43 z ntmps43 (Nat.le_of_ble_eq_true z) ?_
 refine wp_seq (wrl (wv (.int .i64 (0:Int)) z z z (wl_nil (tn (wp_seq (wp_seq (wrl (wv (.pointer none) z z z (wv (.bool true) z z (by kernel_rfl) (wl_nil (tn ?_)))))))))))
 refine wp_ift z ?_
 refine wp_seq (wrl (wv (.int .i64 (0:Int)) z z z (wl_nil (tn (wp_ret (then_r ?_))))))
 replace hst := hst.objO_nil at_label_Lattice
 obtain rfl := some_inj hm
 refine post_ret (vs := [Zi]) results43 (rvs_cons (rv_tmp z) rvs_nil) ?_
 exact ⟨z, hst.keep1⟩
}
 {
 replace hst := objO_get hst
 dsimp only [label_Lattice_Len] at hm
 refine calls_start (args := [p0]) func43 z ntmps43 (Nat.le_of_ble_eq_true z) ?_
 refine wp_seq (wrl (wv (.int .i64 (0:Int)) z z z (wl_nil (tn (wp_seq (wp_seq (wrl (wv (p0) z z z ?_))))))))
 obtain ⟨b77, v78, v80, v82, v84, v86, v88, rfl, hst'⟩ := at_label_Lattice_open hst
 clear hst
 have hst := hst'
 clear hst'
 refine wv (.bool false) z z (by kernel_rfl) (wl_nil (tn ?_))
 refine wp_iff z ?_
 refine wp_skip (tn (wp_seq (wrl ?_)))
 refine wv (Pt b77 0) z z z (wv (Pt b77 0) z z z (wv (Pt b77 0) z z (x_field z underlying72 z sizeOf40 z) (wv (v78) z z (x_load z isAgg40 (hst.bc0 z)) (wv (.int .i64 ((o0.up).length : Int)) z z (x_len z underlying40 hst.sv1) (wv (.int .i64 ((o0.up).length : Int)) z z z (wl_nil (tn (wp_ret ?_))))))))
 replace hst := hst.pull6.pull6.pull6.pull6.pull6.pull6.pull6
 replace hst := at_label_Lattice_close (pv := Pt b77 0) (x := o0) hst z
 replace hst := objO_some hst
 obtain rfl := some_inj hm
 refine post_ret (vs := [I6 ((o0.up).length : Int)]) results43 (rvs_cons (rv_tmp z) rvs_nil) ?_
 exact ⟨z, hst.keep1⟩
}
}

theorem config_Plan_L0_ref {w0 w : World} {I : HL} {R : SP} {a0 : (Option config_Plan)} {p0 : Value}  (hst : St w0 w I [objO at_config_Plan p0 a0] R) {r : (Int)} (hm : config_Plan_L0 a0 = some r) :
  Calls prog 38 #[p0] w fun e w' => e = .returned (.int .i64 r) ∧ St w0 w' I [objO at_config_Plan p0 a0] R := by {
 rcases a0 with _ | o0
 {
 obtain ⟨rfl, hst'⟩ := objO_none hst
 clear hst
 have hst := hst'
 clear hst'
 dsimp only [config_Plan_L0] at hm
 refine calls_start (args := [.pointer none]) func38 z ntmps38 (Nat.le_of_ble_eq_true z) ?_
 refine wp_seq (wrl (wv (.int .i64 (0:Int)) z z z (wl_nil (tn (wp_seq (wp_seq (wrl (wv (.pointer none) z z z (wv (.bool true) z z (by kernel_rfl) (wl_nil (tn ?_)))))))))))
 refine wp_ift z ?_
 refine wp_seq (wrl (wv (.int .i64 (0:Int)) z z z (wl_nil (tn (wp_ret (then_r ?_))))))
 replace hst := hst.objO_nil at_config_Plan
 obtain rfl := some_inj hm
 refine post_ret (vs := [Zi]) results38 (rvs_cons (rv_tmp z) rvs_nil) ?_
 exact ⟨z, hst.keep1⟩
}
 {
 replace hst := objO_get hst
 dsimp only [config_Plan_L0] at hm
 refine calls_start (args := [p0]) func38 z ntmps38 (Nat.le_of_ble_eq_true z) ?_
 refine wp_seq (wrl (wv (.int .i64 (0:Int)) z z z (wl_nil (tn (wp_seq (wp_seq (wrl (wv (p0) z z z ?_))))))))
 obtain ⟨b68, v69, v72, v75, ⟨rfl, f71, f74⟩, hst'⟩ := at_config_Plan_open hst
 clear hst
 have hst := hst'
 clear hst'
 refine wv (.bool false) z z (by kernel_rfl) (wl_nil (tn ?_))
 refine wp_iff z ?_
 refine wp_skip (tn (wp_seq (wrl ?_)))
 refine wv (Pt b68 0) z z z (wv (Pt b68 0) z z z (wv (Pt b68 9) z z (x_field z underlying63 z sizeOf59 z) (wv (v75) z z (x_load z isAgg59 (hst.bc0 z)) ?_)))
 replace hst := hst.pull1
 obtain ⟨t77, ht78, hm⟩ := bind_some hm
 refine wc call43 [v75] z z z ?_
 refine (label_Lattice_Len_ref hst.to1 ht78).mono ?_
 rintro _ w79 ⟨rfl, hst⟩
 refine ⟨_, z, ?_⟩
 replace hst := hst.of1
 refine wv (.int .i64 t77) z z z (wl_nil (tn (wp_ret ?_)))
 replace hst := hst.pull1
 replace hst := at_config_Plan_close (pv := Pt b68 0) (x := o0) hst ⟨z, f71, f74⟩
 replace hst := objO_some hst
 obtain rfl := some_inj hm
 refine post_ret (vs := [I6 t77]) results38 (rvs_cons (rv_tmp z) rvs_nil) ?_
 exact ⟨z, hst.keep1⟩
}
}

theorem config_Plan_Shards_ref {w0 w : World} {I : HL} {R : SP} {a0 : (Option config_Plan)} {p0 : Value}  (hst : St w0 w I [objO at_config_Plan p0 a0] R) {r : (Int)} (hm : config_Plan_Shards a0 = some r) :
  Calls prog 34 #[p0] w fun e w' => e = .returned (.int .i64 r) ∧ St w0 w' I [objO at_config_Plan p0 a0] R := by {
 rcases a0 with _ | o0
 {
 obtain ⟨rfl, hst'⟩ := objO_none hst
 clear hst
 have hst := hst'
 clear hst'
 dsimp only [config_Plan_Shards] at hm
 refine calls_start (args := [.pointer none]) func34 z ntmps34 (Nat.le_of_ble_eq_true z) ?_
 refine wp_seq (wrl (wv (.int .i64 (0:Int)) z z z (wl_nil (tn (wp_seq (wp_seq (wrl (wv (.pointer none) z z z (wv (.bool true) z z (by kernel_rfl) (wl_nil (tn ?_)))))))))))
 refine wp_ift z ?_
 refine wp_seq (wrl (wv (.int .i64 (0:Int)) z z z (wl_nil (tn (wp_ret (then_r ?_))))))
 replace hst := hst.objO_nil at_config_Plan
 obtain rfl := some_inj hm
 refine post_ret (vs := [Zi]) results34 (rvs_cons (rv_tmp z) rvs_nil) ?_
 exact ⟨z, hst.keep1⟩
}
 {
 replace hst := objO_get hst
 dsimp only [config_Plan_Shards] at hm
 refine calls_start (args := [p0]) func34 z ntmps34 (Nat.le_of_ble_eq_true z) ?_
 refine wp_seq (wrl (wv (.int .i64 (0:Int)) z z z (wl_nil (tn (wp_seq (wp_seq (wrl (wv (p0) z z z ?_))))))))
 obtain ⟨b68, v69, v72, v75, ⟨rfl, f71, f74⟩, hst'⟩ := at_config_Plan_open hst
 clear hst
 have hst := hst'
 clear hst'
 refine wv (.bool false) z z (by kernel_rfl) (wl_nil (tn ?_))
 refine wp_iff z ?_
 refine wp_skip (tn (wp_seq (wrl ?_)))
 refine wv (Pt b68 0) z z z (wv (Pt b68 0) z z z (wv (Pt b68 0) z z (x_field z underlying63 z sizeOf43 z) (wv (Pt b68 2) z z (x_field z underlying43 z sizeOf41 z) (wv (v72) z z (x_load z isAgg41 (hst.bc0 z)) (wv (.int .i64 ((o0.C.Cuts).length : Int)) z z (x_len z underlying41 (ro_sliceV f74)) (wv (.int .i64 (i64.wrap (((o0.C.Cuts).length : Int) + (1:Int)))) z z z (wv (.int .i64 (i64.wrap (((o0.C.Cuts).length : Int) + (1:Int)))) z z z (wl_nil (tn (wp_ret ?_))))))))))
 replace hst := hst.pull1.pull1
 replace hst := at_config_Plan_close (pv := Pt b68 0) (x := o0) hst ⟨z, f71, f74⟩
 replace hst := objO_some hst
 obtain rfl := some_inj hm
 refine post_ret (vs := [I6 (i64.wrap (((o0.C.Cuts).length : Int) + (1:Int)))]) results34 (rvs_cons (rv_tmp z) rvs_nil) ?_
 exact ⟨z, hst.keep1⟩
}
}

theorem config_Plan_Lanes_ref {w0 w : World} {I : HL} {R : SP} {a0 : (Option config_Plan)} {p0 : Value}  (hst : St w0 w I [objO at_config_Plan p0 a0] R) {r : (Int)} (hm : config_Plan_Lanes a0 = some r) :
  Calls prog 31 #[p0] w fun e w' => e = .returned (.int .i64 r) ∧ St w0 w' I [objO at_config_Plan p0 a0] R := by {
 unfold config_Plan_Lanes at hm
 refine calls_start (args := [p0]) func31 z ntmps31 (Nat.le_of_ble_eq_true z) ?_
 refine wp_seq (wrl (wv (.int .i64 (0:Int)) z z z (wl_nil (tn (wp_seq (wrl (wv (p0) z z z ?_)))))))
 obtain ⟨t63, ht64, hm⟩ := bind_some hm
 refine wc call38 [p0] z z z ?_
 refine (config_Plan_L0_ref hst.to1 ht64).mono ?_
 rintro _ w65 ⟨rfl, hst⟩
 refine ⟨_, z, ?_⟩
 replace hst := hst.of1
 refine wv (p0) z z z ?_
 obtain ⟨t68, ht69, hm⟩ := bind_some hm
 refine wc call34 [p0] z z z ?_
 refine (config_Plan_Shards_ref hst.to1 ht69).mono ?_
 rintro _ w70 ⟨rfl, hst⟩
 refine ⟨_, z, ?_⟩
 replace hst := hst.of1
 refine wv (.int .i64 (i64.wrap (t63 * t68))) z z z (wv (.int .i64 (i64.wrap ((i64.wrap (t63 * t68)) + (1:Int)))) z z z (wv (.int .i64 (i64.wrap ((i64.wrap (t63 * t68)) + (1:Int)))) z z z (wl_nil (tn (wp_ret ?_)))))
 obtain rfl := some_inj hm
 refine post_ret (vs := [I6 (i64.wrap ((i64.wrap (t63 * t68)) + (1:Int)))]) results31 (rvs_cons (rv_tmp z) rvs_nil) ?_
 exact ⟨z, hst.keep1⟩
}

theorem config_Plan_Rules_ref {w0 w : World} {I : HL} {R : SP} {a0 : (Option config_Plan)} {p0 : Value}  (hst : St w0 w I [objO at_config_Plan p0 a0] R) {r : (Int)} (hm : config_Plan_Rules a0 = some r) :
  Calls prog 32 #[p0] w fun e w' => e = .returned (.int .i64 r) ∧ St w0 w' I [objO at_config_Plan p0 a0] R := by {
 unfold config_Plan_Rules at hm
 refine calls_start (args := [p0]) func32 z ntmps32 (Nat.le_of_ble_eq_true z) ?_
 refine wp_seq (wrl (wv (.int .i64 (0:Int)) z z z (wl_nil (tn (wp_seq (wrl (wv (p0) z z z ?_)))))))
 obtain ⟨t64, ht65, hm⟩ := bind_some hm
 refine wc call31 [p0] z z z ?_
 refine (config_Plan_Lanes_ref hst.to1 ht65).mono ?_
 rintro _ w66 ⟨rfl, hst⟩
 refine ⟨_, z, ?_⟩
 replace hst := hst.of1
 refine wv (.int .i64 (i64.wrap (t64 - (1:Int)))) z z z (wv (.int .i64 (i64.wrap (t64 - (1:Int)))) z z z (wl_nil (tn (wp_ret ?_))))
 obtain rfl := some_inj hm
 refine post_ret (vs := [I6 (i64.wrap (t64 - (1:Int)))]) results32 (rvs_cons (rv_tmp z) rvs_nil) ?_
 exact ⟨z, hst.keep1⟩
}

theorem label_Lattice_Bottom_ref {w0 w : World} {I : HL} {R : SP} {a0 : (Option label_Lattice)} {p0 : Value}  (hst : St w0 w I [objO at_label_Lattice p0 a0] R) {r : (Int)} (hm : label_Lattice_Bottom a0 = some r) :
  Calls prog 33 #[p0] w fun e w' => e = .returned (.int .i64 r) ∧ St w0 w' I [objO at_label_Lattice p0 a0] R := by {
 rcases a0 with _ | o0
 {
 obtain ⟨rfl, hst'⟩ := objO_none hst
 clear hst
 have hst := hst'
 clear hst'
 dsimp only [label_Lattice_Bottom] at hm
 refine calls_start (args := [.pointer none]) func33 z ntmps33 (Nat.le_of_ble_eq_true z) ?_
 refine wp_seq (wrl (wv (.int .i64 (0:Int)) z z z (wl_nil (tn (wp_seq (wp_seq (wrl (wv (.pointer none) z z z (wv (.bool true) z z (by kernel_rfl) (wl_nil (tn ?_)))))))))))
 refine wp_ift z ?_
 refine wp_seq (wrl (wv (.int .i64 ((-1):Int)) z z z (wl_nil (tn (wp_ret (then_r ?_))))))
 replace hst := hst.objO_nil at_label_Lattice
 obtain rfl := some_inj hm
 refine post_ret (vs := [I6 ((-1):Int)]) results33 (rvs_cons (rv_tmp z) rvs_nil) ?_
 exact ⟨z, hst.keep1⟩
}
 {
 replace hst := objO_get hst
 dsimp only [label_Lattice_Bottom] at hm
 refine calls_start (args := [p0]) func33 z ntmps33 (Nat.le_of_ble_eq_true z) ?_
 refine wp_seq (wrl (wv (.int .i64 (0:Int)) z z z (wl_nil (tn (wp_seq (wp_seq (wrl (wv (p0) z z z ?_))))))))
 obtain ⟨b93, v94, v96, v98, v100, v102, v104, rfl, hst'⟩ := at_label_Lattice_open hst
 clear hst
 have hst := hst'
 clear hst'
 refine wv (.bool false) z z (by kernel_rfl) (wl_nil (tn ?_))
 refine wp_iff z ?_
 refine wp_skip (tn (wp_seq (wrl ?_)))
 refine wv (Pt b93 0) z z z (wv (Pt b93 0) z z z (wv (Pt b93 5) z z (x_field z underlying72 z sizeOf69 z) (wv (v104) z z (x_load z isAgg69 (hst.bc0 z)) ?_)))
 obtain ⟨x106, hx107, hm⟩ := bind_some hm
 obtain ⟨h108, h109, hi110⟩ := geto_some hx107
 refine wv (.pointer (some (eAddr v104 ((0:Int).toNat * 1 + 0)))) z z (x_index z z underlying69 sizeOf3 hst.sv6 h108 h109) (wv (.int .i64 x106) z z (x_load z isAgg3 (hst.ol6 hi110 (by rintro _ rfl; rfl))) (wv (.int .i64 x106) z z z (wl_nil (tn (wp_ret ?_)))))
 replace hst := hst.pull6.pull6.pull6.pull6.pull6.pull6.pull6
 replace hst := at_label_Lattice_close (pv := Pt b93 0) (x := o0) hst z
 replace hst := objO_some hst
 obtain rfl := some_inj hm
 refine post_ret (vs := [I6 x106]) results33 (rvs_cons (rv_tmp z) rvs_nil) ?_
 exact ⟨z, hst.keep1⟩
}
}

theorem config_Plan_Label_ref {w0 w : World} {I : HL} {R : SP} {a0 : (Option config_Plan)} {p0 : Value} {a1 : Int}  (hst : St w0 w I [objO at_config_Plan p0 a0] R) {r : (Int)} (hm : config_Plan_Label a0 a1 = some r) :
  Calls prog 22 #[p0, I6 a1] w fun e w' => e = .returned (.int .i64 r) ∧ St w0 w' I [objO at_config_Plan p0 a0] R := by {
 rcases a0 with _ | o0
 {
 obtain ⟨rfl, hst'⟩ := objO_none hst
 clear hst
 have hst := hst'
 clear hst'
 dsimp only [config_Plan_Label] at hm
 refine calls_start (args := [.pointer none, I6 a1]) func22 z ntmps22 (Nat.le_of_ble_eq_true z) ?_
 refine wp_seq (wrl (wv (.int .i64 (0:Int)) z z z (wl_nil (tn (wp_seq (wp_block (wp_seq (wrl (wv (.pointer none) z z z (wv (.bool true) z z (by kernel_rfl) (wv (.bool true) z z z (wz z z z z z z (wz z z z z z z (wv (.bool true) z z (x_pick_t z z z) (wv (.bool true) z z z (wz z z z z z z (wz z z z z z z (wz z z z z z z ?_))))))))))))))))))
 refine wz z z z z z z (wv (.bool true) z z (x_pick_t z z z) (wv (.bool true) z z z (wl_nil (tn ?_))))
 refine wp_ift z ?_
 refine wp_seq (wrl (wv (.int .i64 ((-1):Int)) z z z (wl_nil (tn (wp_ret (blk_r (then_r ?_)))))))
 replace hst := hst.objO_nil at_config_Plan
 obtain rfl := some_inj hm
 refine post_ret (vs := [I6 ((-1):Int)]) results22 (rvs_cons (rv_tmp z) rvs_nil) ?_
 exact ⟨z, hst.keep1⟩
}
 {
 replace hst := objO_get hst
 dsimp only [config_Plan_Label] at hm
 refine calls_start (args := [p0, I6 a1]) func22 z ntmps22 (Nat.le_of_ble_eq_true z) ?_
 refine wp_seq (wrl (wv (.int .i64 (0:Int)) z z z (wl_nil (tn (wp_seq (wp_block (wp_seq (wrl (wv (p0) z z z ?_)))))))))
 obtain ⟨b85, v86, v89, v92, ⟨rfl, f88, f91⟩, hst'⟩ := at_config_Plan_open hst
 clear hst
 have hst := hst'
 clear hst'
 refine wv (.bool false) z z (by kernel_rfl) (wv (.bool false) z z z (wv (.int .i64 a1) ((wanted_eq z z z z).trans z) z z (wv (.bool (decide (a1 < (0:Int)))) ((wanted_eq z z z z).trans z) z z (wv (.bool (decide (a1 < (0:Int)))) z z (x_pick_f z z z) (wv (.bool (decide (a1 < (0:Int)))) z z z ?_)))))
 refine bsplit (decide (a1 < (0:Int))) (fun hc94 => ?_) (fun hc94 => ?_)
 {
 replace hm := bif_t hc94 hm
 refine wo hc94 z z z z z z (wo hc94 z z z z z z (wo hc94 z z z z z z (wo hc94 z z z z z z (wv (.bool true) z z (x_pick_t hc94 z z) (wv (.bool true) z z z (wl_nil (tn ?_)))))))
 refine wp_ift z ?_
 refine wp_seq (wrl (wv (.int .i64 ((-1):Int)) z z z (wl_nil (tn (wp_ret (blk_r (then_r ?_)))))))
 replace hst := hst.pull1.pull1
 replace hst := at_config_Plan_close (pv := Pt b85 0) (x := o0) hst ⟨z, f88, f91⟩
 replace hst := objO_some hst
 obtain rfl := some_inj hm
 refine post_ret (vs := [I6 ((-1):Int)]) results22 (rvs_cons (rv_tmp z) rvs_nil) ?_
 exact ⟨z, hst.keep1⟩
}
 {
 replace hm := bif_f hc94 hm
 refine wv (.int .i64 a1) ((wanted_eq z z z (cvb hc94)).trans z) z z (wv (Pt b85 0) ((wanted_eq z z z (cvb hc94)).trans z) z z ?_)
 replace hst := hst.pull1.pull1
 replace hst := at_config_Plan_close (pv := Pt b85 0) (x := o0) hst ⟨z, f88, f91⟩
 replace hst := objO_some hst
 obtain ⟨t95, ht96, hm⟩ := bind_some hm
 refine wl_call ((wanted_eq z z z (cvb hc94)).trans z) z (x_call call31 z (vs := [Pt b85 0]) z) ?_
 refine (config_Plan_Lanes_ref hst.to1 ht96).mono ?_
 rintro _ w97 ⟨rfl, hst⟩
 refine ⟨_, z, ?_⟩
 replace hst := hst.of1
 replace hst := objO_get hst
 refine wv (.bool (decide (a1 ≥ t95))) ((wanted_eq z z z (cvb hc94)).trans z) z z (wv (.bool (decide (a1 ≥ t95))) z z (x_pick_f hc94 z z) (wv (.bool (decide (a1 ≥ t95))) z z z (wl_nil (tn ?_))))
 refine bsplit (decide (a1 ≥ t95)) (fun hc100 => ?_) (fun hc100 => ?_)
 {
 replace hm := bif_t hc100 hm
 refine wp_ift (cvb hc100) ?_
 refine wp_seq (wrl (wv (.int .i64 ((-1):Int)) z z z (wl_nil (tn (wp_ret (blk_r (then_r ?_)))))))
 replace hst := objO_some hst
 obtain rfl := some_inj hm
 refine post_ret (vs := [I6 ((-1):Int)]) results22 (rvs_cons (rv_tmp z) rvs_nil) ?_
 exact ⟨z, hst.keep1⟩
}
 {
 replace hm := bif_f hc100 hm
 refine wp_iff (cvb hc100) ?_
 refine wp_seq (wrl (wv (.int .i64 a1) z z z (wv (Pt b85 0) z z z ?_)))
 replace hst := objO_some hst
 obtain ⟨t101, ht102, hm⟩ := bind_some hm
 refine wc call32 [Pt b85 0] z z z ?_
 refine (config_Plan_Rules_ref hst.to1 ht102).mono ?_
 rintro _ w103 ⟨rfl, hst⟩
 refine ⟨_, z, ?_⟩
 replace hst := hst.of1
 replace hst := objO_get hst
 refine wv (.bool (a1 == t101)) z z z (wv (.bool (a1 == t101)) z z z (wl_nil (tn ?_)))
 refine bsplit (a1 == t101) (fun hc106 => ?_) (fun hc106 => ?_)
 {
 replace hm := bif_t hc106 hm
 refine wp_ift (cvb hc106) ?_
 refine wp_seq (wrl (wv (Pt b85 0) z z z ?_))
 obtain ⟨b107, v108, v111, v114, ⟨e116, f110, f113⟩, hst'⟩ := at_config_Plan_open hst
 clear hst
 have e116 := ptr_inj e116
 subst e116
 have hst := hst'
 clear hst'
 refine wv (Pt b85 0) z z z (wv (Pt b85 9) z z (x_field z underlying63 z sizeOf59 z) (wv (v114) z z (x_load z isAgg59 (hst.bc0 z)) ?_))
 replace hst := hst.pull1
 obtain ⟨t117, ht118, hm⟩ := bind_some hm
 refine wc call33 [v114] z z z ?_
 refine (label_Lattice_Bottom_ref hst.to1 ht118).mono ?_
 rintro _ w119 ⟨rfl, hst⟩
 refine ⟨_, z, ?_⟩
 replace hst := hst.of1
 refine wv (.int .i64 t117) z z z (wl_nil (tn (wp_ret (blk_r (then_r ?_)))))
 replace hst := hst.pull1
 replace hst := at_config_Plan_close (pv := Pt b85 0) (x := o0) hst ⟨z, f110, f113⟩
 replace hst := objO_some hst
 obtain rfl := some_inj hm
 refine post_ret (vs := [I6 t117]) results22 (rvs_cons (rv_tmp z) rvs_nil) ?_
 exact ⟨z, hst.keep1⟩
}
 {
 replace hm := bif_f hc106 hm
 refine wp_iff (cvb hc106) ?_
 refine wp_skip (blk_n (tn (wp_seq (wrl ?_))))
 refine wv (.int .i64 a1) z z z (wv (Pt b85 0) z z z ?_)
 replace hst := objO_some hst
 obtain ⟨t122, ht123, hm⟩ := bind_some hm
 refine wc call34 [Pt b85 0] z z z ?_
 refine (config_Plan_Shards_ref hst.to1 ht123).mono ?_
 rintro _ w124 ⟨rfl, hst⟩
 refine ⟨_, z, ?_⟩
 replace hst := hst.of1
 replace hst := objO_get hst
 obtain ⟨hg127, hm⟩ := gd_some hm
 refine wv (.int .i64 (i64.wrap (Int.tdiv a1 t122))) z z (x_quo (not_t hg127) z z) (wv (.int .i64 (i64.wrap (Int.tdiv a1 t122))) z z z (wl_nil (tn (wp_ret ?_))))
 replace hst := objO_some hst
 obtain rfl := some_inj hm
 refine post_ret (vs := [I6 (i64.wrap (Int.tdiv a1 t122))]) results22 (rvs_cons (rv_tmp z) rvs_nil) ?_
 exact ⟨z, hst.keep1⟩
}
}
}
}
}

theorem net_Net_is_ref {w0 w : World} {I : HL} {R : SP} {a0 : (Option net_Net)} {p0 : Value} {a1 : net_Link}  (hst : St w0 w I [objO at_net_Net p0 a0] R) {r : (Bool)} (hm : net_Net_is a0 a1 = some r) :
  Calls prog 14 #[p0, .agg #[I6 a1.From, I6 a1.To, I6 a1.Lane]] w fun e w' => e = .returned (.bool r) ∧ St w0 w' I [objO at_net_Net p0 a0] R := by {
 rcases a0 with _ | o0
 {
 obtain ⟨rfl, hst'⟩ := objO_none hst
 clear hst
 have hst := hst'
 clear hst'
 dsimp only [net_Net_is] at hm
 refine calls_start (args := [.pointer none, .agg #[I6 a1.From, I6 a1.To, I6 a1.Lane]]) func14 z ntmps14 (Nat.le_of_ble_eq_true z) ?_
 refine wp_seq (wrl ?_)
 obtain ⟨b69, w70, ew71, eb72, hst⟩ := hst.box [I6 a1.From, I6 a1.To, I6 a1.Lane] 23
 refine wl_run (v := Pt b69 0) (w' := w70) z z (x_al (by kernel_rfl) ew71 eb72) ?_
 refine wv (.bool false) z z z (wl_nil (tn (wp_seq ?_)))
 refine wp_region_St hst 38 [0, 1, 2, 3, 4, 5, 6, 7, 8, 9, 10, 11, 12, 13, 14, 15, 16, 17, 18, 19, 20, 21, 22, 23, 24, 25, 26, 27, 28, 29, 30, 31, 32, 33, 34, 35, 36, 37] [0, 1, 3, 7, 15, 31, 63, 7, 135, 511, 1023, 2047, 4095, 8191, 16383, 32767, 4095, 69631, 262143, 524287, 1048575, 2097151, 4194303, 2097151, 10485759, 33554431, 67108863, 134217727, 268435455, 536870911, 1073741823, 2147483647, 268435455, 4563402751, 17179869183, 34359738367, 68719476735, 137438953471] [] z (by kernel_rfl) (by kernel_rfl) Try.mixed (by kernel_rfl) ?_
 refine wsr (.pointer none) 0 z z z (by kernel_rfl) (fun w hst => z) (wsr (.bool false) 1 z z z (by kernel_rfl) (fun w hst => by kernel_rfl) (wsr (.bool false) 2 z z z (by kernel_rfl) (fun w hst => z) (ws_q (v := undef) 3 [4, 5, 6, 7, 8, 9, 10, 11, 12, 13, 14, 15, 16, 17, 18, 19, 20, 21, 22, 23, 24, 25, 26, 27, 28, 29, 30, 31, 32, 33, 34, 35, 36, 37] (by kernel_rfl) z z (yi_off ((wanted_eq z z z z).trans z)) (ws_q (v := undef) 4 [5, 6, 7, 8, 9, 10, 11, 12, 13, 14, 15, 16, 17, 18, 19, 20, 21, 22, 23, 24, 25, 26, 27, 28, 29, 30, 31, 32, 33, 34, 35, 36, 37] (by kernel_rfl) z z (yi_off ((wanted_eq z z z z).trans z)) (ws_q (v := undef) 5 [6, 7, 8, 9, 10, 11, 12, 13, 14, 15, 16, 17, 18, 19, 20, 21, 22, 23, 24, 25, 26, 27, 28, 29, 30, 31, 32, 33, 34, 35, 36, 37] (by kernel_rfl) z z (yi_off ((wanted_eq z z z z).trans z)) (ws_q (v := undef) 6 [7, 8, 9, 10, 11, 12, 13, 14, 15, 16, 17, 18, 19, 20, 21, 22, 23, 24, 25, 26, 27, 28, 29, 30, 31, 32, 33, 34, 35, 36, 37] (by kernel_rfl) z z (yi_off ((wanted_eq z z z z).trans z)) (ws_q (v := undef) 7 [8, 9, 10, 11, 12, 13, 14, 15, 16, 17, 18, 19, 20, 21, 22, 23, 24, 25, 26, 27, 28, 29, 30, 31, 32, 33, 34, 35, 36, 37] (by kernel_rfl) z z (yi_off ((wanted_eq z z z z).trans z)) (ws_q (v := undef) 8 [9, 10, 11, 12, 13, 14, 15, 16, 17, 18, 19, 20, 21, 22, 23, 24, 25, 26, 27, 28, 29, 30, 31, 32, 33, 34, 35, 36, 37] (by kernel_rfl) z z (yi_off ((wanted_eq z z z z).trans z)) (ws_q (v := undef) 9 [10, 11, 12, 13, 14, 15, 16, 17, 18, 19, 20, 21, 22, 23, 24, 25, 26, 27, 28, 29, 30, 31, 32, 33, 34, 35, 36, 37] (by kernel_rfl) z z (yi_off ((wanted_eq z z z z).trans z)) (wsr (.bool false) 10 z z z (by kernel_rfl) (fun w hst => x_pick_f z z z) (wsr (.bool false) 11 z z z (by kernel_rfl) (fun w hst => z) (ws_q (v := undef) 12 [13, 14, 15, 16, 17, 18, 19, 20, 21, 22, 23, 24, 25, 26, 27, 28, 29, 30, 31, 32, 33, 34, 35, 36, 37] (by kernel_rfl) z z (yi_off ((wanted_eq z z z z).trans z)) ?_))))))))))))
 refine ws_q (v := undef) 13 [14, 15, 16, 17, 18, 19, 20, 21, 22, 23, 24, 25, 26, 27, 28, 29, 30, 31, 32, 33, 34, 35, 36, 37] (by kernel_rfl) z z (yi_off ((wanted_eq z z z z).trans z)) (ws_q (v := undef) 14 [15, 16, 17, 18, 19, 20, 21, 22, 23, 24, 25, 26, 27, 28, 29, 30, 31, 32, 33, 34, 35, 36, 37] (by kernel_rfl) z z (yi_off ((wanted_eq z z z z).trans z)) (ws_q (v := undef) 15 [16, 17, 18, 19, 20, 21, 22, 23, 24, 25, 26, 27, 28, 29, 30, 31, 32, 33, 34, 35, 36, 37] (by kernel_rfl) z z (yi_off ((wanted_eq z z z z).trans z)) (ws_q (v := undef) 16 [17, 18, 19, 20, 21, 22, 23, 24, 25, 26, 27, 28, 29, 30, 31, 32, 33, 34, 35, 36, 37] (by kernel_rfl) z z (yi_off ((wanted_eq z z z z).trans z)) (ws_q (v := undef) 17 [18, 19, 20, 21, 22, 23, 24, 25, 26, 27, 28, 29, 30, 31, 32, 33, 34, 35, 36, 37] (by kernel_rfl) z z (yi_off ((wanted_eq z z z z).trans z)) (ws_q (v := undef) 18 [19, 20, 21, 22, 23, 24, 25, 26, 27, 28, 29, 30, 31, 32, 33, 34, 35, 36, 37] (by kernel_rfl) z z (yi_off ((wanted_eq z z z z).trans z)) (wsr (.bool false) 19 z z z (by kernel_rfl) (fun w hst => x_pick_f z z z) (wsr (.bool false) 20 z z z (by kernel_rfl) (fun w hst => z) (ws_q (v := undef) 21 [22, 23, 24, 25, 26, 27, 28, 29, 30, 31, 32, 33, 34, 35, 36, 37] (by kernel_rfl) z z (yi_off ((wanted_eq z z z z).trans z)) (ws_q (v := undef) 22 [23, 24, 25, 26, 27, 28, 29, 30, 31, 32, 33, 34, 35, 36, 37] (by kernel_rfl) z z (yi_off ((wanted_eq z z z z).trans z)) (ws_q (v := undef) 23 [24, 25, 26, 27, 28, 29, 30, 31, 32, 33, 34, 35, 36, 37] (by kernel_rfl) z z (yi_off ((wanted_eq z z z z).trans z)) (ws_q (v := undef) 24 [25, 26, 27, 28, 29, 30, 31, 32, 33, 34, 35, 36, 37] (by kernel_rfl) z z (yi_off ((wanted_eq z z z z).trans z)) (ws_q (v := undef) 25 [26, 27, 28, 29, 30, 31, 32, 33, 34, 35, 36, 37] (by kernel_rfl) z z (yi_off ((wanted_eq z z z z).trans z)) ?_))))))))))))
 refine wsr (.bool false) 26 z z z (by kernel_rfl) (fun w hst => x_pick_f z z z) (wsr (.bool false) 27 z z z (by kernel_rfl) (fun w hst => z) (ws_q (v := undef) 28 [29, 30, 31, 32, 33, 34, 35, 36, 37] (by kernel_rfl) z z (yi_off ((wanted_eq z z z z).trans z)) (ws_q (v := undef) 29 [30, 31, 32, 33, 34, 35, 36, 37] (by kernel_rfl) z z (yi_off ((wanted_eq z z z z).trans z)) (ws_q (v := undef) 30 [31, 32, 33, 34, 35, 36, 37] (by kernel_rfl) z z (yi_off ((wanted_eq z z z z).trans z)) (ws_q (v := undef) 31 [32, 33, 34, 35, 36, 37] (by kernel_rfl) z z (yi_off ((wanted_eq z z z z).trans z)) (ws_q (v := undef) 32 [33, 34, 35, 36, 37] (by kernel_rfl) z z (yi_off ((wanted_eq z z z z).trans z)) (ws_q (v := undef) 33 [34, 35, 36, 37] (by kernel_rfl) z z (yi_off ((wanted_eq z z z z).trans z)) (ws_q (v := undef) 34 [35, 36, 37] (by kernel_rfl) z z (yi_off ((wanted_eq z z z z).trans z)) (ws_q (v := undef) 35 [36, 37] (by kernel_rfl) z z (yi_off ((wanted_eq z z z z).trans z)) (wsr (.bool false) 36 z z z (by kernel_rfl) (fun w hst => x_pick_f z z z) (wsr (.bool false) 37 z z z (by kernel_rfl) (fun w hst => z) ?_)))))))))))
 refine ws_nil ?_
 intro w hst
 refine tn (wp_ret ?_)
 replace hst := hst.objO_nil at_net_Net
 obtain rfl := some_inj hm
 refine post_ret (vs := [.bool false]) results14 (rvs_cons (rv_tmp z) rvs_nil) ?_
 exact ⟨z, hst.keep1⟩
}
 {
 replace hst := objO_get hst
 dsimp only [net_Net_is] at hm
 refine calls_start (args := [p0, .agg #[I6 a1.From, I6 a1.To, I6 a1.Lane]]) func14 z ntmps14 (Nat.le_of_ble_eq_true z) ?_
 refine wp_seq (wrl ?_)
 obtain ⟨b74, w75, ew76, eb77, hst⟩ := hst.box [I6 a1.From, I6 a1.To, I6 a1.Lane] 23
 refine wl_run (v := Pt b74 0) (w' := w75) z z (x_al (by kernel_rfl) ew76 eb77) ?_
 refine wv (.bool false) z z z (wl_nil (tn (wp_seq ?_)))
 replace hst := hst.pull1
 obtain ⟨b79, v80, v82, rfl, hst'⟩ := at_net_Net_open hst
 clear hst
 have hst := hst'
 clear hst'
 refine wp_region_St hst 38 [0, 1, 2, 3, 4, 5, 6, 7, 8, 9, 10, 11, 12, 13, 14, 15, 16, 17, 18, 19, 20, 21, 22, 23, 24, 25, 26, 27, 28, 29, 30, 31, 32, 33, 34, 35, 36, 37] [0, 1, 3, 7, 15, 31, 63, 7, 135, 511, 1023, 2047, 4095, 8191, 16383, 32767, 4095, 69631, 262143, 524287, 1048575, 2097151, 4194303, 2097151, 10485759, 33554431, 67108863, 134217727, 268435455, 536870911, 1073741823, 2147483647, 268435455, 4563402751, 17179869183, 34359738367, 68719476735, 137438953471] [] z (by kernel_rfl) (by kernel_rfl) Try.mixed (by kernel_rfl) ?_
 refine wsr (Pt b79 0) 0 z z z (by kernel_rfl) (fun w hst => z) (wsr (.bool true) 1 z z z (by kernel_rfl) (fun w hst => by kernel_rfl) (wsr (.bool true) 2 z z z (by kernel_rfl) (fun w hst => z) (ws_q (v := Pt b79 0) 3 [4, 5, 6, 7, 8, 9, 10, 11, 12, 13, 14, 15, 16, 17, 18, 19, 20, 21, 22, 23, 24, 25, 26, 27, 28, 29, 30, 31, 32, 33, 34, 35, 36, 37] (by kernel_rfl) z z (yi_run ((wanted_eq z z z z).trans z) (fun w hst => z)) (ws_q (v := Pt b79 0) 4 [5, 6, 7, 8, 9, 10, 11, 12, 13, 14, 15, 16, 17, 18, 19, 20, 21, 22, 23, 24, 25, 26, 27, 28, 29, 30, 31, 32, 33, 34, 35, 36, 37] (by kernel_rfl) z z (yi_run ((wanted_eq z z z z).trans z) (fun w hst => z)) (ws_q (v := Pt b79 0) 5 [6, 7, 8, 9, 10, 11, 12, 13, 14, 15, 16, 17, 18, 19, 20, 21, 22, 23, 24, 25, 26, 27, 28, 29, 30, 31, 32, 33, 34, 35, 36, 37] (by kernel_rfl) z z (yi_run ((wanted_eq z z z z).trans z) (fun w hst => x_field z underlying52 z sizeOf27 z)) (ws_q (v := v80) 6 [7, 8, 9, 10, 11, 12, 13, 14, 15, 16, 17, 18, 19, 20, 21, 22, 23, 24, 25, 26, 27, 28, 29, 30, 31, 32, 33, 34, 35, 36, 37] (by kernel_rfl) z z (yi_run ((wanted_eq z z z z).trans z) (fun w hst => x_load z isAgg27 (hst.bc0 z))) (ws_q (v := Pt b74 0) 7 [8, 9, 10, 11, 12, 13, 14, 15, 16, 17, 18, 19, 20, 21, 22, 23, 24, 25, 26, 27, 28, 29, 30, 31, 32, 33, 34, 35, 36, 37] (by kernel_rfl) z z (yi_run ((wanted_eq z z z z).trans z) (fun w hst => x_field z underlying23 z sizeOf3 z)) (ws_q (v := .int .i64 a1.From) 8 [9, 10, 11, 12, 13, 14, 15, 16, 17, 18, 19, 20, 21, 22, 23, 24, 25, 26, 27, 28, 29, 30, 31, 32, 33, 34, 35, 36, 37] (by kernel_rfl) z z (yi_run ((wanted_eq z z z z).trans z) (fun w hst => x_load z isAgg3 (hst.bc3 z))) ?_))))))))
 refine ws_e1 9 (by kernel_rfl) ?_
 refine nxe [10, 11, 12, 13, 14, 15, 16, 17, 18, 19, 20, 21, 22, 23, 24, 25, 26, 27, 28, 29, 30, 31, 32, 33, 34, 35, 36, 37] (by kernel_rfl) z ((wanted_eq z z z z).trans z) ?_
 clear hst
 intro w hst
 replace hst := hst.pull1
 obtain ⟨t84, ht85, hm⟩ := bind_some hm
 refine wec call21 [v80, I6 a1.From] z z ?_
 refine (config_Plan_Node_ref hst.to1 ht85).mono ?_
 rintro _ w86 ⟨rfl, hst⟩
 refine ⟨_, z, ?_⟩
 replace hst := hst.of1
 refine ws_next (pend' := []) hst (by kernel_rfl) pk_nil ?_
 refine wsr (.bool t84) 10 z z z (by kernel_rfl) (fun w hst => x_pick_t z z z) (wsr (.bool t84) 11 z z z (by kernel_rfl) (fun w hst => z) ?_)
 refine bsplit t84 (fun hc89 => ?_) (fun hc89 => ?_)
 {
 replace hm := bif_t hc89 hm
 refine ws_q (v := Pt b79 0) 12 [13, 14, 15, 16, 17, 18, 19, 20, 21, 22, 23, 24, 25, 26, 27, 28, 29, 30, 31, 32, 33, 34, 35, 36, 37] (by kernel_rfl) z z (yi_run ((wanted_eq z z z (cvb hc89)).trans z) (fun w hst => z)) (ws_q (v := Pt b79 0) 13 [14, 15, 16, 17, 18, 19, 20, 21, 22, 23, 24, 25, 26, 27, 28, 29, 30, 31, 32, 33, 34, 35, 36, 37] (by kernel_rfl) z z (yi_run ((wanted_eq z z z (cvb hc89)).trans z) (fun w hst => z)) (ws_q (v := Pt b79 0) 14 [15, 16, 17, 18, 19, 20, 21, 22, 23, 24, 25, 26, 27, 28, 29, 30, 31, 32, 33, 34, 35, 36, 37] (by kernel_rfl) z z (yi_run ((wanted_eq z z z (cvb hc89)).trans z) (fun w hst => x_field z underlying52 z sizeOf27 z)) (ws_q (v := v80) 15 [16, 17, 18, 19, 20, 21, 22, 23, 24, 25, 26, 27, 28, 29, 30, 31, 32, 33, 34, 35, 36, 37] (by kernel_rfl) z z (yi_run ((wanted_eq z z z (cvb hc89)).trans z) (fun w hst => x_load z isAgg27 (hst.bc1 z))) (ws_q (v := Pt b74 1) 16 [17, 18, 19, 20, 21, 22, 23, 24, 25, 26, 27, 28, 29, 30, 31, 32, 33, 34, 35, 36, 37] (by kernel_rfl) z z (yi_run ((wanted_eq z z z (cvb hc89)).trans z) (fun w hst => x_field z underlying23 z sizeOf3 z)) (ws_q (v := .int .i64 a1.To) 17 [18, 19, 20, 21, 22, 23, 24, 25, 26, 27, 28, 29, 30, 31, 32, 33, 34, 35, 36, 37] (by kernel_rfl) z z (yi_run ((wanted_eq z z z (cvb hc89)).trans z) (fun w hst => x_load z isAgg3 (hst.bc3 z))) ?_)))))
 refine ws_e1 18 (by kernel_rfl) ?_
 refine nxe [19, 20, 21, 22, 23, 24, 25, 26, 27, 28, 29, 30, 31, 32, 33, 34, 35, 36, 37] (by kernel_rfl) z ((wanted_eq z z z (cvb hc89)).trans z) ?_
 clear hst
 intro w hst
 obtain ⟨t90, ht91, hm⟩ := bind_some hm
 refine wec call21 [v80, I6 a1.To] z z ?_
 refine (config_Plan_Node_ref hst.to1 ht91).mono ?_
 rintro _ w92 ⟨rfl, hst⟩
 refine ⟨_, z, ?_⟩
 replace hst := hst.of1
 refine ws_next (pend' := []) hst (by kernel_rfl) pk_nil ?_
 refine wsr (.bool t90) 19 z z z (by kernel_rfl) (fun w hst => x_pick_t hc89 z z) (wsr (.bool t90) 20 z z z (by kernel_rfl) (fun w hst => z) ?_)
 refine bsplit t90 (fun hc95 => ?_) (fun hc95 => ?_)
 {
 replace hm := bif_t hc95 hm
 refine ws_q (v := Pt b74 0) 21 [22, 23, 24, 25, 26, 27, 28, 29, 30, 31, 32, 33, 34, 35, 36, 37] (by kernel_rfl) z z (yi_run ((wanted_eq z z z (cvb hc95)).trans z) (fun w hst => x_field z underlying23 z sizeOf3 z)) (ws_q (v := .int .i64 a1.From) 22 [23, 24, 25, 26, 27, 28, 29, 30, 31, 32, 33, 34, 35, 36, 37] (by kernel_rfl) z z (yi_run ((wanted_eq z z z (cvb hc95)).trans z) (fun w hst => x_load z isAgg3 (hst.bc3 z))) (ws_q (v := Pt b74 1) 23 [24, 25, 26, 27, 28, 29, 30, 31, 32, 33, 34, 35, 36, 37] (by kernel_rfl) z z (yi_run ((wanted_eq z z z (cvb hc95)).trans z) (fun w hst => x_field z underlying23 z sizeOf3 z)) (ws_q (v := .int .i64 a1.To) 24 [25, 26, 27, 28, 29, 30, 31, 32, 33, 34, 35, 36, 37] (by kernel_rfl) z z (yi_run ((wanted_eq z z z (cvb hc95)).trans z) (fun w hst => x_load z isAgg3 (hst.bc3 z))) (ws_q (v := .bool (a1.From != a1.To)) 25 [26, 27, 28, 29, 30, 31, 32, 33, 34, 35, 36, 37] (by kernel_rfl) z z (yi_run ((wanted_eq z z z (cvb hc95)).trans z) (fun w hst => z)) (wsr (.bool (a1.From != a1.To)) 26 z z z (by kernel_rfl) (fun w hst => x_pick_t hc95 z z) (wsr (.bool (a1.From != a1.To)) 27 z z z (by kernel_rfl) (fun w hst => z) ?_))))))
 refine bsplit (a1.From != a1.To) (fun hc96 => ?_) (fun hc96 => ?_)
 {
 replace hm := bif_t hc96 hm
 refine ws_q (v := Pt b79 0) 28 [29, 30, 31, 32, 33, 34, 35, 36, 37] (by kernel_rfl) z z (yi_run ((wanted_eq z z z (cvb hc96)).trans z) (fun w hst => z)) (ws_q (v := Pt b79 0) 29 [30, 31, 32, 33, 34, 35, 36, 37] (by kernel_rfl) z z (yi_run ((wanted_eq z z z (cvb hc96)).trans z) (fun w hst => z)) (ws_q (v := Pt b79 0) 30 [31, 32, 33, 34, 35, 36, 37] (by kernel_rfl) z z (yi_run ((wanted_eq z z z (cvb hc96)).trans z) (fun w hst => x_field z underlying52 z sizeOf27 z)) (ws_q (v := v80) 31 [32, 33, 34, 35, 36, 37] (by kernel_rfl) z z (yi_run ((wanted_eq z z z (cvb hc96)).trans z) (fun w hst => x_load z isAgg27 (hst.bc1 z))) (ws_q (v := Pt b74 2) 32 [33, 34, 35, 36, 37] (by kernel_rfl) z z (yi_run ((wanted_eq z z z (cvb hc96)).trans z) (fun w hst => x_field z underlying23 z sizeOf3 z)) (ws_q (v := .int .i64 a1.Lane) 33 [34, 35, 36, 37] (by kernel_rfl) z z (yi_run ((wanted_eq z z z (cvb hc96)).trans z) (fun w hst => x_load z isAgg3 (hst.bc3 z))) ?_)))))
 refine ws_e1 34 (by kernel_rfl) ?_
 refine nxe [35, 36, 37] (by kernel_rfl) z ((wanted_eq z z z (cvb hc96)).trans z) ?_
 clear hst
 intro w hst
 obtain ⟨t97, ht98, hm⟩ := bind_some hm
 refine wec call22 [v80, I6 a1.Lane] z z ?_
 refine (config_Plan_Label_ref hst.to1 ht98).mono ?_
 rintro _ w99 ⟨rfl, hst⟩
 refine ⟨_, z, ?_⟩
 replace hst := hst.of1
 refine ws_next (pend' := []) hst (by kernel_rfl) pk_nil ?_
 refine ws_q (v := .bool (decide (t97 ≥ (0:Int)))) 35 [36, 37] (by kernel_rfl) z z (yi_run ((wanted_eq z z z (cvb hc96)).trans z) (fun w hst => z)) (wsr (.bool (decide (t97 ≥ (0:Int)))) 36 z z z (by kernel_rfl) (fun w hst => x_pick_t hc96 z z) (wsr (.bool (decide (t97 ≥ (0:Int)))) 37 z z z (by kernel_rfl) (fun w hst => z) ?_))
 refine ws_nil ?_
 intro w hst
 refine tn (wp_ret ?_)
 replace hst := hst.pull2.pull1.pull2
 replace hst := at_net_Net_close (pv := Pt b79 0) (x := o0) hst z
 replace hst := objO_some hst
 obtain rfl := some_inj hm
 refine post_ret (vs := [.bool (decide (t97 ≥ (0:Int)))]) results14 (rvs_cons (rv_tmp z) rvs_nil) ?_
 exact ⟨z, hst.keep1⟩
}
 {
 replace hm := bif_f hc96 hm
 refine ws_q (v := undef) 28 [29, 30, 31, 32, 33, 34, 35, 36, 37] (by kernel_rfl) z z (yi_off ((wanted_eq z z z (cvb hc96)).trans z)) (ws_q (v := undef) 29 [30, 31, 32, 33, 34, 35, 36, 37] (by kernel_rfl) z z (yi_off ((wanted_eq z z z (cvb hc96)).trans z)) (ws_q (v := undef) 30 [31, 32, 33, 34, 35, 36, 37] (by kernel_rfl) z z (yi_off ((wanted_eq z z z (cvb hc96)).trans z)) (ws_q (v := undef) 31 [32, 33, 34, 35, 36, 37] (by kernel_rfl) z z (yi_off ((wanted_eq z z z (cvb hc96)).trans z)) (ws_q (v := undef) 32 [33, 34, 35, 36, 37] (by kernel_rfl) z z (yi_off ((wanted_eq z z z (cvb hc96)).trans z)) (ws_q (v := undef) 33 [34, 35, 36, 37] (by kernel_rfl) z z (yi_off ((wanted_eq z z z (cvb hc96)).trans z)) (ws_q (v := undef) 34 [35, 36, 37] (by kernel_rfl) z z (yi_off ((wanted_eq z z z (cvb hc96)).trans z)) (ws_q (v := undef) 35 [36, 37] (by kernel_rfl) z z (yi_off ((wanted_eq z z z (cvb hc96)).trans z)) (wsr (.bool false) 36 z z z (by kernel_rfl) (fun w hst => x_pick_f hc96 z z) (wsr (.bool false) 37 z z z (by kernel_rfl) (fun w hst => z) ?_)))))))))
 refine ws_nil ?_
 intro w hst
 refine tn (wp_ret ?_)
 replace hst := hst.pull2.pull1.pull2
 replace hst := at_net_Net_close (pv := Pt b79 0) (x := o0) hst z
 replace hst := objO_some hst
 obtain rfl := some_inj hm
 refine post_ret (vs := [.bool false]) results14 (rvs_cons (rv_tmp z) rvs_nil) ?_
 exact ⟨z, hst.keep1⟩
}
}
 {
 replace hm := bif_f hc95 hm
 refine ws_q (v := undef) 21 [22, 23, 24, 25, 26, 27, 28, 29, 30, 31, 32, 33, 34, 35, 36, 37] (by kernel_rfl) z z (yi_off ((wanted_eq z z z (cvb hc95)).trans z)) (ws_q (v := undef) 22 [23, 24, 25, 26, 27, 28, 29, 30, 31, 32, 33, 34, 35, 36, 37] (by kernel_rfl) z z (yi_off ((wanted_eq z z z (cvb hc95)).trans z)) (ws_q (v := undef) 23 [24, 25, 26, 27, 28, 29, 30, 31, 32, 33, 34, 35, 36, 37] (by kernel_rfl) z z (yi_off ((wanted_eq z z z (cvb hc95)).trans z)) (ws_q (v := undef) 24 [25, 26, 27, 28, 29, 30, 31, 32, 33, 34, 35, 36, 37] (by kernel_rfl) z z (yi_off ((wanted_eq z z z (cvb hc95)).trans z)) (ws_q (v := undef) 25 [26, 27, 28, 29, 30, 31, 32, 33, 34, 35, 36, 37] (by kernel_rfl) z z (yi_off ((wanted_eq z z z (cvb hc95)).trans z)) (wsr (.bool false) 26 z z z (by kernel_rfl) (fun w hst => x_pick_f hc95 z z) (wsr (.bool false) 27 z z z (by kernel_rfl) (fun w hst => z) (ws_q (v := undef) 28 [29, 30, 31, 32, 33, 34, 35, 36, 37] (by kernel_rfl) z z (yi_off ((wanted_eq z z z z).trans z)) (ws_q (v := undef) 29 [30, 31, 32, 33, 34, 35, 36, 37] (by kernel_rfl) z z (yi_off ((wanted_eq z z z z).trans z)) (ws_q (v := undef) 30 [31, 32, 33, 34, 35, 36, 37] (by kernel_rfl) z z (yi_off ((wanted_eq z z z z).trans z)) (ws_q (v := undef) 31 [32, 33, 34, 35, 36, 37] (by kernel_rfl) z z (yi_off ((wanted_eq z z z z).trans z)) (ws_q (v := undef) 32 [33, 34, 35, 36, 37] (by kernel_rfl) z z (yi_off ((wanted_eq z z z z).trans z)) (ws_q (v := undef) 33 [34, 35, 36, 37] (by kernel_rfl) z z (yi_off ((wanted_eq z z z z).trans z)) ?_))))))))))))
 refine ws_q (v := undef) 34 [35, 36, 37] (by kernel_rfl) z z (yi_off ((wanted_eq z z z z).trans z)) (ws_q (v := undef) 35 [36, 37] (by kernel_rfl) z z (yi_off ((wanted_eq z z z z).trans z)) (wsr (.bool false) 36 z z z (by kernel_rfl) (fun w hst => x_pick_f z z z) (wsr (.bool false) 37 z z z (by kernel_rfl) (fun w hst => z) ?_)))
 refine ws_nil ?_
 intro w hst
 refine tn (wp_ret ?_)
 replace hst := hst.pull2.pull1.pull2
 replace hst := at_net_Net_close (pv := Pt b79 0) (x := o0) hst z
 replace hst := objO_some hst
 obtain rfl := some_inj hm
 refine post_ret (vs := [.bool false]) results14 (rvs_cons (rv_tmp z) rvs_nil) ?_
 exact ⟨z, hst.keep1⟩
}
}
 {
 replace hm := bif_f hc89 hm
 refine ws_q (v := undef) 12 [13, 14, 15, 16, 17, 18, 19, 20, 21, 22, 23, 24, 25, 26, 27, 28, 29, 30, 31, 32, 33, 34, 35, 36, 37] (by kernel_rfl) z z (yi_off ((wanted_eq z z z (cvb hc89)).trans z)) (ws_q (v := undef) 13 [14, 15, 16, 17, 18, 19, 20, 21, 22, 23, 24, 25, 26, 27, 28, 29, 30, 31, 32, 33, 34, 35, 36, 37] (by kernel_rfl) z z (yi_off ((wanted_eq z z z (cvb hc89)).trans z)) (ws_q (v := undef) 14 [15, 16, 17, 18, 19, 20, 21, 22, 23, 24, 25, 26, 27, 28, 29, 30, 31, 32, 33, 34, 35, 36, 37] (by kernel_rfl) z z (yi_off ((wanted_eq z z z (cvb hc89)).trans z)) (ws_q (v := undef) 15 [16, 17, 18, 19, 20, 21, 22, 23, 24, 25, 26, 27, 28, 29, 30, 31, 32, 33, 34, 35, 36, 37] (by kernel_rfl) z z (yi_off ((wanted_eq z z z (cvb hc89)).trans z)) (ws_q (v := undef) 16 [17, 18, 19, 20, 21, 22, 23, 24, 25, 26, 27, 28, 29, 30, 31, 32, 33, 34, 35, 36, 37] (by kernel_rfl) z z (yi_off ((wanted_eq z z z (cvb hc89)).trans z)) (ws_q (v := undef) 17 [18, 19, 20, 21, 22, 23, 24, 25, 26, 27, 28, 29, 30, 31, 32, 33, 34, 35, 36, 37] (by kernel_rfl) z z (yi_off ((wanted_eq z z z (cvb hc89)).trans z)) (ws_q (v := undef) 18 [19, 20, 21, 22, 23, 24, 25, 26, 27, 28, 29, 30, 31, 32, 33, 34, 35, 36, 37] (by kernel_rfl) z z (yi_off ((wanted_eq z z z (cvb hc89)).trans z)) (wsr (.bool false) 19 z z z (by kernel_rfl) (fun w hst => x_pick_f hc89 z z) (wsr (.bool false) 20 z z z (by kernel_rfl) (fun w hst => z) (ws_q (v := undef) 21 [22, 23, 24, 25, 26, 27, 28, 29, 30, 31, 32, 33, 34, 35, 36, 37] (by kernel_rfl) z z (yi_off ((wanted_eq z z z z).trans z)) (ws_q (v := undef) 22 [23, 24, 25, 26, 27, 28, 29, 30, 31, 32, 33, 34, 35, 36, 37] (by kernel_rfl) z z (yi_off ((wanted_eq z z z z).trans z)) (ws_q (v := undef) 23 [24, 25, 26, 27, 28, 29, 30, 31, 32, 33, 34, 35, 36, 37] (by kernel_rfl) z z (yi_off ((wanted_eq z z z z).trans z)) (ws_q (v := undef) 24 [25, 26, 27, 28, 29, 30, 31, 32, 33, 34, 35, 36, 37] (by kernel_rfl) z z (yi_off ((wanted_eq z z z z).trans z)) ?_))))))))))))
 refine ws_q (v := undef) 25 [26, 27, 28, 29, 30, 31, 32, 33, 34, 35, 36, 37] (by kernel_rfl) z z (yi_off ((wanted_eq z z z z).trans z)) (wsr (.bool false) 26 z z z (by kernel_rfl) (fun w hst => x_pick_f z z z) (wsr (.bool false) 27 z z z (by kernel_rfl) (fun w hst => z) (ws_q (v := undef) 28 [29, 30, 31, 32, 33, 34, 35, 36, 37] (by kernel_rfl) z z (yi_off ((wanted_eq z z z z).trans z)) (ws_q (v := undef) 29 [30, 31, 32, 33, 34, 35, 36, 37] (by kernel_rfl) z z (yi_off ((wanted_eq z z z z).trans z)) (ws_q (v := undef) 30 [31, 32, 33, 34, 35, 36, 37] (by kernel_rfl) z z (yi_off ((wanted_eq z z z z).trans z)) (ws_q (v := undef) 31 [32, 33, 34, 35, 36, 37] (by kernel_rfl) z z (yi_off ((wanted_eq z z z z).trans z)) (ws_q (v := undef) 32 [33, 34, 35, 36, 37] (by kernel_rfl) z z (yi_off ((wanted_eq z z z z).trans z)) (ws_q (v := undef) 33 [34, 35, 36, 37] (by kernel_rfl) z z (yi_off ((wanted_eq z z z z).trans z)) (ws_q (v := undef) 34 [35, 36, 37] (by kernel_rfl) z z (yi_off ((wanted_eq z z z z).trans z)) (ws_q (v := undef) 35 [36, 37] (by kernel_rfl) z z (yi_off ((wanted_eq z z z z).trans z)) (wsr (.bool false) 36 z z z (by kernel_rfl) (fun w hst => x_pick_f z z z) (wsr (.bool false) 37 z z z (by kernel_rfl) (fun w hst => z) ?_))))))))))))
 refine ws_nil ?_
 intro w hst
 refine tn (wp_ret ?_)
 replace hst := hst.pull2.pull1.pull2
 replace hst := at_net_Net_close (pv := Pt b79 0) (x := o0) hst z
 replace hst := objO_some hst
 obtain rfl := some_inj hm
 refine post_ret (vs := [.bool false]) results14 (rvs_cons (rv_tmp z) rvs_nil) ?_
 exact ⟨z, hst.keep1⟩
}
}
}

theorem slices_Clone_byte_byte_ref {w0 w : World} {I : HL} {R : SP} {a0 : (List Int)} {r0_0 : Value} (f0_0 : Rd (tyInt .u8) R I r0_0 a0) (hst : St w0 w I [] R) {r : (List Int)} (hm : slices_Clone_byte_byte a0 = some r) :
  Calls prog 15 #[r0_0] w fun e w' => ∃ (q0_0 : Value), e = .returned (q0_0) ∧ St w0 w' I [ownS (tyInt .u8) q0_0 r] R := by {
 unfold slices_Clone_byte_byte at hm
 obtain ⟨hg, hm⟩ := gd_some hm
 obtain rfl := some_inj hm
 have hsv := rd_sliceV f0_0
 refine calls_start (args := [r0_0]) func15 z ntmps15 (Nat.le_of_ble_eq_true z) ?_
 refine wp_seq (wrl (wv ((.slice none 0 0)) z z z (wl_nil (tn (wp_seq (wp_seq (wrl (wv (r0_0) z z z (wv (.bool (isNil r0_0)) z z (x_slnil z hsv z underlying24) (wl_nil (tn ?_)))))))))))
 refine bsplit (isNil r0_0) (fun hc41 => ?_) (fun hc41 => ?_)
 {
 refine wp_ift (cvb hc41) ?_
 refine wp_seq (wrl (wv ((.slice none 0 0)) z z z (wl_nil (tn (wp_ret (then_r ?_))))))
 refine post_ret (vs := [Zs]) results15 (rvs_cons (rv_tmp z) rvs_nil) ?_
 obtain rfl := List.eq_nil_of_length_eq_zero (isNil_len hsv hc41)
 exact ⟨_, z, (hst.own_nil (tyInt .u8)).keep1⟩
}
 {
 refine wp_iff (cvb hc41) ?_
 refine wp_skip (tn (wp_seq (wrl ?_)))
 obtain ⟨b, w1, ew, eb, hst⟩ := hst.lits (E := (tyInt .u8)) (xs := []) [] 5 0 z Reps.nil
 refine wl_run (v := (.slice (some ⟨b, 0, none⟩) 0 0)) (w' := w1) z z (x_als (by kernel_rfl) ew eb) ?_
 refine wv (r0_0) z z z ?_
 obtain ⟨v2, w2, hr, hst⟩ := run_append elem_24 underlying24 hst (Src.of_rd hst f0_0 flat_int) (room_of hg z) 24
 refine wl_run (v := v2) (w' := w2) z z (x_append z z hr) ?_
 refine wv (v2) z z z (wl_nil (tn (wp_ret ?_)))
 refine post_ret (vs := [v2]) results15 (rvs_cons (rv_tmp z) rvs_nil) ?_
 rw [List.nil_append] at hst
 exact ⟨_, z, hst.keep1⟩
}
}

theorem net_Net_Put_ref {w0 w : World} {I : HL} {R : SP} {a0 : (Option net_Net)} {p0 : Value} {a1 : net_Link} {a2 : (List Int)} {r2_0 : Value} (f2_0 : Rd (tyInt .u8) R I r2_0 a2) (hst : St w0 w I [objO at_net_Net p0 a0] R) {r : (Int × (Option net_Net))} (hm : net_Net_Put a0 a1 a2 = some r) :
  Calls prog 7 #[p0, .agg #[I6 a1.From, I6 a1.To, I6 a1.Lane], r2_0] w fun e w' => ∃ (I' : HL), e = .returned (.int .i64 r.1) ∧ I.le I' ∧ St w0 w' I' [objO at_net_Net p0 r.2] R := by {
 rcases a0 with _ | o0
 {
 obtain ⟨rfl, hst'⟩ := objO_none hst
 clear hst
 have hst := hst'
 clear hst'
 dsimp only [net_Net_Put] at hm
 refine calls_start (args := [.pointer none, .agg #[I6 a1.From, I6 a1.To, I6 a1.Lane], r2_0]) func7 z ntmps7 (Nat.le_of_ble_eq_true z) ?_
 have hI0 := HL.le.refl I
 refine wp_seq (wrl ?_)
 obtain ⟨b148, w149, ew150, eb151, hst⟩ := hst.box [I6 a1.From, I6 a1.To, I6 a1.Lane] 23
 refine wl_run (v := Pt b148 0) (w' := w149) z z (x_al (by kernel_rfl) ew150 eb151) ?_
 refine wv (.int .i64 (0:Int)) z z z (wl_nil (tn (wp_seq (wp_seq (wrl (wv (.pointer none) z z z (wv (.agg #[I6 a1.From, I6 a1.To, I6 a1.Lane]) z z (x_loadN (cs := [I6 a1.From, I6 a1.To, I6 a1.Lane]) z isAgg23 sizeOf23 (hst.bcs0 0 z)) ?_)))))))
 replace hst := hst.objO_nil at_net_Net
 obtain ⟨t154, ht155, hm⟩ := bind_some hm
 refine wc call14 [.pointer none, .agg #[I6 a1.From, I6 a1.To, I6 a1.Lane]] z z z ?_
 refine (net_Net_is_ref hst.to1 ht155).mono ?_
 rintro _ w156 ⟨rfl, hst⟩
 refine ⟨_, z, ?_⟩
 replace hst := hst.of1
 refine wv (.bool (!t154)) z z z (wl_nil (tn ?_))
 refine bsplit (!t154) (fun hc159 => ?_) (fun hc159 => ?_)
 {
 replace hm := bif_t hc159 hm
 refine wp_ift (cvb hc159) ?_
 refine wp_seq (wrl (wv (.int .i64 (1:Int)) z z z (wl_nil (tn (wp_ret (then_r ?_))))))
 replace hst := hst.objO_nil at_net_Net
 obtain rfl := some_inj hm
 refine post_ret (vs := [I6 (1:Int)]) results7 (rvs_cons (rv_tmp z) rvs_nil) ?_
 exact ⟨_, z, hI0, hst.keep1⟩
}
 {
 replace hm := bif_f hc159 hm
 refine wp_iff (cvb hc159) ?_
 refine wp_skip (tn (wp_seq ?_))
 refine wp_region_St hst 11 [0, 1, 2, 3, 4, 5, 6, 7, 8, 9, 10] [0, 1, 3, 7, 0, 31, 0, 64, 192, 511, 1023] [] z (by kernel_rfl) (by kernel_rfl) Try.mixed (by kernel_rfl) ?_
 refine wsr (.pointer none) 0 z z z (by kernel_rfl) (fun w hst => z) ?_
 cases hm
}
}
 {
 replace hst := objO_get hst
 dsimp only [net_Net_Put] at hm
 refine calls_start (args := [p0, .agg #[I6 a1.From, I6 a1.To, I6 a1.Lane], r2_0]) func7 z ntmps7 (Nat.le_of_ble_eq_true z) ?_
 have hI0 := HL.le.refl I
 refine wp_seq (wrl ?_)
 obtain ⟨b160, w161, ew162, eb163, hst⟩ := hst.box [I6 a1.From, I6 a1.To, I6 a1.Lane] 23
 refine wl_run (v := Pt b160 0) (w' := w161) z z (x_al (by kernel_rfl) ew162 eb163) ?_
 refine wv (.int .i64 (0:Int)) z z z (wl_nil (tn (wp_seq (wp_seq (wrl (wv (p0) z z z (wv (.agg #[I6 a1.From, I6 a1.To, I6 a1.Lane]) z z (x_loadN (cs := [I6 a1.From, I6 a1.To, I6 a1.Lane]) z isAgg23 sizeOf23 (hst.bcs0 0 z)) ?_)))))))
 replace hst := hst.pull1
 replace hst := objO_some hst
 obtain ⟨t165, ht166, hm⟩ := bind_some hm
 refine wc call14 [p0, .agg #[I6 a1.From, I6 a1.To, I6 a1.Lane]] z z z ?_
 refine (net_Net_is_ref hst.to1 ht166).mono ?_
 rintro _ w167 ⟨rfl, hst⟩
 refine ⟨_, z, ?_⟩
 replace hst := hst.of1
 replace hst := objO_get hst
 refine wv (.bool (!t165)) z z z (wl_nil (tn ?_))
 refine bsplit (!t165) (fun hc170 => ?_) (fun hc170 => ?_)
 {
 replace hm := bif_t hc170 hm
 refine wp_ift (cvb hc170) ?_
 refine wp_seq (wrl (wv (.int .i64 (1:Int)) z z z (wl_nil (tn (wp_ret (then_r ?_))))))
 replace hst := objO_some hst
 obtain rfl := some_inj hm
 refine post_ret (vs := [I6 (1:Int)]) results7 (rvs_cons (rv_tmp z) rvs_nil) ?_
 exact ⟨_, z, hI0, hst.keep1⟩
}
 {
 replace hm := bif_f hc170 hm
 refine wp_iff (cvb hc170) ?_
 refine wp_skip (tn (wp_seq ?_))
 obtain ⟨b171, v172, v174, rfl, hst'⟩ := at_net_Net_open hst
 clear hst
 have hst := hst'
 clear hst'
 rcases he177 : o0.m with _ | y176
 {
 rw [he177] at hm hst
 dsimp only at hm
 replace hst := hst.pull2.mapO_E
 refine wp_region_St hst 11 [0, 1, 2, 3, 4, 5, 6, 7, 8, 9, 10] [0, 1, 3, 7, 0, 31, 0, 64, 192, 511, 1023] [] z (by kernel_rfl) (by kernel_rfl) Try.mixed (by kernel_rfl) ?_
 refine wsr (Pt b171 0) 0 z z z (by kernel_rfl) (fun w hst => z) (wsr (Pt b171 0) 1 z z z (by kernel_rfl) (fun w hst => z) (wsr (Pt b171 1) 2 z z z (by kernel_rfl) (fun w hst => x_field z underlying52 z sizeOf50 z) (wsr (v174) 3 z z z (by kernel_rfl) (fun w hst => x_load z isAgg50 (hst.bc1 z)) (wsr (.agg #[I6 a1.From, I6 a1.To, I6 a1.Lane]) 4 z z z (by kernel_rfl) (fun w hst => x_loadN (cs := [I6 a1.From, I6 a1.To, I6 a1.Lane]) z isAgg23 sizeOf23 (hst.bcs3 0 z)) (wsr ((.slice none 0 0)) 5 z z z (by kernel_rfl) (fun w hst => x_look (kv := (lk a1.From a1.To a1.Lane)) z z (run_lookE hst (j := 0) z key3_23 underlying50 (fun _ => by kernel_rfl))) (wsr (r2_0) 6 z z z (by kernel_rfl) (fun w hst => z) ?_))))))
 refine ws_e1 7 (by kernel_rfl) ?_
 refine nxe [8, 9, 10] (by kernel_rfl) z z ?_
 clear hst
 intro w hst
 obtain ⟨t179, ht180, hm⟩ := bind_some hm
 refine wec call15 [r2_0] z z ?_
 refine (slices_Clone_byte_byte_ref (f2_0.mono (rd_weak _)) hst.to0 ht180).mono ?_
 rintro _ w181 ⟨v184, rfl, hst⟩
 refine ⟨_, z, ?_⟩
 replace hst := hst.of1
 refine ws_next (pend' := [(5, Zs), (4, .agg #[I6 a1.From, I6 a1.To, I6 a1.Lane]), (3, v174), (2, Pt b171 1), (1, Pt b171 0), (0, Pt b171 0)]) hst (by kernel_rfl) (pkr z z (fun w hst => x_look (kv := (lk a1.From a1.To a1.Lane)) z z (run_lookE hst (j := 1) z key3_23 underlying50 (fun _ => by kernel_rfl))) (pkr z z (fun w hst => x_loadN (cs := [I6 a1.From, I6 a1.To, I6 a1.Lane]) z isAgg23 sizeOf23 (hst.bcs4 0 z)) (pkr z z (fun w hst => x_load z isAgg50 (hst.bc2 z)) (pkr z z (fun w hst => x_field z underlying52 z sizeOf50 z) (pkr z z (fun w hst => z) (pkr z z (fun w hst => z) pk_nil)))))) ?_
 refine ws_e1 8 (by kernel_rfl) ?_
 refine nxe [9, 10] (by kernel_rfl) z z ?_
 clear hst
 intro w hst
 obtain ⟨I187, hI188, f189, hst⟩ := hst.own_fix
 replace f2_0 := f2_0.mono (rd_le hI188)
 replace hI0 := hI0.trans hI188
 obtain ⟨b190, w191, ew192, eb193, hst⟩ := hst.lits (E := (tySl (tyInt .u8))) (xs := [t179]) [[v184]] 24 1 z (Reps.cons ⟨_, z, f189, one_of_sliceV (ro_sliceV f189)⟩ Reps.nil)
 refine we_run (v := (.slice (some ⟨b190, 0, none⟩) 1 1)) (w' := w191) z (x_als (by obtain ⟨_, _, hv_, _⟩ := (ro_sliceV f189); rw [hv_]; kernel_rfl) ew192 eb193) ?_
 refine ws_next (pend' := [(5, Zs), (4, .agg #[I6 a1.From, I6 a1.To, I6 a1.Lane]), (3, v174), (2, Pt b171 1), (1, Pt b171 0), (0, Pt b171 0)]) hst (by kernel_rfl) (pkr z z (fun w hst => x_look (kv := (lk a1.From a1.To a1.Lane)) z z (run_lookE hst (j := 1) z key3_23 underlying50 (fun _ => by kernel_rfl))) (pkr z z (fun w hst => x_loadN (cs := [I6 a1.From, I6 a1.To, I6 a1.Lane]) z isAgg23 sizeOf23 (hst.bcs4 0 z)) (pkr z z (fun w hst => x_load z isAgg50 (hst.bc2 z)) (pkr z z (fun w hst => x_field z underlying52 z sizeOf50 z) (pkr z z (fun w hst => z) (pkr z z (fun w hst => z) pk_nil)))))) ?_
 refine ws_e1 9 (by kernel_rfl) ?_
 refine nxe [10] (by kernel_rfl) z z ?_
 clear hst
 intro w hst
 replace hst := hst.own_nil (tySl (tyInt .u8))
 obtain ⟨hg195, hm⟩ := gd_some hm
 obtain ⟨v196, w197, hr198, hst⟩ := run_append elem_49 underlying49 hst hst.src1 (room_of hg195 z) 49
 replace hst := St.nil_app hst
 refine we_run (v := v196) (w' := w197) z (x_append z z hr198) ?_
 refine ws_next (pend' := []) hst (by kernel_rfl) pk_nil ?_
 refine wsr (v196) 10 z z z (by kernel_rfl) (fun w hst => z) ?_
 refine ws_nil ?_
 intro w hst
 refine tn (wp_seq ?_)
 refine wp_region_St hst 12 [0, 1, 2, 3, 4, 5, 6, 7, 8, 9, 10, 11] [0, 1, 3, 7, 0, 0, 0, 64, 192, 448, 992, 2047] [] z (by kernel_rfl) (by kernel_rfl) Try.mixed (by kernel_rfl) ?_
 refine wsr (Pt b171 0) 0 z z z (by kernel_rfl) (fun w hst => z) (wsr (Pt b171 0) 1 z z z (by kernel_rfl) (fun w hst => z) (wsr (Pt b171 1) 2 z z z (by kernel_rfl) (fun w hst => x_field z underlying52 z sizeOf50 z) (wsr (v174) 3 z z z (by kernel_rfl) (fun w hst => x_load z isAgg50 (hst.bc3 z)) (wsr (.agg #[I6 a1.From, I6 a1.To, I6 a1.Lane]) 4 z z z (by kernel_rfl) (fun w hst => x_loadN (cs := [I6 a1.From, I6 a1.To, I6 a1.Lane]) z isAgg23 sizeOf23 (hst.bcs5 0 z)) (wsr (v196) 5 z z z (by kernel_rfl) (fun w hst => z) (wsr (v196) 6 z z z (by kernel_rfl) (fun w hst => z) (wsr (.int .i64 (([t179]).length : Int)) 7 z z z (by kernel_rfl) (fun w hst => x_len z underlying49 hst.sv0) (wsr (.int .i64 (i64.wrap ((([t179]).length : Int) - (256:Int)))) 8 z z z (by kernel_rfl) (fun w hst => z) (wsr (.int .i64 (if (i64.wrap ((([t179]).length : Int) - (256:Int))) > (0:Int) then (i64.wrap ((([t179]).length : Int) - (256:Int))) else (0:Int))) 9 z z z (by kernel_rfl) (fun w hst => by kernel_rfl) ?_)))))))))
 obtain ⟨hg200, hm⟩ := gd_some hm
 obtain ⟨h201, h202, h203⟩ := fits_of hg200
 refine wsr ((slcV 1 v196 (if (i64.wrap ((([t179]).length : Int) - (256:Int))) > (0:Int) then (i64.wrap ((([t179]).length : Int) - (256:Int))) else (0:Int)).toNat ((([t179]).length : Nat) : Int).toNat)) 10 z z z (by kernel_rfl) (fun w hst => x_slice underlying49 sizeOf24 z hst.sv0 h201 h202 h203 .i64 .i64 (.inl z) (.inr ⟨z, z⟩)) ?_
 refine ws_e1 11 (by kernel_rfl) ?_
 refine nxe [] (by kernel_rfl) z z ?_
 clear hst
 intro w hst
 replace hst := hst.own_part h202 h203 h201
 replace hst := hst.pull2
 obtain ⟨w205, hr206, hst⟩ := run_putE (P := prog) hst key3_23 underlying50 a1.From a1.To a1.Lane (slcV 1 v196 (if (i64.wrap ((([t179]).length : Int) - (256:Int))) > (0:Int) then (i64.wrap ((([t179]).length : Int) - (256:Int))) else (0:Int)).toNat ((([t179]).length : Nat) : Int).toNat)
 refine we_unit z (x_put (kv := (lk a1.From a1.To a1.Lane)) z z z hr206) ?_
 refine ws_next (pend' := []) hst (by kernel_rfl) pk_nil ?_
 refine ws_nil ?_
 intro w hst
 refine tn (wp_seq (wrl (wv (.int .i64 (0:Int)) z z z (wl_nil (tn (wp_ret ?_))))))
 replace hst := hst.pull1.C_mapO (kf := kv_net_Link) (kk := a1)
 replace hst := hst.pull3.pull3
 replace hst := at_net_Net_close (pv := Pt b171 0) (x := ({ p := o0.p, m := (some (a1, (subs ([t179]) (if (i64.wrap ((([t179]).length : Int) - (256:Int))) > (0:Int) then (i64.wrap ((([t179]).length : Int) - (256:Int))) else (0:Int)) ((([t179]).length : Nat) : Int)))) } : net_Net)) hst z
 replace hst := objO_some hst
 obtain rfl := some_inj hm
 refine post_ret (vs := [Zi]) results7 (rvs_cons (rv_tmp z) rvs_nil) ?_
 exact ⟨_, z, hI0, hst.keep1⟩
}
 {
 rw [he177] at hm hst
 dsimp only at hm
 replace hst := hst.pull2
 obtain ⟨v207, hst⟩ := hst.mapO_C
 refine bsplit ((a1.From == y176.1.From) && (a1.To == y176.1.To) && (a1.Lane == y176.1.Lane)) (fun hc209 => ?_) (fun hc209 => ?_)
 {
 replace hm := bif_t hc209 hm
 refine wp_region_St hst 11 [0, 1, 2, 3, 4, 5, 6, 7, 8, 9, 10] [0, 1, 3, 7, 0, 31, 0, 64, 192, 511, 1023] [] z (by kernel_rfl) (by kernel_rfl) Try.mixed (by kernel_rfl) ?_
 refine wsr (Pt b171 0) 0 z z z (by kernel_rfl) (fun w hst => z) (wsr (Pt b171 0) 1 z z z (by kernel_rfl) (fun w hst => z) (wsr (Pt b171 1) 2 z z z (by kernel_rfl) (fun w hst => x_field z underlying52 z sizeOf50 z) (wsr (v174) 3 z z z (by kernel_rfl) (fun w hst => x_load z isAgg50 (hst.bc2 z)) (wsr (.agg #[I6 a1.From, I6 a1.To, I6 a1.Lane]) 4 z z z (by kernel_rfl) (fun w hst => x_loadN (cs := [I6 a1.From, I6 a1.To, I6 a1.Lane]) z isAgg23 sizeOf23 (hst.bcs4 0 z)) (wsr (v207) 5 z z z (by kernel_rfl) (fun w hst => x_look (kv := (lk a1.From a1.To a1.Lane)) z z (run_lookC hst (j := 1) z key3_23 underlying50 hc209)) (wsr (r2_0) 6 z z z (by kernel_rfl) (fun w hst => z) ?_))))))
 refine ws_e1 7 (by kernel_rfl) ?_
 refine nxe [8, 9, 10] (by kernel_rfl) z z ?_
 clear hst
 intro w hst
 obtain ⟨t210, ht211, hm⟩ := bind_some hm
 refine wec call15 [r2_0] z z ?_
 refine (slices_Clone_byte_byte_ref (f2_0.mono (rd_weak _)) hst.to0 ht211).mono ?_
 rintro _ w212 ⟨v215, rfl, hst⟩
 refine ⟨_, z, ?_⟩
 replace hst := hst.of1
 refine ws_next (pend' := [(5, v207), (4, .agg #[I6 a1.From, I6 a1.To, I6 a1.Lane]), (3, v174), (2, Pt b171 1), (1, Pt b171 0), (0, Pt b171 0)]) hst (by kernel_rfl) (pkr z z (fun w hst => x_look (kv := (lk a1.From a1.To a1.Lane)) z z (run_lookC hst (j := 2) z key3_23 underlying50 hc209)) (pkr z z (fun w hst => x_loadN (cs := [I6 a1.From, I6 a1.To, I6 a1.Lane]) z isAgg23 sizeOf23 (hst.bcs5 0 z)) (pkr z z (fun w hst => x_load z isAgg50 (hst.bc3 z)) (pkr z z (fun w hst => x_field z underlying52 z sizeOf50 z) (pkr z z (fun w hst => z) (pkr z z (fun w hst => z) pk_nil)))))) ?_
 refine ws_e1 8 (by kernel_rfl) ?_
 refine nxe [9, 10] (by kernel_rfl) z z ?_
 clear hst
 intro w hst
 obtain ⟨I218, hI219, f220, hst⟩ := hst.own_fix
 replace f2_0 := f2_0.mono (rd_le hI219)
 replace hI0 := hI0.trans hI219
 obtain ⟨b221, w222, ew223, eb224, hst⟩ := hst.lits (E := (tySl (tyInt .u8))) (xs := [t210]) [[v215]] 24 1 z (Reps.cons ⟨_, z, f220, one_of_sliceV (ro_sliceV f220)⟩ Reps.nil)
 refine we_run (v := (.slice (some ⟨b221, 0, none⟩) 1 1)) (w' := w222) z (x_als (by obtain ⟨_, _, hv_, _⟩ := (ro_sliceV f220); rw [hv_]; kernel_rfl) ew223 eb224) ?_
 refine ws_next (pend' := [(5, v207), (4, .agg #[I6 a1.From, I6 a1.To, I6 a1.Lane]), (3, v174), (2, Pt b171 1), (1, Pt b171 0), (0, Pt b171 0)]) hst (by kernel_rfl) (pkr z z (fun w hst => x_look (kv := (lk a1.From a1.To a1.Lane)) z z (run_lookC hst (j := 2) z key3_23 underlying50 hc209)) (pkr z z (fun w hst => x_loadN (cs := [I6 a1.From, I6 a1.To, I6 a1.Lane]) z isAgg23 sizeOf23 (hst.bcs5 0 z)) (pkr z z (fun w hst => x_load z isAgg50 (hst.bc3 z)) (pkr z z (fun w hst => x_field z underlying52 z sizeOf50 z) (pkr z z (fun w hst => z) (pkr z z (fun w hst => z) pk_nil)))))) ?_
 refine ws_e1 9 (by kernel_rfl) ?_
 refine nxe [10] (by kernel_rfl) z z ?_
 clear hst
 intro w hst
 obtain ⟨hg226, hm⟩ := gd_some hm
 replace hst := hst.pull1
 obtain ⟨v227, w228, hr229, hst⟩ := run_append elem_49 underlying49 hst hst.src1 (room_of hg226 z) 49
 refine we_run (v := v227) (w' := w228) z (x_append z z hr229) ?_
 refine ws_next (pend' := []) hst (by kernel_rfl) pk_nil ?_
 refine wsr (v227) 10 z z z (by kernel_rfl) (fun w hst => z) ?_
 refine ws_nil ?_
 intro w hst
 refine tn (wp_seq ?_)
 refine wp_region_St hst 12 [0, 1, 2, 3, 4, 5, 6, 7, 8, 9, 10, 11] [0, 1, 3, 7, 0, 0, 0, 64, 192, 448, 992, 2047] [] z (by kernel_rfl) (by kernel_rfl) Try.mixed (by kernel_rfl) ?_
 refine wsr (Pt b171 0) 0 z z z (by kernel_rfl) (fun w hst => z) (wsr (Pt b171 0) 1 z z z (by kernel_rfl) (fun w hst => z) (wsr (Pt b171 1) 2 z z z (by kernel_rfl) (fun w hst => x_field z underlying52 z sizeOf50 z) (wsr (v174) 3 z z z (by kernel_rfl) (fun w hst => x_load z isAgg50 (hst.bc3 z)) (wsr (.agg #[I6 a1.From, I6 a1.To, I6 a1.Lane]) 4 z z z (by kernel_rfl) (fun w hst => x_loadN (cs := [I6 a1.From, I6 a1.To, I6 a1.Lane]) z isAgg23 sizeOf23 (hst.bcs5 0 z)) (wsr (v227) 5 z z z (by kernel_rfl) (fun w hst => z) (wsr (v227) 6 z z z (by kernel_rfl) (fun w hst => z) (wsr (.int .i64 (((y176.2 ++ ([t210]))).length : Int)) 7 z z z (by kernel_rfl) (fun w hst => x_len z underlying49 hst.sv0) (wsr (.int .i64 (i64.wrap ((((y176.2 ++ ([t210]))).length : Int) - (256:Int)))) 8 z z z (by kernel_rfl) (fun w hst => z) (wsr (.int .i64 (if (i64.wrap ((((y176.2 ++ ([t210]))).length : Int) - (256:Int))) > (0:Int) then (i64.wrap ((((y176.2 ++ ([t210]))).length : Int) - (256:Int))) else (0:Int))) 9 z z z (by kernel_rfl) (fun w hst => by kernel_rfl) ?_)))))))))
 obtain ⟨hg231, hm⟩ := gd_some hm
 obtain ⟨h232, h233, h234⟩ := fits_of hg231
 refine wsr ((slcV 1 v227 (if (i64.wrap ((((y176.2 ++ ([t210]))).length : Int) - (256:Int))) > (0:Int) then (i64.wrap ((((y176.2 ++ ([t210]))).length : Int) - (256:Int))) else (0:Int)).toNat ((((y176.2 ++ ([t210]))).length : Nat) : Int).toNat)) 10 z z z (by kernel_rfl) (fun w hst => x_slice underlying49 sizeOf24 z hst.sv0 h232 h233 h234 .i64 .i64 (.inl z) (.inr ⟨z, z⟩)) ?_
 refine ws_e1 11 (by kernel_rfl) ?_
 refine nxe [] (by kernel_rfl) z z ?_
 clear hst
 intro w hst
 replace hst := hst.own_part h233 h234 h232
 replace hst := hst.pull2
 obtain ⟨w236, hr237, hst⟩ := run_putC (P := prog) hst key3_23 underlying50 hc209 (slcV 1 v227 (if (i64.wrap ((((y176.2 ++ ([t210]))).length : Int) - (256:Int))) > (0:Int) then (i64.wrap ((((y176.2 ++ ([t210]))).length : Int) - (256:Int))) else (0:Int)).toNat ((((y176.2 ++ ([t210]))).length : Nat) : Int).toNat)
 refine we_unit z (x_put (kv := (lk a1.From a1.To a1.Lane)) z z z hr237) ?_
 refine ws_next (pend' := []) hst (by kernel_rfl) pk_nil ?_
 refine ws_nil ?_
 intro w hst
 refine tn (wp_seq (wrl (wv (.int .i64 (0:Int)) z z z (wl_nil (tn (wp_ret ?_))))))
 replace hst := hst.pull1.C_mapO (kf := kv_net_Link) (kk := a1)
 replace hst := hst.pull3.pull3
 replace hst := at_net_Net_close (pv := Pt b171 0) (x := ({ p := o0.p, m := (some (a1, (subs (y176.2 ++ ([t210])) (if (i64.wrap ((((y176.2 ++ ([t210]))).length : Int) - (256:Int))) > (0:Int) then (i64.wrap ((((y176.2 ++ ([t210]))).length : Int) - (256:Int))) else (0:Int)) ((((y176.2 ++ ([t210]))).length : Nat) : Int)))) } : net_Net)) hst z
 replace hst := objO_some hst
 obtain rfl := some_inj hm
 refine post_ret (vs := [Zi]) results7 (rvs_cons (rv_tmp z) rvs_nil) ?_
 exact ⟨_, z, hI0, hst.keep1⟩
}
 {
 replace hm := bif_f hc209 hm
 refine wp_region_St hst 11 [0, 1, 2, 3, 4, 5, 6, 7, 8, 9, 10] [0, 1, 3, 7, 0, 31, 0, 64, 192, 511, 1023] [] z (by kernel_rfl) (by kernel_rfl) Try.mixed (by kernel_rfl) ?_
 refine wsr (Pt b171 0) 0 z z z (by kernel_rfl) (fun w hst => z) (wsr (Pt b171 0) 1 z z z (by kernel_rfl) (fun w hst => z) (wsr (Pt b171 1) 2 z z z (by kernel_rfl) (fun w hst => x_field z underlying52 z sizeOf50 z) (wsr (v174) 3 z z z (by kernel_rfl) (fun w hst => x_load z isAgg50 (hst.bc2 z)) (wsr (.agg #[I6 a1.From, I6 a1.To, I6 a1.Lane]) 4 z z z (by kernel_rfl) (fun w hst => x_loadN (cs := [I6 a1.From, I6 a1.To, I6 a1.Lane]) z isAgg23 sizeOf23 (hst.bcs4 0 z)) (wsr ((.slice none 0 0)) 5 z z z (by kernel_rfl) (fun w hst => x_look (kv := (lk a1.From a1.To a1.Lane)) z z (run_lookN hst (j := 1) z key3_23 underlying50 (fun _ => by kernel_rfl) hc209)) (wsr (r2_0) 6 z z z (by kernel_rfl) (fun w hst => z) ?_))))))
 refine ws_e1 7 (by kernel_rfl) ?_
 refine nxe [8, 9, 10] (by kernel_rfl) z z ?_
 clear hst
 intro w hst
 obtain ⟨t239, ht240, hm⟩ := bind_some hm
 refine wec call15 [r2_0] z z ?_
 refine (slices_Clone_byte_byte_ref (f2_0.mono (rd_weak _)) hst.to0 ht240).mono ?_
 rintro _ w241 ⟨v244, rfl, hst⟩
 refine ⟨_, z, ?_⟩
 replace hst := hst.of1
 refine ws_next (pend' := [(5, Zs), (4, .agg #[I6 a1.From, I6 a1.To, I6 a1.Lane]), (3, v174), (2, Pt b171 1), (1, Pt b171 0), (0, Pt b171 0)]) hst (by kernel_rfl) (pkr z z (fun w hst => x_look (kv := (lk a1.From a1.To a1.Lane)) z z (run_lookN hst (j := 2) z key3_23 underlying50 (fun _ => by kernel_rfl) hc209)) (pkr z z (fun w hst => x_loadN (cs := [I6 a1.From, I6 a1.To, I6 a1.Lane]) z isAgg23 sizeOf23 (hst.bcs5 0 z)) (pkr z z (fun w hst => x_load z isAgg50 (hst.bc3 z)) (pkr z z (fun w hst => x_field z underlying52 z sizeOf50 z) (pkr z z (fun w hst => z) (pkr z z (fun w hst => z) pk_nil)))))) ?_
 refine ws_e1 8 (by kernel_rfl) ?_
 refine nxe [9, 10] (by kernel_rfl) z z ?_
 clear hst
 intro w hst
 obtain ⟨I247, hI248, f249, hst⟩ := hst.own_fix
 replace f2_0 := f2_0.mono (rd_le hI248)
 replace hI0 := hI0.trans hI248
 obtain ⟨b250, w251, ew252, eb253, hst⟩ := hst.lits (E := (tySl (tyInt .u8))) (xs := [t239]) [[v244]] 24 1 z (Reps.cons ⟨_, z, f249, one_of_sliceV (ro_sliceV f249)⟩ Reps.nil)
 refine we_run (v := (.slice (some ⟨b250, 0, none⟩) 1 1)) (w' := w251) z (x_als (by obtain ⟨_, _, hv_, _⟩ := (ro_sliceV f249); rw [hv_]; kernel_rfl) ew252 eb253) ?_
 refine ws_next (pend' := [(5, Zs), (4, .agg #[I6 a1.From, I6 a1.To, I6 a1.Lane]), (3, v174), (2, Pt b171 1), (1, Pt b171 0), (0, Pt b171 0)]) hst (by kernel_rfl) (pkr z z (fun w hst => x_look (kv := (lk a1.From a1.To a1.Lane)) z z (run_lookN hst (j := 2) z key3_23 underlying50 (fun _ => by kernel_rfl) hc209)) (pkr z z (fun w hst => x_loadN (cs := [I6 a1.From, I6 a1.To, I6 a1.Lane]) z isAgg23 sizeOf23 (hst.bcs5 0 z)) (pkr z z (fun w hst => x_load z isAgg50 (hst.bc3 z)) (pkr z z (fun w hst => x_field z underlying52 z sizeOf50 z) (pkr z z (fun w hst => z) (pkr z z (fun w hst => z) pk_nil)))))) ?_
 refine ws_e1 9 (by kernel_rfl) ?_
 refine nxe [10] (by kernel_rfl) z z ?_
 clear hst
 intro w hst
 replace hst := hst.own_nil (tySl (tyInt .u8))
 obtain ⟨hg255, hm⟩ := gd_some hm
 obtain ⟨v256, w257, hr258, hst⟩ := run_append elem_49 underlying49 hst hst.src1 (room_of hg255 z) 49
 replace hst := St.nil_app hst
 refine we_run (v := v256) (w' := w257) z (x_append z z hr258) ?_
 refine ws_next (pend' := []) hst (by kernel_rfl) pk_nil ?_
 refine wsr (v256) 10 z z z (by kernel_rfl) (fun w hst => z) ?_
 refine ws_nil ?_
 intro w hst
 refine tn (wp_seq ?_)
 refine wp_region_St hst 12 [0, 1, 2, 3, 4, 5, 6, 7, 8, 9, 10, 11] [0, 1, 3, 7, 0, 0, 0, 64, 192, 448, 992, 2047] [] z (by kernel_rfl) (by kernel_rfl) Try.mixed (by kernel_rfl) ?_
 refine wsr (Pt b171 0) 0 z z z (by kernel_rfl) (fun w hst => z) (wsr (Pt b171 0) 1 z z z (by kernel_rfl) (fun w hst => z) (wsr (Pt b171 1) 2 z z z (by kernel_rfl) (fun w hst => x_field z underlying52 z sizeOf50 z) (wsr (v174) 3 z z z (by kernel_rfl) (fun w hst => x_load z isAgg50 (hst.bc4 z)) (wsr (.agg #[I6 a1.From, I6 a1.To, I6 a1.Lane]) 4 z z z (by kernel_rfl) (fun w hst => x_loadN (cs := [I6 a1.From, I6 a1.To, I6 a1.Lane]) z isAgg23 sizeOf23 (hst.bcs6 0 z)) (wsr (v256) 5 z z z (by kernel_rfl) (fun w hst => z) (wsr (v256) 6 z z z (by kernel_rfl) (fun w hst => z) (wsr (.int .i64 (([t239]).length : Int)) 7 z z z (by kernel_rfl) (fun w hst => x_len z underlying49 hst.sv0) (wsr (.int .i64 (i64.wrap ((([t239]).length : Int) - (256:Int)))) 8 z z z (by kernel_rfl) (fun w hst => z) (wsr (.int .i64 (if (i64.wrap ((([t239]).length : Int) - (256:Int))) > (0:Int) then (i64.wrap ((([t239]).length : Int) - (256:Int))) else (0:Int))) 9 z z z (by kernel_rfl) (fun w hst => by kernel_rfl) ?_)))))))))
 obtain ⟨hg260, hm⟩ := gd_some hm
 obtain ⟨h261, h262, h263⟩ := fits_of hg260
 refine wsr ((slcV 1 v256 (if (i64.wrap ((([t239]).length : Int) - (256:Int))) > (0:Int) then (i64.wrap ((([t239]).length : Int) - (256:Int))) else (0:Int)).toNat ((([t239]).length : Nat) : Int).toNat)) 10 z z z (by kernel_rfl) (fun w hst => x_slice underlying49 sizeOf24 z hst.sv0 h261 h262 h263 .i64 .i64 (.inl z) (.inr ⟨z, z⟩)) ?_
 refine ws_e1 11 (by kernel_rfl) ?_
 cases hm
}
}
}
}
}

theorem net_Net_place_ref {w0 w : World} {I : HL} {R : SP} {a0 : (Option net_Net)} {p0 : Value} {a1 : net_Link} {a2 : Int}  (hst : St w0 w I [objO at_net_Net p0 a0] R) {r : (Int)} (hm : net_Net_place a0 a1 a2 = some r) :
  Calls prog 16 #[p0, .agg #[I6 a1.From, I6 a1.To, I6 a1.Lane], I6 a2] w fun e w' => e = .returned (.int .i64 r) ∧ St w0 w' I [objO at_net_Net p0 a0] R := by {
 rcases a0 with _ | o0
 {
 obtain ⟨rfl, hst'⟩ := objO_none hst
 clear hst
 have hst := hst'
 clear hst'
 dsimp only [net_Net_place] at hm
 refine calls_start (args := [.pointer none, .agg #[I6 a1.From, I6 a1.To, I6 a1.Lane], I6 a2]) func16 z ntmps16 (Nat.le_of_ble_eq_true z) ?_
 refine wp_seq (wrl ?_)
 obtain ⟨b139, w140, ew141, eb142, hst⟩ := hst.box [I6 a1.From, I6 a1.To, I6 a1.Lane] 23
 refine wl_run (v := Pt b139 0) (w' := w140) z z (x_al (by kernel_rfl) ew141 eb142) ?_
 refine wv (.int .i64 (0:Int)) z z z (wl_nil (tn (wp_seq (wp_seq ?_))))
 refine wp_region_St hst 14 [0, 1, 2, 3, 4, 5, 6, 7, 8, 9, 10, 11, 12, 13] [0, 0, 3, 7, 15, 31, 63, 127, 255, 31, 1023, 2047, 4095, 8191] [] z (by kernel_rfl) (by kernel_rfl) Try.mixed (by kernel_rfl) ?_
 refine wsr (.pointer none) 0 z z z (by kernel_rfl) (fun w hst => z) (wsr (.agg #[I6 a1.From, I6 a1.To, I6 a1.Lane]) 1 z z z (by kernel_rfl) (fun w hst => x_loadN (cs := [I6 a1.From, I6 a1.To, I6 a1.Lane]) z isAgg23 sizeOf23 (hst.bcs0 0 z)) ?_)
 refine ws_e1 2 (by kernel_rfl) ?_
 refine nxe [3, 4, 5, 6, 7, 8, 9, 10, 11, 12, 13] (by kernel_rfl) z z ?_
 clear hst
 intro w hst
 replace hst := hst.objO_nil at_net_Net
 obtain ⟨t145, ht146, hm⟩ := bind_some hm
 refine wec call14 [.pointer none, .agg #[I6 a1.From, I6 a1.To, I6 a1.Lane]] z z ?_
 refine (net_Net_is_ref hst.to1 ht146).mono ?_
 rintro _ w147 ⟨rfl, hst⟩
 refine ⟨_, z, ?_⟩
 replace hst := hst.of1
 refine ws_next (pend' := []) hst (by kernel_rfl) pk_nil ?_
 refine wsr (.bool (!t145)) 3 z z z (by kernel_rfl) (fun w hst => z) (wsr (.bool (!t145)) 4 z z z (by kernel_rfl) (fun w hst => z) ?_)
 refine bsplit (!t145) (fun hc150 => ?_) (fun hc150 => ?_)
 {
 replace hm := bif_t hc150 hm
 refine ws_q (v := undef) 5 [6, 7, 8, 9, 10, 11, 12, 13] (by kernel_rfl) z z (yi_off ((wanted_eq z z z (cvb hc150)).trans z)) (ws_q (v := undef) 6 [7, 8, 9, 10, 11, 12, 13] (by kernel_rfl) z z (yi_off ((wanted_eq z z z (cvb hc150)).trans z)) (ws_q (v := undef) 7 [8, 9, 10, 11, 12, 13] (by kernel_rfl) z z (yi_off ((wanted_eq z z z (cvb hc150)).trans z)) (ws_q (v := undef) 8 [9, 10, 11, 12, 13] (by kernel_rfl) z z (yi_off ((wanted_eq z z z (cvb hc150)).trans z)) (ws_q (v := undef) 9 [10, 11, 12, 13] (by kernel_rfl) z z (yi_off ((wanted_eq z z z (cvb hc150)).trans z)) (ws_q (v := undef) 10 [11, 12, 13] (by kernel_rfl) z z (yi_off ((wanted_eq z z z (cvb hc150)).trans z)) (ws_q (v := undef) 11 [12, 13] (by kernel_rfl) z z (yi_off ((wanted_eq z z z (cvb hc150)).trans z)) (ws_q (v := undef) 12 [13] (by kernel_rfl) z z (yi_off ((wanted_eq z z z (cvb hc150)).trans z)) (wsr (.bool true) 13 z z z (by kernel_rfl) (fun w hst => x_pick_t hc150 z z) ?_))))))))
 refine ws_nil ?_
 intro w hst
 refine tn ?_
 refine wp_ift z ?_
 refine wp_seq (wrl (wv (.int .i64 ((-1):Int)) z z z (wl_nil (tn (wp_ret (then_r ?_))))))
 replace hst := hst.objO_nil at_net_Net
 obtain rfl := some_inj hm
 refine post_ret (vs := [I6 ((-1):Int)]) results16 (rvs_cons (rv_tmp z) rvs_nil) ?_
 exact ⟨z, hst.keep1⟩
}
 {
 replace hm := bif_f hc150 hm
 refine ws_q (v := .pointer none) 5 [6, 7, 8, 9, 10, 11, 12, 13] (by kernel_rfl) z z (yi_run ((wanted_eq z z z (cvb hc150)).trans z) (fun w hst => z)) ?_
 cases hm
}
}
 {
 replace hst := objO_get hst
 dsimp only [net_Net_place] at hm
 refine calls_start (args := [p0, .agg #[I6 a1.From, I6 a1.To, I6 a1.Lane], I6 a2]) func16 z ntmps16 (Nat.le_of_ble_eq_true z) ?_
 refine wp_seq (wrl ?_)
 obtain ⟨b151, w152, ew153, eb154, hst⟩ := hst.box [I6 a1.From, I6 a1.To, I6 a1.Lane] 23
 refine wl_run (v := Pt b151 0) (w' := w152) z z (x_al (by kernel_rfl) ew153 eb154) ?_
 refine wv (.int .i64 (0:Int)) z z z (wl_nil (tn (wp_seq (wp_seq ?_))))
 replace hst := hst.pull1
 obtain ⟨b156, v157, v159, rfl, hst'⟩ := at_net_Net_open hst
 clear hst
 have hst := hst'
 clear hst'
 rcases he162 : o0.m with _ | y161
 {
 rw [he162] at hm hst
 dsimp only at hm
 replace hst := hst.pull2.mapO_E
 refine wp_region_St hst 14 [0, 1, 2, 3, 4, 5, 6, 7, 8, 9, 10, 11, 12, 13] [0, 0, 3, 7, 15, 31, 63, 127, 255, 31, 1023, 2047, 4095, 8191] [] z (by kernel_rfl) (by kernel_rfl) Try.mixed (by kernel_rfl) ?_
 refine wsr (Pt b156 0) 0 z z z (by kernel_rfl) (fun w hst => z) (wsr (.agg #[I6 a1.From, I6 a1.To, I6 a1.Lane]) 1 z z z (by kernel_rfl) (fun w hst => x_loadN (cs := [I6 a1.From, I6 a1.To, I6 a1.Lane]) z isAgg23 sizeOf23 (hst.bcs3 0 z)) ?_)
 refine ws_e1 2 (by kernel_rfl) ?_
 refine nxe [3, 4, 5, 6, 7, 8, 9, 10, 11, 12, 13] (by kernel_rfl) z z ?_
 clear hst
 intro w hst
 replace hst := hst.E_mapO (E := (tySl (tyInt .u8))) (kf := kv_net_Link)
 rw [← he162] at hst
 replace hst := hst.pull2.pull2
 replace hst := at_net_Net_close (pv := Pt b156 0) (x := o0) hst z
 replace hst := objO_some hst
 obtain ⟨t163, ht164, hm⟩ := bind_some hm
 refine wec call14 [Pt b156 0, .agg #[I6 a1.From, I6 a1.To, I6 a1.Lane]] z z ?_
 refine (net_Net_is_ref hst.to1 ht164).mono ?_
 rintro _ w165 ⟨rfl, hst⟩
 refine ⟨_, z, ?_⟩
 replace hst := hst.of1
 replace hst := objO_get hst
 obtain ⟨b168, v169, v171, e173, hst'⟩ := at_net_Net_open hst
 clear hst
 have e173 := ptr_inj e173
 subst e173
 have hst := hst'
 clear hst'
 rw [he162] at hst
 replace hst := hst.pull2.mapO_E
 refine ws_next (pend' := []) hst (by kernel_rfl) pk_nil ?_
 refine wsr (.bool (!t163)) 3 z z z (by kernel_rfl) (fun w hst => z) (wsr (.bool (!t163)) 4 z z z (by kernel_rfl) (fun w hst => z) ?_)
 refine bsplit (!t163) (fun hc176 => ?_) (fun hc176 => ?_)
 {
 replace hm := bif_t hc176 hm
 refine ws_q (v := undef) 5 [6, 7, 8, 9, 10, 11, 12, 13] (by kernel_rfl) z z (yi_off ((wanted_eq z z z (cvb hc176)).trans z)) (ws_q (v := undef) 6 [7, 8, 9, 10, 11, 12, 13] (by kernel_rfl) z z (yi_off ((wanted_eq z z z (cvb hc176)).trans z)) (ws_q (v := undef) 7 [8, 9, 10, 11, 12, 13] (by kernel_rfl) z z (yi_off ((wanted_eq z z z (cvb hc176)).trans z)) (ws_q (v := undef) 8 [9, 10, 11, 12, 13] (by kernel_rfl) z z (yi_off ((wanted_eq z z z (cvb hc176)).trans z)) (ws_q (v := undef) 9 [10, 11, 12, 13] (by kernel_rfl) z z (yi_off ((wanted_eq z z z (cvb hc176)).trans z)) (ws_q (v := undef) 10 [11, 12, 13] (by kernel_rfl) z z (yi_off ((wanted_eq z z z (cvb hc176)).trans z)) (ws_q (v := undef) 11 [12, 13] (by kernel_rfl) z z (yi_off ((wanted_eq z z z (cvb hc176)).trans z)) (ws_q (v := undef) 12 [13] (by kernel_rfl) z z (yi_off ((wanted_eq z z z (cvb hc176)).trans z)) (wsr (.bool true) 13 z z z (by kernel_rfl) (fun w hst => x_pick_t hc176 z z) ?_))))))))
 refine ws_nil ?_
 intro w hst
 refine tn ?_
 refine wp_ift z ?_
 refine wp_seq (wrl (wv (.int .i64 ((-1):Int)) z z z (wl_nil (tn (wp_ret (then_r ?_))))))
 replace hst := hst.E_mapO (E := (tySl (tyInt .u8))) (kf := kv_net_Link)
 rw [← he162] at hst
 replace hst := hst.pull2.pull2
 replace hst := at_net_Net_close (pv := Pt b156 0) (x := o0) hst z
 replace hst := objO_some hst
 obtain rfl := some_inj hm
 refine post_ret (vs := [I6 ((-1):Int)]) results16 (rvs_cons (rv_tmp z) rvs_nil) ?_
 exact ⟨z, hst.keep1⟩
}
 {
 replace hm := bif_f hc176 hm
 refine ws_q (v := Pt b156 0) 5 [6, 7, 8, 9, 10, 11, 12, 13] (by kernel_rfl) z z (yi_run ((wanted_eq z z z (cvb hc176)).trans z) (fun w hst => z)) (ws_q (v := Pt b156 0) 6 [7, 8, 9, 10, 11, 12, 13] (by kernel_rfl) z z (yi_run ((wanted_eq z z z (cvb hc176)).trans z) (fun w hst => z)) (ws_q (v := Pt b156 1) 7 [8, 9, 10, 11, 12, 13] (by kernel_rfl) z z (yi_run ((wanted_eq z z z (cvb hc176)).trans z) (fun w hst => x_field z underlying52 z sizeOf50 z)) (ws_q (v := v171) 8 [9, 10, 11, 12, 13] (by kernel_rfl) z z (yi_run ((wanted_eq z z z (cvb hc176)).trans z) (fun w hst => x_load z isAgg50 (hst.bc1 z))) (ws_q (v := .agg #[I6 a1.From, I6 a1.To, I6 a1.Lane]) 9 [10, 11, 12, 13] (by kernel_rfl) z z (yi_run ((wanted_eq z z z (cvb hc176)).trans z) (fun w hst => x_loadN (cs := [I6 a1.From, I6 a1.To, I6 a1.Lane]) z isAgg23 sizeOf23 (hst.bcs3 0 z))) (ws_q (v := (.slice none 0 0)) 10 [11, 12, 13] (by kernel_rfl) z z (yi_run ((wanted_eq z z z (cvb hc176)).trans z) (fun w hst => x_look (kv := (lk a1.From a1.To a1.Lane)) z z (run_lookE hst (j := 0) z key3_23 underlying50 (fun _ => by kernel_rfl)))) (ws_q (v := .int .i64 ((([] : List (List Int))).length : Int)) 11 [12, 13] (by kernel_rfl) z z (yi_run ((wanted_eq z z z (cvb hc176)).trans z) (fun w hst => x_len z underlying49 SliceV.nil)) (ws_q (v := .bool (((([] : List (List Int))).length : Int) == (0:Int))) 12 [13] (by kernel_rfl) z z (yi_run ((wanted_eq z z z (cvb hc176)).trans z) (fun w hst => z)) (wsr (.bool (((([] : List (List Int))).length : Int) == (0:Int))) 13 z z z (by kernel_rfl) (fun w hst => x_pick_f hc176 z z) ?_))))))))
 refine ws_nil ?_
 intro w hst
 refine tn ?_
 refine bsplit (((([] : List (List Int))).length : Int) == (0:Int)) (fun hc178 => ?_) (fun hc178 => ?_)
 {
 replace hm := bif_t hc178 hm
 refine wp_ift (cvb hc178) ?_
 refine wp_seq (wrl (wv (.int .i64 ((-1):Int)) z z z (wl_nil (tn (wp_ret (then_r ?_))))))
 replace hst := hst.E_mapO (E := (tySl (tyInt .u8))) (kf := kv_net_Link)
 rw [← he162] at hst
 replace hst := hst.pull2.pull2
 replace hst := at_net_Net_close (pv := Pt b156 0) (x := o0) hst z
 replace hst := objO_some hst
 obtain rfl := some_inj hm
 refine post_ret (vs := [I6 ((-1):Int)]) results16 (rvs_cons (rv_tmp z) rvs_nil) ?_
 exact ⟨z, hst.keep1⟩
}
 {
 replace hm := bif_f hc178 hm
 refine wp_iff (cvb hc178) ?_
 refine wp_skip (tn (wp_seq ?_))
 refine wq_regionS hst Try.mixed (by kernel_rfl) ?_
 refine wq_run (v := Pt b156 0) z z (fun w hst => z) ?_
 refine wq_run (v := Pt b156 0) z z (fun w hst => z) ?_
 refine wq_run (v := Pt b156 1) z z (fun w hst => x_field z underlying52 z sizeOf50 z) ?_
 refine wq_run (v := v171) z z (fun w hst => x_load z isAgg50 (hst.bc1 z)) ?_
 refine wq_run (v := .agg #[I6 a1.From, I6 a1.To, I6 a1.Lane]) z z (fun w hst => x_loadN (cs := [I6 a1.From, I6 a1.To, I6 a1.Lane]) z isAgg23 sizeOf23 (hst.bcs3 0 z)) ?_
 refine wq_run (v := (.slice none 0 0)) z z (fun w hst => x_look (kv := (lk a1.From a1.To a1.Lane)) z z (run_lookE hst (j := 0) z key3_23 underlying50 (fun _ => by kernel_rfl))) ?_
 refine wq_run (v := .int .i64 ((([] : List (List Int))).length : Int)) z z (fun w hst => x_len z underlying49 SliceV.nil) ?_
 refine wq_run (v := .int .i64 ((([] : List (List Int))).length : Int)) z z (fun w hst => z) ?_
 refine wq_nil ?_
 intro w hst
 refine tn (wp_seq (wrl (wv (.int .i64 a2) z z z (wv (.int .u64 (u64.wrap a2)) z z (by kernel_rfl) (wv (.int .i64 ((([] : List (List Int))).length : Int)) z z z (wv (.int .u64 (u64.wrap ((([] : List (List Int))).length : Int))) z z (by kernel_rfl) ?_))))))
 obtain ⟨hg180, hm⟩ := gd_some hm
 refine wv (.int .u64 (Int.tmod (u64.wrap a2) (u64.wrap ((([] : List (List Int))).length : Int)))) z z (x_rem (not_t hg180) z z) (wv (.int .i64 (i64.wrap (Int.tmod (u64.wrap a2) (u64.wrap ((([] : List (List Int))).length : Int))))) z z (by kernel_rfl) (wv (.int .i64 (i64.wrap (Int.tmod (u64.wrap a2) (u64.wrap ((([] : List (List Int))).length : Int))))) z z z (wl_nil (tn (wp_ret ?_)))))
 replace hst := hst.E_mapO (E := (tySl (tyInt .u8))) (kf := kv_net_Link)
 rw [← he162] at hst
 replace hst := hst.pull2.pull2
 replace hst := at_net_Net_close (pv := Pt b156 0) (x := o0) hst z
 replace hst := objO_some hst
 obtain rfl := some_inj hm
 refine post_ret (vs := [I6 (i64.wrap (Int.tmod (u64.wrap a2) (u64.wrap ((([] : List (List Int))).length : Int))))]) results16 (rvs_cons (rv_tmp z) rvs_nil) ?_
 exact ⟨z, hst.keep1⟩
}
}
}
 {
 rw [he162] at hm hst
 dsimp only at hm
 replace hst := hst.pull2
 obtain ⟨v181, hst⟩ := hst.mapO_C
 refine bsplit ((a1.From == y161.1.From) && (a1.To == y161.1.To) && (a1.Lane == y161.1.Lane)) (fun hc183 => ?_) (fun hc183 => ?_)
 {
 replace hm := bif_t hc183 hm
 refine wp_region_St hst 14 [0, 1, 2, 3, 4, 5, 6, 7, 8, 9, 10, 11, 12, 13] [0, 0, 3, 7, 15, 31, 63, 127, 255, 31, 1023, 2047, 4095, 8191] [] z (by kernel_rfl) (by kernel_rfl) Try.mixed (by kernel_rfl) ?_
 refine wsr (Pt b156 0) 0 z z z (by kernel_rfl) (fun w hst => z) (wsr (.agg #[I6 a1.From, I6 a1.To, I6 a1.Lane]) 1 z z z (by kernel_rfl) (fun w hst => x_loadN (cs := [I6 a1.From, I6 a1.To, I6 a1.Lane]) z isAgg23 sizeOf23 (hst.bcs4 0 z)) ?_)
 refine ws_e1 2 (by kernel_rfl) ?_
 refine nxe [3, 4, 5, 6, 7, 8, 9, 10, 11, 12, 13] (by kernel_rfl) z z ?_
 clear hst
 intro w hst
 replace hst := hst.pull1.pull1.C_mapO (kf := kv_net_Link) (kk := y161.1)
 replace hst := St.eqO he162 hst
 replace hst := hst.pull2.pull2
 replace hst := at_net_Net_close (pv := Pt b156 0) (x := o0) hst z
 replace hst := objO_some hst
 obtain ⟨t184, ht185, hm⟩ := bind_some hm
 refine wec call14 [Pt b156 0, .agg #[I6 a1.From, I6 a1.To, I6 a1.Lane]] z z ?_
 refine (net_Net_is_ref hst.to1 ht185).mono ?_
 rintro _ w186 ⟨rfl, hst⟩
 refine ⟨_, z, ?_⟩
 replace hst := hst.of1
 replace hst := objO_get hst
 obtain ⟨b189, v190, v192, e194, hst'⟩ := at_net_Net_open hst
 clear hst
 have e194 := ptr_inj e194
 subst e194
 have hst := hst'
 clear hst'
 rw [he162] at hst
 replace hst := hst.pull2
 obtain ⟨v197, hst⟩ := hst.mapO_C
 refine ws_next (pend' := []) hst (by kernel_rfl) pk_nil ?_
 refine wsr (.bool (!t184)) 3 z z z (by kernel_rfl) (fun w hst => z) (wsr (.bool (!t184)) 4 z z z (by kernel_rfl) (fun w hst => z) ?_)
 refine bsplit (!t184) (fun hc199 => ?_) (fun hc199 => ?_)
 {
 replace hm := bif_t hc199 hm
 refine ws_q (v := undef) 5 [6, 7, 8, 9, 10, 11, 12, 13] (by kernel_rfl) z z (yi_off ((wanted_eq z z z (cvb hc199)).trans z)) (ws_q (v := undef) 6 [7, 8, 9, 10, 11, 12, 13] (by kernel_rfl) z z (yi_off ((wanted_eq z z z (cvb hc199)).trans z)) (ws_q (v := undef) 7 [8, 9, 10, 11, 12, 13] (by kernel_rfl) z z (yi_off ((wanted_eq z z z (cvb hc199)).trans z)) (ws_q (v := undef) 8 [9, 10, 11, 12, 13] (by kernel_rfl) z z (yi_off ((wanted_eq z z z (cvb hc199)).trans z)) (ws_q (v := undef) 9 [10, 11, 12, 13] (by kernel_rfl) z z (yi_off ((wanted_eq z z z (cvb hc199)).trans z)) (ws_q (v := undef) 10 [11, 12, 13] (by kernel_rfl) z z (yi_off ((wanted_eq z z z (cvb hc199)).trans z)) (ws_q (v := undef) 11 [12, 13] (by kernel_rfl) z z (yi_off ((wanted_eq z z z (cvb hc199)).trans z)) (ws_q (v := undef) 12 [13] (by kernel_rfl) z z (yi_off ((wanted_eq z z z (cvb hc199)).trans z)) (wsr (.bool true) 13 z z z (by kernel_rfl) (fun w hst => x_pick_t hc199 z z) ?_))))))))
 refine ws_nil ?_
 intro w hst
 refine tn ?_
 refine wp_ift z ?_
 refine wp_seq (wrl (wv (.int .i64 ((-1):Int)) z z z (wl_nil (tn (wp_ret (then_r ?_))))))
 replace hst := hst.pull1.pull1.C_mapO (kf := kv_net_Link) (kk := y161.1)
 replace hst := St.eqO he162 hst
 replace hst := hst.pull2.pull2
 replace hst := at_net_Net_close (pv := Pt b156 0) (x := o0) hst z
 replace hst := objO_some hst
 obtain rfl := some_inj hm
 refine post_ret (vs := [I6 ((-1):Int)]) results16 (rvs_cons (rv_tmp z) rvs_nil) ?_
 exact ⟨z, hst.keep1⟩
}
 {
 replace hm := bif_f hc199 hm
 refine ws_q (v := Pt b156 0) 5 [6, 7, 8, 9, 10, 11, 12, 13] (by kernel_rfl) z z (yi_run ((wanted_eq z z z (cvb hc199)).trans z) (fun w hst => z)) (ws_q (v := Pt b156 0) 6 [7, 8, 9, 10, 11, 12, 13] (by kernel_rfl) z z (yi_run ((wanted_eq z z z (cvb hc199)).trans z) (fun w hst => z)) (ws_q (v := Pt b156 1) 7 [8, 9, 10, 11, 12, 13] (by kernel_rfl) z z (yi_run ((wanted_eq z z z (cvb hc199)).trans z) (fun w hst => x_field z underlying52 z sizeOf50 z)) (ws_q (v := v192) 8 [9, 10, 11, 12, 13] (by kernel_rfl) z z (yi_run ((wanted_eq z z z (cvb hc199)).trans z) (fun w hst => x_load z isAgg50 (hst.bc2 z))) (ws_q (v := .agg #[I6 a1.From, I6 a1.To, I6 a1.Lane]) 9 [10, 11, 12, 13] (by kernel_rfl) z z (yi_run ((wanted_eq z z z (cvb hc199)).trans z) (fun w hst => x_loadN (cs := [I6 a1.From, I6 a1.To, I6 a1.Lane]) z isAgg23 sizeOf23 (hst.bcs4 0 z))) (ws_q (v := v197) 10 [11, 12, 13] (by kernel_rfl) z z (yi_run ((wanted_eq z z z (cvb hc199)).trans z) (fun w hst => x_look (kv := (lk a1.From a1.To a1.Lane)) z z (run_lookC hst (j := 1) z key3_23 underlying50 hc183))) (ws_q (v := .int .i64 ((y161.2).length : Int)) 11 [12, 13] (by kernel_rfl) z z (yi_run ((wanted_eq z z z (cvb hc199)).trans z) (fun w hst => x_len z underlying49 hst.sv0)) (ws_q (v := .bool (((y161.2).length : Int) == (0:Int))) 12 [13] (by kernel_rfl) z z (yi_run ((wanted_eq z z z (cvb hc199)).trans z) (fun w hst => z)) (wsr (.bool (((y161.2).length : Int) == (0:Int))) 13 z z z (by kernel_rfl) (fun w hst => x_pick_f hc199 z z) ?_))))))))
 refine ws_nil ?_
 intro w hst
 refine tn ?_
 refine bsplit (((y161.2).length : Int) == (0:Int)) (fun hc200 => ?_) (fun hc200 => ?_)
 {
 replace hm := bif_t hc200 hm
 refine wp_ift (cvb hc200) ?_
 refine wp_seq (wrl (wv (.int .i64 ((-1):Int)) z z z (wl_nil (tn (wp_ret (then_r ?_))))))
 replace hst := hst.pull1.pull1.C_mapO (kf := kv_net_Link) (kk := y161.1)
 replace hst := St.eqO he162 hst
 replace hst := hst.pull2.pull2
 replace hst := at_net_Net_close (pv := Pt b156 0) (x := o0) hst z
 replace hst := objO_some hst
 obtain rfl := some_inj hm
 refine post_ret (vs := [I6 ((-1):Int)]) results16 (rvs_cons (rv_tmp z) rvs_nil) ?_
 exact ⟨z, hst.keep1⟩
}
 {
 replace hm := bif_f hc200 hm
 refine wp_iff (cvb hc200) ?_
 refine wp_skip (tn (wp_seq ?_))
 refine wq_regionS hst Try.mixed (by kernel_rfl) ?_
 refine wq_run (v := Pt b156 0) z z (fun w hst => z) ?_
 refine wq_run (v := Pt b156 0) z z (fun w hst => z) ?_
 refine wq_run (v := Pt b156 1) z z (fun w hst => x_field z underlying52 z sizeOf50 z) ?_
 refine wq_run (v := v192) z z (fun w hst => x_load z isAgg50 (hst.bc2 z)) ?_
 refine wq_run (v := .agg #[I6 a1.From, I6 a1.To, I6 a1.Lane]) z z (fun w hst => x_loadN (cs := [I6 a1.From, I6 a1.To, I6 a1.Lane]) z isAgg23 sizeOf23 (hst.bcs4 0 z)) ?_
 refine wq_run (v := v197) z z (fun w hst => x_look (kv := (lk a1.From a1.To a1.Lane)) z z (run_lookC hst (j := 1) z key3_23 underlying50 hc183)) ?_
 refine wq_run (v := .int .i64 ((y161.2).length : Int)) z z (fun w hst => x_len z underlying49 hst.sv0) ?_
 refine wq_run (v := .int .i64 ((y161.2).length : Int)) z z (fun w hst => z) ?_
 refine wq_nil ?_
 intro w hst
 refine tn (wp_seq (wrl (wv (.int .i64 a2) z z z (wv (.int .u64 (u64.wrap a2)) z z (by kernel_rfl) (wv (.int .i64 ((y161.2).length : Int)) z z z (wv (.int .u64 (u64.wrap ((y161.2).length : Int))) z z (by kernel_rfl) ?_))))))
 obtain ⟨hg201, hm⟩ := gd_some hm
 refine wv (.int .u64 (Int.tmod (u64.wrap a2) (u64.wrap ((y161.2).length : Int)))) z z (x_rem (not_t hg201) z z) (wv (.int .i64 (i64.wrap (Int.tmod (u64.wrap a2) (u64.wrap ((y161.2).length : Int))))) z z (by kernel_rfl) (wv (.int .i64 (i64.wrap (Int.tmod (u64.wrap a2) (u64.wrap ((y161.2).length : Int))))) z z z (wl_nil (tn (wp_ret ?_)))))
 replace hst := hst.pull1.pull1.C_mapO (kf := kv_net_Link) (kk := y161.1)
 replace hst := St.eqO he162 hst
 replace hst := hst.pull2.pull2
 replace hst := at_net_Net_close (pv := Pt b156 0) (x := o0) hst z
 replace hst := objO_some hst
 obtain rfl := some_inj hm
 refine post_ret (vs := [I6 (i64.wrap (Int.tmod (u64.wrap a2) (u64.wrap ((y161.2).length : Int))))]) results16 (rvs_cons (rv_tmp z) rvs_nil) ?_
 exact ⟨z, hst.keep1⟩
}
}
}
 {
 replace hm := bif_f hc183 hm
 refine wp_region_St hst 14 [0, 1, 2, 3, 4, 5, 6, 7, 8, 9, 10, 11, 12, 13] [0, 0, 3, 7, 15, 31, 63, 127, 255, 31, 1023, 2047, 4095, 8191] [] z (by kernel_rfl) (by kernel_rfl) Try.mixed (by kernel_rfl) ?_
 refine wsr (Pt b156 0) 0 z z z (by kernel_rfl) (fun w hst => z) (wsr (.agg #[I6 a1.From, I6 a1.To, I6 a1.Lane]) 1 z z z (by kernel_rfl) (fun w hst => x_loadN (cs := [I6 a1.From, I6 a1.To, I6 a1.Lane]) z isAgg23 sizeOf23 (hst.bcs4 0 z)) ?_)
 refine ws_e1 2 (by kernel_rfl) ?_
 refine nxe [3, 4, 5, 6, 7, 8, 9, 10, 11, 12, 13] (by kernel_rfl) z z ?_
 clear hst
 intro w hst
 replace hst := hst.pull1.pull1.C_mapO (kf := kv_net_Link) (kk := y161.1)
 replace hst := St.eqO he162 hst
 replace hst := hst.pull2.pull2
 replace hst := at_net_Net_close (pv := Pt b156 0) (x := o0) hst z
 replace hst := objO_some hst
 obtain ⟨t202, ht203, hm⟩ := bind_some hm
 refine wec call14 [Pt b156 0, .agg #[I6 a1.From, I6 a1.To, I6 a1.Lane]] z z ?_
 refine (net_Net_is_ref hst.to1 ht203).mono ?_
 rintro _ w204 ⟨rfl, hst⟩
 refine ⟨_, z, ?_⟩
 replace hst := hst.of1
 replace hst := objO_get hst
 obtain ⟨b207, v208, v210, e212, hst'⟩ := at_net_Net_open hst
 clear hst
 have e212 := ptr_inj e212
 subst e212
 have hst := hst'
 clear hst'
 rw [he162] at hst
 replace hst := hst.pull2
 obtain ⟨v215, hst⟩ := hst.mapO_C
 refine ws_next (pend' := []) hst (by kernel_rfl) pk_nil ?_
 refine wsr (.bool (!t202)) 3 z z z (by kernel_rfl) (fun w hst => z) (wsr (.bool (!t202)) 4 z z z (by kernel_rfl) (fun w hst => z) ?_)
 refine bsplit (!t202) (fun hc217 => ?_) (fun hc217 => ?_)
 {
 replace hm := bif_t hc217 hm
 refine ws_q (v := undef) 5 [6, 7, 8, 9, 10, 11, 12, 13] (by kernel_rfl) z z (yi_off ((wanted_eq z z z (cvb hc217)).trans z)) (ws_q (v := undef) 6 [7, 8, 9, 10, 11, 12, 13] (by kernel_rfl) z z (yi_off ((wanted_eq z z z (cvb hc217)).trans z)) (ws_q (v := undef) 7 [8, 9, 10, 11, 12, 13] (by kernel_rfl) z z (yi_off ((wanted_eq z z z (cvb hc217)).trans z)) (ws_q (v := undef) 8 [9, 10, 11, 12, 13] (by kernel_rfl) z z (yi_off ((wanted_eq z z z (cvb hc217)).trans z)) (ws_q (v := undef) 9 [10, 11, 12, 13] (by kernel_rfl) z z (yi_off ((wanted_eq z z z (cvb hc217)).trans z)) (ws_q (v := undef) 10 [11, 12, 13] (by kernel_rfl) z z (yi_off ((wanted_eq z z z (cvb hc217)).trans z)) (ws_q (v := undef) 11 [12, 13] (by kernel_rfl) z z (yi_off ((wanted_eq z z z (cvb hc217)).trans z)) (ws_q (v := undef) 12 [13] (by kernel_rfl) z z (yi_off ((wanted_eq z z z (cvb hc217)).trans z)) (wsr (.bool true) 13 z z z (by kernel_rfl) (fun w hst => x_pick_t hc217 z z) ?_))))))))
 refine ws_nil ?_
 intro w hst
 refine tn ?_
 refine wp_ift z ?_
 refine wp_seq (wrl (wv (.int .i64 ((-1):Int)) z z z (wl_nil (tn (wp_ret (then_r ?_))))))
 replace hst := hst.pull1.pull1.C_mapO (kf := kv_net_Link) (kk := y161.1)
 replace hst := St.eqO he162 hst
 replace hst := hst.pull2.pull2
 replace hst := at_net_Net_close (pv := Pt b156 0) (x := o0) hst z
 replace hst := objO_some hst
 obtain rfl := some_inj hm
 refine post_ret (vs := [I6 ((-1):Int)]) results16 (rvs_cons (rv_tmp z) rvs_nil) ?_
 exact ⟨z, hst.keep1⟩
}
 {
 replace hm := bif_f hc217 hm
 refine ws_q (v := Pt b156 0) 5 [6, 7, 8, 9, 10, 11, 12, 13] (by kernel_rfl) z z (yi_run ((wanted_eq z z z (cvb hc217)).trans z) (fun w hst => z)) (ws_q (v := Pt b156 0) 6 [7, 8, 9, 10, 11, 12, 13] (by kernel_rfl) z z (yi_run ((wanted_eq z z z (cvb hc217)).trans z) (fun w hst => z)) (ws_q (v := Pt b156 1) 7 [8, 9, 10, 11, 12, 13] (by kernel_rfl) z z (yi_run ((wanted_eq z z z (cvb hc217)).trans z) (fun w hst => x_field z underlying52 z sizeOf50 z)) (ws_q (v := v210) 8 [9, 10, 11, 12, 13] (by kernel_rfl) z z (yi_run ((wanted_eq z z z (cvb hc217)).trans z) (fun w hst => x_load z isAgg50 (hst.bc2 z))) (ws_q (v := .agg #[I6 a1.From, I6 a1.To, I6 a1.Lane]) 9 [10, 11, 12, 13] (by kernel_rfl) z z (yi_run ((wanted_eq z z z (cvb hc217)).trans z) (fun w hst => x_loadN (cs := [I6 a1.From, I6 a1.To, I6 a1.Lane]) z isAgg23 sizeOf23 (hst.bcs4 0 z))) (ws_q (v := (.slice none 0 0)) 10 [11, 12, 13] (by kernel_rfl) z z (yi_run ((wanted_eq z z z (cvb hc217)).trans z) (fun w hst => x_look (kv := (lk a1.From a1.To a1.Lane)) z z (run_lookN hst (j := 1) z key3_23 underlying50 (fun _ => by kernel_rfl) hc183))) (ws_q (v := .int .i64 ((([] : List (List Int))).length : Int)) 11 [12, 13] (by kernel_rfl) z z (yi_run ((wanted_eq z z z (cvb hc217)).trans z) (fun w hst => x_len z underlying49 SliceV.nil)) (ws_q (v := .bool (((([] : List (List Int))).length : Int) == (0:Int))) 12 [13] (by kernel_rfl) z z (yi_run ((wanted_eq z z z (cvb hc217)).trans z) (fun w hst => z)) (wsr (.bool (((([] : List (List Int))).length : Int) == (0:Int))) 13 z z z (by kernel_rfl) (fun w hst => x_pick_f hc217 z z) ?_))))))))
 refine ws_nil ?_
 intro w hst
 refine tn ?_
 refine bsplit (((([] : List (List Int))).length : Int) == (0:Int)) (fun hc219 => ?_) (fun hc219 => ?_)
 {
 replace hm := bif_t hc219 hm
 refine wp_ift (cvb hc219) ?_
 refine wp_seq (wrl (wv (.int .i64 ((-1):Int)) z z z (wl_nil (tn (wp_ret (then_r ?_))))))
 replace hst := hst.pull1.pull1.C_mapO (kf := kv_net_Link) (kk := y161.1)
 replace hst := St.eqO he162 hst
 replace hst := hst.pull2.pull2
 replace hst := at_net_Net_close (pv := Pt b156 0) (x := o0) hst z
 replace hst := objO_some hst
 obtain rfl := some_inj hm
 refine post_ret (vs := [I6 ((-1):Int)]) results16 (rvs_cons (rv_tmp z) rvs_nil) ?_
 exact ⟨z, hst.keep1⟩
}
 {
 replace hm := bif_f hc219 hm
 refine wp_iff (cvb hc219) ?_
 refine wp_skip (tn (wp_seq ?_))
 refine wq_regionS hst Try.mixed (by kernel_rfl) ?_
 refine wq_run (v := Pt b156 0) z z (fun w hst => z) ?_
 refine wq_run (v := Pt b156 0) z z (fun w hst => z) ?_
 refine wq_run (v := Pt b156 1) z z (fun w hst => x_field z underlying52 z sizeOf50 z) ?_
 refine wq_run (v := v210) z z (fun w hst => x_load z isAgg50 (hst.bc2 z)) ?_
 refine wq_run (v := .agg #[I6 a1.From, I6 a1.To, I6 a1.Lane]) z z (fun w hst => x_loadN (cs := [I6 a1.From, I6 a1.To, I6 a1.Lane]) z isAgg23 sizeOf23 (hst.bcs4 0 z)) ?_
 refine wq_run (v := (.slice none 0 0)) z z (fun w hst => x_look (kv := (lk a1.From a1.To a1.Lane)) z z (run_lookN hst (j := 1) z key3_23 underlying50 (fun _ => by kernel_rfl) hc183)) ?_
 refine wq_run (v := .int .i64 ((([] : List (List Int))).length : Int)) z z (fun w hst => x_len z underlying49 SliceV.nil) ?_
 refine wq_run (v := .int .i64 ((([] : List (List Int))).length : Int)) z z (fun w hst => z) ?_
 refine wq_nil ?_
 intro w hst
 refine tn (wp_seq (wrl (wv (.int .i64 a2) z z z (wv (.int .u64 (u64.wrap a2)) z z (by kernel_rfl) (wv (.int .i64 ((([] : List (List Int))).length : Int)) z z z (wv (.int .u64 (u64.wrap ((([] : List (List Int))).length : Int))) z z (by kernel_rfl) ?_))))))
 obtain ⟨hg221, hm⟩ := gd_some hm
 refine wv (.int .u64 (Int.tmod (u64.wrap a2) (u64.wrap ((([] : List (List Int))).length : Int)))) z z (x_rem (not_t hg221) z z) (wv (.int .i64 (i64.wrap (Int.tmod (u64.wrap a2) (u64.wrap ((([] : List (List Int))).length : Int))))) z z (by kernel_rfl) (wv (.int .i64 (i64.wrap (Int.tmod (u64.wrap a2) (u64.wrap ((([] : List (List Int))).length : Int))))) z z z (wl_nil (tn (wp_ret ?_)))))
 replace hst := hst.pull1.pull1.C_mapO (kf := kv_net_Link) (kk := y161.1)
 replace hst := St.eqO he162 hst
 replace hst := hst.pull2.pull2
 replace hst := at_net_Net_close (pv := Pt b156 0) (x := o0) hst z
 replace hst := objO_some hst
 obtain rfl := some_inj hm
 refine post_ret (vs := [I6 (i64.wrap (Int.tmod (u64.wrap a2) (u64.wrap ((([] : List (List Int))).length : Int))))]) results16 (rvs_cons (rv_tmp z) rvs_nil) ?_
 exact ⟨z, hst.keep1⟩
}
}
}
}
}
}

theorem slices_Delete_byte_byte_ref {w0 w : World} {I : HL} {R : SP} {a0 : (List (List Int))} {r0_0 : Value} {a1 a2 : Int} (hst : St w0 w I [ownS (tySl (tyInt .u8)) r0_0 a0] R) {r : (List (List Int))} (hm : slices_Delete_byte_byte a0 a1 a2 = some r) :
  Calls prog 17 #[r0_0, I6 a1, I6 a2] w fun e w' => ∃ (q0_0 : Value), e = .returned (q0_0) ∧ St w0 w' I [ownS (tySl (tyInt .u8)) q0_0 r] R := by {
 unfold slices_Delete_byte_byte at hm
 obtain ⟨hg, hm⟩ := gd_some hm
 obtain rfl := some_inj hm
 obtain ⟨hi0, hi1, hi2⟩ := fits_of hg
 obtain ⟨j, rfl⟩ := Int.eq_ofNat_of_zero_le (Int.le_trans hi0 hi1)
 obtain ⟨k, rfl⟩ := Int.eq_ofNat_of_zero_le hi0
 have hkj : k ≤ j := by omega
 have hs : ∀ w : World, (sizeOf 24).run prog w = .ok (tySl (tyInt .u8)).sz w := sizeOf24
 obtain ⟨css, hr, hst⟩ := hst.own_open
 obtain ⟨n, hn⟩ : ∃ n, css.length = n := ⟨_, rfl⟩
 have hln : a0.length = n := hr.1.trans hn
 have hjn : j ≤ n := by omega
 have hsv : SliceV r0_0 n := by have := hst.row_form.2; rwa [hn] at this
 have hoc := hr.ones
 refine calls_start (args := [r0_0, I6 (k : Int), I6 (j : Int)]) func17 z ntmps17 (Nat.le_of_ble_eq_true z) ?_
 refine wp_seq (wrl (wv ((.slice none 0 0)) z z z (wl_nil (tn (wp_seq (wrl (wv (r0_0) z z z (wv (.int .i64 (k : Int)) z z z (wv (.int .i64 (j : Int)) z z z (wv (r0_0) z z z (wv (.int .i64 (n : Int)) z z (x_len z underlying49 hsv) ?_)))))))))))
 refine wl_ex z z (x_slice3 underlying49 hs z hsv z z z hkj hjn) fun v3 => ?_
 refine wl_nil (tn (wp_seq (wp_seq (wrl (wv (.int .i64 (k : Int)) z z z (wv (.int .i64 (j : Int)) z z z (wv (.bool ((k : Int) == (j : Int))) z z z (wl_nil (tn ?_)))))))))
 refine bsplit ((k : Int) == (j : Int)) (fun hc99 => ?_) (fun hc99 => ?_)
 {
 refine wp_ift (cvb hc99) ?_
 refine wp_seq (wrl (wv (r0_0) z z z (wv (r0_0) z z z (wl_nil (tn (wp_ret (then_r ?_)))))))
 refine post_ret (vs := [r0_0]) results17 (rvs_cons (rv_tmp z) rvs_nil) ?_
 rw [del_nil hc99]
 exact ⟨_, z, (hst.own_close hr).keep1⟩
}
 {
 refine wp_iff (cvb hc99) ?_
 have hne : ¬ ((k : Int) = (j : Int)) := by simpa using hc99
 have hlt : k < j := by omega
 refine wp_skip (tn (wp_seq (wrl ?_)))
 refine wv (r0_0) z z z (wv (.int .i64 (n : Int)) z z (x_len z underlying49 hsv) (wv (.int .i64 (n : Int)) z z z (wl_nil (tn (wp_seq ?_)))))
 refine wp_region_St hst 8 [0, 1, 2, 3, 4, 5, 6, 7] [0, 0, 3, 0, 0, 24, 63, 127] [7] z (by kernel_rfl) (by kernel_rfl) Try.mixed (by kernel_rfl) ?_
 refine wsr (r0_0) 0 z z z (by kernel_rfl) (fun w hst => z) (wsr (.int .i64 (k : Int)) 1 z z z (by kernel_rfl) (fun w hst => z) (wsr ((slcV (tySl (tyInt .u8)).sz r0_0 0 k)) 2 z z z (by kernel_rfl) (fun w hst => x_slice (lo := (0 : Nat)) (hi := (k : Nat)) underlying49 hs z hsv (by omega) (by omega) (by omega) .i64 .i64 (.inr ⟨z, z⟩) (.inl z)) (wsr (r0_0) 3 z z z (by kernel_rfl) (fun w hst => z) (wsr (.int .i64 (j : Int)) 4 z z z (by kernel_rfl) (fun w hst => z) (wsr ((slcV (tySl (tyInt .u8)).sz r0_0 j n)) 5 z z z (by kernel_rfl) (fun w hst => x_slice (lo := (j : Nat)) (hi := (n : Nat)) underlying49 hs z hsv (by omega) (by omega) (by omega) .i64 .i64 (.inl z) (.inr ⟨z, z⟩)) ?_)))))
 refine ws_e1 6 (by kernel_rfl) ?_
 refine nxe [7] (by kernel_rfl) z z ?_
 clear hst
 intro w hst
 obtain ⟨w2, hra, hst⟩ := run_appDel (P := prog) underlying49 hs hst hn hlt hjn hoc 49
 refine we_run (v := (slcV (tySl (tyInt .u8)).sz r0_0 0 (k + (n - j)))) (w' := w2) z (x_append z z hra) ?_
 have hnl := (show _ from hst)
 clear hnl
 have hn2 : (css.take k ++ (css.drop j ++ css.drop (k + (n - j)))).length = n := by simp only [List.length_append, List.length_take, List.length_drop]; omega
 have hsm := row_slc hst hn2 (m := (k + (n - j))) (by omega)
 refine ws_next (pend' := []) hst (by kernel_rfl) pk_nil ?_
 refine ws_e1 7 (by kernel_rfl) ?_
 refine nxe [] (by kernel_rfl) z z ?_
 clear hst
 intro w hst
 refine we_run (v := (slcV (tySl (tyInt .u8)).sz r0_0 0 (k + (n - j)))) (w' := w) z z ?_
 refine ws_next (pend' := []) hst (by kernel_rfl) pk_nil ?_
 refine ws_nil ?_
 intro w hst
 refine tn (wp_seq (wrl (wv ((slcV (tySl (tyInt .u8)).sz r0_0 0 (k + (n - j)))) z z z (wv ((slcV (tySl (tyInt .u8)).sz r0_0 0 (k + (n - j)))) z z z (wv (.int .i64 (((k + (n - j)) : Nat) : Int)) z z (x_len z underlying49 hsm) (wv (.int .i64 (n : Int)) z z z (wv ((slcV (tySl (tyInt .u8)).sz r0_0 (k + (n - j)) n)) z z (x_sliceRe underlying49 hs z hsv z z (by omega) (by omega)) ?_)))))))
 obtain ⟨w3, hrc, hst⟩ := run_clear elem_49 z (ones_of (by kernel_rfl)) hst hn2 (m := (k + (n - j))) (by omega) 0
 refine wl_run0 z z (x_clear z hrc) ?_
 refine wl_nil (tn (wp_seq (wrl (wv ((slcV (tySl (tyInt .u8)).sz r0_0 0 (k + (n - j)))) z z z (wv ((slcV (tySl (tyInt .u8)).sz r0_0 0 (k + (n - j)))) z z z (wl_nil (tn (wp_ret ?_))))))))
 refine post_ret (vs := [(slcV (tySl (tyInt .u8)).sz r0_0 0 (k + (n - j)))]) results17 (rvs_cons (rv_tmp z) rvs_nil) ?_
 replace hst := hst.row_part (l := 0) (h := (k + (n - j))) (Nat.zero_le _) (by simp only [List.length_append, List.length_take, List.length_drop, List.length_replicate]; omega)
 rw [del_rows hn hlt hjn (List.length_replicate ..)] at hst
 exact ⟨_, z, (hst.own_close ((hr.take k).app (hr.drop j))).keep1⟩
}
}

theorem net_Net_Take_ref {w0 w : World} {I : HL} {R : SP} {a0 : (Option net_Net)} {p0 : Value} {a1 : net_Link} {a2 : Int}  (hst : St w0 w I [objO at_net_Net p0 a0] R) {r : ((List Int) × Bool × (Option net_Net))} (hm : net_Net_Take a0 a1 a2 = some r) :
  Calls prog 9 #[p0, .agg #[I6 a1.From, I6 a1.To, I6 a1.Lane], I6 a2] w fun e w' => ∃ (I' : HL) (q0_0 : Value), e = .returned (.tuple #[q0_0, .bool r.2.1]) ∧ I.le I' ∧ Ro (tyInt .u8) I' q0_0 r.1 ∧ St w0 w' I' [objO at_net_Net p0 r.2.2] R := by {
 rcases a0 with _ | o0
 {
 obtain ⟨rfl, hst'⟩ := objO_none hst
 clear hst
 have hst := hst'
 clear hst'
 dsimp only [net_Net_Take] at hm
 refine calls_start (args := [.pointer none, .agg #[I6 a1.From, I6 a1.To, I6 a1.Lane], I6 a2]) func9 z ntmps9 (Nat.le_of_ble_eq_true z) ?_
 have hI0 := HL.le.refl I
 refine wp_seq (wrl ?_)
 obtain ⟨b110, w111, ew112, eb113, hst⟩ := hst.box [I6 a1.From, I6 a1.To, I6 a1.Lane] 23
 refine wl_run (v := Pt b110 0) (w' := w111) z z (x_al (by kernel_rfl) ew112 eb113) ?_
 refine wv ((.slice none 0 0)) z z z (wv (.bool false) z z z (wl_nil (tn (wp_seq (wrl (wv (.pointer none) z z z (wv (.agg #[I6 a1.From, I6 a1.To, I6 a1.Lane]) z z (x_loadN (cs := [I6 a1.From, I6 a1.To, I6 a1.Lane]) z isAgg23 sizeOf23 (hst.bcs0 0 z)) (wv (.int .i64 a2) z z z ?_))))))))
 replace hst := hst.objO_nil at_net_Net
 obtain ⟨t117, ht118, hm⟩ := bind_some hm
 refine wc call16 [.pointer none, .agg #[I6 a1.From, I6 a1.To, I6 a1.Lane], I6 a2] z z z ?_
 refine (net_Net_place_ref hst.to1 ht118).mono ?_
 rintro _ w119 ⟨rfl, hst⟩
 refine ⟨_, z, ?_⟩
 replace hst := hst.of1
 refine wv (.int .i64 t117) z z z (wl_nil (tn (wp_seq (wp_seq (wrl (wv (.int .i64 t117) z z z (wv (.bool (decide (t117 < (0:Int)))) z z z (wl_nil (tn ?_)))))))))
 refine bsplit (decide (t117 < (0:Int))) (fun hc122 => ?_) (fun hc122 => ?_)
 {
 replace hm := bif_t hc122 hm
 refine wp_ift (cvb hc122) ?_
 refine wp_seq (wrl (wv ((.slice none 0 0)) z z z (wv (.bool false) z z z (wl_nil (tn (wp_ret (then_r ?_)))))))
 have f124 : Ro (tyInt .u8) I (.slice none 0 0) [] := ro_nil
 replace hst := hst.objO_nil at_net_Net
 obtain rfl := some_inj hm
 refine post_ret (vs := [Zs, .bool false]) results9 (rvs_cons (rv_tmp z) (rvs_cons (rv_tmp z) rvs_nil)) ?_
 exact ⟨_, Zs, z, hI0, f124, hst.keep1⟩
}
 {
 replace hm := bif_f hc122 hm
 refine wp_iff (cvb hc122) ?_
 refine wp_skip (tn (wp_seq ?_))
 refine wq_regionS hst Try.mixed (by kernel_rfl) ?_
 refine wq_run (v := .pointer none) z z (fun w hst => z) ?_
 cases hm
}
}
 {
 replace hst := objO_get hst
 dsimp only [net_Net_Take] at hm
 refine calls_start (args := [p0, .agg #[I6 a1.From, I6 a1.To, I6 a1.Lane], I6 a2]) func9 z ntmps9 (Nat.le_of_ble_eq_true z) ?_
 have hI0 := HL.le.refl I
 refine wp_seq (wrl ?_)
 obtain ⟨b125, w126, ew127, eb128, hst⟩ := hst.box [I6 a1.From, I6 a1.To, I6 a1.Lane] 23
 refine wl_run (v := Pt b125 0) (w' := w126) z z (x_al (by kernel_rfl) ew127 eb128) ?_
 refine wv ((.slice none 0 0)) z z z (wv (.bool false) z z z (wl_nil (tn (wp_seq (wrl (wv (p0) z z z (wv (.agg #[I6 a1.From, I6 a1.To, I6 a1.Lane]) z z (x_loadN (cs := [I6 a1.From, I6 a1.To, I6 a1.Lane]) z isAgg23 sizeOf23 (hst.bcs0 0 z)) (wv (.int .i64 a2) z z z ?_))))))))
 replace hst := hst.pull1
 replace hst := objO_some hst
 obtain ⟨t131, ht132, hm⟩ := bind_some hm
 refine wc call16 [p0, .agg #[I6 a1.From, I6 a1.To, I6 a1.Lane], I6 a2] z z z ?_
 refine (net_Net_place_ref hst.to1 ht132).mono ?_
 rintro _ w133 ⟨rfl, hst⟩
 refine ⟨_, z, ?_⟩
 replace hst := hst.of1
 replace hst := objO_get hst
 refine wv (.int .i64 t131) z z z (wl_nil (tn (wp_seq (wp_seq (wrl (wv (.int .i64 t131) z z z (wv (.bool (decide (t131 < (0:Int)))) z z z (wl_nil (tn ?_)))))))))
 refine bsplit (decide (t131 < (0:Int))) (fun hc136 => ?_) (fun hc136 => ?_)
 {
 replace hm := bif_t hc136 hm
 refine wp_ift (cvb hc136) ?_
 refine wp_seq (wrl (wv ((.slice none 0 0)) z z z (wv (.bool false) z z z (wl_nil (tn (wp_ret (then_r ?_)))))))
 have f138 : Ro (tyInt .u8) I (.slice none 0 0) [] := ro_nil
 replace hst := objO_some hst
 obtain rfl := some_inj hm
 refine post_ret (vs := [Zs, .bool false]) results9 (rvs_cons (rv_tmp z) (rvs_cons (rv_tmp z) rvs_nil)) ?_
 exact ⟨_, Zs, z, hI0, f138, hst.keep1⟩
}
 {
 replace hm := bif_f hc136 hm
 refine wp_iff (cvb hc136) ?_
 refine wp_skip (tn (wp_seq ?_))
 obtain ⟨b139, v140, v142, rfl, hst'⟩ := at_net_Net_open hst
 clear hst
 have hst := hst'
 clear hst'
 rcases he145 : o0.m with _ | y144
 {
 rw [he145] at hm hst
 dsimp only at hm
 replace hst := hst.pull2.mapO_E
 refine wq_regionS hst Try.mixed (by kernel_rfl) ?_
 refine wq_run (v := Pt b139 0) z z (fun w hst => z) ?_
 refine wq_run (v := Pt b139 0) z z (fun w hst => z) ?_
 refine wq_run (v := Pt b139 1) z z (fun w hst => x_field z underlying52 z sizeOf50 z) ?_
 refine wq_run (v := v142) z z (fun w hst => x_load z isAgg50 (hst.bc1 z)) ?_
 refine wq_run (v := .agg #[I6 a1.From, I6 a1.To, I6 a1.Lane]) z z (fun w hst => x_loadN (cs := [I6 a1.From, I6 a1.To, I6 a1.Lane]) z isAgg23 sizeOf23 (hst.bcs3 0 z)) ?_
 refine wq_run (v := (.slice none 0 0)) z z (fun w hst => x_look (kv := (lk a1.From a1.To a1.Lane)) z z (run_lookE hst (j := 0) z key3_23 underlying50 (fun _ => by kernel_rfl))) ?_
 refine wq_run (v := .int .i64 t131) z z (fun w hst => z) ?_
 cases hm
}
 {
 rw [he145] at hm hst
 dsimp only at hm
 replace hst := hst.pull2
 obtain ⟨v147, hst⟩ := hst.mapO_C
 refine bsplit ((a1.From == y144.1.From) && (a1.To == y144.1.To) && (a1.Lane == y144.1.Lane)) (fun hc149 => ?_) (fun hc149 => ?_)
 {
 replace hm := bif_t hc149 hm
 obtain ⟨css150, hq151, hst⟩ := hst.own_open
 refine wq_regionS hst Try.mixed (by kernel_rfl) ?_
 refine wq_run (v := Pt b139 0) z z (fun w hst => z) ?_
 refine wq_run (v := Pt b139 0) z z (fun w hst => z) ?_
 refine wq_run (v := Pt b139 1) z z (fun w hst => x_field z underlying52 z sizeOf50 z) ?_
 refine wq_run (v := v142) z z (fun w hst => x_load z isAgg50 (hst.bc2 z)) ?_
 refine wq_run (v := .agg #[I6 a1.From, I6 a1.To, I6 a1.Lane]) z z (fun w hst => x_loadN (cs := [I6 a1.From, I6 a1.To, I6 a1.Lane]) z isAgg23 sizeOf23 (hst.bcs4 0 z)) ?_
 refine wq_run (v := v147) z z (fun w hst => x_look (kv := (lk a1.From a1.To a1.Lane)) z z (run_lookC hst (j := 1) z key3_23 underlying50 hc149)) ?_
 refine wq_run (v := .int .i64 t131) z z (fun w hst => z) ?_
 obtain ⟨x152, hx153, hm⟩ := bind_some hm
 obtain ⟨h154, h155, hi156⟩ := geto_some hx153
 refine wq_run (v := .pointer (some (eAddr v147 (t131.toNat * 1 + 0)))) z z (fun w hst => x_index z z underlying49 sizeOf24 (hst.rsv 0 z hq151) h154 h155) ?_
 obtain ⟨cs157, hc159, hr158⟩ := Reps.get hq151 hi156
 obtain ⟨v160, rfl, f161, -⟩ := hr158
 refine wq_run (v := v160) z z (fun w hst => x_load z isAgg24 ((hst.rcell 0 z hc159) 0 _ z)) ?_
 refine wq_run (v := v160) z z (fun w hst => z) ?_
 refine wq_nil ?_
 intro w hst
 replace hst := hst.own_close hq151
 refine tn (wp_seq ?_)
 refine wp_region_St hst 16 [0, 1, 2, 3, 4, 5, 6, 7, 8, 9, 10, 11, 12, 13, 14, 15] [0, 1, 3, 7, 0, 0, 32, 96, 224, 0, 992, 0, 0, 4096, 16352, 32767] [] z (by kernel_rfl) (by kernel_rfl) Try.mixed (by kernel_rfl) ?_
 refine wsr (Pt b139 0) 0 z z z (by kernel_rfl) (fun w hst => z) (wsr (Pt b139 0) 1 z z z (by kernel_rfl) (fun w hst => z) (wsr (Pt b139 1) 2 z z z (by kernel_rfl) (fun w hst => x_field z underlying52 z sizeOf50 z) (wsr (v142) 3 z z z (by kernel_rfl) (fun w hst => x_load z isAgg50 (hst.bc2 z)) (wsr (.agg #[I6 a1.From, I6 a1.To, I6 a1.Lane]) 4 z z z (by kernel_rfl) (fun w hst => x_loadN (cs := [I6 a1.From, I6 a1.To, I6 a1.Lane]) z isAgg23 sizeOf23 (hst.bcs4 0 z)) (wsr (Pt b139 0) 5 z z z (by kernel_rfl) (fun w hst => z) (wsr (Pt b139 0) 6 z z z (by kernel_rfl) (fun w hst => z) (wsr (Pt b139 1) 7 z z z (by kernel_rfl) (fun w hst => x_field z underlying52 z sizeOf50 z) (wsr (v142) 8 z z z (by kernel_rfl) (fun w hst => x_load z isAgg50 (hst.bc2 z)) (wsr (.agg #[I6 a1.From, I6 a1.To, I6 a1.Lane]) 9 z z z (by kernel_rfl) (fun w hst => x_loadN (cs := [I6 a1.From, I6 a1.To, I6 a1.Lane]) z isAgg23 sizeOf23 (hst.bcs4 0 z)) (wsr (v147) 10 z z z (by kernel_rfl) (fun w hst => x_look (kv := (lk a1.From a1.To a1.Lane)) z z (run_lookC hst (j := 1) z key3_23 underlying50 hc149)) (wsr (.int .i64 t131) 11 z z z (by kernel_rfl) (fun w hst => z) (wsr (.int .i64 t131) 12 z z z (by kernel_rfl) (fun w hst => z) ?_))))))))))))
 refine wsr (.int .i64 (i64.wrap (t131 + (1:Int)))) 13 z z z (by kernel_rfl) (fun w hst => z) ?_
 refine ws_e1 14 (by kernel_rfl) ?_
 refine nxe [15] (by kernel_rfl) z z ?_
 clear hst
 intro w hst
 obtain ⟨t163, ht164, hm⟩ := bind_some hm
 refine wec call17 [v147, I6 t131, I6 (i64.wrap (t131 + (1:Int)))] z z ?_
 refine (slices_Delete_byte_byte_ref hst.to1 ht164).mono ?_
 rintro _ w165 ⟨v168, rfl, hst⟩
 refine ⟨_, z, ?_⟩
 replace hst := hst.of1
 refine ws_next (pend' := [(4, .agg #[I6 a1.From, I6 a1.To, I6 a1.Lane]), (3, v142), (2, Pt b139 1), (1, Pt b139 0), (0, Pt b139 0)]) hst (by kernel_rfl) (pkr z z (fun w hst => x_loadN (cs := [I6 a1.From, I6 a1.To, I6 a1.Lane]) z isAgg23 sizeOf23 (hst.bcs4 0 z)) (pkr z z (fun w hst => x_load z isAgg50 (hst.bc2 z)) (pkr z z (fun w hst => x_field z underlying52 z sizeOf50 z) (pkr z z (fun w hst => z) (pkr z z (fun w hst => z) pk_nil))))) ?_
 refine ws_e1 15 (by kernel_rfl) ?_
 refine nxe [] (by kernel_rfl) z z ?_
 clear hst
 intro w hst
 replace hst := hst.pull1
 obtain ⟨w170, hr171, hst⟩ := run_putC (P := prog) hst key3_23 underlying50 hc149 v168
 refine we_unit z (x_put (kv := (lk a1.From a1.To a1.Lane)) z z z hr171) ?_
 refine ws_next (pend' := []) hst (by kernel_rfl) pk_nil ?_
 refine ws_nil ?_
 intro w hst
 refine tn (wp_seq (wrl (wv (v160) z z z (wv (v160) z z z (wv (.bool true) z z z (wl_nil (tn (wp_ret ?_))))))))
 replace hst := hst.pull1.C_mapO (kf := kv_net_Link) (kk := a1)
 replace hst := hst.pull2.pull2
 replace hst := at_net_Net_close (pv := Pt b139 0) (x := ({ p := o0.p, m := (some (a1, t163)) } : net_Net)) hst z
 replace hst := objO_some hst
 obtain rfl := some_inj hm
 refine post_ret (vs := [v160, .bool true]) results9 (rvs_cons (rv_tmp z) (rvs_cons (rv_tmp z) rvs_nil)) ?_
 exact ⟨_, v160, z, hI0, f161, hst.keep1⟩
}
 {
 replace hm := bif_f hc149 hm
 refine wq_regionS hst Try.mixed (by kernel_rfl) ?_
 refine wq_run (v := Pt b139 0) z z (fun w hst => z) ?_
 refine wq_run (v := Pt b139 0) z z (fun w hst => z) ?_
 refine wq_run (v := Pt b139 1) z z (fun w hst => x_field z underlying52 z sizeOf50 z) ?_
 refine wq_run (v := v142) z z (fun w hst => x_load z isAgg50 (hst.bc2 z)) ?_
 refine wq_run (v := .agg #[I6 a1.From, I6 a1.To, I6 a1.Lane]) z z (fun w hst => x_loadN (cs := [I6 a1.From, I6 a1.To, I6 a1.Lane]) z isAgg23 sizeOf23 (hst.bcs4 0 z)) ?_
 refine wq_run (v := (.slice none 0 0)) z z (fun w hst => x_look (kv := (lk a1.From a1.To a1.Lane)) z z (run_lookN hst (j := 1) z key3_23 underlying50 (fun _ => by kernel_rfl) hc149)) ?_
 refine wq_run (v := .int .i64 t131) z z (fun w hst => z) ?_
 cases hm
}
}
}
}
}

theorem net_Net_Len_ref {w0 w : World} {I : HL} {R : SP} {a0 : (Option net_Net)} {p0 : Value} {a1 : net_Link}  (hst : St w0 w I [objO at_net_Net p0 a0] R) {r : (Int)} (hm : net_Net_Len a0 a1 = some r) :
  Calls prog 8 #[p0, .agg #[I6 a1.From, I6 a1.To, I6 a1.Lane]] w fun e w' => e = .returned (.int .i64 r) ∧ St w0 w' I [objO at_net_Net p0 a0] R := by {
 rcases a0 with _ | o0
 {
 obtain ⟨rfl, hst'⟩ := objO_none hst
 clear hst
 have hst := hst'
 clear hst'
 dsimp only [net_Net_Len] at hm
 refine calls_start (args := [.pointer none, .agg #[I6 a1.From, I6 a1.To, I6 a1.Lane]]) func8 z ntmps8 (Nat.le_of_ble_eq_true z) ?_
 refine wp_seq (wrl ?_)
 obtain ⟨b94, w95, ew96, eb97, hst⟩ := hst.box [I6 a1.From, I6 a1.To, I6 a1.Lane] 23
 refine wl_run (v := Pt b94 0) (w' := w95) z z (x_al (by kernel_rfl) ew96 eb97) ?_
 refine wv (.int .i64 (0:Int)) z z z (wl_nil (tn (wp_seq (wp_seq (wrl (wv (.pointer none) z z z (wv (.agg #[I6 a1.From, I6 a1.To, I6 a1.Lane]) z z (x_loadN (cs := [I6 a1.From, I6 a1.To, I6 a1.Lane]) z isAgg23 sizeOf23 (hst.bcs0 0 z)) ?_)))))))
 replace hst := hst.objO_nil at_net_Net
 obtain ⟨t100, ht101, hm⟩ := bind_some hm
 refine wc call14 [.pointer none, .agg #[I6 a1.From, I6 a1.To, I6 a1.Lane]] z z z ?_
 refine (net_Net_is_ref hst.to1 ht101).mono ?_
 rintro _ w102 ⟨rfl, hst⟩
 refine ⟨_, z, ?_⟩
 replace hst := hst.of1
 refine wv (.bool (!t100)) z z z (wl_nil (tn ?_))
 refine bsplit (!t100) (fun hc105 => ?_) (fun hc105 => ?_)
 {
 replace hm := bif_t hc105 hm
 refine wp_ift (cvb hc105) ?_
 refine wp_seq (wrl (wv (.int .i64 (0:Int)) z z z (wl_nil (tn (wp_ret (then_r ?_))))))
 replace hst := hst.objO_nil at_net_Net
 obtain rfl := some_inj hm
 refine post_ret (vs := [Zi]) results8 (rvs_cons (rv_tmp z) rvs_nil) ?_
 exact ⟨z, hst.keep1⟩
}
 {
 replace hm := bif_f hc105 hm
 refine wp_iff (cvb hc105) ?_
 refine wp_skip (tn (wp_seq ?_))
 refine wq_regionS hst Try.mixed (by kernel_rfl) ?_
 refine wq_run (v := .pointer none) z z (fun w hst => z) ?_
 cases hm
}
}
 {
 replace hst := objO_get hst
 dsimp only [net_Net_Len] at hm
 refine calls_start (args := [p0, .agg #[I6 a1.From, I6 a1.To, I6 a1.Lane]]) func8 z ntmps8 (Nat.le_of_ble_eq_true z) ?_
 refine wp_seq (wrl ?_)
 obtain ⟨b106, w107, ew108, eb109, hst⟩ := hst.box [I6 a1.From, I6 a1.To, I6 a1.Lane] 23
 refine wl_run (v := Pt b106 0) (w' := w107) z z (x_al (by kernel_rfl) ew108 eb109) ?_
 refine wv (.int .i64 (0:Int)) z z z (wl_nil (tn (wp_seq (wp_seq (wrl (wv (p0) z z z (wv (.agg #[I6 a1.From, I6 a1.To, I6 a1.Lane]) z z (x_loadN (cs := [I6 a1.From, I6 a1.To, I6 a1.Lane]) z isAgg23 sizeOf23 (hst.bcs0 0 z)) ?_)))))))
 replace hst := hst.pull1
 replace hst := objO_some hst
 obtain ⟨t111, ht112, hm⟩ := bind_some hm
 refine wc call14 [p0, .agg #[I6 a1.From, I6 a1.To, I6 a1.Lane]] z z z ?_
 refine (net_Net_is_ref hst.to1 ht112).mono ?_
 rintro _ w113 ⟨rfl, hst⟩
 refine ⟨_, z, ?_⟩
 replace hst := hst.of1
 replace hst := objO_get hst
 refine wv (.bool (!t111)) z z z (wl_nil (tn ?_))
 refine bsplit (!t111) (fun hc116 => ?_) (fun hc116 => ?_)
 {
 replace hm := bif_t hc116 hm
 refine wp_ift (cvb hc116) ?_
 refine wp_seq (wrl (wv (.int .i64 (0:Int)) z z z (wl_nil (tn (wp_ret (then_r ?_))))))
 replace hst := objO_some hst
 obtain rfl := some_inj hm
 refine post_ret (vs := [Zi]) results8 (rvs_cons (rv_tmp z) rvs_nil) ?_
 exact ⟨z, hst.keep1⟩
}
 {
 replace hm := bif_f hc116 hm
 refine wp_iff (cvb hc116) ?_
 refine wp_skip (tn (wp_seq ?_))
 obtain ⟨b117, v118, v120, rfl, hst'⟩ := at_net_Net_open hst
 clear hst
 have hst := hst'
 clear hst'
 rcases he123 : o0.m with _ | y122
 {
 rw [he123] at hm hst
 dsimp only at hm
 replace hst := hst.pull2.mapO_E
 refine wq_regionS hst Try.mixed (by kernel_rfl) ?_
 refine wq_run (v := Pt b117 0) z z (fun w hst => z) ?_
 refine wq_run (v := Pt b117 0) z z (fun w hst => z) ?_
 refine wq_run (v := Pt b117 1) z z (fun w hst => x_field z underlying52 z sizeOf50 z) ?_
 refine wq_run (v := v120) z z (fun w hst => x_load z isAgg50 (hst.bc1 z)) ?_
 refine wq_run (v := .agg #[I6 a1.From, I6 a1.To, I6 a1.Lane]) z z (fun w hst => x_loadN (cs := [I6 a1.From, I6 a1.To, I6 a1.Lane]) z isAgg23 sizeOf23 (hst.bcs3 0 z)) ?_
 refine wq_run (v := (.slice none 0 0)) z z (fun w hst => x_look (kv := (lk a1.From a1.To a1.Lane)) z z (run_lookE hst (j := 0) z key3_23 underlying50 (fun _ => by kernel_rfl))) ?_
 refine wq_run (v := .int .i64 ((([] : List (List Int))).length : Int)) z z (fun w hst => x_len z underlying49 SliceV.nil) ?_
 refine wq_run (v := .int .i64 ((([] : List (List Int))).length : Int)) z z (fun w hst => z) ?_
 refine wq_nil ?_
 intro w hst
 refine tn (wp_ret ?_)
 replace hst := hst.E_mapO (E := (tySl (tyInt .u8))) (kf := kv_net_Link)
 rw [← he123] at hst
 replace hst := hst.pull2.pull2
 replace hst := at_net_Net_close (pv := Pt b117 0) (x := o0) hst z
 replace hst := objO_some hst
 obtain rfl := some_inj hm
 refine post_ret (vs := [I6 ((([] : List (List Int))).length : Int)]) results8 (rvs_cons (rv_tmp z) rvs_nil) ?_
 exact ⟨z, hst.keep1⟩
}
 {
 rw [he123] at hm hst
 dsimp only at hm
 replace hst := hst.pull2
 obtain ⟨v125, hst⟩ := hst.mapO_C
 refine bsplit ((a1.From == y122.1.From) && (a1.To == y122.1.To) && (a1.Lane == y122.1.Lane)) (fun hc127 => ?_) (fun hc127 => ?_)
 {
 replace hm := bif_t hc127 hm
 refine wq_regionS hst Try.mixed (by kernel_rfl) ?_
 refine wq_run (v := Pt b117 0) z z (fun w hst => z) ?_
 refine wq_run (v := Pt b117 0) z z (fun w hst => z) ?_
 refine wq_run (v := Pt b117 1) z z (fun w hst => x_field z underlying52 z sizeOf50 z) ?_
 refine wq_run (v := v120) z z (fun w hst => x_load z isAgg50 (hst.bc2 z)) ?_
 refine wq_run (v := .agg #[I6 a1.From, I6 a1.To, I6 a1.Lane]) z z (fun w hst => x_loadN (cs := [I6 a1.From, I6 a1.To, I6 a1.Lane]) z isAgg23 sizeOf23 (hst.bcs4 0 z)) ?_
 refine wq_run (v := v125) z z (fun w hst => x_look (kv := (lk a1.From a1.To a1.Lane)) z z (run_lookC hst (j := 1) z key3_23 underlying50 hc127)) ?_
 refine wq_run (v := .int .i64 ((y122.2).length : Int)) z z (fun w hst => x_len z underlying49 hst.sv0) ?_
 refine wq_run (v := .int .i64 ((y122.2).length : Int)) z z (fun w hst => z) ?_
 refine wq_nil ?_
 intro w hst
 refine tn (wp_ret ?_)
 replace hst := hst.pull1.pull1.C_mapO (kf := kv_net_Link) (kk := y122.1)
 replace hst := St.eqO he123 hst
 replace hst := hst.pull2.pull2
 replace hst := at_net_Net_close (pv := Pt b117 0) (x := o0) hst z
 replace hst := objO_some hst
 obtain rfl := some_inj hm
 refine post_ret (vs := [I6 ((y122.2).length : Int)]) results8 (rvs_cons (rv_tmp z) rvs_nil) ?_
 exact ⟨z, hst.keep1⟩
}
 {
 replace hm := bif_f hc127 hm
 refine wq_regionS hst Try.mixed (by kernel_rfl) ?_
 refine wq_run (v := Pt b117 0) z z (fun w hst => z) ?_
 refine wq_run (v := Pt b117 0) z z (fun w hst => z) ?_
 refine wq_run (v := Pt b117 1) z z (fun w hst => x_field z underlying52 z sizeOf50 z) ?_
 refine wq_run (v := v120) z z (fun w hst => x_load z isAgg50 (hst.bc2 z)) ?_
 refine wq_run (v := .agg #[I6 a1.From, I6 a1.To, I6 a1.Lane]) z z (fun w hst => x_loadN (cs := [I6 a1.From, I6 a1.To, I6 a1.Lane]) z isAgg23 sizeOf23 (hst.bcs4 0 z)) ?_
 refine wq_run (v := (.slice none 0 0)) z z (fun w hst => x_look (kv := (lk a1.From a1.To a1.Lane)) z z (run_lookN hst (j := 1) z key3_23 underlying50 (fun _ => by kernel_rfl) hc127)) ?_
 refine wq_run (v := .int .i64 ((([] : List (List Int))).length : Int)) z z (fun w hst => x_len z underlying49 SliceV.nil) ?_
 refine wq_run (v := .int .i64 ((([] : List (List Int))).length : Int)) z z (fun w hst => z) ?_
 refine wq_nil ?_
 intro w hst
 refine tn (wp_ret ?_)
 replace hst := hst.pull1.pull1.C_mapO (kf := kv_net_Link) (kk := y122.1)
 replace hst := St.eqO he123 hst
 replace hst := hst.pull2.pull2
 replace hst := at_net_Net_close (pv := Pt b117 0) (x := o0) hst z
 replace hst := objO_some hst
 obtain rfl := some_inj hm
 refine post_ret (vs := [I6 ((([] : List (List Int))).length : Int)]) results8 (rvs_cons (rv_tmp z) rvs_nil) ?_
 exact ⟨z, hst.keep1⟩
}
}
}
}
}

theorem law21_awake_ref {w0 w : World} {I : HL} {R : SP}   (hst : St w0 w I [] R) {r : (Bool)} (hm : law21_awake = some r) :
  Calls prog 5 #[] w fun e w' => ∃ (I' : HL), e = .returned (.bool r) ∧ I.le I' ∧ St w0 w' I' [] R := by {
 unfold law21_awake at hm
 refine calls_start (args := []) func5 z ntmps5 (Nat.le_of_ble_eq_true z) ?_
 have hI0 := HL.le.refl I
 refine wp_seq (wrl (wv (.bool false) z z z (wl_nil (tn (wp_seq (wrl ?_))))))
 obtain ⟨t62, ht63, hm⟩ := bind_some hm
 refine wc call6 [] z z z ?_
 refine (law21_open_ref hst.to0 ht63).mono ?_
 rintro _ w64 ⟨I65, v67, v69, rfl, hI66, hst⟩
 refine ⟨_, z, ?_⟩
 replace hst := hst.of1
 replace hI0 := hI0.trans hI66
 refine wv (.tuple #[v67, v69]) z z z (wv (v67) z z z (wv (v69) z z z (wv (v67) z z z (wv (v69) z z z (wl_nil (tn (wp_seq (wrl (wv (.agg #[Zi, I6 (1:Int), I6 (2:Int)]) z z (by kernel_rfl) ?_)))))))))
 obtain ⟨b70, w71, ew72, eb73, hst⟩ := hst.box [Zi, Zi, Zi] 23
 refine wl_run (v := Pt b70 0) (w' := w71) z z (x_al (by kernel_rfl) ew72 eb73) ?_
 obtain ⟨w75, hr76, hst⟩ := hst.bx [Zi, I6 (1:Int), I6 (2:Int)] sizeOf23 z (oC z (oC z (oC z oN))) (by kernel_rfl)
 refine wl_unit z z (x_unit hr76) ?_
 refine wl_nil (tn (wp_seq (wp_seq (wrl (wv (v67) z z z (wv (.bool (t62.isNone)) z z (by obtain ⟨a_, ha_, hb_⟩ := at_net_Net_isnil hst.pull1; subst ha_; rw [← hb_]; cases a_ <;> kernel_rfl) (wl_nil (tn ?_))))))))
 refine bsplit (t62.isNone) (fun hc77 => ?_) (fun hc77 => ?_)
 {
 replace hm := bif_t hc77 hm
 refine wp_ift (cvb hc77) ?_
 refine wp_seq (wrl (wv (.bool false) z z z (wl_nil (tn (wp_ret (then_r ?_))))))
 obtain rfl := some_inj hm
 refine post_ret (vs := [.bool false]) results5 (rvs_cons (rv_tmp z) rvs_nil) ?_
 exact ⟨_, z, hI0, hst.keep0⟩
}
 {
 replace hm := bif_f hc77 hm
 refine wp_iff (cvb hc77) ?_
 refine wp_skip (tn (wp_seq (wrl ?_)))
 refine wv (v67) z z z (wv (.agg #[Zi, I6 (1:Int), I6 (2:Int)]) z z (x_loadN (cs := [Zi, I6 (1:Int), I6 (2:Int)]) z isAgg23 sizeOf23 (hst.bcs0 0 z)) ?_)
 obtain ⟨b78, w79, ew80, eb81, hst⟩ := hst.lits (E := (tyInt .u8)) (xs := [(97:Int)]) [[U1 (97:Int)]] 5 1 z (Reps.cons z Reps.nil)
 refine wl_run (v := (.slice (some ⟨b78, 0, none⟩) 1 1)) (w' := w79) z z (x_als (by kernel_rfl) ew80 eb81) ?_
 obtain ⟨I83, w86, hI84, f85, hr87, hst⟩ := hst.own_mark (P := prog) underlying24 underlying5 (List.cons_ne_nil _ _)
 replace hI0 := hI0.trans hI84
 refine wl_run (v := (.slice (some ⟨b78, 0, none⟩) 1 1)) (w' := w86) z z (x_conv z hr87) ?_
 replace hst := hst.pull1
 obtain ⟨t88, ht89, hm⟩ := bind_some hm
 refine wc call7 [v67, .agg #[Zi, I6 (1:Int), I6 (2:Int)], (.slice (some ⟨b78, 0, none⟩) 1 1)] z z z ?_
 refine (net_Net_Put_ref (f85.mono ro_rd) hst.to1 ht89).mono ?_
 rintro _ w90 ⟨I91, rfl, hI92, hst⟩
 refine ⟨_, z, ?_⟩
 replace hst := hst.of1
 replace f85 := f85.mono (ro_le hI92)
 replace hI0 := hI0.trans hI92
 refine wl_nil (tn (wp_seq (wrl (wv (v67) z z z (wv (.agg #[Zi, I6 (1:Int), I6 (2:Int)]) z z (x_loadN (cs := [Zi, I6 (1:Int), I6 (2:Int)]) z isAgg23 sizeOf23 (hst.bcs1 0 z)) ?_)))))
 obtain ⟨b93, w94, ew95, eb96, hst⟩ := hst.lits (E := (tyInt .u8)) (xs := [(98:Int)]) [[U1 (98:Int)]] 5 1 z (Reps.cons z Reps.nil)
 refine wl_run (v := (.slice (some ⟨b93, 0, none⟩) 1 1)) (w' := w94) z z (x_als (by kernel_rfl) ew95 eb96) ?_
 obtain ⟨I98, w101, hI99, f100, hr102, hst⟩ := hst.own_mark (P := prog) underlying24 underlying5 (List.cons_ne_nil _ _)
 replace f85 := f85.mono (ro_le hI99)
 replace hI0 := hI0.trans hI99
 refine wl_run (v := (.slice (some ⟨b93, 0, none⟩) 1 1)) (w' := w101) z z (x_conv z hr102) ?_
 obtain ⟨t103, ht104, hm⟩ := bind_some hm
 refine wc call7 [v67, .agg #[Zi, I6 (1:Int), I6 (2:Int)], (.slice (some ⟨b93, 0, none⟩) 1 1)] z z z ?_
 refine (net_Net_Put_ref (f100.mono ro_rd) hst.to1 ht104).mono ?_
 rintro _ w105 ⟨I106, rfl, hI107, hst⟩
 refine ⟨_, z, ?_⟩
 replace hst := hst.of1
 replace f85 := f85.mono (ro_le hI107)
 replace f100 := f100.mono (ro_le hI107)
 replace hI0 := hI0.trans hI107
 refine wl_nil (tn (wp_seq (wrl (wv (v67) z z z (wv (.agg #[Zi, I6 (1:Int), I6 (2:Int)]) z z (x_loadN (cs := [Zi, I6 (1:Int), I6 (2:Int)]) z isAgg23 sizeOf23 (hst.bcs1 0 z)) ?_)))))
 obtain ⟨t108, ht109, hm⟩ := bind_some hm
 refine wc call9 [v67, .agg #[Zi, I6 (1:Int), I6 (2:Int)], I6 (3:Int)] z z z ?_
 refine (net_Net_Take_ref hst.to1 ht109).mono ?_
 rintro _ w110 ⟨I111, v113, rfl, hI112, f115, hst⟩
 refine ⟨_, z, ?_⟩
 replace hst := hst.of1
 replace f85 := f85.mono (ro_le hI112)
 replace f100 := f100.mono (ro_le hI112)
 replace hI0 := hI0.trans hI112
 refine wv (.tuple #[v113, .bool t108.2.1]) z z z (wv (v113) z z z (wv (.bool t108.2.1) z z z (wv (v113) z z z (wv (.bool t108.2.1) z z z (wl_nil (tn (wp_seq (wrl (wv (.bool t108.2.1) z z z (wv (.bool t108.2.1) z z z ?_))))))))))
 refine bsplit t108.2.1 (fun hc116 => ?_) (fun hc116 => ?_)
 {
 replace hm := bif_t hc116 hm
 refine wv (v113) ((wanted_eq z z z (cvb hc116)).trans z) z z (wv (.string (toStr t108.1)) ((wanted_eq z z z (cvb hc116)).trans z) z (x_tostr underlying24 underlying9 underlying5 z (Src.of_ro hst f115)) (wv (.bool (sEq (toStr t108.1) (ByteArray.mk #[98]))) ((wanted_eq z z z (cvb hc116)).trans z) z (by kernel_rfl) (wv (.bool (sEq (toStr t108.1) (ByteArray.mk #[98]))) z z (x_pick_t hc116 z z) (wv (.bool (sEq (toStr t108.1) (ByteArray.mk #[98]))) z z z ?_))))
 refine bsplit (sEq (toStr t108.1) (ByteArray.mk #[98])) (fun hc117 => ?_) (fun hc117 => ?_)
 {
 replace hm := bif_t hc117 hm
 refine wv (v67) ((wanted_eq z z z (cvb hc117)).trans z) z z (wv (.agg #[Zi, I6 (1:Int), I6 (2:Int)]) ((wanted_eq z z z (cvb hc117)).trans z) z (x_loadN (cs := [Zi, I6 (1:Int), I6 (2:Int)]) z isAgg23 sizeOf23 (hst.bcs1 0 z)) ?_)
 obtain ⟨t118, ht119, hm⟩ := bind_some hm
 refine wl_call ((wanted_eq z z z (cvb hc117)).trans z) z (x_call call8 z (vs := [v67, .agg #[Zi, I6 (1:Int), I6 (2:Int)]]) z) ?_
 refine (net_Net_Len_ref hst.to1 ht119).mono ?_
 rintro _ w120 ⟨rfl, hst⟩
 refine ⟨_, z, ?_⟩
 replace hst := hst.of1
 refine wv (.bool (t118 == (1:Int))) ((wanted_eq z z z (cvb hc117)).trans z) z z (wv (.bool (t118 == (1:Int))) z z (x_pick_t hc117 z z) (wv (.bool (t118 == (1:Int))) z z z (wl_nil (tn (wp_ret ?_)))))
 obtain rfl := some_inj hm
 refine post_ret (vs := [.bool (t118 == (1:Int))]) results5 (rvs_cons (rv_tmp z) rvs_nil) ?_
 exact ⟨_, z, hI0, hst.keep0⟩
}
 {
 replace hm := bif_f hc117 hm
 refine wo hc117 z z z z z z (wo hc117 z z z z z z (wo hc117 z z z z z z (wo hc117 z z z z z z (wv (.bool false) z z (x_pick_f hc117 z z) (wv (.bool false) z z z (wl_nil (tn (wp_ret ?_))))))))
 obtain rfl := some_inj hm
 refine post_ret (vs := [.bool false]) results5 (rvs_cons (rv_tmp z) rvs_nil) ?_
 exact ⟨_, z, hI0, hst.keep0⟩
}
}
 {
 replace hm := bif_f hc116 hm
 refine wo hc116 z z z z z z (wo hc116 z z z z z z (wo hc116 z z z z z z (wv (.bool false) z z (x_pick_f hc116 z z) (wv (.bool false) z z z (wz z z z z z z (wz z z z z z z (wz z z z z z z (wz z z z z z z (wv (.bool false) z z (x_pick_f z z z) (wv (.bool false) z z z (wl_nil (tn (wp_ret ?_)))))))))))))
 obtain rfl := some_inj hm
 refine post_ret (vs := [.bool false]) results5 (rvs_cons (rv_tmp z) rvs_nil) ?_
 exact ⟨_, z, hI0, hst.keep0⟩
}
}
}

end Go.Proofs.Ytbdbeenkamcglaa
