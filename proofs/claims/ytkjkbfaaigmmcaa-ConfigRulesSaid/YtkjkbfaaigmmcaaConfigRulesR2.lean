/- The Go functions refine their models, part 2. -/
import Derived.Test.YtkjkbfaaigmmcaaConfigRulesR1
set_option linter.unusedVariables false
set_option linter.unusedSimpArgs false
set_option maxRecDepth 100000
set_option maxHeartbeats 4000000
namespace Go.Proofs.Ytkjkbfaaigmmcaa
open Go Go.V
open _root_.Go.Proofs.Try IntKind
attribute [local irreducible] wpList Code.wp wpQuiet Calls bodyPost Oper.wp wpS Nx PendOK YieldsIn
theorem config_New_ref {w0 w : World} {I : HL} {R : SP} {a0 : api_Config} {r0_0 : Value} {r0_1 : Value} (f0_0 : Ro (tyInt .u64) I r0_0 a0.Up) (f0_1 : Ro tyF64 I r0_1 a0.Cuts) (hst : St w0 w I [] R) {r : (Option config_Plan × Int)} (hm : config_New a0 = some r) :
  Calls prog 11 #[.agg #[r0_0, I6 a0.Nodes, r0_1, I6 a0.Frame, I6 a0.Depth, I6 a0.Quota, I6 a0.Wide, I6 a0.Beat, I6 a0.Elect]] w fun e w' => ∃ (I' : HL) (q0 : Value), e = .returned (.tuple #[q0, I6 r.2]) ∧ I.le I' ∧ St w0 w' I' [objO at_config_Plan q0 r.1] R := by {
 unfold config_New at hm
 refine calls_start (args := [.agg #[r0_0, I6 a0.Nodes, r0_1, I6 a0.Frame, I6 a0.Depth, I6 a0.Quota, I6 a0.Wide, I6 a0.Beat, I6 a0.Elect]]) func11 z ntmps11 (Nat.le_of_ble_eq_true z) ?_
 have hI0 := HL.le.refl I
 refine wp_seq (wrl ?_)
 obtain ⟨b86, w87, ew88, eb89, hst⟩ := hst.box [r0_0, I6 a0.Nodes, r0_1, I6 a0.Frame, I6 a0.Depth, I6 a0.Quota, I6 a0.Wide, I6 a0.Beat, I6 a0.Elect] 28
 refine wl_run (v := Pt b86 0) (w' := w87) z z (x_al (by kernel_rfl) ew88 eb89) ?_
 refine wv (.pointer none) z z z (wv (.int .i64 (0:Int)) z z z (wl_nil (tn (wp_seq (wp_block ?_)))))
 obtain ⟨y102, hm, hx103⟩ := bind_some hm
 refine wp_cut (fun a w => ∃ (z99 : Bool) (σ100 : Nat → Value), (config_New_j0 a0) z99 = some r ∧ a = Fr 86 (upd (upd σ100 1 (Pt b86 0)) 6 (.bool z99)) ∧ St w0 w I [cells b86 [r0_0, I6 a0.Nodes, r0_1, I6 a0.Frame, I6 a0.Depth, I6 a0.Quota, I6 a0.Wide, I6 a0.Beat, I6 a0.Elect]] R) ?_ ?_
 {
 refine wp_seq (wrl (wv (Pt b86 1) z z (x_field z underlying28 z sizeOf3 z) (wv (.int .i64 a0.Nodes) z z (x_load z isAgg3 (hst.bc0 z)) (wv (.bool (decide (a0.Nodes < (1:Int)))) z z z (wv (.bool (decide (a0.Nodes < (1:Int)))) z z z ?_)))))
 refine bsplit (decide (a0.Nodes < (1:Int))) (fun hc91 => ?_) (fun hc91 => ?_)
 {
 replace hm := bif_t hc91 hm
 refine wo hc91 z z z z z z (wo hc91 z z z z z z (wo hc91 z z z z z z (wv (.bool true) z z (x_pick_t hc91 z z) (wv (.bool true) z z z (wl_nil (tn ?_))))))
 refine wp_ift z ?_
 refine wp_skip (tn ?_)
 replace hst := hst.keep1
 obtain rfl := some_inj hm
 exact ⟨true, _, hx103, (fu 1 (Pt b86 0) z (fu 6 (.bool true) z z)), hst⟩
}
 {
 replace hm := bif_f hc91 hm
 refine wv (Pt b86 1) ((wanted_eq z z z (cvb hc91)).trans z) z (x_field z underlying28 z sizeOf3 z) (wv (.int .i64 a0.Nodes) ((wanted_eq z z z (cvb hc91)).trans z) z (x_load z isAgg3 (hst.bc0 z)) (wv (.bool (decide (a0.Nodes > (7:Int)))) ((wanted_eq z z z (cvb hc91)).trans z) z z (wv (.bool (decide (a0.Nodes > (7:Int)))) z z (x_pick_f hc91 z z) (wv (.bool (decide (a0.Nodes > (7:Int)))) z z z (wl_nil (tn ?_))))))
 refine bsplit (decide (a0.Nodes > (7:Int))) (fun hc92 => ?_) (fun hc92 => ?_)
 {
 replace hm := bif_t hc92 hm
 refine wp_ift (cvb hc92) ?_
 refine wp_skip (tn ?_)
 replace hst := hst.keep1
 obtain rfl := some_inj hm
 exact ⟨(decide (a0.Nodes > (7:Int))), _, hx103, (fu 1 (Pt b86 0) z (fu 6 (.bool (decide (a0.Nodes > (7:Int)))) z z)), hst⟩
}
 {
 replace hm := bif_f hc92 hm
 refine wp_iff (cvb hc92) ?_
 refine wp_seq (wrl (wv (Pt b86 2) z z (x_field z underlying28 z sizeOf26 z) (wv (r0_1) z z (x_load z isAgg26 (hst.bc0 z)) (wv (.int .i64 ((a0.Cuts).length : Int)) z z (x_len z underlying26 (ro_sliceV f0_1)) (wv (.bool (decide (((a0.Cuts).length : Int) ≥ (8:Int)))) z z z (wv (.bool (decide (((a0.Cuts).length : Int) ≥ (8:Int)))) z z z (wl_nil (tn ?_))))))))
 refine bsplit (decide (((a0.Cuts).length : Int) ≥ (8:Int))) (fun hc93 => ?_) (fun hc93 => ?_)
 {
 replace hm := bif_t hc93 hm
 refine wp_ift (cvb hc93) ?_
 refine wp_skip (tn ?_)
 replace hst := hst.keep1
 obtain rfl := some_inj hm
 exact ⟨(decide (((a0.Cuts).length : Int) ≥ (8:Int))), _, hx103, (fu 1 (Pt b86 0) z (fu 6 (.bool (decide (((a0.Cuts).length : Int) ≥ (8:Int)))) z z)), hst⟩
}
 {
 replace hm := bif_f hc93 hm
 refine wp_iff (cvb hc93) ?_
 refine wrl (wv (Pt b86 2) z z (x_field z underlying28 z sizeOf26 z) (wv (r0_1) z z (x_load z isAgg26 (hst.bc0 z)) ?_))
 obtain ⟨t94, ht95, hm⟩ := bind_some hm
 refine wc call33 [r0_1] z z z ?_
 refine (number_Rising_ref (f0_1.mono ro_rd) hst.to0 ht95).mono ?_
 rintro _ w96 ⟨rfl, hst⟩
 refine ⟨_, z, ?_⟩
 replace hst := hst.of0
 refine wv (.bool (!t94)) z z z (wv (.bool (!t94)) z z z (wl_nil (tn ?_)))
 replace hst := hst.keep1
 obtain rfl := some_inj hm
 exact ⟨(!t94), _, hx103, (fu 1 (Pt b86 0) z (fu 6 (.bool (!t94)) z z)), hst⟩
}
}
}
}
 {
 clear hst
 rintro _ w104 ⟨z99, σ100, hm, rfl, hst⟩
 dsimp only [config_New_j0] at hm
 refine bsplit z99 (fun hc105 => ?_) (fun hc105 => ?_)
 {
 replace hm := bif_t hc105 hm
 refine wp_ift (cvb hc105) ?_
 refine wp_seq (wrl (wv (.pointer none) z z z (wv (.int .i64 (1:Int)) z z z (wl_nil (tn (wp_ret (blk_r (then_r ?_))))))))
 replace hst := hst.objO_nil at_config_Plan
 obtain rfl := some_inj hm
 refine post_ret (vs := [.pointer none, I6 (1:Int)]) results11 (rvs_cons (rv_tmp z) (rvs_cons (rv_tmp z) rvs_nil)) ?_
 exact ⟨_, .pointer none, z, hI0, hst.keep1⟩
}
 {
 replace hm := bif_f hc105 hm
 refine wp_iff (cvb hc105) ?_
 obtain ⟨y113, hm, hx114⟩ := bind_some hm
 refine wp_cut (fun a w => ∃ (z110 : Bool) (σ111 : Nat → Value), (config_New_j1 a0) z110 = some r ∧ a = Fr 86 (upd (upd σ111 1 (Pt b86 0)) 23 (.bool z110)) ∧ St w0 w I [cells b86 [r0_0, I6 a0.Nodes, r0_1, I6 a0.Frame, I6 a0.Depth, I6 a0.Quota, I6 a0.Wide, I6 a0.Beat, I6 a0.Elect]] R) ?_ ?_
 {
 refine wp_seq (wrl (wv (Pt b86 3) z z (x_field z underlying28 z sizeOf3 z) (wv (.int .i64 a0.Frame) z z (x_load z isAgg3 (hst.bc0 z)) (wv (.bool (decide (a0.Frame < (64:Int)))) z z z (wv (.bool (decide (a0.Frame < (64:Int)))) z z z ?_)))))
 refine bsplit (decide (a0.Frame < (64:Int))) (fun hc107 => ?_) (fun hc107 => ?_)
 {
 replace hm := bif_t hc107 hm
 refine wo hc107 z z z z z z (wo hc107 z z z z z z (wo hc107 z z z z z z (wv (.bool true) z z (x_pick_t hc107 z z) (wv (.bool true) z z z (wl_nil (tn ?_))))))
 refine wp_ift z ?_
 refine wp_skip (tn ?_)
 replace hst := hst.keep1
 obtain rfl := some_inj hm
 exact ⟨true, _, hx114, (fu 1 (Pt b86 0) z (fu 23 (.bool true) z z)), hst⟩
}
 {
 replace hm := bif_f hc107 hm
 refine wv (Pt b86 3) ((wanted_eq z z z (cvb hc107)).trans z) z (x_field z underlying28 z sizeOf3 z) (wv (.int .i64 a0.Frame) ((wanted_eq z z z (cvb hc107)).trans z) z (x_load z isAgg3 (hst.bc0 z)) (wv (.bool (decide (a0.Frame > (4096:Int)))) ((wanted_eq z z z (cvb hc107)).trans z) z z (wv (.bool (decide (a0.Frame > (4096:Int)))) z z (x_pick_f hc107 z z) (wv (.bool (decide (a0.Frame > (4096:Int)))) z z z (wl_nil (tn ?_))))))
 refine bsplit (decide (a0.Frame > (4096:Int))) (fun hc108 => ?_) (fun hc108 => ?_)
 {
 replace hm := bif_t hc108 hm
 refine wp_ift (cvb hc108) ?_
 refine wp_skip (tn ?_)
 replace hst := hst.keep1
 obtain rfl := some_inj hm
 exact ⟨(decide (a0.Frame > (4096:Int))), _, hx114, (fu 1 (Pt b86 0) z (fu 23 (.bool (decide (a0.Frame > (4096:Int)))) z z)), hst⟩
}
 {
 replace hm := bif_f hc108 hm
 refine wp_iff (cvb hc108) ?_
 refine wrl (wv (Pt b86 4) z z (x_field z underlying28 z sizeOf3 z) (wv (.int .i64 a0.Depth) z z (x_load z isAgg3 (hst.bc0 z)) (wv (.bool (decide (a0.Depth < (1:Int)))) z z z (wv (.bool (decide (a0.Depth < (1:Int)))) z z z ?_))))
 refine bsplit (decide (a0.Depth < (1:Int))) (fun hc109 => ?_) (fun hc109 => ?_)
 {
 replace hm := bif_t hc109 hm
 refine wo hc109 z z z z z z (wo hc109 z z z z z z (wo hc109 z z z z z z (wv (.bool true) z z (x_pick_t hc109 z z) (wv (.bool true) z z z (wl_nil (tn ?_))))))
 replace hst := hst.keep1
 obtain rfl := some_inj hm
 exact ⟨true, _, hx114, (fu 1 (Pt b86 0) z (fu 23 (.bool true) z z)), hst⟩
}
 {
 replace hm := bif_f hc109 hm
 refine wv (Pt b86 4) ((wanted_eq z z z (cvb hc109)).trans z) z (x_field z underlying28 z sizeOf3 z) (wv (.int .i64 a0.Depth) ((wanted_eq z z z (cvb hc109)).trans z) z (x_load z isAgg3 (hst.bc0 z)) (wv (.bool (decide (a0.Depth > (65536:Int)))) ((wanted_eq z z z (cvb hc109)).trans z) z z (wv (.bool (decide (a0.Depth > (65536:Int)))) z z (x_pick_f hc109 z z) (wv (.bool (decide (a0.Depth > (65536:Int)))) z z z (wl_nil (tn ?_))))))
 replace hst := hst.keep1
 obtain rfl := some_inj hm
 exact ⟨(decide (a0.Depth > (65536:Int))), _, hx114, (fu 1 (Pt b86 0) z (fu 23 (.bool (decide (a0.Depth > (65536:Int)))) z z)), hst⟩
}
}
}
}
 {
 clear hst
 rintro _ w115 ⟨z110, σ111, hm, rfl, hst⟩
 dsimp only [config_New_j1] at hm
 refine bsplit z110 (fun hc116 => ?_) (fun hc116 => ?_)
 {
 replace hm := bif_t hc116 hm
 refine wp_ift (cvb hc116) ?_
 refine wp_seq (wrl (wv (.pointer none) z z z (wv (.int .i64 (1:Int)) z z z (wl_nil (tn (wp_ret (blk_r (then_r ?_))))))))
 replace hst := hst.objO_nil at_config_Plan
 obtain rfl := some_inj hm
 refine post_ret (vs := [.pointer none, I6 (1:Int)]) results11 (rvs_cons (rv_tmp z) (rvs_cons (rv_tmp z) rvs_nil)) ?_
 exact ⟨_, .pointer none, z, hI0, hst.keep1⟩
}
 {
 replace hm := bif_f hc116 hm
 refine wp_iff (cvb hc116) ?_
 obtain ⟨y124, hm, hx125⟩ := bind_some hm
 refine wp_cut (fun a w => ∃ (z121 : Bool) (σ122 : Nat → Value), (config_New_j2 a0) z121 = some r ∧ a = Fr 86 (upd (upd σ122 1 (Pt b86 0)) 40 (.bool z121)) ∧ St w0 w I [cells b86 [r0_0, I6 a0.Nodes, r0_1, I6 a0.Frame, I6 a0.Depth, I6 a0.Quota, I6 a0.Wide, I6 a0.Beat, I6 a0.Elect]] R) ?_ ?_
 {
 refine wp_seq (wrl (wv (Pt b86 5) z z (x_field z underlying28 z sizeOf3 z) (wv (.int .i64 a0.Quota) z z (x_load z isAgg3 (hst.bc0 z)) (wv (.bool (decide (a0.Quota < (1:Int)))) z z z (wv (.bool (decide (a0.Quota < (1:Int)))) z z z ?_)))))
 refine bsplit (decide (a0.Quota < (1:Int))) (fun hc118 => ?_) (fun hc118 => ?_)
 {
 replace hm := bif_t hc118 hm
 refine wo hc118 z z z z z z (wo hc118 z z z z z z (wo hc118 z z z z z z (wv (.bool true) z z (x_pick_t hc118 z z) (wv (.bool true) z z z (wl_nil (tn ?_))))))
 refine wp_ift z ?_
 refine wp_skip (tn ?_)
 replace hst := hst.keep1
 obtain rfl := some_inj hm
 exact ⟨true, _, hx125, (fu 1 (Pt b86 0) z (fu 40 (.bool true) z z)), hst⟩
}
 {
 replace hm := bif_f hc118 hm
 refine wv (Pt b86 5) ((wanted_eq z z z (cvb hc118)).trans z) z (x_field z underlying28 z sizeOf3 z) (wv (.int .i64 a0.Quota) ((wanted_eq z z z (cvb hc118)).trans z) z (x_load z isAgg3 (hst.bc0 z)) (wv (.bool (decide (a0.Quota > (268435456:Int)))) ((wanted_eq z z z (cvb hc118)).trans z) z z (wv (.bool (decide (a0.Quota > (268435456:Int)))) z z (x_pick_f hc118 z z) (wv (.bool (decide (a0.Quota > (268435456:Int)))) z z z (wl_nil (tn ?_))))))
 refine bsplit (decide (a0.Quota > (268435456:Int))) (fun hc119 => ?_) (fun hc119 => ?_)
 {
 replace hm := bif_t hc119 hm
 refine wp_ift (cvb hc119) ?_
 refine wp_skip (tn ?_)
 replace hst := hst.keep1
 obtain rfl := some_inj hm
 exact ⟨(decide (a0.Quota > (268435456:Int))), _, hx125, (fu 1 (Pt b86 0) z (fu 40 (.bool (decide (a0.Quota > (268435456:Int)))) z z)), hst⟩
}
 {
 replace hm := bif_f hc119 hm
 refine wp_iff (cvb hc119) ?_
 refine wrl (wv (Pt b86 6) z z (x_field z underlying28 z sizeOf3 z) (wv (.int .i64 a0.Wide) z z (x_load z isAgg3 (hst.bc0 z)) (wv (.bool (decide (a0.Wide < (0:Int)))) z z z (wv (.bool (decide (a0.Wide < (0:Int)))) z z z ?_))))
 refine bsplit (decide (a0.Wide < (0:Int))) (fun hc120 => ?_) (fun hc120 => ?_)
 {
 replace hm := bif_t hc120 hm
 refine wo hc120 z z z z z z (wo hc120 z z z z z z (wo hc120 z z z z z z (wv (.bool true) z z (x_pick_t hc120 z z) (wv (.bool true) z z z (wl_nil (tn ?_))))))
 replace hst := hst.keep1
 obtain rfl := some_inj hm
 exact ⟨true, _, hx125, (fu 1 (Pt b86 0) z (fu 40 (.bool true) z z)), hst⟩
}
 {
 replace hm := bif_f hc120 hm
 refine wv (Pt b86 6) ((wanted_eq z z z (cvb hc120)).trans z) z (x_field z underlying28 z sizeOf3 z) (wv (.int .i64 a0.Wide) ((wanted_eq z z z (cvb hc120)).trans z) z (x_load z isAgg3 (hst.bc0 z)) (wv (.bool (decide (a0.Wide > (256:Int)))) ((wanted_eq z z z (cvb hc120)).trans z) z z (wv (.bool (decide (a0.Wide > (256:Int)))) z z (x_pick_f hc120 z z) (wv (.bool (decide (a0.Wide > (256:Int)))) z z z (wl_nil (tn ?_))))))
 replace hst := hst.keep1
 obtain rfl := some_inj hm
 exact ⟨(decide (a0.Wide > (256:Int))), _, hx125, (fu 1 (Pt b86 0) z (fu 40 (.bool (decide (a0.Wide > (256:Int)))) z z)), hst⟩
}
}
}
}
 {
 clear hst
 rintro _ w126 ⟨z121, σ122, hm, rfl, hst⟩
 dsimp only [config_New_j2] at hm
 refine bsplit z121 (fun hc127 => ?_) (fun hc127 => ?_)
 {
 replace hm := bif_t hc127 hm
 refine wp_ift (cvb hc127) ?_
 refine wp_seq (wrl (wv (.pointer none) z z z (wv (.int .i64 (1:Int)) z z z (wl_nil (tn (wp_ret (blk_r (then_r ?_))))))))
 replace hst := hst.objO_nil at_config_Plan
 obtain rfl := some_inj hm
 refine post_ret (vs := [.pointer none, I6 (1:Int)]) results11 (rvs_cons (rv_tmp z) (rvs_cons (rv_tmp z) rvs_nil)) ?_
 exact ⟨_, .pointer none, z, hI0, hst.keep1⟩
}
 {
 replace hm := bif_f hc127 hm
 refine wp_iff (cvb hc127) ?_
 refine wp_seq (wrl (wv (Pt b86 7) z z (x_field z underlying28 z sizeOf3 z) (wv (.int .i64 a0.Beat) z z (x_load z isAgg3 (hst.bc0 z)) (wv (.bool (decide (a0.Beat < (1:Int)))) z z z (wv (.bool (decide (a0.Beat < (1:Int)))) z z z ?_)))))
 refine bsplit (decide (a0.Beat < (1:Int))) (fun hc129 => ?_) (fun hc129 => ?_)
 {
 replace hm := bif_t hc129 hm
 refine wo hc129 z z z z z z (wo hc129 z z z z z z (wo hc129 z z z z z z (wo hc129 z z z z z z (wo hc129 z z z z z z (wv (.bool true) z z (x_pick_t hc129 z z) (wv (.bool true) z z z (wz z z z z z z (wz z z z z z z (wz z z z z z z (wv (.bool true) z z (x_pick_t z z z) (wv (.bool true) z z z (wl_nil (tn ?_)))))))))))))
 refine wp_ift z ?_
 refine wp_seq (wrl (wv (.pointer none) z z z (wv (.int .i64 (1:Int)) z z z (wl_nil (tn (wp_ret (blk_r (then_r ?_))))))))
 replace hst := hst.objO_nil at_config_Plan
 obtain rfl := some_inj hm
 refine post_ret (vs := [.pointer none, I6 (1:Int)]) results11 (rvs_cons (rv_tmp z) (rvs_cons (rv_tmp z) rvs_nil)) ?_
 exact ⟨_, .pointer none, z, hI0, hst.keep1⟩
}
 {
 replace hm := bif_f hc129 hm
 refine wv (Pt b86 8) ((wanted_eq z z z (cvb hc129)).trans z) z (x_field z underlying28 z sizeOf3 z) (wv (.int .i64 a0.Elect) ((wanted_eq z z z (cvb hc129)).trans z) z (x_load z isAgg3 (hst.bc0 z)) (wv (Pt b86 7) ((wanted_eq z z z (cvb hc129)).trans z) z (x_field z underlying28 z sizeOf3 z) (wv (.int .i64 a0.Beat) ((wanted_eq z z z (cvb hc129)).trans z) z (x_load z isAgg3 (hst.bc0 z)) (wv (.bool (decide (a0.Elect ≤ a0.Beat))) ((wanted_eq z z z (cvb hc129)).trans z) z z (wv (.bool (decide (a0.Elect ≤ a0.Beat))) z z (x_pick_f hc129 z z) (wv (.bool (decide (a0.Elect ≤ a0.Beat))) z z z ?_))))))
 refine bsplit (decide (a0.Elect ≤ a0.Beat)) (fun hc131 => ?_) (fun hc131 => ?_)
 {
 replace hm := bif_t hc131 hm
 refine wo hc131 z z z z z z (wo hc131 z z z z z z (wo hc131 z z z z z z (wv (.bool true) z z (x_pick_t hc131 z z) (wv (.bool true) z z z (wl_nil (tn ?_))))))
 refine wp_ift z ?_
 refine wp_seq (wrl (wv (.pointer none) z z z (wv (.int .i64 (1:Int)) z z z (wl_nil (tn (wp_ret (blk_r (then_r ?_))))))))
 replace hst := hst.objO_nil at_config_Plan
 obtain rfl := some_inj hm
 refine post_ret (vs := [.pointer none, I6 (1:Int)]) results11 (rvs_cons (rv_tmp z) (rvs_cons (rv_tmp z) rvs_nil)) ?_
 exact ⟨_, .pointer none, z, hI0, hst.keep1⟩
}
 {
 replace hm := bif_f hc131 hm
 refine wv (Pt b86 8) ((wanted_eq z z z (cvb hc131)).trans z) z (x_field z underlying28 z sizeOf3 z) (wv (.int .i64 a0.Elect) ((wanted_eq z z z (cvb hc131)).trans z) z (x_load z isAgg3 (hst.bc0 z)) (wv (.bool (decide (a0.Elect > (1000:Int)))) ((wanted_eq z z z (cvb hc131)).trans z) z z (wv (.bool (decide (a0.Elect > (1000:Int)))) z z (x_pick_f hc131 z z) (wv (.bool (decide (a0.Elect > (1000:Int)))) z z z (wl_nil (tn ?_))))))
 refine bsplit (decide (a0.Elect > (1000:Int))) (fun hc133 => ?_) (fun hc133 => ?_)
 {
 replace hm := bif_t hc133 hm
 refine wp_ift (cvb hc133) ?_
 refine wp_seq (wrl (wv (.pointer none) z z z (wv (.int .i64 (1:Int)) z z z (wl_nil (tn (wp_ret (blk_r (then_r ?_))))))))
 replace hst := hst.objO_nil at_config_Plan
 obtain rfl := some_inj hm
 refine post_ret (vs := [.pointer none, I6 (1:Int)]) results11 (rvs_cons (rv_tmp z) (rvs_cons (rv_tmp z) rvs_nil)) ?_
 exact ⟨_, .pointer none, z, hI0, hst.keep1⟩
}
 {
 replace hm := bif_f hc133 hm
 refine wp_iff (cvb hc133) ?_
 refine wp_skip (blk_n (tn (wp_seq (wrl ?_))))
 refine wv (Pt b86 0) z z (x_field z underlying28 z sizeOf25 z) (wv (r0_0) z z (x_load z isAgg25 (hst.bc0 z)) ?_)
 obtain ⟨t135, ht136, hm⟩ := bind_some hm
 refine wc call34 [r0_0] z z z ?_
 refine (label_New_ref (f0_0.mono ro_rd) hst.to0 ht136).mono ?_
 rintro _ w137 ⟨I138, v140, rfl, hI139, hst⟩
 refine ⟨_, z, ?_⟩
 replace hst := hst.of1
 replace f0_0 := f0_0.mono (ro_le hI139)
 replace f0_1 := f0_1.mono (ro_le hI139)
 replace hI0 := hI0.trans hI139
 refine wv (.tuple #[v140, I6 t135.2]) z z z (wv (v140) z z z (wv (.int .i64 t135.2) z z z (wv (v140) z z z (wv (.int .i64 t135.2) z z z (wl_nil (tn (wp_seq (wp_seq (wrl (wv (.int .i64 t135.2) z z z (wv (.bool (t135.2 != (0:Int))) z z z (wl_nil (tn ?_)))))))))))))
 refine bsplit (t135.2 != (0:Int)) (fun hc142 => ?_) (fun hc142 => ?_)
 {
 replace hm := bif_t hc142 hm
 refine wp_ift (cvb hc142) ?_
 refine wp_seq (wrl (wv (.int .i64 t135.2) z z z (wv (.pointer none) z z z (wv (.int .i64 t135.2) z z z (wl_nil (tn (wp_ret (then_r ?_))))))))
 replace hst := hst.objO_nil at_config_Plan
 obtain rfl := some_inj hm
 refine post_ret (vs := [.pointer none, I6 t135.2]) results11 (rvs_cons (rv_tmp z) (rvs_cons (rv_tmp z) rvs_nil)) ?_
 exact ⟨_, .pointer none, z, hI0, hst.keep1⟩
}
 {
 replace hm := bif_f hc142 hm
 refine wp_iff (cvb hc142) ?_
 refine wp_skip (tn (wp_seq (wrl ?_)))
 refine wv (.agg #[r0_0, I6 a0.Nodes, r0_1, I6 a0.Frame, I6 a0.Depth, I6 a0.Quota, I6 a0.Wide, I6 a0.Beat, I6 a0.Elect]) z z (x_loadN (cs := [r0_0, I6 a0.Nodes, r0_1, I6 a0.Frame, I6 a0.Depth, I6 a0.Quota, I6 a0.Wide, I6 a0.Beat, I6 a0.Elect]) z isAgg28 sizeOf28 (hst.bcs1 0 z)) (wv (v140) z z z (wv (.agg #[r0_0, I6 a0.Nodes, r0_1, I6 a0.Frame, I6 a0.Depth, I6 a0.Quota, I6 a0.Wide, I6 a0.Beat, I6 a0.Elect, v140]) z z (by obtain ⟨_, ha_, _⟩ := at_label_Lattice_isnil hst; rw [ha_]; obtain ⟨_, _, hv_, _⟩ := (ro_sliceV f0_1); rw [hv_]; obtain ⟨_, _, hv_, _⟩ := (ro_sliceV f0_0); rw [hv_]; kernel_rfl) ?_))
 obtain ⟨b146, w147, ew148, eb149, hst⟩ := hst.box [r0_0, I6 a0.Nodes, r0_1, I6 a0.Frame, I6 a0.Depth, I6 a0.Quota, I6 a0.Wide, I6 a0.Beat, I6 a0.Elect, v140] 64
 refine wl_run (v := Pt b146 0) (w' := w147) z z (x_al (by kernel_rfl) ew148 eb149) ?_
 refine wv (Pt b146 0) z z z (wv (.int .i64 (0:Int)) z z z (wl_nil (tn (wp_ret ?_))))
 replace hst := hst.pull1.pull1
 replace hst := at_config_Plan_close (pv := Pt b146 0) (x := ({ C := a0, L := t135.1 } : config_Plan)) hst ⟨z, f0_0, f0_1⟩
 replace hst := objO_some hst
 obtain rfl := some_inj hm
 refine post_ret (vs := [Pt b146 0, Zi]) results11 (rvs_cons (rv_tmp z) (rvs_cons (rv_tmp z) rvs_nil)) ?_
 exact ⟨_, Pt b146 0, z, hI0, hst.keep1⟩
}
}
}
}
}
}
}
}
}
}
}

theorem math_Signbit_ref {w0 w : World} {I : HL} {R : SP} {a0 : Nat}  (hst : St w0 w I [] R) {r : (Bool)} (hm : math_Signbit a0 = some r) :
  Calls prog 37 #[F6 a0] w fun e w' => e = .returned (.bool r) ∧ St w0 w' I [] R := by {
 unfold math_Signbit at hm
 refine calls_start (args := [F6 a0]) func37 z ntmps37 (Nat.le_of_ble_eq_true z) ?_
 refine wp_seq (wrl (wv (.bool false) z z z (wl_nil (tn (wp_seq (wrl (wv (.float .f64 a0) z z z (wv (.int .u64 (Int.ofNat a0)) z z (by kernel_rfl) (wv (.int .i64 (i64.wrap (Int.ofNat a0))) z z (by kernel_rfl) (wv (.bool (decide ((i64.wrap (Int.ofNat a0)) < (0:Int)))) z z z (wv (.bool (decide ((i64.wrap (Int.ofNat a0)) < (0:Int)))) z z z (wl_nil (tn (wp_ret ?_))))))))))))))
 obtain rfl := some_inj hm
 refine post_ret (vs := [.bool (decide ((i64.wrap (Int.ofNat a0)) < (0:Int)))]) results37 (rvs_cons (rv_tmp z) rvs_nil) ?_
 exact ⟨z, hst.keep0⟩
}

theorem ref01_Ahead_ref {w0 w : World} {I : HL} {R : SP} {a0 : Nat} {a1 : Nat}  (hst : St w0 w I [] R) {r : (Bool)} (hm : ref01_Ahead a0 a1 = some r) :
  Calls prog 14 #[F6 a0, F6 a1] w fun e w' => e = .returned (.bool r) ∧ St w0 w' I [] R := by {
 unfold ref01_Ahead at hm
 refine calls_start (args := [F6 a0, F6 a1]) func14 z ntmps14 (Nat.le_of_ble_eq_true z) ?_
 refine wp_seq (wrl (wv (.bool false) z z z (wl_nil (tn (wp_seq (wp_seq (wrl (wv (.float .f64 a0) z z z (wv (.float .f64 a0) z z z (wv (.bool (fNe a0 a0)) z z z (wl_nil (tn ?_))))))))))))
 refine bsplit (fNe a0 a0) (fun hc62 => ?_) (fun hc62 => ?_)
 {
 replace hm := bif_t hc62 hm
 refine wp_ift (cvb hc62) ?_
 refine wp_seq (wrl (wv (.bool false) z z z (wl_nil (tn (wp_ret (then_r ?_))))))
 obtain rfl := some_inj hm
 refine post_ret (vs := [.bool false]) results14 (rvs_cons (rv_tmp z) rvs_nil) ?_
 exact ⟨z, hst.keep0⟩
}
 {
 replace hm := bif_f hc62 hm
 refine wp_iff (cvb hc62) ?_
 refine wp_skip (tn (wp_seq (wp_seq (wrl ?_))))
 refine wv (.float .f64 a1) z z z (wv (.float .f64 a1) z z z (wv (.bool (fNe a1 a1)) z z z (wl_nil (tn ?_))))
 refine bsplit (fNe a1 a1) (fun hc63 => ?_) (fun hc63 => ?_)
 {
 replace hm := bif_t hc63 hm
 refine wp_ift (cvb hc63) ?_
 refine wp_seq (wrl (wv (.bool true) z z z (wl_nil (tn (wp_ret (then_r ?_))))))
 obtain rfl := some_inj hm
 refine post_ret (vs := [.bool true]) results14 (rvs_cons (rv_tmp z) rvs_nil) ?_
 exact ⟨z, hst.keep0⟩
}
 {
 replace hm := bif_f hc63 hm
 refine wp_iff (cvb hc63) ?_
 refine wp_skip (tn ?_)
 obtain ⟨y79, hm, hx80⟩ := joinO_some hm
 refine wp_cut (fun a w => ∃ (σ77 : Nat → Value), (ref01_Ahead_j0 a0 a1) () = some r ∧ a = Fr 27 (upd (upd σ77 0 (.float .f64 a0)) 1 (.float .f64 a1)) ∧ St w0 w I [] R) ?_ ?_
 {
 refine wp_seq (wrl (wv (.float .f64 a0) z z z (wv (.bool (fEq a0 (0:Nat))) z z z (wv (.bool (fEq a0 (0:Nat))) z z z ?_))))
 refine bsplit (fEq a0 (0:Nat)) (fun hc64 => ?_) (fun hc64 => ?_)
 {
 replace hm := bif_t hc64 hm
 refine wv (.float .f64 a1) ((wanted_eq z z z (cvb hc64)).trans z) z z (wv (.bool (fEq a1 (0:Nat))) ((wanted_eq z z z (cvb hc64)).trans z) z z (wv (.bool (fEq a1 (0:Nat))) z z (x_pick_t hc64 z z) (wl_nil (tn ?_))))
 refine bsplit (fEq a1 (0:Nat)) (fun hc65 => ?_) (fun hc65 => ?_)
 {
 replace hm := bif_t hc65 hm
 refine wp_ift (cvb hc65) ?_
 refine wp_seq (wrl (wv (.float .f64 a0) z z z ?_))
 obtain ⟨t66, ht67, hm⟩ := bind_some hm
 refine wc call37 [F6 a0] z z z ?_
 refine (math_Signbit_ref hst.to0 ht67).mono ?_
 rintro _ w68 ⟨rfl, hst⟩
 refine ⟨_, z, ?_⟩
 replace hst := hst.of0
 refine wv (.bool t66) z z z ?_
 refine bsplit t66 (fun hc71 => ?_) (fun hc71 => ?_)
 {
 replace hm := bif_t hc71 hm
 refine wv (.float .f64 a1) ((wanted_eq z z z (cvb hc71)).trans z) z z ?_
 obtain ⟨t72, ht73, hm⟩ := bind_some hm
 refine wl_call ((wanted_eq z z z (cvb hc71)).trans z) z (x_call call37 z (vs := [F6 a1]) z) ?_
 refine (math_Signbit_ref hst.to0 ht73).mono ?_
 rintro _ w74 ⟨rfl, hst⟩
 refine ⟨_, z, ?_⟩
 replace hst := hst.of0
 refine wv (.bool (!t72)) ((wanted_eq z z z (cvb hc71)).trans z) z z (wv (.bool (!t72)) z z (x_pick_t hc71 z z) (wv (.bool (!t72)) z z z (wl_nil (tn (wp_ret (then_r ?_))))))
 replace hm := inr_up hm hx80
 obtain rfl := some_inj hm
 refine post_ret (vs := [.bool (!t72)]) results14 (rvs_cons (rv_tmp z) rvs_nil) ?_
 exact ⟨z, hst.keep0⟩
}
 {
 replace hm := bif_f hc71 hm
 refine wo hc71 z z z z z z (wo hc71 z z z z z z (wo hc71 z z z z z z (wv (.bool false) z z (x_pick_f hc71 z z) (wv (.bool false) z z z (wl_nil (tn (wp_ret (then_r ?_))))))))
 replace hm := inr_up hm hx80
 obtain rfl := some_inj hm
 refine post_ret (vs := [.bool false]) results14 (rvs_cons (rv_tmp z) rvs_nil) ?_
 exact ⟨z, hst.keep0⟩
}
}
 {
 replace hm := bif_f hc65 hm
 refine wp_iff (cvb hc65) ?_
 refine wp_skip (tn ?_)
 replace hst := hst.keep0
 obtain rfl := some_inj hm
 exact ⟨_, hx80, (fu 0 (.float .f64 a0) z (fu 1 (.float .f64 a1) z z)), hst⟩
}
}
 {
 replace hm := bif_f hc64 hm
 refine wo hc64 z z z z z z (wo hc64 z z z z z z (wv (.bool false) z z (x_pick_f hc64 z z) (wl_nil (tn ?_))))
 refine wp_iff z ?_
 refine wp_skip (tn ?_)
 replace hst := hst.keep0
 obtain rfl := some_inj hm
 exact ⟨_, hx80, (fu 0 (.float .f64 a0) z (fu 1 (.float .f64 a1) z z)), hst⟩
}
}
 {
 clear hst
 rintro _ w81 ⟨σ77, hm, rfl, hst⟩
 dsimp only [ref01_Ahead_j0] at hm
 refine wp_seq (wrl (wv (.float .f64 a0) z z z (wv (.float .f64 a1) z z z (wv (.bool (fLt a0 a1)) z z z (wv (.bool (fLt a0 a1)) z z z (wl_nil (tn (wp_ret ?_))))))))
 obtain rfl := some_inj hm
 refine post_ret (vs := [.bool (fLt a0 a1)]) results14 (rvs_cons (rv_tmp z) rvs_nil) ?_
 exact ⟨z, hst.keep0⟩
}
}
}
}

theorem label_Lattice_Len_ref {w0 w : World} {I : HL} {R : SP} {a0 : (Option label_Lattice)} {p0 : Value}  (hst : St w0 w I [objO at_label_Lattice p0 a0] R) {r : (Int)} (hm : label_Lattice_Len a0 = some r) :
  Calls prog 40 #[p0] w fun e w' => e = .returned (.int .i64 r) ∧ St w0 w' I [objO at_label_Lattice p0 a0] R := by {
 rcases a0 with _ | o0
 {
 obtain ⟨rfl, hst'⟩ := objO_none hst
 clear hst
 have hst := hst'
 clear hst'
 dsimp only [label_Lattice_Len] at hm
 refine calls_start (args := [.pointer none]) func40 z ntmps40 (Nat.le_of_ble_eq_true z) ?_
 refine wp_seq (wrl (wv (.int .i64 (0:Int)) z z z (wl_nil (tn (wp_seq (wp_seq (wrl (wv (.pointer none) z z z (wv (.bool true) z z (by kernel_rfl) (wl_nil (tn ?_)))))))))))
 refine wp_ift z ?_
 refine wp_seq (wrl (wv (.int .i64 (0:Int)) z z z (wl_nil (tn (wp_ret (then_r ?_))))))
 replace hst := hst.objO_nil at_label_Lattice
 obtain rfl := some_inj hm
 refine post_ret (vs := [Zi]) results40 (rvs_cons (rv_tmp z) rvs_nil) ?_
 exact ⟨z, hst.keep1⟩
}
 {
 replace hst := objO_get hst
 dsimp only [label_Lattice_Len] at hm
 refine calls_start (args := [p0]) func40 z ntmps40 (Nat.le_of_ble_eq_true z) ?_
 refine wp_seq (wrl (wv (.int .i64 (0:Int)) z z z (wl_nil (tn (wp_seq (wp_seq (wrl (wv (p0) z z z ?_))))))))
 obtain ⟨b120, v121, v123, v125, v127, v129, v131, rfl, hst'⟩ := at_label_Lattice_open hst
 clear hst
 have hst := hst'
 clear hst'
 refine wv (.bool false) z z (by kernel_rfl) (wl_nil (tn ?_))
 refine wp_iff z ?_
 refine wp_skip (tn (wp_seq (wrl ?_)))
 refine wv (Pt b120 0) z z z (wv (Pt b120 0) z z z (wv (Pt b120 0) z z (x_field z underlying73 z sizeOf25 z) (wv (v121) z z (x_load z isAgg25 (hst.bc0 z)) (wv (.int .i64 ((o0.up).length : Int)) z z (x_len z underlying25 hst.sv1) (wv (.int .i64 ((o0.up).length : Int)) z z z (wl_nil (tn (wp_ret ?_))))))))
 replace hst := hst.pull6.pull6.pull6.pull6.pull6.pull6.pull6
 replace hst := at_label_Lattice_close (pv := Pt b120 0) (x := o0) hst z
 replace hst := objO_some hst
 obtain rfl := some_inj hm
 refine post_ret (vs := [I6 ((o0.up).length : Int)]) results40 (rvs_cons (rv_tmp z) rvs_nil) ?_
 exact ⟨z, hst.keep1⟩
}
}

theorem config_Plan_L0_ref {w0 w : World} {I : HL} {R : SP} {a0 : (Option config_Plan)} {p0 : Value}  (hst : St w0 w I [objO at_config_Plan p0 a0] R) {r : (Int)} (hm : config_Plan_L0 a0 = some r) :
  Calls prog 20 #[p0] w fun e w' => e = .returned (.int .i64 r) ∧ St w0 w' I [objO at_config_Plan p0 a0] R := by {
 rcases a0 with _ | o0
 {
 obtain ⟨rfl, hst'⟩ := objO_none hst
 clear hst
 have hst := hst'
 clear hst'
 dsimp only [config_Plan_L0] at hm
 refine calls_start (args := [.pointer none]) func20 z ntmps20 (Nat.le_of_ble_eq_true z) ?_
 refine wp_seq (wrl (wv (.int .i64 (0:Int)) z z z (wl_nil (tn (wp_seq (wp_seq (wrl (wv (.pointer none) z z z (wv (.bool true) z z (by kernel_rfl) (wl_nil (tn ?_)))))))))))
 refine wp_ift z ?_
 refine wp_seq (wrl (wv (.int .i64 (0:Int)) z z z (wl_nil (tn (wp_ret (then_r ?_))))))
 replace hst := hst.objO_nil at_config_Plan
 obtain rfl := some_inj hm
 refine post_ret (vs := [Zi]) results20 (rvs_cons (rv_tmp z) rvs_nil) ?_
 exact ⟨z, hst.keep1⟩
}
 {
 replace hst := objO_get hst
 dsimp only [config_Plan_L0] at hm
 refine calls_start (args := [p0]) func20 z ntmps20 (Nat.le_of_ble_eq_true z) ?_
 refine wp_seq (wrl (wv (.int .i64 (0:Int)) z z z (wl_nil (tn (wp_seq (wp_seq (wrl (wv (p0) z z z ?_))))))))
 obtain ⟨b111, v112, v115, v118, ⟨rfl, f114, f117⟩, hst'⟩ := at_config_Plan_open hst
 clear hst
 have hst := hst'
 clear hst'
 refine wv (.bool false) z z (by kernel_rfl) (wl_nil (tn ?_))
 refine wp_iff z ?_
 refine wp_skip (tn (wp_seq (wrl ?_)))
 refine wv (Pt b111 0) z z z (wv (Pt b111 0) z z z (wv (Pt b111 9) z z (x_field z underlying64 z sizeOf60 z) (wv (v118) z z (x_load z isAgg60 (hst.bc0 z)) ?_)))
 replace hst := hst.pull1
 obtain ⟨t120, ht121, hm⟩ := bind_some hm
 refine wc call40 [v118] z z z ?_
 refine (label_Lattice_Len_ref hst.to1 ht121).mono ?_
 rintro _ w122 ⟨rfl, hst⟩
 refine ⟨_, z, ?_⟩
 replace hst := hst.of1
 refine wv (.int .i64 t120) z z z (wl_nil (tn (wp_ret ?_)))
 replace hst := hst.pull1
 replace hst := at_config_Plan_close (pv := Pt b111 0) (x := o0) hst ⟨z, f114, f117⟩
 replace hst := objO_some hst
 obtain rfl := some_inj hm
 refine post_ret (vs := [I6 t120]) results20 (rvs_cons (rv_tmp z) rvs_nil) ?_
 exact ⟨z, hst.keep1⟩
}
}

theorem config_Plan_Shards_ref {w0 w : World} {I : HL} {R : SP} {a0 : (Option config_Plan)} {p0 : Value}  (hst : St w0 w I [objO at_config_Plan p0 a0] R) {r : (Int)} (hm : config_Plan_Shards a0 = some r) :
  Calls prog 17 #[p0] w fun e w' => e = .returned (.int .i64 r) ∧ St w0 w' I [objO at_config_Plan p0 a0] R := by {
 rcases a0 with _ | o0
 {
 obtain ⟨rfl, hst'⟩ := objO_none hst
 clear hst
 have hst := hst'
 clear hst'
 dsimp only [config_Plan_Shards] at hm
 refine calls_start (args := [.pointer none]) func17 z ntmps17 (Nat.le_of_ble_eq_true z) ?_
 refine wp_seq (wrl (wv (.int .i64 (0:Int)) z z z (wl_nil (tn (wp_seq (wp_seq (wrl (wv (.pointer none) z z z (wv (.bool true) z z (by kernel_rfl) (wl_nil (tn ?_)))))))))))
 refine wp_ift z ?_
 refine wp_seq (wrl (wv (.int .i64 (0:Int)) z z z (wl_nil (tn (wp_ret (then_r ?_))))))
 replace hst := hst.objO_nil at_config_Plan
 obtain rfl := some_inj hm
 refine post_ret (vs := [Zi]) results17 (rvs_cons (rv_tmp z) rvs_nil) ?_
 exact ⟨z, hst.keep1⟩
}
 {
 replace hst := objO_get hst
 dsimp only [config_Plan_Shards] at hm
 refine calls_start (args := [p0]) func17 z ntmps17 (Nat.le_of_ble_eq_true z) ?_
 refine wp_seq (wrl (wv (.int .i64 (0:Int)) z z z (wl_nil (tn (wp_seq (wp_seq (wrl (wv (p0) z z z ?_))))))))
 obtain ⟨b111, v112, v115, v118, ⟨rfl, f114, f117⟩, hst'⟩ := at_config_Plan_open hst
 clear hst
 have hst := hst'
 clear hst'
 refine wv (.bool false) z z (by kernel_rfl) (wl_nil (tn ?_))
 refine wp_iff z ?_
 refine wp_skip (tn (wp_seq (wrl ?_)))
 refine wv (Pt b111 0) z z z (wv (Pt b111 0) z z z (wv (Pt b111 0) z z (x_field z underlying64 z sizeOf28 z) (wv (Pt b111 2) z z (x_field z underlying28 z sizeOf26 z) (wv (v115) z z (x_load z isAgg26 (hst.bc0 z)) (wv (.int .i64 ((o0.C.Cuts).length : Int)) z z (x_len z underlying26 (ro_sliceV f117)) (wv (.int .i64 (i64.wrap (((o0.C.Cuts).length : Int) + (1:Int)))) z z z (wv (.int .i64 (i64.wrap (((o0.C.Cuts).length : Int) + (1:Int)))) z z z (wl_nil (tn (wp_ret ?_))))))))))
 replace hst := hst.pull1.pull1
 replace hst := at_config_Plan_close (pv := Pt b111 0) (x := o0) hst ⟨z, f114, f117⟩
 replace hst := objO_some hst
 obtain rfl := some_inj hm
 refine post_ret (vs := [I6 (i64.wrap (((o0.C.Cuts).length : Int) + (1:Int)))]) results17 (rvs_cons (rv_tmp z) rvs_nil) ?_
 exact ⟨z, hst.keep1⟩
}
}

theorem config_Plan_Lanes_ref {w0 w : World} {I : HL} {R : SP} {a0 : (Option config_Plan)} {p0 : Value}  (hst : St w0 w I [objO at_config_Plan p0 a0] R) {r : (Int)} (hm : config_Plan_Lanes a0 = some r) :
  Calls prog 18 #[p0] w fun e w' => e = .returned (.int .i64 r) ∧ St w0 w' I [objO at_config_Plan p0 a0] R := by {
 unfold config_Plan_Lanes at hm
 refine calls_start (args := [p0]) func18 z ntmps18 (Nat.le_of_ble_eq_true z) ?_
 refine wp_seq (wrl (wv (.int .i64 (0:Int)) z z z (wl_nil (tn (wp_seq (wrl (wv (p0) z z z ?_)))))))
 obtain ⟨t106, ht107, hm⟩ := bind_some hm
 refine wc call20 [p0] z z z ?_
 refine (config_Plan_L0_ref hst.to1 ht107).mono ?_
 rintro _ w108 ⟨rfl, hst⟩
 refine ⟨_, z, ?_⟩
 replace hst := hst.of1
 refine wv (p0) z z z ?_
 obtain ⟨t111, ht112, hm⟩ := bind_some hm
 refine wc call17 [p0] z z z ?_
 refine (config_Plan_Shards_ref hst.to1 ht112).mono ?_
 rintro _ w113 ⟨rfl, hst⟩
 refine ⟨_, z, ?_⟩
 replace hst := hst.of1
 refine wv (.int .i64 (i64.wrap (t106 * t111))) z z z (wv (.int .i64 (i64.wrap ((i64.wrap (t106 * t111)) + (1:Int)))) z z z (wv (.int .i64 (i64.wrap ((i64.wrap (t106 * t111)) + (1:Int)))) z z z (wl_nil (tn (wp_ret ?_)))))
 obtain rfl := some_inj hm
 refine post_ret (vs := [I6 (i64.wrap ((i64.wrap (t106 * t111)) + (1:Int)))]) results18 (rvs_cons (rv_tmp z) rvs_nil) ?_
 exact ⟨z, hst.keep1⟩
}

theorem config_Plan_Lane_ref {w0 w : World} {I : HL} {R : SP} {a0 : (Option config_Plan)} {p0 : Value} {a1 : Int} {a2 : Int}  (hst : St w0 w I [objO at_config_Plan p0 a0] R) {r : (Int)} (hm : config_Plan_Lane a0 a1 a2 = some r) :
  Calls prog 24 #[p0, I6 a1, I6 a2] w fun e w' => e = .returned (.int .i64 r) ∧ St w0 w' I [objO at_config_Plan p0 a0] R := by {
 unfold config_Plan_Lane at hm
 refine calls_start (args := [p0, I6 a1, I6 a2]) func24 z ntmps24 (Nat.le_of_ble_eq_true z) ?_
 refine wp_seq (wrl (wv (.int .i64 (0:Int)) z z z (wl_nil (tn (wp_seq (wp_seq (wrl (wv (.int .i64 a1) z z z (wv (.bool (decide (a1 < (0:Int)))) z z z (wv (.bool (decide (a1 < (0:Int)))) z z z ?_))))))))))
 refine bsplit (decide (a1 < (0:Int))) (fun hc121 => ?_) (fun hc121 => ?_)
 {
 replace hm := bif_t hc121 hm
 refine wo hc121 z z z z z z (wo hc121 z z z z z z (wo hc121 z z z z z z (wo hc121 z z z z z z (wv (.bool true) z z (x_pick_t hc121 z z) (wv (.bool true) z z z (wz z z z z z z (wz z z z z z z (wv (.bool true) z z (x_pick_t z z z) (wv (.bool true) z z z (wz z z z z z z (wz z z z z z z (wz z z z z z z ?_))))))))))))
 refine wz z z z z z z (wv (.bool true) z z (x_pick_t z z z) (wl_nil (tn ?_)))
 refine wp_ift z ?_
 refine wp_seq (wrl (wv (.int .i64 ((-1):Int)) z z z (wl_nil (tn (wp_ret (then_r ?_))))))
 obtain rfl := some_inj hm
 refine post_ret (vs := [I6 ((-1):Int)]) results24 (rvs_cons (rv_tmp z) rvs_nil) ?_
 exact ⟨z, hst.keep1⟩
}
 {
 replace hm := bif_f hc121 hm
 refine wv (.int .i64 a1) ((wanted_eq z z z (cvb hc121)).trans z) z z (wv (p0) ((wanted_eq z z z (cvb hc121)).trans z) z z ?_)
 obtain ⟨t122, ht123, hm⟩ := bind_some hm
 refine wl_call ((wanted_eq z z z (cvb hc121)).trans z) z (x_call call20 z (vs := [p0]) z) ?_
 refine (config_Plan_L0_ref hst.to1 ht123).mono ?_
 rintro _ w124 ⟨rfl, hst⟩
 refine ⟨_, z, ?_⟩
 replace hst := hst.of1
 refine wv (.bool (decide (a1 ≥ t122))) ((wanted_eq z z z (cvb hc121)).trans z) z z (wv (.bool (decide (a1 ≥ t122))) z z (x_pick_f hc121 z z) (wv (.bool (decide (a1 ≥ t122))) z z z ?_))
 refine bsplit (decide (a1 ≥ t122)) (fun hc127 => ?_) (fun hc127 => ?_)
 {
 replace hm := bif_t hc127 hm
 refine wo hc127 z z z z z z (wo hc127 z z z z z z (wv (.bool true) z z (x_pick_t hc127 z z) (wv (.bool true) z z z (wz z z z z z z (wz z z z z z z (wz z z z z z z (wz z z z z z z (wv (.bool true) z z (x_pick_t z z z) (wl_nil (tn ?_))))))))))
 refine wp_ift z ?_
 refine wp_seq (wrl (wv (.int .i64 ((-1):Int)) z z z (wl_nil (tn (wp_ret (then_r ?_))))))
 obtain rfl := some_inj hm
 refine post_ret (vs := [I6 ((-1):Int)]) results24 (rvs_cons (rv_tmp z) rvs_nil) ?_
 exact ⟨z, hst.keep1⟩
}
 {
 replace hm := bif_f hc127 hm
 refine wv (.int .i64 a2) ((wanted_eq z z z (cvb hc127)).trans z) z z (wv (.bool (decide (a2 < (0:Int)))) ((wanted_eq z z z (cvb hc127)).trans z) z z (wv (.bool (decide (a2 < (0:Int)))) z z (x_pick_f hc127 z z) (wv (.bool (decide (a2 < (0:Int)))) z z z ?_)))
 refine bsplit (decide (a2 < (0:Int))) (fun hc128 => ?_) (fun hc128 => ?_)
 {
 replace hm := bif_t hc128 hm
 refine wo hc128 z z z z z z (wo hc128 z z z z z z (wo hc128 z z z z z z (wo hc128 z z z z z z (wv (.bool true) z z (x_pick_t hc128 z z) (wl_nil (tn ?_))))))
 refine wp_ift z ?_
 refine wp_seq (wrl (wv (.int .i64 ((-1):Int)) z z z (wl_nil (tn (wp_ret (then_r ?_))))))
 obtain rfl := some_inj hm
 refine post_ret (vs := [I6 ((-1):Int)]) results24 (rvs_cons (rv_tmp z) rvs_nil) ?_
 exact ⟨z, hst.keep1⟩
}
 {
 replace hm := bif_f hc128 hm
 refine wv (.int .i64 a2) ((wanted_eq z z z (cvb hc128)).trans z) z z (wv (p0) ((wanted_eq z z z (cvb hc128)).trans z) z z ?_)
 obtain ⟨t129, ht130, hm⟩ := bind_some hm
 refine wl_call ((wanted_eq z z z (cvb hc128)).trans z) z (x_call call17 z (vs := [p0]) z) ?_
 refine (config_Plan_Shards_ref hst.to1 ht130).mono ?_
 rintro _ w131 ⟨rfl, hst⟩
 refine ⟨_, z, ?_⟩
 replace hst := hst.of1
 refine wv (.bool (decide (a2 ≥ t129))) ((wanted_eq z z z (cvb hc128)).trans z) z z (wv (.bool (decide (a2 ≥ t129))) z z (x_pick_f hc128 z z) (wl_nil (tn ?_)))
 refine bsplit (decide (a2 ≥ t129)) (fun hc134 => ?_) (fun hc134 => ?_)
 {
 replace hm := bif_t hc134 hm
 refine wp_ift (cvb hc134) ?_
 refine wp_seq (wrl (wv (.int .i64 ((-1):Int)) z z z (wl_nil (tn (wp_ret (then_r ?_))))))
 obtain rfl := some_inj hm
 refine post_ret (vs := [I6 ((-1):Int)]) results24 (rvs_cons (rv_tmp z) rvs_nil) ?_
 exact ⟨z, hst.keep1⟩
}
 {
 replace hm := bif_f hc134 hm
 refine wp_iff (cvb hc134) ?_
 refine wp_skip (tn (wp_seq (wrl ?_)))
 refine wv (.int .i64 a1) z z z (wv (p0) z z z ?_)
 obtain ⟨t135, ht136, hm⟩ := bind_some hm
 refine wc call17 [p0] z z z ?_
 refine (config_Plan_Shards_ref hst.to1 ht136).mono ?_
 rintro _ w137 ⟨rfl, hst⟩
 refine ⟨_, z, ?_⟩
 replace hst := hst.of1
 refine wv (.int .i64 (i64.wrap (a1 * t135))) z z z (wv (.int .i64 a2) z z z (wv (.int .i64 (i64.wrap ((i64.wrap (a1 * t135)) + a2))) z z z (wv (.int .i64 (i64.wrap ((i64.wrap (a1 * t135)) + a2))) z z z (wl_nil (tn (wp_ret ?_))))))
 obtain rfl := some_inj hm
 refine post_ret (vs := [I6 (i64.wrap ((i64.wrap (a1 * t135)) + a2))]) results24 (rvs_cons (rv_tmp z) rvs_nil) ?_
 exact ⟨z, hst.keep1⟩
}
}
}
}
}

theorem config_Plan_Rules_ref {w0 w : World} {I : HL} {R : SP} {a0 : (Option config_Plan)} {p0 : Value}  (hst : St w0 w I [objO at_config_Plan p0 a0] R) {r : (Int)} (hm : config_Plan_Rules a0 = some r) :
  Calls prog 19 #[p0] w fun e w' => e = .returned (.int .i64 r) ∧ St w0 w' I [objO at_config_Plan p0 a0] R := by {
 unfold config_Plan_Rules at hm
 refine calls_start (args := [p0]) func19 z ntmps19 (Nat.le_of_ble_eq_true z) ?_
 refine wp_seq (wrl (wv (.int .i64 (0:Int)) z z z (wl_nil (tn (wp_seq (wrl (wv (p0) z z z ?_)))))))
 obtain ⟨t113, ht114, hm⟩ := bind_some hm
 refine wc call18 [p0] z z z ?_
 refine (config_Plan_Lanes_ref hst.to1 ht114).mono ?_
 rintro _ w115 ⟨rfl, hst⟩
 refine ⟨_, z, ?_⟩
 replace hst := hst.of1
 refine wv (.int .i64 (i64.wrap (t113 - (1:Int)))) z z z (wv (.int .i64 (i64.wrap (t113 - (1:Int)))) z z z (wl_nil (tn (wp_ret ?_))))
 obtain rfl := some_inj hm
 refine post_ret (vs := [I6 (i64.wrap (t113 - (1:Int)))]) results19 (rvs_cons (rv_tmp z) rvs_nil) ?_
 exact ⟨z, hst.keep1⟩
}

theorem label_Lattice_Bottom_ref {w0 w : World} {I : HL} {R : SP} {a0 : (Option label_Lattice)} {p0 : Value}  (hst : St w0 w I [objO at_label_Lattice p0 a0] R) {r : (Int)} (hm : label_Lattice_Bottom a0 = some r) :
  Calls prog 41 #[p0] w fun e w' => e = .returned (.int .i64 r) ∧ St w0 w' I [objO at_label_Lattice p0 a0] R := by {
 rcases a0 with _ | o0
 {
 obtain ⟨rfl, hst'⟩ := objO_none hst
 clear hst
 have hst := hst'
 clear hst'
 dsimp only [label_Lattice_Bottom] at hm
 refine calls_start (args := [.pointer none]) func41 z ntmps41 (Nat.le_of_ble_eq_true z) ?_
 refine wp_seq (wrl (wv (.int .i64 (0:Int)) z z z (wl_nil (tn (wp_seq (wp_seq (wrl (wv (.pointer none) z z z (wv (.bool true) z z (by kernel_rfl) (wl_nil (tn ?_)))))))))))
 refine wp_ift z ?_
 refine wp_seq (wrl (wv (.int .i64 ((-1):Int)) z z z (wl_nil (tn (wp_ret (then_r ?_))))))
 replace hst := hst.objO_nil at_label_Lattice
 obtain rfl := some_inj hm
 refine post_ret (vs := [I6 ((-1):Int)]) results41 (rvs_cons (rv_tmp z) rvs_nil) ?_
 exact ⟨z, hst.keep1⟩
}
 {
 replace hst := objO_get hst
 dsimp only [label_Lattice_Bottom] at hm
 refine calls_start (args := [p0]) func41 z ntmps41 (Nat.le_of_ble_eq_true z) ?_
 refine wp_seq (wrl (wv (.int .i64 (0:Int)) z z z (wl_nil (tn (wp_seq (wp_seq (wrl (wv (p0) z z z ?_))))))))
 obtain ⟨b165, v166, v168, v170, v172, v174, v176, rfl, hst'⟩ := at_label_Lattice_open hst
 clear hst
 have hst := hst'
 clear hst'
 refine wv (.bool false) z z (by kernel_rfl) (wl_nil (tn ?_))
 refine wp_iff z ?_
 refine wp_skip (tn (wp_seq (wrl ?_)))
 refine wv (Pt b165 0) z z z (wv (Pt b165 0) z z z (wv (Pt b165 5) z z (x_field z underlying73 z sizeOf46 z) (wv (v176) z z (x_load z isAgg46 (hst.bc0 z)) ?_)))
 obtain ⟨x178, hx179, hm⟩ := bind_some hm
 obtain ⟨h180, h181, hi182⟩ := geto_some hx179
 refine wv (.pointer (some (eAddr v176 ((0:Int).toNat * 1 + 0)))) z z (x_index z z underlying46 sizeOf3 hst.sv6 h180 h181) (wv (.int .i64 x178) z z (x_load z isAgg3 (hst.ol6 hi182 (by rintro _ rfl; rfl))) (wv (.int .i64 x178) z z z (wl_nil (tn (wp_ret ?_)))))
 replace hst := hst.pull6.pull6.pull6.pull6.pull6.pull6.pull6
 replace hst := at_label_Lattice_close (pv := Pt b165 0) (x := o0) hst z
 replace hst := objO_some hst
 obtain rfl := some_inj hm
 refine post_ret (vs := [I6 x178]) results41 (rvs_cons (rv_tmp z) rvs_nil) ?_
 exact ⟨z, hst.keep1⟩
}
}

theorem config_Plan_Label_ref {w0 w : World} {I : HL} {R : SP} {a0 : (Option config_Plan)} {p0 : Value} {a1 : Int}  (hst : St w0 w I [objO at_config_Plan p0 a0] R) {r : (Int)} (hm : config_Plan_Label a0 a1 = some r) :
  Calls prog 22 #[p0, I6 a1] w fun e w' => e = .returned (.int .i64 r) ∧ St w0 w' I [objO at_config_Plan p0 a0] R := by {
 rcases a0 with _ | o0
 {
 obtain ⟨rfl, hst'⟩ := objO_none hst
 clear hst
 have hst := hst'
 clear hst'
 dsimp only [config_Plan_Label] at hm
 refine calls_start (args := [.pointer none, I6 a1]) func22 z ntmps22 (Nat.le_of_ble_eq_true z) ?_
 refine wp_seq (wrl (wv (.int .i64 (0:Int)) z z z (wl_nil (tn (wp_seq (wp_block (wp_seq (wrl (wv (.pointer none) z z z (wv (.bool true) z z (by kernel_rfl) (wv (.bool true) z z z (wz z z z z z z (wz z z z z z z (wv (.bool true) z z (x_pick_t z z z) (wv (.bool true) z z z (wz z z z z z z (wz z z z z z z (wz z z z z z z ?_))))))))))))))))))
 refine wz z z z z z z (wv (.bool true) z z (x_pick_t z z z) (wv (.bool true) z z z (wl_nil (tn ?_))))
 refine wp_ift z ?_
 refine wp_seq (wrl (wv (.int .i64 ((-1):Int)) z z z (wl_nil (tn (wp_ret (blk_r (then_r ?_)))))))
 replace hst := hst.objO_nil at_config_Plan
 obtain rfl := some_inj hm
 refine post_ret (vs := [I6 ((-1):Int)]) results22 (rvs_cons (rv_tmp z) rvs_nil) ?_
 exact ⟨z, hst.keep1⟩
}
 {
 replace hst := objO_get hst
 dsimp only [config_Plan_Label] at hm
 refine calls_start (args := [p0, I6 a1]) func22 z ntmps22 (Nat.le_of_ble_eq_true z) ?_
 refine wp_seq (wrl (wv (.int .i64 (0:Int)) z z z (wl_nil (tn (wp_seq (wp_block (wp_seq (wrl (wv (p0) z z z ?_)))))))))
 obtain ⟨b157, v158, v161, v164, ⟨rfl, f160, f163⟩, hst'⟩ := at_config_Plan_open hst
 clear hst
 have hst := hst'
 clear hst'
 refine wv (.bool false) z z (by kernel_rfl) (wv (.bool false) z z z (wv (.int .i64 a1) ((wanted_eq z z z z).trans z) z z (wv (.bool (decide (a1 < (0:Int)))) ((wanted_eq z z z z).trans z) z z (wv (.bool (decide (a1 < (0:Int)))) z z (x_pick_f z z z) (wv (.bool (decide (a1 < (0:Int)))) z z z ?_)))))
 refine bsplit (decide (a1 < (0:Int))) (fun hc166 => ?_) (fun hc166 => ?_)
 {
 replace hm := bif_t hc166 hm
 refine wo hc166 z z z z z z (wo hc166 z z z z z z (wo hc166 z z z z z z (wo hc166 z z z z z z (wv (.bool true) z z (x_pick_t hc166 z z) (wv (.bool true) z z z (wl_nil (tn ?_)))))))
 refine wp_ift z ?_
 refine wp_seq (wrl (wv (.int .i64 ((-1):Int)) z z z (wl_nil (tn (wp_ret (blk_r (then_r ?_)))))))
 replace hst := hst.pull1.pull1
 replace hst := at_config_Plan_close (pv := Pt b157 0) (x := o0) hst ⟨z, f160, f163⟩
 replace hst := objO_some hst
 obtain rfl := some_inj hm
 refine post_ret (vs := [I6 ((-1):Int)]) results22 (rvs_cons (rv_tmp z) rvs_nil) ?_
 exact ⟨z, hst.keep1⟩
}
 {
 replace hm := bif_f hc166 hm
 refine wv (.int .i64 a1) ((wanted_eq z z z (cvb hc166)).trans z) z z (wv (Pt b157 0) ((wanted_eq z z z (cvb hc166)).trans z) z z ?_)
 replace hst := hst.pull1.pull1
 replace hst := at_config_Plan_close (pv := Pt b157 0) (x := o0) hst ⟨z, f160, f163⟩
 replace hst := objO_some hst
 obtain ⟨t167, ht168, hm⟩ := bind_some hm
 refine wl_call ((wanted_eq z z z (cvb hc166)).trans z) z (x_call call18 z (vs := [Pt b157 0]) z) ?_
 refine (config_Plan_Lanes_ref hst.to1 ht168).mono ?_
 rintro _ w169 ⟨rfl, hst⟩
 refine ⟨_, z, ?_⟩
 replace hst := hst.of1
 replace hst := objO_get hst
 refine wv (.bool (decide (a1 ≥ t167))) ((wanted_eq z z z (cvb hc166)).trans z) z z (wv (.bool (decide (a1 ≥ t167))) z z (x_pick_f hc166 z z) (wv (.bool (decide (a1 ≥ t167))) z z z (wl_nil (tn ?_))))
 refine bsplit (decide (a1 ≥ t167)) (fun hc172 => ?_) (fun hc172 => ?_)
 {
 replace hm := bif_t hc172 hm
 refine wp_ift (cvb hc172) ?_
 refine wp_seq (wrl (wv (.int .i64 ((-1):Int)) z z z (wl_nil (tn (wp_ret (blk_r (then_r ?_)))))))
 replace hst := objO_some hst
 obtain rfl := some_inj hm
 refine post_ret (vs := [I6 ((-1):Int)]) results22 (rvs_cons (rv_tmp z) rvs_nil) ?_
 exact ⟨z, hst.keep1⟩
}
 {
 replace hm := bif_f hc172 hm
 refine wp_iff (cvb hc172) ?_
 refine wp_seq (wrl (wv (.int .i64 a1) z z z (wv (Pt b157 0) z z z ?_)))
 replace hst := objO_some hst
 obtain ⟨t173, ht174, hm⟩ := bind_some hm
 refine wc call19 [Pt b157 0] z z z ?_
 refine (config_Plan_Rules_ref hst.to1 ht174).mono ?_
 rintro _ w175 ⟨rfl, hst⟩
 refine ⟨_, z, ?_⟩
 replace hst := hst.of1
 replace hst := objO_get hst
 refine wv (.bool (a1 == t173)) z z z (wv (.bool (a1 == t173)) z z z (wl_nil (tn ?_)))
 refine bsplit (a1 == t173) (fun hc178 => ?_) (fun hc178 => ?_)
 {
 replace hm := bif_t hc178 hm
 refine wp_ift (cvb hc178) ?_
 refine wp_seq (wrl (wv (Pt b157 0) z z z ?_))
 obtain ⟨b179, v180, v183, v186, ⟨e188, f182, f185⟩, hst'⟩ := at_config_Plan_open hst
 clear hst
 have e188 := ptr_inj e188
 subst e188
 have hst := hst'
 clear hst'
 refine wv (Pt b157 0) z z z (wv (Pt b157 9) z z (x_field z underlying64 z sizeOf60 z) (wv (v186) z z (x_load z isAgg60 (hst.bc0 z)) ?_))
 replace hst := hst.pull1
 obtain ⟨t189, ht190, hm⟩ := bind_some hm
 refine wc call41 [v186] z z z ?_
 refine (label_Lattice_Bottom_ref hst.to1 ht190).mono ?_
 rintro _ w191 ⟨rfl, hst⟩
 refine ⟨_, z, ?_⟩
 replace hst := hst.of1
 refine wv (.int .i64 t189) z z z (wl_nil (tn (wp_ret (blk_r (then_r ?_)))))
 replace hst := hst.pull1
 replace hst := at_config_Plan_close (pv := Pt b157 0) (x := o0) hst ⟨z, f182, f185⟩
 replace hst := objO_some hst
 obtain rfl := some_inj hm
 refine post_ret (vs := [I6 t189]) results22 (rvs_cons (rv_tmp z) rvs_nil) ?_
 exact ⟨z, hst.keep1⟩
}
 {
 replace hm := bif_f hc178 hm
 refine wp_iff (cvb hc178) ?_
 refine wp_skip (blk_n (tn (wp_seq (wrl ?_))))
 refine wv (.int .i64 a1) z z z (wv (Pt b157 0) z z z ?_)
 replace hst := objO_some hst
 obtain ⟨t194, ht195, hm⟩ := bind_some hm
 refine wc call17 [Pt b157 0] z z z ?_
 refine (config_Plan_Shards_ref hst.to1 ht195).mono ?_
 rintro _ w196 ⟨rfl, hst⟩
 refine ⟨_, z, ?_⟩
 replace hst := hst.of1
 replace hst := objO_get hst
 obtain ⟨hg199, hm⟩ := gd_some hm
 refine wv (.int .i64 (i64.wrap (Int.tdiv a1 t194))) z z (x_quo (not_t hg199) z z) (wv (.int .i64 (i64.wrap (Int.tdiv a1 t194))) z z z (wl_nil (tn (wp_ret ?_))))
 replace hst := objO_some hst
 obtain rfl := some_inj hm
 refine post_ret (vs := [I6 (i64.wrap (Int.tdiv a1 t194))]) results22 (rvs_cons (rv_tmp z) rvs_nil) ?_
 exact ⟨z, hst.keep1⟩
}
}
}
}
}

theorem law04_awake_ref {w0 w : World} {I : HL} {R : SP}   (hst : St w0 w I [] R) {r : (Bool)} (hm : law04_awake = some r) :
  Calls prog 9 #[] w fun e w' => ∃ (I' : HL), e = .returned (.bool r) ∧ I.le I' ∧ St w0 w' I' [] R := by {
 unfold law04_awake at hm
 refine calls_start (args := []) func9 z ntmps9 (Nat.le_of_ble_eq_true z) ?_
 have hI0 := HL.le.refl I
 refine wp_seq (wrl (wv (.bool false) z z z (wl_nil (tn (wp_seq (wrl ?_))))))
 obtain ⟨t117, ht118, hm⟩ := bind_some hm
 refine wc call13 [Zb] z z z ?_
 refine (ref04_Small_ref hst.to0 ht118).mono ?_
 rintro _ w119 ⟨v122, v124, rfl, hst⟩
 refine ⟨_, z, ?_⟩
 replace hst := hst.of2
 obtain ⟨b128, w129, ew130, eb131, hst⟩ := hst.box [Zs, Zi, Zs, Zi, Zi, Zi, Zi, Zi, Zi] 28
 refine wl_run (v := Pt b128 0) (w' := w129) z z (x_al (by kernel_rfl) ew130 eb131) ?_
 obtain ⟨w133, hr134, hst⟩ := hst.bx [v122, I6 t117.Nodes, v124, I6 t117.Frame, I6 t117.Depth, I6 t117.Quota, I6 t117.Wide, I6 t117.Beat, I6 t117.Elect] sizeOf28 z (oC (one_of_sliceV hst.sv1) (oC z (oC (one_of_sliceV hst.sv2) (oC z (oC z (oC z (oC z (oC z (oC z oN))))))))) (by kernel_rfl)
 refine wl_unit z z (x_unit hr134) ?_
 refine wl_nil (tn (wp_seq (wrl ?_)))
 obtain ⟨b135, w136, ew137, eb138, hst⟩ := hst.lits (E := tyF64) (xs := [(0:Nat)]) [[Zf]] 36 1 z (Reps.cons z Reps.nil)
 refine wl_run (v := (.slice (some ⟨b135, 0, none⟩) 1 1)) (w' := w136) z z (x_als (by kernel_rfl) ew137 eb138) ?_
 refine wv (Pt b128 2) z z (x_field z underlying28 z sizeOf26 z) ?_
 replace hst := hst.pull1
 obtain ⟨w140, hr141, hst⟩ := hst.by_ [v122, I6 t117.Nodes, (.slice (some ⟨b135, 0, none⟩) 1 1), I6 t117.Frame, I6 t117.Depth, I6 t117.Quota, I6 t117.Wide, I6 t117.Beat, I6 t117.Elect] 2 ((.slice (some ⟨b135, 0, none⟩) 1 1)) sizeOf26 z (oC (one_of_sliceV hst.sv1) oN) (by kernel_rfl)
 refine wl_unit z z (x_unit hr141) ?_
 refine wl_nil (tn (wp_seq (wrl (wv (.agg #[v122, I6 t117.Nodes, (.slice (some ⟨b135, 0, none⟩) 1 1), I6 t117.Frame, I6 t117.Depth, I6 t117.Quota, I6 t117.Wide, I6 t117.Beat, I6 t117.Elect]) z z (x_loadN (cs := [v122, I6 t117.Nodes, (.slice (some ⟨b135, 0, none⟩) 1 1), I6 t117.Frame, I6 t117.Depth, I6 t117.Quota, I6 t117.Wide, I6 t117.Beat, I6 t117.Elect]) z isAgg28 sizeOf28 (hst.bcs0 0 z)) ?_))))
 replace hst := hst.pull2
 obtain ⟨I142, hI143, f144, hst⟩ := hst.own_fix
 replace hI0 := hI0.trans hI143
 replace hst := hst.pull1
 obtain ⟨I145, hI146, f147, hst⟩ := hst.own_fix
 replace f144 := f144.mono (ro_le hI146)
 replace hI0 := hI0.trans hI146
 obtain ⟨t148, ht149, hm⟩ := bind_some hm
 refine wc call11 [.agg #[v122, I6 t117.Nodes, (.slice (some ⟨b135, 0, none⟩) 1 1), I6 t117.Frame, I6 t117.Depth, I6 t117.Quota, I6 t117.Wide, I6 t117.Beat, I6 t117.Elect]] z z z ?_
 refine (config_New_ref (a0 := ({ Up := t117.Up, Nodes := t117.Nodes, Cuts := [(0:Nat)], Frame := t117.Frame, Depth := t117.Depth, Quota := t117.Quota, Wide := t117.Wide, Beat := t117.Beat, Elect := t117.Elect } : api_Config)) f144 f147 hst.to0 ht149).mono ?_
 rintro _ w150 ⟨I151, v153, rfl, hI152, hst⟩
 refine ⟨_, z, ?_⟩
 replace hst := hst.of1
 replace f144 := f144.mono (ro_le hI152)
 replace f147 := f147.mono (ro_le hI152)
 replace hI0 := hI0.trans hI152
 refine wv (.tuple #[v153, I6 t148.2]) z z z (wv (v153) z z z (wv (.int .i64 t148.2) z z z (wv (v153) z z z (wv (.int .i64 t148.2) z z z (wl_nil (tn (wp_seq (wrl (wv (.int .i64 t148.2) z z z (wv (.bool (t148.2 == (0:Int))) z z z (wv (.bool (t148.2 == (0:Int))) z z z ?_)))))))))))
 refine bsplit (t148.2 == (0:Int)) (fun hc155 => ?_) (fun hc155 => ?_)
 {
 replace hm := bif_t hc155 hm
 refine wv (v153) ((wanted_eq z z z (cvb hc155)).trans z) z z ?_
 obtain ⟨t156, ht157, hm⟩ := bind_some hm
 refine wl_call ((wanted_eq z z z (cvb hc155)).trans z) z (x_call call18 z (vs := [v153]) z) ?_
 refine (config_Plan_Lanes_ref hst.to1 ht157).mono ?_
 rintro _ w158 ⟨rfl, hst⟩
 refine ⟨_, z, ?_⟩
 replace hst := hst.of1
 refine wv (.bool (t156 == (5:Int))) ((wanted_eq z z z (cvb hc155)).trans z) z z (wv (.bool (t156 == (5:Int))) z z (x_pick_t hc155 z z) (wv (.bool (t156 == (5:Int))) z z z ?_))
 refine bsplit (t156 == (5:Int)) (fun hc161 => ?_) (fun hc161 => ?_)
 {
 replace hm := bif_t hc161 hm
 refine wv (v153) ((wanted_eq z z z (cvb hc161)).trans z) z z ?_
 obtain ⟨t162, ht163, hm⟩ := bind_some hm
 refine wl_call ((wanted_eq z z z (cvb hc161)).trans z) z (x_call call24 z (vs := [v153, I6 (1:Int), I6 (1:Int)]) z) ?_
 refine (config_Plan_Lane_ref hst.to1 ht163).mono ?_
 rintro _ w164 ⟨rfl, hst⟩
 refine ⟨_, z, ?_⟩
 replace hst := hst.of1
 refine wv (.bool (t162 == (3:Int))) ((wanted_eq z z z (cvb hc161)).trans z) z z (wv (.bool (t162 == (3:Int))) z z (x_pick_t hc161 z z) (wv (.bool (t162 == (3:Int))) z z z ?_))
 refine bsplit (t162 == (3:Int)) (fun hc167 => ?_) (fun hc167 => ?_)
 {
 replace hm := bif_t hc167 hm
 refine wv (v153) ((wanted_eq z z z (cvb hc167)).trans z) z z ?_
 obtain ⟨t168, ht169, hm⟩ := bind_some hm
 refine wl_call ((wanted_eq z z z (cvb hc167)).trans z) z (x_call call19 z (vs := [v153]) z) ?_
 refine (config_Plan_Rules_ref hst.to1 ht169).mono ?_
 rintro _ w170 ⟨rfl, hst⟩
 refine ⟨_, z, ?_⟩
 replace hst := hst.of1
 refine wv (.bool (t168 == (4:Int))) ((wanted_eq z z z (cvb hc167)).trans z) z z (wv (.bool (t168 == (4:Int))) z z (x_pick_t hc167 z z) (wv (.bool (t168 == (4:Int))) z z z ?_))
 refine bsplit (t168 == (4:Int)) (fun hc173 => ?_) (fun hc173 => ?_)
 {
 replace hm := bif_t hc173 hm
 refine wv (v153) ((wanted_eq z z z (cvb hc173)).trans z) z z ?_
 obtain ⟨t174, ht175, hm⟩ := bind_some hm
 refine wl_call ((wanted_eq z z z (cvb hc173)).trans z) z (x_call call22 z (vs := [v153, I6 (2:Int)]) z) ?_
 refine (config_Plan_Label_ref hst.to1 ht175).mono ?_
 rintro _ w176 ⟨rfl, hst⟩
 refine ⟨_, z, ?_⟩
 replace hst := hst.of1
 refine wv (.bool (t174 == (1:Int))) ((wanted_eq z z z (cvb hc173)).trans z) z z (wv (.bool (t174 == (1:Int))) z z (x_pick_t hc173 z z) (wv (.bool (t174 == (1:Int))) z z z (wl_nil (tn (wp_ret ?_)))))
 obtain rfl := some_inj hm
 refine post_ret (vs := [.bool (t174 == (1:Int))]) results9 (rvs_cons (rv_tmp z) rvs_nil) ?_
 exact ⟨_, z, hI0, hst.keep0⟩
}
 {
 replace hm := bif_f hc173 hm
 refine wo hc173 z z z z z z (wo hc173 z z z z z z (wo hc173 z z z z z z (wv (.bool false) z z (x_pick_f hc173 z z) (wv (.bool false) z z z (wl_nil (tn (wp_ret ?_)))))))
 obtain rfl := some_inj hm
 refine post_ret (vs := [.bool false]) results9 (rvs_cons (rv_tmp z) rvs_nil) ?_
 exact ⟨_, z, hI0, hst.keep0⟩
}
}
 {
 replace hm := bif_f hc167 hm
 refine wo hc167 z z z z z z (wo hc167 z z z z z z (wo hc167 z z z z z z (wv (.bool false) z z (x_pick_f hc167 z z) (wv (.bool false) z z z (wz z z z z z z (wz z z z z z z (wz z z z z z z (wv (.bool false) z z (x_pick_f z z z) (wv (.bool false) z z z (wl_nil (tn (wp_ret ?_))))))))))))
 obtain rfl := some_inj hm
 refine post_ret (vs := [.bool false]) results9 (rvs_cons (rv_tmp z) rvs_nil) ?_
 exact ⟨_, z, hI0, hst.keep0⟩
}
}
 {
 replace hm := bif_f hc161 hm
 refine wo hc161 z z z z z z (wo hc161 z z z z z z (wo hc161 z z z z z z (wv (.bool false) z z (x_pick_f hc161 z z) (wv (.bool false) z z z (wz z z z z z z (wz z z z z z z (wz z z z z z z (wv (.bool false) z z (x_pick_f z z z) (wv (.bool false) z z z (wz z z z z z z (wz z z z z z z (wz z z z z z z ?_))))))))))))
 refine wv (.bool false) z z (x_pick_f z z z) (wv (.bool false) z z z (wl_nil (tn (wp_ret ?_))))
 obtain rfl := some_inj hm
 refine post_ret (vs := [.bool false]) results9 (rvs_cons (rv_tmp z) rvs_nil) ?_
 exact ⟨_, z, hI0, hst.keep0⟩
}
}
 {
 replace hm := bif_f hc155 hm
 refine wo hc155 z z z z z z (wo hc155 z z z z z z (wo hc155 z z z z z z (wv (.bool false) z z (x_pick_f hc155 z z) (wv (.bool false) z z z (wz z z z z z z (wz z z z z z z (wz z z z z z z (wv (.bool false) z z (x_pick_f z z z) (wv (.bool false) z z z (wz z z z z z z (wz z z z z z z (wz z z z z z z ?_))))))))))))
 refine wv (.bool false) z z (x_pick_f z z z) (wv (.bool false) z z z (wz z z z z z z (wz z z z z z z (wz z z z z z z (wv (.bool false) z z (x_pick_f z z z) (wv (.bool false) z z z (wl_nil (tn (wp_ret ?_)))))))))
 obtain rfl := some_inj hm
 refine post_ret (vs := [.bool false]) results9 (rvs_cons (rv_tmp z) rvs_nil) ?_
 exact ⟨_, z, hI0, hst.keep0⟩
}
}

theorem label_Lattice_Is_ref {w0 w : World} {I : HL} {R : SP} {a0 : (Option label_Lattice)} {p0 : Value} {a1 : Int}  (hst : St w0 w I [objO at_label_Lattice p0 a0] R) {r : (Bool)} (hm : label_Lattice_Is a0 a1 = some r) :
  Calls prog 38 #[p0, I6 a1] w fun e w' => e = .returned (.bool r) ∧ St w0 w' I [objO at_label_Lattice p0 a0] R := by {
 unfold label_Lattice_Is at hm
 refine calls_start (args := [p0, I6 a1]) func38 z ntmps38 (Nat.le_of_ble_eq_true z) ?_
 refine wp_seq (wrl (wv (.bool false) z z z (wl_nil (tn (wp_seq (wrl (wv (.int .i64 a1) z z z (wv (.bool (decide (a1 ≥ (0:Int)))) z z z (wv (.bool (decide (a1 ≥ (0:Int)))) z z z ?_)))))))))
 refine bsplit (decide (a1 ≥ (0:Int))) (fun hc75 => ?_) (fun hc75 => ?_)
 {
 replace hm := bif_t hc75 hm
 refine wv (.int .i64 a1) ((wanted_eq z z z (cvb hc75)).trans z) z z (wv (p0) ((wanted_eq z z z (cvb hc75)).trans z) z z ?_)
 obtain ⟨t76, ht77, hm⟩ := bind_some hm
 refine wl_call ((wanted_eq z z z (cvb hc75)).trans z) z (x_call call40 z (vs := [p0]) z) ?_
 refine (label_Lattice_Len_ref hst.to1 ht77).mono ?_
 rintro _ w78 ⟨rfl, hst⟩
 refine ⟨_, z, ?_⟩
 replace hst := hst.of1
 refine wv (.bool (decide (a1 < t76))) ((wanted_eq z z z (cvb hc75)).trans z) z z (wv (.bool (decide (a1 < t76))) z z (x_pick_t hc75 z z) (wv (.bool (decide (a1 < t76))) z z z (wl_nil (tn (wp_ret ?_)))))
 obtain rfl := some_inj hm
 refine post_ret (vs := [.bool (decide (a1 < t76))]) results38 (rvs_cons (rv_tmp z) rvs_nil) ?_
 exact ⟨z, hst.keep1⟩
}
 {
 replace hm := bif_f hc75 hm
 refine wo hc75 z z z z z z (wo hc75 z z z z z z (wo hc75 z z z z z z (wo hc75 z z z z z z (wv (.bool false) z z (x_pick_f hc75 z z) (wv (.bool false) z z z (wl_nil (tn (wp_ret ?_))))))))
 obtain rfl := some_inj hm
 refine post_ret (vs := [.bool false]) results38 (rvs_cons (rv_tmp z) rvs_nil) ?_
 exact ⟨z, hst.keep1⟩
}
}

theorem config_Plan_Rule_ref {w0 w : World} {I : HL} {R : SP} {a0 : (Option config_Plan)} {p0 : Value} {a1 : api_Rule}  (hst : St w0 w I [objO at_config_Plan p0 a0] R) {r : (Bool)} (hm : config_Plan_Rule a0 a1 = some r) :
  Calls prog 15 #[p0, .agg #[U6 a1.ID, I6 a1.From, I6 a1.To, F6 a1.Lo, F6 a1.Hi, U6 a1.Authority, I6 a1.Quota]] w fun e w' => e = .returned (.bool r) ∧ St w0 w' I [objO at_config_Plan p0 a0] R := by {
 rcases a0 with _ | o0
 {
 obtain ⟨rfl, hst'⟩ := objO_none hst
 clear hst
 have hst := hst'
 clear hst'
 dsimp only [config_Plan_Rule] at hm
 refine calls_start (args := [.pointer none, .agg #[U6 a1.ID, I6 a1.From, I6 a1.To, F6 a1.Lo, F6 a1.Hi, U6 a1.Authority, I6 a1.Quota]]) func15 z ntmps15 (Nat.le_of_ble_eq_true z) ?_
 refine wp_seq (wrl ?_)
 obtain ⟨b102, w103, ew104, eb105, hst⟩ := hst.box [U6 a1.ID, I6 a1.From, I6 a1.To, F6 a1.Lo, F6 a1.Hi, U6 a1.Authority, I6 a1.Quota] 39
 refine wl_run (v := Pt b102 0) (w' := w103) z z (x_al (by kernel_rfl) ew104 eb105) ?_
 refine wv (.bool false) z z z (wl_nil (tn (wp_seq ?_)))
 refine wp_region_St hst 46 [0, 1, 2, 3, 4, 5, 6, 7, 8, 9, 10, 11, 12, 13, 14, 15, 16, 17, 18, 19, 20, 21, 22, 23, 24, 25, 26, 27, 28, 29, 30, 31, 32, 33, 34, 35, 36, 37, 38, 39, 40, 41, 42, 43, 44, 45] [0, 1, 3, 7, 15, 31, 63, 7, 135, 511, 1023, 2047, 4095, 8191, 16383, 32767, 4095, 69631, 262143, 524287, 1048575, 2097151, 4194303, 2097151, 10485759, 33554431, 67108863, 134217727, 268435455, 536870911, 268435455, 1342177279, 4294967295, 8589934591, 17179869183, 34359738367, 68719476735, 137438953471, 274877906943, 549755813887, 1099511627775, 2199023255551, 4398046511103, 8796093022207, 17592186044415, 35184372088831] [] z (by kernel_rfl) (by kernel_rfl) Try.mixed (by kernel_rfl) ?_
 refine wsr (.pointer none) 0 z z z (by kernel_rfl) (fun w hst => z) (wsr (.bool false) 1 z z z (by kernel_rfl) (fun w hst => by kernel_rfl) (wsr (.bool false) 2 z z z (by kernel_rfl) (fun w hst => z) (ws_q (v := undef) 3 [4, 5, 6, 7, 8, 9, 10, 11, 12, 13, 14, 15, 16, 17, 18, 19, 20, 21, 22, 23, 24, 25, 26, 27, 28, 29, 30, 31, 32, 33, 34, 35, 36, 37, 38, 39, 40, 41, 42, 43, 44, 45] (by kernel_rfl) z z (yi_off ((wanted_eq z z z z).trans z)) (ws_q (v := undef) 4 [5, 6, 7, 8, 9, 10, 11, 12, 13, 14, 15, 16, 17, 18, 19, 20, 21, 22, 23, 24, 25, 26, 27, 28, 29, 30, 31, 32, 33, 34, 35, 36, 37, 38, 39, 40, 41, 42, 43, 44, 45] (by kernel_rfl) z z (yi_off ((wanted_eq z z z z).trans z)) (ws_q (v := undef) 5 [6, 7, 8, 9, 10, 11, 12, 13, 14, 15, 16, 17, 18, 19, 20, 21, 22, 23, 24, 25, 26, 27, 28, 29, 30, 31, 32, 33, 34, 35, 36, 37, 38, 39, 40, 41, 42, 43, 44, 45] (by kernel_rfl) z z (yi_off ((wanted_eq z z z z).trans z)) (ws_q (v := undef) 6 [7, 8, 9, 10, 11, 12, 13, 14, 15, 16, 17, 18, 19, 20, 21, 22, 23, 24, 25, 26, 27, 28, 29, 30, 31, 32, 33, 34, 35, 36, 37, 38, 39, 40, 41, 42, 43, 44, 45] (by kernel_rfl) z z (yi_off ((wanted_eq z z z z).trans z)) (ws_q (v := undef) 7 [8, 9, 10, 11, 12, 13, 14, 15, 16, 17, 18, 19, 20, 21, 22, 23, 24, 25, 26, 27, 28, 29, 30, 31, 32, 33, 34, 35, 36, 37, 38, 39, 40, 41, 42, 43, 44, 45] (by kernel_rfl) z z (yi_off ((wanted_eq z z z z).trans z)) (ws_q (v := undef) 8 [9, 10, 11, 12, 13, 14, 15, 16, 17, 18, 19, 20, 21, 22, 23, 24, 25, 26, 27, 28, 29, 30, 31, 32, 33, 34, 35, 36, 37, 38, 39, 40, 41, 42, 43, 44, 45] (by kernel_rfl) z z (yi_off ((wanted_eq z z z z).trans z)) (ws_q (v := undef) 9 [10, 11, 12, 13, 14, 15, 16, 17, 18, 19, 20, 21, 22, 23, 24, 25, 26, 27, 28, 29, 30, 31, 32, 33, 34, 35, 36, 37, 38, 39, 40, 41, 42, 43, 44, 45] (by kernel_rfl) z z (yi_off ((wanted_eq z z z z).trans z)) (wsr (.bool false) 10 z z z (by kernel_rfl) (fun w hst => x_pick_f z z z) (wsr (.bool false) 11 z z z (by kernel_rfl) (fun w hst => z) (ws_q (v := undef) 12 [13, 14, 15, 16, 17, 18, 19, 20, 21, 22, 23, 24, 25, 26, 27, 28, 29, 30, 31, 32, 33, 34, 35, 36, 37, 38, 39, 40, 41, 42, 43, 44, 45] (by kernel_rfl) z z (yi_off ((wanted_eq z z z z).trans z)) ?_))))))))))))
 refine ws_q (v := undef) 13 [14, 15, 16, 17, 18, 19, 20, 21, 22, 23, 24, 25, 26, 27, 28, 29, 30, 31, 32, 33, 34, 35, 36, 37, 38, 39, 40, 41, 42, 43, 44, 45] (by kernel_rfl) z z (yi_off ((wanted_eq z z z z).trans z)) (ws_q (v := undef) 14 [15, 16, 17, 18, 19, 20, 21, 22, 23, 24, 25, 26, 27, 28, 29, 30, 31, 32, 33, 34, 35, 36, 37, 38, 39, 40, 41, 42, 43, 44, 45] (by kernel_rfl) z z (yi_off ((wanted_eq z z z z).trans z)) (ws_q (v := undef) 15 [16, 17, 18, 19, 20, 21, 22, 23, 24, 25, 26, 27, 28, 29, 30, 31, 32, 33, 34, 35, 36, 37, 38, 39, 40, 41, 42, 43, 44, 45] (by kernel_rfl) z z (yi_off ((wanted_eq z z z z).trans z)) (ws_q (v := undef) 16 [17, 18, 19, 20, 21, 22, 23, 24, 25, 26, 27, 28, 29, 30, 31, 32, 33, 34, 35, 36, 37, 38, 39, 40, 41, 42, 43, 44, 45] (by kernel_rfl) z z (yi_off ((wanted_eq z z z z).trans z)) (ws_q (v := undef) 17 [18, 19, 20, 21, 22, 23, 24, 25, 26, 27, 28, 29, 30, 31, 32, 33, 34, 35, 36, 37, 38, 39, 40, 41, 42, 43, 44, 45] (by kernel_rfl) z z (yi_off ((wanted_eq z z z z).trans z)) (ws_q (v := undef) 18 [19, 20, 21, 22, 23, 24, 25, 26, 27, 28, 29, 30, 31, 32, 33, 34, 35, 36, 37, 38, 39, 40, 41, 42, 43, 44, 45] (by kernel_rfl) z z (yi_off ((wanted_eq z z z z).trans z)) (wsr (.bool false) 19 z z z (by kernel_rfl) (fun w hst => x_pick_f z z z) (wsr (.bool false) 20 z z z (by kernel_rfl) (fun w hst => z) (ws_q (v := undef) 21 [22, 23, 24, 25, 26, 27, 28, 29, 30, 31, 32, 33, 34, 35, 36, 37, 38, 39, 40, 41, 42, 43, 44, 45] (by kernel_rfl) z z (yi_off ((wanted_eq z z z z).trans z)) (ws_q (v := undef) 22 [23, 24, 25, 26, 27, 28, 29, 30, 31, 32, 33, 34, 35, 36, 37, 38, 39, 40, 41, 42, 43, 44, 45] (by kernel_rfl) z z (yi_off ((wanted_eq z z z z).trans z)) (ws_q (v := undef) 23 [24, 25, 26, 27, 28, 29, 30, 31, 32, 33, 34, 35, 36, 37, 38, 39, 40, 41, 42, 43, 44, 45] (by kernel_rfl) z z (yi_off ((wanted_eq z z z z).trans z)) (ws_q (v := undef) 24 [25, 26, 27, 28, 29, 30, 31, 32, 33, 34, 35, 36, 37, 38, 39, 40, 41, 42, 43, 44, 45] (by kernel_rfl) z z (yi_off ((wanted_eq z z z z).trans z)) (ws_q (v := undef) 25 [26, 27, 28, 29, 30, 31, 32, 33, 34, 35, 36, 37, 38, 39, 40, 41, 42, 43, 44, 45] (by kernel_rfl) z z (yi_off ((wanted_eq z z z z).trans z)) ?_))))))))))))
 refine wsr (.bool false) 26 z z z (by kernel_rfl) (fun w hst => x_pick_f z z z) (wsr (.bool false) 27 z z z (by kernel_rfl) (fun w hst => z) (ws_q (v := undef) 28 [29, 30, 31, 32, 33, 34, 35, 36, 37, 38, 39, 40, 41, 42, 43, 44, 45] (by kernel_rfl) z z (yi_off ((wanted_eq z z z z).trans z)) (ws_q (v := undef) 29 [30, 31, 32, 33, 34, 35, 36, 37, 38, 39, 40, 41, 42, 43, 44, 45] (by kernel_rfl) z z (yi_off ((wanted_eq z z z z).trans z)) (ws_q (v := undef) 30 [31, 32, 33, 34, 35, 36, 37, 38, 39, 40, 41, 42, 43, 44, 45] (by kernel_rfl) z z (yi_off ((wanted_eq z z z z).trans z)) (ws_q (v := undef) 31 [32, 33, 34, 35, 36, 37, 38, 39, 40, 41, 42, 43, 44, 45] (by kernel_rfl) z z (yi_off ((wanted_eq z z z z).trans z)) (ws_q (v := undef) 32 [33, 34, 35, 36, 37, 38, 39, 40, 41, 42, 43, 44, 45] (by kernel_rfl) z z (yi_off ((wanted_eq z z z z).trans z)) (ws_q (v := undef) 33 [34, 35, 36, 37, 38, 39, 40, 41, 42, 43, 44, 45] (by kernel_rfl) z z (yi_off ((wanted_eq z z z z).trans z)) (wsr (.bool false) 34 z z z (by kernel_rfl) (fun w hst => x_pick_f z z z) (wsr (.bool false) 35 z z z (by kernel_rfl) (fun w hst => z) (ws_q (v := undef) 36 [37, 38, 39, 40, 41, 42, 43, 44, 45] (by kernel_rfl) z z (yi_off ((wanted_eq z z z z).trans z)) (ws_q (v := undef) 37 [38, 39, 40, 41, 42, 43, 44, 45] (by kernel_rfl) z z (yi_off ((wanted_eq z z z z).trans z)) (ws_q (v := undef) 38 [39, 40, 41, 42, 43, 44, 45] (by kernel_rfl) z z (yi_off ((wanted_eq z z z z).trans z)) ?_))))))))))))
 refine wsr (.bool false) 39 z z z (by kernel_rfl) (fun w hst => x_pick_f z z z) (wsr (.bool false) 40 z z z (by kernel_rfl) (fun w hst => z) (ws_q (v := undef) 41 [42, 43, 44, 45] (by kernel_rfl) z z (yi_off ((wanted_eq z z z z).trans z)) (ws_q (v := undef) 42 [43, 44, 45] (by kernel_rfl) z z (yi_off ((wanted_eq z z z z).trans z)) (ws_q (v := undef) 43 [44, 45] (by kernel_rfl) z z (yi_off ((wanted_eq z z z z).trans z)) (wsr (.bool false) 44 z z z (by kernel_rfl) (fun w hst => x_pick_f z z z) (wsr (.bool false) 45 z z z (by kernel_rfl) (fun w hst => z) ?_))))))
 refine ws_nil ?_
 intro w hst
 refine tn (wp_ret ?_)
 replace hst := hst.objO_nil at_config_Plan
 obtain rfl := some_inj hm
 refine post_ret (vs := [.bool false]) results15 (rvs_cons (rv_tmp z) rvs_nil) ?_
 exact ⟨z, hst.keep1⟩
}
 {
 replace hst := objO_get hst
 dsimp only [config_Plan_Rule] at hm
 refine calls_start (args := [p0, .agg #[U6 a1.ID, I6 a1.From, I6 a1.To, F6 a1.Lo, F6 a1.Hi, U6 a1.Authority, I6 a1.Quota]]) func15 z ntmps15 (Nat.le_of_ble_eq_true z) ?_
 refine wp_seq (wrl ?_)
 obtain ⟨b107, w108, ew109, eb110, hst⟩ := hst.box [U6 a1.ID, I6 a1.From, I6 a1.To, F6 a1.Lo, F6 a1.Hi, U6 a1.Authority, I6 a1.Quota] 39
 refine wl_run (v := Pt b107 0) (w' := w108) z z (x_al (by kernel_rfl) ew109 eb110) ?_
 refine wv (.bool false) z z z (wl_nil (tn (wp_seq ?_)))
 replace hst := hst.pull1
 obtain ⟨b112, v113, v116, v119, ⟨rfl, f115, f118⟩, hst'⟩ := at_config_Plan_open hst
 clear hst
 have hst := hst'
 clear hst'
 refine wp_region_St hst 46 [0, 1, 2, 3, 4, 5, 6, 7, 8, 9, 10, 11, 12, 13, 14, 15, 16, 17, 18, 19, 20, 21, 22, 23, 24, 25, 26, 27, 28, 29, 30, 31, 32, 33, 34, 35, 36, 37, 38, 39, 40, 41, 42, 43, 44, 45] [0, 1, 3, 7, 15, 31, 63, 7, 135, 511, 1023, 2047, 4095, 8191, 16383, 32767, 4095, 69631, 262143, 524287, 1048575, 2097151, 4194303, 2097151, 10485759, 33554431, 67108863, 134217727, 268435455, 536870911, 268435455, 1342177279, 4294967295, 8589934591, 17179869183, 34359738367, 68719476735, 137438953471, 274877906943, 549755813887, 1099511627775, 2199023255551, 4398046511103, 8796093022207, 17592186044415, 35184372088831] [] z (by kernel_rfl) (by kernel_rfl) Try.mixed (by kernel_rfl) ?_
 refine wsr (Pt b112 0) 0 z z z (by kernel_rfl) (fun w hst => z) (wsr (.bool true) 1 z z z (by kernel_rfl) (fun w hst => by kernel_rfl) (wsr (.bool true) 2 z z z (by kernel_rfl) (fun w hst => z) (ws_q (v := Pt b112 0) 3 [4, 5, 6, 7, 8, 9, 10, 11, 12, 13, 14, 15, 16, 17, 18, 19, 20, 21, 22, 23, 24, 25, 26, 27, 28, 29, 30, 31, 32, 33, 34, 35, 36, 37, 38, 39, 40, 41, 42, 43, 44, 45] (by kernel_rfl) z z (yi_run ((wanted_eq z z z z).trans z) (fun w hst => z)) (ws_q (v := Pt b112 0) 4 [5, 6, 7, 8, 9, 10, 11, 12, 13, 14, 15, 16, 17, 18, 19, 20, 21, 22, 23, 24, 25, 26, 27, 28, 29, 30, 31, 32, 33, 34, 35, 36, 37, 38, 39, 40, 41, 42, 43, 44, 45] (by kernel_rfl) z z (yi_run ((wanted_eq z z z z).trans z) (fun w hst => z)) (ws_q (v := Pt b112 9) 5 [6, 7, 8, 9, 10, 11, 12, 13, 14, 15, 16, 17, 18, 19, 20, 21, 22, 23, 24, 25, 26, 27, 28, 29, 30, 31, 32, 33, 34, 35, 36, 37, 38, 39, 40, 41, 42, 43, 44, 45] (by kernel_rfl) z z (yi_run ((wanted_eq z z z z).trans z) (fun w hst => x_field z underlying64 z sizeOf60 z)) (ws_q (v := v119) 6 [7, 8, 9, 10, 11, 12, 13, 14, 15, 16, 17, 18, 19, 20, 21, 22, 23, 24, 25, 26, 27, 28, 29, 30, 31, 32, 33, 34, 35, 36, 37, 38, 39, 40, 41, 42, 43, 44, 45] (by kernel_rfl) z z (yi_run ((wanted_eq z z z z).trans z) (fun w hst => x_load z isAgg60 (hst.bc0 z))) (ws_q (v := Pt b107 1) 7 [8, 9, 10, 11, 12, 13, 14, 15, 16, 17, 18, 19, 20, 21, 22, 23, 24, 25, 26, 27, 28, 29, 30, 31, 32, 33, 34, 35, 36, 37, 38, 39, 40, 41, 42, 43, 44, 45] (by kernel_rfl) z z (yi_run ((wanted_eq z z z z).trans z) (fun w hst => x_field z underlying39 z sizeOf3 z)) (ws_q (v := .int .i64 a1.From) 8 [9, 10, 11, 12, 13, 14, 15, 16, 17, 18, 19, 20, 21, 22, 23, 24, 25, 26, 27, 28, 29, 30, 31, 32, 33, 34, 35, 36, 37, 38, 39, 40, 41, 42, 43, 44, 45] (by kernel_rfl) z z (yi_run ((wanted_eq z z z z).trans z) (fun w hst => x_load z isAgg3 (hst.bc2 z))) ?_))))))))
 refine ws_e1 9 (by kernel_rfl) ?_
 refine nxe [10, 11, 12, 13, 14, 15, 16, 17, 18, 19, 20, 21, 22, 23, 24, 25, 26, 27, 28, 29, 30, 31, 32, 33, 34, 35, 36, 37, 38, 39, 40, 41, 42, 43, 44, 45] (by kernel_rfl) z ((wanted_eq z z z z).trans z) ?_
 clear hst
 intro w hst
 replace hst := hst.pull1
 obtain ⟨t121, ht122, hm⟩ := bind_some hm
 refine wec call38 [v119, I6 a1.From] z z ?_
 refine (label_Lattice_Is_ref hst.to1 ht122).mono ?_
 rintro _ w123 ⟨rfl, hst⟩
 refine ⟨_, z, ?_⟩
 replace hst := hst.of1
 refine ws_next (pend' := []) hst (by kernel_rfl) pk_nil ?_
 refine wsr (.bool t121) 10 z z z (by kernel_rfl) (fun w hst => x_pick_t z z z) (wsr (.bool t121) 11 z z z (by kernel_rfl) (fun w hst => z) ?_)
 refine bsplit t121 (fun hc126 => ?_) (fun hc126 => ?_)
 {
 replace hm := bif_t hc126 hm
 refine ws_q (v := Pt b112 0) 12 [13, 14, 15, 16, 17, 18, 19, 20, 21, 22, 23, 24, 25, 26, 27, 28, 29, 30, 31, 32, 33, 34, 35, 36, 37, 38, 39, 40, 41, 42, 43, 44, 45] (by kernel_rfl) z z (yi_run ((wanted_eq z z z (cvb hc126)).trans z) (fun w hst => z)) (ws_q (v := Pt b112 0) 13 [14, 15, 16, 17, 18, 19, 20, 21, 22, 23, 24, 25, 26, 27, 28, 29, 30, 31, 32, 33, 34, 35, 36, 37, 38, 39, 40, 41, 42, 43, 44, 45] (by kernel_rfl) z z (yi_run ((wanted_eq z z z (cvb hc126)).trans z) (fun w hst => z)) (ws_q (v := Pt b112 9) 14 [15, 16, 17, 18, 19, 20, 21, 22, 23, 24, 25, 26, 27, 28, 29, 30, 31, 32, 33, 34, 35, 36, 37, 38, 39, 40, 41, 42, 43, 44, 45] (by kernel_rfl) z z (yi_run ((wanted_eq z z z (cvb hc126)).trans z) (fun w hst => x_field z underlying64 z sizeOf60 z)) (ws_q (v := v119) 15 [16, 17, 18, 19, 20, 21, 22, 23, 24, 25, 26, 27, 28, 29, 30, 31, 32, 33, 34, 35, 36, 37, 38, 39, 40, 41, 42, 43, 44, 45] (by kernel_rfl) z z (yi_run ((wanted_eq z z z (cvb hc126)).trans z) (fun w hst => x_load z isAgg60 (hst.bc1 z))) (ws_q (v := Pt b107 2) 16 [17, 18, 19, 20, 21, 22, 23, 24, 25, 26, 27, 28, 29, 30, 31, 32, 33, 34, 35, 36, 37, 38, 39, 40, 41, 42, 43, 44, 45] (by kernel_rfl) z z (yi_run ((wanted_eq z z z (cvb hc126)).trans z) (fun w hst => x_field z underlying39 z sizeOf3 z)) (ws_q (v := .int .i64 a1.To) 17 [18, 19, 20, 21, 22, 23, 24, 25, 26, 27, 28, 29, 30, 31, 32, 33, 34, 35, 36, 37, 38, 39, 40, 41, 42, 43, 44, 45] (by kernel_rfl) z z (yi_run ((wanted_eq z z z (cvb hc126)).trans z) (fun w hst => x_load z isAgg3 (hst.bc2 z))) ?_)))))
 refine ws_e1 18 (by kernel_rfl) ?_
 refine nxe [19, 20, 21, 22, 23, 24, 25, 26, 27, 28, 29, 30, 31, 32, 33, 34, 35, 36, 37, 38, 39, 40, 41, 42, 43, 44, 45] (by kernel_rfl) z ((wanted_eq z z z (cvb hc126)).trans z) ?_
 clear hst
 intro w hst
 obtain ⟨t127, ht128, hm⟩ := bind_some hm
 refine wec call38 [v119, I6 a1.To] z z ?_
 refine (label_Lattice_Is_ref hst.to1 ht128).mono ?_
 rintro _ w129 ⟨rfl, hst⟩
 refine ⟨_, z, ?_⟩
 replace hst := hst.of1
 refine ws_next (pend' := []) hst (by kernel_rfl) pk_nil ?_
 refine wsr (.bool t127) 19 z z z (by kernel_rfl) (fun w hst => x_pick_t hc126 z z) (wsr (.bool t127) 20 z z z (by kernel_rfl) (fun w hst => z) ?_)
 refine bsplit t127 (fun hc132 => ?_) (fun hc132 => ?_)
 {
 replace hm := bif_t hc132 hm
 refine ws_q (v := Pt b107 1) 21 [22, 23, 24, 25, 26, 27, 28, 29, 30, 31, 32, 33, 34, 35, 36, 37, 38, 39, 40, 41, 42, 43, 44, 45] (by kernel_rfl) z z (yi_run ((wanted_eq z z z (cvb hc132)).trans z) (fun w hst => x_field z underlying39 z sizeOf3 z)) (ws_q (v := .int .i64 a1.From) 22 [23, 24, 25, 26, 27, 28, 29, 30, 31, 32, 33, 34, 35, 36, 37, 38, 39, 40, 41, 42, 43, 44, 45] (by kernel_rfl) z z (yi_run ((wanted_eq z z z (cvb hc132)).trans z) (fun w hst => x_load z isAgg3 (hst.bc2 z))) (ws_q (v := Pt b107 2) 23 [24, 25, 26, 27, 28, 29, 30, 31, 32, 33, 34, 35, 36, 37, 38, 39, 40, 41, 42, 43, 44, 45] (by kernel_rfl) z z (yi_run ((wanted_eq z z z (cvb hc132)).trans z) (fun w hst => x_field z underlying39 z sizeOf3 z)) (ws_q (v := .int .i64 a1.To) 24 [25, 26, 27, 28, 29, 30, 31, 32, 33, 34, 35, 36, 37, 38, 39, 40, 41, 42, 43, 44, 45] (by kernel_rfl) z z (yi_run ((wanted_eq z z z (cvb hc132)).trans z) (fun w hst => x_load z isAgg3 (hst.bc2 z))) (ws_q (v := .bool (a1.From != a1.To)) 25 [26, 27, 28, 29, 30, 31, 32, 33, 34, 35, 36, 37, 38, 39, 40, 41, 42, 43, 44, 45] (by kernel_rfl) z z (yi_run ((wanted_eq z z z (cvb hc132)).trans z) (fun w hst => z)) (wsr (.bool (a1.From != a1.To)) 26 z z z (by kernel_rfl) (fun w hst => x_pick_t hc132 z z) (wsr (.bool (a1.From != a1.To)) 27 z z z (by kernel_rfl) (fun w hst => z) ?_))))))
 refine bsplit (a1.From != a1.To) (fun hc133 => ?_) (fun hc133 => ?_)
 {
 replace hm := bif_t hc133 hm
 refine ws_q (v := Pt b107 4) 28 [29, 30, 31, 32, 33, 34, 35, 36, 37, 38, 39, 40, 41, 42, 43, 44, 45] (by kernel_rfl) z z (yi_run ((wanted_eq z z z (cvb hc133)).trans z) (fun w hst => x_field z underlying39 z sizeOf36 z)) (ws_q (v := .float .f64 a1.Hi) 29 [30, 31, 32, 33, 34, 35, 36, 37, 38, 39, 40, 41, 42, 43, 44, 45] (by kernel_rfl) z z (yi_run ((wanted_eq z z z (cvb hc133)).trans z) (fun w hst => x_load z isAgg36 (hst.bc2 z))) (ws_q (v := Pt b107 3) 30 [31, 32, 33, 34, 35, 36, 37, 38, 39, 40, 41, 42, 43, 44, 45] (by kernel_rfl) z z (yi_run ((wanted_eq z z z (cvb hc133)).trans z) (fun w hst => x_field z underlying39 z sizeOf36 z)) (ws_q (v := .float .f64 a1.Lo) 31 [32, 33, 34, 35, 36, 37, 38, 39, 40, 41, 42, 43, 44, 45] (by kernel_rfl) z z (yi_run ((wanted_eq z z z (cvb hc133)).trans z) (fun w hst => x_load z isAgg36 (hst.bc2 z))) ?_)))
 refine ws_e1 32 (by kernel_rfl) ?_
 refine nxe [33, 34, 35, 36, 37, 38, 39, 40, 41, 42, 43, 44, 45] (by kernel_rfl) z ((wanted_eq z z z (cvb hc133)).trans z) ?_
 clear hst
 intro w hst
 obtain ⟨t134, ht135, hm⟩ := bind_some hm
 refine wec call39 [F6 a1.Hi, F6 a1.Lo] z z ?_
 refine (number_Less_ref hst.to0 ht135).mono ?_
 rintro _ w136 ⟨rfl, hst⟩
 refine ⟨_, z, ?_⟩
 replace hst := hst.of0
 refine ws_next (pend' := []) hst (by kernel_rfl) pk_nil ?_
 refine ws_q (v := .bool (!t134)) 33 [34, 35, 36, 37, 38, 39, 40, 41, 42, 43, 44, 45] (by kernel_rfl) z z (yi_run ((wanted_eq z z z (cvb hc133)).trans z) (fun w hst => z)) (wsr (.bool (!t134)) 34 z z z (by kernel_rfl) (fun w hst => x_pick_t hc133 z z) (wsr (.bool (!t134)) 35 z z z (by kernel_rfl) (fun w hst => z) ?_))
 refine bsplit (!t134) (fun hc139 => ?_) (fun hc139 => ?_)
 {
 replace hm := bif_t hc139 hm
 refine ws_q (v := Pt b107 6) 36 [37, 38, 39, 40, 41, 42, 43, 44, 45] (by kernel_rfl) z z (yi_run ((wanted_eq z z z (cvb hc139)).trans z) (fun w hst => x_field z underlying39 z sizeOf3 z)) (ws_q (v := .int .i64 a1.Quota) 37 [38, 39, 40, 41, 42, 43, 44, 45] (by kernel_rfl) z z (yi_run ((wanted_eq z z z (cvb hc139)).trans z) (fun w hst => x_load z isAgg3 (hst.bc2 z))) (ws_q (v := .bool (decide (a1.Quota ≥ (0:Int)))) 38 [39, 40, 41, 42, 43, 44, 45] (by kernel_rfl) z z (yi_run ((wanted_eq z z z (cvb hc139)).trans z) (fun w hst => z)) (wsr (.bool (decide (a1.Quota ≥ (0:Int)))) 39 z z z (by kernel_rfl) (fun w hst => x_pick_t hc139 z z) (wsr (.bool (decide (a1.Quota ≥ (0:Int)))) 40 z z z (by kernel_rfl) (fun w hst => z) ?_))))
 refine bsplit (decide (a1.Quota ≥ (0:Int))) (fun hc140 => ?_) (fun hc140 => ?_)
 {
 replace hm := bif_t hc140 hm
 refine ws_q (v := Pt b107 6) 41 [42, 43, 44, 45] (by kernel_rfl) z z (yi_run ((wanted_eq z z z (cvb hc140)).trans z) (fun w hst => x_field z underlying39 z sizeOf3 z)) (ws_q (v := .int .i64 a1.Quota) 42 [43, 44, 45] (by kernel_rfl) z z (yi_run ((wanted_eq z z z (cvb hc140)).trans z) (fun w hst => x_load z isAgg3 (hst.bc2 z))) (ws_q (v := .bool (decide (a1.Quota ≤ (65536:Int)))) 43 [44, 45] (by kernel_rfl) z z (yi_run ((wanted_eq z z z (cvb hc140)).trans z) (fun w hst => z)) (wsr (.bool (decide (a1.Quota ≤ (65536:Int)))) 44 z z z (by kernel_rfl) (fun w hst => x_pick_t hc140 z z) (wsr (.bool (decide (a1.Quota ≤ (65536:Int)))) 45 z z z (by kernel_rfl) (fun w hst => z) ?_))))
 refine ws_nil ?_
 intro w hst
 refine tn (wp_ret ?_)
 replace hst := hst.pull1
 replace hst := at_config_Plan_close (pv := Pt b112 0) (x := o0) hst ⟨z, f115, f118⟩
 replace hst := objO_some hst
 obtain rfl := some_inj hm
 refine post_ret (vs := [.bool (decide (a1.Quota ≤ (65536:Int)))]) results15 (rvs_cons (rv_tmp z) rvs_nil) ?_
 exact ⟨z, hst.keep1⟩
}
 {
 replace hm := bif_f hc140 hm
 refine ws_q (v := undef) 41 [42, 43, 44, 45] (by kernel_rfl) z z (yi_off ((wanted_eq z z z (cvb hc140)).trans z)) (ws_q (v := undef) 42 [43, 44, 45] (by kernel_rfl) z z (yi_off ((wanted_eq z z z (cvb hc140)).trans z)) (ws_q (v := undef) 43 [44, 45] (by kernel_rfl) z z (yi_off ((wanted_eq z z z (cvb hc140)).trans z)) (wsr (.bool false) 44 z z z (by kernel_rfl) (fun w hst => x_pick_f hc140 z z) (wsr (.bool false) 45 z z z (by kernel_rfl) (fun w hst => z) ?_))))
 refine ws_nil ?_
 intro w hst
 refine tn (wp_ret ?_)
 replace hst := hst.pull1
 replace hst := at_config_Plan_close (pv := Pt b112 0) (x := o0) hst ⟨z, f115, f118⟩
 replace hst := objO_some hst
 obtain rfl := some_inj hm
 refine post_ret (vs := [.bool false]) results15 (rvs_cons (rv_tmp z) rvs_nil) ?_
 exact ⟨z, hst.keep1⟩
}
}
 {
 replace hm := bif_f hc139 hm
 refine ws_q (v := undef) 36 [37, 38, 39, 40, 41, 42, 43, 44, 45] (by kernel_rfl) z z (yi_off ((wanted_eq z z z (cvb hc139)).trans z)) (ws_q (v := undef) 37 [38, 39, 40, 41, 42, 43, 44, 45] (by kernel_rfl) z z (yi_off ((wanted_eq z z z (cvb hc139)).trans z)) (ws_q (v := undef) 38 [39, 40, 41, 42, 43, 44, 45] (by kernel_rfl) z z (yi_off ((wanted_eq z z z (cvb hc139)).trans z)) (wsr (.bool false) 39 z z z (by kernel_rfl) (fun w hst => x_pick_f hc139 z z) (wsr (.bool false) 40 z z z (by kernel_rfl) (fun w hst => z) (ws_q (v := undef) 41 [42, 43, 44, 45] (by kernel_rfl) z z (yi_off ((wanted_eq z z z z).trans z)) (ws_q (v := undef) 42 [43, 44, 45] (by kernel_rfl) z z (yi_off ((wanted_eq z z z z).trans z)) (ws_q (v := undef) 43 [44, 45] (by kernel_rfl) z z (yi_off ((wanted_eq z z z z).trans z)) (wsr (.bool false) 44 z z z (by kernel_rfl) (fun w hst => x_pick_f z z z) (wsr (.bool false) 45 z z z (by kernel_rfl) (fun w hst => z) ?_)))))))))
 refine ws_nil ?_
 intro w hst
 refine tn (wp_ret ?_)
 replace hst := hst.pull1
 replace hst := at_config_Plan_close (pv := Pt b112 0) (x := o0) hst ⟨z, f115, f118⟩
 replace hst := objO_some hst
 obtain rfl := some_inj hm
 refine post_ret (vs := [.bool false]) results15 (rvs_cons (rv_tmp z) rvs_nil) ?_
 exact ⟨z, hst.keep1⟩
}
}
 {
 replace hm := bif_f hc133 hm
 refine ws_q (v := undef) 28 [29, 30, 31, 32, 33, 34, 35, 36, 37, 38, 39, 40, 41, 42, 43, 44, 45] (by kernel_rfl) z z (yi_off ((wanted_eq z z z (cvb hc133)).trans z)) (ws_q (v := undef) 29 [30, 31, 32, 33, 34, 35, 36, 37, 38, 39, 40, 41, 42, 43, 44, 45] (by kernel_rfl) z z (yi_off ((wanted_eq z z z (cvb hc133)).trans z)) (ws_q (v := undef) 30 [31, 32, 33, 34, 35, 36, 37, 38, 39, 40, 41, 42, 43, 44, 45] (by kernel_rfl) z z (yi_off ((wanted_eq z z z (cvb hc133)).trans z)) (ws_q (v := undef) 31 [32, 33, 34, 35, 36, 37, 38, 39, 40, 41, 42, 43, 44, 45] (by kernel_rfl) z z (yi_off ((wanted_eq z z z (cvb hc133)).trans z)) (ws_q (v := undef) 32 [33, 34, 35, 36, 37, 38, 39, 40, 41, 42, 43, 44, 45] (by kernel_rfl) z z (yi_off ((wanted_eq z z z (cvb hc133)).trans z)) (ws_q (v := undef) 33 [34, 35, 36, 37, 38, 39, 40, 41, 42, 43, 44, 45] (by kernel_rfl) z z (yi_off ((wanted_eq z z z (cvb hc133)).trans z)) (wsr (.bool false) 34 z z z (by kernel_rfl) (fun w hst => x_pick_f hc133 z z) (wsr (.bool false) 35 z z z (by kernel_rfl) (fun w hst => z) (ws_q (v := undef) 36 [37, 38, 39, 40, 41, 42, 43, 44, 45] (by kernel_rfl) z z (yi_off ((wanted_eq z z z z).trans z)) (ws_q (v := undef) 37 [38, 39, 40, 41, 42, 43, 44, 45] (by kernel_rfl) z z (yi_off ((wanted_eq z z z z).trans z)) (ws_q (v := undef) 38 [39, 40, 41, 42, 43, 44, 45] (by kernel_rfl) z z (yi_off ((wanted_eq z z z z).trans z)) (wsr (.bool false) 39 z z z (by kernel_rfl) (fun w hst => x_pick_f z z z) (wsr (.bool false) 40 z z z (by kernel_rfl) (fun w hst => z) ?_))))))))))))
 refine ws_q (v := undef) 41 [42, 43, 44, 45] (by kernel_rfl) z z (yi_off ((wanted_eq z z z z).trans z)) (ws_q (v := undef) 42 [43, 44, 45] (by kernel_rfl) z z (yi_off ((wanted_eq z z z z).trans z)) (ws_q (v := undef) 43 [44, 45] (by kernel_rfl) z z (yi_off ((wanted_eq z z z z).trans z)) (wsr (.bool false) 44 z z z (by kernel_rfl) (fun w hst => x_pick_f z z z) (wsr (.bool false) 45 z z z (by kernel_rfl) (fun w hst => z) ?_))))
 refine ws_nil ?_
 intro w hst
 refine tn (wp_ret ?_)
 replace hst := hst.pull1
 replace hst := at_config_Plan_close (pv := Pt b112 0) (x := o0) hst ⟨z, f115, f118⟩
 replace hst := objO_some hst
 obtain rfl := some_inj hm
 refine post_ret (vs := [.bool false]) results15 (rvs_cons (rv_tmp z) rvs_nil) ?_
 exact ⟨z, hst.keep1⟩
}
}
 {
 replace hm := bif_f hc132 hm
 refine ws_q (v := undef) 21 [22, 23, 24, 25, 26, 27, 28, 29, 30, 31, 32, 33, 34, 35, 36, 37, 38, 39, 40, 41, 42, 43, 44, 45] (by kernel_rfl) z z (yi_off ((wanted_eq z z z (cvb hc132)).trans z)) (ws_q (v := undef) 22 [23, 24, 25, 26, 27, 28, 29, 30, 31, 32, 33, 34, 35, 36, 37, 38, 39, 40, 41, 42, 43, 44, 45] (by kernel_rfl) z z (yi_off ((wanted_eq z z z (cvb hc132)).trans z)) (ws_q (v := undef) 23 [24, 25, 26, 27, 28, 29, 30, 31, 32, 33, 34, 35, 36, 37, 38, 39, 40, 41, 42, 43, 44, 45] (by kernel_rfl) z z (yi_off ((wanted_eq z z z (cvb hc132)).trans z)) (ws_q (v := undef) 24 [25, 26, 27, 28, 29, 30, 31, 32, 33, 34, 35, 36, 37, 38, 39, 40, 41, 42, 43, 44, 45] (by kernel_rfl) z z (yi_off ((wanted_eq z z z (cvb hc132)).trans z)) (ws_q (v := undef) 25 [26, 27, 28, 29, 30, 31, 32, 33, 34, 35, 36, 37, 38, 39, 40, 41, 42, 43, 44, 45] (by kernel_rfl) z z (yi_off ((wanted_eq z z z (cvb hc132)).trans z)) (wsr (.bool false) 26 z z z (by kernel_rfl) (fun w hst => x_pick_f hc132 z z) (wsr (.bool false) 27 z z z (by kernel_rfl) (fun w hst => z) (ws_q (v := undef) 28 [29, 30, 31, 32, 33, 34, 35, 36, 37, 38, 39, 40, 41, 42, 43, 44, 45] (by kernel_rfl) z z (yi_off ((wanted_eq z z z z).trans z)) (ws_q (v := undef) 29 [30, 31, 32, 33, 34, 35, 36, 37, 38, 39, 40, 41, 42, 43, 44, 45] (by kernel_rfl) z z (yi_off ((wanted_eq z z z z).trans z)) (ws_q (v := undef) 30 [31, 32, 33, 34, 35, 36, 37, 38, 39, 40, 41, 42, 43, 44, 45] (by kernel_rfl) z z (yi_off ((wanted_eq z z z z).trans z)) (ws_q (v := undef) 31 [32, 33, 34, 35, 36, 37, 38, 39, 40, 41, 42, 43, 44, 45] (by kernel_rfl) z z (yi_off ((wanted_eq z z z z).trans z)) (ws_q (v := undef) 32 [33, 34, 35, 36, 37, 38, 39, 40, 41, 42, 43, 44, 45] (by kernel_rfl) z z (yi_off ((wanted_eq z z z z).trans z)) (ws_q (v := undef) 33 [34, 35, 36, 37, 38, 39, 40, 41, 42, 43, 44, 45] (by kernel_rfl) z z (yi_off ((wanted_eq z z z z).trans z)) ?_))))))))))))
 refine wsr (.bool false) 34 z z z (by kernel_rfl) (fun w hst => x_pick_f z z z) (wsr (.bool false) 35 z z z (by kernel_rfl) (fun w hst => z) (ws_q (v := undef) 36 [37, 38, 39, 40, 41, 42, 43, 44, 45] (by kernel_rfl) z z (yi_off ((wanted_eq z z z z).trans z)) (ws_q (v := undef) 37 [38, 39, 40, 41, 42, 43, 44, 45] (by kernel_rfl) z z (yi_off ((wanted_eq z z z z).trans z)) (ws_q (v := undef) 38 [39, 40, 41, 42, 43, 44, 45] (by kernel_rfl) z z (yi_off ((wanted_eq z z z z).trans z)) (wsr (.bool false) 39 z z z (by kernel_rfl) (fun w hst => x_pick_f z z z) (wsr (.bool false) 40 z z z (by kernel_rfl) (fun w hst => z) (ws_q (v := undef) 41 [42, 43, 44, 45] (by kernel_rfl) z z (yi_off ((wanted_eq z z z z).trans z)) (ws_q (v := undef) 42 [43, 44, 45] (by kernel_rfl) z z (yi_off ((wanted_eq z z z z).trans z)) (ws_q (v := undef) 43 [44, 45] (by kernel_rfl) z z (yi_off ((wanted_eq z z z z).trans z)) (wsr (.bool false) 44 z z z (by kernel_rfl) (fun w hst => x_pick_f z z z) (wsr (.bool false) 45 z z z (by kernel_rfl) (fun w hst => z) ?_)))))))))))
 refine ws_nil ?_
 intro w hst
 refine tn (wp_ret ?_)
 replace hst := hst.pull1
 replace hst := at_config_Plan_close (pv := Pt b112 0) (x := o0) hst ⟨z, f115, f118⟩
 replace hst := objO_some hst
 obtain rfl := some_inj hm
 refine post_ret (vs := [.bool false]) results15 (rvs_cons (rv_tmp z) rvs_nil) ?_
 exact ⟨z, hst.keep1⟩
}
}
 {
 replace hm := bif_f hc126 hm
 refine ws_q (v := undef) 12 [13, 14, 15, 16, 17, 18, 19, 20, 21, 22, 23, 24, 25, 26, 27, 28, 29, 30, 31, 32, 33, 34, 35, 36, 37, 38, 39, 40, 41, 42, 43, 44, 45] (by kernel_rfl) z z (yi_off ((wanted_eq z z z (cvb hc126)).trans z)) (ws_q (v := undef) 13 [14, 15, 16, 17, 18, 19, 20, 21, 22, 23, 24, 25, 26, 27, 28, 29, 30, 31, 32, 33, 34, 35, 36, 37, 38, 39, 40, 41, 42, 43, 44, 45] (by kernel_rfl) z z (yi_off ((wanted_eq z z z (cvb hc126)).trans z)) (ws_q (v := undef) 14 [15, 16, 17, 18, 19, 20, 21, 22, 23, 24, 25, 26, 27, 28, 29, 30, 31, 32, 33, 34, 35, 36, 37, 38, 39, 40, 41, 42, 43, 44, 45] (by kernel_rfl) z z (yi_off ((wanted_eq z z z (cvb hc126)).trans z)) (ws_q (v := undef) 15 [16, 17, 18, 19, 20, 21, 22, 23, 24, 25, 26, 27, 28, 29, 30, 31, 32, 33, 34, 35, 36, 37, 38, 39, 40, 41, 42, 43, 44, 45] (by kernel_rfl) z z (yi_off ((wanted_eq z z z (cvb hc126)).trans z)) (ws_q (v := undef) 16 [17, 18, 19, 20, 21, 22, 23, 24, 25, 26, 27, 28, 29, 30, 31, 32, 33, 34, 35, 36, 37, 38, 39, 40, 41, 42, 43, 44, 45] (by kernel_rfl) z z (yi_off ((wanted_eq z z z (cvb hc126)).trans z)) (ws_q (v := undef) 17 [18, 19, 20, 21, 22, 23, 24, 25, 26, 27, 28, 29, 30, 31, 32, 33, 34, 35, 36, 37, 38, 39, 40, 41, 42, 43, 44, 45] (by kernel_rfl) z z (yi_off ((wanted_eq z z z (cvb hc126)).trans z)) (ws_q (v := undef) 18 [19, 20, 21, 22, 23, 24, 25, 26, 27, 28, 29, 30, 31, 32, 33, 34, 35, 36, 37, 38, 39, 40, 41, 42, 43, 44, 45] (by kernel_rfl) z z (yi_off ((wanted_eq z z z (cvb hc126)).trans z)) (wsr (.bool false) 19 z z z (by kernel_rfl) (fun w hst => x_pick_f hc126 z z) (wsr (.bool false) 20 z z z (by kernel_rfl) (fun w hst => z) (ws_q (v := undef) 21 [22, 23, 24, 25, 26, 27, 28, 29, 30, 31, 32, 33, 34, 35, 36, 37, 38, 39, 40, 41, 42, 43, 44, 45] (by kernel_rfl) z z (yi_off ((wanted_eq z z z z).trans z)) (ws_q (v := undef) 22 [23, 24, 25, 26, 27, 28, 29, 30, 31, 32, 33, 34, 35, 36, 37, 38, 39, 40, 41, 42, 43, 44, 45] (by kernel_rfl) z z (yi_off ((wanted_eq z z z z).trans z)) (ws_q (v := undef) 23 [24, 25, 26, 27, 28, 29, 30, 31, 32, 33, 34, 35, 36, 37, 38, 39, 40, 41, 42, 43, 44, 45] (by kernel_rfl) z z (yi_off ((wanted_eq z z z z).trans z)) (ws_q (v := undef) 24 [25, 26, 27, 28, 29, 30, 31, 32, 33, 34, 35, 36, 37, 38, 39, 40, 41, 42, 43, 44, 45] (by kernel_rfl) z z (yi_off ((wanted_eq z z z z).trans z)) ?_))))))))))))
 refine ws_q (v := undef) 25 [26, 27, 28, 29, 30, 31, 32, 33, 34, 35, 36, 37, 38, 39, 40, 41, 42, 43, 44, 45] (by kernel_rfl) z z (yi_off ((wanted_eq z z z z).trans z)) (wsr (.bool false) 26 z z z (by kernel_rfl) (fun w hst => x_pick_f z z z) (wsr (.bool false) 27 z z z (by kernel_rfl) (fun w hst => z) (ws_q (v := undef) 28 [29, 30, 31, 32, 33, 34, 35, 36, 37, 38, 39, 40, 41, 42, 43, 44, 45] (by kernel_rfl) z z (yi_off ((wanted_eq z z z z).trans z)) (ws_q (v := undef) 29 [30, 31, 32, 33, 34, 35, 36, 37, 38, 39, 40, 41, 42, 43, 44, 45] (by kernel_rfl) z z (yi_off ((wanted_eq z z z z).trans z)) (ws_q (v := undef) 30 [31, 32, 33, 34, 35, 36, 37, 38, 39, 40, 41, 42, 43, 44, 45] (by kernel_rfl) z z (yi_off ((wanted_eq z z z z).trans z)) (ws_q (v := undef) 31 [32, 33, 34, 35, 36, 37, 38, 39, 40, 41, 42, 43, 44, 45] (by kernel_rfl) z z (yi_off ((wanted_eq z z z z).trans z)) (ws_q (v := undef) 32 [33, 34, 35, 36, 37, 38, 39, 40, 41, 42, 43, 44, 45] (by kernel_rfl) z z (yi_off ((wanted_eq z z z z).trans z)) (ws_q (v := undef) 33 [34, 35, 36, 37, 38, 39, 40, 41, 42, 43, 44, 45] (by kernel_rfl) z z (yi_off ((wanted_eq z z z z).trans z)) (wsr (.bool false) 34 z z z (by kernel_rfl) (fun w hst => x_pick_f z z z) (wsr (.bool false) 35 z z z (by kernel_rfl) (fun w hst => z) (ws_q (v := undef) 36 [37, 38, 39, 40, 41, 42, 43, 44, 45] (by kernel_rfl) z z (yi_off ((wanted_eq z z z z).trans z)) (ws_q (v := undef) 37 [38, 39, 40, 41, 42, 43, 44, 45] (by kernel_rfl) z z (yi_off ((wanted_eq z z z z).trans z)) ?_))))))))))))
 refine ws_q (v := undef) 38 [39, 40, 41, 42, 43, 44, 45] (by kernel_rfl) z z (yi_off ((wanted_eq z z z z).trans z)) (wsr (.bool false) 39 z z z (by kernel_rfl) (fun w hst => x_pick_f z z z) (wsr (.bool false) 40 z z z (by kernel_rfl) (fun w hst => z) (ws_q (v := undef) 41 [42, 43, 44, 45] (by kernel_rfl) z z (yi_off ((wanted_eq z z z z).trans z)) (ws_q (v := undef) 42 [43, 44, 45] (by kernel_rfl) z z (yi_off ((wanted_eq z z z z).trans z)) (ws_q (v := undef) 43 [44, 45] (by kernel_rfl) z z (yi_off ((wanted_eq z z z z).trans z)) (wsr (.bool false) 44 z z z (by kernel_rfl) (fun w hst => x_pick_f z z z) (wsr (.bool false) 45 z z z (by kernel_rfl) (fun w hst => z) ?_)))))))
 refine ws_nil ?_
 intro w hst
 refine tn (wp_ret ?_)
 replace hst := hst.pull1
 replace hst := at_config_Plan_close (pv := Pt b112 0) (x := o0) hst ⟨z, f115, f118⟩
 replace hst := objO_some hst
 obtain rfl := some_inj hm
 refine post_ret (vs := [.bool false]) results15 (rvs_cons (rv_tmp z) rvs_nil) ?_
 exact ⟨z, hst.keep1⟩
}
}
}

theorem law04_ConfigRules_ref {w0 w : World} {I : HL} {R : SP} {a0 : Int} {a1 : api_Rule}  (hst : St w0 w I [] R) {r : (Bool)} (hm : law04_ConfigRules a0 a1 = some r) :
  Calls prog 6 #[U1 a0, .agg #[U6 a1.ID, I6 a1.From, I6 a1.To, F6 a1.Lo, F6 a1.Hi, U6 a1.Authority, I6 a1.Quota]] w fun e w' => ∃ (I' : HL), e = .returned (.bool r) ∧ I.le I' ∧ St w0 w' I' [] R := by {
 unfold law04_ConfigRules at hm
 refine calls_start (args := [U1 a0, .agg #[U6 a1.ID, I6 a1.From, I6 a1.To, F6 a1.Lo, F6 a1.Hi, U6 a1.Authority, I6 a1.Quota]]) func6 z ntmps6 (Nat.le_of_ble_eq_true z) ?_
 have hI0 := HL.le.refl I
 refine wp_seq (wrl ?_)
 obtain ⟨b66, w67, ew68, eb69, hst⟩ := hst.box [U6 a1.ID, I6 a1.From, I6 a1.To, F6 a1.Lo, F6 a1.Hi, U6 a1.Authority, I6 a1.Quota] 39
 refine wl_run (v := Pt b66 0) (w' := w67) z z (x_al (by kernel_rfl) ew68 eb69) ?_
 refine wv (.bool false) z z z (wl_nil (tn (wp_seq (wrl (wv (.int .u8 a0) z z z ?_)))))
 obtain ⟨t71, ht72, hm⟩ := bind_some hm
 refine wc call13 [U1 a0] z z z ?_
 refine (ref04_Small_ref hst.to0 ht72).mono ?_
 rintro _ w73 ⟨v76, v78, rfl, hst⟩
 refine ⟨_, z, ?_⟩
 replace hst := hst.of2
 obtain ⟨b82, w83, ew84, eb85, hst⟩ := hst.box [Zs, Zi, Zs, Zi, Zi, Zi, Zi, Zi, Zi] 28
 refine wl_run (v := Pt b82 0) (w' := w83) z z (x_al (by kernel_rfl) ew84 eb85) ?_
 obtain ⟨w87, hr88, hst⟩ := hst.bx [v76, I6 t71.Nodes, v78, I6 t71.Frame, I6 t71.Depth, I6 t71.Quota, I6 t71.Wide, I6 t71.Beat, I6 t71.Elect] sizeOf28 z (oC (one_of_sliceV hst.sv1) (oC z (oC (one_of_sliceV hst.sv2) (oC z (oC z (oC z (oC z (oC z (oC z oN))))))))) (by kernel_rfl)
 refine wl_unit z z (x_unit hr88) ?_
 refine wl_nil (tn (wp_seq (wrl (wv (.agg #[v76, I6 t71.Nodes, v78, I6 t71.Frame, I6 t71.Depth, I6 t71.Quota, I6 t71.Wide, I6 t71.Beat, I6 t71.Elect]) z z (x_loadN (cs := [v76, I6 t71.Nodes, v78, I6 t71.Frame, I6 t71.Depth, I6 t71.Quota, I6 t71.Wide, I6 t71.Beat, I6 t71.Elect]) z isAgg28 sizeOf28 (hst.bcs0 0 z)) ?_))))
 replace hst := hst.pull1
 obtain ⟨I89, hI90, f91, hst⟩ := hst.own_fix
 replace hI0 := hI0.trans hI90
 replace hst := hst.pull1
 obtain ⟨I92, hI93, f94, hst⟩ := hst.own_fix
 replace f91 := f91.mono (ro_le hI93)
 replace hI0 := hI0.trans hI93
 obtain ⟨t95, ht96, hm⟩ := bind_some hm
 refine wc call11 [.agg #[v76, I6 t71.Nodes, v78, I6 t71.Frame, I6 t71.Depth, I6 t71.Quota, I6 t71.Wide, I6 t71.Beat, I6 t71.Elect]] z z z ?_
 refine (config_New_ref f91 f94 hst.to0 ht96).mono ?_
 rintro _ w97 ⟨I98, v100, rfl, hI99, hst⟩
 refine ⟨_, z, ?_⟩
 replace hst := hst.of1
 replace f91 := f91.mono (ro_le hI99)
 replace f94 := f94.mono (ro_le hI99)
 replace hI0 := hI0.trans hI99
 refine wv (.tuple #[v100, I6 t95.2]) z z z (wv (v100) z z z (wv (.int .i64 t95.2) z z z (wv (v100) z z z (wv (.int .i64 t95.2) z z z (wl_nil (tn (wp_seq (wrl (wv (Pt b82 0) z z (x_field z underlying28 z sizeOf25 z) (wv (v76) z z (x_load z isAgg25 (hst.bc1 z)) (wv (.int .i64 ((t71.Up).length : Int)) z z (x_len z underlying25 (ro_sliceV f91)) (wv (.int .i64 ((t71.Up).length : Int)) z z z (wl_nil (tn ?_))))))))))))))
 obtain ⟨y117, hm, hx118⟩ := bind_some hm
 refine wp_cut (fun a w => ∃ (z114 : Bool) (σ115 : Nat → Value), (law04_ConfigRules_j0 t95 a1) z114 = some r ∧ a = Fr 73 (upd (upd (upd σ115 3 (Pt b66 0)) 6 (v100)) 9 (.bool z114)) ∧ St w0 w I98 [cells b66 [U6 a1.ID, I6 a1.From, I6 a1.To, F6 a1.Lo, F6 a1.Hi, U6 a1.Authority, I6 a1.Quota], objO at_config_Plan v100 t95.1] R) ?_ ?_
 {
 refine wrl (wv (Pt b66 1) z z (x_field z underlying39 z sizeOf3 z) (wv (.int .i64 a1.From) z z (x_load z isAgg3 (hst.bc2 z)) (wv (.bool (decide (a1.From ≥ (0:Int)))) z z z (wv (.bool (decide (a1.From ≥ (0:Int)))) z z z ?_))))
 refine bsplit (decide (a1.From ≥ (0:Int))) (fun hc102 => ?_) (fun hc102 => ?_)
 {
 replace hm := bif_t hc102 hm
 refine wv (Pt b66 1) ((wanted_eq z z z (cvb hc102)).trans z) z (x_field z underlying39 z sizeOf3 z) (wv (.int .i64 a1.From) ((wanted_eq z z z (cvb hc102)).trans z) z (x_load z isAgg3 (hst.bc2 z)) (wv (.int .i64 ((t71.Up).length : Int)) ((wanted_eq z z z (cvb hc102)).trans z) z z (wv (.bool (decide (a1.From < ((t71.Up).length : Int)))) ((wanted_eq z z z (cvb hc102)).trans z) z z (wv (.bool (decide (a1.From < ((t71.Up).length : Int)))) z z (x_pick_t hc102 z z) (wv (.bool (decide (a1.From < ((t71.Up).length : Int)))) z z z ?_)))))
 refine bsplit (decide (a1.From < ((t71.Up).length : Int))) (fun hc103 => ?_) (fun hc103 => ?_)
 {
 replace hm := bif_t hc103 hm
 refine wv (Pt b66 2) ((wanted_eq z z z (cvb hc103)).trans z) z (x_field z underlying39 z sizeOf3 z) (wv (.int .i64 a1.To) ((wanted_eq z z z (cvb hc103)).trans z) z (x_load z isAgg3 (hst.bc2 z)) (wv (.bool (decide (a1.To ≥ (0:Int)))) ((wanted_eq z z z (cvb hc103)).trans z) z z (wv (.bool (decide (a1.To ≥ (0:Int)))) z z (x_pick_t hc103 z z) (wv (.bool (decide (a1.To ≥ (0:Int)))) z z z ?_))))
 refine bsplit (decide (a1.To ≥ (0:Int))) (fun hc104 => ?_) (fun hc104 => ?_)
 {
 replace hm := bif_t hc104 hm
 refine wv (Pt b66 2) ((wanted_eq z z z (cvb hc104)).trans z) z (x_field z underlying39 z sizeOf3 z) (wv (.int .i64 a1.To) ((wanted_eq z z z (cvb hc104)).trans z) z (x_load z isAgg3 (hst.bc2 z)) (wv (.int .i64 ((t71.Up).length : Int)) ((wanted_eq z z z (cvb hc104)).trans z) z z (wv (.bool (decide (a1.To < ((t71.Up).length : Int)))) ((wanted_eq z z z (cvb hc104)).trans z) z z (wv (.bool (decide (a1.To < ((t71.Up).length : Int)))) z z (x_pick_t hc104 z z) (wv (.bool (decide (a1.To < ((t71.Up).length : Int)))) z z z ?_)))))
 refine bsplit (decide (a1.To < ((t71.Up).length : Int))) (fun hc105 => ?_) (fun hc105 => ?_)
 {
 replace hm := bif_t hc105 hm
 refine wv (Pt b66 1) ((wanted_eq z z z (cvb hc105)).trans z) z (x_field z underlying39 z sizeOf3 z) (wv (.int .i64 a1.From) ((wanted_eq z z z (cvb hc105)).trans z) z (x_load z isAgg3 (hst.bc2 z)) (wv (Pt b66 2) ((wanted_eq z z z (cvb hc105)).trans z) z (x_field z underlying39 z sizeOf3 z) (wv (.int .i64 a1.To) ((wanted_eq z z z (cvb hc105)).trans z) z (x_load z isAgg3 (hst.bc2 z)) (wv (.bool (a1.From != a1.To)) ((wanted_eq z z z (cvb hc105)).trans z) z z (wv (.bool (a1.From != a1.To)) z z (x_pick_t hc105 z z) (wv (.bool (a1.From != a1.To)) z z z ?_))))))
 refine bsplit (a1.From != a1.To) (fun hc106 => ?_) (fun hc106 => ?_)
 {
 replace hm := bif_t hc106 hm
 refine wv (Pt b66 4) ((wanted_eq z z z (cvb hc106)).trans z) z (x_field z underlying39 z sizeOf36 z) (wv (.float .f64 a1.Hi) ((wanted_eq z z z (cvb hc106)).trans z) z (x_load z isAgg36 (hst.bc2 z)) (wv (Pt b66 3) ((wanted_eq z z z (cvb hc106)).trans z) z (x_field z underlying39 z sizeOf36 z) (wv (.float .f64 a1.Lo) ((wanted_eq z z z (cvb hc106)).trans z) z (x_load z isAgg36 (hst.bc2 z)) ?_)))
 obtain ⟨t107, ht108, hm⟩ := bind_some hm
 refine wl_call ((wanted_eq z z z (cvb hc106)).trans z) z (x_call call14 z (vs := [F6 a1.Hi, F6 a1.Lo]) z) ?_
 refine (ref01_Ahead_ref hst.to0 ht108).mono ?_
 rintro _ w109 ⟨rfl, hst⟩
 refine ⟨_, z, ?_⟩
 replace hst := hst.of0
 refine wv (.bool (!t107)) ((wanted_eq z z z (cvb hc106)).trans z) z z (wv (.bool (!t107)) z z (x_pick_t hc106 z z) (wv (.bool (!t107)) z z z ?_))
 refine bsplit (!t107) (fun hc112 => ?_) (fun hc112 => ?_)
 {
 replace hm := bif_t hc112 hm
 refine wv (Pt b66 6) ((wanted_eq z z z (cvb hc112)).trans z) z (x_field z underlying39 z sizeOf3 z) (wv (.int .i64 a1.Quota) ((wanted_eq z z z (cvb hc112)).trans z) z (x_load z isAgg3 (hst.bc2 z)) (wv (.bool (decide (a1.Quota ≥ (0:Int)))) ((wanted_eq z z z (cvb hc112)).trans z) z z (wv (.bool (decide (a1.Quota ≥ (0:Int)))) z z (x_pick_t hc112 z z) (wv (.bool (decide (a1.Quota ≥ (0:Int)))) z z z ?_))))
 refine bsplit (decide (a1.Quota ≥ (0:Int))) (fun hc113 => ?_) (fun hc113 => ?_)
 {
 replace hm := bif_t hc113 hm
 refine wv (Pt b66 6) ((wanted_eq z z z (cvb hc113)).trans z) z (x_field z underlying39 z sizeOf3 z) (wv (.int .i64 a1.Quota) ((wanted_eq z z z (cvb hc113)).trans z) z (x_load z isAgg3 (hst.bc2 z)) (wv (.bool (decide (a1.Quota ≤ (65536:Int)))) ((wanted_eq z z z (cvb hc113)).trans z) z z (wv (.bool (decide (a1.Quota ≤ (65536:Int)))) z z (x_pick_t hc113 z z) (wv (.bool (decide (a1.Quota ≤ (65536:Int)))) z z z (wl_nil (tn ?_))))))
 replace hst := hst.pull2.keep2
 obtain rfl := some_inj hm
 exact ⟨(decide (a1.Quota ≤ (65536:Int))), _, hx118, (fu 3 (Pt b66 0) z (fu 6 v100 z (fu 9 (.bool (decide (a1.Quota ≤ (65536:Int)))) z z))), hst⟩
}
 {
 replace hm := bif_f hc113 hm
 refine wo hc113 z z z z z z (wo hc113 z z z z z z (wo hc113 z z z z z z (wv (.bool false) z z (x_pick_f hc113 z z) (wv (.bool false) z z z (wl_nil (tn ?_))))))
 replace hst := hst.pull2.keep2
 obtain rfl := some_inj hm
 exact ⟨false, _, hx118, (fu 3 (Pt b66 0) z (fu 6 v100 z (fu 9 (.bool false) z z))), hst⟩
}
}
 {
 replace hm := bif_f hc112 hm
 refine wo hc112 z z z z z z (wo hc112 z z z z z z (wo hc112 z z z z z z (wv (.bool false) z z (x_pick_f hc112 z z) (wv (.bool false) z z z (wz z z z z z z (wz z z z z z z (wz z z z z z z (wv (.bool false) z z (x_pick_f z z z) (wv (.bool false) z z z (wl_nil (tn ?_)))))))))))
 replace hst := hst.pull2.keep2
 obtain rfl := some_inj hm
 exact ⟨false, _, hx118, (fu 3 (Pt b66 0) z (fu 6 v100 z (fu 9 (.bool false) z z))), hst⟩
}
}
 {
 replace hm := bif_f hc106 hm
 refine wo hc106 z z z z z z (wo hc106 z z z z z z (wo hc106 z z z z z z (wo hc106 z z z z z z (wo hc106 z z z z z z (wo hc106 z z z z z z (wv (.bool false) z z (x_pick_f hc106 z z) (wv (.bool false) z z z (wz z z z z z z (wz z z z z z z (wz z z z z z z (wv (.bool false) z z (x_pick_f z z z) (wv (.bool false) z z z ?_))))))))))))
 refine wz z z z z z z (wz z z z z z z (wz z z z z z z (wv (.bool false) z z (x_pick_f z z z) (wv (.bool false) z z z (wl_nil (tn ?_))))))
 replace hst := hst.pull2.keep2
 obtain rfl := some_inj hm
 exact ⟨false, _, hx118, (fu 3 (Pt b66 0) z (fu 6 v100 z (fu 9 (.bool false) z z))), hst⟩
}
}
 {
 replace hm := bif_f hc105 hm
 refine wo hc105 z z z z z z (wo hc105 z z z z z z (wo hc105 z z z z z z (wo hc105 z z z z z z (wo hc105 z z z z z z (wv (.bool false) z z (x_pick_f hc105 z z) (wv (.bool false) z z z (wz z z z z z z (wz z z z z z z (wz z z z z z z (wz z z z z z z (wz z z z z z z (wz z z z z z z ?_))))))))))))
 refine wv (.bool false) z z (x_pick_f z z z) (wv (.bool false) z z z (wz z z z z z z (wz z z z z z z (wz z z z z z z (wv (.bool false) z z (x_pick_f z z z) (wv (.bool false) z z z (wz z z z z z z (wz z z z z z z (wz z z z z z z (wv (.bool false) z z (x_pick_f z z z) (wv (.bool false) z z z (wl_nil (tn ?_)))))))))))))
 replace hst := hst.pull2.keep2
 obtain rfl := some_inj hm
 exact ⟨false, _, hx118, (fu 3 (Pt b66 0) z (fu 6 v100 z (fu 9 (.bool false) z z))), hst⟩
}
}
 {
 replace hm := bif_f hc104 hm
 refine wo hc104 z z z z z z (wo hc104 z z z z z z (wo hc104 z z z z z z (wo hc104 z z z z z z (wv (.bool false) z z (x_pick_f hc104 z z) (wv (.bool false) z z z (wz z z z z z z (wz z z z z z z (wz z z z z z z (wz z z z z z z (wz z z z z z z (wv (.bool false) z z (x_pick_f z z z) (wv (.bool false) z z z ?_))))))))))))
 refine wz z z z z z z (wz z z z z z z (wz z z z z z z (wz z z z z z z (wz z z z z z z (wz z z z z z z (wv (.bool false) z z (x_pick_f z z z) (wv (.bool false) z z z (wz z z z z z z (wz z z z z z z (wz z z z z z z (wv (.bool false) z z (x_pick_f z z z) (wv (.bool false) z z z ?_))))))))))))
 refine wz z z z z z z (wz z z z z z z (wz z z z z z z (wv (.bool false) z z (x_pick_f z z z) (wv (.bool false) z z z (wl_nil (tn ?_))))))
 replace hst := hst.pull2.keep2
 obtain rfl := some_inj hm
 exact ⟨false, _, hx118, (fu 3 (Pt b66 0) z (fu 6 v100 z (fu 9 (.bool false) z z))), hst⟩
}
}
 {
 replace hm := bif_f hc103 hm
 refine wo hc103 z z z z z z (wo hc103 z z z z z z (wo hc103 z z z z z z (wv (.bool false) z z (x_pick_f hc103 z z) (wv (.bool false) z z z (wz z z z z z z (wz z z z z z z (wz z z z z z z (wz z z z z z z (wv (.bool false) z z (x_pick_f z z z) (wv (.bool false) z z z (wz z z z z z z (wz z z z z z z ?_))))))))))))
 refine wz z z z z z z (wz z z z z z z (wz z z z z z z (wv (.bool false) z z (x_pick_f z z z) (wv (.bool false) z z z (wz z z z z z z (wz z z z z z z (wz z z z z z z (wz z z z z z z (wz z z z z z z (wz z z z z z z (wv (.bool false) z z (x_pick_f z z z) (wv (.bool false) z z z ?_))))))))))))
 refine wz z z z z z z (wz z z z z z z (wz z z z z z z (wv (.bool false) z z (x_pick_f z z z) (wv (.bool false) z z z (wz z z z z z z (wz z z z z z z (wz z z z z z z (wv (.bool false) z z (x_pick_f z z z) (wv (.bool false) z z z (wl_nil (tn ?_)))))))))))
 replace hst := hst.pull2.keep2
 obtain rfl := some_inj hm
 exact ⟨false, _, hx118, (fu 3 (Pt b66 0) z (fu 6 v100 z (fu 9 (.bool false) z z))), hst⟩
}
}
 {
 replace hm := bif_f hc102 hm
 refine wo hc102 z z z z z z (wo hc102 z z z z z z (wo hc102 z z z z z z (wo hc102 z z z z z z (wv (.bool false) z z (x_pick_f hc102 z z) (wv (.bool false) z z z (wz z z z z z z (wz z z z z z z (wz z z z z z z (wv (.bool false) z z (x_pick_f z z z) (wv (.bool false) z z z (wz z z z z z z (wz z z z z z z ?_))))))))))))
 refine wz z z z z z z (wz z z z z z z (wv (.bool false) z z (x_pick_f z z z) (wv (.bool false) z z z (wz z z z z z z (wz z z z z z z (wz z z z z z z (wz z z z z z z (wz z z z z z z (wv (.bool false) z z (x_pick_f z z z) (wv (.bool false) z z z (wz z z z z z z (wz z z z z z z ?_))))))))))))
 refine wz z z z z z z (wz z z z z z z (wz z z z z z z (wz z z z z z z (wv (.bool false) z z (x_pick_f z z z) (wv (.bool false) z z z (wz z z z z z z (wz z z z z z z (wz z z z z z z (wv (.bool false) z z (x_pick_f z z z) (wv (.bool false) z z z (wz z z z z z z (wz z z z z z z ?_))))))))))))
 refine wz z z z z z z (wv (.bool false) z z (x_pick_f z z z) (wv (.bool false) z z z (wl_nil (tn ?_))))
 replace hst := hst.pull2.keep2
 obtain rfl := some_inj hm
 exact ⟨false, _, hx118, (fu 3 (Pt b66 0) z (fu 6 v100 z (fu 9 (.bool false) z z))), hst⟩
}
}
 {
 clear hst
 rintro _ w119 ⟨z114, σ115, hm, rfl, hst⟩
 dsimp only [law04_ConfigRules_j0] at hm
 refine wp_seq (wrl ?_)
 obtain ⟨t120, ht121, hm⟩ := bind_some hm
 refine wc call9 [] z z z ?_
 refine (law04_awake_ref hst.to0 ht121).mono ?_
 rintro _ w122 ⟨I123, rfl, hI124, hst⟩
 refine ⟨_, z, ?_⟩
 replace hst := hst.of0
 replace f91 := f91.mono (ro_le hI124)
 replace f94 := f94.mono (ro_le hI124)
 replace hI0 := hI0.trans hI124
 refine wv (.bool t120) z z z ?_
 refine bsplit t120 (fun hc125 => ?_) (fun hc125 => ?_)
 {
 replace hm := bif_t hc125 hm
 refine wv (v100) ((wanted_eq z z z (cvb hc125)).trans z) z z (wv (.agg #[U6 a1.ID, I6 a1.From, I6 a1.To, F6 a1.Lo, F6 a1.Hi, U6 a1.Authority, I6 a1.Quota]) ((wanted_eq z z z (cvb hc125)).trans z) z (x_loadN (cs := [U6 a1.ID, I6 a1.From, I6 a1.To, F6 a1.Lo, F6 a1.Hi, U6 a1.Authority, I6 a1.Quota]) z isAgg39 sizeOf39 (hst.bcs0 0 z)) ?_)
 replace hst := hst.pull1
 obtain ⟨t126, ht127, hm⟩ := bind_some hm
 refine wl_call ((wanted_eq z z z (cvb hc125)).trans z) z (x_call call15 z (vs := [v100, .agg #[U6 a1.ID, I6 a1.From, I6 a1.To, F6 a1.Lo, F6 a1.Hi, U6 a1.Authority, I6 a1.Quota]]) z) ?_
 refine (config_Plan_Rule_ref hst.to1 ht127).mono ?_
 rintro _ w128 ⟨rfl, hst⟩
 refine ⟨_, z, ?_⟩
 replace hst := hst.of1
 refine wv (.bool z114) ((wanted_eq z z z (cvb hc125)).trans z) z z (wv (.bool (t126 == z114)) ((wanted_eq z z z (cvb hc125)).trans z) z (by kernel_rfl) (wv (.bool (t126 == z114)) z z (x_pick_t hc125 z z) (wv (.bool (t126 == z114)) z z z (wl_nil (tn (wp_ret ?_))))))
 obtain rfl := some_inj hm
 refine post_ret (vs := [.bool (t126 == z114)]) results6 (rvs_cons (rv_tmp z) rvs_nil) ?_
 exact ⟨_, z, hI0, hst.keep0⟩
}
 {
 replace hm := bif_f hc125 hm
 refine wo hc125 z z z z z z (wo hc125 z z z z z z (wo hc125 z z z z z z (wo hc125 z z z z z z (wo hc125 z z z z z z (wv (.bool false) z z (x_pick_f hc125 z z) (wv (.bool false) z z z (wl_nil (tn (wp_ret ?_)))))))))
 obtain rfl := some_inj hm
 refine post_ret (vs := [.bool false]) results6 (rvs_cons (rv_tmp z) rvs_nil) ?_
 exact ⟨_, z, hI0, hst.keep0⟩
}
}
}

end Go.Proofs.Ytkjkbfaaigmmcaa
