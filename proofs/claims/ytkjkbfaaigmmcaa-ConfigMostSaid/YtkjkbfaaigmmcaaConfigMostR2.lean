/- The Go functions refine their models, part 2. -/
import Derived.Test.YtkjkbfaaigmmcaaConfigMostR1
set_option linter.unusedVariables false
set_option linter.unusedSimpArgs false
set_option maxRecDepth 100000
set_option maxHeartbeats 4000000
namespace Go.Proofs.Ytkjkbfaaigmmcaa
open Go Go.V
open _root_.Go.Proofs.Try IntKind
attribute [local irreducible] wpList Code.wp wpQuiet Calls bodyPost Oper.wp wpS Nx PendOK YieldsIn
theorem config_New_ref {w0 w : World} {I : HL} {R : SP} {a0 : api_Config} {r0_0 : Value} {r0_1 : Value} (f0_0 : Ro (tyInt .u64) I r0_0 a0.Up) (f0_1 : Ro tyF64 I r0_1 a0.Cuts) (hst : St w0 w I [] R) {r : (Option config_Plan × Int)} (hm : config_New a0 = some r) :
  Calls prog 11 #[.agg #[r0_0, I6 a0.Nodes, r0_1, I6 a0.Frame, I6 a0.Depth, I6 a0.Quota, I6 a0.Wide, I6 a0.Beat, I6 a0.Elect]] w fun e w' => ∃ (I' : HL) (q0 : Value), e = .returned (.tuple #[q0, I6 r.2]) ∧ I.le I' ∧ St w0 w' I' [objO at_config_Plan q0 r.1] R := by {
 unfold config_New at hm
 refine calls_start (args := [.agg #[r0_0, I6 a0.Nodes, r0_1, I6 a0.Frame, I6 a0.Depth, I6 a0.Quota, I6 a0.Wide, I6 a0.Beat, I6 a0.Elect]]) func11 z ntmps11 (Nat.le_of_ble_eq_true z) ?_
 have hI0 := HL.le.refl I
 refine wp_seq (wrl ?_)
 obtain ⟨b122, w123, ew124, eb125, hst⟩ := hst.box [r0_0, I6 a0.Nodes, r0_1, I6 a0.Frame, I6 a0.Depth, I6 a0.Quota, I6 a0.Wide, I6 a0.Beat, I6 a0.Elect] 28
 refine wl_run (v := Pt b122 0) (w' := w123) z z (x_al (by kernel_rfl) ew124 eb125) ?_
 refine wv (.pointer none) z z z (wv (.int .i64 (0:Int)) z z z (wl_nil (tn (wp_seq (wp_block ?_)))))
 obtain ⟨y138, hm, hx139⟩ := bind_some hm
 refine wp_cut (fun a w => ∃ (z135 : Bool) (σ136 : Nat → Value), (config_New_j0 a0) z135 = some r ∧ a = Fr 86 (upd (upd σ136 1 (Pt b122 0)) 6 (.bool z135)) ∧ St w0 w I [cells b122 [r0_0, I6 a0.Nodes, r0_1, I6 a0.Frame, I6 a0.Depth, I6 a0.Quota, I6 a0.Wide, I6 a0.Beat, I6 a0.Elect]] R) ?_ ?_
 {
 refine wp_seq (wrl (wv (Pt b122 1) z z (x_field z underlying28 z sizeOf3 z) (wv (.int .i64 a0.Nodes) z z (x_load z isAgg3 (hst.bc0 z)) (wv (.bool (decide (a0.Nodes < (1:Int)))) z z z (wv (.bool (decide (a0.Nodes < (1:Int)))) z z z ?_)))))
 refine bsplit (decide (a0.Nodes < (1:Int))) (fun hc127 => ?_) (fun hc127 => ?_)
 {
 replace hm := bif_t hc127 hm
 refine wo hc127 z z z z z z (wo hc127 z z z z z z (wo hc127 z z z z z z (wv (.bool true) z z (x_pick_t hc127 z z) (wv (.bool true) z z z (wl_nil (tn ?_))))))
 refine wp_ift z ?_
 refine wp_skip (tn ?_)
 replace hst := hst.keep1
 obtain rfl := some_inj hm
 exact ⟨true, _, hx139, (fu 1 (Pt b122 0) z (fu 6 (.bool true) z z)), hst⟩
}
 {
 replace hm := bif_f hc127 hm
 refine wv (Pt b122 1) ((wanted_eq z z z (cvb hc127)).trans z) z (x_field z underlying28 z sizeOf3 z) (wv (.int .i64 a0.Nodes) ((wanted_eq z z z (cvb hc127)).trans z) z (x_load z isAgg3 (hst.bc0 z)) (wv (.bool (decide (a0.Nodes > (7:Int)))) ((wanted_eq z z z (cvb hc127)).trans z) z z (wv (.bool (decide (a0.Nodes > (7:Int)))) z z (x_pick_f hc127 z z) (wv (.bool (decide (a0.Nodes > (7:Int)))) z z z (wl_nil (tn ?_))))))
 refine bsplit (decide (a0.Nodes > (7:Int))) (fun hc128 => ?_) (fun hc128 => ?_)
 {
 replace hm := bif_t hc128 hm
 refine wp_ift (cvb hc128) ?_
 refine wp_skip (tn ?_)
 replace hst := hst.keep1
 obtain rfl := some_inj hm
 exact ⟨(decide (a0.Nodes > (7:Int))), _, hx139, (fu 1 (Pt b122 0) z (fu 6 (.bool (decide (a0.Nodes > (7:Int)))) z z)), hst⟩
}
 {
 replace hm := bif_f hc128 hm
 refine wp_iff (cvb hc128) ?_
 refine wp_seq (wrl (wv (Pt b122 2) z z (x_field z underlying28 z sizeOf26 z) (wv (r0_1) z z (x_load z isAgg26 (hst.bc0 z)) (wv (.int .i64 ((a0.Cuts).length : Int)) z z (x_len z underlying26 (ro_sliceV f0_1)) (wv (.bool (decide (((a0.Cuts).length : Int) ≥ (8:Int)))) z z z (wv (.bool (decide (((a0.Cuts).length : Int) ≥ (8:Int)))) z z z (wl_nil (tn ?_))))))))
 refine bsplit (decide (((a0.Cuts).length : Int) ≥ (8:Int))) (fun hc129 => ?_) (fun hc129 => ?_)
 {
 replace hm := bif_t hc129 hm
 refine wp_ift (cvb hc129) ?_
 refine wp_skip (tn ?_)
 replace hst := hst.keep1
 obtain rfl := some_inj hm
 exact ⟨(decide (((a0.Cuts).length : Int) ≥ (8:Int))), _, hx139, (fu 1 (Pt b122 0) z (fu 6 (.bool (decide (((a0.Cuts).length : Int) ≥ (8:Int)))) z z)), hst⟩
}
 {
 replace hm := bif_f hc129 hm
 refine wp_iff (cvb hc129) ?_
 refine wrl (wv (Pt b122 2) z z (x_field z underlying28 z sizeOf26 z) (wv (r0_1) z z (x_load z isAgg26 (hst.bc0 z)) ?_))
 obtain ⟨t130, ht131, hm⟩ := bind_some hm
 refine wc call33 [r0_1] z z z ?_
 refine (number_Rising_ref (f0_1.mono ro_rd) hst.to0 ht131).mono ?_
 rintro _ w132 ⟨rfl, hst⟩
 refine ⟨_, z, ?_⟩
 replace hst := hst.of0
 refine wv (.bool (!t130)) z z z (wv (.bool (!t130)) z z z (wl_nil (tn ?_)))
 replace hst := hst.keep1
 obtain rfl := some_inj hm
 exact ⟨(!t130), _, hx139, (fu 1 (Pt b122 0) z (fu 6 (.bool (!t130)) z z)), hst⟩
}
}
}
}
 {
 clear hst
 rintro _ w140 ⟨z135, σ136, hm, rfl, hst⟩
 dsimp only [config_New_j0] at hm
 refine bsplit z135 (fun hc141 => ?_) (fun hc141 => ?_)
 {
 replace hm := bif_t hc141 hm
 refine wp_ift (cvb hc141) ?_
 refine wp_seq (wrl (wv (.pointer none) z z z (wv (.int .i64 (1:Int)) z z z (wl_nil (tn (wp_ret (blk_r (then_r ?_))))))))
 replace hst := hst.objO_nil at_config_Plan
 obtain rfl := some_inj hm
 refine post_ret (vs := [.pointer none, I6 (1:Int)]) results11 (rvs_cons (rv_tmp z) (rvs_cons (rv_tmp z) rvs_nil)) ?_
 exact ⟨_, .pointer none, z, hI0, hst.keep1⟩
}
 {
 replace hm := bif_f hc141 hm
 refine wp_iff (cvb hc141) ?_
 obtain ⟨y149, hm, hx150⟩ := bind_some hm
 refine wp_cut (fun a w => ∃ (z146 : Bool) (σ147 : Nat → Value), (config_New_j1 a0) z146 = some r ∧ a = Fr 86 (upd (upd σ147 1 (Pt b122 0)) 23 (.bool z146)) ∧ St w0 w I [cells b122 [r0_0, I6 a0.Nodes, r0_1, I6 a0.Frame, I6 a0.Depth, I6 a0.Quota, I6 a0.Wide, I6 a0.Beat, I6 a0.Elect]] R) ?_ ?_
 {
 refine wp_seq (wrl (wv (Pt b122 3) z z (x_field z underlying28 z sizeOf3 z) (wv (.int .i64 a0.Frame) z z (x_load z isAgg3 (hst.bc0 z)) (wv (.bool (decide (a0.Frame < (64:Int)))) z z z (wv (.bool (decide (a0.Frame < (64:Int)))) z z z ?_)))))
 refine bsplit (decide (a0.Frame < (64:Int))) (fun hc143 => ?_) (fun hc143 => ?_)
 {
 replace hm := bif_t hc143 hm
 refine wo hc143 z z z z z z (wo hc143 z z z z z z (wo hc143 z z z z z z (wv (.bool true) z z (x_pick_t hc143 z z) (wv (.bool true) z z z (wl_nil (tn ?_))))))
 refine wp_ift z ?_
 refine wp_skip (tn ?_)
 replace hst := hst.keep1
 obtain rfl := some_inj hm
 exact ⟨true, _, hx150, (fu 1 (Pt b122 0) z (fu 23 (.bool true) z z)), hst⟩
}
 {
 replace hm := bif_f hc143 hm
 refine wv (Pt b122 3) ((wanted_eq z z z (cvb hc143)).trans z) z (x_field z underlying28 z sizeOf3 z) (wv (.int .i64 a0.Frame) ((wanted_eq z z z (cvb hc143)).trans z) z (x_load z isAgg3 (hst.bc0 z)) (wv (.bool (decide (a0.Frame > (4096:Int)))) ((wanted_eq z z z (cvb hc143)).trans z) z z (wv (.bool (decide (a0.Frame > (4096:Int)))) z z (x_pick_f hc143 z z) (wv (.bool (decide (a0.Frame > (4096:Int)))) z z z (wl_nil (tn ?_))))))
 refine bsplit (decide (a0.Frame > (4096:Int))) (fun hc144 => ?_) (fun hc144 => ?_)
 {
 replace hm := bif_t hc144 hm
 refine wp_ift (cvb hc144) ?_
 refine wp_skip (tn ?_)
 replace hst := hst.keep1
 obtain rfl := some_inj hm
 exact ⟨(decide (a0.Frame > (4096:Int))), _, hx150, (fu 1 (Pt b122 0) z (fu 23 (.bool (decide (a0.Frame > (4096:Int)))) z z)), hst⟩
}
 {
 replace hm := bif_f hc144 hm
 refine wp_iff (cvb hc144) ?_
 refine wrl (wv (Pt b122 4) z z (x_field z underlying28 z sizeOf3 z) (wv (.int .i64 a0.Depth) z z (x_load z isAgg3 (hst.bc0 z)) (wv (.bool (decide (a0.Depth < (1:Int)))) z z z (wv (.bool (decide (a0.Depth < (1:Int)))) z z z ?_))))
 refine bsplit (decide (a0.Depth < (1:Int))) (fun hc145 => ?_) (fun hc145 => ?_)
 {
 replace hm := bif_t hc145 hm
 refine wo hc145 z z z z z z (wo hc145 z z z z z z (wo hc145 z z z z z z (wv (.bool true) z z (x_pick_t hc145 z z) (wv (.bool true) z z z (wl_nil (tn ?_))))))
 replace hst := hst.keep1
 obtain rfl := some_inj hm
 exact ⟨true, _, hx150, (fu 1 (Pt b122 0) z (fu 23 (.bool true) z z)), hst⟩
}
 {
 replace hm := bif_f hc145 hm
 refine wv (Pt b122 4) ((wanted_eq z z z (cvb hc145)).trans z) z (x_field z underlying28 z sizeOf3 z) (wv (.int .i64 a0.Depth) ((wanted_eq z z z (cvb hc145)).trans z) z (x_load z isAgg3 (hst.bc0 z)) (wv (.bool (decide (a0.Depth > (65536:Int)))) ((wanted_eq z z z (cvb hc145)).trans z) z z (wv (.bool (decide (a0.Depth > (65536:Int)))) z z (x_pick_f hc145 z z) (wv (.bool (decide (a0.Depth > (65536:Int)))) z z z (wl_nil (tn ?_))))))
 replace hst := hst.keep1
 obtain rfl := some_inj hm
 exact ⟨(decide (a0.Depth > (65536:Int))), _, hx150, (fu 1 (Pt b122 0) z (fu 23 (.bool (decide (a0.Depth > (65536:Int)))) z z)), hst⟩
}
}
}
}
 {
 clear hst
 rintro _ w151 ⟨z146, σ147, hm, rfl, hst⟩
 dsimp only [config_New_j1] at hm
 refine bsplit z146 (fun hc152 => ?_) (fun hc152 => ?_)
 {
 replace hm := bif_t hc152 hm
 refine wp_ift (cvb hc152) ?_
 refine wp_seq (wrl (wv (.pointer none) z z z (wv (.int .i64 (1:Int)) z z z (wl_nil (tn (wp_ret (blk_r (then_r ?_))))))))
 replace hst := hst.objO_nil at_config_Plan
 obtain rfl := some_inj hm
 refine post_ret (vs := [.pointer none, I6 (1:Int)]) results11 (rvs_cons (rv_tmp z) (rvs_cons (rv_tmp z) rvs_nil)) ?_
 exact ⟨_, .pointer none, z, hI0, hst.keep1⟩
}
 {
 replace hm := bif_f hc152 hm
 refine wp_iff (cvb hc152) ?_
 obtain ⟨y160, hm, hx161⟩ := bind_some hm
 refine wp_cut (fun a w => ∃ (z157 : Bool) (σ158 : Nat → Value), (config_New_j2 a0) z157 = some r ∧ a = Fr 86 (upd (upd σ158 1 (Pt b122 0)) 40 (.bool z157)) ∧ St w0 w I [cells b122 [r0_0, I6 a0.Nodes, r0_1, I6 a0.Frame, I6 a0.Depth, I6 a0.Quota, I6 a0.Wide, I6 a0.Beat, I6 a0.Elect]] R) ?_ ?_
 {
 refine wp_seq (wrl (wv (Pt b122 5) z z (x_field z underlying28 z sizeOf3 z) (wv (.int .i64 a0.Quota) z z (x_load z isAgg3 (hst.bc0 z)) (wv (.bool (decide (a0.Quota < (1:Int)))) z z z (wv (.bool (decide (a0.Quota < (1:Int)))) z z z ?_)))))
 refine bsplit (decide (a0.Quota < (1:Int))) (fun hc154 => ?_) (fun hc154 => ?_)
 {
 replace hm := bif_t hc154 hm
 refine wo hc154 z z z z z z (wo hc154 z z z z z z (wo hc154 z z z z z z (wv (.bool true) z z (x_pick_t hc154 z z) (wv (.bool true) z z z (wl_nil (tn ?_))))))
 refine wp_ift z ?_
 refine wp_skip (tn ?_)
 replace hst := hst.keep1
 obtain rfl := some_inj hm
 exact ⟨true, _, hx161, (fu 1 (Pt b122 0) z (fu 40 (.bool true) z z)), hst⟩
}
 {
 replace hm := bif_f hc154 hm
 refine wv (Pt b122 5) ((wanted_eq z z z (cvb hc154)).trans z) z (x_field z underlying28 z sizeOf3 z) (wv (.int .i64 a0.Quota) ((wanted_eq z z z (cvb hc154)).trans z) z (x_load z isAgg3 (hst.bc0 z)) (wv (.bool (decide (a0.Quota > (268435456:Int)))) ((wanted_eq z z z (cvb hc154)).trans z) z z (wv (.bool (decide (a0.Quota > (268435456:Int)))) z z (x_pick_f hc154 z z) (wv (.bool (decide (a0.Quota > (268435456:Int)))) z z z (wl_nil (tn ?_))))))
 refine bsplit (decide (a0.Quota > (268435456:Int))) (fun hc155 => ?_) (fun hc155 => ?_)
 {
 replace hm := bif_t hc155 hm
 refine wp_ift (cvb hc155) ?_
 refine wp_skip (tn ?_)
 replace hst := hst.keep1
 obtain rfl := some_inj hm
 exact ⟨(decide (a0.Quota > (268435456:Int))), _, hx161, (fu 1 (Pt b122 0) z (fu 40 (.bool (decide (a0.Quota > (268435456:Int)))) z z)), hst⟩
}
 {
 replace hm := bif_f hc155 hm
 refine wp_iff (cvb hc155) ?_
 refine wrl (wv (Pt b122 6) z z (x_field z underlying28 z sizeOf3 z) (wv (.int .i64 a0.Wide) z z (x_load z isAgg3 (hst.bc0 z)) (wv (.bool (decide (a0.Wide < (0:Int)))) z z z (wv (.bool (decide (a0.Wide < (0:Int)))) z z z ?_))))
 refine bsplit (decide (a0.Wide < (0:Int))) (fun hc156 => ?_) (fun hc156 => ?_)
 {
 replace hm := bif_t hc156 hm
 refine wo hc156 z z z z z z (wo hc156 z z z z z z (wo hc156 z z z z z z (wv (.bool true) z z (x_pick_t hc156 z z) (wv (.bool true) z z z (wl_nil (tn ?_))))))
 replace hst := hst.keep1
 obtain rfl := some_inj hm
 exact ⟨true, _, hx161, (fu 1 (Pt b122 0) z (fu 40 (.bool true) z z)), hst⟩
}
 {
 replace hm := bif_f hc156 hm
 refine wv (Pt b122 6) ((wanted_eq z z z (cvb hc156)).trans z) z (x_field z underlying28 z sizeOf3 z) (wv (.int .i64 a0.Wide) ((wanted_eq z z z (cvb hc156)).trans z) z (x_load z isAgg3 (hst.bc0 z)) (wv (.bool (decide (a0.Wide > (256:Int)))) ((wanted_eq z z z (cvb hc156)).trans z) z z (wv (.bool (decide (a0.Wide > (256:Int)))) z z (x_pick_f hc156 z z) (wv (.bool (decide (a0.Wide > (256:Int)))) z z z (wl_nil (tn ?_))))))
 replace hst := hst.keep1
 obtain rfl := some_inj hm
 exact ⟨(decide (a0.Wide > (256:Int))), _, hx161, (fu 1 (Pt b122 0) z (fu 40 (.bool (decide (a0.Wide > (256:Int)))) z z)), hst⟩
}
}
}
}
 {
 clear hst
 rintro _ w162 ⟨z157, σ158, hm, rfl, hst⟩
 dsimp only [config_New_j2] at hm
 refine bsplit z157 (fun hc163 => ?_) (fun hc163 => ?_)
 {
 replace hm := bif_t hc163 hm
 refine wp_ift (cvb hc163) ?_
 refine wp_seq (wrl (wv (.pointer none) z z z (wv (.int .i64 (1:Int)) z z z (wl_nil (tn (wp_ret (blk_r (then_r ?_))))))))
 replace hst := hst.objO_nil at_config_Plan
 obtain rfl := some_inj hm
 refine post_ret (vs := [.pointer none, I6 (1:Int)]) results11 (rvs_cons (rv_tmp z) (rvs_cons (rv_tmp z) rvs_nil)) ?_
 exact ⟨_, .pointer none, z, hI0, hst.keep1⟩
}
 {
 replace hm := bif_f hc163 hm
 refine wp_iff (cvb hc163) ?_
 refine wp_seq (wrl (wv (Pt b122 7) z z (x_field z underlying28 z sizeOf3 z) (wv (.int .i64 a0.Beat) z z (x_load z isAgg3 (hst.bc0 z)) (wv (.bool (decide (a0.Beat < (1:Int)))) z z z (wv (.bool (decide (a0.Beat < (1:Int)))) z z z ?_)))))
 refine bsplit (decide (a0.Beat < (1:Int))) (fun hc165 => ?_) (fun hc165 => ?_)
 {
 replace hm := bif_t hc165 hm
 refine wo hc165 z z z z z z (wo hc165 z z z z z z (wo hc165 z z z z z z (wo hc165 z z z z z z (wo hc165 z z z z z z (wv (.bool true) z z (x_pick_t hc165 z z) (wv (.bool true) z z z (wz z z z z z z (wz z z z z z z (wz z z z z z z (wv (.bool true) z z (x_pick_t z z z) (wv (.bool true) z z z (wl_nil (tn ?_)))))))))))))
 refine wp_ift z ?_
 refine wp_seq (wrl (wv (.pointer none) z z z (wv (.int .i64 (1:Int)) z z z (wl_nil (tn (wp_ret (blk_r (then_r ?_))))))))
 replace hst := hst.objO_nil at_config_Plan
 obtain rfl := some_inj hm
 refine post_ret (vs := [.pointer none, I6 (1:Int)]) results11 (rvs_cons (rv_tmp z) (rvs_cons (rv_tmp z) rvs_nil)) ?_
 exact ⟨_, .pointer none, z, hI0, hst.keep1⟩
}
 {
 replace hm := bif_f hc165 hm
 refine wv (Pt b122 8) ((wanted_eq z z z (cvb hc165)).trans z) z (x_field z underlying28 z sizeOf3 z) (wv (.int .i64 a0.Elect) ((wanted_eq z z z (cvb hc165)).trans z) z (x_load z isAgg3 (hst.bc0 z)) (wv (Pt b122 7) ((wanted_eq z z z (cvb hc165)).trans z) z (x_field z underlying28 z sizeOf3 z) (wv (.int .i64 a0.Beat) ((wanted_eq z z z (cvb hc165)).trans z) z (x_load z isAgg3 (hst.bc0 z)) (wv (.bool (decide (a0.Elect ≤ a0.Beat))) ((wanted_eq z z z (cvb hc165)).trans z) z z (wv (.bool (decide (a0.Elect ≤ a0.Beat))) z z (x_pick_f hc165 z z) (wv (.bool (decide (a0.Elect ≤ a0.Beat))) z z z ?_))))))
 refine bsplit (decide (a0.Elect ≤ a0.Beat)) (fun hc167 => ?_) (fun hc167 => ?_)
 {
 replace hm := bif_t hc167 hm
 refine wo hc167 z z z z z z (wo hc167 z z z z z z (wo hc167 z z z z z z (wv (.bool true) z z (x_pick_t hc167 z z) (wv (.bool true) z z z (wl_nil (tn ?_))))))
 refine wp_ift z ?_
 refine wp_seq (wrl (wv (.pointer none) z z z (wv (.int .i64 (1:Int)) z z z (wl_nil (tn (wp_ret (blk_r (then_r ?_))))))))
 replace hst := hst.objO_nil at_config_Plan
 obtain rfl := some_inj hm
 refine post_ret (vs := [.pointer none, I6 (1:Int)]) results11 (rvs_cons (rv_tmp z) (rvs_cons (rv_tmp z) rvs_nil)) ?_
 exact ⟨_, .pointer none, z, hI0, hst.keep1⟩
}
 {
 replace hm := bif_f hc167 hm
 refine wv (Pt b122 8) ((wanted_eq z z z (cvb hc167)).trans z) z (x_field z underlying28 z sizeOf3 z) (wv (.int .i64 a0.Elect) ((wanted_eq z z z (cvb hc167)).trans z) z (x_load z isAgg3 (hst.bc0 z)) (wv (.bool (decide (a0.Elect > (1000:Int)))) ((wanted_eq z z z (cvb hc167)).trans z) z z (wv (.bool (decide (a0.Elect > (1000:Int)))) z z (x_pick_f hc167 z z) (wv (.bool (decide (a0.Elect > (1000:Int)))) z z z (wl_nil (tn ?_))))))
 refine bsplit (decide (a0.Elect > (1000:Int))) (fun hc169 => ?_) (fun hc169 => ?_)
 {
 replace hm := bif_t hc169 hm
 refine wp_ift (cvb hc169) ?_
 refine wp_seq (wrl (wv (.pointer none) z z z (wv (.int .i64 (1:Int)) z z z (wl_nil (tn (wp_ret (blk_r (then_r ?_))))))))
 replace hst := hst.objO_nil at_config_Plan
 obtain rfl := some_inj hm
 refine post_ret (vs := [.pointer none, I6 (1:Int)]) results11 (rvs_cons (rv_tmp z) (rvs_cons (rv_tmp z) rvs_nil)) ?_
 exact ⟨_, .pointer none, z, hI0, hst.keep1⟩
}
 {
 replace hm := bif_f hc169 hm
 refine wp_iff (cvb hc169) ?_
 refine wp_skip (blk_n (tn (wp_seq (wrl ?_))))
 refine wv (Pt b122 0) z z (x_field z underlying28 z sizeOf25 z) (wv (r0_0) z z (x_load z isAgg25 (hst.bc0 z)) ?_)
 obtain ⟨t171, ht172, hm⟩ := bind_some hm
 refine wc call34 [r0_0] z z z ?_
 refine (label_New_ref (f0_0.mono ro_rd) hst.to0 ht172).mono ?_
 rintro _ w173 ⟨I174, v176, rfl, hI175, hst⟩
 refine ⟨_, z, ?_⟩
 replace hst := hst.of1
 replace f0_0 := f0_0.mono (ro_le hI175)
 replace f0_1 := f0_1.mono (ro_le hI175)
 replace hI0 := hI0.trans hI175
 refine wv (.tuple #[v176, I6 t171.2]) z z z (wv (v176) z z z (wv (.int .i64 t171.2) z z z (wv (v176) z z z (wv (.int .i64 t171.2) z z z (wl_nil (tn (wp_seq (wp_seq (wrl (wv (.int .i64 t171.2) z z z (wv (.bool (t171.2 != (0:Int))) z z z (wl_nil (tn ?_)))))))))))))
 refine bsplit (t171.2 != (0:Int)) (fun hc178 => ?_) (fun hc178 => ?_)
 {
 replace hm := bif_t hc178 hm
 refine wp_ift (cvb hc178) ?_
 refine wp_seq (wrl (wv (.int .i64 t171.2) z z z (wv (.pointer none) z z z (wv (.int .i64 t171.2) z z z (wl_nil (tn (wp_ret (then_r ?_))))))))
 replace hst := hst.objO_nil at_config_Plan
 obtain rfl := some_inj hm
 refine post_ret (vs := [.pointer none, I6 t171.2]) results11 (rvs_cons (rv_tmp z) (rvs_cons (rv_tmp z) rvs_nil)) ?_
 exact ⟨_, .pointer none, z, hI0, hst.keep1⟩
}
 {
 replace hm := bif_f hc178 hm
 refine wp_iff (cvb hc178) ?_
 refine wp_skip (tn (wp_seq (wrl ?_)))
 refine wv (.agg #[r0_0, I6 a0.Nodes, r0_1, I6 a0.Frame, I6 a0.Depth, I6 a0.Quota, I6 a0.Wide, I6 a0.Beat, I6 a0.Elect]) z z (x_loadN (cs := [r0_0, I6 a0.Nodes, r0_1, I6 a0.Frame, I6 a0.Depth, I6 a0.Quota, I6 a0.Wide, I6 a0.Beat, I6 a0.Elect]) z isAgg28 sizeOf28 (hst.bcs1 0 z)) (wv (v176) z z z (wv (.agg #[r0_0, I6 a0.Nodes, r0_1, I6 a0.Frame, I6 a0.Depth, I6 a0.Quota, I6 a0.Wide, I6 a0.Beat, I6 a0.Elect, v176]) z z (by obtain ⟨_, ha_, _⟩ := at_label_Lattice_isnil hst; rw [ha_]; obtain ⟨_, _, hv_, _⟩ := (ro_sliceV f0_1); rw [hv_]; obtain ⟨_, _, hv_, _⟩ := (ro_sliceV f0_0); rw [hv_]; kernel_rfl) ?_))
 obtain ⟨b182, w183, ew184, eb185, hst⟩ := hst.box [r0_0, I6 a0.Nodes, r0_1, I6 a0.Frame, I6 a0.Depth, I6 a0.Quota, I6 a0.Wide, I6 a0.Beat, I6 a0.Elect, v176] 64
 refine wl_run (v := Pt b182 0) (w' := w183) z z (x_al (by kernel_rfl) ew184 eb185) ?_
 refine wv (Pt b182 0) z z z (wv (.int .i64 (0:Int)) z z z (wl_nil (tn (wp_ret ?_))))
 replace hst := hst.pull1.pull1
 replace hst := at_config_Plan_close (pv := Pt b182 0) (x := ({ C := a0, L := t171.1 } : config_Plan)) hst ⟨z, f0_0, f0_1⟩
 replace hst := objO_some hst
 obtain rfl := some_inj hm
 refine post_ret (vs := [Pt b182 0, Zi]) results11 (rvs_cons (rv_tmp z) (rvs_cons (rv_tmp z) rvs_nil)) ?_
 exact ⟨_, Pt b182 0, z, hI0, hst.keep1⟩
}
}
}
}
}
}
}
}
}
}
}

theorem label_Lattice_Len_ref {w0 w : World} {I : HL} {R : SP} {a0 : (Option label_Lattice)} {p0 : Value}  (hst : St w0 w I [objO at_label_Lattice p0 a0] R) {r : (Int)} (hm : label_Lattice_Len a0 = some r) :
  Calls prog 40 #[p0] w fun e w' => e = .returned (.int .i64 r) ∧ St w0 w' I [objO at_label_Lattice p0 a0] R := by {
 rcases a0 with _ | o0
 {
 obtain ⟨rfl, hst'⟩ := objO_none hst
 clear hst
 have hst := hst'
 clear hst'
 dsimp only [label_Lattice_Len] at hm
 refine calls_start (args := [.pointer none]) func40 z ntmps40 (Nat.le_of_ble_eq_true z) ?_
 refine wp_seq (wrl (wv (.int .i64 (0:Int)) z z z (wl_nil (tn (wp_seq (wp_seq (wrl (wv (.pointer none) z z z (wv (.bool true) z z (by kernel_rfl) (wl_nil (tn ?_)))))))))))
 refine wp_ift z ?_
 refine wp_seq (wrl (wv (.int .i64 (0:Int)) z z z (wl_nil (tn (wp_ret (then_r ?_))))))
 replace hst := hst.objO_nil at_label_Lattice
 obtain rfl := some_inj hm
 refine post_ret (vs := [Zi]) results40 (rvs_cons (rv_tmp z) rvs_nil) ?_
 exact ⟨z, hst.keep1⟩
}
 {
 replace hst := objO_get hst
 dsimp only [label_Lattice_Len] at hm
 refine calls_start (args := [p0]) func40 z ntmps40 (Nat.le_of_ble_eq_true z) ?_
 refine wp_seq (wrl (wv (.int .i64 (0:Int)) z z z (wl_nil (tn (wp_seq (wp_seq (wrl (wv (p0) z z z ?_))))))))
 obtain ⟨b100, v101, v103, v105, v107, v109, v111, rfl, hst'⟩ := at_label_Lattice_open hst
 clear hst
 have hst := hst'
 clear hst'
 refine wv (.bool false) z z (by kernel_rfl) (wl_nil (tn ?_))
 refine wp_iff z ?_
 refine wp_skip (tn (wp_seq (wrl ?_)))
 refine wv (Pt b100 0) z z z (wv (Pt b100 0) z z z (wv (Pt b100 0) z z (x_field z underlying73 z sizeOf25 z) (wv (v101) z z (x_load z isAgg25 (hst.bc0 z)) (wv (.int .i64 ((o0.up).length : Int)) z z (x_len z underlying25 hst.sv1) (wv (.int .i64 ((o0.up).length : Int)) z z z (wl_nil (tn (wp_ret ?_))))))))
 replace hst := hst.pull6.pull6.pull6.pull6.pull6.pull6.pull6
 replace hst := at_label_Lattice_close (pv := Pt b100 0) (x := o0) hst z
 replace hst := objO_some hst
 obtain rfl := some_inj hm
 refine post_ret (vs := [I6 ((o0.up).length : Int)]) results40 (rvs_cons (rv_tmp z) rvs_nil) ?_
 exact ⟨z, hst.keep1⟩
}
}

theorem config_Plan_L0_ref {w0 w : World} {I : HL} {R : SP} {a0 : (Option config_Plan)} {p0 : Value}  (hst : St w0 w I [objO at_config_Plan p0 a0] R) {r : (Int)} (hm : config_Plan_L0 a0 = some r) :
  Calls prog 20 #[p0] w fun e w' => e = .returned (.int .i64 r) ∧ St w0 w' I [objO at_config_Plan p0 a0] R := by {
 rcases a0 with _ | o0
 {
 obtain ⟨rfl, hst'⟩ := objO_none hst
 clear hst
 have hst := hst'
 clear hst'
 dsimp only [config_Plan_L0] at hm
 refine calls_start (args := [.pointer none]) func20 z ntmps20 (Nat.le_of_ble_eq_true z) ?_
 refine wp_seq (wrl (wv (.int .i64 (0:Int)) z z z (wl_nil (tn (wp_seq (wp_seq (wrl (wv (.pointer none) z z z (wv (.bool true) z z (by kernel_rfl) (wl_nil (tn ?_)))))))))))
 refine wp_ift z ?_
 refine wp_seq (wrl (wv (.int .i64 (0:Int)) z z z (wl_nil (tn (wp_ret (then_r ?_))))))
 replace hst := hst.objO_nil at_config_Plan
 obtain rfl := some_inj hm
 refine post_ret (vs := [Zi]) results20 (rvs_cons (rv_tmp z) rvs_nil) ?_
 exact ⟨z, hst.keep1⟩
}
 {
 replace hst := objO_get hst
 dsimp only [config_Plan_L0] at hm
 refine calls_start (args := [p0]) func20 z ntmps20 (Nat.le_of_ble_eq_true z) ?_
 refine wp_seq (wrl (wv (.int .i64 (0:Int)) z z z (wl_nil (tn (wp_seq (wp_seq (wrl (wv (p0) z z z ?_))))))))
 obtain ⟨b91, v92, v95, v98, ⟨rfl, f94, f97⟩, hst'⟩ := at_config_Plan_open hst
 clear hst
 have hst := hst'
 clear hst'
 refine wv (.bool false) z z (by kernel_rfl) (wl_nil (tn ?_))
 refine wp_iff z ?_
 refine wp_skip (tn (wp_seq (wrl ?_)))
 refine wv (Pt b91 0) z z z (wv (Pt b91 0) z z z (wv (Pt b91 9) z z (x_field z underlying64 z sizeOf60 z) (wv (v98) z z (x_load z isAgg60 (hst.bc0 z)) ?_)))
 replace hst := hst.pull1
 obtain ⟨t100, ht101, hm⟩ := bind_some hm
 refine wc call40 [v98] z z z ?_
 refine (label_Lattice_Len_ref hst.to1 ht101).mono ?_
 rintro _ w102 ⟨rfl, hst⟩
 refine ⟨_, z, ?_⟩
 replace hst := hst.of1
 refine wv (.int .i64 t100) z z z (wl_nil (tn (wp_ret ?_)))
 replace hst := hst.pull1
 replace hst := at_config_Plan_close (pv := Pt b91 0) (x := o0) hst ⟨z, f94, f97⟩
 replace hst := objO_some hst
 obtain rfl := some_inj hm
 refine post_ret (vs := [I6 t100]) results20 (rvs_cons (rv_tmp z) rvs_nil) ?_
 exact ⟨z, hst.keep1⟩
}
}

theorem config_Plan_Shards_ref {w0 w : World} {I : HL} {R : SP} {a0 : (Option config_Plan)} {p0 : Value}  (hst : St w0 w I [objO at_config_Plan p0 a0] R) {r : (Int)} (hm : config_Plan_Shards a0 = some r) :
  Calls prog 17 #[p0] w fun e w' => e = .returned (.int .i64 r) ∧ St w0 w' I [objO at_config_Plan p0 a0] R := by {
 rcases a0 with _ | o0
 {
 obtain ⟨rfl, hst'⟩ := objO_none hst
 clear hst
 have hst := hst'
 clear hst'
 dsimp only [config_Plan_Shards] at hm
 refine calls_start (args := [.pointer none]) func17 z ntmps17 (Nat.le_of_ble_eq_true z) ?_
 refine wp_seq (wrl (wv (.int .i64 (0:Int)) z z z (wl_nil (tn (wp_seq (wp_seq (wrl (wv (.pointer none) z z z (wv (.bool true) z z (by kernel_rfl) (wl_nil (tn ?_)))))))))))
 refine wp_ift z ?_
 refine wp_seq (wrl (wv (.int .i64 (0:Int)) z z z (wl_nil (tn (wp_ret (then_r ?_))))))
 replace hst := hst.objO_nil at_config_Plan
 obtain rfl := some_inj hm
 refine post_ret (vs := [Zi]) results17 (rvs_cons (rv_tmp z) rvs_nil) ?_
 exact ⟨z, hst.keep1⟩
}
 {
 replace hst := objO_get hst
 dsimp only [config_Plan_Shards] at hm
 refine calls_start (args := [p0]) func17 z ntmps17 (Nat.le_of_ble_eq_true z) ?_
 refine wp_seq (wrl (wv (.int .i64 (0:Int)) z z z (wl_nil (tn (wp_seq (wp_seq (wrl (wv (p0) z z z ?_))))))))
 obtain ⟨b91, v92, v95, v98, ⟨rfl, f94, f97⟩, hst'⟩ := at_config_Plan_open hst
 clear hst
 have hst := hst'
 clear hst'
 refine wv (.bool false) z z (by kernel_rfl) (wl_nil (tn ?_))
 refine wp_iff z ?_
 refine wp_skip (tn (wp_seq (wrl ?_)))
 refine wv (Pt b91 0) z z z (wv (Pt b91 0) z z z (wv (Pt b91 0) z z (x_field z underlying64 z sizeOf28 z) (wv (Pt b91 2) z z (x_field z underlying28 z sizeOf26 z) (wv (v95) z z (x_load z isAgg26 (hst.bc0 z)) (wv (.int .i64 ((o0.C.Cuts).length : Int)) z z (x_len z underlying26 (ro_sliceV f97)) (wv (.int .i64 (i64.wrap (((o0.C.Cuts).length : Int) + (1:Int)))) z z z (wv (.int .i64 (i64.wrap (((o0.C.Cuts).length : Int) + (1:Int)))) z z z (wl_nil (tn (wp_ret ?_))))))))))
 replace hst := hst.pull1.pull1
 replace hst := at_config_Plan_close (pv := Pt b91 0) (x := o0) hst ⟨z, f94, f97⟩
 replace hst := objO_some hst
 obtain rfl := some_inj hm
 refine post_ret (vs := [I6 (i64.wrap (((o0.C.Cuts).length : Int) + (1:Int)))]) results17 (rvs_cons (rv_tmp z) rvs_nil) ?_
 exact ⟨z, hst.keep1⟩
}
}

theorem config_Plan_Lanes_ref {w0 w : World} {I : HL} {R : SP} {a0 : (Option config_Plan)} {p0 : Value}  (hst : St w0 w I [objO at_config_Plan p0 a0] R) {r : (Int)} (hm : config_Plan_Lanes a0 = some r) :
  Calls prog 18 #[p0] w fun e w' => e = .returned (.int .i64 r) ∧ St w0 w' I [objO at_config_Plan p0 a0] R := by {
 unfold config_Plan_Lanes at hm
 refine calls_start (args := [p0]) func18 z ntmps18 (Nat.le_of_ble_eq_true z) ?_
 refine wp_seq (wrl (wv (.int .i64 (0:Int)) z z z (wl_nil (tn (wp_seq (wrl (wv (p0) z z z ?_)))))))
 obtain ⟨t86, ht87, hm⟩ := bind_some hm
 refine wc call20 [p0] z z z ?_
 refine (config_Plan_L0_ref hst.to1 ht87).mono ?_
 rintro _ w88 ⟨rfl, hst⟩
 refine ⟨_, z, ?_⟩
 replace hst := hst.of1
 refine wv (p0) z z z ?_
 obtain ⟨t91, ht92, hm⟩ := bind_some hm
 refine wc call17 [p0] z z z ?_
 refine (config_Plan_Shards_ref hst.to1 ht92).mono ?_
 rintro _ w93 ⟨rfl, hst⟩
 refine ⟨_, z, ?_⟩
 replace hst := hst.of1
 refine wv (.int .i64 (i64.wrap (t86 * t91))) z z z (wv (.int .i64 (i64.wrap ((i64.wrap (t86 * t91)) + (1:Int)))) z z z (wv (.int .i64 (i64.wrap ((i64.wrap (t86 * t91)) + (1:Int)))) z z z (wl_nil (tn (wp_ret ?_)))))
 obtain rfl := some_inj hm
 refine post_ret (vs := [I6 (i64.wrap ((i64.wrap (t86 * t91)) + (1:Int)))]) results18 (rvs_cons (rv_tmp z) rvs_nil) ?_
 exact ⟨z, hst.keep1⟩
}

theorem config_Plan_Lane_ref {w0 w : World} {I : HL} {R : SP} {a0 : (Option config_Plan)} {p0 : Value} {a1 : Int} {a2 : Int}  (hst : St w0 w I [objO at_config_Plan p0 a0] R) {r : (Int)} (hm : config_Plan_Lane a0 a1 a2 = some r) :
  Calls prog 24 #[p0, I6 a1, I6 a2] w fun e w' => e = .returned (.int .i64 r) ∧ St w0 w' I [objO at_config_Plan p0 a0] R := by {
 unfold config_Plan_Lane at hm
 refine calls_start (args := [p0, I6 a1, I6 a2]) func24 z ntmps24 (Nat.le_of_ble_eq_true z) ?_
 refine wp_seq (wrl (wv (.int .i64 (0:Int)) z z z (wl_nil (tn (wp_seq (wp_seq (wrl (wv (.int .i64 a1) z z z (wv (.bool (decide (a1 < (0:Int)))) z z z (wv (.bool (decide (a1 < (0:Int)))) z z z ?_))))))))))
 refine bsplit (decide (a1 < (0:Int))) (fun hc101 => ?_) (fun hc101 => ?_)
 {
 replace hm := bif_t hc101 hm
 refine wo hc101 z z z z z z (wo hc101 z z z z z z (wo hc101 z z z z z z (wo hc101 z z z z z z (wv (.bool true) z z (x_pick_t hc101 z z) (wv (.bool true) z z z (wz z z z z z z (wz z z z z z z (wv (.bool true) z z (x_pick_t z z z) (wv (.bool true) z z z (wz z z z z z z (wz z z z z z z (wz z z z z z z ?_))))))))))))
 refine wz z z z z z z (wv (.bool true) z z (x_pick_t z z z) (wl_nil (tn ?_)))
 refine wp_ift z ?_
 refine wp_seq (wrl (wv (.int .i64 ((-1):Int)) z z z (wl_nil (tn (wp_ret (then_r ?_))))))
 obtain rfl := some_inj hm
 refine post_ret (vs := [I6 ((-1):Int)]) results24 (rvs_cons (rv_tmp z) rvs_nil) ?_
 exact ⟨z, hst.keep1⟩
}
 {
 replace hm := bif_f hc101 hm
 refine wv (.int .i64 a1) ((wanted_eq z z z (cvb hc101)).trans z) z z (wv (p0) ((wanted_eq z z z (cvb hc101)).trans z) z z ?_)
 obtain ⟨t102, ht103, hm⟩ := bind_some hm
 refine wl_call ((wanted_eq z z z (cvb hc101)).trans z) z (x_call call20 z (vs := [p0]) z) ?_
 refine (config_Plan_L0_ref hst.to1 ht103).mono ?_
 rintro _ w104 ⟨rfl, hst⟩
 refine ⟨_, z, ?_⟩
 replace hst := hst.of1
 refine wv (.bool (decide (a1 ≥ t102))) ((wanted_eq z z z (cvb hc101)).trans z) z z (wv (.bool (decide (a1 ≥ t102))) z z (x_pick_f hc101 z z) (wv (.bool (decide (a1 ≥ t102))) z z z ?_))
 refine bsplit (decide (a1 ≥ t102)) (fun hc107 => ?_) (fun hc107 => ?_)
 {
 replace hm := bif_t hc107 hm
 refine wo hc107 z z z z z z (wo hc107 z z z z z z (wv (.bool true) z z (x_pick_t hc107 z z) (wv (.bool true) z z z (wz z z z z z z (wz z z z z z z (wz z z z z z z (wz z z z z z z (wv (.bool true) z z (x_pick_t z z z) (wl_nil (tn ?_))))))))))
 refine wp_ift z ?_
 refine wp_seq (wrl (wv (.int .i64 ((-1):Int)) z z z (wl_nil (tn (wp_ret (then_r ?_))))))
 obtain rfl := some_inj hm
 refine post_ret (vs := [I6 ((-1):Int)]) results24 (rvs_cons (rv_tmp z) rvs_nil) ?_
 exact ⟨z, hst.keep1⟩
}
 {
 replace hm := bif_f hc107 hm
 refine wv (.int .i64 a2) ((wanted_eq z z z (cvb hc107)).trans z) z z (wv (.bool (decide (a2 < (0:Int)))) ((wanted_eq z z z (cvb hc107)).trans z) z z (wv (.bool (decide (a2 < (0:Int)))) z z (x_pick_f hc107 z z) (wv (.bool (decide (a2 < (0:Int)))) z z z ?_)))
 refine bsplit (decide (a2 < (0:Int))) (fun hc108 => ?_) (fun hc108 => ?_)
 {
 replace hm := bif_t hc108 hm
 refine wo hc108 z z z z z z (wo hc108 z z z z z z (wo hc108 z z z z z z (wo hc108 z z z z z z (wv (.bool true) z z (x_pick_t hc108 z z) (wl_nil (tn ?_))))))
 refine wp_ift z ?_
 refine wp_seq (wrl (wv (.int .i64 ((-1):Int)) z z z (wl_nil (tn (wp_ret (then_r ?_))))))
 obtain rfl := some_inj hm
 refine post_ret (vs := [I6 ((-1):Int)]) results24 (rvs_cons (rv_tmp z) rvs_nil) ?_
 exact ⟨z, hst.keep1⟩
}
 {
 replace hm := bif_f hc108 hm
 refine wv (.int .i64 a2) ((wanted_eq z z z (cvb hc108)).trans z) z z (wv (p0) ((wanted_eq z z z (cvb hc108)).trans z) z z ?_)
 obtain ⟨t109, ht110, hm⟩ := bind_some hm
 refine wl_call ((wanted_eq z z z (cvb hc108)).trans z) z (x_call call17 z (vs := [p0]) z) ?_
 refine (config_Plan_Shards_ref hst.to1 ht110).mono ?_
 rintro _ w111 ⟨rfl, hst⟩
 refine ⟨_, z, ?_⟩
 replace hst := hst.of1
 refine wv (.bool (decide (a2 ≥ t109))) ((wanted_eq z z z (cvb hc108)).trans z) z z (wv (.bool (decide (a2 ≥ t109))) z z (x_pick_f hc108 z z) (wl_nil (tn ?_)))
 refine bsplit (decide (a2 ≥ t109)) (fun hc114 => ?_) (fun hc114 => ?_)
 {
 replace hm := bif_t hc114 hm
 refine wp_ift (cvb hc114) ?_
 refine wp_seq (wrl (wv (.int .i64 ((-1):Int)) z z z (wl_nil (tn (wp_ret (then_r ?_))))))
 obtain rfl := some_inj hm
 refine post_ret (vs := [I6 ((-1):Int)]) results24 (rvs_cons (rv_tmp z) rvs_nil) ?_
 exact ⟨z, hst.keep1⟩
}
 {
 replace hm := bif_f hc114 hm
 refine wp_iff (cvb hc114) ?_
 refine wp_skip (tn (wp_seq (wrl ?_)))
 refine wv (.int .i64 a1) z z z (wv (p0) z z z ?_)
 obtain ⟨t115, ht116, hm⟩ := bind_some hm
 refine wc call17 [p0] z z z ?_
 refine (config_Plan_Shards_ref hst.to1 ht116).mono ?_
 rintro _ w117 ⟨rfl, hst⟩
 refine ⟨_, z, ?_⟩
 replace hst := hst.of1
 refine wv (.int .i64 (i64.wrap (a1 * t115))) z z z (wv (.int .i64 a2) z z z (wv (.int .i64 (i64.wrap ((i64.wrap (a1 * t115)) + a2))) z z z (wv (.int .i64 (i64.wrap ((i64.wrap (a1 * t115)) + a2))) z z z (wl_nil (tn (wp_ret ?_))))))
 obtain rfl := some_inj hm
 refine post_ret (vs := [I6 (i64.wrap ((i64.wrap (a1 * t115)) + a2))]) results24 (rvs_cons (rv_tmp z) rvs_nil) ?_
 exact ⟨z, hst.keep1⟩
}
}
}
}
}

theorem config_Plan_Rules_ref {w0 w : World} {I : HL} {R : SP} {a0 : (Option config_Plan)} {p0 : Value}  (hst : St w0 w I [objO at_config_Plan p0 a0] R) {r : (Int)} (hm : config_Plan_Rules a0 = some r) :
  Calls prog 19 #[p0] w fun e w' => e = .returned (.int .i64 r) ∧ St w0 w' I [objO at_config_Plan p0 a0] R := by {
 unfold config_Plan_Rules at hm
 refine calls_start (args := [p0]) func19 z ntmps19 (Nat.le_of_ble_eq_true z) ?_
 refine wp_seq (wrl (wv (.int .i64 (0:Int)) z z z (wl_nil (tn (wp_seq (wrl (wv (p0) z z z ?_)))))))
 obtain ⟨t93, ht94, hm⟩ := bind_some hm
 refine wc call18 [p0] z z z ?_
 refine (config_Plan_Lanes_ref hst.to1 ht94).mono ?_
 rintro _ w95 ⟨rfl, hst⟩
 refine ⟨_, z, ?_⟩
 replace hst := hst.of1
 refine wv (.int .i64 (i64.wrap (t93 - (1:Int)))) z z z (wv (.int .i64 (i64.wrap (t93 - (1:Int)))) z z z (wl_nil (tn (wp_ret ?_))))
 obtain rfl := some_inj hm
 refine post_ret (vs := [I6 (i64.wrap (t93 - (1:Int)))]) results19 (rvs_cons (rv_tmp z) rvs_nil) ?_
 exact ⟨z, hst.keep1⟩
}

theorem label_Lattice_Bottom_ref {w0 w : World} {I : HL} {R : SP} {a0 : (Option label_Lattice)} {p0 : Value}  (hst : St w0 w I [objO at_label_Lattice p0 a0] R) {r : (Int)} (hm : label_Lattice_Bottom a0 = some r) :
  Calls prog 41 #[p0] w fun e w' => e = .returned (.int .i64 r) ∧ St w0 w' I [objO at_label_Lattice p0 a0] R := by {
 rcases a0 with _ | o0
 {
 obtain ⟨rfl, hst'⟩ := objO_none hst
 clear hst
 have hst := hst'
 clear hst'
 dsimp only [label_Lattice_Bottom] at hm
 refine calls_start (args := [.pointer none]) func41 z ntmps41 (Nat.le_of_ble_eq_true z) ?_
 refine wp_seq (wrl (wv (.int .i64 (0:Int)) z z z (wl_nil (tn (wp_seq (wp_seq (wrl (wv (.pointer none) z z z (wv (.bool true) z z (by kernel_rfl) (wl_nil (tn ?_)))))))))))
 refine wp_ift z ?_
 refine wp_seq (wrl (wv (.int .i64 ((-1):Int)) z z z (wl_nil (tn (wp_ret (then_r ?_))))))
 replace hst := hst.objO_nil at_label_Lattice
 obtain rfl := some_inj hm
 refine post_ret (vs := [I6 ((-1):Int)]) results41 (rvs_cons (rv_tmp z) rvs_nil) ?_
 exact ⟨z, hst.keep1⟩
}
 {
 replace hst := objO_get hst
 dsimp only [label_Lattice_Bottom] at hm
 refine calls_start (args := [p0]) func41 z ntmps41 (Nat.le_of_ble_eq_true z) ?_
 refine wp_seq (wrl (wv (.int .i64 (0:Int)) z z z (wl_nil (tn (wp_seq (wp_seq (wrl (wv (p0) z z z ?_))))))))
 obtain ⟨b145, v146, v148, v150, v152, v154, v156, rfl, hst'⟩ := at_label_Lattice_open hst
 clear hst
 have hst := hst'
 clear hst'
 refine wv (.bool false) z z (by kernel_rfl) (wl_nil (tn ?_))
 refine wp_iff z ?_
 refine wp_skip (tn (wp_seq (wrl ?_)))
 refine wv (Pt b145 0) z z z (wv (Pt b145 0) z z z (wv (Pt b145 5) z z (x_field z underlying73 z sizeOf46 z) (wv (v156) z z (x_load z isAgg46 (hst.bc0 z)) ?_)))
 obtain ⟨x158, hx159, hm⟩ := bind_some hm
 obtain ⟨h160, h161, hi162⟩ := geto_some hx159
 refine wv (.pointer (some (eAddr v156 ((0:Int).toNat * 1 + 0)))) z z (x_index z z underlying46 sizeOf3 hst.sv6 h160 h161) (wv (.int .i64 x158) z z (x_load z isAgg3 (hst.ol6 hi162 (by rintro _ rfl; rfl))) (wv (.int .i64 x158) z z z (wl_nil (tn (wp_ret ?_)))))
 replace hst := hst.pull6.pull6.pull6.pull6.pull6.pull6.pull6
 replace hst := at_label_Lattice_close (pv := Pt b145 0) (x := o0) hst z
 replace hst := objO_some hst
 obtain rfl := some_inj hm
 refine post_ret (vs := [I6 x158]) results41 (rvs_cons (rv_tmp z) rvs_nil) ?_
 exact ⟨z, hst.keep1⟩
}
}

theorem config_Plan_Label_ref {w0 w : World} {I : HL} {R : SP} {a0 : (Option config_Plan)} {p0 : Value} {a1 : Int}  (hst : St w0 w I [objO at_config_Plan p0 a0] R) {r : (Int)} (hm : config_Plan_Label a0 a1 = some r) :
  Calls prog 22 #[p0, I6 a1] w fun e w' => e = .returned (.int .i64 r) ∧ St w0 w' I [objO at_config_Plan p0 a0] R := by {
 rcases a0 with _ | o0
 {
 obtain ⟨rfl, hst'⟩ := objO_none hst
 clear hst
 have hst := hst'
 clear hst'
 dsimp only [config_Plan_Label] at hm
 refine calls_start (args := [.pointer none, I6 a1]) func22 z ntmps22 (Nat.le_of_ble_eq_true z) ?_
 refine wp_seq (wrl (wv (.int .i64 (0:Int)) z z z (wl_nil (tn (wp_seq (wp_block (wp_seq (wrl (wv (.pointer none) z z z (wv (.bool true) z z (by kernel_rfl) (wv (.bool true) z z z (wz z z z z z z (wz z z z z z z (wv (.bool true) z z (x_pick_t z z z) (wv (.bool true) z z z (wz z z z z z z (wz z z z z z z (wz z z z z z z ?_))))))))))))))))))
 refine wz z z z z z z (wv (.bool true) z z (x_pick_t z z z) (wv (.bool true) z z z (wl_nil (tn ?_))))
 refine wp_ift z ?_
 refine wp_seq (wrl (wv (.int .i64 ((-1):Int)) z z z (wl_nil (tn (wp_ret (blk_r (then_r ?_)))))))
 replace hst := hst.objO_nil at_config_Plan
 obtain rfl := some_inj hm
 refine post_ret (vs := [I6 ((-1):Int)]) results22 (rvs_cons (rv_tmp z) rvs_nil) ?_
 exact ⟨z, hst.keep1⟩
}
 {
 replace hst := objO_get hst
 dsimp only [config_Plan_Label] at hm
 refine calls_start (args := [p0, I6 a1]) func22 z ntmps22 (Nat.le_of_ble_eq_true z) ?_
 refine wp_seq (wrl (wv (.int .i64 (0:Int)) z z z (wl_nil (tn (wp_seq (wp_block (wp_seq (wrl (wv (p0) z z z ?_)))))))))
 obtain ⟨b137, v138, v141, v144, ⟨rfl, f140, f143⟩, hst'⟩ := at_config_Plan_open hst
 clear hst
 have hst := hst'
 clear hst'
 refine wv (.bool false) z z (by kernel_rfl) (wv (.bool false) z z z (wv (.int .i64 a1) ((wanted_eq z z z z).trans z) z z (wv (.bool (decide (a1 < (0:Int)))) ((wanted_eq z z z z).trans z) z z (wv (.bool (decide (a1 < (0:Int)))) z z (x_pick_f z z z) (wv (.bool (decide (a1 < (0:Int)))) z z z ?_)))))
 refine bsplit (decide (a1 < (0:Int))) (fun hc146 => ?_) (fun hc146 => ?_)
 {
 replace hm := bif_t hc146 hm
 refine wo hc146 z z z z z z (wo hc146 z z z z z z (wo hc146 z z z z z z (wo hc146 z z z z z z (wv (.bool true) z z (x_pick_t hc146 z z) (wv (.bool true) z z z (wl_nil (tn ?_)))))))
 refine wp_ift z ?_
 refine wp_seq (wrl (wv (.int .i64 ((-1):Int)) z z z (wl_nil (tn (wp_ret (blk_r (then_r ?_)))))))
 replace hst := hst.pull1.pull1
 replace hst := at_config_Plan_close (pv := Pt b137 0) (x := o0) hst ⟨z, f140, f143⟩
 replace hst := objO_some hst
 obtain rfl := some_inj hm
 refine post_ret (vs := [I6 ((-1):Int)]) results22 (rvs_cons (rv_tmp z) rvs_nil) ?_
 exact ⟨z, hst.keep1⟩
}
 {
 replace hm := bif_f hc146 hm
 refine wv (.int .i64 a1) ((wanted_eq z z z (cvb hc146)).trans z) z z (wv (Pt b137 0) ((wanted_eq z z z (cvb hc146)).trans z) z z ?_)
 replace hst := hst.pull1.pull1
 replace hst := at_config_Plan_close (pv := Pt b137 0) (x := o0) hst ⟨z, f140, f143⟩
 replace hst := objO_some hst
 obtain ⟨t147, ht148, hm⟩ := bind_some hm
 refine wl_call ((wanted_eq z z z (cvb hc146)).trans z) z (x_call call18 z (vs := [Pt b137 0]) z) ?_
 refine (config_Plan_Lanes_ref hst.to1 ht148).mono ?_
 rintro _ w149 ⟨rfl, hst⟩
 refine ⟨_, z, ?_⟩
 replace hst := hst.of1
 replace hst := objO_get hst
 refine wv (.bool (decide (a1 ≥ t147))) ((wanted_eq z z z (cvb hc146)).trans z) z z (wv (.bool (decide (a1 ≥ t147))) z z (x_pick_f hc146 z z) (wv (.bool (decide (a1 ≥ t147))) z z z (wl_nil (tn ?_))))
 refine bsplit (decide (a1 ≥ t147)) (fun hc152 => ?_) (fun hc152 => ?_)
 {
 replace hm := bif_t hc152 hm
 refine wp_ift (cvb hc152) ?_
 refine wp_seq (wrl (wv (.int .i64 ((-1):Int)) z z z (wl_nil (tn (wp_ret (blk_r (then_r ?_)))))))
 replace hst := objO_some hst
 obtain rfl := some_inj hm
 refine post_ret (vs := [I6 ((-1):Int)]) results22 (rvs_cons (rv_tmp z) rvs_nil) ?_
 exact ⟨z, hst.keep1⟩
}
 {
 replace hm := bif_f hc152 hm
 refine wp_iff (cvb hc152) ?_
 refine wp_seq (wrl (wv (.int .i64 a1) z z z (wv (Pt b137 0) z z z ?_)))
 replace hst := objO_some hst
 obtain ⟨t153, ht154, hm⟩ := bind_some hm
 refine wc call19 [Pt b137 0] z z z ?_
 refine (config_Plan_Rules_ref hst.to1 ht154).mono ?_
 rintro _ w155 ⟨rfl, hst⟩
 refine ⟨_, z, ?_⟩
 replace hst := hst.of1
 replace hst := objO_get hst
 refine wv (.bool (a1 == t153)) z z z (wv (.bool (a1 == t153)) z z z (wl_nil (tn ?_)))
 refine bsplit (a1 == t153) (fun hc158 => ?_) (fun hc158 => ?_)
 {
 replace hm := bif_t hc158 hm
 refine wp_ift (cvb hc158) ?_
 refine wp_seq (wrl (wv (Pt b137 0) z z z ?_))
 obtain ⟨b159, v160, v163, v166, ⟨e168, f162, f165⟩, hst'⟩ := at_config_Plan_open hst
 clear hst
 have e168 := ptr_inj e168
 subst e168
 have hst := hst'
 clear hst'
 refine wv (Pt b137 0) z z z (wv (Pt b137 9) z z (x_field z underlying64 z sizeOf60 z) (wv (v166) z z (x_load z isAgg60 (hst.bc0 z)) ?_))
 replace hst := hst.pull1
 obtain ⟨t169, ht170, hm⟩ := bind_some hm
 refine wc call41 [v166] z z z ?_
 refine (label_Lattice_Bottom_ref hst.to1 ht170).mono ?_
 rintro _ w171 ⟨rfl, hst⟩
 refine ⟨_, z, ?_⟩
 replace hst := hst.of1
 refine wv (.int .i64 t169) z z z (wl_nil (tn (wp_ret (blk_r (then_r ?_)))))
 replace hst := hst.pull1
 replace hst := at_config_Plan_close (pv := Pt b137 0) (x := o0) hst ⟨z, f162, f165⟩
 replace hst := objO_some hst
 obtain rfl := some_inj hm
 refine post_ret (vs := [I6 t169]) results22 (rvs_cons (rv_tmp z) rvs_nil) ?_
 exact ⟨z, hst.keep1⟩
}
 {
 replace hm := bif_f hc158 hm
 refine wp_iff (cvb hc158) ?_
 refine wp_skip (blk_n (tn (wp_seq (wrl ?_))))
 refine wv (.int .i64 a1) z z z (wv (Pt b137 0) z z z ?_)
 replace hst := objO_some hst
 obtain ⟨t174, ht175, hm⟩ := bind_some hm
 refine wc call17 [Pt b137 0] z z z ?_
 refine (config_Plan_Shards_ref hst.to1 ht175).mono ?_
 rintro _ w176 ⟨rfl, hst⟩
 refine ⟨_, z, ?_⟩
 replace hst := hst.of1
 replace hst := objO_get hst
 obtain ⟨hg179, hm⟩ := gd_some hm
 refine wv (.int .i64 (i64.wrap (Int.tdiv a1 t174))) z z (x_quo (not_t hg179) z z) (wv (.int .i64 (i64.wrap (Int.tdiv a1 t174))) z z z (wl_nil (tn (wp_ret ?_))))
 replace hst := objO_some hst
 obtain rfl := some_inj hm
 refine post_ret (vs := [I6 (i64.wrap (Int.tdiv a1 t174))]) results22 (rvs_cons (rv_tmp z) rvs_nil) ?_
 exact ⟨z, hst.keep1⟩
}
}
}
}
}

theorem law04_awake_ref {w0 w : World} {I : HL} {R : SP}   (hst : St w0 w I [] R) {r : (Bool)} (hm : law04_awake = some r) :
  Calls prog 9 #[] w fun e w' => ∃ (I' : HL), e = .returned (.bool r) ∧ I.le I' ∧ St w0 w' I' [] R := by {
 unfold law04_awake at hm
 refine calls_start (args := []) func9 z ntmps9 (Nat.le_of_ble_eq_true z) ?_
 have hI0 := HL.le.refl I
 refine wp_seq (wrl (wv (.bool false) z z z (wl_nil (tn (wp_seq (wrl ?_))))))
 obtain ⟨t97, ht98, hm⟩ := bind_some hm
 refine wc call13 [Zb] z z z ?_
 refine (ref04_Small_ref hst.to0 ht98).mono ?_
 rintro _ w99 ⟨v102, v104, rfl, hst⟩
 refine ⟨_, z, ?_⟩
 replace hst := hst.of2
 obtain ⟨b108, w109, ew110, eb111, hst⟩ := hst.box [Zs, Zi, Zs, Zi, Zi, Zi, Zi, Zi, Zi] 28
 refine wl_run (v := Pt b108 0) (w' := w109) z z (x_al (by kernel_rfl) ew110 eb111) ?_
 obtain ⟨w113, hr114, hst⟩ := hst.bx [v102, I6 t97.Nodes, v104, I6 t97.Frame, I6 t97.Depth, I6 t97.Quota, I6 t97.Wide, I6 t97.Beat, I6 t97.Elect] sizeOf28 z (oC (one_of_sliceV hst.sv1) (oC z (oC (one_of_sliceV hst.sv2) (oC z (oC z (oC z (oC z (oC z (oC z oN))))))))) (by kernel_rfl)
 refine wl_unit z z (x_unit hr114) ?_
 refine wl_nil (tn (wp_seq (wrl ?_)))
 obtain ⟨b115, w116, ew117, eb118, hst⟩ := hst.lits (E := tyF64) (xs := [(0:Nat)]) [[Zf]] 36 1 z (Reps.cons z Reps.nil)
 refine wl_run (v := (.slice (some ⟨b115, 0, none⟩) 1 1)) (w' := w116) z z (x_als (by kernel_rfl) ew117 eb118) ?_
 refine wv (Pt b108 2) z z (x_field z underlying28 z sizeOf26 z) ?_
 replace hst := hst.pull1
 obtain ⟨w120, hr121, hst⟩ := hst.by_ [v102, I6 t97.Nodes, (.slice (some ⟨b115, 0, none⟩) 1 1), I6 t97.Frame, I6 t97.Depth, I6 t97.Quota, I6 t97.Wide, I6 t97.Beat, I6 t97.Elect] 2 ((.slice (some ⟨b115, 0, none⟩) 1 1)) sizeOf26 z (oC (one_of_sliceV hst.sv1) oN) (by kernel_rfl)
 refine wl_unit z z (x_unit hr121) ?_
 refine wl_nil (tn (wp_seq (wrl (wv (.agg #[v102, I6 t97.Nodes, (.slice (some ⟨b115, 0, none⟩) 1 1), I6 t97.Frame, I6 t97.Depth, I6 t97.Quota, I6 t97.Wide, I6 t97.Beat, I6 t97.Elect]) z z (x_loadN (cs := [v102, I6 t97.Nodes, (.slice (some ⟨b115, 0, none⟩) 1 1), I6 t97.Frame, I6 t97.Depth, I6 t97.Quota, I6 t97.Wide, I6 t97.Beat, I6 t97.Elect]) z isAgg28 sizeOf28 (hst.bcs0 0 z)) ?_))))
 replace hst := hst.pull2
 obtain ⟨I122, hI123, f124, hst⟩ := hst.own_fix
 replace hI0 := hI0.trans hI123
 replace hst := hst.pull1
 obtain ⟨I125, hI126, f127, hst⟩ := hst.own_fix
 replace f124 := f124.mono (ro_le hI126)
 replace hI0 := hI0.trans hI126
 obtain ⟨t128, ht129, hm⟩ := bind_some hm
 refine wc call11 [.agg #[v102, I6 t97.Nodes, (.slice (some ⟨b115, 0, none⟩) 1 1), I6 t97.Frame, I6 t97.Depth, I6 t97.Quota, I6 t97.Wide, I6 t97.Beat, I6 t97.Elect]] z z z ?_
 refine (config_New_ref (a0 := ({ Up := t97.Up, Nodes := t97.Nodes, Cuts := [(0:Nat)], Frame := t97.Frame, Depth := t97.Depth, Quota := t97.Quota, Wide := t97.Wide, Beat := t97.Beat, Elect := t97.Elect } : api_Config)) f124 f127 hst.to0 ht129).mono ?_
 rintro _ w130 ⟨I131, v133, rfl, hI132, hst⟩
 refine ⟨_, z, ?_⟩
 replace hst := hst.of1
 replace f124 := f124.mono (ro_le hI132)
 replace f127 := f127.mono (ro_le hI132)
 replace hI0 := hI0.trans hI132
 refine wv (.tuple #[v133, I6 t128.2]) z z z (wv (v133) z z z (wv (.int .i64 t128.2) z z z (wv (v133) z z z (wv (.int .i64 t128.2) z z z (wl_nil (tn (wp_seq (wrl (wv (.int .i64 t128.2) z z z (wv (.bool (t128.2 == (0:Int))) z z z (wv (.bool (t128.2 == (0:Int))) z z z ?_)))))))))))
 refine bsplit (t128.2 == (0:Int)) (fun hc135 => ?_) (fun hc135 => ?_)
 {
 replace hm := bif_t hc135 hm
 refine wv (v133) ((wanted_eq z z z (cvb hc135)).trans z) z z ?_
 obtain ⟨t136, ht137, hm⟩ := bind_some hm
 refine wl_call ((wanted_eq z z z (cvb hc135)).trans z) z (x_call call18 z (vs := [v133]) z) ?_
 refine (config_Plan_Lanes_ref hst.to1 ht137).mono ?_
 rintro _ w138 ⟨rfl, hst⟩
 refine ⟨_, z, ?_⟩
 replace hst := hst.of1
 refine wv (.bool (t136 == (5:Int))) ((wanted_eq z z z (cvb hc135)).trans z) z z (wv (.bool (t136 == (5:Int))) z z (x_pick_t hc135 z z) (wv (.bool (t136 == (5:Int))) z z z ?_))
 refine bsplit (t136 == (5:Int)) (fun hc141 => ?_) (fun hc141 => ?_)
 {
 replace hm := bif_t hc141 hm
 refine wv (v133) ((wanted_eq z z z (cvb hc141)).trans z) z z ?_
 obtain ⟨t142, ht143, hm⟩ := bind_some hm
 refine wl_call ((wanted_eq z z z (cvb hc141)).trans z) z (x_call call24 z (vs := [v133, I6 (1:Int), I6 (1:Int)]) z) ?_
 refine (config_Plan_Lane_ref hst.to1 ht143).mono ?_
 rintro _ w144 ⟨rfl, hst⟩
 refine ⟨_, z, ?_⟩
 replace hst := hst.of1
 refine wv (.bool (t142 == (3:Int))) ((wanted_eq z z z (cvb hc141)).trans z) z z (wv (.bool (t142 == (3:Int))) z z (x_pick_t hc141 z z) (wv (.bool (t142 == (3:Int))) z z z ?_))
 refine bsplit (t142 == (3:Int)) (fun hc147 => ?_) (fun hc147 => ?_)
 {
 replace hm := bif_t hc147 hm
 refine wv (v133) ((wanted_eq z z z (cvb hc147)).trans z) z z ?_
 obtain ⟨t148, ht149, hm⟩ := bind_some hm
 refine wl_call ((wanted_eq z z z (cvb hc147)).trans z) z (x_call call19 z (vs := [v133]) z) ?_
 refine (config_Plan_Rules_ref hst.to1 ht149).mono ?_
 rintro _ w150 ⟨rfl, hst⟩
 refine ⟨_, z, ?_⟩
 replace hst := hst.of1
 refine wv (.bool (t148 == (4:Int))) ((wanted_eq z z z (cvb hc147)).trans z) z z (wv (.bool (t148 == (4:Int))) z z (x_pick_t hc147 z z) (wv (.bool (t148 == (4:Int))) z z z ?_))
 refine bsplit (t148 == (4:Int)) (fun hc153 => ?_) (fun hc153 => ?_)
 {
 replace hm := bif_t hc153 hm
 refine wv (v133) ((wanted_eq z z z (cvb hc153)).trans z) z z ?_
 obtain ⟨t154, ht155, hm⟩ := bind_some hm
 refine wl_call ((wanted_eq z z z (cvb hc153)).trans z) z (x_call call22 z (vs := [v133, I6 (2:Int)]) z) ?_
 refine (config_Plan_Label_ref hst.to1 ht155).mono ?_
 rintro _ w156 ⟨rfl, hst⟩
 refine ⟨_, z, ?_⟩
 replace hst := hst.of1
 refine wv (.bool (t154 == (1:Int))) ((wanted_eq z z z (cvb hc153)).trans z) z z (wv (.bool (t154 == (1:Int))) z z (x_pick_t hc153 z z) (wv (.bool (t154 == (1:Int))) z z z (wl_nil (tn (wp_ret ?_)))))
 obtain rfl := some_inj hm
 refine post_ret (vs := [.bool (t154 == (1:Int))]) results9 (rvs_cons (rv_tmp z) rvs_nil) ?_
 exact ⟨_, z, hI0, hst.keep0⟩
}
 {
 replace hm := bif_f hc153 hm
 refine wo hc153 z z z z z z (wo hc153 z z z z z z (wo hc153 z z z z z z (wv (.bool false) z z (x_pick_f hc153 z z) (wv (.bool false) z z z (wl_nil (tn (wp_ret ?_)))))))
 obtain rfl := some_inj hm
 refine post_ret (vs := [.bool false]) results9 (rvs_cons (rv_tmp z) rvs_nil) ?_
 exact ⟨_, z, hI0, hst.keep0⟩
}
}
 {
 replace hm := bif_f hc147 hm
 refine wo hc147 z z z z z z (wo hc147 z z z z z z (wo hc147 z z z z z z (wv (.bool false) z z (x_pick_f hc147 z z) (wv (.bool false) z z z (wz z z z z z z (wz z z z z z z (wz z z z z z z (wv (.bool false) z z (x_pick_f z z z) (wv (.bool false) z z z (wl_nil (tn (wp_ret ?_))))))))))))
 obtain rfl := some_inj hm
 refine post_ret (vs := [.bool false]) results9 (rvs_cons (rv_tmp z) rvs_nil) ?_
 exact ⟨_, z, hI0, hst.keep0⟩
}
}
 {
 replace hm := bif_f hc141 hm
 refine wo hc141 z z z z z z (wo hc141 z z z z z z (wo hc141 z z z z z z (wv (.bool false) z z (x_pick_f hc141 z z) (wv (.bool false) z z z (wz z z z z z z (wz z z z z z z (wz z z z z z z (wv (.bool false) z z (x_pick_f z z z) (wv (.bool false) z z z (wz z z z z z z (wz z z z z z z (wz z z z z z z ?_))))))))))))
 refine wv (.bool false) z z (x_pick_f z z z) (wv (.bool false) z z z (wl_nil (tn (wp_ret ?_))))
 obtain rfl := some_inj hm
 refine post_ret (vs := [.bool false]) results9 (rvs_cons (rv_tmp z) rvs_nil) ?_
 exact ⟨_, z, hI0, hst.keep0⟩
}
}
 {
 replace hm := bif_f hc135 hm
 refine wo hc135 z z z z z z (wo hc135 z z z z z z (wo hc135 z z z z z z (wv (.bool false) z z (x_pick_f hc135 z z) (wv (.bool false) z z z (wz z z z z z z (wz z z z z z z (wz z z z z z z (wv (.bool false) z z (x_pick_f z z z) (wv (.bool false) z z z (wz z z z z z z (wz z z z z z z (wz z z z z z z ?_))))))))))))
 refine wv (.bool false) z z (x_pick_f z z z) (wv (.bool false) z z z (wz z z z z z z (wz z z z z z z (wz z z z z z z (wv (.bool false) z z (x_pick_f z z z) (wv (.bool false) z z z (wl_nil (tn (wp_ret ?_)))))))))
 obtain rfl := some_inj hm
 refine post_ret (vs := [.bool false]) results9 (rvs_cons (rv_tmp z) rvs_nil) ?_
 exact ⟨_, z, hI0, hst.keep0⟩
}
}

theorem config_Most_ref {w0 w : World} {I : HL} {R : SP} {a0 : Int} {a1 : Int}  (hst : St w0 w I [] R) {r : (Bool)} (hm : config_Most a0 a1 = some r) :
  Calls prog 10 #[U6 a0, U6 a1] w fun e w' => e = .returned (.bool r) ∧ St w0 w' I [] R := by {
 unfold config_Most at hm
 refine calls_start (args := [U6 a0, U6 a1]) func10 z ntmps10 (Nat.le_of_ble_eq_true z) ?_
 refine wp_seq (wrl (wv (.bool false) z z z (wl_nil (tn (wp_seq (wrl (wv (.int .u64 a0) z z z (wv (.int .u64 a1) z z z (wv (.int .u64 (bAnd .u64 a0 a1)) z z z ?_)))))))))
 obtain ⟨t51, ht52, hm⟩ := bind_some hm
 refine wc call32 [U6 (bAnd .u64 a0 a1)] z z z ?_
 refine (math_bits_OnesCount64_ref hst.to0 ht52).mono ?_
 rintro _ w53 ⟨rfl, hst⟩
 refine ⟨_, z, ?_⟩
 replace hst := hst.of0
 refine wv (.int .i64 (i64.wrap ((2:Int) * t51))) z z z (wv (.int .u64 a1) z z z ?_)
 obtain ⟨t56, ht57, hm⟩ := bind_some hm
 refine wc call32 [U6 a1] z z z ?_
 refine (math_bits_OnesCount64_ref hst.to0 ht57).mono ?_
 rintro _ w58 ⟨rfl, hst⟩
 refine ⟨_, z, ?_⟩
 replace hst := hst.of0
 refine wv (.bool (decide ((i64.wrap ((2:Int) * t51)) > t56))) z z z (wv (.bool (decide ((i64.wrap ((2:Int) * t51)) > t56))) z z z (wl_nil (tn (wp_ret ?_))))
 obtain rfl := some_inj hm
 refine post_ret (vs := [.bool (decide ((i64.wrap ((2:Int) * t51)) > t56))]) results10 (rvs_cons (rv_tmp z) rvs_nil) ?_
 exact ⟨z, hst.keep0⟩
}

theorem law04_ConfigMost_ref {w0 w : World} {I : HL} {R : SP} {a0 : Int} {a1 : Int}  (hst : St w0 w I [] R) {r : (Bool)} (hm : law04_ConfigMost a0 a1 = some r) :
  Calls prog 3 #[U6 a0, U6 a1] w fun e w' => ∃ (I' : HL), e = .returned (.bool r) ∧ I.le I' ∧ St w0 w' I' [] R := by {
 unfold law04_ConfigMost at hm
 refine calls_start (args := [U6 a0, U6 a1]) func3 z ntmps3 (Nat.le_of_ble_eq_true z) ?_
 have hI0 := HL.le.refl I
 refine wp_seq (wrl (wv (.bool false) z z z (wl_nil (tn (wp_seq (wrl (wv (.int .i64 (0:Int)) z z z (wl_nil (tn (wp_seq (wrl (wv (.int .i64 (0:Int)) z z z (wl_nil (tn ?_))))))))))))))
 obtain ⟨y77, hm, hx78⟩ := bind_some hm
 refine wp_cut (fun a w => ∃ (z73 : Int) (z74 : Int) (σ75 : Nat → Value), (law04_ConfigMost_j0 a0 a1) (z73, z74) = some r ∧ a = Fr 38 (upd (upd (upd (upd σ75 0 (.int .u64 a0)) 1 (.int .u64 a1)) 5 (.int .i64 z73)) 6 (.int .i64 z74)) ∧ St w0 w I [] R) ?_ ?_
 {
 refine wp_seq (wrl (wv (.int .i64 (0:Int)) z z z (wl_nil (tn (wp_block ?_)))))
 obtain ⟨n61, hm⟩ := loopO_some hm
 refine wp_loop_n (fun n a w => ∃ (z57 : Int) (z58 : Int) (z59 : Int) (σ60 : Nat → Value), loopN (law04_ConfigMost_l1 a1 a0) n (z57, z58, z59) = some y77 ∧ a = Fr 38 (upd (upd (upd (upd (upd σ60 0 (.int .u64 a0)) 1 (.int .u64 a1)) 5 (.int .i64 z57)) 6 (.int .i64 z58)) 7 (.int .i64 z59)) ∧ St w0 w I [] R) n61 ⟨(0:Int), (0:Int), (0:Int), _, hm, (fu 0 (.int .u64 a0) z (fu 1 (.int .u64 a1) z (fu 5 (.int .i64 (0:Int)) z (fu 6 (.int .i64 (0:Int)) z (fu 7 (.int .i64 (0:Int)) z z))))), hst⟩ ?_
 rintro n67 _ w62 ⟨z57, z58, z59, σ60, hm, rfl, hst⟩
 obtain ⟨n64, y65, rfl, hm, hx66⟩ := loopN_some hm
 dsimp only [law04_ConfigMost_l1] at hm
 refine wp_seq (wp_seq (wrl (wv (.int .i64 z59) z z z (wv (.bool (decide (z59 < (64:Int)))) z z z (wl_nil (tn ?_))))))
 refine bsplit (decide (z59 < (64:Int))) (fun hc68 => ?_) (fun hc68 => ?_)
 {
 replace hm := bif_t hc68 hm
 refine wp_ift (cvb hc68) ?_
 refine wp_skip (tn (wp_seq (wp_block (wp_seq (wrl ?_)))))
 refine wv (.int .u64 a1) z z z (wv (.int .i64 z59) z z z ?_)
 obtain ⟨hg69, hm⟩ := gd_some hm
 refine wv (.int .u64 (iShr .u64 a1 z59)) z z (x_shr (of_decide_eq_true hg69) z z) (wv (.int .u64 (bAnd .u64 (iShr .u64 a1 z59) (1:Int))) z z z (wv (.bool ((bAnd .u64 (iShr .u64 a1 z59) (1:Int)) == (1:Int))) z z z (wl_nil (tn ?_))))
 refine bsplit ((bAnd .u64 (iShr .u64 a1 z59) (1:Int)) == (1:Int)) (fun hc70 => ?_) (fun hc70 => ?_)
 {
 replace hm := bif_t hc70 hm
 refine wp_ift (cvb hc70) ?_
 refine wp_seq (wrl (wv (.int .i64 z58) z z z (wv (.int .i64 (i64.wrap (z58 + (1:Int)))) z z z (wv (.int .i64 (i64.wrap (z58 + (1:Int)))) z z z (wl_nil (tn (wp_seq (wrl (wv (.int .u64 a0) z z z (wv (.int .i64 z59) z z z ?_))))))))))
 obtain ⟨hg71, hm⟩ := gd_some hm
 refine wv (.int .u64 (iShr .u64 a0 z59)) z z (x_shr (of_decide_eq_true hg71) z z) (wv (.int .u64 (bAnd .u64 (iShr .u64 a0 z59) (1:Int))) z z z (wv (.bool ((bAnd .u64 (iShr .u64 a0 z59) (1:Int)) == (1:Int))) z z z (wl_nil (tn ?_))))
 refine bsplit ((bAnd .u64 (iShr .u64 a0 z59) (1:Int)) == (1:Int)) (fun hc72 => ?_) (fun hc72 => ?_)
 {
 replace hm := bif_t hc72 hm
 refine wp_ift (cvb hc72) ?_
 refine wrl (wv (.int .i64 z57) z z z (wv (.int .i64 (i64.wrap (z57 + (1:Int)))) z z z (wv (.int .i64 (i64.wrap (z57 + (1:Int)))) z z z (wl_nil (blk_n (tn (wrl (wv (.int .i64 z59) z z z (wv (.int .i64 (i64.wrap (z59 + (1:Int)))) z z z (wv (.int .i64 (i64.wrap (z59 + (1:Int)))) z z z (wl_nil (tn ?_))))))))))))
 replace hst := hst.keep0
 obtain rfl := some_inj hm
 exact ⟨_, Nat.lt_succ_self _, (i64.wrap (z57 + (1:Int))), (i64.wrap (z58 + (1:Int))), (i64.wrap (z59 + (1:Int))), _, hx66, (fu 0 (.int .u64 a0) z (fu 1 (.int .u64 a1) z (fu 5 (.int .i64 (i64.wrap (z57 + (1:Int)))) z (fu 6 (.int .i64 (i64.wrap (z58 + (1:Int)))) z (fu 7 (.int .i64 (i64.wrap (z59 + (1:Int)))) z z))))), hst⟩
}
 {
 replace hm := bif_f hc72 hm
 refine wp_iff (cvb hc72) ?_
 refine wp_skip (blk_n (tn (wrl ?_)))
 refine wv (.int .i64 z59) z z z (wv (.int .i64 (i64.wrap (z59 + (1:Int)))) z z z (wv (.int .i64 (i64.wrap (z59 + (1:Int)))) z z z (wl_nil (tn ?_))))
 replace hst := hst.keep0
 obtain rfl := some_inj hm
 exact ⟨_, Nat.lt_succ_self _, z57, (i64.wrap (z58 + (1:Int))), (i64.wrap (z59 + (1:Int))), _, hx66, (fu 0 (.int .u64 a0) z (fu 1 (.int .u64 a1) z (fu 5 (.int .i64 z57) z (fu 6 (.int .i64 (i64.wrap (z58 + (1:Int)))) z (fu 7 (.int .i64 (i64.wrap (z59 + (1:Int)))) z z))))), hst⟩
}
}
 {
 replace hm := bif_f hc70 hm
 refine wp_iff (cvb hc70) ?_
 refine wp_skip (blk_n (tn (wrl ?_)))
 refine wv (.int .i64 z59) z z z (wv (.int .i64 (i64.wrap (z59 + (1:Int)))) z z z (wv (.int .i64 (i64.wrap (z59 + (1:Int)))) z z z (wl_nil (tn ?_))))
 replace hst := hst.keep0
 obtain rfl := some_inj hm
 exact ⟨_, Nat.lt_succ_self _, z57, z58, (i64.wrap (z59 + (1:Int))), _, hx66, (fu 0 (.int .u64 a0) z (fu 1 (.int .u64 a1) z (fu 5 (.int .i64 z57) z (fu 6 (.int .i64 z58) z (fu 7 (.int .i64 (i64.wrap (z59 + (1:Int)))) z z))))), hst⟩
}
}
 {
 replace hm := bif_f hc68 hm
 refine wp_iff (cvb hc68) ?_
 refine wp_exit (then_x (then_x ?_))
 replace hm := inr_up hm hx66
 refine blk_x (tn ?_)
 replace hst := hst.keep0
 obtain rfl := some_inj hm
 exact ⟨z57, z58, _, hx78, (fu 0 (.int .u64 a0) z (fu 1 (.int .u64 a1) z (fu 5 (.int .i64 z57) z (fu 6 (.int .i64 z58) z z)))), hst⟩
}
}
 {
 clear hst
 rintro _ w79 ⟨z73, z74, σ75, hm, rfl, hst⟩
 dsimp only [law04_ConfigMost_j0] at hm
 refine wp_seq (wrl ?_)
 obtain ⟨t80, ht81, hm⟩ := bind_some hm
 refine wc call9 [] z z z ?_
 refine (law04_awake_ref hst.to0 ht81).mono ?_
 rintro _ w82 ⟨I83, rfl, hI84, hst⟩
 refine ⟨_, z, ?_⟩
 replace hst := hst.of0
 replace hI0 := hI0.trans hI84
 refine wv (.bool t80) z z z ?_
 refine bsplit t80 (fun hc85 => ?_) (fun hc85 => ?_)
 {
 replace hm := bif_t hc85 hm
 refine wv (.int .u64 a0) ((wanted_eq z z z (cvb hc85)).trans z) z z (wv (.int .u64 a1) ((wanted_eq z z z (cvb hc85)).trans z) z z ?_)
 obtain ⟨t86, ht87, hm⟩ := bind_some hm
 refine wl_call ((wanted_eq z z z (cvb hc85)).trans z) z (x_call call10 z (vs := [U6 a0, U6 a1]) z) ?_
 refine (config_Most_ref hst.to0 ht87).mono ?_
 rintro _ w88 ⟨rfl, hst⟩
 refine ⟨_, z, ?_⟩
 replace hst := hst.of0
 refine wv (.int .i64 z73) ((wanted_eq z z z (cvb hc85)).trans z) z z (wv (.int .i64 z74) ((wanted_eq z z z (cvb hc85)).trans z) z z (wv (.int .i64 z73) ((wanted_eq z z z (cvb hc85)).trans z) z z (wv (.int .i64 (i64.wrap (z74 - z73))) ((wanted_eq z z z (cvb hc85)).trans z) z z (wv (.bool (decide (z73 > (i64.wrap (z74 - z73))))) ((wanted_eq z z z (cvb hc85)).trans z) z z (wv (.bool (t86 == (decide (z73 > (i64.wrap (z74 - z73)))))) ((wanted_eq z z z (cvb hc85)).trans z) z (by kernel_rfl) (wv (.bool (t86 == (decide (z73 > (i64.wrap (z74 - z73)))))) z z (x_pick_t hc85 z z) (wv (.bool (t86 == (decide (z73 > (i64.wrap (z74 - z73)))))) z z z (wl_nil (tn (wp_ret ?_))))))))))
 obtain rfl := some_inj hm
 refine post_ret (vs := [.bool (t86 == (decide (z73 > (i64.wrap (z74 - z73)))))]) results3 (rvs_cons (rv_tmp z) rvs_nil) ?_
 exact ⟨_, z, hI0, hst.keep0⟩
}
 {
 replace hm := bif_f hc85 hm
 refine wo hc85 z z z z z z (wo hc85 z z z z z z (wo hc85 z z z z z z (wo hc85 z z z z z z (wo hc85 z z z z z z (wo hc85 z z z z z z (wo hc85 z z z z z z (wo hc85 z z z z z z (wo hc85 z z z z z z (wv (.bool false) z z (x_pick_f hc85 z z) (wv (.bool false) z z z (wl_nil (tn (wp_ret ?_)))))))))))))
 obtain rfl := some_inj hm
 refine post_ret (vs := [.bool false]) results3 (rvs_cons (rv_tmp z) rvs_nil) ?_
 exact ⟨_, z, hI0, hst.keep0⟩
}
}
}

end Go.Proofs.Ytkjkbfaaigmmcaa
