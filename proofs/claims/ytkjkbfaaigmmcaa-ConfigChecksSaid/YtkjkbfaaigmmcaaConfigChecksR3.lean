/- The Go functions refine their models, part 3. -/
import Derived.Test.YtkjkbfaaigmmcaaConfigChecksR2
set_option linter.unusedVariables false
set_option linter.unusedSimpArgs false
set_option maxRecDepth 100000
set_option maxHeartbeats 4000000
namespace Go.Proofs.Ytkjkbfaaigmmcaa
open Go Go.V
open _root_.Go.Proofs.Try IntKind
attribute [local irreducible] wpList Code.wp wpQuiet Calls bodyPost Oper.wp wpS Nx PendOK YieldsIn
theorem law04_ConfigChecks_ref {w0 w : World} {I : HL} {R : SP} {a0 : api_Config} {r0_0 : Value} {r0_1 : Value} (f0_0 : Ro (tyInt .u64) I r0_0 a0.Up) (f0_1 : Ro tyF64 I r0_1 a0.Cuts) (hst : St w0 w I [] R) {r : (Bool)} (hm : law04_ConfigChecks a0 = some r) :
  Calls prog 4 #[.agg #[r0_0, I6 a0.Nodes, r0_1, I6 a0.Frame, I6 a0.Depth, I6 a0.Quota, I6 a0.Wide, I6 a0.Beat, I6 a0.Elect]] w fun e w' => ∃ (I' : HL), e = .returned (.bool r) ∧ I.le I' ∧ St w0 w' I' [] R := by {
 unfold law04_ConfigChecks at hm
 refine calls_start (args := [.agg #[r0_0, I6 a0.Nodes, r0_1, I6 a0.Frame, I6 a0.Depth, I6 a0.Quota, I6 a0.Wide, I6 a0.Beat, I6 a0.Elect]]) func4 z ntmps4 (Nat.le_of_ble_eq_true z) ?_
 have hI0 := HL.le.refl I
 refine wp_seq (wrl ?_)
 obtain ⟨b46, w47, ew48, eb49, hst⟩ := hst.box [r0_0, I6 a0.Nodes, r0_1, I6 a0.Frame, I6 a0.Depth, I6 a0.Quota, I6 a0.Wide, I6 a0.Beat, I6 a0.Elect] 28
 refine wl_run (v := Pt b46 0) (w' := w47) z z (x_al (by kernel_rfl) ew48 eb49) ?_
 refine wv (.bool false) z z z (wl_nil (tn (wp_seq (wp_seq (wrl ?_)))))
 obtain ⟨t51, ht52, hm⟩ := bind_some hm
 refine wc call9 [] z z z ?_
 refine (law04_awake_ref hst.to0 ht52).mono ?_
 rintro _ w53 ⟨I54, rfl, hI55, hst⟩
 refine ⟨_, z, ?_⟩
 replace hst := hst.of0
 replace f0_0 := f0_0.mono (ro_le hI55)
 replace f0_1 := f0_1.mono (ro_le hI55)
 replace hI0 := hI0.trans hI55
 refine wv (.bool (!t51)) z z z (wv (.bool (!t51)) z z z ?_)
 refine bsplit (!t51) (fun hc56 => ?_) (fun hc56 => ?_)
 {
 replace hm := bif_t hc56 hm
 refine wo hc56 z z z z z z (wo hc56 z z z z z z (wo hc56 z z z z z z (wo hc56 z z z z z z (wv (.bool true) z z (x_pick_t hc56 z z) (wv (.bool true) z z z (wz z z z z z z (wz z z z z z z (wz z z z z z z (wz z z z z z z (wv (.bool true) z z (x_pick_t z z z) (wl_nil (tn ?_))))))))))))
 refine wp_ift z ?_
 refine wp_seq (wrl ?_)
 obtain ⟨t57, ht58, hm⟩ := bind_some hm
 refine wc call9 [] z z z ?_
 refine (law04_awake_ref hst.to0 ht58).mono ?_
 rintro _ w59 ⟨I60, rfl, hI61, hst⟩
 refine ⟨_, z, ?_⟩
 replace hst := hst.of0
 replace f0_0 := f0_0.mono (ro_le hI61)
 replace f0_1 := f0_1.mono (ro_le hI61)
 replace hI0 := hI0.trans hI61
 refine wv (.bool t57) z z z (wl_nil (tn (wp_ret (then_r ?_))))
 obtain rfl := some_inj hm
 refine post_ret (vs := [.bool t57]) results4 (rvs_cons (rv_tmp z) rvs_nil) ?_
 exact ⟨_, z, hI0, hst.keep0⟩
}
 {
 replace hm := bif_f hc56 hm
 refine wv (Pt b46 0) ((wanted_eq z z z (cvb hc56)).trans z) z (x_field z underlying28 z sizeOf25 z) (wv (r0_0) ((wanted_eq z z z (cvb hc56)).trans z) z (x_load z isAgg25 (hst.bc0 z)) (wv (.int .i64 ((a0.Up).length : Int)) ((wanted_eq z z z (cvb hc56)).trans z) z (x_len z underlying25 (ro_sliceV f0_0)) (wv (.bool (decide (((a0.Up).length : Int) > (20:Int)))) ((wanted_eq z z z (cvb hc56)).trans z) z z (wv (.bool (decide (((a0.Up).length : Int) > (20:Int)))) z z (x_pick_f hc56 z z) (wv (.bool (decide (((a0.Up).length : Int) > (20:Int)))) z z z ?_)))))
 refine bsplit (decide (((a0.Up).length : Int) > (20:Int))) (fun hc62 => ?_) (fun hc62 => ?_)
 {
 replace hm := bif_t hc62 hm
 refine wo hc62 z z z z z z (wo hc62 z z z z z z (wo hc62 z z z z z z (wo hc62 z z z z z z (wv (.bool true) z z (x_pick_t hc62 z z) (wl_nil (tn ?_))))))
 refine wp_ift z ?_
 refine wp_seq (wrl ?_)
 obtain ⟨t63, ht64, hm⟩ := bind_some hm
 refine wc call9 [] z z z ?_
 refine (law04_awake_ref hst.to0 ht64).mono ?_
 rintro _ w65 ⟨I66, rfl, hI67, hst⟩
 refine ⟨_, z, ?_⟩
 replace hst := hst.of0
 replace f0_0 := f0_0.mono (ro_le hI67)
 replace f0_1 := f0_1.mono (ro_le hI67)
 replace hI0 := hI0.trans hI67
 refine wv (.bool t63) z z z (wl_nil (tn (wp_ret (then_r ?_))))
 obtain rfl := some_inj hm
 refine post_ret (vs := [.bool t63]) results4 (rvs_cons (rv_tmp z) rvs_nil) ?_
 exact ⟨_, z, hI0, hst.keep0⟩
}
 {
 replace hm := bif_f hc62 hm
 refine wv (Pt b46 2) ((wanted_eq z z z (cvb hc62)).trans z) z (x_field z underlying28 z sizeOf26 z) (wv (r0_1) ((wanted_eq z z z (cvb hc62)).trans z) z (x_load z isAgg26 (hst.bc0 z)) (wv (.int .i64 ((a0.Cuts).length : Int)) ((wanted_eq z z z (cvb hc62)).trans z) z (x_len z underlying26 (ro_sliceV f0_1)) (wv (.bool (decide (((a0.Cuts).length : Int) > (100:Int)))) ((wanted_eq z z z (cvb hc62)).trans z) z z (wv (.bool (decide (((a0.Cuts).length : Int) > (100:Int)))) z z (x_pick_f hc62 z z) (wl_nil (tn ?_))))))
 refine bsplit (decide (((a0.Cuts).length : Int) > (100:Int))) (fun hc68 => ?_) (fun hc68 => ?_)
 {
 replace hm := bif_t hc68 hm
 refine wp_ift (cvb hc68) ?_
 refine wp_seq (wrl ?_)
 obtain ⟨t69, ht70, hm⟩ := bind_some hm
 refine wc call9 [] z z z ?_
 refine (law04_awake_ref hst.to0 ht70).mono ?_
 rintro _ w71 ⟨I72, rfl, hI73, hst⟩
 refine ⟨_, z, ?_⟩
 replace hst := hst.of0
 replace f0_0 := f0_0.mono (ro_le hI73)
 replace f0_1 := f0_1.mono (ro_le hI73)
 replace hI0 := hI0.trans hI73
 refine wv (.bool t69) z z z (wl_nil (tn (wp_ret (then_r ?_))))
 obtain rfl := some_inj hm
 refine post_ret (vs := [.bool t69]) results4 (rvs_cons (rv_tmp z) rvs_nil) ?_
 exact ⟨_, z, hI0, hst.keep0⟩
}
 {
 replace hm := bif_f hc68 hm
 refine wp_iff (cvb hc68) ?_
 refine wp_skip (tn (wp_seq (wrl ?_)))
 refine wv (.agg #[r0_0, I6 a0.Nodes, r0_1, I6 a0.Frame, I6 a0.Depth, I6 a0.Quota, I6 a0.Wide, I6 a0.Beat, I6 a0.Elect]) z z (x_loadN (cs := [r0_0, I6 a0.Nodes, r0_1, I6 a0.Frame, I6 a0.Depth, I6 a0.Quota, I6 a0.Wide, I6 a0.Beat, I6 a0.Elect]) z isAgg28 sizeOf28 (hst.bcs0 0 z)) ?_
 obtain ⟨t74, ht75, hm⟩ := bind_some hm
 refine wc call11 [.agg #[r0_0, I6 a0.Nodes, r0_1, I6 a0.Frame, I6 a0.Depth, I6 a0.Quota, I6 a0.Wide, I6 a0.Beat, I6 a0.Elect]] z z z ?_
 refine (config_New_ref f0_0 f0_1 hst.to0 ht75).mono ?_
 rintro _ w76 ⟨I77, v79, rfl, hI78, hst⟩
 refine ⟨_, z, ?_⟩
 replace hst := hst.of1
 replace f0_0 := f0_0.mono (ro_le hI78)
 replace f0_1 := f0_1.mono (ro_le hI78)
 replace hI0 := hI0.trans hI78
 refine wv (.tuple #[v79, I6 t74.2]) z z z (wv (v79) z z z (wv (.int .i64 t74.2) z z z (wv (v79) z z z (wv (.int .i64 t74.2) z z z (wl_nil (tn (wp_seq (wrl (wv (.agg #[r0_0, I6 a0.Nodes, r0_1, I6 a0.Frame, I6 a0.Depth, I6 a0.Quota, I6 a0.Wide, I6 a0.Beat, I6 a0.Elect]) z z (x_loadN (cs := [r0_0, I6 a0.Nodes, r0_1, I6 a0.Frame, I6 a0.Depth, I6 a0.Quota, I6 a0.Wide, I6 a0.Beat, I6 a0.Elect]) z isAgg28 sizeOf28 (hst.bcs1 0 z)) ?_)))))))))
 obtain ⟨t81, ht82, hm⟩ := bind_some hm
 refine wc call12 [.agg #[r0_0, I6 a0.Nodes, r0_1, I6 a0.Frame, I6 a0.Depth, I6 a0.Quota, I6 a0.Wide, I6 a0.Beat, I6 a0.Elect]] z z z ?_
 refine (ref04_Check_ref (f0_0.mono ro_rd) (f0_1.mono ro_rd) hst.to0 ht82).mono ?_
 rintro _ w83 ⟨rfl, hst⟩
 refine ⟨_, z, ?_⟩
 replace hst := hst.of0
 refine wv (.int .i64 t81) z z z (wl_nil (tn (wp_seq (wrl (wv (.int .i64 t74.2) z z z (wv (.int .i64 t81) z z z (wv (.bool (t74.2 == t81)) z z z (wv (.bool (t74.2 == t81)) z z z ?_))))))))
 refine bsplit (t74.2 == t81) (fun hc86 => ?_) (fun hc86 => ?_)
 {
 replace hm := bif_t hc86 hm
 refine wv (v79) ((wanted_eq z z z (cvb hc86)).trans z) z z (wv (.bool (!(t74.1.isNone))) ((wanted_eq z z z (cvb hc86)).trans z) z (by obtain ⟨a_, ha_, hb_⟩ := at_config_Plan_isnil hst; subst ha_; rw [← hb_]; cases a_ <;> kernel_rfl) (wv (.int .i64 t81) ((wanted_eq z z z (cvb hc86)).trans z) z z (wv (.bool (t81 == (0:Int))) ((wanted_eq z z z (cvb hc86)).trans z) z z (wv (.bool ((!(t74.1.isNone)) == (t81 == (0:Int)))) ((wanted_eq z z z (cvb hc86)).trans z) z (by kernel_rfl) (wv (.bool ((!(t74.1.isNone)) == (t81 == (0:Int)))) z z (x_pick_t hc86 z z) (wv (.bool ((!(t74.1.isNone)) == (t81 == (0:Int)))) z z z (wl_nil (tn (wp_ret ?_)))))))))
 obtain rfl := some_inj hm
 refine post_ret (vs := [.bool ((!(t74.1.isNone)) == (t81 == (0:Int)))]) results4 (rvs_cons (rv_tmp z) rvs_nil) ?_
 exact ⟨_, z, hI0, hst.keep0⟩
}
 {
 replace hm := bif_f hc86 hm
 refine wo hc86 z z z z z z (wo hc86 z z z z z z (wo hc86 z z z z z z (wo hc86 z z z z z z (wo hc86 z z z z z z (wv (.bool false) z z (x_pick_f hc86 z z) (wv (.bool false) z z z (wl_nil (tn (wp_ret ?_)))))))))
 obtain rfl := some_inj hm
 refine post_ret (vs := [.bool false]) results4 (rvs_cons (rv_tmp z) rvs_nil) ?_
 exact ⟨_, z, hI0, hst.keep0⟩
}
}
}
}
}

end Go.Proofs.Ytkjkbfaaigmmcaa
