/- The Go functions refine their models, part 3. -/
import Derived.Test.YtkjkbfaaigmmcaaConfigNearR2
set_option linter.unusedVariables false
set_option linter.unusedSimpArgs false
set_option maxRecDepth 100000
set_option maxHeartbeats 4000000
namespace Go.Proofs.Ytkjkbfaaigmmcaa
open Go Go.V
open _root_.Go.Proofs.Try IntKind
attribute [local irreducible] wpList Code.wp wpQuiet Calls bodyPost Oper.wp wpS Nx PendOK YieldsIn
theorem law04_ConfigNear_ref {w0 w : World} {I : HL} {R : SP} {a0 : Int} {a1 : Int} {a2 : Int}  (hst : St w0 w I [] R) {r : (Bool)} (hm : law04_ConfigNear a0 a1 a2 = some r) :
  Calls prog 5 #[U1 a0, U1 a1, I6 a2] w fun e w' => ∃ (I' : HL), e = .returned (.bool r) ∧ I.le I' ∧ St w0 w' I' [] R := by {
 unfold law04_ConfigNear at hm
 refine calls_start (args := [U1 a0, U1 a1, I6 a2]) func5 z ntmps5 (Nat.le_of_ble_eq_true z) ?_
 have hI0 := HL.le.refl I
 refine wp_seq (wrl (wv (.bool false) z z z (wl_nil (tn (wp_seq (wrl (wv (.int .u8 a0) z z z ?_)))))))
 obtain ⟨t80, ht81, hm⟩ := bind_some hm
 refine wc call13 [U1 a0] z z z ?_
 refine (ref04_Small_ref hst.to0 ht81).mono ?_
 rintro _ w82 ⟨v85, v87, rfl, hst⟩
 refine ⟨_, z, ?_⟩
 replace hst := hst.of2
 obtain ⟨b91, w92, ew93, eb94, hst⟩ := hst.box [Zs, Zi, Zs, Zi, Zi, Zi, Zi, Zi, Zi] 28
 refine wl_run (v := Pt b91 0) (w' := w92) z z (x_al (by kernel_rfl) ew93 eb94) ?_
 obtain ⟨w96, hr97, hst⟩ := hst.bx [v85, I6 t80.Nodes, v87, I6 t80.Frame, I6 t80.Depth, I6 t80.Quota, I6 t80.Wide, I6 t80.Beat, I6 t80.Elect] sizeOf28 z (oC (one_of_sliceV hst.sv1) (oC z (oC (one_of_sliceV hst.sv2) (oC z (oC z (oC z (oC z (oC z (oC z oN))))))))) (by kernel_rfl)
 refine wl_unit z z (x_unit hr97) ?_
 refine wl_nil (tn ?_)
 obtain ⟨y131, hm, hx132⟩ := bind_some hm
 refine wp_cut (fun a w => ∃ (z126 : api_Config) (v128 : Value) (σ129 : Nat → Value), (law04_ConfigNear_j0) z126 = some r ∧ a = Fr 65 (upd σ129 7 (Pt b91 0)) ∧ St w0 w I [cells b91 [v85, I6 z126.Nodes, v128, I6 z126.Frame, I6 z126.Depth, I6 z126.Quota, I6 z126.Wide, I6 z126.Beat, I6 z126.Elect], ownS (tyInt .u64) v85 z126.Up, ownS tyF64 v128 z126.Cuts] R) ?_ ?_
 {
 refine wp_seq (wrl (wv (.int .u8 a1) z z z (wv (.int .u8 (Int.tmod a1 (8:Int))) z z (x_rem (by decide) z z) (wl_nil (tn (wp_block (wp_seq (wrl (wv (.bool ((Int.tmod a1 (8:Int)) == (0:Int))) z z z (wv (.bool ((Int.tmod a1 (8:Int)) == (0:Int))) z z z (wl_nil (tn ?_))))))))))))
 refine bsplit ((Int.tmod a1 (8:Int)) == (0:Int)) (fun hc98 => ?_) (fun hc98 => ?_)
 {
 replace hm := bif_t hc98 hm
 refine wp_ift (cvb hc98) ?_
 refine wrl (wv (.int .i64 a2) z z z (wv (Pt b91 1) z z (x_field z underlying28 z sizeOf3 z) ?_))
 obtain ⟨w99, hr100, hst⟩ := hst.by_ [v85, I6 a2, v87, I6 t80.Frame, I6 t80.Depth, I6 t80.Quota, I6 t80.Wide, I6 t80.Beat, I6 t80.Elect] 1 (.int .i64 a2) sizeOf3 z (oC z oN) (by kernel_rfl)
 refine wl_unit z z (x_unit hr100) ?_
 refine wl_nil (blk_n (tn ?_))
 replace hst := hst.pull2.pull2.pull2.keep3
 obtain rfl := some_inj hm
 exact ⟨({ Up := t80.Up, Nodes := a2, Cuts := t80.Cuts, Frame := t80.Frame, Depth := t80.Depth, Quota := t80.Quota, Wide := t80.Wide, Beat := t80.Beat, Elect := t80.Elect } : api_Config), v87, _, hx132, (fu 7 (Pt b91 0) z z), hst⟩
}
 {
 replace hm := bif_f hc98 hm
 refine wp_iff (cvb hc98) ?_
 refine wp_seq (wrl (wv (.bool ((Int.tmod a1 (8:Int)) == (1:Int))) z z z (wv (.bool ((Int.tmod a1 (8:Int)) == (1:Int))) z z z (wl_nil (tn ?_)))))
 refine bsplit ((Int.tmod a1 (8:Int)) == (1:Int)) (fun hc101 => ?_) (fun hc101 => ?_)
 {
 replace hm := bif_t hc101 hm
 refine wp_ift (cvb hc101) ?_
 refine wrl (wv (.int .i64 a2) z z z (wv (Pt b91 3) z z (x_field z underlying28 z sizeOf3 z) ?_))
 obtain ⟨w102, hr103, hst⟩ := hst.by_ [v85, I6 t80.Nodes, v87, I6 a2, I6 t80.Depth, I6 t80.Quota, I6 t80.Wide, I6 t80.Beat, I6 t80.Elect] 3 (.int .i64 a2) sizeOf3 z (oC z oN) (by kernel_rfl)
 refine wl_unit z z (x_unit hr103) ?_
 refine wl_nil (blk_n (tn ?_))
 replace hst := hst.pull2.pull2.pull2.keep3
 obtain rfl := some_inj hm
 exact ⟨({ Up := t80.Up, Nodes := t80.Nodes, Cuts := t80.Cuts, Frame := a2, Depth := t80.Depth, Quota := t80.Quota, Wide := t80.Wide, Beat := t80.Beat, Elect := t80.Elect } : api_Config), v87, _, hx132, (fu 7 (Pt b91 0) z z), hst⟩
}
 {
 replace hm := bif_f hc101 hm
 refine wp_iff (cvb hc101) ?_
 refine wp_seq (wrl (wv (.bool ((Int.tmod a1 (8:Int)) == (2:Int))) z z z (wv (.bool ((Int.tmod a1 (8:Int)) == (2:Int))) z z z (wl_nil (tn ?_)))))
 refine bsplit ((Int.tmod a1 (8:Int)) == (2:Int)) (fun hc104 => ?_) (fun hc104 => ?_)
 {
 replace hm := bif_t hc104 hm
 refine wp_ift (cvb hc104) ?_
 refine wrl (wv (.int .i64 a2) z z z (wv (Pt b91 4) z z (x_field z underlying28 z sizeOf3 z) ?_))
 obtain ⟨w105, hr106, hst⟩ := hst.by_ [v85, I6 t80.Nodes, v87, I6 t80.Frame, I6 a2, I6 t80.Quota, I6 t80.Wide, I6 t80.Beat, I6 t80.Elect] 4 (.int .i64 a2) sizeOf3 z (oC z oN) (by kernel_rfl)
 refine wl_unit z z (x_unit hr106) ?_
 refine wl_nil (blk_n (tn ?_))
 replace hst := hst.pull2.pull2.pull2.keep3
 obtain rfl := some_inj hm
 exact ⟨({ Up := t80.Up, Nodes := t80.Nodes, Cuts := t80.Cuts, Frame := t80.Frame, Depth := a2, Quota := t80.Quota, Wide := t80.Wide, Beat := t80.Beat, Elect := t80.Elect } : api_Config), v87, _, hx132, (fu 7 (Pt b91 0) z z), hst⟩
}
 {
 replace hm := bif_f hc104 hm
 refine wp_iff (cvb hc104) ?_
 refine wp_seq (wrl (wv (.bool ((Int.tmod a1 (8:Int)) == (3:Int))) z z z (wv (.bool ((Int.tmod a1 (8:Int)) == (3:Int))) z z z (wl_nil (tn ?_)))))
 refine bsplit ((Int.tmod a1 (8:Int)) == (3:Int)) (fun hc107 => ?_) (fun hc107 => ?_)
 {
 replace hm := bif_t hc107 hm
 refine wp_ift (cvb hc107) ?_
 refine wrl (wv (.int .i64 a2) z z z (wv (Pt b91 5) z z (x_field z underlying28 z sizeOf3 z) ?_))
 obtain ⟨w108, hr109, hst⟩ := hst.by_ [v85, I6 t80.Nodes, v87, I6 t80.Frame, I6 t80.Depth, I6 a2, I6 t80.Wide, I6 t80.Beat, I6 t80.Elect] 5 (.int .i64 a2) sizeOf3 z (oC z oN) (by kernel_rfl)
 refine wl_unit z z (x_unit hr109) ?_
 refine wl_nil (blk_n (tn ?_))
 replace hst := hst.pull2.pull2.pull2.keep3
 obtain rfl := some_inj hm
 exact ⟨({ Up := t80.Up, Nodes := t80.Nodes, Cuts := t80.Cuts, Frame := t80.Frame, Depth := t80.Depth, Quota := a2, Wide := t80.Wide, Beat := t80.Beat, Elect := t80.Elect } : api_Config), v87, _, hx132, (fu 7 (Pt b91 0) z z), hst⟩
}
 {
 replace hm := bif_f hc107 hm
 refine wp_iff (cvb hc107) ?_
 refine wp_seq (wrl (wv (.bool ((Int.tmod a1 (8:Int)) == (4:Int))) z z z (wv (.bool ((Int.tmod a1 (8:Int)) == (4:Int))) z z z (wl_nil (tn ?_)))))
 refine bsplit ((Int.tmod a1 (8:Int)) == (4:Int)) (fun hc110 => ?_) (fun hc110 => ?_)
 {
 replace hm := bif_t hc110 hm
 refine wp_ift (cvb hc110) ?_
 refine wrl (wv (.int .i64 a2) z z z (wv (Pt b91 6) z z (x_field z underlying28 z sizeOf3 z) ?_))
 obtain ⟨w111, hr112, hst⟩ := hst.by_ [v85, I6 t80.Nodes, v87, I6 t80.Frame, I6 t80.Depth, I6 t80.Quota, I6 a2, I6 t80.Beat, I6 t80.Elect] 6 (.int .i64 a2) sizeOf3 z (oC z oN) (by kernel_rfl)
 refine wl_unit z z (x_unit hr112) ?_
 refine wl_nil (blk_n (tn ?_))
 replace hst := hst.pull2.pull2.pull2.keep3
 obtain rfl := some_inj hm
 exact ⟨({ Up := t80.Up, Nodes := t80.Nodes, Cuts := t80.Cuts, Frame := t80.Frame, Depth := t80.Depth, Quota := t80.Quota, Wide := a2, Beat := t80.Beat, Elect := t80.Elect } : api_Config), v87, _, hx132, (fu 7 (Pt b91 0) z z), hst⟩
}
 {
 replace hm := bif_f hc110 hm
 refine wp_iff (cvb hc110) ?_
 refine wp_seq (wrl (wv (.bool ((Int.tmod a1 (8:Int)) == (5:Int))) z z z (wv (.bool ((Int.tmod a1 (8:Int)) == (5:Int))) z z z (wl_nil (tn ?_)))))
 refine bsplit ((Int.tmod a1 (8:Int)) == (5:Int)) (fun hc113 => ?_) (fun hc113 => ?_)
 {
 replace hm := bif_t hc113 hm
 refine wp_ift (cvb hc113) ?_
 refine wrl (wv (.int .i64 a2) z z z (wv (Pt b91 7) z z (x_field z underlying28 z sizeOf3 z) ?_))
 obtain ⟨w114, hr115, hst⟩ := hst.by_ [v85, I6 t80.Nodes, v87, I6 t80.Frame, I6 t80.Depth, I6 t80.Quota, I6 t80.Wide, I6 a2, I6 t80.Elect] 7 (.int .i64 a2) sizeOf3 z (oC z oN) (by kernel_rfl)
 refine wl_unit z z (x_unit hr115) ?_
 refine wl_nil (blk_n (tn ?_))
 replace hst := hst.pull2.pull2.pull2.keep3
 obtain rfl := some_inj hm
 exact ⟨({ Up := t80.Up, Nodes := t80.Nodes, Cuts := t80.Cuts, Frame := t80.Frame, Depth := t80.Depth, Quota := t80.Quota, Wide := t80.Wide, Beat := a2, Elect := t80.Elect } : api_Config), v87, _, hx132, (fu 7 (Pt b91 0) z z), hst⟩
}
 {
 replace hm := bif_f hc113 hm
 refine wp_iff (cvb hc113) ?_
 refine wp_seq (wrl (wv (.bool ((Int.tmod a1 (8:Int)) == (6:Int))) z z z (wv (.bool ((Int.tmod a1 (8:Int)) == (6:Int))) z z z (wl_nil (tn ?_)))))
 refine bsplit ((Int.tmod a1 (8:Int)) == (6:Int)) (fun hc116 => ?_) (fun hc116 => ?_)
 {
 replace hm := bif_t hc116 hm
 refine wp_ift (cvb hc116) ?_
 refine wrl (wv (.int .i64 a2) z z z (wv (Pt b91 8) z z (x_field z underlying28 z sizeOf3 z) ?_))
 obtain ⟨w117, hr118, hst⟩ := hst.by_ [v85, I6 t80.Nodes, v87, I6 t80.Frame, I6 t80.Depth, I6 t80.Quota, I6 t80.Wide, I6 t80.Beat, I6 a2] 8 (.int .i64 a2) sizeOf3 z (oC z oN) (by kernel_rfl)
 refine wl_unit z z (x_unit hr118) ?_
 refine wl_nil (blk_n (tn ?_))
 replace hst := hst.pull2.pull2.pull2.keep3
 obtain rfl := some_inj hm
 exact ⟨({ Up := t80.Up, Nodes := t80.Nodes, Cuts := t80.Cuts, Frame := t80.Frame, Depth := t80.Depth, Quota := t80.Quota, Wide := t80.Wide, Beat := t80.Beat, Elect := a2 } : api_Config), v87, _, hx132, (fu 7 (Pt b91 0) z z), hst⟩
}
 {
 replace hm := bif_f hc116 hm
 refine wp_iff (cvb hc116) ?_
 refine wrl (wv (.int .i64 a2) z z z (wv (.float .f64 (fOfInt a2)) z z (by kernel_rfl) ?_))
 obtain ⟨b119, w120, ew121, eb122, hst⟩ := hst.lits (E := tyF64) (xs := [(0:Nat), (fOfInt a2)]) [[Zf], [F6 (fOfInt a2)]] 36 2 z (Reps.cons z (Reps.cons z Reps.nil))
 refine wl_run (v := (.slice (some ⟨b119, 0, none⟩) 2 2)) (w' := w120) z z (x_als (by kernel_rfl) ew121 eb122) ?_
 refine wv (Pt b91 2) z z (x_field z underlying28 z sizeOf26 z) ?_
 replace hst := hst.pull1
 obtain ⟨w124, hr125, hst⟩ := hst.by_ [v85, I6 t80.Nodes, (.slice (some ⟨b119, 0, none⟩) 2 2), I6 t80.Frame, I6 t80.Depth, I6 t80.Quota, I6 t80.Wide, I6 t80.Beat, I6 t80.Elect] 2 ((.slice (some ⟨b119, 0, none⟩) 2 2)) sizeOf26 z (oC (one_of_sliceV hst.sv1) oN) (by kernel_rfl)
 refine wl_unit z z (x_unit hr125) ?_
 refine wl_nil (blk_n (tn ?_))
 replace hst := hst.pull1.pull2.pull2.keep3
 obtain rfl := some_inj hm
 exact ⟨({ Up := t80.Up, Nodes := t80.Nodes, Cuts := [(0:Nat), (fOfInt a2)], Frame := t80.Frame, Depth := t80.Depth, Quota := t80.Quota, Wide := t80.Wide, Beat := t80.Beat, Elect := t80.Elect } : api_Config), (.slice (some ⟨b119, 0, none⟩) 2 2), _, hx132, (fu 7 (Pt b91 0) z z), hst⟩
}
}
}
}
}
}
}
}
 {
 clear hst
 rintro _ w133 ⟨z126, v128, σ129, hm, rfl, hst⟩
 dsimp only [law04_ConfigNear_j0] at hm
 refine wp_seq (wrl (wv (.agg #[v85, I6 z126.Nodes, v128, I6 z126.Frame, I6 z126.Depth, I6 z126.Quota, I6 z126.Wide, I6 z126.Beat, I6 z126.Elect]) z z (x_loadN (cs := [v85, I6 z126.Nodes, v128, I6 z126.Frame, I6 z126.Depth, I6 z126.Quota, I6 z126.Wide, I6 z126.Beat, I6 z126.Elect]) z isAgg28 sizeOf28 (hst.bcs0 0 z)) ?_))
 replace hst := hst.pull1
 obtain ⟨I134, hI135, f136, hst⟩ := hst.own_fix
 replace hI0 := hI0.trans hI135
 replace hst := hst.pull1
 obtain ⟨I137, hI138, f139, hst⟩ := hst.own_fix
 replace f136 := f136.mono (ro_le hI138)
 replace hI0 := hI0.trans hI138
 obtain ⟨t140, ht141, hm⟩ := bind_some hm
 refine wc call11 [.agg #[v85, I6 z126.Nodes, v128, I6 z126.Frame, I6 z126.Depth, I6 z126.Quota, I6 z126.Wide, I6 z126.Beat, I6 z126.Elect]] z z z ?_
 refine (config_New_ref f136 f139 hst.to0 ht141).mono ?_
 rintro _ w142 ⟨I143, v145, rfl, hI144, hst⟩
 refine ⟨_, z, ?_⟩
 replace hst := hst.of1
 replace f136 := f136.mono (ro_le hI144)
 replace f139 := f139.mono (ro_le hI144)
 replace hI0 := hI0.trans hI144
 refine wv (.tuple #[v145, I6 t140.2]) z z z (wv (v145) z z z (wv (.int .i64 t140.2) z z z (wv (v145) z z z (wv (.int .i64 t140.2) z z z (wl_nil (tn (wp_seq (wrl ?_))))))))
 obtain ⟨t147, ht148, hm⟩ := bind_some hm
 refine wc call9 [] z z z ?_
 refine (law04_awake_ref hst.to0 ht148).mono ?_
 rintro _ w149 ⟨I150, rfl, hI151, hst⟩
 refine ⟨_, z, ?_⟩
 replace hst := hst.of0
 replace f136 := f136.mono (ro_le hI151)
 replace f139 := f139.mono (ro_le hI151)
 replace hI0 := hI0.trans hI151
 refine wv (.bool t147) z z z ?_
 refine bsplit t147 (fun hc152 => ?_) (fun hc152 => ?_)
 {
 replace hm := bif_t hc152 hm
 refine wv (.int .i64 t140.2) ((wanted_eq z z z (cvb hc152)).trans z) z z (wv (.agg #[v85, I6 z126.Nodes, v128, I6 z126.Frame, I6 z126.Depth, I6 z126.Quota, I6 z126.Wide, I6 z126.Beat, I6 z126.Elect]) ((wanted_eq z z z (cvb hc152)).trans z) z (x_loadN (cs := [v85, I6 z126.Nodes, v128, I6 z126.Frame, I6 z126.Depth, I6 z126.Quota, I6 z126.Wide, I6 z126.Beat, I6 z126.Elect]) z isAgg28 sizeOf28 (hst.bcs1 0 z)) ?_)
 obtain ⟨t153, ht154, hm⟩ := bind_some hm
 refine wl_call ((wanted_eq z z z (cvb hc152)).trans z) z (x_call call12 z (vs := [.agg #[v85, I6 z126.Nodes, v128, I6 z126.Frame, I6 z126.Depth, I6 z126.Quota, I6 z126.Wide, I6 z126.Beat, I6 z126.Elect]]) z) ?_
 refine (ref04_Check_ref (f136.mono ro_rd) (f139.mono ro_rd) hst.to0 ht154).mono ?_
 rintro _ w155 ⟨rfl, hst⟩
 refine ⟨_, z, ?_⟩
 replace hst := hst.of0
 refine wv (.bool (t140.2 == t153)) ((wanted_eq z z z (cvb hc152)).trans z) z z (wv (.bool (t140.2 == t153)) z z (x_pick_t hc152 z z) (wv (.bool (t140.2 == t153)) z z z ?_))
 refine bsplit (t140.2 == t153) (fun hc158 => ?_) (fun hc158 => ?_)
 {
 replace hm := bif_t hc158 hm
 refine wv (v145) ((wanted_eq z z z (cvb hc158)).trans z) z z (wv (.bool (!(t140.1.isNone))) ((wanted_eq z z z (cvb hc158)).trans z) z (by obtain ⟨a_, ha_, hb_⟩ := at_config_Plan_isnil hst; subst ha_; rw [← hb_]; cases a_ <;> kernel_rfl) (wv (.int .i64 t140.2) ((wanted_eq z z z (cvb hc158)).trans z) z z (wv (.bool (t140.2 == (0:Int))) ((wanted_eq z z z (cvb hc158)).trans z) z z (wv (.bool ((!(t140.1.isNone)) == (t140.2 == (0:Int)))) ((wanted_eq z z z (cvb hc158)).trans z) z (by kernel_rfl) (wv (.bool ((!(t140.1.isNone)) == (t140.2 == (0:Int)))) z z (x_pick_t hc158 z z) (wv (.bool ((!(t140.1.isNone)) == (t140.2 == (0:Int)))) z z z (wl_nil (tn (wp_ret ?_)))))))))
 obtain rfl := some_inj hm
 refine post_ret (vs := [.bool ((!(t140.1.isNone)) == (t140.2 == (0:Int)))]) results5 (rvs_cons (rv_tmp z) rvs_nil) ?_
 exact ⟨_, z, hI0, hst.keep0⟩
}
 {
 replace hm := bif_f hc158 hm
 refine wo hc158 z z z z z z (wo hc158 z z z z z z (wo hc158 z z z z z z (wo hc158 z z z z z z (wo hc158 z z z z z z (wv (.bool false) z z (x_pick_f hc158 z z) (wv (.bool false) z z z (wl_nil (tn (wp_ret ?_)))))))))
 obtain rfl := some_inj hm
 refine post_ret (vs := [.bool false]) results5 (rvs_cons (rv_tmp z) rvs_nil) ?_
 exact ⟨_, z, hI0, hst.keep0⟩
}
}
 {
 replace hm := bif_f hc152 hm
 refine wo hc152 z z z z z z (wo hc152 z z z z z z (wo hc152 z z z z z z (wo hc152 z z z z z z (wv (.bool false) z z (x_pick_f hc152 z z) (wv (.bool false) z z z (wz z z z z z z (wz z z z z z z (wz z z z z z z (wz z z z z z z (wz z z z z z z (wv (.bool false) z z (x_pick_f z z z) (wv (.bool false) z z z ?_))))))))))))
 refine wl_nil (tn (wp_ret ?_))
 obtain rfl := some_inj hm
 refine post_ret (vs := [.bool false]) results5 (rvs_cons (rv_tmp z) rvs_nil) ?_
 exact ⟨_, z, hI0, hst.keep0⟩
}
}
}

end Go.Proofs.Ytkjkbfaaigmmcaa
