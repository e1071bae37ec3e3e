/- The Go functions refine their models, part 1. -/
import Derived.Test.YtkjkbfaaigmmcaaConfigMostR0
set_option linter.unusedVariables false
set_option linter.unusedSimpArgs false
set_option maxRecDepth 100000
set_option maxHeartbeats 4000000
namespace Go.Proofs.Ytkjkbfaaigmmcaa
open Go Go.V
open _root_.Go.Proofs.Try IntKind
attribute [local irreducible] wpList Code.wp wpQuiet Calls bodyPost Oper.wp wpS Nx PendOK YieldsIn
theorem label_New_ref {w0 w : World} {I : HL} {R : SP} {a0 : (List Int)} {r0_0 : Value} (f0_0 : Rd (tyInt .u64) R I r0_0 a0) (hst : St w0 w I [] R) {r : (Option label_Lattice × Int)} (hm : label_New a0 = some r) :
  Calls prog 34 #[r0_0] w fun e w' => ∃ (I' : HL) (q0 : Value), e = .returned (.tuple #[q0, I6 r.2]) ∧ I.le I' ∧ St w0 w' I' [objO at_label_Lattice q0 r.1] R := by {
 unfold label_New at hm
 refine calls_start (args := [r0_0]) func34 z ntmps34 (Nat.le_of_ble_eq_true z) ?_
 have hI0 := HL.le.refl I
 refine wp_seq (wrl (wv (.pointer none) z z z (wv (.int .i64 (0:Int)) z z z (wl_nil (tn (wp_seq (wrl (wv (r0_0) z z z (wv (.int .i64 ((a0).length : Int)) z z (x_len z underlying25 (rd_sliceV f0_0)) (wv (.int .i64 ((a0).length : Int)) z z z (wl_nil (tn (wp_seq (wp_seq (wrl (wv (.int .i64 ((a0).length : Int)) z z z (wv (.bool (decide (((a0).length : Int) < (1:Int)))) z z z (wv (.bool (decide (((a0).length : Int) < (1:Int)))) z z z ?_))))))))))))))))))
 refine bsplit (decide (((a0).length : Int) < (1:Int))) (fun hc4815 => ?_) (fun hc4815 => ?_)
 {
 replace hm := bif_t hc4815 hm
 refine wo hc4815 z z z z z z (wo hc4815 z z z z z z (wv (.bool true) z z (x_pick_t hc4815 z z) (wl_nil (tn ?_))))
 refine wp_ift z ?_
 refine wp_seq (wrl (wv (.pointer none) z z z (wv (.int .i64 (1:Int)) z z z (wl_nil (tn (wp_ret (then_r ?_)))))))
 replace hst := hst.objO_nil at_label_Lattice
 obtain rfl := some_inj hm
 refine post_ret (vs := [.pointer none, I6 (1:Int)]) results34 (rvs_cons (rv_tmp z) (rvs_cons (rv_tmp z) rvs_nil)) ?_
 exact ⟨_, .pointer none, z, hI0, hst.keep1⟩
}
 {
 replace hm := bif_f hc4815 hm
 refine wv (.int .i64 ((a0).length : Int)) ((wanted_eq z z z (cvb hc4815)).trans z) z z (wv (.bool (decide (((a0).length : Int) > (16:Int)))) ((wanted_eq z z z (cvb hc4815)).trans z) z z (wv (.bool (decide (((a0).length : Int) > (16:Int)))) z z (x_pick_f hc4815 z z) (wl_nil (tn ?_))))
 refine bsplit (decide (((a0).length : Int) > (16:Int))) (fun hc4817 => ?_) (fun hc4817 => ?_)
 {
 replace hm := bif_t hc4817 hm
 refine wp_ift (cvb hc4817) ?_
 refine wp_seq (wrl (wv (.pointer none) z z z (wv (.int .i64 (1:Int)) z z z (wl_nil (tn (wp_ret (then_r ?_)))))))
 replace hst := hst.objO_nil at_label_Lattice
 obtain rfl := some_inj hm
 refine post_ret (vs := [.pointer none, I6 (1:Int)]) results34 (rvs_cons (rv_tmp z) (rvs_cons (rv_tmp z) rvs_nil)) ?_
 exact ⟨_, .pointer none, z, hI0, hst.keep1⟩
}
 {
 replace hm := bif_f hc4817 hm
 refine wp_iff (cvb hc4817) ?_
 refine wp_skip (tn (wp_seq ?_))
 obtain ⟨y5502, hm, hx5503⟩ := bind_some hm
 refine wp_mid (fun a w => ∃ (z5499 : label_Lattice) (b5496 : Nat) (v5498 : Value) (σ5500 : Nat → Value), (label_New_j0 a0) z5499 = some r ∧ a = Fr 192 (upd (upd (upd σ5500 0 (r0_0)) 4 (.int .i64 ((a0).length : Int))) 5 (Pt b5496 0)) ∧ St w0 w I [cells b5496 [v5498], at_label_Lattice v5498 z5499] R) ?_ ?_
 {
 refine wp_region_St hst 10 [0, 1, 2, 3, 4, 5, 6, 7, 8, 9] [0, 1, 0, 4, 0, 16, 63, 127, 0, 511] [] z (by kernel_rfl) (by kernel_rfl) Try.mixed (by kernel_rfl) ?_
 refine wsr (r0_0) 0 z z z (by kernel_rfl) (fun w hst => z) (wsr (.int .i64 ((a0).length : Int)) 2 z z z (by kernel_rfl) (fun w hst => z) (wsr (.int .i64 ((a0).length : Int)) 4 z z z (by kernel_rfl) (fun w hst => z) ?_))
 obtain ⟨t4819, ht4820, hm⟩ := bind_some hm
 obtain ⟨hg4821, hm⟩ := gd_some hm
 obtain ⟨hg4822, hm⟩ := gd_some hm
 refine ws_e4 1 3 5 8 (by kernel_rfl) ?_ ?_ ?_ ?_
 {
 refine nxe [3, 5, 6, 7, 8, 9] (by kernel_rfl) z z ?_
 clear hst
 intro w hst
 refine wec call44 [r0_0] z z ?_
 refine (slices_Clone_uint64_uint64_ref (f0_0.mono (rd_weak _)) hst.to0 ht4820).mono ?_
 rintro _ w4823 ⟨v4826, rfl, hst⟩
 refine ⟨_, z, ?_⟩
 replace hst := hst.of1
 refine ws_next (pend' := [(4, I6 ((a0).length : Int)), (2, I6 ((a0).length : Int))]) hst (by kernel_rfl) (pkr z z (fun w hst => z) (pkr z z (fun w hst => z) pk_nil)) ?_
 refine ws_e3 3 5 8 (by kernel_rfl) ?_ ?_ ?_
 {
 refine nxe [5, 6, 7, 8, 9] (by kernel_rfl) z z ?_
 clear hst
 intro w hst
 obtain ⟨v4828, w4829, hr4830, hst⟩ := run_mk (k := .i64) (k' := .i64) (zm := (0:Int)) elem_25 hst hg4821 (by decide) z
 refine we_run (v := v4828) (w' := w4829) z (x_make z z hr4830) ?_
 refine ws_next (pend' := [(4, I6 ((a0).length : Int))]) hst (by kernel_rfl) (pkr z z (fun w hst => z) pk_nil) ?_
 refine ws_e2 5 8 (by kernel_rfl) ?_ ?_
 {
 refine nxe [6, 7, 8, 9] (by kernel_rfl) z z ?_
 clear hst
 intro w hst
 obtain ⟨v4832, w4833, hr4834, hst⟩ := run_mk (k := .i64) (k' := .i64) (zm := (0:Int)) elem_46 hst hg4822 (by decide) z
 refine we_run (v := v4832) (w' := w4833) z (x_make z z hr4834) ?_
 refine ws_next (pend' := []) hst (by kernel_rfl) pk_nil ?_
 refine wsr (.agg #[v4826, v4828, Zs, Zs, v4832, Zs]) 6 rfl rfl rfl (by kernel_rfl) (fun w hst => by obtain ⟨_, _, hv_, _⟩ := hst.sv0; rw [hv_]; obtain ⟨_, _, hv_, _⟩ := hst.sv1; rw [hv_]; obtain ⟨_, _, hv_, _⟩ := hst.sv2; rw [hv_]; kernel_rfl) ?_
 refine ws_e2 7 8 (by kernel_rfl) ?_ ?_
 {
 refine nxe [8, 9] (by kernel_rfl) z z ?_
 clear hst
 intro w hst
 obtain ⟨b4842, w4843, ew4844, eb4845, hst⟩ := hst.box [v4826, v4828, Zs, Zs, v4832, Zs] 73
 refine we_run (v := Pt b4842 0) (w' := w4843) z (x_al (by kernel_rfl) ew4844 eb4845) ?_
 refine ws_next (pend' := []) hst (by kernel_rfl) pk_nil ?_
 refine ws_e1 8 (by kernel_rfl) ?_
 refine nxe [9] (by kernel_rfl) z z ?_
 clear hst
 intro w hst
 obtain ⟨b4847, w4848, ew4849, eb4850, hst⟩ := hst.box [.pointer none] 60
 refine we_run (v := Pt b4847 0) (w' := w4848) z (x_al (by kernel_rfl) ew4849 eb4850) ?_
 refine ws_next (pend' := []) hst (by kernel_rfl) pk_nil ?_
 refine ws_e1 9 (by kernel_rfl) ?_
 refine nxe [] (by kernel_rfl) z z ?_
 clear hst
 intro w hst
 obtain ⟨w4852, hr4853, hst⟩ := hst.by_ [Pt b4842 0] 0 (Pt b4842 0) sizeOf60 z (oC z oN) (by kernel_rfl)
 refine we_unit z (x_unit hr4853) ?_
 refine ws_next (pend' := []) hst (by kernel_rfl) pk_nil ?_
 refine ws_nil ?_
 intro w hst
 refine ⟨z, ?_⟩
 replace hst := hst.own_nil (tySl (tyInt .i64))
 replace hst := hst.own_nil (tySl (tyInt .i64))
 replace hst := hst.own_nil (tyInt .i64)
 replace hst := hst.pull5.pull2.pull3.pull6.pull7.pull7
 replace hst := at_label_Lattice_close (pv := Pt b4842 0) (x := ({ up := t4819, down := (List.replicate (Int.toNat ((a0).length : Int)) (0:Int)), join := [], meet := [], rank := (List.replicate (Int.toNat ((a0).length : Int)) (0:Int)), all := [] } : label_Lattice)) hst z
 replace hst := hst.pull1.keep2
 obtain rfl := some_inj hm
 exact ⟨({ up := t4819, down := (List.replicate (Int.toNat ((a0).length : Int)) (0:Int)), join := [], meet := [], rank := (List.replicate (Int.toNat ((a0).length : Int)) (0:Int)), all := [] } : label_Lattice), b4847, (Pt b4842 0), _, hx5503, (fu 0 r0_0 z (fu 4 (.int .i64 ((a0).length : Int)) z (fu 5 (Pt b4847 0) z z))), hst⟩
}
 {
 refine nxe [7, 9] (by kernel_rfl) z z ?_
 clear hst
 intro w hst
 obtain ⟨b4854, w4855, ew4856, eb4857, hst⟩ := hst.box [.pointer none] 60
 refine we_run (v := Pt b4854 0) (w' := w4855) z (x_al (by kernel_rfl) ew4856 eb4857) ?_
 refine ws_next (pend' := [(6, .agg #[v4826, v4828, Zs, Zs, v4832, Zs])]) hst (by kernel_rfl) (pkr rfl rfl (fun w hst => by obtain ⟨_, _, hv_, _⟩ := hst.sv1; rw [hv_]; obtain ⟨_, _, hv_, _⟩ := hst.sv2; rw [hv_]; obtain ⟨_, _, hv_, _⟩ := hst.sv3; rw [hv_]; kernel_rfl) pk_nil) ?_
 refine ws_e1 7 (by kernel_rfl) ?_
 refine nxe [9] (by kernel_rfl) z z ?_
 clear hst
 intro w hst
 obtain ⟨b4859, w4860, ew4861, eb4862, hst⟩ := hst.box [v4826, v4828, Zs, Zs, v4832, Zs] 73
 refine we_run (v := Pt b4859 0) (w' := w4860) z (x_al (by kernel_rfl) ew4861 eb4862) ?_
 refine ws_next (pend' := []) hst (by kernel_rfl) pk_nil ?_
 refine ws_e1 9 (by kernel_rfl) ?_
 refine nxe [] (by kernel_rfl) z z ?_
 clear hst
 intro w hst
 replace hst := hst.pull1
 obtain ⟨w4864, hr4865, hst⟩ := hst.by_ [Pt b4859 0] 0 (Pt b4859 0) sizeOf60 z (oC z oN) (by kernel_rfl)
 refine we_unit z (x_unit hr4865) ?_
 refine ws_next (pend' := []) hst (by kernel_rfl) pk_nil ?_
 refine ws_nil ?_
 intro w hst
 refine ⟨z, ?_⟩
 replace hst := hst.own_nil (tySl (tyInt .i64))
 replace hst := hst.own_nil (tySl (tyInt .i64))
 replace hst := hst.own_nil (tyInt .i64)
 replace hst := hst.pull5.pull2.pull3.pull6.pull7.pull7
 replace hst := at_label_Lattice_close (pv := Pt b4859 0) (x := ({ up := t4819, down := (List.replicate (Int.toNat ((a0).length : Int)) (0:Int)), join := [], meet := [], rank := (List.replicate (Int.toNat ((a0).length : Int)) (0:Int)), all := [] } : label_Lattice)) hst z
 replace hst := hst.pull1.keep2
 obtain rfl := some_inj hm
 exact ⟨({ up := t4819, down := (List.replicate (Int.toNat ((a0).length : Int)) (0:Int)), join := [], meet := [], rank := (List.replicate (Int.toNat ((a0).length : Int)) (0:Int)), all := [] } : label_Lattice), b4854, (Pt b4859 0), _, hx5503, (fu 0 r0_0 z (fu 4 (.int .i64 ((a0).length : Int)) z (fu 5 (Pt b4854 0) z z))), hst⟩
}
}
 {
 refine nxe [5, 6, 7, 9] (by kernel_rfl) z z ?_
 clear hst
 intro w hst
 obtain ⟨b4866, w4867, ew4868, eb4869, hst⟩ := hst.box [.pointer none] 60
 refine we_run (v := Pt b4866 0) (w' := w4867) z (x_al (by kernel_rfl) ew4868 eb4869) ?_
 refine ws_next (pend' := [(4, I6 ((a0).length : Int))]) hst (by kernel_rfl) (pkr z z (fun w hst => z) pk_nil) ?_
 refine ws_e1 5 (by kernel_rfl) ?_
 refine nxe [6, 7, 9] (by kernel_rfl) z z ?_
 clear hst
 intro w hst
 obtain ⟨v4871, w4872, hr4873, hst⟩ := run_mk (k := .i64) (k' := .i64) (zm := (0:Int)) elem_46 hst hg4822 (by decide) z
 refine we_run (v := v4871) (w' := w4872) z (x_make z z hr4873) ?_
 refine ws_next (pend' := []) hst (by kernel_rfl) pk_nil ?_
 refine wsr (.agg #[v4826, v4828, Zs, Zs, v4871, Zs]) 6 rfl rfl rfl (by kernel_rfl) (fun w hst => by obtain ⟨_, _, hv_, _⟩ := hst.sv0; rw [hv_]; obtain ⟨_, _, hv_, _⟩ := hst.sv2; rw [hv_]; obtain ⟨_, _, hv_, _⟩ := hst.sv3; rw [hv_]; kernel_rfl) ?_
 refine ws_e1 7 (by kernel_rfl) ?_
 refine nxe [9] (by kernel_rfl) z z ?_
 clear hst
 intro w hst
 obtain ⟨b4881, w4882, ew4883, eb4884, hst⟩ := hst.box [v4826, v4828, Zs, Zs, v4871, Zs] 73
 refine we_run (v := Pt b4881 0) (w' := w4882) z (x_al (by kernel_rfl) ew4883 eb4884) ?_
 refine ws_next (pend' := []) hst (by kernel_rfl) pk_nil ?_
 refine ws_e1 9 (by kernel_rfl) ?_
 refine nxe [] (by kernel_rfl) z z ?_
 clear hst
 intro w hst
 replace hst := hst.pull2
 obtain ⟨w4886, hr4887, hst⟩ := hst.by_ [Pt b4881 0] 0 (Pt b4881 0) sizeOf60 z (oC z oN) (by kernel_rfl)
 refine we_unit z (x_unit hr4887) ?_
 refine ws_next (pend' := []) hst (by kernel_rfl) pk_nil ?_
 refine ws_nil ?_
 intro w hst
 refine ⟨z, ?_⟩
 replace hst := hst.own_nil (tySl (tyInt .i64))
 replace hst := hst.own_nil (tySl (tyInt .i64))
 replace hst := hst.own_nil (tyInt .i64)
 replace hst := hst.pull5.pull2.pull3.pull6.pull7.pull7
 replace hst := at_label_Lattice_close (pv := Pt b4881 0) (x := ({ up := t4819, down := (List.replicate (Int.toNat ((a0).length : Int)) (0:Int)), join := [], meet := [], rank := (List.replicate (Int.toNat ((a0).length : Int)) (0:Int)), all := [] } : label_Lattice)) hst z
 replace hst := hst.pull1.keep2
 obtain rfl := some_inj hm
 exact ⟨({ up := t4819, down := (List.replicate (Int.toNat ((a0).length : Int)) (0:Int)), join := [], meet := [], rank := (List.replicate (Int.toNat ((a0).length : Int)) (0:Int)), all := [] } : label_Lattice), b4866, (Pt b4881 0), _, hx5503, (fu 0 r0_0 z (fu 4 (.int .i64 ((a0).length : Int)) z (fu 5 (Pt b4866 0) z z))), hst⟩
}
}
 {
 refine nxe [3, 6, 7, 8, 9] (by kernel_rfl) z z ?_
 clear hst
 intro w hst
 obtain ⟨v4888, w4889, hr4890, hst⟩ := run_mk (k := .i64) (k' := .i64) (zm := (0:Int)) elem_46 hst hg4822 (by decide) z
 refine we_run (v := v4888) (w' := w4889) z (x_make z z hr4890) ?_
 refine ws_next (pend' := [(2, I6 ((a0).length : Int))]) hst (by kernel_rfl) (pkr z z (fun w hst => z) pk_nil) ?_
 refine ws_e2 3 8 (by kernel_rfl) ?_ ?_
 {
 refine nxe [6, 7, 8, 9] (by kernel_rfl) z z ?_
 clear hst
 intro w hst
 obtain ⟨v4892, w4893, hr4894, hst⟩ := run_mk (k := .i64) (k' := .i64) (zm := (0:Int)) elem_25 hst hg4821 (by decide) z
 refine we_run (v := v4892) (w' := w4893) z (x_make z z hr4894) ?_
 refine ws_next (pend' := []) hst (by kernel_rfl) pk_nil ?_
 refine wsr (.agg #[v4826, v4892, Zs, Zs, v4888, Zs]) 6 rfl rfl rfl (by kernel_rfl) (fun w hst => by obtain ⟨_, _, hv_, _⟩ := hst.sv1; rw [hv_]; obtain ⟨_, _, hv_, _⟩ := hst.sv0; rw [hv_]; obtain ⟨_, _, hv_, _⟩ := hst.sv2; rw [hv_]; kernel_rfl) ?_
 refine ws_e2 7 8 (by kernel_rfl) ?_ ?_
 {
 refine nxe [8, 9] (by kernel_rfl) z z ?_
 clear hst
 intro w hst
 obtain ⟨b4902, w4903, ew4904, eb4905, hst⟩ := hst.box [v4826, v4892, Zs, Zs, v4888, Zs] 73
 refine we_run (v := Pt b4902 0) (w' := w4903) z (x_al (by kernel_rfl) ew4904 eb4905) ?_
 refine ws_next (pend' := []) hst (by kernel_rfl) pk_nil ?_
 refine ws_e1 8 (by kernel_rfl) ?_
 refine nxe [9] (by kernel_rfl) z z ?_
 clear hst
 intro w hst
 obtain ⟨b4907, w4908, ew4909, eb4910, hst⟩ := hst.box [.pointer none] 60
 refine we_run (v := Pt b4907 0) (w' := w4908) z (x_al (by kernel_rfl) ew4909 eb4910) ?_
 refine ws_next (pend' := []) hst (by kernel_rfl) pk_nil ?_
 refine ws_e1 9 (by kernel_rfl) ?_
 refine nxe [] (by kernel_rfl) z z ?_
 clear hst
 intro w hst
 obtain ⟨w4912, hr4913, hst⟩ := hst.by_ [Pt b4902 0] 0 (Pt b4902 0) sizeOf60 z (oC z oN) (by kernel_rfl)
 refine we_unit z (x_unit hr4913) ?_
 refine ws_next (pend' := []) hst (by kernel_rfl) pk_nil ?_
 refine ws_nil ?_
 intro w hst
 refine ⟨z, ?_⟩
 replace hst := hst.own_nil (tySl (tyInt .i64))
 replace hst := hst.own_nil (tySl (tyInt .i64))
 replace hst := hst.own_nil (tyInt .i64)
 replace hst := hst.pull6.pull2.pull3.pull6.pull7.pull7
 replace hst := at_label_Lattice_close (pv := Pt b4902 0) (x := ({ up := t4819, down := (List.replicate (Int.toNat ((a0).length : Int)) (0:Int)), join := [], meet := [], rank := (List.replicate (Int.toNat ((a0).length : Int)) (0:Int)), all := [] } : label_Lattice)) hst z
 replace hst := hst.pull1.keep2
 obtain rfl := some_inj hm
 exact ⟨({ up := t4819, down := (List.replicate (Int.toNat ((a0).length : Int)) (0:Int)), join := [], meet := [], rank := (List.replicate (Int.toNat ((a0).length : Int)) (0:Int)), all := [] } : label_Lattice), b4907, (Pt b4902 0), _, hx5503, (fu 0 r0_0 z (fu 4 (.int .i64 ((a0).length : Int)) z (fu 5 (Pt b4907 0) z z))), hst⟩
}
 {
 refine nxe [7, 9] (by kernel_rfl) z z ?_
 clear hst
 intro w hst
 obtain ⟨b4914, w4915, ew4916, eb4917, hst⟩ := hst.box [.pointer none] 60
 refine we_run (v := Pt b4914 0) (w' := w4915) z (x_al (by kernel_rfl) ew4916 eb4917) ?_
 refine ws_next (pend' := [(6, .agg #[v4826, v4892, Zs, Zs, v4888, Zs])]) hst (by kernel_rfl) (pkr rfl rfl (fun w hst => by obtain ⟨_, _, hv_, _⟩ := hst.sv2; rw [hv_]; obtain ⟨_, _, hv_, _⟩ := hst.sv1; rw [hv_]; obtain ⟨_, _, hv_, _⟩ := hst.sv3; rw [hv_]; kernel_rfl) pk_nil) ?_
 refine ws_e1 7 (by kernel_rfl) ?_
 refine nxe [9] (by kernel_rfl) z z ?_
 clear hst
 intro w hst
 obtain ⟨b4919, w4920, ew4921, eb4922, hst⟩ := hst.box [v4826, v4892, Zs, Zs, v4888, Zs] 73
 refine we_run (v := Pt b4919 0) (w' := w4920) z (x_al (by kernel_rfl) ew4921 eb4922) ?_
 refine ws_next (pend' := []) hst (by kernel_rfl) pk_nil ?_
 refine ws_e1 9 (by kernel_rfl) ?_
 refine nxe [] (by kernel_rfl) z z ?_
 clear hst
 intro w hst
 replace hst := hst.pull1
 obtain ⟨w4924, hr4925, hst⟩ := hst.by_ [Pt b4919 0] 0 (Pt b4919 0) sizeOf60 z (oC z oN) (by kernel_rfl)
 refine we_unit z (x_unit hr4925) ?_
 refine ws_next (pend' := []) hst (by kernel_rfl) pk_nil ?_
 refine ws_nil ?_
 intro w hst
 refine ⟨z, ?_⟩
 replace hst := hst.own_nil (tySl (tyInt .i64))
 replace hst := hst.own_nil (tySl (tyInt .i64))
 replace hst := hst.own_nil (tyInt .i64)
 replace hst := hst.pull6.pull2.pull3.pull6.pull7.pull7
 replace hst := at_label_Lattice_close (pv := Pt b4919 0) (x := ({ up := t4819, down := (List.replicate (Int.toNat ((a0).length : Int)) (0:Int)), join := [], meet := [], rank := (List.replicate (Int.toNat ((a0).length : Int)) (0:Int)), all := [] } : label_Lattice)) hst z
 replace hst := hst.pull1.keep2
 obtain rfl := some_inj hm
 exact ⟨({ up := t4819, down := (List.replicate (Int.toNat ((a0).length : Int)) (0:Int)), join := [], meet := [], rank := (List.replicate (Int.toNat ((a0).length : Int)) (0:Int)), all := [] } : label_Lattice), b4914, (Pt b4919 0), _, hx5503, (fu 0 r0_0 z (fu 4 (.int .i64 ((a0).length : Int)) z (fu 5 (Pt b4914 0) z z))), hst⟩
}
}
 {
 refine nxe [3, 6, 7, 9] (by kernel_rfl) z z ?_
 clear hst
 intro w hst
 obtain ⟨b4926, w4927, ew4928, eb4929, hst⟩ := hst.box [.pointer none] 60
 refine we_run (v := Pt b4926 0) (w' := w4927) z (x_al (by kernel_rfl) ew4928 eb4929) ?_
 refine ws_next (pend' := [(2, I6 ((a0).length : Int))]) hst (by kernel_rfl) (pkr z z (fun w hst => z) pk_nil) ?_
 refine ws_e1 3 (by kernel_rfl) ?_
 refine nxe [6, 7, 9] (by kernel_rfl) z z ?_
 clear hst
 intro w hst
 obtain ⟨v4931, w4932, hr4933, hst⟩ := run_mk (k := .i64) (k' := .i64) (zm := (0:Int)) elem_25 hst hg4821 (by decide) z
 refine we_run (v := v4931) (w' := w4932) z (x_make z z hr4933) ?_
 refine ws_next (pend' := []) hst (by kernel_rfl) pk_nil ?_
 refine wsr (.agg #[v4826, v4931, Zs, Zs, v4888, Zs]) 6 rfl rfl rfl (by kernel_rfl) (fun w hst => by obtain ⟨_, _, hv_, _⟩ := hst.sv2; rw [hv_]; obtain ⟨_, _, hv_, _⟩ := hst.sv0; rw [hv_]; obtain ⟨_, _, hv_, _⟩ := hst.sv3; rw [hv_]; kernel_rfl) ?_
 refine ws_e1 7 (by kernel_rfl) ?_
 refine nxe [9] (by kernel_rfl) z z ?_
 clear hst
 intro w hst
 obtain ⟨b4941, w4942, ew4943, eb4944, hst⟩ := hst.box [v4826, v4931, Zs, Zs, v4888, Zs] 73
 refine we_run (v := Pt b4941 0) (w' := w4942) z (x_al (by kernel_rfl) ew4943 eb4944) ?_
 refine ws_next (pend' := []) hst (by kernel_rfl) pk_nil ?_
 refine ws_e1 9 (by kernel_rfl) ?_
 refine nxe [] (by kernel_rfl) z z ?_
 clear hst
 intro w hst
 replace hst := hst.pull2
 obtain ⟨w4946, hr4947, hst⟩ := hst.by_ [Pt b4941 0] 0 (Pt b4941 0) sizeOf60 z (oC z oN) (by kernel_rfl)
 refine we_unit z (x_unit hr4947) ?_
 refine ws_next (pend' := []) hst (by kernel_rfl) pk_nil ?_
 refine ws_nil ?_
 intro w hst
 refine ⟨z, ?_⟩
 replace hst := hst.own_nil (tySl (tyInt .i64))
 replace hst := hst.own_nil (tySl (tyInt .i64))
 replace hst := hst.own_nil (tyInt .i64)
 replace hst := hst.pull6.pull2.pull3.pull6.pull7.pull7
 replace hst := at_label_Lattice_close (pv := Pt b4941 0) (x := ({ up := t4819, down := (List.replicate (Int.toNat ((a0).length : Int)) (0:Int)), join := [], meet := [], rank := (List.replicate (Int.toNat ((a0).length : Int)) (0:Int)), all := [] } : label_Lattice)) hst z
 replace hst := hst.pull1.keep2
 obtain rfl := some_inj hm
 exact ⟨({ up := t4819, down := (List.replicate (Int.toNat ((a0).length : Int)) (0:Int)), join := [], meet := [], rank := (List.replicate (Int.toNat ((a0).length : Int)) (0:Int)), all := [] } : label_Lattice), b4926, (Pt b4941 0), _, hx5503, (fu 0 r0_0 z (fu 4 (.int .i64 ((a0).length : Int)) z (fu 5 (Pt b4926 0) z z))), hst⟩
}
}
 {
 refine nxe [3, 5, 6, 7, 9] (by kernel_rfl) z z ?_
 clear hst
 intro w hst
 obtain ⟨b4948, w4949, ew4950, eb4951, hst⟩ := hst.box [.pointer none] 60
 refine we_run (v := Pt b4948 0) (w' := w4949) z (x_al (by kernel_rfl) ew4950 eb4951) ?_
 refine ws_next (pend' := [(4, I6 ((a0).length : Int)), (2, I6 ((a0).length : Int))]) hst (by kernel_rfl) (pkr z z (fun w hst => z) (pkr z z (fun w hst => z) pk_nil)) ?_
 refine ws_e2 3 5 (by kernel_rfl) ?_ ?_
 {
 refine nxe [5, 6, 7, 9] (by kernel_rfl) z z ?_
 clear hst
 intro w hst
 obtain ⟨v4953, w4954, hr4955, hst⟩ := run_mk (k := .i64) (k' := .i64) (zm := (0:Int)) elem_25 hst hg4821 (by decide) z
 refine we_run (v := v4953) (w' := w4954) z (x_make z z hr4955) ?_
 refine ws_next (pend' := [(4, I6 ((a0).length : Int))]) hst (by kernel_rfl) (pkr z z (fun w hst => z) pk_nil) ?_
 refine ws_e1 5 (by kernel_rfl) ?_
 refine nxe [6, 7, 9] (by kernel_rfl) z z ?_
 clear hst
 intro w hst
 obtain ⟨v4957, w4958, hr4959, hst⟩ := run_mk (k := .i64) (k' := .i64) (zm := (0:Int)) elem_46 hst hg4822 (by decide) z
 refine we_run (v := v4957) (w' := w4958) z (x_make z z hr4959) ?_
 refine ws_next (pend' := []) hst (by kernel_rfl) pk_nil ?_
 refine wsr (.agg #[v4826, v4953, Zs, Zs, v4957, Zs]) 6 rfl rfl rfl (by kernel_rfl) (fun w hst => by obtain ⟨_, _, hv_, _⟩ := hst.sv0; rw [hv_]; obtain ⟨_, _, hv_, _⟩ := hst.sv1; rw [hv_]; obtain ⟨_, _, hv_, _⟩ := hst.sv3; rw [hv_]; kernel_rfl) ?_
 refine ws_e1 7 (by kernel_rfl) ?_
 refine nxe [9] (by kernel_rfl) z z ?_
 clear hst
 intro w hst
 obtain ⟨b4967, w4968, ew4969, eb4970, hst⟩ := hst.box [v4826, v4953, Zs, Zs, v4957, Zs] 73
 refine we_run (v := Pt b4967 0) (w' := w4968) z (x_al (by kernel_rfl) ew4969 eb4970) ?_
 refine ws_next (pend' := []) hst (by kernel_rfl) pk_nil ?_
 refine ws_e1 9 (by kernel_rfl) ?_
 refine nxe [] (by kernel_rfl) z z ?_
 clear hst
 intro w hst
 replace hst := hst.pull3
 obtain ⟨w4972, hr4973, hst⟩ := hst.by_ [Pt b4967 0] 0 (Pt b4967 0) sizeOf60 z (oC z oN) (by kernel_rfl)
 refine we_unit z (x_unit hr4973) ?_
 refine ws_next (pend' := []) hst (by kernel_rfl) pk_nil ?_
 refine ws_nil ?_
 intro w hst
 refine ⟨z, ?_⟩
 replace hst := hst.own_nil (tySl (tyInt .i64))
 replace hst := hst.own_nil (tySl (tyInt .i64))
 replace hst := hst.own_nil (tyInt .i64)
 replace hst := hst.pull5.pull2.pull3.pull6.pull7.pull7
 replace hst := at_label_Lattice_close (pv := Pt b4967 0) (x := ({ up := t4819, down := (List.replicate (Int.toNat ((a0).length : Int)) (0:Int)), join := [], meet := [], rank := (List.replicate (Int.toNat ((a0).length : Int)) (0:Int)), all := [] } : label_Lattice)) hst z
 replace hst := hst.pull1.keep2
 obtain rfl := some_inj hm
 exact ⟨({ up := t4819, down := (List.replicate (Int.toNat ((a0).length : Int)) (0:Int)), join := [], meet := [], rank := (List.replicate (Int.toNat ((a0).length : Int)) (0:Int)), all := [] } : label_Lattice), b4948, (Pt b4967 0), _, hx5503, (fu 0 r0_0 z (fu 4 (.int .i64 ((a0).length : Int)) z (fu 5 (Pt b4948 0) z z))), hst⟩
}
 {
 refine nxe [3, 6, 7, 9] (by kernel_rfl) z z ?_
 clear hst
 intro w hst
 obtain ⟨v4974, w4975, hr4976, hst⟩ := run_mk (k := .i64) (k' := .i64) (zm := (0:Int)) elem_46 hst hg4822 (by decide) z
 refine we_run (v := v4974) (w' := w4975) z (x_make z z hr4976) ?_
 refine ws_next (pend' := [(2, I6 ((a0).length : Int))]) hst (by kernel_rfl) (pkr z z (fun w hst => z) pk_nil) ?_
 refine ws_e1 3 (by kernel_rfl) ?_
 refine nxe [6, 7, 9] (by kernel_rfl) z z ?_
 clear hst
 intro w hst
 obtain ⟨v4978, w4979, hr4980, hst⟩ := run_mk (k := .i64) (k' := .i64) (zm := (0:Int)) elem_25 hst hg4821 (by decide) z
 refine we_run (v := v4978) (w' := w4979) z (x_make z z hr4980) ?_
 refine ws_next (pend' := []) hst (by kernel_rfl) pk_nil ?_
 refine wsr (.agg #[v4826, v4978, Zs, Zs, v4974, Zs]) 6 rfl rfl rfl (by kernel_rfl) (fun w hst => by obtain ⟨_, _, hv_, _⟩ := hst.sv1; rw [hv_]; obtain ⟨_, _, hv_, _⟩ := hst.sv0; rw [hv_]; obtain ⟨_, _, hv_, _⟩ := hst.sv3; rw [hv_]; kernel_rfl) ?_
 refine ws_e1 7 (by kernel_rfl) ?_
 refine nxe [9] (by kernel_rfl) z z ?_
 clear hst
 intro w hst
 obtain ⟨b4988, w4989, ew4990, eb4991, hst⟩ := hst.box [v4826, v4978, Zs, Zs, v4974, Zs] 73
 refine we_run (v := Pt b4988 0) (w' := w4989) z (x_al (by kernel_rfl) ew4990 eb4991) ?_
 refine ws_next (pend' := []) hst (by kernel_rfl) pk_nil ?_
 refine ws_e1 9 (by kernel_rfl) ?_
 refine nxe [] (by kernel_rfl) z z ?_
 clear hst
 intro w hst
 replace hst := hst.pull3
 obtain ⟨w4993, hr4994, hst⟩ := hst.by_ [Pt b4988 0] 0 (Pt b4988 0) sizeOf60 z (oC z oN) (by kernel_rfl)
 refine we_unit z (x_unit hr4994) ?_
 refine ws_next (pend' := []) hst (by kernel_rfl) pk_nil ?_
 refine ws_nil ?_
 intro w hst
 refine ⟨z, ?_⟩
 replace hst := hst.own_nil (tySl (tyInt .i64))
 replace hst := hst.own_nil (tySl (tyInt .i64))
 replace hst := hst.own_nil (tyInt .i64)
 replace hst := hst.pull6.pull2.pull3.pull6.pull7.pull7
 replace hst := at_label_Lattice_close (pv := Pt b4988 0) (x := ({ up := t4819, down := (List.replicate (Int.toNat ((a0).length : Int)) (0:Int)), join := [], meet := [], rank := (List.replicate (Int.toNat ((a0).length : Int)) (0:Int)), all := [] } : label_Lattice)) hst z
 replace hst := hst.pull1.keep2
 obtain rfl := some_inj hm
 exact ⟨({ up := t4819, down := (List.replicate (Int.toNat ((a0).length : Int)) (0:Int)), join := [], meet := [], rank := (List.replicate (Int.toNat ((a0).length : Int)) (0:Int)), all := [] } : label_Lattice), b4948, (Pt b4988 0), _, hx5503, (fu 0 r0_0 z (fu 4 (.int .i64 ((a0).length : Int)) z (fu 5 (Pt b4948 0) z z))), hst⟩
}
}
}
 {
 refine nxe [1, 5, 6, 7, 8, 9] (by kernel_rfl) z z ?_
 clear hst
 intro w hst
 obtain ⟨v4995, w4996, hr4997, hst⟩ := run_mk (k := .i64) (k' := .i64) (zm := (0:Int)) elem_25 hst hg4821 (by decide) z
 refine we_run (v := v4995) (w' := w4996) z (x_make z z hr4997) ?_
 refine ws_next (pend' := [(4, I6 ((a0).length : Int)), (0, r0_0)]) hst (by kernel_rfl) (pkr z z (fun w hst => z) (pkr z z (fun w hst => z) pk_nil)) ?_
 refine ws_e3 1 5 8 (by kernel_rfl) ?_ ?_ ?_
 {
 refine nxe [5, 6, 7, 8, 9] (by kernel_rfl) z z ?_
 clear hst
 intro w hst
 refine wec call44 [r0_0] z z ?_
 refine (slices_Clone_uint64_uint64_ref (f0_0.mono (rd_weak _)) hst.to0 ht4820).mono ?_
 rintro _ w4999 ⟨v5002, rfl, hst⟩
 refine ⟨_, z, ?_⟩
 replace hst := hst.of1
 refine ws_next (pend' := [(4, I6 ((a0).length : Int))]) hst (by kernel_rfl) (pkr z z (fun w hst => z) pk_nil) ?_
 refine ws_e2 5 8 (by kernel_rfl) ?_ ?_
 {
 refine nxe [6, 7, 8, 9] (by kernel_rfl) z z ?_
 clear hst
 intro w hst
 obtain ⟨v5004, w5005, hr5006, hst⟩ := run_mk (k := .i64) (k' := .i64) (zm := (0:Int)) elem_46 hst hg4822 (by decide) z
 refine we_run (v := v5004) (w' := w5005) z (x_make z z hr5006) ?_
 refine ws_next (pend' := []) hst (by kernel_rfl) pk_nil ?_
 refine wsr (.agg #[v5002, v4995, Zs, Zs, v5004, Zs]) 6 rfl rfl rfl (by kernel_rfl) (fun w hst => by obtain ⟨_, _, hv_, _⟩ := hst.sv0; rw [hv_]; obtain ⟨_, _, hv_, _⟩ := hst.sv2; rw [hv_]; obtain ⟨_, _, hv_, _⟩ := hst.sv1; rw [hv_]; kernel_rfl) ?_
 refine ws_e2 7 8 (by kernel_rfl) ?_ ?_
 {
 refine nxe [8, 9] (by kernel_rfl) z z ?_
 clear hst
 intro w hst
 obtain ⟨b5014, w5015, ew5016, eb5017, hst⟩ := hst.box [v5002, v4995, Zs, Zs, v5004, Zs] 73
 refine we_run (v := Pt b5014 0) (w' := w5015) z (x_al (by kernel_rfl) ew5016 eb5017) ?_
 refine ws_next (pend' := []) hst (by kernel_rfl) pk_nil ?_
 refine ws_e1 8 (by kernel_rfl) ?_
 refine nxe [9] (by kernel_rfl) z z ?_
 clear hst
 intro w hst
 obtain ⟨b5019, w5020, ew5021, eb5022, hst⟩ := hst.box [.pointer none] 60
 refine we_run (v := Pt b5019 0) (w' := w5020) z (x_al (by kernel_rfl) ew5021 eb5022) ?_
 refine ws_next (pend' := []) hst (by kernel_rfl) pk_nil ?_
 refine ws_e1 9 (by kernel_rfl) ?_
 refine nxe [] (by kernel_rfl) z z ?_
 clear hst
 intro w hst
 obtain ⟨w5024, hr5025, hst⟩ := hst.by_ [Pt b5014 0] 0 (Pt b5014 0) sizeOf60 z (oC z oN) (by kernel_rfl)
 refine we_unit z (x_unit hr5025) ?_
 refine ws_next (pend' := []) hst (by kernel_rfl) pk_nil ?_
 refine ws_nil ?_
 intro w hst
 refine ⟨z, ?_⟩
 replace hst := hst.own_nil (tySl (tyInt .i64))
 replace hst := hst.own_nil (tySl (tyInt .i64))
 replace hst := hst.own_nil (tyInt .i64)
 replace hst := hst.pull5.pull2.pull3.pull7.pull7.pull7
 replace hst := at_label_Lattice_close (pv := Pt b5014 0) (x := ({ up := t4819, down := (List.replicate (Int.toNat ((a0).length : Int)) (0:Int)), join := [], meet := [], rank := (List.replicate (Int.toNat ((a0).length : Int)) (0:Int)), all := [] } : label_Lattice)) hst z
 replace hst := hst.pull1.keep2
 obtain rfl := some_inj hm
 exact ⟨({ up := t4819, down := (List.replicate (Int.toNat ((a0).length : Int)) (0:Int)), join := [], meet := [], rank := (List.replicate (Int.toNat ((a0).length : Int)) (0:Int)), all := [] } : label_Lattice), b5019, (Pt b5014 0), _, hx5503, (fu 0 r0_0 z (fu 4 (.int .i64 ((a0).length : Int)) z (fu 5 (Pt b5019 0) z z))), hst⟩
}
 {
 refine nxe [7, 9] (by kernel_rfl) z z ?_
 clear hst
 intro w hst
 obtain ⟨b5026, w5027, ew5028, eb5029, hst⟩ := hst.box [.pointer none] 60
 refine we_run (v := Pt b5026 0) (w' := w5027) z (x_al (by kernel_rfl) ew5028 eb5029) ?_
 refine ws_next (pend' := [(6, .agg #[v5002, v4995, Zs, Zs, v5004, Zs])]) hst (by kernel_rfl) (pkr rfl rfl (fun w hst => by obtain ⟨_, _, hv_, _⟩ := hst.sv1; rw [hv_]; obtain ⟨_, _, hv_, _⟩ := hst.sv3; rw [hv_]; obtain ⟨_, _, hv_, _⟩ := hst.sv2; rw [hv_]; kernel_rfl) pk_nil) ?_
 refine ws_e1 7 (by kernel_rfl) ?_
 refine nxe [9] (by kernel_rfl) z z ?_
 clear hst
 intro w hst
 obtain ⟨b5031, w5032, ew5033, eb5034, hst⟩ := hst.box [v5002, v4995, Zs, Zs, v5004, Zs] 73
 refine we_run (v := Pt b5031 0) (w' := w5032) z (x_al (by kernel_rfl) ew5033 eb5034) ?_
 refine ws_next (pend' := []) hst (by kernel_rfl) pk_nil ?_
 refine ws_e1 9 (by kernel_rfl) ?_
 refine nxe [] (by kernel_rfl) z z ?_
 clear hst
 intro w hst
 replace hst := hst.pull1
 obtain ⟨w5036, hr5037, hst⟩ := hst.by_ [Pt b5031 0] 0 (Pt b5031 0) sizeOf60 z (oC z oN) (by kernel_rfl)
 refine we_unit z (x_unit hr5037) ?_
 refine ws_next (pend' := []) hst (by kernel_rfl) pk_nil ?_
 refine ws_nil ?_
 intro w hst
 refine ⟨z, ?_⟩
 replace hst := hst.own_nil (tySl (tyInt .i64))
 replace hst := hst.own_nil (tySl (tyInt .i64))
 replace hst := hst.own_nil (tyInt .i64)
 replace hst := hst.pull5.pull2.pull3.pull7.pull7.pull7
 replace hst := at_label_Lattice_close (pv := Pt b5031 0) (x := ({ up := t4819, down := (List.replicate (Int.toNat ((a0).length : Int)) (0:Int)), join := [], meet := [], rank := (List.replicate (Int.toNat ((a0).length : Int)) (0:Int)), all := [] } : label_Lattice)) hst z
 replace hst := hst.pull1.keep2
 obtain rfl := some_inj hm
 exact ⟨({ up := t4819, down := (List.replicate (Int.toNat ((a0).length : Int)) (0:Int)), join := [], meet := [], rank := (List.replicate (Int.toNat ((a0).length : Int)) (0:Int)), all := [] } : label_Lattice), b5026, (Pt b5031 0), _, hx5503, (fu 0 r0_0 z (fu 4 (.int .i64 ((a0).length : Int)) z (fu 5 (Pt b5026 0) z z))), hst⟩
}
}
 {
 refine nxe [5, 6, 7, 9] (by kernel_rfl) z z ?_
 clear hst
 intro w hst
 obtain ⟨b5038, w5039, ew5040, eb5041, hst⟩ := hst.box [.pointer none] 60
 refine we_run (v := Pt b5038 0) (w' := w5039) z (x_al (by kernel_rfl) ew5040 eb5041) ?_
 refine ws_next (pend' := [(4, I6 ((a0).length : Int))]) hst (by kernel_rfl) (pkr z z (fun w hst => z) pk_nil) ?_
 refine ws_e1 5 (by kernel_rfl) ?_
 refine nxe [6, 7, 9] (by kernel_rfl) z z ?_
 clear hst
 intro w hst
 obtain ⟨v5043, w5044, hr5045, hst⟩ := run_mk (k := .i64) (k' := .i64) (zm := (0:Int)) elem_46 hst hg4822 (by decide) z
 refine we_run (v := v5043) (w' := w5044) z (x_make z z hr5045) ?_
 refine ws_next (pend' := []) hst (by kernel_rfl) pk_nil ?_
 refine wsr (.agg #[v5002, v4995, Zs, Zs, v5043, Zs]) 6 rfl rfl rfl (by kernel_rfl) (fun w hst => by obtain ⟨_, _, hv_, _⟩ := hst.sv0; rw [hv_]; obtain ⟨_, _, hv_, _⟩ := hst.sv3; rw [hv_]; obtain ⟨_, _, hv_, _⟩ := hst.sv2; rw [hv_]; kernel_rfl) ?_
 refine ws_e1 7 (by kernel_rfl) ?_
 refine nxe [9] (by kernel_rfl) z z ?_
 clear hst
 intro w hst
 obtain ⟨b5053, w5054, ew5055, eb5056, hst⟩ := hst.box [v5002, v4995, Zs, Zs, v5043, Zs] 73
 refine we_run (v := Pt b5053 0) (w' := w5054) z (x_al (by kernel_rfl) ew5055 eb5056) ?_
 refine ws_next (pend' := []) hst (by kernel_rfl) pk_nil ?_
 refine ws_e1 9 (by kernel_rfl) ?_
 refine nxe [] (by kernel_rfl) z z ?_
 clear hst
 intro w hst
 replace hst := hst.pull2
 obtain ⟨w5058, hr5059, hst⟩ := hst.by_ [Pt b5053 0] 0 (Pt b5053 0) sizeOf60 z (oC z oN) (by kernel_rfl)
 refine we_unit z (x_unit hr5059) ?_
 refine ws_next (pend' := []) hst (by kernel_rfl) pk_nil ?_
 refine ws_nil ?_
 intro w hst
 refine ⟨z, ?_⟩
 replace hst := hst.own_nil (tySl (tyInt .i64))
 replace hst := hst.own_nil (tySl (tyInt .i64))
 replace hst := hst.own_nil (tyInt .i64)
 replace hst := hst.pull5.pull2.pull3.pull7.pull7.pull7
 replace hst := at_label_Lattice_close (pv := Pt b5053 0) (x := ({ up := t4819, down := (List.replicate (Int.toNat ((a0).length : Int)) (0:Int)), join := [], meet := [], rank := (List.replicate (Int.toNat ((a0).length : Int)) (0:Int)), all := [] } : label_Lattice)) hst z
 replace hst := hst.pull1.keep2
 obtain rfl := some_inj hm
 exact ⟨({ up := t4819, down := (List.replicate (Int.toNat ((a0).length : Int)) (0:Int)), join := [], meet := [], rank := (List.replicate (Int.toNat ((a0).length : Int)) (0:Int)), all := [] } : label_Lattice), b5038, (Pt b5053 0), _, hx5503, (fu 0 r0_0 z (fu 4 (.int .i64 ((a0).length : Int)) z (fu 5 (Pt b5038 0) z z))), hst⟩
}
}
 {
 refine nxe [1, 6, 7, 8, 9] (by kernel_rfl) z z ?_
 clear hst
 intro w hst
 obtain ⟨v5060, w5061, hr5062, hst⟩ := run_mk (k := .i64) (k' := .i64) (zm := (0:Int)) elem_46 hst hg4822 (by decide) z
 refine we_run (v := v5060) (w' := w5061) z (x_make z z hr5062) ?_
 refine ws_next (pend' := [(0, r0_0)]) hst (by kernel_rfl) (pkr z z (fun w hst => z) pk_nil) ?_
 refine ws_e2 1 8 (by kernel_rfl) ?_ ?_
 {
 refine nxe [6, 7, 8, 9] (by kernel_rfl) z z ?_
 clear hst
 intro w hst
 refine wec call44 [r0_0] z z ?_
 refine (slices_Clone_uint64_uint64_ref (f0_0.mono (rd_weak _)) hst.to0 ht4820).mono ?_
 rintro _ w5064 ⟨v5067, rfl, hst⟩
 refine ⟨_, z, ?_⟩
 replace hst := hst.of1
 refine ws_next (pend' := []) hst (by kernel_rfl) pk_nil ?_
 refine wsr (.agg #[v5067, v4995, Zs, Zs, v5060, Zs]) 6 rfl rfl rfl (by kernel_rfl) (fun w hst => by obtain ⟨_, _, hv_, _⟩ := hst.sv1; rw [hv_]; obtain ⟨_, _, hv_, _⟩ := hst.sv2; rw [hv_]; obtain ⟨_, _, hv_, _⟩ := hst.sv0; rw [hv_]; kernel_rfl) ?_
 refine ws_e2 7 8 (by kernel_rfl) ?_ ?_
 {
 refine nxe [8, 9] (by kernel_rfl) z z ?_
 clear hst
 intro w hst
 obtain ⟨b5075, w5076, ew5077, eb5078, hst⟩ := hst.box [v5067, v4995, Zs, Zs, v5060, Zs] 73
 refine we_run (v := Pt b5075 0) (w' := w5076) z (x_al (by kernel_rfl) ew5077 eb5078) ?_
 refine ws_next (pend' := []) hst (by kernel_rfl) pk_nil ?_
 refine ws_e1 8 (by kernel_rfl) ?_
 refine nxe [9] (by kernel_rfl) z z ?_
 clear hst
 intro w hst
 obtain ⟨b5080, w5081, ew5082, eb5083, hst⟩ := hst.box [.pointer none] 60
 refine we_run (v := Pt b5080 0) (w' := w5081) z (x_al (by kernel_rfl) ew5082 eb5083) ?_
 refine ws_next (pend' := []) hst (by kernel_rfl) pk_nil ?_
 refine ws_e1 9 (by kernel_rfl) ?_
 refine nxe [] (by kernel_rfl) z z ?_
 clear hst
 intro w hst
 obtain ⟨w5085, hr5086, hst⟩ := hst.by_ [Pt b5075 0] 0 (Pt b5075 0) sizeOf60 z (oC z oN) (by kernel_rfl)
 refine we_unit z (x_unit hr5086) ?_
 refine ws_next (pend' := []) hst (by kernel_rfl) pk_nil ?_
 refine ws_nil ?_
 intro w hst
 refine ⟨z, ?_⟩
 replace hst := hst.own_nil (tySl (tyInt .i64))
 replace hst := hst.own_nil (tySl (tyInt .i64))
 replace hst := hst.own_nil (tyInt .i64)
 replace hst := hst.pull6.pull2.pull3.pull7.pull7.pull7
 replace hst := at_label_Lattice_close (pv := Pt b5075 0) (x := ({ up := t4819, down := (List.replicate (Int.toNat ((a0).length : Int)) (0:Int)), join := [], meet := [], rank := (List.replicate (Int.toNat ((a0).length : Int)) (0:Int)), all := [] } : label_Lattice)) hst z
 replace hst := hst.pull1.keep2
 obtain rfl := some_inj hm
 exact ⟨({ up := t4819, down := (List.replicate (Int.toNat ((a0).length : Int)) (0:Int)), join := [], meet := [], rank := (List.replicate (Int.toNat ((a0).length : Int)) (0:Int)), all := [] } : label_Lattice), b5080, (Pt b5075 0), _, hx5503, (fu 0 r0_0 z (fu 4 (.int .i64 ((a0).length : Int)) z (fu 5 (Pt b5080 0) z z))), hst⟩
}
 {
 refine nxe [7, 9] (by kernel_rfl) z z ?_
 clear hst
 intro w hst
 obtain ⟨b5087, w5088, ew5089, eb5090, hst⟩ := hst.box [.pointer none] 60
 refine we_run (v := Pt b5087 0) (w' := w5088) z (x_al (by kernel_rfl) ew5089 eb5090) ?_
 refine ws_next (pend' := [(6, .agg #[v5067, v4995, Zs, Zs, v5060, Zs])]) hst (by kernel_rfl) (pkr rfl rfl (fun w hst => by obtain ⟨_, _, hv_, _⟩ := hst.sv2; rw [hv_]; obtain ⟨_, _, hv_, _⟩ := hst.sv3; rw [hv_]; obtain ⟨_, _, hv_, _⟩ := hst.sv1; rw [hv_]; kernel_rfl) pk_nil) ?_
 refine ws_e1 7 (by kernel_rfl) ?_
 refine nxe [9] (by kernel_rfl) z z ?_
 clear hst
 intro w hst
 obtain ⟨b5092, w5093, ew5094, eb5095, hst⟩ := hst.box [v5067, v4995, Zs, Zs, v5060, Zs] 73
 refine we_run (v := Pt b5092 0) (w' := w5093) z (x_al (by kernel_rfl) ew5094 eb5095) ?_
 refine ws_next (pend' := []) hst (by kernel_rfl) pk_nil ?_
 refine ws_e1 9 (by kernel_rfl) ?_
 refine nxe [] (by kernel_rfl) z z ?_
 clear hst
 intro w hst
 replace hst := hst.pull1
 obtain ⟨w5097, hr5098, hst⟩ := hst.by_ [Pt b5092 0] 0 (Pt b5092 0) sizeOf60 z (oC z oN) (by kernel_rfl)
 refine we_unit z (x_unit hr5098) ?_
 refine ws_next (pend' := []) hst (by kernel_rfl) pk_nil ?_
 refine ws_nil ?_
 intro w hst
 refine ⟨z, ?_⟩
 replace hst := hst.own_nil (tySl (tyInt .i64))
 replace hst := hst.own_nil (tySl (tyInt .i64))
 replace hst := hst.own_nil (tyInt .i64)
 replace hst := hst.pull6.pull2.pull3.pull7.pull7.pull7
 replace hst := at_label_Lattice_close (pv := Pt b5092 0) (x := ({ up := t4819, down := (List.replicate (Int.toNat ((a0).length : Int)) (0:Int)), join := [], meet := [], rank := (List.replicate (Int.toNat ((a0).length : Int)) (0:Int)), all := [] } : label_Lattice)) hst z
 replace hst := hst.pull1.keep2
 obtain rfl := some_inj hm
 exact ⟨({ up := t4819, down := (List.replicate (Int.toNat ((a0).length : Int)) (0:Int)), join := [], meet := [], rank := (List.replicate (Int.toNat ((a0).length : Int)) (0:Int)), all := [] } : label_Lattice), b5087, (Pt b5092 0), _, hx5503, (fu 0 r0_0 z (fu 4 (.int .i64 ((a0).length : Int)) z (fu 5 (Pt b5087 0) z z))), hst⟩
}
}
 {
 refine nxe [1, 6, 7, 9] (by kernel_rfl) z z ?_
 clear hst
 intro w hst
 obtain ⟨b5099, w5100, ew5101, eb5102, hst⟩ := hst.box [.pointer none] 60
 refine we_run (v := Pt b5099 0) (w' := w5100) z (x_al (by kernel_rfl) ew5101 eb5102) ?_
 refine ws_next (pend' := [(0, r0_0)]) hst (by kernel_rfl) (pkr z z (fun w hst => z) pk_nil) ?_
 refine ws_e1 1 (by kernel_rfl) ?_
 refine nxe [6, 7, 9] (by kernel_rfl) z z ?_
 clear hst
 intro w hst
 refine wec call44 [r0_0] z z ?_
 refine (slices_Clone_uint64_uint64_ref (f0_0.mono (rd_weak _)) hst.to0 ht4820).mono ?_
 rintro _ w5104 ⟨v5107, rfl, hst⟩
 refine ⟨_, z, ?_⟩
 replace hst := hst.of1
 refine ws_next (pend' := []) hst (by kernel_rfl) pk_nil ?_
 refine wsr (.agg #[v5107, v4995, Zs, Zs, v5060, Zs]) 6 rfl rfl rfl (by kernel_rfl) (fun w hst => by obtain ⟨_, _, hv_, _⟩ := hst.sv2; rw [hv_]; obtain ⟨_, _, hv_, _⟩ := hst.sv3; rw [hv_]; obtain ⟨_, _, hv_, _⟩ := hst.sv0; rw [hv_]; kernel_rfl) ?_
 refine ws_e1 7 (by kernel_rfl) ?_
 refine nxe [9] (by kernel_rfl) z z ?_
 clear hst
 intro w hst
 obtain ⟨b5115, w5116, ew5117, eb5118, hst⟩ := hst.box [v5107, v4995, Zs, Zs, v5060, Zs] 73
 refine we_run (v := Pt b5115 0) (w' := w5116) z (x_al (by kernel_rfl) ew5117 eb5118) ?_
 refine ws_next (pend' := []) hst (by kernel_rfl) pk_nil ?_
 refine ws_e1 9 (by kernel_rfl) ?_
 refine nxe [] (by kernel_rfl) z z ?_
 clear hst
 intro w hst
 replace hst := hst.pull2
 obtain ⟨w5120, hr5121, hst⟩ := hst.by_ [Pt b5115 0] 0 (Pt b5115 0) sizeOf60 z (oC z oN) (by kernel_rfl)
 refine we_unit z (x_unit hr5121) ?_
 refine ws_next (pend' := []) hst (by kernel_rfl) pk_nil ?_
 refine ws_nil ?_
 intro w hst
 refine ⟨z, ?_⟩
 replace hst := hst.own_nil (tySl (tyInt .i64))
 replace hst := hst.own_nil (tySl (tyInt .i64))
 replace hst := hst.own_nil (tyInt .i64)
 replace hst := hst.pull6.pull2.pull3.pull7.pull7.pull7
 replace hst := at_label_Lattice_close (pv := Pt b5115 0) (x := ({ up := t4819, down := (List.replicate (Int.toNat ((a0).length : Int)) (0:Int)), join := [], meet := [], rank := (List.replicate (Int.toNat ((a0).length : Int)) (0:Int)), all := [] } : label_Lattice)) hst z
 replace hst := hst.pull1.keep2
 obtain rfl := some_inj hm
 exact ⟨({ up := t4819, down := (List.replicate (Int.toNat ((a0).length : Int)) (0:Int)), join := [], meet := [], rank := (List.replicate (Int.toNat ((a0).length : Int)) (0:Int)), all := [] } : label_Lattice), b5099, (Pt b5115 0), _, hx5503, (fu 0 r0_0 z (fu 4 (.int .i64 ((a0).length : Int)) z (fu 5 (Pt b5099 0) z z))), hst⟩
}
}
 {
 refine nxe [1, 5, 6, 7, 9] (by kernel_rfl) z z ?_
 clear hst
 intro w hst
 obtain ⟨b5122, w5123, ew5124, eb5125, hst⟩ := hst.box [.pointer none] 60
 refine we_run (v := Pt b5122 0) (w' := w5123) z (x_al (by kernel_rfl) ew5124 eb5125) ?_
 refine ws_next (pend' := [(4, I6 ((a0).length : Int)), (0, r0_0)]) hst (by kernel_rfl) (pkr z z (fun w hst => z) (pkr z z (fun w hst => z) pk_nil)) ?_
 refine ws_e2 1 5 (by kernel_rfl) ?_ ?_
 {
 refine nxe [5, 6, 7, 9] (by kernel_rfl) z z ?_
 clear hst
 intro w hst
 refine wec call44 [r0_0] z z ?_
 refine (slices_Clone_uint64_uint64_ref (f0_0.mono (rd_weak _)) hst.to0 ht4820).mono ?_
 rintro _ w5127 ⟨v5130, rfl, hst⟩
 refine ⟨_, z, ?_⟩
 replace hst := hst.of1
 refine ws_next (pend' := [(4, I6 ((a0).length : Int))]) hst (by kernel_rfl) (pkr z z (fun w hst => z) pk_nil) ?_
 refine ws_e1 5 (by kernel_rfl) ?_
 refine nxe [6, 7, 9] (by kernel_rfl) z z ?_
 clear hst
 intro w hst
 obtain ⟨v5132, w5133, hr5134, hst⟩ := run_mk (k := .i64) (k' := .i64) (zm := (0:Int)) elem_46 hst hg4822 (by decide) z
 refine we_run (v := v5132) (w' := w5133) z (x_make z z hr5134) ?_
 refine ws_next (pend' := []) hst (by kernel_rfl) pk_nil ?_
 refine wsr (.agg #[v5130, v4995, Zs, Zs, v5132, Zs]) 6 rfl rfl rfl (by kernel_rfl) (fun w hst => by obtain ⟨_, _, hv_, _⟩ := hst.sv0; rw [hv_]; obtain ⟨_, _, hv_, _⟩ := hst.sv3; rw [hv_]; obtain ⟨_, _, hv_, _⟩ := hst.sv1; rw [hv_]; kernel_rfl) ?_
 refine ws_e1 7 (by kernel_rfl) ?_
 refine nxe [9] (by kernel_rfl) z z ?_
 clear hst
 intro w hst
 obtain ⟨b5142, w5143, ew5144, eb5145, hst⟩ := hst.box [v5130, v4995, Zs, Zs, v5132, Zs] 73
 refine we_run (v := Pt b5142 0) (w' := w5143) z (x_al (by kernel_rfl) ew5144 eb5145) ?_
 refine ws_next (pend' := []) hst (by kernel_rfl) pk_nil ?_
 refine ws_e1 9 (by kernel_rfl) ?_
 refine nxe [] (by kernel_rfl) z z ?_
 clear hst
 intro w hst
 replace hst := hst.pull3
 obtain ⟨w5147, hr5148, hst⟩ := hst.by_ [Pt b5142 0] 0 (Pt b5142 0) sizeOf60 z (oC z oN) (by kernel_rfl)
 refine we_unit z (x_unit hr5148) ?_
 refine ws_next (pend' := []) hst (by kernel_rfl) pk_nil ?_
 refine ws_nil ?_
 intro w hst
 refine ⟨z, ?_⟩
 replace hst := hst.own_nil (tySl (tyInt .i64))
 replace hst := hst.own_nil (tySl (tyInt .i64))
 replace hst := hst.own_nil (tyInt .i64)
 replace hst := hst.pull5.pull2.pull3.pull7.pull7.pull7
 replace hst := at_label_Lattice_close (pv := Pt b5142 0) (x := ({ up := t4819, down := (List.replicate (Int.toNat ((a0).length : Int)) (0:Int)), join := [], meet := [], rank := (List.replicate (Int.toNat ((a0).length : Int)) (0:Int)), all := [] } : label_Lattice)) hst z
 replace hst := hst.pull1.keep2
 obtain rfl := some_inj hm
 exact ⟨({ up := t4819, down := (List.replicate (Int.toNat ((a0).length : Int)) (0:Int)), join := [], meet := [], rank := (List.replicate (Int.toNat ((a0).length : Int)) (0:Int)), all := [] } : label_Lattice), b5122, (Pt b5142 0), _, hx5503, (fu 0 r0_0 z (fu 4 (.int .i64 ((a0).length : Int)) z (fu 5 (Pt b5122 0) z z))), hst⟩
}
 {
 refine nxe [1, 6, 7, 9] (by kernel_rfl) z z ?_
 clear hst
 intro w hst
 obtain ⟨v5149, w5150, hr5151, hst⟩ := run_mk (k := .i64) (k' := .i64) (zm := (0:Int)) elem_46 hst hg4822 (by decide) z
 refine we_run (v := v5149) (w' := w5150) z (x_make z z hr5151) ?_
 refine ws_next (pend' := [(0, r0_0)]) hst (by kernel_rfl) (pkr z z (fun w hst => z) pk_nil) ?_
 refine ws_e1 1 (by kernel_rfl) ?_
 refine nxe [6, 7, 9] (by kernel_rfl) z z ?_
 clear hst
 intro w hst
 refine wec call44 [r0_0] z z ?_
 refine (slices_Clone_uint64_uint64_ref (f0_0.mono (rd_weak _)) hst.to0 ht4820).mono ?_
 rintro _ w5153 ⟨v5156, rfl, hst⟩
 refine ⟨_, z, ?_⟩
 replace hst := hst.of1
 refine ws_next (pend' := []) hst (by kernel_rfl) pk_nil ?_
 refine wsr (.agg #[v5156, v4995, Zs, Zs, v5149, Zs]) 6 rfl rfl rfl (by kernel_rfl) (fun w hst => by obtain ⟨_, _, hv_, _⟩ := hst.sv1; rw [hv_]; obtain ⟨_, _, hv_, _⟩ := hst.sv3; rw [hv_]; obtain ⟨_, _, hv_, _⟩ := hst.sv0; rw [hv_]; kernel_rfl) ?_
 refine ws_e1 7 (by kernel_rfl) ?_
 refine nxe [9] (by kernel_rfl) z z ?_
 clear hst
 intro w hst
 obtain ⟨b5164, w5165, ew5166, eb5167, hst⟩ := hst.box [v5156, v4995, Zs, Zs, v5149, Zs] 73
 refine we_run (v := Pt b5164 0) (w' := w5165) z (x_al (by kernel_rfl) ew5166 eb5167) ?_
 refine ws_next (pend' := []) hst (by kernel_rfl) pk_nil ?_
 refine ws_e1 9 (by kernel_rfl) ?_
 refine nxe [] (by kernel_rfl) z z ?_
 clear hst
 intro w hst
 replace hst := hst.pull3
 obtain ⟨w5169, hr5170, hst⟩ := hst.by_ [Pt b5164 0] 0 (Pt b5164 0) sizeOf60 z (oC z oN) (by kernel_rfl)
 refine we_unit z (x_unit hr5170) ?_
 refine ws_next (pend' := []) hst (by kernel_rfl) pk_nil ?_
 refine ws_nil ?_
 intro w hst
 refine ⟨z, ?_⟩
 replace hst := hst.own_nil (tySl (tyInt .i64))
 replace hst := hst.own_nil (tySl (tyInt .i64))
 replace hst := hst.own_nil (tyInt .i64)
 replace hst := hst.pull6.pull2.pull3.pull7.pull7.pull7
 replace hst := at_label_Lattice_close (pv := Pt b5164 0) (x := ({ up := t4819, down := (List.replicate (Int.toNat ((a0).length : Int)) (0:Int)), join := [], meet := [], rank := (List.replicate (Int.toNat ((a0).length : Int)) (0:Int)), all := [] } : label_Lattice)) hst z
 replace hst := hst.pull1.keep2
 obtain rfl := some_inj hm
 exact ⟨({ up := t4819, down := (List.replicate (Int.toNat ((a0).length : Int)) (0:Int)), join := [], meet := [], rank := (List.replicate (Int.toNat ((a0).length : Int)) (0:Int)), all := [] } : label_Lattice), b5122, (Pt b5164 0), _, hx5503, (fu 0 r0_0 z (fu 4 (.int .i64 ((a0).length : Int)) z (fu 5 (Pt b5122 0) z z))), hst⟩
}
}
}
 {
 refine nxe [1, 3, 6, 7, 8, 9] (by kernel_rfl) z z ?_
 clear hst
 intro w hst
 obtain ⟨v5171, w5172, hr5173, hst⟩ := run_mk (k := .i64) (k' := .i64) (zm := (0:Int)) elem_46 hst hg4822 (by decide) z
 refine we_run (v := v5171) (w' := w5172) z (x_make z z hr5173) ?_
 refine ws_next (pend' := [(2, I6 ((a0).length : Int)), (0, r0_0)]) hst (by kernel_rfl) (pkr z z (fun w hst => z) (pkr z z (fun w hst => z) pk_nil)) ?_
 refine ws_e3 1 3 8 (by kernel_rfl) ?_ ?_ ?_
 {
 refine nxe [3, 6, 7, 8, 9] (by kernel_rfl) z z ?_
 clear hst
 intro w hst
 refine wec call44 [r0_0] z z ?_
 refine (slices_Clone_uint64_uint64_ref (f0_0.mono (rd_weak _)) hst.to0 ht4820).mono ?_
 rintro _ w5175 ⟨v5178, rfl, hst⟩
 refine ⟨_, z, ?_⟩
 replace hst := hst.of1
 refine ws_next (pend' := [(2, I6 ((a0).length : Int))]) hst (by kernel_rfl) (pkr z z (fun w hst => z) pk_nil) ?_
 refine ws_e2 3 8 (by kernel_rfl) ?_ ?_
 {
 refine nxe [6, 7, 8, 9] (by kernel_rfl) z z ?_
 clear hst
 intro w hst
 obtain ⟨v5180, w5181, hr5182, hst⟩ := run_mk (k := .i64) (k' := .i64) (zm := (0:Int)) elem_25 hst hg4821 (by decide) z
 refine we_run (v := v5180) (w' := w5181) z (x_make z z hr5182) ?_
 refine ws_next (pend' := []) hst (by kernel_rfl) pk_nil ?_
 refine wsr (.agg #[v5178, v5180, Zs, Zs, v5171, Zs]) 6 rfl rfl rfl (by kernel_rfl) (fun w hst => by obtain ⟨_, _, hv_, _⟩ := hst.sv2; rw [hv_]; obtain ⟨_, _, hv_, _⟩ := hst.sv0; rw [hv_]; obtain ⟨_, _, hv_, _⟩ := hst.sv1; rw [hv_]; kernel_rfl) ?_
 refine ws_e2 7 8 (by kernel_rfl) ?_ ?_
 {
 refine nxe [8, 9] (by kernel_rfl) z z ?_
 clear hst
 intro w hst
 obtain ⟨b5190, w5191, ew5192, eb5193, hst⟩ := hst.box [v5178, v5180, Zs, Zs, v5171, Zs] 73
 refine we_run (v := Pt b5190 0) (w' := w5191) z (x_al (by kernel_rfl) ew5192 eb5193) ?_
 refine ws_next (pend' := []) hst (by kernel_rfl) pk_nil ?_
 refine ws_e1 8 (by kernel_rfl) ?_
 refine nxe [9] (by kernel_rfl) z z ?_
 clear hst
 intro w hst
 obtain ⟨b5195, w5196, ew5197, eb5198, hst⟩ := hst.box [.pointer none] 60
 refine we_run (v := Pt b5195 0) (w' := w5196) z (x_al (by kernel_rfl) ew5197 eb5198) ?_
 refine ws_next (pend' := []) hst (by kernel_rfl) pk_nil ?_
 refine ws_e1 9 (by kernel_rfl) ?_
 refine nxe [] (by kernel_rfl) z z ?_
 clear hst
 intro w hst
 obtain ⟨w5200, hr5201, hst⟩ := hst.by_ [Pt b5190 0] 0 (Pt b5190 0) sizeOf60 z (oC z oN) (by kernel_rfl)
 refine we_unit z (x_unit hr5201) ?_
 refine ws_next (pend' := []) hst (by kernel_rfl) pk_nil ?_
 refine ws_nil ?_
 intro w hst
 refine ⟨z, ?_⟩
 replace hst := hst.own_nil (tySl (tyInt .i64))
 replace hst := hst.own_nil (tySl (tyInt .i64))
 replace hst := hst.own_nil (tyInt .i64)
 replace hst := hst.pull7.pull2.pull3.pull6.pull7.pull7
 replace hst := at_label_Lattice_close (pv := Pt b5190 0) (x := ({ up := t4819, down := (List.replicate (Int.toNat ((a0).length : Int)) (0:Int)), join := [], meet := [], rank := (List.replicate (Int.toNat ((a0).length : Int)) (0:Int)), all := [] } : label_Lattice)) hst z
 replace hst := hst.pull1.keep2
 obtain rfl := some_inj hm
 exact ⟨({ up := t4819, down := (List.replicate (Int.toNat ((a0).length : Int)) (0:Int)), join := [], meet := [], rank := (List.replicate (Int.toNat ((a0).length : Int)) (0:Int)), all := [] } : label_Lattice), b5195, (Pt b5190 0), _, hx5503, (fu 0 r0_0 z (fu 4 (.int .i64 ((a0).length : Int)) z (fu 5 (Pt b5195 0) z z))), hst⟩
}
 {
 refine nxe [7, 9] (by kernel_rfl) z z ?_
 clear hst
 intro w hst
 obtain ⟨b5202, w5203, ew5204, eb5205, hst⟩ := hst.box [.pointer none] 60
 refine we_run (v := Pt b5202 0) (w' := w5203) z (x_al (by kernel_rfl) ew5204 eb5205) ?_
 refine ws_next (pend' := [(6, .agg #[v5178, v5180, Zs, Zs, v5171, Zs])]) hst (by kernel_rfl) (pkr rfl rfl (fun w hst => by obtain ⟨_, _, hv_, _⟩ := hst.sv3; rw [hv_]; obtain ⟨_, _, hv_, _⟩ := hst.sv1; rw [hv_]; obtain ⟨_, _, hv_, _⟩ := hst.sv2; rw [hv_]; kernel_rfl) pk_nil) ?_
 refine ws_e1 7 (by kernel_rfl) ?_
 refine nxe [9] (by kernel_rfl) z z ?_
 clear hst
 intro w hst
 obtain ⟨b5207, w5208, ew5209, eb5210, hst⟩ := hst.box [v5178, v5180, Zs, Zs, v5171, Zs] 73
 refine we_run (v := Pt b5207 0) (w' := w5208) z (x_al (by kernel_rfl) ew5209 eb5210) ?_
 refine ws_next (pend' := []) hst (by kernel_rfl) pk_nil ?_
 refine ws_e1 9 (by kernel_rfl) ?_
 refine nxe [] (by kernel_rfl) z z ?_
 clear hst
 intro w hst
 replace hst := hst.pull1
 obtain ⟨w5212, hr5213, hst⟩ := hst.by_ [Pt b5207 0] 0 (Pt b5207 0) sizeOf60 z (oC z oN) (by kernel_rfl)
 refine we_unit z (x_unit hr5213) ?_
 refine ws_next (pend' := []) hst (by kernel_rfl) pk_nil ?_
 refine ws_nil ?_
 intro w hst
 refine ⟨z, ?_⟩
 replace hst := hst.own_nil (tySl (tyInt .i64))
 replace hst := hst.own_nil (tySl (tyInt .i64))
 replace hst := hst.own_nil (tyInt .i64)
 replace hst := hst.pull7.pull2.pull3.pull6.pull7.pull7
 replace hst := at_label_Lattice_close (pv := Pt b5207 0) (x := ({ up := t4819, down := (List.replicate (Int.toNat ((a0).length : Int)) (0:Int)), join := [], meet := [], rank := (List.replicate (Int.toNat ((a0).length : Int)) (0:Int)), all := [] } : label_Lattice)) hst z
 replace hst := hst.pull1.keep2
 obtain rfl := some_inj hm
 exact ⟨({ up := t4819, down := (List.replicate (Int.toNat ((a0).length : Int)) (0:Int)), join := [], meet := [], rank := (List.replicate (Int.toNat ((a0).length : Int)) (0:Int)), all := [] } : label_Lattice), b5202, (Pt b5207 0), _, hx5503, (fu 0 r0_0 z (fu 4 (.int .i64 ((a0).length : Int)) z (fu 5 (Pt b5202 0) z z))), hst⟩
}
}
 {
 refine nxe [3, 6, 7, 9] (by kernel_rfl) z z ?_
 clear hst
 intro w hst
 obtain ⟨b5214, w5215, ew5216, eb5217, hst⟩ := hst.box [.pointer none] 60
 refine we_run (v := Pt b5214 0) (w' := w5215) z (x_al (by kernel_rfl) ew5216 eb5217) ?_
 refine ws_next (pend' := [(2, I6 ((a0).length : Int))]) hst (by kernel_rfl) (pkr z z (fun w hst => z) pk_nil) ?_
 refine ws_e1 3 (by kernel_rfl) ?_
 refine nxe [6, 7, 9] (by kernel_rfl) z z ?_
 clear hst
 intro w hst
 obtain ⟨v5219, w5220, hr5221, hst⟩ := run_mk (k := .i64) (k' := .i64) (zm := (0:Int)) elem_25 hst hg4821 (by decide) z
 refine we_run (v := v5219) (w' := w5220) z (x_make z z hr5221) ?_
 refine ws_next (pend' := []) hst (by kernel_rfl) pk_nil ?_
 refine wsr (.agg #[v5178, v5219, Zs, Zs, v5171, Zs]) 6 rfl rfl rfl (by kernel_rfl) (fun w hst => by obtain ⟨_, _, hv_, _⟩ := hst.sv3; rw [hv_]; obtain ⟨_, _, hv_, _⟩ := hst.sv0; rw [hv_]; obtain ⟨_, _, hv_, _⟩ := hst.sv2; rw [hv_]; kernel_rfl) ?_
 refine ws_e1 7 (by kernel_rfl) ?_
 refine nxe [9] (by kernel_rfl) z z ?_
 clear hst
 intro w hst
 obtain ⟨b5229, w5230, ew5231, eb5232, hst⟩ := hst.box [v5178, v5219, Zs, Zs, v5171, Zs] 73
 refine we_run (v := Pt b5229 0) (w' := w5230) z (x_al (by kernel_rfl) ew5231 eb5232) ?_
 refine ws_next (pend' := []) hst (by kernel_rfl) pk_nil ?_
 refine ws_e1 9 (by kernel_rfl) ?_
 refine nxe [] (by kernel_rfl) z z ?_
 clear hst
 intro w hst
 replace hst := hst.pull2
 obtain ⟨w5234, hr5235, hst⟩ := hst.by_ [Pt b5229 0] 0 (Pt b5229 0) sizeOf60 z (oC z oN) (by kernel_rfl)
 refine we_unit z (x_unit hr5235) ?_
 refine ws_next (pend' := []) hst (by kernel_rfl) pk_nil ?_
 refine ws_nil ?_
 intro w hst
 refine ⟨z, ?_⟩
 replace hst := hst.own_nil (tySl (tyInt .i64))
 replace hst := hst.own_nil (tySl (tyInt .i64))
 replace hst := hst.own_nil (tyInt .i64)
 replace hst := hst.pull7.pull2.pull3.pull6.pull7.pull7
 replace hst := at_label_Lattice_close (pv := Pt b5229 0) (x := ({ up := t4819, down := (List.replicate (Int.toNat ((a0).length : Int)) (0:Int)), join := [], meet := [], rank := (List.replicate (Int.toNat ((a0).length : Int)) (0:Int)), all := [] } : label_Lattice)) hst z
 replace hst := hst.pull1.keep2
 obtain rfl := some_inj hm
 exact ⟨({ up := t4819, down := (List.replicate (Int.toNat ((a0).length : Int)) (0:Int)), join := [], meet := [], rank := (List.replicate (Int.toNat ((a0).length : Int)) (0:Int)), all := [] } : label_Lattice), b5214, (Pt b5229 0), _, hx5503, (fu 0 r0_0 z (fu 4 (.int .i64 ((a0).length : Int)) z (fu 5 (Pt b5214 0) z z))), hst⟩
}
}
 {
 refine nxe [1, 6, 7, 8, 9] (by kernel_rfl) z z ?_
 clear hst
 intro w hst
 obtain ⟨v5236, w5237, hr5238, hst⟩ := run_mk (k := .i64) (k' := .i64) (zm := (0:Int)) elem_25 hst hg4821 (by decide) z
 refine we_run (v := v5236) (w' := w5237) z (x_make z z hr5238) ?_
 refine ws_next (pend' := [(0, r0_0)]) hst (by kernel_rfl) (pkr z z (fun w hst => z) pk_nil) ?_
 refine ws_e2 1 8 (by kernel_rfl) ?_ ?_
 {
 refine nxe [6, 7, 8, 9] (by kernel_rfl) z z ?_
 clear hst
 intro w hst
 refine wec call44 [r0_0] z z ?_
 refine (slices_Clone_uint64_uint64_ref (f0_0.mono (rd_weak _)) hst.to0 ht4820).mono ?_
 rintro _ w5240 ⟨v5243, rfl, hst⟩
 refine ⟨_, z, ?_⟩
 replace hst := hst.of1
 refine ws_next (pend' := []) hst (by kernel_rfl) pk_nil ?_
 refine wsr (.agg #[v5243, v5236, Zs, Zs, v5171, Zs]) 6 rfl rfl rfl (by kernel_rfl) (fun w hst => by obtain ⟨_, _, hv_, _⟩ := hst.sv2; rw [hv_]; obtain ⟨_, _, hv_, _⟩ := hst.sv1; rw [hv_]; obtain ⟨_, _, hv_, _⟩ := hst.sv0; rw [hv_]; kernel_rfl) ?_
 refine ws_e2 7 8 (by kernel_rfl) ?_ ?_
 {
 refine nxe [8, 9] (by kernel_rfl) z z ?_
 clear hst
 intro w hst
 obtain ⟨b5251, w5252, ew5253, eb5254, hst⟩ := hst.box [v5243, v5236, Zs, Zs, v5171, Zs] 73
 refine we_run (v := Pt b5251 0) (w' := w5252) z (x_al (by kernel_rfl) ew5253 eb5254) ?_
 refine ws_next (pend' := []) hst (by kernel_rfl) pk_nil ?_
 refine ws_e1 8 (by kernel_rfl) ?_
 refine nxe [9] (by kernel_rfl) z z ?_
 clear hst
 intro w hst
 obtain ⟨b5256, w5257, ew5258, eb5259, hst⟩ := hst.box [.pointer none] 60
 refine we_run (v := Pt b5256 0) (w' := w5257) z (x_al (by kernel_rfl) ew5258 eb5259) ?_
 refine ws_next (pend' := []) hst (by kernel_rfl) pk_nil ?_
 refine ws_e1 9 (by kernel_rfl) ?_
 refine nxe [] (by kernel_rfl) z z ?_
 clear hst
 intro w hst
 obtain ⟨w5261, hr5262, hst⟩ := hst.by_ [Pt b5251 0] 0 (Pt b5251 0) sizeOf60 z (oC z oN) (by kernel_rfl)
 refine we_unit z (x_unit hr5262) ?_
 refine ws_next (pend' := []) hst (by kernel_rfl) pk_nil ?_
 refine ws_nil ?_
 intro w hst
 refine ⟨z, ?_⟩
 replace hst := hst.own_nil (tySl (tyInt .i64))
 replace hst := hst.own_nil (tySl (tyInt .i64))
 replace hst := hst.own_nil (tyInt .i64)
 replace hst := hst.pull7.pull2.pull3.pull7.pull7.pull7
 replace hst := at_label_Lattice_close (pv := Pt b5251 0) (x := ({ up := t4819, down := (List.replicate (Int.toNat ((a0).length : Int)) (0:Int)), join := [], meet := [], rank := (List.replicate (Int.toNat ((a0).length : Int)) (0:Int)), all := [] } : label_Lattice)) hst z
 replace hst := hst.pull1.keep2
 obtain rfl := some_inj hm
 exact ⟨({ up := t4819, down := (List.replicate (Int.toNat ((a0).length : Int)) (0:Int)), join := [], meet := [], rank := (List.replicate (Int.toNat ((a0).length : Int)) (0:Int)), all := [] } : label_Lattice), b5256, (Pt b5251 0), _, hx5503, (fu 0 r0_0 z (fu 4 (.int .i64 ((a0).length : Int)) z (fu 5 (Pt b5256 0) z z))), hst⟩
}
 {
 refine nxe [7, 9] (by kernel_rfl) z z ?_
 clear hst
 intro w hst
 obtain ⟨b5263, w5264, ew5265, eb5266, hst⟩ := hst.box [.pointer none] 60
 refine we_run (v := Pt b5263 0) (w' := w5264) z (x_al (by kernel_rfl) ew5265 eb5266) ?_
 refine ws_next (pend' := [(6, .agg #[v5243, v5236, Zs, Zs, v5171, Zs])]) hst (by kernel_rfl) (pkr rfl rfl (fun w hst => by obtain ⟨_, _, hv_, _⟩ := hst.sv3; rw [hv_]; obtain ⟨_, _, hv_, _⟩ := hst.sv2; rw [hv_]; obtain ⟨_, _, hv_, _⟩ := hst.sv1; rw [hv_]; kernel_rfl) pk_nil) ?_
 refine ws_e1 7 (by kernel_rfl) ?_
 refine nxe [9] (by kernel_rfl) z z ?_
 clear hst
 intro w hst
 obtain ⟨b5268, w5269, ew5270, eb5271, hst⟩ := hst.box [v5243, v5236, Zs, Zs, v5171, Zs] 73
 refine we_run (v := Pt b5268 0) (w' := w5269) z (x_al (by kernel_rfl) ew5270 eb5271) ?_
 refine ws_next (pend' := []) hst (by kernel_rfl) pk_nil ?_
 refine ws_e1 9 (by kernel_rfl) ?_
 refine nxe [] (by kernel_rfl) z z ?_
 clear hst
 intro w hst
 replace hst := hst.pull1
 obtain ⟨w5273, hr5274, hst⟩ := hst.by_ [Pt b5268 0] 0 (Pt b5268 0) sizeOf60 z (oC z oN) (by kernel_rfl)
 refine we_unit z (x_unit hr5274) ?_
 refine ws_next (pend' := []) hst (by kernel_rfl) pk_nil ?_
 refine ws_nil ?_
 intro w hst
 refine ⟨z, ?_⟩
 replace hst := hst.own_nil (tySl (tyInt .i64))
 replace hst := hst.own_nil (tySl (tyInt .i64))
 replace hst := hst.own_nil (tyInt .i64)
 replace hst := hst.pull7.pull2.pull3.pull7.pull7.pull7
 replace hst := at_label_Lattice_close (pv := Pt b5268 0) (x := ({ up := t4819, down := (List.replicate (Int.toNat ((a0).length : Int)) (0:Int)), join := [], meet := [], rank := (List.replicate (Int.toNat ((a0).length : Int)) (0:Int)), all := [] } : label_Lattice)) hst z
 replace hst := hst.pull1.keep2
 obtain rfl := some_inj hm
 exact ⟨({ up := t4819, down := (List.replicate (Int.toNat ((a0).length : Int)) (0:Int)), join := [], meet := [], rank := (List.replicate (Int.toNat ((a0).length : Int)) (0:Int)), all := [] } : label_Lattice), b5263, (Pt b5268 0), _, hx5503, (fu 0 r0_0 z (fu 4 (.int .i64 ((a0).length : Int)) z (fu 5 (Pt b5263 0) z z))), hst⟩
}
}
 {
 refine nxe [1, 6, 7, 9] (by kernel_rfl) z z ?_
 clear hst
 intro w hst
 obtain ⟨b5275, w5276, ew5277, eb5278, hst⟩ := hst.box [.pointer none] 60
 refine we_run (v := Pt b5275 0) (w' := w5276) z (x_al (by kernel_rfl) ew5277 eb5278) ?_
 refine ws_next (pend' := [(0, r0_0)]) hst (by kernel_rfl) (pkr z z (fun w hst => z) pk_nil) ?_
 refine ws_e1 1 (by kernel_rfl) ?_
 refine nxe [6, 7, 9] (by kernel_rfl) z z ?_
 clear hst
 intro w hst
 refine wec call44 [r0_0] z z ?_
 refine (slices_Clone_uint64_uint64_ref (f0_0.mono (rd_weak _)) hst.to0 ht4820).mono ?_
 rintro _ w5280 ⟨v5283, rfl, hst⟩
 refine ⟨_, z, ?_⟩
 replace hst := hst.of1
 refine ws_next (pend' := []) hst (by kernel_rfl) pk_nil ?_
 refine wsr (.agg #[v5283, v5236, Zs, Zs, v5171, Zs]) 6 rfl rfl rfl (by kernel_rfl) (fun w hst => by obtain ⟨_, _, hv_, _⟩ := hst.sv3; rw [hv_]; obtain ⟨_, _, hv_, _⟩ := hst.sv2; rw [hv_]; obtain ⟨_, _, hv_, _⟩ := hst.sv0; rw [hv_]; kernel_rfl) ?_
 refine ws_e1 7 (by kernel_rfl) ?_
 refine nxe [9] (by kernel_rfl) z z ?_
 clear hst
 intro w hst
 obtain ⟨b5291, w5292, ew5293, eb5294, hst⟩ := hst.box [v5283, v5236, Zs, Zs, v5171, Zs] 73
 refine we_run (v := Pt b5291 0) (w' := w5292) z (x_al (by kernel_rfl) ew5293 eb5294) ?_
 refine ws_next (pend' := []) hst (by kernel_rfl) pk_nil ?_
 refine ws_e1 9 (by kernel_rfl) ?_
 refine nxe [] (by kernel_rfl) z z ?_
 clear hst
 intro w hst
 replace hst := hst.pull2
 obtain ⟨w5296, hr5297, hst⟩ := hst.by_ [Pt b5291 0] 0 (Pt b5291 0) sizeOf60 z (oC z oN) (by kernel_rfl)
 refine we_unit z (x_unit hr5297) ?_
 refine ws_next (pend' := []) hst (by kernel_rfl) pk_nil ?_
 refine ws_nil ?_
 intro w hst
 refine ⟨z, ?_⟩
 replace hst := hst.own_nil (tySl (tyInt .i64))
 replace hst := hst.own_nil (tySl (tyInt .i64))
 replace hst := hst.own_nil (tyInt .i64)
 replace hst := hst.pull7.pull2.pull3.pull7.pull7.pull7
 replace hst := at_label_Lattice_close (pv := Pt b5291 0) (x := ({ up := t4819, down := (List.replicate (Int.toNat ((a0).length : Int)) (0:Int)), join := [], meet := [], rank := (List.replicate (Int.toNat ((a0).length : Int)) (0:Int)), all := [] } : label_Lattice)) hst z
 replace hst := hst.pull1.keep2
 obtain rfl := some_inj hm
 exact ⟨({ up := t4819, down := (List.replicate (Int.toNat ((a0).length : Int)) (0:Int)), join := [], meet := [], rank := (List.replicate (Int.toNat ((a0).length : Int)) (0:Int)), all := [] } : label_Lattice), b5275, (Pt b5291 0), _, hx5503, (fu 0 r0_0 z (fu 4 (.int .i64 ((a0).length : Int)) z (fu 5 (Pt b5275 0) z z))), hst⟩
}
}
 {
 refine nxe [1, 3, 6, 7, 9] (by kernel_rfl) z z ?_
 clear hst
 intro w hst
 obtain ⟨b5298, w5299, ew5300, eb5301, hst⟩ := hst.box [.pointer none] 60
 refine we_run (v := Pt b5298 0) (w' := w5299) z (x_al (by kernel_rfl) ew5300 eb5301) ?_
 refine ws_next (pend' := [(2, I6 ((a0).length : Int)), (0, r0_0)]) hst (by kernel_rfl) (pkr z z (fun w hst => z) (pkr z z (fun w hst => z) pk_nil)) ?_
 refine ws_e2 1 3 (by kernel_rfl) ?_ ?_
 {
 refine nxe [3, 6, 7, 9] (by kernel_rfl) z z ?_
 clear hst
 intro w hst
 refine wec call44 [r0_0] z z ?_
 refine (slices_Clone_uint64_uint64_ref (f0_0.mono (rd_weak _)) hst.to0 ht4820).mono ?_
 rintro _ w5303 ⟨v5306, rfl, hst⟩
 refine ⟨_, z, ?_⟩
 replace hst := hst.of1
 refine ws_next (pend' := [(2, I6 ((a0).length : Int))]) hst (by kernel_rfl) (pkr z z (fun w hst => z) pk_nil) ?_
 refine ws_e1 3 (by kernel_rfl) ?_
 refine nxe [6, 7, 9] (by kernel_rfl) z z ?_
 clear hst
 intro w hst
 obtain ⟨v5308, w5309, hr5310, hst⟩ := run_mk (k := .i64) (k' := .i64) (zm := (0:Int)) elem_25 hst hg4821 (by decide) z
 refine we_run (v := v5308) (w' := w5309) z (x_make z z hr5310) ?_
 refine ws_next (pend' := []) hst (by kernel_rfl) pk_nil ?_
 refine wsr (.agg #[v5306, v5308, Zs, Zs, v5171, Zs]) 6 rfl rfl rfl (by kernel_rfl) (fun w hst => by obtain ⟨_, _, hv_, _⟩ := hst.sv3; rw [hv_]; obtain ⟨_, _, hv_, _⟩ := hst.sv0; rw [hv_]; obtain ⟨_, _, hv_, _⟩ := hst.sv1; rw [hv_]; kernel_rfl) ?_
 refine ws_e1 7 (by kernel_rfl) ?_
 refine nxe [9] (by kernel_rfl) z z ?_
 clear hst
 intro w hst
 obtain ⟨b5318, w5319, ew5320, eb5321, hst⟩ := hst.box [v5306, v5308, Zs, Zs, v5171, Zs] 73
 refine we_run (v := Pt b5318 0) (w' := w5319) z (x_al (by kernel_rfl) ew5320 eb5321) ?_
 refine ws_next (pend' := []) hst (by kernel_rfl) pk_nil ?_
 refine ws_e1 9 (by kernel_rfl) ?_
 refine nxe [] (by kernel_rfl) z z ?_
 clear hst
 intro w hst
 replace hst := hst.pull3
 obtain ⟨w5323, hr5324, hst⟩ := hst.by_ [Pt b5318 0] 0 (Pt b5318 0) sizeOf60 z (oC z oN) (by kernel_rfl)
 refine we_unit z (x_unit hr5324) ?_
 refine ws_next (pend' := []) hst (by kernel_rfl) pk_nil ?_
 refine ws_nil ?_
 intro w hst
 refine ⟨z, ?_⟩
 replace hst := hst.own_nil (tySl (tyInt .i64))
 replace hst := hst.own_nil (tySl (tyInt .i64))
 replace hst := hst.own_nil (tyInt .i64)
 replace hst := hst.pull7.pull2.pull3.pull6.pull7.pull7
 replace hst := at_label_Lattice_close (pv := Pt b5318 0) (x := ({ up := t4819, down := (List.replicate (Int.toNat ((a0).length : Int)) (0:Int)), join := [], meet := [], rank := (List.replicate (Int.toNat ((a0).length : Int)) (0:Int)), all := [] } : label_Lattice)) hst z
 replace hst := hst.pull1.keep2
 obtain rfl := some_inj hm
 exact ⟨({ up := t4819, down := (List.replicate (Int.toNat ((a0).length : Int)) (0:Int)), join := [], meet := [], rank := (List.replicate (Int.toNat ((a0).length : Int)) (0:Int)), all := [] } : label_Lattice), b5298, (Pt b5318 0), _, hx5503, (fu 0 r0_0 z (fu 4 (.int .i64 ((a0).length : Int)) z (fu 5 (Pt b5298 0) z z))), hst⟩
}
 {
 refine nxe [1, 6, 7, 9] (by kernel_rfl) z z ?_
 clear hst
 intro w hst
 obtain ⟨v5325, w5326, hr5327, hst⟩ := run_mk (k := .i64) (k' := .i64) (zm := (0:Int)) elem_25 hst hg4821 (by decide) z
 refine we_run (v := v5325) (w' := w5326) z (x_make z z hr5327) ?_
 refine ws_next (pend' := [(0, r0_0)]) hst (by kernel_rfl) (pkr z z (fun w hst => z) pk_nil) ?_
 refine ws_e1 1 (by kernel_rfl) ?_
 refine nxe [6, 7, 9] (by kernel_rfl) z z ?_
 clear hst
 intro w hst
 refine wec call44 [r0_0] z z ?_
 refine (slices_Clone_uint64_uint64_ref (f0_0.mono (rd_weak _)) hst.to0 ht4820).mono ?_
 rintro _ w5329 ⟨v5332, rfl, hst⟩
 refine ⟨_, z, ?_⟩
 replace hst := hst.of1
 refine ws_next (pend' := []) hst (by kernel_rfl) pk_nil ?_
 refine wsr (.agg #[v5332, v5325, Zs, Zs, v5171, Zs]) 6 rfl rfl rfl (by kernel_rfl) (fun w hst => by obtain ⟨_, _, hv_, _⟩ := hst.sv3; rw [hv_]; obtain ⟨_, _, hv_, _⟩ := hst.sv1; rw [hv_]; obtain ⟨_, _, hv_, _⟩ := hst.sv0; rw [hv_]; kernel_rfl) ?_
 refine ws_e1 7 (by kernel_rfl) ?_
 refine nxe [9] (by kernel_rfl) z z ?_
 clear hst
 intro w hst
 obtain ⟨b5340, w5341, ew5342, eb5343, hst⟩ := hst.box [v5332, v5325, Zs, Zs, v5171, Zs] 73
 refine we_run (v := Pt b5340 0) (w' := w5341) z (x_al (by kernel_rfl) ew5342 eb5343) ?_
 refine ws_next (pend' := []) hst (by kernel_rfl) pk_nil ?_
 refine ws_e1 9 (by kernel_rfl) ?_
 refine nxe [] (by kernel_rfl) z z ?_
 clear hst
 intro w hst
 replace hst := hst.pull3
 obtain ⟨w5345, hr5346, hst⟩ := hst.by_ [Pt b5340 0] 0 (Pt b5340 0) sizeOf60 z (oC z oN) (by kernel_rfl)
 refine we_unit z (x_unit hr5346) ?_
 refine ws_next (pend' := []) hst (by kernel_rfl) pk_nil ?_
 refine ws_nil ?_
 intro w hst
 refine ⟨z, ?_⟩
 replace hst := hst.own_nil (tySl (tyInt .i64))
 replace hst := hst.own_nil (tySl (tyInt .i64))
 replace hst := hst.own_nil (tyInt .i64)
 replace hst := hst.pull7.pull2.pull3.pull7.pull7.pull7
 replace hst := at_label_Lattice_close (pv := Pt b5340 0) (x := ({ up := t4819, down := (List.replicate (Int.toNat ((a0).length : Int)) (0:Int)), join := [], meet := [], rank := (List.replicate (Int.toNat ((a0).length : Int)) (0:Int)), all := [] } : label_Lattice)) hst z
 replace hst := hst.pull1.keep2
 obtain rfl := some_inj hm
 exact ⟨({ up := t4819, down := (List.replicate (Int.toNat ((a0).length : Int)) (0:Int)), join := [], meet := [], rank := (List.replicate (Int.toNat ((a0).length : Int)) (0:Int)), all := [] } : label_Lattice), b5298, (Pt b5340 0), _, hx5503, (fu 0 r0_0 z (fu 4 (.int .i64 ((a0).length : Int)) z (fu 5 (Pt b5298 0) z z))), hst⟩
}
}
}
 {
 refine nxe [1, 3, 5, 6, 7, 9] (by kernel_rfl) z z ?_
 clear hst
 intro w hst
 obtain ⟨b5347, w5348, ew5349, eb5350, hst⟩ := hst.box [.pointer none] 60
 refine we_run (v := Pt b5347 0) (w' := w5348) z (x_al (by kernel_rfl) ew5349 eb5350) ?_
 refine ws_next (pend' := [(4, I6 ((a0).length : Int)), (2, I6 ((a0).length : Int)), (0, r0_0)]) hst (by kernel_rfl) (pkr z z (fun w hst => z) (pkr z z (fun w hst => z) (pkr z z (fun w hst => z) pk_nil))) ?_
 refine ws_e3 1 3 5 (by kernel_rfl) ?_ ?_ ?_
 {
 refine nxe [3, 5, 6, 7, 9] (by kernel_rfl) z z ?_
 clear hst
 intro w hst
 refine wec call44 [r0_0] z z ?_
 refine (slices_Clone_uint64_uint64_ref (f0_0.mono (rd_weak _)) hst.to0 ht4820).mono ?_
 rintro _ w5352 ⟨v5355, rfl, hst⟩
 refine ⟨_, z, ?_⟩
 replace hst := hst.of1
 refine ws_next (pend' := [(4, I6 ((a0).length : Int)), (2, I6 ((a0).length : Int))]) hst (by kernel_rfl) (pkr z z (fun w hst => z) (pkr z z (fun w hst => z) pk_nil)) ?_
 refine ws_e2 3 5 (by kernel_rfl) ?_ ?_
 {
 refine nxe [5, 6, 7, 9] (by kernel_rfl) z z ?_
 clear hst
 intro w hst
 obtain ⟨v5357, w5358, hr5359, hst⟩ := run_mk (k := .i64) (k' := .i64) (zm := (0:Int)) elem_25 hst hg4821 (by decide) z
 refine we_run (v := v5357) (w' := w5358) z (x_make z z hr5359) ?_
 refine ws_next (pend' := [(4, I6 ((a0).length : Int))]) hst (by kernel_rfl) (pkr z z (fun w hst => z) pk_nil) ?_
 refine ws_e1 5 (by kernel_rfl) ?_
 refine nxe [6, 7, 9] (by kernel_rfl) z z ?_
 clear hst
 intro w hst
 obtain ⟨v5361, w5362, hr5363, hst⟩ := run_mk (k := .i64) (k' := .i64) (zm := (0:Int)) elem_46 hst hg4822 (by decide) z
 refine we_run (v := v5361) (w' := w5362) z (x_make z z hr5363) ?_
 refine ws_next (pend' := []) hst (by kernel_rfl) pk_nil ?_
 refine wsr (.agg #[v5355, v5357, Zs, Zs, v5361, Zs]) 6 rfl rfl rfl (by kernel_rfl) (fun w hst => by obtain ⟨_, _, hv_, _⟩ := hst.sv0; rw [hv_]; obtain ⟨_, _, hv_, _⟩ := hst.sv1; rw [hv_]; obtain ⟨_, _, hv_, _⟩ := hst.sv2; rw [hv_]; kernel_rfl) ?_
 refine ws_e1 7 (by kernel_rfl) ?_
 refine nxe [9] (by kernel_rfl) z z ?_
 clear hst
 intro w hst
 obtain ⟨b5371, w5372, ew5373, eb5374, hst⟩ := hst.box [v5355, v5357, Zs, Zs, v5361, Zs] 73
 refine we_run (v := Pt b5371 0) (w' := w5372) z (x_al (by kernel_rfl) ew5373 eb5374) ?_
 refine ws_next (pend' := []) hst (by kernel_rfl) pk_nil ?_
 refine ws_e1 9 (by kernel_rfl) ?_
 refine nxe [] (by kernel_rfl) z z ?_
 clear hst
 intro w hst
 replace hst := hst.pull4
 obtain ⟨w5376, hr5377, hst⟩ := hst.by_ [Pt b5371 0] 0 (Pt b5371 0) sizeOf60 z (oC z oN) (by kernel_rfl)
 refine we_unit z (x_unit hr5377) ?_
 refine ws_next (pend' := []) hst (by kernel_rfl) pk_nil ?_
 refine ws_nil ?_
 intro w hst
 refine ⟨z, ?_⟩
 replace hst := hst.own_nil (tySl (tyInt .i64))
 replace hst := hst.own_nil (tySl (tyInt .i64))
 replace hst := hst.own_nil (tyInt .i64)
 replace hst := hst.pull5.pull2.pull3.pull6.pull7.pull7
 replace hst := at_label_Lattice_close (pv := Pt b5371 0) (x := ({ up := t4819, down := (List.replicate (Int.toNat ((a0).length : Int)) (0:Int)), join := [], meet := [], rank := (List.replicate (Int.toNat ((a0).length : Int)) (0:Int)), all := [] } : label_Lattice)) hst z
 replace hst := hst.pull1.keep2
 obtain rfl := some_inj hm
 exact ⟨({ up := t4819, down := (List.replicate (Int.toNat ((a0).length : Int)) (0:Int)), join := [], meet := [], rank := (List.replicate (Int.toNat ((a0).length : Int)) (0:Int)), all := [] } : label_Lattice), b5347, (Pt b5371 0), _, hx5503, (fu 0 r0_0 z (fu 4 (.int .i64 ((a0).length : Int)) z (fu 5 (Pt b5347 0) z z))), hst⟩
}
 {
 refine nxe [3, 6, 7, 9] (by kernel_rfl) z z ?_
 clear hst
 intro w hst
 obtain ⟨v5378, w5379, hr5380, hst⟩ := run_mk (k := .i64) (k' := .i64) (zm := (0:Int)) elem_46 hst hg4822 (by decide) z
 refine we_run (v := v5378) (w' := w5379) z (x_make z z hr5380) ?_
 refine ws_next (pend' := [(2, I6 ((a0).length : Int))]) hst (by kernel_rfl) (pkr z z (fun w hst => z) pk_nil) ?_
 refine ws_e1 3 (by kernel_rfl) ?_
 refine nxe [6, 7, 9] (by kernel_rfl) z z ?_
 clear hst
 intro w hst
 obtain ⟨v5382, w5383, hr5384, hst⟩ := run_mk (k := .i64) (k' := .i64) (zm := (0:Int)) elem_25 hst hg4821 (by decide) z
 refine we_run (v := v5382) (w' := w5383) z (x_make z z hr5384) ?_
 refine ws_next (pend' := []) hst (by kernel_rfl) pk_nil ?_
 refine wsr (.agg #[v5355, v5382, Zs, Zs, v5378, Zs]) 6 rfl rfl rfl (by kernel_rfl) (fun w hst => by obtain ⟨_, _, hv_, _⟩ := hst.sv1; rw [hv_]; obtain ⟨_, _, hv_, _⟩ := hst.sv0; rw [hv_]; obtain ⟨_, _, hv_, _⟩ := hst.sv2; rw [hv_]; kernel_rfl) ?_
 refine ws_e1 7 (by kernel_rfl) ?_
 refine nxe [9] (by kernel_rfl) z z ?_
 clear hst
 intro w hst
 obtain ⟨b5392, w5393, ew5394, eb5395, hst⟩ := hst.box [v5355, v5382, Zs, Zs, v5378, Zs] 73
 refine we_run (v := Pt b5392 0) (w' := w5393) z (x_al (by kernel_rfl) ew5394 eb5395) ?_
 refine ws_next (pend' := []) hst (by kernel_rfl) pk_nil ?_
 refine ws_e1 9 (by kernel_rfl) ?_
 refine nxe [] (by kernel_rfl) z z ?_
 clear hst
 intro w hst
 replace hst := hst.pull4
 obtain ⟨w5397, hr5398, hst⟩ := hst.by_ [Pt b5392 0] 0 (Pt b5392 0) sizeOf60 z (oC z oN) (by kernel_rfl)
 refine we_unit z (x_unit hr5398) ?_
 refine ws_next (pend' := []) hst (by kernel_rfl) pk_nil ?_
 refine ws_nil ?_
 intro w hst
 refine ⟨z, ?_⟩
 replace hst := hst.own_nil (tySl (tyInt .i64))
 replace hst := hst.own_nil (tySl (tyInt .i64))
 replace hst := hst.own_nil (tyInt .i64)
 replace hst := hst.pull6.pull2.pull3.pull6.pull7.pull7
 replace hst := at_label_Lattice_close (pv := Pt b5392 0) (x := ({ up := t4819, down := (List.replicate (Int.toNat ((a0).length : Int)) (0:Int)), join := [], meet := [], rank := (List.replicate (Int.toNat ((a0).length : Int)) (0:Int)), all := [] } : label_Lattice)) hst z
 replace hst := hst.pull1.keep2
 obtain rfl := some_inj hm
 exact ⟨({ up := t4819, down := (List.replicate (Int.toNat ((a0).length : Int)) (0:Int)), join := [], meet := [], rank := (List.replicate (Int.toNat ((a0).length : Int)) (0:Int)), all := [] } : label_Lattice), b5347, (Pt b5392 0), _, hx5503, (fu 0 r0_0 z (fu 4 (.int .i64 ((a0).length : Int)) z (fu 5 (Pt b5347 0) z z))), hst⟩
}
}
 {
 refine nxe [1, 5, 6, 7, 9] (by kernel_rfl) z z ?_
 clear hst
 intro w hst
 obtain ⟨v5399, w5400, hr5401, hst⟩ := run_mk (k := .i64) (k' := .i64) (zm := (0:Int)) elem_25 hst hg4821 (by decide) z
 refine we_run (v := v5399) (w' := w5400) z (x_make z z hr5401) ?_
 refine ws_next (pend' := [(4, I6 ((a0).length : Int)), (0, r0_0)]) hst (by kernel_rfl) (pkr z z (fun w hst => z) (pkr z z (fun w hst => z) pk_nil)) ?_
 refine ws_e2 1 5 (by kernel_rfl) ?_ ?_
 {
 refine nxe [5, 6, 7, 9] (by kernel_rfl) z z ?_
 clear hst
 intro w hst
 refine wec call44 [r0_0] z z ?_
 refine (slices_Clone_uint64_uint64_ref (f0_0.mono (rd_weak _)) hst.to0 ht4820).mono ?_
 rintro _ w5403 ⟨v5406, rfl, hst⟩
 refine ⟨_, z, ?_⟩
 replace hst := hst.of1
 refine ws_next (pend' := [(4, I6 ((a0).length : Int))]) hst (by kernel_rfl) (pkr z z (fun w hst => z) pk_nil) ?_
 refine ws_e1 5 (by kernel_rfl) ?_
 refine nxe [6, 7, 9] (by kernel_rfl) z z ?_
 clear hst
 intro w hst
 obtain ⟨v5408, w5409, hr5410, hst⟩ := run_mk (k := .i64) (k' := .i64) (zm := (0:Int)) elem_46 hst hg4822 (by decide) z
 refine we_run (v := v5408) (w' := w5409) z (x_make z z hr5410) ?_
 refine ws_next (pend' := []) hst (by kernel_rfl) pk_nil ?_
 refine wsr (.agg #[v5406, v5399, Zs, Zs, v5408, Zs]) 6 rfl rfl rfl (by kernel_rfl) (fun w hst => by obtain ⟨_, _, hv_, _⟩ := hst.sv0; rw [hv_]; obtain ⟨_, _, hv_, _⟩ := hst.sv2; rw [hv_]; obtain ⟨_, _, hv_, _⟩ := hst.sv1; rw [hv_]; kernel_rfl) ?_
 refine ws_e1 7 (by kernel_rfl) ?_
 refine nxe [9] (by kernel_rfl) z z ?_
 clear hst
 intro w hst
 obtain ⟨b5418, w5419, ew5420, eb5421, hst⟩ := hst.box [v5406, v5399, Zs, Zs, v5408, Zs] 73
 refine we_run (v := Pt b5418 0) (w' := w5419) z (x_al (by kernel_rfl) ew5420 eb5421) ?_
 refine ws_next (pend' := []) hst (by kernel_rfl) pk_nil ?_
 refine ws_e1 9 (by kernel_rfl) ?_
 refine nxe [] (by kernel_rfl) z z ?_
 clear hst
 intro w hst
 replace hst := hst.pull4
 obtain ⟨w5423, hr5424, hst⟩ := hst.by_ [Pt b5418 0] 0 (Pt b5418 0) sizeOf60 z (oC z oN) (by kernel_rfl)
 refine we_unit z (x_unit hr5424) ?_
 refine ws_next (pend' := []) hst (by kernel_rfl) pk_nil ?_
 refine ws_nil ?_
 intro w hst
 refine ⟨z, ?_⟩
 replace hst := hst.own_nil (tySl (tyInt .i64))
 replace hst := hst.own_nil (tySl (tyInt .i64))
 replace hst := hst.own_nil (tyInt .i64)
 replace hst := hst.pull5.pull2.pull3.pull7.pull7.pull7
 replace hst := at_label_Lattice_close (pv := Pt b5418 0) (x := ({ up := t4819, down := (List.replicate (Int.toNat ((a0).length : Int)) (0:Int)), join := [], meet := [], rank := (List.replicate (Int.toNat ((a0).length : Int)) (0:Int)), all := [] } : label_Lattice)) hst z
 replace hst := hst.pull1.keep2
 obtain rfl := some_inj hm
 exact ⟨({ up := t4819, down := (List.replicate (Int.toNat ((a0).length : Int)) (0:Int)), join := [], meet := [], rank := (List.replicate (Int.toNat ((a0).length : Int)) (0:Int)), all := [] } : label_Lattice), b5347, (Pt b5418 0), _, hx5503, (fu 0 r0_0 z (fu 4 (.int .i64 ((a0).length : Int)) z (fu 5 (Pt b5347 0) z z))), hst⟩
}
 {
 refine nxe [1, 6, 7, 9] (by kernel_rfl) z z ?_
 clear hst
 intro w hst
 obtain ⟨v5425, w5426, hr5427, hst⟩ := run_mk (k := .i64) (k' := .i64) (zm := (0:Int)) elem_46 hst hg4822 (by decide) z
 refine we_run (v := v5425) (w' := w5426) z (x_make z z hr5427) ?_
 refine ws_next (pend' := [(0, r0_0)]) hst (by kernel_rfl) (pkr z z (fun w hst => z) pk_nil) ?_
 refine ws_e1 1 (by kernel_rfl) ?_
 refine nxe [6, 7, 9] (by kernel_rfl) z z ?_
 clear hst
 intro w hst
 refine wec call44 [r0_0] z z ?_
 refine (slices_Clone_uint64_uint64_ref (f0_0.mono (rd_weak _)) hst.to0 ht4820).mono ?_
 rintro _ w5429 ⟨v5432, rfl, hst⟩
 refine ⟨_, z, ?_⟩
 replace hst := hst.of1
 refine ws_next (pend' := []) hst (by kernel_rfl) pk_nil ?_
 refine wsr (.agg #[v5432, v5399, Zs, Zs, v5425, Zs]) 6 rfl rfl rfl (by kernel_rfl) (fun w hst => by obtain ⟨_, _, hv_, _⟩ := hst.sv1; rw [hv_]; obtain ⟨_, _, hv_, _⟩ := hst.sv2; rw [hv_]; obtain ⟨_, _, hv_, _⟩ := hst.sv0; rw [hv_]; kernel_rfl) ?_
 refine ws_e1 7 (by kernel_rfl) ?_
 refine nxe [9] (by kernel_rfl) z z ?_
 clear hst
 intro w hst
 obtain ⟨b5440, w5441, ew5442, eb5443, hst⟩ := hst.box [v5432, v5399, Zs, Zs, v5425, Zs] 73
 refine we_run (v := Pt b5440 0) (w' := w5441) z (x_al (by kernel_rfl) ew5442 eb5443) ?_
 refine ws_next (pend' := []) hst (by kernel_rfl) pk_nil ?_
 refine ws_e1 9 (by kernel_rfl) ?_
 refine nxe [] (by kernel_rfl) z z ?_
 clear hst
 intro w hst
 replace hst := hst.pull4
 obtain ⟨w5445, hr5446, hst⟩ := hst.by_ [Pt b5440 0] 0 (Pt b5440 0) sizeOf60 z (oC z oN) (by kernel_rfl)
 refine we_unit z (x_unit hr5446) ?_
 refine ws_next (pend' := []) hst (by kernel_rfl) pk_nil ?_
 refine ws_nil ?_
 intro w hst
 refine ⟨z, ?_⟩
 replace hst := hst.own_nil (tySl (tyInt .i64))
 replace hst := hst.own_nil (tySl (tyInt .i64))
 replace hst := hst.own_nil (tyInt .i64)
 replace hst := hst.pull6.pull2.pull3.pull7.pull7.pull7
 replace hst := at_label_Lattice_close (pv := Pt b5440 0) (x := ({ up := t4819, down := (List.replicate (Int.toNat ((a0).length : Int)) (0:Int)), join := [], meet := [], rank := (List.replicate (Int.toNat ((a0).length : Int)) (0:Int)), all := [] } : label_Lattice)) hst z
 replace hst := hst.pull1.keep2
 obtain rfl := some_inj hm
 exact ⟨({ up := t4819, down := (List.replicate (Int.toNat ((a0).length : Int)) (0:Int)), join := [], meet := [], rank := (List.replicate (Int.toNat ((a0).length : Int)) (0:Int)), all := [] } : label_Lattice), b5347, (Pt b5440 0), _, hx5503, (fu 0 r0_0 z (fu 4 (.int .i64 ((a0).length : Int)) z (fu 5 (Pt b5347 0) z z))), hst⟩
}
}
 {
 refine nxe [1, 3, 6, 7, 9] (by kernel_rfl) z z ?_
 clear hst
 intro w hst
 obtain ⟨v5447, w5448, hr5449, hst⟩ := run_mk (k := .i64) (k' := .i64) (zm := (0:Int)) elem_46 hst hg4822 (by decide) z
 refine we_run (v := v5447) (w' := w5448) z (x_make z z hr5449) ?_
 refine ws_next (pend' := [(2, I6 ((a0).length : Int)), (0, r0_0)]) hst (by kernel_rfl) (pkr z z (fun w hst => z) (pkr z z (fun w hst => z) pk_nil)) ?_
 refine ws_e2 1 3 (by kernel_rfl) ?_ ?_
 {
 refine nxe [3, 6, 7, 9] (by kernel_rfl) z z ?_
 clear hst
 intro w hst
 refine wec call44 [r0_0] z z ?_
 refine (slices_Clone_uint64_uint64_ref (f0_0.mono (rd_weak _)) hst.to0 ht4820).mono ?_
 rintro _ w5451 ⟨v5454, rfl, hst⟩
 refine ⟨_, z, ?_⟩
 replace hst := hst.of1
 refine ws_next (pend' := [(2, I6 ((a0).length : Int))]) hst (by kernel_rfl) (pkr z z (fun w hst => z) pk_nil) ?_
 refine ws_e1 3 (by kernel_rfl) ?_
 refine nxe [6, 7, 9] (by kernel_rfl) z z ?_
 clear hst
 intro w hst
 obtain ⟨v5456, w5457, hr5458, hst⟩ := run_mk (k := .i64) (k' := .i64) (zm := (0:Int)) elem_25 hst hg4821 (by decide) z
 refine we_run (v := v5456) (w' := w5457) z (x_make z z hr5458) ?_
 refine ws_next (pend' := []) hst (by kernel_rfl) pk_nil ?_
 refine wsr (.agg #[v5454, v5456, Zs, Zs, v5447, Zs]) 6 rfl rfl rfl (by kernel_rfl) (fun w hst => by obtain ⟨_, _, hv_, _⟩ := hst.sv2; rw [hv_]; obtain ⟨_, _, hv_, _⟩ := hst.sv0; rw [hv_]; obtain ⟨_, _, hv_, _⟩ := hst.sv1; rw [hv_]; kernel_rfl) ?_
 refine ws_e1 7 (by kernel_rfl) ?_
 refine nxe [9] (by kernel_rfl) z z ?_
 clear hst
 intro w hst
 obtain ⟨b5466, w5467, ew5468, eb5469, hst⟩ := hst.box [v5454, v5456, Zs, Zs, v5447, Zs] 73
 refine we_run (v := Pt b5466 0) (w' := w5467) z (x_al (by kernel_rfl) ew5468 eb5469) ?_
 refine ws_next (pend' := []) hst (by kernel_rfl) pk_nil ?_
 refine ws_e1 9 (by kernel_rfl) ?_
 refine nxe [] (by kernel_rfl) z z ?_
 clear hst
 intro w hst
 replace hst := hst.pull4
 obtain ⟨w5471, hr5472, hst⟩ := hst.by_ [Pt b5466 0] 0 (Pt b5466 0) sizeOf60 z (oC z oN) (by kernel_rfl)
 refine we_unit z (x_unit hr5472) ?_
 refine ws_next (pend' := []) hst (by kernel_rfl) pk_nil ?_
 refine ws_nil ?_
 intro w hst
 refine ⟨z, ?_⟩
 replace hst := hst.own_nil (tySl (tyInt .i64))
 replace hst := hst.own_nil (tySl (tyInt .i64))
 replace hst := hst.own_nil (tyInt .i64)
 replace hst := hst.pull7.pull2.pull3.pull6.pull7.pull7
 replace hst := at_label_Lattice_close (pv := Pt b5466 0) (x := ({ up := t4819, down := (List.replicate (Int.toNat ((a0).length : Int)) (0:Int)), join := [], meet := [], rank := (List.replicate (Int.toNat ((a0).length : Int)) (0:Int)), all := [] } : label_Lattice)) hst z
 replace hst := hst.pull1.keep2
 obtain rfl := some_inj hm
 exact ⟨({ up := t4819, down := (List.replicate (Int.toNat ((a0).length : Int)) (0:Int)), join := [], meet := [], rank := (List.replicate (Int.toNat ((a0).length : Int)) (0:Int)), all := [] } : label_Lattice), b5347, (Pt b5466 0), _, hx5503, (fu 0 r0_0 z (fu 4 (.int .i64 ((a0).length : Int)) z (fu 5 (Pt b5347 0) z z))), hst⟩
}
 {
 refine nxe [1, 6, 7, 9] (by kernel_rfl) z z ?_
 clear hst
 intro w hst
 obtain ⟨v5473, w5474, hr5475, hst⟩ := run_mk (k := .i64) (k' := .i64) (zm := (0:Int)) elem_25 hst hg4821 (by decide) z
 refine we_run (v := v5473) (w' := w5474) z (x_make z z hr5475) ?_
 refine ws_next (pend' := [(0, r0_0)]) hst (by kernel_rfl) (pkr z z (fun w hst => z) pk_nil) ?_
 refine ws_e1 1 (by kernel_rfl) ?_
 refine nxe [6, 7, 9] (by kernel_rfl) z z ?_
 clear hst
 intro w hst
 refine wec call44 [r0_0] z z ?_
 refine (slices_Clone_uint64_uint64_ref (f0_0.mono (rd_weak _)) hst.to0 ht4820).mono ?_
 rintro _ w5477 ⟨v5480, rfl, hst⟩
 refine ⟨_, z, ?_⟩
 replace hst := hst.of1
 refine ws_next (pend' := []) hst (by kernel_rfl) pk_nil ?_
 refine wsr (.agg #[v5480, v5473, Zs, Zs, v5447, Zs]) 6 rfl rfl rfl (by kernel_rfl) (fun w hst => by obtain ⟨_, _, hv_, _⟩ := hst.sv2; rw [hv_]; obtain ⟨_, _, hv_, _⟩ := hst.sv1; rw [hv_]; obtain ⟨_, _, hv_, _⟩ := hst.sv0; rw [hv_]; kernel_rfl) ?_
 refine ws_e1 7 (by kernel_rfl) ?_
 refine nxe [9] (by kernel_rfl) z z ?_
 clear hst
 intro w hst
 obtain ⟨b5488, w5489, ew5490, eb5491, hst⟩ := hst.box [v5480, v5473, Zs, Zs, v5447, Zs] 73
 refine we_run (v := Pt b5488 0) (w' := w5489) z (x_al (by kernel_rfl) ew5490 eb5491) ?_
 refine ws_next (pend' := []) hst (by kernel_rfl) pk_nil ?_
 refine ws_e1 9 (by kernel_rfl) ?_
 refine nxe [] (by kernel_rfl) z z ?_
 clear hst
 intro w hst
 replace hst := hst.pull4
 obtain ⟨w5493, hr5494, hst⟩ := hst.by_ [Pt b5488 0] 0 (Pt b5488 0) sizeOf60 z (oC z oN) (by kernel_rfl)
 refine we_unit z (x_unit hr5494) ?_
 refine ws_next (pend' := []) hst (by kernel_rfl) pk_nil ?_
 refine ws_nil ?_
 intro w hst
 refine ⟨z, ?_⟩
 replace hst := hst.own_nil (tySl (tyInt .i64))
 replace hst := hst.own_nil (tySl (tyInt .i64))
 replace hst := hst.own_nil (tyInt .i64)
 replace hst := hst.pull7.pull2.pull3.pull7.pull7.pull7
 replace hst := at_label_Lattice_close (pv := Pt b5488 0) (x := ({ up := t4819, down := (List.replicate (Int.toNat ((a0).length : Int)) (0:Int)), join := [], meet := [], rank := (List.replicate (Int.toNat ((a0).length : Int)) (0:Int)), all := [] } : label_Lattice)) hst z
 replace hst := hst.pull1.keep2
 obtain rfl := some_inj hm
 exact ⟨({ up := t4819, down := (List.replicate (Int.toNat ((a0).length : Int)) (0:Int)), join := [], meet := [], rank := (List.replicate (Int.toNat ((a0).length : Int)) (0:Int)), all := [] } : label_Lattice), b5347, (Pt b5488 0), _, hx5503, (fu 0 r0_0 z (fu 4 (.int .i64 ((a0).length : Int)) z (fu 5 (Pt b5347 0) z z))), hst⟩
}
}
}
}
 {
 clear hst
 rintro _ w5504 ⟨z5499, b5496, v5498, σ5500, hm, rfl, hst⟩
 dsimp only [label_New_j0] at hm
 refine tn (wp_seq (wp_seq (wrl (wv (v5498) z z (x_load z isAgg60 (hst.bc0 z)) ?_))))
 replace hst := hst.pull1
 replace hst := objO_some hst
 obtain ⟨t5505, ht5506, hm⟩ := bind_some hm
 refine wc call45 [v5498] z z z ?_
 refine (label_Lattice_orders_ref hst.to1 ht5506).mono ?_
 rintro _ w5507 ⟨rfl, hst⟩
 refine ⟨_, z, ?_⟩
 replace hst := hst.of1
 replace hst := objO_get hst
 refine wv (.bool (!t5505)) z z z (wl_nil (tn ?_))
 refine bsplit (!t5505) (fun hc5510 => ?_) (fun hc5510 => ?_)
 {
 replace hm := bif_t hc5510 hm
 refine wp_ift (cvb hc5510) ?_
 refine wp_seq (wrl (wv (.pointer none) z z z (wv (.int .i64 (15:Int)) z z z (wl_nil (tn (wp_ret (then_r ?_)))))))
 replace hst := hst.objO_nil at_label_Lattice
 obtain rfl := some_inj hm
 refine post_ret (vs := [.pointer none, I6 (15:Int)]) results34 (rvs_cons (rv_tmp z) (rvs_cons (rv_tmp z) rvs_nil)) ?_
 exact ⟨_, .pointer none, z, hI0, hst.keep1⟩
}
 {
 replace hm := bif_f hc5510 hm
 refine wp_iff (cvb hc5510) ?_
 refine wp_skip (tn ?_)
 obtain ⟨y5808, hm, hx5809⟩ := bind_some hm
 refine wp_cut (fun a w => ∃ (z5805 : label_Lattice) (σ5806 : Nat → Value), (label_New_j1 a0) z5805 = some r ∧ a = Fr 192 (upd (upd σ5806 4 (.int .i64 ((a0).length : Int))) 5 (Pt b5496 0)) ∧ St w0 w I [cells b5496 [v5498], at_label_Lattice v5498 z5805] R) ?_ ?_
 {
 refine wp_seq (wrl (wv (r0_0) z z z (wv (.int .i64 ((a0).length : Int)) z z (x_len z underlying25 (rd_sliceV f0_0)) (wv (.int .i64 (0:Int)) z z z (wl_nil (tn (wp_block ?_)))))))
 obtain ⟨n5703, hm⟩ := loopO_some hm
 refine wp_loop_n (fun n a w => ∃ (z5700 : label_Lattice) (z5701 : Int) (σ5702 : Nat → Value), loopN (label_New_l2 a0) n (z5700, z5701) = some y5808 ∧ a = Fr 192 (upd (upd (upd (upd (upd σ5702 4 (.int .i64 ((a0).length : Int))) 5 (Pt b5496 0)) 38 (r0_0)) 39 (.int .i64 ((a0).length : Int))) 40 (.int .i64 z5701)) ∧ St w0 w I [at_label_Lattice v5498 z5700, cells b5496 [v5498]] R) n5703 ⟨z5499, (0:Int), _, hm, (fu 4 (.int .i64 ((a0).length : Int)) z (fu 5 (Pt b5496 0) z (fu 38 r0_0 z (fu 39 (.int .i64 ((a0).length : Int)) z (fu 40 (.int .i64 (0:Int)) z z))))), hst⟩ ?_
 rintro n5709 _ w5704 ⟨z5700, z5701, σ5702, hm, rfl, hst⟩
 obtain ⟨n5706, y5707, rfl, hm, hx5708⟩ := loopN_some hm
 dsimp only [label_New_l2] at hm
 refine wp_seq (wrl (wv (.bool (decide (z5701 < ((a0).length : Int)))) z z z (wl_nil (tn (wp_seq ?_)))))
 refine bsplit (decide (z5701 < ((a0).length : Int))) (fun hc5710 => ?_) (fun hc5710 => ?_)
 {
 replace hm := bif_t hc5710 hm
 refine wp_ift (cvb hc5710) ?_
 refine wp_skip (tn (wp_seq (wp_block (wp_seq (wrl ?_)))))
 refine wv (.int .i64 z5701) z z z ?_
 obtain ⟨x5711, hx5712, hm⟩ := bind_some hm
 obtain ⟨h5713, h5714, hi5715⟩ := geto_some hx5712
 refine wv (.pointer (some (eAddr r0_0 (z5701.toNat * 1 + 0)))) z z (x_index z z underlying25 sizeOf22 (rd_sliceV f0_0) h5713 h5714) (wv (.int .u64 x5711) z z (x_load z isAgg22 (rd_load f0_0 (HL.le.refl _) hst hi5715 (by rintro _ rfl; rfl))) (wv (.int .i64 z5701) z z z (wv (.int .u64 x5711) z z z (wl_nil (tn (wp_seq (wrl (wv (.int .i64 ((a0).length : Int)) z z z (wv (.int .i64 (0:Int)) z z z (wl_nil (tn (wp_block ?_))))))))))))
 obtain ⟨n5772, hm⟩ := loopO_some hm
 refine wp_loop_n (fun n a w => ∃ (z5769 : label_Lattice) (z5770 : Int) (σ5771 : Nat → Value), loopN (label_New_l3 a0 x5711 z5701) n (z5769, z5770) = some y5707 ∧ a = Fr 192 (upd (upd (upd (upd (upd (upd (upd (upd (upd σ5771 4 (.int .i64 ((a0).length : Int))) 5 (Pt b5496 0)) 6 (.int .i64 z5701)) 7 (.int .u64 x5711)) 38 (r0_0)) 39 (.int .i64 ((a0).length : Int))) 40 (.int .i64 z5701)) 45 (.int .i64 ((a0).length : Int))) 46 (.int .i64 z5770)) ∧ St w0 w I [at_label_Lattice v5498 z5769, cells b5496 [v5498]] R) n5772 ⟨z5700, (0:Int), _, hm, (fu 4 (.int .i64 ((a0).length : Int)) z (fu 5 (Pt b5496 0) z (fu 6 (.int .i64 z5701) z (fu 7 (.int .u64 x5711) z (fu 38 r0_0 z (fu 39 (.int .i64 ((a0).length : Int)) z (fu 40 (.int .i64 z5701) z (fu 45 (.int .i64 ((a0).length : Int)) z (fu 46 (.int .i64 (0:Int)) z z))))))))), hst⟩ ?_
 rintro n5778 _ w5773 ⟨z5769, z5770, σ5771, hm, rfl, hst⟩
 obtain ⟨n5775, y5776, rfl, hm, hx5777⟩ := loopN_some hm
 dsimp only [label_New_l3] at hm
 refine wp_seq (wrl (wv (.bool (decide (z5770 < ((a0).length : Int)))) z z z (wl_nil (tn (wp_seq ?_)))))
 refine bsplit (decide (z5770 < ((a0).length : Int))) (fun hc5779 => ?_) (fun hc5779 => ?_)
 {
 replace hm := bif_t hc5779 hm
 refine wp_ift (cvb hc5779) ?_
 refine wp_skip (tn (wp_seq (wp_block (wp_seq (wrl ?_)))))
 refine wv (.int .i64 z5770) z z z (wv (.int .i64 z5770) z z z (wl_nil (tn (wp_seq (wrl (wv (.int .u64 x5711) z z z (wv (.int .i64 z5770) z z z ?_)))))))
 obtain ⟨hg5780, hm⟩ := gd_some hm
 refine wv (.int .u64 (iShr .u64 x5711 z5770)) z z (x_shr (of_decide_eq_true hg5780) z z) (wv (.int .u64 (bAnd .u64 (iShr .u64 x5711 z5770) (1:Int))) z z z (wv (.bool ((bAnd .u64 (iShr .u64 x5711 z5770) (1:Int)) == (1:Int))) z z z (wl_nil (tn ?_))))
 refine bsplit ((bAnd .u64 (iShr .u64 x5711 z5770) (1:Int)) == (1:Int)) (fun hc5781 => ?_) (fun hc5781 => ?_)
 {
 replace hm := bif_t hc5781 hm
 refine wp_ift (cvb hc5781) ?_
 obtain ⟨b5782, v5783, v5785, v5787, v5789, v5791, v5793, rfl, hst'⟩ := at_label_Lattice_open hst
 clear hst
 have hst := hst'
 clear hst'
 refine wp_region_St hst 12 [0, 1, 2, 3, 4, 5, 6, 7, 8, 9, 10, 11] [0, 1, 3, 7, 0, 31, 63, 0, 128, 511, 1023, 2047] [] z (by kernel_rfl) (by kernel_rfl) Try.mixed (by kernel_rfl) ?_
 refine wsr (Pt b5782 0) 0 z z z (by kernel_rfl) (fun w hst => x_load z isAgg60 (hst.bc7 z)) (wsr (Pt b5782 0) 1 z z z (by kernel_rfl) (fun w hst => z) (wsr (Pt b5782 1) 2 z z z (by kernel_rfl) (fun w hst => x_field z underlying73 z sizeOf25 z) (wsr (v5785) 3 z z z (by kernel_rfl) (fun w hst => x_load z isAgg25 (hst.bc0 z)) (wsr (.int .i64 z5770) 4 z z z (by kernel_rfl) (fun w hst => z) ?_))))
 obtain ⟨x5795, hx5796, hm⟩ := bind_some hm
 obtain ⟨h5797, h5798, hi5799⟩ := geto_some hx5796
 refine wsr (.pointer (some (eAddr v5785 (z5770.toNat * 1 + 0)))) 5 z z z (by kernel_rfl) (fun w hst => x_index z z underlying25 sizeOf22 hst.sv2 h5797 h5798) (wsr (.int .u64 x5795) 6 z z z (by kernel_rfl) (fun w hst => x_load z isAgg22 (hst.ol2 hi5799 (by rintro _ rfl; rfl))) (wsr (.int .i64 z5701) 7 z z z (by kernel_rfl) (fun w hst => z) ?_))
 obtain ⟨hg5800, hm⟩ := gd_some hm
 refine wsr (.int .u64 (iShl .u64 (1:Int) z5701)) 8 z z z (by kernel_rfl) (fun w hst => x_shl (of_decide_eq_true hg5800) z z) (wsr (.int .u64 (bOr .u64 x5795 (iShl .u64 (1:Int) z5701))) 9 z z z (by kernel_rfl) (fun w hst => z) (wsr (.pointer (some (eAddr v5785 (z5770.toNat * 1 + 0)))) 10 z z z (by kernel_rfl) (fun w hst => x_index z z underlying25 sizeOf22 hst.sv2 h5797 h5798) ?_))
 refine ws_e1 11 (by kernel_rfl) ?_
 refine nxe [] (by kernel_rfl) z z ?_
 clear hst
 intro w hst
 replace hst := hst.pull2
 obtain ⟨w5801, hr5802, hst⟩ := hst.own_store (P := prog) (t := 22) (y := (bOr .u64 x5795 (iShl .u64 (1:Int) z5701))) hi5799 0 (.int .u64 (bOr .u64 x5795 (iShl .u64 (1:Int) z5701))) sizeOf22 (Nat.le_of_ble_eq_true z) (oC z oN) (by rintro _ rfl; rfl)
 have hi5803 := set_get hi5799 (bOr .u64 x5795 (iShl .u64 (1:Int) z5701))
 have h5804 := set_lt h5798 z5770.toNat (bOr .u64 x5795 (iShl .u64 (1:Int) z5701))
 refine we_unit z (x_unit hr5802) ?_
 refine ws_next (pend' := []) hst (by kernel_rfl) pk_nil ?_
 refine ws_nil ?_
 intro w hst
 refine blk_n (tn (wrl ?_))
 refine wv (.int .i64 (i64.wrap (z5770 + (1:Int)))) z z z (wv (.int .i64 (i64.wrap (z5770 + (1:Int)))) z z z (wl_nil (tn ?_)))
 replace hst := hst.pull6.pull6.pull6.pull6.pull4.pull6.pull6
 replace hst := at_label_Lattice_close (pv := Pt b5782 0) (x := ({ up := z5769.up, down := (z5769.down.set z5770.toNat (bOr .u64 x5795 (iShl .u64 (1:Int) z5701))), join := z5769.join, meet := z5769.meet, rank := z5769.rank, all := z5769.all } : label_Lattice)) hst z
 replace hst := hst.pull1.pull1.keep2
 obtain rfl := some_inj hm
 exact ⟨_, Nat.lt_succ_self _, ({ up := z5769.up, down := (z5769.down.set z5770.toNat (bOr .u64 x5795 (iShl .u64 (1:Int) z5701))), join := z5769.join, meet := z5769.meet, rank := z5769.rank, all := z5769.all } : label_Lattice), (i64.wrap (z5770 + (1:Int))), _, hx5777, (fu 4 (.int .i64 ((a0).length : Int)) z (fu 5 (Pt b5496 0) z (fu 6 (.int .i64 z5701) z (fu 7 (.int .u64 x5711) z (fu 38 r0_0 z (fu 39 (.int .i64 ((a0).length : Int)) z (fu 40 (.int .i64 z5701) z (fu 45 (.int .i64 ((a0).length : Int)) z (fu 46 (.int .i64 (i64.wrap (z5770 + (1:Int)))) z z))))))))), hst⟩
}
 {
 replace hm := bif_f hc5781 hm
 refine wp_iff (cvb hc5781) ?_
 refine wp_skip (blk_n (tn (wrl ?_)))
 refine wv (.int .i64 (i64.wrap (z5770 + (1:Int)))) z z z (wv (.int .i64 (i64.wrap (z5770 + (1:Int)))) z z z (wl_nil (tn ?_)))
 replace hst := hst.pull1.pull1.keep2
 obtain rfl := some_inj hm
 exact ⟨_, Nat.lt_succ_self _, z5769, (i64.wrap (z5770 + (1:Int))), _, hx5777, (fu 4 (.int .i64 ((a0).length : Int)) z (fu 5 (Pt b5496 0) z (fu 6 (.int .i64 z5701) z (fu 7 (.int .u64 x5711) z (fu 38 r0_0 z (fu 39 (.int .i64 ((a0).length : Int)) z (fu 40 (.int .i64 z5701) z (fu 45 (.int .i64 ((a0).length : Int)) z (fu 46 (.int .i64 (i64.wrap (z5770 + (1:Int)))) z z))))))))), hst⟩
}
}
 {
 replace hm := bif_f hc5779 hm
 refine wp_iff (cvb hc5779) ?_
 refine wp_exit (then_x (then_x ?_))
 replace hm := inr_up hm hx5777
 refine blk_x (blk_n (tn (wrl ?_)))
 refine wv (.int .i64 (i64.wrap (z5701 + (1:Int)))) z z z (wv (.int .i64 (i64.wrap (z5701 + (1:Int)))) z z z (wl_nil (tn ?_)))
 replace hst := hst.pull1.pull1.keep2
 obtain rfl := some_inj hm
 exact ⟨_, Nat.lt_succ_self _, z5769, (i64.wrap (z5701 + (1:Int))), _, hx5708, (fu 4 (.int .i64 ((a0).length : Int)) z (fu 5 (Pt b5496 0) z (fu 38 r0_0 z (fu 39 (.int .i64 ((a0).length : Int)) z (fu 40 (.int .i64 (i64.wrap (z5701 + (1:Int)))) z z))))), hst⟩
}
}
 {
 replace hm := bif_f hc5710 hm
 refine wp_iff (cvb hc5710) ?_
 refine wp_exit (then_x (then_x ?_))
 replace hm := inr_up hm hx5708
 refine blk_x (tn ?_)
 replace hst := hst.pull1.keep2
 obtain rfl := some_inj hm
 exact ⟨z5700, _, hx5809, (fu 4 (.int .i64 ((a0).length : Int)) z (fu 5 (Pt b5496 0) z z)), hst⟩
}
}
 {
 clear hst
 rintro _ w5810 ⟨z5805, σ5806, hm, rfl, hst⟩
 dsimp only [label_New_j1] at hm
 obtain ⟨y7153, hm, hx7154⟩ := joinO_some hm
 refine wp_cut (fun a w => ∃ (I7150 : HL) (z7149 : label_Lattice) (σ7151 : Nat → Value), (label_New_j4) z7149 = some r ∧ a = Fr 192 (upd σ7151 5 (Pt b5496 0)) ∧ I.le I7150 ∧ St w0 w I7150 [cells b5496 [v5498], at_label_Lattice v5498 z7149] R) ?_ ?_
 {
 have hL7155 := HL.le.refl I
 refine wp_seq (wrl (wv (.int .i64 ((a0).length : Int)) z z z (wv (.int .i64 (0:Int)) z z z (wl_nil (tn (wp_block ?_))))))
 obtain ⟨n6693, hm⟩ := loopO_some hm
 refine wp_loop_n (fun n a w => ∃ (I6691 : HL) (z6689 : label_Lattice) (z6690 : Int) (σ6692 : Nat → Value), loopN (label_New_l5 a0) n (z6689, z6690) = some y7153 ∧ a = Fr 192 (upd (upd (upd (upd σ6692 4 (.int .i64 ((a0).length : Int))) 5 (Pt b5496 0)) 67 (.int .i64 ((a0).length : Int))) 68 (.int .i64 z6690)) ∧ I.le I6691 ∧ St w0 w I6691 [cells b5496 [v5498], at_label_Lattice v5498 z6689] R) n6693 ⟨_, z5805, (0:Int), _, hm, (fu 4 (.int .i64 ((a0).length : Int)) z (fu 5 (Pt b5496 0) z (fu 67 (.int .i64 ((a0).length : Int)) z (fu 68 (.int .i64 (0:Int)) z z)))), (HL.le.refl _), hst⟩ ?_
 rintro n6699 _ w6694 ⟨I6691, z6689, z6690, σ6692, hm, rfl, hL6695, hst⟩
 obtain ⟨n6696, y6697, rfl, hm, hx6698⟩ := loopN_some hm
 dsimp only [label_New_l5] at hm
 replace f0_0 := f0_0.mono (rd_le hL6695)
 replace hI0 := hI0.trans hL6695
 replace hL7155 := hL7155.trans hL6695
 refine wp_seq (wrl (wv (.bool (decide (z6690 < ((a0).length : Int)))) z z z (wl_nil (tn (wp_seq ?_)))))
 refine bsplit (decide (z6690 < ((a0).length : Int))) (fun hc6700 => ?_) (fun hc6700 => ?_)
 {
 replace hm := bif_t hc6700 hm
 refine wp_ift (cvb hc6700) ?_
 refine wp_skip (tn (wp_seq (wp_block (wp_seq (wrl ?_)))))
 refine wv (.int .i64 z6690) z z z (wv (.int .i64 z6690) z z z (wl_nil (tn (wp_seq (wrl (wv ((.slice none 0 0)) z z z (wv ((.slice none 0 0)) z z z (wl_nil (tn ?_)))))))))
 obtain ⟨y7013, hm, hx7014⟩ := joinO_some hm
 refine wp_cut (fun a w => ∃ (z7007 : (List Int)) (z7010 : (List Int)) (v7006 : Value) (v7009 : Value) (σ7011 : Nat → Value), (label_New_j6 z6689 z6690) (z7007, z7010) = some y6697 ∧ a = Fr 192 (upd (upd (upd (upd (upd (upd (upd σ7011 4 (.int .i64 ((a0).length : Int))) 5 (Pt b5496 0)) 9 (.int .i64 z6690)) 10 (v7006)) 11 (v7009)) 67 (.int .i64 ((a0).length : Int))) 68 (.int .i64 z6690)) ∧ St w0 w I6691 [cells b5496 [v5498], at_label_Lattice v5498 z6689, ownS (tyInt .i64) v7006 z7007, ownS (tyInt .i64) v7009 z7010] R) ?_ ?_
 {
 refine wp_seq (wrl (wv (.int .i64 ((a0).length : Int)) z z z (wv (.int .i64 (0:Int)) z z z (wl_nil (tn (wp_block ?_))))))
 replace hst := hst.own_nil (tyInt .i64)
 replace hst := hst.own_nil (tyInt .i64)
 obtain ⟨n6928, hm⟩ := loopO_some hm
 refine wp_loop_n (fun n a w => ∃ (z6920 : (List Int)) (z6923 : (List Int)) (z6926 : Int) (v6921 : Value) (v6924 : Value) (σ6927 : Nat → Value), loopN (label_New_l7 a0 z6689 z6690) n (z6920, z6923, z6926) = some y7013 ∧ a = Fr 192 (upd (upd (upd (upd (upd (upd (upd (upd (upd σ6927 4 (.int .i64 ((a0).length : Int))) 5 (Pt b5496 0)) 9 (.int .i64 z6690)) 10 (v6921)) 11 (v6924)) 67 (.int .i64 ((a0).length : Int))) 68 (.int .i64 z6690)) 71 (.int .i64 ((a0).length : Int))) 72 (.int .i64 z6926)) ∧ St w0 w I6691 [ownS (tyInt .i64) v6924 z6923, ownS (tyInt .i64) v6921 z6920, cells b5496 [v5498], at_label_Lattice v5498 z6689] R) n6928 ⟨[], [], (0:Int), Zs, Zs, _, hm, (fu 4 (.int .i64 ((a0).length : Int)) z (fu 5 (Pt b5496 0) z (fu 9 (.int .i64 z6690) z (fu 10 (.slice none 0 0) z (fu 11 (.slice none 0 0) z (fu 67 (.int .i64 ((a0).length : Int)) z (fu 68 (.int .i64 z6690) z (fu 71 (.int .i64 ((a0).length : Int)) z (fu 72 (.int .i64 (0:Int)) z z))))))))), hst⟩ ?_
 rintro n6934 _ w6929 ⟨z6920, z6923, z6926, v6921, v6924, σ6927, hm, rfl, hst⟩
 obtain ⟨n6931, y6932, rfl, hm, hx6933⟩ := loopN_some hm
 dsimp only [label_New_l7] at hm
 refine wp_seq (wrl (wv (.bool (decide (z6926 < ((a0).length : Int)))) z z z (wl_nil (tn (wp_seq ?_)))))
 refine bsplit (decide (z6926 < ((a0).length : Int))) (fun hc6935 => ?_) (fun hc6935 => ?_)
 {
 replace hm := bif_t hc6935 hm
 refine wp_ift (cvb hc6935) ?_
 refine wp_skip (tn (wp_seq (wp_block (wp_seq (wrl ?_)))))
 refine wv (.int .i64 z6926) z z z (wv (.int .i64 z6926) z z z (wl_nil (tn (wp_seq ?_))))
 replace hst := hst.pull3
 obtain ⟨b6936, v6937, v6939, v6941, v6943, v6945, v6947, rfl, hst'⟩ := at_label_Lattice_open hst
 clear hst
 have hst := hst'
 clear hst'
 refine wp_region_St hst 25 [0, 1, 2, 3, 4, 5, 6, 7, 8, 9, 10, 11, 12, 13, 14, 15, 16, 17, 18, 19, 20, 21, 22, 23, 24] [0, 1, 3, 7, 0, 31, 63, 0, 128, 384, 896, 0, 3968, 8064, 16383, 0, 32768, 98304, 229376, 524287, 1048575, 2097151, 2097151, 4194303, 16777215] [] z (by kernel_rfl) (by kernel_rfl) Try.mixed (by kernel_rfl) ?_
 refine wsr (Pt b6936 0) 0 z z z (by kernel_rfl) (fun w hst => x_load z isAgg60 (hst.bc9 z)) (wsr (Pt b6936 0) 1 z z z (by kernel_rfl) (fun w hst => z) (wsr (Pt b6936 0) 2 z z z (by kernel_rfl) (fun w hst => x_field z underlying73 z sizeOf25 z) (wsr (v6937) 3 z z z (by kernel_rfl) (fun w hst => x_load z isAgg25 (hst.bc0 z)) (wsr (.int .i64 z6690) 4 z z z (by kernel_rfl) (fun w hst => z) ?_))))
 obtain ⟨x6949, hx6950, hm⟩ := bind_some hm
 obtain ⟨h6951, h6952, hi6953⟩ := geto_some hx6950
 refine wsr (.pointer (some (eAddr v6937 (z6690.toNat * 1 + 0)))) 5 z z z (by kernel_rfl) (fun w hst => x_index z z underlying25 sizeOf22 hst.sv1 h6951 h6952) (wsr (.int .u64 x6949) 6 z z z (by kernel_rfl) (fun w hst => x_load z isAgg22 (hst.ol1 hi6953 (by rintro _ rfl; rfl))) (wsr (Pt b6936 0) 7 z z z (by kernel_rfl) (fun w hst => x_load z isAgg60 (hst.bc9 z)) (wsr (Pt b6936 0) 8 z z z (by kernel_rfl) (fun w hst => z) (wsr (Pt b6936 0) 9 z z z (by kernel_rfl) (fun w hst => x_field z underlying73 z sizeOf25 z) (wsr (v6937) 10 z z z (by kernel_rfl) (fun w hst => x_load z isAgg25 (hst.bc0 z)) (wsr (.int .i64 z6926) 11 z z z (by kernel_rfl) (fun w hst => z) ?_))))))
 obtain ⟨x6954, hx6955, hm⟩ := bind_some hm
 obtain ⟨h6956, h6957, hi6958⟩ := geto_some hx6955
 refine wsr (.pointer (some (eAddr v6937 (z6926.toNat * 1 + 0)))) 12 z z z (by kernel_rfl) (fun w hst => x_index z z underlying25 sizeOf22 hst.sv1 h6956 h6957) (wsr (.int .u64 x6954) 13 z z z (by kernel_rfl) (fun w hst => x_load z isAgg22 (hst.ol1 hi6958 (by rintro _ rfl; rfl))) (wsr (.int .u64 (bAnd .u64 x6949 x6954)) 14 z z z (by kernel_rfl) (fun w hst => z) (wsr (Pt b6936 0) 15 z z z (by kernel_rfl) (fun w hst => x_load z isAgg60 (hst.bc9 z)) (wsr (Pt b6936 0) 16 z z z (by kernel_rfl) (fun w hst => z) (wsr (Pt b6936 0) 17 z z z (by kernel_rfl) (fun w hst => x_field z underlying73 z sizeOf25 z) (wsr (v6937) 18 z z z (by kernel_rfl) (fun w hst => x_load z isAgg25 (hst.bc0 z)) ?_))))))
 refine ws_e1 19 (by kernel_rfl) ?_
 refine nxe [20, 21, 22, 23, 24] (by kernel_rfl) z z ?_
 clear hst
 intro w hst
 replace hst := hst.pull1
 obtain ⟨css6959, hq6960, hst⟩ := hst.own_open
 obtain ⟨t6961, ht6962, hm⟩ := bind_some hm
 refine wec call46 [U6 (bAnd .u64 x6949 x6954), v6937] z z ?_
 refine (label_least_ref (hst.rdrow0 hq6960) hst.to0 ht6962).mono ?_
 rintro _ w6963 ⟨rfl, hst⟩
 refine ⟨_, z, ?_⟩
 replace hst := hst.of0.own_close hq6960
 refine ws_next (pend' := []) hst (by kernel_rfl) pk_nil ?_
 refine wsr (.tuple #[I6 t6961.1, .bool t6961.2]) 20 z z z (by kernel_rfl) (fun w hst => z) (wsr (.int .i64 t6961.1) 21 z z z (by kernel_rfl) (fun w hst => z) (wsr (.bool t6961.2) 22 z z z (by kernel_rfl) (fun w hst => z) (wsr (.int .i64 t6961.1) 23 z z z (by kernel_rfl) (fun w hst => z) (wsr (.bool t6961.2) 24 z z z (by kernel_rfl) (fun w hst => z) ?_))))
 refine ws_nil ?_
 intro w hst
 refine tn (wp_seq ?_)
 refine wp_region_St hst 25 [0, 1, 2, 3, 4, 5, 6, 7, 8, 9, 10, 11, 12, 13, 14, 15, 16, 17, 18, 19, 20, 21, 22, 23, 24] [0, 1, 3, 7, 0, 31, 63, 0, 128, 384, 896, 0, 3968, 8064, 16383, 0, 32768, 98304, 229376, 524287, 1048575, 2097151, 2097151, 4194303, 16777215] [] z (by kernel_rfl) (by kernel_rfl) Try.mixed (by kernel_rfl) ?_
 refine wsr (Pt b6936 0) 0 z z z (by kernel_rfl) (fun w hst => x_load z isAgg60 (hst.bc9 z)) (wsr (Pt b6936 0) 1 z z z (by kernel_rfl) (fun w hst => z) (wsr (Pt b6936 1) 2 z z z (by kernel_rfl) (fun w hst => x_field z underlying73 z sizeOf25 z) (wsr (v6939) 3 z z z (by kernel_rfl) (fun w hst => x_load z isAgg25 (hst.bc1 z)) (wsr (.int .i64 z6690) 4 z z z (by kernel_rfl) (fun w hst => z) ?_))))
 obtain ⟨x6966, hx6967, hm⟩ := bind_some hm
 obtain ⟨h6968, h6969, hi6970⟩ := geto_some hx6967
 refine wsr (.pointer (some (eAddr v6939 (z6690.toNat * 1 + 0)))) 5 z z z (by kernel_rfl) (fun w hst => x_index z z underlying25 sizeOf22 hst.sv2 h6968 h6969) (wsr (.int .u64 x6966) 6 z z z (by kernel_rfl) (fun w hst => x_load z isAgg22 (hst.ol2 hi6970 (by rintro _ rfl; rfl))) (wsr (Pt b6936 0) 7 z z z (by kernel_rfl) (fun w hst => x_load z isAgg60 (hst.bc9 z)) (wsr (Pt b6936 0) 8 z z z (by kernel_rfl) (fun w hst => z) (wsr (Pt b6936 1) 9 z z z (by kernel_rfl) (fun w hst => x_field z underlying73 z sizeOf25 z) (wsr (v6939) 10 z z z (by kernel_rfl) (fun w hst => x_load z isAgg25 (hst.bc1 z)) (wsr (.int .i64 z6926) 11 z z z (by kernel_rfl) (fun w hst => z) ?_))))))
 obtain ⟨x6971, hx6972, hm⟩ := bind_some hm
 obtain ⟨h6973, h6974, hi6975⟩ := geto_some hx6972
 refine wsr (.pointer (some (eAddr v6939 (z6926.toNat * 1 + 0)))) 12 z z z (by kernel_rfl) (fun w hst => x_index z z underlying25 sizeOf22 hst.sv2 h6973 h6974) (wsr (.int .u64 x6971) 13 z z z (by kernel_rfl) (fun w hst => x_load z isAgg22 (hst.ol2 hi6975 (by rintro _ rfl; rfl))) (wsr (.int .u64 (bAnd .u64 x6966 x6971)) 14 z z z (by kernel_rfl) (fun w hst => z) (wsr (Pt b6936 0) 15 z z z (by kernel_rfl) (fun w hst => x_load z isAgg60 (hst.bc9 z)) (wsr (Pt b6936 0) 16 z z z (by kernel_rfl) (fun w hst => z) (wsr (Pt b6936 1) 17 z z z (by kernel_rfl) (fun w hst => x_field z underlying73 z sizeOf25 z) (wsr (v6939) 18 z z z (by kernel_rfl) (fun w hst => x_load z isAgg25 (hst.bc1 z)) ?_))))))
 refine ws_e1 19 (by kernel_rfl) ?_
 refine nxe [20, 21, 22, 23, 24] (by kernel_rfl) z z ?_
 clear hst
 intro w hst
 replace hst := hst.pull2
 obtain ⟨css6976, hq6977, hst⟩ := hst.own_open
 obtain ⟨t6978, ht6979, hm⟩ := bind_some hm
 refine wec call46 [U6 (bAnd .u64 x6966 x6971), v6939] z z ?_
 refine (label_least_ref (hst.rdrow0 hq6977) hst.to0 ht6979).mono ?_
 rintro _ w6980 ⟨rfl, hst⟩
 refine ⟨_, z, ?_⟩
 replace hst := hst.of0.own_close hq6977
 refine ws_next (pend' := []) hst (by kernel_rfl) pk_nil ?_
 refine wsr (.tuple #[I6 t6978.1, .bool t6978.2]) 20 z z z (by kernel_rfl) (fun w hst => z) (wsr (.int .i64 t6978.1) 21 z z z (by kernel_rfl) (fun w hst => z) (wsr (.bool t6978.2) 22 z z z (by kernel_rfl) (fun w hst => z) (wsr (.int .i64 t6978.1) 23 z z z (by kernel_rfl) (fun w hst => z) (wsr (.bool t6978.2) 24 z z z (by kernel_rfl) (fun w hst => z) ?_))))
 refine ws_nil ?_
 intro w hst
 refine tn (wp_seq (wp_seq (wrl (wv (.bool t6961.2) z z z (wv (.bool (!t6961.2)) z z z (wv (.bool (!t6961.2)) z z z ?_))))))
 refine bsplit (!t6961.2) (fun hc6983 => ?_) (fun hc6983 => ?_)
 {
 replace hm := bif_t hc6983 hm
 refine wo hc6983 z z z z z z (wo hc6983 z z z z z z (wv (.bool true) z z (x_pick_t hc6983 z z) (wl_nil (tn ?_))))
 refine wp_ift z ?_
 refine wp_seq (wrl (wv (.pointer none) z z z (wv (.int .i64 (15:Int)) z z z (wl_nil (tn (wp_ret (then_r (blk_r (then_r (then_r ?_))))))))))
 replace hm := inr_up hm hx6933
 refine blk_r (then_r ?_)
 replace hm := inr_up hm hx7014
 refine blk_r (then_r (then_r ?_))
 replace hm := inr_up hm hx6698
 refine blk_r (then_r ?_)
 replace hm := inr_up hm hx7154
 replace hst := hst.objO_nil at_label_Lattice
 obtain rfl := some_inj hm
 refine post_ret (vs := [.pointer none, I6 (15:Int)]) results34 (rvs_cons (rv_tmp z) (rvs_cons (rv_tmp z) rvs_nil)) ?_
 exact ⟨_, .pointer none, z, hI0, hst.keep1⟩
}
 {
 replace hm := bif_f hc6983 hm
 refine wv (.bool t6978.2) ((wanted_eq z z z (cvb hc6983)).trans z) z z (wv (.bool (!t6978.2)) ((wanted_eq z z z (cvb hc6983)).trans z) z z (wv (.bool (!t6978.2)) z z (x_pick_f hc6983 z z) (wl_nil (tn ?_))))
 refine bsplit (!t6978.2) (fun hc6985 => ?_) (fun hc6985 => ?_)
 {
 replace hm := bif_t hc6985 hm
 refine wp_ift (cvb hc6985) ?_
 refine wp_seq (wrl (wv (.pointer none) z z z (wv (.int .i64 (15:Int)) z z z (wl_nil (tn (wp_ret (then_r (blk_r (then_r (then_r ?_))))))))))
 replace hm := inr_up hm hx6933
 refine blk_r (then_r ?_)
 replace hm := inr_up hm hx7014
 refine blk_r (then_r (then_r ?_))
 replace hm := inr_up hm hx6698
 refine blk_r (then_r ?_)
 replace hm := inr_up hm hx7154
 replace hst := hst.objO_nil at_label_Lattice
 obtain rfl := some_inj hm
 refine post_ret (vs := [.pointer none, I6 (15:Int)]) results34 (rvs_cons (rv_tmp z) (rvs_cons (rv_tmp z) rvs_nil)) ?_
 exact ⟨_, .pointer none, z, hI0, hst.keep1⟩
}
 {
 replace hm := bif_f hc6985 hm
 refine wp_iff (cvb hc6985) ?_
 refine wp_skip (tn (wrl ?_))
 refine wv (v6921) z z z (wv (.int .i64 t6961.1) z z z ?_)
 obtain ⟨b6987, w6988, ew6989, eb6990, hst⟩ := hst.lits (E := (tyInt .i64)) (xs := [t6961.1]) [[I6 t6961.1]] 3 1 z (Reps.cons z Reps.nil)
 refine wl_run (v := (.slice (some ⟨b6987, 0, none⟩) 1 1)) (w' := w6988) z z (x_als (by kernel_rfl) ew6989 eb6990) ?_
 obtain ⟨hg6992, hm⟩ := gd_some hm
 replace hst := hst.pull9
 obtain ⟨v6993, w6994, hr6995, hst⟩ := run_append elem_46 underlying46 hst hst.src1 (room_of hg6992 z) 46
 refine wl_run (v := v6993) (w' := w6994) z z (x_append z z hr6995) ?_
 refine wv (v6924) z z z (wv (.int .i64 t6978.1) z z z ?_)
 obtain ⟨b6997, w6998, ew6999, eb7000, hst⟩ := hst.lits (E := (tyInt .i64)) (xs := [t6978.1]) [[I6 t6978.1]] 3 1 z (Reps.cons z Reps.nil)
 refine wl_run (v := (.slice (some ⟨b6997, 0, none⟩) 1 1)) (w' := w6998) z z (x_als (by kernel_rfl) ew6999 eb7000) ?_
 obtain ⟨hg7002, hm⟩ := gd_some hm
 replace hst := hst.pull10
 obtain ⟨v7003, w7004, hr7005, hst⟩ := run_append elem_46 underlying46 hst hst.src1 (room_of hg7002 z) 46
 refine wl_run (v := v7003) (w' := w7004) z z (x_append z z hr7005) ?_
 refine wv (v6993) z z z (wv (v7003) z z z (wl_nil (blk_n (tn (wrl (wv (.int .i64 (i64.wrap (z6926 + (1:Int)))) z z z (wv (.int .i64 (i64.wrap (z6926 + (1:Int)))) z z z (wl_nil (tn ?_)))))))))
 replace hst := hst.pull10.pull10.pull10.pull10.pull8.pull9.pull10
 replace hst := at_label_Lattice_close (pv := Pt b6936 0) (x := z6689) hst z
 replace hst := hst.pull5.pull4.pull3.keep4
 obtain rfl := some_inj hm
 exact ⟨_, Nat.lt_succ_self _, (z6920 ++ ([t6961.1])), (z6923 ++ ([t6978.1])), (i64.wrap (z6926 + (1:Int))), v6993, v7003, _, hx6933, (fu 4 (.int .i64 ((a0).length : Int)) z (fu 5 (Pt b5496 0) z (fu 9 (.int .i64 z6690) z (fu 10 v6993 z (fu 11 v7003 z (fu 67 (.int .i64 ((a0).length : Int)) z (fu 68 (.int .i64 z6690) z (fu 71 (.int .i64 ((a0).length : Int)) z (fu 72 (.int .i64 (i64.wrap (z6926 + (1:Int)))) z z))))))))), hst⟩
}
}
}
 {
 replace hm := bif_f hc6935 hm
 refine wp_iff (cvb hc6935) ?_
 refine wp_exit (then_x (then_x ?_))
 replace hm := inr_up hm hx6933
 refine blk_x (tn ?_)
 replace hst := hst.pull1.pull3.pull3.keep4
 obtain rfl := some_inj hm
 exact ⟨z6920, z6923, v6921, v6924, _, hx7014, (fu 4 (.int .i64 ((a0).length : Int)) z (fu 5 (Pt b5496 0) z (fu 9 (.int .i64 z6690) z (fu 10 v6921 z (fu 11 v6924 z (fu 67 (.int .i64 ((a0).length : Int)) z (fu 68 (.int .i64 z6690) z z))))))), hst⟩
}
}
 {
 clear hst
 rintro _ w7015 ⟨z7007, z7010, v7006, v7009, σ7011, hm, rfl, hst⟩
 dsimp only [label_New_j6] at hm
 refine wp_seq ?_
 replace hst := hst.pull1
 obtain ⟨b7016, v7017, v7019, v7021, v7023, v7025, v7027, rfl, hst'⟩ := at_label_Lattice_open hst
 clear hst
 have hst := hst'
 clear hst'
 obtain ⟨y7119, hm, hx7120⟩ := bind_some hm
 refine wp_mid (fun a w => ∃ (I7116 : HL) (σ7117 : Nat → Value), (label_New_j8 z6689 z7007 z7010 z6690) () = some y6697 ∧ a = Fr 192 (upd (upd (upd (upd (upd σ7117 4 (.int .i64 ((a0).length : Int))) 5 (Pt b5496 0)) 9 (.int .i64 z6690)) 67 (.int .i64 ((a0).length : Int))) 68 (.int .i64 z6690)) ∧ I6691.le I7116 ∧ St w0 w I7116 [cells b5496 [Pt b7016 0], at_label_Lattice (Pt b7016 0) ({ up := z6689.up, down := z6689.down, join := (z6689.join ++ ([z7007])), meet := (z6689.meet ++ ([z7010])), rank := z6689.rank, all := z6689.all } : label_Lattice)] R) ?_ ?_
 {
 have hL7121 := HL.le.refl I6691
 refine wp_region_St hst 22 [0, 1, 2, 3, 4, 5, 6, 7, 8, 9, 10, 11, 12, 13, 14, 15, 16, 17, 18, 19, 20, 21] [0, 0, 0, 4, 12, 28, 0, 64, 252, 0, 512, 1536, 3584, 0, 8192, 32764, 65533, 131069, 262141, 524287, 1048575, 2097151] [] z (by kernel_rfl) (by kernel_rfl) Try.mixed (by kernel_rfl) ?_
 refine wsr (Pt b7016 0) 0 z z z (by kernel_rfl) (fun w hst => x_load z isAgg60 (hst.bc7 z)) (wsr (Pt b7016 0) 1 z z z (by kernel_rfl) (fun w hst => x_load z isAgg60 (hst.bc7 z)) (wsr (Pt b7016 0) 2 z z z (by kernel_rfl) (fun w hst => x_load z isAgg60 (hst.bc7 z)) (wsr (Pt b7016 0) 3 z z z (by kernel_rfl) (fun w hst => z) (wsr (Pt b7016 2) 4 z z z (by kernel_rfl) (fun w hst => x_field z underlying73 z sizeOf71 z) (wsr (v7021) 5 z z z (by kernel_rfl) (fun w hst => x_load z isAgg71 (hst.bc0 z)) (wsr (v7006) 6 z z z (by kernel_rfl) (fun w hst => z) (wsr (Pt b7016 0) 9 z z z (by kernel_rfl) (fun w hst => x_load z isAgg60 (hst.bc7 z)) (wsr (Pt b7016 0) 10 z z z (by kernel_rfl) (fun w hst => z) (wsr (Pt b7016 3) 11 z z z (by kernel_rfl) (fun w hst => x_field z underlying73 z sizeOf71 z) (wsr (v7023) 12 z z z (by kernel_rfl) (fun w hst => x_load z isAgg71 (hst.bc0 z)) (wsr (v7009) 13 z z z (by kernel_rfl) (fun w hst => z) ?_)))))))))))
 refine ws_e2 7 14 (by kernel_rfl) ?_ ?_
 {
 refine nxe [8, 14, 15, 16, 17, 18, 19, 20, 21] (by kernel_rfl) z z ?_
 clear hst
 intro w hst
 replace hst := hst.pull8
 obtain ⟨I7030, hI7031, f7032, hst⟩ := hst.own_fix
 replace f0_0 := f0_0.mono (rd_le hI7031)
 replace hI0 := hI0.trans hI7031
 replace hL7155 := hL7155.trans hI7031
 replace hL6695 := hL6695.trans hI7031
 replace hL7121 := hL7121.trans hI7031
 obtain ⟨b7033, w7034, ew7035, eb7036, hst⟩ := hst.lits (E := (tySl (tyInt .i64))) (xs := [z7007]) [[v7006]] 46 1 z (Reps.cons ⟨_, z, f7032, one_of_sliceV (ro_sliceV f7032)⟩ Reps.nil)
 refine we_run (v := (.slice (some ⟨b7033, 0, none⟩) 1 1)) (w' := w7034) z (x_als (by obtain ⟨_, _, hv_, _⟩ := (ro_sliceV f7032); rw [hv_]; kernel_rfl) ew7035 eb7036) ?_
 refine ws_next (pend' := [(13, v7009), (12, v7023), (11, Pt b7016 3), (10, Pt b7016 0), (9, Pt b7016 0), (5, v7021), (4, Pt b7016 2), (3, Pt b7016 0), (2, Pt b7016 0), (1, Pt b7016 0), (0, Pt b7016 0)]) hst (by kernel_rfl) (pkr z z (fun w hst => z) (pkr z z (fun w hst => x_load z isAgg71 (hst.bc1 z)) (pkr z z (fun w hst => x_field z underlying73 z sizeOf71 z) (pkr z z (fun w hst => z) (pkr z z (fun w hst => x_load z isAgg60 (hst.bc8 z)) (pkr z z (fun w hst => x_load z isAgg71 (hst.bc1 z)) (pkr z z (fun w hst => x_field z underlying73 z sizeOf71 z) (pkr z z (fun w hst => z) (pkr z z (fun w hst => x_load z isAgg60 (hst.bc8 z)) (pkr z z (fun w hst => x_load z isAgg60 (hst.bc8 z)) (pkr z z (fun w hst => x_load z isAgg60 (hst.bc8 z)) pk_nil))))))))))) ?_
 refine ws_e2 8 14 (by kernel_rfl) ?_ ?_
 {
 refine nxe [14, 15, 16, 17, 18, 19, 20, 21] (by kernel_rfl) z z ?_
 clear hst
 intro w hst
 obtain ⟨hg7038, hm⟩ := gd_some hm
 replace hst := hst.pull4
 obtain ⟨v7039, w7040, hr7041, hst⟩ := run_append elem_71 underlying71 hst hst.src1 (room_of hg7038 z) 71
 refine we_run (v := v7039) (w' := w7040) z (x_append z z hr7041) ?_
 refine ws_next (pend' := [(13, v7009), (12, v7023), (11, Pt b7016 3), (10, Pt b7016 0), (9, Pt b7016 0), (1, Pt b7016 0), (0, Pt b7016 0)]) hst (by kernel_rfl) (pkr z z (fun w hst => z) (pkr z z (fun w hst => x_load z isAgg71 (hst.bc2 z)) (pkr z z (fun w hst => x_field z underlying73 z sizeOf71 z) (pkr z z (fun w hst => z) (pkr z z (fun w hst => x_load z isAgg60 (hst.bc8 z)) (pkr z z (fun w hst => x_load z isAgg60 (hst.bc8 z)) (pkr z z (fun w hst => x_load z isAgg60 (hst.bc8 z)) pk_nil))))))) ?_
 refine ws_e1 14 (by kernel_rfl) ?_
 refine nxe [15, 16, 17, 18, 19, 20, 21] (by kernel_rfl) z z ?_
 clear hst
 intro w hst
 replace hst := hst.pull9
 obtain ⟨I7044, hI7045, f7046, hst⟩ := hst.own_fix
 replace f0_0 := f0_0.mono (rd_le hI7045)
 replace f7032 := f7032.mono (ro_le hI7045)
 replace hI0 := hI0.trans hI7045
 replace hL7155 := hL7155.trans hI7045
 replace hL6695 := hL6695.trans hI7045
 replace hL7121 := hL7121.trans hI7045
 obtain ⟨b7047, w7048, ew7049, eb7050, hst⟩ := hst.lits (E := (tySl (tyInt .i64))) (xs := [z7010]) [[v7009]] 46 1 z (Reps.cons ⟨_, z, f7046, one_of_sliceV (ro_sliceV f7046)⟩ Reps.nil)
 refine we_run (v := (.slice (some ⟨b7047, 0, none⟩) 1 1)) (w' := w7048) z (x_als (by obtain ⟨_, _, hv_, _⟩ := (ro_sliceV f7046); rw [hv_]; kernel_rfl) ew7049 eb7050) ?_
 refine ws_next (pend' := [(12, v7023), (11, Pt b7016 3), (10, Pt b7016 0), (9, Pt b7016 0), (1, Pt b7016 0), (0, Pt b7016 0)]) hst (by kernel_rfl) (pkr z z (fun w hst => x_load z isAgg71 (hst.bc3 z)) (pkr z z (fun w hst => x_field z underlying73 z sizeOf71 z) (pkr z z (fun w hst => z) (pkr z z (fun w hst => x_load z isAgg60 (hst.bc9 z)) (pkr z z (fun w hst => x_load z isAgg60 (hst.bc9 z)) (pkr z z (fun w hst => x_load z isAgg60 (hst.bc9 z)) pk_nil)))))) ?_
 refine ws_e1 15 (by kernel_rfl) ?_
 refine nxe [16, 17, 18, 19, 20, 21] (by kernel_rfl) z z ?_
 clear hst
 intro w hst
 obtain ⟨hg7052, hm⟩ := gd_some hm
 replace hst := hst.pull6
 obtain ⟨v7053, w7054, hr7055, hst⟩ := run_append elem_71 underlying71 hst hst.src1 (room_of hg7052 z) 71
 refine we_run (v := v7053) (w' := w7054) z (x_append z z hr7055) ?_
 refine ws_next (pend' := [(1, Pt b7016 0), (0, Pt b7016 0)]) hst (by kernel_rfl) (pkr z z (fun w hst => x_load z isAgg60 (hst.bc9 z)) (pkr z z (fun w hst => x_load z isAgg60 (hst.bc9 z)) pk_nil)) ?_
 refine wsr (Pt b7016 0) 16 z z z (by kernel_rfl) (fun w hst => z) (wsr (Pt b7016 2) 17 z z z (by kernel_rfl) (fun w hst => x_field z underlying73 z sizeOf71 z) ?_)
 refine ws_e1 18 (by kernel_rfl) ?_
 refine nxe [19, 20, 21] (by kernel_rfl) z z ?_
 clear hst
 intro w hst
 replace hst := hst.pull4
 obtain ⟨w7057, hr7058, hst⟩ := hst.boxStore1 (P := prog) (t := 71) (cs' := [v7017, v7019, v7039, v7023, v7025, v7027]) 2 v7039 (one_of_sliceV hst.sv3) sizeOf71 z z
 refine we_unit z (x_unit hr7058) ?_
 refine ws_next (pend' := [(1, Pt b7016 0)]) hst (by kernel_rfl) (pkr z z (fun w hst => x_load z isAgg60 (hst.bc9 z)) pk_nil) ?_
 refine wsr (Pt b7016 0) 19 z z z (by kernel_rfl) (fun w hst => z) (wsr (Pt b7016 3) 20 z z z (by kernel_rfl) (fun w hst => x_field z underlying73 z sizeOf71 z) ?_)
 refine ws_e1 21 (by kernel_rfl) ?_
 refine nxe [] (by kernel_rfl) z z ?_
 clear hst
 intro w hst
 obtain ⟨w7059, hr7060, hst⟩ := hst.boxStore1 (P := prog) (t := 71) (cs' := [v7017, v7019, v7039, v7053, v7025, v7027]) 3 v7053 (one_of_sliceV hst.sv1) sizeOf71 z z
 refine we_unit z (x_unit hr7060) ?_
 refine ws_next (pend' := []) hst (by kernel_rfl) pk_nil ?_
 refine ws_nil ?_
 intro w hst
 refine ⟨z, ?_⟩
 replace hst := hst.pull8.pull8.pull3.pull5.pull8.pull8.pull6
 replace hst := at_label_Lattice_close (pv := Pt b7016 0) (x := ({ up := z6689.up, down := z6689.down, join := (z6689.join ++ ([z7007])), meet := (z6689.meet ++ ([z7010])), rank := z6689.rank, all := z6689.all } : label_Lattice)) hst z
 replace hst := hst.pull3.keep2
 obtain rfl := some_inj hm
 exact ⟨_, _, hx7120, (fu 4 (.int .i64 ((a0).length : Int)) z (fu 5 (Pt b5496 0) z (fu 9 (.int .i64 z6690) z (fu 67 (.int .i64 ((a0).length : Int)) z (fu 68 (.int .i64 z6690) z z))))), hL7121, hst⟩
}
 {
 refine nxe [8, 15, 16, 17, 18, 19, 20, 21] (by kernel_rfl) z z ?_
 clear hst
 intro w hst
 replace hst := hst.pull9
 obtain ⟨I7062, hI7063, f7064, hst⟩ := hst.own_fix
 replace f0_0 := f0_0.mono (rd_le hI7063)
 replace f7032 := f7032.mono (ro_le hI7063)
 replace hI0 := hI0.trans hI7063
 replace hL7155 := hL7155.trans hI7063
 replace hL6695 := hL6695.trans hI7063
 replace hL7121 := hL7121.trans hI7063
 obtain ⟨b7065, w7066, ew7067, eb7068, hst⟩ := hst.lits (E := (tySl (tyInt .i64))) (xs := [z7010]) [[v7009]] 46 1 z (Reps.cons ⟨_, z, f7064, one_of_sliceV (ro_sliceV f7064)⟩ Reps.nil)
 refine we_run (v := (.slice (some ⟨b7065, 0, none⟩) 1 1)) (w' := w7066) z (x_als (by obtain ⟨_, _, hv_, _⟩ := (ro_sliceV f7064); rw [hv_]; kernel_rfl) ew7067 eb7068) ?_
 refine ws_next (pend' := [(12, v7023), (11, Pt b7016 3), (10, Pt b7016 0), (9, Pt b7016 0), (5, v7021), (4, Pt b7016 2), (3, Pt b7016 0), (2, Pt b7016 0), (1, Pt b7016 0), (0, Pt b7016 0)]) hst (by kernel_rfl) (pkr z z (fun w hst => x_load z isAgg71 (hst.bc2 z)) (pkr z z (fun w hst => x_field z underlying73 z sizeOf71 z) (pkr z z (fun w hst => z) (pkr z z (fun w hst => x_load z isAgg60 (hst.bc9 z)) (pkr z z (fun w hst => x_load z isAgg71 (hst.bc2 z)) (pkr z z (fun w hst => x_field z underlying73 z sizeOf71 z) (pkr z z (fun w hst => z) (pkr z z (fun w hst => x_load z isAgg60 (hst.bc9 z)) (pkr z z (fun w hst => x_load z isAgg60 (hst.bc9 z)) (pkr z z (fun w hst => x_load z isAgg60 (hst.bc9 z)) pk_nil)))))))))) ?_
 refine ws_e1 8 (by kernel_rfl) ?_
 refine nxe [15, 16, 17, 18, 19, 20, 21] (by kernel_rfl) z z ?_
 clear hst
 intro w hst
 obtain ⟨hg7070, hm⟩ := gd_some hm
 replace hst := hst.pull5
 obtain ⟨v7071, w7072, hr7073, hst⟩ := run_append elem_71 underlying71 hst hst.src2 (room_of hg7070 z) 71
 refine we_run (v := v7071) (w' := w7072) z (x_append z z hr7073) ?_
 refine ws_next (pend' := [(12, v7023), (11, Pt b7016 3), (10, Pt b7016 0), (9, Pt b7016 0), (1, Pt b7016 0), (0, Pt b7016 0)]) hst (by kernel_rfl) (pkr z z (fun w hst => x_load z isAgg71 (hst.bc3 z)) (pkr z z (fun w hst => x_field z underlying73 z sizeOf71 z) (pkr z z (fun w hst => z) (pkr z z (fun w hst => x_load z isAgg60 (hst.bc9 z)) (pkr z z (fun w hst => x_load z isAgg60 (hst.bc9 z)) (pkr z z (fun w hst => x_load z isAgg60 (hst.bc9 z)) pk_nil)))))) ?_
 refine ws_e1 15 (by kernel_rfl) ?_
 refine nxe [16, 17, 18, 19, 20, 21] (by kernel_rfl) z z ?_
 clear hst
 intro w hst
 obtain ⟨hg7075, hm⟩ := gd_some hm
 replace hst := hst.pull6
 obtain ⟨v7076, w7077, hr7078, hst⟩ := run_append elem_71 underlying71 hst hst.src2 (room_of hg7075 z) 71
 refine we_run (v := v7076) (w' := w7077) z (x_append z z hr7078) ?_
 refine ws_next (pend' := [(1, Pt b7016 0), (0, Pt b7016 0)]) hst (by kernel_rfl) (pkr z z (fun w hst => x_load z isAgg60 (hst.bc9 z)) (pkr z z (fun w hst => x_load z isAgg60 (hst.bc9 z)) pk_nil)) ?_
 refine wsr (Pt b7016 0) 16 z z z (by kernel_rfl) (fun w hst => z) (wsr (Pt b7016 2) 17 z z z (by kernel_rfl) (fun w hst => x_field z underlying73 z sizeOf71 z) ?_)
 refine ws_e1 18 (by kernel_rfl) ?_
 refine nxe [19, 20, 21] (by kernel_rfl) z z ?_
 clear hst
 intro w hst
 replace hst := hst.pull4
 obtain ⟨w7080, hr7081, hst⟩ := hst.boxStore1 (P := prog) (t := 71) (cs' := [v7017, v7019, v7071, v7023, v7025, v7027]) 2 v7071 (one_of_sliceV hst.sv2) sizeOf71 z z
 refine we_unit z (x_unit hr7081) ?_
 refine ws_next (pend' := [(1, Pt b7016 0)]) hst (by kernel_rfl) (pkr z z (fun w hst => x_load z isAgg60 (hst.bc9 z)) pk_nil) ?_
 refine wsr (Pt b7016 0) 19 z z z (by kernel_rfl) (fun w hst => z) (wsr (Pt b7016 3) 20 z z z (by kernel_rfl) (fun w hst => x_field z underlying73 z sizeOf71 z) ?_)
 refine ws_e1 21 (by kernel_rfl) ?_
 refine nxe [] (by kernel_rfl) z z ?_
 clear hst
 intro w hst
 obtain ⟨w7082, hr7083, hst⟩ := hst.boxStore1 (P := prog) (t := 71) (cs' := [v7017, v7019, v7071, v7076, v7025, v7027]) 3 v7076 (one_of_sliceV hst.sv1) sizeOf71 z z
 refine we_unit z (x_unit hr7083) ?_
 refine ws_next (pend' := []) hst (by kernel_rfl) pk_nil ?_
 refine ws_nil ?_
 intro w hst
 refine ⟨z, ?_⟩
 replace hst := hst.pull8.pull8.pull3.pull4.pull8.pull8.pull6
 replace hst := at_label_Lattice_close (pv := Pt b7016 0) (x := ({ up := z6689.up, down := z6689.down, join := (z6689.join ++ ([z7007])), meet := (z6689.meet ++ ([z7010])), rank := z6689.rank, all := z6689.all } : label_Lattice)) hst z
 replace hst := hst.pull3.keep2
 obtain rfl := some_inj hm
 exact ⟨_, _, hx7120, (fu 4 (.int .i64 ((a0).length : Int)) z (fu 5 (Pt b5496 0) z (fu 9 (.int .i64 z6690) z (fu 67 (.int .i64 ((a0).length : Int)) z (fu 68 (.int .i64 z6690) z z))))), hL7121, hst⟩
}
}
 {
 refine nxe [7, 8, 15, 16, 17, 18, 19, 20, 21] (by kernel_rfl) z z ?_
 clear hst
 intro w hst
 replace hst := hst.pull9
 obtain ⟨I7085, hI7086, f7087, hst⟩ := hst.own_fix
 replace f0_0 := f0_0.mono (rd_le hI7086)
 replace hI0 := hI0.trans hI7086
 replace hL7155 := hL7155.trans hI7086
 replace hL6695 := hL6695.trans hI7086
 replace hL7121 := hL7121.trans hI7086
 obtain ⟨b7088, w7089, ew7090, eb7091, hst⟩ := hst.lits (E := (tySl (tyInt .i64))) (xs := [z7010]) [[v7009]] 46 1 z (Reps.cons ⟨_, z, f7087, one_of_sliceV (ro_sliceV f7087)⟩ Reps.nil)
 refine we_run (v := (.slice (some ⟨b7088, 0, none⟩) 1 1)) (w' := w7089) z (x_als (by obtain ⟨_, _, hv_, _⟩ := (ro_sliceV f7087); rw [hv_]; kernel_rfl) ew7090 eb7091) ?_
 refine ws_next (pend' := [(12, v7023), (11, Pt b7016 3), (10, Pt b7016 0), (9, Pt b7016 0), (6, v7006), (5, v7021), (4, Pt b7016 2), (3, Pt b7016 0), (2, Pt b7016 0), (1, Pt b7016 0), (0, Pt b7016 0)]) hst (by kernel_rfl) (pkr z z (fun w hst => x_load z isAgg71 (hst.bc1 z)) (pkr z z (fun w hst => x_field z underlying73 z sizeOf71 z) (pkr z z (fun w hst => z) (pkr z z (fun w hst => x_load z isAgg60 (hst.bc8 z)) (pkr z z (fun w hst => z) (pkr z z (fun w hst => x_load z isAgg71 (hst.bc1 z)) (pkr z z (fun w hst => x_field z underlying73 z sizeOf71 z) (pkr z z (fun w hst => z) (pkr z z (fun w hst => x_load z isAgg60 (hst.bc8 z)) (pkr z z (fun w hst => x_load z isAgg60 (hst.bc8 z)) (pkr z z (fun w hst => x_load z isAgg60 (hst.bc8 z)) pk_nil))))))))))) ?_
 refine ws_e1 7 (by kernel_rfl) ?_
 refine nxe [8, 15, 16, 17, 18, 19, 20, 21] (by kernel_rfl) z z ?_
 clear hst
 intro w hst
 replace hst := hst.pull9
 obtain ⟨I7094, hI7095, f7096, hst⟩ := hst.own_fix
 replace f0_0 := f0_0.mono (rd_le hI7095)
 replace f7087 := f7087.mono (ro_le hI7095)
 replace hI0 := hI0.trans hI7095
 replace hL7155 := hL7155.trans hI7095
 replace hL6695 := hL6695.trans hI7095
 replace hL7121 := hL7121.trans hI7095
 obtain ⟨b7097, w7098, ew7099, eb7100, hst⟩ := hst.lits (E := (tySl (tyInt .i64))) (xs := [z7007]) [[v7006]] 46 1 z (Reps.cons ⟨_, z, f7096, one_of_sliceV (ro_sliceV f7096)⟩ Reps.nil)
 refine we_run (v := (.slice (some ⟨b7097, 0, none⟩) 1 1)) (w' := w7098) z (x_als (by obtain ⟨_, _, hv_, _⟩ := (ro_sliceV f7096); rw [hv_]; kernel_rfl) ew7099 eb7100) ?_
 refine ws_next (pend' := [(12, v7023), (11, Pt b7016 3), (10, Pt b7016 0), (9, Pt b7016 0), (5, v7021), (4, Pt b7016 2), (3, Pt b7016 0), (2, Pt b7016 0), (1, Pt b7016 0), (0, Pt b7016 0)]) hst (by kernel_rfl) (pkr z z (fun w hst => x_load z isAgg71 (hst.bc2 z)) (pkr z z (fun w hst => x_field z underlying73 z sizeOf71 z) (pkr z z (fun w hst => z) (pkr z z (fun w hst => x_load z isAgg60 (hst.bc9 z)) (pkr z z (fun w hst => x_load z isAgg71 (hst.bc2 z)) (pkr z z (fun w hst => x_field z underlying73 z sizeOf71 z) (pkr z z (fun w hst => z) (pkr z z (fun w hst => x_load z isAgg60 (hst.bc9 z)) (pkr z z (fun w hst => x_load z isAgg60 (hst.bc9 z)) (pkr z z (fun w hst => x_load z isAgg60 (hst.bc9 z)) pk_nil)))))))))) ?_
 refine ws_e1 8 (by kernel_rfl) ?_
 refine nxe [15, 16, 17, 18, 19, 20, 21] (by kernel_rfl) z z ?_
 clear hst
 intro w hst
 obtain ⟨hg7102, hm⟩ := gd_some hm
 replace hst := hst.pull5
 obtain ⟨v7103, w7104, hr7105, hst⟩ := run_append elem_71 underlying71 hst hst.src1 (room_of hg7102 z) 71
 refine we_run (v := v7103) (w' := w7104) z (x_append z z hr7105) ?_
 refine ws_next (pend' := [(12, v7023), (11, Pt b7016 3), (10, Pt b7016 0), (9, Pt b7016 0), (1, Pt b7016 0), (0, Pt b7016 0)]) hst (by kernel_rfl) (pkr z z (fun w hst => x_load z isAgg71 (hst.bc3 z)) (pkr z z (fun w hst => x_field z underlying73 z sizeOf71 z) (pkr z z (fun w hst => z) (pkr z z (fun w hst => x_load z isAgg60 (hst.bc9 z)) (pkr z z (fun w hst => x_load z isAgg60 (hst.bc9 z)) (pkr z z (fun w hst => x_load z isAgg60 (hst.bc9 z)) pk_nil)))))) ?_
 refine ws_e1 15 (by kernel_rfl) ?_
 refine nxe [16, 17, 18, 19, 20, 21] (by kernel_rfl) z z ?_
 clear hst
 intro w hst
 obtain ⟨hg7107, hm⟩ := gd_some hm
 replace hst := hst.pull6
 obtain ⟨v7108, w7109, hr7110, hst⟩ := run_append elem_71 underlying71 hst hst.src3 (room_of hg7107 z) 71
 refine we_run (v := v7108) (w' := w7109) z (x_append z z hr7110) ?_
 refine ws_next (pend' := [(1, Pt b7016 0), (0, Pt b7016 0)]) hst (by kernel_rfl) (pkr z z (fun w hst => x_load z isAgg60 (hst.bc9 z)) (pkr z z (fun w hst => x_load z isAgg60 (hst.bc9 z)) pk_nil)) ?_
 refine wsr (Pt b7016 0) 16 z z z (by kernel_rfl) (fun w hst => z) (wsr (Pt b7016 2) 17 z z z (by kernel_rfl) (fun w hst => x_field z underlying73 z sizeOf71 z) ?_)
 refine ws_e1 18 (by kernel_rfl) ?_
 refine nxe [19, 20, 21] (by kernel_rfl) z z ?_
 clear hst
 intro w hst
 replace hst := hst.pull4
 obtain ⟨w7112, hr7113, hst⟩ := hst.boxStore1 (P := prog) (t := 71) (cs' := [v7017, v7019, v7103, v7023, v7025, v7027]) 2 v7103 (one_of_sliceV hst.sv2) sizeOf71 z z
 refine we_unit z (x_unit hr7113) ?_
 refine ws_next (pend' := [(1, Pt b7016 0)]) hst (by kernel_rfl) (pkr z z (fun w hst => x_load z isAgg60 (hst.bc9 z)) pk_nil) ?_
 refine wsr (Pt b7016 0) 19 z z z (by kernel_rfl) (fun w hst => z) (wsr (Pt b7016 3) 20 z z z (by kernel_rfl) (fun w hst => x_field z underlying73 z sizeOf71 z) ?_)
 refine ws_e1 21 (by kernel_rfl) ?_
 refine nxe [] (by kernel_rfl) z z ?_
 clear hst
 intro w hst
 obtain ⟨w7114, hr7115, hst⟩ := hst.boxStore1 (P := prog) (t := 71) (cs' := [v7017, v7019, v7103, v7108, v7025, v7027]) 3 v7108 (one_of_sliceV hst.sv1) sizeOf71 z z
 refine we_unit z (x_unit hr7115) ?_
 refine ws_next (pend' := []) hst (by kernel_rfl) pk_nil ?_
 refine ws_nil ?_
 intro w hst
 refine ⟨z, ?_⟩
 replace hst := hst.pull8.pull8.pull3.pull4.pull8.pull8.pull6
 replace hst := at_label_Lattice_close (pv := Pt b7016 0) (x := ({ up := z6689.up, down := z6689.down, join := (z6689.join ++ ([z7007])), meet := (z6689.meet ++ ([z7010])), rank := z6689.rank, all := z6689.all } : label_Lattice)) hst z
 replace hst := hst.pull3.keep2
 obtain rfl := some_inj hm
 exact ⟨_, _, hx7120, (fu 4 (.int .i64 ((a0).length : Int)) z (fu 5 (Pt b5496 0) z (fu 9 (.int .i64 z6690) z (fu 67 (.int .i64 ((a0).length : Int)) z (fu 68 (.int .i64 z6690) z z))))), hL7121, hst⟩
}
}
 {
 clear hst
 rintro _ w7122 ⟨I7116, σ7117, hm, rfl, hL7118, hst⟩
 dsimp only [label_New_j8] at hm
 replace f0_0 := f0_0.mono (rd_le hL7118)
 replace hI0 := hI0.trans hL7118
 replace hL7155 := hL7155.trans hL7118
 replace hL6695 := hL6695.trans hL7118
 refine tn ?_
 replace hst := hst.pull1
 obtain ⟨b7123, v7124, v7126, v7128, v7130, v7132, v7134, e7136, hst'⟩ := at_label_Lattice_open hst
 clear hst
 have e7136 := ptr_inj e7136
 subst e7136
 have hst := hst'
 clear hst'
 refine wp_region_St hst 11 [0, 1, 2, 3, 4, 5, 6, 7, 8, 9, 10] [0, 0, 2, 6, 14, 0, 32, 126, 255, 511, 1023] [] z (by kernel_rfl) (by kernel_rfl) Try.mixed (by kernel_rfl) ?_
 refine wsr (Pt b7016 0) 0 z z z (by kernel_rfl) (fun w hst => x_load z isAgg60 (hst.bc7 z)) (wsr (Pt b7016 0) 1 z z z (by kernel_rfl) (fun w hst => x_load z isAgg60 (hst.bc7 z)) (wsr (Pt b7016 0) 2 z z z (by kernel_rfl) (fun w hst => z) (wsr (Pt b7016 5) 3 z z z (by kernel_rfl) (fun w hst => x_field z underlying73 z sizeOf46 z) (wsr (v7134) 4 z z z (by kernel_rfl) (fun w hst => x_load z isAgg46 (hst.bc0 z)) (wsr (.int .i64 z6690) 5 z z z (by kernel_rfl) (fun w hst => z) ?_)))))
 refine ws_e1 6 (by kernel_rfl) ?_
 refine nxe [7, 8, 9, 10] (by kernel_rfl) z z ?_
 clear hst
 intro w hst
 obtain ⟨b7137, w7138, ew7139, eb7140, hst⟩ := hst.lits (E := (tyInt .i64)) (xs := [z6690]) [[I6 z6690]] 3 1 z (Reps.cons z Reps.nil)
 refine we_run (v := (.slice (some ⟨b7137, 0, none⟩) 1 1)) (w' := w7138) z (x_als (by kernel_rfl) ew7139 eb7140) ?_
 refine ws_next (pend' := [(4, v7134), (3, Pt b7016 5), (2, Pt b7016 0), (1, Pt b7016 0), (0, Pt b7016 0)]) hst (by kernel_rfl) (pkr z z (fun w hst => x_load z isAgg46 (hst.bc1 z)) (pkr z z (fun w hst => x_field z underlying73 z sizeOf46 z) (pkr z z (fun w hst => z) (pkr z z (fun w hst => x_load z isAgg60 (hst.bc8 z)) (pkr z z (fun w hst => x_load z isAgg60 (hst.bc8 z)) pk_nil))))) ?_
 refine ws_e1 7 (by kernel_rfl) ?_
 refine nxe [8, 9, 10] (by kernel_rfl) z z ?_
 clear hst
 intro w hst
 obtain ⟨hg7142, hm⟩ := gd_some hm
 replace hst := hst.pull7
 obtain ⟨v7143, w7144, hr7145, hst⟩ := run_append elem_46 underlying46 hst hst.src1 (room_of hg7142 z) 46
 refine we_run (v := v7143) (w' := w7144) z (x_append z z hr7145) ?_
 refine ws_next (pend' := [(0, Pt b7016 0)]) hst (by kernel_rfl) (pkr z z (fun w hst => x_load z isAgg60 (hst.bc8 z)) pk_nil) ?_
 refine wsr (Pt b7016 0) 8 z z z (by kernel_rfl) (fun w hst => z) (wsr (Pt b7016 5) 9 z z z (by kernel_rfl) (fun w hst => x_field z underlying73 z sizeOf46 z) ?_)
 refine ws_e1 10 (by kernel_rfl) ?_
 refine nxe [] (by kernel_rfl) z z ?_
 clear hst
 intro w hst
 replace hst := hst.pull2
 obtain ⟨w7147, hr7148, hst⟩ := hst.boxStore1 (P := prog) (t := 46) (cs' := [v7124, v7126, v7128, v7130, v7132, v7143]) 5 v7143 (one_of_sliceV hst.sv1) sizeOf46 z z
 refine we_unit z (x_unit hr7148) ?_
 refine ws_next (pend' := []) hst (by kernel_rfl) pk_nil ?_
 refine ws_nil ?_
 intro w hst
 refine blk_n (tn (wrl ?_))
 refine wv (.int .i64 (i64.wrap (z6690 + (1:Int)))) z z z (wv (.int .i64 (i64.wrap (z6690 + (1:Int)))) z z z (wl_nil (tn ?_)))
 replace hst := hst.pull1.pull7.pull7.pull7.pull7.pull7.pull6
 replace hst := at_label_Lattice_close (pv := Pt b7016 0) (x := ({ up := ({ up := z6689.up, down := z6689.down, join := (z6689.join ++ ([z7007])), meet := (z6689.meet ++ ([z7010])), rank := z6689.rank, all := z6689.all } : label_Lattice).up, down := ({ up := z6689.up, down := z6689.down, join := (z6689.join ++ ([z7007])), meet := (z6689.meet ++ ([z7010])), rank := z6689.rank, all := z6689.all } : label_Lattice).down, join := ({ up := z6689.up, down := z6689.down, join := (z6689.join ++ ([z7007])), meet := (z6689.meet ++ ([z7010])), rank := z6689.rank, all := z6689.all } : label_Lattice).join, meet := ({ up := z6689.up, down := z6689.down, join := (z6689.join ++ ([z7007])), meet := (z6689.meet ++ ([z7010])), rank := z6689.rank, all := z6689.all } : label_Lattice).meet, rank := ({ up := z6689.up, down := z6689.down, join := (z6689.join ++ ([z7007])), meet := (z6689.meet ++ ([z7010])), rank := z6689.rank, all := z6689.all } : label_Lattice).rank, all := ((({ up := z6689.up, down := z6689.down, join := (z6689.join ++ ([z7007])), meet := (z6689.meet ++ ([z7010])), rank := z6689.rank, all := z6689.all } : label_Lattice).all) ++ ([z6690])) } : label_Lattice)) hst z
 replace hst := hst.pull2.keep2
 obtain rfl := some_inj hm
 exact ⟨_, Nat.lt_succ_self _, _, ({ up := ({ up := z6689.up, down := z6689.down, join := (z6689.join ++ ([z7007])), meet := (z6689.meet ++ ([z7010])), rank := z6689.rank, all := z6689.all } : label_Lattice).up, down := ({ up := z6689.up, down := z6689.down, join := (z6689.join ++ ([z7007])), meet := (z6689.meet ++ ([z7010])), rank := z6689.rank, all := z6689.all } : label_Lattice).down, join := ({ up := z6689.up, down := z6689.down, join := (z6689.join ++ ([z7007])), meet := (z6689.meet ++ ([z7010])), rank := z6689.rank, all := z6689.all } : label_Lattice).join, meet := ({ up := z6689.up, down := z6689.down, join := (z6689.join ++ ([z7007])), meet := (z6689.meet ++ ([z7010])), rank := z6689.rank, all := z6689.all } : label_Lattice).meet, rank := ({ up := z6689.up, down := z6689.down, join := (z6689.join ++ ([z7007])), meet := (z6689.meet ++ ([z7010])), rank := z6689.rank, all := z6689.all } : label_Lattice).rank, all := ((({ up := z6689.up, down := z6689.down, join := (z6689.join ++ ([z7007])), meet := (z6689.meet ++ ([z7010])), rank := z6689.rank, all := z6689.all } : label_Lattice).all) ++ ([z6690])) } : label_Lattice), (i64.wrap (z6690 + (1:Int))), _, hx6698, (fu 4 (.int .i64 ((a0).length : Int)) z (fu 5 (Pt b5496 0) z (fu 67 (.int .i64 ((a0).length : Int)) z (fu 68 (.int .i64 (i64.wrap (z6690 + (1:Int)))) z z)))), hL6695, hst⟩
}
}
}
 {
 replace hm := bif_f hc6700 hm
 refine wp_iff (cvb hc6700) ?_
 refine wp_exit (then_x (then_x ?_))
 replace hm := inr_up hm hx6698
 refine blk_x (tn ?_)
 replace hst := hst.pull1.pull1.keep2
 obtain rfl := some_inj hm
 exact ⟨_, z6689, _, hx7154, (fu 5 (Pt b5496 0) z z), hL7155, hst⟩
}
}
 {
 clear hst
 rintro _ w7156 ⟨I7150, z7149, σ7151, hm, rfl, hL7152, hst⟩
 dsimp only [label_New_j4] at hm
 replace f0_0 := f0_0.mono (rd_le hL7152)
 replace hI0 := hI0.trans hL7152
 refine wp_seq (wrl (wv (v5498) z z (x_load z isAgg60 (hst.bc0 z)) ?_))
 replace hst := hst.pull1
 obtain ⟨b7157, v7158, v7160, v7162, v7164, v7166, v7168, rfl, hst'⟩ := at_label_Lattice_open hst
 clear hst
 have hst := hst'
 clear hst'
 refine wv (Pt b7157 0) z z z (wv (Pt b7157 5) z z (x_field z underlying73 z sizeOf46 z) (wv (v7168) z z (x_load z isAgg46 (hst.bc0 z)) (wv (.func (.func 48) #[] #[Pt b5496 0]) z z (by kernel_rfl) ?_)))
 obtain ⟨y9466, hq9467, hm⟩ := bind_some hm
 refine wl_call z z (x_callv call47 (caps := []) z (vs := [v7168, .func (.func 48) #[] #[Pt b5496 0]]) z) ?_
 refine Calls.mono (show Calls prog 47 #[v7168, .func (.func 48) #[] #[Pt b5496 0]] _ (fun e w' => ∃ (z9464 : (List Int)), z9464 = y9466 ∧ e = .returned (.tuple #[]) ∧ St w0 w' I7150 [cells b5496 [Pt b7157 0], cells b7157 [v7158, v7160, v7162, v7164, v7166, v7168], ownS (tyInt .u64) v7158 z7149.up, ownS (tyInt .u64) v7160 z7149.down, ownS (tySl (tyInt .i64)) v7162 z7149.join, ownS (tySl (tyInt .i64)) v7164 z7149.meet, ownS (tyInt .i64) v7166 z7149.rank, ownS (tyInt .i64) v7168 z9464] R) from ?_) ?_
 {
 clear hm; have hm := hq9467
 refine calls_start (args := [v7168, .func (.func 48) #[] #[Pt b5496 0]]) func47 z ntmps47 (Nat.le_of_ble_eq_true z) ?_
 refine wrl (wv (v7168) z z z (wv (v7168) z z z (wv (.int .i64 ((z7149.all).length : Int)) z z (x_len z underlying46 hst.sv6) (wv (.func (.func 48) #[] #[Pt b5496 0]) z z z ?_))))
 obtain ⟨y9461, hq9462, hm⟩ := bind_some hm
 refine wl_call z z (x_callv call56 (caps := []) z (vs := [v7168, I6 ((z7149.all).length : Int), .func (.func 48) #[] #[Pt b5496 0]]) z) ?_
 refine Calls.mono (show Calls prog 56 #[v7168, I6 ((z7149.all).length : Int), .func (.func 48) #[] #[Pt b5496 0]] _ (fun e w' => ∃ (z9459 : (List Int)), z9459 = y9461 ∧ e = .returned (.tuple #[]) ∧ St w0 w' I7150 [cells b5496 [Pt b7157 0], cells b7157 [v7158, v7160, v7162, v7164, v7166, v7168], ownS (tyInt .u64) v7158 z7149.up, ownS (tyInt .u64) v7160 z7149.down, ownS (tySl (tyInt .i64)) v7162 z7149.join, ownS (tySl (tyInt .i64)) v7164 z7149.meet, ownS (tyInt .i64) v7166 z7149.rank, ownS (tyInt .i64) v7168 z9459] R) from ?_) ?_
 {
 clear hm; have hm := hq9462
 refine calls_start (args := [v7168, I6 ((z7149.all).length : Int), .func (.func 48) #[] #[Pt b5496 0]]) func56 z ntmps56 (Nat.le_of_ble_eq_true z) ?_
 refine wp_seq (wrl (wv (.int .i64 (20:Int)) z z z (wl_nil (tn (wp_seq (wrl (wv (.int .i64 (20:Int)) z z z (wv (.int .i64 (0:Int)) z z z (wv (.int .i64 (20:Int)) z z z (wl_nil (tn ?_)))))))))))
 obtain ⟨y8844, hm, hx8845⟩ := bind_some hm
 refine wp_cut (fun a w => ∃ (z8840 : (List Int)) (z8841 : Int) (σ8842 : Nat → Value), (label_New_j9 z7149) (z8840, z8841) = some y9461 ∧ a = Fr 63 (upd (upd (upd (upd (upd σ8842 0 (v7168)) 1 (.int .i64 ((z7149.all).length : Int))) 2 (.func (.func 48) #[] #[Pt b5496 0])) 6 (.int .i64 (20:Int))) 7 (.int .i64 z8841)) ∧ St w0 w I7150 [ownS (tyInt .i64) v7168 z8840, cells b5496 [Pt b7157 0], cells b7157 [v7158, v7160, v7162, v7164, v7166, v7168], ownS (tyInt .u64) v7158 z7149.up, ownS (tyInt .u64) v7160 z7149.down, ownS (tySl (tyInt .i64)) v7162 z7149.join, ownS (tySl (tyInt .i64)) v7164 z7149.meet, ownS (tyInt .i64) v7166 z7149.rank] R) ?_ ?_
 {
 refine wp_block ?_
 obtain ⟨n8281, hm⟩ := loopO_some hm
 refine wp_loop_n (fun n a w => ∃ (z8277 : Int) (z8278 : Int) (z8279 : (List Int)) (σ8280 : Nat → Value), loopN (label_New_l10 z7149) n (z8277, z8278, z8279) = some y8844 ∧ a = Fr 63 (upd (upd (upd (upd (upd (upd σ8280 0 (v7168)) 1 (.int .i64 ((z7149.all).length : Int))) 2 (.func (.func 48) #[] #[Pt b5496 0])) 6 (.int .i64 (20:Int))) 7 (.int .i64 z8277)) 8 (.int .i64 z8278)) ∧ St w0 w I7150 [cells b7157 [v7158, v7160, v7162, v7164, v7166, v7168], ownS (tyInt .u64) v7158 z7149.up, ownS (tyInt .u64) v7160 z7149.down, ownS (tySl (tyInt .i64)) v7162 z7149.join, ownS (tySl (tyInt .i64)) v7164 z7149.meet, ownS (tyInt .i64) v7166 z7149.rank, ownS (tyInt .i64) v7168 z8279, cells b5496 [Pt b7157 0]] R) n8281 ⟨(0:Int), (20:Int), z7149.all, _, hm, (fu 0 v7168 z (fu 1 (.int .i64 ((z7149.all).length : Int)) z (fu 2 (.func (.func 48) #[] #[Pt b5496 0]) z (fu 6 (.int .i64 (20:Int)) z (fu 7 (.int .i64 (0:Int)) z (fu 8 (.int .i64 (20:Int)) z z)))))), hst⟩ ?_
 rintro n8287 _ w8282 ⟨z8277, z8278, z8279, σ8280, hm, rfl, hst⟩
 obtain ⟨n8284, y8285, rfl, hm, hx8286⟩ := loopN_some hm
 dsimp only [label_New_l10] at hm
 refine wp_seq (wp_seq (wrl (wv (.int .i64 z8278) z z z (wv (.int .i64 ((z7149.all).length : Int)) z z z (wv (.bool (decide (z8278 ≤ ((z7149.all).length : Int)))) z z z (wl_nil (tn ?_)))))))
 refine bsplit (decide (z8278 ≤ ((z7149.all).length : Int))) (fun hc8288 => ?_) (fun hc8288 => ?_)
 {
 replace hm := bif_t hc8288 hm
 refine wp_ift (cvb hc8288) ?_
 refine wp_skip (tn (wp_block (wp_seq (wrl ?_))))
 refine wv (v7168) z z z (wv (.int .i64 z8277) z z z (wv (.int .i64 z8278) z z z (wv (.func (.func 48) #[] #[Pt b5496 0]) z z z ?_)))
 obtain ⟨y8837, hq8838, hm⟩ := bind_some hm
 refine wl_call z z (x_callv call59 (caps := []) z (vs := [v7168, I6 z8277, I6 z8278, .func (.func 48) #[] #[Pt b5496 0]]) z) ?_
 refine Calls.mono (show Calls prog 59 #[v7168, I6 z8277, I6 z8278, .func (.func 48) #[] #[Pt b5496 0]] _ (fun e w' => ∃ (z8835 : (List Int)), z8835 = y8837 ∧ e = .returned (.tuple #[]) ∧ St w0 w' I7150 [cells b5496 [Pt b7157 0], cells b7157 [v7158, v7160, v7162, v7164, v7166, v7168], ownS (tyInt .u64) v7158 z7149.up, ownS (tyInt .u64) v7160 z7149.down, ownS (tySl (tyInt .i64)) v7162 z7149.join, ownS (tySl (tyInt .i64)) v7164 z7149.meet, ownS (tyInt .i64) v7166 z7149.rank, ownS (tyInt .i64) v7168 z8835] R) from ?_) ?_
 {
 clear hm; have hm := hq8838
 refine calls_start (args := [v7168, I6 z8277, I6 z8278, .func (.func 48) #[] #[Pt b5496 0]]) func59 z ntmps59 (Nat.le_of_ble_eq_true z) ?_
 refine wp_seq (wrl (wv (.int .i64 z8277) z z z (wv (.int .i64 (i64.wrap (z8277 + (1:Int)))) z z z (wv (.int .i64 (i64.wrap (z8277 + (1:Int)))) z z z (wl_nil (tn (wp_block ?_)))))))
 obtain ⟨n8650, hm⟩ := loopO_some hm
 refine wp_loop_n (fun n a w => ∃ (z8647 : Int) (z8648 : (List Int)) (σ8649 : Nat → Value), loopN (label_New_l11 z8278 z8277 z7149) n (z8647, z8648) = some y8837 ∧ a = Fr 53 (upd (upd (upd (upd (upd σ8649 0 (v7168)) 1 (.int .i64 z8277)) 2 (.int .i64 z8278)) 3 (.func (.func 48) #[] #[Pt b5496 0])) 8 (.int .i64 z8647)) ∧ St w0 w I7150 [cells b7157 [v7158, v7160, v7162, v7164, v7166, v7168], ownS (tyInt .u64) v7158 z7149.up, ownS (tyInt .u64) v7160 z7149.down, ownS (tySl (tyInt .i64)) v7162 z7149.join, ownS (tySl (tyInt .i64)) v7164 z7149.meet, ownS (tyInt .i64) v7166 z7149.rank, ownS (tyInt .i64) v7168 z8648, cells b5496 [Pt b7157 0]] R) n8650 ⟨(i64.wrap (z8277 + (1:Int))), z8279, _, hm, (fu 0 v7168 z (fu 1 (.int .i64 z8277) z (fu 2 (.int .i64 z8278) z (fu 3 (.func (.func 48) #[] #[Pt b5496 0]) z (fu 8 (.int .i64 (i64.wrap (z8277 + (1:Int)))) z z))))), hst⟩ ?_
 rintro n8656 _ w8651 ⟨z8647, z8648, σ8649, hm, rfl, hst⟩
 obtain ⟨n8653, y8654, rfl, hm, hx8655⟩ := loopN_some hm
 dsimp only [label_New_l11] at hm
 refine wp_seq (wp_seq (wrl (wv (.int .i64 z8647) z z z (wv (.int .i64 z8278) z z z (wv (.bool (decide (z8647 < z8278))) z z z (wl_nil (tn ?_)))))))
 refine bsplit (decide (z8647 < z8278)) (fun hc8657 => ?_) (fun hc8657 => ?_)
 {
 replace hm := bif_t hc8657 hm
 refine wp_ift (cvb hc8657) ?_
 refine wp_skip (tn (wp_seq (wp_block (wp_seq (wrl ?_)))))
 refine wv (.int .i64 z8647) z z z (wv (.int .i64 z8647) z z z (wl_nil (tn (wp_block ?_))))
 obtain ⟨n8773, hm⟩ := loopO_some hm
 refine wp_loop_n (fun n a w => ∃ (z8770 : Int) (z8771 : (List Int)) (σ8772 : Nat → Value), loopN (label_New_l12 z8277 z7149 z8647) n (z8770, z8771) = some y8654 ∧ a = Fr 53 (upd (upd (upd (upd (upd (upd σ8772 0 (v7168)) 1 (.int .i64 z8277)) 2 (.int .i64 z8278)) 3 (.func (.func 48) #[] #[Pt b5496 0])) 8 (.int .i64 z8647)) 9 (.int .i64 z8770)) ∧ St w0 w I7150 [cells b7157 [v7158, v7160, v7162, v7164, v7166, v7168], ownS (tyInt .u64) v7158 z7149.up, ownS (tyInt .u64) v7160 z7149.down, ownS (tySl (tyInt .i64)) v7162 z7149.join, ownS (tySl (tyInt .i64)) v7164 z7149.meet, ownS (tyInt .i64) v7166 z7149.rank, ownS (tyInt .i64) v7168 z8771, cells b5496 [Pt b7157 0]] R) n8773 ⟨z8647, z8648, _, hm, (fu 0 v7168 z (fu 1 (.int .i64 z8277) z (fu 2 (.int .i64 z8278) z (fu 3 (.func (.func 48) #[] #[Pt b5496 0]) z (fu 8 (.int .i64 z8647) z (fu 9 (.int .i64 z8647) z z)))))), hst⟩ ?_
 rintro n8779 _ w8774 ⟨z8770, z8771, σ8772, hm, rfl, hst⟩
 obtain ⟨n8776, y8777, rfl, hm, hx8778⟩ := loopN_some hm
 dsimp only [label_New_l12] at hm
 refine wp_seq (wp_seq ?_)
 refine wp_region_St hst 17 [0, 1, 2, 3, 4, 5, 6, 7, 8, 9, 10, 11, 12, 13, 14, 15, 16] [0, 0, 3, 7, 15, 15, 15, 111, 239, 15, 15, 1039, 3599, 7695, 16383, 32767, 65535] [] z (by kernel_rfl) (by kernel_rfl) Try.mixed (by kernel_rfl) ?_
 refine wsr (.int .i64 z8770) 0 z z z (by kernel_rfl) (fun w hst => z) (wsr (.int .i64 z8277) 1 z z z (by kernel_rfl) (fun w hst => z) (wsr (.bool (decide (z8770 > z8277))) 2 z z z (by kernel_rfl) (fun w hst => z) (wsr (.bool (decide (z8770 > z8277))) 3 z z z (by kernel_rfl) (fun w hst => z) ?_)))
 refine bsplit (decide (z8770 > z8277)) (fun hc8780 => ?_) (fun hc8780 => ?_)
 {
 replace hm := bif_t hc8780 hm
 refine ws_q (v := .func (.func 48) #[] #[Pt b5496 0]) 4 [5, 6, 7, 8, 9, 10, 11, 12, 13, 14, 15, 16] (by kernel_rfl) z z (yi_run ((wanted_eq z z z (cvb hc8780)).trans z) (fun w hst => z)) (ws_q (v := v7168) 5 [6, 7, 8, 9, 10, 11, 12, 13, 14, 15, 16] (by kernel_rfl) z z (yi_run ((wanted_eq z z z (cvb hc8780)).trans z) (fun w hst => z)) (ws_q (v := .int .i64 z8770) 6 [7, 8, 9, 10, 11, 12, 13, 14, 15, 16] (by kernel_rfl) z z (yi_run ((wanted_eq z z z (cvb hc8780)).trans z) (fun w hst => z)) ?_))
 obtain ⟨x8781, hx8782, hm⟩ := bind_some hm
 obtain ⟨h8783, h8784, hi8785⟩ := geto_some hx8782
 refine ws_q (v := .pointer (some (eAddr v7168 (z8770.toNat * 1 + 0)))) 7 [8, 9, 10, 11, 12, 13, 14, 15, 16] (by kernel_rfl) z z (yi_run ((wanted_eq z z z (cvb hc8780)).trans z) (fun w hst => x_index z z underlying46 sizeOf3 hst.sv6 h8783 h8784)) (ws_q (v := .int .i64 x8781) 8 [9, 10, 11, 12, 13, 14, 15, 16] (by kernel_rfl) z z (yi_run ((wanted_eq z z z (cvb hc8780)).trans z) (fun w hst => x_load z isAgg3 (hst.ol6 hi8785 (by rintro _ rfl; rfl)))) (ws_q (v := v7168) 9 [10, 11, 12, 13, 14, 15, 16] (by kernel_rfl) z z (yi_run ((wanted_eq z z z (cvb hc8780)).trans z) (fun w hst => z)) (ws_q (v := .int .i64 z8770) 10 [11, 12, 13, 14, 15, 16] (by kernel_rfl) z z (yi_run ((wanted_eq z z z (cvb hc8780)).trans z) (fun w hst => z)) (ws_q (v := .int .i64 (i64.wrap (z8770 - (1:Int)))) 11 [12, 13, 14, 15, 16] (by kernel_rfl) z z (yi_run ((wanted_eq z z z (cvb hc8780)).trans z) (fun w hst => z)) ?_))))
 obtain ⟨x8786, hx8787, hm⟩ := bind_some hm
 obtain ⟨h8788, h8789, hi8790⟩ := geto_some hx8787
 refine ws_q (v := .pointer (some (eAddr v7168 ((i64.wrap (z8770 - (1:Int))).toNat * 1 + 0)))) 12 [13, 14, 15, 16] (by kernel_rfl) z z (yi_run ((wanted_eq z z z (cvb hc8780)).trans z) (fun w hst => x_index z z underlying46 sizeOf3 hst.sv6 h8788 h8789)) (ws_q (v := .int .i64 x8786) 13 [14, 15, 16] (by kernel_rfl) z z (yi_run ((wanted_eq z z z (cvb hc8780)).trans z) (fun w hst => x_load z isAgg3 (hst.ol6 hi8790 (by rintro _ rfl; rfl)))) ?_)
 refine ws_e1 14 (by kernel_rfl) ?_
 refine nxe [15, 16] (by kernel_rfl) z ((wanted_eq z z z (cvb hc8780)).trans z) ?_
 clear hst
 intro w hst
 obtain ⟨y8818, hq8819, hm⟩ := bind_some hm
 refine we_call z (x_callv call48 (caps := [Pt b5496 0]) z (vs := [I6 x8781, I6 x8786]) z) ?_
 refine Calls.mono (show Calls prog 48 #[I6 x8781, I6 x8786, Pt b5496 0] _ (fun e w' => ∃ (z8816 : Int), z8816 = y8818 ∧ e = .returned (.int .i64 z8816) ∧ St w0 w' I7150 [cells b5496 [Pt b7157 0], cells b7157 [v7158, v7160, v7162, v7164, v7166, v7168], ownS (tyInt .u64) v7158 z7149.up, ownS (tyInt .u64) v7160 z7149.down, ownS (tySl (tyInt .i64)) v7162 z7149.join, ownS (tySl (tyInt .i64)) v7164 z7149.meet, ownS (tyInt .i64) v7166 z7149.rank, ownS (tyInt .i64) v7168 z8771] R) from ?_) ?_
 {
 clear hm; have hm := hq8819
 refine calls_start (args := [I6 x8781, I6 x8786, Pt b5496 0]) func48 z ntmps48 (Nat.le_of_ble_eq_true z) ?_
 refine wp_seq (wrl (wv (.int .i64 (0:Int)) z z z (wl_nil (tn (wp_seq ?_)))))
 refine wp_region_St hst 18 [0, 1, 2, 3, 4, 5, 6, 7, 8, 9, 10, 11, 12, 13, 14, 15, 16, 17] [0, 1, 3, 7, 0, 31, 63, 127, 0, 256, 768, 1792, 0, 7936, 16128, 32767, 65535, 131071] [] z (by kernel_rfl) (by kernel_rfl) Try.mixed (by kernel_rfl) ?_
 refine wsr (Pt b7157 0) 0 z z z (by kernel_rfl) (fun w hst => x_load z isAgg60 (hst.bc7 z)) (wsr (Pt b7157 0) 1 z z z (by kernel_rfl) (fun w hst => z) (wsr (Pt b7157 1) 2 z z z (by kernel_rfl) (fun w hst => x_field z underlying73 z sizeOf25 z) (wsr (v7160) 3 z z z (by kernel_rfl) (fun w hst => x_load z isAgg25 (hst.bc0 z)) (wsr (.int .i64 x8781) 4 z z z (by kernel_rfl) (fun w hst => z) ?_))))
 obtain ⟨x8791, hx8792, hm⟩ := bind_some hm
 obtain ⟨h8793, h8794, hi8795⟩ := geto_some hx8792
 refine wsr (.pointer (some (eAddr v7160 (x8781.toNat * 1 + 0)))) 5 z z z (by kernel_rfl) (fun w hst => x_index z z underlying25 sizeOf22 hst.sv2 h8793 h8794) (wsr (.int .u64 x8791) 6 z z z (by kernel_rfl) (fun w hst => x_load z isAgg22 (hst.ol2 hi8795 (by rintro _ rfl; rfl))) (wsr (Pt b7157 0) 8 z z z (by kernel_rfl) (fun w hst => x_load z isAgg60 (hst.bc7 z)) (wsr (Pt b7157 0) 9 z z z (by kernel_rfl) (fun w hst => z) (wsr (Pt b7157 1) 10 z z z (by kernel_rfl) (fun w hst => x_field z underlying73 z sizeOf25 z) (wsr (v7160) 11 z z z (by kernel_rfl) (fun w hst => x_load z isAgg25 (hst.bc0 z)) (wsr (.int .i64 x8786) 12 z z z (by kernel_rfl) (fun w hst => z) ?_))))))
 obtain ⟨x8796, hx8797, hm⟩ := bind_some hm
 obtain ⟨h8798, h8799, hi8800⟩ := geto_some hx8797
 refine wsr (.pointer (some (eAddr v7160 (x8786.toNat * 1 + 0)))) 13 z z z (by kernel_rfl) (fun w hst => x_index z z underlying25 sizeOf22 hst.sv2 h8798 h8799) (wsr (.int .u64 x8796) 14 z z z (by kernel_rfl) (fun w hst => x_load z isAgg22 (hst.ol2 hi8800 (by rintro _ rfl; rfl))) ?_)
 refine ws_e1 7 (by kernel_rfl) ?_
 refine nxe [15, 16, 17] (by kernel_rfl) z z ?_
 clear hst
 intro w hst
 obtain ⟨t8801, ht8802, hm⟩ := bind_some hm
 refine wec call32 [U6 x8791] z z ?_
 refine (math_bits_OnesCount64_ref hst.to0 ht8802).mono ?_
 rintro _ w8803 ⟨rfl, hst⟩
 refine ⟨_, z, ?_⟩
 replace hst := hst.of0
 refine ws_next (pend' := [(14, U6 x8796), (13, .pointer (some (eAddr v7160 (x8786.toNat * 1 + 0)))), (12, I6 x8786), (11, v7160), (10, Pt b7157 1), (9, Pt b7157 0), (8, Pt b7157 0)]) hst (by kernel_rfl) (pkr z z (fun w hst => x_load z isAgg22 (hst.ol2 hi8800 (by rintro _ rfl; rfl))) (pkr z z (fun w hst => x_index z z underlying25 sizeOf22 hst.sv2 h8798 h8799) (pkr z z (fun w hst => z) (pkr z z (fun w hst => x_load z isAgg25 (hst.bc0 z)) (pkr z z (fun w hst => x_field z underlying73 z sizeOf25 z) (pkr z z (fun w hst => z) (pkr z z (fun w hst => x_load z isAgg60 (hst.bc7 z)) pk_nil))))))) ?_
 refine ws_e1 15 (by kernel_rfl) ?_
 refine nxe [16, 17] (by kernel_rfl) z z ?_
 clear hst
 intro w hst
 obtain ⟨t8806, ht8807, hm⟩ := bind_some hm
 refine wec call32 [U6 x8796] z z ?_
 refine (math_bits_OnesCount64_ref hst.to0 ht8807).mono ?_
 rintro _ w8808 ⟨rfl, hst⟩
 refine ⟨_, z, ?_⟩
 replace hst := hst.of0
 refine ws_next (pend' := []) hst (by kernel_rfl) pk_nil ?_
 refine ws_e1 16 (by kernel_rfl) ?_
 refine nxe [17] (by kernel_rfl) z z ?_
 clear hst
 intro w hst
 obtain ⟨t8811, ht8812, hm⟩ := bind_some hm
 refine wec call49 [I6 t8801, I6 t8806] z z ?_
 refine (cmp_Compare_int_ref hst.to0 ht8812).mono ?_
 rintro _ w8813 ⟨rfl, hst⟩
 refine ⟨_, z, ?_⟩
 replace hst := hst.of0
 refine ws_next (pend' := []) hst (by kernel_rfl) pk_nil ?_
 refine wsr (.int .i64 t8811) 17 z z z (by kernel_rfl) (fun w hst => z) ?_
 refine ws_nil ?_
 intro w hst
 refine tn (wp_ret ?_)
 refine post_ret (vs := [I6 t8811]) results48 (rvs_cons (rv_tmp z) rvs_nil) ?_
 replace hst := hst.pull6.pull6.pull6.pull6.pull6.pull6.pull6.pull7.keep8
 obtain rfl := some_inj hm
 exact ⟨t8811, z, z, hst⟩
}
 clear hst
 rintro _ w8820 ⟨z8816, rfl, rfl, hst⟩
 refine ⟨_, z, ?_⟩
 try dsimp only at hm
 refine ws_next (pend' := []) hst (by kernel_rfl) pk_nil ?_
 refine ws_q (v := .bool (decide (z8816 < (0:Int)))) 15 [16] (by kernel_rfl) z z (yi_run ((wanted_eq z z z (cvb hc8780)).trans z) (fun w hst => z)) (wsr (.bool (decide (z8816 < (0:Int)))) 16 z z z (by kernel_rfl) (fun w hst => x_pick_t hc8780 z z) ?_)
 refine ws_nil ?_
 intro w hst
 refine tn ?_
 refine bsplit (decide (z8816 < (0:Int))) (fun hc8821 => ?_) (fun hc8821 => ?_)
 {
 replace hm := bif_t hc8821 hm
 refine wp_ift (cvb hc8821) ?_
 refine wp_skip (tn (wp_seq (wp_block ?_)))
 refine wp_region_St hst 18 [0, 1, 2, 3, 4, 5, 6, 7, 8, 9, 10, 11, 12, 13, 14, 15, 16, 17] [0, 0, 0, 0, 8, 0, 0, 64, 224, 480, 0, 0, 3072, 7168, 16355, 32739, 65535, 131071] [] z (by kernel_rfl) (by kernel_rfl) Try.mixed (by kernel_rfl) ?_
 refine wsr (v7168) 0 z z z (by kernel_rfl) (fun w hst => z) (wsr (.int .i64 z8770) 1 z z z (by kernel_rfl) (fun w hst => z) (wsr (v7168) 2 z z z (by kernel_rfl) (fun w hst => z) (wsr (.int .i64 z8770) 3 z z z (by kernel_rfl) (fun w hst => z) (wsr (.int .i64 (i64.wrap (z8770 - (1:Int)))) 4 z z z (by kernel_rfl) (fun w hst => z) (wsr (v7168) 5 z z z (by kernel_rfl) (fun w hst => z) (wsr (.int .i64 z8770) 6 z z z (by kernel_rfl) (fun w hst => z) (wsr (.int .i64 (i64.wrap (z8770 - (1:Int)))) 7 z z z (by kernel_rfl) (fun w hst => z) (wsr (.pointer (some (eAddr v7168 ((i64.wrap (z8770 - (1:Int))).toNat * 1 + 0)))) 8 z z z (by kernel_rfl) (fun w hst => x_index z z underlying46 sizeOf3 hst.sv7 h8788 h8789) (wsr (.int .i64 x8786) 9 z z z (by kernel_rfl) (fun w hst => x_load z isAgg3 (hst.ol7 hi8790 (by rintro _ rfl; rfl))) (wsr (v7168) 10 z z z (by kernel_rfl) (fun w hst => z) (wsr (.int .i64 z8770) 11 z z z (by kernel_rfl) (fun w hst => z) (wsr (.pointer (some (eAddr v7168 (z8770.toNat * 1 + 0)))) 12 z z z (by kernel_rfl) (fun w hst => x_index z z underlying46 sizeOf3 hst.sv7 h8783 h8784) ?_))))))))))))
 refine wsr (.int .i64 x8781) 13 z z z (by kernel_rfl) (fun w hst => x_load z isAgg3 (hst.ol7 hi8785 (by rintro _ rfl; rfl))) (wsr (.pointer (some (eAddr v7168 (z8770.toNat * 1 + 0)))) 14 z z z (by kernel_rfl) (fun w hst => x_index z z underlying46 sizeOf3 hst.sv7 h8783 h8784) ?_)
 refine ws_e1 15 (by kernel_rfl) ?_
 refine nxe [16, 17] (by kernel_rfl) z z ?_
 clear hst
 intro w hst
 replace hst := hst.pull7
 obtain ⟨w8822, hr8823, hst⟩ := hst.own_store (P := prog) (t := 3) (y := x8786) hi8785 0 (.int .i64 x8786) sizeOf3 (Nat.le_of_ble_eq_true z) (oC z oN) (by rintro _ rfl; rfl)
 have hi8824 := set_get hi8785 x8786
 have h8825 := set_lt h8784 z8770.toNat x8786
 refine we_unit z (x_unit hr8823) ?_
 refine ws_next (pend' := [(4, I6 (i64.wrap (z8770 - (1:Int)))), (3, I6 z8770), (2, v7168)]) hst (by kernel_rfl) (pkr z z (fun w hst => z) (pkr z z (fun w hst => z) (pkr z z (fun w hst => z) pk_nil))) ?_
 obtain ⟨x8826, hx8827, hm⟩ := bind_some hm
 obtain ⟨h8828, h8829, hi8830⟩ := geto_some hx8827
 refine wsr (.pointer (some (eAddr v7168 ((i64.wrap (z8770 - (1:Int))).toNat * 1 + 0)))) 16 z z z (by kernel_rfl) (fun w hst => x_index z z underlying46 sizeOf3 hst.sv0 h8828 h8829) ?_
 refine ws_e1 17 (by kernel_rfl) ?_
 refine nxe [] (by kernel_rfl) z z ?_
 clear hst
 intro w hst
 obtain ⟨w8831, hr8832, hst⟩ := hst.own_store (P := prog) (t := 3) (y := x8781) hi8830 0 (.int .i64 x8781) sizeOf3 (Nat.le_of_ble_eq_true z) (oC z oN) (by rintro _ rfl; rfl)
 have hi8833 := set_get hi8830 x8781
 have h8834 := set_lt h8829 (i64.wrap (z8770 - (1:Int))).toNat x8781
 refine we_unit z (x_unit hr8832) ?_
 refine ws_next (pend' := []) hst (by kernel_rfl) pk_nil ?_
 refine ws_nil ?_
 intro w hst
 refine blk_n (tn (wrl ?_))
 refine wv (.int .i64 z8770) z z z (wv (.int .i64 (i64.wrap (z8770 - (1:Int)))) z z z (wv (.int .i64 (i64.wrap (z8770 - (1:Int)))) z z z (wl_nil (tn ?_))))
 replace hst := hst.pull1.pull1.pull7.pull7.pull7.pull7.pull7.pull7.keep8
 obtain rfl := some_inj hm
 exact ⟨_, Nat.lt_succ_self _, (i64.wrap (z8770 - (1:Int))), ((z8771.set z8770.toNat x8786).set (i64.wrap (z8770 - (1:Int))).toNat x8781), _, hx8778, (fu 0 v7168 z (fu 1 (.int .i64 z8277) z (fu 2 (.int .i64 z8278) z (fu 3 (.func (.func 48) #[] #[Pt b5496 0]) z (fu 8 (.int .i64 z8647) z (fu 9 (.int .i64 (i64.wrap (z8770 - (1:Int)))) z z)))))), hst⟩
}
 {
 replace hm := bif_f hc8821 hm
 refine wp_iff (cvb hc8821) ?_
 refine wp_exit (then_x (then_x ?_))
 replace hm := inr_up hm hx8778
 refine blk_x (blk_n (tn (wrl ?_)))
 refine wv (.int .i64 z8647) z z z (wv (.int .i64 (i64.wrap (z8647 + (1:Int)))) z z z (wv (.int .i64 (i64.wrap (z8647 + (1:Int)))) z z z (wl_nil (tn ?_))))
 replace hst := hst.pull7.pull7.pull7.pull7.pull7.pull7.pull7.keep8
 obtain rfl := some_inj hm
 exact ⟨_, Nat.lt_succ_self _, (i64.wrap (z8647 + (1:Int))), z8771, _, hx8655, (fu 0 v7168 z (fu 1 (.int .i64 z8277) z (fu 2 (.int .i64 z8278) z (fu 3 (.func (.func 48) #[] #[Pt b5496 0]) z (fu 8 (.int .i64 (i64.wrap (z8647 + (1:Int)))) z z))))), hst⟩
}
}
 {
 replace hm := bif_f hc8780 hm
 refine ws_q (v := undef) 4 [5, 6, 7, 8, 9, 10, 11, 12, 13, 14, 15, 16] (by kernel_rfl) z z (yi_off ((wanted_eq z z z (cvb hc8780)).trans z)) (ws_q (v := undef) 5 [6, 7, 8, 9, 10, 11, 12, 13, 14, 15, 16] (by kernel_rfl) z z (yi_off ((wanted_eq z z z (cvb hc8780)).trans z)) (ws_q (v := undef) 6 [7, 8, 9, 10, 11, 12, 13, 14, 15, 16] (by kernel_rfl) z z (yi_off ((wanted_eq z z z (cvb hc8780)).trans z)) (ws_q (v := undef) 7 [8, 9, 10, 11, 12, 13, 14, 15, 16] (by kernel_rfl) z z (yi_off ((wanted_eq z z z (cvb hc8780)).trans z)) (ws_q (v := undef) 8 [9, 10, 11, 12, 13, 14, 15, 16] (by kernel_rfl) z z (yi_off ((wanted_eq z z z (cvb hc8780)).trans z)) (ws_q (v := undef) 9 [10, 11, 12, 13, 14, 15, 16] (by kernel_rfl) z z (yi_off ((wanted_eq z z z (cvb hc8780)).trans z)) (ws_q (v := undef) 10 [11, 12, 13, 14, 15, 16] (by kernel_rfl) z z (yi_off ((wanted_eq z z z (cvb hc8780)).trans z)) (ws_q (v := undef) 11 [12, 13, 14, 15, 16] (by kernel_rfl) z z (yi_off ((wanted_eq z z z (cvb hc8780)).trans z)) (ws_q (v := undef) 12 [13, 14, 15, 16] (by kernel_rfl) z z (yi_off ((wanted_eq z z z (cvb hc8780)).trans z)) (ws_q (v := undef) 13 [14, 15, 16] (by kernel_rfl) z z (yi_off ((wanted_eq z z z (cvb hc8780)).trans z)) (ws_q (v := undef) 14 [15, 16] (by kernel_rfl) z z (yi_off ((wanted_eq z z z (cvb hc8780)).trans z)) (ws_q (v := undef) 15 [16] (by kernel_rfl) z z (yi_off ((wanted_eq z z z (cvb hc8780)).trans z)) (wsr (.bool false) 16 z z z (by kernel_rfl) (fun w hst => x_pick_f hc8780 z z) ?_))))))))))))
 refine ws_nil ?_
 intro w hst
 refine tn ?_
 refine wp_iff z ?_
 refine wp_exit (then_x (then_x ?_))
 replace hm := inr_up hm hx8778
 refine blk_x (blk_n (tn (wrl ?_)))
 refine wv (.int .i64 z8647) z z z (wv (.int .i64 (i64.wrap (z8647 + (1:Int)))) z z z (wv (.int .i64 (i64.wrap (z8647 + (1:Int)))) z z z (wl_nil (tn ?_))))
 replace hst := hst.pull7.pull7.pull7.pull7.pull7.pull7.pull7.pull7.keep8
 obtain rfl := some_inj hm
 exact ⟨_, Nat.lt_succ_self _, (i64.wrap (z8647 + (1:Int))), z8771, _, hx8655, (fu 0 v7168 z (fu 1 (.int .i64 z8277) z (fu 2 (.int .i64 z8278) z (fu 3 (.func (.func 48) #[] #[Pt b5496 0]) z (fu 8 (.int .i64 (i64.wrap (z8647 + (1:Int)))) z z))))), hst⟩
}
}
 {
 replace hm := bif_f hc8657 hm
 refine wp_iff (cvb hc8657) ?_
 refine wp_exit (then_x (then_x ?_))
 replace hm := inr_up hm hx8655
 refine blk_x ?_
 refine post_end (vs := []) results59 rvs_nil ?_
 replace hst := hst.pull6.pull6.pull6.pull6.pull6.pull6.pull6.pull7.keep8
 obtain rfl := some_inj hm
 exact ⟨z8648, z, z, hst⟩
}
}
 clear hst
 rintro _ w8839 ⟨z8835, rfl, rfl, hst⟩
 refine ⟨_, z, ?_⟩
 try dsimp only at hm
 refine wl_nil (tn (wp_seq (wrl (wv (.int .i64 z8278) z z z (wv (.int .i64 z8278) z z z (wl_nil (tn (wrl (wv (.int .i64 z8278) z z z (wv (.int .i64 (20:Int)) z z z (wv (.int .i64 (i64.wrap (z8278 + (20:Int)))) z z z (wv (.int .i64 (i64.wrap (z8278 + (20:Int)))) z z z (wl_nil (blk_n (tn ?_)))))))))))))))
 replace hst := hst.pull7.pull7.pull7.pull7.pull7.pull7.pull7.keep8
 obtain rfl := some_inj hm
 exact ⟨_, Nat.lt_succ_self _, z8278, (i64.wrap (z8278 + (20:Int))), z8835, _, hx8286, (fu 0 v7168 z (fu 1 (.int .i64 ((z7149.all).length : Int)) z (fu 2 (.func (.func 48) #[] #[Pt b5496 0]) z (fu 6 (.int .i64 (20:Int)) z (fu 7 (.int .i64 z8278) z (fu 8 (.int .i64 (i64.wrap (z8278 + (20:Int)))) z z)))))), hst⟩
}
 {
 replace hm := bif_f hc8288 hm
 refine wp_iff (cvb hc8288) ?_
 refine wp_exit (then_x (then_x ?_))
 replace hm := inr_up hm hx8286
 refine blk_x (tn ?_)
 replace hst := hst.pull5.pull5.pull5.pull5.pull5.pull5.pull7.pull7.keep8
 obtain rfl := some_inj hm
 exact ⟨z8279, z8277, _, hx8845, (fu 0 v7168 z (fu 1 (.int .i64 ((z7149.all).length : Int)) z (fu 2 (.func (.func 48) #[] #[Pt b5496 0]) z (fu 6 (.int .i64 (20:Int)) z (fu 7 (.int .i64 z8277) z z))))), hst⟩
}
}
 {
 clear hst
 rintro _ w8846 ⟨z8840, z8841, σ8842, hm, rfl, hst⟩
 dsimp only [label_New_j9] at hm
 refine wp_seq (wrl (wv (v7168) z z z (wv (.int .i64 z8841) z z z (wv (.int .i64 ((z7149.all).length : Int)) z z z (wv (.func (.func 48) #[] #[Pt b5496 0]) z z z ?_)))))
 obtain ⟨y9395, hq9396, hm⟩ := bind_some hm
 refine wl_call z z (x_callv call59 (caps := []) z (vs := [v7168, I6 z8841, I6 ((z7149.all).length : Int), .func (.func 48) #[] #[Pt b5496 0]]) z) ?_
 refine Calls.mono (show Calls prog 59 #[v7168, I6 z8841, I6 ((z7149.all).length : Int), .func (.func 48) #[] #[Pt b5496 0]] _ (fun e w' => ∃ (z9393 : (List Int)), z9393 = y9395 ∧ e = .returned (.tuple #[]) ∧ St w0 w' I7150 [cells b5496 [Pt b7157 0], cells b7157 [v7158, v7160, v7162, v7164, v7166, v7168], ownS (tyInt .u64) v7158 z7149.up, ownS (tyInt .u64) v7160 z7149.down, ownS (tySl (tyInt .i64)) v7162 z7149.join, ownS (tySl (tyInt .i64)) v7164 z7149.meet, ownS (tyInt .i64) v7166 z7149.rank, ownS (tyInt .i64) v7168 z9393] R) from ?_) ?_
 {
 clear hm; have hm := hq9396
 refine calls_start (args := [v7168, I6 z8841, I6 ((z7149.all).length : Int), .func (.func 48) #[] #[Pt b5496 0]]) func59 z ntmps59 (Nat.le_of_ble_eq_true z) ?_
 refine wp_seq (wrl (wv (.int .i64 z8841) z z z (wv (.int .i64 (i64.wrap (z8841 + (1:Int)))) z z z (wv (.int .i64 (i64.wrap (z8841 + (1:Int)))) z z z (wl_nil (tn (wp_block ?_)))))))
 obtain ⟨n9208, hm⟩ := loopO_some hm
 refine wp_loop_n (fun n a w => ∃ (z9205 : Int) (z9206 : (List Int)) (σ9207 : Nat → Value), loopN (label_New_l13 z7149 z8841) n (z9205, z9206) = some y9395 ∧ a = Fr 53 (upd (upd (upd (upd (upd σ9207 0 (v7168)) 1 (.int .i64 z8841)) 2 (.int .i64 ((z7149.all).length : Int))) 3 (.func (.func 48) #[] #[Pt b5496 0])) 8 (.int .i64 z9205)) ∧ St w0 w I7150 [ownS (tyInt .i64) v7168 z9206, cells b5496 [Pt b7157 0], cells b7157 [v7158, v7160, v7162, v7164, v7166, v7168], ownS (tyInt .u64) v7158 z7149.up, ownS (tyInt .u64) v7160 z7149.down, ownS (tySl (tyInt .i64)) v7162 z7149.join, ownS (tySl (tyInt .i64)) v7164 z7149.meet, ownS (tyInt .i64) v7166 z7149.rank] R) n9208 ⟨(i64.wrap (z8841 + (1:Int))), z8840, _, hm, (fu 0 v7168 z (fu 1 (.int .i64 z8841) z (fu 2 (.int .i64 ((z7149.all).length : Int)) z (fu 3 (.func (.func 48) #[] #[Pt b5496 0]) z (fu 8 (.int .i64 (i64.wrap (z8841 + (1:Int)))) z z))))), hst⟩ ?_
 rintro n9214 _ w9209 ⟨z9205, z9206, σ9207, hm, rfl, hst⟩
 obtain ⟨n9211, y9212, rfl, hm, hx9213⟩ := loopN_some hm
 dsimp only [label_New_l13] at hm
 refine wp_seq (wp_seq (wrl (wv (.int .i64 z9205) z z z (wv (.int .i64 ((z7149.all).length : Int)) z z z (wv (.bool (decide (z9205 < ((z7149.all).length : Int)))) z z z (wl_nil (tn ?_)))))))
 refine bsplit (decide (z9205 < ((z7149.all).length : Int))) (fun hc9215 => ?_) (fun hc9215 => ?_)
 {
 replace hm := bif_t hc9215 hm
 refine wp_ift (cvb hc9215) ?_
 refine wp_skip (tn (wp_seq (wp_block (wp_seq (wrl ?_)))))
 refine wv (.int .i64 z9205) z z z (wv (.int .i64 z9205) z z z (wl_nil (tn (wp_block ?_))))
 obtain ⟨n9331, hm⟩ := loopO_some hm
 refine wp_loop_n (fun n a w => ∃ (z9328 : Int) (z9329 : (List Int)) (σ9330 : Nat → Value), loopN (label_New_l14 z8841 z7149 z9205) n (z9328, z9329) = some y9212 ∧ a = Fr 53 (upd (upd (upd (upd (upd (upd σ9330 0 (v7168)) 1 (.int .i64 z8841)) 2 (.int .i64 ((z7149.all).length : Int))) 3 (.func (.func 48) #[] #[Pt b5496 0])) 8 (.int .i64 z9205)) 9 (.int .i64 z9328)) ∧ St w0 w I7150 [ownS (tyInt .i64) v7168 z9329, cells b5496 [Pt b7157 0], cells b7157 [v7158, v7160, v7162, v7164, v7166, v7168], ownS (tyInt .u64) v7158 z7149.up, ownS (tyInt .u64) v7160 z7149.down, ownS (tySl (tyInt .i64)) v7162 z7149.join, ownS (tySl (tyInt .i64)) v7164 z7149.meet, ownS (tyInt .i64) v7166 z7149.rank] R) n9331 ⟨z9205, z9206, _, hm, (fu 0 v7168 z (fu 1 (.int .i64 z8841) z (fu 2 (.int .i64 ((z7149.all).length : Int)) z (fu 3 (.func (.func 48) #[] #[Pt b5496 0]) z (fu 8 (.int .i64 z9205) z (fu 9 (.int .i64 z9205) z z)))))), hst⟩ ?_
 rintro n9337 _ w9332 ⟨z9328, z9329, σ9330, hm, rfl, hst⟩
 obtain ⟨n9334, y9335, rfl, hm, hx9336⟩ := loopN_some hm
 dsimp only [label_New_l14] at hm
 refine wp_seq (wp_seq ?_)
 refine wp_region_St hst 17 [0, 1, 2, 3, 4, 5, 6, 7, 8, 9, 10, 11, 12, 13, 14, 15, 16] [0, 0, 3, 7, 15, 15, 15, 111, 239, 15, 15, 1039, 3599, 7695, 16383, 32767, 65535] [] z (by kernel_rfl) (by kernel_rfl) Try.mixed (by kernel_rfl) ?_
 refine wsr (.int .i64 z9328) 0 z z z (by kernel_rfl) (fun w hst => z) (wsr (.int .i64 z8841) 1 z z z (by kernel_rfl) (fun w hst => z) (wsr (.bool (decide (z9328 > z8841))) 2 z z z (by kernel_rfl) (fun w hst => z) (wsr (.bool (decide (z9328 > z8841))) 3 z z z (by kernel_rfl) (fun w hst => z) ?_)))
 refine bsplit (decide (z9328 > z8841)) (fun hc9338 => ?_) (fun hc9338 => ?_)
 {
 replace hm := bif_t hc9338 hm
 refine ws_q (v := .func (.func 48) #[] #[Pt b5496 0]) 4 [5, 6, 7, 8, 9, 10, 11, 12, 13, 14, 15, 16] (by kernel_rfl) z z (yi_run ((wanted_eq z z z (cvb hc9338)).trans z) (fun w hst => z)) (ws_q (v := v7168) 5 [6, 7, 8, 9, 10, 11, 12, 13, 14, 15, 16] (by kernel_rfl) z z (yi_run ((wanted_eq z z z (cvb hc9338)).trans z) (fun w hst => z)) (ws_q (v := .int .i64 z9328) 6 [7, 8, 9, 10, 11, 12, 13, 14, 15, 16] (by kernel_rfl) z z (yi_run ((wanted_eq z z z (cvb hc9338)).trans z) (fun w hst => z)) ?_))
 obtain ⟨x9339, hx9340, hm⟩ := bind_some hm
 obtain ⟨h9341, h9342, hi9343⟩ := geto_some hx9340
 refine ws_q (v := .pointer (some (eAddr v7168 (z9328.toNat * 1 + 0)))) 7 [8, 9, 10, 11, 12, 13, 14, 15, 16] (by kernel_rfl) z z (yi_run ((wanted_eq z z z (cvb hc9338)).trans z) (fun w hst => x_index z z underlying46 sizeOf3 hst.sv0 h9341 h9342)) (ws_q (v := .int .i64 x9339) 8 [9, 10, 11, 12, 13, 14, 15, 16] (by kernel_rfl) z z (yi_run ((wanted_eq z z z (cvb hc9338)).trans z) (fun w hst => x_load z isAgg3 (hst.ol0 hi9343 (by rintro _ rfl; rfl)))) (ws_q (v := v7168) 9 [10, 11, 12, 13, 14, 15, 16] (by kernel_rfl) z z (yi_run ((wanted_eq z z z (cvb hc9338)).trans z) (fun w hst => z)) (ws_q (v := .int .i64 z9328) 10 [11, 12, 13, 14, 15, 16] (by kernel_rfl) z z (yi_run ((wanted_eq z z z (cvb hc9338)).trans z) (fun w hst => z)) (ws_q (v := .int .i64 (i64.wrap (z9328 - (1:Int)))) 11 [12, 13, 14, 15, 16] (by kernel_rfl) z z (yi_run ((wanted_eq z z z (cvb hc9338)).trans z) (fun w hst => z)) ?_))))
 obtain ⟨x9344, hx9345, hm⟩ := bind_some hm
 obtain ⟨h9346, h9347, hi9348⟩ := geto_some hx9345
 refine ws_q (v := .pointer (some (eAddr v7168 ((i64.wrap (z9328 - (1:Int))).toNat * 1 + 0)))) 12 [13, 14, 15, 16] (by kernel_rfl) z z (yi_run ((wanted_eq z z z (cvb hc9338)).trans z) (fun w hst => x_index z z underlying46 sizeOf3 hst.sv0 h9346 h9347)) (ws_q (v := .int .i64 x9344) 13 [14, 15, 16] (by kernel_rfl) z z (yi_run ((wanted_eq z z z (cvb hc9338)).trans z) (fun w hst => x_load z isAgg3 (hst.ol0 hi9348 (by rintro _ rfl; rfl)))) ?_)
 refine ws_e1 14 (by kernel_rfl) ?_
 refine nxe [15, 16] (by kernel_rfl) z ((wanted_eq z z z (cvb hc9338)).trans z) ?_
 clear hst
 intro w hst
 obtain ⟨y9376, hq9377, hm⟩ := bind_some hm
 refine we_call z (x_callv call48 (caps := [Pt b5496 0]) z (vs := [I6 x9339, I6 x9344]) z) ?_
 refine Calls.mono (show Calls prog 48 #[I6 x9339, I6 x9344, Pt b5496 0] _ (fun e w' => ∃ (z9374 : Int), z9374 = y9376 ∧ e = .returned (.int .i64 z9374) ∧ St w0 w' I7150 [cells b5496 [Pt b7157 0], cells b7157 [v7158, v7160, v7162, v7164, v7166, v7168], ownS (tyInt .u64) v7158 z7149.up, ownS (tyInt .u64) v7160 z7149.down, ownS (tySl (tyInt .i64)) v7162 z7149.join, ownS (tySl (tyInt .i64)) v7164 z7149.meet, ownS (tyInt .i64) v7166 z7149.rank, ownS (tyInt .i64) v7168 z9329] R) from ?_) ?_
 {
 clear hm; have hm := hq9377
 refine calls_start (args := [I6 x9339, I6 x9344, Pt b5496 0]) func48 z ntmps48 (Nat.le_of_ble_eq_true z) ?_
 refine wp_seq (wrl (wv (.int .i64 (0:Int)) z z z (wl_nil (tn (wp_seq ?_)))))
 refine wp_region_St hst 18 [0, 1, 2, 3, 4, 5, 6, 7, 8, 9, 10, 11, 12, 13, 14, 15, 16, 17] [0, 1, 3, 7, 0, 31, 63, 127, 0, 256, 768, 1792, 0, 7936, 16128, 32767, 65535, 131071] [] z (by kernel_rfl) (by kernel_rfl) Try.mixed (by kernel_rfl) ?_
 refine wsr (Pt b7157 0) 0 z z z (by kernel_rfl) (fun w hst => x_load z isAgg60 (hst.bc1 z)) (wsr (Pt b7157 0) 1 z z z (by kernel_rfl) (fun w hst => z) (wsr (Pt b7157 1) 2 z z z (by kernel_rfl) (fun w hst => x_field z underlying73 z sizeOf25 z) (wsr (v7160) 3 z z z (by kernel_rfl) (fun w hst => x_load z isAgg25 (hst.bc2 z)) (wsr (.int .i64 x9339) 4 z z z (by kernel_rfl) (fun w hst => z) ?_))))
 obtain ⟨x9349, hx9350, hm⟩ := bind_some hm
 obtain ⟨h9351, h9352, hi9353⟩ := geto_some hx9350
 refine wsr (.pointer (some (eAddr v7160 (x9339.toNat * 1 + 0)))) 5 z z z (by kernel_rfl) (fun w hst => x_index z z underlying25 sizeOf22 hst.sv4 h9351 h9352) (wsr (.int .u64 x9349) 6 z z z (by kernel_rfl) (fun w hst => x_load z isAgg22 (hst.ol4 hi9353 (by rintro _ rfl; rfl))) (wsr (Pt b7157 0) 8 z z z (by kernel_rfl) (fun w hst => x_load z isAgg60 (hst.bc1 z)) (wsr (Pt b7157 0) 9 z z z (by kernel_rfl) (fun w hst => z) (wsr (Pt b7157 1) 10 z z z (by kernel_rfl) (fun w hst => x_field z underlying73 z sizeOf25 z) (wsr (v7160) 11 z z z (by kernel_rfl) (fun w hst => x_load z isAgg25 (hst.bc2 z)) (wsr (.int .i64 x9344) 12 z z z (by kernel_rfl) (fun w hst => z) ?_))))))
 obtain ⟨x9354, hx9355, hm⟩ := bind_some hm
 obtain ⟨h9356, h9357, hi9358⟩ := geto_some hx9355
 refine wsr (.pointer (some (eAddr v7160 (x9344.toNat * 1 + 0)))) 13 z z z (by kernel_rfl) (fun w hst => x_index z z underlying25 sizeOf22 hst.sv4 h9356 h9357) (wsr (.int .u64 x9354) 14 z z z (by kernel_rfl) (fun w hst => x_load z isAgg22 (hst.ol4 hi9358 (by rintro _ rfl; rfl))) ?_)
 refine ws_e1 7 (by kernel_rfl) ?_
 refine nxe [15, 16, 17] (by kernel_rfl) z z ?_
 clear hst
 intro w hst
 obtain ⟨t9359, ht9360, hm⟩ := bind_some hm
 refine wec call32 [U6 x9349] z z ?_
 refine (math_bits_OnesCount64_ref hst.to0 ht9360).mono ?_
 rintro _ w9361 ⟨rfl, hst⟩
 refine ⟨_, z, ?_⟩
 replace hst := hst.of0
 refine ws_next (pend' := [(14, U6 x9354), (13, .pointer (some (eAddr v7160 (x9344.toNat * 1 + 0)))), (12, I6 x9344), (11, v7160), (10, Pt b7157 1), (9, Pt b7157 0), (8, Pt b7157 0)]) hst (by kernel_rfl) (pkr z z (fun w hst => x_load z isAgg22 (hst.ol4 hi9358 (by rintro _ rfl; rfl))) (pkr z z (fun w hst => x_index z z underlying25 sizeOf22 hst.sv4 h9356 h9357) (pkr z z (fun w hst => z) (pkr z z (fun w hst => x_load z isAgg25 (hst.bc2 z)) (pkr z z (fun w hst => x_field z underlying73 z sizeOf25 z) (pkr z z (fun w hst => z) (pkr z z (fun w hst => x_load z isAgg60 (hst.bc1 z)) pk_nil))))))) ?_
 refine ws_e1 15 (by kernel_rfl) ?_
 refine nxe [16, 17] (by kernel_rfl) z z ?_
 clear hst
 intro w hst
 obtain ⟨t9364, ht9365, hm⟩ := bind_some hm
 refine wec call32 [U6 x9354] z z ?_
 refine (math_bits_OnesCount64_ref hst.to0 ht9365).mono ?_
 rintro _ w9366 ⟨rfl, hst⟩
 refine ⟨_, z, ?_⟩
 replace hst := hst.of0
 refine ws_next (pend' := []) hst (by kernel_rfl) pk_nil ?_
 refine ws_e1 16 (by kernel_rfl) ?_
 refine nxe [17] (by kernel_rfl) z z ?_
 clear hst
 intro w hst
 obtain ⟨t9369, ht9370, hm⟩ := bind_some hm
 refine wec call49 [I6 t9359, I6 t9364] z z ?_
 refine (cmp_Compare_int_ref hst.to0 ht9370).mono ?_
 rintro _ w9371 ⟨rfl, hst⟩
 refine ⟨_, z, ?_⟩
 replace hst := hst.of0
 refine ws_next (pend' := []) hst (by kernel_rfl) pk_nil ?_
 refine wsr (.int .i64 t9369) 17 z z z (by kernel_rfl) (fun w hst => z) ?_
 refine ws_nil ?_
 intro w hst
 refine tn (wp_ret ?_)
 refine post_ret (vs := [I6 t9369]) results48 (rvs_cons (rv_tmp z) rvs_nil) ?_
 replace hst := hst.pull7.pull7.pull7.pull7.pull7.pull7.pull7.keep8
 obtain rfl := some_inj hm
 exact ⟨t9369, z, z, hst⟩
}
 clear hst
 rintro _ w9378 ⟨z9374, rfl, rfl, hst⟩
 refine ⟨_, z, ?_⟩
 try dsimp only at hm
 refine ws_next (pend' := []) hst (by kernel_rfl) pk_nil ?_
 refine ws_q (v := .bool (decide (z9374 < (0:Int)))) 15 [16] (by kernel_rfl) z z (yi_run ((wanted_eq z z z (cvb hc9338)).trans z) (fun w hst => z)) (wsr (.bool (decide (z9374 < (0:Int)))) 16 z z z (by kernel_rfl) (fun w hst => x_pick_t hc9338 z z) ?_)
 refine ws_nil ?_
 intro w hst
 refine tn ?_
 refine bsplit (decide (z9374 < (0:Int))) (fun hc9379 => ?_) (fun hc9379 => ?_)
 {
 replace hm := bif_t hc9379 hm
 refine wp_ift (cvb hc9379) ?_
 refine wp_skip (tn (wp_seq (wp_block ?_)))
 refine wp_region_St hst 18 [0, 1, 2, 3, 4, 5, 6, 7, 8, 9, 10, 11, 12, 13, 14, 15, 16, 17] [0, 0, 0, 0, 8, 0, 0, 64, 224, 480, 0, 0, 3072, 7168, 16355, 32739, 65535, 131071] [] z (by kernel_rfl) (by kernel_rfl) Try.mixed (by kernel_rfl) ?_
 refine wsr (v7168) 0 z z z (by kernel_rfl) (fun w hst => z) (wsr (.int .i64 z9328) 1 z z z (by kernel_rfl) (fun w hst => z) (wsr (v7168) 2 z z z (by kernel_rfl) (fun w hst => z) (wsr (.int .i64 z9328) 3 z z z (by kernel_rfl) (fun w hst => z) (wsr (.int .i64 (i64.wrap (z9328 - (1:Int)))) 4 z z z (by kernel_rfl) (fun w hst => z) (wsr (v7168) 5 z z z (by kernel_rfl) (fun w hst => z) (wsr (.int .i64 z9328) 6 z z z (by kernel_rfl) (fun w hst => z) (wsr (.int .i64 (i64.wrap (z9328 - (1:Int)))) 7 z z z (by kernel_rfl) (fun w hst => z) (wsr (.pointer (some (eAddr v7168 ((i64.wrap (z9328 - (1:Int))).toNat * 1 + 0)))) 8 z z z (by kernel_rfl) (fun w hst => x_index z z underlying46 sizeOf3 hst.sv7 h9346 h9347) (wsr (.int .i64 x9344) 9 z z z (by kernel_rfl) (fun w hst => x_load z isAgg3 (hst.ol7 hi9348 (by rintro _ rfl; rfl))) (wsr (v7168) 10 z z z (by kernel_rfl) (fun w hst => z) (wsr (.int .i64 z9328) 11 z z z (by kernel_rfl) (fun w hst => z) (wsr (.pointer (some (eAddr v7168 (z9328.toNat * 1 + 0)))) 12 z z z (by kernel_rfl) (fun w hst => x_index z z underlying46 sizeOf3 hst.sv7 h9341 h9342) ?_))))))))))))
 refine wsr (.int .i64 x9339) 13 z z z (by kernel_rfl) (fun w hst => x_load z isAgg3 (hst.ol7 hi9343 (by rintro _ rfl; rfl))) (wsr (.pointer (some (eAddr v7168 (z9328.toNat * 1 + 0)))) 14 z z z (by kernel_rfl) (fun w hst => x_index z z underlying46 sizeOf3 hst.sv7 h9341 h9342) ?_)
 refine ws_e1 15 (by kernel_rfl) ?_
 refine nxe [16, 17] (by kernel_rfl) z z ?_
 clear hst
 intro w hst
 replace hst := hst.pull7
 obtain ⟨w9380, hr9381, hst⟩ := hst.own_store (P := prog) (t := 3) (y := x9344) hi9343 0 (.int .i64 x9344) sizeOf3 (Nat.le_of_ble_eq_true z) (oC z oN) (by rintro _ rfl; rfl)
 have hi9382 := set_get hi9343 x9344
 have h9383 := set_lt h9342 z9328.toNat x9344
 refine we_unit z (x_unit hr9381) ?_
 refine ws_next (pend' := [(4, I6 (i64.wrap (z9328 - (1:Int)))), (3, I6 z9328), (2, v7168)]) hst (by kernel_rfl) (pkr z z (fun w hst => z) (pkr z z (fun w hst => z) (pkr z z (fun w hst => z) pk_nil))) ?_
 obtain ⟨x9384, hx9385, hm⟩ := bind_some hm
 obtain ⟨h9386, h9387, hi9388⟩ := geto_some hx9385
 refine wsr (.pointer (some (eAddr v7168 ((i64.wrap (z9328 - (1:Int))).toNat * 1 + 0)))) 16 z z z (by kernel_rfl) (fun w hst => x_index z z underlying46 sizeOf3 hst.sv0 h9386 h9387) ?_
 refine ws_e1 17 (by kernel_rfl) ?_
 refine nxe [] (by kernel_rfl) z z ?_
 clear hst
 intro w hst
 obtain ⟨w9389, hr9390, hst⟩ := hst.own_store (P := prog) (t := 3) (y := x9339) hi9388 0 (.int .i64 x9339) sizeOf3 (Nat.le_of_ble_eq_true z) (oC z oN) (by rintro _ rfl; rfl)
 have hi9391 := set_get hi9388 x9339
 have h9392 := set_lt h9387 (i64.wrap (z9328 - (1:Int))).toNat x9339
 refine we_unit z (x_unit hr9390) ?_
 refine ws_next (pend' := []) hst (by kernel_rfl) pk_nil ?_
 refine ws_nil ?_
 intro w hst
 refine blk_n (tn (wrl ?_))
 refine wv (.int .i64 z9328) z z z (wv (.int .i64 (i64.wrap (z9328 - (1:Int)))) z z z (wv (.int .i64 (i64.wrap (z9328 - (1:Int)))) z z z (wl_nil (tn ?_))))
 replace hst := hst.pull7.pull7.pull7.pull7.pull7.pull7.pull7.pull7.keep8
 obtain rfl := some_inj hm
 exact ⟨_, Nat.lt_succ_self _, (i64.wrap (z9328 - (1:Int))), ((z9329.set z9328.toNat x9344).set (i64.wrap (z9328 - (1:Int))).toNat x9339), _, hx9336, (fu 0 v7168 z (fu 1 (.int .i64 z8841) z (fu 2 (.int .i64 ((z7149.all).length : Int)) z (fu 3 (.func (.func 48) #[] #[Pt b5496 0]) z (fu 8 (.int .i64 z9205) z (fu 9 (.int .i64 (i64.wrap (z9328 - (1:Int)))) z z)))))), hst⟩
}
 {
 replace hm := bif_f hc9379 hm
 refine wp_iff (cvb hc9379) ?_
 refine wp_exit (then_x (then_x ?_))
 replace hm := inr_up hm hx9336
 refine blk_x (blk_n (tn (wrl ?_)))
 refine wv (.int .i64 z9205) z z z (wv (.int .i64 (i64.wrap (z9205 + (1:Int)))) z z z (wv (.int .i64 (i64.wrap (z9205 + (1:Int)))) z z z (wl_nil (tn ?_))))
 replace hst := hst.pull6.pull6.pull6.pull6.pull6.pull6.pull6.pull7.keep8
 obtain rfl := some_inj hm
 exact ⟨_, Nat.lt_succ_self _, (i64.wrap (z9205 + (1:Int))), z9329, _, hx9213, (fu 0 v7168 z (fu 1 (.int .i64 z8841) z (fu 2 (.int .i64 ((z7149.all).length : Int)) z (fu 3 (.func (.func 48) #[] #[Pt b5496 0]) z (fu 8 (.int .i64 (i64.wrap (z9205 + (1:Int)))) z z))))), hst⟩
}
}
 {
 replace hm := bif_f hc9338 hm
 refine ws_q (v := undef) 4 [5, 6, 7, 8, 9, 10, 11, 12, 13, 14, 15, 16] (by kernel_rfl) z z (yi_off ((wanted_eq z z z (cvb hc9338)).trans z)) (ws_q (v := undef) 5 [6, 7, 8, 9, 10, 11, 12, 13, 14, 15, 16] (by kernel_rfl) z z (yi_off ((wanted_eq z z z (cvb hc9338)).trans z)) (ws_q (v := undef) 6 [7, 8, 9, 10, 11, 12, 13, 14, 15, 16] (by kernel_rfl) z z (yi_off ((wanted_eq z z z (cvb hc9338)).trans z)) (ws_q (v := undef) 7 [8, 9, 10, 11, 12, 13, 14, 15, 16] (by kernel_rfl) z z (yi_off ((wanted_eq z z z (cvb hc9338)).trans z)) (ws_q (v := undef) 8 [9, 10, 11, 12, 13, 14, 15, 16] (by kernel_rfl) z z (yi_off ((wanted_eq z z z (cvb hc9338)).trans z)) (ws_q (v := undef) 9 [10, 11, 12, 13, 14, 15, 16] (by kernel_rfl) z z (yi_off ((wanted_eq z z z (cvb hc9338)).trans z)) (ws_q (v := undef) 10 [11, 12, 13, 14, 15, 16] (by kernel_rfl) z z (yi_off ((wanted_eq z z z (cvb hc9338)).trans z)) (ws_q (v := undef) 11 [12, 13, 14, 15, 16] (by kernel_rfl) z z (yi_off ((wanted_eq z z z (cvb hc9338)).trans z)) (ws_q (v := undef) 12 [13, 14, 15, 16] (by kernel_rfl) z z (yi_off ((wanted_eq z z z (cvb hc9338)).trans z)) (ws_q (v := undef) 13 [14, 15, 16] (by kernel_rfl) z z (yi_off ((wanted_eq z z z (cvb hc9338)).trans z)) (ws_q (v := undef) 14 [15, 16] (by kernel_rfl) z z (yi_off ((wanted_eq z z z (cvb hc9338)).trans z)) (ws_q (v := undef) 15 [16] (by kernel_rfl) z z (yi_off ((wanted_eq z z z (cvb hc9338)).trans z)) (wsr (.bool false) 16 z z z (by kernel_rfl) (fun w hst => x_pick_f hc9338 z z) ?_))))))))))))
 refine ws_nil ?_
 intro w hst
 refine tn ?_
 refine wp_iff z ?_
 refine wp_exit (then_x (then_x ?_))
 replace hm := inr_up hm hx9336
 refine blk_x (blk_n (tn (wrl ?_)))
 refine wv (.int .i64 z9205) z z z (wv (.int .i64 (i64.wrap (z9205 + (1:Int)))) z z z (wv (.int .i64 (i64.wrap (z9205 + (1:Int)))) z z z (wl_nil (tn ?_))))
 replace hst := hst.pull7.pull7.pull7.pull7.pull7.pull7.pull7.pull7.keep8
 obtain rfl := some_inj hm
 exact ⟨_, Nat.lt_succ_self _, (i64.wrap (z9205 + (1:Int))), z9329, _, hx9213, (fu 0 v7168 z (fu 1 (.int .i64 z8841) z (fu 2 (.int .i64 ((z7149.all).length : Int)) z (fu 3 (.func (.func 48) #[] #[Pt b5496 0]) z (fu 8 (.int .i64 (i64.wrap (z9205 + (1:Int)))) z z))))), hst⟩
}
}
 {
 replace hm := bif_f hc9215 hm
 refine wp_iff (cvb hc9215) ?_
 refine wp_exit (then_x (then_x ?_))
 replace hm := inr_up hm hx9213
 refine blk_x ?_
 refine post_end (vs := []) results59 rvs_nil ?_
 replace hst := hst.pull7.pull7.pull7.pull7.pull7.pull7.pull7.keep8
 obtain rfl := some_inj hm
 exact ⟨z9206, z, z, hst⟩
}
}
 clear hst
 rintro _ w9397 ⟨z9393, rfl, rfl, hst⟩
 refine ⟨_, z, ?_⟩
 try dsimp only at hm
 refine wl_nil (tn (wp_block ?_))
 obtain ⟨n9435, hm⟩ := loopO_some hm
 refine wp_loop_n (fun n a w => ∃ (z9433 : Int) (σ9434 : Nat → Value), loopN (label_New_l15 z7149 z9393) n z9433 = some y9461 ∧ a = Fr 63 (upd (upd (upd (upd σ9434 0 (v7168)) 1 (.int .i64 ((z7149.all).length : Int))) 2 (.func (.func 48) #[] #[Pt b5496 0])) 6 (.int .i64 z9433)) ∧ St w0 w I7150 [cells b5496 [Pt b7157 0], cells b7157 [v7158, v7160, v7162, v7164, v7166, v7168], ownS (tyInt .u64) v7158 z7149.up, ownS (tyInt .u64) v7160 z7149.down, ownS (tySl (tyInt .i64)) v7162 z7149.join, ownS (tySl (tyInt .i64)) v7164 z7149.meet, ownS (tyInt .i64) v7166 z7149.rank, ownS (tyInt .i64) v7168 z9393] R) n9435 ⟨(20:Int), _, hm, (fu 0 v7168 z (fu 1 (.int .i64 ((z7149.all).length : Int)) z (fu 2 (.func (.func 48) #[] #[Pt b5496 0]) z (fu 6 (.int .i64 (20:Int)) z z)))), hst⟩ ?_
 rintro n9441 _ w9436 ⟨z9433, σ9434, hm, rfl, hst⟩
 obtain ⟨n9438, y9439, rfl, hm, hx9440⟩ := loopN_some hm
 dsimp only [label_New_l15] at hm
 refine wp_seq (wp_seq (wrl (wv (.int .i64 z9433) z z z (wv (.int .i64 ((z7149.all).length : Int)) z z z (wv (.bool (decide (z9433 < ((z7149.all).length : Int)))) z z z (wl_nil (tn ?_)))))))
 refine bsplit (decide (z9433 < ((z7149.all).length : Int))) (fun hc9442 => ?_) (fun hc9442 => ?_)
 {
 replace hm := bif_t hc9442 hm
 refine wp_ift (cvb hc9442) ?_
 refine wp_skip (tn (wp_block (wp_seq (wrl ?_))))
 refine wv (.int .i64 z9433) z z z (wv (.int .i64 (i64.wrap ((2:Int) * z9433))) z z z (wv (.int .i64 (0:Int)) z z z (wv (.int .i64 (i64.wrap ((2:Int) * z9433))) z z z (wl_nil (tn ?_)))))
 obtain ⟨y9455, hm, hx9456⟩ := bind_some hm
 refine wp_cut (fun a w => ∃ (σ9453 : Nat → Value), (label_New_j16 z9433 z7149) () = some y9439 ∧ a = Fr 63 (upd (upd (upd (upd (upd σ9453 0 (v7168)) 1 (.int .i64 ((z7149.all).length : Int))) 2 (.func (.func 48) #[] #[Pt b5496 0])) 6 (.int .i64 z9433)) 7 (.int .i64 (0:Int))) ∧ St w0 w I7150 [ownS (tyInt .i64) v7168 z9393, cells b5496 [Pt b7157 0], cells b7157 [v7158, v7160, v7162, v7164, v7166, v7168], ownS (tyInt .u64) v7158 z7149.up, ownS (tyInt .u64) v7160 z7149.down, ownS (tySl (tyInt .i64)) v7162 z7149.join, ownS (tySl (tyInt .i64)) v7164 z7149.meet, ownS (tyInt .i64) v7166 z7149.rank] R) ?_ ?_
 {
 refine wp_block ?_
 obtain ⟨n9445, hm⟩ := loopO_some hm
 refine wp_loop_n (fun n a w => ∃ (σ9444 : Nat → Value), loopN (label_New_l17 z9433 z7149) n () = some y9455 ∧ a = Fr 63 (upd (upd (upd (upd (upd (upd σ9444 0 (v7168)) 1 (.int .i64 ((z7149.all).length : Int))) 2 (.func (.func 48) #[] #[Pt b5496 0])) 6 (.int .i64 z9433)) 7 (.int .i64 (0:Int))) 8 (.int .i64 (i64.wrap ((2:Int) * z9433)))) ∧ St w0 w I7150 [cells b5496 [Pt b7157 0], cells b7157 [v7158, v7160, v7162, v7164, v7166, v7168], ownS (tyInt .u64) v7158 z7149.up, ownS (tyInt .u64) v7160 z7149.down, ownS (tySl (tyInt .i64)) v7162 z7149.join, ownS (tySl (tyInt .i64)) v7164 z7149.meet, ownS (tyInt .i64) v7166 z7149.rank, ownS (tyInt .i64) v7168 z9393] R) n9445 ⟨_, hm, (fu 0 v7168 z (fu 1 (.int .i64 ((z7149.all).length : Int)) z (fu 2 (.func (.func 48) #[] #[Pt b5496 0]) z (fu 6 (.int .i64 z9433) z (fu 7 (.int .i64 (0:Int)) z (fu 8 (.int .i64 (i64.wrap ((2:Int) * z9433))) z z)))))), hst⟩ ?_
 rintro n9451 _ w9446 ⟨σ9444, hm, rfl, hst⟩
 obtain ⟨n9448, y9449, rfl, hm, hx9450⟩ := loopN_some hm
 dsimp only [label_New_l17] at hm
 refine wp_seq (wp_seq (wrl (wv (.int .i64 (i64.wrap ((2:Int) * z9433))) z z z (wv (.int .i64 ((z7149.all).length : Int)) z z z (wv (.bool (decide ((i64.wrap ((2:Int) * z9433)) ≤ ((z7149.all).length : Int)))) z z z (wl_nil (tn ?_)))))))
 refine bsplit (decide ((i64.wrap ((2:Int) * z9433)) ≤ ((z7149.all).length : Int))) (fun hc9452 => ?_) (fun hc9452 => ?_)
 {
 replace hm := bif_t hc9452 hm
 refine wp_ift (cvb hc9452) ?_
 refine wp_skip (tn (wp_block (wp_seq (wrl ?_))))
 refine wv (v7168) z z z (wv (.int .i64 (0:Int)) z z z (wv (.int .i64 (0:Int)) z z z (wv (.int .i64 z9433) z z z (wv (.int .i64 (i64.wrap ((0:Int) + z9433))) z z z (wv (.int .i64 (i64.wrap ((2:Int) * z9433))) z z z (wv (.func (.func 48) #[] #[Pt b5496 0]) z z z ?_))))))
 cases hm
}
 {
 replace hm := bif_f hc9452 hm
 refine wp_iff (cvb hc9452) ?_
 refine wp_exit (then_x (then_x ?_))
 replace hm := inr_up hm hx9450
 refine blk_x (tn ?_)
 replace hst := hst.pull6.pull6.pull6.pull6.pull6.pull6.pull6.pull7.keep8
 obtain rfl := some_inj hm
 exact ⟨_, hx9456, (fu 0 v7168 z (fu 1 (.int .i64 ((z7149.all).length : Int)) z (fu 2 (.func (.func 48) #[] #[Pt b5496 0]) z (fu 6 (.int .i64 z9433) z (fu 7 (.int .i64 (0:Int)) z z))))), hst⟩
}
}
 {
 clear hst
 rintro _ w9457 ⟨σ9453, hm, rfl, hst⟩
 dsimp only [label_New_j16] at hm
 refine wp_seq (wp_seq (wrl (wv (.int .i64 (0:Int)) z z z (wv (.int .i64 z9433) z z z (wv (.int .i64 (i64.wrap ((0:Int) + z9433))) z z z (wv (.int .i64 (i64.wrap ((0:Int) + z9433))) z z z (wl_nil (tn (wp_seq (wrl (wv (.int .i64 (i64.wrap ((0:Int) + z9433))) z z z (wv (.int .i64 ((z7149.all).length : Int)) z z z (wv (.bool (decide ((i64.wrap ((0:Int) + z9433)) < ((z7149.all).length : Int)))) z z z (wl_nil (tn ?_)))))))))))))))
 refine bsplit (decide ((i64.wrap ((0:Int) + z9433)) < ((z7149.all).length : Int))) (fun hc9458 => ?_) (fun hc9458 => ?_)
 {
 replace hm := bif_t hc9458 hm
 refine wp_ift (cvb hc9458) ?_
 refine wrl (wv (v7168) z z z (wv (.int .i64 (0:Int)) z z z (wv (.int .i64 (i64.wrap ((0:Int) + z9433))) z z z (wv (.int .i64 ((z7149.all).length : Int)) z z z (wv (.func (.func 48) #[] #[Pt b5496 0]) z z z ?_)))))
 cases hm
}
 {
 replace hm := bif_f hc9458 hm
 refine wp_iff (cvb hc9458) ?_
 refine wp_skip (tn (wrl ?_))
 refine wv (.int .i64 z9433) z z z (wv (.int .i64 (i64.wrap (z9433 * (2:Int)))) z z z (wv (.int .i64 (i64.wrap (z9433 * (2:Int)))) z z z (wl_nil (blk_n (tn ?_)))))
 replace hst := hst.pull7.pull7.pull7.pull7.pull7.pull7.pull7.keep8
 obtain rfl := some_inj hm
 exact ⟨_, Nat.lt_succ_self _, (i64.wrap (z9433 * (2:Int))), _, hx9440, (fu 0 v7168 z (fu 1 (.int .i64 ((z7149.all).length : Int)) z (fu 2 (.func (.func 48) #[] #[Pt b5496 0]) z (fu 6 (.int .i64 (i64.wrap (z9433 * (2:Int)))) z z)))), hst⟩
}
}
}
 {
 replace hm := bif_f hc9442 hm
 refine wp_iff (cvb hc9442) ?_
 refine wp_exit (then_x (then_x ?_))
 replace hm := inr_up hm hx9440
 refine blk_x ?_
 refine post_end (vs := []) results56 rvs_nil ?_
 replace hst := hst.pull7.pull7.pull7.pull7.pull7.pull7.pull7.pull7.keep8
 obtain rfl := some_inj hm
 exact ⟨z9393, z, z, hst⟩
}
}
}
 clear hst
 rintro _ w9463 ⟨z9459, rfl, rfl, hst⟩
 refine ⟨_, z, ?_⟩
 try dsimp only at hm
 refine wl_nil ?_
 refine post_end (vs := []) results47 rvs_nil ?_
 replace hst := hst.pull7.pull7.pull7.pull7.pull7.pull7.pull7.pull7.keep8
 obtain rfl := some_inj hm
 exact ⟨z9459, z, z, hst⟩
}
 clear hst
 rintro _ w9468 ⟨z9464, rfl, rfl, hst⟩
 refine ⟨_, z, ?_⟩
 try dsimp only at hm
 refine wl_nil (tn (wp_seq (wp_seq (wrl (wv (Pt b7157 0) z z (x_load z isAgg60 (hst.bc0 z)) (wv (Pt b7157 0) z z z (wv (Pt b7157 5) z z (x_field z underlying73 z sizeOf46 z) (wv (v7168) z z (x_load z isAgg46 (hst.bc1 z)) (wv (.int .i64 ((z9464).length : Int)) z z (x_len z underlying46 hst.sv7) (wv (.int .i64 (0:Int)) z z z (wl_nil (tn (wp_block ?_)))))))))))))
 obtain ⟨n9504, hm⟩ := loopO_some hm
 refine wp_loop_n (fun n a w => ∃ (z9501 : Int) (z9502 : (List Int)) (σ9503 : Nat → Value), loopN (label_New_l18 z9464 z7149) n (z9501, z9502) = some r ∧ a = Fr 192 (upd (upd (upd (upd σ9503 5 (Pt b5496 0)) 176 (v7168)) 177 (.int .i64 ((z9464).length : Int))) 178 (.int .i64 z9501)) ∧ St w0 w I7150 [cells b5496 [Pt b7157 0], cells b7157 [v7158, v7160, v7162, v7164, v7166, v7168], ownS (tyInt .u64) v7158 z7149.up, ownS (tyInt .u64) v7160 z7149.down, ownS (tySl (tyInt .i64)) v7162 z7149.join, ownS (tySl (tyInt .i64)) v7164 z7149.meet, ownS (tyInt .i64) v7166 z9502, ownS (tyInt .i64) v7168 z9464] R) n9504 ⟨(0:Int), z7149.rank, _, hm, (fu 5 (Pt b5496 0) z (fu 176 v7168 z (fu 177 (.int .i64 ((z9464).length : Int)) z (fu 178 (.int .i64 (0:Int)) z z)))), hst⟩ ?_
 rintro n9510 _ w9505 ⟨z9501, z9502, σ9503, hm, rfl, hst⟩
 obtain ⟨n9507, y9508, rfl, hm, hx9509⟩ := loopN_some hm
 dsimp only [label_New_l18] at hm
 refine wp_seq (wrl (wv (.bool (decide (z9501 < ((z9464).length : Int)))) z z z (wl_nil (tn (wp_seq ?_)))))
 refine bsplit (decide (z9501 < ((z9464).length : Int))) (fun hc9511 => ?_) (fun hc9511 => ?_)
 {
 replace hm := bif_t hc9511 hm
 refine wp_ift (cvb hc9511) ?_
 refine wp_skip (tn (wp_seq (wp_block (wp_seq (wrl ?_)))))
 refine wv (.int .i64 z9501) z z z ?_
 obtain ⟨x9512, hx9513, hm⟩ := bind_some hm
 obtain ⟨h9514, h9515, hi9516⟩ := geto_some hx9513
 refine wv (.pointer (some (eAddr v7168 (z9501.toNat * 1 + 0)))) z z (x_index z z underlying46 sizeOf3 hst.sv7 h9514 h9515) (wv (.int .i64 x9512) z z (x_load z isAgg3 (hst.ol7 hi9516 (by rintro _ rfl; rfl))) (wv (.int .i64 z9501) z z z (wv (.int .i64 x9512) z z z (wl_nil (tn (wrl (wv (Pt b7157 0) z z (x_load z isAgg60 (hst.bc0 z)) (wv (Pt b7157 0) z z z (wv (Pt b7157 4) z z (x_field z underlying73 z sizeOf46 z) (wv (v7166) z z (x_load z isAgg46 (hst.bc1 z)) (wv (.int .i64 x9512) z z z (wv (.int .i64 z9501) z z z ?_))))))))))))
 obtain ⟨x9517, hx9518, hm⟩ := bind_some hm
 obtain ⟨h9519, h9520, hi9521⟩ := geto_some hx9518
 refine wv (.pointer (some (eAddr v7166 (x9512.toNat * 1 + 0)))) z z (x_index z z underlying46 sizeOf3 hst.sv6 h9519 h9520) ?_
 replace hst := hst.pull6
 obtain ⟨w9522, hr9523, hst⟩ := hst.own_store (P := prog) (t := 3) (y := z9501) hi9521 0 (.int .i64 z9501) sizeOf3 (Nat.le_of_ble_eq_true z) (oC z oN) (by rintro _ rfl; rfl)
 have hi9524 := set_get hi9521 z9501
 have h9525 := set_lt h9520 x9512.toNat z9501
 refine wl_unit z z (x_unit hr9523) ?_
 refine wl_nil (blk_n (tn (wrl (wv (.int .i64 (i64.wrap (z9501 + (1:Int)))) z z z (wv (.int .i64 (i64.wrap (z9501 + (1:Int)))) z z z (wl_nil (tn ?_)))))))
 replace hst := hst.pull7.pull1.pull7.pull7.pull7.pull7.pull7.pull7.keep8
 obtain rfl := some_inj hm
 exact ⟨_, Nat.lt_succ_self _, (i64.wrap (z9501 + (1:Int))), (z9502.set x9512.toNat z9501), _, hx9509, (fu 5 (Pt b5496 0) z (fu 176 v7168 z (fu 177 (.int .i64 ((z9464).length : Int)) z (fu 178 (.int .i64 (i64.wrap (z9501 + (1:Int)))) z z)))), hst⟩
}
 {
 replace hm := bif_f hc9511 hm
 refine wp_iff (cvb hc9511) ?_
 refine wp_exit (then_x (then_x ?_))
 replace hm := inr_up hm hx9509
 refine blk_x (tn (wp_seq (wrl ?_)))
 refine wv (Pt b7157 0) z z (x_load z isAgg60 (hst.bc0 z)) (wv (Pt b7157 0) z z z (wv (.int .i64 (0:Int)) z z z (wl_nil (tn (wp_ret ?_)))))
 replace hst := hst.pull7.pull7.pull7.pull7.pull7.pull7.pull7
 replace hst := at_label_Lattice_close (pv := Pt b7157 0) (x := ({ up := z7149.up, down := z7149.down, join := z7149.join, meet := z7149.meet, rank := z9502, all := z9464 } : label_Lattice)) hst z
 replace hst := objO_some hst
 obtain rfl := some_inj hm
 refine post_ret (vs := [Pt b7157 0, Zi]) results34 (rvs_cons (rv_tmp z) (rvs_cons (rv_tmp z) rvs_nil)) ?_
 exact ⟨_, Pt b7157 0, z, hI0, hst.keep1⟩
}
}
}
}
}
}
}
}

end Go.Proofs.Ytkjkbfaaigmmcaa
