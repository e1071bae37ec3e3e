/- The Go functions refine their models, part 1. -/
import Derived.Test.YtkjkbfaaigmmcaaConfigShardsR0
set_option linter.unusedVariables false
set_option linter.unusedSimpArgs false
set_option maxRecDepth 100000
set_option maxHeartbeats 4000000
namespace Go.Proofs.Ytkjkbfaaigmmcaa
open Go Go.V
open _root_.Go.Proofs.Try IntKind
attribute [local irreducible] wpList Code.wp wpQuiet Calls bodyPost Oper.wp wpS Nx PendOK YieldsIn
theorem label_New_ref {w0 w : World} {I : HL} {R : SP} {a0 : (List Int)} {r0_0 : Value} (f0_0 : Rd (tyInt .u64) R I r0_0 a0) (hst : St w0 w I [] R) {r : (Option label_Lattice × Int)} (hm : label_New a0 = some r) :
  Calls prog 34 #[r0_0] w fun e w' => ∃ (I' : HL) (q0 : Value), e = .returned (.tuple #[q0, I6 r.2]) ∧ I.le I' ∧ St w0 w' I' [objO at_label_Lattice q0 r.1] R := by {
 unfold label_New at hm
 refine calls_start (args := [r0_0]) func34 z ntmps34 (Nat.le_of_ble_eq_true z) ?_
 have hI0 := HL.le.refl I
 refine wp_seq (wrl (wv (.pointer none) z z z (wv (.int .i64 (0:Int)) z z z (wl_nil (tn (wp_seq (wrl (wv (r0_0) z z z (wv (.int .i64 ((a0).length : Int)) z z (x_len z underlying25 (rd_sliceV f0_0)) (wv (.int .i64 ((a0).length : Int)) z z z (wl_nil (tn (wp_seq (wp_seq (wrl (wv (.int .i64 ((a0).length : Int)) z z z (wv (.bool (decide (((a0).length : Int) < (1:Int)))) z z z (wv (.bool (decide (((a0).length : Int) < (1:Int)))) z z z ?_))))))))))))))))))
 refine bsplit (decide (((a0).length : Int) < (1:Int))) (fun hc4782 => ?_) (fun hc4782 => ?_)
 {
 replace hm := bif_t hc4782 hm
 refine wo hc4782 z z z z z z (wo hc4782 z z z z z z (wv (.bool true) z z (x_pick_t hc4782 z z) (wl_nil (tn ?_))))
 refine wp_ift z ?_
 refine wp_seq (wrl (wv (.pointer none) z z z (wv (.int .i64 (1:Int)) z z z (wl_nil (tn (wp_ret (then_r ?_)))))))
 replace hst := hst.objO_nil at_label_Lattice
 obtain rfl := some_inj hm
 refine post_ret (vs := [.pointer none, I6 (1:Int)]) results34 (rvs_cons (rv_tmp z) (rvs_cons (rv_tmp z) rvs_nil)) ?_
 exact ⟨_, .pointer none, z, hI0, hst.keep1⟩
}
 {
 replace hm := bif_f hc4782 hm
 refine wv (.int .i64 ((a0).length : Int)) ((wanted_eq z z z (cvb hc4782)).trans z) z z (wv (.bool (decide (((a0).length : Int) > (16:Int)))) ((wanted_eq z z z (cvb hc4782)).trans z) z z (wv (.bool (decide (((a0).length : Int) > (16:Int)))) z z (x_pick_f hc4782 z z) (wl_nil (tn ?_))))
 refine bsplit (decide (((a0).length : Int) > (16:Int))) (fun hc4784 => ?_) (fun hc4784 => ?_)
 {
 replace hm := bif_t hc4784 hm
 refine wp_ift (cvb hc4784) ?_
 refine wp_seq (wrl (wv (.pointer none) z z z (wv (.int .i64 (1:Int)) z z z (wl_nil (tn (wp_ret (then_r ?_)))))))
 replace hst := hst.objO_nil at_label_Lattice
 obtain rfl := some_inj hm
 refine post_ret (vs := [.pointer none, I6 (1:Int)]) results34 (rvs_cons (rv_tmp z) (rvs_cons (rv_tmp z) rvs_nil)) ?_
 exact ⟨_, .pointer none, z, hI0, hst.keep1⟩
}
 {
 replace hm := bif_f hc4784 hm
 refine wp_iff (cvb hc4784) ?_
 refine wp_skip (tn (wp_seq ?_))
 obtain ⟨y5469, hm, hx5470⟩ := bind_some hm
 refine wp_mid (fun a w => ∃ (z5466 : label_Lattice) (b5463 : Nat) (v5465 : Value) (σ5467 : Nat → Value), (label_New_j0 a0) z5466 = some r ∧ a = Fr 192 (upd (upd (upd σ5467 0 (r0_0)) 4 (.int .i64 ((a0).length : Int))) 5 (Pt b5463 0)) ∧ St w0 w I [cells b5463 [v5465], at_label_Lattice v5465 z5466] R) ?_ ?_
 {
 refine wp_region_St hst 10 [0, 1, 2, 3, 4, 5, 6, 7, 8, 9] [0, 1, 0, 4, 0, 16, 63, 127, 0, 511] [] z (by kernel_rfl) (by kernel_rfl) Try.mixed (by kernel_rfl) ?_
 refine wsr (r0_0) 0 z z z (by kernel_rfl) (fun w hst => z) (wsr (.int .i64 ((a0).length : Int)) 2 z z z (by kernel_rfl) (fun w hst => z) (wsr (.int .i64 ((a0).length : Int)) 4 z z z (by kernel_rfl) (fun w hst => z) ?_))
 obtain ⟨t4786, ht4787, hm⟩ := bind_some hm
 obtain ⟨hg4788, hm⟩ := gd_some hm
 obtain ⟨hg4789, hm⟩ := gd_some hm
 refine ws_e4 1 3 5 8 (by kernel_rfl) ?_ ?_ ?_ ?_
 {
 refine nxe [3, 5, 6, 7, 8, 9] (by kernel_rfl) z z ?_
 clear hst
 intro w hst
 refine wec call44 [r0_0] z z ?_
 refine (slices_Clone_uint64_uint64_ref (f0_0.mono (rd_weak _)) hst.to0 ht4787).mono ?_
 rintro _ w4790 ⟨v4793, rfl, hst⟩
 refine ⟨_, z, ?_⟩
 replace hst := hst.of1
 refine ws_next (pend' := [(4, I6 ((a0).length : Int)), (2, I6 ((a0).length : Int))]) hst (by kernel_rfl) (pkr z z (fun w hst => z) (pkr z z (fun w hst => z) pk_nil)) ?_
 refine ws_e3 3 5 8 (by kernel_rfl) ?_ ?_ ?_
 {
 refine nxe [5, 6, 7, 8, 9] (by kernel_rfl) z z ?_
 clear hst
 intro w hst
 obtain ⟨v4795, w4796, hr4797, hst⟩ := run_mk (k := .i64) (k' := .i64) (zm := (0:Int)) elem_25 hst hg4788 (by decide) z
 refine we_run (v := v4795) (w' := w4796) z (x_make z z hr4797) ?_
 refine ws_next (pend' := [(4, I6 ((a0).length : Int))]) hst (by kernel_rfl) (pkr z z (fun w hst => z) pk_nil) ?_
 refine ws_e2 5 8 (by kernel_rfl) ?_ ?_
 {
 refine nxe [6, 7, 8, 9] (by kernel_rfl) z z ?_
 clear hst
 intro w hst
 obtain ⟨v4799, w4800, hr4801, hst⟩ := run_mk (k := .i64) (k' := .i64) (zm := (0:Int)) elem_46 hst hg4789 (by decide) z
 refine we_run (v := v4799) (w' := w4800) z (x_make z z hr4801) ?_
 refine ws_next (pend' := []) hst (by kernel_rfl) pk_nil ?_
 refine wsr (.agg #[v4793, v4795, Zs, Zs, v4799, Zs]) 6 rfl rfl rfl (by kernel_rfl) (fun w hst => by obtain ⟨_, _, hv_, _⟩ := hst.sv0; rw [hv_]; obtain ⟨_, _, hv_, _⟩ := hst.sv1; rw [hv_]; obtain ⟨_, _, hv_, _⟩ := hst.sv2; rw [hv_]; kernel_rfl) ?_
 refine ws_e2 7 8 (by kernel_rfl) ?_ ?_
 {
 refine nxe [8, 9] (by kernel_rfl) z z ?_
 clear hst
 intro w hst
 obtain ⟨b4809, w4810, ew4811, eb4812, hst⟩ := hst.box [v4793, v4795, Zs, Zs, v4799, Zs] 73
 refine we_run (v := Pt b4809 0) (w' := w4810) z (x_al (by kernel_rfl) ew4811 eb4812) ?_
 refine ws_next (pend' := []) hst (by kernel_rfl) pk_nil ?_
 refine ws_e1 8 (by kernel_rfl) ?_
 refine nxe [9] (by kernel_rfl) z z ?_
 clear hst
 intro w hst
 obtain ⟨b4814, w4815, ew4816, eb4817, hst⟩ := hst.box [.pointer none] 60
 refine we_run (v := Pt b4814 0) (w' := w4815) z (x_al (by kernel_rfl) ew4816 eb4817) ?_
 refine ws_next (pend' := []) hst (by kernel_rfl) pk_nil ?_
 refine ws_e1 9 (by kernel_rfl) ?_
 refine nxe [] (by kernel_rfl) z z ?_
 clear hst
 intro w hst
 obtain ⟨w4819, hr4820, hst⟩ := hst.by_ [Pt b4809 0] 0 (Pt b4809 0) sizeOf60 z (oC z oN) (by kernel_rfl)
 refine we_unit z (x_unit hr4820) ?_
 refine ws_next (pend' := []) hst (by kernel_rfl) pk_nil ?_
 refine ws_nil ?_
 intro w hst
 refine ⟨z, ?_⟩
 replace hst := hst.own_nil (tySl (tyInt .i64))
 replace hst := hst.own_nil (tySl (tyInt .i64))
 replace hst := hst.own_nil (tyInt .i64)
 replace hst := hst.pull5.pull2.pull3.pull6.pull7.pull7
 replace hst := at_label_Lattice_close (pv := Pt b4809 0) (x := ({ up := t4786, down := (List.replicate (Int.toNat ((a0).length : Int)) (0:Int)), join := [], meet := [], rank := (List.replicate (Int.toNat ((a0).length : Int)) (0:Int)), all := [] } : label_Lattice)) hst z
 replace hst := hst.pull1.keep2
 obtain rfl := some_inj hm
 exact ⟨({ up := t4786, down := (List.replicate (Int.toNat ((a0).length : Int)) (0:Int)), join := [], meet := [], rank := (List.replicate (Int.toNat ((a0).length : Int)) (0:Int)), all := [] } : label_Lattice), b4814, (Pt b4809 0), _, hx5470, (fu 0 r0_0 z (fu 4 (.int .i64 ((a0).length : Int)) z (fu 5 (Pt b4814 0) z z))), hst⟩
}
 {
 refine nxe [7, 9] (by kernel_rfl) z z ?_
 clear hst
 intro w hst
 obtain ⟨b4821, w4822, ew4823, eb4824, hst⟩ := hst.box [.pointer none] 60
 refine we_run (v := Pt b4821 0) (w' := w4822) z (x_al (by kernel_rfl) ew4823 eb4824) ?_
 refine ws_next (pend' := [(6, .agg #[v4793, v4795, Zs, Zs, v4799, Zs])]) hst (by kernel_rfl) (pkr rfl rfl (fun w hst => by obtain ⟨_, _, hv_, _⟩ := hst.sv1; rw [hv_]; obtain ⟨_, _, hv_, _⟩ := hst.sv2; rw [hv_]; obtain ⟨_, _, hv_, _⟩ := hst.sv3; rw [hv_]; kernel_rfl) pk_nil) ?_
 refine ws_e1 7 (by kernel_rfl) ?_
 refine nxe [9] (by kernel_rfl) z z ?_
 clear hst
 intro w hst
 obtain ⟨b4826, w4827, ew4828, eb4829, hst⟩ := hst.box [v4793, v4795, Zs, Zs, v4799, Zs] 73
 refine we_run (v := Pt b4826 0) (w' := w4827) z (x_al (by kernel_rfl) ew4828 eb4829) ?_
 refine ws_next (pend' := []) hst (by kernel_rfl) pk_nil ?_
 refine ws_e1 9 (by kernel_rfl) ?_
 refine nxe [] (by kernel_rfl) z z ?_
 clear hst
 intro w hst
 replace hst := hst.pull1
 obtain ⟨w4831, hr4832, hst⟩ := hst.by_ [Pt b4826 0] 0 (Pt b4826 0) sizeOf60 z (oC z oN) (by kernel_rfl)
 refine we_unit z (x_unit hr4832) ?_
 refine ws_next (pend' := []) hst (by kernel_rfl) pk_nil ?_
 refine ws_nil ?_
 intro w hst
 refine ⟨z, ?_⟩
 replace hst := hst.own_nil (tySl (tyInt .i64))
 replace hst := hst.own_nil (tySl (tyInt .i64))
 replace hst := hst.own_nil (tyInt .i64)
 replace hst := hst.pull5.pull2.pull3.pull6.pull7.pull7
 replace hst := at_label_Lattice_close (pv := Pt b4826 0) (x := ({ up := t4786, down := (List.replicate (Int.toNat ((a0).length : Int)) (0:Int)), join := [], meet := [], rank := (List.replicate (Int.toNat ((a0).length : Int)) (0:Int)), all := [] } : label_Lattice)) hst z
 replace hst := hst.pull1.keep2
 obtain rfl := some_inj hm
 exact ⟨({ up := t4786, down := (List.replicate (Int.toNat ((a0).length : Int)) (0:Int)), join := [], meet := [], rank := (List.replicate (Int.toNat ((a0).length : Int)) (0:Int)), all := [] } : label_Lattice), b4821, (Pt b4826 0), _, hx5470, (fu 0 r0_0 z (fu 4 (.int .i64 ((a0).length : Int)) z (fu 5 (Pt b4821 0) z z))), hst⟩
}
}
 {
 refine nxe [5, 6, 7, 9] (by kernel_rfl) z z ?_
 clear hst
 intro w hst
 obtain ⟨b4833, w4834, ew4835, eb4836, hst⟩ := hst.box [.pointer none] 60
 refine we_run (v := Pt b4833 0) (w' := w4834) z (x_al (by kernel_rfl) ew4835 eb4836) ?_
 refine ws_next (pend' := [(4, I6 ((a0).length : Int))]) hst (by kernel_rfl) (pkr z z (fun w hst => z) pk_nil) ?_
 refine ws_e1 5 (by kernel_rfl) ?_
 refine nxe [6, 7, 9] (by kernel_rfl) z z ?_
 clear hst
 intro w hst
 obtain ⟨v4838, w4839, hr4840, hst⟩ := run_mk (k := .i64) (k' := .i64) (zm := (0:Int)) elem_46 hst hg4789 (by decide) z
 refine we_run (v := v4838) (w' := w4839) z (x_make z z hr4840) ?_
 refine ws_next (pend' := []) hst (by kernel_rfl) pk_nil ?_
 refine wsr (.agg #[v4793, v4795, Zs, Zs, v4838, Zs]) 6 rfl rfl rfl (by kernel_rfl) (fun w hst => by obtain ⟨_, _, hv_, _⟩ := hst.sv0; rw [hv_]; obtain ⟨_, _, hv_, _⟩ := hst.sv2; rw [hv_]; obtain ⟨_, _, hv_, _⟩ := hst.sv3; rw [hv_]; kernel_rfl) ?_
 refine ws_e1 7 (by kernel_rfl) ?_
 refine nxe [9] (by kernel_rfl) z z ?_
 clear hst
 intro w hst
 obtain ⟨b4848, w4849, ew4850, eb4851, hst⟩ := hst.box [v4793, v4795, Zs, Zs, v4838, Zs] 73
 refine we_run (v := Pt b4848 0) (w' := w4849) z (x_al (by kernel_rfl) ew4850 eb4851) ?_
 refine ws_next (pend' := []) hst (by kernel_rfl) pk_nil ?_
 refine ws_e1 9 (by kernel_rfl) ?_
 refine nxe [] (by kernel_rfl) z z ?_
 clear hst
 intro w hst
 replace hst := hst.pull2
 obtain ⟨w4853, hr4854, hst⟩ := hst.by_ [Pt b4848 0] 0 (Pt b4848 0) sizeOf60 z (oC z oN) (by kernel_rfl)
 refine we_unit z (x_unit hr4854) ?_
 refine ws_next (pend' := []) hst (by kernel_rfl) pk_nil ?_
 refine ws_nil ?_
 intro w hst
 refine ⟨z, ?_⟩
 replace hst := hst.own_nil (tySl (tyInt .i64))
 replace hst := hst.own_nil (tySl (tyInt .i64))
 replace hst := hst.own_nil (tyInt .i64)
 replace hst := hst.pull5.pull2.pull3.pull6.pull7.pull7
 replace hst := at_label_Lattice_close (pv := Pt b4848 0) (x := ({ up := t4786, down := (List.replicate (Int.toNat ((a0).length : Int)) (0:Int)), join := [], meet := [], rank := (List.replicate (Int.toNat ((a0).length : Int)) (0:Int)), all := [] } : label_Lattice)) hst z
 replace hst := hst.pull1.keep2
 obtain rfl := some_inj hm
 exact ⟨({ up := t4786, down := (List.replicate (Int.toNat ((a0).length : Int)) (0:Int)), join := [], meet := [], rank := (List.replicate (Int.toNat ((a0).length : Int)) (0:Int)), all := [] } : label_Lattice), b4833, (Pt b4848 0), _, hx5470, (fu 0 r0_0 z (fu 4 (.int .i64 ((a0).length : Int)) z (fu 5 (Pt b4833 0) z z))), hst⟩
}
}
 {
 refine nxe [3, 6, 7, 8, 9] (by kernel_rfl) z z ?_
 clear hst
 intro w hst
 obtain ⟨v4855, w4856, hr4857, hst⟩ := run_mk (k := .i64) (k' := .i64) (zm := (0:Int)) elem_46 hst hg4789 (by decide) z
 refine we_run (v := v4855) (w' := w4856) z (x_make z z hr4857) ?_
 refine ws_next (pend' := [(2, I6 ((a0).length : Int))]) hst (by kernel_rfl) (pkr z z (fun w hst => z) pk_nil) ?_
 refine ws_e2 3 8 (by kernel_rfl) ?_ ?_
 {
 refine nxe [6, 7, 8, 9] (by kernel_rfl) z z ?_
 clear hst
 intro w hst
 obtain ⟨v4859, w4860, hr4861, hst⟩ := run_mk (k := .i64) (k' := .i64) (zm := (0:Int)) elem_25 hst hg4788 (by decide) z
 refine we_run (v := v4859) (w' := w4860) z (x_make z z hr4861) ?_
 refine ws_next (pend' := []) hst (by kernel_rfl) pk_nil ?_
 refine wsr (.agg #[v4793, v4859, Zs, Zs, v4855, Zs]) 6 rfl rfl rfl (by kernel_rfl) (fun w hst => by obtain ⟨_, _, hv_, _⟩ := hst.sv1; rw [hv_]; obtain ⟨_, _, hv_, _⟩ := hst.sv0; rw [hv_]; obtain ⟨_, _, hv_, _⟩ := hst.sv2; rw [hv_]; kernel_rfl) ?_
 refine ws_e2 7 8 (by kernel_rfl) ?_ ?_
 {
 refine nxe [8, 9] (by kernel_rfl) z z ?_
 clear hst
 intro w hst
 obtain ⟨b4869, w4870, ew4871, eb4872, hst⟩ := hst.box [v4793, v4859, Zs, Zs, v4855, Zs] 73
 refine we_run (v := Pt b4869 0) (w' := w4870) z (x_al (by kernel_rfl) ew4871 eb4872) ?_
 refine ws_next (pend' := []) hst (by kernel_rfl) pk_nil ?_
 refine ws_e1 8 (by kernel_rfl) ?_
 refine nxe [9] (by kernel_rfl) z z ?_
 clear hst
 intro w hst
 obtain ⟨b4874, w4875, ew4876, eb4877, hst⟩ := hst.box [.pointer none] 60
 refine we_run (v := Pt b4874 0) (w' := w4875) z (x_al (by kernel_rfl) ew4876 eb4877) ?_
 refine ws_next (pend' := []) hst (by kernel_rfl) pk_nil ?_
 refine ws_e1 9 (by kernel_rfl) ?_
 refine nxe [] (by kernel_rfl) z z ?_
 clear hst
 intro w hst
 obtain ⟨w4879, hr4880, hst⟩ := hst.by_ [Pt b4869 0] 0 (Pt b4869 0) sizeOf60 z (oC z oN) (by kernel_rfl)
 refine we_unit z (x_unit hr4880) ?_
 refine ws_next (pend' := []) hst (by kernel_rfl) pk_nil ?_
 refine ws_nil ?_
 intro w hst
 refine ⟨z, ?_⟩
 replace hst := hst.own_nil (tySl (tyInt .i64))
 replace hst := hst.own_nil (tySl (tyInt .i64))
 replace hst := hst.own_nil (tyInt .i64)
 replace hst := hst.pull6.pull2.pull3.pull6.pull7.pull7
 replace hst := at_label_Lattice_close (pv := Pt b4869 0) (x := ({ up := t4786, down := (List.replicate (Int.toNat ((a0).length : Int)) (0:Int)), join := [], meet := [], rank := (List.replicate (Int.toNat ((a0).length : Int)) (0:Int)), all := [] } : label_Lattice)) hst z
 replace hst := hst.pull1.keep2
 obtain rfl := some_inj hm
 exact ⟨({ up := t4786, down := (List.replicate (Int.toNat ((a0).length : Int)) (0:Int)), join := [], meet := [], rank := (List.replicate (Int.toNat ((a0).length : Int)) (0:Int)), all := [] } : label_Lattice), b4874, (Pt b4869 0), _, hx5470, (fu 0 r0_0 z (fu 4 (.int .i64 ((a0).length : Int)) z (fu 5 (Pt b4874 0) z z))), hst⟩
}
 {
 refine nxe [7, 9] (by kernel_rfl) z z ?_
 clear hst
 intro w hst
 obtain ⟨b4881, w4882, ew4883, eb4884, hst⟩ := hst.box [.pointer none] 60
 refine we_run (v := Pt b4881 0) (w' := w4882) z (x_al (by kernel_rfl) ew4883 eb4884) ?_
 refine ws_next (pend' := [(6, .agg #[v4793, v4859, Zs, Zs, v4855, Zs])]) hst (by kernel_rfl) (pkr rfl rfl (fun w hst => by obtain ⟨_, _, hv_, _⟩ := hst.sv2; rw [hv_]; obtain ⟨_, _, hv_, _⟩ := hst.sv1; rw [hv_]; obtain ⟨_, _, hv_, _⟩ := hst.sv3; rw [hv_]; kernel_rfl) pk_nil) ?_
 refine ws_e1 7 (by kernel_rfl) ?_
 refine nxe [9] (by kernel_rfl) z z ?_
 clear hst
 intro w hst
 obtain ⟨b4886, w4887, ew4888, eb4889, hst⟩ := hst.box [v4793, v4859, Zs, Zs, v4855, Zs] 73
 refine we_run (v := Pt b4886 0) (w' := w4887) z (x_al (by kernel_rfl) ew4888 eb4889) ?_
 refine ws_next (pend' := []) hst (by kernel_rfl) pk_nil ?_
 refine ws_e1 9 (by kernel_rfl) ?_
 refine nxe [] (by kernel_rfl) z z ?_
 clear hst
 intro w hst
 replace hst := hst.pull1
 obtain ⟨w4891, hr4892, hst⟩ := hst.by_ [Pt b4886 0] 0 (Pt b4886 0) sizeOf60 z (oC z oN) (by kernel_rfl)
 refine we_unit z (x_unit hr4892) ?_
 refine ws_next (pend' := []) hst (by kernel_rfl) pk_nil ?_
 refine ws_nil ?_
 intro w hst
 refine ⟨z, ?_⟩
 replace hst := hst.own_nil (tySl (tyInt .i64))
 replace hst := hst.own_nil (tySl (tyInt .i64))
 replace hst := hst.own_nil (tyInt .i64)
 replace hst := hst.pull6.pull2.pull3.pull6.pull7.pull7
 replace hst := at_label_Lattice_close (pv := Pt b4886 0) (x := ({ up := t4786, down := (List.replicate (Int.toNat ((a0).length : Int)) (0:Int)), join := [], meet := [], rank := (List.replicate (Int.toNat ((a0).length : Int)) (0:Int)), all := [] } : label_Lattice)) hst z
 replace hst := hst.pull1.keep2
 obtain rfl := some_inj hm
 exact ⟨({ up := t4786, down := (List.replicate (Int.toNat ((a0).length : Int)) (0:Int)), join := [], meet := [], rank := (List.replicate (Int.toNat ((a0).length : Int)) (0:Int)), all := [] } : label_Lattice), b4881, (Pt b4886 0), _, hx5470, (fu 0 r0_0 z (fu 4 (.int .i64 ((a0).length : Int)) z (fu 5 (Pt b4881 0) z z))), hst⟩
}
}
 {
 refine nxe [3, 6, 7, 9] (by kernel_rfl) z z ?_
 clear hst
 intro w hst
 obtain ⟨b4893, w4894, ew4895, eb4896, hst⟩ := hst.box [.pointer none] 60
 refine we_run (v := Pt b4893 0) (w' := w4894) z (x_al (by kernel_rfl) ew4895 eb4896) ?_
 refine ws_next (pend' := [(2, I6 ((a0).length : Int))]) hst (by kernel_rfl) (pkr z z (fun w hst => z) pk_nil) ?_
 refine ws_e1 3 (by kernel_rfl) ?_
 refine nxe [6, 7, 9] (by kernel_rfl) z z ?_
 clear hst
 intro w hst
 obtain ⟨v4898, w4899, hr4900, hst⟩ := run_mk (k := .i64) (k' := .i64) (zm := (0:Int)) elem_25 hst hg4788 (by decide) z
 refine we_run (v := v4898) (w' := w4899) z (x_make z z hr4900) ?_
 refine ws_next (pend' := []) hst (by kernel_rfl) pk_nil ?_
 refine wsr (.agg #[v4793, v4898, Zs, Zs, v4855, Zs]) 6 rfl rfl rfl (by kernel_rfl) (fun w hst => by obtain ⟨_, _, hv_, _⟩ := hst.sv2; rw [hv_]; obtain ⟨_, _, hv_, _⟩ := hst.sv0; rw [hv_]; obtain ⟨_, _, hv_, _⟩ := hst.sv3; rw [hv_]; kernel_rfl) ?_
 refine ws_e1 7 (by kernel_rfl) ?_
 refine nxe [9] (by kernel_rfl) z z ?_
 clear hst
 intro w hst
 obtain ⟨b4908, w4909, ew4910, eb4911, hst⟩ := hst.box [v4793, v4898, Zs, Zs, v4855, Zs] 73
 refine we_run (v := Pt b4908 0) (w' := w4909) z (x_al (by kernel_rfl) ew4910 eb4911) ?_
 refine ws_next (pend' := []) hst (by kernel_rfl) pk_nil ?_
 refine ws_e1 9 (by kernel_rfl) ?_
 refine nxe [] (by kernel_rfl) z z ?_
 clear hst
 intro w hst
 replace hst := hst.pull2
 obtain ⟨w4913, hr4914, hst⟩ := hst.by_ [Pt b4908 0] 0 (Pt b4908 0) sizeOf60 z (oC z oN) (by kernel_rfl)
 refine we_unit z (x_unit hr4914) ?_
 refine ws_next (pend' := []) hst (by kernel_rfl) pk_nil ?_
 refine ws_nil ?_
 intro w hst
 refine ⟨z, ?_⟩
 replace hst := hst.own_nil (tySl (tyInt .i64))
 replace hst := hst.own_nil (tySl (tyInt .i64))
 replace hst := hst.own_nil (tyInt .i64)
 replace hst := hst.pull6.pull2.pull3.pull6.pull7.pull7
 replace hst := at_label_Lattice_close (pv := Pt b4908 0) (x := ({ up := t4786, down := (List.replicate (Int.toNat ((a0).length : Int)) (0:Int)), join := [], meet := [], rank := (List.replicate (Int.toNat ((a0).length : Int)) (0:Int)), all := [] } : label_Lattice)) hst z
 replace hst := hst.pull1.keep2
 obtain rfl := some_inj hm
 exact ⟨({ up := t4786, down := (List.replicate (Int.toNat ((a0).length : Int)) (0:Int)), join := [], meet := [], rank := (List.replicate (Int.toNat ((a0).length : Int)) (0:Int)), all := [] } : label_Lattice), b4893, (Pt b4908 0), _, hx5470, (fu 0 r0_0 z (fu 4 (.int .i64 ((a0).length : Int)) z (fu 5 (Pt b4893 0) z z))), hst⟩
}
}
 {
 refine nxe [3, 5, 6, 7, 9] (by kernel_rfl) z z ?_
 clear hst
 intro w hst
 obtain ⟨b4915, w4916, ew4917, eb4918, hst⟩ := hst.box [.pointer none] 60
 refine we_run (v := Pt b4915 0) (w' := w4916) z (x_al (by kernel_rfl) ew4917 eb4918) ?_
 refine ws_next (pend' := [(4, I6 ((a0).length : Int)), (2, I6 ((a0).length : Int))]) hst (by kernel_rfl) (pkr z z (fun w hst => z) (pkr z z (fun w hst => z) pk_nil)) ?_
 refine ws_e2 3 5 (by kernel_rfl) ?_ ?_
 {
 refine nxe [5, 6, 7, 9] (by kernel_rfl) z z ?_
 clear hst
 intro w hst
 obtain ⟨v4920, w4921, hr4922, hst⟩ := run_mk (k := .i64) (k' := .i64) (zm := (0:Int)) elem_25 hst hg4788 (by decide) z
 refine we_run (v := v4920) (w' := w4921) z (x_make z z hr4922) ?_
 refine ws_next (pend' := [(4, I6 ((a0).length : Int))]) hst (by kernel_rfl) (pkr z z (fun w hst => z) pk_nil) ?_
 refine ws_e1 5 (by kernel_rfl) ?_
 refine nxe [6, 7, 9] (by kernel_rfl) z z ?_
 clear hst
 intro w hst
 obtain ⟨v4924, w4925, hr4926, hst⟩ := run_mk (k := .i64) (k' := .i64) (zm := (0:Int)) elem_46 hst hg4789 (by decide) z
 refine we_run (v := v4924) (w' := w4925) z (x_make z z hr4926) ?_
 refine ws_next (pend' := []) hst (by kernel_rfl) pk_nil ?_
 refine wsr (.agg #[v4793, v4920, Zs, Zs, v4924, Zs]) 6 rfl rfl rfl (by kernel_rfl) (fun w hst => by obtain ⟨_, _, hv_, _⟩ := hst.sv0; rw [hv_]; obtain ⟨_, _, hv_, _⟩ := hst.sv1; rw [hv_]; obtain ⟨_, _, hv_, _⟩ := hst.sv3; rw [hv_]; kernel_rfl) ?_
 refine ws_e1 7 (by kernel_rfl) ?_
 refine nxe [9] (by kernel_rfl) z z ?_
 clear hst
 intro w hst
 obtain ⟨b4934, w4935, ew4936, eb4937, hst⟩ := hst.box [v4793, v4920, Zs, Zs, v4924, Zs] 73
 refine we_run (v := Pt b4934 0) (w' := w4935) z (x_al (by kernel_rfl) ew4936 eb4937) ?_
 refine ws_next (pend' := []) hst (by kernel_rfl) pk_nil ?_
 refine ws_e1 9 (by kernel_rfl) ?_
 refine nxe [] (by kernel_rfl) z z ?_
 clear hst
 intro w hst
 replace hst := hst.pull3
 obtain ⟨w4939, hr4940, hst⟩ := hst.by_ [Pt b4934 0] 0 (Pt b4934 0) sizeOf60 z (oC z oN) (by kernel_rfl)
 refine we_unit z (x_unit hr4940) ?_
 refine ws_next (pend' := []) hst (by kernel_rfl) pk_nil ?_
 refine ws_nil ?_
 intro w hst
 refine ⟨z, ?_⟩
 replace hst := hst.own_nil (tySl (tyInt .i64))
 replace hst := hst.own_nil (tySl (tyInt .i64))
 replace hst := hst.own_nil (tyInt .i64)
 replace hst := hst.pull5.pull2.pull3.pull6.pull7.pull7
 replace hst := at_label_Lattice_close (pv := Pt b4934 0) (x := ({ up := t4786, down := (List.replicate (Int.toNat ((a0).length : Int)) (0:Int)), join := [], meet := [], rank := (List.replicate (Int.toNat ((a0).length : Int)) (0:Int)), all := [] } : label_Lattice)) hst z
 replace hst := hst.pull1.keep2
 obtain rfl := some_inj hm
 exact ⟨({ up := t4786, down := (List.replicate (Int.toNat ((a0).length : Int)) (0:Int)), join := [], meet := [], rank := (List.replicate (Int.toNat ((a0).length : Int)) (0:Int)), all := [] } : label_Lattice), b4915, (Pt b4934 0), _, hx5470, (fu 0 r0_0 z (fu 4 (.int .i64 ((a0).length : Int)) z (fu 5 (Pt b4915 0) z z))), hst⟩
}
 {
 refine nxe [3, 6, 7, 9] (by kernel_rfl) z z ?_
 clear hst
 intro w hst
 obtain ⟨v4941, w4942, hr4943, hst⟩ := run_mk (k := .i64) (k' := .i64) (zm := (0:Int)) elem_46 hst hg4789 (by decide) z
 refine we_run (v := v4941) (w' := w4942) z (x_make z z hr4943) ?_
 refine ws_next (pend' := [(2, I6 ((a0).length : Int))]) hst (by kernel_rfl) (pkr z z (fun w hst => z) pk_nil) ?_
 refine ws_e1 3 (by kernel_rfl) ?_
 refine nxe [6, 7, 9] (by kernel_rfl) z z ?_
 clear hst
 intro w hst
 obtain ⟨v4945, w4946, hr4947, hst⟩ := run_mk (k := .i64) (k' := .i64) (zm := (0:Int)) elem_25 hst hg4788 (by decide) z
 refine we_run (v := v4945) (w' := w4946) z (x_make z z hr4947) ?_
 refine ws_next (pend' := []) hst (by kernel_rfl) pk_nil ?_
 refine wsr (.agg #[v4793, v4945, Zs, Zs, v4941, Zs]) 6 rfl rfl rfl (by kernel_rfl) (fun w hst => by obtain ⟨_, _, hv_, _⟩ := hst.sv1; rw [hv_]; obtain ⟨_, _, hv_, _⟩ := hst.sv0; rw [hv_]; obtain ⟨_, _, hv_, _⟩ := hst.sv3; rw [hv_]; kernel_rfl) ?_
 refine ws_e1 7 (by kernel_rfl) ?_
 refine nxe [9] (by kernel_rfl) z z ?_
 clear hst
 intro w hst
 obtain ⟨b4955, w4956, ew4957, eb4958, hst⟩ := hst.box [v4793, v4945, Zs, Zs, v4941, Zs] 73
 refine we_run (v := Pt b4955 0) (w' := w4956) z (x_al (by kernel_rfl) ew4957 eb4958) ?_
 refine ws_next (pend' := []) hst (by kernel_rfl) pk_nil ?_
 refine ws_e1 9 (by kernel_rfl) ?_
 refine nxe [] (by kernel_rfl) z z ?_
 clear hst
 intro w hst
 replace hst := hst.pull3
 obtain ⟨w4960, hr4961, hst⟩ := hst.by_ [Pt b4955 0] 0 (Pt b4955 0) sizeOf60 z (oC z oN) (by kernel_rfl)
 refine we_unit z (x_unit hr4961) ?_
 refine ws_next (pend' := []) hst (by kernel_rfl) pk_nil ?_
 refine ws_nil ?_
 intro w hst
 refine ⟨z, ?_⟩
 replace hst := hst.own_nil (tySl (tyInt .i64))
 replace hst := hst.own_nil (tySl (tyInt .i64))
 replace hst := hst.own_nil (tyInt .i64)
 replace hst := hst.pull6.pull2.pull3.pull6.pull7.pull7
 replace hst := at_label_Lattice_close (pv := Pt b4955 0) (x := ({ up := t4786, down := (List.replicate (Int.toNat ((a0).length : Int)) (0:Int)), join := [], meet := [], rank := (List.replicate (Int.toNat ((a0).length : Int)) (0:Int)), all := [] } : label_Lattice)) hst z
 replace hst := hst.pull1.keep2
 obtain rfl := some_inj hm
 exact ⟨({ up := t4786, down := (List.replicate (Int.toNat ((a0).length : Int)) (0:Int)), join := [], meet := [], rank := (List.replicate (Int.toNat ((a0).length : Int)) (0:Int)), all := [] } : label_Lattice), b4915, (Pt b4955 0), _, hx5470, (fu 0 r0_0 z (fu 4 (.int .i64 ((a0).length : Int)) z (fu 5 (Pt b4915 0) z z))), hst⟩
}
}
}
 {
 refine nxe [1, 5, 6, 7, 8, 9] (by kernel_rfl) z z ?_
 clear hst
 intro w hst
 obtain ⟨v4962, w4963, hr4964, hst⟩ := run_mk (k := .i64) (k' := .i64) (zm := (0:Int)) elem_25 hst hg4788 (by decide) z
 refine we_run (v := v4962) (w' := w4963) z (x_make z z hr4964) ?_
 refine ws_next (pend' := [(4, I6 ((a0).length : Int)), (0, r0_0)]) hst (by kernel_rfl) (pkr z z (fun w hst => z) (pkr z z (fun w hst => z) pk_nil)) ?_
 refine ws_e3 1 5 8 (by kernel_rfl) ?_ ?_ ?_
 {
 refine nxe [5, 6, 7, 8, 9] (by kernel_rfl) z z ?_
 clear hst
 intro w hst
 refine wec call44 [r0_0] z z ?_
 refine (slices_Clone_uint64_uint64_ref (f0_0.mono (rd_weak _)) hst.to0 ht4787).mono ?_
 rintro _ w4966 ⟨v4969, rfl, hst⟩
 refine ⟨_, z, ?_⟩
 replace hst := hst.of1
 refine ws_next (pend' := [(4, I6 ((a0).length : Int))]) hst (by kernel_rfl) (pkr z z (fun w hst => z) pk_nil) ?_
 refine ws_e2 5 8 (by kernel_rfl) ?_ ?_
 {
 refine nxe [6, 7, 8, 9] (by kernel_rfl) z z ?_
 clear hst
 intro w hst
 obtain ⟨v4971, w4972, hr4973, hst⟩ := run_mk (k := .i64) (k' := .i64) (zm := (0:Int)) elem_46 hst hg4789 (by decide) z
 refine we_run (v := v4971) (w' := w4972) z (x_make z z hr4973) ?_
 refine ws_next (pend' := []) hst (by kernel_rfl) pk_nil ?_
 refine wsr (.agg #[v4969, v4962, Zs, Zs, v4971, Zs]) 6 rfl rfl rfl (by kernel_rfl) (fun w hst => by obtain ⟨_, _, hv_, _⟩ := hst.sv0; rw [hv_]; obtain ⟨_, _, hv_, _⟩ := hst.sv2; rw [hv_]; obtain ⟨_, _, hv_, _⟩ := hst.sv1; rw [hv_]; kernel_rfl) ?_
 refine ws_e2 7 8 (by kernel_rfl) ?_ ?_
 {
 refine nxe [8, 9] (by kernel_rfl) z z ?_
 clear hst
 intro w hst
 obtain ⟨b4981, w4982, ew4983, eb4984, hst⟩ := hst.box [v4969, v4962, Zs, Zs, v4971, Zs] 73
 refine we_run (v := Pt b4981 0) (w' := w4982) z (x_al (by kernel_rfl) ew4983 eb4984) ?_
 refine ws_next (pend' := []) hst (by kernel_rfl) pk_nil ?_
 refine ws_e1 8 (by kernel_rfl) ?_
 refine nxe [9] (by kernel_rfl) z z ?_
 clear hst
 intro w hst
 obtain ⟨b4986, w4987, ew4988, eb4989, hst⟩ := hst.box [.pointer none] 60
 refine we_run (v := Pt b4986 0) (w' := w4987) z (x_al (by kernel_rfl) ew4988 eb4989) ?_
 refine ws_next (pend' := []) hst (by kernel_rfl) pk_nil ?_
 refine ws_e1 9 (by kernel_rfl) ?_
 refine nxe [] (by kernel_rfl) z z ?_
 clear hst
 intro w hst
 obtain ⟨w4991, hr4992, hst⟩ := hst.by_ [Pt b4981 0] 0 (Pt b4981 0) sizeOf60 z (oC z oN) (by kernel_rfl)
 refine we_unit z (x_unit hr4992) ?_
 refine ws_next (pend' := []) hst (by kernel_rfl) pk_nil ?_
 refine ws_nil ?_
 intro w hst
 refine ⟨z, ?_⟩
 replace hst := hst.own_nil (tySl (tyInt .i64))
 replace hst := hst.own_nil (tySl (tyInt .i64))
 replace hst := hst.own_nil (tyInt .i64)
 replace hst := hst.pull5.pull2.pull3.pull7.pull7.pull7
 replace hst := at_label_Lattice_close (pv := Pt b4981 0) (x := ({ up := t4786, down := (List.replicate (Int.toNat ((a0).length : Int)) (0:Int)), join := [], meet := [], rank := (List.replicate (Int.toNat ((a0).length : Int)) (0:Int)), all := [] } : label_Lattice)) hst z
 replace hst := hst.pull1.keep2
 obtain rfl := some_inj hm
 exact ⟨({ up := t4786, down := (List.replicate (Int.toNat ((a0).length : Int)) (0:Int)), join := [], meet := [], rank := (List.replicate (Int.toNat ((a0).length : Int)) (0:Int)), all := [] } : label_Lattice), b4986, (Pt b4981 0), _, hx5470, (fu 0 r0_0 z (fu 4 (.int .i64 ((a0).length : Int)) z (fu 5 (Pt b4986 0) z z))), hst⟩
}
 {
 refine nxe [7, 9] (by kernel_rfl) z z ?_
 clear hst
 intro w hst
 obtain ⟨b4993, w4994, ew4995, eb4996, hst⟩ := hst.box [.pointer none] 60
 refine we_run (v := Pt b4993 0) (w' := w4994) z (x_al (by kernel_rfl) ew4995 eb4996) ?_
 refine ws_next (pend' := [(6, .agg #[v4969, v4962, Zs, Zs, v4971, Zs])]) hst (by kernel_rfl) (pkr rfl rfl (fun w hst => by obtain ⟨_, _, hv_, _⟩ := hst.sv1; rw [hv_]; obtain ⟨_, _, hv_, _⟩ := hst.sv3; rw [hv_]; obtain ⟨_, _, hv_, _⟩ := hst.sv2; rw [hv_]; kernel_rfl) pk_nil) ?_
 refine ws_e1 7 (by kernel_rfl) ?_
 refine nxe [9] (by kernel_rfl) z z ?_
 clear hst
 intro w hst
 obtain ⟨b4998, w4999, ew5000, eb5001, hst⟩ := hst.box [v4969, v4962, Zs, Zs, v4971, Zs] 73
 refine we_run (v := Pt b4998 0) (w' := w4999) z (x_al (by kernel_rfl) ew5000 eb5001) ?_
 refine ws_next (pend' := []) hst (by kernel_rfl) pk_nil ?_
 refine ws_e1 9 (by kernel_rfl) ?_
 refine nxe [] (by kernel_rfl) z z ?_
 clear hst
 intro w hst
 replace hst := hst.pull1
 obtain ⟨w5003, hr5004, hst⟩ := hst.by_ [Pt b4998 0] 0 (Pt b4998 0) sizeOf60 z (oC z oN) (by kernel_rfl)
 refine we_unit z (x_unit hr5004) ?_
 refine ws_next (pend' := []) hst (by kernel_rfl) pk_nil ?_
 refine ws_nil ?_
 intro w hst
 refine ⟨z, ?_⟩
 replace hst := hst.own_nil (tySl (tyInt .i64))
 replace hst := hst.own_nil (tySl (tyInt .i64))
 replace hst := hst.own_nil (tyInt .i64)
 replace hst := hst.pull5.pull2.pull3.pull7.pull7.pull7
 replace hst := at_label_Lattice_close (pv := Pt b4998 0) (x := ({ up := t4786, down := (List.replicate (Int.toNat ((a0).length : Int)) (0:Int)), join := [], meet := [], rank := (List.replicate (Int.toNat ((a0).length : Int)) (0:Int)), all := [] } : label_Lattice)) hst z
 replace hst := hst.pull1.keep2
 obtain rfl := some_inj hm
 exact ⟨({ up := t4786, down := (List.replicate (Int.toNat ((a0).length : Int)) (0:Int)), join := [], meet := [], rank := (List.replicate (Int.toNat ((a0).length : Int)) (0:Int)), all := [] } : label_Lattice), b4993, (Pt b4998 0), _, hx5470, (fu 0 r0_0 z (fu 4 (.int .i64 ((a0).length : Int)) z (fu 5 (Pt b4993 0) z z))), hst⟩
}
}
 {
 refine nxe [5, 6, 7, 9] (by kernel_rfl) z z ?_
 clear hst
 intro w hst
 obtain ⟨b5005, w5006, ew5007, eb5008, hst⟩ := hst.box [.pointer none] 60
 refine we_run (v := Pt b5005 0) (w' := w5006) z (x_al (by kernel_rfl) ew5007 eb5008) ?_
 refine ws_next (pend' := [(4, I6 ((a0).length : Int))]) hst (by kernel_rfl) (pkr z z (fun w hst => z) pk_nil) ?_
 refine ws_e1 5 (by kernel_rfl) ?_
 refine nxe [6, 7, 9] (by kernel_rfl) z z ?_
 clear hst
 intro w hst
 obtain ⟨v5010, w5011, hr5012, hst⟩ := run_mk (k := .i64) (k' := .i64) (zm := (0:Int)) elem_46 hst hg4789 (by decide) z
 refine we_run (v := v5010) (w' := w5011) z (x_make z z hr5012) ?_
 refine ws_next (pend' := []) hst (by kernel_rfl) pk_nil ?_
 refine wsr (.agg #[v4969, v4962, Zs, Zs, v5010, Zs]) 6 rfl rfl rfl (by kernel_rfl) (fun w hst => by obtain ⟨_, _, hv_, _⟩ := hst.sv0; rw [hv_]; obtain ⟨_, _, hv_, _⟩ := hst.sv3; rw [hv_]; obtain ⟨_, _, hv_, _⟩ := hst.sv2; rw [hv_]; kernel_rfl) ?_
 refine ws_e1 7 (by kernel_rfl) ?_
 refine nxe [9] (by kernel_rfl) z z ?_
 clear hst
 intro w hst
 obtain ⟨b5020, w5021, ew5022, eb5023, hst⟩ := hst.box [v4969, v4962, Zs, Zs, v5010, Zs] 73
 refine we_run (v := Pt b5020 0) (w' := w5021) z (x_al (by kernel_rfl) ew5022 eb5023) ?_
 refine ws_next (pend' := []) hst (by kernel_rfl) pk_nil ?_
 refine ws_e1 9 (by kernel_rfl) ?_
 refine nxe [] (by kernel_rfl) z z ?_
 clear hst
 intro w hst
 replace hst := hst.pull2
 obtain ⟨w5025, hr5026, hst⟩ := hst.by_ [Pt b5020 0] 0 (Pt b5020 0) sizeOf60 z (oC z oN) (by kernel_rfl)
 refine we_unit z (x_unit hr5026) ?_
 refine ws_next (pend' := []) hst (by kernel_rfl) pk_nil ?_
 refine ws_nil ?_
 intro w hst
 refine ⟨z, ?_⟩
 replace hst := hst.own_nil (tySl (tyInt .i64))
 replace hst := hst.own_nil (tySl (tyInt .i64))
 replace hst := hst.own_nil (tyInt .i64)
 replace hst := hst.pull5.pull2.pull3.pull7.pull7.pull7
 replace hst := at_label_Lattice_close (pv := Pt b5020 0) (x := ({ up := t4786, down := (List.replicate (Int.toNat ((a0).length : Int)) (0:Int)), join := [], meet := [], rank := (List.replicate (Int.toNat ((a0).length : Int)) (0:Int)), all := [] } : label_Lattice)) hst z
 replace hst := hst.pull1.keep2
 obtain rfl := some_inj hm
 exact ⟨({ up := t4786, down := (List.replicate (Int.toNat ((a0).length : Int)) (0:Int)), join := [], meet := [], rank := (List.replicate (Int.toNat ((a0).length : Int)) (0:Int)), all := [] } : label_Lattice), b5005, (Pt b5020 0), _, hx5470, (fu 0 r0_0 z (fu 4 (.int .i64 ((a0).length : Int)) z (fu 5 (Pt b5005 0) z z))), hst⟩
}
}
 {
 refine nxe [1, 6, 7, 8, 9] (by kernel_rfl) z z ?_
 clear hst
 intro w hst
 obtain ⟨v5027, w5028, hr5029, hst⟩ := run_mk (k := .i64) (k' := .i64) (zm := (0:Int)) elem_46 hst hg4789 (by decide) z
 refine we_run (v := v5027) (w' := w5028) z (x_make z z hr5029) ?_
 refine ws_next (pend' := [(0, r0_0)]) hst (by kernel_rfl) (pkr z z (fun w hst => z) pk_nil) ?_
 refine ws_e2 1 8 (by kernel_rfl) ?_ ?_
 {
 refine nxe [6, 7, 8, 9] (by kernel_rfl) z z ?_
 clear hst
 intro w hst
 refine wec call44 [r0_0] z z ?_
 refine (slices_Clone_uint64_uint64_ref (f0_0.mono (rd_weak _)) hst.to0 ht4787).mono ?_
 rintro _ w5031 ⟨v5034, rfl, hst⟩
 refine ⟨_, z, ?_⟩
 replace hst := hst.of1
 refine ws_next (pend' := []) hst (by kernel_rfl) pk_nil ?_
 refine wsr (.agg #[v5034, v4962, Zs, Zs, v5027, Zs]) 6 rfl rfl rfl (by kernel_rfl) (fun w hst => by obtain ⟨_, _, hv_, _⟩ := hst.sv1; rw [hv_]; obtain ⟨_, _, hv_, _⟩ := hst.sv2; rw [hv_]; obtain ⟨_, _, hv_, _⟩ := hst.sv0; rw [hv_]; kernel_rfl) ?_
 refine ws_e2 7 8 (by kernel_rfl) ?_ ?_
 {
 refine nxe [8, 9] (by kernel_rfl) z z ?_
 clear hst
 intro w hst
 obtain ⟨b5042, w5043, ew5044, eb5045, hst⟩ := hst.box [v5034, v4962, Zs, Zs, v5027, Zs] 73
 refine we_run (v := Pt b5042 0) (w' := w5043) z (x_al (by kernel_rfl) ew5044 eb5045) ?_
 refine ws_next (pend' := []) hst (by kernel_rfl) pk_nil ?_
 refine ws_e1 8 (by kernel_rfl) ?_
 refine nxe [9] (by kernel_rfl) z z ?_
 clear hst
 intro w hst
 obtain ⟨b5047, w5048, ew5049, eb5050, hst⟩ := hst.box [.pointer none] 60
 refine we_run (v := Pt b5047 0) (w' := w5048) z (x_al (by kernel_rfl) ew5049 eb5050) ?_
 refine ws_next (pend' := []) hst (by kernel_rfl) pk_nil ?_
 refine ws_e1 9 (by kernel_rfl) ?_
 refine nxe [] (by kernel_rfl) z z ?_
 clear hst
 intro w hst
 obtain ⟨w5052, hr5053, hst⟩ := hst.by_ [Pt b5042 0] 0 (Pt b5042 0) sizeOf60 z (oC z oN) (by kernel_rfl)
 refine we_unit z (x_unit hr5053) ?_
 refine ws_next (pend' := []) hst (by kernel_rfl) pk_nil ?_
 refine ws_nil ?_
 intro w hst
 refine ⟨z, ?_⟩
 replace hst := hst.own_nil (tySl (tyInt .i64))
 replace hst := hst.own_nil (tySl (tyInt .i64))
 replace hst := hst.own_nil (tyInt .i64)
 replace hst := hst.pull6.pull2.pull3.pull7.pull7.pull7
 replace hst := at_label_Lattice_close (pv := Pt b5042 0) (x := ({ up := t4786, down := (List.replicate (Int.toNat ((a0).length : Int)) (0:Int)), join := [], meet := [], rank := (List.replicate (Int.toNat ((a0).length : Int)) (0:Int)), all := [] } : label_Lattice)) hst z
 replace hst := hst.pull1.keep2
 obtain rfl := some_inj hm
 exact ⟨({ up := t4786, down := (List.replicate (Int.toNat ((a0).length : Int)) (0:Int)), join := [], meet := [], rank := (List.replicate (Int.toNat ((a0).length : Int)) (0:Int)), all := [] } : label_Lattice), b5047, (Pt b5042 0), _, hx5470, (fu 0 r0_0 z (fu 4 (.int .i64 ((a0).length : Int)) z (fu 5 (Pt b5047 0) z z))), hst⟩
}
 {
 refine nxe [7, 9] (by kernel_rfl) z z ?_
 clear hst
 intro w hst
 obtain ⟨b5054, w5055, ew5056, eb5057, hst⟩ := hst.box [.pointer none] 60
 refine we_run (v := Pt b5054 0) (w' := w5055) z (x_al (by kernel_rfl) ew5056 eb5057) ?_
 refine ws_next (pend' := [(6, .agg #[v5034, v4962, Zs, Zs, v5027, Zs])]) hst (by kernel_rfl) (pkr rfl rfl (fun w hst => by obtain ⟨_, _, hv_, _⟩ := hst.sv2; rw [hv_]; obtain ⟨_, _, hv_, _⟩ := hst.sv3; rw [hv_]; obtain ⟨_, _, hv_, _⟩ := hst.sv1; rw [hv_]; kernel_rfl) pk_nil) ?_
 refine ws_e1 7 (by kernel_rfl) ?_
 refine nxe [9] (by kernel_rfl) z z ?_
 clear hst
 intro w hst
 obtain ⟨b5059, w5060, ew5061, eb5062, hst⟩ := hst.box [v5034, v4962, Zs, Zs, v5027, Zs] 73
 refine we_run (v := Pt b5059 0) (w' := w5060) z (x_al (by kernel_rfl) ew5061 eb5062) ?_
 refine ws_next (pend' := []) hst (by kernel_rfl) pk_nil ?_
 refine ws_e1 9 (by kernel_rfl) ?_
 refine nxe [] (by kernel_rfl) z z ?_
 clear hst
 intro w hst
 replace hst := hst.pull1
 obtain ⟨w5064, hr5065, hst⟩ := hst.by_ [Pt b5059 0] 0 (Pt b5059 0) sizeOf60 z (oC z oN) (by kernel_rfl)
 refine we_unit z (x_unit hr5065) ?_
 refine ws_next (pend' := []) hst (by kernel_rfl) pk_nil ?_
 refine ws_nil ?_
 intro w hst
 refine ⟨z, ?_⟩
 replace hst := hst.own_nil (tySl (tyInt .i64))
 replace hst := hst.own_nil (tySl (tyInt .i64))
 replace hst := hst.own_nil (tyInt .i64)
 replace hst := hst.pull6.pull2.pull3.pull7.pull7.pull7
 replace hst := at_label_Lattice_close (pv := Pt b5059 0) (x := ({ up := t4786, down := (List.replicate (Int.toNat ((a0).length : Int)) (0:Int)), join := [], meet := [], rank := (List.replicate (Int.toNat ((a0).length : Int)) (0:Int)), all := [] } : label_Lattice)) hst z
 replace hst := hst.pull1.keep2
 obtain rfl := some_inj hm
 exact ⟨({ up := t4786, down := (List.replicate (Int.toNat ((a0).length : Int)) (0:Int)), join := [], meet := [], rank := (List.replicate (Int.toNat ((a0).length : Int)) (0:Int)), all := [] } : label_Lattice), b5054, (Pt b5059 0), _, hx5470, (fu 0 r0_0 z (fu 4 (.int .i64 ((a0).length : Int)) z (fu 5 (Pt b5054 0) z z))), hst⟩
}
}
 {
 refine nxe [1, 6, 7, 9] (by kernel_rfl) z z ?_
 clear hst
 intro w hst
 obtain ⟨b5066, w5067, ew5068, eb5069, hst⟩ := hst.box [.pointer none] 60
 refine we_run (v := Pt b5066 0) (w' := w5067) z (x_al (by kernel_rfl) ew5068 eb5069) ?_
 refine ws_next (pend' := [(0, r0_0)]) hst (by kernel_rfl) (pkr z z (fun w hst => z) pk_nil) ?_
 refine ws_e1 1 (by kernel_rfl) ?_
 refine nxe [6, 7, 9] (by kernel_rfl) z z ?_
 clear hst
 intro w hst
 refine wec call44 [r0_0] z z ?_
 refine (slices_Clone_uint64_uint64_ref (f0_0.mono (rd_weak _)) hst.to0 ht4787).mono ?_
 rintro _ w5071 ⟨v5074, rfl, hst⟩
 refine ⟨_, z, ?_⟩
 replace hst := hst.of1
 refine ws_next (pend' := []) hst (by kernel_rfl) pk_nil ?_
 refine wsr (.agg #[v5074, v4962, Zs, Zs, v5027, Zs]) 6 rfl rfl rfl (by kernel_rfl) (fun w hst => by obtain ⟨_, _, hv_, _⟩ := hst.sv2; rw [hv_]; obtain ⟨_, _, hv_, _⟩ := hst.sv3; rw [hv_]; obtain ⟨_, _, hv_, _⟩ := hst.sv0; rw [hv_]; kernel_rfl) ?_
 refine ws_e1 7 (by kernel_rfl) ?_
 refine nxe [9] (by kernel_rfl) z z ?_
 clear hst
 intro w hst
 obtain ⟨b5082, w5083, ew5084, eb5085, hst⟩ := hst.box [v5074, v4962, Zs, Zs, v5027, Zs] 73
 refine we_run (v := Pt b5082 0) (w' := w5083) z (x_al (by kernel_rfl) ew5084 eb5085) ?_
 refine ws_next (pend' := []) hst (by kernel_rfl) pk_nil ?_
 refine ws_e1 9 (by kernel_rfl) ?_
 refine nxe [] (by kernel_rfl) z z ?_
 clear hst
 intro w hst
 replace hst := hst.pull2
 obtain ⟨w5087, hr5088, hst⟩ := hst.by_ [Pt b5082 0] 0 (Pt b5082 0) sizeOf60 z (oC z oN) (by kernel_rfl)
 refine we_unit z (x_unit hr5088) ?_
 refine ws_next (pend' := []) hst (by kernel_rfl) pk_nil ?_
 refine ws_nil ?_
 intro w hst
 refine ⟨z, ?_⟩
 replace hst := hst.own_nil (tySl (tyInt .i64))
 replace hst := hst.own_nil (tySl (tyInt .i64))
 replace hst := hst.own_nil (tyInt .i64)
 replace hst := hst.pull6.pull2.pull3.pull7.pull7.pull7
 replace hst := at_label_Lattice_close (pv := Pt b5082 0) (x := ({ up := t4786, down := (List.replicate (Int.toNat ((a0).length : Int)) (0:Int)), join := [], meet := [], rank := (List.replicate (Int.toNat ((a0).length : Int)) (0:Int)), all := [] } : label_Lattice)) hst z
 replace hst := hst.pull1.keep2
 obtain rfl := some_inj hm
 exact ⟨({ up := t4786, down := (List.replicate (Int.toNat ((a0).length : Int)) (0:Int)), join := [], meet := [], rank := (List.replicate (Int.toNat ((a0).length : Int)) (0:Int)), all := [] } : label_Lattice), b5066, (Pt b5082 0), _, hx5470, (fu 0 r0_0 z (fu 4 (.int .i64 ((a0).length : Int)) z (fu 5 (Pt b5066 0) z z))), hst⟩
}
}
 {
 refine nxe [1, 5, 6, 7, 9] (by kernel_rfl) z z ?_
 clear hst
 intro w hst
 obtain ⟨b5089, w5090, ew5091, eb5092, hst⟩ := hst.box [.pointer none] 60
 refine we_run (v := Pt b5089 0) (w' := w5090) z (x_al (by kernel_rfl) ew5091 eb5092) ?_
 refine ws_next (pend' := [(4, I6 ((a0).length : Int)), (0, r0_0)]) hst (by kernel_rfl) (pkr z z (fun w hst => z) (pkr z z (fun w hst => z) pk_nil)) ?_
 refine ws_e2 1 5 (by kernel_rfl) ?_ ?_
 {
 refine nxe [5, 6, 7, 9] (by kernel_rfl) z z ?_
 clear hst
 intro w hst
 refine wec call44 [r0_0] z z ?_
 refine (slices_Clone_uint64_uint64_ref (f0_0.mono (rd_weak _)) hst.to0 ht4787).mono ?_
 rintro _ w5094 ⟨v5097, rfl, hst⟩
 refine ⟨_, z, ?_⟩
 replace hst := hst.of1
 refine ws_next (pend' := [(4, I6 ((a0).length : Int))]) hst (by kernel_rfl) (pkr z z (fun w hst => z) pk_nil) ?_
 refine ws_e1 5 (by kernel_rfl) ?_
 refine nxe [6, 7, 9] (by kernel_rfl) z z ?_
 clear hst
 intro w hst
 obtain ⟨v5099, w5100, hr5101, hst⟩ := run_mk (k := .i64) (k' := .i64) (zm := (0:Int)) elem_46 hst hg4789 (by decide) z
 refine we_run (v := v5099) (w' := w5100) z (x_make z z hr5101) ?_
 refine ws_next (pend' := []) hst (by kernel_rfl) pk_nil ?_
 refine wsr (.agg #[v5097, v4962, Zs, Zs, v5099, Zs]) 6 rfl rfl rfl (by kernel_rfl) (fun w hst => by obtain ⟨_, _, hv_, _⟩ := hst.sv0; rw [hv_]; obtain ⟨_, _, hv_, _⟩ := hst.sv3; rw [hv_]; obtain ⟨_, _, hv_, _⟩ := hst.sv1; rw [hv_]; kernel_rfl) ?_
 refine ws_e1 7 (by kernel_rfl) ?_
 refine nxe [9] (by kernel_rfl) z z ?_
 clear hst
 intro w hst
 obtain ⟨b5109, w5110, ew5111, eb5112, hst⟩ := hst.box [v5097, v4962, Zs, Zs, v5099, Zs] 73
 refine we_run (v := Pt b5109 0) (w' := w5110) z (x_al (by kernel_rfl) ew5111 eb5112) ?_
 refine ws_next (pend' := []) hst (by kernel_rfl) pk_nil ?_
 refine ws_e1 9 (by kernel_rfl) ?_
 refine nxe [] (by kernel_rfl) z z ?_
 clear hst
 intro w hst
 replace hst := hst.pull3
 obtain ⟨w5114, hr5115, hst⟩ := hst.by_ [Pt b5109 0] 0 (Pt b5109 0) sizeOf60 z (oC z oN) (by kernel_rfl)
 refine we_unit z (x_unit hr5115) ?_
 refine ws_next (pend' := []) hst (by kernel_rfl) pk_nil ?_
 refine ws_nil ?_
 intro w hst
 refine ⟨z, ?_⟩
 replace hst := hst.own_nil (tySl (tyInt .i64))
 replace hst := hst.own_nil (tySl (tyInt .i64))
 replace hst := hst.own_nil (tyInt .i64)
 replace hst := hst.pull5.pull2.pull3.pull7.pull7.pull7
 replace hst := at_label_Lattice_close (pv := Pt b5109 0) (x := ({ up := t4786, down := (List.replicate (Int.toNat ((a0).length : Int)) (0:Int)), join := [], meet := [], rank := (List.replicate (Int.toNat ((a0).length : Int)) (0:Int)), all := [] } : label_Lattice)) hst z
 replace hst := hst.pull1.keep2
 obtain rfl := some_inj hm
 exact ⟨({ up := t4786, down := (List.replicate (Int.toNat ((a0).length : Int)) (0:Int)), join := [], meet := [], rank := (List.replicate (Int.toNat ((a0).length : Int)) (0:Int)), all := [] } : label_Lattice), b5089, (Pt b5109 0), _, hx5470, (fu 0 r0_0 z (fu 4 (.int .i64 ((a0).length : Int)) z (fu 5 (Pt b5089 0) z z))), hst⟩
}
 {
 refine nxe [1, 6, 7, 9] (by kernel_rfl) z z ?_
 clear hst
 intro w hst
 obtain ⟨v5116, w5117, hr5118, hst⟩ := run_mk (k := .i64) (k' := .i64) (zm := (0:Int)) elem_46 hst hg4789 (by decide) z
 refine we_run (v := v5116) (w' := w5117) z (x_make z z hr5118) ?_
 refine ws_next (pend' := [(0, r0_0)]) hst (by kernel_rfl) (pkr z z (fun w hst => z) pk_nil) ?_
 refine ws_e1 1 (by kernel_rfl) ?_
 refine nxe [6, 7, 9] (by kernel_rfl) z z ?_
 clear hst
 intro w hst
 refine wec call44 [r0_0] z z ?_
 refine (slices_Clone_uint64_uint64_ref (f0_0.mono (rd_weak _)) hst.to0 ht4787).mono ?_
 rintro _ w5120 ⟨v5123, rfl, hst⟩
 refine ⟨_, z, ?_⟩
 replace hst := hst.of1
 refine ws_next (pend' := []) hst (by kernel_rfl) pk_nil ?_
 refine wsr (.agg #[v5123, v4962, Zs, Zs, v5116, Zs]) 6 rfl rfl rfl (by kernel_rfl) (fun w hst => by obtain ⟨_, _, hv_, _⟩ := hst.sv1; rw [hv_]; obtain ⟨_, _, hv_, _⟩ := hst.sv3; rw [hv_]; obtain ⟨_, _, hv_, _⟩ := hst.sv0; rw [hv_]; kernel_rfl) ?_
 refine ws_e1 7 (by kernel_rfl) ?_
 refine nxe [9] (by kernel_rfl) z z ?_
 clear hst
 intro w hst
 obtain ⟨b5131, w5132, ew5133, eb5134, hst⟩ := hst.box [v5123, v4962, Zs, Zs, v5116, Zs] 73
 refine we_run (v := Pt b5131 0) (w' := w5132) z (x_al (by kernel_rfl) ew5133 eb5134) ?_
 refine ws_next (pend' := []) hst (by kernel_rfl) pk_nil ?_
 refine ws_e1 9 (by kernel_rfl) ?_
 refine nxe [] (by kernel_rfl) z z ?_
 clear hst
 intro w hst
 replace hst := hst.pull3
 obtain ⟨w5136, hr5137, hst⟩ := hst.by_ [Pt b5131 0] 0 (Pt b5131 0) sizeOf60 z (oC z oN) (by kernel_rfl)
 refine we_unit z (x_unit hr5137) ?_
 refine ws_next (pend' := []) hst (by kernel_rfl) pk_nil ?_
 refine ws_nil ?_
 intro w hst
 refine ⟨z, ?_⟩
 replace hst := hst.own_nil (tySl (tyInt .i64))
 replace hst := hst.own_nil (tySl (tyInt .i64))
 replace hst := hst.own_nil (tyInt .i64)
 replace hst := hst.pull6.pull2.pull3.pull7.pull7.pull7
 replace hst := at_label_Lattice_close (pv := Pt b5131 0) (x := ({ up := t4786, down := (List.replicate (Int.toNat ((a0).length : Int)) (0:Int)), join := [], meet := [], rank := (List.replicate (Int.toNat ((a0).length : Int)) (0:Int)), all := [] } : label_Lattice)) hst z
 replace hst := hst.pull1.keep2
 obtain rfl := some_inj hm
 exact ⟨({ up := t4786, down := (List.replicate (Int.toNat ((a0).length : Int)) (0:Int)), join := [], meet := [], rank := (List.replicate (Int.toNat ((a0).length : Int)) (0:Int)), all := [] } : label_Lattice), b5089, (Pt b5131 0), _, hx5470, (fu 0 r0_0 z (fu 4 (.int .i64 ((a0).length : Int)) z (fu 5 (Pt b5089 0) z z))), hst⟩
}
}
}
 {
 refine nxe [1, 3, 6, 7, 8, 9] (by kernel_rfl) z z ?_
 clear hst
 intro w hst
 obtain ⟨v5138, w5139, hr5140, hst⟩ := run_mk (k := .i64) (k' := .i64) (zm := (0:Int)) elem_46 hst hg4789 (by decide) z
 refine we_run (v := v5138) (w' := w5139) z (x_make z z hr5140) ?_
 refine ws_next (pend' := [(2, I6 ((a0).length : Int)), (0, r0_0)]) hst (by kernel_rfl) (pkr z z (fun w hst => z) (pkr z z (fun w hst => z) pk_nil)) ?_
 refine ws_e3 1 3 8 (by kernel_rfl) ?_ ?_ ?_
 {
 refine nxe [3, 6, 7, 8, 9] (by kernel_rfl) z z ?_
 clear hst
 intro w hst
 refine wec call44 [r0_0] z z ?_
 refine (slices_Clone_uint64_uint64_ref (f0_0.mono (rd_weak _)) hst.to0 ht4787).mono ?_
 rintro _ w5142 ⟨v5145, rfl, hst⟩
 refine ⟨_, z, ?_⟩
 replace hst := hst.of1
 refine ws_next (pend' := [(2, I6 ((a0).length : Int))]) hst (by kernel_rfl) (pkr z z (fun w hst => z) pk_nil) ?_
 refine ws_e2 3 8 (by kernel_rfl) ?_ ?_
 {
 refine nxe [6, 7, 8, 9] (by kernel_rfl) z z ?_
 clear hst
 intro w hst
 obtain ⟨v5147, w5148, hr5149, hst⟩ := run_mk (k := .i64) (k' := .i64) (zm := (0:Int)) elem_25 hst hg4788 (by decide) z
 refine we_run (v := v5147) (w' := w5148) z (x_make z z hr5149) ?_
 refine ws_next (pend' := []) hst (by kernel_rfl) pk_nil ?_
 refine wsr (.agg #[v5145, v5147, Zs, Zs, v5138, Zs]) 6 rfl rfl rfl (by kernel_rfl) (fun w hst => by obtain ⟨_, _, hv_, _⟩ := hst.sv2; rw [hv_]; obtain ⟨_, _, hv_, _⟩ := hst.sv0; rw [hv_]; obtain ⟨_, _, hv_, _⟩ := hst.sv1; rw [hv_]; kernel_rfl) ?_
 refine ws_e2 7 8 (by kernel_rfl) ?_ ?_
 {
 refine nxe [8, 9] (by kernel_rfl) z z ?_
 clear hst
 intro w hst
 obtain ⟨b5157, w5158, ew5159, eb5160, hst⟩ := hst.box [v5145, v5147, Zs, Zs, v5138, Zs] 73
 refine we_run (v := Pt b5157 0) (w' := w5158) z (x_al (by kernel_rfl) ew5159 eb5160) ?_
 refine ws_next (pend' := []) hst (by kernel_rfl) pk_nil ?_
 refine ws_e1 8 (by kernel_rfl) ?_
 refine nxe [9] (by kernel_rfl) z z ?_
 clear hst
 intro w hst
 obtain ⟨b5162, w5163, ew5164, eb5165, hst⟩ := hst.box [.pointer none] 60
 refine we_run (v := Pt b5162 0) (w' := w5163) z (x_al (by kernel_rfl) ew5164 eb5165) ?_
 refine ws_next (pend' := []) hst (by kernel_rfl) pk_nil ?_
 refine ws_e1 9 (by kernel_rfl) ?_
 refine nxe [] (by kernel_rfl) z z ?_
 clear hst
 intro w hst
 obtain ⟨w5167, hr5168, hst⟩ := hst.by_ [Pt b5157 0] 0 (Pt b5157 0) sizeOf60 z (oC z oN) (by kernel_rfl)
 refine we_unit z (x_unit hr5168) ?_
 refine ws_next (pend' := []) hst (by kernel_rfl) pk_nil ?_
 refine ws_nil ?_
 intro w hst
 refine ⟨z, ?_⟩
 replace hst := hst.own_nil (tySl (tyInt .i64))
 replace hst := hst.own_nil (tySl (tyInt .i64))
 replace hst := hst.own_nil (tyInt .i64)
 replace hst := hst.pull7.pull2.pull3.pull6.pull7.pull7
 replace hst := at_label_Lattice_close (pv := Pt b5157 0) (x := ({ up := t4786, down := (List.replicate (Int.toNat ((a0).length : Int)) (0:Int)), join := [], meet := [], rank := (List.replicate (Int.toNat ((a0).length : Int)) (0:Int)), all := [] } : label_Lattice)) hst z
 replace hst := hst.pull1.keep2
 obtain rfl := some_inj hm
 exact ⟨({ up := t4786, down := (List.replicate (Int.toNat ((a0).length : Int)) (0:Int)), join := [], meet := [], rank := (List.replicate (Int.toNat ((a0).length : Int)) (0:Int)), all := [] } : label_Lattice), b5162, (Pt b5157 0), _, hx5470, (fu 0 r0_0 z (fu 4 (.int .i64 ((a0).length : Int)) z (fu 5 (Pt b5162 0) z z))), hst⟩
}
 {
 refine nxe [7, 9] (by kernel_rfl) z z ?_
 clear hst
 intro w hst
 obtain ⟨b5169, w5170, ew5171, eb5172, hst⟩ := hst.box [.pointer none] 60
 refine we_run (v := Pt b5169 0) (w' := w5170) z (x_al (by kernel_rfl) ew5171 eb5172) ?_
 refine ws_next (pend' := [(6, .agg #[v5145, v5147, Zs, Zs, v5138, Zs])]) hst (by kernel_rfl) (pkr rfl rfl (fun w hst => by obtain ⟨_, _, hv_, _⟩ := hst.sv3; rw [hv_]; obtain ⟨_, _, hv_, _⟩ := hst.sv1; rw [hv_]; obtain ⟨_, _, hv_, _⟩ := hst.sv2; rw [hv_]; kernel_rfl) pk_nil) ?_
 refine ws_e1 7 (by kernel_rfl) ?_
 refine nxe [9] (by kernel_rfl) z z ?_
 clear hst
 intro w hst
 obtain ⟨b5174, w5175, ew5176, eb5177, hst⟩ := hst.box [v5145, v5147, Zs, Zs, v5138, Zs] 73
 refine we_run (v := Pt b5174 0) (w' := w5175) z (x_al (by kernel_rfl) ew5176 eb5177) ?_
 refine ws_next (pend' := []) hst (by kernel_rfl) pk_nil ?_
 refine ws_e1 9 (by kernel_rfl) ?_
 refine nxe [] (by kernel_rfl) z z ?_
 clear hst
 intro w hst
 replace hst := hst.pull1
 obtain ⟨w5179, hr5180, hst⟩ := hst.by_ [Pt b5174 0] 0 (Pt b5174 0) sizeOf60 z (oC z oN) (by kernel_rfl)
 refine we_unit z (x_unit hr5180) ?_
 refine ws_next (pend' := []) hst (by kernel_rfl) pk_nil ?_
 refine ws_nil ?_
 intro w hst
 refine ⟨z, ?_⟩
 replace hst := hst.own_nil (tySl (tyInt .i64))
 replace hst := hst.own_nil (tySl (tyInt .i64))
 replace hst := hst.own_nil (tyInt .i64)
 replace hst := hst.pull7.pull2.pull3.pull6.pull7.pull7
 replace hst := at_label_Lattice_close (pv := Pt b5174 0) (x := ({ up := t4786, down := (List.replicate (Int.toNat ((a0).length : Int)) (0:Int)), join := [], meet := [], rank := (List.replicate (Int.toNat ((a0).length : Int)) (0:Int)), all := [] } : label_Lattice)) hst z
 replace hst := hst.pull1.keep2
 obtain rfl := some_inj hm
 exact ⟨({ up := t4786, down := (List.replicate (Int.toNat ((a0).length : Int)) (0:Int)), join := [], meet := [], rank := (List.replicate (Int.toNat ((a0).length : Int)) (0:Int)), all := [] } : label_Lattice), b5169, (Pt b5174 0), _, hx5470, (fu 0 r0_0 z (fu 4 (.int .i64 ((a0).length : Int)) z (fu 5 (Pt b5169 0) z z))), hst⟩
}
}
 {
 refine nxe [3, 6, 7, 9] (by kernel_rfl) z z ?_
 clear hst
 intro w hst
 obtain ⟨b5181, w5182, ew5183, eb5184, hst⟩ := hst.box [.pointer none] 60
 refine we_run (v := Pt b5181 0) (w' := w5182) z (x_al (by kernel_rfl) ew5183 eb5184) ?_
 refine ws_next (pend' := [(2, I6 ((a0).length : Int))]) hst (by kernel_rfl) (pkr z z (fun w hst => z) pk_nil) ?_
 refine ws_e1 3 (by kernel_rfl) ?_
 refine nxe [6, 7, 9] (by kernel_rfl) z z ?_
 clear hst
 intro w hst
 obtain ⟨v5186, w5187, hr5188, hst⟩ := run_mk (k := .i64) (k' := .i64) (zm := (0:Int)) elem_25 hst hg4788 (by decide) z
 refine we_run (v := v5186) (w' := w5187) z (x_make z z hr5188) ?_
 refine ws_next (pend' := []) hst (by kernel_rfl) pk_nil ?_
 refine wsr (.agg #[v5145, v5186, Zs, Zs, v5138, Zs]) 6 rfl rfl rfl (by kernel_rfl) (fun w hst => by obtain ⟨_, _, hv_, _⟩ := hst.sv3; rw [hv_]; obtain ⟨_, _, hv_, _⟩ := hst.sv0; rw [hv_]; obtain ⟨_, _, hv_, _⟩ := hst.sv2; rw [hv_]; kernel_rfl) ?_
 refine ws_e1 7 (by kernel_rfl) ?_
 refine nxe [9] (by kernel_rfl) z z ?_
 clear hst
 intro w hst
 obtain ⟨b5196, w5197, ew5198, eb5199, hst⟩ := hst.box [v5145, v5186, Zs, Zs, v5138, Zs] 73
 refine we_run (v := Pt b5196 0) (w' := w5197) z (x_al (by kernel_rfl) ew5198 eb5199) ?_
 refine ws_next (pend' := []) hst (by kernel_rfl) pk_nil ?_
 refine ws_e1 9 (by kernel_rfl) ?_
 refine nxe [] (by kernel_rfl) z z ?_
 clear hst
 intro w hst
 replace hst := hst.pull2
 obtain ⟨w5201, hr5202, hst⟩ := hst.by_ [Pt b5196 0] 0 (Pt b5196 0) sizeOf60 z (oC z oN) (by kernel_rfl)
 refine we_unit z (x_unit hr5202) ?_
 refine ws_next (pend' := []) hst (by kernel_rfl) pk_nil ?_
 refine ws_nil ?_
 intro w hst
 refine ⟨z, ?_⟩
 replace hst := hst.own_nil (tySl (tyInt .i64))
 replace hst := hst.own_nil (tySl (tyInt .i64))
 replace hst := hst.own_nil (tyInt .i64)
 replace hst := hst.pull7.pull2.pull3.pull6.pull7.pull7
 replace hst := at_label_Lattice_close (pv := Pt b5196 0) (x := ({ up := t4786, down := (List.replicate (Int.toNat ((a0).length : Int)) (0:Int)), join := [], meet := [], rank := (List.replicate (Int.toNat ((a0).length : Int)) (0:Int)), all := [] } : label_Lattice)) hst z
 replace hst := hst.pull1.keep2
 obtain rfl := some_inj hm
 exact ⟨({ up := t4786, down := (List.replicate (Int.toNat ((a0).length : Int)) (0:Int)), join := [], meet := [], rank := (List.replicate (Int.toNat ((a0).length : Int)) (0:Int)), all := [] } : label_Lattice), b5181, (Pt b5196 0), _, hx5470, (fu 0 r0_0 z (fu 4 (.int .i64 ((a0).length : Int)) z (fu 5 (Pt b5181 0) z z))), hst⟩
}
}
 {
 refine nxe [1, 6, 7, 8, 9] (by kernel_rfl) z z ?_
 clear hst
 intro w hst
 obtain ⟨v5203, w5204, hr5205, hst⟩ := run_mk (k := .i64) (k' := .i64) (zm := (0:Int)) elem_25 hst hg4788 (by decide) z
 refine we_run (v := v5203) (w' := w5204) z (x_make z z hr5205) ?_
 refine ws_next (pend' := [(0, r0_0)]) hst (by kernel_rfl) (pkr z z (fun w hst => z) pk_nil) ?_
 refine ws_e2 1 8 (by kernel_rfl) ?_ ?_
 {
 refine nxe [6, 7, 8, 9] (by kernel_rfl) z z ?_
 clear hst
 intro w hst
 refine wec call44 [r0_0] z z ?_
 refine (slices_Clone_uint64_uint64_ref (f0_0.mono (rd_weak _)) hst.to0 ht4787).mono ?_
 rintro _ w5207 ⟨v5210, rfl, hst⟩
 refine ⟨_, z, ?_⟩
 replace hst := hst.of1
 refine ws_next (pend' := []) hst (by kernel_rfl) pk_nil ?_
 refine wsr (.agg #[v5210, v5203, Zs, Zs, v5138, Zs]) 6 rfl rfl rfl (by kernel_rfl) (fun w hst => by obtain ⟨_, _, hv_, _⟩ := hst.sv2; rw [hv_]; obtain ⟨_, _, hv_, _⟩ := hst.sv1; rw [hv_]; obtain ⟨_, _, hv_, _⟩ := hst.sv0; rw [hv_]; kernel_rfl) ?_
 refine ws_e2 7 8 (by kernel_rfl) ?_ ?_
 {
 refine nxe [8, 9] (by kernel_rfl) z z ?_
 clear hst
 intro w hst
 obtain ⟨b5218, w5219, ew5220, eb5221, hst⟩ := hst.box [v5210, v5203, Zs, Zs, v5138, Zs] 73
 refine we_run (v := Pt b5218 0) (w' := w5219) z (x_al (by kernel_rfl) ew5220 eb5221) ?_
 refine ws_next (pend' := []) hst (by kernel_rfl) pk_nil ?_
 refine ws_e1 8 (by kernel_rfl) ?_
 refine nxe [9] (by kernel_rfl) z z ?_
 clear hst
 intro w hst
 obtain ⟨b5223, w5224, ew5225, eb5226, hst⟩ := hst.box [.pointer none] 60
 refine we_run (v := Pt b5223 0) (w' := w5224) z (x_al (by kernel_rfl) ew5225 eb5226) ?_
 refine ws_next (pend' := []) hst (by kernel_rfl) pk_nil ?_
 refine ws_e1 9 (by kernel_rfl) ?_
 refine nxe [] (by kernel_rfl) z z ?_
 clear hst
 intro w hst
 obtain ⟨w5228, hr5229, hst⟩ := hst.by_ [Pt b5218 0] 0 (Pt b5218 0) sizeOf60 z (oC z oN) (by kernel_rfl)
 refine we_unit z (x_unit hr5229) ?_
 refine ws_next (pend' := []) hst (by kernel_rfl) pk_nil ?_
 refine ws_nil ?_
 intro w hst
 refine ⟨z, ?_⟩
 replace hst := hst.own_nil (tySl (tyInt .i64))
 replace hst := hst.own_nil (tySl (tyInt .i64))
 replace hst := hst.own_nil (tyInt .i64)
 replace hst := hst.pull7.pull2.pull3.pull7.pull7.pull7
 replace hst := at_label_Lattice_close (pv := Pt b5218 0) (x := ({ up := t4786, down := (List.replicate (Int.toNat ((a0).length : Int)) (0:Int)), join := [], meet := [], rank := (List.replicate (Int.toNat ((a0).length : Int)) (0:Int)), all := [] } : label_Lattice)) hst z
 replace hst := hst.pull1.keep2
 obtain rfl := some_inj hm
 exact ⟨({ up := t4786, down := (List.replicate (Int.toNat ((a0).length : Int)) (0:Int)), join := [], meet := [], rank := (List.replicate (Int.toNat ((a0).length : Int)) (0:Int)), all := [] } : label_Lattice), b5223, (Pt b5218 0), _, hx5470, (fu 0 r0_0 z (fu 4 (.int .i64 ((a0).length : Int)) z (fu 5 (Pt b5223 0) z z))), hst⟩
}
 {
 refine nxe [7, 9] (by kernel_rfl) z z ?_
 clear hst
 intro w hst
 obtain ⟨b5230, w5231, ew5232, eb5233, hst⟩ := hst.box [.pointer none] 60
 refine we_run (v := Pt b5230 0) (w' := w5231) z (x_al (by kernel_rfl) ew5232 eb5233) ?_
 refine ws_next (pend' := [(6, .agg #[v5210, v5203, Zs, Zs, v5138, Zs])]) hst (by kernel_rfl) (pkr rfl rfl (fun w hst => by obtain ⟨_, _, hv_, _⟩ := hst.sv3; rw [hv_]; obtain ⟨_, _, hv_, _⟩ := hst.sv2; rw [hv_]; obtain ⟨_, _, hv_, _⟩ := hst.sv1; rw [hv_]; kernel_rfl) pk_nil) ?_
 refine ws_e1 7 (by kernel_rfl) ?_
 refine nxe [9] (by kernel_rfl) z z ?_
 clear hst
 intro w hst
 obtain ⟨b5235, w5236, ew5237, eb5238, hst⟩ := hst.box [v5210, v5203, Zs, Zs, v5138, Zs] 73
 refine we_run (v := Pt b5235 0) (w' := w5236) z (x_al (by kernel_rfl) ew5237 eb5238) ?_
 refine ws_next (pend' := []) hst (by kernel_rfl) pk_nil ?_
 refine ws_e1 9 (by kernel_rfl) ?_
 refine nxe [] (by kernel_rfl) z z ?_
 clear hst
 intro w hst
 replace hst := hst.pull1
 obtain ⟨w5240, hr5241, hst⟩ := hst.by_ [Pt b5235 0] 0 (Pt b5235 0) sizeOf60 z (oC z oN) (by kernel_rfl)
 refine we_unit z (x_unit hr5241) ?_
 refine ws_next (pend' := []) hst (by kernel_rfl) pk_nil ?_
 refine ws_nil ?_
 intro w hst
 refine ⟨z, ?_⟩
 replace hst := hst.own_nil (tySl (tyInt .i64))
 replace hst := hst.own_nil (tySl (tyInt .i64))
 replace hst := hst.own_nil (tyInt .i64)
 replace hst := hst.pull7.pull2.pull3.pull7.pull7.pull7
 replace hst := at_label_Lattice_close (pv := Pt b5235 0) (x := ({ up := t4786, down := (List.replicate (Int.toNat ((a0).length : Int)) (0:Int)), join := [], meet := [], rank := (List.replicate (Int.toNat ((a0).length : Int)) (0:Int)), all := [] } : label_Lattice)) hst z
 replace hst := hst.pull1.keep2
 obtain rfl := some_inj hm
 exact ⟨({ up := t4786, down := (List.replicate (Int.toNat ((a0).length : Int)) (0:Int)), join := [], meet := [], rank := (List.replicate (Int.toNat ((a0).length : Int)) (0:Int)), all := [] } : label_Lattice), b5230, (Pt b5235 0), _, hx5470, (fu 0 r0_0 z (fu 4 (.int .i64 ((a0).length : Int)) z (fu 5 (Pt b5230 0) z z))), hst⟩
}
}
 {
 refine nxe [1, 6, 7, 9] (by kernel_rfl) z z ?_
 clear hst
 intro w hst
 obtain ⟨b5242, w5243, ew5244, eb5245, hst⟩ := hst.box [.pointer none] 60
 refine we_run (v := Pt b5242 0) (w' := w5243) z (x_al (by kernel_rfl) ew5244 eb5245) ?_
 refine ws_next (pend' := [(0, r0_0)]) hst (by kernel_rfl) (pkr z z (fun w hst => z) pk_nil) ?_
 refine ws_e1 1 (by kernel_rfl) ?_
 refine nxe [6, 7, 9] (by kernel_rfl) z z ?_
 clear hst
 intro w hst
 refine wec call44 [r0_0] z z ?_
 refine (slices_Clone_uint64_uint64_ref (f0_0.mono (rd_weak _)) hst.to0 ht4787).mono ?_
 rintro _ w5247 ⟨v5250, rfl, hst⟩
 refine ⟨_, z, ?_⟩
 replace hst := hst.of1
 refine ws_next (pend' := []) hst (by kernel_rfl) pk_nil ?_
 refine wsr (.agg #[v5250, v5203, Zs, Zs, v5138, Zs]) 6 rfl rfl rfl (by kernel_rfl) (fun w hst => by obtain ⟨_, _, hv_, _⟩ := hst.sv3; rw [hv_]; obtain ⟨_, _, hv_, _⟩ := hst.sv2; rw [hv_]; obtain ⟨_, _, hv_, _⟩ := hst.sv0; rw [hv_]; kernel_rfl) ?_
 refine ws_e1 7 (by kernel_rfl) ?_
 refine nxe [9] (by kernel_rfl) z z ?_
 clear hst
 intro w hst
 obtain ⟨b5258, w5259, ew5260, eb5261, hst⟩ := hst.box [v5250, v5203, Zs, Zs, v5138, Zs] 73
 refine we_run (v := Pt b5258 0) (w' := w5259) z (x_al (by kernel_rfl) ew5260 eb5261) ?_
 refine ws_next (pend' := []) hst (by kernel_rfl) pk_nil ?_
 refine ws_e1 9 (by kernel_rfl) ?_
 refine nxe [] (by kernel_rfl) z z ?_
 clear hst
 intro w hst
 replace hst := hst.pull2
 obtain ⟨w5263, hr5264, hst⟩ := hst.by_ [Pt b5258 0] 0 (Pt b5258 0) sizeOf60 z (oC z oN) (by kernel_rfl)
 refine we_unit z (x_unit hr5264) ?_
 refine ws_next (pend' := []) hst (by kernel_rfl) pk_nil ?_
 refine ws_nil ?_
 intro w hst
 refine ⟨z, ?_⟩
 replace hst := hst.own_nil (tySl (tyInt .i64))
 replace hst := hst.own_nil (tySl (tyInt .i64))
 replace hst := hst.own_nil (tyInt .i64)
 replace hst := hst.pull7.pull2.pull3.pull7.pull7.pull7
 replace hst := at_label_Lattice_close (pv := Pt b5258 0) (x := ({ up := t4786, down := (List.replicate (Int.toNat ((a0).length : Int)) (0:Int)), join := [], meet := [], rank := (List.replicate (Int.toNat ((a0).length : Int)) (0:Int)), all := [] } : label_Lattice)) hst z
 replace hst := hst.pull1.keep2
 obtain rfl := some_inj hm
 exact ⟨({ up := t4786, down := (List.replicate (Int.toNat ((a0).length : Int)) (0:Int)), join := [], meet := [], rank := (List.replicate (Int.toNat ((a0).length : Int)) (0:Int)), all := [] } : label_Lattice), b5242, (Pt b5258 0), _, hx5470, (fu 0 r0_0 z (fu 4 (.int .i64 ((a0).length : Int)) z (fu 5 (Pt b5242 0) z z))), hst⟩
}
}
 {
 refine nxe [1, 3, 6, 7, 9] (by kernel_rfl) z z ?_
 clear hst
 intro w hst
 obtain ⟨b5265, w5266, ew5267, eb5268, hst⟩ := hst.box [.pointer none] 60
 refine we_run (v := Pt b5265 0) (w' := w5266) z (x_al (by kernel_rfl) ew5267 eb5268) ?_
 refine ws_next (pend' := [(2, I6 ((a0).length : Int)), (0, r0_0)]) hst (by kernel_rfl) (pkr z z (fun w hst => z) (pkr z z (fun w hst => z) pk_nil)) ?_
 refine ws_e2 1 3 (by kernel_rfl) ?_ ?_
 {
 refine nxe [3, 6, 7, 9] (by kernel_rfl) z z ?_
 clear hst
 intro w hst
 refine wec call44 [r0_0] z z ?_
 refine (slices_Clone_uint64_uint64_ref (f0_0.mono (rd_weak _)) hst.to0 ht4787).mono ?_
 rintro _ w5270 ⟨v5273, rfl, hst⟩
 refine ⟨_, z, ?_⟩
 replace hst := hst.of1
 refine ws_next (pend' := [(2, I6 ((a0).length : Int))]) hst (by kernel_rfl) (pkr z z (fun w hst => z) pk_nil) ?_
 refine ws_e1 3 (by kernel_rfl) ?_
 refine nxe [6, 7, 9] (by kernel_rfl) z z ?_
 clear hst
 intro w hst
 obtain ⟨v5275, w5276, hr5277, hst⟩ := run_mk (k := .i64) (k' := .i64) (zm := (0:Int)) elem_25 hst hg4788 (by decide) z
 refine we_run (v := v5275) (w' := w5276) z (x_make z z hr5277) ?_
 refine ws_next (pend' := []) hst (by kernel_rfl) pk_nil ?_
 refine wsr (.agg #[v5273, v5275, Zs, Zs, v5138, Zs]) 6 rfl rfl rfl (by kernel_rfl) (fun w hst => by obtain ⟨_, _, hv_, _⟩ := hst.sv3; rw [hv_]; obtain ⟨_, _, hv_, _⟩ := hst.sv0; rw [hv_]; obtain ⟨_, _, hv_, _⟩ := hst.sv1; rw [hv_]; kernel_rfl) ?_
 refine ws_e1 7 (by kernel_rfl) ?_
 refine nxe [9] (by kernel_rfl) z z ?_
 clear hst
 intro w hst
 obtain ⟨b5285, w5286, ew5287, eb5288, hst⟩ := hst.box [v5273, v5275, Zs, Zs, v5138, Zs] 73
 refine we_run (v := Pt b5285 0) (w' := w5286) z (x_al (by kernel_rfl) ew5287 eb5288) ?_
 refine ws_next (pend' := []) hst (by kernel_rfl) pk_nil ?_
 refine ws_e1 9 (by kernel_rfl) ?_
 refine nxe [] (by kernel_rfl) z z ?_
 clear hst
 intro w hst
 replace hst := hst.pull3
 obtain ⟨w5290, hr5291, hst⟩ := hst.by_ [Pt b5285 0] 0 (Pt b5285 0) sizeOf60 z (oC z oN) (by kernel_rfl)
 refine we_unit z (x_unit hr5291) ?_
 refine ws_next (pend' := []) hst (by kernel_rfl) pk_nil ?_
 refine ws_nil ?_
 intro w hst
 refine ⟨z, ?_⟩
 replace hst := hst.own_nil (tySl (tyInt .i64))
 replace hst := hst.own_nil (tySl (tyInt .i64))
 replace hst := hst.own_nil (tyInt .i64)
 replace hst := hst.pull7.pull2.pull3.pull6.pull7.pull7
 replace hst := at_label_Lattice_close (pv := Pt b5285 0) (x := ({ up := t4786, down := (List.replicate (Int.toNat ((a0).length : Int)) (0:Int)), join := [], meet := [], rank := (List.replicate (Int.toNat ((a0).length : Int)) (0:Int)), all := [] } : label_Lattice)) hst z
 replace hst := hst.pull1.keep2
 obtain rfl := some_inj hm
 exact ⟨({ up := t4786, down := (List.replicate (Int.toNat ((a0).length : Int)) (0:Int)), join := [], meet := [], rank := (List.replicate (Int.toNat ((a0).length : Int)) (0:Int)), all := [] } : label_Lattice), b5265, (Pt b5285 0), _, hx5470, (fu 0 r0_0 z (fu 4 (.int .i64 ((a0).length : Int)) z (fu 5 (Pt b5265 0) z z))), hst⟩
}
 {
 refine nxe [1, 6, 7, 9] (by kernel_rfl) z z ?_
 clear hst
 intro w hst
 obtain ⟨v5292, w5293, hr5294, hst⟩ := run_mk (k := .i64) (k' := .i64) (zm := (0:Int)) elem_25 hst hg4788 (by decide) z
 refine we_run (v := v5292) (w' := w5293) z (x_make z z hr5294) ?_
 refine ws_next (pend' := [(0, r0_0)]) hst (by kernel_rfl) (pkr z z (fun w hst => z) pk_nil) ?_
 refine ws_e1 1 (by kernel_rfl) ?_
 refine nxe [6, 7, 9] (by kernel_rfl) z z ?_
 clear hst
 intro w hst
 refine wec call44 [r0_0] z z ?_
 refine (slices_Clone_uint64_uint64_ref (f0_0.mono (rd_weak _)) hst.to0 ht4787).mono ?_
 rintro _ w5296 ⟨v5299, rfl, hst⟩
 refine ⟨_, z, ?_⟩
 replace hst := hst.of1
 refine ws_next (pend' := []) hst (by kernel_rfl) pk_nil ?_
 refine wsr (.agg #[v5299, v5292, Zs, Zs, v5138, Zs]) 6 rfl rfl rfl (by kernel_rfl) (fun w hst => by obtain ⟨_, _, hv_, _⟩ := hst.sv3; rw [hv_]; obtain ⟨_, _, hv_, _⟩ := hst.sv1; rw [hv_]; obtain ⟨_, _, hv_, _⟩ := hst.sv0; rw [hv_]; kernel_rfl) ?_
 refine ws_e1 7 (by kernel_rfl) ?_
 refine nxe [9] (by kernel_rfl) z z ?_
 clear hst
 intro w hst
 obtain ⟨b5307, w5308, ew5309, eb5310, hst⟩ := hst.box [v5299, v5292, Zs, Zs, v5138, Zs] 73
 refine we_run (v := Pt b5307 0) (w' := w5308) z (x_al (by kernel_rfl) ew5309 eb5310) ?_
 refine ws_next (pend' := []) hst (by kernel_rfl) pk_nil ?_
 refine ws_e1 9 (by kernel_rfl) ?_
 refine nxe [] (by kernel_rfl) z z ?_
 clear hst
 intro w hst
 replace hst := hst.pull3
 obtain ⟨w5312, hr5313, hst⟩ := hst.by_ [Pt b5307 0] 0 (Pt b5307 0) sizeOf60 z (oC z oN) (by kernel_rfl)
 refine we_unit z (x_unit hr5313) ?_
 refine ws_next (pend' := []) hst (by kernel_rfl) pk_nil ?_
 refine ws_nil ?_
 intro w hst
 refine ⟨z, ?_⟩
 replace hst := hst.own_nil (tySl (tyInt .i64))
 replace hst := hst.own_nil (tySl (tyInt .i64))
 replace hst := hst.own_nil (tyInt .i64)
 replace hst := hst.pull7.pull2.pull3.pull7.pull7.pull7
 replace hst := at_label_Lattice_close (pv := Pt b5307 0) (x := ({ up := t4786, down := (List.replicate (Int.toNat ((a0).length : Int)) (0:Int)), join := [], meet := [], rank := (List.replicate (Int.toNat ((a0).length : Int)) (0:Int)), all := [] } : label_Lattice)) hst z
 replace hst := hst.pull1.keep2
 obtain rfl := some_inj hm
 exact ⟨({ up := t4786, down := (List.replicate (Int.toNat ((a0).length : Int)) (0:Int)), join := [], meet := [], rank := (List.replicate (Int.toNat ((a0).length : Int)) (0:Int)), all := [] } : label_Lattice), b5265, (Pt b5307 0), _, hx5470, (fu 0 r0_0 z (fu 4 (.int .i64 ((a0).length : Int)) z (fu 5 (Pt b5265 0) z z))), hst⟩
}
}
}
 {
 refine nxe [1, 3, 5, 6, 7, 9] (by kernel_rfl) z z ?_
 clear hst
 intro w hst
 obtain ⟨b5314, w5315, ew5316, eb5317, hst⟩ := hst.box [.pointer none] 60
 refine we_run (v := Pt b5314 0) (w' := w5315) z (x_al (by kernel_rfl) ew5316 eb5317) ?_
 refine ws_next (pend' := [(4, I6 ((a0).length : Int)), (2, I6 ((a0).length : Int)), (0, r0_0)]) hst (by kernel_rfl) (pkr z z (fun w hst => z) (pkr z z (fun w hst => z) (pkr z z (fun w hst => z) pk_nil))) ?_
 refine ws_e3 1 3 5 (by kernel_rfl) ?_ ?_ ?_
 {
 refine nxe [3, 5, 6, 7, 9] (by kernel_rfl) z z ?_
 clear hst
 intro w hst
 refine wec call44 [r0_0] z z ?_
 refine (slices_Clone_uint64_uint64_ref (f0_0.mono (rd_weak _)) hst.to0 ht4787).mono ?_
 rintro _ w5319 ⟨v5322, rfl, hst⟩
 refine ⟨_, z, ?_⟩
 replace hst := hst.of1
 refine ws_next (pend' := [(4, I6 ((a0).length : Int)), (2, I6 ((a0).length : Int))]) hst (by kernel_rfl) (pkr z z (fun w hst => z) (pkr z z (fun w hst => z) pk_nil)) ?_
 refine ws_e2 3 5 (by kernel_rfl) ?_ ?_
 {
 refine nxe [5, 6, 7, 9] (by kernel_rfl) z z ?_
 clear hst
 intro w hst
 obtain ⟨v5324, w5325, hr5326, hst⟩ := run_mk (k := .i64) (k' := .i64) (zm := (0:Int)) elem_25 hst hg4788 (by decide) z
 refine we_run (v := v5324) (w' := w5325) z (x_make z z hr5326) ?_
 refine ws_next (pend' := [(4, I6 ((a0).length : Int))]) hst (by kernel_rfl) (pkr z z (fun w hst => z) pk_nil) ?_
 refine ws_e1 5 (by kernel_rfl) ?_
 refine nxe [6, 7, 9] (by kernel_rfl) z z ?_
 clear hst
 intro w hst
 obtain ⟨v5328, w5329, hr5330, hst⟩ := run_mk (k := .i64) (k' := .i64) (zm := (0:Int)) elem_46 hst hg4789 (by decide) z
 refine we_run (v := v5328) (w' := w5329) z (x_make z z hr5330) ?_
 refine ws_next (pend' := []) hst (by kernel_rfl) pk_nil ?_
 refine wsr (.agg #[v5322, v5324, Zs, Zs, v5328, Zs]) 6 rfl rfl rfl (by kernel_rfl) (fun w hst => by obtain ⟨_, _, hv_, _⟩ := hst.sv0; rw [hv_]; obtain ⟨_, _, hv_, _⟩ := hst.sv1; rw [hv_]; obtain ⟨_, _, hv_, _⟩ := hst.sv2; rw [hv_]; kernel_rfl) ?_
 refine ws_e1 7 (by kernel_rfl) ?_
 refine nxe [9] (by kernel_rfl) z z ?_
 clear hst
 intro w hst
 obtain ⟨b5338, w5339, ew5340, eb5341, hst⟩ := hst.box [v5322, v5324, Zs, Zs, v5328, Zs] 73
 refine we_run (v := Pt b5338 0) (w' := w5339) z (x_al (by kernel_rfl) ew5340 eb5341) ?_
 refine ws_next (pend' := []) hst (by kernel_rfl) pk_nil ?_
 refine ws_e1 9 (by kernel_rfl) ?_
 refine nxe [] (by kernel_rfl) z z ?_
 clear hst
 intro w hst
 replace hst := hst.pull4
 obtain ⟨w5343, hr5344, hst⟩ := hst.by_ [Pt b5338 0] 0 (Pt b5338 0) sizeOf60 z (oC z oN) (by kernel_rfl)
 refine we_unit z (x_unit hr5344) ?_
 refine ws_next (pend' := []) hst (by kernel_rfl) pk_nil ?_
 refine ws_nil ?_
 intro w hst
 refine ⟨z, ?_⟩
 replace hst := hst.own_nil (tySl (tyInt .i64))
 replace hst := hst.own_nil (tySl (tyInt .i64))
 replace hst := hst.own_nil (tyInt .i64)
 replace hst := hst.pull5.pull2.pull3.pull6.pull7.pull7
 replace hst := at_label_Lattice_close (pv := Pt b5338 0) (x := ({ up := t4786, down := (List.replicate (Int.toNat ((a0).length : Int)) (0:Int)), join := [], meet := [], rank := (List.replicate (Int.toNat ((a0).length : Int)) (0:Int)), all := [] } : label_Lattice)) hst z
 replace hst := hst.pull1.keep2
 obtain rfl := some_inj hm
 exact ⟨({ up := t4786, down := (List.replicate (Int.toNat ((a0).length : Int)) (0:Int)), join := [], meet := [], rank := (List.replicate (Int.toNat ((a0).length : Int)) (0:Int)), all := [] } : label_Lattice), b5314, (Pt b5338 0), _, hx5470, (fu 0 r0_0 z (fu 4 (.int .i64 ((a0).length : Int)) z (fu 5 (Pt b5314 0) z z))), hst⟩
}
 {
 refine nxe [3, 6, 7, 9] (by kernel_rfl) z z ?_
 clear hst
 intro w hst
 obtain ⟨v5345, w5346, hr5347, hst⟩ := run_mk (k := .i64) (k' := .i64) (zm := (0:Int)) elem_46 hst hg4789 (by decide) z
 refine we_run (v := v5345) (w' := w5346) z (x_make z z hr5347) ?_
 refine ws_next (pend' := [(2, I6 ((a0).length : Int))]) hst (by kernel_rfl) (pkr z z (fun w hst => z) pk_nil) ?_
 refine ws_e1 3 (by kernel_rfl) ?_
 refine nxe [6, 7, 9] (by kernel_rfl) z z ?_
 clear hst
 intro w hst
 obtain ⟨v5349, w5350, hr5351, hst⟩ := run_mk (k := .i64) (k' := .i64) (zm := (0:Int)) elem_25 hst hg4788 (by decide) z
 refine we_run (v := v5349) (w' := w5350) z (x_make z z hr5351) ?_
 refine ws_next (pend' := []) hst (by kernel_rfl) pk_nil ?_
 refine wsr (.agg #[v5322, v5349, Zs, Zs, v5345, Zs]) 6 rfl rfl rfl (by kernel_rfl) (fun w hst => by obtain ⟨_, _, hv_, _⟩ := hst.sv1; rw [hv_]; obtain ⟨_, _, hv_, _⟩ := hst.sv0; rw [hv_]; obtain ⟨_, _, hv_, _⟩ := hst.sv2; rw [hv_]; kernel_rfl) ?_
 refine ws_e1 7 (by kernel_rfl) ?_
 refine nxe [9] (by kernel_rfl) z z ?_
 clear hst
 intro w hst
 obtain ⟨b5359, w5360, ew5361, eb5362, hst⟩ := hst.box [v5322, v5349, Zs, Zs, v5345, Zs] 73
 refine we_run (v := Pt b5359 0) (w' := w5360) z (x_al (by kernel_rfl) ew5361 eb5362) ?_
 refine ws_next (pend' := []) hst (by kernel_rfl) pk_nil ?_
 refine ws_e1 9 (by kernel_rfl) ?_
 refine nxe [] (by kernel_rfl) z z ?_
 clear hst
 intro w hst
 replace hst := hst.pull4
 obtain ⟨w5364, hr5365, hst⟩ := hst.by_ [Pt b5359 0] 0 (Pt b5359 0) sizeOf60 z (oC z oN) (by kernel_rfl)
 refine we_unit z (x_unit hr5365) ?_
 refine ws_next (pend' := []) hst (by kernel_rfl) pk_nil ?_
 refine ws_nil ?_
 intro w hst
 refine ⟨z, ?_⟩
 replace hst := hst.own_nil (tySl (tyInt .i64))
 replace hst := hst.own_nil (tySl (tyInt .i64))
 replace hst := hst.own_nil (tyInt .i64)
 replace hst := hst.pull6.pull2.pull3.pull6.pull7.pull7
 replace hst := at_label_Lattice_close (pv := Pt b5359 0) (x := ({ up := t4786, down := (List.replicate (Int.toNat ((a0).length : Int)) (0:Int)), join := [], meet := [], rank := (List.replicate (Int.toNat ((a0).length : Int)) (0:Int)), all := [] } : label_Lattice)) hst z
 replace hst := hst.pull1.keep2
 obtain rfl := some_inj hm
 exact ⟨({ up := t4786, down := (List.replicate (Int.toNat ((a0).length : Int)) (0:Int)), join := [], meet := [], rank := (List.replicate (Int.toNat ((a0).length : Int)) (0:Int)), all := [] } : label_Lattice), b5314, (Pt b5359 0), _, hx5470, (fu 0 r0_0 z (fu 4 (.int .i64 ((a0).length : Int)) z (fu 5 (Pt b5314 0) z z))), hst⟩
}
}
 {
 refine nxe [1, 5, 6, 7, 9] (by kernel_rfl) z z ?_
 clear hst
 intro w hst
 obtain ⟨v5366, w5367, hr5368, hst⟩ := run_mk (k := .i64) (k' := .i64) (zm := (0:Int)) elem_25 hst hg4788 (by decide) z
 refine we_run (v := v5366) (w' := w5367) z (x_make z z hr5368) ?_
 refine ws_next (pend' := [(4, I6 ((a0).length : Int)), (0, r0_0)]) hst (by kernel_rfl) (pkr z z (fun w hst => z) (pkr z z (fun w hst => z) pk_nil)) ?_
 refine ws_e2 1 5 (by kernel_rfl) ?_ ?_
 {
 refine nxe [5, 6, 7, 9] (by kernel_rfl) z z ?_
 clear hst
 intro w hst
 refine wec call44 [r0_0] z z ?_
 refine (slices_Clone_uint64_uint64_ref (f0_0.mono (rd_weak _)) hst.to0 ht4787).mono ?_
 rintro _ w5370 ⟨v5373, rfl, hst⟩
 refine ⟨_, z, ?_⟩
 replace hst := hst.of1
 refine ws_next (pend' := [(4, I6 ((a0).length : Int))]) hst (by kernel_rfl) (pkr z z (fun w hst => z) pk_nil) ?_
 refine ws_e1 5 (by kernel_rfl) ?_
 refine nxe [6, 7, 9] (by kernel_rfl) z z ?_
 clear hst
 intro w hst
 obtain ⟨v5375, w5376, hr5377, hst⟩ := run_mk (k := .i64) (k' := .i64) (zm := (0:Int)) elem_46 hst hg4789 (by decide) z
 refine we_run (v := v5375) (w' := w5376) z (x_make z z hr5377) ?_
 refine ws_next (pend' := []) hst (by kernel_rfl) pk_nil ?_
 refine wsr (.agg #[v5373, v5366, Zs, Zs, v5375, Zs]) 6 rfl rfl rfl (by kernel_rfl) (fun w hst => by obtain ⟨_, _, hv_, _⟩ := hst.sv0; rw [hv_]; obtain ⟨_, _, hv_, _⟩ := hst.sv2; rw [hv_]; obtain ⟨_, _, hv_, _⟩ := hst.sv1; rw [hv_]; kernel_rfl) ?_
 refine ws_e1 7 (by kernel_rfl) ?_
 refine nxe [9] (by kernel_rfl) z z ?_
 clear hst
 intro w hst
 obtain ⟨b5385, w5386, ew5387, eb5388, hst⟩ := hst.box [v5373, v5366, Zs, Zs, v5375, Zs] 73
 refine we_run (v := Pt b5385 0) (w' := w5386) z (x_al (by kernel_rfl) ew5387 eb5388) ?_
 refine ws_next (pend' := []) hst (by kernel_rfl) pk_nil ?_
 refine ws_e1 9 (by kernel_rfl) ?_
 refine nxe [] (by kernel_rfl) z z ?_
 clear hst
 intro w hst
 replace hst := hst.pull4
 obtain ⟨w5390, hr5391, hst⟩ := hst.by_ [Pt b5385 0] 0 (Pt b5385 0) sizeOf60 z (oC z oN) (by kernel_rfl)
 refine we_unit z (x_unit hr5391) ?_
 refine ws_next (pend' := []) hst (by kernel_rfl) pk_nil ?_
 refine ws_nil ?_
 intro w hst
 refine ⟨z, ?_⟩
 replace hst := hst.own_nil (tySl (tyInt .i64))
 replace hst := hst.own_nil (tySl (tyInt .i64))
 replace hst := hst.own_nil (tyInt .i64)
 replace hst := hst.pull5.pull2.pull3.pull7.pull7.pull7
 replace hst := at_label_Lattice_close (pv := Pt b5385 0) (x := ({ up := t4786, down := (List.replicate (Int.toNat ((a0).length : Int)) (0:Int)), join := [], meet := [], rank := (List.replicate (Int.toNat ((a0).length : Int)) (0:Int)), all := [] } : label_Lattice)) hst z
 replace hst := hst.pull1.keep2
 obtain rfl := some_inj hm
 exact ⟨({ up := t4786, down := (List.replicate (Int.toNat ((a0).length : Int)) (0:Int)), join := [], meet := [], rank := (List.replicate (Int.toNat ((a0).length : Int)) (0:Int)), all := [] } : label_Lattice), b5314, (Pt b5385 0), _, hx5470, (fu 0 r0_0 z (fu 4 (.int .i64 ((a0).length : Int)) z (fu 5 (Pt b5314 0) z z))), hst⟩
}
 {
 refine nxe [1, 6, 7, 9] (by kernel_rfl) z z ?_
 clear hst
 intro w hst
 obtain ⟨v5392, w5393, hr5394, hst⟩ := run_mk (k := .i64) (k' := .i64) (zm := (0:Int)) elem_46 hst hg4789 (by decide) z
 refine we_run (v := v5392) (w' := w5393) z (x_make z z hr5394) ?_
 refine ws_next (pend' := [(0, r0_0)]) hst (by kernel_rfl) (pkr z z (fun w hst => z) pk_nil) ?_
 refine ws_e1 1 (by kernel_rfl) ?_
 refine nxe [6, 7, 9] (by kernel_rfl) z z ?_
 clear hst
 intro w hst
 refine wec call44 [r0_0] z z ?_
 refine (slices_Clone_uint64_uint64_ref (f0_0.mono (rd_weak _)) hst.to0 ht4787).mono ?_
 rintro _ w5396 ⟨v5399, rfl, hst⟩
 refine ⟨_, z, ?_⟩
 replace hst := hst.of1
 refine ws_next (pend' := []) hst (by kernel_rfl) pk_nil ?_
 refine wsr (.agg #[v5399, v5366, Zs, Zs, v5392, Zs]) 6 rfl rfl rfl (by kernel_rfl) (fun w hst => by obtain ⟨_, _, hv_, _⟩ := hst.sv1; rw [hv_]; obtain ⟨_, _, hv_, _⟩ := hst.sv2; rw [hv_]; obtain ⟨_, _, hv_, _⟩ := hst.sv0; rw [hv_]; kernel_rfl) ?_
 refine ws_e1 7 (by kernel_rfl) ?_
 refine nxe [9] (by kernel_rfl) z z ?_
 clear hst
 intro w hst
 obtain ⟨b5407, w5408, ew5409, eb5410, hst⟩ := hst.box [v5399, v5366, Zs, Zs, v5392, Zs] 73
 refine we_run (v := Pt b5407 0) (w' := w5408) z (x_al (by kernel_rfl) ew5409 eb5410) ?_
 refine ws_next (pend' := []) hst (by kernel_rfl) pk_nil ?_
 refine ws_e1 9 (by kernel_rfl) ?_
 refine nxe [] (by kernel_rfl) z z ?_
 clear hst
 intro w hst
 replace hst := hst.pull4
 obtain ⟨w5412, hr5413, hst⟩ := hst.by_ [Pt b5407 0] 0 (Pt b5407 0) sizeOf60 z (oC z oN) (by kernel_rfl)
 refine we_unit z (x_unit hr5413) ?_
 refine ws_next (pend' := []) hst (by kernel_rfl) pk_nil ?_
 refine ws_nil ?_
 intro w hst
 refine ⟨z, ?_⟩
 replace hst := hst.own_nil (tySl (tyInt .i64))
 replace hst := hst.own_nil (tySl (tyInt .i64))
 replace hst := hst.own_nil (tyInt .i64)
 replace hst := hst.pull6.pull2.pull3.pull7.pull7.pull7
 replace hst := at_label_Lattice_close (pv := Pt b5407 0) (x := ({ up := t4786, down := (List.replicate (Int.toNat ((a0).length : Int)) (0:Int)), join := [], meet := [], rank := (List.replicate (Int.toNat ((a0).length : Int)) (0:Int)), all := [] } : label_Lattice)) hst z
 replace hst := hst.pull1.keep2
 obtain rfl := some_inj hm
 exact ⟨({ up := t4786, down := (List.replicate (Int.toNat ((a0).length : Int)) (0:Int)), join := [], meet := [], rank := (List.replicate (Int.toNat ((a0).length : Int)) (0:Int)), all := [] } : label_Lattice), b5314, (Pt b5407 0), _, hx5470, (fu 0 r0_0 z (fu 4 (.int .i64 ((a0).length : Int)) z (fu 5 (Pt b5314 0) z z))), hst⟩
}
}
 {
 refine nxe [1, 3, 6, 7, 9] (by kernel_rfl) z z ?_
 clear hst
 intro w hst
 obtain ⟨v5414, w5415, hr5416, hst⟩ := run_mk (k := .i64) (k' := .i64) (zm := (0:Int)) elem_46 hst hg4789 (by decide) z
 refine we_run (v := v5414) (w' := w5415) z (x_make z z hr5416) ?_
 refine ws_next (pend' := [(2, I6 ((a0).length : Int)), (0, r0_0)]) hst (by kernel_rfl) (pkr z z (fun w hst => z) (pkr z z (fun w hst => z) pk_nil)) ?_
 refine ws_e2 1 3 (by kernel_rfl) ?_ ?_
 {
 refine nxe [3, 6, 7, 9] (by kernel_rfl) z z ?_
 clear hst
 intro w hst
 refine wec call44 [r0_0] z z ?_
 refine (slices_Clone_uint64_uint64_ref (f0_0.mono (rd_weak _)) hst.to0 ht4787).mono ?_
 rintro _ w5418 ⟨v5421, rfl, hst⟩
 refine ⟨_, z, ?_⟩
 replace hst := hst.of1
 refine ws_next (pend' := [(2, I6 ((a0).length : Int))]) hst (by kernel_rfl) (pkr z z (fun w hst => z) pk_nil) ?_
 refine ws_e1 3 (by kernel_rfl) ?_
 refine nxe [6, 7, 9] (by kernel_rfl) z z ?_
 clear hst
 intro w hst
 obtain ⟨v5423, w5424, hr5425, hst⟩ := run_mk (k := .i64) (k' := .i64) (zm := (0:Int)) elem_25 hst hg4788 (by decide) z
 refine we_run (v := v5423) (w' := w5424) z (x_make z z hr5425) ?_
 refine ws_next (pend' := []) hst (by kernel_rfl) pk_nil ?_
 refine wsr (.agg #[v5421, v5423, Zs, Zs, v5414, Zs]) 6 rfl rfl rfl (by kernel_rfl) (fun w hst => by obtain ⟨_, _, hv_, _⟩ := hst.sv2; rw [hv_]; obtain ⟨_, _, hv_, _⟩ := hst.sv0; rw [hv_]; obtain ⟨_, _, hv_, _⟩ := hst.sv1; rw [hv_]; kernel_rfl) ?_
 refine ws_e1 7 (by kernel_rfl) ?_
 refine nxe [9] (by kernel_rfl) z z ?_
 clear hst
 intro w hst
 obtain ⟨b5433, w5434, ew5435, eb5436, hst⟩ := hst.box [v5421, v5423, Zs, Zs, v5414, Zs] 73
 refine we_run (v := Pt b5433 0) (w' := w5434) z (x_al (by kernel_rfl) ew5435 eb5436) ?_
 refine ws_next (pend' := []) hst (by kernel_rfl) pk_nil ?_
 refine ws_e1 9 (by kernel_rfl) ?_
 refine nxe [] (by kernel_rfl) z z ?_
 clear hst
 intro w hst
 replace hst := hst.pull4
 obtain ⟨w5438, hr5439, hst⟩ := hst.by_ [Pt b5433 0] 0 (Pt b5433 0) sizeOf60 z (oC z oN) (by kernel_rfl)
 refine we_unit z (x_unit hr5439) ?_
 refine ws_next (pend' := []) hst (by kernel_rfl) pk_nil ?_
 refine ws_nil ?_
 intro w hst
 refine ⟨z, ?_⟩
 replace hst := hst.own_nil (tySl (tyInt .i64))
 replace hst := hst.own_nil (tySl (tyInt .i64))
 replace hst := hst.own_nil (tyInt .i64)
 replace hst := hst.pull7.pull2.pull3.pull6.pull7.pull7
 replace hst := at_label_Lattice_close (pv := Pt b5433 0) (x := ({ up := t4786, down := (List.replicate (Int.toNat ((a0).length : Int)) (0:Int)), join := [], meet := [], rank := (List.replicate (Int.toNat ((a0).length : Int)) (0:Int)), all := [] } : label_Lattice)) hst z
 replace hst := hst.pull1.keep2
 obtain rfl := some_inj hm
 exact ⟨({ up := t4786, down := (List.replicate (Int.toNat ((a0).length : Int)) (0:Int)), join := [], meet := [], rank := (List.replicate (Int.toNat ((a0).length : Int)) (0:Int)), all := [] } : label_Lattice), b5314, (Pt b5433 0), _, hx5470, (fu 0 r0_0 z (fu 4 (.int .i64 ((a0).length : Int)) z (fu 5 (Pt b5314 0) z z))), hst⟩
}
 {
 refine nxe [1, 6, 7, 9] (by kernel_rfl) z z ?_
 clear hst
 intro w hst
 obtain ⟨v5440, w5441, hr5442, hst⟩ := run_mk (k := .i64) (k' := .i64) (zm := (0:Int)) elem_25 hst hg4788 (by decide) z
 refine we_run (v := v5440) (w' := w5441) z (x_make z z hr5442) ?_
 refine ws_next (pend' := [(0, r0_0)]) hst (by kernel_rfl) (pkr z z (fun w hst => z) pk_nil) ?_
 refine ws_e1 1 (by kernel_rfl) ?_
 refine nxe [6, 7, 9] (by kernel_rfl) z z ?_
 clear hst
 intro w hst
 refine wec call44 [r0_0] z z ?_
 refine (slices_Clone_uint64_uint64_ref (f0_0.mono (rd_weak _)) hst.to0 ht4787).mono ?_
 rintro _ w5444 ⟨v5447, rfl, hst⟩
 refine ⟨_, z, ?_⟩
 replace hst := hst.of1
 refine ws_next (pend' := []) hst (by kernel_rfl) pk_nil ?_
 refine wsr (.agg #[v5447, v5440, Zs, Zs, v5414, Zs]) 6 rfl rfl rfl (by kernel_rfl) (fun w hst => by obtain ⟨_, _, hv_, _⟩ := hst.sv2; rw [hv_]; obtain ⟨_, _, hv_, _⟩ := hst.sv1; rw [hv_]; obtain ⟨_, _, hv_, _⟩ := hst.sv0; rw [hv_]; kernel_rfl) ?_
 refine ws_e1 7 (by kernel_rfl) ?_
 refine nxe [9] (by kernel_rfl) z z ?_
 clear hst
 intro w hst
 obtain ⟨b5455, w5456, ew5457, eb5458, hst⟩ := hst.box [v5447, v5440, Zs, Zs, v5414, Zs] 73
 refine we_run (v := Pt b5455 0) (w' := w5456) z (x_al (by kernel_rfl) ew5457 eb5458) ?_
 refine ws_next (pend' := []) hst (by kernel_rfl) pk_nil ?_
 refine ws_e1 9 (by kernel_rfl) ?_
 refine nxe [] (by kernel_rfl) z z ?_
 clear hst
 intro w hst
 replace hst := hst.pull4
 obtain ⟨w5460, hr5461, hst⟩ := hst.by_ [Pt b5455 0] 0 (Pt b5455 0) sizeOf60 z (oC z oN) (by kernel_rfl)
 refine we_unit z (x_unit hr5461) ?_
 refine ws_next (pend' := []) hst (by kernel_rfl) pk_nil ?_
 refine ws_nil ?_
 intro w hst
 refine ⟨z, ?_⟩
 replace hst := hst.own_nil (tySl (tyInt .i64))
 replace hst := hst.own_nil (tySl (tyInt .i64))
 replace hst := hst.own_nil (tyInt .i64)
 replace hst := hst.pull7.pull2.pull3.pull7.pull7.pull7
 replace hst := at_label_Lattice_close (pv := Pt b5455 0) (x := ({ up := t4786, down := (List.replicate (Int.toNat ((a0).length : Int)) (0:Int)), join := [], meet := [], rank := (List.replicate (Int.toNat ((a0).length : Int)) (0:Int)), all := [] } : label_Lattice)) hst z
 replace hst := hst.pull1.keep2
 obtain rfl := some_inj hm
 exact ⟨({ up := t4786, down := (List.replicate (Int.toNat ((a0).length : Int)) (0:Int)), join := [], meet := [], rank := (List.replicate (Int.toNat ((a0).length : Int)) (0:Int)), all := [] } : label_Lattice), b5314, (Pt b5455 0), _, hx5470, (fu 0 r0_0 z (fu 4 (.int .i64 ((a0).length : Int)) z (fu 5 (Pt b5314 0) z z))), hst⟩
}
}
}
}
 {
 clear hst
 rintro _ w5471 ⟨z5466, b5463, v5465, σ5467, hm, rfl, hst⟩
 dsimp only [label_New_j0] at hm
 refine tn (wp_seq (wp_seq (wrl (wv (v5465) z z (x_load z isAgg60 (hst.bc0 z)) ?_))))
 replace hst := hst.pull1
 replace hst := objO_some hst
 obtain ⟨t5472, ht5473, hm⟩ := bind_some hm
 refine wc call45 [v5465] z z z ?_
 refine (label_Lattice_orders_ref hst.to1 ht5473).mono ?_
 rintro _ w5474 ⟨rfl, hst⟩
 refine ⟨_, z, ?_⟩
 replace hst := hst.of1
 replace hst := objO_get hst
 refine wv (.bool (!t5472)) z z z (wl_nil (tn ?_))
 refine bsplit (!t5472) (fun hc5477 => ?_) (fun hc5477 => ?_)
 {
 replace hm := bif_t hc5477 hm
 refine wp_ift (cvb hc5477) ?_
 refine wp_seq (wrl (wv (.pointer none) z z z (wv (.int .i64 (15:Int)) z z z (wl_nil (tn (wp_ret (then_r ?_)))))))
 replace hst := hst.objO_nil at_label_Lattice
 obtain rfl := some_inj hm
 refine post_ret (vs := [.pointer none, I6 (15:Int)]) results34 (rvs_cons (rv_tmp z) (rvs_cons (rv_tmp z) rvs_nil)) ?_
 exact ⟨_, .pointer none, z, hI0, hst.keep1⟩
}
 {
 replace hm := bif_f hc5477 hm
 refine wp_iff (cvb hc5477) ?_
 refine wp_skip (tn ?_)
 obtain ⟨y5775, hm, hx5776⟩ := bind_some hm
 refine wp_cut (fun a w => ∃ (z5772 : label_Lattice) (σ5773 : Nat → Value), (label_New_j1 a0) z5772 = some r ∧ a = Fr 192 (upd (upd σ5773 4 (.int .i64 ((a0).length : Int))) 5 (Pt b5463 0)) ∧ St w0 w I [cells b5463 [v5465], at_label_Lattice v5465 z5772] R) ?_ ?_
 {
 refine wp_seq (wrl (wv (r0_0) z z z (wv (.int .i64 ((a0).length : Int)) z z (x_len z underlying25 (rd_sliceV f0_0)) (wv (.int .i64 (0:Int)) z z z (wl_nil (tn (wp_block ?_)))))))
 obtain ⟨n5670, hm⟩ := loopO_some hm
 refine wp_loop_n (fun n a w => ∃ (z5667 : label_Lattice) (z5668 : Int) (σ5669 : Nat → Value), loopN (label_New_l2 a0) n (z5667, z5668) = some y5775 ∧ a = Fr 192 (upd (upd (upd (upd (upd σ5669 4 (.int .i64 ((a0).length : Int))) 5 (Pt b5463 0)) 38 (r0_0)) 39 (.int .i64 ((a0).length : Int))) 40 (.int .i64 z5668)) ∧ St w0 w I [at_label_Lattice v5465 z5667, cells b5463 [v5465]] R) n5670 ⟨z5466, (0:Int), _, hm, (fu 4 (.int .i64 ((a0).length : Int)) z (fu 5 (Pt b5463 0) z (fu 38 r0_0 z (fu 39 (.int .i64 ((a0).length : Int)) z (fu 40 (.int .i64 (0:Int)) z z))))), hst⟩ ?_
 rintro n5676 _ w5671 ⟨z5667, z5668, σ5669, hm, rfl, hst⟩
 obtain ⟨n5673, y5674, rfl, hm, hx5675⟩ := loopN_some hm
 dsimp only [label_New_l2] at hm
 refine wp_seq (wrl (wv (.bool (decide (z5668 < ((a0).length : Int)))) z z z (wl_nil (tn (wp_seq ?_)))))
 refine bsplit (decide (z5668 < ((a0).length : Int))) (fun hc5677 => ?_) (fun hc5677 => ?_)
 {
 replace hm := bif_t hc5677 hm
 refine wp_ift (cvb hc5677) ?_
 refine wp_skip (tn (wp_seq (wp_block (wp_seq (wrl ?_)))))
 refine wv (.int .i64 z5668) z z z ?_
 obtain ⟨x5678, hx5679, hm⟩ := bind_some hm
 obtain ⟨h5680, h5681, hi5682⟩ := geto_some hx5679
 refine wv (.pointer (some (eAddr r0_0 (z5668.toNat * 1 + 0)))) z z (x_index z z underlying25 sizeOf22 (rd_sliceV f0_0) h5680 h5681) (wv (.int .u64 x5678) z z (x_load z isAgg22 (rd_load f0_0 (HL.le.refl _) hst hi5682 (by rintro _ rfl; rfl))) (wv (.int .i64 z5668) z z z (wv (.int .u64 x5678) z z z (wl_nil (tn (wp_seq (wrl (wv (.int .i64 ((a0).length : Int)) z z z (wv (.int .i64 (0:Int)) z z z (wl_nil (tn (wp_block ?_))))))))))))
 obtain ⟨n5739, hm⟩ := loopO_some hm
 refine wp_loop_n (fun n a w => ∃ (z5736 : label_Lattice) (z5737 : Int) (σ5738 : Nat → Value), loopN (label_New_l3 a0 x5678 z5668) n (z5736, z5737) = some y5674 ∧ a = Fr 192 (upd (upd (upd (upd (upd (upd (upd (upd (upd σ5738 4 (.int .i64 ((a0).length : Int))) 5 (Pt b5463 0)) 6 (.int .i64 z5668)) 7 (.int .u64 x5678)) 38 (r0_0)) 39 (.int .i64 ((a0).length : Int))) 40 (.int .i64 z5668)) 45 (.int .i64 ((a0).length : Int))) 46 (.int .i64 z5737)) ∧ St w0 w I [at_label_Lattice v5465 z5736, cells b5463 [v5465]] R) n5739 ⟨z5667, (0:Int), _, hm, (fu 4 (.int .i64 ((a0).length : Int)) z (fu 5 (Pt b5463 0) z (fu 6 (.int .i64 z5668) z (fu 7 (.int .u64 x5678) z (fu 38 r0_0 z (fu 39 (.int .i64 ((a0).length : Int)) z (fu 40 (.int .i64 z5668) z (fu 45 (.int .i64 ((a0).length : Int)) z (fu 46 (.int .i64 (0:Int)) z z))))))))), hst⟩ ?_
 rintro n5745 _ w5740 ⟨z5736, z5737, σ5738, hm, rfl, hst⟩
 obtain ⟨n5742, y5743, rfl, hm, hx5744⟩ := loopN_some hm
 dsimp only [label_New_l3] at hm
 refine wp_seq (wrl (wv (.bool (decide (z5737 < ((a0).length : Int)))) z z z (wl_nil (tn (wp_seq ?_)))))
 refine bsplit (decide (z5737 < ((a0).length : Int))) (fun hc5746 => ?_) (fun hc5746 => ?_)
 {
 replace hm := bif_t hc5746 hm
 refine wp_ift (cvb hc5746) ?_
 refine wp_skip (tn (wp_seq (wp_block (wp_seq (wrl ?_)))))
 refine wv (.int .i64 z5737) z z z (wv (.int .i64 z5737) z z z (wl_nil (tn (wp_seq (wrl (wv (.int .u64 x5678) z z z (wv (.int .i64 z5737) z z z ?_)))))))
 obtain ⟨hg5747, hm⟩ := gd_some hm
 refine wv (.int .u64 (iShr .u64 x5678 z5737)) z z (x_shr (of_decide_eq_true hg5747) z z) (wv (.int .u64 (bAnd .u64 (iShr .u64 x5678 z5737) (1:Int))) z z z (wv (.bool ((bAnd .u64 (iShr .u64 x5678 z5737) (1:Int)) == (1:Int))) z z z (wl_nil (tn ?_))))
 refine bsplit ((bAnd .u64 (iShr .u64 x5678 z5737) (1:Int)) == (1:Int)) (fun hc5748 => ?_) (fun hc5748 => ?_)
 {
 replace hm := bif_t hc5748 hm
 refine wp_ift (cvb hc5748) ?_
 obtain ⟨b5749, v5750, v5752, v5754, v5756, v5758, v5760, rfl, hst'⟩ := at_label_Lattice_open hst
 clear hst
 have hst := hst'
 clear hst'
 refine wp_region_St hst 12 [0, 1, 2, 3, 4, 5, 6, 7, 8, 9, 10, 11] [0, 1, 3, 7, 0, 31, 63, 0, 128, 511, 1023, 2047] [] z (by kernel_rfl) (by kernel_rfl) Try.mixed (by kernel_rfl) ?_
 refine wsr (Pt b5749 0) 0 z z z (by kernel_rfl) (fun w hst => x_load z isAgg60 (hst.bc7 z)) (wsr (Pt b5749 0) 1 z z z (by kernel_rfl) (fun w hst => z) (wsr (Pt b5749 1) 2 z z z (by kernel_rfl) (fun w hst => x_field z underlying73 z sizeOf25 z) (wsr (v5752) 3 z z z (by kernel_rfl) (fun w hst => x_load z isAgg25 (hst.bc0 z)) (wsr (.int .i64 z5737) 4 z z z (by kernel_rfl) (fun w hst => z) ?_))))
 obtain ⟨x5762, hx5763, hm⟩ := bind_some hm
 obtain ⟨h5764, h5765, hi5766⟩ := geto_some hx5763
 refine wsr (.pointer (some (eAddr v5752 (z5737.toNat * 1 + 0)))) 5 z z z (by kernel_rfl) (fun w hst => x_index z z underlying25 sizeOf22 hst.sv2 h5764 h5765) (wsr (.int .u64 x5762) 6 z z z (by kernel_rfl) (fun w hst => x_load z isAgg22 (hst.ol2 hi5766 (by rintro _ rfl; rfl))) (wsr (.int .i64 z5668) 7 z z z (by kernel_rfl) (fun w hst => z) ?_))
 obtain ⟨hg5767, hm⟩ := gd_some hm
 refine wsr (.int .u64 (iShl .u64 (1:Int) z5668)) 8 z z z (by kernel_rfl) (fun w hst => x_shl (of_decide_eq_true hg5767) z z) (wsr (.int .u64 (bOr .u64 x5762 (iShl .u64 (1:Int) z5668))) 9 z z z (by kernel_rfl) (fun w hst => z) (wsr (.pointer (some (eAddr v5752 (z5737.toNat * 1 + 0)))) 10 z z z (by kernel_rfl) (fun w hst => x_index z z underlying25 sizeOf22 hst.sv2 h5764 h5765) ?_))
 refine ws_e1 11 (by kernel_rfl) ?_
 refine nxe [] (by kernel_rfl) z z ?_
 clear hst
 intro w hst
 replace hst := hst.pull2
 obtain ⟨w5768, hr5769, hst⟩ := hst.own_store (P := prog) (t := 22) (y := (bOr .u64 x5762 (iShl .u64 (1:Int) z5668))) hi5766 0 (.int .u64 (bOr .u64 x5762 (iShl .u64 (1:Int) z5668))) sizeOf22 (Nat.le_of_ble_eq_true z) (oC z oN) (by rintro _ rfl; rfl)
 have hi5770 := set_get hi5766 (bOr .u64 x5762 (iShl .u64 (1:Int) z5668))
 have h5771 := set_lt h5765 z5737.toNat (bOr .u64 x5762 (iShl .u64 (1:Int) z5668))
 refine we_unit z (x_unit hr5769) ?_
 refine ws_next (pend' := []) hst (by kernel_rfl) pk_nil ?_
 refine ws_nil ?_
 intro w hst
 refine blk_n (tn (wrl ?_))
 refine wv (.int .i64 (i64.wrap (z5737 + (1:Int)))) z z z (wv (.int .i64 (i64.wrap (z5737 + (1:Int)))) z z z (wl_nil (tn ?_)))
 replace hst := hst.pull6.pull6.pull6.pull6.pull4.pull6.pull6
 replace hst := at_label_Lattice_close (pv := Pt b5749 0) (x := ({ up := z5736.up, down := (z5736.down.set z5737.toNat (bOr .u64 x5762 (iShl .u64 (1:Int) z5668))), join := z5736.join, meet := z5736.meet, rank := z5736.rank, all := z5736.all } : label_Lattice)) hst z
 replace hst := hst.pull1.pull1.keep2
 obtain rfl := some_inj hm
 exact ⟨_, Nat.lt_succ_self _, ({ up := z5736.up, down := (z5736.down.set z5737.toNat (bOr .u64 x5762 (iShl .u64 (1:Int) z5668))), join := z5736.join, meet := z5736.meet, rank := z5736.rank, all := z5736.all } : label_Lattice), (i64.wrap (z5737 + (1:Int))), _, hx5744, (fu 4 (.int .i64 ((a0).length : Int)) z (fu 5 (Pt b5463 0) z (fu 6 (.int .i64 z5668) z (fu 7 (.int .u64 x5678) z (fu 38 r0_0 z (fu 39 (.int .i64 ((a0).length : Int)) z (fu 40 (.int .i64 z5668) z (fu 45 (.int .i64 ((a0).length : Int)) z (fu 46 (.int .i64 (i64.wrap (z5737 + (1:Int)))) z z))))))))), hst⟩
}
 {
 replace hm := bif_f hc5748 hm
 refine wp_iff (cvb hc5748) ?_
 refine wp_skip (blk_n (tn (wrl ?_)))
 refine wv (.int .i64 (i64.wrap (z5737 + (1:Int)))) z z z (wv (.int .i64 (i64.wrap (z5737 + (1:Int)))) z z z (wl_nil (tn ?_)))
 replace hst := hst.pull1.pull1.keep2
 obtain rfl := some_inj hm
 exact ⟨_, Nat.lt_succ_self _, z5736, (i64.wrap (z5737 + (1:Int))), _, hx5744, (fu 4 (.int .i64 ((a0).length : Int)) z (fu 5 (Pt b5463 0) z (fu 6 (.int .i64 z5668) z (fu 7 (.int .u64 x5678) z (fu 38 r0_0 z (fu 39 (.int .i64 ((a0).length : Int)) z (fu 40 (.int .i64 z5668) z (fu 45 (.int .i64 ((a0).length : Int)) z (fu 46 (.int .i64 (i64.wrap (z5737 + (1:Int)))) z z))))))))), hst⟩
}
}
 {
 replace hm := bif_f hc5746 hm
 refine wp_iff (cvb hc5746) ?_
 refine wp_exit (then_x (then_x ?_))
 replace hm := inr_up hm hx5744
 refine blk_x (blk_n (tn (wrl ?_)))
 refine wv (.int .i64 (i64.wrap (z5668 + (1:Int)))) z z z (wv (.int .i64 (i64.wrap (z5668 + (1:Int)))) z z z (wl_nil (tn ?_)))
 replace hst := hst.pull1.pull1.keep2
 obtain rfl := some_inj hm
 exact ⟨_, Nat.lt_succ_self _, z5736, (i64.wrap (z5668 + (1:Int))), _, hx5675, (fu 4 (.int .i64 ((a0).length : Int)) z (fu 5 (Pt b5463 0) z (fu 38 r0_0 z (fu 39 (.int .i64 ((a0).length : Int)) z (fu 40 (.int .i64 (i64.wrap (z5668 + (1:Int)))) z z))))), hst⟩
}
}
 {
 replace hm := bif_f hc5677 hm
 refine wp_iff (cvb hc5677) ?_
 refine wp_exit (then_x (then_x ?_))
 replace hm := inr_up hm hx5675
 refine blk_x (tn ?_)
 replace hst := hst.pull1.keep2
 obtain rfl := some_inj hm
 exact ⟨z5667, _, hx5776, (fu 4 (.int .i64 ((a0).length : Int)) z (fu 5 (Pt b5463 0) z z)), hst⟩
}
}
 {
 clear hst
 rintro _ w5777 ⟨z5772, σ5773, hm, rfl, hst⟩
 dsimp only [label_New_j1] at hm
 obtain ⟨y7120, hm, hx7121⟩ := joinO_some hm
 refine wp_cut (fun a w => ∃ (I7117 : HL) (z7116 : label_Lattice) (σ7118 : Nat → Value), (label_New_j4) z7116 = some r ∧ a = Fr 192 (upd σ7118 5 (Pt b5463 0)) ∧ I.le I7117 ∧ St w0 w I7117 [cells b5463 [v5465], at_label_Lattice v5465 z7116] R) ?_ ?_
 {
 have hL7122 := HL.le.refl I
 refine wp_seq (wrl (wv (.int .i64 ((a0).length : Int)) z z z (wv (.int .i64 (0:Int)) z z z (wl_nil (tn (wp_block ?_))))))
 obtain ⟨n6660, hm⟩ := loopO_some hm
 refine wp_loop_n (fun n a w => ∃ (I6658 : HL) (z6656 : label_Lattice) (z6657 : Int) (σ6659 : Nat → Value), loopN (label_New_l5 a0) n (z6656, z6657) = some y7120 ∧ a = Fr 192 (upd (upd (upd (upd σ6659 4 (.int .i64 ((a0).length : Int))) 5 (Pt b5463 0)) 67 (.int .i64 ((a0).length : Int))) 68 (.int .i64 z6657)) ∧ I.le I6658 ∧ St w0 w I6658 [cells b5463 [v5465], at_label_Lattice v5465 z6656] R) n6660 ⟨_, z5772, (0:Int), _, hm, (fu 4 (.int .i64 ((a0).length : Int)) z (fu 5 (Pt b5463 0) z (fu 67 (.int .i64 ((a0).length : Int)) z (fu 68 (.int .i64 (0:Int)) z z)))), (HL.le.refl _), hst⟩ ?_
 rintro n6666 _ w6661 ⟨I6658, z6656, z6657, σ6659, hm, rfl, hL6662, hst⟩
 obtain ⟨n6663, y6664, rfl, hm, hx6665⟩ := loopN_some hm
 dsimp only [label_New_l5] at hm
 replace f0_0 := f0_0.mono (rd_le hL6662)
 replace hI0 := hI0.trans hL6662
 replace hL7122 := hL7122.trans hL6662
 refine wp_seq (wrl (wv (.bool (decide (z6657 < ((a0).length : Int)))) z z z (wl_nil (tn (wp_seq ?_)))))
 refine bsplit (decide (z6657 < ((a0).length : Int))) (fun hc6667 => ?_) (fun hc6667 => ?_)
 {
 replace hm := bif_t hc6667 hm
 refine wp_ift (cvb hc6667) ?_
 refine wp_skip (tn (wp_seq (wp_block (wp_seq (wrl ?_)))))
 refine wv (.int .i64 z6657) z z z (wv (.int .i64 z6657) z z z (wl_nil (tn (wp_seq (wrl (wv ((.slice none 0 0)) z z z (wv ((.slice none 0 0)) z z z (wl_nil (tn ?_)))))))))
 obtain ⟨y6980, hm, hx6981⟩ := joinO_some hm
 refine wp_cut (fun a w => ∃ (z6974 : (List Int)) (z6977 : (List Int)) (v6973 : Value) (v6976 : Value) (σ6978 : Nat → Value), (label_New_j6 z6656 z6657) (z6974, z6977) = some y6664 ∧ a = Fr 192 (upd (upd (upd (upd (upd (upd (upd σ6978 4 (.int .i64 ((a0).length : Int))) 5 (Pt b5463 0)) 9 (.int .i64 z6657)) 10 (v6973)) 11 (v6976)) 67 (.int .i64 ((a0).length : Int))) 68 (.int .i64 z6657)) ∧ St w0 w I6658 [cells b5463 [v5465], at_label_Lattice v5465 z6656, ownS (tyInt .i64) v6973 z6974, ownS (tyInt .i64) v6976 z6977] R) ?_ ?_
 {
 refine wp_seq (wrl (wv (.int .i64 ((a0).length : Int)) z z z (wv (.int .i64 (0:Int)) z z z (wl_nil (tn (wp_block ?_))))))
 replace hst := hst.own_nil (tyInt .i64)
 replace hst := hst.own_nil (tyInt .i64)
 obtain ⟨n6895, hm⟩ := loopO_some hm
 refine wp_loop_n (fun n a w => ∃ (z6887 : (List Int)) (z6890 : (List Int)) (z6893 : Int) (v6888 : Value) (v6891 : Value) (σ6894 : Nat → Value), loopN (label_New_l7 a0 z6656 z6657) n (z6887, z6890, z6893) = some y6980 ∧ a = Fr 192 (upd (upd (upd (upd (upd (upd (upd (upd (upd σ6894 4 (.int .i64 ((a0).length : Int))) 5 (Pt b5463 0)) 9 (.int .i64 z6657)) 10 (v6888)) 11 (v6891)) 67 (.int .i64 ((a0).length : Int))) 68 (.int .i64 z6657)) 71 (.int .i64 ((a0).length : Int))) 72 (.int .i64 z6893)) ∧ St w0 w I6658 [ownS (tyInt .i64) v6891 z6890, ownS (tyInt .i64) v6888 z6887, cells b5463 [v5465], at_label_Lattice v5465 z6656] R) n6895 ⟨[], [], (0:Int), Zs, Zs, _, hm, (fu 4 (.int .i64 ((a0).length : Int)) z (fu 5 (Pt b5463 0) z (fu 9 (.int .i64 z6657) z (fu 10 (.slice none 0 0) z (fu 11 (.slice none 0 0) z (fu 67 (.int .i64 ((a0).length : Int)) z (fu 68 (.int .i64 z6657) z (fu 71 (.int .i64 ((a0).length : Int)) z (fu 72 (.int .i64 (0:Int)) z z))))))))), hst⟩ ?_
 rintro n6901 _ w6896 ⟨z6887, z6890, z6893, v6888, v6891, σ6894, hm, rfl, hst⟩
 obtain ⟨n6898, y6899, rfl, hm, hx6900⟩ := loopN_some hm
 dsimp only [label_New_l7] at hm
 refine wp_seq (wrl (wv (.bool (decide (z6893 < ((a0).length : Int)))) z z z (wl_nil (tn (wp_seq ?_)))))
 refine bsplit (decide (z6893 < ((a0).length : Int))) (fun hc6902 => ?_) (fun hc6902 => ?_)
 {
 replace hm := bif_t hc6902 hm
 refine wp_ift (cvb hc6902) ?_
 refine wp_skip (tn (wp_seq (wp_block (wp_seq (wrl ?_)))))
 refine wv (.int .i64 z6893) z z z (wv (.int .i64 z6893) z z z (wl_nil (tn (wp_seq ?_))))
 replace hst := hst.pull3
 obtain ⟨b6903, v6904, v6906, v6908, v6910, v6912, v6914, rfl, hst'⟩ := at_label_Lattice_open hst
 clear hst
 have hst := hst'
 clear hst'
 refine wp_region_St hst 25 [0, 1, 2, 3, 4, 5, 6, 7, 8, 9, 10, 11, 12, 13, 14, 15, 16, 17, 18, 19, 20, 21, 22, 23, 24] [0, 1, 3, 7, 0, 31, 63, 0, 128, 384, 896, 0, 3968, 8064, 16383, 0, 32768, 98304, 229376, 524287, 1048575, 2097151, 2097151, 4194303, 16777215] [] z (by kernel_rfl) (by kernel_rfl) Try.mixed (by kernel_rfl) ?_
 refine wsr (Pt b6903 0) 0 z z z (by kernel_rfl) (fun w hst => x_load z isAgg60 (hst.bc9 z)) (wsr (Pt b6903 0) 1 z z z (by kernel_rfl) (fun w hst => z) (wsr (Pt b6903 0) 2 z z z (by kernel_rfl) (fun w hst => x_field z underlying73 z sizeOf25 z) (wsr (v6904) 3 z z z (by kernel_rfl) (fun w hst => x_load z isAgg25 (hst.bc0 z)) (wsr (.int .i64 z6657) 4 z z z (by kernel_rfl) (fun w hst => z) ?_))))
 obtain ⟨x6916, hx6917, hm⟩ := bind_some hm
 obtain ⟨h6918, h6919, hi6920⟩ := geto_some hx6917
 refine wsr (.pointer (some (eAddr v6904 (z6657.toNat * 1 + 0)))) 5 z z z (by kernel_rfl) (fun w hst => x_index z z underlying25 sizeOf22 hst.sv1 h6918 h6919) (wsr (.int .u64 x6916) 6 z z z (by kernel_rfl) (fun w hst => x_load z isAgg22 (hst.ol1 hi6920 (by rintro _ rfl; rfl))) (wsr (Pt b6903 0) 7 z z z (by kernel_rfl) (fun w hst => x_load z isAgg60 (hst.bc9 z)) (wsr (Pt b6903 0) 8 z z z (by kernel_rfl) (fun w hst => z) (wsr (Pt b6903 0) 9 z z z (by kernel_rfl) (fun w hst => x_field z underlying73 z sizeOf25 z) (wsr (v6904) 10 z z z (by kernel_rfl) (fun w hst => x_load z isAgg25 (hst.bc0 z)) (wsr (.int .i64 z6893) 11 z z z (by kernel_rfl) (fun w hst => z) ?_))))))
 obtain ⟨x6921, hx6922, hm⟩ := bind_some hm
 obtain ⟨h6923, h6924, hi6925⟩ := geto_some hx6922
 refine wsr (.pointer (some (eAddr v6904 (z6893.toNat * 1 + 0)))) 12 z z z (by kernel_rfl) (fun w hst => x_index z z underlying25 sizeOf22 hst.sv1 h6923 h6924) (wsr (.int .u64 x6921) 13 z z z (by kernel_rfl) (fun w hst => x_load z isAgg22 (hst.ol1 hi6925 (by rintro _ rfl; rfl))) (wsr (.int .u64 (bAnd .u64 x6916 x6921)) 14 z z z (by kernel_rfl) (fun w hst => z) (wsr (Pt b6903 0) 15 z z z (by kernel_rfl) (fun w hst => x_load z isAgg60 (hst.bc9 z)) (wsr (Pt b6903 0) 16 z z z (by kernel_rfl) (fun w hst => z) (wsr (Pt b6903 0) 17 z z z (by kernel_rfl) (fun w hst => x_field z underlying73 z sizeOf25 z) (wsr (v6904) 18 z z z (by kernel_rfl) (fun w hst => x_load z isAgg25 (hst.bc0 z)) ?_))))))
 refine ws_e1 19 (by kernel_rfl) ?_
 refine nxe [20, 21, 22, 23, 24] (by kernel_rfl) z z ?_
 clear hst
 intro w hst
 replace hst := hst.pull1
 obtain ⟨css6926, hq6927, hst⟩ := hst.own_open
 obtain ⟨t6928, ht6929, hm⟩ := bind_some hm
 refine wec call46 [U6 (bAnd .u64 x6916 x6921), v6904] z z ?_
 refine (label_least_ref (hst.rdrow0 hq6927) hst.to0 ht6929).mono ?_
 rintro _ w6930 ⟨rfl, hst⟩
 refine ⟨_, z, ?_⟩
 replace hst := hst.of0.own_close hq6927
 refine ws_next (pend' := []) hst (by kernel_rfl) pk_nil ?_
 refine wsr (.tuple #[I6 t6928.1, .bool t6928.2]) 20 z z z (by kernel_rfl) (fun w hst => z) (wsr (.int .i64 t6928.1) 21 z z z (by kernel_rfl) (fun w hst => z) (wsr (.bool t6928.2) 22 z z z (by kernel_rfl) (fun w hst => z) (wsr (.int .i64 t6928.1) 23 z z z (by kernel_rfl) (fun w hst => z) (wsr (.bool t6928.2) 24 z z z (by kernel_rfl) (fun w hst => z) ?_))))
 refine ws_nil ?_
 intro w hst
 refine tn (wp_seq ?_)
 refine wp_region_St hst 25 [0, 1, 2, 3, 4, 5, 6, 7, 8, 9, 10, 11, 12, 13, 14, 15, 16, 17, 18, 19, 20, 21, 22, 23, 24] [0, 1, 3, 7, 0, 31, 63, 0, 128, 384, 896, 0, 3968, 8064, 16383, 0, 32768, 98304, 229376, 524287, 1048575, 2097151, 2097151, 4194303, 16777215] [] z (by kernel_rfl) (by kernel_rfl) Try.mixed (by kernel_rfl) ?_
 refine wsr (Pt b6903 0) 0 z z z (by kernel_rfl) (fun w hst => x_load z isAgg60 (hst.bc9 z)) (wsr (Pt b6903 0) 1 z z z (by kernel_rfl) (fun w hst => z) (wsr (Pt b6903 1) 2 z z z (by kernel_rfl) (fun w hst => x_field z underlying73 z sizeOf25 z) (wsr (v6906) 3 z z z (by kernel_rfl) (fun w hst => x_load z isAgg25 (hst.bc1 z)) (wsr (.int .i64 z6657) 4 z z z (by kernel_rfl) (fun w hst => z) ?_))))
 obtain ⟨x6933, hx6934, hm⟩ := bind_some hm
 obtain ⟨h6935, h6936, hi6937⟩ := geto_some hx6934
 refine wsr (.pointer (some (eAddr v6906 (z6657.toNat * 1 + 0)))) 5 z z z (by kernel_rfl) (fun w hst => x_index z z underlying25 sizeOf22 hst.sv2 h6935 h6936) (wsr (.int .u64 x6933) 6 z z z (by kernel_rfl) (fun w hst => x_load z isAgg22 (hst.ol2 hi6937 (by rintro _ rfl; rfl))) (wsr (Pt b6903 0) 7 z z z (by kernel_rfl) (fun w hst => x_load z isAgg60 (hst.bc9 z)) (wsr (Pt b6903 0) 8 z z z (by kernel_rfl) (fun w hst => z) (wsr (Pt b6903 1) 9 z z z (by kernel_rfl) (fun w hst => x_field z underlying73 z sizeOf25 z) (wsr (v6906) 10 z z z (by kernel_rfl) (fun w hst => x_load z isAgg25 (hst.bc1 z)) (wsr (.int .i64 z6893) 11 z z z (by kernel_rfl) (fun w hst => z) ?_))))))
 obtain ⟨x6938, hx6939, hm⟩ := bind_some hm
 obtain ⟨h6940, h6941, hi6942⟩ := geto_some hx6939
 refine wsr (.pointer (some (eAddr v6906 (z6893.toNat * 1 + 0)))) 12 z z z (by kernel_rfl) (fun w hst => x_index z z underlying25 sizeOf22 hst.sv2 h6940 h6941) (wsr (.int .u64 x6938) 13 z z z (by kernel_rfl) (fun w hst => x_load z isAgg22 (hst.ol2 hi6942 (by rintro _ rfl; rfl))) (wsr (.int .u64 (bAnd .u64 x6933 x6938)) 14 z z z (by kernel_rfl) (fun w hst => z) (wsr (Pt b6903 0) 15 z z z (by kernel_rfl) (fun w hst => x_load z isAgg60 (hst.bc9 z)) (wsr (Pt b6903 0) 16 z z z (by kernel_rfl) (fun w hst => z) (wsr (Pt b6903 1) 17 z z z (by kernel_rfl) (fun w hst => x_field z underlying73 z sizeOf25 z) (wsr (v6906) 18 z z z (by kernel_rfl) (fun w hst => x_load z isAgg25 (hst.bc1 z)) ?_))))))
 refine ws_e1 19 (by kernel_rfl) ?_
 refine nxe [20, 21, 22, 23, 24] (by kernel_rfl) z z ?_
 clear hst
 intro w hst
 replace hst := hst.pull2
 obtain ⟨css6943, hq6944, hst⟩ := hst.own_open
 obtain ⟨t6945, ht6946, hm⟩ := bind_some hm
 refine wec call46 [U6 (bAnd .u64 x6933 x6938), v6906] z z ?_
 refine (label_least_ref (hst.rdrow0 hq6944) hst.to0 ht6946).mono ?_
 rintro _ w6947 ⟨rfl, hst⟩
 refine ⟨_, z, ?_⟩
 replace hst := hst.of0.own_close hq6944
 refine ws_next (pend' := []) hst (by kernel_rfl) pk_nil ?_
 refine wsr (.tuple #[I6 t6945.1, .bool t6945.2]) 20 z z z (by kernel_rfl) (fun w hst => z) (wsr (.int .i64 t6945.1) 21 z z z (by kernel_rfl) (fun w hst => z) (wsr (.bool t6945.2) 22 z z z (by kernel_rfl) (fun w hst => z) (wsr (.int .i64 t6945.1) 23 z z z (by kernel_rfl) (fun w hst => z) (wsr (.bool t6945.2) 24 z z z (by kernel_rfl) (fun w hst => z) ?_))))
 refine ws_nil ?_
 intro w hst
 refine tn (wp_seq (wp_seq (wrl (wv (.bool t6928.2) z z z (wv (.bool (!t6928.2)) z z z (wv (.bool (!t6928.2)) z z z ?_))))))
 refine bsplit (!t6928.2) (fun hc6950 => ?_) (fun hc6950 => ?_)
 {
 replace hm := bif_t hc6950 hm
 refine wo hc6950 z z z z z z (wo hc6950 z z z z z z (wv (.bool true) z z (x_pick_t hc6950 z z) (wl_nil (tn ?_))))
 refine wp_ift z ?_
 refine wp_seq (wrl (wv (.pointer none) z z z (wv (.int .i64 (15:Int)) z z z (wl_nil (tn (wp_ret (then_r (blk_r (then_r (then_r ?_))))))))))
 replace hm := inr_up hm hx6900
 refine blk_r (then_r ?_)
 replace hm := inr_up hm hx6981
 refine blk_r (then_r (then_r ?_))
 replace hm := inr_up hm hx6665
 refine blk_r (then_r ?_)
 replace hm := inr_up hm hx7121
 replace hst := hst.objO_nil at_label_Lattice
 obtain rfl := some_inj hm
 refine post_ret (vs := [.pointer none, I6 (15:Int)]) results34 (rvs_cons (rv_tmp z) (rvs_cons (rv_tmp z) rvs_nil)) ?_
 exact ⟨_, .pointer none, z, hI0, hst.keep1⟩
}
 {
 replace hm := bif_f hc6950 hm
 refine wv (.bool t6945.2) ((wanted_eq z z z (cvb hc6950)).trans z) z z (wv (.bool (!t6945.2)) ((wanted_eq z z z (cvb hc6950)).trans z) z z (wv (.bool (!t6945.2)) z z (x_pick_f hc6950 z z) (wl_nil (tn ?_))))
 refine bsplit (!t6945.2) (fun hc6952 => ?_) (fun hc6952 => ?_)
 {
 replace hm := bif_t hc6952 hm
 refine wp_ift (cvb hc6952) ?_
 refine wp_seq (wrl (wv (.pointer none) z z z (wv (.int .i64 (15:Int)) z z z (wl_nil (tn (wp_ret (then_r (blk_r (then_r (then_r ?_))))))))))
 replace hm := inr_up hm hx6900
 refine blk_r (then_r ?_)
 replace hm := inr_up hm hx6981
 refine blk_r (then_r (then_r ?_))
 replace hm := inr_up hm hx6665
 refine blk_r (then_r ?_)
 replace hm := inr_up hm hx7121
 replace hst := hst.objO_nil at_label_Lattice
 obtain rfl := some_inj hm
 refine post_ret (vs := [.pointer none, I6 (15:Int)]) results34 (rvs_cons (rv_tmp z) (rvs_cons (rv_tmp z) rvs_nil)) ?_
 exact ⟨_, .pointer none, z, hI0, hst.keep1⟩
}
 {
 replace hm := bif_f hc6952 hm
 refine wp_iff (cvb hc6952) ?_
 refine wp_skip (tn (wrl ?_))
 refine wv (v6888) z z z (wv (.int .i64 t6928.1) z z z ?_)
 obtain ⟨b6954, w6955, ew6956, eb6957, hst⟩ := hst.lits (E := (tyInt .i64)) (xs := [t6928.1]) [[I6 t6928.1]] 3 1 z (Reps.cons z Reps.nil)
 refine wl_run (v := (.slice (some ⟨b6954, 0, none⟩) 1 1)) (w' := w6955) z z (x_als (by kernel_rfl) ew6956 eb6957) ?_
 obtain ⟨hg6959, hm⟩ := gd_some hm
 replace hst := hst.pull9
 obtain ⟨v6960, w6961, hr6962, hst⟩ := run_append elem_46 underlying46 hst hst.src1 (room_of hg6959 z) 46
 refine wl_run (v := v6960) (w' := w6961) z z (x_append z z hr6962) ?_
 refine wv (v6891) z z z (wv (.int .i64 t6945.1) z z z ?_)
 obtain ⟨b6964, w6965, ew6966, eb6967, hst⟩ := hst.lits (E := (tyInt .i64)) (xs := [t6945.1]) [[I6 t6945.1]] 3 1 z (Reps.cons z Reps.nil)
 refine wl_run (v := (.slice (some ⟨b6964, 0, none⟩) 1 1)) (w' := w6965) z z (x_als (by kernel_rfl) ew6966 eb6967) ?_
 obtain ⟨hg6969, hm⟩ := gd_some hm
 replace hst := hst.pull10
 obtain ⟨v6970, w6971, hr6972, hst⟩ := run_append elem_46 underlying46 hst hst.src1 (room_of hg6969 z) 46
 refine wl_run (v := v6970) (w' := w6971) z z (x_append z z hr6972) ?_
 refine wv (v6960) z z z (wv (v6970) z z z (wl_nil (blk_n (tn (wrl (wv (.int .i64 (i64.wrap (z6893 + (1:Int)))) z z z (wv (.int .i64 (i64.wrap (z6893 + (1:Int)))) z z z (wl_nil (tn ?_)))))))))
 replace hst := hst.pull10.pull10.pull10.pull10.pull8.pull9.pull10
 replace hst := at_label_Lattice_close (pv := Pt b6903 0) (x := z6656) hst z
 replace hst := hst.pull5.pull4.pull3.keep4
 obtain rfl := some_inj hm
 exact ⟨_, Nat.lt_succ_self _, (z6887 ++ ([t6928.1])), (z6890 ++ ([t6945.1])), (i64.wrap (z6893 + (1:Int))), v6960, v6970, _, hx6900, (fu 4 (.int .i64 ((a0).length : Int)) z (fu 5 (Pt b5463 0) z (fu 9 (.int .i64 z6657) z (fu 10 v6960 z (fu 11 v6970 z (fu 67 (.int .i64 ((a0).length : Int)) z (fu 68 (.int .i64 z6657) z (fu 71 (.int .i64 ((a0).length : Int)) z (fu 72 (.int .i64 (i64.wrap (z6893 + (1:Int)))) z z))))))))), hst⟩
}
}
}
 {
 replace hm := bif_f hc6902 hm
 refine wp_iff (cvb hc6902) ?_
 refine wp_exit (then_x (then_x ?_))
 replace hm := inr_up hm hx6900
 refine blk_x (tn ?_)
 replace hst := hst.pull1.pull3.pull3.keep4
 obtain rfl := some_inj hm
 exact ⟨z6887, z6890, v6888, v6891, _, hx6981, (fu 4 (.int .i64 ((a0).length : Int)) z (fu 5 (Pt b5463 0) z (fu 9 (.int .i64 z6657) z (fu 10 v6888 z (fu 11 v6891 z (fu 67 (.int .i64 ((a0).length : Int)) z (fu 68 (.int .i64 z6657) z z))))))), hst⟩
}
}
 {
 clear hst
 rintro _ w6982 ⟨z6974, z6977, v6973, v6976, σ6978, hm, rfl, hst⟩
 dsimp only [label_New_j6] at hm
 refine wp_seq ?_
 replace hst := hst.pull1
 obtain ⟨b6983, v6984, v6986, v6988, v6990, v6992, v6994, rfl, hst'⟩ := at_label_Lattice_open hst
 clear hst
 have hst := hst'
 clear hst'
 obtain ⟨y7086, hm, hx7087⟩ := bind_some hm
 refine wp_mid (fun a w => ∃ (I7083 : HL) (σ7084 : Nat → Value), (label_New_j8 z6656 z6974 z6977 z6657) () = some y6664 ∧ a = Fr 192 (upd (upd (upd (upd (upd σ7084 4 (.int .i64 ((a0).length : Int))) 5 (Pt b5463 0)) 9 (.int .i64 z6657)) 67 (.int .i64 ((a0).length : Int))) 68 (.int .i64 z6657)) ∧ I6658.le I7083 ∧ St w0 w I7083 [cells b5463 [Pt b6983 0], at_label_Lattice (Pt b6983 0) ({ up := z6656.up, down := z6656.down, join := (z6656.join ++ ([z6974])), meet := (z6656.meet ++ ([z6977])), rank := z6656.rank, all := z6656.all } : label_Lattice)] R) ?_ ?_
 {
 have hL7088 := HL.le.refl I6658
 refine wp_region_St hst 22 [0, 1, 2, 3, 4, 5, 6, 7, 8, 9, 10, 11, 12, 13, 14, 15, 16, 17, 18, 19, 20, 21] [0, 0, 0, 4, 12, 28, 0, 64, 252, 0, 512, 1536, 3584, 0, 8192, 32764, 65533, 131069, 262141, 524287, 1048575, 2097151] [] z (by kernel_rfl) (by kernel_rfl) Try.mixed (by kernel_rfl) ?_
 refine wsr (Pt b6983 0) 0 z z z (by kernel_rfl) (fun w hst => x_load z isAgg60 (hst.bc7 z)) (wsr (Pt b6983 0) 1 z z z (by kernel_rfl) (fun w hst => x_load z isAgg60 (hst.bc7 z)) (wsr (Pt b6983 0) 2 z z z (by kernel_rfl) (fun w hst => x_load z isAgg60 (hst.bc7 z)) (wsr (Pt b6983 0) 3 z z z (by kernel_rfl) (fun w hst => z) (wsr (Pt b6983 2) 4 z z z (by kernel_rfl) (fun w hst => x_field z underlying73 z sizeOf71 z) (wsr (v6988) 5 z z z (by kernel_rfl) (fun w hst => x_load z isAgg71 (hst.bc0 z)) (wsr (v6973) 6 z z z (by kernel_rfl) (fun w hst => z) (wsr (Pt b6983 0) 9 z z z (by kernel_rfl) (fun w hst => x_load z isAgg60 (hst.bc7 z)) (wsr (Pt b6983 0) 10 z z z (by kernel_rfl) (fun w hst => z) (wsr (Pt b6983 3) 11 z z z (by kernel_rfl) (fun w hst => x_field z underlying73 z sizeOf71 z) (wsr (v6990) 12 z z z (by kernel_rfl) (fun w hst => x_load z isAgg71 (hst.bc0 z)) (wsr (v6976) 13 z z z (by kernel_rfl) (fun w hst => z) ?_)))))))))))
 refine ws_e2 7 14 (by kernel_rfl) ?_ ?_
 {
 refine nxe [8, 14, 15, 16, 17, 18, 19, 20, 21] (by kernel_rfl) z z ?_
 clear hst
 intro w hst
 replace hst := hst.pull8
 obtain ⟨I6997, hI6998, f6999, hst⟩ := hst.own_fix
 replace f0_0 := f0_0.mono (rd_le hI6998)
 replace hI0 := hI0.trans hI6998
 replace hL7122 := hL7122.trans hI6998
 replace hL6662 := hL6662.trans hI6998
 replace hL7088 := hL7088.trans hI6998
 obtain ⟨b7000, w7001, ew7002, eb7003, hst⟩ := hst.lits (E := (tySl (tyInt .i64))) (xs := [z6974]) [[v6973]] 46 1 z (Reps.cons ⟨_, z, f6999, one_of_sliceV (ro_sliceV f6999)⟩ Reps.nil)
 refine we_run (v := (.slice (some ⟨b7000, 0, none⟩) 1 1)) (w' := w7001) z (x_als (by obtain ⟨_, _, hv_, _⟩ := (ro_sliceV f6999); rw [hv_]; kernel_rfl) ew7002 eb7003) ?_
 refine ws_next (pend' := [(13, v6976), (12, v6990), (11, Pt b6983 3), (10, Pt b6983 0), (9, Pt b6983 0), (5, v6988), (4, Pt b6983 2), (3, Pt b6983 0), (2, Pt b6983 0), (1, Pt b6983 0), (0, Pt b6983 0)]) hst (by kernel_rfl) (pkr z z (fun w hst => z) (pkr z z (fun w hst => x_load z isAgg71 (hst.bc1 z)) (pkr z z (fun w hst => x_field z underlying73 z sizeOf71 z) (pkr z z (fun w hst => z) (pkr z z (fun w hst => x_load z isAgg60 (hst.bc8 z)) (pkr z z (fun w hst => x_load z isAgg71 (hst.bc1 z)) (pkr z z (fun w hst => x_field z underlying73 z sizeOf71 z) (pkr z z (fun w hst => z) (pkr z z (fun w hst => x_load z isAgg60 (hst.bc8 z)) (pkr z z (fun w hst => x_load z isAgg60 (hst.bc8 z)) (pkr z z (fun w hst => x_load z isAgg60 (hst.bc8 z)) pk_nil))))))))))) ?_
 refine ws_e2 8 14 (by kernel_rfl) ?_ ?_
 {
 refine nxe [14, 15, 16, 17, 18, 19, 20, 21] (by kernel_rfl) z z ?_
 clear hst
 intro w hst
 obtain ⟨hg7005, hm⟩ := gd_some hm
 replace hst := hst.pull4
 obtain ⟨v7006, w7007, hr7008, hst⟩ := run_append elem_71 underlying71 hst hst.src1 (room_of hg7005 z) 71
 refine we_run (v := v7006) (w' := w7007) z (x_append z z hr7008) ?_
 refine ws_next (pend' := [(13, v6976), (12, v6990), (11, Pt b6983 3), (10, Pt b6983 0), (9, Pt b6983 0), (1, Pt b6983 0), (0, Pt b6983 0)]) hst (by kernel_rfl) (pkr z z (fun w hst => z) (pkr z z (fun w hst => x_load z isAgg71 (hst.bc2 z)) (pkr z z (fun w hst => x_field z underlying73 z sizeOf71 z) (pkr z z (fun w hst => z) (pkr z z (fun w hst => x_load z isAgg60 (hst.bc8 z)) (pkr z z (fun w hst => x_load z isAgg60 (hst.bc8 z)) (pkr z z (fun w hst => x_load z isAgg60 (hst.bc8 z)) pk_nil))))))) ?_
 refine ws_e1 14 (by kernel_rfl) ?_
 refine nxe [15, 16, 17, 18, 19, 20, 21] (by kernel_rfl) z z ?_
 clear hst
 intro w hst
 replace hst := hst.pull9
 obtain ⟨I7011, hI7012, f7013, hst⟩ := hst.own_fix
 replace f0_0 := f0_0.mono (rd_le hI7012)
 replace f6999 := f6999.mono (ro_le hI7012)
 replace hI0 := hI0.trans hI7012
 replace hL7122 := hL7122.trans hI7012
 replace hL6662 := hL6662.trans hI7012
 replace hL7088 := hL7088.trans hI7012
 obtain ⟨b7014, w7015, ew7016, eb7017, hst⟩ := hst.lits (E := (tySl (tyInt .i64))) (xs := [z6977]) [[v6976]] 46 1 z (Reps.cons ⟨_, z, f7013, one_of_sliceV (ro_sliceV f7013)⟩ Reps.nil)
 refine we_run (v := (.slice (some ⟨b7014, 0, none⟩) 1 1)) (w' := w7015) z (x_als (by obtain ⟨_, _, hv_, _⟩ := (ro_sliceV f7013); rw [hv_]; kernel_rfl) ew7016 eb7017) ?_
 refine ws_next (pend' := [(12, v6990), (11, Pt b6983 3), (10, Pt b6983 0), (9, Pt b6983 0), (1, Pt b6983 0), (0, Pt b6983 0)]) hst (by kernel_rfl) (pkr z z (fun w hst => x_load z isAgg71 (hst.bc3 z)) (pkr z z (fun w hst => x_field z underlying73 z sizeOf71 z) (pkr z z (fun w hst => z) (pkr z z (fun w hst => x_load z isAgg60 (hst.bc9 z)) (pkr z z (fun w hst => x_load z isAgg60 (hst.bc9 z)) (pkr z z (fun w hst => x_load z isAgg60 (hst.bc9 z)) pk_nil)))))) ?_
 refine ws_e1 15 (by kernel_rfl) ?_
 refine nxe [16, 17, 18, 19, 20, 21] (by kernel_rfl) z z ?_
 clear hst
 intro w hst
 obtain ⟨hg7019, hm⟩ := gd_some hm
 replace hst := hst.pull6
 obtain ⟨v7020, w7021, hr7022, hst⟩ := run_append elem_71 underlying71 hst hst.src1 (room_of hg7019 z) 71
 refine we_run (v := v7020) (w' := w7021) z (x_append z z hr7022) ?_
 refine ws_next (pend' := [(1, Pt b6983 0), (0, Pt b6983 0)]) hst (by kernel_rfl) (pkr z z (fun w hst => x_load z isAgg60 (hst.bc9 z)) (pkr z z (fun w hst => x_load z isAgg60 (hst.bc9 z)) pk_nil)) ?_
 refine wsr (Pt b6983 0) 16 z z z (by kernel_rfl) (fun w hst => z) (wsr (Pt b6983 2) 17 z z z (by kernel_rfl) (fun w hst => x_field z underlying73 z sizeOf71 z) ?_)
 refine ws_e1 18 (by kernel_rfl) ?_
 refine nxe [19, 20, 21] (by kernel_rfl) z z ?_
 clear hst
 intro w hst
 replace hst := hst.pull4
 obtain ⟨w7024, hr7025, hst⟩ := hst.boxStore1 (P := prog) (t := 71) (cs' := [v6984, v6986, v7006, v6990, v6992, v6994]) 2 v7006 (one_of_sliceV hst.sv3) sizeOf71 z z
 refine we_unit z (x_unit hr7025) ?_
 refine ws_next (pend' := [(1, Pt b6983 0)]) hst (by kernel_rfl) (pkr z z (fun w hst => x_load z isAgg60 (hst.bc9 z)) pk_nil) ?_
 refine wsr (Pt b6983 0) 19 z z z (by kernel_rfl) (fun w hst => z) (wsr (Pt b6983 3) 20 z z z (by kernel_rfl) (fun w hst => x_field z underlying73 z sizeOf71 z) ?_)
 refine ws_e1 21 (by kernel_rfl) ?_
 refine nxe [] (by kernel_rfl) z z ?_
 clear hst
 intro w hst
 obtain ⟨w7026, hr7027, hst⟩ := hst.boxStore1 (P := prog) (t := 71) (cs' := [v6984, v6986, v7006, v7020, v6992, v6994]) 3 v7020 (one_of_sliceV hst.sv1) sizeOf71 z z
 refine we_unit z (x_unit hr7027) ?_
 refine ws_next (pend' := []) hst (by kernel_rfl) pk_nil ?_
 refine ws_nil ?_
 intro w hst
 refine ⟨z, ?_⟩
 replace hst := hst.pull8.pull8.pull3.pull5.pull8.pull8.pull6
 replace hst := at_label_Lattice_close (pv := Pt b6983 0) (x := ({ up := z6656.up, down := z6656.down, join := (z6656.join ++ ([z6974])), meet := (z6656.meet ++ ([z6977])), rank := z6656.rank, all := z6656.all } : label_Lattice)) hst z
 replace hst := hst.pull3.keep2
 obtain rfl := some_inj hm
 exact ⟨_, _, hx7087, (fu 4 (.int .i64 ((a0).length : Int)) z (fu 5 (Pt b5463 0) z (fu 9 (.int .i64 z6657) z (fu 67 (.int .i64 ((a0).length : Int)) z (fu 68 (.int .i64 z6657) z z))))), hL7088, hst⟩
}
 {
 refine nxe [8, 15, 16, 17, 18, 19, 20, 21] (by kernel_rfl) z z ?_
 clear hst
 intro w hst
 replace hst := hst.pull9
 obtain ⟨I7029, hI7030, f7031, hst⟩ := hst.own_fix
 replace f0_0 := f0_0.mono (rd_le hI7030)
 replace f6999 := f6999.mono (ro_le hI7030)
 replace hI0 := hI0.trans hI7030
 replace hL7122 := hL7122.trans hI7030
 replace hL6662 := hL6662.trans hI7030
 replace hL7088 := hL7088.trans hI7030
 obtain ⟨b7032, w7033, ew7034, eb7035, hst⟩ := hst.lits (E := (tySl (tyInt .i64))) (xs := [z6977]) [[v6976]] 46 1 z (Reps.cons ⟨_, z, f7031, one_of_sliceV (ro_sliceV f7031)⟩ Reps.nil)
 refine we_run (v := (.slice (some ⟨b7032, 0, none⟩) 1 1)) (w' := w7033) z (x_als (by obtain ⟨_, _, hv_, _⟩ := (ro_sliceV f7031); rw [hv_]; kernel_rfl) ew7034 eb7035) ?_
 refine ws_next (pend' := [(12, v6990), (11, Pt b6983 3), (10, Pt b6983 0), (9, Pt b6983 0), (5, v6988), (4, Pt b6983 2), (3, Pt b6983 0), (2, Pt b6983 0), (1, Pt b6983 0), (0, Pt b6983 0)]) hst (by kernel_rfl) (pkr z z (fun w hst => x_load z isAgg71 (hst.bc2 z)) (pkr z z (fun w hst => x_field z underlying73 z sizeOf71 z) (pkr z z (fun w hst => z) (pkr z z (fun w hst => x_load z isAgg60 (hst.bc9 z)) (pkr z z (fun w hst => x_load z isAgg71 (hst.bc2 z)) (pkr z z (fun w hst => x_field z underlying73 z sizeOf71 z) (pkr z z (fun w hst => z) (pkr z z (fun w hst => x_load z isAgg60 (hst.bc9 z)) (pkr z z (fun w hst => x_load z isAgg60 (hst.bc9 z)) (pkr z z (fun w hst => x_load z isAgg60 (hst.bc9 z)) pk_nil)))))))))) ?_
 refine ws_e1 8 (by kernel_rfl) ?_
 refine nxe [15, 16, 17, 18, 19, 20, 21] (by kernel_rfl) z z ?_
 clear hst
 intro w hst
 obtain ⟨hg7037, hm⟩ := gd_some hm
 replace hst := hst.pull5
 obtain ⟨v7038, w7039, hr7040, hst⟩ := run_append elem_71 underlying71 hst hst.src2 (room_of hg7037 z) 71
 refine we_run (v := v7038) (w' := w7039) z (x_append z z hr7040) ?_
 refine ws_next (pend' := [(12, v6990), (11, Pt b6983 3), (10, Pt b6983 0), (9, Pt b6983 0), (1, Pt b6983 0), (0, Pt b6983 0)]) hst (by kernel_rfl) (pkr z z (fun w hst => x_load z isAgg71 (hst.bc3 z)) (pkr z z (fun w hst => x_field z underlying73 z sizeOf71 z) (pkr z z (fun w hst => z) (pkr z z (fun w hst => x_load z isAgg60 (hst.bc9 z)) (pkr z z (fun w hst => x_load z isAgg60 (hst.bc9 z)) (pkr z z (fun w hst => x_load z isAgg60 (hst.bc9 z)) pk_nil)))))) ?_
 refine ws_e1 15 (by kernel_rfl) ?_
 refine nxe [16, 17, 18, 19, 20, 21] (by kernel_rfl) z z ?_
 clear hst
 intro w hst
 obtain ⟨hg7042, hm⟩ := gd_some hm
 replace hst := hst.pull6
 obtain ⟨v7043, w7044, hr7045, hst⟩ := run_append elem_71 underlying71 hst hst.src2 (room_of hg7042 z) 71
 refine we_run (v := v7043) (w' := w7044) z (x_append z z hr7045) ?_
 refine ws_next (pend' := [(1, Pt b6983 0), (0, Pt b6983 0)]) hst (by kernel_rfl) (pkr z z (fun w hst => x_load z isAgg60 (hst.bc9 z)) (pkr z z (fun w hst => x_load z isAgg60 (hst.bc9 z)) pk_nil)) ?_
 refine wsr (Pt b6983 0) 16 z z z (by kernel_rfl) (fun w hst => z) (wsr (Pt b6983 2) 17 z z z (by kernel_rfl) (fun w hst => x_field z underlying73 z sizeOf71 z) ?_)
 refine ws_e1 18 (by kernel_rfl) ?_
 refine nxe [19, 20, 21] (by kernel_rfl) z z ?_
 clear hst
 intro w hst
 replace hst := hst.pull4
 obtain ⟨w7047, hr7048, hst⟩ := hst.boxStore1 (P := prog) (t := 71) (cs' := [v6984, v6986, v7038, v6990, v6992, v6994]) 2 v7038 (one_of_sliceV hst.sv2) sizeOf71 z z
 refine we_unit z (x_unit hr7048) ?_
 refine ws_next (pend' := [(1, Pt b6983 0)]) hst (by kernel_rfl) (pkr z z (fun w hst => x_load z isAgg60 (hst.bc9 z)) pk_nil) ?_
 refine wsr (Pt b6983 0) 19 z z z (by kernel_rfl) (fun w hst => z) (wsr (Pt b6983 3) 20 z z z (by kernel_rfl) (fun w hst => x_field z underlying73 z sizeOf71 z) ?_)
 refine ws_e1 21 (by kernel_rfl) ?_
 refine nxe [] (by kernel_rfl) z z ?_
 clear hst
 intro w hst
 obtain ⟨w7049, hr7050, hst⟩ := hst.boxStore1 (P := prog) (t := 71) (cs' := [v6984, v6986, v7038, v7043, v6992, v6994]) 3 v7043 (one_of_sliceV hst.sv1) sizeOf71 z z
 refine we_unit z (x_unit hr7050) ?_
 refine ws_next (pend' := []) hst (by kernel_rfl) pk_nil ?_
 refine ws_nil ?_
 intro w hst
 refine ⟨z, ?_⟩
 replace hst := hst.pull8.pull8.pull3.pull4.pull8.pull8.pull6
 replace hst := at_label_Lattice_close (pv := Pt b6983 0) (x := ({ up := z6656.up, down := z6656.down, join := (z6656.join ++ ([z6974])), meet := (z6656.meet ++ ([z6977])), rank := z6656.rank, all := z6656.all } : label_Lattice)) hst z
 replace hst := hst.pull3.keep2
 obtain rfl := some_inj hm
 exact ⟨_, _, hx7087, (fu 4 (.int .i64 ((a0).length : Int)) z (fu 5 (Pt b5463 0) z (fu 9 (.int .i64 z6657) z (fu 67 (.int .i64 ((a0).length : Int)) z (fu 68 (.int .i64 z6657) z z))))), hL7088, hst⟩
}
}
 {
 refine nxe [7, 8, 15, 16, 17, 18, 19, 20, 21] (by kernel_rfl) z z ?_
 clear hst
 intro w hst
 replace hst := hst.pull9
 obtain ⟨I7052, hI7053, f7054, hst⟩ := hst.own_fix
 replace f0_0 := f0_0.mono (rd_le hI7053)
 replace hI0 := hI0.trans hI7053
 replace hL7122 := hL7122.trans hI7053
 replace hL6662 := hL6662.trans hI7053
 replace hL7088 := hL7088.trans hI7053
 obtain ⟨b7055, w7056, ew7057, eb7058, hst⟩ := hst.lits (E := (tySl (tyInt .i64))) (xs := [z6977]) [[v6976]] 46 1 z (Reps.cons ⟨_, z, f7054, one_of_sliceV (ro_sliceV f7054)⟩ Reps.nil)
 refine we_run (v := (.slice (some ⟨b7055, 0, none⟩) 1 1)) (w' := w7056) z (x_als (by obtain ⟨_, _, hv_, _⟩ := (ro_sliceV f7054); rw [hv_]; kernel_rfl) ew7057 eb7058) ?_
 refine ws_next (pend' := [(12, v6990), (11, Pt b6983 3), (10, Pt b6983 0), (9, Pt b6983 0), (6, v6973), (5, v6988), (4, Pt b6983 2), (3, Pt b6983 0), (2, Pt b6983 0), (1, Pt b6983 0), (0, Pt b6983 0)]) hst (by kernel_rfl) (pkr z z (fun w hst => x_load z isAgg71 (hst.bc1 z)) (pkr z z (fun w hst => x_field z underlying73 z sizeOf71 z) (pkr z z (fun w hst => z) (pkr z z (fun w hst => x_load z isAgg60 (hst.bc8 z)) (pkr z z (fun w hst => z) (pkr z z (fun w hst => x_load z isAgg71 (hst.bc1 z)) (pkr z z (fun w hst => x_field z underlying73 z sizeOf71 z) (pkr z z (fun w hst => z) (pkr z z (fun w hst => x_load z isAgg60 (hst.bc8 z)) (pkr z z (fun w hst => x_load z isAgg60 (hst.bc8 z)) (pkr z z (fun w hst => x_load z isAgg60 (hst.bc8 z)) pk_nil))))))))))) ?_
 refine ws_e1 7 (by kernel_rfl) ?_
 refine nxe [8, 15, 16, 17, 18, 19, 20, 21] (by kernel_rfl) z z ?_
 clear hst
 intro w hst
 replace hst := hst.pull9
 obtain ⟨I7061, hI7062, f7063, hst⟩ := hst.own_fix
 replace f0_0 := f0_0.mono (rd_le hI7062)
 replace f7054 := f7054.mono (ro_le hI7062)
 replace hI0 := hI0.trans hI7062
 replace hL7122 := hL7122.trans hI7062
 replace hL6662 := hL6662.trans hI7062
 replace hL7088 := hL7088.trans hI7062
 obtain ⟨b7064, w7065, ew7066, eb7067, hst⟩ := hst.lits (E := (tySl (tyInt .i64))) (xs := [z6974]) [[v6973]] 46 1 z (Reps.cons ⟨_, z, f7063, one_of_sliceV (ro_sliceV f7063)⟩ Reps.nil)
 refine we_run (v := (.slice (some ⟨b7064, 0, none⟩) 1 1)) (w' := w7065) z (x_als (by obtain ⟨_, _, hv_, _⟩ := (ro_sliceV f7063); rw [hv_]; kernel_rfl) ew7066 eb7067) ?_
 refine ws_next (pend' := [(12, v6990), (11, Pt b6983 3), (10, Pt b6983 0), (9, Pt b6983 0), (5, v6988), (4, Pt b6983 2), (3, Pt b6983 0), (2, Pt b6983 0), (1, Pt b6983 0), (0, Pt b6983 0)]) hst (by kernel_rfl) (pkr z z (fun w hst => x_load z isAgg71 (hst.bc2 z)) (pkr z z (fun w hst => x_field z underlying73 z sizeOf71 z) (pkr z z (fun w hst => z) (pkr z z (fun w hst => x_load z isAgg60 (hst.bc9 z)) (pkr z z (fun w hst => x_load z isAgg71 (hst.bc2 z)) (pkr z z (fun w hst => x_field z underlying73 z sizeOf71 z) (pkr z z (fun w hst => z) (pkr z z (fun w hst => x_load z isAgg60 (hst.bc9 z)) (pkr z z (fun w hst => x_load z isAgg60 (hst.bc9 z)) (pkr z z (fun w hst => x_load z isAgg60 (hst.bc9 z)) pk_nil)))))))))) ?_
 refine ws_e1 8 (by kernel_rfl) ?_
 refine nxe [15, 16, 17, 18, 19, 20, 21] (by kernel_rfl) z z ?_
 clear hst
 intro w hst
 obtain ⟨hg7069, hm⟩ := gd_some hm
 replace hst := hst.pull5
 obtain ⟨v7070, w7071, hr7072, hst⟩ := run_append elem_71 underlying71 hst hst.src1 (room_of hg7069 z) 71
 refine we_run (v := v7070) (w' := w7071) z (x_append z z hr7072) ?_
 refine ws_next (pend' := [(12, v6990), (11, Pt b6983 3), (10, Pt b6983 0), (9, Pt b6983 0), (1, Pt b6983 0), (0, Pt b6983 0)]) hst (by kernel_rfl) (pkr z z (fun w hst => x_load z isAgg71 (hst.bc3 z)) (pkr z z (fun w hst => x_field z underlying73 z sizeOf71 z) (pkr z z (fun w hst => z) (pkr z z (fun w hst => x_load z isAgg60 (hst.bc9 z)) (pkr z z (fun w hst => x_load z isAgg60 (hst.bc9 z)) (pkr z z (fun w hst => x_load z isAgg60 (hst.bc9 z)) pk_nil)))))) ?_
 refine ws_e1 15 (by kernel_rfl) ?_
 refine nxe [16, 17, 18, 19, 20, 21] (by kernel_rfl) z z ?_
 clear hst
 intro w hst
 obtain ⟨hg7074, hm⟩ := gd_some hm
 replace hst := hst.pull6
 obtain ⟨v7075, w7076, hr7077, hst⟩ := run_append elem_71 underlying71 hst hst.src3 (room_of hg7074 z) 71
 refine we_run (v := v7075) (w' := w7076) z (x_append z z hr7077) ?_
 refine ws_next (pend' := [(1, Pt b6983 0), (0, Pt b6983 0)]) hst (by kernel_rfl) (pkr z z (fun w hst => x_load z isAgg60 (hst.bc9 z)) (pkr z z (fun w hst => x_load z isAgg60 (hst.bc9 z)) pk_nil)) ?_
 refine wsr (Pt b6983 0) 16 z z z (by kernel_rfl) (fun w hst => z) (wsr (Pt b6983 2) 17 z z z (by kernel_rfl) (fun w hst => x_field z underlying73 z sizeOf71 z) ?_)
 refine ws_e1 18 (by kernel_rfl) ?_
 refine nxe [19, 20, 21] (by kernel_rfl) z z ?_
 clear hst
 intro w hst
 replace hst := hst.pull4
 obtain ⟨w7079, hr7080, hst⟩ := hst.boxStore1 (P := prog) (t := 71) (cs' := [v6984, v6986, v7070, v6990, v6992, v6994]) 2 v7070 (one_of_sliceV hst.sv2) sizeOf71 z z
 refine we_unit z (x_unit hr7080) ?_
 refine ws_next (pend' := [(1, Pt b6983 0)]) hst (by kernel_rfl) (pkr z z (fun w hst => x_load z isAgg60 (hst.bc9 z)) pk_nil) ?_
 refine wsr (Pt b6983 0) 19 z z z (by kernel_rfl) (fun w hst => z) (wsr (Pt b6983 3) 20 z z z (by kernel_rfl) (fun w hst => x_field z underlying73 z sizeOf71 z) ?_)
 refine ws_e1 21 (by kernel_rfl) ?_
 refine nxe [] (by kernel_rfl) z z ?_
 clear hst
 intro w hst
 obtain ⟨w7081, hr7082, hst⟩ := hst.boxStore1 (P := prog) (t := 71) (cs' := [v6984, v6986, v7070, v7075, v6992, v6994]) 3 v7075 (one_of_sliceV hst.sv1) sizeOf71 z z
 refine we_unit z (x_unit hr7082) ?_
 refine ws_next (pend' := []) hst (by kernel_rfl) pk_nil ?_
 refine ws_nil ?_
 intro w hst
 refine ⟨z, ?_⟩
 replace hst := hst.pull8.pull8.pull3.pull4.pull8.pull8.pull6
 replace hst := at_label_Lattice_close (pv := Pt b6983 0) (x := ({ up := z6656.up, down := z6656.down, join := (z6656.join ++ ([z6974])), meet := (z6656.meet ++ ([z6977])), rank := z6656.rank, all := z6656.all } : label_Lattice)) hst z
 replace hst := hst.pull3.keep2
 obtain rfl := some_inj hm
 exact ⟨_, _, hx7087, (fu 4 (.int .i64 ((a0).length : Int)) z (fu 5 (Pt b5463 0) z (fu 9 (.int .i64 z6657) z (fu 67 (.int .i64 ((a0).length : Int)) z (fu 68 (.int .i64 z6657) z z))))), hL7088, hst⟩
}
}
 {
 clear hst
 rintro _ w7089 ⟨I7083, σ7084, hm, rfl, hL7085, hst⟩
 dsimp only [label_New_j8] at hm
 replace f0_0 := f0_0.mono (rd_le hL7085)
 replace hI0 := hI0.trans hL7085
 replace hL7122 := hL7122.trans hL7085
 replace hL6662 := hL6662.trans hL7085
 refine tn ?_
 replace hst := hst.pull1
 obtain ⟨b7090, v7091, v7093, v7095, v7097, v7099, v7101, e7103, hst'⟩ := at_label_Lattice_open hst
 clear hst
 have e7103 := ptr_inj e7103
 subst e7103
 have hst := hst'
 clear hst'
 refine wp_region_St hst 11 [0, 1, 2, 3, 4, 5, 6, 7, 8, 9, 10] [0, 0, 2, 6, 14, 0, 32, 126, 255, 511, 1023] [] z (by kernel_rfl) (by kernel_rfl) Try.mixed (by kernel_rfl) ?_
 refine wsr (Pt b6983 0) 0 z z z (by kernel_rfl) (fun w hst => x_load z isAgg60 (hst.bc7 z)) (wsr (Pt b6983 0) 1 z z z (by kernel_rfl) (fun w hst => x_load z isAgg60 (hst.bc7 z)) (wsr (Pt b6983 0) 2 z z z (by kernel_rfl) (fun w hst => z) (wsr (Pt b6983 5) 3 z z z (by kernel_rfl) (fun w hst => x_field z underlying73 z sizeOf46 z) (wsr (v7101) 4 z z z (by kernel_rfl) (fun w hst => x_load z isAgg46 (hst.bc0 z)) (wsr (.int .i64 z6657) 5 z z z (by kernel_rfl) (fun w hst => z) ?_)))))
 refine ws_e1 6 (by kernel_rfl) ?_
 refine nxe [7, 8, 9, 10] (by kernel_rfl) z z ?_
 clear hst
 intro w hst
 obtain ⟨b7104, w7105, ew7106, eb7107, hst⟩ := hst.lits (E := (tyInt .i64)) (xs := [z6657]) [[I6 z6657]] 3 1 z (Reps.cons z Reps.nil)
 refine we_run (v := (.slice (some ⟨b7104, 0, none⟩) 1 1)) (w' := w7105) z (x_als (by kernel_rfl) ew7106 eb7107) ?_
 refine ws_next (pend' := [(4, v7101), (3, Pt b6983 5), (2, Pt b6983 0), (1, Pt b6983 0), (0, Pt b6983 0)]) hst (by kernel_rfl) (pkr z z (fun w hst => x_load z isAgg46 (hst.bc1 z)) (pkr z z (fun w hst => x_field z underlying73 z sizeOf46 z) (pkr z z (fun w hst => z) (pkr z z (fun w hst => x_load z isAgg60 (hst.bc8 z)) (pkr z z (fun w hst => x_load z isAgg60 (hst.bc8 z)) pk_nil))))) ?_
 refine ws_e1 7 (by kernel_rfl) ?_
 refine nxe [8, 9, 10] (by kernel_rfl) z z ?_
 clear hst
 intro w hst
 obtain ⟨hg7109, hm⟩ := gd_some hm
 replace hst := hst.pull7
 obtain ⟨v7110, w7111, hr7112, hst⟩ := run_append elem_46 underlying46 hst hst.src1 (room_of hg7109 z) 46
 refine we_run (v := v7110) (w' := w7111) z (x_append z z hr7112) ?_
 refine ws_next (pend' := [(0, Pt b6983 0)]) hst (by kernel_rfl) (pkr z z (fun w hst => x_load z isAgg60 (hst.bc8 z)) pk_nil) ?_
 refine wsr (Pt b6983 0) 8 z z z (by kernel_rfl) (fun w hst => z) (wsr (Pt b6983 5) 9 z z z (by kernel_rfl) (fun w hst => x_field z underlying73 z sizeOf46 z) ?_)
 refine ws_e1 10 (by kernel_rfl) ?_
 refine nxe [] (by kernel_rfl) z z ?_
 clear hst
 intro w hst
 replace hst := hst.pull2
 obtain ⟨w7114, hr7115, hst⟩ := hst.boxStore1 (P := prog) (t := 46) (cs' := [v7091, v7093, v7095, v7097, v7099, v7110]) 5 v7110 (one_of_sliceV hst.sv1) sizeOf46 z z
 refine we_unit z (x_unit hr7115) ?_
 refine ws_next (pend' := []) hst (by kernel_rfl) pk_nil ?_
 refine ws_nil ?_
 intro w hst
 refine blk_n (tn (wrl ?_))
 refine wv (.int .i64 (i64.wrap (z6657 + (1:Int)))) z z z (wv (.int .i64 (i64.wrap (z6657 + (1:Int)))) z z z (wl_nil (tn ?_)))
 replace hst := hst.pull1.pull7.pull7.pull7.pull7.pull7.pull6
 replace hst := at_label_Lattice_close (pv := Pt b6983 0) (x := ({ up := ({ up := z6656.up, down := z6656.down, join := (z6656.join ++ ([z6974])), meet := (z6656.meet ++ ([z6977])), rank := z6656.rank, all := z6656.all } : label_Lattice).up, down := ({ up := z6656.up, down := z6656.down, join := (z6656.join ++ ([z6974])), meet := (z6656.meet ++ ([z6977])), rank := z6656.rank, all := z6656.all } : label_Lattice).down, join := ({ up := z6656.up, down := z6656.down, join := (z6656.join ++ ([z6974])), meet := (z6656.meet ++ ([z6977])), rank := z6656.rank, all := z6656.all } : label_Lattice).join, meet := ({ up := z6656.up, down := z6656.down, join := (z6656.join ++ ([z6974])), meet := (z6656.meet ++ ([z6977])), rank := z6656.rank, all := z6656.all } : label_Lattice).meet, rank := ({ up := z6656.up, down := z6656.down, join := (z6656.join ++ ([z6974])), meet := (z6656.meet ++ ([z6977])), rank := z6656.rank, all := z6656.all } : label_Lattice).rank, all := ((({ up := z6656.up, down := z6656.down, join := (z6656.join ++ ([z6974])), meet := (z6656.meet ++ ([z6977])), rank := z6656.rank, all := z6656.all } : label_Lattice).all) ++ ([z6657])) } : label_Lattice)) hst z
 replace hst := hst.pull2.keep2
 obtain rfl := some_inj hm
 exact ⟨_, Nat.lt_succ_self _, _, ({ up := ({ up := z6656.up, down := z6656.down, join := (z6656.join ++ ([z6974])), meet := (z6656.meet ++ ([z6977])), rank := z6656.rank, all := z6656.all } : label_Lattice).up, down := ({ up := z6656.up, down := z6656.down, join := (z6656.join ++ ([z6974])), meet := (z6656.meet ++ ([z6977])), rank := z6656.rank, all := z6656.all } : label_Lattice).down, join := ({ up := z6656.up, down := z6656.down, join := (z6656.join ++ ([z6974])), meet := (z6656.meet ++ ([z6977])), rank := z6656.rank, all := z6656.all } : label_Lattice).join, meet := ({ up := z6656.up, down := z6656.down, join := (z6656.join ++ ([z6974])), meet := (z6656.meet ++ ([z6977])), rank := z6656.rank, all := z6656.all } : label_Lattice).meet, rank := ({ up := z6656.up, down := z6656.down, join := (z6656.join ++ ([z6974])), meet := (z6656.meet ++ ([z6977])), rank := z6656.rank, all := z6656.all } : label_Lattice).rank, all := ((({ up := z6656.up, down := z6656.down, join := (z6656.join ++ ([z6974])), meet := (z6656.meet ++ ([z6977])), rank := z6656.rank, all := z6656.all } : label_Lattice).all) ++ ([z6657])) } : label_Lattice), (i64.wrap (z6657 + (1:Int))), _, hx6665, (fu 4 (.int .i64 ((a0).length : Int)) z (fu 5 (Pt b5463 0) z (fu 67 (.int .i64 ((a0).length : Int)) z (fu 68 (.int .i64 (i64.wrap (z6657 + (1:Int)))) z z)))), hL6662, hst⟩
}
}
}
 {
 replace hm := bif_f hc6667 hm
 refine wp_iff (cvb hc6667) ?_
 refine wp_exit (then_x (then_x ?_))
 replace hm := inr_up hm hx6665
 refine blk_x (tn ?_)
 replace hst := hst.pull1.pull1.keep2
 obtain rfl := some_inj hm
 exact ⟨_, z6656, _, hx7121, (fu 5 (Pt b5463 0) z z), hL7122, hst⟩
}
}
 {
 clear hst
 rintro _ w7123 ⟨I7117, z7116, σ7118, hm, rfl, hL7119, hst⟩
 dsimp only [label_New_j4] at hm
 replace f0_0 := f0_0.mono (rd_le hL7119)
 replace hI0 := hI0.trans hL7119
 refine wp_seq (wrl (wv (v5465) z z (x_load z isAgg60 (hst.bc0 z)) ?_))
 replace hst := hst.pull1
 obtain ⟨b7124, v7125, v7127, v7129, v7131, v7133, v7135, rfl, hst'⟩ := at_label_Lattice_open hst
 clear hst
 have hst := hst'
 clear hst'
 refine wv (Pt b7124 0) z z z (wv (Pt b7124 5) z z (x_field z underlying73 z sizeOf46 z) (wv (v7135) z z (x_load z isAgg46 (hst.bc0 z)) (wv (.func (.func 48) #[] #[Pt b5463 0]) z z (by kernel_rfl) ?_)))
 obtain ⟨y9433, hq9434, hm⟩ := bind_some hm
 refine wl_call z z (x_callv call47 (caps := []) z (vs := [v7135, .func (.func 48) #[] #[Pt b5463 0]]) z) ?_
 refine Calls.mono (show Calls prog 47 #[v7135, .func (.func 48) #[] #[Pt b5463 0]] _ (fun e w' => ∃ (z9431 : (List Int)), z9431 = y9433 ∧ e = .returned (.tuple #[]) ∧ St w0 w' I7117 [cells b5463 [Pt b7124 0], cells b7124 [v7125, v7127, v7129, v7131, v7133, v7135], ownS (tyInt .u64) v7125 z7116.up, ownS (tyInt .u64) v7127 z7116.down, ownS (tySl (tyInt .i64)) v7129 z7116.join, ownS (tySl (tyInt .i64)) v7131 z7116.meet, ownS (tyInt .i64) v7133 z7116.rank, ownS (tyInt .i64) v7135 z9431] R) from ?_) ?_
 {
 clear hm; have hm := hq9434
 refine calls_start (args := [v7135, .func (.func 48) #[] #[Pt b5463 0]]) func47 z ntmps47 (Nat.le_of_ble_eq_true z) ?_
 refine wrl (wv (v7135) z z z (wv (v7135) z z z (wv (.int .i64 ((z7116.all).length : Int)) z z (x_len z underlying46 hst.sv6) (wv (.func (.func 48) #[] #[Pt b5463 0]) z z z ?_))))
 obtain ⟨y9428, hq9429, hm⟩ := bind_some hm
 refine wl_call z z (x_callv call56 (caps := []) z (vs := [v7135, I6 ((z7116.all).length : Int), .func (.func 48) #[] #[Pt b5463 0]]) z) ?_
 refine Calls.mono (show Calls prog 56 #[v7135, I6 ((z7116.all).length : Int), .func (.func 48) #[] #[Pt b5463 0]] _ (fun e w' => ∃ (z9426 : (List Int)), z9426 = y9428 ∧ e = .returned (.tuple #[]) ∧ St w0 w' I7117 [cells b5463 [Pt b7124 0], cells b7124 [v7125, v7127, v7129, v7131, v7133, v7135], ownS (tyInt .u64) v7125 z7116.up, ownS (tyInt .u64) v7127 z7116.down, ownS (tySl (tyInt .i64)) v7129 z7116.join, ownS (tySl (tyInt .i64)) v7131 z7116.meet, ownS (tyInt .i64) v7133 z7116.rank, ownS (tyInt .i64) v7135 z9426] R) from ?_) ?_
 {
 clear hm; have hm := hq9429
 refine calls_start (args := [v7135, I6 ((z7116.all).length : Int), .func (.func 48) #[] #[Pt b5463 0]]) func56 z ntmps56 (Nat.le_of_ble_eq_true z) ?_
 refine wp_seq (wrl (wv (.int .i64 (20:Int)) z z z (wl_nil (tn (wp_seq (wrl (wv (.int .i64 (20:Int)) z z z (wv (.int .i64 (0:Int)) z z z (wv (.int .i64 (20:Int)) z z z (wl_nil (tn ?_)))))))))))
 obtain ⟨y8811, hm, hx8812⟩ := bind_some hm
 refine wp_cut (fun a w => ∃ (z8807 : (List Int)) (z8808 : Int) (σ8809 : Nat → Value), (label_New_j9 z7116) (z8807, z8808) = some y9428 ∧ a = Fr 63 (upd (upd (upd (upd (upd σ8809 0 (v7135)) 1 (.int .i64 ((z7116.all).length : Int))) 2 (.func (.func 48) #[] #[Pt b5463 0])) 6 (.int .i64 (20:Int))) 7 (.int .i64 z8808)) ∧ St w0 w I7117 [ownS (tyInt .i64) v7135 z8807, cells b5463 [Pt b7124 0], cells b7124 [v7125, v7127, v7129, v7131, v7133, v7135], ownS (tyInt .u64) v7125 z7116.up, ownS (tyInt .u64) v7127 z7116.down, ownS (tySl (tyInt .i64)) v7129 z7116.join, ownS (tySl (tyInt .i64)) v7131 z7116.meet, ownS (tyInt .i64) v7133 z7116.rank] R) ?_ ?_
 {
 refine wp_block ?_
 obtain ⟨n8248, hm⟩ := loopO_some hm
 refine wp_loop_n (fun n a w => ∃ (z8244 : Int) (z8245 : Int) (z8246 : (List Int)) (σ8247 : Nat → Value), loopN (label_New_l10 z7116) n (z8244, z8245, z8246) = some y8811 ∧ a = Fr 63 (upd (upd (upd (upd (upd (upd σ8247 0 (v7135)) 1 (.int .i64 ((z7116.all).length : Int))) 2 (.func (.func 48) #[] #[Pt b5463 0])) 6 (.int .i64 (20:Int))) 7 (.int .i64 z8244)) 8 (.int .i64 z8245)) ∧ St w0 w I7117 [cells b7124 [v7125, v7127, v7129, v7131, v7133, v7135], ownS (tyInt .u64) v7125 z7116.up, ownS (tyInt .u64) v7127 z7116.down, ownS (tySl (tyInt .i64)) v7129 z7116.join, ownS (tySl (tyInt .i64)) v7131 z7116.meet, ownS (tyInt .i64) v7133 z7116.rank, ownS (tyInt .i64) v7135 z8246, cells b5463 [Pt b7124 0]] R) n8248 ⟨(0:Int), (20:Int), z7116.all, _, hm, (fu 0 v7135 z (fu 1 (.int .i64 ((z7116.all).length : Int)) z (fu 2 (.func (.func 48) #[] #[Pt b5463 0]) z (fu 6 (.int .i64 (20:Int)) z (fu 7 (.int .i64 (0:Int)) z (fu 8 (.int .i64 (20:Int)) z z)))))), hst⟩ ?_
 rintro n8254 _ w8249 ⟨z8244, z8245, z8246, σ8247, hm, rfl, hst⟩
 obtain ⟨n8251, y8252, rfl, hm, hx8253⟩ := loopN_some hm
 dsimp only [label_New_l10] at hm
 refine wp_seq (wp_seq (wrl (wv (.int .i64 z8245) z z z (wv (.int .i64 ((z7116.all).length : Int)) z z z (wv (.bool (decide (z8245 ≤ ((z7116.all).length : Int)))) z z z (wl_nil (tn ?_)))))))
 refine bsplit (decide (z8245 ≤ ((z7116.all).length : Int))) (fun hc8255 => ?_) (fun hc8255 => ?_)
 {
 replace hm := bif_t hc8255 hm
 refine wp_ift (cvb hc8255) ?_
 refine wp_skip (tn (wp_block (wp_seq (wrl ?_))))
 refine wv (v7135) z z z (wv (.int .i64 z8244) z z z (wv (.int .i64 z8245) z z z (wv (.func (.func 48) #[] #[Pt b5463 0]) z z z ?_)))
 obtain ⟨y8804, hq8805, hm⟩ := bind_some hm
 refine wl_call z z (x_callv call59 (caps := []) z (vs := [v7135, I6 z8244, I6 z8245, .func (.func 48) #[] #[Pt b5463 0]]) z) ?_
 refine Calls.mono (show Calls prog 59 #[v7135, I6 z8244, I6 z8245, .func (.func 48) #[] #[Pt b5463 0]] _ (fun e w' => ∃ (z8802 : (List Int)), z8802 = y8804 ∧ e = .returned (.tuple #[]) ∧ St w0 w' I7117 [cells b5463 [Pt b7124 0], cells b7124 [v7125, v7127, v7129, v7131, v7133, v7135], ownS (tyInt .u64) v7125 z7116.up, ownS (tyInt .u64) v7127 z7116.down, ownS (tySl (tyInt .i64)) v7129 z7116.join, ownS (tySl (tyInt .i64)) v7131 z7116.meet, ownS (tyInt .i64) v7133 z7116.rank, ownS (tyInt .i64) v7135 z8802] R) from ?_) ?_
 {
 clear hm; have hm := hq8805
 refine calls_start (args := [v7135, I6 z8244, I6 z8245, .func (.func 48) #[] #[Pt b5463 0]]) func59 z ntmps59 (Nat.le_of_ble_eq_true z) ?_
 refine wp_seq (wrl (wv (.int .i64 z8244) z z z (wv (.int .i64 (i64.wrap (z8244 + (1:Int)))) z z z (wv (.int .i64 (i64.wrap (z8244 + (1:Int)))) z z z (wl_nil (tn (wp_block ?_)))))))
 obtain ⟨n8617, hm⟩ := loopO_some hm
 refine wp_loop_n (fun n a w => ∃ (z8614 : Int) (z8615 : (List Int)) (σ8616 : Nat → Value), loopN (label_New_l11 z8245 z8244 z7116) n (z8614, z8615) = some y8804 ∧ a = Fr 53 (upd (upd (upd (upd (upd σ8616 0 (v7135)) 1 (.int .i64 z8244)) 2 (.int .i64 z8245)) 3 (.func (.func 48) #[] #[Pt b5463 0])) 8 (.int .i64 z8614)) ∧ St w0 w I7117 [cells b7124 [v7125, v7127, v7129, v7131, v7133, v7135], ownS (tyInt .u64) v7125 z7116.up, ownS (tyInt .u64) v7127 z7116.down, ownS (tySl (tyInt .i64)) v7129 z7116.join, ownS (tySl (tyInt .i64)) v7131 z7116.meet, ownS (tyInt .i64) v7133 z7116.rank, ownS (tyInt .i64) v7135 z8615, cells b5463 [Pt b7124 0]] R) n8617 ⟨(i64.wrap (z8244 + (1:Int))), z8246, _, hm, (fu 0 v7135 z (fu 1 (.int .i64 z8244) z (fu 2 (.int .i64 z8245) z (fu 3 (.func (.func 48) #[] #[Pt b5463 0]) z (fu 8 (.int .i64 (i64.wrap (z8244 + (1:Int)))) z z))))), hst⟩ ?_
 rintro n8623 _ w8618 ⟨z8614, z8615, σ8616, hm, rfl, hst⟩
 obtain ⟨n8620, y8621, rfl, hm, hx8622⟩ := loopN_some hm
 dsimp only [label_New_l11] at hm
 refine wp_seq (wp_seq (wrl (wv (.int .i64 z8614) z z z (wv (.int .i64 z8245) z z z (wv (.bool (decide (z8614 < z8245))) z z z (wl_nil (tn ?_)))))))
 refine bsplit (decide (z8614 < z8245)) (fun hc8624 => ?_) (fun hc8624 => ?_)
 {
 replace hm := bif_t hc8624 hm
 refine wp_ift (cvb hc8624) ?_
 refine wp_skip (tn (wp_seq (wp_block (wp_seq (wrl ?_)))))
 refine wv (.int .i64 z8614) z z z (wv (.int .i64 z8614) z z z (wl_nil (tn (wp_block ?_))))
 obtain ⟨n8740, hm⟩ := loopO_some hm
 refine wp_loop_n (fun n a w => ∃ (z8737 : Int) (z8738 : (List Int)) (σ8739 : Nat → Value), loopN (label_New_l12 z8244 z7116 z8614) n (z8737, z8738) = some y8621 ∧ a = Fr 53 (upd (upd (upd (upd (upd (upd σ8739 0 (v7135)) 1 (.int .i64 z8244)) 2 (.int .i64 z8245)) 3 (.func (.func 48) #[] #[Pt b5463 0])) 8 (.int .i64 z8614)) 9 (.int .i64 z8737)) ∧ St w0 w I7117 [cells b7124 [v7125, v7127, v7129, v7131, v7133, v7135], ownS (tyInt .u64) v7125 z7116.up, ownS (tyInt .u64) v7127 z7116.down, ownS (tySl (tyInt .i64)) v7129 z7116.join, ownS (tySl (tyInt .i64)) v7131 z7116.meet, ownS (tyInt .i64) v7133 z7116.rank, ownS (tyInt .i64) v7135 z8738, cells b5463 [Pt b7124 0]] R) n8740 ⟨z8614, z8615, _, hm, (fu 0 v7135 z (fu 1 (.int .i64 z8244) z (fu 2 (.int .i64 z8245) z (fu 3 (.func (.func 48) #[] #[Pt b5463 0]) z (fu 8 (.int .i64 z8614) z (fu 9 (.int .i64 z8614) z z)))))), hst⟩ ?_
 rintro n8746 _ w8741 ⟨z8737, z8738, σ8739, hm, rfl, hst⟩
 obtain ⟨n8743, y8744, rfl, hm, hx8745⟩ := loopN_some hm
 dsimp only [label_New_l12] at hm
 refine wp_seq (wp_seq ?_)
 refine wp_region_St hst 17 [0, 1, 2, 3, 4, 5, 6, 7, 8, 9, 10, 11, 12, 13, 14, 15, 16] [0, 0, 3, 7, 15, 15, 15, 111, 239, 15, 15, 1039, 3599, 7695, 16383, 32767, 65535] [] z (by kernel_rfl) (by kernel_rfl) Try.mixed (by kernel_rfl) ?_
 refine wsr (.int .i64 z8737) 0 z z z (by kernel_rfl) (fun w hst => z) (wsr (.int .i64 z8244) 1 z z z (by kernel_rfl) (fun w hst => z) (wsr (.bool (decide (z8737 > z8244))) 2 z z z (by kernel_rfl) (fun w hst => z) (wsr (.bool (decide (z8737 > z8244))) 3 z z z (by kernel_rfl) (fun w hst => z) ?_)))
 refine bsplit (decide (z8737 > z8244)) (fun hc8747 => ?_) (fun hc8747 => ?_)
 {
 replace hm := bif_t hc8747 hm
 refine ws_q (v := .func (.func 48) #[] #[Pt b5463 0]) 4 [5, 6, 7, 8, 9, 10, 11, 12, 13, 14, 15, 16] (by kernel_rfl) z z (yi_run ((wanted_eq z z z (cvb hc8747)).trans z) (fun w hst => z)) (ws_q (v := v7135) 5 [6, 7, 8, 9, 10, 11, 12, 13, 14, 15, 16] (by kernel_rfl) z z (yi_run ((wanted_eq z z z (cvb hc8747)).trans z) (fun w hst => z)) (ws_q (v := .int .i64 z8737) 6 [7, 8, 9, 10, 11, 12, 13, 14, 15, 16] (by kernel_rfl) z z (yi_run ((wanted_eq z z z (cvb hc8747)).trans z) (fun w hst => z)) ?_))
 obtain ⟨x8748, hx8749, hm⟩ := bind_some hm
 obtain ⟨h8750, h8751, hi8752⟩ := geto_some hx8749
 refine ws_q (v := .pointer (some (eAddr v7135 (z8737.toNat * 1 + 0)))) 7 [8, 9, 10, 11, 12, 13, 14, 15, 16] (by kernel_rfl) z z (yi_run ((wanted_eq z z z (cvb hc8747)).trans z) (fun w hst => x_index z z underlying46 sizeOf3 hst.sv6 h8750 h8751)) (ws_q (v := .int .i64 x8748) 8 [9, 10, 11, 12, 13, 14, 15, 16] (by kernel_rfl) z z (yi_run ((wanted_eq z z z (cvb hc8747)).trans z) (fun w hst => x_load z isAgg3 (hst.ol6 hi8752 (by rintro _ rfl; rfl)))) (ws_q (v := v7135) 9 [10, 11, 12, 13, 14, 15, 16] (by kernel_rfl) z z (yi_run ((wanted_eq z z z (cvb hc8747)).trans z) (fun w hst => z)) (ws_q (v := .int .i64 z8737) 10 [11, 12, 13, 14, 15, 16] (by kernel_rfl) z z (yi_run ((wanted_eq z z z (cvb hc8747)).trans z) (fun w hst => z)) (ws_q (v := .int .i64 (i64.wrap (z8737 - (1:Int)))) 11 [12, 13, 14, 15, 16] (by kernel_rfl) z z (yi_run ((wanted_eq z z z (cvb hc8747)).trans z) (fun w hst => z)) ?_))))
 obtain ⟨x8753, hx8754, hm⟩ := bind_some hm
 obtain ⟨h8755, h8756, hi8757⟩ := geto_some hx8754
 refine ws_q (v := .pointer (some (eAddr v7135 ((i64.wrap (z8737 - (1:Int))).toNat * 1 + 0)))) 12 [13, 14, 15, 16] (by kernel_rfl) z z (yi_run ((wanted_eq z z z (cvb hc8747)).trans z) (fun w hst => x_index z z underlying46 sizeOf3 hst.sv6 h8755 h8756)) (ws_q (v := .int .i64 x8753) 13 [14, 15, 16] (by kernel_rfl) z z (yi_run ((wanted_eq z z z (cvb hc8747)).trans z) (fun w hst => x_load z isAgg3 (hst.ol6 hi8757 (by rintro _ rfl; rfl)))) ?_)
 refine ws_e1 14 (by kernel_rfl) ?_
 refine nxe [15, 16] (by kernel_rfl) z ((wanted_eq z z z (cvb hc8747)).trans z) ?_
 clear hst
 intro w hst
 obtain ⟨y8785, hq8786, hm⟩ := bind_some hm
 refine we_call z (x_callv call48 (caps := [Pt b5463 0]) z (vs := [I6 x8748, I6 x8753]) z) ?_
 refine Calls.mono (show Calls prog 48 #[I6 x8748, I6 x8753, Pt b5463 0] _ (fun e w' => ∃ (z8783 : Int), z8783 = y8785 ∧ e = .returned (.int .i64 z8783) ∧ St w0 w' I7117 [cells b5463 [Pt b7124 0], cells b7124 [v7125, v7127, v7129, v7131, v7133, v7135], ownS (tyInt .u64) v7125 z7116.up, ownS (tyInt .u64) v7127 z7116.down, ownS (tySl (tyInt .i64)) v7129 z7116.join, ownS (tySl (tyInt .i64)) v7131 z7116.meet, ownS (tyInt .i64) v7133 z7116.rank, ownS (tyInt .i64) v7135 z8738] R) from ?_) ?_
 {
 clear hm; have hm := hq8786
 refine calls_start (args := [I6 x8748, I6 x8753, Pt b5463 0]) func48 z ntmps48 (Nat.le_of_ble_eq_true z) ?_
 refine wp_seq (wrl (wv (.int .i64 (0:Int)) z z z (wl_nil (tn (wp_seq ?_)))))
 refine wp_region_St hst 18 [0, 1, 2, 3, 4, 5, 6, 7, 8, 9, 10, 11, 12, 13, 14, 15, 16, 17] [0, 1, 3, 7, 0, 31, 63, 127, 0, 256, 768, 1792, 0, 7936, 16128, 32767, 65535, 131071] [] z (by kernel_rfl) (by kernel_rfl) Try.mixed (by kernel_rfl) ?_
 refine wsr (Pt b7124 0) 0 z z z (by kernel_rfl) (fun w hst => x_load z isAgg60 (hst.bc7 z)) (wsr (Pt b7124 0) 1 z z z (by kernel_rfl) (fun w hst => z) (wsr (Pt b7124 1) 2 z z z (by kernel_rfl) (fun w hst => x_field z underlying73 z sizeOf25 z) (wsr (v7127) 3 z z z (by kernel_rfl) (fun w hst => x_load z isAgg25 (hst.bc0 z)) (wsr (.int .i64 x8748) 4 z z z (by kernel_rfl) (fun w hst => z) ?_))))
 obtain ⟨x8758, hx8759, hm⟩ := bind_some hm
 obtain ⟨h8760, h8761, hi8762⟩ := geto_some hx8759
 refine wsr (.pointer (some (eAddr v7127 (x8748.toNat * 1 + 0)))) 5 z z z (by kernel_rfl) (fun w hst => x_index z z underlying25 sizeOf22 hst.sv2 h8760 h8761) (wsr (.int .u64 x8758) 6 z z z (by kernel_rfl) (fun w hst => x_load z isAgg22 (hst.ol2 hi8762 (by rintro _ rfl; rfl))) (wsr (Pt b7124 0) 8 z z z (by kernel_rfl) (fun w hst => x_load z isAgg60 (hst.bc7 z)) (wsr (Pt b7124 0) 9 z z z (by kernel_rfl) (fun w hst => z) (wsr (Pt b7124 1) 10 z z z (by kernel_rfl) (fun w hst => x_field z underlying73 z sizeOf25 z) (wsr (v7127) 11 z z z (by kernel_rfl) (fun w hst => x_load z isAgg25 (hst.bc0 z)) (wsr (.int .i64 x8753) 12 z z z (by kernel_rfl) (fun w hst => z) ?_))))))
 obtain ⟨x8763, hx8764, hm⟩ := bind_some hm
 obtain ⟨h8765, h8766, hi8767⟩ := geto_some hx8764
 refine wsr (.pointer (some (eAddr v7127 (x8753.toNat * 1 + 0)))) 13 z z z (by kernel_rfl) (fun w hst => x_index z z underlying25 sizeOf22 hst.sv2 h8765 h8766) (wsr (.int .u64 x8763) 14 z z z (by kernel_rfl) (fun w hst => x_load z isAgg22 (hst.ol2 hi8767 (by rintro _ rfl; rfl))) ?_)
 refine ws_e1 7 (by kernel_rfl) ?_
 refine nxe [15, 16, 17] (by kernel_rfl) z z ?_
 clear hst
 intro w hst
 obtain ⟨t8768, ht8769, hm⟩ := bind_some hm
 refine wec call32 [U6 x8758] z z ?_
 refine (math_bits_OnesCount64_ref hst.to0 ht8769).mono ?_
 rintro _ w8770 ⟨rfl, hst⟩
 refine ⟨_, z, ?_⟩
 replace hst := hst.of0
 refine ws_next (pend' := [(14, U6 x8763), (13, .pointer (some (eAddr v7127 (x8753.toNat * 1 + 0)))), (12, I6 x8753), (11, v7127), (10, Pt b7124 1), (9, Pt b7124 0), (8, Pt b7124 0)]) hst (by kernel_rfl) (pkr z z (fun w hst => x_load z isAgg22 (hst.ol2 hi8767 (by rintro _ rfl; rfl))) (pkr z z (fun w hst => x_index z z underlying25 sizeOf22 hst.sv2 h8765 h8766) (pkr z z (fun w hst => z) (pkr z z (fun w hst => x_load z isAgg25 (hst.bc0 z)) (pkr z z (fun w hst => x_field z underlying73 z sizeOf25 z) (pkr z z (fun w hst => z) (pkr z z (fun w hst => x_load z isAgg60 (hst.bc7 z)) pk_nil))))))) ?_
 refine ws_e1 15 (by kernel_rfl) ?_
 refine nxe [16, 17] (by kernel_rfl) z z ?_
 clear hst
 intro w hst
 obtain ⟨t8773, ht8774, hm⟩ := bind_some hm
 refine wec call32 [U6 x8763] z z ?_
 refine (math_bits_OnesCount64_ref hst.to0 ht8774).mono ?_
 rintro _ w8775 ⟨rfl, hst⟩
 refine ⟨_, z, ?_⟩
 replace hst := hst.of0
 refine ws_next (pend' := []) hst (by kernel_rfl) pk_nil ?_
 refine ws_e1 16 (by kernel_rfl) ?_
 refine nxe [17] (by kernel_rfl) z z ?_
 clear hst
 intro w hst
 obtain ⟨t8778, ht8779, hm⟩ := bind_some hm
 refine wec call49 [I6 t8768, I6 t8773] z z ?_
 refine (cmp_Compare_int_ref hst.to0 ht8779).mono ?_
 rintro _ w8780 ⟨rfl, hst⟩
 refine ⟨_, z, ?_⟩
 replace hst := hst.of0
 refine ws_next (pend' := []) hst (by kernel_rfl) pk_nil ?_
 refine wsr (.int .i64 t8778) 17 z z z (by kernel_rfl) (fun w hst => z) ?_
 refine ws_nil ?_
 intro w hst
 refine tn (wp_ret ?_)
 refine post_ret (vs := [I6 t8778]) results48 (rvs_cons (rv_tmp z) rvs_nil) ?_
 replace hst := hst.pull6.pull6.pull6.pull6.pull6.pull6.pull6.pull7.keep8
 obtain rfl := some_inj hm
 exact ⟨t8778, z, z, hst⟩
}
 clear hst
 rintro _ w8787 ⟨z8783, rfl, rfl, hst⟩
 refine ⟨_, z, ?_⟩
 try dsimp only at hm
 refine ws_next (pend' := []) hst (by kernel_rfl) pk_nil ?_
 refine ws_q (v := .bool (decide (z8783 < (0:Int)))) 15 [16] (by kernel_rfl) z z (yi_run ((wanted_eq z z z (cvb hc8747)).trans z) (fun w hst => z)) (wsr (.bool (decide (z8783 < (0:Int)))) 16 z z z (by kernel_rfl) (fun w hst => x_pick_t hc8747 z z) ?_)
 refine ws_nil ?_
 intro w hst
 refine tn ?_
 refine bsplit (decide (z8783 < (0:Int))) (fun hc8788 => ?_) (fun hc8788 => ?_)
 {
 replace hm := bif_t hc8788 hm
 refine wp_ift (cvb hc8788) ?_
 refine wp_skip (tn (wp_seq (wp_block ?_)))
 refine wp_region_St hst 18 [0, 1, 2, 3, 4, 5, 6, 7, 8, 9, 10, 11, 12, 13, 14, 15, 16, 17] [0, 0, 0, 0, 8, 0, 0, 64, 224, 480, 0, 0, 3072, 7168, 16355, 32739, 65535, 131071] [] z (by kernel_rfl) (by kernel_rfl) Try.mixed (by kernel_rfl) ?_
 refine wsr (v7135) 0 z z z (by kernel_rfl) (fun w hst => z) (wsr (.int .i64 z8737) 1 z z z (by kernel_rfl) (fun w hst => z) (wsr (v7135) 2 z z z (by kernel_rfl) (fun w hst => z) (wsr (.int .i64 z8737) 3 z z z (by kernel_rfl) (fun w hst => z) (wsr (.int .i64 (i64.wrap (z8737 - (1:Int)))) 4 z z z (by kernel_rfl) (fun w hst => z) (wsr (v7135) 5 z z z (by kernel_rfl) (fun w hst => z) (wsr (.int .i64 z8737) 6 z z z (by kernel_rfl) (fun w hst => z) (wsr (.int .i64 (i64.wrap (z8737 - (1:Int)))) 7 z z z (by kernel_rfl) (fun w hst => z) (wsr (.pointer (some (eAddr v7135 ((i64.wrap (z8737 - (1:Int))).toNat * 1 + 0)))) 8 z z z (by kernel_rfl) (fun w hst => x_index z z underlying46 sizeOf3 hst.sv7 h8755 h8756) (wsr (.int .i64 x8753) 9 z z z (by kernel_rfl) (fun w hst => x_load z isAgg3 (hst.ol7 hi8757 (by rintro _ rfl; rfl))) (wsr (v7135) 10 z z z (by kernel_rfl) (fun w hst => z) (wsr (.int .i64 z8737) 11 z z z (by kernel_rfl) (fun w hst => z) (wsr (.pointer (some (eAddr v7135 (z8737.toNat * 1 + 0)))) 12 z z z (by kernel_rfl) (fun w hst => x_index z z underlying46 sizeOf3 hst.sv7 h8750 h8751) ?_))))))))))))
 refine wsr (.int .i64 x8748) 13 z z z (by kernel_rfl) (fun w hst => x_load z isAgg3 (hst.ol7 hi8752 (by rintro _ rfl; rfl))) (wsr (.pointer (some (eAddr v7135 (z8737.toNat * 1 + 0)))) 14 z z z (by kernel_rfl) (fun w hst => x_index z z underlying46 sizeOf3 hst.sv7 h8750 h8751) ?_)
 refine ws_e1 15 (by kernel_rfl) ?_
 refine nxe [16, 17] (by kernel_rfl) z z ?_
 clear hst
 intro w hst
 replace hst := hst.pull7
 obtain ⟨w8789, hr8790, hst⟩ := hst.own_store (P := prog) (t := 3) (y := x8753) hi8752 0 (.int .i64 x8753) sizeOf3 (Nat.le_of_ble_eq_true z) (oC z oN) (by rintro _ rfl; rfl)
 have hi8791 := set_get hi8752 x8753
 have h8792 := set_lt h8751 z8737.toNat x8753
 refine we_unit z (x_unit hr8790) ?_
 refine ws_next (pend' := [(4, I6 (i64.wrap (z8737 - (1:Int)))), (3, I6 z8737), (2, v7135)]) hst (by kernel_rfl) (pkr z z (fun w hst => z) (pkr z z (fun w hst => z) (pkr z z (fun w hst => z) pk_nil))) ?_
 obtain ⟨x8793, hx8794, hm⟩ := bind_some hm
 obtain ⟨h8795, h8796, hi8797⟩ := geto_some hx8794
 refine wsr (.pointer (some (eAddr v7135 ((i64.wrap (z8737 - (1:Int))).toNat * 1 + 0)))) 16 z z z (by kernel_rfl) (fun w hst => x_index z z underlying46 sizeOf3 hst.sv0 h8795 h8796) ?_
 refine ws_e1 17 (by kernel_rfl) ?_
 refine nxe [] (by kernel_rfl) z z ?_
 clear hst
 intro w hst
 obtain ⟨w8798, hr8799, hst⟩ := hst.own_store (P := prog) (t := 3) (y := x8748) hi8797 0 (.int .i64 x8748) sizeOf3 (Nat.le_of_ble_eq_true z) (oC z oN) (by rintro _ rfl; rfl)
 have hi8800 := set_get hi8797 x8748
 have h8801 := set_lt h8796 (i64.wrap (z8737 - (1:Int))).toNat x8748
 refine we_unit z (x_unit hr8799) ?_
 refine ws_next (pend' := []) hst (by kernel_rfl) pk_nil ?_
 refine ws_nil ?_
 intro w hst
 refine blk_n (tn (wrl ?_))
 refine wv (.int .i64 z8737) z z z (wv (.int .i64 (i64.wrap (z8737 - (1:Int)))) z z z (wv (.int .i64 (i64.wrap (z8737 - (1:Int)))) z z z (wl_nil (tn ?_))))
 replace hst := hst.pull1.pull1.pull7.pull7.pull7.pull7.pull7.pull7.keep8
 obtain rfl := some_inj hm
 exact ⟨_, Nat.lt_succ_self _, (i64.wrap (z8737 - (1:Int))), ((z8738.set z8737.toNat x8753).set (i64.wrap (z8737 - (1:Int))).toNat x8748), _, hx8745, (fu 0 v7135 z (fu 1 (.int .i64 z8244) z (fu 2 (.int .i64 z8245) z (fu 3 (.func (.func 48) #[] #[Pt b5463 0]) z (fu 8 (.int .i64 z8614) z (fu 9 (.int .i64 (i64.wrap (z8737 - (1:Int)))) z z)))))), hst⟩
}
 {
 replace hm := bif_f hc8788 hm
 refine wp_iff (cvb hc8788) ?_
 refine wp_exit (then_x (then_x ?_))
 replace hm := inr_up hm hx8745
 refine blk_x (blk_n (tn (wrl ?_)))
 refine wv (.int .i64 z8614) z z z (wv (.int .i64 (i64.wrap (z8614 + (1:Int)))) z z z (wv (.int .i64 (i64.wrap (z8614 + (1:Int)))) z z z (wl_nil (tn ?_))))
 replace hst := hst.pull7.pull7.pull7.pull7.pull7.pull7.pull7.keep8
 obtain rfl := some_inj hm
 exact ⟨_, Nat.lt_succ_self _, (i64.wrap (z8614 + (1:Int))), z8738, _, hx8622, (fu 0 v7135 z (fu 1 (.int .i64 z8244) z (fu 2 (.int .i64 z8245) z (fu 3 (.func (.func 48) #[] #[Pt b5463 0]) z (fu 8 (.int .i64 (i64.wrap (z8614 + (1:Int)))) z z))))), hst⟩
}
}
 {
 replace hm := bif_f hc8747 hm
 refine ws_q (v := undef) 4 [5, 6, 7, 8, 9, 10, 11, 12, 13, 14, 15, 16] (by kernel_rfl) z z (yi_off ((wanted_eq z z z (cvb hc8747)).trans z)) (ws_q (v := undef) 5 [6, 7, 8, 9, 10, 11, 12, 13, 14, 15, 16] (by kernel_rfl) z z (yi_off ((wanted_eq z z z (cvb hc8747)).trans z)) (ws_q (v := undef) 6 [7, 8, 9, 10, 11, 12, 13, 14, 15, 16] (by kernel_rfl) z z (yi_off ((wanted_eq z z z (cvb hc8747)).trans z)) (ws_q (v := undef) 7 [8, 9, 10, 11, 12, 13, 14, 15, 16] (by kernel_rfl) z z (yi_off ((wanted_eq z z z (cvb hc8747)).trans z)) (ws_q (v := undef) 8 [9, 10, 11, 12, 13, 14, 15, 16] (by kernel_rfl) z z (yi_off ((wanted_eq z z z (cvb hc8747)).trans z)) (ws_q (v := undef) 9 [10, 11, 12, 13, 14, 15, 16] (by kernel_rfl) z z (yi_off ((wanted_eq z z z (cvb hc8747)).trans z)) (ws_q (v := undef) 10 [11, 12, 13, 14, 15, 16] (by kernel_rfl) z z (yi_off ((wanted_eq z z z (cvb hc8747)).trans z)) (ws_q (v := undef) 11 [12, 13, 14, 15, 16] (by kernel_rfl) z z (yi_off ((wanted_eq z z z (cvb hc8747)).trans z)) (ws_q (v := undef) 12 [13, 14, 15, 16] (by kernel_rfl) z z (yi_off ((wanted_eq z z z (cvb hc8747)).trans z)) (ws_q (v := undef) 13 [14, 15, 16] (by kernel_rfl) z z (yi_off ((wanted_eq z z z (cvb hc8747)).trans z)) (ws_q (v := undef) 14 [15, 16] (by kernel_rfl) z z (yi_off ((wanted_eq z z z (cvb hc8747)).trans z)) (ws_q (v := undef) 15 [16] (by kernel_rfl) z z (yi_off ((wanted_eq z z z (cvb hc8747)).trans z)) (wsr (.bool false) 16 z z z (by kernel_rfl) (fun w hst => x_pick_f hc8747 z z) ?_))))))))))))
 refine ws_nil ?_
 intro w hst
 refine tn ?_
 refine wp_iff z ?_
 refine wp_exit (then_x (then_x ?_))
 replace hm := inr_up hm hx8745
 refine blk_x (blk_n (tn (wrl ?_)))
 refine wv (.int .i64 z8614) z z z (wv (.int .i64 (i64.wrap (z8614 + (1:Int)))) z z z (wv (.int .i64 (i64.wrap (z8614 + (1:Int)))) z z z (wl_nil (tn ?_))))
 replace hst := hst.pull7.pull7.pull7.pull7.pull7.pull7.pull7.pull7.keep8
 obtain rfl := some_inj hm
 exact ⟨_, Nat.lt_succ_self _, (i64.wrap (z8614 + (1:Int))), z8738, _, hx8622, (fu 0 v7135 z (fu 1 (.int .i64 z8244) z (fu 2 (.int .i64 z8245) z (fu 3 (.func (.func 48) #[] #[Pt b5463 0]) z (fu 8 (.int .i64 (i64.wrap (z8614 + (1:Int)))) z z))))), hst⟩
}
}
 {
 replace hm := bif_f hc8624 hm
 refine wp_iff (cvb hc8624) ?_
 refine wp_exit (then_x (then_x ?_))
 replace hm := inr_up hm hx8622
 refine blk_x ?_
 refine post_end (vs := []) results59 rvs_nil ?_
 replace hst := hst.pull6.pull6.pull6.pull6.pull6.pull6.pull6.pull7.keep8
 obtain rfl := some_inj hm
 exact ⟨z8615, z, z, hst⟩
}
}
 clear hst
 rintro _ w8806 ⟨z8802, rfl, rfl, hst⟩
 refine ⟨_, z, ?_⟩
 try dsimp only at hm
 refine wl_nil (tn (wp_seq (wrl (wv (.int .i64 z8245) z z z (wv (.int .i64 z8245) z z z (wl_nil (tn (wrl (wv (.int .i64 z8245) z z z (wv (.int .i64 (20:Int)) z z z (wv (.int .i64 (i64.wrap (z8245 + (20:Int)))) z z z (wv (.int .i64 (i64.wrap (z8245 + (20:Int)))) z z z (wl_nil (blk_n (tn ?_)))))))))))))))
 replace hst := hst.pull7.pull7.pull7.pull7.pull7.pull7.pull7.keep8
 obtain rfl := some_inj hm
 exact ⟨_, Nat.lt_succ_self _, z8245, (i64.wrap (z8245 + (20:Int))), z8802, _, hx8253, (fu 0 v7135 z (fu 1 (.int .i64 ((z7116.all).length : Int)) z (fu 2 (.func (.func 48) #[] #[Pt b5463 0]) z (fu 6 (.int .i64 (20:Int)) z (fu 7 (.int .i64 z8245) z (fu 8 (.int .i64 (i64.wrap (z8245 + (20:Int)))) z z)))))), hst⟩
}
 {
 replace hm := bif_f hc8255 hm
 refine wp_iff (cvb hc8255) ?_
 refine wp_exit (then_x (then_x ?_))
 replace hm := inr_up hm hx8253
 refine blk_x (tn ?_)
 replace hst := hst.pull5.pull5.pull5.pull5.pull5.pull5.pull7.pull7.keep8
 obtain rfl := some_inj hm
 exact ⟨z8246, z8244, _, hx8812, (fu 0 v7135 z (fu 1 (.int .i64 ((z7116.all).length : Int)) z (fu 2 (.func (.func 48) #[] #[Pt b5463 0]) z (fu 6 (.int .i64 (20:Int)) z (fu 7 (.int .i64 z8244) z z))))), hst⟩
}
}
 {
 clear hst
 rintro _ w8813 ⟨z8807, z8808, σ8809, hm, rfl, hst⟩
 dsimp only [label_New_j9] at hm
 refine wp_seq (wrl (wv (v7135) z z z (wv (.int .i64 z8808) z z z (wv (.int .i64 ((z7116.all).length : Int)) z z z (wv (.func (.func 48) #[] #[Pt b5463 0]) z z z ?_)))))
 obtain ⟨y9362, hq9363, hm⟩ := bind_some hm
 refine wl_call z z (x_callv call59 (caps := []) z (vs := [v7135, I6 z8808, I6 ((z7116.all).length : Int), .func (.func 48) #[] #[Pt b5463 0]]) z) ?_
 refine Calls.mono (show Calls prog 59 #[v7135, I6 z8808, I6 ((z7116.all).length : Int), .func (.func 48) #[] #[Pt b5463 0]] _ (fun e w' => ∃ (z9360 : (List Int)), z9360 = y9362 ∧ e = .returned (.tuple #[]) ∧ St w0 w' I7117 [cells b5463 [Pt b7124 0], cells b7124 [v7125, v7127, v7129, v7131, v7133, v7135], ownS (tyInt .u64) v7125 z7116.up, ownS (tyInt .u64) v7127 z7116.down, ownS (tySl (tyInt .i64)) v7129 z7116.join, ownS (tySl (tyInt .i64)) v7131 z7116.meet, ownS (tyInt .i64) v7133 z7116.rank, ownS (tyInt .i64) v7135 z9360] R) from ?_) ?_
 {
 clear hm; have hm := hq9363
 refine calls_start (args := [v7135, I6 z8808, I6 ((z7116.all).length : Int), .func (.func 48) #[] #[Pt b5463 0]]) func59 z ntmps59 (Nat.le_of_ble_eq_true z) ?_
 refine wp_seq (wrl (wv (.int .i64 z8808) z z z (wv (.int .i64 (i64.wrap (z8808 + (1:Int)))) z z z (wv (.int .i64 (i64.wrap (z8808 + (1:Int)))) z z z (wl_nil (tn (wp_block ?_)))))))
 obtain ⟨n9175, hm⟩ := loopO_some hm
 refine wp_loop_n (fun n a w => ∃ (z9172 : Int) (z9173 : (List Int)) (σ9174 : Nat → Value), loopN (label_New_l13 z7116 z8808) n (z9172, z9173) = some y9362 ∧ a = Fr 53 (upd (upd (upd (upd (upd σ9174 0 (v7135)) 1 (.int .i64 z8808)) 2 (.int .i64 ((z7116.all).length : Int))) 3 (.func (.func 48) #[] #[Pt b5463 0])) 8 (.int .i64 z9172)) ∧ St w0 w I7117 [ownS (tyInt .i64) v7135 z9173, cells b5463 [Pt b7124 0], cells b7124 [v7125, v7127, v7129, v7131, v7133, v7135], ownS (tyInt .u64) v7125 z7116.up, ownS (tyInt .u64) v7127 z7116.down, ownS (tySl (tyInt .i64)) v7129 z7116.join, ownS (tySl (tyInt .i64)) v7131 z7116.meet, ownS (tyInt .i64) v7133 z7116.rank] R) n9175 ⟨(i64.wrap (z8808 + (1:Int))), z8807, _, hm, (fu 0 v7135 z (fu 1 (.int .i64 z8808) z (fu 2 (.int .i64 ((z7116.all).length : Int)) z (fu 3 (.func (.func 48) #[] #[Pt b5463 0]) z (fu 8 (.int .i64 (i64.wrap (z8808 + (1:Int)))) z z))))), hst⟩ ?_
 rintro n9181 _ w9176 ⟨z9172, z9173, σ9174, hm, rfl, hst⟩
 obtain ⟨n9178, y9179, rfl, hm, hx9180⟩ := loopN_some hm
 dsimp only [label_New_l13] at hm
 refine wp_seq (wp_seq (wrl (wv (.int .i64 z9172) z z z (wv (.int .i64 ((z7116.all).length : Int)) z z z (wv (.bool (decide (z9172 < ((z7116.all).length : Int)))) z z z (wl_nil (tn ?_)))))))
 refine bsplit (decide (z9172 < ((z7116.all).length : Int))) (fun hc9182 => ?_) (fun hc9182 => ?_)
 {
 replace hm := bif_t hc9182 hm
 refine wp_ift (cvb hc9182) ?_
 refine wp_skip (tn (wp_seq (wp_block (wp_seq (wrl ?_)))))
 refine wv (.int .i64 z9172) z z z (wv (.int .i64 z9172) z z z (wl_nil (tn (wp_block ?_))))
 obtain ⟨n9298, hm⟩ := loopO_some hm
 refine wp_loop_n (fun n a w => ∃ (z9295 : Int) (z9296 : (List Int)) (σ9297 : Nat → Value), loopN (label_New_l14 z8808 z7116 z9172) n (z9295, z9296) = some y9179 ∧ a = Fr 53 (upd (upd (upd (upd (upd (upd σ9297 0 (v7135)) 1 (.int .i64 z8808)) 2 (.int .i64 ((z7116.all).length : Int))) 3 (.func (.func 48) #[] #[Pt b5463 0])) 8 (.int .i64 z9172)) 9 (.int .i64 z9295)) ∧ St w0 w I7117 [ownS (tyInt .i64) v7135 z9296, cells b5463 [Pt b7124 0], cells b7124 [v7125, v7127, v7129, v7131, v7133, v7135], ownS (tyInt .u64) v7125 z7116.up, ownS (tyInt .u64) v7127 z7116.down, ownS (tySl (tyInt .i64)) v7129 z7116.join, ownS (tySl (tyInt .i64)) v7131 z7116.meet, ownS (tyInt .i64) v7133 z7116.rank] R) n9298 ⟨z9172, z9173, _, hm, (fu 0 v7135 z (fu 1 (.int .i64 z8808) z (fu 2 (.int .i64 ((z7116.all).length : Int)) z (fu 3 (.func (.func 48) #[] #[Pt b5463 0]) z (fu 8 (.int .i64 z9172) z (fu 9 (.int .i64 z9172) z z)))))), hst⟩ ?_
 rintro n9304 _ w9299 ⟨z9295, z9296, σ9297, hm, rfl, hst⟩
 obtain ⟨n9301, y9302, rfl, hm, hx9303⟩ := loopN_some hm
 dsimp only [label_New_l14] at hm
 refine wp_seq (wp_seq ?_)
 refine wp_region_St hst 17 [0, 1, 2, 3, 4, 5, 6, 7, 8, 9, 10, 11, 12, 13, 14, 15, 16] [0, 0, 3, 7, 15, 15, 15, 111, 239, 15, 15, 1039, 3599, 7695, 16383, 32767, 65535] [] z (by kernel_rfl) (by kernel_rfl) Try.mixed (by kernel_rfl) ?_
 refine wsr (.int .i64 z9295) 0 z z z (by kernel_rfl) (fun w hst => z) (wsr (.int .i64 z8808) 1 z z z (by kernel_rfl) (fun w hst => z) (wsr (.bool (decide (z9295 > z8808))) 2 z z z (by kernel_rfl) (fun w hst => z) (wsr (.bool (decide (z9295 > z8808))) 3 z z z (by kernel_rfl) (fun w hst => z) ?_)))
 refine bsplit (decide (z9295 > z8808)) (fun hc9305 => ?_) (fun hc9305 => ?_)
 {
 replace hm := bif_t hc9305 hm
 refine ws_q (v := .func (.func 48) #[] #[Pt b5463 0]) 4 [5, 6, 7, 8, 9, 10, 11, 12, 13, 14, 15, 16] (by kernel_rfl) z z (yi_run ((wanted_eq z z z (cvb hc9305)).trans z) (fun w hst => z)) (ws_q (v := v7135) 5 [6, 7, 8, 9, 10, 11, 12, 13, 14, 15, 16] (by kernel_rfl) z z (yi_run ((wanted_eq z z z (cvb hc9305)).trans z) (fun w hst => z)) (ws_q (v := .int .i64 z9295) 6 [7, 8, 9, 10, 11, 12, 13, 14, 15, 16] (by kernel_rfl) z z (yi_run ((wanted_eq z z z (cvb hc9305)).trans z) (fun w hst => z)) ?_))
 obtain ⟨x9306, hx9307, hm⟩ := bind_some hm
 obtain ⟨h9308, h9309, hi9310⟩ := geto_some hx9307
 refine ws_q (v := .pointer (some (eAddr v7135 (z9295.toNat * 1 + 0)))) 7 [8, 9, 10, 11, 12, 13, 14, 15, 16] (by kernel_rfl) z z (yi_run ((wanted_eq z z z (cvb hc9305)).trans z) (fun w hst => x_index z z underlying46 sizeOf3 hst.sv0 h9308 h9309)) (ws_q (v := .int .i64 x9306) 8 [9, 10, 11, 12, 13, 14, 15, 16] (by kernel_rfl) z z (yi_run ((wanted_eq z z z (cvb hc9305)).trans z) (fun w hst => x_load z isAgg3 (hst.ol0 hi9310 (by rintro _ rfl; rfl)))) (ws_q (v := v7135) 9 [10, 11, 12, 13, 14, 15, 16] (by kernel_rfl) z z (yi_run ((wanted_eq z z z (cvb hc9305)).trans z) (fun w hst => z)) (ws_q (v := .int .i64 z9295) 10 [11, 12, 13, 14, 15, 16] (by kernel_rfl) z z (yi_run ((wanted_eq z z z (cvb hc9305)).trans z) (fun w hst => z)) (ws_q (v := .int .i64 (i64.wrap (z9295 - (1:Int)))) 11 [12, 13, 14, 15, 16] (by kernel_rfl) z z (yi_run ((wanted_eq z z z (cvb hc9305)).trans z) (fun w hst => z)) ?_))))
 obtain ⟨x9311, hx9312, hm⟩ := bind_some hm
 obtain ⟨h9313, h9314, hi9315⟩ := geto_some hx9312
 refine ws_q (v := .pointer (some (eAddr v7135 ((i64.wrap (z9295 - (1:Int))).toNat * 1 + 0)))) 12 [13, 14, 15, 16] (by kernel_rfl) z z (yi_run ((wanted_eq z z z (cvb hc9305)).trans z) (fun w hst => x_index z z underlying46 sizeOf3 hst.sv0 h9313 h9314)) (ws_q (v := .int .i64 x9311) 13 [14, 15, 16] (by kernel_rfl) z z (yi_run ((wanted_eq z z z (cvb hc9305)).trans z) (fun w hst => x_load z isAgg3 (hst.ol0 hi9315 (by rintro _ rfl; rfl)))) ?_)
 refine ws_e1 14 (by kernel_rfl) ?_
 refine nxe [15, 16] (by kernel_rfl) z ((wanted_eq z z z (cvb hc9305)).trans z) ?_
 clear hst
 intro w hst
 obtain ⟨y9343, hq9344, hm⟩ := bind_some hm
 refine we_call z (x_callv call48 (caps := [Pt b5463 0]) z (vs := [I6 x9306, I6 x9311]) z) ?_
 refine Calls.mono (show Calls prog 48 #[I6 x9306, I6 x9311, Pt b5463 0] _ (fun e w' => ∃ (z9341 : Int), z9341 = y9343 ∧ e = .returned (.int .i64 z9341) ∧ St w0 w' I7117 [cells b5463 [Pt b7124 0], cells b7124 [v7125, v7127, v7129, v7131, v7133, v7135], ownS (tyInt .u64) v7125 z7116.up, ownS (tyInt .u64) v7127 z7116.down, ownS (tySl (tyInt .i64)) v7129 z7116.join, ownS (tySl (tyInt .i64)) v7131 z7116.meet, ownS (tyInt .i64) v7133 z7116.rank, ownS (tyInt .i64) v7135 z9296] R) from ?_) ?_
 {
 clear hm; have hm := hq9344
 refine calls_start (args := [I6 x9306, I6 x9311, Pt b5463 0]) func48 z ntmps48 (Nat.le_of_ble_eq_true z) ?_
 refine wp_seq (wrl (wv (.int .i64 (0:Int)) z z z (wl_nil (tn (wp_seq ?_)))))
 refine wp_region_St hst 18 [0, 1, 2, 3, 4, 5, 6, 7, 8, 9, 10, 11, 12, 13, 14, 15, 16, 17] [0, 1, 3, 7, 0, 31, 63, 127, 0, 256, 768, 1792, 0, 7936, 16128, 32767, 65535, 131071] [] z (by kernel_rfl) (by kernel_rfl) Try.mixed (by kernel_rfl) ?_
 refine wsr (Pt b7124 0) 0 z z z (by kernel_rfl) (fun w hst => x_load z isAgg60 (hst.bc1 z)) (wsr (Pt b7124 0) 1 z z z (by kernel_rfl) (fun w hst => z) (wsr (Pt b7124 1) 2 z z z (by kernel_rfl) (fun w hst => x_field z underlying73 z sizeOf25 z) (wsr (v7127) 3 z z z (by kernel_rfl) (fun w hst => x_load z isAgg25 (hst.bc2 z)) (wsr (.int .i64 x9306) 4 z z z (by kernel_rfl) (fun w hst => z) ?_))))
 obtain ⟨x9316, hx9317, hm⟩ := bind_some hm
 obtain ⟨h9318, h9319, hi9320⟩ := geto_some hx9317
 refine wsr (.pointer (some (eAddr v7127 (x9306.toNat * 1 + 0)))) 5 z z z (by kernel_rfl) (fun w hst => x_index z z underlying25 sizeOf22 hst.sv4 h9318 h9319) (wsr (.int .u64 x9316) 6 z z z (by kernel_rfl) (fun w hst => x_load z isAgg22 (hst.ol4 hi9320 (by rintro _ rfl; rfl))) (wsr (Pt b7124 0) 8 z z z (by kernel_rfl) (fun w hst => x_load z isAgg60 (hst.bc1 z)) (wsr (Pt b7124 0) 9 z z z (by kernel_rfl) (fun w hst => z) (wsr (Pt b7124 1) 10 z z z (by kernel_rfl) (fun w hst => x_field z underlying73 z sizeOf25 z) (wsr (v7127) 11 z z z (by kernel_rfl) (fun w hst => x_load z isAgg25 (hst.bc2 z)) (wsr (.int .i64 x9311) 12 z z z (by kernel_rfl) (fun w hst => z) ?_))))))
 obtain ⟨x9321, hx9322, hm⟩ := bind_some hm
 obtain ⟨h9323, h9324, hi9325⟩ := geto_some hx9322
 refine wsr (.pointer (some (eAddr v7127 (x9311.toNat * 1 + 0)))) 13 z z z (by kernel_rfl) (fun w hst => x_index z z underlying25 sizeOf22 hst.sv4 h9323 h9324) (wsr (.int .u64 x9321) 14 z z z (by kernel_rfl) (fun w hst => x_load z isAgg22 (hst.ol4 hi9325 (by rintro _ rfl; rfl))) ?_)
 refine ws_e1 7 (by kernel_rfl) ?_
 refine nxe [15, 16, 17] (by kernel_rfl) z z ?_
 clear hst
 intro w hst
 obtain ⟨t9326, ht9327, hm⟩ := bind_some hm
 refine wec call32 [U6 x9316] z z ?_
 refine (math_bits_OnesCount64_ref hst.to0 ht9327).mono ?_
 rintro _ w9328 ⟨rfl, hst⟩
 refine ⟨_, z, ?_⟩
 replace hst := hst.of0
 refine ws_next (pend' := [(14, U6 x9321), (13, .pointer (some (eAddr v7127 (x9311.toNat * 1 + 0)))), (12, I6 x9311), (11, v7127), (10, Pt b7124 1), (9, Pt b7124 0), (8, Pt b7124 0)]) hst (by kernel_rfl) (pkr z z (fun w hst => x_load z isAgg22 (hst.ol4 hi9325 (by rintro _ rfl; rfl))) (pkr z z (fun w hst => x_index z z underlying25 sizeOf22 hst.sv4 h9323 h9324) (pkr z z (fun w hst => z) (pkr z z (fun w hst => x_load z isAgg25 (hst.bc2 z)) (pkr z z (fun w hst => x_field z underlying73 z sizeOf25 z) (pkr z z (fun w hst => z) (pkr z z (fun w hst => x_load z isAgg60 (hst.bc1 z)) pk_nil))))))) ?_
 refine ws_e1 15 (by kernel_rfl) ?_
 refine nxe [16, 17] (by kernel_rfl) z z ?_
 clear hst
 intro w hst
 obtain ⟨t9331, ht9332, hm⟩ := bind_some hm
 refine wec call32 [U6 x9321] z z ?_
 refine (math_bits_OnesCount64_ref hst.to0 ht9332).mono ?_
 rintro _ w9333 ⟨rfl, hst⟩
 refine ⟨_, z, ?_⟩
 replace hst := hst.of0
 refine ws_next (pend' := []) hst (by kernel_rfl) pk_nil ?_
 refine ws_e1 16 (by kernel_rfl) ?_
 refine nxe [17] (by kernel_rfl) z z ?_
 clear hst
 intro w hst
 obtain ⟨t9336, ht9337, hm⟩ := bind_some hm
 refine wec call49 [I6 t9326, I6 t9331] z z ?_
 refine (cmp_Compare_int_ref hst.to0 ht9337).mono ?_
 rintro _ w9338 ⟨rfl, hst⟩
 refine ⟨_, z, ?_⟩
 replace hst := hst.of0
 refine ws_next (pend' := []) hst (by kernel_rfl) pk_nil ?_
 refine wsr (.int .i64 t9336) 17 z z z (by kernel_rfl) (fun w hst => z) ?_
 refine ws_nil ?_
 intro w hst
 refine tn (wp_ret ?_)
 refine post_ret (vs := [I6 t9336]) results48 (rvs_cons (rv_tmp z) rvs_nil) ?_
 replace hst := hst.pull7.pull7.pull7.pull7.pull7.pull7.pull7.keep8
 obtain rfl := some_inj hm
 exact ⟨t9336, z, z, hst⟩
}
 clear hst
 rintro _ w9345 ⟨z9341, rfl, rfl, hst⟩
 refine ⟨_, z, ?_⟩
 try dsimp only at hm
 refine ws_next (pend' := []) hst (by kernel_rfl) pk_nil ?_
 refine ws_q (v := .bool (decide (z9341 < (0:Int)))) 15 [16] (by kernel_rfl) z z (yi_run ((wanted_eq z z z (cvb hc9305)).trans z) (fun w hst => z)) (wsr (.bool (decide (z9341 < (0:Int)))) 16 z z z (by kernel_rfl) (fun w hst => x_pick_t hc9305 z z) ?_)
 refine ws_nil ?_
 intro w hst
 refine tn ?_
 refine bsplit (decide (z9341 < (0:Int))) (fun hc9346 => ?_) (fun hc9346 => ?_)
 {
 replace hm := bif_t hc9346 hm
 refine wp_ift (cvb hc9346) ?_
 refine wp_skip (tn (wp_seq (wp_block ?_)))
 refine wp_region_St hst 18 [0, 1, 2, 3, 4, 5, 6, 7, 8, 9, 10, 11, 12, 13, 14, 15, 16, 17] [0, 0, 0, 0, 8, 0, 0, 64, 224, 480, 0, 0, 3072, 7168, 16355, 32739, 65535, 131071] [] z (by kernel_rfl) (by kernel_rfl) Try.mixed (by kernel_rfl) ?_
 refine wsr (v7135) 0 z z z (by kernel_rfl) (fun w hst => z) (wsr (.int .i64 z9295) 1 z z z (by kernel_rfl) (fun w hst => z) (wsr (v7135) 2 z z z (by kernel_rfl) (fun w hst => z) (wsr (.int .i64 z9295) 3 z z z (by kernel_rfl) (fun w hst => z) (wsr (.int .i64 (i64.wrap (z9295 - (1:Int)))) 4 z z z (by kernel_rfl) (fun w hst => z) (wsr (v7135) 5 z z z (by kernel_rfl) (fun w hst => z) (wsr (.int .i64 z9295) 6 z z z (by kernel_rfl) (fun w hst => z) (wsr (.int .i64 (i64.wrap (z9295 - (1:Int)))) 7 z z z (by kernel_rfl) (fun w hst => z) (wsr (.pointer (some (eAddr v7135 ((i64.wrap (z9295 - (1:Int))).toNat * 1 + 0)))) 8 z z z (by kernel_rfl) (fun w hst => x_index z z underlying46 sizeOf3 hst.sv7 h9313 h9314) (wsr (.int .i64 x9311) 9 z z z (by kernel_rfl) (fun w hst => x_load z isAgg3 (hst.ol7 hi9315 (by rintro _ rfl; rfl))) (wsr (v7135) 10 z z z (by kernel_rfl) (fun w hst => z) (wsr (.int .i64 z9295) 11 z z z (by kernel_rfl) (fun w hst => z) (wsr (.pointer (some (eAddr v7135 (z9295.toNat * 1 + 0)))) 12 z z z (by kernel_rfl) (fun w hst => x_index z z underlying46 sizeOf3 hst.sv7 h9308 h9309) ?_))))))))))))
 refine wsr (.int .i64 x9306) 13 z z z (by kernel_rfl) (fun w hst => x_load z isAgg3 (hst.ol7 hi9310 (by rintro _ rfl; rfl))) (wsr (.pointer (some (eAddr v7135 (z9295.toNat * 1 + 0)))) 14 z z z (by kernel_rfl) (fun w hst => x_index z z underlying46 sizeOf3 hst.sv7 h9308 h9309) ?_)
 refine ws_e1 15 (by kernel_rfl) ?_
 refine nxe [16, 17] (by kernel_rfl) z z ?_
 clear hst
 intro w hst
 replace hst := hst.pull7
 obtain ⟨w9347, hr9348, hst⟩ := hst.own_store (P := prog) (t := 3) (y := x9311) hi9310 0 (.int .i64 x9311) sizeOf3 (Nat.le_of_ble_eq_true z) (oC z oN) (by rintro _ rfl; rfl)
 have hi9349 := set_get hi9310 x9311
 have h9350 := set_lt h9309 z9295.toNat x9311
 refine we_unit z (x_unit hr9348) ?_
 refine ws_next (pend' := [(4, I6 (i64.wrap (z9295 - (1:Int)))), (3, I6 z9295), (2, v7135)]) hst (by kernel_rfl) (pkr z z (fun w hst => z) (pkr z z (fun w hst => z) (pkr z z (fun w hst => z) pk_nil))) ?_
 obtain ⟨x9351, hx9352, hm⟩ := bind_some hm
 obtain ⟨h9353, h9354, hi9355⟩ := geto_some hx9352
 refine wsr (.pointer (some (eAddr v7135 ((i64.wrap (z9295 - (1:Int))).toNat * 1 + 0)))) 16 z z z (by kernel_rfl) (fun w hst => x_index z z underlying46 sizeOf3 hst.sv0 h9353 h9354) ?_
 refine ws_e1 17 (by kernel_rfl) ?_
 refine nxe [] (by kernel_rfl) z z ?_
 clear hst
 intro w hst
 obtain ⟨w9356, hr9357, hst⟩ := hst.own_store (P := prog) (t := 3) (y := x9306) hi9355 0 (.int .i64 x9306) sizeOf3 (Nat.le_of_ble_eq_true z) (oC z oN) (by rintro _ rfl; rfl)
 have hi9358 := set_get hi9355 x9306
 have h9359 := set_lt h9354 (i64.wrap (z9295 - (1:Int))).toNat x9306
 refine we_unit z (x_unit hr9357) ?_
 refine ws_next (pend' := []) hst (by kernel_rfl) pk_nil ?_
 refine ws_nil ?_
 intro w hst
 refine blk_n (tn (wrl ?_))
 refine wv (.int .i64 z9295) z z z (wv (.int .i64 (i64.wrap (z9295 - (1:Int)))) z z z (wv (.int .i64 (i64.wrap (z9295 - (1:Int)))) z z z (wl_nil (tn ?_))))
 replace hst := hst.pull7.pull7.pull7.pull7.pull7.pull7.pull7.pull7.keep8
 obtain rfl := some_inj hm
 exact ⟨_, Nat.lt_succ_self _, (i64.wrap (z9295 - (1:Int))), ((z9296.set z9295.toNat x9311).set (i64.wrap (z9295 - (1:Int))).toNat x9306), _, hx9303, (fu 0 v7135 z (fu 1 (.int .i64 z8808) z (fu 2 (.int .i64 ((z7116.all).length : Int)) z (fu 3 (.func (.func 48) #[] #[Pt b5463 0]) z (fu 8 (.int .i64 z9172) z (fu 9 (.int .i64 (i64.wrap (z9295 - (1:Int)))) z z)))))), hst⟩
}
 {
 replace hm := bif_f hc9346 hm
 refine wp_iff (cvb hc9346) ?_
 refine wp_exit (then_x (then_x ?_))
 replace hm := inr_up hm hx9303
 refine blk_x (blk_n (tn (wrl ?_)))
 refine wv (.int .i64 z9172) z z z (wv (.int .i64 (i64.wrap (z9172 + (1:Int)))) z z z (wv (.int .i64 (i64.wrap (z9172 + (1:Int)))) z z z (wl_nil (tn ?_))))
 replace hst := hst.pull6.pull6.pull6.pull6.pull6.pull6.pull6.pull7.keep8
 obtain rfl := some_inj hm
 exact ⟨_, Nat.lt_succ_self _, (i64.wrap (z9172 + (1:Int))), z9296, _, hx9180, (fu 0 v7135 z (fu 1 (.int .i64 z8808) z (fu 2 (.int .i64 ((z7116.all).length : Int)) z (fu 3 (.func (.func 48) #[] #[Pt b5463 0]) z (fu 8 (.int .i64 (i64.wrap (z9172 + (1:Int)))) z z))))), hst⟩
}
}
 {
 replace hm := bif_f hc9305 hm
 refine ws_q (v := undef) 4 [5, 6, 7, 8, 9, 10, 11, 12, 13, 14, 15, 16] (by kernel_rfl) z z (yi_off ((wanted_eq z z z (cvb hc9305)).trans z)) (ws_q (v := undef) 5 [6, 7, 8, 9, 10, 11, 12, 13, 14, 15, 16] (by kernel_rfl) z z (yi_off ((wanted_eq z z z (cvb hc9305)).trans z)) (ws_q (v := undef) 6 [7, 8, 9, 10, 11, 12, 13, 14, 15, 16] (by kernel_rfl) z z (yi_off ((wanted_eq z z z (cvb hc9305)).trans z)) (ws_q (v := undef) 7 [8, 9, 10, 11, 12, 13, 14, 15, 16] (by kernel_rfl) z z (yi_off ((wanted_eq z z z (cvb hc9305)).trans z)) (ws_q (v := undef) 8 [9, 10, 11, 12, 13, 14, 15, 16] (by kernel_rfl) z z (yi_off ((wanted_eq z z z (cvb hc9305)).trans z)) (ws_q (v := undef) 9 [10, 11, 12, 13, 14, 15, 16] (by kernel_rfl) z z (yi_off ((wanted_eq z z z (cvb hc9305)).trans z)) (ws_q (v := undef) 10 [11, 12, 13, 14, 15, 16] (by kernel_rfl) z z (yi_off ((wanted_eq z z z (cvb hc9305)).trans z)) (ws_q (v := undef) 11 [12, 13, 14, 15, 16] (by kernel_rfl) z z (yi_off ((wanted_eq z z z (cvb hc9305)).trans z)) (ws_q (v := undef) 12 [13, 14, 15, 16] (by kernel_rfl) z z (yi_off ((wanted_eq z z z (cvb hc9305)).trans z)) (ws_q (v := undef) 13 [14, 15, 16] (by kernel_rfl) z z (yi_off ((wanted_eq z z z (cvb hc9305)).trans z)) (ws_q (v := undef) 14 [15, 16] (by kernel_rfl) z z (yi_off ((wanted_eq z z z (cvb hc9305)).trans z)) (ws_q (v := undef) 15 [16] (by kernel_rfl) z z (yi_off ((wanted_eq z z z (cvb hc9305)).trans z)) (wsr (.bool false) 16 z z z (by kernel_rfl) (fun w hst => x_pick_f hc9305 z z) ?_))))))))))))
 refine ws_nil ?_
 intro w hst
 refine tn ?_
 refine wp_iff z ?_
 refine wp_exit (then_x (then_x ?_))
 replace hm := inr_up hm hx9303
 refine blk_x (blk_n (tn (wrl ?_)))
 refine wv (.int .i64 z9172) z z z (wv (.int .i64 (i64.wrap (z9172 + (1:Int)))) z z z (wv (.int .i64 (i64.wrap (z9172 + (1:Int)))) z z z (wl_nil (tn ?_))))
 replace hst := hst.pull7.pull7.pull7.pull7.pull7.pull7.pull7.pull7.keep8
 obtain rfl := some_inj hm
 exact ⟨_, Nat.lt_succ_self _, (i64.wrap (z9172 + (1:Int))), z9296, _, hx9180, (fu 0 v7135 z (fu 1 (.int .i64 z8808) z (fu 2 (.int .i64 ((z7116.all).length : Int)) z (fu 3 (.func (.func 48) #[] #[Pt b5463 0]) z (fu 8 (.int .i64 (i64.wrap (z9172 + (1:Int)))) z z))))), hst⟩
}
}
 {
 replace hm := bif_f hc9182 hm
 refine wp_iff (cvb hc9182) ?_
 refine wp_exit (then_x (then_x ?_))
 replace hm := inr_up hm hx9180
 refine blk_x ?_
 refine post_end (vs := []) results59 rvs_nil ?_
 replace hst := hst.pull7.pull7.pull7.pull7.pull7.pull7.pull7.keep8
 obtain rfl := some_inj hm
 exact ⟨z9173, z, z, hst⟩
}
}
 clear hst
 rintro _ w9364 ⟨z9360, rfl, rfl, hst⟩
 refine ⟨_, z, ?_⟩
 try dsimp only at hm
 refine wl_nil (tn (wp_block ?_))
 obtain ⟨n9402, hm⟩ := loopO_some hm
 refine wp_loop_n (fun n a w => ∃ (z9400 : Int) (σ9401 : Nat → Value), loopN (label_New_l15 z7116 z9360) n z9400 = some y9428 ∧ a = Fr 63 (upd (upd (upd (upd σ9401 0 (v7135)) 1 (.int .i64 ((z7116.all).length : Int))) 2 (.func (.func 48) #[] #[Pt b5463 0])) 6 (.int .i64 z9400)) ∧ St w0 w I7117 [cells b5463 [Pt b7124 0], cells b7124 [v7125, v7127, v7129, v7131, v7133, v7135], ownS (tyInt .u64) v7125 z7116.up, ownS (tyInt .u64) v7127 z7116.down, ownS (tySl (tyInt .i64)) v7129 z7116.join, ownS (tySl (tyInt .i64)) v7131 z7116.meet, ownS (tyInt .i64) v7133 z7116.rank, ownS (tyInt .i64) v7135 z9360] R) n9402 ⟨(20:Int), _, hm, (fu 0 v7135 z (fu 1 (.int .i64 ((z7116.all).length : Int)) z (fu 2 (.func (.func 48) #[] #[Pt b5463 0]) z (fu 6 (.int .i64 (20:Int)) z z)))), hst⟩ ?_
 rintro n9408 _ w9403 ⟨z9400, σ9401, hm, rfl, hst⟩
 obtain ⟨n9405, y9406, rfl, hm, hx9407⟩ := loopN_some hm
 dsimp only [label_New_l15] at hm
 refine wp_seq (wp_seq (wrl (wv (.int .i64 z9400) z z z (wv (.int .i64 ((z7116.all).length : Int)) z z z (wv (.bool (decide (z9400 < ((z7116.all).length : Int)))) z z z (wl_nil (tn ?_)))))))
 refine bsplit (decide (z9400 < ((z7116.all).length : Int))) (fun hc9409 => ?_) (fun hc9409 => ?_)
 {
 replace hm := bif_t hc9409 hm
 refine wp_ift (cvb hc9409) ?_
 refine wp_skip (tn (wp_block (wp_seq (wrl ?_))))
 refine wv (.int .i64 z9400) z z z (wv (.int .i64 (i64.wrap ((2:Int) * z9400))) z z z (wv (.int .i64 (0:Int)) z z z (wv (.int .i64 (i64.wrap ((2:Int) * z9400))) z z z (wl_nil (tn ?_)))))
 obtain ⟨y9422, hm, hx9423⟩ := bind_some hm
 refine wp_cut (fun a w => ∃ (σ9420 : Nat → Value), (label_New_j16 z9400 z7116) () = some y9406 ∧ a = Fr 63 (upd (upd (upd (upd (upd σ9420 0 (v7135)) 1 (.int .i64 ((z7116.all).length : Int))) 2 (.func (.func 48) #[] #[Pt b5463 0])) 6 (.int .i64 z9400)) 7 (.int .i64 (0:Int))) ∧ St w0 w I7117 [ownS (tyInt .i64) v7135 z9360, cells b5463 [Pt b7124 0], cells b7124 [v7125, v7127, v7129, v7131, v7133, v7135], ownS (tyInt .u64) v7125 z7116.up, ownS (tyInt .u64) v7127 z7116.down, ownS (tySl (tyInt .i64)) v7129 z7116.join, ownS (tySl (tyInt .i64)) v7131 z7116.meet, ownS (tyInt .i64) v7133 z7116.rank] R) ?_ ?_
 {
 refine wp_block ?_
 obtain ⟨n9412, hm⟩ := loopO_some hm
 refine wp_loop_n (fun n a w => ∃ (σ9411 : Nat → Value), loopN (label_New_l17 z9400 z7116) n () = some y9422 ∧ a = Fr 63 (upd (upd (upd (upd (upd (upd σ9411 0 (v7135)) 1 (.int .i64 ((z7116.all).length : Int))) 2 (.func (.func 48) #[] #[Pt b5463 0])) 6 (.int .i64 z9400)) 7 (.int .i64 (0:Int))) 8 (.int .i64 (i64.wrap ((2:Int) * z9400)))) ∧ St w0 w I7117 [cells b5463 [Pt b7124 0], cells b7124 [v7125, v7127, v7129, v7131, v7133, v7135], ownS (tyInt .u64) v7125 z7116.up, ownS (tyInt .u64) v7127 z7116.down, ownS (tySl (tyInt .i64)) v7129 z7116.join, ownS (tySl (tyInt .i64)) v7131 z7116.meet, ownS (tyInt .i64) v7133 z7116.rank, ownS (tyInt .i64) v7135 z9360] R) n9412 ⟨_, hm, (fu 0 v7135 z (fu 1 (.int .i64 ((z7116.all).length : Int)) z (fu 2 (.func (.func 48) #[] #[Pt b5463 0]) z (fu 6 (.int .i64 z9400) z (fu 7 (.int .i64 (0:Int)) z (fu 8 (.int .i64 (i64.wrap ((2:Int) * z9400))) z z)))))), hst⟩ ?_
 rintro n9418 _ w9413 ⟨σ9411, hm, rfl, hst⟩
 obtain ⟨n9415, y9416, rfl, hm, hx9417⟩ := loopN_some hm
 dsimp only [label_New_l17] at hm
 refine wp_seq (wp_seq (wrl (wv (.int .i64 (i64.wrap ((2:Int) * z9400))) z z z (wv (.int .i64 ((z7116.all).length : Int)) z z z (wv (.bool (decide ((i64.wrap ((2:Int) * z9400)) ≤ ((z7116.all).length : Int)))) z z z (wl_nil (tn ?_)))))))
 refine bsplit (decide ((i64.wrap ((2:Int) * z9400)) ≤ ((z7116.all).length : Int))) (fun hc9419 => ?_) (fun hc9419 => ?_)
 {
 replace hm := bif_t hc9419 hm
 refine wp_ift (cvb hc9419) ?_
 refine wp_skip (tn (wp_block (wp_seq (wrl ?_))))
 refine wv (v7135) z z z (wv (.int .i64 (0:Int)) z z z (wv (.int .i64 (0:Int)) z z z (wv (.int .i64 z9400) z z z (wv (.int .i64 (i64.wrap ((0:Int) + z9400))) z z z (wv (.int .i64 (i64.wrap ((2:Int) * z9400))) z z z (wv (.func (.func 48) #[] #[Pt b5463 0]) z z z ?_))))))
 cases hm
}
 {
 replace hm := bif_f hc9419 hm
 refine wp_iff (cvb hc9419) ?_
 refine wp_exit (then_x (then_x ?_))
 replace hm := inr_up hm hx9417
 refine blk_x (tn ?_)
 replace hst := hst.pull6.pull6.pull6.pull6.pull6.pull6.pull6.pull7.keep8
 obtain rfl := some_inj hm
 exact ⟨_, hx9423, (fu 0 v7135 z (fu 1 (.int .i64 ((z7116.all).length : Int)) z (fu 2 (.func (.func 48) #[] #[Pt b5463 0]) z (fu 6 (.int .i64 z9400) z (fu 7 (.int .i64 (0:Int)) z z))))), hst⟩
}
}
 {
 clear hst
 rintro _ w9424 ⟨σ9420, hm, rfl, hst⟩
 dsimp only [label_New_j16] at hm
 refine wp_seq (wp_seq (wrl (wv (.int .i64 (0:Int)) z z z (wv (.int .i64 z9400) z z z (wv (.int .i64 (i64.wrap ((0:Int) + z9400))) z z z (wv (.int .i64 (i64.wrap ((0:Int) + z9400))) z z z (wl_nil (tn (wp_seq (wrl (wv (.int .i64 (i64.wrap ((0:Int) + z9400))) z z z (wv (.int .i64 ((z7116.all).length : Int)) z z z (wv (.bool (decide ((i64.wrap ((0:Int) + z9400)) < ((z7116.all).length : Int)))) z z z (wl_nil (tn ?_)))))))))))))))
 refine bsplit (decide ((i64.wrap ((0:Int) + z9400)) < ((z7116.all).length : Int))) (fun hc9425 => ?_) (fun hc9425 => ?_)
 {
 replace hm := bif_t hc9425 hm
 refine wp_ift (cvb hc9425) ?_
 refine wrl (wv (v7135) z z z (wv (.int .i64 (0:Int)) z z z (wv (.int .i64 (i64.wrap ((0:Int) + z9400))) z z z (wv (.int .i64 ((z7116.all).length : Int)) z z z (wv (.func (.func 48) #[] #[Pt b5463 0]) z z z ?_)))))
 cases hm
}
 {
 replace hm := bif_f hc9425 hm
 refine wp_iff (cvb hc9425) ?_
 refine wp_skip (tn (wrl ?_))
 refine wv (.int .i64 z9400) z z z (wv (.int .i64 (i64.wrap (z9400 * (2:Int)))) z z z (wv (.int .i64 (i64.wrap (z9400 * (2:Int)))) z z z (wl_nil (blk_n (tn ?_)))))
 replace hst := hst.pull7.pull7.pull7.pull7.pull7.pull7.pull7.keep8
 obtain rfl := some_inj hm
 exact ⟨_, Nat.lt_succ_self _, (i64.wrap (z9400 * (2:Int))), _, hx9407, (fu 0 v7135 z (fu 1 (.int .i64 ((z7116.all).length : Int)) z (fu 2 (.func (.func 48) #[] #[Pt b5463 0]) z (fu 6 (.int .i64 (i64.wrap (z9400 * (2:Int)))) z z)))), hst⟩
}
}
}
 {
 replace hm := bif_f hc9409 hm
 refine wp_iff (cvb hc9409) ?_
 refine wp_exit (then_x (then_x ?_))
 replace hm := inr_up hm hx9407
 refine blk_x ?_
 refine post_end (vs := []) results56 rvs_nil ?_
 replace hst := hst.pull7.pull7.pull7.pull7.pull7.pull7.pull7.pull7.keep8
 obtain rfl := some_inj hm
 exact ⟨z9360, z, z, hst⟩
}
}
}
 clear hst
 rintro _ w9430 ⟨z9426, rfl, rfl, hst⟩
 refine ⟨_, z, ?_⟩
 try dsimp only at hm
 refine wl_nil ?_
 refine post_end (vs := []) results47 rvs_nil ?_
 replace hst := hst.pull7.pull7.pull7.pull7.pull7.pull7.pull7.pull7.keep8
 obtain rfl := some_inj hm
 exact ⟨z9426, z, z, hst⟩
}
 clear hst
 rintro _ w9435 ⟨z9431, rfl, rfl, hst⟩
 refine ⟨_, z, ?_⟩
 try dsimp only at hm
 refine wl_nil (tn (wp_seq (wp_seq (wrl (wv (Pt b7124 0) z z (x_load z isAgg60 (hst.bc0 z)) (wv (Pt b7124 0) z z z (wv (Pt b7124 5) z z (x_field z underlying73 z sizeOf46 z) (wv (v7135) z z (x_load z isAgg46 (hst.bc1 z)) (wv (.int .i64 ((z9431).length : Int)) z z (x_len z underlying46 hst.sv7) (wv (.int .i64 (0:Int)) z z z (wl_nil (tn (wp_block ?_)))))))))))))
 obtain ⟨n9471, hm⟩ := loopO_some hm
 refine wp_loop_n (fun n a w => ∃ (z9468 : Int) (z9469 : (List Int)) (σ9470 : Nat → Value), loopN (label_New_l18 z9431 z7116) n (z9468, z9469) = some r ∧ a = Fr 192 (upd (upd (upd (upd σ9470 5 (Pt b5463 0)) 176 (v7135)) 177 (.int .i64 ((z9431).length : Int))) 178 (.int .i64 z9468)) ∧ St w0 w I7117 [cells b5463 [Pt b7124 0], cells b7124 [v7125, v7127, v7129, v7131, v7133, v7135], ownS (tyInt .u64) v7125 z7116.up, ownS (tyInt .u64) v7127 z7116.down, ownS (tySl (tyInt .i64)) v7129 z7116.join, ownS (tySl (tyInt .i64)) v7131 z7116.meet, ownS (tyInt .i64) v7133 z9469, ownS (tyInt .i64) v7135 z9431] R) n9471 ⟨(0:Int), z7116.rank, _, hm, (fu 5 (Pt b5463 0) z (fu 176 v7135 z (fu 177 (.int .i64 ((z9431).length : Int)) z (fu 178 (.int .i64 (0:Int)) z z)))), hst⟩ ?_
 rintro n9477 _ w9472 ⟨z9468, z9469, σ9470, hm, rfl, hst⟩
 obtain ⟨n9474, y9475, rfl, hm, hx9476⟩ := loopN_some hm
 dsimp only [label_New_l18] at hm
 refine wp_seq (wrl (wv (.bool (decide (z9468 < ((z9431).length : Int)))) z z z (wl_nil (tn (wp_seq ?_)))))
 refine bsplit (decide (z9468 < ((z9431).length : Int))) (fun hc9478 => ?_) (fun hc9478 => ?_)
 {
 replace hm := bif_t hc9478 hm
 refine wp_ift (cvb hc9478) ?_
 refine wp_skip (tn (wp_seq (wp_block (wp_seq (wrl ?_)))))
 refine wv (.int .i64 z9468) z z z ?_
 obtain ⟨x9479, hx9480, hm⟩ := bind_some hm
 obtain ⟨h9481, h9482, hi9483⟩ := geto_some hx9480
 refine wv (.pointer (some (eAddr v7135 (z9468.toNat * 1 + 0)))) z z (x_index z z underlying46 sizeOf3 hst.sv7 h9481 h9482) (wv (.int .i64 x9479) z z (x_load z isAgg3 (hst.ol7 hi9483 (by rintro _ rfl; rfl))) (wv (.int .i64 z9468) z z z (wv (.int .i64 x9479) z z z (wl_nil (tn (wrl (wv (Pt b7124 0) z z (x_load z isAgg60 (hst.bc0 z)) (wv (Pt b7124 0) z z z (wv (Pt b7124 4) z z (x_field z underlying73 z sizeOf46 z) (wv (v7133) z z (x_load z isAgg46 (hst.bc1 z)) (wv (.int .i64 x9479) z z z (wv (.int .i64 z9468) z z z ?_))))))))))))
 obtain ⟨x9484, hx9485, hm⟩ := bind_some hm
 obtain ⟨h9486, h9487, hi9488⟩ := geto_some hx9485
 refine wv (.pointer (some (eAddr v7133 (x9479.toNat * 1 + 0)))) z z (x_index z z underlying46 sizeOf3 hst.sv6 h9486 h9487) ?_
 replace hst := hst.pull6
 obtain ⟨w9489, hr9490, hst⟩ := hst.own_store (P := prog) (t := 3) (y := z9468) hi9488 0 (.int .i64 z9468) sizeOf3 (Nat.le_of_ble_eq_true z) (oC z oN) (by rintro _ rfl; rfl)
 have hi9491 := set_get hi9488 z9468
 have h9492 := set_lt h9487 x9479.toNat z9468
 refine wl_unit z z (x_unit hr9490) ?_
 refine wl_nil (blk_n (tn (wrl (wv (.int .i64 (i64.wrap (z9468 + (1:Int)))) z z z (wv (.int .i64 (i64.wrap (z9468 + (1:Int)))) z z z (wl_nil (tn ?_)))))))
 replace hst := hst.pull7.pull1.pull7.pull7.pull7.pull7.pull7.pull7.keep8
 obtain rfl := some_inj hm
 exact ⟨_, Nat.lt_succ_self _, (i64.wrap (z9468 + (1:Int))), (z9469.set x9479.toNat z9468), _, hx9476, (fu 5 (Pt b5463 0) z (fu 176 v7135 z (fu 177 (.int .i64 ((z9431).length : Int)) z (fu 178 (.int .i64 (i64.wrap (z9468 + (1:Int)))) z z)))), hst⟩
}
 {
 replace hm := bif_f hc9478 hm
 refine wp_iff (cvb hc9478) ?_
 refine wp_exit (then_x (then_x ?_))
 replace hm := inr_up hm hx9476
 refine blk_x (tn (wp_seq (wrl ?_)))
 refine wv (Pt b7124 0) z z (x_load z isAgg60 (hst.bc0 z)) (wv (Pt b7124 0) z z z (wv (.int .i64 (0:Int)) z z z (wl_nil (tn (wp_ret ?_)))))
 replace hst := hst.pull7.pull7.pull7.pull7.pull7.pull7.pull7
 replace hst := at_label_Lattice_close (pv := Pt b7124 0) (x := ({ up := z7116.up, down := z7116.down, join := z7116.join, meet := z7116.meet, rank := z9469, all := z9431 } : label_Lattice)) hst z
 replace hst := objO_some hst
 obtain rfl := some_inj hm
 refine post_ret (vs := [Pt b7124 0, Zi]) results34 (rvs_cons (rv_tmp z) (rvs_cons (rv_tmp z) rvs_nil)) ?_
 exact ⟨_, Pt b7124 0, z, hI0, hst.keep1⟩
}
}
}
}
}
}
}
}

end Go.Proofs.Ytkjkbfaaigmmcaa
