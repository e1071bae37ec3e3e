/- The Go functions refine their models, part 1. -/
import Derived.Test.YtkjkbfaaigmmcaaConfigChecksR0
set_option linter.unusedVariables false
set_option linter.unusedSimpArgs false
set_option maxRecDepth 100000
set_option maxHeartbeats 4000000
namespace Go.Proofs.Ytkjkbfaaigmmcaa
open Go Go.V
open _root_.Go.Proofs.Try IntKind
attribute [local irreducible] wpList Code.wp wpQuiet Calls bodyPost Oper.wp wpS Nx PendOK YieldsIn
theorem label_New_ref {w0 w : World} {I : HL} {R : SP} {a0 : (List Int)} {r0_0 : Value} (f0_0 : Rd (tyInt .u64) R I r0_0 a0) (hst : St w0 w I [] R) {r : (Option label_Lattice × Int)} (hm : label_New a0 = some r) :
  Calls prog 34 #[r0_0] w fun e w' => ∃ (I' : HL) (q0 : Value), e = .returned (.tuple #[q0, I6 r.2]) ∧ I.le I' ∧ St w0 w' I' [objO at_label_Lattice q0 r.1] R := by {
 unfold label_New at hm
 refine calls_start (args := [r0_0]) func34 z ntmps34 (Nat.le_of_ble_eq_true z) ?_
 have hI0 := HL.le.refl I
 refine wp_seq (wrl (wv (.pointer none) z z z (wv (.int .i64 (0:Int)) z z z (wl_nil (tn (wp_seq (wrl (wv (r0_0) z z z (wv (.int .i64 ((a0).length : Int)) z z (x_len z underlying25 (rd_sliceV f0_0)) (wv (.int .i64 ((a0).length : Int)) z z z (wl_nil (tn (wp_seq (wp_seq (wrl (wv (.int .i64 ((a0).length : Int)) z z z (wv (.bool (decide (((a0).length : Int) < (1:Int)))) z z z (wv (.bool (decide (((a0).length : Int) < (1:Int)))) z z z ?_))))))))))))))))))
 refine bsplit (decide (((a0).length : Int) < (1:Int))) (fun hc4788 => ?_) (fun hc4788 => ?_)
 {
 replace hm := bif_t hc4788 hm
 refine wo hc4788 z z z z z z (wo hc4788 z z z z z z (wv (.bool true) z z (x_pick_t hc4788 z z) (wl_nil (tn ?_))))
 refine wp_ift z ?_
 refine wp_seq (wrl (wv (.pointer none) z z z (wv (.int .i64 (1:Int)) z z z (wl_nil (tn (wp_ret (then_r ?_)))))))
 replace hst := hst.objO_nil at_label_Lattice
 obtain rfl := some_inj hm
 refine post_ret (vs := [.pointer none, I6 (1:Int)]) results34 (rvs_cons (rv_tmp z) (rvs_cons (rv_tmp z) rvs_nil)) ?_
 exact ⟨_, .pointer none, z, hI0, hst.keep1⟩
}
 {
 replace hm := bif_f hc4788 hm
 refine wv (.int .i64 ((a0).length : Int)) ((wanted_eq z z z (cvb hc4788)).trans z) z z (wv (.bool (decide (((a0).length : Int) > (16:Int)))) ((wanted_eq z z z (cvb hc4788)).trans z) z z (wv (.bool (decide (((a0).length : Int) > (16:Int)))) z z (x_pick_f hc4788 z z) (wl_nil (tn ?_))))
 refine bsplit (decide (((a0).length : Int) > (16:Int))) (fun hc4790 => ?_) (fun hc4790 => ?_)
 {
 replace hm := bif_t hc4790 hm
 refine wp_ift (cvb hc4790) ?_
 refine wp_seq (wrl (wv (.pointer none) z z z (wv (.int .i64 (1:Int)) z z z (wl_nil (tn (wp_ret (then_r ?_)))))))
 replace hst := hst.objO_nil at_label_Lattice
 obtain rfl := some_inj hm
 refine post_ret (vs := [.pointer none, I6 (1:Int)]) results34 (rvs_cons (rv_tmp z) (rvs_cons (rv_tmp z) rvs_nil)) ?_
 exact ⟨_, .pointer none, z, hI0, hst.keep1⟩
}
 {
 replace hm := bif_f hc4790 hm
 refine wp_iff (cvb hc4790) ?_
 refine wp_skip (tn (wp_seq ?_))
 obtain ⟨y5475, hm, hx5476⟩ := bind_some hm
 refine wp_mid (fun a w => ∃ (z5472 : label_Lattice) (b5469 : Nat) (v5471 : Value) (σ5473 : Nat → Value), (label_New_j0 a0) z5472 = some r ∧ a = Fr 192 (upd (upd (upd σ5473 0 (r0_0)) 4 (.int .i64 ((a0).length : Int))) 5 (Pt b5469 0)) ∧ St w0 w I [cells b5469 [v5471], at_label_Lattice v5471 z5472] R) ?_ ?_
 {
 refine wp_region_St hst 10 [0, 1, 2, 3, 4, 5, 6, 7, 8, 9] [0, 1, 0, 4, 0, 16, 63, 127, 0, 511] [] z (by kernel_rfl) (by kernel_rfl) Try.mixed (by kernel_rfl) ?_
 refine wsr (r0_0) 0 z z z (by kernel_rfl) (fun w hst => z) (wsr (.int .i64 ((a0).length : Int)) 2 z z z (by kernel_rfl) (fun w hst => z) (wsr (.int .i64 ((a0).length : Int)) 4 z z z (by kernel_rfl) (fun w hst => z) ?_))
 obtain ⟨t4792, ht4793, hm⟩ := bind_some hm
 obtain ⟨hg4794, hm⟩ := gd_some hm
 obtain ⟨hg4795, hm⟩ := gd_some hm
 refine ws_e4 1 3 5 8 (by kernel_rfl) ?_ ?_ ?_ ?_
 {
 refine nxe [3, 5, 6, 7, 8, 9] (by kernel_rfl) z z ?_
 clear hst
 intro w hst
 refine wec call44 [r0_0] z z ?_
 refine (slices_Clone_uint64_uint64_ref (f0_0.mono (rd_weak _)) hst.to0 ht4793).mono ?_
 rintro _ w4796 ⟨v4799, rfl, hst⟩
 refine ⟨_, z, ?_⟩
 replace hst := hst.of1
 refine ws_next (pend' := [(4, I6 ((a0).length : Int)), (2, I6 ((a0).length : Int))]) hst (by kernel_rfl) (pkr z z (fun w hst => z) (pkr z z (fun w hst => z) pk_nil)) ?_
 refine ws_e3 3 5 8 (by kernel_rfl) ?_ ?_ ?_
 {
 refine nxe [5, 6, 7, 8, 9] (by kernel_rfl) z z ?_
 clear hst
 intro w hst
 obtain ⟨v4801, w4802, hr4803, hst⟩ := run_mk (k := .i64) (k' := .i64) (zm := (0:Int)) elem_25 hst hg4794 (by decide) z
 refine we_run (v := v4801) (w' := w4802) z (x_make z z hr4803) ?_
 refine ws_next (pend' := [(4, I6 ((a0).length : Int))]) hst (by kernel_rfl) (pkr z z (fun w hst => z) pk_nil) ?_
 refine ws_e2 5 8 (by kernel_rfl) ?_ ?_
 {
 refine nxe [6, 7, 8, 9] (by kernel_rfl) z z ?_
 clear hst
 intro w hst
 obtain ⟨v4805, w4806, hr4807, hst⟩ := run_mk (k := .i64) (k' := .i64) (zm := (0:Int)) elem_46 hst hg4795 (by decide) z
 refine we_run (v := v4805) (w' := w4806) z (x_make z z hr4807) ?_
 refine ws_next (pend' := []) hst (by kernel_rfl) pk_nil ?_
 refine wsr (.agg #[v4799, v4801, Zs, Zs, v4805, Zs]) 6 rfl rfl rfl (by kernel_rfl) (fun w hst => by obtain ⟨_, _, hv_, _⟩ := hst.sv0; rw [hv_]; obtain ⟨_, _, hv_, _⟩ := hst.sv1; rw [hv_]; obtain ⟨_, _, hv_, _⟩ := hst.sv2; rw [hv_]; kernel_rfl) ?_
 refine ws_e2 7 8 (by kernel_rfl) ?_ ?_
 {
 refine nxe [8, 9] (by kernel_rfl) z z ?_
 clear hst
 intro w hst
 obtain ⟨b4815, w4816, ew4817, eb4818, hst⟩ := hst.box [v4799, v4801, Zs, Zs, v4805, Zs] 73
 refine we_run (v := Pt b4815 0) (w' := w4816) z (x_al (by kernel_rfl) ew4817 eb4818) ?_
 refine ws_next (pend' := []) hst (by kernel_rfl) pk_nil ?_
 refine ws_e1 8 (by kernel_rfl) ?_
 refine nxe [9] (by kernel_rfl) z z ?_
 clear hst
 intro w hst
 obtain ⟨b4820, w4821, ew4822, eb4823, hst⟩ := hst.box [.pointer none] 60
 refine we_run (v := Pt b4820 0) (w' := w4821) z (x_al (by kernel_rfl) ew4822 eb4823) ?_
 refine ws_next (pend' := []) hst (by kernel_rfl) pk_nil ?_
 refine ws_e1 9 (by kernel_rfl) ?_
 refine nxe [] (by kernel_rfl) z z ?_
 clear hst
 intro w hst
 obtain ⟨w4825, hr4826, hst⟩ := hst.by_ [Pt b4815 0] 0 (Pt b4815 0) sizeOf60 z (oC z oN) (by kernel_rfl)
 refine we_unit z (x_unit hr4826) ?_
 refine ws_next (pend' := []) hst (by kernel_rfl) pk_nil ?_
 refine ws_nil ?_
 intro w hst
 refine ⟨z, ?_⟩
 replace hst := hst.own_nil (tySl (tyInt .i64))
 replace hst := hst.own_nil (tySl (tyInt .i64))
 replace hst := hst.own_nil (tyInt .i64)
 replace hst := hst.pull5.pull2.pull3.pull6.pull7.pull7
 replace hst := at_label_Lattice_close (pv := Pt b4815 0) (x := ({ up := t4792, down := (List.replicate (Int.toNat ((a0).length : Int)) (0:Int)), join := [], meet := [], rank := (List.replicate (Int.toNat ((a0).length : Int)) (0:Int)), all := [] } : label_Lattice)) hst z
 replace hst := hst.pull1.keep2
 obtain rfl := some_inj hm
 exact ⟨({ up := t4792, down := (List.replicate (Int.toNat ((a0).length : Int)) (0:Int)), join := [], meet := [], rank := (List.replicate (Int.toNat ((a0).length : Int)) (0:Int)), all := [] } : label_Lattice), b4820, (Pt b4815 0), _, hx5476, (fu 0 r0_0 z (fu 4 (.int .i64 ((a0).length : Int)) z (fu 5 (Pt b4820 0) z z))), hst⟩
}
 {
 refine nxe [7, 9] (by kernel_rfl) z z ?_
 clear hst
 intro w hst
 obtain ⟨b4827, w4828, ew4829, eb4830, hst⟩ := hst.box [.pointer none] 60
 refine we_run (v := Pt b4827 0) (w' := w4828) z (x_al (by kernel_rfl) ew4829 eb4830) ?_
 refine ws_next (pend' := [(6, .agg #[v4799, v4801, Zs, Zs, v4805, Zs])]) hst (by kernel_rfl) (pkr rfl rfl (fun w hst => by obtain ⟨_, _, hv_, _⟩ := hst.sv1; rw [hv_]; obtain ⟨_, _, hv_, _⟩ := hst.sv2; rw [hv_]; obtain ⟨_, _, hv_, _⟩ := hst.sv3; rw [hv_]; kernel_rfl) pk_nil) ?_
 refine ws_e1 7 (by kernel_rfl) ?_
 refine nxe [9] (by kernel_rfl) z z ?_
 clear hst
 intro w hst
 obtain ⟨b4832, w4833, ew4834, eb4835, hst⟩ := hst.box [v4799, v4801, Zs, Zs, v4805, Zs] 73
 refine we_run (v := Pt b4832 0) (w' := w4833) z (x_al (by kernel_rfl) ew4834 eb4835) ?_
 refine ws_next (pend' := []) hst (by kernel_rfl) pk_nil ?_
 refine ws_e1 9 (by kernel_rfl) ?_
 refine nxe [] (by kernel_rfl) z z ?_
 clear hst
 intro w hst
 replace hst := hst.pull1
 obtain ⟨w4837, hr4838, hst⟩ := hst.by_ [Pt b4832 0] 0 (Pt b4832 0) sizeOf60 z (oC z oN) (by kernel_rfl)
 refine we_unit z (x_unit hr4838) ?_
 refine ws_next (pend' := []) hst (by kernel_rfl) pk_nil ?_
 refine ws_nil ?_
 intro w hst
 refine ⟨z, ?_⟩
 replace hst := hst.own_nil (tySl (tyInt .i64))
 replace hst := hst.own_nil (tySl (tyInt .i64))
 replace hst := hst.own_nil (tyInt .i64)
 replace hst := hst.pull5.pull2.pull3.pull6.pull7.pull7
 replace hst := at_label_Lattice_close (pv := Pt b4832 0) (x := ({ up := t4792, down := (List.replicate (Int.toNat ((a0).length : Int)) (0:Int)), join := [], meet := [], rank := (List.replicate (Int.toNat ((a0).length : Int)) (0:Int)), all := [] } : label_Lattice)) hst z
 replace hst := hst.pull1.keep2
 obtain rfl := some_inj hm
 exact ⟨({ up := t4792, down := (List.replicate (Int.toNat ((a0).length : Int)) (0:Int)), join := [], meet := [], rank := (List.replicate (Int.toNat ((a0).length : Int)) (0:Int)), all := [] } : label_Lattice), b4827, (Pt b4832 0), _, hx5476, (fu 0 r0_0 z (fu 4 (.int .i64 ((a0).length : Int)) z (fu 5 (Pt b4827 0) z z))), hst⟩
}
}
 {
 refine nxe [5, 6, 7, 9] (by kernel_rfl) z z ?_
 clear hst
 intro w hst
 obtain ⟨b4839, w4840, ew4841, eb4842, hst⟩ := hst.box [.pointer none] 60
 refine we_run (v := Pt b4839 0) (w' := w4840) z (x_al (by kernel_rfl) ew4841 eb4842) ?_
 refine ws_next (pend' := [(4, I6 ((a0).length : Int))]) hst (by kernel_rfl) (pkr z z (fun w hst => z) pk_nil) ?_
 refine ws_e1 5 (by kernel_rfl) ?_
 refine nxe [6, 7, 9] (by kernel_rfl) z z ?_
 clear hst
 intro w hst
 obtain ⟨v4844, w4845, hr4846, hst⟩ := run_mk (k := .i64) (k' := .i64) (zm := (0:Int)) elem_46 hst hg4795 (by decide) z
 refine we_run (v := v4844) (w' := w4845) z (x_make z z hr4846) ?_
 refine ws_next (pend' := []) hst (by kernel_rfl) pk_nil ?_
 refine wsr (.agg #[v4799, v4801, Zs, Zs, v4844, Zs]) 6 rfl rfl rfl (by kernel_rfl) (fun w hst => by obtain ⟨_, _, hv_, _⟩ := hst.sv0; rw [hv_]; obtain ⟨_, _, hv_, _⟩ := hst.sv2; rw [hv_]; obtain ⟨_, _, hv_, _⟩ := hst.sv3; rw [hv_]; kernel_rfl) ?_
 refine ws_e1 7 (by kernel_rfl) ?_
 refine nxe [9] (by kernel_rfl) z z ?_
 clear hst
 intro w hst
 obtain ⟨b4854, w4855, ew4856, eb4857, hst⟩ := hst.box [v4799, v4801, Zs, Zs, v4844, Zs] 73
 refine we_run (v := Pt b4854 0) (w' := w4855) z (x_al (by kernel_rfl) ew4856 eb4857) ?_
 refine ws_next (pend' := []) hst (by kernel_rfl) pk_nil ?_
 refine ws_e1 9 (by kernel_rfl) ?_
 refine nxe [] (by kernel_rfl) z z ?_
 clear hst
 intro w hst
 replace hst := hst.pull2
 obtain ⟨w4859, hr4860, hst⟩ := hst.by_ [Pt b4854 0] 0 (Pt b4854 0) sizeOf60 z (oC z oN) (by kernel_rfl)
 refine we_unit z (x_unit hr4860) ?_
 refine ws_next (pend' := []) hst (by kernel_rfl) pk_nil ?_
 refine ws_nil ?_
 intro w hst
 refine ⟨z, ?_⟩
 replace hst := hst.own_nil (tySl (tyInt .i64))
 replace hst := hst.own_nil (tySl (tyInt .i64))
 replace hst := hst.own_nil (tyInt .i64)
 replace hst := hst.pull5.pull2.pull3.pull6.pull7.pull7
 replace hst := at_label_Lattice_close (pv := Pt b4854 0) (x := ({ up := t4792, down := (List.replicate (Int.toNat ((a0).length : Int)) (0:Int)), join := [], meet := [], rank := (List.replicate (Int.toNat ((a0).length : Int)) (0:Int)), all := [] } : label_Lattice)) hst z
 replace hst := hst.pull1.keep2
 obtain rfl := some_inj hm
 exact ⟨({ up := t4792, down := (List.replicate (Int.toNat ((a0).length : Int)) (0:Int)), join := [], meet := [], rank := (List.replicate (Int.toNat ((a0).length : Int)) (0:Int)), all := [] } : label_Lattice), b4839, (Pt b4854 0), _, hx5476, (fu 0 r0_0 z (fu 4 (.int .i64 ((a0).length : Int)) z (fu 5 (Pt b4839 0) z z))), hst⟩
}
}
 {
 refine nxe [3, 6, 7, 8, 9] (by kernel_rfl) z z ?_
 clear hst
 intro w hst
 obtain ⟨v4861, w4862, hr4863, hst⟩ := run_mk (k := .i64) (k' := .i64) (zm := (0:Int)) elem_46 hst hg4795 (by decide) z
 refine we_run (v := v4861) (w' := w4862) z (x_make z z hr4863) ?_
 refine ws_next (pend' := [(2, I6 ((a0).length : Int))]) hst (by kernel_rfl) (pkr z z (fun w hst => z) pk_nil) ?_
 refine ws_e2 3 8 (by kernel_rfl) ?_ ?_
 {
 refine nxe [6, 7, 8, 9] (by kernel_rfl) z z ?_
 clear hst
 intro w hst
 obtain ⟨v4865, w4866, hr4867, hst⟩ := run_mk (k := .i64) (k' := .i64) (zm := (0:Int)) elem_25 hst hg4794 (by decide) z
 refine we_run (v := v4865) (w' := w4866) z (x_make z z hr4867) ?_
 refine ws_next (pend' := []) hst (by kernel_rfl) pk_nil ?_
 refine wsr (.agg #[v4799, v4865, Zs, Zs, v4861, Zs]) 6 rfl rfl rfl (by kernel_rfl) (fun w hst => by obtain ⟨_, _, hv_, _⟩ := hst.sv1; rw [hv_]; obtain ⟨_, _, hv_, _⟩ := hst.sv0; rw [hv_]; obtain ⟨_, _, hv_, _⟩ := hst.sv2; rw [hv_]; kernel_rfl) ?_
 refine ws_e2 7 8 (by kernel_rfl) ?_ ?_
 {
 refine nxe [8, 9] (by kernel_rfl) z z ?_
 clear hst
 intro w hst
 obtain ⟨b4875, w4876, ew4877, eb4878, hst⟩ := hst.box [v4799, v4865, Zs, Zs, v4861, Zs] 73
 refine we_run (v := Pt b4875 0) (w' := w4876) z (x_al (by kernel_rfl) ew4877 eb4878) ?_
 refine ws_next (pend' := []) hst (by kernel_rfl) pk_nil ?_
 refine ws_e1 8 (by kernel_rfl) ?_
 refine nxe [9] (by kernel_rfl) z z ?_
 clear hst
 intro w hst
 obtain ⟨b4880, w4881, ew4882, eb4883, hst⟩ := hst.box [.pointer none] 60
 refine we_run (v := Pt b4880 0) (w' := w4881) z (x_al (by kernel_rfl) ew4882 eb4883) ?_
 refine ws_next (pend' := []) hst (by kernel_rfl) pk_nil ?_
 refine ws_e1 9 (by kernel_rfl) ?_
 refine nxe [] (by kernel_rfl) z z ?_
 clear hst
 intro w hst
 obtain ⟨w4885, hr4886, hst⟩ := hst.by_ [Pt b4875 0] 0 (Pt b4875 0) sizeOf60 z (oC z oN) (by kernel_rfl)
 refine we_unit z (x_unit hr4886) ?_
 refine ws_next (pend' := []) hst (by kernel_rfl) pk_nil ?_
 refine ws_nil ?_
 intro w hst
 refine ⟨z, ?_⟩
 replace hst := hst.own_nil (tySl (tyInt .i64))
 replace hst := hst.own_nil (tySl (tyInt .i64))
 replace hst := hst.own_nil (tyInt .i64)
 replace hst := hst.pull6.pull2.pull3.pull6.pull7.pull7
 replace hst := at_label_Lattice_close (pv := Pt b4875 0) (x := ({ up := t4792, down := (List.replicate (Int.toNat ((a0).length : Int)) (0:Int)), join := [], meet := [], rank := (List.replicate (Int.toNat ((a0).length : Int)) (0:Int)), all := [] } : label_Lattice)) hst z
 replace hst := hst.pull1.keep2
 obtain rfl := some_inj hm
 exact ⟨({ up := t4792, down := (List.replicate (Int.toNat ((a0).length : Int)) (0:Int)), join := [], meet := [], rank := (List.replicate (Int.toNat ((a0).length : Int)) (0:Int)), all := [] } : label_Lattice), b4880, (Pt b4875 0), _, hx5476, (fu 0 r0_0 z (fu 4 (.int .i64 ((a0).length : Int)) z (fu 5 (Pt b4880 0) z z))), hst⟩
}
 {
 refine nxe [7, 9] (by kernel_rfl) z z ?_
 clear hst
 intro w hst
 obtain ⟨b4887, w4888, ew4889, eb4890, hst⟩ := hst.box [.pointer none] 60
 refine we_run (v := Pt b4887 0) (w' := w4888) z (x_al (by kernel_rfl) ew4889 eb4890) ?_
 refine ws_next (pend' := [(6, .agg #[v4799, v4865, Zs, Zs, v4861, Zs])]) hst (by kernel_rfl) (pkr rfl rfl (fun w hst => by obtain ⟨_, _, hv_, _⟩ := hst.sv2; rw [hv_]; obtain ⟨_, _, hv_, _⟩ := hst.sv1; rw [hv_]; obtain ⟨_, _, hv_, _⟩ := hst.sv3; rw [hv_]; kernel_rfl) pk_nil) ?_
 refine ws_e1 7 (by kernel_rfl) ?_
 refine nxe [9] (by kernel_rfl) z z ?_
 clear hst
 intro w hst
 obtain ⟨b4892, w4893, ew4894, eb4895, hst⟩ := hst.box [v4799, v4865, Zs, Zs, v4861, Zs] 73
 refine we_run (v := Pt b4892 0) (w' := w4893) z (x_al (by kernel_rfl) ew4894 eb4895) ?_
 refine ws_next (pend' := []) hst (by kernel_rfl) pk_nil ?_
 refine ws_e1 9 (by kernel_rfl) ?_
 refine nxe [] (by kernel_rfl) z z ?_
 clear hst
 intro w hst
 replace hst := hst.pull1
 obtain ⟨w4897, hr4898, hst⟩ := hst.by_ [Pt b4892 0] 0 (Pt b4892 0) sizeOf60 z (oC z oN) (by kernel_rfl)
 refine we_unit z (x_unit hr4898) ?_
 refine ws_next (pend' := []) hst (by kernel_rfl) pk_nil ?_
 refine ws_nil ?_
 intro w hst
 refine ⟨z, ?_⟩
 replace hst := hst.own_nil (tySl (tyInt .i64))
 replace hst := hst.own_nil (tySl (tyInt .i64))
 replace hst := hst.own_nil (tyInt .i64)
 replace hst := hst.pull6.pull2.pull3.pull6.pull7.pull7
 replace hst := at_label_Lattice_close (pv := Pt b4892 0) (x := ({ up := t4792, down := (List.replicate (Int.toNat ((a0).length : Int)) (0:Int)), join := [], meet := [], rank := (List.replicate (Int.toNat ((a0).length : Int)) (0:Int)), all := [] } : label_Lattice)) hst z
 replace hst := hst.pull1.keep2
 obtain rfl := some_inj hm
 exact ⟨({ up := t4792, down := (List.replicate (Int.toNat ((a0).length : Int)) (0:Int)), join := [], meet := [], rank := (List.replicate (Int.toNat ((a0).length : Int)) (0:Int)), all := [] } : label_Lattice), b4887, (Pt b4892 0), _, hx5476, (fu 0 r0_0 z (fu 4 (.int .i64 ((a0).length : Int)) z (fu 5 (Pt b4887 0) z z))), hst⟩
}
}
 {
 refine nxe [3, 6, 7, 9] (by kernel_rfl) z z ?_
 clear hst
 intro w hst
 obtain ⟨b4899, w4900, ew4901, eb4902, hst⟩ := hst.box [.pointer none] 60
 refine we_run (v := Pt b4899 0) (w' := w4900) z (x_al (by kernel_rfl) ew4901 eb4902) ?_
 refine ws_next (pend' := [(2, I6 ((a0).length : Int))]) hst (by kernel_rfl) (pkr z z (fun w hst => z) pk_nil) ?_
 refine ws_e1 3 (by kernel_rfl) ?_
 refine nxe [6, 7, 9] (by kernel_rfl) z z ?_
 clear hst
 intro w hst
 obtain ⟨v4904, w4905, hr4906, hst⟩ := run_mk (k := .i64) (k' := .i64) (zm := (0:Int)) elem_25 hst hg4794 (by decide) z
 refine we_run (v := v4904) (w' := w4905) z (x_make z z hr4906) ?_
 refine ws_next (pend' := []) hst (by kernel_rfl) pk_nil ?_
 refine wsr (.agg #[v4799, v4904, Zs, Zs, v4861, Zs]) 6 rfl rfl rfl (by kernel_rfl) (fun w hst => by obtain ⟨_, _, hv_, _⟩ := hst.sv2; rw [hv_]; obtain ⟨_, _, hv_, _⟩ := hst.sv0; rw [hv_]; obtain ⟨_, _, hv_, _⟩ := hst.sv3; rw [hv_]; kernel_rfl) ?_
 refine ws_e1 7 (by kernel_rfl) ?_
 refine nxe [9] (by kernel_rfl) z z ?_
 clear hst
 intro w hst
 obtain ⟨b4914, w4915, ew4916, eb4917, hst⟩ := hst.box [v4799, v4904, Zs, Zs, v4861, Zs] 73
 refine we_run (v := Pt b4914 0) (w' := w4915) z (x_al (by kernel_rfl) ew4916 eb4917) ?_
 refine ws_next (pend' := []) hst (by kernel_rfl) pk_nil ?_
 refine ws_e1 9 (by kernel_rfl) ?_
 refine nxe [] (by kernel_rfl) z z ?_
 clear hst
 intro w hst
 replace hst := hst.pull2
 obtain ⟨w4919, hr4920, hst⟩ := hst.by_ [Pt b4914 0] 0 (Pt b4914 0) sizeOf60 z (oC z oN) (by kernel_rfl)
 refine we_unit z (x_unit hr4920) ?_
 refine ws_next (pend' := []) hst (by kernel_rfl) pk_nil ?_
 refine ws_nil ?_
 intro w hst
 refine ⟨z, ?_⟩
 replace hst := hst.own_nil (tySl (tyInt .i64))
 replace hst := hst.own_nil (tySl (tyInt .i64))
 replace hst := hst.own_nil (tyInt .i64)
 replace hst := hst.pull6.pull2.pull3.pull6.pull7.pull7
 replace hst := at_label_Lattice_close (pv := Pt b4914 0) (x := ({ up := t4792, down := (List.replicate (Int.toNat ((a0).length : Int)) (0:Int)), join := [], meet := [], rank := (List.replicate (Int.toNat ((a0).length : Int)) (0:Int)), all := [] } : label_Lattice)) hst z
 replace hst := hst.pull1.keep2
 obtain rfl := some_inj hm
 exact ⟨({ up := t4792, down := (List.replicate (Int.toNat ((a0).length : Int)) (0:Int)), join := [], meet := [], rank := (List.replicate (Int.toNat ((a0).length : Int)) (0:Int)), all := [] } : label_Lattice), b4899, (Pt b4914 0), _, hx5476, (fu 0 r0_0 z (fu 4 (.int .i64 ((a0).length : Int)) z (fu 5 (Pt b4899 0) z z))), hst⟩
}
}
 {
 refine nxe [3, 5, 6, 7, 9] (by kernel_rfl) z z ?_
 clear hst
 intro w hst
 obtain ⟨b4921, w4922, ew4923, eb4924, hst⟩ := hst.box [.pointer none] 60
 refine we_run (v := Pt b4921 0) (w' := w4922) z (x_al (by kernel_rfl) ew4923 eb4924) ?_
 refine ws_next (pend' := [(4, I6 ((a0).length : Int)), (2, I6 ((a0).length : Int))]) hst (by kernel_rfl) (pkr z z (fun w hst => z) (pkr z z (fun w hst => z) pk_nil)) ?_
 refine ws_e2 3 5 (by kernel_rfl) ?_ ?_
 {
 refine nxe [5, 6, 7, 9] (by kernel_rfl) z z ?_
 clear hst
 intro w hst
 obtain ⟨v4926, w4927, hr4928, hst⟩ := run_mk (k := .i64) (k' := .i64) (zm := (0:Int)) elem_25 hst hg4794 (by decide) z
 refine we_run (v := v4926) (w' := w4927) z (x_make z z hr4928) ?_
 refine ws_next (pend' := [(4, I6 ((a0).length : Int))]) hst (by kernel_rfl) (pkr z z (fun w hst => z) pk_nil) ?_
 refine ws_e1 5 (by kernel_rfl) ?_
 refine nxe [6, 7, 9] (by kernel_rfl) z z ?_
 clear hst
 intro w hst
 obtain ⟨v4930, w4931, hr4932, hst⟩ := run_mk (k := .i64) (k' := .i64) (zm := (0:Int)) elem_46 hst hg4795 (by decide) z
 refine we_run (v := v4930) (w' := w4931) z (x_make z z hr4932) ?_
 refine ws_next (pend' := []) hst (by kernel_rfl) pk_nil ?_
 refine wsr (.agg #[v4799, v4926, Zs, Zs, v4930, Zs]) 6 rfl rfl rfl (by kernel_rfl) (fun w hst => by obtain ⟨_, _, hv_, _⟩ := hst.sv0; rw [hv_]; obtain ⟨_, _, hv_, _⟩ := hst.sv1; rw [hv_]; obtain ⟨_, _, hv_, _⟩ := hst.sv3; rw [hv_]; kernel_rfl) ?_
 refine ws_e1 7 (by kernel_rfl) ?_
 refine nxe [9] (by kernel_rfl) z z ?_
 clear hst
 intro w hst
 obtain ⟨b4940, w4941, ew4942, eb4943, hst⟩ := hst.box [v4799, v4926, Zs, Zs, v4930, Zs] 73
 refine we_run (v := Pt b4940 0) (w' := w4941) z (x_al (by kernel_rfl) ew4942 eb4943) ?_
 refine ws_next (pend' := []) hst (by kernel_rfl) pk_nil ?_
 refine ws_e1 9 (by kernel_rfl) ?_
 refine nxe [] (by kernel_rfl) z z ?_
 clear hst
 intro w hst
 replace hst := hst.pull3
 obtain ⟨w4945, hr4946, hst⟩ := hst.by_ [Pt b4940 0] 0 (Pt b4940 0) sizeOf60 z (oC z oN) (by kernel_rfl)
 refine we_unit z (x_unit hr4946) ?_
 refine ws_next (pend' := []) hst (by kernel_rfl) pk_nil ?_
 refine ws_nil ?_
 intro w hst
 refine ⟨z, ?_⟩
 replace hst := hst.own_nil (tySl (tyInt .i64))
 replace hst := hst.own_nil (tySl (tyInt .i64))
 replace hst := hst.own_nil (tyInt .i64)
 replace hst := hst.pull5.pull2.pull3.pull6.pull7.pull7
 replace hst := at_label_Lattice_close (pv := Pt b4940 0) (x := ({ up := t4792, down := (List.replicate (Int.toNat ((a0).length : Int)) (0:Int)), join := [], meet := [], rank := (List.replicate (Int.toNat ((a0).length : Int)) (0:Int)), all := [] } : label_Lattice)) hst z
 replace hst := hst.pull1.keep2
 obtain rfl := some_inj hm
 exact ⟨({ up := t4792, down := (List.replicate (Int.toNat ((a0).length : Int)) (0:Int)), join := [], meet := [], rank := (List.replicate (Int.toNat ((a0).length : Int)) (0:Int)), all := [] } : label_Lattice), b4921, (Pt b4940 0), _, hx5476, (fu 0 r0_0 z (fu 4 (.int .i64 ((a0).length : Int)) z (fu 5 (Pt b4921 0) z z))), hst⟩
}
 {
 refine nxe [3, 6, 7, 9] (by kernel_rfl) z z ?_
 clear hst
 intro w hst
 obtain ⟨v4947, w4948, hr4949, hst⟩ := run_mk (k := .i64) (k' := .i64) (zm := (0:Int)) elem_46 hst hg4795 (by decide) z
 refine we_run (v := v4947) (w' := w4948) z (x_make z z hr4949) ?_
 refine ws_next (pend' := [(2, I6 ((a0).length : Int))]) hst (by kernel_rfl) (pkr z z (fun w hst => z) pk_nil) ?_
 refine ws_e1 3 (by kernel_rfl) ?_
 refine nxe [6, 7, 9] (by kernel_rfl) z z ?_
 clear hst
 intro w hst
 obtain ⟨v4951, w4952, hr4953, hst⟩ := run_mk (k := .i64) (k' := .i64) (zm := (0:Int)) elem_25 hst hg4794 (by decide) z
 refine we_run (v := v4951) (w' := w4952) z (x_make z z hr4953) ?_
 refine ws_next (pend' := []) hst (by kernel_rfl) pk_nil ?_
 refine wsr (.agg #[v4799, v4951, Zs, Zs, v4947, Zs]) 6 rfl rfl rfl (by kernel_rfl) (fun w hst => by obtain ⟨_, _, hv_, _⟩ := hst.sv1; rw [hv_]; obtain ⟨_, _, hv_, _⟩ := hst.sv0; rw [hv_]; obtain ⟨_, _, hv_, _⟩ := hst.sv3; rw [hv_]; kernel_rfl) ?_
 refine ws_e1 7 (by kernel_rfl) ?_
 refine nxe [9] (by kernel_rfl) z z ?_
 clear hst
 intro w hst
 obtain ⟨b4961, w4962, ew4963, eb4964, hst⟩ := hst.box [v4799, v4951, Zs, Zs, v4947, Zs] 73
 refine we_run (v := Pt b4961 0) (w' := w4962) z (x_al (by kernel_rfl) ew4963 eb4964) ?_
 refine ws_next (pend' := []) hst (by kernel_rfl) pk_nil ?_
 refine ws_e1 9 (by kernel_rfl) ?_
 refine nxe [] (by kernel_rfl) z z ?_
 clear hst
 intro w hst
 replace hst := hst.pull3
 obtain ⟨w4966, hr4967, hst⟩ := hst.by_ [Pt b4961 0] 0 (Pt b4961 0) sizeOf60 z (oC z oN) (by kernel_rfl)
 refine we_unit z (x_unit hr4967) ?_
 refine ws_next (pend' := []) hst (by kernel_rfl) pk_nil ?_
 refine ws_nil ?_
 intro w hst
 refine ⟨z, ?_⟩
 replace hst := hst.own_nil (tySl (tyInt .i64))
 replace hst := hst.own_nil (tySl (tyInt .i64))
 replace hst := hst.own_nil (tyInt .i64)
 replace hst := hst.pull6.pull2.pull3.pull6.pull7.pull7
 replace hst := at_label_Lattice_close (pv := Pt b4961 0) (x := ({ up := t4792, down := (List.replicate (Int.toNat ((a0).length : Int)) (0:Int)), join := [], meet := [], rank := (List.replicate (Int.toNat ((a0).length : Int)) (0:Int)), all := [] } : label_Lattice)) hst z
 replace hst := hst.pull1.keep2
 obtain rfl := some_inj hm
 exact ⟨({ up := t4792, down := (List.replicate (Int.toNat ((a0).length : Int)) (0:Int)), join := [], meet := [], rank := (List.replicate (Int.toNat ((a0).length : Int)) (0:Int)), all := [] } : label_Lattice), b4921, (Pt b4961 0), _, hx5476, (fu 0 r0_0 z (fu 4 (.int .i64 ((a0).length : Int)) z (fu 5 (Pt b4921 0) z z))), hst⟩
}
}
}
 {
 refine nxe [1, 5, 6, 7, 8, 9] (by kernel_rfl) z z ?_
 clear hst
 intro w hst
 obtain ⟨v4968, w4969, hr4970, hst⟩ := run_mk (k := .i64) (k' := .i64) (zm := (0:Int)) elem_25 hst hg4794 (by decide) z
 refine we_run (v := v4968) (w' := w4969) z (x_make z z hr4970) ?_
 refine ws_next (pend' := [(4, I6 ((a0).length : Int)), (0, r0_0)]) hst (by kernel_rfl) (pkr z z (fun w hst => z) (pkr z z (fun w hst => z) pk_nil)) ?_
 refine ws_e3 1 5 8 (by kernel_rfl) ?_ ?_ ?_
 {
 refine nxe [5, 6, 7, 8, 9] (by kernel_rfl) z z ?_
 clear hst
 intro w hst
 refine wec call44 [r0_0] z z ?_
 refine (slices_Clone_uint64_uint64_ref (f0_0.mono (rd_weak _)) hst.to0 ht4793).mono ?_
 rintro _ w4972 ⟨v4975, rfl, hst⟩
 refine ⟨_, z, ?_⟩
 replace hst := hst.of1
 refine ws_next (pend' := [(4, I6 ((a0).length : Int))]) hst (by kernel_rfl) (pkr z z (fun w hst => z) pk_nil) ?_
 refine ws_e2 5 8 (by kernel_rfl) ?_ ?_
 {
 refine nxe [6, 7, 8, 9] (by kernel_rfl) z z ?_
 clear hst
 intro w hst
 obtain ⟨v4977, w4978, hr4979, hst⟩ := run_mk (k := .i64) (k' := .i64) (zm := (0:Int)) elem_46 hst hg4795 (by decide) z
 refine we_run (v := v4977) (w' := w4978) z (x_make z z hr4979) ?_
 refine ws_next (pend' := []) hst (by kernel_rfl) pk_nil ?_
 refine wsr (.agg #[v4975, v4968, Zs, Zs, v4977, Zs]) 6 rfl rfl rfl (by kernel_rfl) (fun w hst => by obtain ⟨_, _, hv_, _⟩ := hst.sv0; rw [hv_]; obtain ⟨_, _, hv_, _⟩ := hst.sv2; rw [hv_]; obtain ⟨_, _, hv_, _⟩ := hst.sv1; rw [hv_]; kernel_rfl) ?_
 refine ws_e2 7 8 (by kernel_rfl) ?_ ?_
 {
 refine nxe [8, 9] (by kernel_rfl) z z ?_
 clear hst
 intro w hst
 obtain ⟨b4987, w4988, ew4989, eb4990, hst⟩ := hst.box [v4975, v4968, Zs, Zs, v4977, Zs] 73
 refine we_run (v := Pt b4987 0) (w' := w4988) z (x_al (by kernel_rfl) ew4989 eb4990) ?_
 refine ws_next (pend' := []) hst (by kernel_rfl) pk_nil ?_
 refine ws_e1 8 (by kernel_rfl) ?_
 refine nxe [9] (by kernel_rfl) z z ?_
 clear hst
 intro w hst
 obtain ⟨b4992, w4993, ew4994, eb4995, hst⟩ := hst.box [.pointer none] 60
 refine we_run (v := Pt b4992 0) (w' := w4993) z (x_al (by kernel_rfl) ew4994 eb4995) ?_
 refine ws_next (pend' := []) hst (by kernel_rfl) pk_nil ?_
 refine ws_e1 9 (by kernel_rfl) ?_
 refine nxe [] (by kernel_rfl) z z ?_
 clear hst
 intro w hst
 obtain ⟨w4997, hr4998, hst⟩ := hst.by_ [Pt b4987 0] 0 (Pt b4987 0) sizeOf60 z (oC z oN) (by kernel_rfl)
 refine we_unit z (x_unit hr4998) ?_
 refine ws_next (pend' := []) hst (by kernel_rfl) pk_nil ?_
 refine ws_nil ?_
 intro w hst
 refine ⟨z, ?_⟩
 replace hst := hst.own_nil (tySl (tyInt .i64))
 replace hst := hst.own_nil (tySl (tyInt .i64))
 replace hst := hst.own_nil (tyInt .i64)
 replace hst := hst.pull5.pull2.pull3.pull7.pull7.pull7
 replace hst := at_label_Lattice_close (pv := Pt b4987 0) (x := ({ up := t4792, down := (List.replicate (Int.toNat ((a0).length : Int)) (0:Int)), join := [], meet := [], rank := (List.replicate (Int.toNat ((a0).length : Int)) (0:Int)), all := [] } : label_Lattice)) hst z
 replace hst := hst.pull1.keep2
 obtain rfl := some_inj hm
 exact ⟨({ up := t4792, down := (List.replicate (Int.toNat ((a0).length : Int)) (0:Int)), join := [], meet := [], rank := (List.replicate (Int.toNat ((a0).length : Int)) (0:Int)), all := [] } : label_Lattice), b4992, (Pt b4987 0), _, hx5476, (fu 0 r0_0 z (fu 4 (.int .i64 ((a0).length : Int)) z (fu 5 (Pt b4992 0) z z))), hst⟩
}
 {
 refine nxe [7, 9] (by kernel_rfl) z z ?_
 clear hst
 intro w hst
 obtain ⟨b4999, w5000, ew5001, eb5002, hst⟩ := hst.box [.pointer none] 60
 refine we_run (v := Pt b4999 0) (w' := w5000) z (x_al (by kernel_rfl) ew5001 eb5002) ?_
 refine ws_next (pend' := [(6, .agg #[v4975, v4968, Zs, Zs, v4977, Zs])]) hst (by kernel_rfl) (pkr rfl rfl (fun w hst => by obtain ⟨_, _, hv_, _⟩ := hst.sv1; rw [hv_]; obtain ⟨_, _, hv_, _⟩ := hst.sv3; rw [hv_]; obtain ⟨_, _, hv_, _⟩ := hst.sv2; rw [hv_]; kernel_rfl) pk_nil) ?_
 refine ws_e1 7 (by kernel_rfl) ?_
 refine nxe [9] (by kernel_rfl) z z ?_
 clear hst
 intro w hst
 obtain ⟨b5004, w5005, ew5006, eb5007, hst⟩ := hst.box [v4975, v4968, Zs, Zs, v4977, Zs] 73
 refine we_run (v := Pt b5004 0) (w' := w5005) z (x_al (by kernel_rfl) ew5006 eb5007) ?_
 refine ws_next (pend' := []) hst (by kernel_rfl) pk_nil ?_
 refine ws_e1 9 (by kernel_rfl) ?_
 refine nxe [] (by kernel_rfl) z z ?_
 clear hst
 intro w hst
 replace hst := hst.pull1
 obtain ⟨w5009, hr5010, hst⟩ := hst.by_ [Pt b5004 0] 0 (Pt b5004 0) sizeOf60 z (oC z oN) (by kernel_rfl)
 refine we_unit z (x_unit hr5010) ?_
 refine ws_next (pend' := []) hst (by kernel_rfl) pk_nil ?_
 refine ws_nil ?_
 intro w hst
 refine ⟨z, ?_⟩
 replace hst := hst.own_nil (tySl (tyInt .i64))
 replace hst := hst.own_nil (tySl (tyInt .i64))
 replace hst := hst.own_nil (tyInt .i64)
 replace hst := hst.pull5.pull2.pull3.pull7.pull7.pull7
 replace hst := at_label_Lattice_close (pv := Pt b5004 0) (x := ({ up := t4792, down := (List.replicate (Int.toNat ((a0).length : Int)) (0:Int)), join := [], meet := [], rank := (List.replicate (Int.toNat ((a0).length : Int)) (0:Int)), all := [] } : label_Lattice)) hst z
 replace hst := hst.pull1.keep2
 obtain rfl := some_inj hm
 exact ⟨({ up := t4792, down := (List.replicate (Int.toNat ((a0).length : Int)) (0:Int)), join := [], meet := [], rank := (List.replicate (Int.toNat ((a0).length : Int)) (0:Int)), all := [] } : label_Lattice), b4999, (Pt b5004 0), _, hx5476, (fu 0 r0_0 z (fu 4 (.int .i64 ((a0).length : Int)) z (fu 5 (Pt b4999 0) z z))), hst⟩
}
}
 {
 refine nxe [5, 6, 7, 9] (by kernel_rfl) z z ?_
 clear hst
 intro w hst
 obtain ⟨b5011, w5012, ew5013, eb5014, hst⟩ := hst.box [.pointer none] 60
 refine we_run (v := Pt b5011 0) (w' := w5012) z (x_al (by kernel_rfl) ew5013 eb5014) ?_
 refine ws_next (pend' := [(4, I6 ((a0).length : Int))]) hst (by kernel_rfl) (pkr z z (fun w hst => z) pk_nil) ?_
 refine ws_e1 5 (by kernel_rfl) ?_
 refine nxe [6, 7, 9] (by kernel_rfl) z z ?_
 clear hst
 intro w hst
 obtain ⟨v5016, w5017, hr5018, hst⟩ := run_mk (k := .i64) (k' := .i64) (zm := (0:Int)) elem_46 hst hg4795 (by decide) z
 refine we_run (v := v5016) (w' := w5017) z (x_make z z hr5018) ?_
 refine ws_next (pend' := []) hst (by kernel_rfl) pk_nil ?_
 refine wsr (.agg #[v4975, v4968, Zs, Zs, v5016, Zs]) 6 rfl rfl rfl (by kernel_rfl) (fun w hst => by obtain ⟨_, _, hv_, _⟩ := hst.sv0; rw [hv_]; obtain ⟨_, _, hv_, _⟩ := hst.sv3; rw [hv_]; obtain ⟨_, _, hv_, _⟩ := hst.sv2; rw [hv_]; kernel_rfl) ?_
 refine ws_e1 7 (by kernel_rfl) ?_
 refine nxe [9] (by kernel_rfl) z z ?_
 clear hst
 intro w hst
 obtain ⟨b5026, w5027, ew5028, eb5029, hst⟩ := hst.box [v4975, v4968, Zs, Zs, v5016, Zs] 73
 refine we_run (v := Pt b5026 0) (w' := w5027) z (x_al (by kernel_rfl) ew5028 eb5029) ?_
 refine ws_next (pend' := []) hst (by kernel_rfl) pk_nil ?_
 refine ws_e1 9 (by kernel_rfl) ?_
 refine nxe [] (by kernel_rfl) z z ?_
 clear hst
 intro w hst
 replace hst := hst.pull2
 obtain ⟨w5031, hr5032, hst⟩ := hst.by_ [Pt b5026 0] 0 (Pt b5026 0) sizeOf60 z (oC z oN) (by kernel_rfl)
 refine we_unit z (x_unit hr5032) ?_
 refine ws_next (pend' := []) hst (by kernel_rfl) pk_nil ?_
 refine ws_nil ?_
 intro w hst
 refine ⟨z, ?_⟩
 replace hst := hst.own_nil (tySl (tyInt .i64))
 replace hst := hst.own_nil (tySl (tyInt .i64))
 replace hst := hst.own_nil (tyInt .i64)
 replace hst := hst.pull5.pull2.pull3.pull7.pull7.pull7
 replace hst := at_label_Lattice_close (pv := Pt b5026 0) (x := ({ up := t4792, down := (List.replicate (Int.toNat ((a0).length : Int)) (0:Int)), join := [], meet := [], rank := (List.replicate (Int.toNat ((a0).length : Int)) (0:Int)), all := [] } : label_Lattice)) hst z
 replace hst := hst.pull1.keep2
 obtain rfl := some_inj hm
 exact ⟨({ up := t4792, down := (List.replicate (Int.toNat ((a0).length : Int)) (0:Int)), join := [], meet := [], rank := (List.replicate (Int.toNat ((a0).length : Int)) (0:Int)), all := [] } : label_Lattice), b5011, (Pt b5026 0), _, hx5476, (fu 0 r0_0 z (fu 4 (.int .i64 ((a0).length : Int)) z (fu 5 (Pt b5011 0) z z))), hst⟩
}
}
 {
 refine nxe [1, 6, 7, 8, 9] (by kernel_rfl) z z ?_
 clear hst
 intro w hst
 obtain ⟨v5033, w5034, hr5035, hst⟩ := run_mk (k := .i64) (k' := .i64) (zm := (0:Int)) elem_46 hst hg4795 (by decide) z
 refine we_run (v := v5033) (w' := w5034) z (x_make z z hr5035) ?_
 refine ws_next (pend' := [(0, r0_0)]) hst (by kernel_rfl) (pkr z z (fun w hst => z) pk_nil) ?_
 refine ws_e2 1 8 (by kernel_rfl) ?_ ?_
 {
 refine nxe [6, 7, 8, 9] (by kernel_rfl) z z ?_
 clear hst
 intro w hst
 refine wec call44 [r0_0] z z ?_
 refine (slices_Clone_uint64_uint64_ref (f0_0.mono (rd_weak _)) hst.to0 ht4793).mono ?_
 rintro _ w5037 ⟨v5040, rfl, hst⟩
 refine ⟨_, z, ?_⟩
 replace hst := hst.of1
 refine ws_next (pend' := []) hst (by kernel_rfl) pk_nil ?_
 refine wsr (.agg #[v5040, v4968, Zs, Zs, v5033, Zs]) 6 rfl rfl rfl (by kernel_rfl) (fun w hst => by obtain ⟨_, _, hv_, _⟩ := hst.sv1; rw [hv_]; obtain ⟨_, _, hv_, _⟩ := hst.sv2; rw [hv_]; obtain ⟨_, _, hv_, _⟩ := hst.sv0; rw [hv_]; kernel_rfl) ?_
 refine ws_e2 7 8 (by kernel_rfl) ?_ ?_
 {
 refine nxe [8, 9] (by kernel_rfl) z z ?_
 clear hst
 intro w hst
 obtain ⟨b5048, w5049, ew5050, eb5051, hst⟩ := hst.box [v5040, v4968, Zs, Zs, v5033, Zs] 73
 refine we_run (v := Pt b5048 0) (w' := w5049) z (x_al (by kernel_rfl) ew5050 eb5051) ?_
 refine ws_next (pend' := []) hst (by kernel_rfl) pk_nil ?_
 refine ws_e1 8 (by kernel_rfl) ?_
 refine nxe [9] (by kernel_rfl) z z ?_
 clear hst
 intro w hst
 obtain ⟨b5053, w5054, ew5055, eb5056, hst⟩ := hst.box [.pointer none] 60
 refine we_run (v := Pt b5053 0) (w' := w5054) z (x_al (by kernel_rfl) ew5055 eb5056) ?_
 refine ws_next (pend' := []) hst (by kernel_rfl) pk_nil ?_
 refine ws_e1 9 (by kernel_rfl) ?_
 refine nxe [] (by kernel_rfl) z z ?_
 clear hst
 intro w hst
 obtain ⟨w5058, hr5059, hst⟩ := hst.by_ [Pt b5048 0] 0 (Pt b5048 0) sizeOf60 z (oC z oN) (by kernel_rfl)
 refine we_unit z (x_unit hr5059) ?_
 refine ws_next (pend' := []) hst (by kernel_rfl) pk_nil ?_
 refine ws_nil ?_
 intro w hst
 refine ⟨z, ?_⟩
 replace hst := hst.own_nil (tySl (tyInt .i64))
 replace hst := hst.own_nil (tySl (tyInt .i64))
 replace hst := hst.own_nil (tyInt .i64)
 replace hst := hst.pull6.pull2.pull3.pull7.pull7.pull7
 replace hst := at_label_Lattice_close (pv := Pt b5048 0) (x := ({ up := t4792, down := (List.replicate (Int.toNat ((a0).length : Int)) (0:Int)), join := [], meet := [], rank := (List.replicate (Int.toNat ((a0).length : Int)) (0:Int)), all := [] } : label_Lattice)) hst z
 replace hst := hst.pull1.keep2
 obtain rfl := some_inj hm
 exact ⟨({ up := t4792, down := (List.replicate (Int.toNat ((a0).length : Int)) (0:Int)), join := [], meet := [], rank := (List.replicate (Int.toNat ((a0).length : Int)) (0:Int)), all := [] } : label_Lattice), b5053, (Pt b5048 0), _, hx5476, (fu 0 r0_0 z (fu 4 (.int .i64 ((a0).length : Int)) z (fu 5 (Pt b5053 0) z z))), hst⟩
}
 {
 refine nxe [7, 9] (by kernel_rfl) z z ?_
 clear hst
 intro w hst
 obtain ⟨b5060, w5061, ew5062, eb5063, hst⟩ := hst.box [.pointer none] 60
 refine we_run (v := Pt b5060 0) (w' := w5061) z (x_al (by kernel_rfl) ew5062 eb5063) ?_
 refine ws_next (pend' := [(6, .agg #[v5040, v4968, Zs, Zs, v5033, Zs])]) hst (by kernel_rfl) (pkr rfl rfl (fun w hst => by obtain ⟨_, _, hv_, _⟩ := hst.sv2; rw [hv_]; obtain ⟨_, _, hv_, _⟩ := hst.sv3; rw [hv_]; obtain ⟨_, _, hv_, _⟩ := hst.sv1; rw [hv_]; kernel_rfl) pk_nil) ?_
 refine ws_e1 7 (by kernel_rfl) ?_
 refine nxe [9] (by kernel_rfl) z z ?_
 clear hst
 intro w hst
 obtain ⟨b5065, w5066, ew5067, eb5068, hst⟩ := hst.box [v5040, v4968, Zs, Zs, v5033, Zs] 73
 refine we_run (v := Pt b5065 0) (w' := w5066) z (x_al (by kernel_rfl) ew5067 eb5068) ?_
 refine ws_next (pend' := []) hst (by kernel_rfl) pk_nil ?_
 refine ws_e1 9 (by kernel_rfl) ?_
 refine nxe [] (by kernel_rfl) z z ?_
 clear hst
 intro w hst
 replace hst := hst.pull1
 obtain ⟨w5070, hr5071, hst⟩ := hst.by_ [Pt b5065 0] 0 (Pt b5065 0) sizeOf60 z (oC z oN) (by kernel_rfl)
 refine we_unit z (x_unit hr5071) ?_
 refine ws_next (pend' := []) hst (by kernel_rfl) pk_nil ?_
 refine ws_nil ?_
 intro w hst
 refine ⟨z, ?_⟩
 replace hst := hst.own_nil (tySl (tyInt .i64))
 replace hst := hst.own_nil (tySl (tyInt .i64))
 replace hst := hst.own_nil (tyInt .i64)
 replace hst := hst.pull6.pull2.pull3.pull7.pull7.pull7
 replace hst := at_label_Lattice_close (pv := Pt b5065 0) (x := ({ up := t4792, down := (List.replicate (Int.toNat ((a0).length : Int)) (0:Int)), join := [], meet := [], rank := (List.replicate (Int.toNat ((a0).length : Int)) (0:Int)), all := [] } : label_Lattice)) hst z
 replace hst := hst.pull1.keep2
 obtain rfl := some_inj hm
 exact ⟨({ up := t4792, down := (List.replicate (Int.toNat ((a0).length : Int)) (0:Int)), join := [], meet := [], rank := (List.replicate (Int.toNat ((a0).length : Int)) (0:Int)), all := [] } : label_Lattice), b5060, (Pt b5065 0), _, hx5476, (fu 0 r0_0 z (fu 4 (.int .i64 ((a0).length : Int)) z (fu 5 (Pt b5060 0) z z))), hst⟩
}
}
 {
 refine nxe [1, 6, 7, 9] (by kernel_rfl) z z ?_
 clear hst
 intro w hst
 obtain ⟨b5072, w5073, ew5074, eb5075, hst⟩ := hst.box [.pointer none] 60
 refine we_run (v := Pt b5072 0) (w' := w5073) z (x_al (by kernel_rfl) ew5074 eb5075) ?_
 refine ws_next (pend' := [(0, r0_0)]) hst (by kernel_rfl) (pkr z z (fun w hst => z) pk_nil) ?_
 refine ws_e1 1 (by kernel_rfl) ?_
 refine nxe [6, 7, 9] (by kernel_rfl) z z ?_
 clear hst
 intro w hst
 refine wec call44 [r0_0] z z ?_
 refine (slices_Clone_uint64_uint64_ref (f0_0.mono (rd_weak _)) hst.to0 ht4793).mono ?_
 rintro _ w5077 ⟨v5080, rfl, hst⟩
 refine ⟨_, z, ?_⟩
 replace hst := hst.of1
 refine ws_next (pend' := []) hst (by kernel_rfl) pk_nil ?_
 refine wsr (.agg #[v5080, v4968, Zs, Zs, v5033, Zs]) 6 rfl rfl rfl (by kernel_rfl) (fun w hst => by obtain ⟨_, _, hv_, _⟩ := hst.sv2; rw [hv_]; obtain ⟨_, _, hv_, _⟩ := hst.sv3; rw [hv_]; obtain ⟨_, _, hv_, _⟩ := hst.sv0; rw [hv_]; kernel_rfl) ?_
 refine ws_e1 7 (by kernel_rfl) ?_
 refine nxe [9] (by kernel_rfl) z z ?_
 clear hst
 intro w hst
 obtain ⟨b5088, w5089, ew5090, eb5091, hst⟩ := hst.box [v5080, v4968, Zs, Zs, v5033, Zs] 73
 refine we_run (v := Pt b5088 0) (w' := w5089) z (x_al (by kernel_rfl) ew5090 eb5091) ?_
 refine ws_next (pend' := []) hst (by kernel_rfl) pk_nil ?_
 refine ws_e1 9 (by kernel_rfl) ?_
 refine nxe [] (by kernel_rfl) z z ?_
 clear hst
 intro w hst
 replace hst := hst.pull2
 obtain ⟨w5093, hr5094, hst⟩ := hst.by_ [Pt b5088 0] 0 (Pt b5088 0) sizeOf60 z (oC z oN) (by kernel_rfl)
 refine we_unit z (x_unit hr5094) ?_
 refine ws_next (pend' := []) hst (by kernel_rfl) pk_nil ?_
 refine ws_nil ?_
 intro w hst
 refine ⟨z, ?_⟩
 replace hst := hst.own_nil (tySl (tyInt .i64))
 replace hst := hst.own_nil (tySl (tyInt .i64))
 replace hst := hst.own_nil (tyInt .i64)
 replace hst := hst.pull6.pull2.pull3.pull7.pull7.pull7
 replace hst := at_label_Lattice_close (pv := Pt b5088 0) (x := ({ up := t4792, down := (List.replicate (Int.toNat ((a0).length : Int)) (0:Int)), join := [], meet := [], rank := (List.replicate (Int.toNat ((a0).length : Int)) (0:Int)), all := [] } : label_Lattice)) hst z
 replace hst := hst.pull1.keep2
 obtain rfl := some_inj hm
 exact ⟨({ up := t4792, down := (List.replicate (Int.toNat ((a0).length : Int)) (0:Int)), join := [], meet := [], rank := (List.replicate (Int.toNat ((a0).length : Int)) (0:Int)), all := [] } : label_Lattice), b5072, (Pt b5088 0), _, hx5476, (fu 0 r0_0 z (fu 4 (.int .i64 ((a0).length : Int)) z (fu 5 (Pt b5072 0) z z))), hst⟩
}
}
 {
 refine nxe [1, 5, 6, 7, 9] (by kernel_rfl) z z ?_
 clear hst
 intro w hst
 obtain ⟨b5095, w5096, ew5097, eb5098, hst⟩ := hst.box [.pointer none] 60
 refine we_run (v := Pt b5095 0) (w' := w5096) z (x_al (by kernel_rfl) ew5097 eb5098) ?_
 refine ws_next (pend' := [(4, I6 ((a0).length : Int)), (0, r0_0)]) hst (by kernel_rfl) (pkr z z (fun w hst => z) (pkr z z (fun w hst => z) pk_nil)) ?_
 refine ws_e2 1 5 (by kernel_rfl) ?_ ?_
 {
 refine nxe [5, 6, 7, 9] (by kernel_rfl) z z ?_
 clear hst
 intro w hst
 refine wec call44 [r0_0] z z ?_
 refine (slices_Clone_uint64_uint64_ref (f0_0.mono (rd_weak _)) hst.to0 ht4793).mono ?_
 rintro _ w5100 ⟨v5103, rfl, hst⟩
 refine ⟨_, z, ?_⟩
 replace hst := hst.of1
 refine ws_next (pend' := [(4, I6 ((a0).length : Int))]) hst (by kernel_rfl) (pkr z z (fun w hst => z) pk_nil) ?_
 refine ws_e1 5 (by kernel_rfl) ?_
 refine nxe [6, 7, 9] (by kernel_rfl) z z ?_
 clear hst
 intro w hst
 obtain ⟨v5105, w5106, hr5107, hst⟩ := run_mk (k := .i64) (k' := .i64) (zm := (0:Int)) elem_46 hst hg4795 (by decide) z
 refine we_run (v := v5105) (w' := w5106) z (x_make z z hr5107) ?_
 refine ws_next (pend' := []) hst (by kernel_rfl) pk_nil ?_
 refine wsr (.agg #[v5103, v4968, Zs, Zs, v5105, Zs]) 6 rfl rfl rfl (by kernel_rfl) (fun w hst => by obtain ⟨_, _, hv_, _⟩ := hst.sv0; rw [hv_]; obtain ⟨_, _, hv_, _⟩ := hst.sv3; rw [hv_]; obtain ⟨_, _, hv_, _⟩ := hst.sv1; rw [hv_]; kernel_rfl) ?_
 refine ws_e1 7 (by kernel_rfl) ?_
 refine nxe [9] (by kernel_rfl) z z ?_
 clear hst
 intro w hst
 obtain ⟨b5115, w5116, ew5117, eb5118, hst⟩ := hst.box [v5103, v4968, Zs, Zs, v5105, Zs] 73
 refine we_run (v := Pt b5115 0) (w' := w5116) z (x_al (by kernel_rfl) ew5117 eb5118) ?_
 refine ws_next (pend' := []) hst (by kernel_rfl) pk_nil ?_
 refine ws_e1 9 (by kernel_rfl) ?_
 refine nxe [] (by kernel_rfl) z z ?_
 clear hst
 intro w hst
 replace hst := hst.pull3
 obtain ⟨w5120, hr5121, hst⟩ := hst.by_ [Pt b5115 0] 0 (Pt b5115 0) sizeOf60 z (oC z oN) (by kernel_rfl)
 refine we_unit z (x_unit hr5121) ?_
 refine ws_next (pend' := []) hst (by kernel_rfl) pk_nil ?_
 refine ws_nil ?_
 intro w hst
 refine ⟨z, ?_⟩
 replace hst := hst.own_nil (tySl (tyInt .i64))
 replace hst := hst.own_nil (tySl (tyInt .i64))
 replace hst := hst.own_nil (tyInt .i64)
 replace hst := hst.pull5.pull2.pull3.pull7.pull7.pull7
 replace hst := at_label_Lattice_close (pv := Pt b5115 0) (x := ({ up := t4792, down := (List.replicate (Int.toNat ((a0).length : Int)) (0:Int)), join := [], meet := [], rank := (List.replicate (Int.toNat ((a0).length : Int)) (0:Int)), all := [] } : label_Lattice)) hst z
 replace hst := hst.pull1.keep2
 obtain rfl := some_inj hm
 exact ⟨({ up := t4792, down := (List.replicate (Int.toNat ((a0).length : Int)) (0:Int)), join := [], meet := [], rank := (List.replicate (Int.toNat ((a0).length : Int)) (0:Int)), all := [] } : label_Lattice), b5095, (Pt b5115 0), _, hx5476, (fu 0 r0_0 z (fu 4 (.int .i64 ((a0).length : Int)) z (fu 5 (Pt b5095 0) z z))), hst⟩
}
 {
 refine nxe [1, 6, 7, 9] (by kernel_rfl) z z ?_
 clear hst
 intro w hst
 obtain ⟨v5122, w5123, hr5124, hst⟩ := run_mk (k := .i64) (k' := .i64) (zm := (0:Int)) elem_46 hst hg4795 (by decide) z
 refine we_run (v := v5122) (w' := w5123) z (x_make z z hr5124) ?_
 refine ws_next (pend' := [(0, r0_0)]) hst (by kernel_rfl) (pkr z z (fun w hst => z) pk_nil) ?_
 refine ws_e1 1 (by kernel_rfl) ?_
 refine nxe [6, 7, 9] (by kernel_rfl) z z ?_
 clear hst
 intro w hst
 refine wec call44 [r0_0] z z ?_
 refine (slices_Clone_uint64_uint64_ref (f0_0.mono (rd_weak _)) hst.to0 ht4793).mono ?_
 rintro _ w5126 ⟨v5129, rfl, hst⟩
 refine ⟨_, z, ?_⟩
 replace hst := hst.of1
 refine ws_next (pend' := []) hst (by kernel_rfl) pk_nil ?_
 refine wsr (.agg #[v5129, v4968, Zs, Zs, v5122, Zs]) 6 rfl rfl rfl (by kernel_rfl) (fun w hst => by obtain ⟨_, _, hv_, _⟩ := hst.sv1; rw [hv_]; obtain ⟨_, _, hv_, _⟩ := hst.sv3; rw [hv_]; obtain ⟨_, _, hv_, _⟩ := hst.sv0; rw [hv_]; kernel_rfl) ?_
 refine ws_e1 7 (by kernel_rfl) ?_
 refine nxe [9] (by kernel_rfl) z z ?_
 clear hst
 intro w hst
 obtain ⟨b5137, w5138, ew5139, eb5140, hst⟩ := hst.box [v5129, v4968, Zs, Zs, v5122, Zs] 73
 refine we_run (v := Pt b5137 0) (w' := w5138) z (x_al (by kernel_rfl) ew5139 eb5140) ?_
 refine ws_next (pend' := []) hst (by kernel_rfl) pk_nil ?_
 refine ws_e1 9 (by kernel_rfl) ?_
 refine nxe [] (by kernel_rfl) z z ?_
 clear hst
 intro w hst
 replace hst := hst.pull3
 obtain ⟨w5142, hr5143, hst⟩ := hst.by_ [Pt b5137 0] 0 (Pt b5137 0) sizeOf60 z (oC z oN) (by kernel_rfl)
 refine we_unit z (x_unit hr5143) ?_
 refine ws_next (pend' := []) hst (by kernel_rfl) pk_nil ?_
 refine ws_nil ?_
 intro w hst
 refine ⟨z, ?_⟩
 replace hst := hst.own_nil (tySl (tyInt .i64))
 replace hst := hst.own_nil (tySl (tyInt .i64))
 replace hst := hst.own_nil (tyInt .i64)
 replace hst := hst.pull6.pull2.pull3.pull7.pull7.pull7
 replace hst := at_label_Lattice_close (pv := Pt b5137 0) (x := ({ up := t4792, down := (List.replicate (Int.toNat ((a0).length : Int)) (0:Int)), join := [], meet := [], rank := (List.replicate (Int.toNat ((a0).length : Int)) (0:Int)), all := [] } : label_Lattice)) hst z
 replace hst := hst.pull1.keep2
 obtain rfl := some_inj hm
 exact ⟨({ up := t4792, down := (List.replicate (Int.toNat ((a0).length : Int)) (0:Int)), join := [], meet := [], rank := (List.replicate (Int.toNat ((a0).length : Int)) (0:Int)), all := [] } : label_Lattice), b5095, (Pt b5137 0), _, hx5476, (fu 0 r0_0 z (fu 4 (.int .i64 ((a0).length : Int)) z (fu 5 (Pt b5095 0) z z))), hst⟩
}
}
}
 {
 refine nxe [1, 3, 6, 7, 8, 9] (by kernel_rfl) z z ?_
 clear hst
 intro w hst
 obtain ⟨v5144, w5145, hr5146, hst⟩ := run_mk (k := .i64) (k' := .i64) (zm := (0:Int)) elem_46 hst hg4795 (by decide) z
 refine we_run (v := v5144) (w' := w5145) z (x_make z z hr5146) ?_
 refine ws_next (pend' := [(2, I6 ((a0).length : Int)), (0, r0_0)]) hst (by kernel_rfl) (pkr z z (fun w hst => z) (pkr z z (fun w hst => z) pk_nil)) ?_
 refine ws_e3 1 3 8 (by kernel_rfl) ?_ ?_ ?_
 {
 refine nxe [3, 6, 7, 8, 9] (by kernel_rfl) z z ?_
 clear hst
 intro w hst
 refine wec call44 [r0_0] z z ?_
 refine (slices_Clone_uint64_uint64_ref (f0_0.mono (rd_weak _)) hst.to0 ht4793).mono ?_
 rintro _ w5148 ⟨v5151, rfl, hst⟩
 refine ⟨_, z, ?_⟩
 replace hst := hst.of1
 refine ws_next (pend' := [(2, I6 ((a0).length : Int))]) hst (by kernel_rfl) (pkr z z (fun w hst => z) pk_nil) ?_
 refine ws_e2 3 8 (by kernel_rfl) ?_ ?_
 {
 refine nxe [6, 7, 8, 9] (by kernel_rfl) z z ?_
 clear hst
 intro w hst
 obtain ⟨v5153, w5154, hr5155, hst⟩ := run_mk (k := .i64) (k' := .i64) (zm := (0:Int)) elem_25 hst hg4794 (by decide) z
 refine we_run (v := v5153) (w' := w5154) z (x_make z z hr5155) ?_
 refine ws_next (pend' := []) hst (by kernel_rfl) pk_nil ?_
 refine wsr (.agg #[v5151, v5153, Zs, Zs, v5144, Zs]) 6 rfl rfl rfl (by kernel_rfl) (fun w hst => by obtain ⟨_, _, hv_, _⟩ := hst.sv2; rw [hv_]; obtain ⟨_, _, hv_, _⟩ := hst.sv0; rw [hv_]; obtain ⟨_, _, hv_, _⟩ := hst.sv1; rw [hv_]; kernel_rfl) ?_
 refine ws_e2 7 8 (by kernel_rfl) ?_ ?_
 {
 refine nxe [8, 9] (by kernel_rfl) z z ?_
 clear hst
 intro w hst
 obtain ⟨b5163, w5164, ew5165, eb5166, hst⟩ := hst.box [v5151, v5153, Zs, Zs, v5144, Zs] 73
 refine we_run (v := Pt b5163 0) (w' := w5164) z (x_al (by kernel_rfl) ew5165 eb5166) ?_
 refine ws_next (pend' := []) hst (by kernel_rfl) pk_nil ?_
 refine ws_e1 8 (by kernel_rfl) ?_
 refine nxe [9] (by kernel_rfl) z z ?_
 clear hst
 intro w hst
 obtain ⟨b5168, w5169, ew5170, eb5171, hst⟩ := hst.box [.pointer none] 60
 refine we_run (v := Pt b5168 0) (w' := w5169) z (x_al (by kernel_rfl) ew5170 eb5171) ?_
 refine ws_next (pend' := []) hst (by kernel_rfl) pk_nil ?_
 refine ws_e1 9 (by kernel_rfl) ?_
 refine nxe [] (by kernel_rfl) z z ?_
 clear hst
 intro w hst
 obtain ⟨w5173, hr5174, hst⟩ := hst.by_ [Pt b5163 0] 0 (Pt b5163 0) sizeOf60 z (oC z oN) (by kernel_rfl)
 refine we_unit z (x_unit hr5174) ?_
 refine ws_next (pend' := []) hst (by kernel_rfl) pk_nil ?_
 refine ws_nil ?_
 intro w hst
 refine ⟨z, ?_⟩
 replace hst := hst.own_nil (tySl (tyInt .i64))
 replace hst := hst.own_nil (tySl (tyInt .i64))
 replace hst := hst.own_nil (tyInt .i64)
 replace hst := hst.pull7.pull2.pull3.pull6.pull7.pull7
 replace hst := at_label_Lattice_close (pv := Pt b5163 0) (x := ({ up := t4792, down := (List.replicate (Int.toNat ((a0).length : Int)) (0:Int)), join := [], meet := [], rank := (List.replicate (Int.toNat ((a0).length : Int)) (0:Int)), all := [] } : label_Lattice)) hst z
 replace hst := hst.pull1.keep2
 obtain rfl := some_inj hm
 exact ⟨({ up := t4792, down := (List.replicate (Int.toNat ((a0).length : Int)) (0:Int)), join := [], meet := [], rank := (List.replicate (Int.toNat ((a0).length : Int)) (0:Int)), all := [] } : label_Lattice), b5168, (Pt b5163 0), _, hx5476, (fu 0 r0_0 z (fu 4 (.int .i64 ((a0).length : Int)) z (fu 5 (Pt b5168 0) z z))), hst⟩
}
 {
 refine nxe [7, 9] (by kernel_rfl) z z ?_
 clear hst
 intro w hst
 obtain ⟨b5175, w5176, ew5177, eb5178, hst⟩ := hst.box [.pointer none] 60
 refine we_run (v := Pt b5175 0) (w' := w5176) z (x_al (by kernel_rfl) ew5177 eb5178) ?_
 refine ws_next (pend' := [(6, .agg #[v5151, v5153, Zs, Zs, v5144, Zs])]) hst (by kernel_rfl) (pkr rfl rfl (fun w hst => by obtain ⟨_, _, hv_, _⟩ := hst.sv3; rw [hv_]; obtain ⟨_, _, hv_, _⟩ := hst.sv1; rw [hv_]; obtain ⟨_, _, hv_, _⟩ := hst.sv2; rw [hv_]; kernel_rfl) pk_nil) ?_
 refine ws_e1 7 (by kernel_rfl) ?_
 refine nxe [9] (by kernel_rfl) z z ?_
 clear hst
 intro w hst
 obtain ⟨b5180, w5181, ew5182, eb5183, hst⟩ := hst.box [v5151, v5153, Zs, Zs, v5144, Zs] 73
 refine we_run (v := Pt b5180 0) (w' := w5181) z (x_al (by kernel_rfl) ew5182 eb5183) ?_
 refine ws_next (pend' := []) hst (by kernel_rfl) pk_nil ?_
 refine ws_e1 9 (by kernel_rfl) ?_
 refine nxe [] (by kernel_rfl) z z ?_
 clear hst
 intro w hst
 replace hst := hst.pull1
 obtain ⟨w5185, hr5186, hst⟩ := hst.by_ [Pt b5180 0] 0 (Pt b5180 0) sizeOf60 z (oC z oN) (by kernel_rfl)
 refine we_unit z (x_unit hr5186) ?_
 refine ws_next (pend' := []) hst (by kernel_rfl) pk_nil ?_
 refine ws_nil ?_
 intro w hst
 refine ⟨z, ?_⟩
 replace hst := hst.own_nil (tySl (tyInt .i64))
 replace hst := hst.own_nil (tySl (tyInt .i64))
 replace hst := hst.own_nil (tyInt .i64)
 replace hst := hst.pull7.pull2.pull3.pull6.pull7.pull7
 replace hst := at_label_Lattice_close (pv := Pt b5180 0) (x := ({ up := t4792, down := (List.replicate (Int.toNat ((a0).length : Int)) (0:Int)), join := [], meet := [], rank := (List.replicate (Int.toNat ((a0).length : Int)) (0:Int)), all := [] } : label_Lattice)) hst z
 replace hst := hst.pull1.keep2
 obtain rfl := some_inj hm
 exact ⟨({ up := t4792, down := (List.replicate (Int.toNat ((a0).length : Int)) (0:Int)), join := [], meet := [], rank := (List.replicate (Int.toNat ((a0).length : Int)) (0:Int)), all := [] } : label_Lattice), b5175, (Pt b5180 0), _, hx5476, (fu 0 r0_0 z (fu 4 (.int .i64 ((a0).length : Int)) z (fu 5 (Pt b5175 0) z z))), hst⟩
}
}
 {
 refine nxe [3, 6, 7, 9] (by kernel_rfl) z z ?_
 clear hst
 intro w hst
 obtain ⟨b5187, w5188, ew5189, eb5190, hst⟩ := hst.box [.pointer none] 60
 refine we_run (v := Pt b5187 0) (w' := w5188) z (x_al (by kernel_rfl) ew5189 eb5190) ?_
 refine ws_next (pend' := [(2, I6 ((a0).length : Int))]) hst (by kernel_rfl) (pkr z z (fun w hst => z) pk_nil) ?_
 refine ws_e1 3 (by kernel_rfl) ?_
 refine nxe [6, 7, 9] (by kernel_rfl) z z ?_
 clear hst
 intro w hst
 obtain ⟨v5192, w5193, hr5194, hst⟩ := run_mk (k := .i64) (k' := .i64) (zm := (0:Int)) elem_25 hst hg4794 (by decide) z
 refine we_run (v := v5192) (w' := w5193) z (x_make z z hr5194) ?_
 refine ws_next (pend' := []) hst (by kernel_rfl) pk_nil ?_
 refine wsr (.agg #[v5151, v5192, Zs, Zs, v5144, Zs]) 6 rfl rfl rfl (by kernel_rfl) (fun w hst => by obtain ⟨_, _, hv_, _⟩ := hst.sv3; rw [hv_]; obtain ⟨_, _, hv_, _⟩ := hst.sv0; rw [hv_]; obtain ⟨_, _, hv_, _⟩ := hst.sv2; rw [hv_]; kernel_rfl) ?_
 refine ws_e1 7 (by kernel_rfl) ?_
 refine nxe [9] (by kernel_rfl) z z ?_
 clear hst
 intro w hst
 obtain ⟨b5202, w5203, ew5204, eb5205, hst⟩ := hst.box [v5151, v5192, Zs, Zs, v5144, Zs] 73
 refine we_run (v := Pt b5202 0) (w' := w5203) z (x_al (by kernel_rfl) ew5204 eb5205) ?_
 refine ws_next (pend' := []) hst (by kernel_rfl) pk_nil ?_
 refine ws_e1 9 (by kernel_rfl) ?_
 refine nxe [] (by kernel_rfl) z z ?_
 clear hst
 intro w hst
 replace hst := hst.pull2
 obtain ⟨w5207, hr5208, hst⟩ := hst.by_ [Pt b5202 0] 0 (Pt b5202 0) sizeOf60 z (oC z oN) (by kernel_rfl)
 refine we_unit z (x_unit hr5208) ?_
 refine ws_next (pend' := []) hst (by kernel_rfl) pk_nil ?_
 refine ws_nil ?_
 intro w hst
 refine ⟨z, ?_⟩
 replace hst := hst.own_nil (tySl (tyInt .i64))
 replace hst := hst.own_nil (tySl (tyInt .i64))
 replace hst := hst.own_nil (tyInt .i64)
 replace hst := hst.pull7.pull2.pull3.pull6.pull7.pull7
 replace hst := at_label_Lattice_close (pv := Pt b5202 0) (x := ({ up := t4792, down := (List.replicate (Int.toNat ((a0).length : Int)) (0:Int)), join := [], meet := [], rank := (List.replicate (Int.toNat ((a0).length : Int)) (0:Int)), all := [] } : label_Lattice)) hst z
 replace hst := hst.pull1.keep2
 obtain rfl := some_inj hm
 exact ⟨({ up := t4792, down := (List.replicate (Int.toNat ((a0).length : Int)) (0:Int)), join := [], meet := [], rank := (List.replicate (Int.toNat ((a0).length : Int)) (0:Int)), all := [] } : label_Lattice), b5187, (Pt b5202 0), _, hx5476, (fu 0 r0_0 z (fu 4 (.int .i64 ((a0).length : Int)) z (fu 5 (Pt b5187 0) z z))), hst⟩
}
}
 {
 refine nxe [1, 6, 7, 8, 9] (by kernel_rfl) z z ?_
 clear hst
 intro w hst
 obtain ⟨v5209, w5210, hr5211, hst⟩ := run_mk (k := .i64) (k' := .i64) (zm := (0:Int)) elem_25 hst hg4794 (by decide) z
 refine we_run (v := v5209) (w' := w5210) z (x_make z z hr5211) ?_
 refine ws_next (pend' := [(0, r0_0)]) hst (by kernel_rfl) (pkr z z (fun w hst => z) pk_nil) ?_
 refine ws_e2 1 8 (by kernel_rfl) ?_ ?_
 {
 refine nxe [6, 7, 8, 9] (by kernel_rfl) z z ?_
 clear hst
 intro w hst
 refine wec call44 [r0_0] z z ?_
 refine (slices_Clone_uint64_uint64_ref (f0_0.mono (rd_weak _)) hst.to0 ht4793).mono ?_
 rintro _ w5213 ⟨v5216, rfl, hst⟩
 refine ⟨_, z, ?_⟩
 replace hst := hst.of1
 refine ws_next (pend' := []) hst (by kernel_rfl) pk_nil ?_
 refine wsr (.agg #[v5216, v5209, Zs, Zs, v5144, Zs]) 6 rfl rfl rfl (by kernel_rfl) (fun w hst => by obtain ⟨_, _, hv_, _⟩ := hst.sv2; rw [hv_]; obtain ⟨_, _, hv_, _⟩ := hst.sv1; rw [hv_]; obtain ⟨_, _, hv_, _⟩ := hst.sv0; rw [hv_]; kernel_rfl) ?_
 refine ws_e2 7 8 (by kernel_rfl) ?_ ?_
 {
 refine nxe [8, 9] (by kernel_rfl) z z ?_
 clear hst
 intro w hst
 obtain ⟨b5224, w5225, ew5226, eb5227, hst⟩ := hst.box [v5216, v5209, Zs, Zs, v5144, Zs] 73
 refine we_run (v := Pt b5224 0) (w' := w5225) z (x_al (by kernel_rfl) ew5226 eb5227) ?_
 refine ws_next (pend' := []) hst (by kernel_rfl) pk_nil ?_
 refine ws_e1 8 (by kernel_rfl) ?_
 refine nxe [9] (by kernel_rfl) z z ?_
 clear hst
 intro w hst
 obtain ⟨b5229, w5230, ew5231, eb5232, hst⟩ := hst.box [.pointer none] 60
 refine we_run (v := Pt b5229 0) (w' := w5230) z (x_al (by kernel_rfl) ew5231 eb5232) ?_
 refine ws_next (pend' := []) hst (by kernel_rfl) pk_nil ?_
 refine ws_e1 9 (by kernel_rfl) ?_
 refine nxe [] (by kernel_rfl) z z ?_
 clear hst
 intro w hst
 obtain ⟨w5234, hr5235, hst⟩ := hst.by_ [Pt b5224 0] 0 (Pt b5224 0) sizeOf60 z (oC z oN) (by kernel_rfl)
 refine we_unit z (x_unit hr5235) ?_
 refine ws_next (pend' := []) hst (by kernel_rfl) pk_nil ?_
 refine ws_nil ?_
 intro w hst
 refine ⟨z, ?_⟩
 replace hst := hst.own_nil (tySl (tyInt .i64))
 replace hst := hst.own_nil (tySl (tyInt .i64))
 replace hst := hst.own_nil (tyInt .i64)
 replace hst := hst.pull7.pull2.pull3.pull7.pull7.pull7
 replace hst := at_label_Lattice_close (pv := Pt b5224 0) (x := ({ up := t4792, down := (List.replicate (Int.toNat ((a0).length : Int)) (0:Int)), join := [], meet := [], rank := (List.replicate (Int.toNat ((a0).length : Int)) (0:Int)), all := [] } : label_Lattice)) hst z
 replace hst := hst.pull1.keep2
 obtain rfl := some_inj hm
 exact ⟨({ up := t4792, down := (List.replicate (Int.toNat ((a0).length : Int)) (0:Int)), join := [], meet := [], rank := (List.replicate (Int.toNat ((a0).length : Int)) (0:Int)), all := [] } : label_Lattice), b5229, (Pt b5224 0), _, hx5476, (fu 0 r0_0 z (fu 4 (.int .i64 ((a0).length : Int)) z (fu 5 (Pt b5229 0) z z))), hst⟩
}
 {
 refine nxe [7, 9] (by kernel_rfl) z z ?_
 clear hst
 intro w hst
 obtain ⟨b5236, w5237, ew5238, eb5239, hst⟩ := hst.box [.pointer none] 60
 refine we_run (v := Pt b5236 0) (w' := w5237) z (x_al (by kernel_rfl) ew5238 eb5239) ?_
 refine ws_next (pend' := [(6, .agg #[v5216, v5209, Zs, Zs, v5144, Zs])]) hst (by kernel_rfl) (pkr rfl rfl (fun w hst => by obtain ⟨_, _, hv_, _⟩ := hst.sv3; rw [hv_]; obtain ⟨_, _, hv_, _⟩ := hst.sv2; rw [hv_]; obtain ⟨_, _, hv_, _⟩ := hst.sv1; rw [hv_]; kernel_rfl) pk_nil) ?_
 refine ws_e1 7 (by kernel_rfl) ?_
 refine nxe [9] (by kernel_rfl) z z ?_
 clear hst
 intro w hst
 obtain ⟨b5241, w5242, ew5243, eb5244, hst⟩ := hst.box [v5216, v5209, Zs, Zs, v5144, Zs] 73
 refine we_run (v := Pt b5241 0) (w' := w5242) z (x_al (by kernel_rfl) ew5243 eb5244) ?_
 refine ws_next (pend' := []) hst (by kernel_rfl) pk_nil ?_
 refine ws_e1 9 (by kernel_rfl) ?_
 refine nxe [] (by kernel_rfl) z z ?_
 clear hst
 intro w hst
 replace hst := hst.pull1
 obtain ⟨w5246, hr5247, hst⟩ := hst.by_ [Pt b5241 0] 0 (Pt b5241 0) sizeOf60 z (oC z oN) (by kernel_rfl)
 refine we_unit z (x_unit hr5247) ?_
 refine ws_next (pend' := []) hst (by kernel_rfl) pk_nil ?_
 refine ws_nil ?_
 intro w hst
 refine ⟨z, ?_⟩
 replace hst := hst.own_nil (tySl (tyInt .i64))
 replace hst := hst.own_nil (tySl (tyInt .i64))
 replace hst := hst.own_nil (tyInt .i64)
 replace hst := hst.pull7.pull2.pull3.pull7.pull7.pull7
 replace hst := at_label_Lattice_close (pv := Pt b5241 0) (x := ({ up := t4792, down := (List.replicate (Int.toNat ((a0).length : Int)) (0:Int)), join := [], meet := [], rank := (List.replicate (Int.toNat ((a0).length : Int)) (0:Int)), all := [] } : label_Lattice)) hst z
 replace hst := hst.pull1.keep2
 obtain rfl := some_inj hm
 exact ⟨({ up := t4792, down := (List.replicate (Int.toNat ((a0).length : Int)) (0:Int)), join := [], meet := [], rank := (List.replicate (Int.toNat ((a0).length : Int)) (0:Int)), all := [] } : label_Lattice), b5236, (Pt b5241 0), _, hx5476, (fu 0 r0_0 z (fu 4 (.int .i64 ((a0).length : Int)) z (fu 5 (Pt b5236 0) z z))), hst⟩
}
}
 {
 refine nxe [1, 6, 7, 9] (by kernel_rfl) z z ?_
 clear hst
 intro w hst
 obtain ⟨b5248, w5249, ew5250, eb5251, hst⟩ := hst.box [.pointer none] 60
 refine we_run (v := Pt b5248 0) (w' := w5249) z (x_al (by kernel_rfl) ew5250 eb5251) ?_
 refine ws_next (pend' := [(0, r0_0)]) hst (by kernel_rfl) (pkr z z (fun w hst => z) pk_nil) ?_
 refine ws_e1 1 (by kernel_rfl) ?_
 refine nxe [6, 7, 9] (by kernel_rfl) z z ?_
 clear hst
 intro w hst
 refine wec call44 [r0_0] z z ?_
 refine (slices_Clone_uint64_uint64_ref (f0_0.mono (rd_weak _)) hst.to0 ht4793).mono ?_
 rintro _ w5253 ⟨v5256, rfl, hst⟩
 refine ⟨_, z, ?_⟩
 replace hst := hst.of1
 refine ws_next (pend' := []) hst (by kernel_rfl) pk_nil ?_
 refine wsr (.agg #[v5256, v5209, Zs, Zs, v5144, Zs]) 6 rfl rfl rfl (by kernel_rfl) (fun w hst => by obtain ⟨_, _, hv_, _⟩ := hst.sv3; rw [hv_]; obtain ⟨_, _, hv_, _⟩ := hst.sv2; rw [hv_]; obtain ⟨_, _, hv_, _⟩ := hst.sv0; rw [hv_]; kernel_rfl) ?_
 refine ws_e1 7 (by kernel_rfl) ?_
 refine nxe [9] (by kernel_rfl) z z ?_
 clear hst
 intro w hst
 obtain ⟨b5264, w5265, ew5266, eb5267, hst⟩ := hst.box [v5256, v5209, Zs, Zs, v5144, Zs] 73
 refine we_run (v := Pt b5264 0) (w' := w5265) z (x_al (by kernel_rfl) ew5266 eb5267) ?_
 refine ws_next (pend' := []) hst (by kernel_rfl) pk_nil ?_
 refine ws_e1 9 (by kernel_rfl) ?_
 refine nxe [] (by kernel_rfl) z z ?_
 clear hst
 intro w hst
 replace hst := hst.pull2
 obtain ⟨w5269, hr5270, hst⟩ := hst.by_ [Pt b5264 0] 0 (Pt b5264 0) sizeOf60 z (oC z oN) (by kernel_rfl)
 refine we_unit z (x_unit hr5270) ?_
 refine ws_next (pend' := []) hst (by kernel_rfl) pk_nil ?_
 refine ws_nil ?_
 intro w hst
 refine ⟨z, ?_⟩
 replace hst := hst.own_nil (tySl (tyInt .i64))
 replace hst := hst.own_nil (tySl (tyInt .i64))
 replace hst := hst.own_nil (tyInt .i64)
 replace hst := hst.pull7.pull2.pull3.pull7.pull7.pull7
 replace hst := at_label_Lattice_close (pv := Pt b5264 0) (x := ({ up := t4792, down := (List.replicate (Int.toNat ((a0).length : Int)) (0:Int)), join := [], meet := [], rank := (List.replicate (Int.toNat ((a0).length : Int)) (0:Int)), all := [] } : label_Lattice)) hst z
 replace hst := hst.pull1.keep2
 obtain rfl := some_inj hm
 exact ⟨({ up := t4792, down := (List.replicate (Int.toNat ((a0).length : Int)) (0:Int)), join := [], meet := [], rank := (List.replicate (Int.toNat ((a0).length : Int)) (0:Int)), all := [] } : label_Lattice), b5248, (Pt b5264 0), _, hx5476, (fu 0 r0_0 z (fu 4 (.int .i64 ((a0).length : Int)) z (fu 5 (Pt b5248 0) z z))), hst⟩
}
}
 {
 refine nxe [1, 3, 6, 7, 9] (by kernel_rfl) z z ?_
 clear hst
 intro w hst
 obtain ⟨b5271, w5272, ew5273, eb5274, hst⟩ := hst.box [.pointer none] 60
 refine we_run (v := Pt b5271 0) (w' := w5272) z (x_al (by kernel_rfl) ew5273 eb5274) ?_
 refine ws_next (pend' := [(2, I6 ((a0).length : Int)), (0, r0_0)]) hst (by kernel_rfl) (pkr z z (fun w hst => z) (pkr z z (fun w hst => z) pk_nil)) ?_
 refine ws_e2 1 3 (by kernel_rfl) ?_ ?_
 {
 refine nxe [3, 6, 7, 9] (by kernel_rfl) z z ?_
 clear hst
 intro w hst
 refine wec call44 [r0_0] z z ?_
 refine (slices_Clone_uint64_uint64_ref (f0_0.mono (rd_weak _)) hst.to0 ht4793).mono ?_
 rintro _ w5276 ⟨v5279, rfl, hst⟩
 refine ⟨_, z, ?_⟩
 replace hst := hst.of1
 refine ws_next (pend' := [(2, I6 ((a0).length : Int))]) hst (by kernel_rfl) (pkr z z (fun w hst => z) pk_nil) ?_
 refine ws_e1 3 (by kernel_rfl) ?_
 refine nxe [6, 7, 9] (by kernel_rfl) z z ?_
 clear hst
 intro w hst
 obtain ⟨v5281, w5282, hr5283, hst⟩ := run_mk (k := .i64) (k' := .i64) (zm := (0:Int)) elem_25 hst hg4794 (by decide) z
 refine we_run (v := v5281) (w' := w5282) z (x_make z z hr5283) ?_
 refine ws_next (pend' := []) hst (by kernel_rfl) pk_nil ?_
 refine wsr (.agg #[v5279, v5281, Zs, Zs, v5144, Zs]) 6 rfl rfl rfl (by kernel_rfl) (fun w hst => by obtain ⟨_, _, hv_, _⟩ := hst.sv3; rw [hv_]; obtain ⟨_, _, hv_, _⟩ := hst.sv0; rw [hv_]; obtain ⟨_, _, hv_, _⟩ := hst.sv1; rw [hv_]; kernel_rfl) ?_
 refine ws_e1 7 (by kernel_rfl) ?_
 refine nxe [9] (by kernel_rfl) z z ?_
 clear hst
 intro w hst
 obtain ⟨b5291, w5292, ew5293, eb5294, hst⟩ := hst.box [v5279, v5281, Zs, Zs, v5144, Zs] 73
 refine we_run (v := Pt b5291 0) (w' := w5292) z (x_al (by kernel_rfl) ew5293 eb5294) ?_
 refine ws_next (pend' := []) hst (by kernel_rfl) pk_nil ?_
 refine ws_e1 9 (by kernel_rfl) ?_
 refine nxe [] (by kernel_rfl) z z ?_
 clear hst
 intro w hst
 replace hst := hst.pull3
 obtain ⟨w5296, hr5297, hst⟩ := hst.by_ [Pt b5291 0] 0 (Pt b5291 0) sizeOf60 z (oC z oN) (by kernel_rfl)
 refine we_unit z (x_unit hr5297) ?_
 refine ws_next (pend' := []) hst (by kernel_rfl) pk_nil ?_
 refine ws_nil ?_
 intro w hst
 refine ⟨z, ?_⟩
 replace hst := hst.own_nil (tySl (tyInt .i64))
 replace hst := hst.own_nil (tySl (tyInt .i64))
 replace hst := hst.own_nil (tyInt .i64)
 replace hst := hst.pull7.pull2.pull3.pull6.pull7.pull7
 replace hst := at_label_Lattice_close (pv := Pt b5291 0) (x := ({ up := t4792, down := (List.replicate (Int.toNat ((a0).length : Int)) (0:Int)), join := [], meet := [], rank := (List.replicate (Int.toNat ((a0).length : Int)) (0:Int)), all := [] } : label_Lattice)) hst z
 replace hst := hst.pull1.keep2
 obtain rfl := some_inj hm
 exact ⟨({ up := t4792, down := (List.replicate (Int.toNat ((a0).length : Int)) (0:Int)), join := [], meet := [], rank := (List.replicate (Int.toNat ((a0).length : Int)) (0:Int)), all := [] } : label_Lattice), b5271, (Pt b5291 0), _, hx5476, (fu 0 r0_0 z (fu 4 (.int .i64 ((a0).length : Int)) z (fu 5 (Pt b5271 0) z z))), hst⟩
}
 {
 refine nxe [1, 6, 7, 9] (by kernel_rfl) z z ?_
 clear hst
 intro w hst
 obtain ⟨v5298, w5299, hr5300, hst⟩ := run_mk (k := .i64) (k' := .i64) (zm := (0:Int)) elem_25 hst hg4794 (by decide) z
 refine we_run (v := v5298) (w' := w5299) z (x_make z z hr5300) ?_
 refine ws_next (pend' := [(0, r0_0)]) hst (by kernel_rfl) (pkr z z (fun w hst => z) pk_nil) ?_
 refine ws_e1 1 (by kernel_rfl) ?_
 refine nxe [6, 7, 9] (by kernel_rfl) z z ?_
 clear hst
 intro w hst
 refine wec call44 [r0_0] z z ?_
 refine (slices_Clone_uint64_uint64_ref (f0_0.mono (rd_weak _)) hst.to0 ht4793).mono ?_
 rintro _ w5302 ⟨v5305, rfl, hst⟩
 refine ⟨_, z, ?_⟩
 replace hst := hst.of1
 refine ws_next (pend' := []) hst (by kernel_rfl) pk_nil ?_
 refine wsr (.agg #[v5305, v5298, Zs, Zs, v5144, Zs]) 6 rfl rfl rfl (by kernel_rfl) (fun w hst => by obtain ⟨_, _, hv_, _⟩ := hst.sv3; rw [hv_]; obtain ⟨_, _, hv_, _⟩ := hst.sv1; rw [hv_]; obtain ⟨_, _, hv_, _⟩ := hst.sv0; rw [hv_]; kernel_rfl) ?_
 refine ws_e1 7 (by kernel_rfl) ?_
 refine nxe [9] (by kernel_rfl) z z ?_
 clear hst
 intro w hst
 obtain ⟨b5313, w5314, ew5315, eb5316, hst⟩ := hst.box [v5305, v5298, Zs, Zs, v5144, Zs] 73
 refine we_run (v := Pt b5313 0) (w' := w5314) z (x_al (by kernel_rfl) ew5315 eb5316) ?_
 refine ws_next (pend' := []) hst (by kernel_rfl) pk_nil ?_
 refine ws_e1 9 (by kernel_rfl) ?_
 refine nxe [] (by kernel_rfl) z z ?_
 clear hst
 intro w hst
 replace hst := hst.pull3
 obtain ⟨w5318, hr5319, hst⟩ := hst.by_ [Pt b5313 0] 0 (Pt b5313 0) sizeOf60 z (oC z oN) (by kernel_rfl)
 refine we_unit z (x_unit hr5319) ?_
 refine ws_next (pend' := []) hst (by kernel_rfl) pk_nil ?_
 refine ws_nil ?_
 intro w hst
 refine ⟨z, ?_⟩
 replace hst := hst.own_nil (tySl (tyInt .i64))
 replace hst := hst.own_nil (tySl (tyInt .i64))
 replace hst := hst.own_nil (tyInt .i64)
 replace hst := hst.pull7.pull2.pull3.pull7.pull7.pull7
 replace hst := at_label_Lattice_close (pv := Pt b5313 0) (x := ({ up := t4792, down := (List.replicate (Int.toNat ((a0).length : Int)) (0:Int)), join := [], meet := [], rank := (List.replicate (Int.toNat ((a0).length : Int)) (0:Int)), all := [] } : label_Lattice)) hst z
 replace hst := hst.pull1.keep2
 obtain rfl := some_inj hm
 exact ⟨({ up := t4792, down := (List.replicate (Int.toNat ((a0).length : Int)) (0:Int)), join := [], meet := [], rank := (List.replicate (Int.toNat ((a0).length : Int)) (0:Int)), all := [] } : label_Lattice), b5271, (Pt b5313 0), _, hx5476, (fu 0 r0_0 z (fu 4 (.int .i64 ((a0).length : Int)) z (fu 5 (Pt b5271 0) z z))), hst⟩
}
}
}
 {
 refine nxe [1, 3, 5, 6, 7, 9] (by kernel_rfl) z z ?_
 clear hst
 intro w hst
 obtain ⟨b5320, w5321, ew5322, eb5323, hst⟩ := hst.box [.pointer none] 60
 refine we_run (v := Pt b5320 0) (w' := w5321) z (x_al (by kernel_rfl) ew5322 eb5323) ?_
 refine ws_next (pend' := [(4, I6 ((a0).length : Int)), (2, I6 ((a0).length : Int)), (0, r0_0)]) hst (by kernel_rfl) (pkr z z (fun w hst => z) (pkr z z (fun w hst => z) (pkr z z (fun w hst => z) pk_nil))) ?_
 refine ws_e3 1 3 5 (by kernel_rfl) ?_ ?_ ?_
 {
 refine nxe [3, 5, 6, 7, 9] (by kernel_rfl) z z ?_
 clear hst
 intro w hst
 refine wec call44 [r0_0] z z ?_
 refine (slices_Clone_uint64_uint64_ref (f0_0.mono (rd_weak _)) hst.to0 ht4793).mono ?_
 rintro _ w5325 ⟨v5328, rfl, hst⟩
 refine ⟨_, z, ?_⟩
 replace hst := hst.of1
 refine ws_next (pend' := [(4, I6 ((a0).length : Int)), (2, I6 ((a0).length : Int))]) hst (by kernel_rfl) (pkr z z (fun w hst => z) (pkr z z (fun w hst => z) pk_nil)) ?_
 refine ws_e2 3 5 (by kernel_rfl) ?_ ?_
 {
 refine nxe [5, 6, 7, 9] (by kernel_rfl) z z ?_
 clear hst
 intro w hst
 obtain ⟨v5330, w5331, hr5332, hst⟩ := run_mk (k := .i64) (k' := .i64) (zm := (0:Int)) elem_25 hst hg4794 (by decide) z
 refine we_run (v := v5330) (w' := w5331) z (x_make z z hr5332) ?_
 refine ws_next (pend' := [(4, I6 ((a0).length : Int))]) hst (by kernel_rfl) (pkr z z (fun w hst => z) pk_nil) ?_
 refine ws_e1 5 (by kernel_rfl) ?_
 refine nxe [6, 7, 9] (by kernel_rfl) z z ?_
 clear hst
 intro w hst
 obtain ⟨v5334, w5335, hr5336, hst⟩ := run_mk (k := .i64) (k' := .i64) (zm := (0:Int)) elem_46 hst hg4795 (by decide) z
 refine we_run (v := v5334) (w' := w5335) z (x_make z z hr5336) ?_
 refine ws_next (pend' := []) hst (by kernel_rfl) pk_nil ?_
 refine wsr (.agg #[v5328, v5330, Zs, Zs, v5334, Zs]) 6 rfl rfl rfl (by kernel_rfl) (fun w hst => by obtain ⟨_, _, hv_, _⟩ := hst.sv0; rw [hv_]; obtain ⟨_, _, hv_, _⟩ := hst.sv1; rw [hv_]; obtain ⟨_, _, hv_, _⟩ := hst.sv2; rw [hv_]; kernel_rfl) ?_
 refine ws_e1 7 (by kernel_rfl) ?_
 refine nxe [9] (by kernel_rfl) z z ?_
 clear hst
 intro w hst
 obtain ⟨b5344, w5345, ew5346, eb5347, hst⟩ := hst.box [v5328, v5330, Zs, Zs, v5334, Zs] 73
 refine we_run (v := Pt b5344 0) (w' := w5345) z (x_al (by kernel_rfl) ew5346 eb5347) ?_
 refine ws_next (pend' := []) hst (by kernel_rfl) pk_nil ?_
 refine ws_e1 9 (by kernel_rfl) ?_
 refine nxe [] (by kernel_rfl) z z ?_
 clear hst
 intro w hst
 replace hst := hst.pull4
 obtain ⟨w5349, hr5350, hst⟩ := hst.by_ [Pt b5344 0] 0 (Pt b5344 0) sizeOf60 z (oC z oN) (by kernel_rfl)
 refine we_unit z (x_unit hr5350) ?_
 refine ws_next (pend' := []) hst (by kernel_rfl) pk_nil ?_
 refine ws_nil ?_
 intro w hst
 refine ⟨z, ?_⟩
 replace hst := hst.own_nil (tySl (tyInt .i64))
 replace hst := hst.own_nil (tySl (tyInt .i64))
 replace hst := hst.own_nil (tyInt .i64)
 replace hst := hst.pull5.pull2.pull3.pull6.pull7.pull7
 replace hst := at_label_Lattice_close (pv := Pt b5344 0) (x := ({ up := t4792, down := (List.replicate (Int.toNat ((a0).length : Int)) (0:Int)), join := [], meet := [], rank := (List.replicate (Int.toNat ((a0).length : Int)) (0:Int)), all := [] } : label_Lattice)) hst z
 replace hst := hst.pull1.keep2
 obtain rfl := some_inj hm
 exact ⟨({ up := t4792, down := (List.replicate (Int.toNat ((a0).length : Int)) (0:Int)), join := [], meet := [], rank := (List.replicate (Int.toNat ((a0).length : Int)) (0:Int)), all := [] } : label_Lattice), b5320, (Pt b5344 0), _, hx5476, (fu 0 r0_0 z (fu 4 (.int .i64 ((a0).length : Int)) z (fu 5 (Pt b5320 0) z z))), hst⟩
}
 {
 refine nxe [3, 6, 7, 9] (by kernel_rfl) z z ?_
 clear hst
 intro w hst
 obtain ⟨v5351, w5352, hr5353, hst⟩ := run_mk (k := .i64) (k' := .i64) (zm := (0:Int)) elem_46 hst hg4795 (by decide) z
 refine we_run (v := v5351) (w' := w5352) z (x_make z z hr5353) ?_
 refine ws_next (pend' := [(2, I6 ((a0).length : Int))]) hst (by kernel_rfl) (pkr z z (fun w hst => z) pk_nil) ?_
 refine ws_e1 3 (by kernel_rfl) ?_
 refine nxe [6, 7, 9] (by kernel_rfl) z z ?_
 clear hst
 intro w hst
 obtain ⟨v5355, w5356, hr5357, hst⟩ := run_mk (k := .i64) (k' := .i64) (zm := (0:Int)) elem_25 hst hg4794 (by decide) z
 refine we_run (v := v5355) (w' := w5356) z (x_make z z hr5357) ?_
 refine ws_next (pend' := []) hst (by kernel_rfl) pk_nil ?_
 refine wsr (.agg #[v5328, v5355, Zs, Zs, v5351, Zs]) 6 rfl rfl rfl (by kernel_rfl) (fun w hst => by obtain ⟨_, _, hv_, _⟩ := hst.sv1; rw [hv_]; obtain ⟨_, _, hv_, _⟩ := hst.sv0; rw [hv_]; obtain ⟨_, _, hv_, _⟩ := hst.sv2; rw [hv_]; kernel_rfl) ?_
 refine ws_e1 7 (by kernel_rfl) ?_
 refine nxe [9] (by kernel_rfl) z z ?_
 clear hst
 intro w hst
 obtain ⟨b5365, w5366, ew5367, eb5368, hst⟩ := hst.box [v5328, v5355, Zs, Zs, v5351, Zs] 73
 refine we_run (v := Pt b5365 0) (w' := w5366) z (x_al (by kernel_rfl) ew5367 eb5368) ?_
 refine ws_next (pend' := []) hst (by kernel_rfl) pk_nil ?_
 refine ws_e1 9 (by kernel_rfl) ?_
 refine nxe [] (by kernel_rfl) z z ?_
 clear hst
 intro w hst
 replace hst := hst.pull4
 obtain ⟨w5370, hr5371, hst⟩ := hst.by_ [Pt b5365 0] 0 (Pt b5365 0) sizeOf60 z (oC z oN) (by kernel_rfl)
 refine we_unit z (x_unit hr5371) ?_
 refine ws_next (pend' := []) hst (by kernel_rfl) pk_nil ?_
 refine ws_nil ?_
 intro w hst
 refine ⟨z, ?_⟩
 replace hst := hst.own_nil (tySl (tyInt .i64))
 replace hst := hst.own_nil (tySl (tyInt .i64))
 replace hst := hst.own_nil (tyInt .i64)
 replace hst := hst.pull6.pull2.pull3.pull6.pull7.pull7
 replace hst := at_label_Lattice_close (pv := Pt b5365 0) (x := ({ up := t4792, down := (List.replicate (Int.toNat ((a0).length : Int)) (0:Int)), join := [], meet := [], rank := (List.replicate (Int.toNat ((a0).length : Int)) (0:Int)), all := [] } : label_Lattice)) hst z
 replace hst := hst.pull1.keep2
 obtain rfl := some_inj hm
 exact ⟨({ up := t4792, down := (List.replicate (Int.toNat ((a0).length : Int)) (0:Int)), join := [], meet := [], rank := (List.replicate (Int.toNat ((a0).length : Int)) (0:Int)), all := [] } : label_Lattice), b5320, (Pt b5365 0), _, hx5476, (fu 0 r0_0 z (fu 4 (.int .i64 ((a0).length : Int)) z (fu 5 (Pt b5320 0) z z))), hst⟩
}
}
 {
 refine nxe [1, 5, 6, 7, 9] (by kernel_rfl) z z ?_
 clear hst
 intro w hst
 obtain ⟨v5372, w5373, hr5374, hst⟩ := run_mk (k := .i64) (k' := .i64) (zm := (0:Int)) elem_25 hst hg4794 (by decide) z
 refine we_run (v := v5372) (w' := w5373) z (x_make z z hr5374) ?_
 refine ws_next (pend' := [(4, I6 ((a0).length : Int)), (0, r0_0)]) hst (by kernel_rfl) (pkr z z (fun w hst => z) (pkr z z (fun w hst => z) pk_nil)) ?_
 refine ws_e2 1 5 (by kernel_rfl) ?_ ?_
 {
 refine nxe [5, 6, 7, 9] (by kernel_rfl) z z ?_
 clear hst
 intro w hst
 refine wec call44 [r0_0] z z ?_
 refine (slices_Clone_uint64_uint64_ref (f0_0.mono (rd_weak _)) hst.to0 ht4793).mono ?_
 rintro _ w5376 ⟨v5379, rfl, hst⟩
 refine ⟨_, z, ?_⟩
 replace hst := hst.of1
 refine ws_next (pend' := [(4, I6 ((a0).length : Int))]) hst (by kernel_rfl) (pkr z z (fun w hst => z) pk_nil) ?_
 refine ws_e1 5 (by kernel_rfl) ?_
 refine nxe [6, 7, 9] (by kernel_rfl) z z ?_
 clear hst
 intro w hst
 obtain ⟨v5381, w5382, hr5383, hst⟩ := run_mk (k := .i64) (k' := .i64) (zm := (0:Int)) elem_46 hst hg4795 (by decide) z
 refine we_run (v := v5381) (w' := w5382) z (x_make z z hr5383) ?_
 refine ws_next (pend' := []) hst (by kernel_rfl) pk_nil ?_
 refine wsr (.agg #[v5379, v5372, Zs, Zs, v5381, Zs]) 6 rfl rfl rfl (by kernel_rfl) (fun w hst => by obtain ⟨_, _, hv_, _⟩ := hst.sv0; rw [hv_]; obtain ⟨_, _, hv_, _⟩ := hst.sv2; rw [hv_]; obtain ⟨_, _, hv_, _⟩ := hst.sv1; rw [hv_]; kernel_rfl) ?_
 refine ws_e1 7 (by kernel_rfl) ?_
 refine nxe [9] (by kernel_rfl) z z ?_
 clear hst
 intro w hst
 obtain ⟨b5391, w5392, ew5393, eb5394, hst⟩ := hst.box [v5379, v5372, Zs, Zs, v5381, Zs] 73
 refine we_run (v := Pt b5391 0) (w' := w5392) z (x_al (by kernel_rfl) ew5393 eb5394) ?_
 refine ws_next (pend' := []) hst (by kernel_rfl) pk_nil ?_
 refine ws_e1 9 (by kernel_rfl) ?_
 refine nxe [] (by kernel_rfl) z z ?_
 clear hst
 intro w hst
 replace hst := hst.pull4
 obtain ⟨w5396, hr5397, hst⟩ := hst.by_ [Pt b5391 0] 0 (Pt b5391 0) sizeOf60 z (oC z oN) (by kernel_rfl)
 refine we_unit z (x_unit hr5397) ?_
 refine ws_next (pend' := []) hst (by kernel_rfl) pk_nil ?_
 refine ws_nil ?_
 intro w hst
 refine ⟨z, ?_⟩
 replace hst := hst.own_nil (tySl (tyInt .i64))
 replace hst := hst.own_nil (tySl (tyInt .i64))
 replace hst := hst.own_nil (tyInt .i64)
 replace hst := hst.pull5.pull2.pull3.pull7.pull7.pull7
 replace hst := at_label_Lattice_close (pv := Pt b5391 0) (x := ({ up := t4792, down := (List.replicate (Int.toNat ((a0).length : Int)) (0:Int)), join := [], meet := [], rank := (List.replicate (Int.toNat ((a0).length : Int)) (0:Int)), all := [] } : label_Lattice)) hst z
 replace hst := hst.pull1.keep2
 obtain rfl := some_inj hm
 exact ⟨({ up := t4792, down := (List.replicate (Int.toNat ((a0).length : Int)) (0:Int)), join := [], meet := [], rank := (List.replicate (Int.toNat ((a0).length : Int)) (0:Int)), all := [] } : label_Lattice), b5320, (Pt b5391 0), _, hx5476, (fu 0 r0_0 z (fu 4 (.int .i64 ((a0).length : Int)) z (fu 5 (Pt b5320 0) z z))), hst⟩
}
 {
 refine nxe [1, 6, 7, 9] (by kernel_rfl) z z ?_
 clear hst
 intro w hst
 obtain ⟨v5398, w5399, hr5400, hst⟩ := run_mk (k := .i64) (k' := .i64) (zm := (0:Int)) elem_46 hst hg4795 (by decide) z
 refine we_run (v := v5398) (w' := w5399) z (x_make z z hr5400) ?_
 refine ws_next (pend' := [(0, r0_0)]) hst (by kernel_rfl) (pkr z z (fun w hst => z) pk_nil) ?_
 refine ws_e1 1 (by kernel_rfl) ?_
 refine nxe [6, 7, 9] (by kernel_rfl) z z ?_
 clear hst
 intro w hst
 refine wec call44 [r0_0] z z ?_
 refine (slices_Clone_uint64_uint64_ref (f0_0.mono (rd_weak _)) hst.to0 ht4793).mono ?_
 rintro _ w5402 ⟨v5405, rfl, hst⟩
 refine ⟨_, z, ?_⟩
 replace hst := hst.of1
 refine ws_next (pend' := []) hst (by kernel_rfl) pk_nil ?_
 refine wsr (.agg #[v5405, v5372, Zs, Zs, v5398, Zs]) 6 rfl rfl rfl (by kernel_rfl) (fun w hst => by obtain ⟨_, _, hv_, _⟩ := hst.sv1; rw [hv_]; obtain ⟨_, _, hv_, _⟩ := hst.sv2; rw [hv_]; obtain ⟨_, _, hv_, _⟩ := hst.sv0; rw [hv_]; kernel_rfl) ?_
 refine ws_e1 7 (by kernel_rfl) ?_
 refine nxe [9] (by kernel_rfl) z z ?_
 clear hst
 intro w hst
 obtain ⟨b5413, w5414, ew5415, eb5416, hst⟩ := hst.box [v5405, v5372, Zs, Zs, v5398, Zs] 73
 refine we_run (v := Pt b5413 0) (w' := w5414) z (x_al (by kernel_rfl) ew5415 eb5416) ?_
 refine ws_next (pend' := []) hst (by kernel_rfl) pk_nil ?_
 refine ws_e1 9 (by kernel_rfl) ?_
 refine nxe [] (by kernel_rfl) z z ?_
 clear hst
 intro w hst
 replace hst := hst.pull4
 obtain ⟨w5418, hr5419, hst⟩ := hst.by_ [Pt b5413 0] 0 (Pt b5413 0) sizeOf60 z (oC z oN) (by kernel_rfl)
 refine we_unit z (x_unit hr5419) ?_
 refine ws_next (pend' := []) hst (by kernel_rfl) pk_nil ?_
 refine ws_nil ?_
 intro w hst
 refine ⟨z, ?_⟩
 replace hst := hst.own_nil (tySl (tyInt .i64))
 replace hst := hst.own_nil (tySl (tyInt .i64))
 replace hst := hst.own_nil (tyInt .i64)
 replace hst := hst.pull6.pull2.pull3.pull7.pull7.pull7
 replace hst := at_label_Lattice_close (pv := Pt b5413 0) (x := ({ up := t4792, down := (List.replicate (Int.toNat ((a0).length : Int)) (0:Int)), join := [], meet := [], rank := (List.replicate (Int.toNat ((a0).length : Int)) (0:Int)), all := [] } : label_Lattice)) hst z
 replace hst := hst.pull1.keep2
 obtain rfl := some_inj hm
 exact ⟨({ up := t4792, down := (List.replicate (Int.toNat ((a0).length : Int)) (0:Int)), join := [], meet := [], rank := (List.replicate (Int.toNat ((a0).length : Int)) (0:Int)), all := [] } : label_Lattice), b5320, (Pt b5413 0), _, hx5476, (fu 0 r0_0 z (fu 4 (.int .i64 ((a0).length : Int)) z (fu 5 (Pt b5320 0) z z))), hst⟩
}
}
 {
 refine nxe [1, 3, 6, 7, 9] (by kernel_rfl) z z ?_
 clear hst
 intro w hst
 obtain ⟨v5420, w5421, hr5422, hst⟩ := run_mk (k := .i64) (k' := .i64) (zm := (0:Int)) elem_46 hst hg4795 (by decide) z
 refine we_run (v := v5420) (w' := w5421) z (x_make z z hr5422) ?_
 refine ws_next (pend' := [(2, I6 ((a0).length : Int)), (0, r0_0)]) hst (by kernel_rfl) (pkr z z (fun w hst => z) (pkr z z (fun w hst => z) pk_nil)) ?_
 refine ws_e2 1 3 (by kernel_rfl) ?_ ?_
 {
 refine nxe [3, 6, 7, 9] (by kernel_rfl) z z ?_
 clear hst
 intro w hst
 refine wec call44 [r0_0] z z ?_
 refine (slices_Clone_uint64_uint64_ref (f0_0.mono (rd_weak _)) hst.to0 ht4793).mono ?_
 rintro _ w5424 ⟨v5427, rfl, hst⟩
 refine ⟨_, z, ?_⟩
 replace hst := hst.of1
 refine ws_next (pend' := [(2, I6 ((a0).length : Int))]) hst (by kernel_rfl) (pkr z z (fun w hst => z) pk_nil) ?_
 refine ws_e1 3 (by kernel_rfl) ?_
 refine nxe [6, 7, 9] (by kernel_rfl) z z ?_
 clear hst
 intro w hst
 obtain ⟨v5429, w5430, hr5431, hst⟩ := run_mk (k := .i64) (k' := .i64) (zm := (0:Int)) elem_25 hst hg4794 (by decide) z
 refine we_run (v := v5429) (w' := w5430) z (x_make z z hr5431) ?_
 refine ws_next (pend' := []) hst (by kernel_rfl) pk_nil ?_
 refine wsr (.agg #[v5427, v5429, Zs, Zs, v5420, Zs]) 6 rfl rfl rfl (by kernel_rfl) (fun w hst => by obtain ⟨_, _, hv_, _⟩ := hst.sv2; rw [hv_]; obtain ⟨_, _, hv_, _⟩ := hst.sv0; rw [hv_]; obtain ⟨_, _, hv_, _⟩ := hst.sv1; rw [hv_]; kernel_rfl) ?_
 refine ws_e1 7 (by kernel_rfl) ?_
 refine nxe [9] (by kernel_rfl) z z ?_
 clear hst
 intro w hst
 obtain ⟨b5439, w5440, ew5441, eb5442, hst⟩ := hst.box [v5427, v5429, Zs, Zs, v5420, Zs] 73
 refine we_run (v := Pt b5439 0) (w' := w5440) z (x_al (by kernel_rfl) ew5441 eb5442) ?_
 refine ws_next (pend' := []) hst (by kernel_rfl) pk_nil ?_
 refine ws_e1 9 (by kernel_rfl) ?_
 refine nxe [] (by kernel_rfl) z z ?_
 clear hst
 intro w hst
 replace hst := hst.pull4
 obtain ⟨w5444, hr5445, hst⟩ := hst.by_ [Pt b5439 0] 0 (Pt b5439 0) sizeOf60 z (oC z oN) (by kernel_rfl)
 refine we_unit z (x_unit hr5445) ?_
 refine ws_next (pend' := []) hst (by kernel_rfl) pk_nil ?_
 refine ws_nil ?_
 intro w hst
 refine ⟨z, ?_⟩
 replace hst := hst.own_nil (tySl (tyInt .i64))
 replace hst := hst.own_nil (tySl (tyInt .i64))
 replace hst := hst.own_nil (tyInt .i64)
 replace hst := hst.pull7.pull2.pull3.pull6.pull7.pull7
 replace hst := at_label_Lattice_close (pv := Pt b5439 0) (x := ({ up := t4792, down := (List.replicate (Int.toNat ((a0).length : Int)) (0:Int)), join := [], meet := [], rank := (List.replicate (Int.toNat ((a0).length : Int)) (0:Int)), all := [] } : label_Lattice)) hst z
 replace hst := hst.pull1.keep2
 obtain rfl := some_inj hm
 exact ⟨({ up := t4792, down := (List.replicate (Int.toNat ((a0).length : Int)) (0:Int)), join := [], meet := [], rank := (List.replicate (Int.toNat ((a0).length : Int)) (0:Int)), all := [] } : label_Lattice), b5320, (Pt b5439 0), _, hx5476, (fu 0 r0_0 z (fu 4 (.int .i64 ((a0).length : Int)) z (fu 5 (Pt b5320 0) z z))), hst⟩
}
 {
 refine nxe [1, 6, 7, 9] (by kernel_rfl) z z ?_
 clear hst
 intro w hst
 obtain ⟨v5446, w5447, hr5448, hst⟩ := run_mk (k := .i64) (k' := .i64) (zm := (0:Int)) elem_25 hst hg4794 (by decide) z
 refine we_run (v := v5446) (w' := w5447) z (x_make z z hr5448) ?_
 refine ws_next (pend' := [(0, r0_0)]) hst (by kernel_rfl) (pkr z z (fun w hst => z) pk_nil) ?_
 refine ws_e1 1 (by kernel_rfl) ?_
 refine nxe [6, 7, 9] (by kernel_rfl) z z ?_
 clear hst
 intro w hst
 refine wec call44 [r0_0] z z ?_
 refine (slices_Clone_uint64_uint64_ref (f0_0.mono (rd_weak _)) hst.to0 ht4793).mono ?_
 rintro _ w5450 ⟨v5453, rfl, hst⟩
 refine ⟨_, z, ?_⟩
 replace hst := hst.of1
 refine ws_next (pend' := []) hst (by kernel_rfl) pk_nil ?_
 refine wsr (.agg #[v5453, v5446, Zs, Zs, v5420, Zs]) 6 rfl rfl rfl (by kernel_rfl) (fun w hst => by obtain ⟨_, _, hv_, _⟩ := hst.sv2; rw [hv_]; obtain ⟨_, _, hv_, _⟩ := hst.sv1; rw [hv_]; obtain ⟨_, _, hv_, _⟩ := hst.sv0; rw [hv_]; kernel_rfl) ?_
 refine ws_e1 7 (by kernel_rfl) ?_
 refine nxe [9] (by kernel_rfl) z z ?_
 clear hst
 intro w hst
 obtain ⟨b5461, w5462, ew5463, eb5464, hst⟩ := hst.box [v5453, v5446, Zs, Zs, v5420, Zs] 73
 refine we_run (v := Pt b5461 0) (w' := w5462) z (x_al (by kernel_rfl) ew5463 eb5464) ?_
 refine ws_next (pend' := []) hst (by kernel_rfl) pk_nil ?_
 refine ws_e1 9 (by kernel_rfl) ?_
 refine nxe [] (by kernel_rfl) z z ?_
 clear hst
 intro w hst
 replace hst := hst.pull4
 obtain ⟨w5466, hr5467, hst⟩ := hst.by_ [Pt b5461 0] 0 (Pt b5461 0) sizeOf60 z (oC z oN) (by kernel_rfl)
 refine we_unit z (x_unit hr5467) ?_
 refine ws_next (pend' := []) hst (by kernel_rfl) pk_nil ?_
 refine ws_nil ?_
 intro w hst
 refine ⟨z, ?_⟩
 replace hst := hst.own_nil (tySl (tyInt .i64))
 replace hst := hst.own_nil (tySl (tyInt .i64))
 replace hst := hst.own_nil (tyInt .i64)
 replace hst := hst.pull7.pull2.pull3.pull7.pull7.pull7
 replace hst := at_label_Lattice_close (pv := Pt b5461 0) (x := ({ up := t4792, down := (List.replicate (Int.toNat ((a0).length : Int)) (0:Int)), join := [], meet := [], rank := (List.replicate (Int.toNat ((a0).length : Int)) (0:Int)), all := [] } : label_Lattice)) hst z
 replace hst := hst.pull1.keep2
 obtain rfl := some_inj hm
 exact ⟨({ up := t4792, down := (List.replicate (Int.toNat ((a0).length : Int)) (0:Int)), join := [], meet := [], rank := (List.replicate (Int.toNat ((a0).length : Int)) (0:Int)), all := [] } : label_Lattice), b5320, (Pt b5461 0), _, hx5476, (fu 0 r0_0 z (fu 4 (.int .i64 ((a0).length : Int)) z (fu 5 (Pt b5320 0) z z))), hst⟩
}
}
}
}
 {
 clear hst
 rintro _ w5477 ⟨z5472, b5469, v5471, σ5473, hm, rfl, hst⟩
 dsimp only [label_New_j0] at hm
 refine tn (wp_seq (wp_seq (wrl (wv (v5471) z z (x_load z isAgg60 (hst.bc0 z)) ?_))))
 replace hst := hst.pull1
 replace hst := objO_some hst
 obtain ⟨t5478, ht5479, hm⟩ := bind_some hm
 refine wc call45 [v5471] z z z ?_
 refine (label_Lattice_orders_ref hst.to1 ht5479).mono ?_
 rintro _ w5480 ⟨rfl, hst⟩
 refine ⟨_, z, ?_⟩
 replace hst := hst.of1
 replace hst := objO_get hst
 refine wv (.bool (!t5478)) z z z (wl_nil (tn ?_))
 refine bsplit (!t5478) (fun hc5483 => ?_) (fun hc5483 => ?_)
 {
 replace hm := bif_t hc5483 hm
 refine wp_ift (cvb hc5483) ?_
 refine wp_seq (wrl (wv (.pointer none) z z z (wv (.int .i64 (15:Int)) z z z (wl_nil (tn (wp_ret (then_r ?_)))))))
 replace hst := hst.objO_nil at_label_Lattice
 obtain rfl := some_inj hm
 refine post_ret (vs := [.pointer none, I6 (15:Int)]) results34 (rvs_cons (rv_tmp z) (rvs_cons (rv_tmp z) rvs_nil)) ?_
 exact ⟨_, .pointer none, z, hI0, hst.keep1⟩
}
 {
 replace hm := bif_f hc5483 hm
 refine wp_iff (cvb hc5483) ?_
 refine wp_skip (tn ?_)
 obtain ⟨y5781, hm, hx5782⟩ := bind_some hm
 refine wp_cut (fun a w => ∃ (z5778 : label_Lattice) (σ5779 : Nat → Value), (label_New_j1 a0) z5778 = some r ∧ a = Fr 192 (upd (upd σ5779 4 (.int .i64 ((a0).length : Int))) 5 (Pt b5469 0)) ∧ St w0 w I [cells b5469 [v5471], at_label_Lattice v5471 z5778] R) ?_ ?_
 {
 refine wp_seq (wrl (wv (r0_0) z z z (wv (.int .i64 ((a0).length : Int)) z z (x_len z underlying25 (rd_sliceV f0_0)) (wv (.int .i64 (0:Int)) z z z (wl_nil (tn (wp_block ?_)))))))
 obtain ⟨n5676, hm⟩ := loopO_some hm
 refine wp_loop_n (fun n a w => ∃ (z5673 : label_Lattice) (z5674 : Int) (σ5675 : Nat → Value), loopN (label_New_l2 a0) n (z5673, z5674) = some y5781 ∧ a = Fr 192 (upd (upd (upd (upd (upd σ5675 4 (.int .i64 ((a0).length : Int))) 5 (Pt b5469 0)) 38 (r0_0)) 39 (.int .i64 ((a0).length : Int))) 40 (.int .i64 z5674)) ∧ St w0 w I [at_label_Lattice v5471 z5673, cells b5469 [v5471]] R) n5676 ⟨z5472, (0:Int), _, hm, (fu 4 (.int .i64 ((a0).length : Int)) z (fu 5 (Pt b5469 0) z (fu 38 r0_0 z (fu 39 (.int .i64 ((a0).length : Int)) z (fu 40 (.int .i64 (0:Int)) z z))))), hst⟩ ?_
 rintro n5682 _ w5677 ⟨z5673, z5674, σ5675, hm, rfl, hst⟩
 obtain ⟨n5679, y5680, rfl, hm, hx5681⟩ := loopN_some hm
 dsimp only [label_New_l2] at hm
 refine wp_seq (wrl (wv (.bool (decide (z5674 < ((a0).length : Int)))) z z z (wl_nil (tn (wp_seq ?_)))))
 refine bsplit (decide (z5674 < ((a0).length : Int))) (fun hc5683 => ?_) (fun hc5683 => ?_)
 {
 replace hm := bif_t hc5683 hm
 refine wp_ift (cvb hc5683) ?_
 refine wp_skip (tn (wp_seq (wp_block (wp_seq (wrl ?_)))))
 refine wv (.int .i64 z5674) z z z ?_
 obtain ⟨x5684, hx5685, hm⟩ := bind_some hm
 obtain ⟨h5686, h5687, hi5688⟩ := geto_some hx5685
 refine wv (.pointer (some (eAddr r0_0 (z5674.toNat * 1 + 0)))) z z (x_index z z underlying25 sizeOf22 (rd_sliceV f0_0) h5686 h5687) (wv (.int .u64 x5684) z z (x_load z isAgg22 (rd_load f0_0 (HL.le.refl _) hst hi5688 (by rintro _ rfl; rfl))) (wv (.int .i64 z5674) z z z (wv (.int .u64 x5684) z z z (wl_nil (tn (wp_seq (wrl (wv (.int .i64 ((a0).length : Int)) z z z (wv (.int .i64 (0:Int)) z z z (wl_nil (tn (wp_block ?_))))))))))))
 obtain ⟨n5745, hm⟩ := loopO_some hm
 refine wp_loop_n (fun n a w => ∃ (z5742 : label_Lattice) (z5743 : Int) (σ5744 : Nat → Value), loopN (label_New_l3 a0 x5684 z5674) n (z5742, z5743) = some y5680 ∧ a = Fr 192 (upd (upd (upd (upd (upd (upd (upd (upd (upd σ5744 4 (.int .i64 ((a0).length : Int))) 5 (Pt b5469 0)) 6 (.int .i64 z5674)) 7 (.int .u64 x5684)) 38 (r0_0)) 39 (.int .i64 ((a0).length : Int))) 40 (.int .i64 z5674)) 45 (.int .i64 ((a0).length : Int))) 46 (.int .i64 z5743)) ∧ St w0 w I [at_label_Lattice v5471 z5742, cells b5469 [v5471]] R) n5745 ⟨z5673, (0:Int), _, hm, (fu 4 (.int .i64 ((a0).length : Int)) z (fu 5 (Pt b5469 0) z (fu 6 (.int .i64 z5674) z (fu 7 (.int .u64 x5684) z (fu 38 r0_0 z (fu 39 (.int .i64 ((a0).length : Int)) z (fu 40 (.int .i64 z5674) z (fu 45 (.int .i64 ((a0).length : Int)) z (fu 46 (.int .i64 (0:Int)) z z))))))))), hst⟩ ?_
 rintro n5751 _ w5746 ⟨z5742, z5743, σ5744, hm, rfl, hst⟩
 obtain ⟨n5748, y5749, rfl, hm, hx5750⟩ := loopN_some hm
 dsimp only [label_New_l3] at hm
 refine wp_seq (wrl (wv (.bool (decide (z5743 < ((a0).length : Int)))) z z z (wl_nil (tn (wp_seq ?_)))))
 refine bsplit (decide (z5743 < ((a0).length : Int))) (fun hc5752 => ?_) (fun hc5752 => ?_)
 {
 replace hm := bif_t hc5752 hm
 refine wp_ift (cvb hc5752) ?_
 refine wp_skip (tn (wp_seq (wp_block (wp_seq (wrl ?_)))))
 refine wv (.int .i64 z5743) z z z (wv (.int .i64 z5743) z z z (wl_nil (tn (wp_seq (wrl (wv (.int .u64 x5684) z z z (wv (.int .i64 z5743) z z z ?_)))))))
 obtain ⟨hg5753, hm⟩ := gd_some hm
 refine wv (.int .u64 (iShr .u64 x5684 z5743)) z z (x_shr (of_decide_eq_true hg5753) z z) (wv (.int .u64 (bAnd .u64 (iShr .u64 x5684 z5743) (1:Int))) z z z (wv (.bool ((bAnd .u64 (iShr .u64 x5684 z5743) (1:Int)) == (1:Int))) z z z (wl_nil (tn ?_))))
 refine bsplit ((bAnd .u64 (iShr .u64 x5684 z5743) (1:Int)) == (1:Int)) (fun hc5754 => ?_) (fun hc5754 => ?_)
 {
 replace hm := bif_t hc5754 hm
 refine wp_ift (cvb hc5754) ?_
 obtain ⟨b5755, v5756, v5758, v5760, v5762, v5764, v5766, rfl, hst'⟩ := at_label_Lattice_open hst
 clear hst
 have hst := hst'
 clear hst'
 refine wp_region_St hst 12 [0, 1, 2, 3, 4, 5, 6, 7, 8, 9, 10, 11] [0, 1, 3, 7, 0, 31, 63, 0, 128, 511, 1023, 2047] [] z (by kernel_rfl) (by kernel_rfl) Try.mixed (by kernel_rfl) ?_
 refine wsr (Pt b5755 0) 0 z z z (by kernel_rfl) (fun w hst => x_load z isAgg60 (hst.bc7 z)) (wsr (Pt b5755 0) 1 z z z (by kernel_rfl) (fun w hst => z) (wsr (Pt b5755 1) 2 z z z (by kernel_rfl) (fun w hst => x_field z underlying73 z sizeOf25 z) (wsr (v5758) 3 z z z (by kernel_rfl) (fun w hst => x_load z isAgg25 (hst.bc0 z)) (wsr (.int .i64 z5743) 4 z z z (by kernel_rfl) (fun w hst => z) ?_))))
 obtain ⟨x5768, hx5769, hm⟩ := bind_some hm
 obtain ⟨h5770, h5771, hi5772⟩ := geto_some hx5769
 refine wsr (.pointer (some (eAddr v5758 (z5743.toNat * 1 + 0)))) 5 z z z (by kernel_rfl) (fun w hst => x_index z z underlying25 sizeOf22 hst.sv2 h5770 h5771) (wsr (.int .u64 x5768) 6 z z z (by kernel_rfl) (fun w hst => x_load z isAgg22 (hst.ol2 hi5772 (by rintro _ rfl; rfl))) (wsr (.int .i64 z5674) 7 z z z (by kernel_rfl) (fun w hst => z) ?_))
 obtain ⟨hg5773, hm⟩ := gd_some hm
 refine wsr (.int .u64 (iShl .u64 (1:Int) z5674)) 8 z z z (by kernel_rfl) (fun w hst => x_shl (of_decide_eq_true hg5773) z z) (wsr (.int .u64 (bOr .u64 x5768 (iShl .u64 (1:Int) z5674))) 9 z z z (by kernel_rfl) (fun w hst => z) (wsr (.pointer (some (eAddr v5758 (z5743.toNat * 1 + 0)))) 10 z z z (by kernel_rfl) (fun w hst => x_index z z underlying25 sizeOf22 hst.sv2 h5770 h5771) ?_))
 refine ws_e1 11 (by kernel_rfl) ?_
 refine nxe [] (by kernel_rfl) z z ?_
 clear hst
 intro w hst
 replace hst := hst.pull2
 obtain ⟨w5774, hr5775, hst⟩ := hst.own_store (P := prog) (t := 22) (y := (bOr .u64 x5768 (iShl .u64 (1:Int) z5674))) hi5772 0 (.int .u64 (bOr .u64 x5768 (iShl .u64 (1:Int) z5674))) sizeOf22 (Nat.le_of_ble_eq_true z) (oC z oN) (by rintro _ rfl; rfl)
 have hi5776 := set_get hi5772 (bOr .u64 x5768 (iShl .u64 (1:Int) z5674))
 have h5777 := set_lt h5771 z5743.toNat (bOr .u64 x5768 (iShl .u64 (1:Int) z5674))
 refine we_unit z (x_unit hr5775) ?_
 refine ws_next (pend' := []) hst (by kernel_rfl) pk_nil ?_
 refine ws_nil ?_
 intro w hst
 refine blk_n (tn (wrl ?_))
 refine wv (.int .i64 (i64.wrap (z5743 + (1:Int)))) z z z (wv (.int .i64 (i64.wrap (z5743 + (1:Int)))) z z z (wl_nil (tn ?_)))
 replace hst := hst.pull6.pull6.pull6.pull6.pull4.pull6.pull6
 replace hst := at_label_Lattice_close (pv := Pt b5755 0) (x := ({ up := z5742.up, down := (z5742.down.set z5743.toNat (bOr .u64 x5768 (iShl .u64 (1:Int) z5674))), join := z5742.join, meet := z5742.meet, rank := z5742.rank, all := z5742.all } : label_Lattice)) hst z
 replace hst := hst.pull1.pull1.keep2
 obtain rfl := some_inj hm
 exact ⟨_, Nat.lt_succ_self _, ({ up := z5742.up, down := (z5742.down.set z5743.toNat (bOr .u64 x5768 (iShl .u64 (1:Int) z5674))), join := z5742.join, meet := z5742.meet, rank := z5742.rank, all := z5742.all } : label_Lattice), (i64.wrap (z5743 + (1:Int))), _, hx5750, (fu 4 (.int .i64 ((a0).length : Int)) z (fu 5 (Pt b5469 0) z (fu 6 (.int .i64 z5674) z (fu 7 (.int .u64 x5684) z (fu 38 r0_0 z (fu 39 (.int .i64 ((a0).length : Int)) z (fu 40 (.int .i64 z5674) z (fu 45 (.int .i64 ((a0).length : Int)) z (fu 46 (.int .i64 (i64.wrap (z5743 + (1:Int)))) z z))))))))), hst⟩
}
 {
 replace hm := bif_f hc5754 hm
 refine wp_iff (cvb hc5754) ?_
 refine wp_skip (blk_n (tn (wrl ?_)))
 refine wv (.int .i64 (i64.wrap (z5743 + (1:Int)))) z z z (wv (.int .i64 (i64.wrap (z5743 + (1:Int)))) z z z (wl_nil (tn ?_)))
 replace hst := hst.pull1.pull1.keep2
 obtain rfl := some_inj hm
 exact ⟨_, Nat.lt_succ_self _, z5742, (i64.wrap (z5743 + (1:Int))), _, hx5750, (fu 4 (.int .i64 ((a0).length : Int)) z (fu 5 (Pt b5469 0) z (fu 6 (.int .i64 z5674) z (fu 7 (.int .u64 x5684) z (fu 38 r0_0 z (fu 39 (.int .i64 ((a0).length : Int)) z (fu 40 (.int .i64 z5674) z (fu 45 (.int .i64 ((a0).length : Int)) z (fu 46 (.int .i64 (i64.wrap (z5743 + (1:Int)))) z z))))))))), hst⟩
}
}
 {
 replace hm := bif_f hc5752 hm
 refine wp_iff (cvb hc5752) ?_
 refine wp_exit (then_x (then_x ?_))
 replace hm := inr_up hm hx5750
 refine blk_x (blk_n (tn (wrl ?_)))
 refine wv (.int .i64 (i64.wrap (z5674 + (1:Int)))) z z z (wv (.int .i64 (i64.wrap (z5674 + (1:Int)))) z z z (wl_nil (tn ?_)))
 replace hst := hst.pull1.pull1.keep2
 obtain rfl := some_inj hm
 exact ⟨_, Nat.lt_succ_self _, z5742, (i64.wrap (z5674 + (1:Int))), _, hx5681, (fu 4 (.int .i64 ((a0).length : Int)) z (fu 5 (Pt b5469 0) z (fu 38 r0_0 z (fu 39 (.int .i64 ((a0).length : Int)) z (fu 40 (.int .i64 (i64.wrap (z5674 + (1:Int)))) z z))))), hst⟩
}
}
 {
 replace hm := bif_f hc5683 hm
 refine wp_iff (cvb hc5683) ?_
 refine wp_exit (then_x (then_x ?_))
 replace hm := inr_up hm hx5681
 refine blk_x (tn ?_)
 replace hst := hst.pull1.keep2
 obtain rfl := some_inj hm
 exact ⟨z5673, _, hx5782, (fu 4 (.int .i64 ((a0).length : Int)) z (fu 5 (Pt b5469 0) z z)), hst⟩
}
}
 {
 clear hst
 rintro _ w5783 ⟨z5778, σ5779, hm, rfl, hst⟩
 dsimp only [label_New_j1] at hm
 obtain ⟨y7126, hm, hx7127⟩ := joinO_some hm
 refine wp_cut (fun a w => ∃ (I7123 : HL) (z7122 : label_Lattice) (σ7124 : Nat → Value), (label_New_j4) z7122 = some r ∧ a = Fr 192 (upd σ7124 5 (Pt b5469 0)) ∧ I.le I7123 ∧ St w0 w I7123 [cells b5469 [v5471], at_label_Lattice v5471 z7122] R) ?_ ?_
 {
 have hL7128 := HL.le.refl I
 refine wp_seq (wrl (wv (.int .i64 ((a0).length : Int)) z z z (wv (.int .i64 (0:Int)) z z z (wl_nil (tn (wp_block ?_))))))
 obtain ⟨n6666, hm⟩ := loopO_some hm
 refine wp_loop_n (fun n a w => ∃ (I6664 : HL) (z6662 : label_Lattice) (z6663 : Int) (σ6665 : Nat → Value), loopN (label_New_l5 a0) n (z6662, z6663) = some y7126 ∧ a = Fr 192 (upd (upd (upd (upd σ6665 4 (.int .i64 ((a0).length : Int))) 5 (Pt b5469 0)) 67 (.int .i64 ((a0).length : Int))) 68 (.int .i64 z6663)) ∧ I.le I6664 ∧ St w0 w I6664 [cells b5469 [v5471], at_label_Lattice v5471 z6662] R) n6666 ⟨_, z5778, (0:Int), _, hm, (fu 4 (.int .i64 ((a0).length : Int)) z (fu 5 (Pt b5469 0) z (fu 67 (.int .i64 ((a0).length : Int)) z (fu 68 (.int .i64 (0:Int)) z z)))), (HL.le.refl _), hst⟩ ?_
 rintro n6672 _ w6667 ⟨I6664, z6662, z6663, σ6665, hm, rfl, hL6668, hst⟩
 obtain ⟨n6669, y6670, rfl, hm, hx6671⟩ := loopN_some hm
 dsimp only [label_New_l5] at hm
 replace f0_0 := f0_0.mono (rd_le hL6668)
 replace hI0 := hI0.trans hL6668
 replace hL7128 := hL7128.trans hL6668
 refine wp_seq (wrl (wv (.bool (decide (z6663 < ((a0).length : Int)))) z z z (wl_nil (tn (wp_seq ?_)))))
 refine bsplit (decide (z6663 < ((a0).length : Int))) (fun hc6673 => ?_) (fun hc6673 => ?_)
 {
 replace hm := bif_t hc6673 hm
 refine wp_ift (cvb hc6673) ?_
 refine wp_skip (tn (wp_seq (wp_block (wp_seq (wrl ?_)))))
 refine wv (.int .i64 z6663) z z z (wv (.int .i64 z6663) z z z (wl_nil (tn (wp_seq (wrl (wv ((.slice none 0 0)) z z z (wv ((.slice none 0 0)) z z z (wl_nil (tn ?_)))))))))
 obtain ⟨y6986, hm, hx6987⟩ := joinO_some hm
 refine wp_cut (fun a w => ∃ (z6980 : (List Int)) (z6983 : (List Int)) (v6979 : Value) (v6982 : Value) (σ6984 : Nat → Value), (label_New_j6 z6662 z6663) (z6980, z6983) = some y6670 ∧ a = Fr 192 (upd (upd (upd (upd (upd (upd (upd σ6984 4 (.int .i64 ((a0).length : Int))) 5 (Pt b5469 0)) 9 (.int .i64 z6663)) 10 (v6979)) 11 (v6982)) 67 (.int .i64 ((a0).length : Int))) 68 (.int .i64 z6663)) ∧ St w0 w I6664 [cells b5469 [v5471], at_label_Lattice v5471 z6662, ownS (tyInt .i64) v6979 z6980, ownS (tyInt .i64) v6982 z6983] R) ?_ ?_
 {
 refine wp_seq (wrl (wv (.int .i64 ((a0).length : Int)) z z z (wv (.int .i64 (0:Int)) z z z (wl_nil (tn (wp_block ?_))))))
 replace hst := hst.own_nil (tyInt .i64)
 replace hst := hst.own_nil (tyInt .i64)
 obtain ⟨n6901, hm⟩ := loopO_some hm
 refine wp_loop_n (fun n a w => ∃ (z6893 : (List Int)) (z6896 : (List Int)) (z6899 : Int) (v6894 : Value) (v6897 : Value) (σ6900 : Nat → Value), loopN (label_New_l7 a0 z6662 z6663) n (z6893, z6896, z6899) = some y6986 ∧ a = Fr 192 (upd (upd (upd (upd (upd (upd (upd (upd (upd σ6900 4 (.int .i64 ((a0).length : Int))) 5 (Pt b5469 0)) 9 (.int .i64 z6663)) 10 (v6894)) 11 (v6897)) 67 (.int .i64 ((a0).length : Int))) 68 (.int .i64 z6663)) 71 (.int .i64 ((a0).length : Int))) 72 (.int .i64 z6899)) ∧ St w0 w I6664 [ownS (tyInt .i64) v6897 z6896, ownS (tyInt .i64) v6894 z6893, cells b5469 [v5471], at_label_Lattice v5471 z6662] R) n6901 ⟨[], [], (0:Int), Zs, Zs, _, hm, (fu 4 (.int .i64 ((a0).length : Int)) z (fu 5 (Pt b5469 0) z (fu 9 (.int .i64 z6663) z (fu 10 (.slice none 0 0) z (fu 11 (.slice none 0 0) z (fu 67 (.int .i64 ((a0).length : Int)) z (fu 68 (.int .i64 z6663) z (fu 71 (.int .i64 ((a0).length : Int)) z (fu 72 (.int .i64 (0:Int)) z z))))))))), hst⟩ ?_
 rintro n6907 _ w6902 ⟨z6893, z6896, z6899, v6894, v6897, σ6900, hm, rfl, hst⟩
 obtain ⟨n6904, y6905, rfl, hm, hx6906⟩ := loopN_some hm
 dsimp only [label_New_l7] at hm
 refine wp_seq (wrl (wv (.bool (decide (z6899 < ((a0).length : Int)))) z z z (wl_nil (tn (wp_seq ?_)))))
 refine bsplit (decide (z6899 < ((a0).length : Int))) (fun hc6908 => ?_) (fun hc6908 => ?_)
 {
 replace hm := bif_t hc6908 hm
 refine wp_ift (cvb hc6908) ?_
 refine wp_skip (tn (wp_seq (wp_block (wp_seq (wrl ?_)))))
 refine wv (.int .i64 z6899) z z z (wv (.int .i64 z6899) z z z (wl_nil (tn (wp_seq ?_))))
 replace hst := hst.pull3
 obtain ⟨b6909, v6910, v6912, v6914, v6916, v6918, v6920, rfl, hst'⟩ := at_label_Lattice_open hst
 clear hst
 have hst := hst'
 clear hst'
 refine wp_region_St hst 25 [0, 1, 2, 3, 4, 5, 6, 7, 8, 9, 10, 11, 12, 13, 14, 15, 16, 17, 18, 19, 20, 21, 22, 23, 24] [0, 1, 3, 7, 0, 31, 63, 0, 128, 384, 896, 0, 3968, 8064, 16383, 0, 32768, 98304, 229376, 524287, 1048575, 2097151, 2097151, 4194303, 16777215] [] z (by kernel_rfl) (by kernel_rfl) Try.mixed (by kernel_rfl) ?_
 refine wsr (Pt b6909 0) 0 z z z (by kernel_rfl) (fun w hst => x_load z isAgg60 (hst.bc9 z)) (wsr (Pt b6909 0) 1 z z z (by kernel_rfl) (fun w hst => z) (wsr (Pt b6909 0) 2 z z z (by kernel_rfl) (fun w hst => x_field z underlying73 z sizeOf25 z) (wsr (v6910) 3 z z z (by kernel_rfl) (fun w hst => x_load z isAgg25 (hst.bc0 z)) (wsr (.int .i64 z6663) 4 z z z (by kernel_rfl) (fun w hst => z) ?_))))
 obtain ⟨x6922, hx6923, hm⟩ := bind_some hm
 obtain ⟨h6924, h6925, hi6926⟩ := geto_some hx6923
 refine wsr (.pointer (some (eAddr v6910 (z6663.toNat * 1 + 0)))) 5 z z z (by kernel_rfl) (fun w hst => x_index z z underlying25 sizeOf22 hst.sv1 h6924 h6925) (wsr (.int .u64 x6922) 6 z z z (by kernel_rfl) (fun w hst => x_load z isAgg22 (hst.ol1 hi6926 (by rintro _ rfl; rfl))) (wsr (Pt b6909 0) 7 z z z (by kernel_rfl) (fun w hst => x_load z isAgg60 (hst.bc9 z)) (wsr (Pt b6909 0) 8 z z z (by kernel_rfl) (fun w hst => z) (wsr (Pt b6909 0) 9 z z z (by kernel_rfl) (fun w hst => x_field z underlying73 z sizeOf25 z) (wsr (v6910) 10 z z z (by kernel_rfl) (fun w hst => x_load z isAgg25 (hst.bc0 z)) (wsr (.int .i64 z6899) 11 z z z (by kernel_rfl) (fun w hst => z) ?_))))))
 obtain ⟨x6927, hx6928, hm⟩ := bind_some hm
 obtain ⟨h6929, h6930, hi6931⟩ := geto_some hx6928
 refine wsr (.pointer (some (eAddr v6910 (z6899.toNat * 1 + 0)))) 12 z z z (by kernel_rfl) (fun w hst => x_index z z underlying25 sizeOf22 hst.sv1 h6929 h6930) (wsr (.int .u64 x6927) 13 z z z (by kernel_rfl) (fun w hst => x_load z isAgg22 (hst.ol1 hi6931 (by rintro _ rfl; rfl))) (wsr (.int .u64 (bAnd .u64 x6922 x6927)) 14 z z z (by kernel_rfl) (fun w hst => z) (wsr (Pt b6909 0) 15 z z z (by kernel_rfl) (fun w hst => x_load z isAgg60 (hst.bc9 z)) (wsr (Pt b6909 0) 16 z z z (by kernel_rfl) (fun w hst => z) (wsr (Pt b6909 0) 17 z z z (by kernel_rfl) (fun w hst => x_field z underlying73 z sizeOf25 z) (wsr (v6910) 18 z z z (by kernel_rfl) (fun w hst => x_load z isAgg25 (hst.bc0 z)) ?_))))))
 refine ws_e1 19 (by kernel_rfl) ?_
 refine nxe [20, 21, 22, 23, 24] (by kernel_rfl) z z ?_
 clear hst
 intro w hst
 replace hst := hst.pull1
 obtain ⟨css6932, hq6933, hst⟩ := hst.own_open
 obtain ⟨t6934, ht6935, hm⟩ := bind_some hm
 refine wec call46 [U6 (bAnd .u64 x6922 x6927), v6910] z z ?_
 refine (label_least_ref (hst.rdrow0 hq6933) hst.to0 ht6935).mono ?_
 rintro _ w6936 ⟨rfl, hst⟩
 refine ⟨_, z, ?_⟩
 replace hst := hst.of0.own_close hq6933
 refine ws_next (pend' := []) hst (by kernel_rfl) pk_nil ?_
 refine wsr (.tuple #[I6 t6934.1, .bool t6934.2]) 20 z z z (by kernel_rfl) (fun w hst => z) (wsr (.int .i64 t6934.1) 21 z z z (by kernel_rfl) (fun w hst => z) (wsr (.bool t6934.2) 22 z z z (by kernel_rfl) (fun w hst => z) (wsr (.int .i64 t6934.1) 23 z z z (by kernel_rfl) (fun w hst => z) (wsr (.bool t6934.2) 24 z z z (by kernel_rfl) (fun w hst => z) ?_))))
 refine ws_nil ?_
 intro w hst
 refine tn (wp_seq ?_)
 refine wp_region_St hst 25 [0, 1, 2, 3, 4, 5, 6, 7, 8, 9, 10, 11, 12, 13, 14, 15, 16, 17, 18, 19, 20, 21, 22, 23, 24] [0, 1, 3, 7, 0, 31, 63, 0, 128, 384, 896, 0, 3968, 8064, 16383, 0, 32768, 98304, 229376, 524287, 1048575, 2097151, 2097151, 4194303, 16777215] [] z (by kernel_rfl) (by kernel_rfl) Try.mixed (by kernel_rfl) ?_
 refine wsr (Pt b6909 0) 0 z z z (by kernel_rfl) (fun w hst => x_load z isAgg60 (hst.bc9 z)) (wsr (Pt b6909 0) 1 z z z (by kernel_rfl) (fun w hst => z) (wsr (Pt b6909 1) 2 z z z (by kernel_rfl) (fun w hst => x_field z underlying73 z sizeOf25 z) (wsr (v6912) 3 z z z (by kernel_rfl) (fun w hst => x_load z isAgg25 (hst.bc1 z)) (wsr (.int .i64 z6663) 4 z z z (by kernel_rfl) (fun w hst => z) ?_))))
 obtain ⟨x6939, hx6940, hm⟩ := bind_some hm
 obtain ⟨h6941, h6942, hi6943⟩ := geto_some hx6940
 refine wsr (.pointer (some (eAddr v6912 (z6663.toNat * 1 + 0)))) 5 z z z (by kernel_rfl) (fun w hst => x_index z z underlying25 sizeOf22 hst.sv2 h6941 h6942) (wsr (.int .u64 x6939) 6 z z z (by kernel_rfl) (fun w hst => x_load z isAgg22 (hst.ol2 hi6943 (by rintro _ rfl; rfl))) (wsr (Pt b6909 0) 7 z z z (by kernel_rfl) (fun w hst => x_load z isAgg60 (hst.bc9 z)) (wsr (Pt b6909 0) 8 z z z (by kernel_rfl) (fun w hst => z) (wsr (Pt b6909 1) 9 z z z (by kernel_rfl) (fun w hst => x_field z underlying73 z sizeOf25 z) (wsr (v6912) 10 z z z (by kernel_rfl) (fun w hst => x_load z isAgg25 (hst.bc1 z)) (wsr (.int .i64 z6899) 11 z z z (by kernel_rfl) (fun w hst => z) ?_))))))
 obtain ⟨x6944, hx6945, hm⟩ := bind_some hm
 obtain ⟨h6946, h6947, hi6948⟩ := geto_some hx6945
 refine wsr (.pointer (some (eAddr v6912 (z6899.toNat * 1 + 0)))) 12 z z z (by kernel_rfl) (fun w hst => x_index z z underlying25 sizeOf22 hst.sv2 h6946 h6947) (wsr (.int .u64 x6944) 13 z z z (by kernel_rfl) (fun w hst => x_load z isAgg22 (hst.ol2 hi6948 (by rintro _ rfl; rfl))) (wsr (.int .u64 (bAnd .u64 x6939 x6944)) 14 z z z (by kernel_rfl) (fun w hst => z) (wsr (Pt b6909 0) 15 z z z (by kernel_rfl) (fun w hst => x_load z isAgg60 (hst.bc9 z)) (wsr (Pt b6909 0) 16 z z z (by kernel_rfl) (fun w hst => z) (wsr (Pt b6909 1) 17 z z z (by kernel_rfl) (fun w hst => x_field z underlying73 z sizeOf25 z) (wsr (v6912) 18 z z z (by kernel_rfl) (fun w hst => x_load z isAgg25 (hst.bc1 z)) ?_))))))
 refine ws_e1 19 (by kernel_rfl) ?_
 refine nxe [20, 21, 22, 23, 24] (by kernel_rfl) z z ?_
 clear hst
 intro w hst
 replace hst := hst.pull2
 obtain ⟨css6949, hq6950, hst⟩ := hst.own_open
 obtain ⟨t6951, ht6952, hm⟩ := bind_some hm
 refine wec call46 [U6 (bAnd .u64 x6939 x6944), v6912] z z ?_
 refine (label_least_ref (hst.rdrow0 hq6950) hst.to0 ht6952).mono ?_
 rintro _ w6953 ⟨rfl, hst⟩
 refine ⟨_, z, ?_⟩
 replace hst := hst.of0.own_close hq6950
 refine ws_next (pend' := []) hst (by kernel_rfl) pk_nil ?_
 refine wsr (.tuple #[I6 t6951.1, .bool t6951.2]) 20 z z z (by kernel_rfl) (fun w hst => z) (wsr (.int .i64 t6951.1) 21 z z z (by kernel_rfl) (fun w hst => z) (wsr (.bool t6951.2) 22 z z z (by kernel_rfl) (fun w hst => z) (wsr (.int .i64 t6951.1) 23 z z z (by kernel_rfl) (fun w hst => z) (wsr (.bool t6951.2) 24 z z z (by kernel_rfl) (fun w hst => z) ?_))))
 refine ws_nil ?_
 intro w hst
 refine tn (wp_seq (wp_seq (wrl (wv (.bool t6934.2) z z z (wv (.bool (!t6934.2)) z z z (wv (.bool (!t6934.2)) z z z ?_))))))
 refine bsplit (!t6934.2) (fun hc6956 => ?_) (fun hc6956 => ?_)
 {
 replace hm := bif_t hc6956 hm
 refine wo hc6956 z z z z z z (wo hc6956 z z z z z z (wv (.bool true) z z (x_pick_t hc6956 z z) (wl_nil (tn ?_))))
 refine wp_ift z ?_
 refine wp_seq (wrl (wv (.pointer none) z z z (wv (.int .i64 (15:Int)) z z z (wl_nil (tn (wp_ret (then_r (blk_r (then_r (then_r ?_))))))))))
 replace hm := inr_up hm hx6906
 refine blk_r (then_r ?_)
 replace hm := inr_up hm hx6987
 refine blk_r (then_r (then_r ?_))
 replace hm := inr_up hm hx6671
 refine blk_r (then_r ?_)
 replace hm := inr_up hm hx7127
 replace hst := hst.objO_nil at_label_Lattice
 obtain rfl := some_inj hm
 refine post_ret (vs := [.pointer none, I6 (15:Int)]) results34 (rvs_cons (rv_tmp z) (rvs_cons (rv_tmp z) rvs_nil)) ?_
 exact ⟨_, .pointer none, z, hI0, hst.keep1⟩
}
 {
 replace hm := bif_f hc6956 hm
 refine wv (.bool t6951.2) ((wanted_eq z z z (cvb hc6956)).trans z) z z (wv (.bool (!t6951.2)) ((wanted_eq z z z (cvb hc6956)).trans z) z z (wv (.bool (!t6951.2)) z z (x_pick_f hc6956 z z) (wl_nil (tn ?_))))
 refine bsplit (!t6951.2) (fun hc6958 => ?_) (fun hc6958 => ?_)
 {
 replace hm := bif_t hc6958 hm
 refine wp_ift (cvb hc6958) ?_
 refine wp_seq (wrl (wv (.pointer none) z z z (wv (.int .i64 (15:Int)) z z z (wl_nil (tn (wp_ret (then_r (blk_r (then_r (then_r ?_))))))))))
 replace hm := inr_up hm hx6906
 refine blk_r (then_r ?_)
 replace hm := inr_up hm hx6987
 refine blk_r (then_r (then_r ?_))
 replace hm := inr_up hm hx6671
 refine blk_r (then_r ?_)
 replace hm := inr_up hm hx7127
 replace hst := hst.objO_nil at_label_Lattice
 obtain rfl := some_inj hm
 refine post_ret (vs := [.pointer none, I6 (15:Int)]) results34 (rvs_cons (rv_tmp z) (rvs_cons (rv_tmp z) rvs_nil)) ?_
 exact ⟨_, .pointer none, z, hI0, hst.keep1⟩
}
 {
 replace hm := bif_f hc6958 hm
 refine wp_iff (cvb hc6958) ?_
 refine wp_skip (tn (wrl ?_))
 refine wv (v6894) z z z (wv (.int .i64 t6934.1) z z z ?_)
 obtain ⟨b6960, w6961, ew6962, eb6963, hst⟩ := hst.lits (E := (tyInt .i64)) (xs := [t6934.1]) [[I6 t6934.1]] 3 1 z (Reps.cons z Reps.nil)
 refine wl_run (v := (.slice (some ⟨b6960, 0, none⟩) 1 1)) (w' := w6961) z z (x_als (by kernel_rfl) ew6962 eb6963) ?_
 obtain ⟨hg6965, hm⟩ := gd_some hm
 replace hst := hst.pull9
 obtain ⟨v6966, w6967, hr6968, hst⟩ := run_append elem_46 underlying46 hst hst.src1 (room_of hg6965 z) 46
 refine wl_run (v := v6966) (w' := w6967) z z (x_append z z hr6968) ?_
 refine wv (v6897) z z z (wv (.int .i64 t6951.1) z z z ?_)
 obtain ⟨b6970, w6971, ew6972, eb6973, hst⟩ := hst.lits (E := (tyInt .i64)) (xs := [t6951.1]) [[I6 t6951.1]] 3 1 z (Reps.cons z Reps.nil)
 refine wl_run (v := (.slice (some ⟨b6970, 0, none⟩) 1 1)) (w' := w6971) z z (x_als (by kernel_rfl) ew6972 eb6973) ?_
 obtain ⟨hg6975, hm⟩ := gd_some hm
 replace hst := hst.pull10
 obtain ⟨v6976, w6977, hr6978, hst⟩ := run_append elem_46 underlying46 hst hst.src1 (room_of hg6975 z) 46
 refine wl_run (v := v6976) (w' := w6977) z z (x_append z z hr6978) ?_
 refine wv (v6966) z z z (wv (v6976) z z z (wl_nil (blk_n (tn (wrl (wv (.int .i64 (i64.wrap (z6899 + (1:Int)))) z z z (wv (.int .i64 (i64.wrap (z6899 + (1:Int)))) z z z (wl_nil (tn ?_)))))))))
 replace hst := hst.pull10.pull10.pull10.pull10.pull8.pull9.pull10
 replace hst := at_label_Lattice_close (pv := Pt b6909 0) (x := z6662) hst z
 replace hst := hst.pull5.pull4.pull3.keep4
 obtain rfl := some_inj hm
 exact ⟨_, Nat.lt_succ_self _, (z6893 ++ ([t6934.1])), (z6896 ++ ([t6951.1])), (i64.wrap (z6899 + (1:Int))), v6966, v6976, _, hx6906, (fu 4 (.int .i64 ((a0).length : Int)) z (fu 5 (Pt b5469 0) z (fu 9 (.int .i64 z6663) z (fu 10 v6966 z (fu 11 v6976 z (fu 67 (.int .i64 ((a0).length : Int)) z (fu 68 (.int .i64 z6663) z (fu 71 (.int .i64 ((a0).length : Int)) z (fu 72 (.int .i64 (i64.wrap (z6899 + (1:Int)))) z z))))))))), hst⟩
}
}
}
 {
 replace hm := bif_f hc6908 hm
 refine wp_iff (cvb hc6908) ?_
 refine wp_exit (then_x (then_x ?_))
 replace hm := inr_up hm hx6906
 refine blk_x (tn ?_)
 replace hst := hst.pull1.pull3.pull3.keep4
 obtain rfl := some_inj hm
 exact ⟨z6893, z6896, v6894, v6897, _, hx6987, (fu 4 (.int .i64 ((a0).length : Int)) z (fu 5 (Pt b5469 0) z (fu 9 (.int .i64 z6663) z (fu 10 v6894 z (fu 11 v6897 z (fu 67 (.int .i64 ((a0).length : Int)) z (fu 68 (.int .i64 z6663) z z))))))), hst⟩
}
}
 {
 clear hst
 rintro _ w6988 ⟨z6980, z6983, v6979, v6982, σ6984, hm, rfl, hst⟩
 dsimp only [label_New_j6] at hm
 refine wp_seq ?_
 replace hst := hst.pull1
 obtain ⟨b6989, v6990, v6992, v6994, v6996, v6998, v7000, rfl, hst'⟩ := at_label_Lattice_open hst
 clear hst
 have hst := hst'
 clear hst'
 obtain ⟨y7092, hm, hx7093⟩ := bind_some hm
 refine wp_mid (fun a w => ∃ (I7089 : HL) (σ7090 : Nat → Value), (label_New_j8 z6662 z6980 z6983 z6663) () = some y6670 ∧ a = Fr 192 (upd (upd (upd (upd (upd σ7090 4 (.int .i64 ((a0).length : Int))) 5 (Pt b5469 0)) 9 (.int .i64 z6663)) 67 (.int .i64 ((a0).length : Int))) 68 (.int .i64 z6663)) ∧ I6664.le I7089 ∧ St w0 w I7089 [cells b5469 [Pt b6989 0], at_label_Lattice (Pt b6989 0) ({ up := z6662.up, down := z6662.down, join := (z6662.join ++ ([z6980])), meet := (z6662.meet ++ ([z6983])), rank := z6662.rank, all := z6662.all } : label_Lattice)] R) ?_ ?_
 {
 have hL7094 := HL.le.refl I6664
 refine wp_region_St hst 22 [0, 1, 2, 3, 4, 5, 6, 7, 8, 9, 10, 11, 12, 13, 14, 15, 16, 17, 18, 19, 20, 21] [0, 0, 0, 4, 12, 28, 0, 64, 252, 0, 512, 1536, 3584, 0, 8192, 32764, 65533, 131069, 262141, 524287, 1048575, 2097151] [] z (by kernel_rfl) (by kernel_rfl) Try.mixed (by kernel_rfl) ?_
 refine wsr (Pt b6989 0) 0 z z z (by kernel_rfl) (fun w hst => x_load z isAgg60 (hst.bc7 z)) (wsr (Pt b6989 0) 1 z z z (by kernel_rfl) (fun w hst => x_load z isAgg60 (hst.bc7 z)) (wsr (Pt b6989 0) 2 z z z (by kernel_rfl) (fun w hst => x_load z isAgg60 (hst.bc7 z)) (wsr (Pt b6989 0) 3 z z z (by kernel_rfl) (fun w hst => z) (wsr (Pt b6989 2) 4 z z z (by kernel_rfl) (fun w hst => x_field z underlying73 z sizeOf71 z) (wsr (v6994) 5 z z z (by kernel_rfl) (fun w hst => x_load z isAgg71 (hst.bc0 z)) (wsr (v6979) 6 z z z (by kernel_rfl) (fun w hst => z) (wsr (Pt b6989 0) 9 z z z (by kernel_rfl) (fun w hst => x_load z isAgg60 (hst.bc7 z)) (wsr (Pt b6989 0) 10 z z z (by kernel_rfl) (fun w hst => z) (wsr (Pt b6989 3) 11 z z z (by kernel_rfl) (fun w hst => x_field z underlying73 z sizeOf71 z) (wsr (v6996) 12 z z z (by kernel_rfl) (fun w hst => x_load z isAgg71 (hst.bc0 z)) (wsr (v6982) 13 z z z (by kernel_rfl) (fun w hst => z) ?_)))))))))))
 refine ws_e2 7 14 (by kernel_rfl) ?_ ?_
 {
 refine nxe [8, 14, 15, 16, 17, 18, 19, 20, 21] (by kernel_rfl) z z ?_
 clear hst
 intro w hst
 replace hst := hst.pull8
 obtain ⟨I7003, hI7004, f7005, hst⟩ := hst.own_fix
 replace f0_0 := f0_0.mono (rd_le hI7004)
 replace hI0 := hI0.trans hI7004
 replace hL7128 := hL7128.trans hI7004
 replace hL6668 := hL6668.trans hI7004
 replace hL7094 := hL7094.trans hI7004
 obtain ⟨b7006, w7007, ew7008, eb7009, hst⟩ := hst.lits (E := (tySl (tyInt .i64))) (xs := [z6980]) [[v6979]] 46 1 z (Reps.cons ⟨_, z, f7005, one_of_sliceV (ro_sliceV f7005)⟩ Reps.nil)
 refine we_run (v := (.slice (some ⟨b7006, 0, none⟩) 1 1)) (w' := w7007) z (x_als (by obtain ⟨_, _, hv_, _⟩ := (ro_sliceV f7005); rw [hv_]; kernel_rfl) ew7008 eb7009) ?_
 refine ws_next (pend' := [(13, v6982), (12, v6996), (11, Pt b6989 3), (10, Pt b6989 0), (9, Pt b6989 0), (5, v6994), (4, Pt b6989 2), (3, Pt b6989 0), (2, Pt b6989 0), (1, Pt b6989 0), (0, Pt b6989 0)]) hst (by kernel_rfl) (pkr z z (fun w hst => z) (pkr z z (fun w hst => x_load z isAgg71 (hst.bc1 z)) (pkr z z (fun w hst => x_field z underlying73 z sizeOf71 z) (pkr z z (fun w hst => z) (pkr z z (fun w hst => x_load z isAgg60 (hst.bc8 z)) (pkr z z (fun w hst => x_load z isAgg71 (hst.bc1 z)) (pkr z z (fun w hst => x_field z underlying73 z sizeOf71 z) (pkr z z (fun w hst => z) (pkr z z (fun w hst => x_load z isAgg60 (hst.bc8 z)) (pkr z z (fun w hst => x_load z isAgg60 (hst.bc8 z)) (pkr z z (fun w hst => x_load z isAgg60 (hst.bc8 z)) pk_nil))))))))))) ?_
 refine ws_e2 8 14 (by kernel_rfl) ?_ ?_
 {
 refine nxe [14, 15, 16, 17, 18, 19, 20, 21] (by kernel_rfl) z z ?_
 clear hst
 intro w hst
 obtain ⟨hg7011, hm⟩ := gd_some hm
 replace hst := hst.pull4
 obtain ⟨v7012, w7013, hr7014, hst⟩ := run_append elem_71 underlying71 hst hst.src1 (room_of hg7011 z) 71
 refine we_run (v := v7012) (w' := w7013) z (x_append z z hr7014) ?_
 refine ws_next (pend' := [(13, v6982), (12, v6996), (11, Pt b6989 3), (10, Pt b6989 0), (9, Pt b6989 0), (1, Pt b6989 0), (0, Pt b6989 0)]) hst (by kernel_rfl) (pkr z z (fun w hst => z) (pkr z z (fun w hst => x_load z isAgg71 (hst.bc2 z)) (pkr z z (fun w hst => x_field z underlying73 z sizeOf71 z) (pkr z z (fun w hst => z) (pkr z z (fun w hst => x_load z isAgg60 (hst.bc8 z)) (pkr z z (fun w hst => x_load z isAgg60 (hst.bc8 z)) (pkr z z (fun w hst => x_load z isAgg60 (hst.bc8 z)) pk_nil))))))) ?_
 refine ws_e1 14 (by kernel_rfl) ?_
 refine nxe [15, 16, 17, 18, 19, 20, 21] (by kernel_rfl) z z ?_
 clear hst
 intro w hst
 replace hst := hst.pull9
 obtain ⟨I7017, hI7018, f7019, hst⟩ := hst.own_fix
 replace f0_0 := f0_0.mono (rd_le hI7018)
 replace f7005 := f7005.mono (ro_le hI7018)
 replace hI0 := hI0.trans hI7018
 replace hL7128 := hL7128.trans hI7018
 replace hL6668 := hL6668.trans hI7018
 replace hL7094 := hL7094.trans hI7018
 obtain ⟨b7020, w7021, ew7022, eb7023, hst⟩ := hst.lits (E := (tySl (tyInt .i64))) (xs := [z6983]) [[v6982]] 46 1 z (Reps.cons ⟨_, z, f7019, one_of_sliceV (ro_sliceV f7019)⟩ Reps.nil)
 refine we_run (v := (.slice (some ⟨b7020, 0, none⟩) 1 1)) (w' := w7021) z (x_als (by obtain ⟨_, _, hv_, _⟩ := (ro_sliceV f7019); rw [hv_]; kernel_rfl) ew7022 eb7023) ?_
 refine ws_next (pend' := [(12, v6996), (11, Pt b6989 3), (10, Pt b6989 0), (9, Pt b6989 0), (1, Pt b6989 0), (0, Pt b6989 0)]) hst (by kernel_rfl) (pkr z z (fun w hst => x_load z isAgg71 (hst.bc3 z)) (pkr z z (fun w hst => x_field z underlying73 z sizeOf71 z) (pkr z z (fun w hst => z) (pkr z z (fun w hst => x_load z isAgg60 (hst.bc9 z)) (pkr z z (fun w hst => x_load z isAgg60 (hst.bc9 z)) (pkr z z (fun w hst => x_load z isAgg60 (hst.bc9 z)) pk_nil)))))) ?_
 refine ws_e1 15 (by kernel_rfl) ?_
 refine nxe [16, 17, 18, 19, 20, 21] (by kernel_rfl) z z ?_
 clear hst
 intro w hst
 obtain ⟨hg7025, hm⟩ := gd_some hm
 replace hst := hst.pull6
 obtain ⟨v7026, w7027, hr7028, hst⟩ := run_append elem_71 underlying71 hst hst.src1 (room_of hg7025 z) 71
 refine we_run (v := v7026) (w' := w7027) z (x_append z z hr7028) ?_
 refine ws_next (pend' := [(1, Pt b6989 0), (0, Pt b6989 0)]) hst (by kernel_rfl) (pkr z z (fun w hst => x_load z isAgg60 (hst.bc9 z)) (pkr z z (fun w hst => x_load z isAgg60 (hst.bc9 z)) pk_nil)) ?_
 refine wsr (Pt b6989 0) 16 z z z (by kernel_rfl) (fun w hst => z) (wsr (Pt b6989 2) 17 z z z (by kernel_rfl) (fun w hst => x_field z underlying73 z sizeOf71 z) ?_)
 refine ws_e1 18 (by kernel_rfl) ?_
 refine nxe [19, 20, 21] (by kernel_rfl) z z ?_
 clear hst
 intro w hst
 replace hst := hst.pull4
 obtain ⟨w7030, hr7031, hst⟩ := hst.boxStore1 (P := prog) (t := 71) (cs' := [v6990, v6992, v7012, v6996, v6998, v7000]) 2 v7012 (one_of_sliceV hst.sv3) sizeOf71 z z
 refine we_unit z (x_unit hr7031) ?_
 refine ws_next (pend' := [(1, Pt b6989 0)]) hst (by kernel_rfl) (pkr z z (fun w hst => x_load z isAgg60 (hst.bc9 z)) pk_nil) ?_
 refine wsr (Pt b6989 0) 19 z z z (by kernel_rfl) (fun w hst => z) (wsr (Pt b6989 3) 20 z z z (by kernel_rfl) (fun w hst => x_field z underlying73 z sizeOf71 z) ?_)
 refine ws_e1 21 (by kernel_rfl) ?_
 refine nxe [] (by kernel_rfl) z z ?_
 clear hst
 intro w hst
 obtain ⟨w7032, hr7033, hst⟩ := hst.boxStore1 (P := prog) (t := 71) (cs' := [v6990, v6992, v7012, v7026, v6998, v7000]) 3 v7026 (one_of_sliceV hst.sv1) sizeOf71 z z
 refine we_unit z (x_unit hr7033) ?_
 refine ws_next (pend' := []) hst (by kernel_rfl) pk_nil ?_
 refine ws_nil ?_
 intro w hst
 refine ⟨z, ?_⟩
 replace hst := hst.pull8.pull8.pull3.pull5.pull8.pull8.pull6
 replace hst := at_label_Lattice_close (pv := Pt b6989 0) (x := ({ up := z6662.up, down := z6662.down, join := (z6662.join ++ ([z6980])), meet := (z6662.meet ++ ([z6983])), rank := z6662.rank, all := z6662.all } : label_Lattice)) hst z
 replace hst := hst.pull3.keep2
 obtain rfl := some_inj hm
 exact ⟨_, _, hx7093, (fu 4 (.int .i64 ((a0).length : Int)) z (fu 5 (Pt b5469 0) z (fu 9 (.int .i64 z6663) z (fu 67 (.int .i64 ((a0).length : Int)) z (fu 68 (.int .i64 z6663) z z))))), hL7094, hst⟩
}
 {
 refine nxe [8, 15, 16, 17, 18, 19, 20, 21] (by kernel_rfl) z z ?_
 clear hst
 intro w hst
 replace hst := hst.pull9
 obtain ⟨I7035, hI7036, f7037, hst⟩ := hst.own_fix
 replace f0_0 := f0_0.mono (rd_le hI7036)
 replace f7005 := f7005.mono (ro_le hI7036)
 replace hI0 := hI0.trans hI7036
 replace hL7128 := hL7128.trans hI7036
 replace hL6668 := hL6668.trans hI7036
 replace hL7094 := hL7094.trans hI7036
 obtain ⟨b7038, w7039, ew7040, eb7041, hst⟩ := hst.lits (E := (tySl (tyInt .i64))) (xs := [z6983]) [[v6982]] 46 1 z (Reps.cons ⟨_, z, f7037, one_of_sliceV (ro_sliceV f7037)⟩ Reps.nil)
 refine we_run (v := (.slice (some ⟨b7038, 0, none⟩) 1 1)) (w' := w7039) z (x_als (by obtain ⟨_, _, hv_, _⟩ := (ro_sliceV f7037); rw [hv_]; kernel_rfl) ew7040 eb7041) ?_
 refine ws_next (pend' := [(12, v6996), (11, Pt b6989 3), (10, Pt b6989 0), (9, Pt b6989 0), (5, v6994), (4, Pt b6989 2), (3, Pt b6989 0), (2, Pt b6989 0), (1, Pt b6989 0), (0, Pt b6989 0)]) hst (by kernel_rfl) (pkr z z (fun w hst => x_load z isAgg71 (hst.bc2 z)) (pkr z z (fun w hst => x_field z underlying73 z sizeOf71 z) (pkr z z (fun w hst => z) (pkr z z (fun w hst => x_load z isAgg60 (hst.bc9 z)) (pkr z z (fun w hst => x_load z isAgg71 (hst.bc2 z)) (pkr z z (fun w hst => x_field z underlying73 z sizeOf71 z) (pkr z z (fun w hst => z) (pkr z z (fun w hst => x_load z isAgg60 (hst.bc9 z)) (pkr z z (fun w hst => x_load z isAgg60 (hst.bc9 z)) (pkr z z (fun w hst => x_load z isAgg60 (hst.bc9 z)) pk_nil)))))))))) ?_
 refine ws_e1 8 (by kernel_rfl) ?_
 refine nxe [15, 16, 17, 18, 19, 20, 21] (by kernel_rfl) z z ?_
 clear hst
 intro w hst
 obtain ⟨hg7043, hm⟩ := gd_some hm
 replace hst := hst.pull5
 obtain ⟨v7044, w7045, hr7046, hst⟩ := run_append elem_71 underlying71 hst hst.src2 (room_of hg7043 z) 71
 refine we_run (v := v7044) (w' := w7045) z (x_append z z hr7046) ?_
 refine ws_next (pend' := [(12, v6996), (11, Pt b6989 3), (10, Pt b6989 0), (9, Pt b6989 0), (1, Pt b6989 0), (0, Pt b6989 0)]) hst (by kernel_rfl) (pkr z z (fun w hst => x_load z isAgg71 (hst.bc3 z)) (pkr z z (fun w hst => x_field z underlying73 z sizeOf71 z) (pkr z z (fun w hst => z) (pkr z z (fun w hst => x_load z isAgg60 (hst.bc9 z)) (pkr z z (fun w hst => x_load z isAgg60 (hst.bc9 z)) (pkr z z (fun w hst => x_load z isAgg60 (hst.bc9 z)) pk_nil)))))) ?_
 refine ws_e1 15 (by kernel_rfl) ?_
 refine nxe [16, 17, 18, 19, 20, 21] (by kernel_rfl) z z ?_
 clear hst
 intro w hst
 obtain ⟨hg7048, hm⟩ := gd_some hm
 replace hst := hst.pull6
 obtain ⟨v7049, w7050, hr7051, hst⟩ := run_append elem_71 underlying71 hst hst.src2 (room_of hg7048 z) 71
 refine we_run (v := v7049) (w' := w7050) z (x_append z z hr7051) ?_
 refine ws_next (pend' := [(1, Pt b6989 0), (0, Pt b6989 0)]) hst (by kernel_rfl) (pkr z z (fun w hst => x_load z isAgg60 (hst.bc9 z)) (pkr z z (fun w hst => x_load z isAgg60 (hst.bc9 z)) pk_nil)) ?_
 refine wsr (Pt b6989 0) 16 z z z (by kernel_rfl) (fun w hst => z) (wsr (Pt b6989 2) 17 z z z (by kernel_rfl) (fun w hst => x_field z underlying73 z sizeOf71 z) ?_)
 refine ws_e1 18 (by kernel_rfl) ?_
 refine nxe [19, 20, 21] (by kernel_rfl) z z ?_
 clear hst
 intro w hst
 replace hst := hst.pull4
 obtain ⟨w7053, hr7054, hst⟩ := hst.boxStore1 (P := prog) (t := 71) (cs' := [v6990, v6992, v7044, v6996, v6998, v7000]) 2 v7044 (one_of_sliceV hst.sv2) sizeOf71 z z
 refine we_unit z (x_unit hr7054) ?_
 refine ws_next (pend' := [(1, Pt b6989 0)]) hst (by kernel_rfl) (pkr z z (fun w hst => x_load z isAgg60 (hst.bc9 z)) pk_nil) ?_
 refine wsr (Pt b6989 0) 19 z z z (by kernel_rfl) (fun w hst => z) (wsr (Pt b6989 3) 20 z z z (by kernel_rfl) (fun w hst => x_field z underlying73 z sizeOf71 z) ?_)
 refine ws_e1 21 (by kernel_rfl) ?_
 refine nxe [] (by kernel_rfl) z z ?_
 clear hst
 intro w hst
 obtain ⟨w7055, hr7056, hst⟩ := hst.boxStore1 (P := prog) (t := 71) (cs' := [v6990, v6992, v7044, v7049, v6998, v7000]) 3 v7049 (one_of_sliceV hst.sv1) sizeOf71 z z
 refine we_unit z (x_unit hr7056) ?_
 refine ws_next (pend' := []) hst (by kernel_rfl) pk_nil ?_
 refine ws_nil ?_
 intro w hst
 refine ⟨z, ?_⟩
 replace hst := hst.pull8.pull8.pull3.pull4.pull8.pull8.pull6
 replace hst := at_label_Lattice_close (pv := Pt b6989 0) (x := ({ up := z6662.up, down := z6662.down, join := (z6662.join ++ ([z6980])), meet := (z6662.meet ++ ([z6983])), rank := z6662.rank, all := z6662.all } : label_Lattice)) hst z
 replace hst := hst.pull3.keep2
 obtain rfl := some_inj hm
 exact ⟨_, _, hx7093, (fu 4 (.int .i64 ((a0).length : Int)) z (fu 5 (Pt b5469 0) z (fu 9 (.int .i64 z6663) z (fu 67 (.int .i64 ((a0).length : Int)) z (fu 68 (.int .i64 z6663) z z))))), hL7094, hst⟩
}
}
 {
 refine nxe [7, 8, 15, 16, 17, 18, 19, 20, 21] (by kernel_rfl) z z ?_
 clear hst
 intro w hst
 replace hst := hst.pull9
 obtain ⟨I7058, hI7059, f7060, hst⟩ := hst.own_fix
 replace f0_0 := f0_0.mono (rd_le hI7059)
 replace hI0 := hI0.trans hI7059
 replace hL7128 := hL7128.trans hI7059
 replace hL6668 := hL6668.trans hI7059
 replace hL7094 := hL7094.trans hI7059
 obtain ⟨b7061, w7062, ew7063, eb7064, hst⟩ := hst.lits (E := (tySl (tyInt .i64))) (xs := [z6983]) [[v6982]] 46 1 z (Reps.cons ⟨_, z, f7060, one_of_sliceV (ro_sliceV f7060)⟩ Reps.nil)
 refine we_run (v := (.slice (some ⟨b7061, 0, none⟩) 1 1)) (w' := w7062) z (x_als (by obtain ⟨_, _, hv_, _⟩ := (ro_sliceV f7060); rw [hv_]; kernel_rfl) ew7063 eb7064) ?_
 refine ws_next (pend' := [(12, v6996), (11, Pt b6989 3), (10, Pt b6989 0), (9, Pt b6989 0), (6, v6979), (5, v6994), (4, Pt b6989 2), (3, Pt b6989 0), (2, Pt b6989 0), (1, Pt b6989 0), (0, Pt b6989 0)]) hst (by kernel_rfl) (pkr z z (fun w hst => x_load z isAgg71 (hst.bc1 z)) (pkr z z (fun w hst => x_field z underlying73 z sizeOf71 z) (pkr z z (fun w hst => z) (pkr z z (fun w hst => x_load z isAgg60 (hst.bc8 z)) (pkr z z (fun w hst => z) (pkr z z (fun w hst => x_load z isAgg71 (hst.bc1 z)) (pkr z z (fun w hst => x_field z underlying73 z sizeOf71 z) (pkr z z (fun w hst => z) (pkr z z (fun w hst => x_load z isAgg60 (hst.bc8 z)) (pkr z z (fun w hst => x_load z isAgg60 (hst.bc8 z)) (pkr z z (fun w hst => x_load z isAgg60 (hst.bc8 z)) pk_nil))))))))))) ?_
 refine ws_e1 7 (by kernel_rfl) ?_
 refine nxe [8, 15, 16, 17, 18, 19, 20, 21] (by kernel_rfl) z z ?_
 clear hst
 intro w hst
 replace hst := hst.pull9
 obtain ⟨I7067, hI7068, f7069, hst⟩ := hst.own_fix
 replace f0_0 := f0_0.mono (rd_le hI7068)
 replace f7060 := f7060.mono (ro_le hI7068)
 replace hI0 := hI0.trans hI7068
 replace hL7128 := hL7128.trans hI7068
 replace hL6668 := hL6668.trans hI7068
 replace hL7094 := hL7094.trans hI7068
 obtain ⟨b7070, w7071, ew7072, eb7073, hst⟩ := hst.lits (E := (tySl (tyInt .i64))) (xs := [z6980]) [[v6979]] 46 1 z (Reps.cons ⟨_, z, f7069, one_of_sliceV (ro_sliceV f7069)⟩ Reps.nil)
 refine we_run (v := (.slice (some ⟨b7070, 0, none⟩) 1 1)) (w' := w7071) z (x_als (by obtain ⟨_, _, hv_, _⟩ := (ro_sliceV f7069); rw [hv_]; kernel_rfl) ew7072 eb7073) ?_
 refine ws_next (pend' := [(12, v6996), (11, Pt b6989 3), (10, Pt b6989 0), (9, Pt b6989 0), (5, v6994), (4, Pt b6989 2), (3, Pt b6989 0), (2, Pt b6989 0), (1, Pt b6989 0), (0, Pt b6989 0)]) hst (by kernel_rfl) (pkr z z (fun w hst => x_load z isAgg71 (hst.bc2 z)) (pkr z z (fun w hst => x_field z underlying73 z sizeOf71 z) (pkr z z (fun w hst => z) (pkr z z (fun w hst => x_load z isAgg60 (hst.bc9 z)) (pkr z z (fun w hst => x_load z isAgg71 (hst.bc2 z)) (pkr z z (fun w hst => x_field z underlying73 z sizeOf71 z) (pkr z z (fun w hst => z) (pkr z z (fun w hst => x_load z isAgg60 (hst.bc9 z)) (pkr z z (fun w hst => x_load z isAgg60 (hst.bc9 z)) (pkr z z (fun w hst => x_load z isAgg60 (hst.bc9 z)) pk_nil)))))))))) ?_
 refine ws_e1 8 (by kernel_rfl) ?_
 refine nxe [15, 16, 17, 18, 19, 20, 21] (by kernel_rfl) z z ?_
 clear hst
 intro w hst
 obtain ⟨hg7075, hm⟩ := gd_some hm
 replace hst := hst.pull5
 obtain ⟨v7076, w7077, hr7078, hst⟩ := run_append elem_71 underlying71 hst hst.src1 (room_of hg7075 z) 71
 refine we_run (v := v7076) (w' := w7077) z (x_append z z hr7078) ?_
 refine ws_next (pend' := [(12, v6996), (11, Pt b6989 3), (10, Pt b6989 0), (9, Pt b6989 0), (1, Pt b6989 0), (0, Pt b6989 0)]) hst (by kernel_rfl) (pkr z z (fun w hst => x_load z isAgg71 (hst.bc3 z)) (pkr z z (fun w hst => x_field z underlying73 z sizeOf71 z) (pkr z z (fun w hst => z) (pkr z z (fun w hst => x_load z isAgg60 (hst.bc9 z)) (pkr z z (fun w hst => x_load z isAgg60 (hst.bc9 z)) (pkr z z (fun w hst => x_load z isAgg60 (hst.bc9 z)) pk_nil)))))) ?_
 refine ws_e1 15 (by kernel_rfl) ?_
 refine nxe [16, 17, 18, 19, 20, 21] (by kernel_rfl) z z ?_
 clear hst
 intro w hst
 obtain ⟨hg7080, hm⟩ := gd_some hm
 replace hst := hst.pull6
 obtain ⟨v7081, w7082, hr7083, hst⟩ := run_append elem_71 underlying71 hst hst.src3 (room_of hg7080 z) 71
 refine we_run (v := v7081) (w' := w7082) z (x_append z z hr7083) ?_
 refine ws_next (pend' := [(1, Pt b6989 0), (0, Pt b6989 0)]) hst (by kernel_rfl) (pkr z z (fun w hst => x_load z isAgg60 (hst.bc9 z)) (pkr z z (fun w hst => x_load z isAgg60 (hst.bc9 z)) pk_nil)) ?_
 refine wsr (Pt b6989 0) 16 z z z (by kernel_rfl) (fun w hst => z) (wsr (Pt b6989 2) 17 z z z (by kernel_rfl) (fun w hst => x_field z underlying73 z sizeOf71 z) ?_)
 refine ws_e1 18 (by kernel_rfl) ?_
 refine nxe [19, 20, 21] (by kernel_rfl) z z ?_
 clear hst
 intro w hst
 replace hst := hst.pull4
 obtain ⟨w7085, hr7086, hst⟩ := hst.boxStore1 (P := prog) (t := 71) (cs' := [v6990, v6992, v7076, v6996, v6998, v7000]) 2 v7076 (one_of_sliceV hst.sv2) sizeOf71 z z
 refine we_unit z (x_unit hr7086) ?_
 refine ws_next (pend' := [(1, Pt b6989 0)]) hst (by kernel_rfl) (pkr z z (fun w hst => x_load z isAgg60 (hst.bc9 z)) pk_nil) ?_
 refine wsr (Pt b6989 0) 19 z z z (by kernel_rfl) (fun w hst => z) (wsr (Pt b6989 3) 20 z z z (by kernel_rfl) (fun w hst => x_field z underlying73 z sizeOf71 z) ?_)
 refine ws_e1 21 (by kernel_rfl) ?_
 refine nxe [] (by kernel_rfl) z z ?_
 clear hst
 intro w hst
 obtain ⟨w7087, hr7088, hst⟩ := hst.boxStore1 (P := prog) (t := 71) (cs' := [v6990, v6992, v7076, v7081, v6998, v7000]) 3 v7081 (one_of_sliceV hst.sv1) sizeOf71 z z
 refine we_unit z (x_unit hr7088) ?_
 refine ws_next (pend' := []) hst (by kernel_rfl) pk_nil ?_
 refine ws_nil ?_
 intro w hst
 refine ⟨z, ?_⟩
 replace hst := hst.pull8.pull8.pull3.pull4.pull8.pull8.pull6
 replace hst := at_label_Lattice_close (pv := Pt b6989 0) (x := ({ up := z6662.up, down := z6662.down, join := (z6662.join ++ ([z6980])), meet := (z6662.meet ++ ([z6983])), rank := z6662.rank, all := z6662.all } : label_Lattice)) hst z
 replace hst := hst.pull3.keep2
 obtain rfl := some_inj hm
 exact ⟨_, _, hx7093, (fu 4 (.int .i64 ((a0).length : Int)) z (fu 5 (Pt b5469 0) z (fu 9 (.int .i64 z6663) z (fu 67 (.int .i64 ((a0).length : Int)) z (fu 68 (.int .i64 z6663) z z))))), hL7094, hst⟩
}
}
 {
 clear hst
 rintro _ w7095 ⟨I7089, σ7090, hm, rfl, hL7091, hst⟩
 dsimp only [label_New_j8] at hm
 replace f0_0 := f0_0.mono (rd_le hL7091)
 replace hI0 := hI0.trans hL7091
 replace hL7128 := hL7128.trans hL7091
 replace hL6668 := hL6668.trans hL7091
 refine tn ?_
 replace hst := hst.pull1
 obtain ⟨b7096, v7097, v7099, v7101, v7103, v7105, v7107, e7109, hst'⟩ := at_label_Lattice_open hst
 clear hst
 have e7109 := ptr_inj e7109
 subst e7109
 have hst := hst'
 clear hst'
 refine wp_region_St hst 11 [0, 1, 2, 3, 4, 5, 6, 7, 8, 9, 10] [0, 0, 2, 6, 14, 0, 32, 126, 255, 511, 1023] [] z (by kernel_rfl) (by kernel_rfl) Try.mixed (by kernel_rfl) ?_
 refine wsr (Pt b6989 0) 0 z z z (by kernel_rfl) (fun w hst => x_load z isAgg60 (hst.bc7 z)) (wsr (Pt b6989 0) 1 z z z (by kernel_rfl) (fun w hst => x_load z isAgg60 (hst.bc7 z)) (wsr (Pt b6989 0) 2 z z z (by kernel_rfl) (fun w hst => z) (wsr (Pt b6989 5) 3 z z z (by kernel_rfl) (fun w hst => x_field z underlying73 z sizeOf46 z) (wsr (v7107) 4 z z z (by kernel_rfl) (fun w hst => x_load z isAgg46 (hst.bc0 z)) (wsr (.int .i64 z6663) 5 z z z (by kernel_rfl) (fun w hst => z) ?_)))))
 refine ws_e1 6 (by kernel_rfl) ?_
 refine nxe [7, 8, 9, 10] (by kernel_rfl) z z ?_
 clear hst
 intro w hst
 obtain ⟨b7110, w7111, ew7112, eb7113, hst⟩ := hst.lits (E := (tyInt .i64)) (xs := [z6663]) [[I6 z6663]] 3 1 z (Reps.cons z Reps.nil)
 refine we_run (v := (.slice (some ⟨b7110, 0, none⟩) 1 1)) (w' := w7111) z (x_als (by kernel_rfl) ew7112 eb7113) ?_
 refine ws_next (pend' := [(4, v7107), (3, Pt b6989 5), (2, Pt b6989 0), (1, Pt b6989 0), (0, Pt b6989 0)]) hst (by kernel_rfl) (pkr z z (fun w hst => x_load z isAgg46 (hst.bc1 z)) (pkr z z (fun w hst => x_field z underlying73 z sizeOf46 z) (pkr z z (fun w hst => z) (pkr z z (fun w hst => x_load z isAgg60 (hst.bc8 z)) (pkr z z (fun w hst => x_load z isAgg60 (hst.bc8 z)) pk_nil))))) ?_
 refine ws_e1 7 (by kernel_rfl) ?_
 refine nxe [8, 9, 10] (by kernel_rfl) z z ?_
 clear hst
 intro w hst
 obtain ⟨hg7115, hm⟩ := gd_some hm
 replace hst := hst.pull7
 obtain ⟨v7116, w7117, hr7118, hst⟩ := run_append elem_46 underlying46 hst hst.src1 (room_of hg7115 z) 46
 refine we_run (v := v7116) (w' := w7117) z (x_append z z hr7118) ?_
 refine ws_next (pend' := [(0, Pt b6989 0)]) hst (by kernel_rfl) (pkr z z (fun w hst => x_load z isAgg60 (hst.bc8 z)) pk_nil) ?_
 refine wsr (Pt b6989 0) 8 z z z (by kernel_rfl) (fun w hst => z) (wsr (Pt b6989 5) 9 z z z (by kernel_rfl) (fun w hst => x_field z underlying73 z sizeOf46 z) ?_)
 refine ws_e1 10 (by kernel_rfl) ?_
 refine nxe [] (by kernel_rfl) z z ?_
 clear hst
 intro w hst
 replace hst := hst.pull2
 obtain ⟨w7120, hr7121, hst⟩ := hst.boxStore1 (P := prog) (t := 46) (cs' := [v7097, v7099, v7101, v7103, v7105, v7116]) 5 v7116 (one_of_sliceV hst.sv1) sizeOf46 z z
 refine we_unit z (x_unit hr7121) ?_
 refine ws_next (pend' := []) hst (by kernel_rfl) pk_nil ?_
 refine ws_nil ?_
 intro w hst
 refine blk_n (tn (wrl ?_))
 refine wv (.int .i64 (i64.wrap (z6663 + (1:Int)))) z z z (wv (.int .i64 (i64.wrap (z6663 + (1:Int)))) z z z (wl_nil (tn ?_)))
 replace hst := hst.pull1.pull7.pull7.pull7.pull7.pull7.pull6
 replace hst := at_label_Lattice_close (pv := Pt b6989 0) (x := ({ up := ({ up := z6662.up, down := z6662.down, join := (z6662.join ++ ([z6980])), meet := (z6662.meet ++ ([z6983])), rank := z6662.rank, all := z6662.all } : label_Lattice).up, down := ({ up := z6662.up, down := z6662.down, join := (z6662.join ++ ([z6980])), meet := (z6662.meet ++ ([z6983])), rank := z6662.rank, all := z6662.all } : label_Lattice).down, join := ({ up := z6662.up, down := z6662.down, join := (z6662.join ++ ([z6980])), meet := (z6662.meet ++ ([z6983])), rank := z6662.rank, all := z6662.all } : label_Lattice).join, meet := ({ up := z6662.up, down := z6662.down, join := (z6662.join ++ ([z6980])), meet := (z6662.meet ++ ([z6983])), rank := z6662.rank, all := z6662.all } : label_Lattice).meet, rank := ({ up := z6662.up, down := z6662.down, join := (z6662.join ++ ([z6980])), meet := (z6662.meet ++ ([z6983])), rank := z6662.rank, all := z6662.all } : label_Lattice).rank, all := ((({ up := z6662.up, down := z6662.down, join := (z6662.join ++ ([z6980])), meet := (z6662.meet ++ ([z6983])), rank := z6662.rank, all := z6662.all } : label_Lattice).all) ++ ([z6663])) } : label_Lattice)) hst z
 replace hst := hst.pull2.keep2
 obtain rfl := some_inj hm
 exact ⟨_, Nat.lt_succ_self _, _, ({ up := ({ up := z6662.up, down := z6662.down, join := (z6662.join ++ ([z6980])), meet := (z6662.meet ++ ([z6983])), rank := z6662.rank, all := z6662.all } : label_Lattice).up, down := ({ up := z6662.up, down := z6662.down, join := (z6662.join ++ ([z6980])), meet := (z6662.meet ++ ([z6983])), rank := z6662.rank, all := z6662.all } : label_Lattice).down, join := ({ up := z6662.up, down := z6662.down, join := (z6662.join ++ ([z6980])), meet := (z6662.meet ++ ([z6983])), rank := z6662.rank, all := z6662.all } : label_Lattice).join, meet := ({ up := z6662.up, down := z6662.down, join := (z6662.join ++ ([z6980])), meet := (z6662.meet ++ ([z6983])), rank := z6662.rank, all := z6662.all } : label_Lattice).meet, rank := ({ up := z6662.up, down := z6662.down, join := (z6662.join ++ ([z6980])), meet := (z6662.meet ++ ([z6983])), rank := z6662.rank, all := z6662.all } : label_Lattice).rank, all := ((({ up := z6662.up, down := z6662.down, join := (z6662.join ++ ([z6980])), meet := (z6662.meet ++ ([z6983])), rank := z6662.rank, all := z6662.all } : label_Lattice).all) ++ ([z6663])) } : label_Lattice), (i64.wrap (z6663 + (1:Int))), _, hx6671, (fu 4 (.int .i64 ((a0).length : Int)) z (fu 5 (Pt b5469 0) z (fu 67 (.int .i64 ((a0).length : Int)) z (fu 68 (.int .i64 (i64.wrap (z6663 + (1:Int)))) z z)))), hL6668, hst⟩
}
}
}
 {
 replace hm := bif_f hc6673 hm
 refine wp_iff (cvb hc6673) ?_
 refine wp_exit (then_x (then_x ?_))
 replace hm := inr_up hm hx6671
 refine blk_x (tn ?_)
 replace hst := hst.pull1.pull1.keep2
 obtain rfl := some_inj hm
 exact ⟨_, z6662, _, hx7127, (fu 5 (Pt b5469 0) z z), hL7128, hst⟩
}
}
 {
 clear hst
 rintro _ w7129 ⟨I7123, z7122, σ7124, hm, rfl, hL7125, hst⟩
 dsimp only [label_New_j4] at hm
 replace f0_0 := f0_0.mono (rd_le hL7125)
 replace hI0 := hI0.trans hL7125
 refine wp_seq (wrl (wv (v5471) z z (x_load z isAgg60 (hst.bc0 z)) ?_))
 replace hst := hst.pull1
 obtain ⟨b7130, v7131, v7133, v7135, v7137, v7139, v7141, rfl, hst'⟩ := at_label_Lattice_open hst
 clear hst
 have hst := hst'
 clear hst'
 refine wv (Pt b7130 0) z z z (wv (Pt b7130 5) z z (x_field z underlying73 z sizeOf46 z) (wv (v7141) z z (x_load z isAgg46 (hst.bc0 z)) (wv (.func (.func 48) #[] #[Pt b5469 0]) z z (by kernel_rfl) ?_)))
 obtain ⟨y9439, hq9440, hm⟩ := bind_some hm
 refine wl_call z z (x_callv call47 (caps := []) z (vs := [v7141, .func (.func 48) #[] #[Pt b5469 0]]) z) ?_
 refine Calls.mono (show Calls prog 47 #[v7141, .func (.func 48) #[] #[Pt b5469 0]] _ (fun e w' => ∃ (z9437 : (List Int)), z9437 = y9439 ∧ e = .returned (.tuple #[]) ∧ St w0 w' I7123 [cells b5469 [Pt b7130 0], cells b7130 [v7131, v7133, v7135, v7137, v7139, v7141], ownS (tyInt .u64) v7131 z7122.up, ownS (tyInt .u64) v7133 z7122.down, ownS (tySl (tyInt .i64)) v7135 z7122.join, ownS (tySl (tyInt .i64)) v7137 z7122.meet, ownS (tyInt .i64) v7139 z7122.rank, ownS (tyInt .i64) v7141 z9437] R) from ?_) ?_
 {
 clear hm; have hm := hq9440
 refine calls_start (args := [v7141, .func (.func 48) #[] #[Pt b5469 0]]) func47 z ntmps47 (Nat.le_of_ble_eq_true z) ?_
 refine wrl (wv (v7141) z z z (wv (v7141) z z z (wv (.int .i64 ((z7122.all).length : Int)) z z (x_len z underlying46 hst.sv6) (wv (.func (.func 48) #[] #[Pt b5469 0]) z z z ?_))))
 obtain ⟨y9434, hq9435, hm⟩ := bind_some hm
 refine wl_call z z (x_callv call56 (caps := []) z (vs := [v7141, I6 ((z7122.all).length : Int), .func (.func 48) #[] #[Pt b5469 0]]) z) ?_
 refine Calls.mono (show Calls prog 56 #[v7141, I6 ((z7122.all).length : Int), .func (.func 48) #[] #[Pt b5469 0]] _ (fun e w' => ∃ (z9432 : (List Int)), z9432 = y9434 ∧ e = .returned (.tuple #[]) ∧ St w0 w' I7123 [cells b5469 [Pt b7130 0], cells b7130 [v7131, v7133, v7135, v7137, v7139, v7141], ownS (tyInt .u64) v7131 z7122.up, ownS (tyInt .u64) v7133 z7122.down, ownS (tySl (tyInt .i64)) v7135 z7122.join, ownS (tySl (tyInt .i64)) v7137 z7122.meet, ownS (tyInt .i64) v7139 z7122.rank, ownS (tyInt .i64) v7141 z9432] R) from ?_) ?_
 {
 clear hm; have hm := hq9435
 refine calls_start (args := [v7141, I6 ((z7122.all).length : Int), .func (.func 48) #[] #[Pt b5469 0]]) func56 z ntmps56 (Nat.le_of_ble_eq_true z) ?_
 refine wp_seq (wrl (wv (.int .i64 (20:Int)) z z z (wl_nil (tn (wp_seq (wrl (wv (.int .i64 (20:Int)) z z z (wv (.int .i64 (0:Int)) z z z (wv (.int .i64 (20:Int)) z z z (wl_nil (tn ?_)))))))))))
 obtain ⟨y8817, hm, hx8818⟩ := bind_some hm
 refine wp_cut (fun a w => ∃ (z8813 : (List Int)) (z8814 : Int) (σ8815 : Nat → Value), (label_New_j9 z7122) (z8813, z8814) = some y9434 ∧ a = Fr 63 (upd (upd (upd (upd (upd σ8815 0 (v7141)) 1 (.int .i64 ((z7122.all).length : Int))) 2 (.func (.func 48) #[] #[Pt b5469 0])) 6 (.int .i64 (20:Int))) 7 (.int .i64 z8814)) ∧ St w0 w I7123 [ownS (tyInt .i64) v7141 z8813, cells b5469 [Pt b7130 0], cells b7130 [v7131, v7133, v7135, v7137, v7139, v7141], ownS (tyInt .u64) v7131 z7122.up, ownS (tyInt .u64) v7133 z7122.down, ownS (tySl (tyInt .i64)) v7135 z7122.join, ownS (tySl (tyInt .i64)) v7137 z7122.meet, ownS (tyInt .i64) v7139 z7122.rank] R) ?_ ?_
 {
 refine wp_block ?_
 obtain ⟨n8254, hm⟩ := loopO_some hm
 refine wp_loop_n (fun n a w => ∃ (z8250 : Int) (z8251 : Int) (z8252 : (List Int)) (σ8253 : Nat → Value), loopN (label_New_l10 z7122) n (z8250, z8251, z8252) = some y8817 ∧ a = Fr 63 (upd (upd (upd (upd (upd (upd σ8253 0 (v7141)) 1 (.int .i64 ((z7122.all).length : Int))) 2 (.func (.func 48) #[] #[Pt b5469 0])) 6 (.int .i64 (20:Int))) 7 (.int .i64 z8250)) 8 (.int .i64 z8251)) ∧ St w0 w I7123 [cells b7130 [v7131, v7133, v7135, v7137, v7139, v7141], ownS (tyInt .u64) v7131 z7122.up, ownS (tyInt .u64) v7133 z7122.down, ownS (tySl (tyInt .i64)) v7135 z7122.join, ownS (tySl (tyInt .i64)) v7137 z7122.meet, ownS (tyInt .i64) v7139 z7122.rank, ownS (tyInt .i64) v7141 z8252, cells b5469 [Pt b7130 0]] R) n8254 ⟨(0:Int), (20:Int), z7122.all, _, hm, (fu 0 v7141 z (fu 1 (.int .i64 ((z7122.all).length : Int)) z (fu 2 (.func (.func 48) #[] #[Pt b5469 0]) z (fu 6 (.int .i64 (20:Int)) z (fu 7 (.int .i64 (0:Int)) z (fu 8 (.int .i64 (20:Int)) z z)))))), hst⟩ ?_
 rintro n8260 _ w8255 ⟨z8250, z8251, z8252, σ8253, hm, rfl, hst⟩
 obtain ⟨n8257, y8258, rfl, hm, hx8259⟩ := loopN_some hm
 dsimp only [label_New_l10] at hm
 refine wp_seq (wp_seq (wrl (wv (.int .i64 z8251) z z z (wv (.int .i64 ((z7122.all).length : Int)) z z z (wv (.bool (decide (z8251 ≤ ((z7122.all).length : Int)))) z z z (wl_nil (tn ?_)))))))
 refine bsplit (decide (z8251 ≤ ((z7122.all).length : Int))) (fun hc8261 => ?_) (fun hc8261 => ?_)
 {
 replace hm := bif_t hc8261 hm
 refine wp_ift (cvb hc8261) ?_
 refine wp_skip (tn (wp_block (wp_seq (wrl ?_))))
 refine wv (v7141) z z z (wv (.int .i64 z8250) z z z (wv (.int .i64 z8251) z z z (wv (.func (.func 48) #[] #[Pt b5469 0]) z z z ?_)))
 obtain ⟨y8810, hq8811, hm⟩ := bind_some hm
 refine wl_call z z (x_callv call59 (caps := []) z (vs := [v7141, I6 z8250, I6 z8251, .func (.func 48) #[] #[Pt b5469 0]]) z) ?_
 refine Calls.mono (show Calls prog 59 #[v7141, I6 z8250, I6 z8251, .func (.func 48) #[] #[Pt b5469 0]] _ (fun e w' => ∃ (z8808 : (List Int)), z8808 = y8810 ∧ e = .returned (.tuple #[]) ∧ St w0 w' I7123 [cells b5469 [Pt b7130 0], cells b7130 [v7131, v7133, v7135, v7137, v7139, v7141], ownS (tyInt .u64) v7131 z7122.up, ownS (tyInt .u64) v7133 z7122.down, ownS (tySl (tyInt .i64)) v7135 z7122.join, ownS (tySl (tyInt .i64)) v7137 z7122.meet, ownS (tyInt .i64) v7139 z7122.rank, ownS (tyInt .i64) v7141 z8808] R) from ?_) ?_
 {
 clear hm; have hm := hq8811
 refine calls_start (args := [v7141, I6 z8250, I6 z8251, .func (.func 48) #[] #[Pt b5469 0]]) func59 z ntmps59 (Nat.le_of_ble_eq_true z) ?_
 refine wp_seq (wrl (wv (.int .i64 z8250) z z z (wv (.int .i64 (i64.wrap (z8250 + (1:Int)))) z z z (wv (.int .i64 (i64.wrap (z8250 + (1:Int)))) z z z (wl_nil (tn (wp_block ?_)))))))
 obtain ⟨n8623, hm⟩ := loopO_some hm
 refine wp_loop_n (fun n a w => ∃ (z8620 : Int) (z8621 : (List Int)) (σ8622 : Nat → Value), loopN (label_New_l11 z8251 z8250 z7122) n (z8620, z8621) = some y8810 ∧ a = Fr 53 (upd (upd (upd (upd (upd σ8622 0 (v7141)) 1 (.int .i64 z8250)) 2 (.int .i64 z8251)) 3 (.func (.func 48) #[] #[Pt b5469 0])) 8 (.int .i64 z8620)) ∧ St w0 w I7123 [cells b7130 [v7131, v7133, v7135, v7137, v7139, v7141], ownS (tyInt .u64) v7131 z7122.up, ownS (tyInt .u64) v7133 z7122.down, ownS (tySl (tyInt .i64)) v7135 z7122.join, ownS (tySl (tyInt .i64)) v7137 z7122.meet, ownS (tyInt .i64) v7139 z7122.rank, ownS (tyInt .i64) v7141 z8621, cells b5469 [Pt b7130 0]] R) n8623 ⟨(i64.wrap (z8250 + (1:Int))), z8252, _, hm, (fu 0 v7141 z (fu 1 (.int .i64 z8250) z (fu 2 (.int .i64 z8251) z (fu 3 (.func (.func 48) #[] #[Pt b5469 0]) z (fu 8 (.int .i64 (i64.wrap (z8250 + (1:Int)))) z z))))), hst⟩ ?_
 rintro n8629 _ w8624 ⟨z8620, z8621, σ8622, hm, rfl, hst⟩
 obtain ⟨n8626, y8627, rfl, hm, hx8628⟩ := loopN_some hm
 dsimp only [label_New_l11] at hm
 refine wp_seq (wp_seq (wrl (wv (.int .i64 z8620) z z z (wv (.int .i64 z8251) z z z (wv (.bool (decide (z8620 < z8251))) z z z (wl_nil (tn ?_)))))))
 refine bsplit (decide (z8620 < z8251)) (fun hc8630 => ?_) (fun hc8630 => ?_)
 {
 replace hm := bif_t hc8630 hm
 refine wp_ift (cvb hc8630) ?_
 refine wp_skip (tn (wp_seq (wp_block (wp_seq (wrl ?_)))))
 refine wv (.int .i64 z8620) z z z (wv (.int .i64 z8620) z z z (wl_nil (tn (wp_block ?_))))
 obtain ⟨n8746, hm⟩ := loopO_some hm
 refine wp_loop_n (fun n a w => ∃ (z8743 : Int) (z8744 : (List Int)) (σ8745 : Nat → Value), loopN (label_New_l12 z8250 z7122 z8620) n (z8743, z8744) = some y8627 ∧ a = Fr 53 (upd (upd (upd (upd (upd (upd σ8745 0 (v7141)) 1 (.int .i64 z8250)) 2 (.int .i64 z8251)) 3 (.func (.func 48) #[] #[Pt b5469 0])) 8 (.int .i64 z8620)) 9 (.int .i64 z8743)) ∧ St w0 w I7123 [cells b7130 [v7131, v7133, v7135, v7137, v7139, v7141], ownS (tyInt .u64) v7131 z7122.up, ownS (tyInt .u64) v7133 z7122.down, ownS (tySl (tyInt .i64)) v7135 z7122.join, ownS (tySl (tyInt .i64)) v7137 z7122.meet, ownS (tyInt .i64) v7139 z7122.rank, ownS (tyInt .i64) v7141 z8744, cells b5469 [Pt b7130 0]] R) n8746 ⟨z8620, z8621, _, hm, (fu 0 v7141 z (fu 1 (.int .i64 z8250) z (fu 2 (.int .i64 z8251) z (fu 3 (.func (.func 48) #[] #[Pt b5469 0]) z (fu 8 (.int .i64 z8620) z (fu 9 (.int .i64 z8620) z z)))))), hst⟩ ?_
 rintro n8752 _ w8747 ⟨z8743, z8744, σ8745, hm, rfl, hst⟩
 obtain ⟨n8749, y8750, rfl, hm, hx8751⟩ := loopN_some hm
 dsimp only [label_New_l12] at hm
 refine wp_seq (wp_seq ?_)
 refine wp_region_St hst 17 [0, 1, 2, 3, 4, 5, 6, 7, 8, 9, 10, 11, 12, 13, 14, 15, 16] [0, 0, 3, 7, 15, 15, 15, 111, 239, 15, 15, 1039, 3599, 7695, 16383, 32767, 65535] [] z (by kernel_rfl) (by kernel_rfl) Try.mixed (by kernel_rfl) ?_
 refine wsr (.int .i64 z8743) 0 z z z (by kernel_rfl) (fun w hst => z) (wsr (.int .i64 z8250) 1 z z z (by kernel_rfl) (fun w hst => z) (wsr (.bool (decide (z8743 > z8250))) 2 z z z (by kernel_rfl) (fun w hst => z) (wsr (.bool (decide (z8743 > z8250))) 3 z z z (by kernel_rfl) (fun w hst => z) ?_)))
 refine bsplit (decide (z8743 > z8250)) (fun hc8753 => ?_) (fun hc8753 => ?_)
 {
 replace hm := bif_t hc8753 hm
 refine ws_q (v := .func (.func 48) #[] #[Pt b5469 0]) 4 [5, 6, 7, 8, 9, 10, 11, 12, 13, 14, 15, 16] (by kernel_rfl) z z (yi_run ((wanted_eq z z z (cvb hc8753)).trans z) (fun w hst => z)) (ws_q (v := v7141) 5 [6, 7, 8, 9, 10, 11, 12, 13, 14, 15, 16] (by kernel_rfl) z z (yi_run ((wanted_eq z z z (cvb hc8753)).trans z) (fun w hst => z)) (ws_q (v := .int .i64 z8743) 6 [7, 8, 9, 10, 11, 12, 13, 14, 15, 16] (by kernel_rfl) z z (yi_run ((wanted_eq z z z (cvb hc8753)).trans z) (fun w hst => z)) ?_))
 obtain ⟨x8754, hx8755, hm⟩ := bind_some hm
 obtain ⟨h8756, h8757, hi8758⟩ := geto_some hx8755
 refine ws_q (v := .pointer (some (eAddr v7141 (z8743.toNat * 1 + 0)))) 7 [8, 9, 10, 11, 12, 13, 14, 15, 16] (by kernel_rfl) z z (yi_run ((wanted_eq z z z (cvb hc8753)).trans z) (fun w hst => x_index z z underlying46 sizeOf3 hst.sv6 h8756 h8757)) (ws_q (v := .int .i64 x8754) 8 [9, 10, 11, 12, 13, 14, 15, 16] (by kernel_rfl) z z (yi_run ((wanted_eq z z z (cvb hc8753)).trans z) (fun w hst => x_load z isAgg3 (hst.ol6 hi8758 (by rintro _ rfl; rfl)))) (ws_q (v := v7141) 9 [10, 11, 12, 13, 14, 15, 16] (by kernel_rfl) z z (yi_run ((wanted_eq z z z (cvb hc8753)).trans z) (fun w hst => z)) (ws_q (v := .int .i64 z8743) 10 [11, 12, 13, 14, 15, 16] (by kernel_rfl) z z (yi_run ((wanted_eq z z z (cvb hc8753)).trans z) (fun w hst => z)) (ws_q (v := .int .i64 (i64.wrap (z8743 - (1:Int)))) 11 [12, 13, 14, 15, 16] (by kernel_rfl) z z (yi_run ((wanted_eq z z z (cvb hc8753)).trans z) (fun w hst => z)) ?_))))
 obtain ⟨x8759, hx8760, hm⟩ := bind_some hm
 obtain ⟨h8761, h8762, hi8763⟩ := geto_some hx8760
 refine ws_q (v := .pointer (some (eAddr v7141 ((i64.wrap (z8743 - (1:Int))).toNat * 1 + 0)))) 12 [13, 14, 15, 16] (by kernel_rfl) z z (yi_run ((wanted_eq z z z (cvb hc8753)).trans z) (fun w hst => x_index z z underlying46 sizeOf3 hst.sv6 h8761 h8762)) (ws_q (v := .int .i64 x8759) 13 [14, 15, 16] (by kernel_rfl) z z (yi_run ((wanted_eq z z z (cvb hc8753)).trans z) (fun w hst => x_load z isAgg3 (hst.ol6 hi8763 (by rintro _ rfl; rfl)))) ?_)
 refine ws_e1 14 (by kernel_rfl) ?_
 refine nxe [15, 16] (by kernel_rfl) z ((wanted_eq z z z (cvb hc8753)).trans z) ?_
 clear hst
 intro w hst
 obtain ⟨y8791, hq8792, hm⟩ := bind_some hm
 refine we_call z (x_callv call48 (caps := [Pt b5469 0]) z (vs := [I6 x8754, I6 x8759]) z) ?_
 refine Calls.mono (show Calls prog 48 #[I6 x8754, I6 x8759, Pt b5469 0] _ (fun e w' => ∃ (z8789 : Int), z8789 = y8791 ∧ e = .returned (.int .i64 z8789) ∧ St w0 w' I7123 [cells b5469 [Pt b7130 0], cells b7130 [v7131, v7133, v7135, v7137, v7139, v7141], ownS (tyInt .u64) v7131 z7122.up, ownS (tyInt .u64) v7133 z7122.down, ownS (tySl (tyInt .i64)) v7135 z7122.join, ownS (tySl (tyInt .i64)) v7137 z7122.meet, ownS (tyInt .i64) v7139 z7122.rank, ownS (tyInt .i64) v7141 z8744] R) from ?_) ?_
 {
 clear hm; have hm := hq8792
 refine calls_start (args := [I6 x8754, I6 x8759, Pt b5469 0]) func48 z ntmps48 (Nat.le_of_ble_eq_true z) ?_
 refine wp_seq (wrl (wv (.int .i64 (0:Int)) z z z (wl_nil (tn (wp_seq ?_)))))
 refine wp_region_St hst 18 [0, 1, 2, 3, 4, 5, 6, 7, 8, 9, 10, 11, 12, 13, 14, 15, 16, 17] [0, 1, 3, 7, 0, 31, 63, 127, 0, 256, 768, 1792, 0, 7936, 16128, 32767, 65535, 131071] [] z (by kernel_rfl) (by kernel_rfl) Try.mixed (by kernel_rfl) ?_
 refine wsr (Pt b7130 0) 0 z z z (by kernel_rfl) (fun w hst => x_load z isAgg60 (hst.bc7 z)) (wsr (Pt b7130 0) 1 z z z (by kernel_rfl) (fun w hst => z) (wsr (Pt b7130 1) 2 z z z (by kernel_rfl) (fun w hst => x_field z underlying73 z sizeOf25 z) (wsr (v7133) 3 z z z (by kernel_rfl) (fun w hst => x_load z isAgg25 (hst.bc0 z)) (wsr (.int .i64 x8754) 4 z z z (by kernel_rfl) (fun w hst => z) ?_))))
 obtain ⟨x8764, hx8765, hm⟩ := bind_some hm
 obtain ⟨h8766, h8767, hi8768⟩ := geto_some hx8765
 refine wsr (.pointer (some (eAddr v7133 (x8754.toNat * 1 + 0)))) 5 z z z (by kernel_rfl) (fun w hst => x_index z z underlying25 sizeOf22 hst.sv2 h8766 h8767) (wsr (.int .u64 x8764) 6 z z z (by kernel_rfl) (fun w hst => x_load z isAgg22 (hst.ol2 hi8768 (by rintro _ rfl; rfl))) (wsr (Pt b7130 0) 8 z z z (by kernel_rfl) (fun w hst => x_load z isAgg60 (hst.bc7 z)) (wsr (Pt b7130 0) 9 z z z (by kernel_rfl) (fun w hst => z) (wsr (Pt b7130 1) 10 z z z (by kernel_rfl) (fun w hst => x_field z underlying73 z sizeOf25 z) (wsr (v7133) 11 z z z (by kernel_rfl) (fun w hst => x_load z isAgg25 (hst.bc0 z)) (wsr (.int .i64 x8759) 12 z z z (by kernel_rfl) (fun w hst => z) ?_))))))
 obtain ⟨x8769, hx8770, hm⟩ := bind_some hm
 obtain ⟨h8771, h8772, hi8773⟩ := geto_some hx8770
 refine wsr (.pointer (some (eAddr v7133 (x8759.toNat * 1 + 0)))) 13 z z z (by kernel_rfl) (fun w hst => x_index z z underlying25 sizeOf22 hst.sv2 h8771 h8772) (wsr (.int .u64 x8769) 14 z z z (by kernel_rfl) (fun w hst => x_load z isAgg22 (hst.ol2 hi8773 (by rintro _ rfl; rfl))) ?_)
 refine ws_e1 7 (by kernel_rfl) ?_
 refine nxe [15, 16, 17] (by kernel_rfl) z z ?_
 clear hst
 intro w hst
 obtain ⟨t8774, ht8775, hm⟩ := bind_some hm
 refine wec call32 [U6 x8764] z z ?_
 refine (math_bits_OnesCount64_ref hst.to0 ht8775).mono ?_
 rintro _ w8776 ⟨rfl, hst⟩
 refine ⟨_, z, ?_⟩
 replace hst := hst.of0
 refine ws_next (pend' := [(14, U6 x8769), (13, .pointer (some (eAddr v7133 (x8759.toNat * 1 + 0)))), (12, I6 x8759), (11, v7133), (10, Pt b7130 1), (9, Pt b7130 0), (8, Pt b7130 0)]) hst (by kernel_rfl) (pkr z z (fun w hst => x_load z isAgg22 (hst.ol2 hi8773 (by rintro _ rfl; rfl))) (pkr z z (fun w hst => x_index z z underlying25 sizeOf22 hst.sv2 h8771 h8772) (pkr z z (fun w hst => z) (pkr z z (fun w hst => x_load z isAgg25 (hst.bc0 z)) (pkr z z (fun w hst => x_field z underlying73 z sizeOf25 z) (pkr z z (fun w hst => z) (pkr z z (fun w hst => x_load z isAgg60 (hst.bc7 z)) pk_nil))))))) ?_
 refine ws_e1 15 (by kernel_rfl) ?_
 refine nxe [16, 17] (by kernel_rfl) z z ?_
 clear hst
 intro w hst
 obtain ⟨t8779, ht8780, hm⟩ := bind_some hm
 refine wec call32 [U6 x8769] z z ?_
 refine (math_bits_OnesCount64_ref hst.to0 ht8780).mono ?_
 rintro _ w8781 ⟨rfl, hst⟩
 refine ⟨_, z, ?_⟩
 replace hst := hst.of0
 refine ws_next (pend' := []) hst (by kernel_rfl) pk_nil ?_
 refine ws_e1 16 (by kernel_rfl) ?_
 refine nxe [17] (by kernel_rfl) z z ?_
 clear hst
 intro w hst
 obtain ⟨t8784, ht8785, hm⟩ := bind_some hm
 refine wec call49 [I6 t8774, I6 t8779] z z ?_
 refine (cmp_Compare_int_ref hst.to0 ht8785).mono ?_
 rintro _ w8786 ⟨rfl, hst⟩
 refine ⟨_, z, ?_⟩
 replace hst := hst.of0
 refine ws_next (pend' := []) hst (by kernel_rfl) pk_nil ?_
 refine wsr (.int .i64 t8784) 17 z z z (by kernel_rfl) (fun w hst => z) ?_
 refine ws_nil ?_
 intro w hst
 refine tn (wp_ret ?_)
 refine post_ret (vs := [I6 t8784]) results48 (rvs_cons (rv_tmp z) rvs_nil) ?_
 replace hst := hst.pull6.pull6.pull6.pull6.pull6.pull6.pull6.pull7.keep8
 obtain rfl := some_inj hm
 exact ⟨t8784, z, z, hst⟩
}
 clear hst
 rintro _ w8793 ⟨z8789, rfl, rfl, hst⟩
 refine ⟨_, z, ?_⟩
 try dsimp only at hm
 refine ws_next (pend' := []) hst (by kernel_rfl) pk_nil ?_
 refine ws_q (v := .bool (decide (z8789 < (0:Int)))) 15 [16] (by kernel_rfl) z z (yi_run ((wanted_eq z z z (cvb hc8753)).trans z) (fun w hst => z)) (wsr (.bool (decide (z8789 < (0:Int)))) 16 z z z (by kernel_rfl) (fun w hst => x_pick_t hc8753 z z) ?_)
 refine ws_nil ?_
 intro w hst
 refine tn ?_
 refine bsplit (decide (z8789 < (0:Int))) (fun hc8794 => ?_) (fun hc8794 => ?_)
 {
 replace hm := bif_t hc8794 hm
 refine wp_ift (cvb hc8794) ?_
 refine wp_skip (tn (wp_seq (wp_block ?_)))
 refine wp_region_St hst 18 [0, 1, 2, 3, 4, 5, 6, 7, 8, 9, 10, 11, 12, 13, 14, 15, 16, 17] [0, 0, 0, 0, 8, 0, 0, 64, 224, 480, 0, 0, 3072, 7168, 16355, 32739, 65535, 131071] [] z (by kernel_rfl) (by kernel_rfl) Try.mixed (by kernel_rfl) ?_
 refine wsr (v7141) 0 z z z (by kernel_rfl) (fun w hst => z) (wsr (.int .i64 z8743) 1 z z z (by kernel_rfl) (fun w hst => z) (wsr (v7141) 2 z z z (by kernel_rfl) (fun w hst => z) (wsr (.int .i64 z8743) 3 z z z (by kernel_rfl) (fun w hst => z) (wsr (.int .i64 (i64.wrap (z8743 - (1:Int)))) 4 z z z (by kernel_rfl) (fun w hst => z) (wsr (v7141) 5 z z z (by kernel_rfl) (fun w hst => z) (wsr (.int .i64 z8743) 6 z z z (by kernel_rfl) (fun w hst => z) (wsr (.int .i64 (i64.wrap (z8743 - (1:Int)))) 7 z z z (by kernel_rfl) (fun w hst => z) (wsr (.pointer (some (eAddr v7141 ((i64.wrap (z8743 - (1:Int))).toNat * 1 + 0)))) 8 z z z (by kernel_rfl) (fun w hst => x_index z z underlying46 sizeOf3 hst.sv7 h8761 h8762) (wsr (.int .i64 x8759) 9 z z z (by kernel_rfl) (fun w hst => x_load z isAgg3 (hst.ol7 hi8763 (by rintro _ rfl; rfl))) (wsr (v7141) 10 z z z (by kernel_rfl) (fun w hst => z) (wsr (.int .i64 z8743) 11 z z z (by kernel_rfl) (fun w hst => z) (wsr (.pointer (some (eAddr v7141 (z8743.toNat * 1 + 0)))) 12 z z z (by kernel_rfl) (fun w hst => x_index z z underlying46 sizeOf3 hst.sv7 h8756 h8757) ?_))))))))))))
 refine wsr (.int .i64 x8754) 13 z z z (by kernel_rfl) (fun w hst => x_load z isAgg3 (hst.ol7 hi8758 (by rintro _ rfl; rfl))) (wsr (.pointer (some (eAddr v7141 (z8743.toNat * 1 + 0)))) 14 z z z (by kernel_rfl) (fun w hst => x_index z z underlying46 sizeOf3 hst.sv7 h8756 h8757) ?_)
 refine ws_e1 15 (by kernel_rfl) ?_
 refine nxe [16, 17] (by kernel_rfl) z z ?_
 clear hst
 intro w hst
 replace hst := hst.pull7
 obtain ⟨w8795, hr8796, hst⟩ := hst.own_store (P := prog) (t := 3) (y := x8759) hi8758 0 (.int .i64 x8759) sizeOf3 (Nat.le_of_ble_eq_true z) (oC z oN) (by rintro _ rfl; rfl)
 have hi8797 := set_get hi8758 x8759
 have h8798 := set_lt h8757 z8743.toNat x8759
 refine we_unit z (x_unit hr8796) ?_
 refine ws_next (pend' := [(4, I6 (i64.wrap (z8743 - (1:Int)))), (3, I6 z8743), (2, v7141)]) hst (by kernel_rfl) (pkr z z (fun w hst => z) (pkr z z (fun w hst => z) (pkr z z (fun w hst => z) pk_nil))) ?_
 obtain ⟨x8799, hx8800, hm⟩ := bind_some hm
 obtain ⟨h8801, h8802, hi8803⟩ := geto_some hx8800
 refine wsr (.pointer (some (eAddr v7141 ((i64.wrap (z8743 - (1:Int))).toNat * 1 + 0)))) 16 z z z (by kernel_rfl) (fun w hst => x_index z z underlying46 sizeOf3 hst.sv0 h8801 h8802) ?_
 refine ws_e1 17 (by kernel_rfl) ?_
 refine nxe [] (by kernel_rfl) z z ?_
 clear hst
 intro w hst
 obtain ⟨w8804, hr8805, hst⟩ := hst.own_store (P := prog) (t := 3) (y := x8754) hi8803 0 (.int .i64 x8754) sizeOf3 (Nat.le_of_ble_eq_true z) (oC z oN) (by rintro _ rfl; rfl)
 have hi8806 := set_get hi8803 x8754
 have h8807 := set_lt h8802 (i64.wrap (z8743 - (1:Int))).toNat x8754
 refine we_unit z (x_unit hr8805) ?_
 refine ws_next (pend' := []) hst (by kernel_rfl) pk_nil ?_
 refine ws_nil ?_
 intro w hst
 refine blk_n (tn (wrl ?_))
 refine wv (.int .i64 z8743) z z z (wv (.int .i64 (i64.wrap (z8743 - (1:Int)))) z z z (wv (.int .i64 (i64.wrap (z8743 - (1:Int)))) z z z (wl_nil (tn ?_))))
 replace hst := hst.pull1.pull1.pull7.pull7.pull7.pull7.pull7.pull7.keep8
 obtain rfl := some_inj hm
 exact ⟨_, Nat.lt_succ_self _, (i64.wrap (z8743 - (1:Int))), ((z8744.set z8743.toNat x8759).set (i64.wrap (z8743 - (1:Int))).toNat x8754), _, hx8751, (fu 0 v7141 z (fu 1 (.int .i64 z8250) z (fu 2 (.int .i64 z8251) z (fu 3 (.func (.func 48) #[] #[Pt b5469 0]) z (fu 8 (.int .i64 z8620) z (fu 9 (.int .i64 (i64.wrap (z8743 - (1:Int)))) z z)))))), hst⟩
}
 {
 replace hm := bif_f hc8794 hm
 refine wp_iff (cvb hc8794) ?_
 refine wp_exit (then_x (then_x ?_))
 replace hm := inr_up hm hx8751
 refine blk_x (blk_n (tn (wrl ?_)))
 refine wv (.int .i64 z8620) z z z (wv (.int .i64 (i64.wrap (z8620 + (1:Int)))) z z z (wv (.int .i64 (i64.wrap (z8620 + (1:Int)))) z z z (wl_nil (tn ?_))))
 replace hst := hst.pull7.pull7.pull7.pull7.pull7.pull7.pull7.keep8
 obtain rfl := some_inj hm
 exact ⟨_, Nat.lt_succ_self _, (i64.wrap (z8620 + (1:Int))), z8744, _, hx8628, (fu 0 v7141 z (fu 1 (.int .i64 z8250) z (fu 2 (.int .i64 z8251) z (fu 3 (.func (.func 48) #[] #[Pt b5469 0]) z (fu 8 (.int .i64 (i64.wrap (z8620 + (1:Int)))) z z))))), hst⟩
}
}
 {
 replace hm := bif_f hc8753 hm
 refine ws_q (v := undef) 4 [5, 6, 7, 8, 9, 10, 11, 12, 13, 14, 15, 16] (by kernel_rfl) z z (yi_off ((wanted_eq z z z (cvb hc8753)).trans z)) (ws_q (v := undef) 5 [6, 7, 8, 9, 10, 11, 12, 13, 14, 15, 16] (by kernel_rfl) z z (yi_off ((wanted_eq z z z (cvb hc8753)).trans z)) (ws_q (v := undef) 6 [7, 8, 9, 10, 11, 12, 13, 14, 15, 16] (by kernel_rfl) z z (yi_off ((wanted_eq z z z (cvb hc8753)).trans z)) (ws_q (v := undef) 7 [8, 9, 10, 11, 12, 13, 14, 15, 16] (by kernel_rfl) z z (yi_off ((wanted_eq z z z (cvb hc8753)).trans z)) (ws_q (v := undef) 8 [9, 10, 11, 12, 13, 14, 15, 16] (by kernel_rfl) z z (yi_off ((wanted_eq z z z (cvb hc8753)).trans z)) (ws_q (v := undef) 9 [10, 11, 12, 13, 14, 15, 16] (by kernel_rfl) z z (yi_off ((wanted_eq z z z (cvb hc8753)).trans z)) (ws_q (v := undef) 10 [11, 12, 13, 14, 15, 16] (by kernel_rfl) z z (yi_off ((wanted_eq z z z (cvb hc8753)).trans z)) (ws_q (v := undef) 11 [12, 13, 14, 15, 16] (by kernel_rfl) z z (yi_off ((wanted_eq z z z (cvb hc8753)).trans z)) (ws_q (v := undef) 12 [13, 14, 15, 16] (by kernel_rfl) z z (yi_off ((wanted_eq z z z (cvb hc8753)).trans z)) (ws_q (v := undef) 13 [14, 15, 16] (by kernel_rfl) z z (yi_off ((wanted_eq z z z (cvb hc8753)).trans z)) (ws_q (v := undef) 14 [15, 16] (by kernel_rfl) z z (yi_off ((wanted_eq z z z (cvb hc8753)).trans z)) (ws_q (v := undef) 15 [16] (by kernel_rfl) z z (yi_off ((wanted_eq z z z (cvb hc8753)).trans z)) (wsr (.bool false) 16 z z z (by kernel_rfl) (fun w hst => x_pick_f hc8753 z z) ?_))))))))))))
 refine ws_nil ?_
 intro w hst
 refine tn ?_
 refine wp_iff z ?_
 refine wp_exit (then_x (then_x ?_))
 replace hm := inr_up hm hx8751
 refine blk_x (blk_n (tn (wrl ?_)))
 refine wv (.int .i64 z8620) z z z (wv (.int .i64 (i64.wrap (z8620 + (1:Int)))) z z z (wv (.int .i64 (i64.wrap (z8620 + (1:Int)))) z z z (wl_nil (tn ?_))))
 replace hst := hst.pull7.pull7.pull7.pull7.pull7.pull7.pull7.pull7.keep8
 obtain rfl := some_inj hm
 exact ⟨_, Nat.lt_succ_self _, (i64.wrap (z8620 + (1:Int))), z8744, _, hx8628, (fu 0 v7141 z (fu 1 (.int .i64 z8250) z (fu 2 (.int .i64 z8251) z (fu 3 (.func (.func 48) #[] #[Pt b5469 0]) z (fu 8 (.int .i64 (i64.wrap (z8620 + (1:Int)))) z z))))), hst⟩
}
}
 {
 replace hm := bif_f hc8630 hm
 refine wp_iff (cvb hc8630) ?_
 refine wp_exit (then_x (then_x ?_))
 replace hm := inr_up hm hx8628
 refine blk_x ?_
 refine post_end (vs := []) results59 rvs_nil ?_
 replace hst := hst.pull6.pull6.pull6.pull6.pull6.pull6.pull6.pull7.keep8
 obtain rfl := some_inj hm
 exact ⟨z8621, z, z, hst⟩
}
}
 clear hst
 rintro _ w8812 ⟨z8808, rfl, rfl, hst⟩
 refine ⟨_, z, ?_⟩
 try dsimp only at hm
 refine wl_nil (tn (wp_seq (wrl (wv (.int .i64 z8251) z z z (wv (.int .i64 z8251) z z z (wl_nil (tn (wrl (wv (.int .i64 z8251) z z z (wv (.int .i64 (20:Int)) z z z (wv (.int .i64 (i64.wrap (z8251 + (20:Int)))) z z z (wv (.int .i64 (i64.wrap (z8251 + (20:Int)))) z z z (wl_nil (blk_n (tn ?_)))))))))))))))
 replace hst := hst.pull7.pull7.pull7.pull7.pull7.pull7.pull7.keep8
 obtain rfl := some_inj hm
 exact ⟨_, Nat.lt_succ_self _, z8251, (i64.wrap (z8251 + (20:Int))), z8808, _, hx8259, (fu 0 v7141 z (fu 1 (.int .i64 ((z7122.all).length : Int)) z (fu 2 (.func (.func 48) #[] #[Pt b5469 0]) z (fu 6 (.int .i64 (20:Int)) z (fu 7 (.int .i64 z8251) z (fu 8 (.int .i64 (i64.wrap (z8251 + (20:Int)))) z z)))))), hst⟩
}
 {
 replace hm := bif_f hc8261 hm
 refine wp_iff (cvb hc8261) ?_
 refine wp_exit (then_x (then_x ?_))
 replace hm := inr_up hm hx8259
 refine blk_x (tn ?_)
 replace hst := hst.pull5.pull5.pull5.pull5.pull5.pull5.pull7.pull7.keep8
 obtain rfl := some_inj hm
 exact ⟨z8252, z8250, _, hx8818, (fu 0 v7141 z (fu 1 (.int .i64 ((z7122.all).length : Int)) z (fu 2 (.func (.func 48) #[] #[Pt b5469 0]) z (fu 6 (.int .i64 (20:Int)) z (fu 7 (.int .i64 z8250) z z))))), hst⟩
}
}
 {
 clear hst
 rintro _ w8819 ⟨z8813, z8814, σ8815, hm, rfl, hst⟩
 dsimp only [label_New_j9] at hm
 refine wp_seq (wrl (wv (v7141) z z z (wv (.int .i64 z8814) z z z (wv (.int .i64 ((z7122.all).length : Int)) z z z (wv (.func (.func 48) #[] #[Pt b5469 0]) z z z ?_)))))
 obtain ⟨y9368, hq9369, hm⟩ := bind_some hm
 refine wl_call z z (x_callv call59 (caps := []) z (vs := [v7141, I6 z8814, I6 ((z7122.all).length : Int), .func (.func 48) #[] #[Pt b5469 0]]) z) ?_
 refine Calls.mono (show Calls prog 59 #[v7141, I6 z8814, I6 ((z7122.all).length : Int), .func (.func 48) #[] #[Pt b5469 0]] _ (fun e w' => ∃ (z9366 : (List Int)), z9366 = y9368 ∧ e = .returned (.tuple #[]) ∧ St w0 w' I7123 [cells b5469 [Pt b7130 0], cells b7130 [v7131, v7133, v7135, v7137, v7139, v7141], ownS (tyInt .u64) v7131 z7122.up, ownS (tyInt .u64) v7133 z7122.down, ownS (tySl (tyInt .i64)) v7135 z7122.join, ownS (tySl (tyInt .i64)) v7137 z7122.meet, ownS (tyInt .i64) v7139 z7122.rank, ownS (tyInt .i64) v7141 z9366] R) from ?_) ?_
 {
 clear hm; have hm := hq9369
 refine calls_start (args := [v7141, I6 z8814, I6 ((z7122.all).length : Int), .func (.func 48) #[] #[Pt b5469 0]]) func59 z ntmps59 (Nat.le_of_ble_eq_true z) ?_
 refine wp_seq (wrl (wv (.int .i64 z8814) z z z (wv (.int .i64 (i64.wrap (z8814 + (1:Int)))) z z z (wv (.int .i64 (i64.wrap (z8814 + (1:Int)))) z z z (wl_nil (tn (wp_block ?_)))))))
 obtain ⟨n9181, hm⟩ := loopO_some hm
 refine wp_loop_n (fun n a w => ∃ (z9178 : Int) (z9179 : (List Int)) (σ9180 : Nat → Value), loopN (label_New_l13 z7122 z8814) n (z9178, z9179) = some y9368 ∧ a = Fr 53 (upd (upd (upd (upd (upd σ9180 0 (v7141)) 1 (.int .i64 z8814)) 2 (.int .i64 ((z7122.all).length : Int))) 3 (.func (.func 48) #[] #[Pt b5469 0])) 8 (.int .i64 z9178)) ∧ St w0 w I7123 [ownS (tyInt .i64) v7141 z9179, cells b5469 [Pt b7130 0], cells b7130 [v7131, v7133, v7135, v7137, v7139, v7141], ownS (tyInt .u64) v7131 z7122.up, ownS (tyInt .u64) v7133 z7122.down, ownS (tySl (tyInt .i64)) v7135 z7122.join, ownS (tySl (tyInt .i64)) v7137 z7122.meet, ownS (tyInt .i64) v7139 z7122.rank] R) n9181 ⟨(i64.wrap (z8814 + (1:Int))), z8813, _, hm, (fu 0 v7141 z (fu 1 (.int .i64 z8814) z (fu 2 (.int .i64 ((z7122.all).length : Int)) z (fu 3 (.func (.func 48) #[] #[Pt b5469 0]) z (fu 8 (.int .i64 (i64.wrap (z8814 + (1:Int)))) z z))))), hst⟩ ?_
 rintro n9187 _ w9182 ⟨z9178, z9179, σ9180, hm, rfl, hst⟩
 obtain ⟨n9184, y9185, rfl, hm, hx9186⟩ := loopN_some hm
 dsimp only [label_New_l13] at hm
 refine wp_seq (wp_seq (wrl (wv (.int .i64 z9178) z z z (wv (.int .i64 ((z7122.all).length : Int)) z z z (wv (.bool (decide (z9178 < ((z7122.all).length : Int)))) z z z (wl_nil (tn ?_)))))))
 refine bsplit (decide (z9178 < ((z7122.all).length : Int))) (fun hc9188 => ?_) (fun hc9188 => ?_)
 {
 replace hm := bif_t hc9188 hm
 refine wp_ift (cvb hc9188) ?_
 refine wp_skip (tn (wp_seq (wp_block (wp_seq (wrl ?_)))))
 refine wv (.int .i64 z9178) z z z (wv (.int .i64 z9178) z z z (wl_nil (tn (wp_block ?_))))
 obtain ⟨n9304, hm⟩ := loopO_some hm
 refine wp_loop_n (fun n a w => ∃ (z9301 : Int) (z9302 : (List Int)) (σ9303 : Nat → Value), loopN (label_New_l14 z8814 z7122 z9178) n (z9301, z9302) = some y9185 ∧ a = Fr 53 (upd (upd (upd (upd (upd (upd σ9303 0 (v7141)) 1 (.int .i64 z8814)) 2 (.int .i64 ((z7122.all).length : Int))) 3 (.func (.func 48) #[] #[Pt b5469 0])) 8 (.int .i64 z9178)) 9 (.int .i64 z9301)) ∧ St w0 w I7123 [ownS (tyInt .i64) v7141 z9302, cells b5469 [Pt b7130 0], cells b7130 [v7131, v7133, v7135, v7137, v7139, v7141], ownS (tyInt .u64) v7131 z7122.up, ownS (tyInt .u64) v7133 z7122.down, ownS (tySl (tyInt .i64)) v7135 z7122.join, ownS (tySl (tyInt .i64)) v7137 z7122.meet, ownS (tyInt .i64) v7139 z7122.rank] R) n9304 ⟨z9178, z9179, _, hm, (fu 0 v7141 z (fu 1 (.int .i64 z8814) z (fu 2 (.int .i64 ((z7122.all).length : Int)) z (fu 3 (.func (.func 48) #[] #[Pt b5469 0]) z (fu 8 (.int .i64 z9178) z (fu 9 (.int .i64 z9178) z z)))))), hst⟩ ?_
 rintro n9310 _ w9305 ⟨z9301, z9302, σ9303, hm, rfl, hst⟩
 obtain ⟨n9307, y9308, rfl, hm, hx9309⟩ := loopN_some hm
 dsimp only [label_New_l14] at hm
 refine wp_seq (wp_seq ?_)
 refine wp_region_St hst 17 [0, 1, 2, 3, 4, 5, 6, 7, 8, 9, 10, 11, 12, 13, 14, 15, 16] [0, 0, 3, 7, 15, 15, 15, 111, 239, 15, 15, 1039, 3599, 7695, 16383, 32767, 65535] [] z (by kernel_rfl) (by kernel_rfl) Try.mixed (by kernel_rfl) ?_
 refine wsr (.int .i64 z9301) 0 z z z (by kernel_rfl) (fun w hst => z) (wsr (.int .i64 z8814) 1 z z z (by kernel_rfl) (fun w hst => z) (wsr (.bool (decide (z9301 > z8814))) 2 z z z (by kernel_rfl) (fun w hst => z) (wsr (.bool (decide (z9301 > z8814))) 3 z z z (by kernel_rfl) (fun w hst => z) ?_)))
 refine bsplit (decide (z9301 > z8814)) (fun hc9311 => ?_) (fun hc9311 => ?_)
 {
 replace hm := bif_t hc9311 hm
 refine ws_q (v := .func (.func 48) #[] #[Pt b5469 0]) 4 [5, 6, 7, 8, 9, 10, 11, 12, 13, 14, 15, 16] (by kernel_rfl) z z (yi_run ((wanted_eq z z z (cvb hc9311)).trans z) (fun w hst => z)) (ws_q (v := v7141) 5 [6, 7, 8, 9, 10, 11, 12, 13, 14, 15, 16] (by kernel_rfl) z z (yi_run ((wanted_eq z z z (cvb hc9311)).trans z) (fun w hst => z)) (ws_q (v := .int .i64 z9301) 6 [7, 8, 9, 10, 11, 12, 13, 14, 15, 16] (by kernel_rfl) z z (yi_run ((wanted_eq z z z (cvb hc9311)).trans z) (fun w hst => z)) ?_))
 obtain ⟨x9312, hx9313, hm⟩ := bind_some hm
 obtain ⟨h9314, h9315, hi9316⟩ := geto_some hx9313
 refine ws_q (v := .pointer (some (eAddr v7141 (z9301.toNat * 1 + 0)))) 7 [8, 9, 10, 11, 12, 13, 14, 15, 16] (by kernel_rfl) z z (yi_run ((wanted_eq z z z (cvb hc9311)).trans z) (fun w hst => x_index z z underlying46 sizeOf3 hst.sv0 h9314 h9315)) (ws_q (v := .int .i64 x9312) 8 [9, 10, 11, 12, 13, 14, 15, 16] (by kernel_rfl) z z (yi_run ((wanted_eq z z z (cvb hc9311)).trans z) (fun w hst => x_load z isAgg3 (hst.ol0 hi9316 (by rintro _ rfl; rfl)))) (ws_q (v := v7141) 9 [10, 11, 12, 13, 14, 15, 16] (by kernel_rfl) z z (yi_run ((wanted_eq z z z (cvb hc9311)).trans z) (fun w hst => z)) (ws_q (v := .int .i64 z9301) 10 [11, 12, 13, 14, 15, 16] (by kernel_rfl) z z (yi_run ((wanted_eq z z z (cvb hc9311)).trans z) (fun w hst => z)) (ws_q (v := .int .i64 (i64.wrap (z9301 - (1:Int)))) 11 [12, 13, 14, 15, 16] (by kernel_rfl) z z (yi_run ((wanted_eq z z z (cvb hc9311)).trans z) (fun w hst => z)) ?_))))
 obtain ⟨x9317, hx9318, hm⟩ := bind_some hm
 obtain ⟨h9319, h9320, hi9321⟩ := geto_some hx9318
 refine ws_q (v := .pointer (some (eAddr v7141 ((i64.wrap (z9301 - (1:Int))).toNat * 1 + 0)))) 12 [13, 14, 15, 16] (by kernel_rfl) z z (yi_run ((wanted_eq z z z (cvb hc9311)).trans z) (fun w hst => x_index z z underlying46 sizeOf3 hst.sv0 h9319 h9320)) (ws_q (v := .int .i64 x9317) 13 [14, 15, 16] (by kernel_rfl) z z (yi_run ((wanted_eq z z z (cvb hc9311)).trans z) (fun w hst => x_load z isAgg3 (hst.ol0 hi9321 (by rintro _ rfl; rfl)))) ?_)
 refine ws_e1 14 (by kernel_rfl) ?_
 refine nxe [15, 16] (by kernel_rfl) z ((wanted_eq z z z (cvb hc9311)).trans z) ?_
 clear hst
 intro w hst
 obtain ⟨y9349, hq9350, hm⟩ := bind_some hm
 refine we_call z (x_callv call48 (caps := [Pt b5469 0]) z (vs := [I6 x9312, I6 x9317]) z) ?_
 refine Calls.mono (show Calls prog 48 #[I6 x9312, I6 x9317, Pt b5469 0] _ (fun e w' => ∃ (z9347 : Int), z9347 = y9349 ∧ e = .returned (.int .i64 z9347) ∧ St w0 w' I7123 [cells b5469 [Pt b7130 0], cells b7130 [v7131, v7133, v7135, v7137, v7139, v7141], ownS (tyInt .u64) v7131 z7122.up, ownS (tyInt .u64) v7133 z7122.down, ownS (tySl (tyInt .i64)) v7135 z7122.join, ownS (tySl (tyInt .i64)) v7137 z7122.meet, ownS (tyInt .i64) v7139 z7122.rank, ownS (tyInt .i64) v7141 z9302] R) from ?_) ?_
 {
 clear hm; have hm := hq9350
 refine calls_start (args := [I6 x9312, I6 x9317, Pt b5469 0]) func48 z ntmps48 (Nat.le_of_ble_eq_true z) ?_
 refine wp_seq (wrl (wv (.int .i64 (0:Int)) z z z (wl_nil (tn (wp_seq ?_)))))
 refine wp_region_St hst 18 [0, 1, 2, 3, 4, 5, 6, 7, 8, 9, 10, 11, 12, 13, 14, 15, 16, 17] [0, 1, 3, 7, 0, 31, 63, 127, 0, 256, 768, 1792, 0, 7936, 16128, 32767, 65535, 131071] [] z (by kernel_rfl) (by kernel_rfl) Try.mixed (by kernel_rfl) ?_
 refine wsr (Pt b7130 0) 0 z z z (by kernel_rfl) (fun w hst => x_load z isAgg60 (hst.bc1 z)) (wsr (Pt b7130 0) 1 z z z (by kernel_rfl) (fun w hst => z) (wsr (Pt b7130 1) 2 z z z (by kernel_rfl) (fun w hst => x_field z underlying73 z sizeOf25 z) (wsr (v7133) 3 z z z (by kernel_rfl) (fun w hst => x_load z isAgg25 (hst.bc2 z)) (wsr (.int .i64 x9312) 4 z z z (by kernel_rfl) (fun w hst => z) ?_))))
 obtain ⟨x9322, hx9323, hm⟩ := bind_some hm
 obtain ⟨h9324, h9325, hi9326⟩ := geto_some hx9323
 refine wsr (.pointer (some (eAddr v7133 (x9312.toNat * 1 + 0)))) 5 z z z (by kernel_rfl) (fun w hst => x_index z z underlying25 sizeOf22 hst.sv4 h9324 h9325) (wsr (.int .u64 x9322) 6 z z z (by kernel_rfl) (fun w hst => x_load z isAgg22 (hst.ol4 hi9326 (by rintro _ rfl; rfl))) (wsr (Pt b7130 0) 8 z z z (by kernel_rfl) (fun w hst => x_load z isAgg60 (hst.bc1 z)) (wsr (Pt b7130 0) 9 z z z (by kernel_rfl) (fun w hst => z) (wsr (Pt b7130 1) 10 z z z (by kernel_rfl) (fun w hst => x_field z underlying73 z sizeOf25 z) (wsr (v7133) 11 z z z (by kernel_rfl) (fun w hst => x_load z isAgg25 (hst.bc2 z)) (wsr (.int .i64 x9317) 12 z z z (by kernel_rfl) (fun w hst => z) ?_))))))
 obtain ⟨x9327, hx9328, hm⟩ := bind_some hm
 obtain ⟨h9329, h9330, hi9331⟩ := geto_some hx9328
 refine wsr (.pointer (some (eAddr v7133 (x9317.toNat * 1 + 0)))) 13 z z z (by kernel_rfl) (fun w hst => x_index z z underlying25 sizeOf22 hst.sv4 h9329 h9330) (wsr (.int .u64 x9327) 14 z z z (by kernel_rfl) (fun w hst => x_load z isAgg22 (hst.ol4 hi9331 (by rintro _ rfl; rfl))) ?_)
 refine ws_e1 7 (by kernel_rfl) ?_
 refine nxe [15, 16, 17] (by kernel_rfl) z z ?_
 clear hst
 intro w hst
 obtain ⟨t9332, ht9333, hm⟩ := bind_some hm
 refine wec call32 [U6 x9322] z z ?_
 refine (math_bits_OnesCount64_ref hst.to0 ht9333).mono ?_
 rintro _ w9334 ⟨rfl, hst⟩
 refine ⟨_, z, ?_⟩
 replace hst := hst.of0
 refine ws_next (pend' := [(14, U6 x9327), (13, .pointer (some (eAddr v7133 (x9317.toNat * 1 + 0)))), (12, I6 x9317), (11, v7133), (10, Pt b7130 1), (9, Pt b7130 0), (8, Pt b7130 0)]) hst (by kernel_rfl) (pkr z z (fun w hst => x_load z isAgg22 (hst.ol4 hi9331 (by rintro _ rfl; rfl))) (pkr z z (fun w hst => x_index z z underlying25 sizeOf22 hst.sv4 h9329 h9330) (pkr z z (fun w hst => z) (pkr z z (fun w hst => x_load z isAgg25 (hst.bc2 z)) (pkr z z (fun w hst => x_field z underlying73 z sizeOf25 z) (pkr z z (fun w hst => z) (pkr z z (fun w hst => x_load z isAgg60 (hst.bc1 z)) pk_nil))))))) ?_
 refine ws_e1 15 (by kernel_rfl) ?_
 refine nxe [16, 17] (by kernel_rfl) z z ?_
 clear hst
 intro w hst
 obtain ⟨t9337, ht9338, hm⟩ := bind_some hm
 refine wec call32 [U6 x9327] z z ?_
 refine (math_bits_OnesCount64_ref hst.to0 ht9338).mono ?_
 rintro _ w9339 ⟨rfl, hst⟩
 refine ⟨_, z, ?_⟩
 replace hst := hst.of0
 refine ws_next (pend' := []) hst (by kernel_rfl) pk_nil ?_
 refine ws_e1 16 (by kernel_rfl) ?_
 refine nxe [17] (by kernel_rfl) z z ?_
 clear hst
 intro w hst
 obtain ⟨t9342, ht9343, hm⟩ := bind_some hm
 refine wec call49 [I6 t9332, I6 t9337] z z ?_
 refine (cmp_Compare_int_ref hst.to0 ht9343).mono ?_
 rintro _ w9344 ⟨rfl, hst⟩
 refine ⟨_, z, ?_⟩
 replace hst := hst.of0
 refine ws_next (pend' := []) hst (by kernel_rfl) pk_nil ?_
 refine wsr (.int .i64 t9342) 17 z z z (by kernel_rfl) (fun w hst => z) ?_
 refine ws_nil ?_
 intro w hst
 refine tn (wp_ret ?_)
 refine post_ret (vs := [I6 t9342]) results48 (rvs_cons (rv_tmp z) rvs_nil) ?_
 replace hst := hst.pull7.pull7.pull7.pull7.pull7.pull7.pull7.keep8
 obtain rfl := some_inj hm
 exact ⟨t9342, z, z, hst⟩
}
 clear hst
 rintro _ w9351 ⟨z9347, rfl, rfl, hst⟩
 refine ⟨_, z, ?_⟩
 try dsimp only at hm
 refine ws_next (pend' := []) hst (by kernel_rfl) pk_nil ?_
 refine ws_q (v := .bool (decide (z9347 < (0:Int)))) 15 [16] (by kernel_rfl) z z (yi_run ((wanted_eq z z z (cvb hc9311)).trans z) (fun w hst => z)) (wsr (.bool (decide (z9347 < (0:Int)))) 16 z z z (by kernel_rfl) (fun w hst => x_pick_t hc9311 z z) ?_)
 refine ws_nil ?_
 intro w hst
 refine tn ?_
 refine bsplit (decide (z9347 < (0:Int))) (fun hc9352 => ?_) (fun hc9352 => ?_)
 {
 replace hm := bif_t hc9352 hm
 refine wp_ift (cvb hc9352) ?_
 refine wp_skip (tn (wp_seq (wp_block ?_)))
 refine wp_region_St hst 18 [0, 1, 2, 3, 4, 5, 6, 7, 8, 9, 10, 11, 12, 13, 14, 15, 16, 17] [0, 0, 0, 0, 8, 0, 0, 64, 224, 480, 0, 0, 3072, 7168, 16355, 32739, 65535, 131071] [] z (by kernel_rfl) (by kernel_rfl) Try.mixed (by kernel_rfl) ?_
 refine wsr (v7141) 0 z z z (by kernel_rfl) (fun w hst => z) (wsr (.int .i64 z9301) 1 z z z (by kernel_rfl) (fun w hst => z) (wsr (v7141) 2 z z z (by kernel_rfl) (fun w hst => z) (wsr (.int .i64 z9301) 3 z z z (by kernel_rfl) (fun w hst => z) (wsr (.int .i64 (i64.wrap (z9301 - (1:Int)))) 4 z z z (by kernel_rfl) (fun w hst => z) (wsr (v7141) 5 z z z (by kernel_rfl) (fun w hst => z) (wsr (.int .i64 z9301) 6 z z z (by kernel_rfl) (fun w hst => z) (wsr (.int .i64 (i64.wrap (z9301 - (1:Int)))) 7 z z z (by kernel_rfl) (fun w hst => z) (wsr (.pointer (some (eAddr v7141 ((i64.wrap (z9301 - (1:Int))).toNat * 1 + 0)))) 8 z z z (by kernel_rfl) (fun w hst => x_index z z underlying46 sizeOf3 hst.sv7 h9319 h9320) (wsr (.int .i64 x9317) 9 z z z (by kernel_rfl) (fun w hst => x_load z isAgg3 (hst.ol7 hi9321 (by rintro _ rfl; rfl))) (wsr (v7141) 10 z z z (by kernel_rfl) (fun w hst => z) (wsr (.int .i64 z9301) 11 z z z (by kernel_rfl) (fun w hst => z) (wsr (.pointer (some (eAddr v7141 (z9301.toNat * 1 + 0)))) 12 z z z (by kernel_rfl) (fun w hst => x_index z z underlying46 sizeOf3 hst.sv7 h9314 h9315) ?_))))))))))))
 refine wsr (.int .i64 x9312) 13 z z z (by kernel_rfl) (fun w hst => x_load z isAgg3 (hst.ol7 hi9316 (by rintro _ rfl; rfl))) (wsr (.pointer (some (eAddr v7141 (z9301.toNat * 1 + 0)))) 14 z z z (by kernel_rfl) (fun w hst => x_index z z underlying46 sizeOf3 hst.sv7 h9314 h9315) ?_)
 refine ws_e1 15 (by kernel_rfl) ?_
 refine nxe [16, 17] (by kernel_rfl) z z ?_
 clear hst
 intro w hst
 replace hst := hst.pull7
 obtain ⟨w9353, hr9354, hst⟩ := hst.own_store (P := prog) (t := 3) (y := x9317) hi9316 0 (.int .i64 x9317) sizeOf3 (Nat.le_of_ble_eq_true z) (oC z oN) (by rintro _ rfl; rfl)
 have hi9355 := set_get hi9316 x9317
 have h9356 := set_lt h9315 z9301.toNat x9317
 refine we_unit z (x_unit hr9354) ?_
 refine ws_next (pend' := [(4, I6 (i64.wrap (z9301 - (1:Int)))), (3, I6 z9301), (2, v7141)]) hst (by kernel_rfl) (pkr z z (fun w hst => z) (pkr z z (fun w hst => z) (pkr z z (fun w hst => z) pk_nil))) ?_
 obtain ⟨x9357, hx9358, hm⟩ := bind_some hm
 obtain ⟨h9359, h9360, hi9361⟩ := geto_some hx9358
 refine wsr (.pointer (some (eAddr v7141 ((i64.wrap (z9301 - (1:Int))).toNat * 1 + 0)))) 16 z z z (by kernel_rfl) (fun w hst => x_index z z underlying46 sizeOf3 hst.sv0 h9359 h9360) ?_
 refine ws_e1 17 (by kernel_rfl) ?_
 refine nxe [] (by kernel_rfl) z z ?_
 clear hst
 intro w hst
 obtain ⟨w9362, hr9363, hst⟩ := hst.own_store (P := prog) (t := 3) (y := x9312) hi9361 0 (.int .i64 x9312) sizeOf3 (Nat.le_of_ble_eq_true z) (oC z oN) (by rintro _ rfl; rfl)
 have hi9364 := set_get hi9361 x9312
 have h9365 := set_lt h9360 (i64.wrap (z9301 - (1:Int))).toNat x9312
 refine we_unit z (x_unit hr9363) ?_
 refine ws_next (pend' := []) hst (by kernel_rfl) pk_nil ?_
 refine ws_nil ?_
 intro w hst
 refine blk_n (tn (wrl ?_))
 refine wv (.int .i64 z9301) z z z (wv (.int .i64 (i64.wrap (z9301 - (1:Int)))) z z z (wv (.int .i64 (i64.wrap (z9301 - (1:Int)))) z z z (wl_nil (tn ?_))))
 replace hst := hst.pull7.pull7.pull7.pull7.pull7.pull7.pull7.pull7.keep8
 obtain rfl := some_inj hm
 exact ⟨_, Nat.lt_succ_self _, (i64.wrap (z9301 - (1:Int))), ((z9302.set z9301.toNat x9317).set (i64.wrap (z9301 - (1:Int))).toNat x9312), _, hx9309, (fu 0 v7141 z (fu 1 (.int .i64 z8814) z (fu 2 (.int .i64 ((z7122.all).length : Int)) z (fu 3 (.func (.func 48) #[] #[Pt b5469 0]) z (fu 8 (.int .i64 z9178) z (fu 9 (.int .i64 (i64.wrap (z9301 - (1:Int)))) z z)))))), hst⟩
}
 {
 replace hm := bif_f hc9352 hm
 refine wp_iff (cvb hc9352) ?_
 refine wp_exit (then_x (then_x ?_))
 replace hm := inr_up hm hx9309
 refine blk_x (blk_n (tn (wrl ?_)))
 refine wv (.int .i64 z9178) z z z (wv (.int .i64 (i64.wrap (z9178 + (1:Int)))) z z z (wv (.int .i64 (i64.wrap (z9178 + (1:Int)))) z z z (wl_nil (tn ?_))))
 replace hst := hst.pull6.pull6.pull6.pull6.pull6.pull6.pull6.pull7.keep8
 obtain rfl := some_inj hm
 exact ⟨_, Nat.lt_succ_self _, (i64.wrap (z9178 + (1:Int))), z9302, _, hx9186, (fu 0 v7141 z (fu 1 (.int .i64 z8814) z (fu 2 (.int .i64 ((z7122.all).length : Int)) z (fu 3 (.func (.func 48) #[] #[Pt b5469 0]) z (fu 8 (.int .i64 (i64.wrap (z9178 + (1:Int)))) z z))))), hst⟩
}
}
 {
 replace hm := bif_f hc9311 hm
 refine ws_q (v := undef) 4 [5, 6, 7, 8, 9, 10, 11, 12, 13, 14, 15, 16] (by kernel_rfl) z z (yi_off ((wanted_eq z z z (cvb hc9311)).trans z)) (ws_q (v := undef) 5 [6, 7, 8, 9, 10, 11, 12, 13, 14, 15, 16] (by kernel_rfl) z z (yi_off ((wanted_eq z z z (cvb hc9311)).trans z)) (ws_q (v := undef) 6 [7, 8, 9, 10, 11, 12, 13, 14, 15, 16] (by kernel_rfl) z z (yi_off ((wanted_eq z z z (cvb hc9311)).trans z)) (ws_q (v := undef) 7 [8, 9, 10, 11, 12, 13, 14, 15, 16] (by kernel_rfl) z z (yi_off ((wanted_eq z z z (cvb hc9311)).trans z)) (ws_q (v := undef) 8 [9, 10, 11, 12, 13, 14, 15, 16] (by kernel_rfl) z z (yi_off ((wanted_eq z z z (cvb hc9311)).trans z)) (ws_q (v := undef) 9 [10, 11, 12, 13, 14, 15, 16] (by kernel_rfl) z z (yi_off ((wanted_eq z z z (cvb hc9311)).trans z)) (ws_q (v := undef) 10 [11, 12, 13, 14, 15, 16] (by kernel_rfl) z z (yi_off ((wanted_eq z z z (cvb hc9311)).trans z)) (ws_q (v := undef) 11 [12, 13, 14, 15, 16] (by kernel_rfl) z z (yi_off ((wanted_eq z z z (cvb hc9311)).trans z)) (ws_q (v := undef) 12 [13, 14, 15, 16] (by kernel_rfl) z z (yi_off ((wanted_eq z z z (cvb hc9311)).trans z)) (ws_q (v := undef) 13 [14, 15, 16] (by kernel_rfl) z z (yi_off ((wanted_eq z z z (cvb hc9311)).trans z)) (ws_q (v := undef) 14 [15, 16] (by kernel_rfl) z z (yi_off ((wanted_eq z z z (cvb hc9311)).trans z)) (ws_q (v := undef) 15 [16] (by kernel_rfl) z z (yi_off ((wanted_eq z z z (cvb hc9311)).trans z)) (wsr (.bool false) 16 z z z (by kernel_rfl) (fun w hst => x_pick_f hc9311 z z) ?_))))))))))))
 refine ws_nil ?_
 intro w hst
 refine tn ?_
 refine wp_iff z ?_
 refine wp_exit (then_x (then_x ?_))
 replace hm := inr_up hm hx9309
 refine blk_x (blk_n (tn (wrl ?_)))
 refine wv (.int .i64 z9178) z z z (wv (.int .i64 (i64.wrap (z9178 + (1:Int)))) z z z (wv (.int .i64 (i64.wrap (z9178 + (1:Int)))) z z z (wl_nil (tn ?_))))
 replace hst := hst.pull7.pull7.pull7.pull7.pull7.pull7.pull7.pull7.keep8
 obtain rfl := some_inj hm
 exact ⟨_, Nat.lt_succ_self _, (i64.wrap (z9178 + (1:Int))), z9302, _, hx9186, (fu 0 v7141 z (fu 1 (.int .i64 z8814) z (fu 2 (.int .i64 ((z7122.all).length : Int)) z (fu 3 (.func (.func 48) #[] #[Pt b5469 0]) z (fu 8 (.int .i64 (i64.wrap (z9178 + (1:Int)))) z z))))), hst⟩
}
}
 {
 replace hm := bif_f hc9188 hm
 refine wp_iff (cvb hc9188) ?_
 refine wp_exit (then_x (then_x ?_))
 replace hm := inr_up hm hx9186
 refine blk_x ?_
 refine post_end (vs := []) results59 rvs_nil ?_
 replace hst := hst.pull7.pull7.pull7.pull7.pull7.pull7.pull7.keep8
 obtain rfl := some_inj hm
 exact ⟨z9179, z, z, hst⟩
}
}
 clear hst
 rintro _ w9370 ⟨z9366, rfl, rfl, hst⟩
 refine ⟨_, z, ?_⟩
 try dsimp only at hm
 refine wl_nil (tn (wp_block ?_))
 obtain ⟨n9408, hm⟩ := loopO_some hm
 refine wp_loop_n (fun n a w => ∃ (z9406 : Int) (σ9407 : Nat → Value), loopN (label_New_l15 z7122 z9366) n z9406 = some y9434 ∧ a = Fr 63 (upd (upd (upd (upd σ9407 0 (v7141)) 1 (.int .i64 ((z7122.all).length : Int))) 2 (.func (.func 48) #[] #[Pt b5469 0])) 6 (.int .i64 z9406)) ∧ St w0 w I7123 [cells b5469 [Pt b7130 0], cells b7130 [v7131, v7133, v7135, v7137, v7139, v7141], ownS (tyInt .u64) v7131 z7122.up, ownS (tyInt .u64) v7133 z7122.down, ownS (tySl (tyInt .i64)) v7135 z7122.join, ownS (tySl (tyInt .i64)) v7137 z7122.meet, ownS (tyInt .i64) v7139 z7122.rank, ownS (tyInt .i64) v7141 z9366] R) n9408 ⟨(20:Int), _, hm, (fu 0 v7141 z (fu 1 (.int .i64 ((z7122.all).length : Int)) z (fu 2 (.func (.func 48) #[] #[Pt b5469 0]) z (fu 6 (.int .i64 (20:Int)) z z)))), hst⟩ ?_
 rintro n9414 _ w9409 ⟨z9406, σ9407, hm, rfl, hst⟩
 obtain ⟨n9411, y9412, rfl, hm, hx9413⟩ := loopN_some hm
 dsimp only [label_New_l15] at hm
 refine wp_seq (wp_seq (wrl (wv (.int .i64 z9406) z z z (wv (.int .i64 ((z7122.all).length : Int)) z z z (wv (.bool (decide (z9406 < ((z7122.all).length : Int)))) z z z (wl_nil (tn ?_)))))))
 refine bsplit (decide (z9406 < ((z7122.all).length : Int))) (fun hc9415 => ?_) (fun hc9415 => ?_)
 {
 replace hm := bif_t hc9415 hm
 refine wp_ift (cvb hc9415) ?_
 refine wp_skip (tn (wp_block (wp_seq (wrl ?_))))
 refine wv (.int .i64 z9406) z z z (wv (.int .i64 (i64.wrap ((2:Int) * z9406))) z z z (wv (.int .i64 (0:Int)) z z z (wv (.int .i64 (i64.wrap ((2:Int) * z9406))) z z z (wl_nil (tn ?_)))))
 obtain ⟨y9428, hm, hx9429⟩ := bind_some hm
 refine wp_cut (fun a w => ∃ (σ9426 : Nat → Value), (label_New_j16 z9406 z7122) () = some y9412 ∧ a = Fr 63 (upd (upd (upd (upd (upd σ9426 0 (v7141)) 1 (.int .i64 ((z7122.all).length : Int))) 2 (.func (.func 48) #[] #[Pt b5469 0])) 6 (.int .i64 z9406)) 7 (.int .i64 (0:Int))) ∧ St w0 w I7123 [ownS (tyInt .i64) v7141 z9366, cells b5469 [Pt b7130 0], cells b7130 [v7131, v7133, v7135, v7137, v7139, v7141], ownS (tyInt .u64) v7131 z7122.up, ownS (tyInt .u64) v7133 z7122.down, ownS (tySl (tyInt .i64)) v7135 z7122.join, ownS (tySl (tyInt .i64)) v7137 z7122.meet, ownS (tyInt .i64) v7139 z7122.rank] R) ?_ ?_
 {
 refine wp_block ?_
 obtain ⟨n9418, hm⟩ := loopO_some hm
 refine wp_loop_n (fun n a w => ∃ (σ9417 : Nat → Value), loopN (label_New_l17 z9406 z7122) n () = some y9428 ∧ a = Fr 63 (upd (upd (upd (upd (upd (upd σ9417 0 (v7141)) 1 (.int .i64 ((z7122.all).length : Int))) 2 (.func (.func 48) #[] #[Pt b5469 0])) 6 (.int .i64 z9406)) 7 (.int .i64 (0:Int))) 8 (.int .i64 (i64.wrap ((2:Int) * z9406)))) ∧ St w0 w I7123 [cells b5469 [Pt b7130 0], cells b7130 [v7131, v7133, v7135, v7137, v7139, v7141], ownS (tyInt .u64) v7131 z7122.up, ownS (tyInt .u64) v7133 z7122.down, ownS (tySl (tyInt .i64)) v7135 z7122.join, ownS (tySl (tyInt .i64)) v7137 z7122.meet, ownS (tyInt .i64) v7139 z7122.rank, ownS (tyInt .i64) v7141 z9366] R) n9418 ⟨_, hm, (fu 0 v7141 z (fu 1 (.int .i64 ((z7122.all).length : Int)) z (fu 2 (.func (.func 48) #[] #[Pt b5469 0]) z (fu 6 (.int .i64 z9406) z (fu 7 (.int .i64 (0:Int)) z (fu 8 (.int .i64 (i64.wrap ((2:Int) * z9406))) z z)))))), hst⟩ ?_
 rintro n9424 _ w9419 ⟨σ9417, hm, rfl, hst⟩
 obtain ⟨n9421, y9422, rfl, hm, hx9423⟩ := loopN_some hm
 dsimp only [label_New_l17] at hm
 refine wp_seq (wp_seq (wrl (wv (.int .i64 (i64.wrap ((2:Int) * z9406))) z z z (wv (.int .i64 ((z7122.all).length : Int)) z z z (wv (.bool (decide ((i64.wrap ((2:Int) * z9406)) ≤ ((z7122.all).length : Int)))) z z z (wl_nil (tn ?_)))))))
 refine bsplit (decide ((i64.wrap ((2:Int) * z9406)) ≤ ((z7122.all).length : Int))) (fun hc9425 => ?_) (fun hc9425 => ?_)
 {
 replace hm := bif_t hc9425 hm
 refine wp_ift (cvb hc9425) ?_
 refine wp_skip (tn (wp_block (wp_seq (wrl ?_))))
 refine wv (v7141) z z z (wv (.int .i64 (0:Int)) z z z (wv (.int .i64 (0:Int)) z z z (wv (.int .i64 z9406) z z z (wv (.int .i64 (i64.wrap ((0:Int) + z9406))) z z z (wv (.int .i64 (i64.wrap ((2:Int) * z9406))) z z z (wv (.func (.func 48) #[] #[Pt b5469 0]) z z z ?_))))))
 cases hm
}
 {
 replace hm := bif_f hc9425 hm
 refine wp_iff (cvb hc9425) ?_
 refine wp_exit (then_x (then_x ?_))
 replace hm := inr_up hm hx9423
 refine blk_x (tn ?_)
 replace hst := hst.pull6.pull6.pull6.pull6.pull6.pull6.pull6.pull7.keep8
 obtain rfl := some_inj hm
 exact ⟨_, hx9429, (fu 0 v7141 z (fu 1 (.int .i64 ((z7122.all).length : Int)) z (fu 2 (.func (.func 48) #[] #[Pt b5469 0]) z (fu 6 (.int .i64 z9406) z (fu 7 (.int .i64 (0:Int)) z z))))), hst⟩
}
}
 {
 clear hst
 rintro _ w9430 ⟨σ9426, hm, rfl, hst⟩
 dsimp only [label_New_j16] at hm
 refine wp_seq (wp_seq (wrl (wv (.int .i64 (0:Int)) z z z (wv (.int .i64 z9406) z z z (wv (.int .i64 (i64.wrap ((0:Int) + z9406))) z z z (wv (.int .i64 (i64.wrap ((0:Int) + z9406))) z z z (wl_nil (tn (wp_seq (wrl (wv (.int .i64 (i64.wrap ((0:Int) + z9406))) z z z (wv (.int .i64 ((z7122.all).length : Int)) z z z (wv (.bool (decide ((i64.wrap ((0:Int) + z9406)) < ((z7122.all).length : Int)))) z z z (wl_nil (tn ?_)))))))))))))))
 refine bsplit (decide ((i64.wrap ((0:Int) + z9406)) < ((z7122.all).length : Int))) (fun hc9431 => ?_) (fun hc9431 => ?_)
 {
 replace hm := bif_t hc9431 hm
 refine wp_ift (cvb hc9431) ?_
 refine wrl (wv (v7141) z z z (wv (.int .i64 (0:Int)) z z z (wv (.int .i64 (i64.wrap ((0:Int) + z9406))) z z z (wv (.int .i64 ((z7122.all).length : Int)) z z z (wv (.func (.func 48) #[] #[Pt b5469 0]) z z z ?_)))))
 cases hm
}
 {
 replace hm := bif_f hc9431 hm
 refine wp_iff (cvb hc9431) ?_
 refine wp_skip (tn (wrl ?_))
 refine wv (.int .i64 z9406) z z z (wv (.int .i64 (i64.wrap (z9406 * (2:Int)))) z z z (wv (.int .i64 (i64.wrap (z9406 * (2:Int)))) z z z (wl_nil (blk_n (tn ?_)))))
 replace hst := hst.pull7.pull7.pull7.pull7.pull7.pull7.pull7.keep8
 obtain rfl := some_inj hm
 exact ⟨_, Nat.lt_succ_self _, (i64.wrap (z9406 * (2:Int))), _, hx9413, (fu 0 v7141 z (fu 1 (.int .i64 ((z7122.all).length : Int)) z (fu 2 (.func (.func 48) #[] #[Pt b5469 0]) z (fu 6 (.int .i64 (i64.wrap (z9406 * (2:Int)))) z z)))), hst⟩
}
}
}
 {
 replace hm := bif_f hc9415 hm
 refine wp_iff (cvb hc9415) ?_
 refine wp_exit (then_x (then_x ?_))
 replace hm := inr_up hm hx9413
 refine blk_x ?_
 refine post_end (vs := []) results56 rvs_nil ?_
 replace hst := hst.pull7.pull7.pull7.pull7.pull7.pull7.pull7.pull7.keep8
 obtain rfl := some_inj hm
 exact ⟨z9366, z, z, hst⟩
}
}
}
 clear hst
 rintro _ w9436 ⟨z9432, rfl, rfl, hst⟩
 refine ⟨_, z, ?_⟩
 try dsimp only at hm
 refine wl_nil ?_
 refine post_end (vs := []) results47 rvs_nil ?_
 replace hst := hst.pull7.pull7.pull7.pull7.pull7.pull7.pull7.pull7.keep8
 obtain rfl := some_inj hm
 exact ⟨z9432, z, z, hst⟩
}
 clear hst
 rintro _ w9441 ⟨z9437, rfl, rfl, hst⟩
 refine ⟨_, z, ?_⟩
 try dsimp only at hm
 refine wl_nil (tn (wp_seq (wp_seq (wrl (wv (Pt b7130 0) z z (x_load z isAgg60 (hst.bc0 z)) (wv (Pt b7130 0) z z z (wv (Pt b7130 5) z z (x_field z underlying73 z sizeOf46 z) (wv (v7141) z z (x_load z isAgg46 (hst.bc1 z)) (wv (.int .i64 ((z9437).length : Int)) z z (x_len z underlying46 hst.sv7) (wv (.int .i64 (0:Int)) z z z (wl_nil (tn (wp_block ?_)))))))))))))
 obtain ⟨n9477, hm⟩ := loopO_some hm
 refine wp_loop_n (fun n a w => ∃ (z9474 : Int) (z9475 : (List Int)) (σ9476 : Nat → Value), loopN (label_New_l18 z9437 z7122) n (z9474, z9475) = some r ∧ a = Fr 192 (upd (upd (upd (upd σ9476 5 (Pt b5469 0)) 176 (v7141)) 177 (.int .i64 ((z9437).length : Int))) 178 (.int .i64 z9474)) ∧ St w0 w I7123 [cells b5469 [Pt b7130 0], cells b7130 [v7131, v7133, v7135, v7137, v7139, v7141], ownS (tyInt .u64) v7131 z7122.up, ownS (tyInt .u64) v7133 z7122.down, ownS (tySl (tyInt .i64)) v7135 z7122.join, ownS (tySl (tyInt .i64)) v7137 z7122.meet, ownS (tyInt .i64) v7139 z9475, ownS (tyInt .i64) v7141 z9437] R) n9477 ⟨(0:Int), z7122.rank, _, hm, (fu 5 (Pt b5469 0) z (fu 176 v7141 z (fu 177 (.int .i64 ((z9437).length : Int)) z (fu 178 (.int .i64 (0:Int)) z z)))), hst⟩ ?_
 rintro n9483 _ w9478 ⟨z9474, z9475, σ9476, hm, rfl, hst⟩
 obtain ⟨n9480, y9481, rfl, hm, hx9482⟩ := loopN_some hm
 dsimp only [label_New_l18] at hm
 refine wp_seq (wrl (wv (.bool (decide (z9474 < ((z9437).length : Int)))) z z z (wl_nil (tn (wp_seq ?_)))))
 refine bsplit (decide (z9474 < ((z9437).length : Int))) (fun hc9484 => ?_) (fun hc9484 => ?_)
 {
 replace hm := bif_t hc9484 hm
 refine wp_ift (cvb hc9484) ?_
 refine wp_skip (tn (wp_seq (wp_block (wp_seq (wrl ?_)))))
 refine wv (.int .i64 z9474) z z z ?_
 obtain ⟨x9485, hx9486, hm⟩ := bind_some hm
 obtain ⟨h9487, h9488, hi9489⟩ := geto_some hx9486
 refine wv (.pointer (some (eAddr v7141 (z9474.toNat * 1 + 0)))) z z (x_index z z underlying46 sizeOf3 hst.sv7 h9487 h9488) (wv (.int .i64 x9485) z z (x_load z isAgg3 (hst.ol7 hi9489 (by rintro _ rfl; rfl))) (wv (.int .i64 z9474) z z z (wv (.int .i64 x9485) z z z (wl_nil (tn (wrl (wv (Pt b7130 0) z z (x_load z isAgg60 (hst.bc0 z)) (wv (Pt b7130 0) z z z (wv (Pt b7130 4) z z (x_field z underlying73 z sizeOf46 z) (wv (v7139) z z (x_load z isAgg46 (hst.bc1 z)) (wv (.int .i64 x9485) z z z (wv (.int .i64 z9474) z z z ?_))))))))))))
 obtain ⟨x9490, hx9491, hm⟩ := bind_some hm
 obtain ⟨h9492, h9493, hi9494⟩ := geto_some hx9491
 refine wv (.pointer (some (eAddr v7139 (x9485.toNat * 1 + 0)))) z z (x_index z z underlying46 sizeOf3 hst.sv6 h9492 h9493) ?_
 replace hst := hst.pull6
 obtain ⟨w9495, hr9496, hst⟩ := hst.own_store (P := prog) (t := 3) (y := z9474) hi9494 0 (.int .i64 z9474) sizeOf3 (Nat.le_of_ble_eq_true z) (oC z oN) (by rintro _ rfl; rfl)
 have hi9497 := set_get hi9494 z9474
 have h9498 := set_lt h9493 x9485.toNat z9474
 refine wl_unit z z (x_unit hr9496) ?_
 refine wl_nil (blk_n (tn (wrl (wv (.int .i64 (i64.wrap (z9474 + (1:Int)))) z z z (wv (.int .i64 (i64.wrap (z9474 + (1:Int)))) z z z (wl_nil (tn ?_)))))))
 replace hst := hst.pull7.pull1.pull7.pull7.pull7.pull7.pull7.pull7.keep8
 obtain rfl := some_inj hm
 exact ⟨_, Nat.lt_succ_self _, (i64.wrap (z9474 + (1:Int))), (z9475.set x9485.toNat z9474), _, hx9482, (fu 5 (Pt b5469 0) z (fu 176 v7141 z (fu 177 (.int .i64 ((z9437).length : Int)) z (fu 178 (.int .i64 (i64.wrap (z9474 + (1:Int)))) z z)))), hst⟩
}
 {
 replace hm := bif_f hc9484 hm
 refine wp_iff (cvb hc9484) ?_
 refine wp_exit (then_x (then_x ?_))
 replace hm := inr_up hm hx9482
 refine blk_x (tn (wp_seq (wrl ?_)))
 refine wv (Pt b7130 0) z z (x_load z isAgg60 (hst.bc0 z)) (wv (Pt b7130 0) z z z (wv (.int .i64 (0:Int)) z z z (wl_nil (tn (wp_ret ?_)))))
 replace hst := hst.pull7.pull7.pull7.pull7.pull7.pull7.pull7
 replace hst := at_label_Lattice_close (pv := Pt b7130 0) (x := ({ up := z7122.up, down := z7122.down, join := z7122.join, meet := z7122.meet, rank := z9475, all := z9437 } : label_Lattice)) hst z
 replace hst := objO_some hst
 obtain rfl := some_inj hm
 refine post_ret (vs := [Pt b7130 0, Zi]) results34 (rvs_cons (rv_tmp z) (rvs_cons (rv_tmp z) rvs_nil)) ?_
 exact ⟨_, Pt b7130 0, z, hI0, hst.keep1⟩
}
}
}
}
}
}
}
}

end Go.Proofs.Ytkjkbfaaigmmcaa
