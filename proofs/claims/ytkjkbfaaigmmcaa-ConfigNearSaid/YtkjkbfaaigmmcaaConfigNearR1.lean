/- The Go functions refine their models, part 1. -/
import Derived.Test.YtkjkbfaaigmmcaaConfigNearR0
set_option linter.unusedVariables false
set_option linter.unusedSimpArgs false
set_option maxRecDepth 100000
set_option maxHeartbeats 4000000
namespace Go.Proofs.Ytkjkbfaaigmmcaa
open Go Go.V
open _root_.Go.Proofs.Try IntKind
attribute [local irreducible] wpList Code.wp wpQuiet Calls bodyPost Oper.wp wpS Nx PendOK YieldsIn
theorem label_New_ref {w0 w : World} {I : HL} {R : SP} {a0 : (List Int)} {r0_0 : Value} (f0_0 : Rd (tyInt .u64) R I r0_0 a0) (hst : St w0 w I [] R) {r : (Option label_Lattice × Int)} (hm : label_New a0 = some r) :
  Calls prog 34 #[r0_0] w fun e w' => ∃ (I' : HL) (q0 : Value), e = .returned (.tuple #[q0, I6 r.2]) ∧ I.le I' ∧ St w0 w' I' [objO at_label_Lattice q0 r.1] R := by {
 unfold label_New at hm
 refine calls_start (args := [r0_0]) func34 z ntmps34 (Nat.le_of_ble_eq_true z) ?_
 have hI0 := HL.le.refl I
 refine wp_seq (wrl (wv (.pointer none) z z z (wv (.int .i64 (0:Int)) z z z (wl_nil (tn (wp_seq (wrl (wv (r0_0) z z z (wv (.int .i64 ((a0).length : Int)) z z (x_len z underlying25 (rd_sliceV f0_0)) (wv (.int .i64 ((a0).length : Int)) z z z (wl_nil (tn (wp_seq (wp_seq (wrl (wv (.int .i64 ((a0).length : Int)) z z z (wv (.bool (decide (((a0).length : Int) < (1:Int)))) z z z (wv (.bool (decide (((a0).length : Int) < (1:Int)))) z z z ?_))))))))))))))))))
 refine bsplit (decide (((a0).length : Int) < (1:Int))) (fun hc4810 => ?_) (fun hc4810 => ?_)
 {
 replace hm := bif_t hc4810 hm
 refine wo hc4810 z z z z z z (wo hc4810 z z z z z z (wv (.bool true) z z (x_pick_t hc4810 z z) (wl_nil (tn ?_))))
 refine wp_ift z ?_
 refine wp_seq (wrl (wv (.pointer none) z z z (wv (.int .i64 (1:Int)) z z z (wl_nil (tn (wp_ret (then_r ?_)))))))
 replace hst := hst.objO_nil at_label_Lattice
 obtain rfl := some_inj hm
 refine post_ret (vs := [.pointer none, I6 (1:Int)]) results34 (rvs_cons (rv_tmp z) (rvs_cons (rv_tmp z) rvs_nil)) ?_
 exact ⟨_, .pointer none, z, hI0, hst.keep1⟩
}
 {
 replace hm := bif_f hc4810 hm
 refine wv (.int .i64 ((a0).length : Int)) ((wanted_eq z z z (cvb hc4810)).trans z) z z (wv (.bool (decide (((a0).length : Int) > (16:Int)))) ((wanted_eq z z z (cvb hc4810)).trans z) z z (wv (.bool (decide (((a0).length : Int) > (16:Int)))) z z (x_pick_f hc4810 z z) (wl_nil (tn ?_))))
 refine bsplit (decide (((a0).length : Int) > (16:Int))) (fun hc4812 => ?_) (fun hc4812 => ?_)
 {
 replace hm := bif_t hc4812 hm
 refine wp_ift (cvb hc4812) ?_
 refine wp_seq (wrl (wv (.pointer none) z z z (wv (.int .i64 (1:Int)) z z z (wl_nil (tn (wp_ret (then_r ?_)))))))
 replace hst := hst.objO_nil at_label_Lattice
 obtain rfl := some_inj hm
 refine post_ret (vs := [.pointer none, I6 (1:Int)]) results34 (rvs_cons (rv_tmp z) (rvs_cons (rv_tmp z) rvs_nil)) ?_
 exact ⟨_, .pointer none, z, hI0, hst.keep1⟩
}
 {
 replace hm := bif_f hc4812 hm
 refine wp_iff (cvb hc4812) ?_
 refine wp_skip (tn (wp_seq ?_))
 obtain ⟨y5497, hm, hx5498⟩ := bind_some hm
 refine wp_mid (fun a w => ∃ (z5494 : label_Lattice) (b5491 : Nat) (v5493 : Value) (σ5495 : Nat → Value), (label_New_j0 a0) z5494 = some r ∧ a = Fr 192 (upd (upd (upd σ5495 0 (r0_0)) 4 (.int .i64 ((a0).length : Int))) 5 (Pt b5491 0)) ∧ St w0 w I [cells b5491 [v5493], at_label_Lattice v5493 z5494] R) ?_ ?_
 {
 refine wp_region_St hst 10 [0, 1, 2, 3, 4, 5, 6, 7, 8, 9] [0, 1, 0, 4, 0, 16, 63, 127, 0, 511] [] z (by kernel_rfl) (by kernel_rfl) Try.mixed (by kernel_rfl) ?_
 refine wsr (r0_0) 0 z z z (by kernel_rfl) (fun w hst => z) (wsr (.int .i64 ((a0).length : Int)) 2 z z z (by kernel_rfl) (fun w hst => z) (wsr (.int .i64 ((a0).length : Int)) 4 z z z (by kernel_rfl) (fun w hst => z) ?_))
 obtain ⟨t4814, ht4815, hm⟩ := bind_some hm
 obtain ⟨hg4816, hm⟩ := gd_some hm
 obtain ⟨hg4817, hm⟩ := gd_some hm
 refine ws_e4 1 3 5 8 (by kernel_rfl) ?_ ?_ ?_ ?_
 {
 refine nxe [3, 5, 6, 7, 8, 9] (by kernel_rfl) z z ?_
 clear hst
 intro w hst
 refine wec call44 [r0_0] z z ?_
 refine (slices_Clone_uint64_uint64_ref (f0_0.mono (rd_weak _)) hst.to0 ht4815).mono ?_
 rintro _ w4818 ⟨v4821, rfl, hst⟩
 refine ⟨_, z, ?_⟩
 replace hst := hst.of1
 refine ws_next (pend' := [(4, I6 ((a0).length : Int)), (2, I6 ((a0).length : Int))]) hst (by kernel_rfl) (pkr z z (fun w hst => z) (pkr z z (fun w hst => z) pk_nil)) ?_
 refine ws_e3 3 5 8 (by kernel_rfl) ?_ ?_ ?_
 {
 refine nxe [5, 6, 7, 8, 9] (by kernel_rfl) z z ?_
 clear hst
 intro w hst
 obtain ⟨v4823, w4824, hr4825, hst⟩ := run_mk (k := .i64) (k' := .i64) (zm := (0:Int)) elem_25 hst hg4816 (by decide) z
 refine we_run (v := v4823) (w' := w4824) z (x_make z z hr4825) ?_
 refine ws_next (pend' := [(4, I6 ((a0).length : Int))]) hst (by kernel_rfl) (pkr z z (fun w hst => z) pk_nil) ?_
 refine ws_e2 5 8 (by kernel_rfl) ?_ ?_
 {
 refine nxe [6, 7, 8, 9] (by kernel_rfl) z z ?_
 clear hst
 intro w hst
 obtain ⟨v4827, w4828, hr4829, hst⟩ := run_mk (k := .i64) (k' := .i64) (zm := (0:Int)) elem_46 hst hg4817 (by decide) z
 refine we_run (v := v4827) (w' := w4828) z (x_make z z hr4829) ?_
 refine ws_next (pend' := []) hst (by kernel_rfl) pk_nil ?_
 refine wsr (.agg #[v4821, v4823, Zs, Zs, v4827, Zs]) 6 rfl rfl rfl (by kernel_rfl) (fun w hst => by obtain ⟨_, _, hv_, _⟩ := hst.sv0; rw [hv_]; obtain ⟨_, _, hv_, _⟩ := hst.sv1; rw [hv_]; obtain ⟨_, _, hv_, _⟩ := hst.sv2; rw [hv_]; kernel_rfl) ?_
 refine ws_e2 7 8 (by kernel_rfl) ?_ ?_
 {
 refine nxe [8, 9] (by kernel_rfl) z z ?_
 clear hst
 intro w hst
 obtain ⟨b4837, w4838, ew4839, eb4840, hst⟩ := hst.box [v4821, v4823, Zs, Zs, v4827, Zs] 73
 refine we_run (v := Pt b4837 0) (w' := w4838) z (x_al (by kernel_rfl) ew4839 eb4840) ?_
 refine ws_next (pend' := []) hst (by kernel_rfl) pk_nil ?_
 refine ws_e1 8 (by kernel_rfl) ?_
 refine nxe [9] (by kernel_rfl) z z ?_
 clear hst
 intro w hst
 obtain ⟨b4842, w4843, ew4844, eb4845, hst⟩ := hst.box [.pointer none] 60
 refine we_run (v := Pt b4842 0) (w' := w4843) z (x_al (by kernel_rfl) ew4844 eb4845) ?_
 refine ws_next (pend' := []) hst (by kernel_rfl) pk_nil ?_
 refine ws_e1 9 (by kernel_rfl) ?_
 refine nxe [] (by kernel_rfl) z z ?_
 clear hst
 intro w hst
 obtain ⟨w4847, hr4848, hst⟩ := hst.by_ [Pt b4837 0] 0 (Pt b4837 0) sizeOf60 z (oC z oN) (by kernel_rfl)
 refine we_unit z (x_unit hr4848) ?_
 refine ws_next (pend' := []) hst (by kernel_rfl) pk_nil ?_
 refine ws_nil ?_
 intro w hst
 refine ⟨z, ?_⟩
 replace hst := hst.own_nil (tySl (tyInt .i64))
 replace hst := hst.own_nil (tySl (tyInt .i64))
 replace hst := hst.own_nil (tyInt .i64)
 replace hst := hst.pull5.pull2.pull3.pull6.pull7.pull7
 replace hst := at_label_Lattice_close (pv := Pt b4837 0) (x := ({ up := t4814, down := (List.replicate (Int.toNat ((a0).length : Int)) (0:Int)), join := [], meet := [], rank := (List.replicate (Int.toNat ((a0).length : Int)) (0:Int)), all := [] } : label_Lattice)) hst z
 replace hst := hst.pull1.keep2
 obtain rfl := some_inj hm
 exact ⟨({ up := t4814, down := (List.replicate (Int.toNat ((a0).length : Int)) (0:Int)), join := [], meet := [], rank := (List.replicate (Int.toNat ((a0).length : Int)) (0:Int)), all := [] } : label_Lattice), b4842, (Pt b4837 0), _, hx5498, (fu 0 r0_0 z (fu 4 (.int .i64 ((a0).length : Int)) z (fu 5 (Pt b4842 0) z z))), hst⟩
}
 {
 refine nxe [7, 9] (by kernel_rfl) z z ?_
 clear hst
 intro w hst
 obtain ⟨b4849, w4850, ew4851, eb4852, hst⟩ := hst.box [.pointer none] 60
 refine we_run (v := Pt b4849 0) (w' := w4850) z (x_al (by kernel_rfl) ew4851 eb4852) ?_
 refine ws_next (pend' := [(6, .agg #[v4821, v4823, Zs, Zs, v4827, Zs])]) hst (by kernel_rfl) (pkr rfl rfl (fun w hst => by obtain ⟨_, _, hv_, _⟩ := hst.sv1; rw [hv_]; obtain ⟨_, _, hv_, _⟩ := hst.sv2; rw [hv_]; obtain ⟨_, _, hv_, _⟩ := hst.sv3; rw [hv_]; kernel_rfl) pk_nil) ?_
 refine ws_e1 7 (by kernel_rfl) ?_
 refine nxe [9] (by kernel_rfl) z z ?_
 clear hst
 intro w hst
 obtain ⟨b4854, w4855, ew4856, eb4857, hst⟩ := hst.box [v4821, v4823, Zs, Zs, v4827, Zs] 73
 refine we_run (v := Pt b4854 0) (w' := w4855) z (x_al (by kernel_rfl) ew4856 eb4857) ?_
 refine ws_next (pend' := []) hst (by kernel_rfl) pk_nil ?_
 refine ws_e1 9 (by kernel_rfl) ?_
 refine nxe [] (by kernel_rfl) z z ?_
 clear hst
 intro w hst
 replace hst := hst.pull1
 obtain ⟨w4859, hr4860, hst⟩ := hst.by_ [Pt b4854 0] 0 (Pt b4854 0) sizeOf60 z (oC z oN) (by kernel_rfl)
 refine we_unit z (x_unit hr4860) ?_
 refine ws_next (pend' := []) hst (by kernel_rfl) pk_nil ?_
 refine ws_nil ?_
 intro w hst
 refine ⟨z, ?_⟩
 replace hst := hst.own_nil (tySl (tyInt .i64))
 replace hst := hst.own_nil (tySl (tyInt .i64))
 replace hst := hst.own_nil (tyInt .i64)
 replace hst := hst.pull5.pull2.pull3.pull6.pull7.pull7
 replace hst := at_label_Lattice_close (pv := Pt b4854 0) (x := ({ up := t4814, down := (List.replicate (Int.toNat ((a0).length : Int)) (0:Int)), join := [], meet := [], rank := (List.replicate (Int.toNat ((a0).length : Int)) (0:Int)), all := [] } : label_Lattice)) hst z
 replace hst := hst.pull1.keep2
 obtain rfl := some_inj hm
 exact ⟨({ up := t4814, down := (List.replicate (Int.toNat ((a0).length : Int)) (0:Int)), join := [], meet := [], rank := (List.replicate (Int.toNat ((a0).length : Int)) (0:Int)), all := [] } : label_Lattice), b4849, (Pt b4854 0), _, hx5498, (fu 0 r0_0 z (fu 4 (.int .i64 ((a0).length : Int)) z (fu 5 (Pt b4849 0) z z))), hst⟩
}
}
 {
 refine nxe [5, 6, 7, 9] (by kernel_rfl) z z ?_
 clear hst
 intro w hst
 obtain ⟨b4861, w4862, ew4863, eb4864, hst⟩ := hst.box [.pointer none] 60
 refine we_run (v := Pt b4861 0) (w' := w4862) z (x_al (by kernel_rfl) ew4863 eb4864) ?_
 refine ws_next (pend' := [(4, I6 ((a0).length : Int))]) hst (by kernel_rfl) (pkr z z (fun w hst => z) pk_nil) ?_
 refine ws_e1 5 (by kernel_rfl) ?_
 refine nxe [6, 7, 9] (by kernel_rfl) z z ?_
 clear hst
 intro w hst
 obtain ⟨v4866, w4867, hr4868, hst⟩ := run_mk (k := .i64) (k' := .i64) (zm := (0:Int)) elem_46 hst hg4817 (by decide) z
 refine we_run (v := v4866) (w' := w4867) z (x_make z z hr4868) ?_
 refine ws_next (pend' := []) hst (by kernel_rfl) pk_nil ?_
 refine wsr (.agg #[v4821, v4823, Zs, Zs, v4866, Zs]) 6 rfl rfl rfl (by kernel_rfl) (fun w hst => by obtain ⟨_, _, hv_, _⟩ := hst.sv0; rw [hv_]; obtain ⟨_, _, hv_, _⟩ := hst.sv2; rw [hv_]; obtain ⟨_, _, hv_, _⟩ := hst.sv3; rw [hv_]; kernel_rfl) ?_
 refine ws_e1 7 (by kernel_rfl) ?_
 refine nxe [9] (by kernel_rfl) z z ?_
 clear hst
 intro w hst
 obtain ⟨b4876, w4877, ew4878, eb4879, hst⟩ := hst.box [v4821, v4823, Zs, Zs, v4866, Zs] 73
 refine we_run (v := Pt b4876 0) (w' := w4877) z (x_al (by kernel_rfl) ew4878 eb4879) ?_
 refine ws_next (pend' := []) hst (by kernel_rfl) pk_nil ?_
 refine ws_e1 9 (by kernel_rfl) ?_
 refine nxe [] (by kernel_rfl) z z ?_
 clear hst
 intro w hst
 replace hst := hst.pull2
 obtain ⟨w4881, hr4882, hst⟩ := hst.by_ [Pt b4876 0] 0 (Pt b4876 0) sizeOf60 z (oC z oN) (by kernel_rfl)
 refine we_unit z (x_unit hr4882) ?_
 refine ws_next (pend' := []) hst (by kernel_rfl) pk_nil ?_
 refine ws_nil ?_
 intro w hst
 refine ⟨z, ?_⟩
 replace hst := hst.own_nil (tySl (tyInt .i64))
 replace hst := hst.own_nil (tySl (tyInt .i64))
 replace hst := hst.own_nil (tyInt .i64)
 replace hst := hst.pull5.pull2.pull3.pull6.pull7.pull7
 replace hst := at_label_Lattice_close (pv := Pt b4876 0) (x := ({ up := t4814, down := (List.replicate (Int.toNat ((a0).length : Int)) (0:Int)), join := [], meet := [], rank := (List.replicate (Int.toNat ((a0).length : Int)) (0:Int)), all := [] } : label_Lattice)) hst z
 replace hst := hst.pull1.keep2
 obtain rfl := some_inj hm
 exact ⟨({ up := t4814, down := (List.replicate (Int.toNat ((a0).length : Int)) (0:Int)), join := [], meet := [], rank := (List.replicate (Int.toNat ((a0).length : Int)) (0:Int)), all := [] } : label_Lattice), b4861, (Pt b4876 0), _, hx5498, (fu 0 r0_0 z (fu 4 (.int .i64 ((a0).length : Int)) z (fu 5 (Pt b4861 0) z z))), hst⟩
}
}
 {
 refine nxe [3, 6, 7, 8, 9] (by kernel_rfl) z z ?_
 clear hst
 intro w hst
 obtain ⟨v4883, w4884, hr4885, hst⟩ := run_mk (k := .i64) (k' := .i64) (zm := (0:Int)) elem_46 hst hg4817 (by decide) z
 refine we_run (v := v4883) (w' := w4884) z (x_make z z hr4885) ?_
 refine ws_next (pend' := [(2, I6 ((a0).length : Int))]) hst (by kernel_rfl) (pkr z z (fun w hst => z) pk_nil) ?_
 refine ws_e2 3 8 (by kernel_rfl) ?_ ?_
 {
 refine nxe [6, 7, 8, 9] (by kernel_rfl) z z ?_
 clear hst
 intro w hst
 obtain ⟨v4887, w4888, hr4889, hst⟩ := run_mk (k := .i64) (k' := .i64) (zm := (0:Int)) elem_25 hst hg4816 (by decide) z
 refine we_run (v := v4887) (w' := w4888) z (x_make z z hr4889) ?_
 refine ws_next (pend' := []) hst (by kernel_rfl) pk_nil ?_
 refine wsr (.agg #[v4821, v4887, Zs, Zs, v4883, Zs]) 6 rfl rfl rfl (by kernel_rfl) (fun w hst => by obtain ⟨_, _, hv_, _⟩ := hst.sv1; rw [hv_]; obtain ⟨_, _, hv_, _⟩ := hst.sv0; rw [hv_]; obtain ⟨_, _, hv_, _⟩ := hst.sv2; rw [hv_]; kernel_rfl) ?_
 refine ws_e2 7 8 (by kernel_rfl) ?_ ?_
 {
 refine nxe [8, 9] (by kernel_rfl) z z ?_
 clear hst
 intro w hst
 obtain ⟨b4897, w4898, ew4899, eb4900, hst⟩ := hst.box [v4821, v4887, Zs, Zs, v4883, Zs] 73
 refine we_run (v := Pt b4897 0) (w' := w4898) z (x_al (by kernel_rfl) ew4899 eb4900) ?_
 refine ws_next (pend' := []) hst (by kernel_rfl) pk_nil ?_
 refine ws_e1 8 (by kernel_rfl) ?_
 refine nxe [9] (by kernel_rfl) z z ?_
 clear hst
 intro w hst
 obtain ⟨b4902, w4903, ew4904, eb4905, hst⟩ := hst.box [.pointer none] 60
 refine we_run (v := Pt b4902 0) (w' := w4903) z (x_al (by kernel_rfl) ew4904 eb4905) ?_
 refine ws_next (pend' := []) hst (by kernel_rfl) pk_nil ?_
 refine ws_e1 9 (by kernel_rfl) ?_
 refine nxe [] (by kernel_rfl) z z ?_
 clear hst
 intro w hst
 obtain ⟨w4907, hr4908, hst⟩ := hst.by_ [Pt b4897 0] 0 (Pt b4897 0) sizeOf60 z (oC z oN) (by kernel_rfl)
 refine we_unit z (x_unit hr4908) ?_
 refine ws_next (pend' := []) hst (by kernel_rfl) pk_nil ?_
 refine ws_nil ?_
 intro w hst
 refine ⟨z, ?_⟩
 replace hst := hst.own_nil (tySl (tyInt .i64))
 replace hst := hst.own_nil (tySl (tyInt .i64))
 replace hst := hst.own_nil (tyInt .i64)
 replace hst := hst.pull6.pull2.pull3.pull6.pull7.pull7
 replace hst := at_label_Lattice_close (pv := Pt b4897 0) (x := ({ up := t4814, down := (List.replicate (Int.toNat ((a0).length : Int)) (0:Int)), join := [], meet := [], rank := (List.replicate (Int.toNat ((a0).length : Int)) (0:Int)), all := [] } : label_Lattice)) hst z
 replace hst := hst.pull1.keep2
 obtain rfl := some_inj hm
 exact ⟨({ up := t4814, down := (List.replicate (Int.toNat ((a0).length : Int)) (0:Int)), join := [], meet := [], rank := (List.replicate (Int.toNat ((a0).length : Int)) (0:Int)), all := [] } : label_Lattice), b4902, (Pt b4897 0), _, hx5498, (fu 0 r0_0 z (fu 4 (.int .i64 ((a0).length : Int)) z (fu 5 (Pt b4902 0) z z))), hst⟩
}
 {
 refine nxe [7, 9] (by kernel_rfl) z z ?_
 clear hst
 intro w hst
 obtain ⟨b4909, w4910, ew4911, eb4912, hst⟩ := hst.box [.pointer none] 60
 refine we_run (v := Pt b4909 0) (w' := w4910) z (x_al (by kernel_rfl) ew4911 eb4912) ?_
 refine ws_next (pend' := [(6, .agg #[v4821, v4887, Zs, Zs, v4883, Zs])]) hst (by kernel_rfl) (pkr rfl rfl (fun w hst => by obtain ⟨_, _, hv_, _⟩ := hst.sv2; rw [hv_]; obtain ⟨_, _, hv_, _⟩ := hst.sv1; rw [hv_]; obtain ⟨_, _, hv_, _⟩ := hst.sv3; rw [hv_]; kernel_rfl) pk_nil) ?_
 refine ws_e1 7 (by kernel_rfl) ?_
 refine nxe [9] (by kernel_rfl) z z ?_
 clear hst
 intro w hst
 obtain ⟨b4914, w4915, ew4916, eb4917, hst⟩ := hst.box [v4821, v4887, Zs, Zs, v4883, Zs] 73
 refine we_run (v := Pt b4914 0) (w' := w4915) z (x_al (by kernel_rfl) ew4916 eb4917) ?_
 refine ws_next (pend' := []) hst (by kernel_rfl) pk_nil ?_
 refine ws_e1 9 (by kernel_rfl) ?_
 refine nxe [] (by kernel_rfl) z z ?_
 clear hst
 intro w hst
 replace hst := hst.pull1
 obtain ⟨w4919, hr4920, hst⟩ := hst.by_ [Pt b4914 0] 0 (Pt b4914 0) sizeOf60 z (oC z oN) (by kernel_rfl)
 refine we_unit z (x_unit hr4920) ?_
 refine ws_next (pend' := []) hst (by kernel_rfl) pk_nil ?_
 refine ws_nil ?_
 intro w hst
 refine ⟨z, ?_⟩
 replace hst := hst.own_nil (tySl (tyInt .i64))
 replace hst := hst.own_nil (tySl (tyInt .i64))
 replace hst := hst.own_nil (tyInt .i64)
 replace hst := hst.pull6.pull2.pull3.pull6.pull7.pull7
 replace hst := at_label_Lattice_close (pv := Pt b4914 0) (x := ({ up := t4814, down := (List.replicate (Int.toNat ((a0).length : Int)) (0:Int)), join := [], meet := [], rank := (List.replicate (Int.toNat ((a0).length : Int)) (0:Int)), all := [] } : label_Lattice)) hst z
 replace hst := hst.pull1.keep2
 obtain rfl := some_inj hm
 exact ⟨({ up := t4814, down := (List.replicate (Int.toNat ((a0).length : Int)) (0:Int)), join := [], meet := [], rank := (List.replicate (Int.toNat ((a0).length : Int)) (0:Int)), all := [] } : label_Lattice), b4909, (Pt b4914 0), _, hx5498, (fu 0 r0_0 z (fu 4 (.int .i64 ((a0).length : Int)) z (fu 5 (Pt b4909 0) z z))), hst⟩
}
}
 {
 refine nxe [3, 6, 7, 9] (by kernel_rfl) z z ?_
 clear hst
 intro w hst
 obtain ⟨b4921, w4922, ew4923, eb4924, hst⟩ := hst.box [.pointer none] 60
 refine we_run (v := Pt b4921 0) (w' := w4922) z (x_al (by kernel_rfl) ew4923 eb4924) ?_
 refine ws_next (pend' := [(2, I6 ((a0).length : Int))]) hst (by kernel_rfl) (pkr z z (fun w hst => z) pk_nil) ?_
 refine ws_e1 3 (by kernel_rfl) ?_
 refine nxe [6, 7, 9] (by kernel_rfl) z z ?_
 clear hst
 intro w hst
 obtain ⟨v4926, w4927, hr4928, hst⟩ := run_mk (k := .i64) (k' := .i64) (zm := (0:Int)) elem_25 hst hg4816 (by decide) z
 refine we_run (v := v4926) (w' := w4927) z (x_make z z hr4928) ?_
 refine ws_next (pend' := []) hst (by kernel_rfl) pk_nil ?_
 refine wsr (.agg #[v4821, v4926, Zs, Zs, v4883, Zs]) 6 rfl rfl rfl (by kernel_rfl) (fun w hst => by obtain ⟨_, _, hv_, _⟩ := hst.sv2; rw [hv_]; obtain ⟨_, _, hv_, _⟩ := hst.sv0; rw [hv_]; obtain ⟨_, _, hv_, _⟩ := hst.sv3; rw [hv_]; kernel_rfl) ?_
 refine ws_e1 7 (by kernel_rfl) ?_
 refine nxe [9] (by kernel_rfl) z z ?_
 clear hst
 intro w hst
 obtain ⟨b4936, w4937, ew4938, eb4939, hst⟩ := hst.box [v4821, v4926, Zs, Zs, v4883, Zs] 73
 refine we_run (v := Pt b4936 0) (w' := w4937) z (x_al (by kernel_rfl) ew4938 eb4939) ?_
 refine ws_next (pend' := []) hst (by kernel_rfl) pk_nil ?_
 refine ws_e1 9 (by kernel_rfl) ?_
 refine nxe [] (by kernel_rfl) z z ?_
 clear hst
 intro w hst
 replace hst := hst.pull2
 obtain ⟨w4941, hr4942, hst⟩ := hst.by_ [Pt b4936 0] 0 (Pt b4936 0) sizeOf60 z (oC z oN) (by kernel_rfl)
 refine we_unit z (x_unit hr4942) ?_
 refine ws_next (pend' := []) hst (by kernel_rfl) pk_nil ?_
 refine ws_nil ?_
 intro w hst
 refine ⟨z, ?_⟩
 replace hst := hst.own_nil (tySl (tyInt .i64))
 replace hst := hst.own_nil (tySl (tyInt .i64))
 replace hst := hst.own_nil (tyInt .i64)
 replace hst := hst.pull6.pull2.pull3.pull6.pull7.pull7
 replace hst := at_label_Lattice_close (pv := Pt b4936 0) (x := ({ up := t4814, down := (List.replicate (Int.toNat ((a0).length : Int)) (0:Int)), join := [], meet := [], rank := (List.replicate (Int.toNat ((a0).length : Int)) (0:Int)), all := [] } : label_Lattice)) hst z
 replace hst := hst.pull1.keep2
 obtain rfl := some_inj hm
 exact ⟨({ up := t4814, down := (List.replicate (Int.toNat ((a0).length : Int)) (0:Int)), join := [], meet := [], rank := (List.replicate (Int.toNat ((a0).length : Int)) (0:Int)), all := [] } : label_Lattice), b4921, (Pt b4936 0), _, hx5498, (fu 0 r0_0 z (fu 4 (.int .i64 ((a0).length : Int)) z (fu 5 (Pt b4921 0) z z))), hst⟩
}
}
 {
 refine nxe [3, 5, 6, 7, 9] (by kernel_rfl) z z ?_
 clear hst
 intro w hst
 obtain ⟨b4943, w4944, ew4945, eb4946, hst⟩ := hst.box [.pointer none] 60
 refine we_run (v := Pt b4943 0) (w' := w4944) z (x_al (by kernel_rfl) ew4945 eb4946) ?_
 refine ws_next (pend' := [(4, I6 ((a0).length : Int)), (2, I6 ((a0).length : Int))]) hst (by kernel_rfl) (pkr z z (fun w hst => z) (pkr z z (fun w hst => z) pk_nil)) ?_
 refine ws_e2 3 5 (by kernel_rfl) ?_ ?_
 {
 refine nxe [5, 6, 7, 9] (by kernel_rfl) z z ?_
 clear hst
 intro w hst
 obtain ⟨v4948, w4949, hr4950, hst⟩ := run_mk (k := .i64) (k' := .i64) (zm := (0:Int)) elem_25 hst hg4816 (by decide) z
 refine we_run (v := v4948) (w' := w4949) z (x_make z z hr4950) ?_
 refine ws_next (pend' := [(4, I6 ((a0).length : Int))]) hst (by kernel_rfl) (pkr z z (fun w hst => z) pk_nil) ?_
 refine ws_e1 5 (by kernel_rfl) ?_
 refine nxe [6, 7, 9] (by kernel_rfl) z z ?_
 clear hst
 intro w hst
 obtain ⟨v4952, w4953, hr4954, hst⟩ := run_mk (k := .i64) (k' := .i64) (zm := (0:Int)) elem_46 hst hg4817 (by decide) z
 refine we_run (v := v4952) (w' := w4953) z (x_make z z hr4954) ?_
 refine ws_next (pend' := []) hst (by kernel_rfl) pk_nil ?_
 refine wsr (.agg #[v4821, v4948, Zs, Zs, v4952, Zs]) 6 rfl rfl rfl (by kernel_rfl) (fun w hst => by obtain ⟨_, _, hv_, _⟩ := hst.sv0; rw [hv_]; obtain ⟨_, _, hv_, _⟩ := hst.sv1; rw [hv_]; obtain ⟨_, _, hv_, _⟩ := hst.sv3; rw [hv_]; kernel_rfl) ?_
 refine ws_e1 7 (by kernel_rfl) ?_
 refine nxe [9] (by kernel_rfl) z z ?_
 clear hst
 intro w hst
 obtain ⟨b4962, w4963, ew4964, eb4965, hst⟩ := hst.box [v4821, v4948, Zs, Zs, v4952, Zs] 73
 refine we_run (v := Pt b4962 0) (w' := w4963) z (x_al (by kernel_rfl) ew4964 eb4965) ?_
 refine ws_next (pend' := []) hst (by kernel_rfl) pk_nil ?_
 refine ws_e1 9 (by kernel_rfl) ?_
 refine nxe [] (by kernel_rfl) z z ?_
 clear hst
 intro w hst
 replace hst := hst.pull3
 obtain ⟨w4967, hr4968, hst⟩ := hst.by_ [Pt b4962 0] 0 (Pt b4962 0) sizeOf60 z (oC z oN) (by kernel_rfl)
 refine we_unit z (x_unit hr4968) ?_
 refine ws_next (pend' := []) hst (by kernel_rfl) pk_nil ?_
 refine ws_nil ?_
 intro w hst
 refine ⟨z, ?_⟩
 replace hst := hst.own_nil (tySl (tyInt .i64))
 replace hst := hst.own_nil (tySl (tyInt .i64))
 replace hst := hst.own_nil (tyInt .i64)
 replace hst := hst.pull5.pull2.pull3.pull6.pull7.pull7
 replace hst := at_label_Lattice_close (pv := Pt b4962 0) (x := ({ up := t4814, down := (List.replicate (Int.toNat ((a0).length : Int)) (0:Int)), join := [], meet := [], rank := (List.replicate (Int.toNat ((a0).length : Int)) (0:Int)), all := [] } : label_Lattice)) hst z
 replace hst := hst.pull1.keep2
 obtain rfl := some_inj hm
 exact ⟨({ up := t4814, down := (List.replicate (Int.toNat ((a0).length : Int)) (0:Int)), join := [], meet := [], rank := (List.replicate (Int.toNat ((a0).length : Int)) (0:Int)), all := [] } : label_Lattice), b4943, (Pt b4962 0), _, hx5498, (fu 0 r0_0 z (fu 4 (.int .i64 ((a0).length : Int)) z (fu 5 (Pt b4943 0) z z))), hst⟩
}
 {
 refine nxe [3, 6, 7, 9] (by kernel_rfl) z z ?_
 clear hst
 intro w hst
 obtain ⟨v4969, w4970, hr4971, hst⟩ := run_mk (k := .i64) (k' := .i64) (zm := (0:Int)) elem_46 hst hg4817 (by decide) z
 refine we_run (v := v4969) (w' := w4970) z (x_make z z hr4971) ?_
 refine ws_next (pend' := [(2, I6 ((a0).length : Int))]) hst (by kernel_rfl) (pkr z z (fun w hst => z) pk_nil) ?_
 refine ws_e1 3 (by kernel_rfl) ?_
 refine nxe [6, 7, 9] (by kernel_rfl) z z ?_
 clear hst
 intro w hst
 obtain ⟨v4973, w4974, hr4975, hst⟩ := run_mk (k := .i64) (k' := .i64) (zm := (0:Int)) elem_25 hst hg4816 (by decide) z
 refine we_run (v := v4973) (w' := w4974) z (x_make z z hr4975) ?_
 refine ws_next (pend' := []) hst (by kernel_rfl) pk_nil ?_
 refine wsr (.agg #[v4821, v4973, Zs, Zs, v4969, Zs]) 6 rfl rfl rfl (by kernel_rfl) (fun w hst => by obtain ⟨_, _, hv_, _⟩ := hst.sv1; rw [hv_]; obtain ⟨_, _, hv_, _⟩ := hst.sv0; rw [hv_]; obtain ⟨_, _, hv_, _⟩ := hst.sv3; rw [hv_]; kernel_rfl) ?_
 refine ws_e1 7 (by kernel_rfl) ?_
 refine nxe [9] (by kernel_rfl) z z ?_
 clear hst
 intro w hst
 obtain ⟨b4983, w4984, ew4985, eb4986, hst⟩ := hst.box [v4821, v4973, Zs, Zs, v4969, Zs] 73
 refine we_run (v := Pt b4983 0) (w' := w4984) z (x_al (by kernel_rfl) ew4985 eb4986) ?_
 refine ws_next (pend' := []) hst (by kernel_rfl) pk_nil ?_
 refine ws_e1 9 (by kernel_rfl) ?_
 refine nxe [] (by kernel_rfl) z z ?_
 clear hst
 intro w hst
 replace hst := hst.pull3
 obtain ⟨w4988, hr4989, hst⟩ := hst.by_ [Pt b4983 0] 0 (Pt b4983 0) sizeOf60 z (oC z oN) (by kernel_rfl)
 refine we_unit z (x_unit hr4989) ?_
 refine ws_next (pend' := []) hst (by kernel_rfl) pk_nil ?_
 refine ws_nil ?_
 intro w hst
 refine ⟨z, ?_⟩
 replace hst := hst.own_nil (tySl (tyInt .i64))
 replace hst := hst.own_nil (tySl (tyInt .i64))
 replace hst := hst.own_nil (tyInt .i64)
 replace hst := hst.pull6.pull2.pull3.pull6.pull7.pull7
 replace hst := at_label_Lattice_close (pv := Pt b4983 0) (x := ({ up := t4814, down := (List.replicate (Int.toNat ((a0).length : Int)) (0:Int)), join := [], meet := [], rank := (List.replicate (Int.toNat ((a0).length : Int)) (0:Int)), all := [] } : label_Lattice)) hst z
 replace hst := hst.pull1.keep2
 obtain rfl := some_inj hm
 exact ⟨({ up := t4814, down := (List.replicate (Int.toNat ((a0).length : Int)) (0:Int)), join := [], meet := [], rank := (List.replicate (Int.toNat ((a0).length : Int)) (0:Int)), all := [] } : label_Lattice), b4943, (Pt b4983 0), _, hx5498, (fu 0 r0_0 z (fu 4 (.int .i64 ((a0).length : Int)) z (fu 5 (Pt b4943 0) z z))), hst⟩
}
}
}
 {
 refine nxe [1, 5, 6, 7, 8, 9] (by kernel_rfl) z z ?_
 clear hst
 intro w hst
 obtain ⟨v4990, w4991, hr4992, hst⟩ := run_mk (k := .i64) (k' := .i64) (zm := (0:Int)) elem_25 hst hg4816 (by decide) z
 refine we_run (v := v4990) (w' := w4991) z (x_make z z hr4992) ?_
 refine ws_next (pend' := [(4, I6 ((a0).length : Int)), (0, r0_0)]) hst (by kernel_rfl) (pkr z z (fun w hst => z) (pkr z z (fun w hst => z) pk_nil)) ?_
 refine ws_e3 1 5 8 (by kernel_rfl) ?_ ?_ ?_
 {
 refine nxe [5, 6, 7, 8, 9] (by kernel_rfl) z z ?_
 clear hst
 intro w hst
 refine wec call44 [r0_0] z z ?_
 refine (slices_Clone_uint64_uint64_ref (f0_0.mono (rd_weak _)) hst.to0 ht4815).mono ?_
 rintro _ w4994 ⟨v4997, rfl, hst⟩
 refine ⟨_, z, ?_⟩
 replace hst := hst.of1
 refine ws_next (pend' := [(4, I6 ((a0).length : Int))]) hst (by kernel_rfl) (pkr z z (fun w hst => z) pk_nil) ?_
 refine ws_e2 5 8 (by kernel_rfl) ?_ ?_
 {
 refine nxe [6, 7, 8, 9] (by kernel_rfl) z z ?_
 clear hst
 intro w hst
 obtain ⟨v4999, w5000, hr5001, hst⟩ := run_mk (k := .i64) (k' := .i64) (zm := (0:Int)) elem_46 hst hg4817 (by decide) z
 refine we_run (v := v4999) (w' := w5000) z (x_make z z hr5001) ?_
 refine ws_next (pend' := []) hst (by kernel_rfl) pk_nil ?_
 refine wsr (.agg #[v4997, v4990, Zs, Zs, v4999, Zs]) 6 rfl rfl rfl (by kernel_rfl) (fun w hst => by obtain ⟨_, _, hv_, _⟩ := hst.sv0; rw [hv_]; obtain ⟨_, _, hv_, _⟩ := hst.sv2; rw [hv_]; obtain ⟨_, _, hv_, _⟩ := hst.sv1; rw [hv_]; kernel_rfl) ?_
 refine ws_e2 7 8 (by kernel_rfl) ?_ ?_
 {
 refine nxe [8, 9] (by kernel_rfl) z z ?_
 clear hst
 intro w hst
 obtain ⟨b5009, w5010, ew5011, eb5012, hst⟩ := hst.box [v4997, v4990, Zs, Zs, v4999, Zs] 73
 refine we_run (v := Pt b5009 0) (w' := w5010) z (x_al (by kernel_rfl) ew5011 eb5012) ?_
 refine ws_next (pend' := []) hst (by kernel_rfl) pk_nil ?_
 refine ws_e1 8 (by kernel_rfl) ?_
 refine nxe [9] (by kernel_rfl) z z ?_
 clear hst
 intro w hst
 obtain ⟨b5014, w5015, ew5016, eb5017, hst⟩ := hst.box [.pointer none] 60
 refine we_run (v := Pt b5014 0) (w' := w5015) z (x_al (by kernel_rfl) ew5016 eb5017) ?_
 refine ws_next (pend' := []) hst (by kernel_rfl) pk_nil ?_
 refine ws_e1 9 (by kernel_rfl) ?_
 refine nxe [] (by kernel_rfl) z z ?_
 clear hst
 intro w hst
 obtain ⟨w5019, hr5020, hst⟩ := hst.by_ [Pt b5009 0] 0 (Pt b5009 0) sizeOf60 z (oC z oN) (by kernel_rfl)
 refine we_unit z (x_unit hr5020) ?_
 refine ws_next (pend' := []) hst (by kernel_rfl) pk_nil ?_
 refine ws_nil ?_
 intro w hst
 refine ⟨z, ?_⟩
 replace hst := hst.own_nil (tySl (tyInt .i64))
 replace hst := hst.own_nil (tySl (tyInt .i64))
 replace hst := hst.own_nil (tyInt .i64)
 replace hst := hst.pull5.pull2.pull3.pull7.pull7.pull7
 replace hst := at_label_Lattice_close (pv := Pt b5009 0) (x := ({ up := t4814, down := (List.replicate (Int.toNat ((a0).length : Int)) (0:Int)), join := [], meet := [], rank := (List.replicate (Int.toNat ((a0).length : Int)) (0:Int)), all := [] } : label_Lattice)) hst z
 replace hst := hst.pull1.keep2
 obtain rfl := some_inj hm
 exact ⟨({ up := t4814, down := (List.replicate (Int.toNat ((a0).length : Int)) (0:Int)), join := [], meet := [], rank := (List.replicate (Int.toNat ((a0).length : Int)) (0:Int)), all := [] } : label_Lattice), b5014, (Pt b5009 0), _, hx5498, (fu 0 r0_0 z (fu 4 (.int .i64 ((a0).length : Int)) z (fu 5 (Pt b5014 0) z z))), hst⟩
}
 {
 refine nxe [7, 9] (by kernel_rfl) z z ?_
 clear hst
 intro w hst
 obtain ⟨b5021, w5022, ew5023, eb5024, hst⟩ := hst.box [.pointer none] 60
 refine we_run (v := Pt b5021 0) (w' := w5022) z (x_al (by kernel_rfl) ew5023 eb5024) ?_
 refine ws_next (pend' := [(6, .agg #[v4997, v4990, Zs, Zs, v4999, Zs])]) hst (by kernel_rfl) (pkr rfl rfl (fun w hst => by obtain ⟨_, _, hv_, _⟩ := hst.sv1; rw [hv_]; obtain ⟨_, _, hv_, _⟩ := hst.sv3; rw [hv_]; obtain ⟨_, _, hv_, _⟩ := hst.sv2; rw [hv_]; kernel_rfl) pk_nil) ?_
 refine ws_e1 7 (by kernel_rfl) ?_
 refine nxe [9] (by kernel_rfl) z z ?_
 clear hst
 intro w hst
 obtain ⟨b5026, w5027, ew5028, eb5029, hst⟩ := hst.box [v4997, v4990, Zs, Zs, v4999, Zs] 73
 refine we_run (v := Pt b5026 0) (w' := w5027) z (x_al (by kernel_rfl) ew5028 eb5029) ?_
 refine ws_next (pend' := []) hst (by kernel_rfl) pk_nil ?_
 refine ws_e1 9 (by kernel_rfl) ?_
 refine nxe [] (by kernel_rfl) z z ?_
 clear hst
 intro w hst
 replace hst := hst.pull1
 obtain ⟨w5031, hr5032, hst⟩ := hst.by_ [Pt b5026 0] 0 (Pt b5026 0) sizeOf60 z (oC z oN) (by kernel_rfl)
 refine we_unit z (x_unit hr5032) ?_
 refine ws_next (pend' := []) hst (by kernel_rfl) pk_nil ?_
 refine ws_nil ?_
 intro w hst
 refine ⟨z, ?_⟩
 replace hst := hst.own_nil (tySl (tyInt .i64))
 replace hst := hst.own_nil (tySl (tyInt .i64))
 replace hst := hst.own_nil (tyInt .i64)
 replace hst := hst.pull5.pull2.pull3.pull7.pull7.pull7
 replace hst := at_label_Lattice_close (pv := Pt b5026 0) (x := ({ up := t4814, down := (List.replicate (Int.toNat ((a0).length : Int)) (0:Int)), join := [], meet := [], rank := (List.replicate (Int.toNat ((a0).length : Int)) (0:Int)), all := [] } : label_Lattice)) hst z
 replace hst := hst.pull1.keep2
 obtain rfl := some_inj hm
 exact ⟨({ up := t4814, down := (List.replicate (Int.toNat ((a0).length : Int)) (0:Int)), join := [], meet := [], rank := (List.replicate (Int.toNat ((a0).length : Int)) (0:Int)), all := [] } : label_Lattice), b5021, (Pt b5026 0), _, hx5498, (fu 0 r0_0 z (fu 4 (.int .i64 ((a0).length : Int)) z (fu 5 (Pt b5021 0) z z))), hst⟩
}
}
 {
 refine nxe [5, 6, 7, 9] (by kernel_rfl) z z ?_
 clear hst
 intro w hst
 obtain ⟨b5033, w5034, ew5035, eb5036, hst⟩ := hst.box [.pointer none] 60
 refine we_run (v := Pt b5033 0) (w' := w5034) z (x_al (by kernel_rfl) ew5035 eb5036) ?_
 refine ws_next (pend' := [(4, I6 ((a0).length : Int))]) hst (by kernel_rfl) (pkr z z (fun w hst => z) pk_nil) ?_
 refine ws_e1 5 (by kernel_rfl) ?_
 refine nxe [6, 7, 9] (by kernel_rfl) z z ?_
 clear hst
 intro w hst
 obtain ⟨v5038, w5039, hr5040, hst⟩ := run_mk (k := .i64) (k' := .i64) (zm := (0:Int)) elem_46 hst hg4817 (by decide) z
 refine we_run (v := v5038) (w' := w5039) z (x_make z z hr5040) ?_
 refine ws_next (pend' := []) hst (by kernel_rfl) pk_nil ?_
 refine wsr (.agg #[v4997, v4990, Zs, Zs, v5038, Zs]) 6 rfl rfl rfl (by kernel_rfl) (fun w hst => by obtain ⟨_, _, hv_, _⟩ := hst.sv0; rw [hv_]; obtain ⟨_, _, hv_, _⟩ := hst.sv3; rw [hv_]; obtain ⟨_, _, hv_, _⟩ := hst.sv2; rw [hv_]; kernel_rfl) ?_
 refine ws_e1 7 (by kernel_rfl) ?_
 refine nxe [9] (by kernel_rfl) z z ?_
 clear hst
 intro w hst
 obtain ⟨b5048, w5049, ew5050, eb5051, hst⟩ := hst.box [v4997, v4990, Zs, Zs, v5038, Zs] 73
 refine we_run (v := Pt b5048 0) (w' := w5049) z (x_al (by kernel_rfl) ew5050 eb5051) ?_
 refine ws_next (pend' := []) hst (by kernel_rfl) pk_nil ?_
 refine ws_e1 9 (by kernel_rfl) ?_
 refine nxe [] (by kernel_rfl) z z ?_
 clear hst
 intro w hst
 replace hst := hst.pull2
 obtain ⟨w5053, hr5054, hst⟩ := hst.by_ [Pt b5048 0] 0 (Pt b5048 0) sizeOf60 z (oC z oN) (by kernel_rfl)
 refine we_unit z (x_unit hr5054) ?_
 refine ws_next (pend' := []) hst (by kernel_rfl) pk_nil ?_
 refine ws_nil ?_
 intro w hst
 refine ⟨z, ?_⟩
 replace hst := hst.own_nil (tySl (tyInt .i64))
 replace hst := hst.own_nil (tySl (tyInt .i64))
 replace hst := hst.own_nil (tyInt .i64)
 replace hst := hst.pull5.pull2.pull3.pull7.pull7.pull7
 replace hst := at_label_Lattice_close (pv := Pt b5048 0) (x := ({ up := t4814, down := (List.replicate (Int.toNat ((a0).length : Int)) (0:Int)), join := [], meet := [], rank := (List.replicate (Int.toNat ((a0).length : Int)) (0:Int)), all := [] } : label_Lattice)) hst z
 replace hst := hst.pull1.keep2
 obtain rfl := some_inj hm
 exact ⟨({ up := t4814, down := (List.replicate (Int.toNat ((a0).length : Int)) (0:Int)), join := [], meet := [], rank := (List.replicate (Int.toNat ((a0).length : Int)) (0:Int)), all := [] } : label_Lattice), b5033, (Pt b5048 0), _, hx5498, (fu 0 r0_0 z (fu 4 (.int .i64 ((a0).length : Int)) z (fu 5 (Pt b5033 0) z z))), hst⟩
}
}
 {
 refine nxe [1, 6, 7, 8, 9] (by kernel_rfl) z z ?_
 clear hst
 intro w hst
 obtain ⟨v5055, w5056, hr5057, hst⟩ := run_mk (k := .i64) (k' := .i64) (zm := (0:Int)) elem_46 hst hg4817 (by decide) z
 refine we_run (v := v5055) (w' := w5056) z (x_make z z hr5057) ?_
 refine ws_next (pend' := [(0, r0_0)]) hst (by kernel_rfl) (pkr z z (fun w hst => z) pk_nil) ?_
 refine ws_e2 1 8 (by kernel_rfl) ?_ ?_
 {
 refine nxe [6, 7, 8, 9] (by kernel_rfl) z z ?_
 clear hst
 intro w hst
 refine wec call44 [r0_0] z z ?_
 refine (slices_Clone_uint64_uint64_ref (f0_0.mono (rd_weak _)) hst.to0 ht4815).mono ?_
 rintro _ w5059 ⟨v5062, rfl, hst⟩
 refine ⟨_, z, ?_⟩
 replace hst := hst.of1
 refine ws_next (pend' := []) hst (by kernel_rfl) pk_nil ?_
 refine wsr (.agg #[v5062, v4990, Zs, Zs, v5055, Zs]) 6 rfl rfl rfl (by kernel_rfl) (fun w hst => by obtain ⟨_, _, hv_, _⟩ := hst.sv1; rw [hv_]; obtain ⟨_, _, hv_, _⟩ := hst.sv2; rw [hv_]; obtain ⟨_, _, hv_, _⟩ := hst.sv0; rw [hv_]; kernel_rfl) ?_
 refine ws_e2 7 8 (by kernel_rfl) ?_ ?_
 {
 refine nxe [8, 9] (by kernel_rfl) z z ?_
 clear hst
 intro w hst
 obtain ⟨b5070, w5071, ew5072, eb5073, hst⟩ := hst.box [v5062, v4990, Zs, Zs, v5055, Zs] 73
 refine we_run (v := Pt b5070 0) (w' := w5071) z (x_al (by kernel_rfl) ew5072 eb5073) ?_
 refine ws_next (pend' := []) hst (by kernel_rfl) pk_nil ?_
 refine ws_e1 8 (by kernel_rfl) ?_
 refine nxe [9] (by kernel_rfl) z z ?_
 clear hst
 intro w hst
 obtain ⟨b5075, w5076, ew5077, eb5078, hst⟩ := hst.box [.pointer none] 60
 refine we_run (v := Pt b5075 0) (w' := w5076) z (x_al (by kernel_rfl) ew5077 eb5078) ?_
 refine ws_next (pend' := []) hst (by kernel_rfl) pk_nil ?_
 refine ws_e1 9 (by kernel_rfl) ?_
 refine nxe [] (by kernel_rfl) z z ?_
 clear hst
 intro w hst
 obtain ⟨w5080, hr5081, hst⟩ := hst.by_ [Pt b5070 0] 0 (Pt b5070 0) sizeOf60 z (oC z oN) (by kernel_rfl)
 refine we_unit z (x_unit hr5081) ?_
 refine ws_next (pend' := []) hst (by kernel_rfl) pk_nil ?_
 refine ws_nil ?_
 intro w hst
 refine ⟨z, ?_⟩
 replace hst := hst.own_nil (tySl (tyInt .i64))
 replace hst := hst.own_nil (tySl (tyInt .i64))
 replace hst := hst.own_nil (tyInt .i64)
 replace hst := hst.pull6.pull2.pull3.pull7.pull7.pull7
 replace hst := at_label_Lattice_close (pv := Pt b5070 0) (x := ({ up := t4814, down := (List.replicate (Int.toNat ((a0).length : Int)) (0:Int)), join := [], meet := [], rank := (List.replicate (Int.toNat ((a0).length : Int)) (0:Int)), all := [] } : label_Lattice)) hst z
 replace hst := hst.pull1.keep2
 obtain rfl := some_inj hm
 exact ⟨({ up := t4814, down := (List.replicate (Int.toNat ((a0).length : Int)) (0:Int)), join := [], meet := [], rank := (List.replicate (Int.toNat ((a0).length : Int)) (0:Int)), all := [] } : label_Lattice), b5075, (Pt b5070 0), _, hx5498, (fu 0 r0_0 z (fu 4 (.int .i64 ((a0).length : Int)) z (fu 5 (Pt b5075 0) z z))), hst⟩
}
 {
 refine nxe [7, 9] (by kernel_rfl) z z ?_
 clear hst
 intro w hst
 obtain ⟨b5082, w5083, ew5084, eb5085, hst⟩ := hst.box [.pointer none] 60
 refine we_run (v := Pt b5082 0) (w' := w5083) z (x_al (by kernel_rfl) ew5084 eb5085) ?_
 refine ws_next (pend' := [(6, .agg #[v5062, v4990, Zs, Zs, v5055, Zs])]) hst (by kernel_rfl) (pkr rfl rfl (fun w hst => by obtain ⟨_, _, hv_, _⟩ := hst.sv2; rw [hv_]; obtain ⟨_, _, hv_, _⟩ := hst.sv3; rw [hv_]; obtain ⟨_, _, hv_, _⟩ := hst.sv1; rw [hv_]; kernel_rfl) pk_nil) ?_
 refine ws_e1 7 (by kernel_rfl) ?_
 refine nxe [9] (by kernel_rfl) z z ?_
 clear hst
 intro w hst
 obtain ⟨b5087, w5088, ew5089, eb5090, hst⟩ := hst.box [v5062, v4990, Zs, Zs, v5055, Zs] 73
 refine we_run (v := Pt b5087 0) (w' := w5088) z (x_al (by kernel_rfl) ew5089 eb5090) ?_
 refine ws_next (pend' := []) hst (by kernel_rfl) pk_nil ?_
 refine ws_e1 9 (by kernel_rfl) ?_
 refine nxe [] (by kernel_rfl) z z ?_
 clear hst
 intro w hst
 replace hst := hst.pull1
 obtain ⟨w5092, hr5093, hst⟩ := hst.by_ [Pt b5087 0] 0 (Pt b5087 0) sizeOf60 z (oC z oN) (by kernel_rfl)
 refine we_unit z (x_unit hr5093) ?_
 refine ws_next (pend' := []) hst (by kernel_rfl) pk_nil ?_
 refine ws_nil ?_
 intro w hst
 refine ⟨z, ?_⟩
 replace hst := hst.own_nil (tySl (tyInt .i64))
 replace hst := hst.own_nil (tySl (tyInt .i64))
 replace hst := hst.own_nil (tyInt .i64)
 replace hst := hst.pull6.pull2.pull3.pull7.pull7.pull7
 replace hst := at_label_Lattice_close (pv := Pt b5087 0) (x := ({ up := t4814, down := (List.replicate (Int.toNat ((a0).length : Int)) (0:Int)), join := [], meet := [], rank := (List.replicate (Int.toNat ((a0).length : Int)) (0:Int)), all := [] } : label_Lattice)) hst z
 replace hst := hst.pull1.keep2
 obtain rfl := some_inj hm
 exact ⟨({ up := t4814, down := (List.replicate (Int.toNat ((a0).length : Int)) (0:Int)), join := [], meet := [], rank := (List.replicate (Int.toNat ((a0).length : Int)) (0:Int)), all := [] } : label_Lattice), b5082, (Pt b5087 0), _, hx5498, (fu 0 r0_0 z (fu 4 (.int .i64 ((a0).length : Int)) z (fu 5 (Pt b5082 0) z z))), hst⟩
}
}
 {
 refine nxe [1, 6, 7, 9] (by kernel_rfl) z z ?_
 clear hst
 intro w hst
 obtain ⟨b5094, w5095, ew5096, eb5097, hst⟩ := hst.box [.pointer none] 60
 refine we_run (v := Pt b5094 0) (w' := w5095) z (x_al (by kernel_rfl) ew5096 eb5097) ?_
 refine ws_next (pend' := [(0, r0_0)]) hst (by kernel_rfl) (pkr z z (fun w hst => z) pk_nil) ?_
 refine ws_e1 1 (by kernel_rfl) ?_
 refine nxe [6, 7, 9] (by kernel_rfl) z z ?_
 clear hst
 intro w hst
 refine wec call44 [r0_0] z z ?_
 refine (slices_Clone_uint64_uint64_ref (f0_0.mono (rd_weak _)) hst.to0 ht4815).mono ?_
 rintro _ w5099 ⟨v5102, rfl, hst⟩
 refine ⟨_, z, ?_⟩
 replace hst := hst.of1
 refine ws_next (pend' := []) hst (by kernel_rfl) pk_nil ?_
 refine wsr (.agg #[v5102, v4990, Zs, Zs, v5055, Zs]) 6 rfl rfl rfl (by kernel_rfl) (fun w hst => by obtain ⟨_, _, hv_, _⟩ := hst.sv2; rw [hv_]; obtain ⟨_, _, hv_, _⟩ := hst.sv3; rw [hv_]; obtain ⟨_, _, hv_, _⟩ := hst.sv0; rw [hv_]; kernel_rfl) ?_
 refine ws_e1 7 (by kernel_rfl) ?_
 refine nxe [9] (by kernel_rfl) z z ?_
 clear hst
 intro w hst
 obtain ⟨b5110, w5111, ew5112, eb5113, hst⟩ := hst.box [v5102, v4990, Zs, Zs, v5055, Zs] 73
 refine we_run (v := Pt b5110 0) (w' := w5111) z (x_al (by kernel_rfl) ew5112 eb5113) ?_
 refine ws_next (pend' := []) hst (by kernel_rfl) pk_nil ?_
 refine ws_e1 9 (by kernel_rfl) ?_
 refine nxe [] (by kernel_rfl) z z ?_
 clear hst
 intro w hst
 replace hst := hst.pull2
 obtain ⟨w5115, hr5116, hst⟩ := hst.by_ [Pt b5110 0] 0 (Pt b5110 0) sizeOf60 z (oC z oN) (by kernel_rfl)
 refine we_unit z (x_unit hr5116) ?_
 refine ws_next (pend' := []) hst (by kernel_rfl) pk_nil ?_
 refine ws_nil ?_
 intro w hst
 refine ⟨z, ?_⟩
 replace hst := hst.own_nil (tySl (tyInt .i64))
 replace hst := hst.own_nil (tySl (tyInt .i64))
 replace hst := hst.own_nil (tyInt .i64)
 replace hst := hst.pull6.pull2.pull3.pull7.pull7.pull7
 replace hst := at_label_Lattice_close (pv := Pt b5110 0) (x := ({ up := t4814, down := (List.replicate (Int.toNat ((a0).length : Int)) (0:Int)), join := [], meet := [], rank := (List.replicate (Int.toNat ((a0).length : Int)) (0:Int)), all := [] } : label_Lattice)) hst z
 replace hst := hst.pull1.keep2
 obtain rfl := some_inj hm
 exact ⟨({ up := t4814, down := (List.replicate (Int.toNat ((a0).length : Int)) (0:Int)), join := [], meet := [], rank := (List.replicate (Int.toNat ((a0).length : Int)) (0:Int)), all := [] } : label_Lattice), b5094, (Pt b5110 0), _, hx5498, (fu 0 r0_0 z (fu 4 (.int .i64 ((a0).length : Int)) z (fu 5 (Pt b5094 0) z z))), hst⟩
}
}
 {
 refine nxe [1, 5, 6, 7, 9] (by kernel_rfl) z z ?_
 clear hst
 intro w hst
 obtain ⟨b5117, w5118, ew5119, eb5120, hst⟩ := hst.box [.pointer none] 60
 refine we_run (v := Pt b5117 0) (w' := w5118) z (x_al (by kernel_rfl) ew5119 eb5120) ?_
 refine ws_next (pend' := [(4, I6 ((a0).length : Int)), (0, r0_0)]) hst (by kernel_rfl) (pkr z z (fun w hst => z) (pkr z z (fun w hst => z) pk_nil)) ?_
 refine ws_e2 1 5 (by kernel_rfl) ?_ ?_
 {
 refine nxe [5, 6, 7, 9] (by kernel_rfl) z z ?_
 clear hst
 intro w hst
 refine wec call44 [r0_0] z z ?_
 refine (slices_Clone_uint64_uint64_ref (f0_0.mono (rd_weak _)) hst.to0 ht4815).mono ?_
 rintro _ w5122 ⟨v5125, rfl, hst⟩
 refine ⟨_, z, ?_⟩
 replace hst := hst.of1
 refine ws_next (pend' := [(4, I6 ((a0).length : Int))]) hst (by kernel_rfl) (pkr z z (fun w hst => z) pk_nil) ?_
 refine ws_e1 5 (by kernel_rfl) ?_
 refine nxe [6, 7, 9] (by kernel_rfl) z z ?_
 clear hst
 intro w hst
 obtain ⟨v5127, w5128, hr5129, hst⟩ := run_mk (k := .i64) (k' := .i64) (zm := (0:Int)) elem_46 hst hg4817 (by decide) z
 refine we_run (v := v5127) (w' := w5128) z (x_make z z hr5129) ?_
 refine ws_next (pend' := []) hst (by kernel_rfl) pk_nil ?_
 refine wsr (.agg #[v5125, v4990, Zs, Zs, v5127, Zs]) 6 rfl rfl rfl (by kernel_rfl) (fun w hst => by obtain ⟨_, _, hv_, _⟩ := hst.sv0; rw [hv_]; obtain ⟨_, _, hv_, _⟩ := hst.sv3; rw [hv_]; obtain ⟨_, _, hv_, _⟩ := hst.sv1; rw [hv_]; kernel_rfl) ?_
 refine ws_e1 7 (by kernel_rfl) ?_
 refine nxe [9] (by kernel_rfl) z z ?_
 clear hst
 intro w hst
 obtain ⟨b5137, w5138, ew5139, eb5140, hst⟩ := hst.box [v5125, v4990, Zs, Zs, v5127, Zs] 73
 refine we_run (v := Pt b5137 0) (w' := w5138) z (x_al (by kernel_rfl) ew5139 eb5140) ?_
 refine ws_next (pend' := []) hst (by kernel_rfl) pk_nil ?_
 refine ws_e1 9 (by kernel_rfl) ?_
 refine nxe [] (by kernel_rfl) z z ?_
 clear hst
 intro w hst
 replace hst := hst.pull3
 obtain ⟨w5142, hr5143, hst⟩ := hst.by_ [Pt b5137 0] 0 (Pt b5137 0) sizeOf60 z (oC z oN) (by kernel_rfl)
 refine we_unit z (x_unit hr5143) ?_
 refine ws_next (pend' := []) hst (by kernel_rfl) pk_nil ?_
 refine ws_nil ?_
 intro w hst
 refine ⟨z, ?_⟩
 replace hst := hst.own_nil (tySl (tyInt .i64))
 replace hst := hst.own_nil (tySl (tyInt .i64))
 replace hst := hst.own_nil (tyInt .i64)
 replace hst := hst.pull5.pull2.pull3.pull7.pull7.pull7
 replace hst := at_label_Lattice_close (pv := Pt b5137 0) (x := ({ up := t4814, down := (List.replicate (Int.toNat ((a0).length : Int)) (0:Int)), join := [], meet := [], rank := (List.replicate (Int.toNat ((a0).length : Int)) (0:Int)), all := [] } : label_Lattice)) hst z
 replace hst := hst.pull1.keep2
 obtain rfl := some_inj hm
 exact ⟨({ up := t4814, down := (List.replicate (Int.toNat ((a0).length : Int)) (0:Int)), join := [], meet := [], rank := (List.replicate (Int.toNat ((a0).length : Int)) (0:Int)), all := [] } : label_Lattice), b5117, (Pt b5137 0), _, hx5498, (fu 0 r0_0 z (fu 4 (.int .i64 ((a0).length : Int)) z (fu 5 (Pt b5117 0) z z))), hst⟩
}
 {
 refine nxe [1, 6, 7, 9] (by kernel_rfl) z z ?_
 clear hst
 intro w hst
 obtain ⟨v5144, w5145, hr5146, hst⟩ := run_mk (k := .i64) (k' := .i64) (zm := (0:Int)) elem_46 hst hg4817 (by decide) z
 refine we_run (v := v5144) (w' := w5145) z (x_make z z hr5146) ?_
 refine ws_next (pend' := [(0, r0_0)]) hst (by kernel_rfl) (pkr z z (fun w hst => z) pk_nil) ?_
 refine ws_e1 1 (by kernel_rfl) ?_
 refine nxe [6, 7, 9] (by kernel_rfl) z z ?_
 clear hst
 intro w hst
 refine wec call44 [r0_0] z z ?_
 refine (slices_Clone_uint64_uint64_ref (f0_0.mono (rd_weak _)) hst.to0 ht4815).mono ?_
 rintro _ w5148 ⟨v5151, rfl, hst⟩
 refine ⟨_, z, ?_⟩
 replace hst := hst.of1
 refine ws_next (pend' := []) hst (by kernel_rfl) pk_nil ?_
 refine wsr (.agg #[v5151, v4990, Zs, Zs, v5144, Zs]) 6 rfl rfl rfl (by kernel_rfl) (fun w hst => by obtain ⟨_, _, hv_, _⟩ := hst.sv1; rw [hv_]; obtain ⟨_, _, hv_, _⟩ := hst.sv3; rw [hv_]; obtain ⟨_, _, hv_, _⟩ := hst.sv0; rw [hv_]; kernel_rfl) ?_
 refine ws_e1 7 (by kernel_rfl) ?_
 refine nxe [9] (by kernel_rfl) z z ?_
 clear hst
 intro w hst
 obtain ⟨b5159, w5160, ew5161, eb5162, hst⟩ := hst.box [v5151, v4990, Zs, Zs, v5144, Zs] 73
 refine we_run (v := Pt b5159 0) (w' := w5160) z (x_al (by kernel_rfl) ew5161 eb5162) ?_
 refine ws_next (pend' := []) hst (by kernel_rfl) pk_nil ?_
 refine ws_e1 9 (by kernel_rfl) ?_
 refine nxe [] (by kernel_rfl) z z ?_
 clear hst
 intro w hst
 replace hst := hst.pull3
 obtain ⟨w5164, hr5165, hst⟩ := hst.by_ [Pt b5159 0] 0 (Pt b5159 0) sizeOf60 z (oC z oN) (by kernel_rfl)
 refine we_unit z (x_unit hr5165) ?_
 refine ws_next (pend' := []) hst (by kernel_rfl) pk_nil ?_
 refine ws_nil ?_
 intro w hst
 refine ⟨z, ?_⟩
 replace hst := hst.own_nil (tySl (tyInt .i64))
 replace hst := hst.own_nil (tySl (tyInt .i64))
 replace hst := hst.own_nil (tyInt .i64)
 replace hst := hst.pull6.pull2.pull3.pull7.pull7.pull7
 replace hst := at_label_Lattice_close (pv := Pt b5159 0) (x := ({ up := t4814, down := (List.replicate (Int.toNat ((a0).length : Int)) (0:Int)), join := [], meet := [], rank := (List.replicate (Int.toNat ((a0).length : Int)) (0:Int)), all := [] } : label_Lattice)) hst z
 replace hst := hst.pull1.keep2
 obtain rfl := some_inj hm
 exact ⟨({ up := t4814, down := (List.replicate (Int.toNat ((a0).length : Int)) (0:Int)), join := [], meet := [], rank := (List.replicate (Int.toNat ((a0).length : Int)) (0:Int)), all := [] } : label_Lattice), b5117, (Pt b5159 0), _, hx5498, (fu 0 r0_0 z (fu 4 (.int .i64 ((a0).length : Int)) z (fu 5 (Pt b5117 0) z z))), hst⟩
}
}
}
 {
 refine nxe [1, 3, 6, 7, 8, 9] (by kernel_rfl) z z ?_
 clear hst
 intro w hst
 obtain ⟨v5166, w5167, hr5168, hst⟩ := run_mk (k := .i64) (k' := .i64) (zm := (0:Int)) elem_46 hst hg4817 (by decide) z
 refine we_run (v := v5166) (w' := w5167) z (x_make z z hr5168) ?_
 refine ws_next (pend' := [(2, I6 ((a0).length : Int)), (0, r0_0)]) hst (by kernel_rfl) (pkr z z (fun w hst => z) (pkr z z (fun w hst => z) pk_nil)) ?_
 refine ws_e3 1 3 8 (by kernel_rfl) ?_ ?_ ?_
 {
 refine nxe [3, 6, 7, 8, 9] (by kernel_rfl) z z ?_
 clear hst
 intro w hst
 refine wec call44 [r0_0] z z ?_
 refine (slices_Clone_uint64_uint64_ref (f0_0.mono (rd_weak _)) hst.to0 ht4815).mono ?_
 rintro _ w5170 ⟨v5173, rfl, hst⟩
 refine ⟨_, z, ?_⟩
 replace hst := hst.of1
 refine ws_next (pend' := [(2, I6 ((a0).length : Int))]) hst (by kernel_rfl) (pkr z z (fun w hst => z) pk_nil) ?_
 refine ws_e2 3 8 (by kernel_rfl) ?_ ?_
 {
 refine nxe [6, 7, 8, 9] (by kernel_rfl) z z ?_
 clear hst
 intro w hst
 obtain ⟨v5175, w5176, hr5177, hst⟩ := run_mk (k := .i64) (k' := .i64) (zm := (0:Int)) elem_25 hst hg4816 (by decide) z
 refine we_run (v := v5175) (w' := w5176) z (x_make z z hr5177) ?_
 refine ws_next (pend' := []) hst (by kernel_rfl) pk_nil ?_
 refine wsr (.agg #[v5173, v5175, Zs, Zs, v5166, Zs]) 6 rfl rfl rfl (by kernel_rfl) (fun w hst => by obtain ⟨_, _, hv_, _⟩ := hst.sv2; rw [hv_]; obtain ⟨_, _, hv_, _⟩ := hst.sv0; rw [hv_]; obtain ⟨_, _, hv_, _⟩ := hst.sv1; rw [hv_]; kernel_rfl) ?_
 refine ws_e2 7 8 (by kernel_rfl) ?_ ?_
 {
 refine nxe [8, 9] (by kernel_rfl) z z ?_
 clear hst
 intro w hst
 obtain ⟨b5185, w5186, ew5187, eb5188, hst⟩ := hst.box [v5173, v5175, Zs, Zs, v5166, Zs] 73
 refine we_run (v := Pt b5185 0) (w' := w5186) z (x_al (by kernel_rfl) ew5187 eb5188) ?_
 refine ws_next (pend' := []) hst (by kernel_rfl) pk_nil ?_
 refine ws_e1 8 (by kernel_rfl) ?_
 refine nxe [9] (by kernel_rfl) z z ?_
 clear hst
 intro w hst
 obtain ⟨b5190, w5191, ew5192, eb5193, hst⟩ := hst.box [.pointer none] 60
 refine we_run (v := Pt b5190 0) (w' := w5191) z (x_al (by kernel_rfl) ew5192 eb5193) ?_
 refine ws_next (pend' := []) hst (by kernel_rfl) pk_nil ?_
 refine ws_e1 9 (by kernel_rfl) ?_
 refine nxe [] (by kernel_rfl) z z ?_
 clear hst
 intro w hst
 obtain ⟨w5195, hr5196, hst⟩ := hst.by_ [Pt b5185 0] 0 (Pt b5185 0) sizeOf60 z (oC z oN) (by kernel_rfl)
 refine we_unit z (x_unit hr5196) ?_
 refine ws_next (pend' := []) hst (by kernel_rfl) pk_nil ?_
 refine ws_nil ?_
 intro w hst
 refine ⟨z, ?_⟩
 replace hst := hst.own_nil (tySl (tyInt .i64))
 replace hst := hst.own_nil (tySl (tyInt .i64))
 replace hst := hst.own_nil (tyInt .i64)
 replace hst := hst.pull7.pull2.pull3.pull6.pull7.pull7
 replace hst := at_label_Lattice_close (pv := Pt b5185 0) (x := ({ up := t4814, down := (List.replicate (Int.toNat ((a0).length : Int)) (0:Int)), join := [], meet := [], rank := (List.replicate (Int.toNat ((a0).length : Int)) (0:Int)), all := [] } : label_Lattice)) hst z
 replace hst := hst.pull1.keep2
 obtain rfl := some_inj hm
 exact ⟨({ up := t4814, down := (List.replicate (Int.toNat ((a0).length : Int)) (0:Int)), join := [], meet := [], rank := (List.replicate (Int.toNat ((a0).length : Int)) (0:Int)), all := [] } : label_Lattice), b5190, (Pt b5185 0), _, hx5498, (fu 0 r0_0 z (fu 4 (.int .i64 ((a0).length : Int)) z (fu 5 (Pt b5190 0) z z))), hst⟩
}
 {
 refine nxe [7, 9] (by kernel_rfl) z z ?_
 clear hst
 intro w hst
 obtain ⟨b5197, w5198, ew5199, eb5200, hst⟩ := hst.box [.pointer none] 60
 refine we_run (v := Pt b5197 0) (w' := w5198) z (x_al (by kernel_rfl) ew5199 eb5200) ?_
 refine ws_next (pend' := [(6, .agg #[v5173, v5175, Zs, Zs, v5166, Zs])]) hst (by kernel_rfl) (pkr rfl rfl (fun w hst => by obtain ⟨_, _, hv_, _⟩ := hst.sv3; rw [hv_]; obtain ⟨_, _, hv_, _⟩ := hst.sv1; rw [hv_]; obtain ⟨_, _, hv_, _⟩ := hst.sv2; rw [hv_]; kernel_rfl) pk_nil) ?_
 refine ws_e1 7 (by kernel_rfl) ?_
 refine nxe [9] (by kernel_rfl) z z ?_
 clear hst
 intro w hst
 obtain ⟨b5202, w5203, ew5204, eb5205, hst⟩ := hst.box [v5173, v5175, Zs, Zs, v5166, Zs] 73
 refine we_run (v := Pt b5202 0) (w' := w5203) z (x_al (by kernel_rfl) ew5204 eb5205) ?_
 refine ws_next (pend' := []) hst (by kernel_rfl) pk_nil ?_
 refine ws_e1 9 (by kernel_rfl) ?_
 refine nxe [] (by kernel_rfl) z z ?_
 clear hst
 intro w hst
 replace hst := hst.pull1
 obtain ⟨w5207, hr5208, hst⟩ := hst.by_ [Pt b5202 0] 0 (Pt b5202 0) sizeOf60 z (oC z oN) (by kernel_rfl)
 refine we_unit z (x_unit hr5208) ?_
 refine ws_next (pend' := []) hst (by kernel_rfl) pk_nil ?_
 refine ws_nil ?_
 intro w hst
 refine ⟨z, ?_⟩
 replace hst := hst.own_nil (tySl (tyInt .i64))
 replace hst := hst.own_nil (tySl (tyInt .i64))
 replace hst := hst.own_nil (tyInt .i64)
 replace hst := hst.pull7.pull2.pull3.pull6.pull7.pull7
 replace hst := at_label_Lattice_close (pv := Pt b5202 0) (x := ({ up := t4814, down := (List.replicate (Int.toNat ((a0).length : Int)) (0:Int)), join := [], meet := [], rank := (List.replicate (Int.toNat ((a0).length : Int)) (0:Int)), all := [] } : label_Lattice)) hst z
 replace hst := hst.pull1.keep2
 obtain rfl := some_inj hm
 exact ⟨({ up := t4814, down := (List.replicate (Int.toNat ((a0).length : Int)) (0:Int)), join := [], meet := [], rank := (List.replicate (Int.toNat ((a0).length : Int)) (0:Int)), all := [] } : label_Lattice), b5197, (Pt b5202 0), _, hx5498, (fu 0 r0_0 z (fu 4 (.int .i64 ((a0).length : Int)) z (fu 5 (Pt b5197 0) z z))), hst⟩
}
}
 {
 refine nxe [3, 6, 7, 9] (by kernel_rfl) z z ?_
 clear hst
 intro w hst
 obtain ⟨b5209, w5210, ew5211, eb5212, hst⟩ := hst.box [.pointer none] 60
 refine we_run (v := Pt b5209 0) (w' := w5210) z (x_al (by kernel_rfl) ew5211 eb5212) ?_
 refine ws_next (pend' := [(2, I6 ((a0).length : Int))]) hst (by kernel_rfl) (pkr z z (fun w hst => z) pk_nil) ?_
 refine ws_e1 3 (by kernel_rfl) ?_
 refine nxe [6, 7, 9] (by kernel_rfl) z z ?_
 clear hst
 intro w hst
 obtain ⟨v5214, w5215, hr5216, hst⟩ := run_mk (k := .i64) (k' := .i64) (zm := (0:Int)) elem_25 hst hg4816 (by decide) z
 refine we_run (v := v5214) (w' := w5215) z (x_make z z hr5216) ?_
 refine ws_next (pend' := []) hst (by kernel_rfl) pk_nil ?_
 refine wsr (.agg #[v5173, v5214, Zs, Zs, v5166, Zs]) 6 rfl rfl rfl (by kernel_rfl) (fun w hst => by obtain ⟨_, _, hv_, _⟩ := hst.sv3; rw [hv_]; obtain ⟨_, _, hv_, _⟩ := hst.sv0; rw [hv_]; obtain ⟨_, _, hv_, _⟩ := hst.sv2; rw [hv_]; kernel_rfl) ?_
 refine ws_e1 7 (by kernel_rfl) ?_
 refine nxe [9] (by kernel_rfl) z z ?_
 clear hst
 intro w hst
 obtain ⟨b5224, w5225, ew5226, eb5227, hst⟩ := hst.box [v5173, v5214, Zs, Zs, v5166, Zs] 73
 refine we_run (v := Pt b5224 0) (w' := w5225) z (x_al (by kernel_rfl) ew5226 eb5227) ?_
 refine ws_next (pend' := []) hst (by kernel_rfl) pk_nil ?_
 refine ws_e1 9 (by kernel_rfl) ?_
 refine nxe [] (by kernel_rfl) z z ?_
 clear hst
 intro w hst
 replace hst := hst.pull2
 obtain ⟨w5229, hr5230, hst⟩ := hst.by_ [Pt b5224 0] 0 (Pt b5224 0) sizeOf60 z (oC z oN) (by kernel_rfl)
 refine we_unit z (x_unit hr5230) ?_
 refine ws_next (pend' := []) hst (by kernel_rfl) pk_nil ?_
 refine ws_nil ?_
 intro w hst
 refine ⟨z, ?_⟩
 replace hst := hst.own_nil (tySl (tyInt .i64))
 replace hst := hst.own_nil (tySl (tyInt .i64))
 replace hst := hst.own_nil (tyInt .i64)
 replace hst := hst.pull7.pull2.pull3.pull6.pull7.pull7
 replace hst := at_label_Lattice_close (pv := Pt b5224 0) (x := ({ up := t4814, down := (List.replicate (Int.toNat ((a0).length : Int)) (0:Int)), join := [], meet := [], rank := (List.replicate (Int.toNat ((a0).length : Int)) (0:Int)), all := [] } : label_Lattice)) hst z
 replace hst := hst.pull1.keep2
 obtain rfl := some_inj hm
 exact ⟨({ up := t4814, down := (List.replicate (Int.toNat ((a0).length : Int)) (0:Int)), join := [], meet := [], rank := (List.replicate (Int.toNat ((a0).length : Int)) (0:Int)), all := [] } : label_Lattice), b5209, (Pt b5224 0), _, hx5498, (fu 0 r0_0 z (fu 4 (.int .i64 ((a0).length : Int)) z (fu 5 (Pt b5209 0) z z))), hst⟩
}
}
 {
 refine nxe [1, 6, 7, 8, 9] (by kernel_rfl) z z ?_
 clear hst
 intro w hst
 obtain ⟨v5231, w5232, hr5233, hst⟩ := run_mk (k := .i64) (k' := .i64) (zm := (0:Int)) elem_25 hst hg4816 (by decide) z
 refine we_run (v := v5231) (w' := w5232) z (x_make z z hr5233) ?_
 refine ws_next (pend' := [(0, r0_0)]) hst (by kernel_rfl) (pkr z z (fun w hst => z) pk_nil) ?_
 refine ws_e2 1 8 (by kernel_rfl) ?_ ?_
 {
 refine nxe [6, 7, 8, 9] (by kernel_rfl) z z ?_
 clear hst
 intro w hst
 refine wec call44 [r0_0] z z ?_
 refine (slices_Clone_uint64_uint64_ref (f0_0.mono (rd_weak _)) hst.to0 ht4815).mono ?_
 rintro _ w5235 ⟨v5238, rfl, hst⟩
 refine ⟨_, z, ?_⟩
 replace hst := hst.of1
 refine ws_next (pend' := []) hst (by kernel_rfl) pk_nil ?_
 refine wsr (.agg #[v5238, v5231, Zs, Zs, v5166, Zs]) 6 rfl rfl rfl (by kernel_rfl) (fun w hst => by obtain ⟨_, _, hv_, _⟩ := hst.sv2; rw [hv_]; obtain ⟨_, _, hv_, _⟩ := hst.sv1; rw [hv_]; obtain ⟨_, _, hv_, _⟩ := hst.sv0; rw [hv_]; kernel_rfl) ?_
 refine ws_e2 7 8 (by kernel_rfl) ?_ ?_
 {
 refine nxe [8, 9] (by kernel_rfl) z z ?_
 clear hst
 intro w hst
 obtain ⟨b5246, w5247, ew5248, eb5249, hst⟩ := hst.box [v5238, v5231, Zs, Zs, v5166, Zs] 73
 refine we_run (v := Pt b5246 0) (w' := w5247) z (x_al (by kernel_rfl) ew5248 eb5249) ?_
 refine ws_next (pend' := []) hst (by kernel_rfl) pk_nil ?_
 refine ws_e1 8 (by kernel_rfl) ?_
 refine nxe [9] (by kernel_rfl) z z ?_
 clear hst
 intro w hst
 obtain ⟨b5251, w5252, ew5253, eb5254, hst⟩ := hst.box [.pointer none] 60
 refine we_run (v := Pt b5251 0) (w' := w5252) z (x_al (by kernel_rfl) ew5253 eb5254) ?_
 refine ws_next (pend' := []) hst (by kernel_rfl) pk_nil ?_
 refine ws_e1 9 (by kernel_rfl) ?_
 refine nxe [] (by kernel_rfl) z z ?_
 clear hst
 intro w hst
 obtain ⟨w5256, hr5257, hst⟩ := hst.by_ [Pt b5246 0] 0 (Pt b5246 0) sizeOf60 z (oC z oN) (by kernel_rfl)
 refine we_unit z (x_unit hr5257) ?_
 refine ws_next (pend' := []) hst (by kernel_rfl) pk_nil ?_
 refine ws_nil ?_
 intro w hst
 refine ⟨z, ?_⟩
 replace hst := hst.own_nil (tySl (tyInt .i64))
 replace hst := hst.own_nil (tySl (tyInt .i64))
 replace hst := hst.own_nil (tyInt .i64)
 replace hst := hst.pull7.pull2.pull3.pull7.pull7.pull7
 replace hst := at_label_Lattice_close (pv := Pt b5246 0) (x := ({ up := t4814, down := (List.replicate (Int.toNat ((a0).length : Int)) (0:Int)), join := [], meet := [], rank := (List.replicate (Int.toNat ((a0).length : Int)) (0:Int)), all := [] } : label_Lattice)) hst z
 replace hst := hst.pull1.keep2
 obtain rfl := some_inj hm
 exact ⟨({ up := t4814, down := (List.replicate (Int.toNat ((a0).length : Int)) (0:Int)), join := [], meet := [], rank := (List.replicate (Int.toNat ((a0).length : Int)) (0:Int)), all := [] } : label_Lattice), b5251, (Pt b5246 0), _, hx5498, (fu 0 r0_0 z (fu 4 (.int .i64 ((a0).length : Int)) z (fu 5 (Pt b5251 0) z z))), hst⟩
}
 {
 refine nxe [7, 9] (by kernel_rfl) z z ?_
 clear hst
 intro w hst
 obtain ⟨b5258, w5259, ew5260, eb5261, hst⟩ := hst.box [.pointer none] 60
 refine we_run (v := Pt b5258 0) (w' := w5259) z (x_al (by kernel_rfl) ew5260 eb5261) ?_
 refine ws_next (pend' := [(6, .agg #[v5238, v5231, Zs, Zs, v5166, Zs])]) hst (by kernel_rfl) (pkr rfl rfl (fun w hst => by obtain ⟨_, _, hv_, _⟩ := hst.sv3; rw [hv_]; obtain ⟨_, _, hv_, _⟩ := hst.sv2; rw [hv_]; obtain ⟨_, _, hv_, _⟩ := hst.sv1; rw [hv_]; kernel_rfl) pk_nil) ?_
 refine ws_e1 7 (by kernel_rfl) ?_
 refine nxe [9] (by kernel_rfl) z z ?_
 clear hst
 intro w hst
 obtain ⟨b5263, w5264, ew5265, eb5266, hst⟩ := hst.box [v5238, v5231, Zs, Zs, v5166, Zs] 73
 refine we_run (v := Pt b5263 0) (w' := w5264) z (x_al (by kernel_rfl) ew5265 eb5266) ?_
 refine ws_next (pend' := []) hst (by kernel_rfl) pk_nil ?_
 refine ws_e1 9 (by kernel_rfl) ?_
 refine nxe [] (by kernel_rfl) z z ?_
 clear hst
 intro w hst
 replace hst := hst.pull1
 obtain ⟨w5268, hr5269, hst⟩ := hst.by_ [Pt b5263 0] 0 (Pt b5263 0) sizeOf60 z (oC z oN) (by kernel_rfl)
 refine we_unit z (x_unit hr5269) ?_
 refine ws_next (pend' := []) hst (by kernel_rfl) pk_nil ?_
 refine ws_nil ?_
 intro w hst
 refine ⟨z, ?_⟩
 replace hst := hst.own_nil (tySl (tyInt .i64))
 replace hst := hst.own_nil (tySl (tyInt .i64))
 replace hst := hst.own_nil (tyInt .i64)
 replace hst := hst.pull7.pull2.pull3.pull7.pull7.pull7
 replace hst := at_label_Lattice_close (pv := Pt b5263 0) (x := ({ up := t4814, down := (List.replicate (Int.toNat ((a0).length : Int)) (0:Int)), join := [], meet := [], rank := (List.replicate (Int.toNat ((a0).length : Int)) (0:Int)), all := [] } : label_Lattice)) hst z
 replace hst := hst.pull1.keep2
 obtain rfl := some_inj hm
 exact ⟨({ up := t4814, down := (List.replicate (Int.toNat ((a0).length : Int)) (0:Int)), join := [], meet := [], rank := (List.replicate (Int.toNat ((a0).length : Int)) (0:Int)), all := [] } : label_Lattice), b5258, (Pt b5263 0), _, hx5498, (fu 0 r0_0 z (fu 4 (.int .i64 ((a0).length : Int)) z (fu 5 (Pt b5258 0) z z))), hst⟩
}
}
 {
 refine nxe [1, 6, 7, 9] (by kernel_rfl) z z ?_
 clear hst
 intro w hst
 obtain ⟨b5270, w5271, ew5272, eb5273, hst⟩ := hst.box [.pointer none] 60
 refine we_run (v := Pt b5270 0) (w' := w5271) z (x_al (by kernel_rfl) ew5272 eb5273) ?_
 refine ws_next (pend' := [(0, r0_0)]) hst (by kernel_rfl) (pkr z z (fun w hst => z) pk_nil) ?_
 refine ws_e1 1 (by kernel_rfl) ?_
 refine nxe [6, 7, 9] (by kernel_rfl) z z ?_
 clear hst
 intro w hst
 refine wec call44 [r0_0] z z ?_
 refine (slices_Clone_uint64_uint64_ref (f0_0.mono (rd_weak _)) hst.to0 ht4815).mono ?_
 rintro _ w5275 ⟨v5278, rfl, hst⟩
 refine ⟨_, z, ?_⟩
 replace hst := hst.of1
 refine ws_next (pend' := []) hst (by kernel_rfl) pk_nil ?_
 refine wsr (.agg #[v5278, v5231, Zs, Zs, v5166, Zs]) 6 rfl rfl rfl (by kernel_rfl) (fun w hst => by obtain ⟨_, _, hv_, _⟩ := hst.sv3; rw [hv_]; obtain ⟨_, _, hv_, _⟩ := hst.sv2; rw [hv_]; obtain ⟨_, _, hv_, _⟩ := hst.sv0; rw [hv_]; kernel_rfl) ?_
 refine ws_e1 7 (by kernel_rfl) ?_
 refine nxe [9] (by kernel_rfl) z z ?_
 clear hst
 intro w hst
 obtain ⟨b5286, w5287, ew5288, eb5289, hst⟩ := hst.box [v5278, v5231, Zs, Zs, v5166, Zs] 73
 refine we_run (v := Pt b5286 0) (w' := w5287) z (x_al (by kernel_rfl) ew5288 eb5289) ?_
 refine ws_next (pend' := []) hst (by kernel_rfl) pk_nil ?_
 refine ws_e1 9 (by kernel_rfl) ?_
 refine nxe [] (by kernel_rfl) z z ?_
 clear hst
 intro w hst
 replace hst := hst.pull2
 obtain ⟨w5291, hr5292, hst⟩ := hst.by_ [Pt b5286 0] 0 (Pt b5286 0) sizeOf60 z (oC z oN) (by kernel_rfl)
 refine we_unit z (x_unit hr5292) ?_
 refine ws_next (pend' := []) hst (by kernel_rfl) pk_nil ?_
 refine ws_nil ?_
 intro w hst
 refine ⟨z, ?_⟩
 replace hst := hst.own_nil (tySl (tyInt .i64))
 replace hst := hst.own_nil (tySl (tyInt .i64))
 replace hst := hst.own_nil (tyInt .i64)
 replace hst := hst.pull7.pull2.pull3.pull7.pull7.pull7
 replace hst := at_label_Lattice_close (pv := Pt b5286 0) (x := ({ up := t4814, down := (List.replicate (Int.toNat ((a0).length : Int)) (0:Int)), join := [], meet := [], rank := (List.replicate (Int.toNat ((a0).length : Int)) (0:Int)), all := [] } : label_Lattice)) hst z
 replace hst := hst.pull1.keep2
 obtain rfl := some_inj hm
 exact ⟨({ up := t4814, down := (List.replicate (Int.toNat ((a0).length : Int)) (0:Int)), join := [], meet := [], rank := (List.replicate (Int.toNat ((a0).length : Int)) (0:Int)), all := [] } : label_Lattice), b5270, (Pt b5286 0), _, hx5498, (fu 0 r0_0 z (fu 4 (.int .i64 ((a0).length : Int)) z (fu 5 (Pt b5270 0) z z))), hst⟩
}
}
 {
 refine nxe [1, 3, 6, 7, 9] (by kernel_rfl) z z ?_
 clear hst
 intro w hst
 obtain ⟨b5293, w5294, ew5295, eb5296, hst⟩ := hst.box [.pointer none] 60
 refine we_run (v := Pt b5293 0) (w' := w5294) z (x_al (by kernel_rfl) ew5295 eb5296) ?_
 refine ws_next (pend' := [(2, I6 ((a0).length : Int)), (0, r0_0)]) hst (by kernel_rfl) (pkr z z (fun w hst => z) (pkr z z (fun w hst => z) pk_nil)) ?_
 refine ws_e2 1 3 (by kernel_rfl) ?_ ?_
 {
 refine nxe [3, 6, 7, 9] (by kernel_rfl) z z ?_
 clear hst
 intro w hst
 refine wec call44 [r0_0] z z ?_
 refine (slices_Clone_uint64_uint64_ref (f0_0.mono (rd_weak _)) hst.to0 ht4815).mono ?_
 rintro _ w5298 ⟨v5301, rfl, hst⟩
 refine ⟨_, z, ?_⟩
 replace hst := hst.of1
 refine ws_next (pend' := [(2, I6 ((a0).length : Int))]) hst (by kernel_rfl) (pkr z z (fun w hst => z) pk_nil) ?_
 refine ws_e1 3 (by kernel_rfl) ?_
 refine nxe [6, 7, 9] (by kernel_rfl) z z ?_
 clear hst
 intro w hst
 obtain ⟨v5303, w5304, hr5305, hst⟩ := run_mk (k := .i64) (k' := .i64) (zm := (0:Int)) elem_25 hst hg4816 (by decide) z
 refine we_run (v := v5303) (w' := w5304) z (x_make z z hr5305) ?_
 refine ws_next (pend' := []) hst (by kernel_rfl) pk_nil ?_
 refine wsr (.agg #[v5301, v5303, Zs, Zs, v5166, Zs]) 6 rfl rfl rfl (by kernel_rfl) (fun w hst => by obtain ⟨_, _, hv_, _⟩ := hst.sv3; rw [hv_]; obtain ⟨_, _, hv_, _⟩ := hst.sv0; rw [hv_]; obtain ⟨_, _, hv_, _⟩ := hst.sv1; rw [hv_]; kernel_rfl) ?_
 refine ws_e1 7 (by kernel_rfl) ?_
 refine nxe [9] (by kernel_rfl) z z ?_
 clear hst
 intro w hst
 obtain ⟨b5313, w5314, ew5315, eb5316, hst⟩ := hst.box [v5301, v5303, Zs, Zs, v5166, Zs] 73
 refine we_run (v := Pt b5313 0) (w' := w5314) z (x_al (by kernel_rfl) ew5315 eb5316) ?_
 refine ws_next (pend' := []) hst (by kernel_rfl) pk_nil ?_
 refine ws_e1 9 (by kernel_rfl) ?_
 refine nxe [] (by kernel_rfl) z z ?_
 clear hst
 intro w hst
 replace hst := hst.pull3
 obtain ⟨w5318, hr5319, hst⟩ := hst.by_ [Pt b5313 0] 0 (Pt b5313 0) sizeOf60 z (oC z oN) (by kernel_rfl)
 refine we_unit z (x_unit hr5319) ?_
 refine ws_next (pend' := []) hst (by kernel_rfl) pk_nil ?_
 refine ws_nil ?_
 intro w hst
 refine ⟨z, ?_⟩
 replace hst := hst.own_nil (tySl (tyInt .i64))
 replace hst := hst.own_nil (tySl (tyInt .i64))
 replace hst := hst.own_nil (tyInt .i64)
 replace hst := hst.pull7.pull2.pull3.pull6.pull7.pull7
 replace hst := at_label_Lattice_close (pv := Pt b5313 0) (x := ({ up := t4814, down := (List.replicate (Int.toNat ((a0).length : Int)) (0:Int)), join := [], meet := [], rank := (List.replicate (Int.toNat ((a0).length : Int)) (0:Int)), all := [] } : label_Lattice)) hst z
 replace hst := hst.pull1.keep2
 obtain rfl := some_inj hm
 exact ⟨({ up := t4814, down := (List.replicate (Int.toNat ((a0).length : Int)) (0:Int)), join := [], meet := [], rank := (List.replicate (Int.toNat ((a0).length : Int)) (0:Int)), all := [] } : label_Lattice), b5293, (Pt b5313 0), _, hx5498, (fu 0 r0_0 z (fu 4 (.int .i64 ((a0).length : Int)) z (fu 5 (Pt b5293 0) z z))), hst⟩
}
 {
 refine nxe [1, 6, 7, 9] (by kernel_rfl) z z ?_
 clear hst
 intro w hst
 obtain ⟨v5320, w5321, hr5322, hst⟩ := run_mk (k := .i64) (k' := .i64) (zm := (0:Int)) elem_25 hst hg4816 (by decide) z
 refine we_run (v := v5320) (w' := w5321) z (x_make z z hr5322) ?_
 refine ws_next (pend' := [(0, r0_0)]) hst (by kernel_rfl) (pkr z z (fun w hst => z) pk_nil) ?_
 refine ws_e1 1 (by kernel_rfl) ?_
 refine nxe [6, 7, 9] (by kernel_rfl) z z ?_
 clear hst
 intro w hst
 refine wec call44 [r0_0] z z ?_
 refine (slices_Clone_uint64_uint64_ref (f0_0.mono (rd_weak _)) hst.to0 ht4815).mono ?_
 rintro _ w5324 ⟨v5327, rfl, hst⟩
 refine ⟨_, z, ?_⟩
 replace hst := hst.of1
 refine ws_next (pend' := []) hst (by kernel_rfl) pk_nil ?_
 refine wsr (.agg #[v5327, v5320, Zs, Zs, v5166, Zs]) 6 rfl rfl rfl (by kernel_rfl) (fun w hst => by obtain ⟨_, _, hv_, _⟩ := hst.sv3; rw [hv_]; obtain ⟨_, _, hv_, _⟩ := hst.sv1; rw [hv_]; obtain ⟨_, _, hv_, _⟩ := hst.sv0; rw [hv_]; kernel_rfl) ?_
 refine ws_e1 7 (by kernel_rfl) ?_
 refine nxe [9] (by kernel_rfl) z z ?_
 clear hst
 intro w hst
 obtain ⟨b5335, w5336, ew5337, eb5338, hst⟩ := hst.box [v5327, v5320, Zs, Zs, v5166, Zs] 73
 refine we_run (v := Pt b5335 0) (w' := w5336) z (x_al (by kernel_rfl) ew5337 eb5338) ?_
 refine ws_next (pend' := []) hst (by kernel_rfl) pk_nil ?_
 refine ws_e1 9 (by kernel_rfl) ?_
 refine nxe [] (by kernel_rfl) z z ?_
 clear hst
 intro w hst
 replace hst := hst.pull3
 obtain ⟨w5340, hr5341, hst⟩ := hst.by_ [Pt b5335 0] 0 (Pt b5335 0) sizeOf60 z (oC z oN) (by kernel_rfl)
 refine we_unit z (x_unit hr5341) ?_
 refine ws_next (pend' := []) hst (by kernel_rfl) pk_nil ?_
 refine ws_nil ?_
 intro w hst
 refine ⟨z, ?_⟩
 replace hst := hst.own_nil (tySl (tyInt .i64))
 replace hst := hst.own_nil (tySl (tyInt .i64))
 replace hst := hst.own_nil (tyInt .i64)
 replace hst := hst.pull7.pull2.pull3.pull7.pull7.pull7
 replace hst := at_label_Lattice_close (pv := Pt b5335 0) (x := ({ up := t4814, down := (List.replicate (Int.toNat ((a0).length : Int)) (0:Int)), join := [], meet := [], rank := (List.replicate (Int.toNat ((a0).length : Int)) (0:Int)), all := [] } : label_Lattice)) hst z
 replace hst := hst.pull1.keep2
 obtain rfl := some_inj hm
 exact ⟨({ up := t4814, down := (List.replicate (Int.toNat ((a0).length : Int)) (0:Int)), join := [], meet := [], rank := (List.replicate (Int.toNat ((a0).length : Int)) (0:Int)), all := [] } : label_Lattice), b5293, (Pt b5335 0), _, hx5498, (fu 0 r0_0 z (fu 4 (.int .i64 ((a0).length : Int)) z (fu 5 (Pt b5293 0) z z))), hst⟩
}
}
}
 {
 refine nxe [1, 3, 5, 6, 7, 9] (by kernel_rfl) z z ?_
 clear hst
 intro w hst
 obtain ⟨b5342, w5343, ew5344, eb5345, hst⟩ := hst.box [.pointer none] 60
 refine we_run (v := Pt b5342 0) (w' := w5343) z (x_al (by kernel_rfl) ew5344 eb5345) ?_
 refine ws_next (pend' := [(4, I6 ((a0).length : Int)), (2, I6 ((a0).length : Int)), (0, r0_0)]) hst (by kernel_rfl) (pkr z z (fun w hst => z) (pkr z z (fun w hst => z) (pkr z z (fun w hst => z) pk_nil))) ?_
 refine ws_e3 1 3 5 (by kernel_rfl) ?_ ?_ ?_
 {
 refine nxe [3, 5, 6, 7, 9] (by kernel_rfl) z z ?_
 clear hst
 intro w hst
 refine wec call44 [r0_0] z z ?_
 refine (slices_Clone_uint64_uint64_ref (f0_0.mono (rd_weak _)) hst.to0 ht4815).mono ?_
 rintro _ w5347 ⟨v5350, rfl, hst⟩
 refine ⟨_, z, ?_⟩
 replace hst := hst.of1
 refine ws_next (pend' := [(4, I6 ((a0).length : Int)), (2, I6 ((a0).length : Int))]) hst (by kernel_rfl) (pkr z z (fun w hst => z) (pkr z z (fun w hst => z) pk_nil)) ?_
 refine ws_e2 3 5 (by kernel_rfl) ?_ ?_
 {
 refine nxe [5, 6, 7, 9] (by kernel_rfl) z z ?_
 clear hst
 intro w hst
 obtain ⟨v5352, w5353, hr5354, hst⟩ := run_mk (k := .i64) (k' := .i64) (zm := (0:Int)) elem_25 hst hg4816 (by decide) z
 refine we_run (v := v5352) (w' := w5353) z (x_make z z hr5354) ?_
 refine ws_next (pend' := [(4, I6 ((a0).length : Int))]) hst (by kernel_rfl) (pkr z z (fun w hst => z) pk_nil) ?_
 refine ws_e1 5 (by kernel_rfl) ?_
 refine nxe [6, 7, 9] (by kernel_rfl) z z ?_
 clear hst
 intro w hst
 obtain ⟨v5356, w5357, hr5358, hst⟩ := run_mk (k := .i64) (k' := .i64) (zm := (0:Int)) elem_46 hst hg4817 (by decide) z
 refine we_run (v := v5356) (w' := w5357) z (x_make z z hr5358) ?_
 refine ws_next (pend' := []) hst (by kernel_rfl) pk_nil ?_
 refine wsr (.agg #[v5350, v5352, Zs, Zs, v5356, Zs]) 6 rfl rfl rfl (by kernel_rfl) (fun w hst => by obtain ⟨_, _, hv_, _⟩ := hst.sv0; rw [hv_]; obtain ⟨_, _, hv_, _⟩ := hst.sv1; rw [hv_]; obtain ⟨_, _, hv_, _⟩ := hst.sv2; rw [hv_]; kernel_rfl) ?_
 refine ws_e1 7 (by kernel_rfl) ?_
 refine nxe [9] (by kernel_rfl) z z ?_
 clear hst
 intro w hst
 obtain ⟨b5366, w5367, ew5368, eb5369, hst⟩ := hst.box [v5350, v5352, Zs, Zs, v5356, Zs] 73
 refine we_run (v := Pt b5366 0) (w' := w5367) z (x_al (by kernel_rfl) ew5368 eb5369) ?_
 refine ws_next (pend' := []) hst (by kernel_rfl) pk_nil ?_
 refine ws_e1 9 (by kernel_rfl) ?_
 refine nxe [] (by kernel_rfl) z z ?_
 clear hst
 intro w hst
 replace hst := hst.pull4
 obtain ⟨w5371, hr5372, hst⟩ := hst.by_ [Pt b5366 0] 0 (Pt b5366 0) sizeOf60 z (oC z oN) (by kernel_rfl)
 refine we_unit z (x_unit hr5372) ?_
 refine ws_next (pend' := []) hst (by kernel_rfl) pk_nil ?_
 refine ws_nil ?_
 intro w hst
 refine ⟨z, ?_⟩
 replace hst := hst.own_nil (tySl (tyInt .i64))
 replace hst := hst.own_nil (tySl (tyInt .i64))
 replace hst := hst.own_nil (tyInt .i64)
 replace hst := hst.pull5.pull2.pull3.pull6.pull7.pull7
 replace hst := at_label_Lattice_close (pv := Pt b5366 0) (x := ({ up := t4814, down := (List.replicate (Int.toNat ((a0).length : Int)) (0:Int)), join := [], meet := [], rank := (List.replicate (Int.toNat ((a0).length : Int)) (0:Int)), all := [] } : label_Lattice)) hst z
 replace hst := hst.pull1.keep2
 obtain rfl := some_inj hm
 exact ⟨({ up := t4814, down := (List.replicate (Int.toNat ((a0).length : Int)) (0:Int)), join := [], meet := [], rank := (List.replicate (Int.toNat ((a0).length : Int)) (0:Int)), all := [] } : label_Lattice), b5342, (Pt b5366 0), _, hx5498, (fu 0 r0_0 z (fu 4 (.int .i64 ((a0).length : Int)) z (fu 5 (Pt b5342 0) z z))), hst⟩
}
 {
 refine nxe [3, 6, 7, 9] (by kernel_rfl) z z ?_
 clear hst
 intro w hst
 obtain ⟨v5373, w5374, hr5375, hst⟩ := run_mk (k := .i64) (k' := .i64) (zm := (0:Int)) elem_46 hst hg4817 (by decide) z
 refine we_run (v := v5373) (w' := w5374) z (x_make z z hr5375) ?_
 refine ws_next (pend' := [(2, I6 ((a0).length : Int))]) hst (by kernel_rfl) (pkr z z (fun w hst => z) pk_nil) ?_
 refine ws_e1 3 (by kernel_rfl) ?_
 refine nxe [6, 7, 9] (by kernel_rfl) z z ?_
 clear hst
 intro w hst
 obtain ⟨v5377, w5378, hr5379, hst⟩ := run_mk (k := .i64) (k' := .i64) (zm := (0:Int)) elem_25 hst hg4816 (by decide) z
 refine we_run (v := v5377) (w' := w5378) z (x_make z z hr5379) ?_
 refine ws_next (pend' := []) hst (by kernel_rfl) pk_nil ?_
 refine wsr (.agg #[v5350, v5377, Zs, Zs, v5373, Zs]) 6 rfl rfl rfl (by kernel_rfl) (fun w hst => by obtain ⟨_, _, hv_, _⟩ := hst.sv1; rw [hv_]; obtain ⟨_, _, hv_, _⟩ := hst.sv0; rw [hv_]; obtain ⟨_, _, hv_, _⟩ := hst.sv2; rw [hv_]; kernel_rfl) ?_
 refine ws_e1 7 (by kernel_rfl) ?_
 refine nxe [9] (by kernel_rfl) z z ?_
 clear hst
 intro w hst
 obtain ⟨b5387, w5388, ew5389, eb5390, hst⟩ := hst.box [v5350, v5377, Zs, Zs, v5373, Zs] 73
 refine we_run (v := Pt b5387 0) (w' := w5388) z (x_al (by kernel_rfl) ew5389 eb5390) ?_
 refine ws_next (pend' := []) hst (by kernel_rfl) pk_nil ?_
 refine ws_e1 9 (by kernel_rfl) ?_
 refine nxe [] (by kernel_rfl) z z ?_
 clear hst
 intro w hst
 replace hst := hst.pull4
 obtain ⟨w5392, hr5393, hst⟩ := hst.by_ [Pt b5387 0] 0 (Pt b5387 0) sizeOf60 z (oC z oN) (by kernel_rfl)
 refine we_unit z (x_unit hr5393) ?_
 refine ws_next (pend' := []) hst (by kernel_rfl) pk_nil ?_
 refine ws_nil ?_
 intro w hst
 refine ⟨z, ?_⟩
 replace hst := hst.own_nil (tySl (tyInt .i64))
 replace hst := hst.own_nil (tySl (tyInt .i64))
 replace hst := hst.own_nil (tyInt .i64)
 replace hst := hst.pull6.pull2.pull3.pull6.pull7.pull7
 replace hst := at_label_Lattice_close (pv := Pt b5387 0) (x := ({ up := t4814, down := (List.replicate (Int.toNat ((a0).length : Int)) (0:Int)), join := [], meet := [], rank := (List.replicate (Int.toNat ((a0).length : Int)) (0:Int)), all := [] } : label_Lattice)) hst z
 replace hst := hst.pull1.keep2
 obtain rfl := some_inj hm
 exact ⟨({ up := t4814, down := (List.replicate (Int.toNat ((a0).length : Int)) (0:Int)), join := [], meet := [], rank := (List.replicate (Int.toNat ((a0).length : Int)) (0:Int)), all := [] } : label_Lattice), b5342, (Pt b5387 0), _, hx5498, (fu 0 r0_0 z (fu 4 (.int .i64 ((a0).length : Int)) z (fu 5 (Pt b5342 0) z z))), hst⟩
}
}
 {
 refine nxe [1, 5, 6, 7, 9] (by kernel_rfl) z z ?_
 clear hst
 intro w hst
 obtain ⟨v5394, w5395, hr5396, hst⟩ := run_mk (k := .i64) (k' := .i64) (zm := (0:Int)) elem_25 hst hg4816 (by decide) z
 refine we_run (v := v5394) (w' := w5395) z (x_make z z hr5396) ?_
 refine ws_next (pend' := [(4, I6 ((a0).length : Int)), (0, r0_0)]) hst (by kernel_rfl) (pkr z z (fun w hst => z) (pkr z z (fun w hst => z) pk_nil)) ?_
 refine ws_e2 1 5 (by kernel_rfl) ?_ ?_
 {
 refine nxe [5, 6, 7, 9] (by kernel_rfl) z z ?_
 clear hst
 intro w hst
 refine wec call44 [r0_0] z z ?_
 refine (slices_Clone_uint64_uint64_ref (f0_0.mono (rd_weak _)) hst.to0 ht4815).mono ?_
 rintro _ w5398 ⟨v5401, rfl, hst⟩
 refine ⟨_, z, ?_⟩
 replace hst := hst.of1
 refine ws_next (pend' := [(4, I6 ((a0).length : Int))]) hst (by kernel_rfl) (pkr z z (fun w hst => z) pk_nil) ?_
 refine ws_e1 5 (by kernel_rfl) ?_
 refine nxe [6, 7, 9] (by kernel_rfl) z z ?_
 clear hst
 intro w hst
 obtain ⟨v5403, w5404, hr5405, hst⟩ := run_mk (k := .i64) (k' := .i64) (zm := (0:Int)) elem_46 hst hg4817 (by decide) z
 refine we_run (v := v5403) (w' := w5404) z (x_make z z hr5405) ?_
 refine ws_next (pend' := []) hst (by kernel_rfl) pk_nil ?_
 refine wsr (.agg #[v5401, v5394, Zs, Zs, v5403, Zs]) 6 rfl rfl rfl (by kernel_rfl) (fun w hst => by obtain ⟨_, _, hv_, _⟩ := hst.sv0; rw [hv_]; obtain ⟨_, _, hv_, _⟩ := hst.sv2; rw [hv_]; obtain ⟨_, _, hv_, _⟩ := hst.sv1; rw [hv_]; kernel_rfl) ?_
 refine ws_e1 7 (by kernel_rfl) ?_
 refine nxe [9] (by kernel_rfl) z z ?_
 clear hst
 intro w hst
 obtain ⟨b5413, w5414, ew5415, eb5416, hst⟩ := hst.box [v5401, v5394, Zs, Zs, v5403, Zs] 73
 refine we_run (v := Pt b5413 0) (w' := w5414) z (x_al (by kernel_rfl) ew5415 eb5416) ?_
 refine ws_next (pend' := []) hst (by kernel_rfl) pk_nil ?_
 refine ws_e1 9 (by kernel_rfl) ?_
 refine nxe [] (by kernel_rfl) z z ?_
 clear hst
 intro w hst
 replace hst := hst.pull4
 obtain ⟨w5418, hr5419, hst⟩ := hst.by_ [Pt b5413 0] 0 (Pt b5413 0) sizeOf60 z (oC z oN) (by kernel_rfl)
 refine we_unit z (x_unit hr5419) ?_
 refine ws_next (pend' := []) hst (by kernel_rfl) pk_nil ?_
 refine ws_nil ?_
 intro w hst
 refine ⟨z, ?_⟩
 replace hst := hst.own_nil (tySl (tyInt .i64))
 replace hst := hst.own_nil (tySl (tyInt .i64))
 replace hst := hst.own_nil (tyInt .i64)
 replace hst := hst.pull5.pull2.pull3.pull7.pull7.pull7
 replace hst := at_label_Lattice_close (pv := Pt b5413 0) (x := ({ up := t4814, down := (List.replicate (Int.toNat ((a0).length : Int)) (0:Int)), join := [], meet := [], rank := (List.replicate (Int.toNat ((a0).length : Int)) (0:Int)), all := [] } : label_Lattice)) hst z
 replace hst := hst.pull1.keep2
 obtain rfl := some_inj hm
 exact ⟨({ up := t4814, down := (List.replicate (Int.toNat ((a0).length : Int)) (0:Int)), join := [], meet := [], rank := (List.replicate (Int.toNat ((a0).length : Int)) (0:Int)), all := [] } : label_Lattice), b5342, (Pt b5413 0), _, hx5498, (fu 0 r0_0 z (fu 4 (.int .i64 ((a0).length : Int)) z (fu 5 (Pt b5342 0) z z))), hst⟩
}
 {
 refine nxe [1, 6, 7, 9] (by kernel_rfl) z z ?_
 clear hst
 intro w hst
 obtain ⟨v5420, w5421, hr5422, hst⟩ := run_mk (k := .i64) (k' := .i64) (zm := (0:Int)) elem_46 hst hg4817 (by decide) z
 refine we_run (v := v5420) (w' := w5421) z (x_make z z hr5422) ?_
 refine ws_next (pend' := [(0, r0_0)]) hst (by kernel_rfl) (pkr z z (fun w hst => z) pk_nil) ?_
 refine ws_e1 1 (by kernel_rfl) ?_
 refine nxe [6, 7, 9] (by kernel_rfl) z z ?_
 clear hst
 intro w hst
 refine wec call44 [r0_0] z z ?_
 refine (slices_Clone_uint64_uint64_ref (f0_0.mono (rd_weak _)) hst.to0 ht4815).mono ?_
 rintro _ w5424 ⟨v5427, rfl, hst⟩
 refine ⟨_, z, ?_⟩
 replace hst := hst.of1
 refine ws_next (pend' := []) hst (by kernel_rfl) pk_nil ?_
 refine wsr (.agg #[v5427, v5394, Zs, Zs, v5420, Zs]) 6 rfl rfl rfl (by kernel_rfl) (fun w hst => by obtain ⟨_, _, hv_, _⟩ := hst.sv1; rw [hv_]; obtain ⟨_, _, hv_, _⟩ := hst.sv2; rw [hv_]; obtain ⟨_, _, hv_, _⟩ := hst.sv0; rw [hv_]; kernel_rfl) ?_
 refine ws_e1 7 (by kernel_rfl) ?_
 refine nxe [9] (by kernel_rfl) z z ?_
 clear hst
 intro w hst
 obtain ⟨b5435, w5436, ew5437, eb5438, hst⟩ := hst.box [v5427, v5394, Zs, Zs, v5420, Zs] 73
 refine we_run (v := Pt b5435 0) (w' := w5436) z (x_al (by kernel_rfl) ew5437 eb5438) ?_
 refine ws_next (pend' := []) hst (by kernel_rfl) pk_nil ?_
 refine ws_e1 9 (by kernel_rfl) ?_
 refine nxe [] (by kernel_rfl) z z ?_
 clear hst
 intro w hst
 replace hst := hst.pull4
 obtain ⟨w5440, hr5441, hst⟩ := hst.by_ [Pt b5435 0] 0 (Pt b5435 0) sizeOf60 z (oC z oN) (by kernel_rfl)
 refine we_unit z (x_unit hr5441) ?_
 refine ws_next (pend' := []) hst (by kernel_rfl) pk_nil ?_
 refine ws_nil ?_
 intro w hst
 refine ⟨z, ?_⟩
 replace hst := hst.own_nil (tySl (tyInt .i64))
 replace hst := hst.own_nil (tySl (tyInt .i64))
 replace hst := hst.own_nil (tyInt .i64)
 replace hst := hst.pull6.pull2.pull3.pull7.pull7.pull7
 replace hst := at_label_Lattice_close (pv := Pt b5435 0) (x := ({ up := t4814, down := (List.replicate (Int.toNat ((a0).length : Int)) (0:Int)), join := [], meet := [], rank := (List.replicate (Int.toNat ((a0).length : Int)) (0:Int)), all := [] } : label_Lattice)) hst z
 replace hst := hst.pull1.keep2
 obtain rfl := some_inj hm
 exact ⟨({ up := t4814, down := (List.replicate (Int.toNat ((a0).length : Int)) (0:Int)), join := [], meet := [], rank := (List.replicate (Int.toNat ((a0).length : Int)) (0:Int)), all := [] } : label_Lattice), b5342, (Pt b5435 0), _, hx5498, (fu 0 r0_0 z (fu 4 (.int .i64 ((a0).length : Int)) z (fu 5 (Pt b5342 0) z z))), hst⟩
}
}
 {
 refine nxe [1, 3, 6, 7, 9] (by kernel_rfl) z z ?_
 clear hst
 intro w hst
 obtain ⟨v5442, w5443, hr5444, hst⟩ := run_mk (k := .i64) (k' := .i64) (zm := (0:Int)) elem_46 hst hg4817 (by decide) z
 refine we_run (v := v5442) (w' := w5443) z (x_make z z hr5444) ?_
 refine ws_next (pend' := [(2, I6 ((a0).length : Int)), (0, r0_0)]) hst (by kernel_rfl) (pkr z z (fun w hst => z) (pkr z z (fun w hst => z) pk_nil)) ?_
 refine ws_e2 1 3 (by kernel_rfl) ?_ ?_
 {
 refine nxe [3, 6, 7, 9] (by kernel_rfl) z z ?_
 clear hst
 intro w hst
 refine wec call44 [r0_0] z z ?_
 refine (slices_Clone_uint64_uint64_ref (f0_0.mono (rd_weak _)) hst.to0 ht4815).mono ?_
 rintro _ w5446 ⟨v5449, rfl, hst⟩
 refine ⟨_, z, ?_⟩
 replace hst := hst.of1
 refine ws_next (pend' := [(2, I6 ((a0).length : Int))]) hst (by kernel_rfl) (pkr z z (fun w hst => z) pk_nil) ?_
 refine ws_e1 3 (by kernel_rfl) ?_
 refine nxe [6, 7, 9] (by kernel_rfl) z z ?_
 clear hst
 intro w hst
 obtain ⟨v5451, w5452, hr5453, hst⟩ := run_mk (k := .i64) (k' := .i64) (zm := (0:Int)) elem_25 hst hg4816 (by decide) z
 refine we_run (v := v5451) (w' := w5452) z (x_make z z hr5453) ?_
 refine ws_next (pend' := []) hst (by kernel_rfl) pk_nil ?_
 refine wsr (.agg #[v5449, v5451, Zs, Zs, v5442, Zs]) 6 rfl rfl rfl (by kernel_rfl) (fun w hst => by obtain ⟨_, _, hv_, _⟩ := hst.sv2; rw [hv_]; obtain ⟨_, _, hv_, _⟩ := hst.sv0; rw [hv_]; obtain ⟨_, _, hv_, _⟩ := hst.sv1; rw [hv_]; kernel_rfl) ?_
 refine ws_e1 7 (by kernel_rfl) ?_
 refine nxe [9] (by kernel_rfl) z z ?_
 clear hst
 intro w hst
 obtain ⟨b5461, w5462, ew5463, eb5464, hst⟩ := hst.box [v5449, v5451, Zs, Zs, v5442, Zs] 73
 refine we_run (v := Pt b5461 0) (w' := w5462) z (x_al (by kernel_rfl) ew5463 eb5464) ?_
 refine ws_next (pend' := []) hst (by kernel_rfl) pk_nil ?_
 refine ws_e1 9 (by kernel_rfl) ?_
 refine nxe [] (by kernel_rfl) z z ?_
 clear hst
 intro w hst
 replace hst := hst.pull4
 obtain ⟨w5466, hr5467, hst⟩ := hst.by_ [Pt b5461 0] 0 (Pt b5461 0) sizeOf60 z (oC z oN) (by kernel_rfl)
 refine we_unit z (x_unit hr5467) ?_
 refine ws_next (pend' := []) hst (by kernel_rfl) pk_nil ?_
 refine ws_nil ?_
 intro w hst
 refine ⟨z, ?_⟩
 replace hst := hst.own_nil (tySl (tyInt .i64))
 replace hst := hst.own_nil (tySl (tyInt .i64))
 replace hst := hst.own_nil (tyInt .i64)
 replace hst := hst.pull7.pull2.pull3.pull6.pull7.pull7
 replace hst := at_label_Lattice_close (pv := Pt b5461 0) (x := ({ up := t4814, down := (List.replicate (Int.toNat ((a0).length : Int)) (0:Int)), join := [], meet := [], rank := (List.replicate (Int.toNat ((a0).length : Int)) (0:Int)), all := [] } : label_Lattice)) hst z
 replace hst := hst.pull1.keep2
 obtain rfl := some_inj hm
 exact ⟨({ up := t4814, down := (List.replicate (Int.toNat ((a0).length : Int)) (0:Int)), join := [], meet := [], rank := (List.replicate (Int.toNat ((a0).length : Int)) (0:Int)), all := [] } : label_Lattice), b5342, (Pt b5461 0), _, hx5498, (fu 0 r0_0 z (fu 4 (.int .i64 ((a0).length : Int)) z (fu 5 (Pt b5342 0) z z))), hst⟩
}
 {
 refine nxe [1, 6, 7, 9] (by kernel_rfl) z z ?_
 clear hst
 intro w hst
 obtain ⟨v5468, w5469, hr5470, hst⟩ := run_mk (k := .i64) (k' := .i64) (zm := (0:Int)) elem_25 hst hg4816 (by decide) z
 refine we_run (v := v5468) (w' := w5469) z (x_make z z hr5470) ?_
 refine ws_next (pend' := [(0, r0_0)]) hst (by kernel_rfl) (pkr z z (fun w hst => z) pk_nil) ?_
 refine ws_e1 1 (by kernel_rfl) ?_
 refine nxe [6, 7, 9] (by kernel_rfl) z z ?_
 clear hst
 intro w hst
 refine wec call44 [r0_0] z z ?_
 refine (slices_Clone_uint64_uint64_ref (f0_0.mono (rd_weak _)) hst.to0 ht4815).mono ?_
 rintro _ w5472 ⟨v5475, rfl, hst⟩
 refine ⟨_, z, ?_⟩
 replace hst := hst.of1
 refine ws_next (pend' := []) hst (by kernel_rfl) pk_nil ?_
 refine wsr (.agg #[v5475, v5468, Zs, Zs, v5442, Zs]) 6 rfl rfl rfl (by kernel_rfl) (fun w hst => by obtain ⟨_, _, hv_, _⟩ := hst.sv2; rw [hv_]; obtain ⟨_, _, hv_, _⟩ := hst.sv1; rw [hv_]; obtain ⟨_, _, hv_, _⟩ := hst.sv0; rw [hv_]; kernel_rfl) ?_
 refine ws_e1 7 (by kernel_rfl) ?_
 refine nxe [9] (by kernel_rfl) z z ?_
 clear hst
 intro w hst
 obtain ⟨b5483, w5484, ew5485, eb5486, hst⟩ := hst.box [v5475, v5468, Zs, Zs, v5442, Zs] 73
 refine we_run (v := Pt b5483 0) (w' := w5484) z (x_al (by kernel_rfl) ew5485 eb5486) ?_
 refine ws_next (pend' := []) hst (by kernel_rfl) pk_nil ?_
 refine ws_e1 9 (by kernel_rfl) ?_
 refine nxe [] (by kernel_rfl) z z ?_
 clear hst
 intro w hst
 replace hst := hst.pull4
 obtain ⟨w5488, hr5489, hst⟩ := hst.by_ [Pt b5483 0] 0 (Pt b5483 0) sizeOf60 z (oC z oN) (by kernel_rfl)
 refine we_unit z (x_unit hr5489) ?_
 refine ws_next (pend' := []) hst (by kernel_rfl) pk_nil ?_
 refine ws_nil ?_
 intro w hst
 refine ⟨z, ?_⟩
 replace hst := hst.own_nil (tySl (tyInt .i64))
 replace hst := hst.own_nil (tySl (tyInt .i64))
 replace hst := hst.own_nil (tyInt .i64)
 replace hst := hst.pull7.pull2.pull3.pull7.pull7.pull7
 replace hst := at_label_Lattice_close (pv := Pt b5483 0) (x := ({ up := t4814, down := (List.replicate (Int.toNat ((a0).length : Int)) (0:Int)), join := [], meet := [], rank := (List.replicate (Int.toNat ((a0).length : Int)) (0:Int)), all := [] } : label_Lattice)) hst z
 replace hst := hst.pull1.keep2
 obtain rfl := some_inj hm
 exact ⟨({ up := t4814, down := (List.replicate (Int.toNat ((a0).length : Int)) (0:Int)), join := [], meet := [], rank := (List.replicate (Int.toNat ((a0).length : Int)) (0:Int)), all := [] } : label_Lattice), b5342, (Pt b5483 0), _, hx5498, (fu 0 r0_0 z (fu 4 (.int .i64 ((a0).length : Int)) z (fu 5 (Pt b5342 0) z z))), hst⟩
}
}
}
}
 {
 clear hst
 rintro _ w5499 ⟨z5494, b5491, v5493, σ5495, hm, rfl, hst⟩
 dsimp only [label_New_j0] at hm
 refine tn (wp_seq (wp_seq (wrl (wv (v5493) z z (x_load z isAgg60 (hst.bc0 z)) ?_))))
 replace hst := hst.pull1
 replace hst := objO_some hst
 obtain ⟨t5500, ht5501, hm⟩ := bind_some hm
 refine wc call45 [v5493] z z z ?_
 refine (label_Lattice_orders_ref hst.to1 ht5501).mono ?_
 rintro _ w5502 ⟨rfl, hst⟩
 refine ⟨_, z, ?_⟩
 replace hst := hst.of1
 replace hst := objO_get hst
 refine wv (.bool (!t5500)) z z z (wl_nil (tn ?_))
 refine bsplit (!t5500) (fun hc5505 => ?_) (fun hc5505 => ?_)
 {
 replace hm := bif_t hc5505 hm
 refine wp_ift (cvb hc5505) ?_
 refine wp_seq (wrl (wv (.pointer none) z z z (wv (.int .i64 (15:Int)) z z z (wl_nil (tn (wp_ret (then_r ?_)))))))
 replace hst := hst.objO_nil at_label_Lattice
 obtain rfl := some_inj hm
 refine post_ret (vs := [.pointer none, I6 (15:Int)]) results34 (rvs_cons (rv_tmp z) (rvs_cons (rv_tmp z) rvs_nil)) ?_
 exact ⟨_, .pointer none, z, hI0, hst.keep1⟩
}
 {
 replace hm := bif_f hc5505 hm
 refine wp_iff (cvb hc5505) ?_
 refine wp_skip (tn ?_)
 obtain ⟨y5803, hm, hx5804⟩ := bind_some hm
 refine wp_cut (fun a w => ∃ (z5800 : label_Lattice) (σ5801 : Nat → Value), (label_New_j1 a0) z5800 = some r ∧ a = Fr 192 (upd (upd σ5801 4 (.int .i64 ((a0).length : Int))) 5 (Pt b5491 0)) ∧ St w0 w I [cells b5491 [v5493], at_label_Lattice v5493 z5800] R) ?_ ?_
 {
 refine wp_seq (wrl (wv (r0_0) z z z (wv (.int .i64 ((a0).length : Int)) z z (x_len z underlying25 (rd_sliceV f0_0)) (wv (.int .i64 (0:Int)) z z z (wl_nil (tn (wp_block ?_)))))))
 obtain ⟨n5698, hm⟩ := loopO_some hm
 refine wp_loop_n (fun n a w => ∃ (z5695 : label_Lattice) (z5696 : Int) (σ5697 : Nat → Value), loopN (label_New_l2 a0) n (z5695, z5696) = some y5803 ∧ a = Fr 192 (upd (upd (upd (upd (upd σ5697 4 (.int .i64 ((a0).length : Int))) 5 (Pt b5491 0)) 38 (r0_0)) 39 (.int .i64 ((a0).length : Int))) 40 (.int .i64 z5696)) ∧ St w0 w I [at_label_Lattice v5493 z5695, cells b5491 [v5493]] R) n5698 ⟨z5494, (0:Int), _, hm, (fu 4 (.int .i64 ((a0).length : Int)) z (fu 5 (Pt b5491 0) z (fu 38 r0_0 z (fu 39 (.int .i64 ((a0).length : Int)) z (fu 40 (.int .i64 (0:Int)) z z))))), hst⟩ ?_
 rintro n5704 _ w5699 ⟨z5695, z5696, σ5697, hm, rfl, hst⟩
 obtain ⟨n5701, y5702, rfl, hm, hx5703⟩ := loopN_some hm
 dsimp only [label_New_l2] at hm
 refine wp_seq (wrl (wv (.bool (decide (z5696 < ((a0).length : Int)))) z z z (wl_nil (tn (wp_seq ?_)))))
 refine bsplit (decide (z5696 < ((a0).length : Int))) (fun hc5705 => ?_) (fun hc5705 => ?_)
 {
 replace hm := bif_t hc5705 hm
 refine wp_ift (cvb hc5705) ?_
 refine wp_skip (tn (wp_seq (wp_block (wp_seq (wrl ?_)))))
 refine wv (.int .i64 z5696) z z z ?_
 obtain ⟨x5706, hx5707, hm⟩ := bind_some hm
 obtain ⟨h5708, h5709, hi5710⟩ := geto_some hx5707
 refine wv (.pointer (some (eAddr r0_0 (z5696.toNat * 1 + 0)))) z z (x_index z z underlying25 sizeOf22 (rd_sliceV f0_0) h5708 h5709) (wv (.int .u64 x5706) z z (x_load z isAgg22 (rd_load f0_0 (HL.le.refl _) hst hi5710 (by rintro _ rfl; rfl))) (wv (.int .i64 z5696) z z z (wv (.int .u64 x5706) z z z (wl_nil (tn (wp_seq (wrl (wv (.int .i64 ((a0).length : Int)) z z z (wv (.int .i64 (0:Int)) z z z (wl_nil (tn (wp_block ?_))))))))))))
 obtain ⟨n5767, hm⟩ := loopO_some hm
 refine wp_loop_n (fun n a w => ∃ (z5764 : label_Lattice) (z5765 : Int) (σ5766 : Nat → Value), loopN (label_New_l3 a0 x5706 z5696) n (z5764, z5765) = some y5702 ∧ a = Fr 192 (upd (upd (upd (upd (upd (upd (upd (upd (upd σ5766 4 (.int .i64 ((a0).length : Int))) 5 (Pt b5491 0)) 6 (.int .i64 z5696)) 7 (.int .u64 x5706)) 38 (r0_0)) 39 (.int .i64 ((a0).length : Int))) 40 (.int .i64 z5696)) 45 (.int .i64 ((a0).length : Int))) 46 (.int .i64 z5765)) ∧ St w0 w I [at_label_Lattice v5493 z5764, cells b5491 [v5493]] R) n5767 ⟨z5695, (0:Int), _, hm, (fu 4 (.int .i64 ((a0).length : Int)) z (fu 5 (Pt b5491 0) z (fu 6 (.int .i64 z5696) z (fu 7 (.int .u64 x5706) z (fu 38 r0_0 z (fu 39 (.int .i64 ((a0).length : Int)) z (fu 40 (.int .i64 z5696) z (fu 45 (.int .i64 ((a0).length : Int)) z (fu 46 (.int .i64 (0:Int)) z z))))))))), hst⟩ ?_
 rintro n5773 _ w5768 ⟨z5764, z5765, σ5766, hm, rfl, hst⟩
 obtain ⟨n5770, y5771, rfl, hm, hx5772⟩ := loopN_some hm
 dsimp only [label_New_l3] at hm
 refine wp_seq (wrl (wv (.bool (decide (z5765 < ((a0).length : Int)))) z z z (wl_nil (tn (wp_seq ?_)))))
 refine bsplit (decide (z5765 < ((a0).length : Int))) (fun hc5774 => ?_) (fun hc5774 => ?_)
 {
 replace hm := bif_t hc5774 hm
 refine wp_ift (cvb hc5774) ?_
 refine wp_skip (tn (wp_seq (wp_block (wp_seq (wrl ?_)))))
 refine wv (.int .i64 z5765) z z z (wv (.int .i64 z5765) z z z (wl_nil (tn (wp_seq (wrl (wv (.int .u64 x5706) z z z (wv (.int .i64 z5765) z z z ?_)))))))
 obtain ⟨hg5775, hm⟩ := gd_some hm
 refine wv (.int .u64 (iShr .u64 x5706 z5765)) z z (x_shr (of_decide_eq_true hg5775) z z) (wv (.int .u64 (bAnd .u64 (iShr .u64 x5706 z5765) (1:Int))) z z z (wv (.bool ((bAnd .u64 (iShr .u64 x5706 z5765) (1:Int)) == (1:Int))) z z z (wl_nil (tn ?_))))
 refine bsplit ((bAnd .u64 (iShr .u64 x5706 z5765) (1:Int)) == (1:Int)) (fun hc5776 => ?_) (fun hc5776 => ?_)
 {
 replace hm := bif_t hc5776 hm
 refine wp_ift (cvb hc5776) ?_
 obtain ⟨b5777, v5778, v5780, v5782, v5784, v5786, v5788, rfl, hst'⟩ := at_label_Lattice_open hst
 clear hst
 have hst := hst'
 clear hst'
 refine wp_region_St hst 12 [0, 1, 2, 3, 4, 5, 6, 7, 8, 9, 10, 11] [0, 1, 3, 7, 0, 31, 63, 0, 128, 511, 1023, 2047] [] z (by kernel_rfl) (by kernel_rfl) Try.mixed (by kernel_rfl) ?_
 refine wsr (Pt b5777 0) 0 z z z (by kernel_rfl) (fun w hst => x_load z isAgg60 (hst.bc7 z)) (wsr (Pt b5777 0) 1 z z z (by kernel_rfl) (fun w hst => z) (wsr (Pt b5777 1) 2 z z z (by kernel_rfl) (fun w hst => x_field z underlying73 z sizeOf25 z) (wsr (v5780) 3 z z z (by kernel_rfl) (fun w hst => x_load z isAgg25 (hst.bc0 z)) (wsr (.int .i64 z5765) 4 z z z (by kernel_rfl) (fun w hst => z) ?_))))
 obtain ⟨x5790, hx5791, hm⟩ := bind_some hm
 obtain ⟨h5792, h5793, hi5794⟩ := geto_some hx5791
 refine wsr (.pointer (some (eAddr v5780 (z5765.toNat * 1 + 0)))) 5 z z z (by kernel_rfl) (fun w hst => x_index z z underlying25 sizeOf22 hst.sv2 h5792 h5793) (wsr (.int .u64 x5790) 6 z z z (by kernel_rfl) (fun w hst => x_load z isAgg22 (hst.ol2 hi5794 (by rintro _ rfl; rfl))) (wsr (.int .i64 z5696) 7 z z z (by kernel_rfl) (fun w hst => z) ?_))
 obtain ⟨hg5795, hm⟩ := gd_some hm
 refine wsr (.int .u64 (iShl .u64 (1:Int) z5696)) 8 z z z (by kernel_rfl) (fun w hst => x_shl (of_decide_eq_true hg5795) z z) (wsr (.int .u64 (bOr .u64 x5790 (iShl .u64 (1:Int) z5696))) 9 z z z (by kernel_rfl) (fun w hst => z) (wsr (.pointer (some (eAddr v5780 (z5765.toNat * 1 + 0)))) 10 z z z (by kernel_rfl) (fun w hst => x_index z z underlying25 sizeOf22 hst.sv2 h5792 h5793) ?_))
 refine ws_e1 11 (by kernel_rfl) ?_
 refine nxe [] (by kernel_rfl) z z ?_
 clear hst
 intro w hst
 replace hst := hst.pull2
 obtain ⟨w5796, hr5797, hst⟩ := hst.own_store (P := prog) (t := 22) (y := (bOr .u64 x5790 (iShl .u64 (1:Int) z5696))) hi5794 0 (.int .u64 (bOr .u64 x5790 (iShl .u64 (1:Int) z5696))) sizeOf22 (Nat.le_of_ble_eq_true z) (oC z oN) (by rintro _ rfl; rfl)
 have hi5798 := set_get hi5794 (bOr .u64 x5790 (iShl .u64 (1:Int) z5696))
 have h5799 := set_lt h5793 z5765.toNat (bOr .u64 x5790 (iShl .u64 (1:Int) z5696))
 refine we_unit z (x_unit hr5797) ?_
 refine ws_next (pend' := []) hst (by kernel_rfl) pk_nil ?_
 refine ws_nil ?_
 intro w hst
 refine blk_n (tn (wrl ?_))
 refine wv (.int .i64 (i64.wrap (z5765 + (1:Int)))) z z z (wv (.int .i64 (i64.wrap (z5765 + (1:Int)))) z z z (wl_nil (tn ?_)))
 replace hst := hst.pull6.pull6.pull6.pull6.pull4.pull6.pull6
 replace hst := at_label_Lattice_close (pv := Pt b5777 0) (x := ({ up := z5764.up, down := (z5764.down.set z5765.toNat (bOr .u64 x5790 (iShl .u64 (1:Int) z5696))), join := z5764.join, meet := z5764.meet, rank := z5764.rank, all := z5764.all } : label_Lattice)) hst z
 replace hst := hst.pull1.pull1.keep2
 obtain rfl := some_inj hm
 exact ⟨_, Nat.lt_succ_self _, ({ up := z5764.up, down := (z5764.down.set z5765.toNat (bOr .u64 x5790 (iShl .u64 (1:Int) z5696))), join := z5764.join, meet := z5764.meet, rank := z5764.rank, all := z5764.all } : label_Lattice), (i64.wrap (z5765 + (1:Int))), _, hx5772, (fu 4 (.int .i64 ((a0).length : Int)) z (fu 5 (Pt b5491 0) z (fu 6 (.int .i64 z5696) z (fu 7 (.int .u64 x5706) z (fu 38 r0_0 z (fu 39 (.int .i64 ((a0).length : Int)) z (fu 40 (.int .i64 z5696) z (fu 45 (.int .i64 ((a0).length : Int)) z (fu 46 (.int .i64 (i64.wrap (z5765 + (1:Int)))) z z))))))))), hst⟩
}
 {
 replace hm := bif_f hc5776 hm
 refine wp_iff (cvb hc5776) ?_
 refine wp_skip (blk_n (tn (wrl ?_)))
 refine wv (.int .i64 (i64.wrap (z5765 + (1:Int)))) z z z (wv (.int .i64 (i64.wrap (z5765 + (1:Int)))) z z z (wl_nil (tn ?_)))
 replace hst := hst.pull1.pull1.keep2
 obtain rfl := some_inj hm
 exact ⟨_, Nat.lt_succ_self _, z5764, (i64.wrap (z5765 + (1:Int))), _, hx5772, (fu 4 (.int .i64 ((a0).length : Int)) z (fu 5 (Pt b5491 0) z (fu 6 (.int .i64 z5696) z (fu 7 (.int .u64 x5706) z (fu 38 r0_0 z (fu 39 (.int .i64 ((a0).length : Int)) z (fu 40 (.int .i64 z5696) z (fu 45 (.int .i64 ((a0).length : Int)) z (fu 46 (.int .i64 (i64.wrap (z5765 + (1:Int)))) z z))))))))), hst⟩
}
}
 {
 replace hm := bif_f hc5774 hm
 refine wp_iff (cvb hc5774) ?_
 refine wp_exit (then_x (then_x ?_))
 replace hm := inr_up hm hx5772
 refine blk_x (blk_n (tn (wrl ?_)))
 refine wv (.int .i64 (i64.wrap (z5696 + (1:Int)))) z z z (wv (.int .i64 (i64.wrap (z5696 + (1:Int)))) z z z (wl_nil (tn ?_)))
 replace hst := hst.pull1.pull1.keep2
 obtain rfl := some_inj hm
 exact ⟨_, Nat.lt_succ_self _, z5764, (i64.wrap (z5696 + (1:Int))), _, hx5703, (fu 4 (.int .i64 ((a0).length : Int)) z (fu 5 (Pt b5491 0) z (fu 38 r0_0 z (fu 39 (.int .i64 ((a0).length : Int)) z (fu 40 (.int .i64 (i64.wrap (z5696 + (1:Int)))) z z))))), hst⟩
}
}
 {
 replace hm := bif_f hc5705 hm
 refine wp_iff (cvb hc5705) ?_
 refine wp_exit (then_x (then_x ?_))
 replace hm := inr_up hm hx5703
 refine blk_x (tn ?_)
 replace hst := hst.pull1.keep2
 obtain rfl := some_inj hm
 exact ⟨z5695, _, hx5804, (fu 4 (.int .i64 ((a0).length : Int)) z (fu 5 (Pt b5491 0) z z)), hst⟩
}
}
 {
 clear hst
 rintro _ w5805 ⟨z5800, σ5801, hm, rfl, hst⟩
 dsimp only [label_New_j1] at hm
 obtain ⟨y7148, hm, hx7149⟩ := joinO_some hm
 refine wp_cut (fun a w => ∃ (I7145 : HL) (z7144 : label_Lattice) (σ7146 : Nat → Value), (label_New_j4) z7144 = some r ∧ a = Fr 192 (upd σ7146 5 (Pt b5491 0)) ∧ I.le I7145 ∧ St w0 w I7145 [cells b5491 [v5493], at_label_Lattice v5493 z7144] R) ?_ ?_
 {
 have hL7150 := HL.le.refl I
 refine wp_seq (wrl (wv (.int .i64 ((a0).length : Int)) z z z (wv (.int .i64 (0:Int)) z z z (wl_nil (tn (wp_block ?_))))))
 obtain ⟨n6688, hm⟩ := loopO_some hm
 refine wp_loop_n (fun n a w => ∃ (I6686 : HL) (z6684 : label_Lattice) (z6685 : Int) (σ6687 : Nat → Value), loopN (label_New_l5 a0) n (z6684, z6685) = some y7148 ∧ a = Fr 192 (upd (upd (upd (upd σ6687 4 (.int .i64 ((a0).length : Int))) 5 (Pt b5491 0)) 67 (.int .i64 ((a0).length : Int))) 68 (.int .i64 z6685)) ∧ I.le I6686 ∧ St w0 w I6686 [cells b5491 [v5493], at_label_Lattice v5493 z6684] R) n6688 ⟨_, z5800, (0:Int), _, hm, (fu 4 (.int .i64 ((a0).length : Int)) z (fu 5 (Pt b5491 0) z (fu 67 (.int .i64 ((a0).length : Int)) z (fu 68 (.int .i64 (0:Int)) z z)))), (HL.le.refl _), hst⟩ ?_
 rintro n6694 _ w6689 ⟨I6686, z6684, z6685, σ6687, hm, rfl, hL6690, hst⟩
 obtain ⟨n6691, y6692, rfl, hm, hx6693⟩ := loopN_some hm
 dsimp only [label_New_l5] at hm
 replace f0_0 := f0_0.mono (rd_le hL6690)
 replace hI0 := hI0.trans hL6690
 replace hL7150 := hL7150.trans hL6690
 refine wp_seq (wrl (wv (.bool (decide (z6685 < ((a0).length : Int)))) z z z (wl_nil (tn (wp_seq ?_)))))
 refine bsplit (decide (z6685 < ((a0).length : Int))) (fun hc6695 => ?_) (fun hc6695 => ?_)
 {
 replace hm := bif_t hc6695 hm
 refine wp_ift (cvb hc6695) ?_
 refine wp_skip (tn (wp_seq (wp_block (wp_seq (wrl ?_)))))
 refine wv (.int .i64 z6685) z z z (wv (.int .i64 z6685) z z z (wl_nil (tn (wp_seq (wrl (wv ((.slice none 0 0)) z z z (wv ((.slice none 0 0)) z z z (wl_nil (tn ?_)))))))))
 obtain ⟨y7008, hm, hx7009⟩ := joinO_some hm
 refine wp_cut (fun a w => ∃ (z7002 : (List Int)) (z7005 : (List Int)) (v7001 : Value) (v7004 : Value) (σ7006 : Nat → Value), (label_New_j6 z6684 z6685) (z7002, z7005) = some y6692 ∧ a = Fr 192 (upd (upd (upd (upd (upd (upd (upd σ7006 4 (.int .i64 ((a0).length : Int))) 5 (Pt b5491 0)) 9 (.int .i64 z6685)) 10 (v7001)) 11 (v7004)) 67 (.int .i64 ((a0).length : Int))) 68 (.int .i64 z6685)) ∧ St w0 w I6686 [cells b5491 [v5493], at_label_Lattice v5493 z6684, ownS (tyInt .i64) v7001 z7002, ownS (tyInt .i64) v7004 z7005] R) ?_ ?_
 {
 refine wp_seq (wrl (wv (.int .i64 ((a0).length : Int)) z z z (wv (.int .i64 (0:Int)) z z z (wl_nil (tn (wp_block ?_))))))
 replace hst := hst.own_nil (tyInt .i64)
 replace hst := hst.own_nil (tyInt .i64)
 obtain ⟨n6923, hm⟩ := loopO_some hm
 refine wp_loop_n (fun n a w => ∃ (z6915 : (List Int)) (z6918 : (List Int)) (z6921 : Int) (v6916 : Value) (v6919 : Value) (σ6922 : Nat → Value), loopN (label_New_l7 a0 z6684 z6685) n (z6915, z6918, z6921) = some y7008 ∧ a = Fr 192 (upd (upd (upd (upd (upd (upd (upd (upd (upd σ6922 4 (.int .i64 ((a0).length : Int))) 5 (Pt b5491 0)) 9 (.int .i64 z6685)) 10 (v6916)) 11 (v6919)) 67 (.int .i64 ((a0).length : Int))) 68 (.int .i64 z6685)) 71 (.int .i64 ((a0).length : Int))) 72 (.int .i64 z6921)) ∧ St w0 w I6686 [ownS (tyInt .i64) v6919 z6918, ownS (tyInt .i64) v6916 z6915, cells b5491 [v5493], at_label_Lattice v5493 z6684] R) n6923 ⟨[], [], (0:Int), Zs, Zs, _, hm, (fu 4 (.int .i64 ((a0).length : Int)) z (fu 5 (Pt b5491 0) z (fu 9 (.int .i64 z6685) z (fu 10 (.slice none 0 0) z (fu 11 (.slice none 0 0) z (fu 67 (.int .i64 ((a0).length : Int)) z (fu 68 (.int .i64 z6685) z (fu 71 (.int .i64 ((a0).length : Int)) z (fu 72 (.int .i64 (0:Int)) z z))))))))), hst⟩ ?_
 rintro n6929 _ w6924 ⟨z6915, z6918, z6921, v6916, v6919, σ6922, hm, rfl, hst⟩
 obtain ⟨n6926, y6927, rfl, hm, hx6928⟩ := loopN_some hm
 dsimp only [label_New_l7] at hm
 refine wp_seq (wrl (wv (.bool (decide (z6921 < ((a0).length : Int)))) z z z (wl_nil (tn (wp_seq ?_)))))
 refine bsplit (decide (z6921 < ((a0).length : Int))) (fun hc6930 => ?_) (fun hc6930 => ?_)
 {
 replace hm := bif_t hc6930 hm
 refine wp_ift (cvb hc6930) ?_
 refine wp_skip (tn (wp_seq (wp_block (wp_seq (wrl ?_)))))
 refine wv (.int .i64 z6921) z z z (wv (.int .i64 z6921) z z z (wl_nil (tn (wp_seq ?_))))
 replace hst := hst.pull3
 obtain ⟨b6931, v6932, v6934, v6936, v6938, v6940, v6942, rfl, hst'⟩ := at_label_Lattice_open hst
 clear hst
 have hst := hst'
 clear hst'
 refine wp_region_St hst 25 [0, 1, 2, 3, 4, 5, 6, 7, 8, 9, 10, 11, 12, 13, 14, 15, 16, 17, 18, 19, 20, 21, 22, 23, 24] [0, 1, 3, 7, 0, 31, 63, 0, 128, 384, 896, 0, 3968, 8064, 16383, 0, 32768, 98304, 229376, 524287, 1048575, 2097151, 2097151, 4194303, 16777215] [] z (by kernel_rfl) (by kernel_rfl) Try.mixed (by kernel_rfl) ?_
 refine wsr (Pt b6931 0) 0 z z z (by kernel_rfl) (fun w hst => x_load z isAgg60 (hst.bc9 z)) (wsr (Pt b6931 0) 1 z z z (by kernel_rfl) (fun w hst => z) (wsr (Pt b6931 0) 2 z z z (by kernel_rfl) (fun w hst => x_field z underlying73 z sizeOf25 z) (wsr (v6932) 3 z z z (by kernel_rfl) (fun w hst => x_load z isAgg25 (hst.bc0 z)) (wsr (.int .i64 z6685) 4 z z z (by kernel_rfl) (fun w hst => z) ?_))))
 obtain ⟨x6944, hx6945, hm⟩ := bind_some hm
 obtain ⟨h6946, h6947, hi6948⟩ := geto_some hx6945
 refine wsr (.pointer (some (eAddr v6932 (z6685.toNat * 1 + 0)))) 5 z z z (by kernel_rfl) (fun w hst => x_index z z underlying25 sizeOf22 hst.sv1 h6946 h6947) (wsr (.int .u64 x6944) 6 z z z (by kernel_rfl) (fun w hst => x_load z isAgg22 (hst.ol1 hi6948 (by rintro _ rfl; rfl))) (wsr (Pt b6931 0) 7 z z z (by kernel_rfl) (fun w hst => x_load z isAgg60 (hst.bc9 z)) (wsr (Pt b6931 0) 8 z z z (by kernel_rfl) (fun w hst => z) (wsr (Pt b6931 0) 9 z z z (by kernel_rfl) (fun w hst => x_field z underlying73 z sizeOf25 z) (wsr (v6932) 10 z z z (by kernel_rfl) (fun w hst => x_load z isAgg25 (hst.bc0 z)) (wsr (.int .i64 z6921) 11 z z z (by kernel_rfl) (fun w hst => z) ?_))))))
 obtain ⟨x6949, hx6950, hm⟩ := bind_some hm
 obtain ⟨h6951, h6952, hi6953⟩ := geto_some hx6950
 refine wsr (.pointer (some (eAddr v6932 (z6921.toNat * 1 + 0)))) 12 z z z (by kernel_rfl) (fun w hst => x_index z z underlying25 sizeOf22 hst.sv1 h6951 h6952) (wsr (.int .u64 x6949) 13 z z z (by kernel_rfl) (fun w hst => x_load z isAgg22 (hst.ol1 hi6953 (by rintro _ rfl; rfl))) (wsr (.int .u64 (bAnd .u64 x6944 x6949)) 14 z z z (by kernel_rfl) (fun w hst => z) (wsr (Pt b6931 0) 15 z z z (by kernel_rfl) (fun w hst => x_load z isAgg60 (hst.bc9 z)) (wsr (Pt b6931 0) 16 z z z (by kernel_rfl) (fun w hst => z) (wsr (Pt b6931 0) 17 z z z (by kernel_rfl) (fun w hst => x_field z underlying73 z sizeOf25 z) (wsr (v6932) 18 z z z (by kernel_rfl) (fun w hst => x_load z isAgg25 (hst.bc0 z)) ?_))))))
 refine ws_e1 19 (by kernel_rfl) ?_
 refine nxe [20, 21, 22, 23, 24] (by kernel_rfl) z z ?_
 clear hst
 intro w hst
 replace hst := hst.pull1
 obtain ⟨css6954, hq6955, hst⟩ := hst.own_open
 obtain ⟨t6956, ht6957, hm⟩ := bind_some hm
 refine wec call46 [U6 (bAnd .u64 x6944 x6949), v6932] z z ?_
 refine (label_least_ref (hst.rdrow0 hq6955) hst.to0 ht6957).mono ?_
 rintro _ w6958 ⟨rfl, hst⟩
 refine ⟨_, z, ?_⟩
 replace hst := hst.of0.own_close hq6955
 refine ws_next (pend' := []) hst (by kernel_rfl) pk_nil ?_
 refine wsr (.tuple #[I6 t6956.1, .bool t6956.2]) 20 z z z (by kernel_rfl) (fun w hst => z) (wsr (.int .i64 t6956.1) 21 z z z (by kernel_rfl) (fun w hst => z) (wsr (.bool t6956.2) 22 z z z (by kernel_rfl) (fun w hst => z) (wsr (.int .i64 t6956.1) 23 z z z (by kernel_rfl) (fun w hst => z) (wsr (.bool t6956.2) 24 z z z (by kernel_rfl) (fun w hst => z) ?_))))
 refine ws_nil ?_
 intro w hst
 refine tn (wp_seq ?_)
 refine wp_region_St hst 25 [0, 1, 2, 3, 4, 5, 6, 7, 8, 9, 10, 11, 12, 13, 14, 15, 16, 17, 18, 19, 20, 21, 22, 23, 24] [0, 1, 3, 7, 0, 31, 63, 0, 128, 384, 896, 0, 3968, 8064, 16383, 0, 32768, 98304, 229376, 524287, 1048575, 2097151, 2097151, 4194303, 16777215] [] z (by kernel_rfl) (by kernel_rfl) Try.mixed (by kernel_rfl) ?_
 refine wsr (Pt b6931 0) 0 z z z (by kernel_rfl) (fun w hst => x_load z isAgg60 (hst.bc9 z)) (wsr (Pt b6931 0) 1 z z z (by kernel_rfl) (fun w hst => z) (wsr (Pt b6931 1) 2 z z z (by kernel_rfl) (fun w hst => x_field z underlying73 z sizeOf25 z) (wsr (v6934) 3 z z z (by kernel_rfl) (fun w hst => x_load z isAgg25 (hst.bc1 z)) (wsr (.int .i64 z6685) 4 z z z (by kernel_rfl) (fun w hst => z) ?_))))
 obtain ⟨x6961, hx6962, hm⟩ := bind_some hm
 obtain ⟨h6963, h6964, hi6965⟩ := geto_some hx6962
 refine wsr (.pointer (some (eAddr v6934 (z6685.toNat * 1 + 0)))) 5 z z z (by kernel_rfl) (fun w hst => x_index z z underlying25 sizeOf22 hst.sv2 h6963 h6964) (wsr (.int .u64 x6961) 6 z z z (by kernel_rfl) (fun w hst => x_load z isAgg22 (hst.ol2 hi6965 (by rintro _ rfl; rfl))) (wsr (Pt b6931 0) 7 z z z (by kernel_rfl) (fun w hst => x_load z isAgg60 (hst.bc9 z)) (wsr (Pt b6931 0) 8 z z z (by kernel_rfl) (fun w hst => z) (wsr (Pt b6931 1) 9 z z z (by kernel_rfl) (fun w hst => x_field z underlying73 z sizeOf25 z) (wsr (v6934) 10 z z z (by kernel_rfl) (fun w hst => x_load z isAgg25 (hst.bc1 z)) (wsr (.int .i64 z6921) 11 z z z (by kernel_rfl) (fun w hst => z) ?_))))))
 obtain ⟨x6966, hx6967, hm⟩ := bind_some hm
 obtain ⟨h6968, h6969, hi6970⟩ := geto_some hx6967
 refine wsr (.pointer (some (eAddr v6934 (z6921.toNat * 1 + 0)))) 12 z z z (by kernel_rfl) (fun w hst => x_index z z underlying25 sizeOf22 hst.sv2 h6968 h6969) (wsr (.int .u64 x6966) 13 z z z (by kernel_rfl) (fun w hst => x_load z isAgg22 (hst.ol2 hi6970 (by rintro _ rfl; rfl))) (wsr (.int .u64 (bAnd .u64 x6961 x6966)) 14 z z z (by kernel_rfl) (fun w hst => z) (wsr (Pt b6931 0) 15 z z z (by kernel_rfl) (fun w hst => x_load z isAgg60 (hst.bc9 z)) (wsr (Pt b6931 0) 16 z z z (by kernel_rfl) (fun w hst => z) (wsr (Pt b6931 1) 17 z z z (by kernel_rfl) (fun w hst => x_field z underlying73 z sizeOf25 z) (wsr (v6934) 18 z z z (by kernel_rfl) (fun w hst => x_load z isAgg25 (hst.bc1 z)) ?_))))))
 refine ws_e1 19 (by kernel_rfl) ?_
 refine nxe [20, 21, 22, 23, 24] (by kernel_rfl) z z ?_
 clear hst
 intro w hst
 replace hst := hst.pull2
 obtain ⟨css6971, hq6972, hst⟩ := hst.own_open
 obtain ⟨t6973, ht6974, hm⟩ := bind_some hm
 refine wec call46 [U6 (bAnd .u64 x6961 x6966), v6934] z z ?_
 refine (label_least_ref (hst.rdrow0 hq6972) hst.to0 ht6974).mono ?_
 rintro _ w6975 ⟨rfl, hst⟩
 refine ⟨_, z, ?_⟩
 replace hst := hst.of0.own_close hq6972
 refine ws_next (pend' := []) hst (by kernel_rfl) pk_nil ?_
 refine wsr (.tuple #[I6 t6973.1, .bool t6973.2]) 20 z z z (by kernel_rfl) (fun w hst => z) (wsr (.int .i64 t6973.1) 21 z z z (by kernel_rfl) (fun w hst => z) (wsr (.bool t6973.2) 22 z z z (by kernel_rfl) (fun w hst => z) (wsr (.int .i64 t6973.1) 23 z z z (by kernel_rfl) (fun w hst => z) (wsr (.bool t6973.2) 24 z z z (by kernel_rfl) (fun w hst => z) ?_))))
 refine ws_nil ?_
 intro w hst
 refine tn (wp_seq (wp_seq (wrl (wv (.bool t6956.2) z z z (wv (.bool (!t6956.2)) z z z (wv (.bool (!t6956.2)) z z z ?_))))))
 refine bsplit (!t6956.2) (fun hc6978 => ?_) (fun hc6978 => ?_)
 {
 replace hm := bif_t hc6978 hm
 refine wo hc6978 z z z z z z (wo hc6978 z z z z z z (wv (.bool true) z z (x_pick_t hc6978 z z) (wl_nil (tn ?_))))
 refine wp_ift z ?_
 refine wp_seq (wrl (wv (.pointer none) z z z (wv (.int .i64 (15:Int)) z z z (wl_nil (tn (wp_ret (then_r (blk_r (then_r (then_r ?_))))))))))
 replace hm := inr_up hm hx6928
 refine blk_r (then_r ?_)
 replace hm := inr_up hm hx7009
 refine blk_r (then_r (then_r ?_))
 replace hm := inr_up hm hx6693
 refine blk_r (then_r ?_)
 replace hm := inr_up hm hx7149
 replace hst := hst.objO_nil at_label_Lattice
 obtain rfl := some_inj hm
 refine post_ret (vs := [.pointer none, I6 (15:Int)]) results34 (rvs_cons (rv_tmp z) (rvs_cons (rv_tmp z) rvs_nil)) ?_
 exact ⟨_, .pointer none, z, hI0, hst.keep1⟩
}
 {
 replace hm := bif_f hc6978 hm
 refine wv (.bool t6973.2) ((wanted_eq z z z (cvb hc6978)).trans z) z z (wv (.bool (!t6973.2)) ((wanted_eq z z z (cvb hc6978)).trans z) z z (wv (.bool (!t6973.2)) z z (x_pick_f hc6978 z z) (wl_nil (tn ?_))))
 refine bsplit (!t6973.2) (fun hc6980 => ?_) (fun hc6980 => ?_)
 {
 replace hm := bif_t hc6980 hm
 refine wp_ift (cvb hc6980) ?_
 refine wp_seq (wrl (wv (.pointer none) z z z (wv (.int .i64 (15:Int)) z z z (wl_nil (tn (wp_ret (then_r (blk_r (then_r (then_r ?_))))))))))
 replace hm := inr_up hm hx6928
 refine blk_r (then_r ?_)
 replace hm := inr_up hm hx7009
 refine blk_r (then_r (then_r ?_))
 replace hm := inr_up hm hx6693
 refine blk_r (then_r ?_)
 replace hm := inr_up hm hx7149
 replace hst := hst.objO_nil at_label_Lattice
 obtain rfl := some_inj hm
 refine post_ret (vs := [.pointer none, I6 (15:Int)]) results34 (rvs_cons (rv_tmp z) (rvs_cons (rv_tmp z) rvs_nil)) ?_
 exact ⟨_, .pointer none, z, hI0, hst.keep1⟩
}
 {
 replace hm := bif_f hc6980 hm
 refine wp_iff (cvb hc6980) ?_
 refine wp_skip (tn (wrl ?_))
 refine wv (v6916) z z z (wv (.int .i64 t6956.1) z z z ?_)
 obtain ⟨b6982, w6983, ew6984, eb6985, hst⟩ := hst.lits (E := (tyInt .i64)) (xs := [t6956.1]) [[I6 t6956.1]] 3 1 z (Reps.cons z Reps.nil)
 refine wl_run (v := (.slice (some ⟨b6982, 0, none⟩) 1 1)) (w' := w6983) z z (x_als (by kernel_rfl) ew6984 eb6985) ?_
 obtain ⟨hg6987, hm⟩ := gd_some hm
 replace hst := hst.pull9
 obtain ⟨v6988, w6989, hr6990, hst⟩ := run_append elem_46 underlying46 hst hst.src1 (room_of hg6987 z) 46
 refine wl_run (v := v6988) (w' := w6989) z z (x_append z z hr6990) ?_
 refine wv (v6919) z z z (wv (.int .i64 t6973.1) z z z ?_)
 obtain ⟨b6992, w6993, ew6994, eb6995, hst⟩ := hst.lits (E := (tyInt .i64)) (xs := [t6973.1]) [[I6 t6973.1]] 3 1 z (Reps.cons z Reps.nil)
 refine wl_run (v := (.slice (some ⟨b6992, 0, none⟩) 1 1)) (w' := w6993) z z (x_als (by kernel_rfl) ew6994 eb6995) ?_
 obtain ⟨hg6997, hm⟩ := gd_some hm
 replace hst := hst.pull10
 obtain ⟨v6998, w6999, hr7000, hst⟩ := run_append elem_46 underlying46 hst hst.src1 (room_of hg6997 z) 46
 refine wl_run (v := v6998) (w' := w6999) z z (x_append z z hr7000) ?_
 refine wv (v6988) z z z (wv (v6998) z z z (wl_nil (blk_n (tn (wrl (wv (.int .i64 (i64.wrap (z6921 + (1:Int)))) z z z (wv (.int .i64 (i64.wrap (z6921 + (1:Int)))) z z z (wl_nil (tn ?_)))))))))
 replace hst := hst.pull10.pull10.pull10.pull10.pull8.pull9.pull10
 replace hst := at_label_Lattice_close (pv := Pt b6931 0) (x := z6684) hst z
 replace hst := hst.pull5.pull4.pull3.keep4
 obtain rfl := some_inj hm
 exact ⟨_, Nat.lt_succ_self _, (z6915 ++ ([t6956.1])), (z6918 ++ ([t6973.1])), (i64.wrap (z6921 + (1:Int))), v6988, v6998, _, hx6928, (fu 4 (.int .i64 ((a0).length : Int)) z (fu 5 (Pt b5491 0) z (fu 9 (.int .i64 z6685) z (fu 10 v6988 z (fu 11 v6998 z (fu 67 (.int .i64 ((a0).length : Int)) z (fu 68 (.int .i64 z6685) z (fu 71 (.int .i64 ((a0).length : Int)) z (fu 72 (.int .i64 (i64.wrap (z6921 + (1:Int)))) z z))))))))), hst⟩
}
}
}
 {
 replace hm := bif_f hc6930 hm
 refine wp_iff (cvb hc6930) ?_
 refine wp_exit (then_x (then_x ?_))
 replace hm := inr_up hm hx6928
 refine blk_x (tn ?_)
 replace hst := hst.pull1.pull3.pull3.keep4
 obtain rfl := some_inj hm
 exact ⟨z6915, z6918, v6916, v6919, _, hx7009, (fu 4 (.int .i64 ((a0).length : Int)) z (fu 5 (Pt b5491 0) z (fu 9 (.int .i64 z6685) z (fu 10 v6916 z (fu 11 v6919 z (fu 67 (.int .i64 ((a0).length : Int)) z (fu 68 (.int .i64 z6685) z z))))))), hst⟩
}
}
 {
 clear hst
 rintro _ w7010 ⟨z7002, z7005, v7001, v7004, σ7006, hm, rfl, hst⟩
 dsimp only [label_New_j6] at hm
 refine wp_seq ?_
 replace hst := hst.pull1
 obtain ⟨b7011, v7012, v7014, v7016, v7018, v7020, v7022, rfl, hst'⟩ := at_label_Lattice_open hst
 clear hst
 have hst := hst'
 clear hst'
 obtain ⟨y7114, hm, hx7115⟩ := bind_some hm
 refine wp_mid (fun a w => ∃ (I7111 : HL) (σ7112 : Nat → Value), (label_New_j8 z6684 z7002 z7005 z6685) () = some y6692 ∧ a = Fr 192 (upd (upd (upd (upd (upd σ7112 4 (.int .i64 ((a0).length : Int))) 5 (Pt b5491 0)) 9 (.int .i64 z6685)) 67 (.int .i64 ((a0).length : Int))) 68 (.int .i64 z6685)) ∧ I6686.le I7111 ∧ St w0 w I7111 [cells b5491 [Pt b7011 0], at_label_Lattice (Pt b7011 0) ({ up := z6684.up, down := z6684.down, join := (z6684.join ++ ([z7002])), meet := (z6684.meet ++ ([z7005])), rank := z6684.rank, all := z6684.all } : label_Lattice)] R) ?_ ?_
 {
 have hL7116 := HL.le.refl I6686
 refine wp_region_St hst 22 [0, 1, 2, 3, 4, 5, 6, 7, 8, 9, 10, 11, 12, 13, 14, 15, 16, 17, 18, 19, 20, 21] [0, 0, 0, 4, 12, 28, 0, 64, 252, 0, 512, 1536, 3584, 0, 8192, 32764, 65533, 131069, 262141, 524287, 1048575, 2097151] [] z (by kernel_rfl) (by kernel_rfl) Try.mixed (by kernel_rfl) ?_
 refine wsr (Pt b7011 0) 0 z z z (by kernel_rfl) (fun w hst => x_load z isAgg60 (hst.bc7 z)) (wsr (Pt b7011 0) 1 z z z (by kernel_rfl) (fun w hst => x_load z isAgg60 (hst.bc7 z)) (wsr (Pt b7011 0) 2 z z z (by kernel_rfl) (fun w hst => x_load z isAgg60 (hst.bc7 z)) (wsr (Pt b7011 0) 3 z z z (by kernel_rfl) (fun w hst => z) (wsr (Pt b7011 2) 4 z z z (by kernel_rfl) (fun w hst => x_field z underlying73 z sizeOf71 z) (wsr (v7016) 5 z z z (by kernel_rfl) (fun w hst => x_load z isAgg71 (hst.bc0 z)) (wsr (v7001) 6 z z z (by kernel_rfl) (fun w hst => z) (wsr (Pt b7011 0) 9 z z z (by kernel_rfl) (fun w hst => x_load z isAgg60 (hst.bc7 z)) (wsr (Pt b7011 0) 10 z z z (by kernel_rfl) (fun w hst => z) (wsr (Pt b7011 3) 11 z z z (by kernel_rfl) (fun w hst => x_field z underlying73 z sizeOf71 z) (wsr (v7018) 12 z z z (by kernel_rfl) (fun w hst => x_load z isAgg71 (hst.bc0 z)) (wsr (v7004) 13 z z z (by kernel_rfl) (fun w hst => z) ?_)))))))))))
 refine ws_e2 7 14 (by kernel_rfl) ?_ ?_
 {
 refine nxe [8, 14, 15, 16, 17, 18, 19, 20, 21] (by kernel_rfl) z z ?_
 clear hst
 intro w hst
 replace hst := hst.pull8
 obtain ⟨I7025, hI7026, f7027, hst⟩ := hst.own_fix
 replace f0_0 := f0_0.mono (rd_le hI7026)
 replace hI0 := hI0.trans hI7026
 replace hL7150 := hL7150.trans hI7026
 replace hL6690 := hL6690.trans hI7026
 replace hL7116 := hL7116.trans hI7026
 obtain ⟨b7028, w7029, ew7030, eb7031, hst⟩ := hst.lits (E := (tySl (tyInt .i64))) (xs := [z7002]) [[v7001]] 46 1 z (Reps.cons ⟨_, z, f7027, one_of_sliceV (ro_sliceV f7027)⟩ Reps.nil)
 refine we_run (v := (.slice (some ⟨b7028, 0, none⟩) 1 1)) (w' := w7029) z (x_als (by obtain ⟨_, _, hv_, _⟩ := (ro_sliceV f7027); rw [hv_]; kernel_rfl) ew7030 eb7031) ?_
 refine ws_next (pend' := [(13, v7004), (12, v7018), (11, Pt b7011 3), (10, Pt b7011 0), (9, Pt b7011 0), (5, v7016), (4, Pt b7011 2), (3, Pt b7011 0), (2, Pt b7011 0), (1, Pt b7011 0), (0, Pt b7011 0)]) hst (by kernel_rfl) (pkr z z (fun w hst => z) (pkr z z (fun w hst => x_load z isAgg71 (hst.bc1 z)) (pkr z z (fun w hst => x_field z underlying73 z sizeOf71 z) (pkr z z (fun w hst => z) (pkr z z (fun w hst => x_load z isAgg60 (hst.bc8 z)) (pkr z z (fun w hst => x_load z isAgg71 (hst.bc1 z)) (pkr z z (fun w hst => x_field z underlying73 z sizeOf71 z) (pkr z z (fun w hst => z) (pkr z z (fun w hst => x_load z isAgg60 (hst.bc8 z)) (pkr z z (fun w hst => x_load z isAgg60 (hst.bc8 z)) (pkr z z (fun w hst => x_load z isAgg60 (hst.bc8 z)) pk_nil))))))))))) ?_
 refine ws_e2 8 14 (by kernel_rfl) ?_ ?_
 {
 refine nxe [14, 15, 16, 17, 18, 19, 20, 21] (by kernel_rfl) z z ?_
 clear hst
 intro w hst
 obtain ⟨hg7033, hm⟩ := gd_some hm
 replace hst := hst.pull4
 obtain ⟨v7034, w7035, hr7036, hst⟩ := run_append elem_71 underlying71 hst hst.src1 (room_of hg7033 z) 71
 refine we_run (v := v7034) (w' := w7035) z (x_append z z hr7036) ?_
 refine ws_next (pend' := [(13, v7004), (12, v7018), (11, Pt b7011 3), (10, Pt b7011 0), (9, Pt b7011 0), (1, Pt b7011 0), (0, Pt b7011 0)]) hst (by kernel_rfl) (pkr z z (fun w hst => z) (pkr z z (fun w hst => x_load z isAgg71 (hst.bc2 z)) (pkr z z (fun w hst => x_field z underlying73 z sizeOf71 z) (pkr z z (fun w hst => z) (pkr z z (fun w hst => x_load z isAgg60 (hst.bc8 z)) (pkr z z (fun w hst => x_load z isAgg60 (hst.bc8 z)) (pkr z z (fun w hst => x_load z isAgg60 (hst.bc8 z)) pk_nil))))))) ?_
 refine ws_e1 14 (by kernel_rfl) ?_
 refine nxe [15, 16, 17, 18, 19, 20, 21] (by kernel_rfl) z z ?_
 clear hst
 intro w hst
 replace hst := hst.pull9
 obtain ⟨I7039, hI7040, f7041, hst⟩ := hst.own_fix
 replace f0_0 := f0_0.mono (rd_le hI7040)
 replace f7027 := f7027.mono (ro_le hI7040)
 replace hI0 := hI0.trans hI7040
 replace hL7150 := hL7150.trans hI7040
 replace hL6690 := hL6690.trans hI7040
 replace hL7116 := hL7116.trans hI7040
 obtain ⟨b7042, w7043, ew7044, eb7045, hst⟩ := hst.lits (E := (tySl (tyInt .i64))) (xs := [z7005]) [[v7004]] 46 1 z (Reps.cons ⟨_, z, f7041, one_of_sliceV (ro_sliceV f7041)⟩ Reps.nil)
 refine we_run (v := (.slice (some ⟨b7042, 0, none⟩) 1 1)) (w' := w7043) z (x_als (by obtain ⟨_, _, hv_, _⟩ := (ro_sliceV f7041); rw [hv_]; kernel_rfl) ew7044 eb7045) ?_
 refine ws_next (pend' := [(12, v7018), (11, Pt b7011 3), (10, Pt b7011 0), (9, Pt b7011 0), (1, Pt b7011 0), (0, Pt b7011 0)]) hst (by kernel_rfl) (pkr z z (fun w hst => x_load z isAgg71 (hst.bc3 z)) (pkr z z (fun w hst => x_field z underlying73 z sizeOf71 z) (pkr z z (fun w hst => z) (pkr z z (fun w hst => x_load z isAgg60 (hst.bc9 z)) (pkr z z (fun w hst => x_load z isAgg60 (hst.bc9 z)) (pkr z z (fun w hst => x_load z isAgg60 (hst.bc9 z)) pk_nil)))))) ?_
 refine ws_e1 15 (by kernel_rfl) ?_
 refine nxe [16, 17, 18, 19, 20, 21] (by kernel_rfl) z z ?_
 clear hst
 intro w hst
 obtain ⟨hg7047, hm⟩ := gd_some hm
 replace hst := hst.pull6
 obtain ⟨v7048, w7049, hr7050, hst⟩ := run_append elem_71 underlying71 hst hst.src1 (room_of hg7047 z) 71
 refine we_run (v := v7048) (w' := w7049) z (x_append z z hr7050) ?_
 refine ws_next (pend' := [(1, Pt b7011 0), (0, Pt b7011 0)]) hst (by kernel_rfl) (pkr z z (fun w hst => x_load z isAgg60 (hst.bc9 z)) (pkr z z (fun w hst => x_load z isAgg60 (hst.bc9 z)) pk_nil)) ?_
 refine wsr (Pt b7011 0) 16 z z z (by kernel_rfl) (fun w hst => z) (wsr (Pt b7011 2) 17 z z z (by kernel_rfl) (fun w hst => x_field z underlying73 z sizeOf71 z) ?_)
 refine ws_e1 18 (by kernel_rfl) ?_
 refine nxe [19, 20, 21] (by kernel_rfl) z z ?_
 clear hst
 intro w hst
 replace hst := hst.pull4
 obtain ⟨w7052, hr7053, hst⟩ := hst.boxStore1 (P := prog) (t := 71) (cs' := [v7012, v7014, v7034, v7018, v7020, v7022]) 2 v7034 (one_of_sliceV hst.sv3) sizeOf71 z z
 refine we_unit z (x_unit hr7053) ?_
 refine ws_next (pend' := [(1, Pt b7011 0)]) hst (by kernel_rfl) (pkr z z (fun w hst => x_load z isAgg60 (hst.bc9 z)) pk_nil) ?_
 refine wsr (Pt b7011 0) 19 z z z (by kernel_rfl) (fun w hst => z) (wsr (Pt b7011 3) 20 z z z (by kernel_rfl) (fun w hst => x_field z underlying73 z sizeOf71 z) ?_)
 refine ws_e1 21 (by kernel_rfl) ?_
 refine nxe [] (by kernel_rfl) z z ?_
 clear hst
 intro w hst
 obtain ⟨w7054, hr7055, hst⟩ := hst.boxStore1 (P := prog) (t := 71) (cs' := [v7012, v7014, v7034, v7048, v7020, v7022]) 3 v7048 (one_of_sliceV hst.sv1) sizeOf71 z z
 refine we_unit z (x_unit hr7055) ?_
 refine ws_next (pend' := []) hst (by kernel_rfl) pk_nil ?_
 refine ws_nil ?_
 intro w hst
 refine ⟨z, ?_⟩
 replace hst := hst.pull8.pull8.pull3.pull5.pull8.pull8.pull6
 replace hst := at_label_Lattice_close (pv := Pt b7011 0) (x := ({ up := z6684.up, down := z6684.down, join := (z6684.join ++ ([z7002])), meet := (z6684.meet ++ ([z7005])), rank := z6684.rank, all := z6684.all } : label_Lattice)) hst z
 replace hst := hst.pull3.keep2
 obtain rfl := some_inj hm
 exact ⟨_, _, hx7115, (fu 4 (.int .i64 ((a0).length : Int)) z (fu 5 (Pt b5491 0) z (fu 9 (.int .i64 z6685) z (fu 67 (.int .i64 ((a0).length : Int)) z (fu 68 (.int .i64 z6685) z z))))), hL7116, hst⟩
}
 {
 refine nxe [8, 15, 16, 17, 18, 19, 20, 21] (by kernel_rfl) z z ?_
 clear hst
 intro w hst
 replace hst := hst.pull9
 obtain ⟨I7057, hI7058, f7059, hst⟩ := hst.own_fix
 replace f0_0 := f0_0.mono (rd_le hI7058)
 replace f7027 := f7027.mono (ro_le hI7058)
 replace hI0 := hI0.trans hI7058
 replace hL7150 := hL7150.trans hI7058
 replace hL6690 := hL6690.trans hI7058
 replace hL7116 := hL7116.trans hI7058
 obtain ⟨b7060, w7061, ew7062, eb7063, hst⟩ := hst.lits (E := (tySl (tyInt .i64))) (xs := [z7005]) [[v7004]] 46 1 z (Reps.cons ⟨_, z, f7059, one_of_sliceV (ro_sliceV f7059)⟩ Reps.nil)
 refine we_run (v := (.slice (some ⟨b7060, 0, none⟩) 1 1)) (w' := w7061) z (x_als (by obtain ⟨_, _, hv_, _⟩ := (ro_sliceV f7059); rw [hv_]; kernel_rfl) ew7062 eb7063) ?_
 refine ws_next (pend' := [(12, v7018), (11, Pt b7011 3), (10, Pt b7011 0), (9, Pt b7011 0), (5, v7016), (4, Pt b7011 2), (3, Pt b7011 0), (2, Pt b7011 0), (1, Pt b7011 0), (0, Pt b7011 0)]) hst (by kernel_rfl) (pkr z z (fun w hst => x_load z isAgg71 (hst.bc2 z)) (pkr z z (fun w hst => x_field z underlying73 z sizeOf71 z) (pkr z z (fun w hst => z) (pkr z z (fun w hst => x_load z isAgg60 (hst.bc9 z)) (pkr z z (fun w hst => x_load z isAgg71 (hst.bc2 z)) (pkr z z (fun w hst => x_field z underlying73 z sizeOf71 z) (pkr z z (fun w hst => z) (pkr z z (fun w hst => x_load z isAgg60 (hst.bc9 z)) (pkr z z (fun w hst => x_load z isAgg60 (hst.bc9 z)) (pkr z z (fun w hst => x_load z isAgg60 (hst.bc9 z)) pk_nil)))))))))) ?_
 refine ws_e1 8 (by kernel_rfl) ?_
 refine nxe [15, 16, 17, 18, 19, 20, 21] (by kernel_rfl) z z ?_
 clear hst
 intro w hst
 obtain ⟨hg7065, hm⟩ := gd_some hm
 replace hst := hst.pull5
 obtain ⟨v7066, w7067, hr7068, hst⟩ := run_append elem_71 underlying71 hst hst.src2 (room_of hg7065 z) 71
 refine we_run (v := v7066) (w' := w7067) z (x_append z z hr7068) ?_
 refine ws_next (pend' := [(12, v7018), (11, Pt b7011 3), (10, Pt b7011 0), (9, Pt b7011 0), (1, Pt b7011 0), (0, Pt b7011 0)]) hst (by kernel_rfl) (pkr z z (fun w hst => x_load z isAgg71 (hst.bc3 z)) (pkr z z (fun w hst => x_field z underlying73 z sizeOf71 z) (pkr z z (fun w hst => z) (pkr z z (fun w hst => x_load z isAgg60 (hst.bc9 z)) (pkr z z (fun w hst => x_load z isAgg60 (hst.bc9 z)) (pkr z z (fun w hst => x_load z isAgg60 (hst.bc9 z)) pk_nil)))))) ?_
 refine ws_e1 15 (by kernel_rfl) ?_
 refine nxe [16, 17, 18, 19, 20, 21] (by kernel_rfl) z z ?_
 clear hst
 intro w hst
 obtain ⟨hg7070, hm⟩ := gd_some hm
 replace hst := hst.pull6
 obtain ⟨v7071, w7072, hr7073, hst⟩ := run_append elem_71 underlying71 hst hst.src2 (room_of hg7070 z) 71
 refine we_run (v := v7071) (w' := w7072) z (x_append z z hr7073) ?_
 refine ws_next (pend' := [(1, Pt b7011 0), (0, Pt b7011 0)]) hst (by kernel_rfl) (pkr z z (fun w hst => x_load z isAgg60 (hst.bc9 z)) (pkr z z (fun w hst => x_load z isAgg60 (hst.bc9 z)) pk_nil)) ?_
 refine wsr (Pt b7011 0) 16 z z z (by kernel_rfl) (fun w hst => z) (wsr (Pt b7011 2) 17 z z z (by kernel_rfl) (fun w hst => x_field z underlying73 z sizeOf71 z) ?_)
 refine ws_e1 18 (by kernel_rfl) ?_
 refine nxe [19, 20, 21] (by kernel_rfl) z z ?_
 clear hst
 intro w hst
 replace hst := hst.pull4
 obtain ⟨w7075, hr7076, hst⟩ := hst.boxStore1 (P := prog) (t := 71) (cs' := [v7012, v7014, v7066, v7018, v7020, v7022]) 2 v7066 (one_of_sliceV hst.sv2) sizeOf71 z z
 refine we_unit z (x_unit hr7076) ?_
 refine ws_next (pend' := [(1, Pt b7011 0)]) hst (by kernel_rfl) (pkr z z (fun w hst => x_load z isAgg60 (hst.bc9 z)) pk_nil) ?_
 refine wsr (Pt b7011 0) 19 z z z (by kernel_rfl) (fun w hst => z) (wsr (Pt b7011 3) 20 z z z (by kernel_rfl) (fun w hst => x_field z underlying73 z sizeOf71 z) ?_)
 refine ws_e1 21 (by kernel_rfl) ?_
 refine nxe [] (by kernel_rfl) z z ?_
 clear hst
 intro w hst
 obtain ⟨w7077, hr7078, hst⟩ := hst.boxStore1 (P := prog) (t := 71) (cs' := [v7012, v7014, v7066, v7071, v7020, v7022]) 3 v7071 (one_of_sliceV hst.sv1) sizeOf71 z z
 refine we_unit z (x_unit hr7078) ?_
 refine ws_next (pend' := []) hst (by kernel_rfl) pk_nil ?_
 refine ws_nil ?_
 intro w hst
 refine ⟨z, ?_⟩
 replace hst := hst.pull8.pull8.pull3.pull4.pull8.pull8.pull6
 replace hst := at_label_Lattice_close (pv := Pt b7011 0) (x := ({ up := z6684.up, down := z6684.down, join := (z6684.join ++ ([z7002])), meet := (z6684.meet ++ ([z7005])), rank := z6684.rank, all := z6684.all } : label_Lattice)) hst z
 replace hst := hst.pull3.keep2
 obtain rfl := some_inj hm
 exact ⟨_, _, hx7115, (fu 4 (.int .i64 ((a0).length : Int)) z (fu 5 (Pt b5491 0) z (fu 9 (.int .i64 z6685) z (fu 67 (.int .i64 ((a0).length : Int)) z (fu 68 (.int .i64 z6685) z z))))), hL7116, hst⟩
}
}
 {
 refine nxe [7, 8, 15, 16, 17, 18, 19, 20, 21] (by kernel_rfl) z z ?_
 clear hst
 intro w hst
 replace hst := hst.pull9
 obtain ⟨I7080, hI7081, f7082, hst⟩ := hst.own_fix
 replace f0_0 := f0_0.mono (rd_le hI7081)
 replace hI0 := hI0.trans hI7081
 replace hL7150 := hL7150.trans hI7081
 replace hL6690 := hL6690.trans hI7081
 replace hL7116 := hL7116.trans hI7081
 obtain ⟨b7083, w7084, ew7085, eb7086, hst⟩ := hst.lits (E := (tySl (tyInt .i64))) (xs := [z7005]) [[v7004]] 46 1 z (Reps.cons ⟨_, z, f7082, one_of_sliceV (ro_sliceV f7082)⟩ Reps.nil)
 refine we_run (v := (.slice (some ⟨b7083, 0, none⟩) 1 1)) (w' := w7084) z (x_als (by obtain ⟨_, _, hv_, _⟩ := (ro_sliceV f7082); rw [hv_]; kernel_rfl) ew7085 eb7086) ?_
 refine ws_next (pend' := [(12, v7018), (11, Pt b7011 3), (10, Pt b7011 0), (9, Pt b7011 0), (6, v7001), (5, v7016), (4, Pt b7011 2), (3, Pt b7011 0), (2, Pt b7011 0), (1, Pt b7011 0), (0, Pt b7011 0)]) hst (by kernel_rfl) (pkr z z (fun w hst => x_load z isAgg71 (hst.bc1 z)) (pkr z z (fun w hst => x_field z underlying73 z sizeOf71 z) (pkr z z (fun w hst => z) (pkr z z (fun w hst => x_load z isAgg60 (hst.bc8 z)) (pkr z z (fun w hst => z) (pkr z z (fun w hst => x_load z isAgg71 (hst.bc1 z)) (pkr z z (fun w hst => x_field z underlying73 z sizeOf71 z) (pkr z z (fun w hst => z) (pkr z z (fun w hst => x_load z isAgg60 (hst.bc8 z)) (pkr z z (fun w hst => x_load z isAgg60 (hst.bc8 z)) (pkr z z (fun w hst => x_load z isAgg60 (hst.bc8 z)) pk_nil))))))))))) ?_
 refine ws_e1 7 (by kernel_rfl) ?_
 refine nxe [8, 15, 16, 17, 18, 19, 20, 21] (by kernel_rfl) z z ?_
 clear hst
 intro w hst
 replace hst := hst.pull9
 obtain ⟨I7089, hI7090, f7091, hst⟩ := hst.own_fix
 replace f0_0 := f0_0.mono (rd_le hI7090)
 replace f7082 := f7082.mono (ro_le hI7090)
 replace hI0 := hI0.trans hI7090
 replace hL7150 := hL7150.trans hI7090
 replace hL6690 := hL6690.trans hI7090
 replace hL7116 := hL7116.trans hI7090
 obtain ⟨b7092, w7093, ew7094, eb7095, hst⟩ := hst.lits (E := (tySl (tyInt .i64))) (xs := [z7002]) [[v7001]] 46 1 z (Reps.cons ⟨_, z, f7091, one_of_sliceV (ro_sliceV f7091)⟩ Reps.nil)
 refine we_run (v := (.slice (some ⟨b7092, 0, none⟩) 1 1)) (w' := w7093) z (x_als (by obtain ⟨_, _, hv_, _⟩ := (ro_sliceV f7091); rw [hv_]; kernel_rfl) ew7094 eb7095) ?_
 refine ws_next (pend' := [(12, v7018), (11, Pt b7011 3), (10, Pt b7011 0), (9, Pt b7011 0), (5, v7016), (4, Pt b7011 2), (3, Pt b7011 0), (2, Pt b7011 0), (1, Pt b7011 0), (0, Pt b7011 0)]) hst (by kernel_rfl) (pkr z z (fun w hst => x_load z isAgg71 (hst.bc2 z)) (pkr z z (fun w hst => x_field z underlying73 z sizeOf71 z) (pkr z z (fun w hst => z) (pkr z z (fun w hst => x_load z isAgg60 (hst.bc9 z)) (pkr z z (fun w hst => x_load z isAgg71 (hst.bc2 z)) (pkr z z (fun w hst => x_field z underlying73 z sizeOf71 z) (pkr z z (fun w hst => z) (pkr z z (fun w hst => x_load z isAgg60 (hst.bc9 z)) (pkr z z (fun w hst => x_load z isAgg60 (hst.bc9 z)) (pkr z z (fun w hst => x_load z isAgg60 (hst.bc9 z)) pk_nil)))))))))) ?_
 refine ws_e1 8 (by kernel_rfl) ?_
 refine nxe [15, 16, 17, 18, 19, 20, 21] (by kernel_rfl) z z ?_
 clear hst
 intro w hst
 obtain ⟨hg7097, hm⟩ := gd_some hm
 replace hst := hst.pull5
 obtain ⟨v7098, w7099, hr7100, hst⟩ := run_append elem_71 underlying71 hst hst.src1 (room_of hg7097 z) 71
 refine we_run (v := v7098) (w' := w7099) z (x_append z z hr7100) ?_
 refine ws_next (pend' := [(12, v7018), (11, Pt b7011 3), (10, Pt b7011 0), (9, Pt b7011 0), (1, Pt b7011 0), (0, Pt b7011 0)]) hst (by kernel_rfl) (pkr z z (fun w hst => x_load z isAgg71 (hst.bc3 z)) (pkr z z (fun w hst => x_field z underlying73 z sizeOf71 z) (pkr z z (fun w hst => z) (pkr z z (fun w hst => x_load z isAgg60 (hst.bc9 z)) (pkr z z (fun w hst => x_load z isAgg60 (hst.bc9 z)) (pkr z z (fun w hst => x_load z isAgg60 (hst.bc9 z)) pk_nil)))))) ?_
 refine ws_e1 15 (by kernel_rfl) ?_
 refine nxe [16, 17, 18, 19, 20, 21] (by kernel_rfl) z z ?_
 clear hst
 intro w hst
 obtain ⟨hg7102, hm⟩ := gd_some hm
 replace hst := hst.pull6
 obtain ⟨v7103, w7104, hr7105, hst⟩ := run_append elem_71 underlying71 hst hst.src3 (room_of hg7102 z) 71
 refine we_run (v := v7103) (w' := w7104) z (x_append z z hr7105) ?_
 refine ws_next (pend' := [(1, Pt b7011 0), (0, Pt b7011 0)]) hst (by kernel_rfl) (pkr z z (fun w hst => x_load z isAgg60 (hst.bc9 z)) (pkr z z (fun w hst => x_load z isAgg60 (hst.bc9 z)) pk_nil)) ?_
 refine wsr (Pt b7011 0) 16 z z z (by kernel_rfl) (fun w hst => z) (wsr (Pt b7011 2) 17 z z z (by kernel_rfl) (fun w hst => x_field z underlying73 z sizeOf71 z) ?_)
 refine ws_e1 18 (by kernel_rfl) ?_
 refine nxe [19, 20, 21] (by kernel_rfl) z z ?_
 clear hst
 intro w hst
 replace hst := hst.pull4
 obtain ⟨w7107, hr7108, hst⟩ := hst.boxStore1 (P := prog) (t := 71) (cs' := [v7012, v7014, v7098, v7018, v7020, v7022]) 2 v7098 (one_of_sliceV hst.sv2) sizeOf71 z z
 refine we_unit z (x_unit hr7108) ?_
 refine ws_next (pend' := [(1, Pt b7011 0)]) hst (by kernel_rfl) (pkr z z (fun w hst => x_load z isAgg60 (hst.bc9 z)) pk_nil) ?_
 refine wsr (Pt b7011 0) 19 z z z (by kernel_rfl) (fun w hst => z) (wsr (Pt b7011 3) 20 z z z (by kernel_rfl) (fun w hst => x_field z underlying73 z sizeOf71 z) ?_)
 refine ws_e1 21 (by kernel_rfl) ?_
 refine nxe [] (by kernel_rfl) z z ?_
 clear hst
 intro w hst
 obtain ⟨w7109, hr7110, hst⟩ := hst.boxStore1 (P := prog) (t := 71) (cs' := [v7012, v7014, v7098, v7103, v7020, v7022]) 3 v7103 (one_of_sliceV hst.sv1) sizeOf71 z z
 refine we_unit z (x_unit hr7110) ?_
 refine ws_next (pend' := []) hst (by kernel_rfl) pk_nil ?_
 refine ws_nil ?_
 intro w hst
 refine ⟨z, ?_⟩
 replace hst := hst.pull8.pull8.pull3.pull4.pull8.pull8.pull6
 replace hst := at_label_Lattice_close (pv := Pt b7011 0) (x := ({ up := z6684.up, down := z6684.down, join := (z6684.join ++ ([z7002])), meet := (z6684.meet ++ ([z7005])), rank := z6684.rank, all := z6684.all } : label_Lattice)) hst z
 replace hst := hst.pull3.keep2
 obtain rfl := some_inj hm
 exact ⟨_, _, hx7115, (fu 4 (.int .i64 ((a0).length : Int)) z (fu 5 (Pt b5491 0) z (fu 9 (.int .i64 z6685) z (fu 67 (.int .i64 ((a0).length : Int)) z (fu 68 (.int .i64 z6685) z z))))), hL7116, hst⟩
}
}
 {
 clear hst
 rintro _ w7117 ⟨I7111, σ7112, hm, rfl, hL7113, hst⟩
 dsimp only [label_New_j8] at hm
 replace f0_0 := f0_0.mono (rd_le hL7113)
 replace hI0 := hI0.trans hL7113
 replace hL7150 := hL7150.trans hL7113
 replace hL6690 := hL6690.trans hL7113
 refine tn ?_
 replace hst := hst.pull1
 obtain ⟨b7118, v7119, v7121, v7123, v7125, v7127, v7129, e7131, hst'⟩ := at_label_Lattice_open hst
 clear hst
 have e7131 := ptr_inj e7131
 subst e7131
 have hst := hst'
 clear hst'
 refine wp_region_St hst 11 [0, 1, 2, 3, 4, 5, 6, 7, 8, 9, 10] [0, 0, 2, 6, 14, 0, 32, 126, 255, 511, 1023] [] z (by kernel_rfl) (by kernel_rfl) Try.mixed (by kernel_rfl) ?_
 refine wsr (Pt b7011 0) 0 z z z (by kernel_rfl) (fun w hst => x_load z isAgg60 (hst.bc7 z)) (wsr (Pt b7011 0) 1 z z z (by kernel_rfl) (fun w hst => x_load z isAgg60 (hst.bc7 z)) (wsr (Pt b7011 0) 2 z z z (by kernel_rfl) (fun w hst => z) (wsr (Pt b7011 5) 3 z z z (by kernel_rfl) (fun w hst => x_field z underlying73 z sizeOf46 z) (wsr (v7129) 4 z z z (by kernel_rfl) (fun w hst => x_load z isAgg46 (hst.bc0 z)) (wsr (.int .i64 z6685) 5 z z z (by kernel_rfl) (fun w hst => z) ?_)))))
 refine ws_e1 6 (by kernel_rfl) ?_
 refine nxe [7, 8, 9, 10] (by kernel_rfl) z z ?_
 clear hst
 intro w hst
 obtain ⟨b7132, w7133, ew7134, eb7135, hst⟩ := hst.lits (E := (tyInt .i64)) (xs := [z6685]) [[I6 z6685]] 3 1 z (Reps.cons z Reps.nil)
 refine we_run (v := (.slice (some ⟨b7132, 0, none⟩) 1 1)) (w' := w7133) z (x_als (by kernel_rfl) ew7134 eb7135) ?_
 refine ws_next (pend' := [(4, v7129), (3, Pt b7011 5), (2, Pt b7011 0), (1, Pt b7011 0), (0, Pt b7011 0)]) hst (by kernel_rfl) (pkr z z (fun w hst => x_load z isAgg46 (hst.bc1 z)) (pkr z z (fun w hst => x_field z underlying73 z sizeOf46 z) (pkr z z (fun w hst => z) (pkr z z (fun w hst => x_load z isAgg60 (hst.bc8 z)) (pkr z z (fun w hst => x_load z isAgg60 (hst.bc8 z)) pk_nil))))) ?_
 refine ws_e1 7 (by kernel_rfl) ?_
 refine nxe [8, 9, 10] (by kernel_rfl) z z ?_
 clear hst
 intro w hst
 obtain ⟨hg7137, hm⟩ := gd_some hm
 replace hst := hst.pull7
 obtain ⟨v7138, w7139, hr7140, hst⟩ := run_append elem_46 underlying46 hst hst.src1 (room_of hg7137 z) 46
 refine we_run (v := v7138) (w' := w7139) z (x_append z z hr7140) ?_
 refine ws_next (pend' := [(0, Pt b7011 0)]) hst (by kernel_rfl) (pkr z z (fun w hst => x_load z isAgg60 (hst.bc8 z)) pk_nil) ?_
 refine wsr (Pt b7011 0) 8 z z z (by kernel_rfl) (fun w hst => z) (wsr (Pt b7011 5) 9 z z z (by kernel_rfl) (fun w hst => x_field z underlying73 z sizeOf46 z) ?_)
 refine ws_e1 10 (by kernel_rfl) ?_
 refine nxe [] (by kernel_rfl) z z ?_
 clear hst
 intro w hst
 replace hst := hst.pull2
 obtain ⟨w7142, hr7143, hst⟩ := hst.boxStore1 (P := prog) (t := 46) (cs' := [v7119, v7121, v7123, v7125, v7127, v7138]) 5 v7138 (one_of_sliceV hst.sv1) sizeOf46 z z
 refine we_unit z (x_unit hr7143) ?_
 refine ws_next (pend' := []) hst (by kernel_rfl) pk_nil ?_
 refine ws_nil ?_
 intro w hst
 refine blk_n (tn (wrl ?_))
 refine wv (.int .i64 (i64.wrap (z6685 + (1:Int)))) z z z (wv (.int .i64 (i64.wrap (z6685 + (1:Int)))) z z z (wl_nil (tn ?_)))
 replace hst := hst.pull1.pull7.pull7.pull7.pull7.pull7.pull6
 replace hst := at_label_Lattice_close (pv := Pt b7011 0) (x := ({ up := ({ up := z6684.up, down := z6684.down, join := (z6684.join ++ ([z7002])), meet := (z6684.meet ++ ([z7005])), rank := z6684.rank, all := z6684.all } : label_Lattice).up, down := ({ up := z6684.up, down := z6684.down, join := (z6684.join ++ ([z7002])), meet := (z6684.meet ++ ([z7005])), rank := z6684.rank, all := z6684.all } : label_Lattice).down, join := ({ up := z6684.up, down := z6684.down, join := (z6684.join ++ ([z7002])), meet := (z6684.meet ++ ([z7005])), rank := z6684.rank, all := z6684.all } : label_Lattice).join, meet := ({ up := z6684.up, down := z6684.down, join := (z6684.join ++ ([z7002])), meet := (z6684.meet ++ ([z7005])), rank := z6684.rank, all := z6684.all } : label_Lattice).meet, rank := ({ up := z6684.up, down := z6684.down, join := (z6684.join ++ ([z7002])), meet := (z6684.meet ++ ([z7005])), rank := z6684.rank, all := z6684.all } : label_Lattice).rank, all := ((({ up := z6684.up, down := z6684.down, join := (z6684.join ++ ([z7002])), meet := (z6684.meet ++ ([z7005])), rank := z6684.rank, all := z6684.all } : label_Lattice).all) ++ ([z6685])) } : label_Lattice)) hst z
 replace hst := hst.pull2.keep2
 obtain rfl := some_inj hm
 exact ⟨_, Nat.lt_succ_self _, _, ({ up := ({ up := z6684.up, down := z6684.down, join := (z6684.join ++ ([z7002])), meet := (z6684.meet ++ ([z7005])), rank := z6684.rank, all := z6684.all } : label_Lattice).up, down := ({ up := z6684.up, down := z6684.down, join := (z6684.join ++ ([z7002])), meet := (z6684.meet ++ ([z7005])), rank := z6684.rank, all := z6684.all } : label_Lattice).down, join := ({ up := z6684.up, down := z6684.down, join := (z6684.join ++ ([z7002])), meet := (z6684.meet ++ ([z7005])), rank := z6684.rank, all := z6684.all } : label_Lattice).join, meet := ({ up := z6684.up, down := z6684.down, join := (z6684.join ++ ([z7002])), meet := (z6684.meet ++ ([z7005])), rank := z6684.rank, all := z6684.all } : label_Lattice).meet, rank := ({ up := z6684.up, down := z6684.down, join := (z6684.join ++ ([z7002])), meet := (z6684.meet ++ ([z7005])), rank := z6684.rank, all := z6684.all } : label_Lattice).rank, all := ((({ up := z6684.up, down := z6684.down, join := (z6684.join ++ ([z7002])), meet := (z6684.meet ++ ([z7005])), rank := z6684.rank, all := z6684.all } : label_Lattice).all) ++ ([z6685])) } : label_Lattice), (i64.wrap (z6685 + (1:Int))), _, hx6693, (fu 4 (.int .i64 ((a0).length : Int)) z (fu 5 (Pt b5491 0) z (fu 67 (.int .i64 ((a0).length : Int)) z (fu 68 (.int .i64 (i64.wrap (z6685 + (1:Int)))) z z)))), hL6690, hst⟩
}
}
}
 {
 replace hm := bif_f hc6695 hm
 refine wp_iff (cvb hc6695) ?_
 refine wp_exit (then_x (then_x ?_))
 replace hm := inr_up hm hx6693
 refine blk_x (tn ?_)
 replace hst := hst.pull1.pull1.keep2
 obtain rfl := some_inj hm
 exact ⟨_, z6684, _, hx7149, (fu 5 (Pt b5491 0) z z), hL7150, hst⟩
}
}
 {
 clear hst
 rintro _ w7151 ⟨I7145, z7144, σ7146, hm, rfl, hL7147, hst⟩
 dsimp only [label_New_j4] at hm
 replace f0_0 := f0_0.mono (rd_le hL7147)
 replace hI0 := hI0.trans hL7147
 refine wp_seq (wrl (wv (v5493) z z (x_load z isAgg60 (hst.bc0 z)) ?_))
 replace hst := hst.pull1
 obtain ⟨b7152, v7153, v7155, v7157, v7159, v7161, v7163, rfl, hst'⟩ := at_label_Lattice_open hst
 clear hst
 have hst := hst'
 clear hst'
 refine wv (Pt b7152 0) z z z (wv (Pt b7152 5) z z (x_field z underlying73 z sizeOf46 z) (wv (v7163) z z (x_load z isAgg46 (hst.bc0 z)) (wv (.func (.func 48) #[] #[Pt b5491 0]) z z (by kernel_rfl) ?_)))
 obtain ⟨y9461, hq9462, hm⟩ := bind_some hm
 refine wl_call z z (x_callv call47 (caps := []) z (vs := [v7163, .func (.func 48) #[] #[Pt b5491 0]]) z) ?_
 refine Calls.mono (show Calls prog 47 #[v7163, .func (.func 48) #[] #[Pt b5491 0]] _ (fun e w' => ∃ (z9459 : (List Int)), z9459 = y9461 ∧ e = .returned (.tuple #[]) ∧ St w0 w' I7145 [cells b5491 [Pt b7152 0], cells b7152 [v7153, v7155, v7157, v7159, v7161, v7163], ownS (tyInt .u64) v7153 z7144.up, ownS (tyInt .u64) v7155 z7144.down, ownS (tySl (tyInt .i64)) v7157 z7144.join, ownS (tySl (tyInt .i64)) v7159 z7144.meet, ownS (tyInt .i64) v7161 z7144.rank, ownS (tyInt .i64) v7163 z9459] R) from ?_) ?_
 {
 clear hm; have hm := hq9462
 refine calls_start (args := [v7163, .func (.func 48) #[] #[Pt b5491 0]]) func47 z ntmps47 (Nat.le_of_ble_eq_true z) ?_
 refine wrl (wv (v7163) z z z (wv (v7163) z z z (wv (.int .i64 ((z7144.all).length : Int)) z z (x_len z underlying46 hst.sv6) (wv (.func (.func 48) #[] #[Pt b5491 0]) z z z ?_))))
 obtain ⟨y9456, hq9457, hm⟩ := bind_some hm
 refine wl_call z z (x_callv call56 (caps := []) z (vs := [v7163, I6 ((z7144.all).length : Int), .func (.func 48) #[] #[Pt b5491 0]]) z) ?_
 refine Calls.mono (show Calls prog 56 #[v7163, I6 ((z7144.all).length : Int), .func (.func 48) #[] #[Pt b5491 0]] _ (fun e w' => ∃ (z9454 : (List Int)), z9454 = y9456 ∧ e = .returned (.tuple #[]) ∧ St w0 w' I7145 [cells b5491 [Pt b7152 0], cells b7152 [v7153, v7155, v7157, v7159, v7161, v7163], ownS (tyInt .u64) v7153 z7144.up, ownS (tyInt .u64) v7155 z7144.down, ownS (tySl (tyInt .i64)) v7157 z7144.join, ownS (tySl (tyInt .i64)) v7159 z7144.meet, ownS (tyInt .i64) v7161 z7144.rank, ownS (tyInt .i64) v7163 z9454] R) from ?_) ?_
 {
 clear hm; have hm := hq9457
 refine calls_start (args := [v7163, I6 ((z7144.all).length : Int), .func (.func 48) #[] #[Pt b5491 0]]) func56 z ntmps56 (Nat.le_of_ble_eq_true z) ?_
 refine wp_seq (wrl (wv (.int .i64 (20:Int)) z z z (wl_nil (tn (wp_seq (wrl (wv (.int .i64 (20:Int)) z z z (wv (.int .i64 (0:Int)) z z z (wv (.int .i64 (20:Int)) z z z (wl_nil (tn ?_)))))))))))
 obtain ⟨y8839, hm, hx8840⟩ := bind_some hm
 refine wp_cut (fun a w => ∃ (z8835 : (List Int)) (z8836 : Int) (σ8837 : Nat → Value), (label_New_j9 z7144) (z8835, z8836) = some y9456 ∧ a = Fr 63 (upd (upd (upd (upd (upd σ8837 0 (v7163)) 1 (.int .i64 ((z7144.all).length : Int))) 2 (.func (.func 48) #[] #[Pt b5491 0])) 6 (.int .i64 (20:Int))) 7 (.int .i64 z8836)) ∧ St w0 w I7145 [ownS (tyInt .i64) v7163 z8835, cells b5491 [Pt b7152 0], cells b7152 [v7153, v7155, v7157, v7159, v7161, v7163], ownS (tyInt .u64) v7153 z7144.up, ownS (tyInt .u64) v7155 z7144.down, ownS (tySl (tyInt .i64)) v7157 z7144.join, ownS (tySl (tyInt .i64)) v7159 z7144.meet, ownS (tyInt .i64) v7161 z7144.rank] R) ?_ ?_
 {
 refine wp_block ?_
 obtain ⟨n8276, hm⟩ := loopO_some hm
 refine wp_loop_n (fun n a w => ∃ (z8272 : Int) (z8273 : Int) (z8274 : (List Int)) (σ8275 : Nat → Value), loopN (label_New_l10 z7144) n (z8272, z8273, z8274) = some y8839 ∧ a = Fr 63 (upd (upd (upd (upd (upd (upd σ8275 0 (v7163)) 1 (.int .i64 ((z7144.all).length : Int))) 2 (.func (.func 48) #[] #[Pt b5491 0])) 6 (.int .i64 (20:Int))) 7 (.int .i64 z8272)) 8 (.int .i64 z8273)) ∧ St w0 w I7145 [cells b7152 [v7153, v7155, v7157, v7159, v7161, v7163], ownS (tyInt .u64) v7153 z7144.up, ownS (tyInt .u64) v7155 z7144.down, ownS (tySl (tyInt .i64)) v7157 z7144.join, ownS (tySl (tyInt .i64)) v7159 z7144.meet, ownS (tyInt .i64) v7161 z7144.rank, ownS (tyInt .i64) v7163 z8274, cells b5491 [Pt b7152 0]] R) n8276 ⟨(0:Int), (20:Int), z7144.all, _, hm, (fu 0 v7163 z (fu 1 (.int .i64 ((z7144.all).length : Int)) z (fu 2 (.func (.func 48) #[] #[Pt b5491 0]) z (fu 6 (.int .i64 (20:Int)) z (fu 7 (.int .i64 (0:Int)) z (fu 8 (.int .i64 (20:Int)) z z)))))), hst⟩ ?_
 rintro n8282 _ w8277 ⟨z8272, z8273, z8274, σ8275, hm, rfl, hst⟩
 obtain ⟨n8279, y8280, rfl, hm, hx8281⟩ := loopN_some hm
 dsimp only [label_New_l10] at hm
 refine wp_seq (wp_seq (wrl (wv (.int .i64 z8273) z z z (wv (.int .i64 ((z7144.all).length : Int)) z z z (wv (.bool (decide (z8273 ≤ ((z7144.all).length : Int)))) z z z (wl_nil (tn ?_)))))))
 refine bsplit (decide (z8273 ≤ ((z7144.all).length : Int))) (fun hc8283 => ?_) (fun hc8283 => ?_)
 {
 replace hm := bif_t hc8283 hm
 refine wp_ift (cvb hc8283) ?_
 refine wp_skip (tn (wp_block (wp_seq (wrl ?_))))
 refine wv (v7163) z z z (wv (.int .i64 z8272) z z z (wv (.int .i64 z8273) z z z (wv (.func (.func 48) #[] #[Pt b5491 0]) z z z ?_)))
 obtain ⟨y8832, hq8833, hm⟩ := bind_some hm
 refine wl_call z z (x_callv call59 (caps := []) z (vs := [v7163, I6 z8272, I6 z8273, .func (.func 48) #[] #[Pt b5491 0]]) z) ?_
 refine Calls.mono (show Calls prog 59 #[v7163, I6 z8272, I6 z8273, .func (.func 48) #[] #[Pt b5491 0]] _ (fun e w' => ∃ (z8830 : (List Int)), z8830 = y8832 ∧ e = .returned (.tuple #[]) ∧ St w0 w' I7145 [cells b5491 [Pt b7152 0], cells b7152 [v7153, v7155, v7157, v7159, v7161, v7163], ownS (tyInt .u64) v7153 z7144.up, ownS (tyInt .u64) v7155 z7144.down, ownS (tySl (tyInt .i64)) v7157 z7144.join, ownS (tySl (tyInt .i64)) v7159 z7144.meet, ownS (tyInt .i64) v7161 z7144.rank, ownS (tyInt .i64) v7163 z8830] R) from ?_) ?_
 {
 clear hm; have hm := hq8833
 refine calls_start (args := [v7163, I6 z8272, I6 z8273, .func (.func 48) #[] #[Pt b5491 0]]) func59 z ntmps59 (Nat.le_of_ble_eq_true z) ?_
 refine wp_seq (wrl (wv (.int .i64 z8272) z z z (wv (.int .i64 (i64.wrap (z8272 + (1:Int)))) z z z (wv (.int .i64 (i64.wrap (z8272 + (1:Int)))) z z z (wl_nil (tn (wp_block ?_)))))))
 obtain ⟨n8645, hm⟩ := loopO_some hm
 refine wp_loop_n (fun n a w => ∃ (z8642 : Int) (z8643 : (List Int)) (σ8644 : Nat → Value), loopN (label_New_l11 z8273 z8272 z7144) n (z8642, z8643) = some y8832 ∧ a = Fr 53 (upd (upd (upd (upd (upd σ8644 0 (v7163)) 1 (.int .i64 z8272)) 2 (.int .i64 z8273)) 3 (.func (.func 48) #[] #[Pt b5491 0])) 8 (.int .i64 z8642)) ∧ St w0 w I7145 [cells b7152 [v7153, v7155, v7157, v7159, v7161, v7163], ownS (tyInt .u64) v7153 z7144.up, ownS (tyInt .u64) v7155 z7144.down, ownS (tySl (tyInt .i64)) v7157 z7144.join, ownS (tySl (tyInt .i64)) v7159 z7144.meet, ownS (tyInt .i64) v7161 z7144.rank, ownS (tyInt .i64) v7163 z8643, cells b5491 [Pt b7152 0]] R) n8645 ⟨(i64.wrap (z8272 + (1:Int))), z8274, _, hm, (fu 0 v7163 z (fu 1 (.int .i64 z8272) z (fu 2 (.int .i64 z8273) z (fu 3 (.func (.func 48) #[] #[Pt b5491 0]) z (fu 8 (.int .i64 (i64.wrap (z8272 + (1:Int)))) z z))))), hst⟩ ?_
 rintro n8651 _ w8646 ⟨z8642, z8643, σ8644, hm, rfl, hst⟩
 obtain ⟨n8648, y8649, rfl, hm, hx8650⟩ := loopN_some hm
 dsimp only [label_New_l11] at hm
 refine wp_seq (wp_seq (wrl (wv (.int .i64 z8642) z z z (wv (.int .i64 z8273) z z z (wv (.bool (decide (z8642 < z8273))) z z z (wl_nil (tn ?_)))))))
 refine bsplit (decide (z8642 < z8273)) (fun hc8652 => ?_) (fun hc8652 => ?_)
 {
 replace hm := bif_t hc8652 hm
 refine wp_ift (cvb hc8652) ?_
 refine wp_skip (tn (wp_seq (wp_block (wp_seq (wrl ?_)))))
 refine wv (.int .i64 z8642) z z z (wv (.int .i64 z8642) z z z (wl_nil (tn (wp_block ?_))))
 obtain ⟨n8768, hm⟩ := loopO_some hm
 refine wp_loop_n (fun n a w => ∃ (z8765 : Int) (z8766 : (List Int)) (σ8767 : Nat → Value), loopN (label_New_l12 z8272 z7144 z8642) n (z8765, z8766) = some y8649 ∧ a = Fr 53 (upd (upd (upd (upd (upd (upd σ8767 0 (v7163)) 1 (.int .i64 z8272)) 2 (.int .i64 z8273)) 3 (.func (.func 48) #[] #[Pt b5491 0])) 8 (.int .i64 z8642)) 9 (.int .i64 z8765)) ∧ St w0 w I7145 [cells b7152 [v7153, v7155, v7157, v7159, v7161, v7163], ownS (tyInt .u64) v7153 z7144.up, ownS (tyInt .u64) v7155 z7144.down, ownS (tySl (tyInt .i64)) v7157 z7144.join, ownS (tySl (tyInt .i64)) v7159 z7144.meet, ownS (tyInt .i64) v7161 z7144.rank, ownS (tyInt .i64) v7163 z8766, cells b5491 [Pt b7152 0]] R) n8768 ⟨z8642, z8643, _, hm, (fu 0 v7163 z (fu 1 (.int .i64 z8272) z (fu 2 (.int .i64 z8273) z (fu 3 (.func (.func 48) #[] #[Pt b5491 0]) z (fu 8 (.int .i64 z8642) z (fu 9 (.int .i64 z8642) z z)))))), hst⟩ ?_
 rintro n8774 _ w8769 ⟨z8765, z8766, σ8767, hm, rfl, hst⟩
 obtain ⟨n8771, y8772, rfl, hm, hx8773⟩ := loopN_some hm
 dsimp only [label_New_l12] at hm
 refine wp_seq (wp_seq ?_)
 refine wp_region_St hst 17 [0, 1, 2, 3, 4, 5, 6, 7, 8, 9, 10, 11, 12, 13, 14, 15, 16] [0, 0, 3, 7, 15, 15, 15, 111, 239, 15, 15, 1039, 3599, 7695, 16383, 32767, 65535] [] z (by kernel_rfl) (by kernel_rfl) Try.mixed (by kernel_rfl) ?_
 refine wsr (.int .i64 z8765) 0 z z z (by kernel_rfl) (fun w hst => z) (wsr (.int .i64 z8272) 1 z z z (by kernel_rfl) (fun w hst => z) (wsr (.bool (decide (z8765 > z8272))) 2 z z z (by kernel_rfl) (fun w hst => z) (wsr (.bool (decide (z8765 > z8272))) 3 z z z (by kernel_rfl) (fun w hst => z) ?_)))
 refine bsplit (decide (z8765 > z8272)) (fun hc8775 => ?_) (fun hc8775 => ?_)
 {
 replace hm := bif_t hc8775 hm
 refine ws_q (v := .func (.func 48) #[] #[Pt b5491 0]) 4 [5, 6, 7, 8, 9, 10, 11, 12, 13, 14, 15, 16] (by kernel_rfl) z z (yi_run ((wanted_eq z z z (cvb hc8775)).trans z) (fun w hst => z)) (ws_q (v := v7163) 5 [6, 7, 8, 9, 10, 11, 12, 13, 14, 15, 16] (by kernel_rfl) z z (yi_run ((wanted_eq z z z (cvb hc8775)).trans z) (fun w hst => z)) (ws_q (v := .int .i64 z8765) 6 [7, 8, 9, 10, 11, 12, 13, 14, 15, 16] (by kernel_rfl) z z (yi_run ((wanted_eq z z z (cvb hc8775)).trans z) (fun w hst => z)) ?_))
 obtain ⟨x8776, hx8777, hm⟩ := bind_some hm
 obtain ⟨h8778, h8779, hi8780⟩ := geto_some hx8777
 refine ws_q (v := .pointer (some (eAddr v7163 (z8765.toNat * 1 + 0)))) 7 [8, 9, 10, 11, 12, 13, 14, 15, 16] (by kernel_rfl) z z (yi_run ((wanted_eq z z z (cvb hc8775)).trans z) (fun w hst => x_index z z underlying46 sizeOf3 hst.sv6 h8778 h8779)) (ws_q (v := .int .i64 x8776) 8 [9, 10, 11, 12, 13, 14, 15, 16] (by kernel_rfl) z z (yi_run ((wanted_eq z z z (cvb hc8775)).trans z) (fun w hst => x_load z isAgg3 (hst.ol6 hi8780 (by rintro _ rfl; rfl)))) (ws_q (v := v7163) 9 [10, 11, 12, 13, 14, 15, 16] (by kernel_rfl) z z (yi_run ((wanted_eq z z z (cvb hc8775)).trans z) (fun w hst => z)) (ws_q (v := .int .i64 z8765) 10 [11, 12, 13, 14, 15, 16] (by kernel_rfl) z z (yi_run ((wanted_eq z z z (cvb hc8775)).trans z) (fun w hst => z)) (ws_q (v := .int .i64 (i64.wrap (z8765 - (1:Int)))) 11 [12, 13, 14, 15, 16] (by kernel_rfl) z z (yi_run ((wanted_eq z z z (cvb hc8775)).trans z) (fun w hst => z)) ?_))))
 obtain ⟨x8781, hx8782, hm⟩ := bind_some hm
 obtain ⟨h8783, h8784, hi8785⟩ := geto_some hx8782
 refine ws_q (v := .pointer (some (eAddr v7163 ((i64.wrap (z8765 - (1:Int))).toNat * 1 + 0)))) 12 [13, 14, 15, 16] (by kernel_rfl) z z (yi_run ((wanted_eq z z z (cvb hc8775)).trans z) (fun w hst => x_index z z underlying46 sizeOf3 hst.sv6 h8783 h8784)) (ws_q (v := .int .i64 x8781) 13 [14, 15, 16] (by kernel_rfl) z z (yi_run ((wanted_eq z z z (cvb hc8775)).trans z) (fun w hst => x_load z isAgg3 (hst.ol6 hi8785 (by rintro _ rfl; rfl)))) ?_)
 refine ws_e1 14 (by kernel_rfl) ?_
 refine nxe [15, 16] (by kernel_rfl) z ((wanted_eq z z z (cvb hc8775)).trans z) ?_
 clear hst
 intro w hst
 obtain ⟨y8813, hq8814, hm⟩ := bind_some hm
 refine we_call z (x_callv call48 (caps := [Pt b5491 0]) z (vs := [I6 x8776, I6 x8781]) z) ?_
 refine Calls.mono (show Calls prog 48 #[I6 x8776, I6 x8781, Pt b5491 0] _ (fun e w' => ∃ (z8811 : Int), z8811 = y8813 ∧ e = .returned (.int .i64 z8811) ∧ St w0 w' I7145 [cells b5491 [Pt b7152 0], cells b7152 [v7153, v7155, v7157, v7159, v7161, v7163], ownS (tyInt .u64) v7153 z7144.up, ownS (tyInt .u64) v7155 z7144.down, ownS (tySl (tyInt .i64)) v7157 z7144.join, ownS (tySl (tyInt .i64)) v7159 z7144.meet, ownS (tyInt .i64) v7161 z7144.rank, ownS (tyInt .i64) v7163 z8766] R) from ?_) ?_
 {
 clear hm; have hm := hq8814
 refine calls_start (args := [I6 x8776, I6 x8781, Pt b5491 0]) func48 z ntmps48 (Nat.le_of_ble_eq_true z) ?_
 refine wp_seq (wrl (wv (.int .i64 (0:Int)) z z z (wl_nil (tn (wp_seq ?_)))))
 refine wp_region_St hst 18 [0, 1, 2, 3, 4, 5, 6, 7, 8, 9, 10, 11, 12, 13, 14, 15, 16, 17] [0, 1, 3, 7, 0, 31, 63, 127, 0, 256, 768, 1792, 0, 7936, 16128, 32767, 65535, 131071] [] z (by kernel_rfl) (by kernel_rfl) Try.mixed (by kernel_rfl) ?_
 refine wsr (Pt b7152 0) 0 z z z (by kernel_rfl) (fun w hst => x_load z isAgg60 (hst.bc7 z)) (wsr (Pt b7152 0) 1 z z z (by kernel_rfl) (fun w hst => z) (wsr (Pt b7152 1) 2 z z z (by kernel_rfl) (fun w hst => x_field z underlying73 z sizeOf25 z) (wsr (v7155) 3 z z z (by kernel_rfl) (fun w hst => x_load z isAgg25 (hst.bc0 z)) (wsr (.int .i64 x8776) 4 z z z (by kernel_rfl) (fun w hst => z) ?_))))
 obtain ⟨x8786, hx8787, hm⟩ := bind_some hm
 obtain ⟨h8788, h8789, hi8790⟩ := geto_some hx8787
 refine wsr (.pointer (some (eAddr v7155 (x8776.toNat * 1 + 0)))) 5 z z z (by kernel_rfl) (fun w hst => x_index z z underlying25 sizeOf22 hst.sv2 h8788 h8789) (wsr (.int .u64 x8786) 6 z z z (by kernel_rfl) (fun w hst => x_load z isAgg22 (hst.ol2 hi8790 (by rintro _ rfl; rfl))) (wsr (Pt b7152 0) 8 z z z (by kernel_rfl) (fun w hst => x_load z isAgg60 (hst.bc7 z)) (wsr (Pt b7152 0) 9 z z z (by kernel_rfl) (fun w hst => z) (wsr (Pt b7152 1) 10 z z z (by kernel_rfl) (fun w hst => x_field z underlying73 z sizeOf25 z) (wsr (v7155) 11 z z z (by kernel_rfl) (fun w hst => x_load z isAgg25 (hst.bc0 z)) (wsr (.int .i64 x8781) 12 z z z (by kernel_rfl) (fun w hst => z) ?_))))))
 obtain ⟨x8791, hx8792, hm⟩ := bind_some hm
 obtain ⟨h8793, h8794, hi8795⟩ := geto_some hx8792
 refine wsr (.pointer (some (eAddr v7155 (x8781.toNat * 1 + 0)))) 13 z z z (by kernel_rfl) (fun w hst => x_index z z underlying25 sizeOf22 hst.sv2 h8793 h8794) (wsr (.int .u64 x8791) 14 z z z (by kernel_rfl) (fun w hst => x_load z isAgg22 (hst.ol2 hi8795 (by rintro _ rfl; rfl))) ?_)
 refine ws_e1 7 (by kernel_rfl) ?_
 refine nxe [15, 16, 17] (by kernel_rfl) z z ?_
 clear hst
 intro w hst
 obtain ⟨t8796, ht8797, hm⟩ := bind_some hm
 refine wec call32 [U6 x8786] z z ?_
 refine (math_bits_OnesCount64_ref hst.to0 ht8797).mono ?_
 rintro _ w8798 ⟨rfl, hst⟩
 refine ⟨_, z, ?_⟩
 replace hst := hst.of0
 refine ws_next (pend' := [(14, U6 x8791), (13, .pointer (some (eAddr v7155 (x8781.toNat * 1 + 0)))), (12, I6 x8781), (11, v7155), (10, Pt b7152 1), (9, Pt b7152 0), (8, Pt b7152 0)]) hst (by kernel_rfl) (pkr z z (fun w hst => x_load z isAgg22 (hst.ol2 hi8795 (by rintro _ rfl; rfl))) (pkr z z (fun w hst => x_index z z underlying25 sizeOf22 hst.sv2 h8793 h8794) (pkr z z (fun w hst => z) (pkr z z (fun w hst => x_load z isAgg25 (hst.bc0 z)) (pkr z z (fun w hst => x_field z underlying73 z sizeOf25 z) (pkr z z (fun w hst => z) (pkr z z (fun w hst => x_load z isAgg60 (hst.bc7 z)) pk_nil))))))) ?_
 refine ws_e1 15 (by kernel_rfl) ?_
 refine nxe [16, 17] (by kernel_rfl) z z ?_
 clear hst
 intro w hst
 obtain ⟨t8801, ht8802, hm⟩ := bind_some hm
 refine wec call32 [U6 x8791] z z ?_
 refine (math_bits_OnesCount64_ref hst.to0 ht8802).mono ?_
 rintro _ w8803 ⟨rfl, hst⟩
 refine ⟨_, z, ?_⟩
 replace hst := hst.of0
 refine ws_next (pend' := []) hst (by kernel_rfl) pk_nil ?_
 refine ws_e1 16 (by kernel_rfl) ?_
 refine nxe [17] (by kernel_rfl) z z ?_
 clear hst
 intro w hst
 obtain ⟨t8806, ht8807, hm⟩ := bind_some hm
 refine wec call49 [I6 t8796, I6 t8801] z z ?_
 refine (cmp_Compare_int_ref hst.to0 ht8807).mono ?_
 rintro _ w8808 ⟨rfl, hst⟩
 refine ⟨_, z, ?_⟩
 replace hst := hst.of0
 refine ws_next (pend' := []) hst (by kernel_rfl) pk_nil ?_
 refine wsr (.int .i64 t8806) 17 z z z (by kernel_rfl) (fun w hst => z) ?_
 refine ws_nil ?_
 intro w hst
 refine tn (wp_ret ?_)
 refine post_ret (vs := [I6 t8806]) results48 (rvs_cons (rv_tmp z) rvs_nil) ?_
 replace hst := hst.pull6.pull6.pull6.pull6.pull6.pull6.pull6.pull7.keep8
 obtain rfl := some_inj hm
 exact ⟨t8806, z, z, hst⟩
}
 clear hst
 rintro _ w8815 ⟨z8811, rfl, rfl, hst⟩
 refine ⟨_, z, ?_⟩
 try dsimp only at hm
 refine ws_next (pend' := []) hst (by kernel_rfl) pk_nil ?_
 refine ws_q (v := .bool (decide (z8811 < (0:Int)))) 15 [16] (by kernel_rfl) z z (yi_run ((wanted_eq z z z (cvb hc8775)).trans z) (fun w hst => z)) (wsr (.bool (decide (z8811 < (0:Int)))) 16 z z z (by kernel_rfl) (fun w hst => x_pick_t hc8775 z z) ?_)
 refine ws_nil ?_
 intro w hst
 refine tn ?_
 refine bsplit (decide (z8811 < (0:Int))) (fun hc8816 => ?_) (fun hc8816 => ?_)
 {
 replace hm := bif_t hc8816 hm
 refine wp_ift (cvb hc8816) ?_
 refine wp_skip (tn (wp_seq (wp_block ?_)))
 refine wp_region_St hst 18 [0, 1, 2, 3, 4, 5, 6, 7, 8, 9, 10, 11, 12, 13, 14, 15, 16, 17] [0, 0, 0, 0, 8, 0, 0, 64, 224, 480, 0, 0, 3072, 7168, 16355, 32739, 65535, 131071] [] z (by kernel_rfl) (by kernel_rfl) Try.mixed (by kernel_rfl) ?_
 refine wsr (v7163) 0 z z z (by kernel_rfl) (fun w hst => z) (wsr (.int .i64 z8765) 1 z z z (by kernel_rfl) (fun w hst => z) (wsr (v7163) 2 z z z (by kernel_rfl) (fun w hst => z) (wsr (.int .i64 z8765) 3 z z z (by kernel_rfl) (fun w hst => z) (wsr (.int .i64 (i64.wrap (z8765 - (1:Int)))) 4 z z z (by kernel_rfl) (fun w hst => z) (wsr (v7163) 5 z z z (by kernel_rfl) (fun w hst => z) (wsr (.int .i64 z8765) 6 z z z (by kernel_rfl) (fun w hst => z) (wsr (.int .i64 (i64.wrap (z8765 - (1:Int)))) 7 z z z (by kernel_rfl) (fun w hst => z) (wsr (.pointer (some (eAddr v7163 ((i64.wrap (z8765 - (1:Int))).toNat * 1 + 0)))) 8 z z z (by kernel_rfl) (fun w hst => x_index z z underlying46 sizeOf3 hst.sv7 h8783 h8784) (wsr (.int .i64 x8781) 9 z z z (by kernel_rfl) (fun w hst => x_load z isAgg3 (hst.ol7 hi8785 (by rintro _ rfl; rfl))) (wsr (v7163) 10 z z z (by kernel_rfl) (fun w hst => z) (wsr (.int .i64 z8765) 11 z z z (by kernel_rfl) (fun w hst => z) (wsr (.pointer (some (eAddr v7163 (z8765.toNat * 1 + 0)))) 12 z z z (by kernel_rfl) (fun w hst => x_index z z underlying46 sizeOf3 hst.sv7 h8778 h8779) ?_))))))))))))
 refine wsr (.int .i64 x8776) 13 z z z (by kernel_rfl) (fun w hst => x_load z isAgg3 (hst.ol7 hi8780 (by rintro _ rfl; rfl))) (wsr (.pointer (some (eAddr v7163 (z8765.toNat * 1 + 0)))) 14 z z z (by kernel_rfl) (fun w hst => x_index z z underlying46 sizeOf3 hst.sv7 h8778 h8779) ?_)
 refine ws_e1 15 (by kernel_rfl) ?_
 refine nxe [16, 17] (by kernel_rfl) z z ?_
 clear hst
 intro w hst
 replace hst := hst.pull7
 obtain ⟨w8817, hr8818, hst⟩ := hst.own_store (P := prog) (t := 3) (y := x8781) hi8780 0 (.int .i64 x8781) sizeOf3 (Nat.le_of_ble_eq_true z) (oC z oN) (by rintro _ rfl; rfl)
 have hi8819 := set_get hi8780 x8781
 have h8820 := set_lt h8779 z8765.toNat x8781
 refine we_unit z (x_unit hr8818) ?_
 refine ws_next (pend' := [(4, I6 (i64.wrap (z8765 - (1:Int)))), (3, I6 z8765), (2, v7163)]) hst (by kernel_rfl) (pkr z z (fun w hst => z) (pkr z z (fun w hst => z) (pkr z z (fun w hst => z) pk_nil))) ?_
 obtain ⟨x8821, hx8822, hm⟩ := bind_some hm
 obtain ⟨h8823, h8824, hi8825⟩ := geto_some hx8822
 refine wsr (.pointer (some (eAddr v7163 ((i64.wrap (z8765 - (1:Int))).toNat * 1 + 0)))) 16 z z z (by kernel_rfl) (fun w hst => x_index z z underlying46 sizeOf3 hst.sv0 h8823 h8824) ?_
 refine ws_e1 17 (by kernel_rfl) ?_
 refine nxe [] (by kernel_rfl) z z ?_
 clear hst
 intro w hst
 obtain ⟨w8826, hr8827, hst⟩ := hst.own_store (P := prog) (t := 3) (y := x8776) hi8825 0 (.int .i64 x8776) sizeOf3 (Nat.le_of_ble_eq_true z) (oC z oN) (by rintro _ rfl; rfl)
 have hi8828 := set_get hi8825 x8776
 have h8829 := set_lt h8824 (i64.wrap (z8765 - (1:Int))).toNat x8776
 refine we_unit z (x_unit hr8827) ?_
 refine ws_next (pend' := []) hst (by kernel_rfl) pk_nil ?_
 refine ws_nil ?_
 intro w hst
 refine blk_n (tn (wrl ?_))
 refine wv (.int .i64 z8765) z z z (wv (.int .i64 (i64.wrap (z8765 - (1:Int)))) z z z (wv (.int .i64 (i64.wrap (z8765 - (1:Int)))) z z z (wl_nil (tn ?_))))
 replace hst := hst.pull1.pull1.pull7.pull7.pull7.pull7.pull7.pull7.keep8
 obtain rfl := some_inj hm
 exact ⟨_, Nat.lt_succ_self _, (i64.wrap (z8765 - (1:Int))), ((z8766.set z8765.toNat x8781).set (i64.wrap (z8765 - (1:Int))).toNat x8776), _, hx8773, (fu 0 v7163 z (fu 1 (.int .i64 z8272) z (fu 2 (.int .i64 z8273) z (fu 3 (.func (.func 48) #[] #[Pt b5491 0]) z (fu 8 (.int .i64 z8642) z (fu 9 (.int .i64 (i64.wrap (z8765 - (1:Int)))) z z)))))), hst⟩
}
 {
 replace hm := bif_f hc8816 hm
 refine wp_iff (cvb hc8816) ?_
 refine wp_exit (then_x (then_x ?_))
 replace hm := inr_up hm hx8773
 refine blk_x (blk_n (tn (wrl ?_)))
 refine wv (.int .i64 z8642) z z z (wv (.int .i64 (i64.wrap (z8642 + (1:Int)))) z z z (wv (.int .i64 (i64.wrap (z8642 + (1:Int)))) z z z (wl_nil (tn ?_))))
 replace hst := hst.pull7.pull7.pull7.pull7.pull7.pull7.pull7.keep8
 obtain rfl := some_inj hm
 exact ⟨_, Nat.lt_succ_self _, (i64.wrap (z8642 + (1:Int))), z8766, _, hx8650, (fu 0 v7163 z (fu 1 (.int .i64 z8272) z (fu 2 (.int .i64 z8273) z (fu 3 (.func (.func 48) #[] #[Pt b5491 0]) z (fu 8 (.int .i64 (i64.wrap (z8642 + (1:Int)))) z z))))), hst⟩
}
}
 {
 replace hm := bif_f hc8775 hm
 refine ws_q (v := undef) 4 [5, 6, 7, 8, 9, 10, 11, 12, 13, 14, 15, 16] (by kernel_rfl) z z (yi_off ((wanted_eq z z z (cvb hc8775)).trans z)) (ws_q (v := undef) 5 [6, 7, 8, 9, 10, 11, 12, 13, 14, 15, 16] (by kernel_rfl) z z (yi_off ((wanted_eq z z z (cvb hc8775)).trans z)) (ws_q (v := undef) 6 [7, 8, 9, 10, 11, 12, 13, 14, 15, 16] (by kernel_rfl) z z (yi_off ((wanted_eq z z z (cvb hc8775)).trans z)) (ws_q (v := undef) 7 [8, 9, 10, 11, 12, 13, 14, 15, 16] (by kernel_rfl) z z (yi_off ((wanted_eq z z z (cvb hc8775)).trans z)) (ws_q (v := undef) 8 [9, 10, 11, 12, 13, 14, 15, 16] (by kernel_rfl) z z (yi_off ((wanted_eq z z z (cvb hc8775)).trans z)) (ws_q (v := undef) 9 [10, 11, 12, 13, 14, 15, 16] (by kernel_rfl) z z (yi_off ((wanted_eq z z z (cvb hc8775)).trans z)) (ws_q (v := undef) 10 [11, 12, 13, 14, 15, 16] (by kernel_rfl) z z (yi_off ((wanted_eq z z z (cvb hc8775)).trans z)) (ws_q (v := undef) 11 [12, 13, 14, 15, 16] (by kernel_rfl) z z (yi_off ((wanted_eq z z z (cvb hc8775)).trans z)) (ws_q (v := undef) 12 [13, 14, 15, 16] (by kernel_rfl) z z (yi_off ((wanted_eq z z z (cvb hc8775)).trans z)) (ws_q (v := undef) 13 [14, 15, 16] (by kernel_rfl) z z (yi_off ((wanted_eq z z z (cvb hc8775)).trans z)) (ws_q (v := undef) 14 [15, 16] (by kernel_rfl) z z (yi_off ((wanted_eq z z z (cvb hc8775)).trans z)) (ws_q (v := undef) 15 [16] (by kernel_rfl) z z (yi_off ((wanted_eq z z z (cvb hc8775)).trans z)) (wsr (.bool false) 16 z z z (by kernel_rfl) (fun w hst => x_pick_f hc8775 z z) ?_))))))))))))
 refine ws_nil ?_
 intro w hst
 refine tn ?_
 refine wp_iff z ?_
 refine wp_exit (then_x (then_x ?_))
 replace hm := inr_up hm hx8773
 refine blk_x (blk_n (tn (wrl ?_)))
 refine wv (.int .i64 z8642) z z z (wv (.int .i64 (i64.wrap (z8642 + (1:Int)))) z z z (wv (.int .i64 (i64.wrap (z8642 + (1:Int)))) z z z (wl_nil (tn ?_))))
 replace hst := hst.pull7.pull7.pull7.pull7.pull7.pull7.pull7.pull7.keep8
 obtain rfl := some_inj hm
 exact ⟨_, Nat.lt_succ_self _, (i64.wrap (z8642 + (1:Int))), z8766, _, hx8650, (fu 0 v7163 z (fu 1 (.int .i64 z8272) z (fu 2 (.int .i64 z8273) z (fu 3 (.func (.func 48) #[] #[Pt b5491 0]) z (fu 8 (.int .i64 (i64.wrap (z8642 + (1:Int)))) z z))))), hst⟩
}
}
 {
 replace hm := bif_f hc8652 hm
 refine wp_iff (cvb hc8652) ?_
 refine wp_exit (then_x (then_x ?_))
 replace hm := inr_up hm hx8650
 refine blk_x ?_
 refine post_end (vs := []) results59 rvs_nil ?_
 replace hst := hst.pull6.pull6.pull6.pull6.pull6.pull6.pull6.pull7.keep8
 obtain rfl := some_inj hm
 exact ⟨z8643, z, z, hst⟩
}
}
 clear hst
 rintro _ w8834 ⟨z8830, rfl, rfl, hst⟩
 refine ⟨_, z, ?_⟩
 try dsimp only at hm
 refine wl_nil (tn (wp_seq (wrl (wv (.int .i64 z8273) z z z (wv (.int .i64 z8273) z z z (wl_nil (tn (wrl (wv (.int .i64 z8273) z z z (wv (.int .i64 (20:Int)) z z z (wv (.int .i64 (i64.wrap (z8273 + (20:Int)))) z z z (wv (.int .i64 (i64.wrap (z8273 + (20:Int)))) z z z (wl_nil (blk_n (tn ?_)))))))))))))))
 replace hst := hst.pull7.pull7.pull7.pull7.pull7.pull7.pull7.keep8
 obtain rfl := some_inj hm
 exact ⟨_, Nat.lt_succ_self _, z8273, (i64.wrap (z8273 + (20:Int))), z8830, _, hx8281, (fu 0 v7163 z (fu 1 (.int .i64 ((z7144.all).length : Int)) z (fu 2 (.func (.func 48) #[] #[Pt b5491 0]) z (fu 6 (.int .i64 (20:Int)) z (fu 7 (.int .i64 z8273) z (fu 8 (.int .i64 (i64.wrap (z8273 + (20:Int)))) z z)))))), hst⟩
}
 {
 replace hm := bif_f hc8283 hm
 refine wp_iff (cvb hc8283) ?_
 refine wp_exit (then_x (then_x ?_))
 replace hm := inr_up hm hx8281
 refine blk_x (tn ?_)
 replace hst := hst.pull5.pull5.pull5.pull5.pull5.pull5.pull7.pull7.keep8
 obtain rfl := some_inj hm
 exact ⟨z8274, z8272, _, hx8840, (fu 0 v7163 z (fu 1 (.int .i64 ((z7144.all).length : Int)) z (fu 2 (.func (.func 48) #[] #[Pt b5491 0]) z (fu 6 (.int .i64 (20:Int)) z (fu 7 (.int .i64 z8272) z z))))), hst⟩
}
}
 {
 clear hst
 rintro _ w8841 ⟨z8835, z8836, σ8837, hm, rfl, hst⟩
 dsimp only [label_New_j9] at hm
 refine wp_seq (wrl (wv (v7163) z z z (wv (.int .i64 z8836) z z z (wv (.int .i64 ((z7144.all).length : Int)) z z z (wv (.func (.func 48) #[] #[Pt b5491 0]) z z z ?_)))))
 obtain ⟨y9390, hq9391, hm⟩ := bind_some hm
 refine wl_call z z (x_callv call59 (caps := []) z (vs := [v7163, I6 z8836, I6 ((z7144.all).length : Int), .func (.func 48) #[] #[Pt b5491 0]]) z) ?_
 refine Calls.mono (show Calls prog 59 #[v7163, I6 z8836, I6 ((z7144.all).length : Int), .func (.func 48) #[] #[Pt b5491 0]] _ (fun e w' => ∃ (z9388 : (List Int)), z9388 = y9390 ∧ e = .returned (.tuple #[]) ∧ St w0 w' I7145 [cells b5491 [Pt b7152 0], cells b7152 [v7153, v7155, v7157, v7159, v7161, v7163], ownS (tyInt .u64) v7153 z7144.up, ownS (tyInt .u64) v7155 z7144.down, ownS (tySl (tyInt .i64)) v7157 z7144.join, ownS (tySl (tyInt .i64)) v7159 z7144.meet, ownS (tyInt .i64) v7161 z7144.rank, ownS (tyInt .i64) v7163 z9388] R) from ?_) ?_
 {
 clear hm; have hm := hq9391
 refine calls_start (args := [v7163, I6 z8836, I6 ((z7144.all).length : Int), .func (.func 48) #[] #[Pt b5491 0]]) func59 z ntmps59 (Nat.le_of_ble_eq_true z) ?_
 refine wp_seq (wrl (wv (.int .i64 z8836) z z z (wv (.int .i64 (i64.wrap (z8836 + (1:Int)))) z z z (wv (.int .i64 (i64.wrap (z8836 + (1:Int)))) z z z (wl_nil (tn (wp_block ?_)))))))
 obtain ⟨n9203, hm⟩ := loopO_some hm
 refine wp_loop_n (fun n a w => ∃ (z9200 : Int) (z9201 : (List Int)) (σ9202 : Nat → Value), loopN (label_New_l13 z7144 z8836) n (z9200, z9201) = some y9390 ∧ a = Fr 53 (upd (upd (upd (upd (upd σ9202 0 (v7163)) 1 (.int .i64 z8836)) 2 (.int .i64 ((z7144.all).length : Int))) 3 (.func (.func 48) #[] #[Pt b5491 0])) 8 (.int .i64 z9200)) ∧ St w0 w I7145 [ownS (tyInt .i64) v7163 z9201, cells b5491 [Pt b7152 0], cells b7152 [v7153, v7155, v7157, v7159, v7161, v7163], ownS (tyInt .u64) v7153 z7144.up, ownS (tyInt .u64) v7155 z7144.down, ownS (tySl (tyInt .i64)) v7157 z7144.join, ownS (tySl (tyInt .i64)) v7159 z7144.meet, ownS (tyInt .i64) v7161 z7144.rank] R) n9203 ⟨(i64.wrap (z8836 + (1:Int))), z8835, _, hm, (fu 0 v7163 z (fu 1 (.int .i64 z8836) z (fu 2 (.int .i64 ((z7144.all).length : Int)) z (fu 3 (.func (.func 48) #[] #[Pt b5491 0]) z (fu 8 (.int .i64 (i64.wrap (z8836 + (1:Int)))) z z))))), hst⟩ ?_
 rintro n9209 _ w9204 ⟨z9200, z9201, σ9202, hm, rfl, hst⟩
 obtain ⟨n9206, y9207, rfl, hm, hx9208⟩ := loopN_some hm
 dsimp only [label_New_l13] at hm
 refine wp_seq (wp_seq (wrl (wv (.int .i64 z9200) z z z (wv (.int .i64 ((z7144.all).length : Int)) z z z (wv (.bool (decide (z9200 < ((z7144.all).length : Int)))) z z z (wl_nil (tn ?_)))))))
 refine bsplit (decide (z9200 < ((z7144.all).length : Int))) (fun hc9210 => ?_) (fun hc9210 => ?_)
 {
 replace hm := bif_t hc9210 hm
 refine wp_ift (cvb hc9210) ?_
 refine wp_skip (tn (wp_seq (wp_block (wp_seq (wrl ?_)))))
 refine wv (.int .i64 z9200) z z z (wv (.int .i64 z9200) z z z (wl_nil (tn (wp_block ?_))))
 obtain ⟨n9326, hm⟩ := loopO_some hm
 refine wp_loop_n (fun n a w => ∃ (z9323 : Int) (z9324 : (List Int)) (σ9325 : Nat → Value), loopN (label_New_l14 z8836 z7144 z9200) n (z9323, z9324) = some y9207 ∧ a = Fr 53 (upd (upd (upd (upd (upd (upd σ9325 0 (v7163)) 1 (.int .i64 z8836)) 2 (.int .i64 ((z7144.all).length : Int))) 3 (.func (.func 48) #[] #[Pt b5491 0])) 8 (.int .i64 z9200)) 9 (.int .i64 z9323)) ∧ St w0 w I7145 [ownS (tyInt .i64) v7163 z9324, cells b5491 [Pt b7152 0], cells b7152 [v7153, v7155, v7157, v7159, v7161, v7163], ownS (tyInt .u64) v7153 z7144.up, ownS (tyInt .u64) v7155 z7144.down, ownS (tySl (tyInt .i64)) v7157 z7144.join, ownS (tySl (tyInt .i64)) v7159 z7144.meet, ownS (tyInt .i64) v7161 z7144.rank] R) n9326 ⟨z9200, z9201, _, hm, (fu 0 v7163 z (fu 1 (.int .i64 z8836) z (fu 2 (.int .i64 ((z7144.all).length : Int)) z (fu 3 (.func (.func 48) #[] #[Pt b5491 0]) z (fu 8 (.int .i64 z9200) z (fu 9 (.int .i64 z9200) z z)))))), hst⟩ ?_
 rintro n9332 _ w9327 ⟨z9323, z9324, σ9325, hm, rfl, hst⟩
 obtain ⟨n9329, y9330, rfl, hm, hx9331⟩ := loopN_some hm
 dsimp only [label_New_l14] at hm
 refine wp_seq (wp_seq ?_)
 refine wp_region_St hst 17 [0, 1, 2, 3, 4, 5, 6, 7, 8, 9, 10, 11, 12, 13, 14, 15, 16] [0, 0, 3, 7, 15, 15, 15, 111, 239, 15, 15, 1039, 3599, 7695, 16383, 32767, 65535] [] z (by kernel_rfl) (by kernel_rfl) Try.mixed (by kernel_rfl) ?_
 refine wsr (.int .i64 z9323) 0 z z z (by kernel_rfl) (fun w hst => z) (wsr (.int .i64 z8836) 1 z z z (by kernel_rfl) (fun w hst => z) (wsr (.bool (decide (z9323 > z8836))) 2 z z z (by kernel_rfl) (fun w hst => z) (wsr (.bool (decide (z9323 > z8836))) 3 z z z (by kernel_rfl) (fun w hst => z) ?_)))
 refine bsplit (decide (z9323 > z8836)) (fun hc9333 => ?_) (fun hc9333 => ?_)
 {
 replace hm := bif_t hc9333 hm
 refine ws_q (v := .func (.func 48) #[] #[Pt b5491 0]) 4 [5, 6, 7, 8, 9, 10, 11, 12, 13, 14, 15, 16] (by kernel_rfl) z z (yi_run ((wanted_eq z z z (cvb hc9333)).trans z) (fun w hst => z)) (ws_q (v := v7163) 5 [6, 7, 8, 9, 10, 11, 12, 13, 14, 15, 16] (by kernel_rfl) z z (yi_run ((wanted_eq z z z (cvb hc9333)).trans z) (fun w hst => z)) (ws_q (v := .int .i64 z9323) 6 [7, 8, 9, 10, 11, 12, 13, 14, 15, 16] (by kernel_rfl) z z (yi_run ((wanted_eq z z z (cvb hc9333)).trans z) (fun w hst => z)) ?_))
 obtain ⟨x9334, hx9335, hm⟩ := bind_some hm
 obtain ⟨h9336, h9337, hi9338⟩ := geto_some hx9335
 refine ws_q (v := .pointer (some (eAddr v7163 (z9323.toNat * 1 + 0)))) 7 [8, 9, 10, 11, 12, 13, 14, 15, 16] (by kernel_rfl) z z (yi_run ((wanted_eq z z z (cvb hc9333)).trans z) (fun w hst => x_index z z underlying46 sizeOf3 hst.sv0 h9336 h9337)) (ws_q (v := .int .i64 x9334) 8 [9, 10, 11, 12, 13, 14, 15, 16] (by kernel_rfl) z z (yi_run ((wanted_eq z z z (cvb hc9333)).trans z) (fun w hst => x_load z isAgg3 (hst.ol0 hi9338 (by rintro _ rfl; rfl)))) (ws_q (v := v7163) 9 [10, 11, 12, 13, 14, 15, 16] (by kernel_rfl) z z (yi_run ((wanted_eq z z z (cvb hc9333)).trans z) (fun w hst => z)) (ws_q (v := .int .i64 z9323) 10 [11, 12, 13, 14, 15, 16] (by kernel_rfl) z z (yi_run ((wanted_eq z z z (cvb hc9333)).trans z) (fun w hst => z)) (ws_q (v := .int .i64 (i64.wrap (z9323 - (1:Int)))) 11 [12, 13, 14, 15, 16] (by kernel_rfl) z z (yi_run ((wanted_eq z z z (cvb hc9333)).trans z) (fun w hst => z)) ?_))))
 obtain ⟨x9339, hx9340, hm⟩ := bind_some hm
 obtain ⟨h9341, h9342, hi9343⟩ := geto_some hx9340
 refine ws_q (v := .pointer (some (eAddr v7163 ((i64.wrap (z9323 - (1:Int))).toNat * 1 + 0)))) 12 [13, 14, 15, 16] (by kernel_rfl) z z (yi_run ((wanted_eq z z z (cvb hc9333)).trans z) (fun w hst => x_index z z underlying46 sizeOf3 hst.sv0 h9341 h9342)) (ws_q (v := .int .i64 x9339) 13 [14, 15, 16] (by kernel_rfl) z z (yi_run ((wanted_eq z z z (cvb hc9333)).trans z) (fun w hst => x_load z isAgg3 (hst.ol0 hi9343 (by rintro _ rfl; rfl)))) ?_)
 refine ws_e1 14 (by kernel_rfl) ?_
 refine nxe [15, 16] (by kernel_rfl) z ((wanted_eq z z z (cvb hc9333)).trans z) ?_
 clear hst
 intro w hst
 obtain ⟨y9371, hq9372, hm⟩ := bind_some hm
 refine we_call z (x_callv call48 (caps := [Pt b5491 0]) z (vs := [I6 x9334, I6 x9339]) z) ?_
 refine Calls.mono (show Calls prog 48 #[I6 x9334, I6 x9339, Pt b5491 0] _ (fun e w' => ∃ (z9369 : Int), z9369 = y9371 ∧ e = .returned (.int .i64 z9369) ∧ St w0 w' I7145 [cells b5491 [Pt b7152 0], cells b7152 [v7153, v7155, v7157, v7159, v7161, v7163], ownS (tyInt .u64) v7153 z7144.up, ownS (tyInt .u64) v7155 z7144.down, ownS (tySl (tyInt .i64)) v7157 z7144.join, ownS (tySl (tyInt .i64)) v7159 z7144.meet, ownS (tyInt .i64) v7161 z7144.rank, ownS (tyInt .i64) v7163 z9324] R) from ?_) ?_
 {
 clear hm; have hm := hq9372
 refine calls_start (args := [I6 x9334, I6 x9339, Pt b5491 0]) func48 z ntmps48 (Nat.le_of_ble_eq_true z) ?_
 refine wp_seq (wrl (wv (.int .i64 (0:Int)) z z z (wl_nil (tn (wp_seq ?_)))))
 refine wp_region_St hst 18 [0, 1, 2, 3, 4, 5, 6, 7, 8, 9, 10, 11, 12, 13, 14, 15, 16, 17] [0, 1, 3, 7, 0, 31, 63, 127, 0, 256, 768, 1792, 0, 7936, 16128, 32767, 65535, 131071] [] z (by kernel_rfl) (by kernel_rfl) Try.mixed (by kernel_rfl) ?_
 refine wsr (Pt b7152 0) 0 z z z (by kernel_rfl) (fun w hst => x_load z isAgg60 (hst.bc1 z)) (wsr (Pt b7152 0) 1 z z z (by kernel_rfl) (fun w hst => z) (wsr (Pt b7152 1) 2 z z z (by kernel_rfl) (fun w hst => x_field z underlying73 z sizeOf25 z) (wsr (v7155) 3 z z z (by kernel_rfl) (fun w hst => x_load z isAgg25 (hst.bc2 z)) (wsr (.int .i64 x9334) 4 z z z (by kernel_rfl) (fun w hst => z) ?_))))
 obtain ⟨x9344, hx9345, hm⟩ := bind_some hm
 obtain ⟨h9346, h9347, hi9348⟩ := geto_some hx9345
 refine wsr (.pointer (some (eAddr v7155 (x9334.toNat * 1 + 0)))) 5 z z z (by kernel_rfl) (fun w hst => x_index z z underlying25 sizeOf22 hst.sv4 h9346 h9347) (wsr (.int .u64 x9344) 6 z z z (by kernel_rfl) (fun w hst => x_load z isAgg22 (hst.ol4 hi9348 (by rintro _ rfl; rfl))) (wsr (Pt b7152 0) 8 z z z (by kernel_rfl) (fun w hst => x_load z isAgg60 (hst.bc1 z)) (wsr (Pt b7152 0) 9 z z z (by kernel_rfl) (fun w hst => z) (wsr (Pt b7152 1) 10 z z z (by kernel_rfl) (fun w hst => x_field z underlying73 z sizeOf25 z) (wsr (v7155) 11 z z z (by kernel_rfl) (fun w hst => x_load z isAgg25 (hst.bc2 z)) (wsr (.int .i64 x9339) 12 z z z (by kernel_rfl) (fun w hst => z) ?_))))))
 obtain ⟨x9349, hx9350, hm⟩ := bind_some hm
 obtain ⟨h9351, h9352, hi9353⟩ := geto_some hx9350
 refine wsr (.pointer (some (eAddr v7155 (x9339.toNat * 1 + 0)))) 13 z z z (by kernel_rfl) (fun w hst => x_index z z underlying25 sizeOf22 hst.sv4 h9351 h9352) (wsr (.int .u64 x9349) 14 z z z (by kernel_rfl) (fun w hst => x_load z isAgg22 (hst.ol4 hi9353 (by rintro _ rfl; rfl))) ?_)
 refine ws_e1 7 (by kernel_rfl) ?_
 refine nxe [15, 16, 17] (by kernel_rfl) z z ?_
 clear hst
 intro w hst
 obtain ⟨t9354, ht9355, hm⟩ := bind_some hm
 refine wec call32 [U6 x9344] z z ?_
 refine (math_bits_OnesCount64_ref hst.to0 ht9355).mono ?_
 rintro _ w9356 ⟨rfl, hst⟩
 refine ⟨_, z, ?_⟩
 replace hst := hst.of0
 refine ws_next (pend' := [(14, U6 x9349), (13, .pointer (some (eAddr v7155 (x9339.toNat * 1 + 0)))), (12, I6 x9339), (11, v7155), (10, Pt b7152 1), (9, Pt b7152 0), (8, Pt b7152 0)]) hst (by kernel_rfl) (pkr z z (fun w hst => x_load z isAgg22 (hst.ol4 hi9353 (by rintro _ rfl; rfl))) (pkr z z (fun w hst => x_index z z underlying25 sizeOf22 hst.sv4 h9351 h9352) (pkr z z (fun w hst => z) (pkr z z (fun w hst => x_load z isAgg25 (hst.bc2 z)) (pkr z z (fun w hst => x_field z underlying73 z sizeOf25 z) (pkr z z (fun w hst => z) (pkr z z (fun w hst => x_load z isAgg60 (hst.bc1 z)) pk_nil))))))) ?_
 refine ws_e1 15 (by kernel_rfl) ?_
 refine nxe [16, 17] (by kernel_rfl) z z ?_
 clear hst
 intro w hst
 obtain ⟨t9359, ht9360, hm⟩ := bind_some hm
 refine wec call32 [U6 x9349] z z ?_
 refine (math_bits_OnesCount64_ref hst.to0 ht9360).mono ?_
 rintro _ w9361 ⟨rfl, hst⟩
 refine ⟨_, z, ?_⟩
 replace hst := hst.of0
 refine ws_next (pend' := []) hst (by kernel_rfl) pk_nil ?_
 refine ws_e1 16 (by kernel_rfl) ?_
 refine nxe [17] (by kernel_rfl) z z ?_
 clear hst
 intro w hst
 obtain ⟨t9364, ht9365, hm⟩ := bind_some hm
 refine wec call49 [I6 t9354, I6 t9359] z z ?_
 refine (cmp_Compare_int_ref hst.to0 ht9365).mono ?_
 rintro _ w9366 ⟨rfl, hst⟩
 refine ⟨_, z, ?_⟩
 replace hst := hst.of0
 refine ws_next (pend' := []) hst (by kernel_rfl) pk_nil ?_
 refine wsr (.int .i64 t9364) 17 z z z (by kernel_rfl) (fun w hst => z) ?_
 refine ws_nil ?_
 intro w hst
 refine tn (wp_ret ?_)
 refine post_ret (vs := [I6 t9364]) results48 (rvs_cons (rv_tmp z) rvs_nil) ?_
 replace hst := hst.pull7.pull7.pull7.pull7.pull7.pull7.pull7.keep8
 obtain rfl := some_inj hm
 exact ⟨t9364, z, z, hst⟩
}
 clear hst
 rintro _ w9373 ⟨z9369, rfl, rfl, hst⟩
 refine ⟨_, z, ?_⟩
 try dsimp only at hm
 refine ws_next (pend' := []) hst (by kernel_rfl) pk_nil ?_
 refine ws_q (v := .bool (decide (z9369 < (0:Int)))) 15 [16] (by kernel_rfl) z z (yi_run ((wanted_eq z z z (cvb hc9333)).trans z) (fun w hst => z)) (wsr (.bool (decide (z9369 < (0:Int)))) 16 z z z (by kernel_rfl) (fun w hst => x_pick_t hc9333 z z) ?_)
 refine ws_nil ?_
 intro w hst
 refine tn ?_
 refine bsplit (decide (z9369 < (0:Int))) (fun hc9374 => ?_) (fun hc9374 => ?_)
 {
 replace hm := bif_t hc9374 hm
 refine wp_ift (cvb hc9374) ?_
 refine wp_skip (tn (wp_seq (wp_block ?_)))
 refine wp_region_St hst 18 [0, 1, 2, 3, 4, 5, 6, 7, 8, 9, 10, 11, 12, 13, 14, 15, 16, 17] [0, 0, 0, 0, 8, 0, 0, 64, 224, 480, 0, 0, 3072, 7168, 16355, 32739, 65535, 131071] [] z (by kernel_rfl) (by kernel_rfl) Try.mixed (by kernel_rfl) ?_
 refine wsr (v7163) 0 z z z (by kernel_rfl) (fun w hst => z) (wsr (.int .i64 z9323) 1 z z z (by kernel_rfl) (fun w hst => z) (wsr (v7163) 2 z z z (by kernel_rfl) (fun w hst => z) (wsr (.int .i64 z9323) 3 z z z (by kernel_rfl) (fun w hst => z) (wsr (.int .i64 (i64.wrap (z9323 - (1:Int)))) 4 z z z (by kernel_rfl) (fun w hst => z) (wsr (v7163) 5 z z z (by kernel_rfl) (fun w hst => z) (wsr (.int .i64 z9323) 6 z z z (by kernel_rfl) (fun w hst => z) (wsr (.int .i64 (i64.wrap (z9323 - (1:Int)))) 7 z z z (by kernel_rfl) (fun w hst => z) (wsr (.pointer (some (eAddr v7163 ((i64.wrap (z9323 - (1:Int))).toNat * 1 + 0)))) 8 z z z (by kernel_rfl) (fun w hst => x_index z z underlying46 sizeOf3 hst.sv7 h9341 h9342) (wsr (.int .i64 x9339) 9 z z z (by kernel_rfl) (fun w hst => x_load z isAgg3 (hst.ol7 hi9343 (by rintro _ rfl; rfl))) (wsr (v7163) 10 z z z (by kernel_rfl) (fun w hst => z) (wsr (.int .i64 z9323) 11 z z z (by kernel_rfl) (fun w hst => z) (wsr (.pointer (some (eAddr v7163 (z9323.toNat * 1 + 0)))) 12 z z z (by kernel_rfl) (fun w hst => x_index z z underlying46 sizeOf3 hst.sv7 h9336 h9337) ?_))))))))))))
 refine wsr (.int .i64 x9334) 13 z z z (by kernel_rfl) (fun w hst => x_load z isAgg3 (hst.ol7 hi9338 (by rintro _ rfl; rfl))) (wsr (.pointer (some (eAddr v7163 (z9323.toNat * 1 + 0)))) 14 z z z (by kernel_rfl) (fun w hst => x_index z z underlying46 sizeOf3 hst.sv7 h9336 h9337) ?_)
 refine ws_e1 15 (by kernel_rfl) ?_
 refine nxe [16, 17] (by kernel_rfl) z z ?_
 clear hst
 intro w hst
 replace hst := hst.pull7
 obtain ⟨w9375, hr9376, hst⟩ := hst.own_store (P := prog) (t := 3) (y := x9339) hi9338 0 (.int .i64 x9339) sizeOf3 (Nat.le_of_ble_eq_true z) (oC z oN) (by rintro _ rfl; rfl)
 have hi9377 := set_get hi9338 x9339
 have h9378 := set_lt h9337 z9323.toNat x9339
 refine we_unit z (x_unit hr9376) ?_
 refine ws_next (pend' := [(4, I6 (i64.wrap (z9323 - (1:Int)))), (3, I6 z9323), (2, v7163)]) hst (by kernel_rfl) (pkr z z (fun w hst => z) (pkr z z (fun w hst => z) (pkr z z (fun w hst => z) pk_nil))) ?_
 obtain ⟨x9379, hx9380, hm⟩ := bind_some hm
 obtain ⟨h9381, h9382, hi9383⟩ := geto_some hx9380
 refine wsr (.pointer (some (eAddr v7163 ((i64.wrap (z9323 - (1:Int))).toNat * 1 + 0)))) 16 z z z (by kernel_rfl) (fun w hst => x_index z z underlying46 sizeOf3 hst.sv0 h9381 h9382) ?_
 refine ws_e1 17 (by kernel_rfl) ?_
 refine nxe [] (by kernel_rfl) z z ?_
 clear hst
 intro w hst
 obtain ⟨w9384, hr9385, hst⟩ := hst.own_store (P := prog) (t := 3) (y := x9334) hi9383 0 (.int .i64 x9334) sizeOf3 (Nat.le_of_ble_eq_true z) (oC z oN) (by rintro _ rfl; rfl)
 have hi9386 := set_get hi9383 x9334
 have h9387 := set_lt h9382 (i64.wrap (z9323 - (1:Int))).toNat x9334
 refine we_unit z (x_unit hr9385) ?_
 refine ws_next (pend' := []) hst (by kernel_rfl) pk_nil ?_
 refine ws_nil ?_
 intro w hst
 refine blk_n (tn (wrl ?_))
 refine wv (.int .i64 z9323) z z z (wv (.int .i64 (i64.wrap (z9323 - (1:Int)))) z z z (wv (.int .i64 (i64.wrap (z9323 - (1:Int)))) z z z (wl_nil (tn ?_))))
 replace hst := hst.pull7.pull7.pull7.pull7.pull7.pull7.pull7.pull7.keep8
 obtain rfl := some_inj hm
 exact ⟨_, Nat.lt_succ_self _, (i64.wrap (z9323 - (1:Int))), ((z9324.set z9323.toNat x9339).set (i64.wrap (z9323 - (1:Int))).toNat x9334), _, hx9331, (fu 0 v7163 z (fu 1 (.int .i64 z8836) z (fu 2 (.int .i64 ((z7144.all).length : Int)) z (fu 3 (.func (.func 48) #[] #[Pt b5491 0]) z (fu 8 (.int .i64 z9200) z (fu 9 (.int .i64 (i64.wrap (z9323 - (1:Int)))) z z)))))), hst⟩
}
 {
 replace hm := bif_f hc9374 hm
 refine wp_iff (cvb hc9374) ?_
 refine wp_exit (then_x (then_x ?_))
 replace hm := inr_up hm hx9331
 refine blk_x (blk_n (tn (wrl ?_)))
 refine wv (.int .i64 z9200) z z z (wv (.int .i64 (i64.wrap (z9200 + (1:Int)))) z z z (wv (.int .i64 (i64.wrap (z9200 + (1:Int)))) z z z (wl_nil (tn ?_))))
 replace hst := hst.pull6.pull6.pull6.pull6.pull6.pull6.pull6.pull7.keep8
 obtain rfl := some_inj hm
 exact ⟨_, Nat.lt_succ_self _, (i64.wrap (z9200 + (1:Int))), z9324, _, hx9208, (fu 0 v7163 z (fu 1 (.int .i64 z8836) z (fu 2 (.int .i64 ((z7144.all).length : Int)) z (fu 3 (.func (.func 48) #[] #[Pt b5491 0]) z (fu 8 (.int .i64 (i64.wrap (z9200 + (1:Int)))) z z))))), hst⟩
}
}
 {
 replace hm := bif_f hc9333 hm
 refine ws_q (v := undef) 4 [5, 6, 7, 8, 9, 10, 11, 12, 13, 14, 15, 16] (by kernel_rfl) z z (yi_off ((wanted_eq z z z (cvb hc9333)).trans z)) (ws_q (v := undef) 5 [6, 7, 8, 9, 10, 11, 12, 13, 14, 15, 16] (by kernel_rfl) z z (yi_off ((wanted_eq z z z (cvb hc9333)).trans z)) (ws_q (v := undef) 6 [7, 8, 9, 10, 11, 12, 13, 14, 15, 16] (by kernel_rfl) z z (yi_off ((wanted_eq z z z (cvb hc9333)).trans z)) (ws_q (v := undef) 7 [8, 9, 10, 11, 12, 13, 14, 15, 16] (by kernel_rfl) z z (yi_off ((wanted_eq z z z (cvb hc9333)).trans z)) (ws_q (v := undef) 8 [9, 10, 11, 12, 13, 14, 15, 16] (by kernel_rfl) z z (yi_off ((wanted_eq z z z (cvb hc9333)).trans z)) (ws_q (v := undef) 9 [10, 11, 12, 13, 14, 15, 16] (by kernel_rfl) z z (yi_off ((wanted_eq z z z (cvb hc9333)).trans z)) (ws_q (v := undef) 10 [11, 12, 13, 14, 15, 16] (by kernel_rfl) z z (yi_off ((wanted_eq z z z (cvb hc9333)).trans z)) (ws_q (v := undef) 11 [12, 13, 14, 15, 16] (by kernel_rfl) z z (yi_off ((wanted_eq z z z (cvb hc9333)).trans z)) (ws_q (v := undef) 12 [13, 14, 15, 16] (by kernel_rfl) z z (yi_off ((wanted_eq z z z (cvb hc9333)).trans z)) (ws_q (v := undef) 13 [14, 15, 16] (by kernel_rfl) z z (yi_off ((wanted_eq z z z (cvb hc9333)).trans z)) (ws_q (v := undef) 14 [15, 16] (by kernel_rfl) z z (yi_off ((wanted_eq z z z (cvb hc9333)).trans z)) (ws_q (v := undef) 15 [16] (by kernel_rfl) z z (yi_off ((wanted_eq z z z (cvb hc9333)).trans z)) (wsr (.bool false) 16 z z z (by kernel_rfl) (fun w hst => x_pick_f hc9333 z z) ?_))))))))))))
 refine ws_nil ?_
 intro w hst
 refine tn ?_
 refine wp_iff z ?_
 refine wp_exit (then_x (then_x ?_))
 replace hm := inr_up hm hx9331
 refine blk_x (blk_n (tn (wrl ?_)))
 refine wv (.int .i64 z9200) z z z (wv (.int .i64 (i64.wrap (z9200 + (1:Int)))) z z z (wv (.int .i64 (i64.wrap (z9200 + (1:Int)))) z z z (wl_nil (tn ?_))))
 replace hst := hst.pull7.pull7.pull7.pull7.pull7.pull7.pull7.pull7.keep8
 obtain rfl := some_inj hm
 exact ⟨_, Nat.lt_succ_self _, (i64.wrap (z9200 + (1:Int))), z9324, _, hx9208, (fu 0 v7163 z (fu 1 (.int .i64 z8836) z (fu 2 (.int .i64 ((z7144.all).length : Int)) z (fu 3 (.func (.func 48) #[] #[Pt b5491 0]) z (fu 8 (.int .i64 (i64.wrap (z9200 + (1:Int)))) z z))))), hst⟩
}
}
 {
 replace hm := bif_f hc9210 hm
 refine wp_iff (cvb hc9210) ?_
 refine wp_exit (then_x (then_x ?_))
 replace hm := inr_up hm hx9208
 refine blk_x ?_
 refine post_end (vs := []) results59 rvs_nil ?_
 replace hst := hst.pull7.pull7.pull7.pull7.pull7.pull7.pull7.keep8
 obtain rfl := some_inj hm
 exact ⟨z9201, z, z, hst⟩
}
}
 clear hst
 rintro _ w9392 ⟨z9388, rfl, rfl, hst⟩
 refine ⟨_, z, ?_⟩
 try dsimp only at hm
 refine wl_nil (tn (wp_block ?_))
 obtain ⟨n9430, hm⟩ := loopO_some hm
 refine wp_loop_n (fun n a w => ∃ (z9428 : Int) (σ9429 : Nat → Value), loopN (label_New_l15 z7144 z9388) n z9428 = some y9456 ∧ a = Fr 63 (upd (upd (upd (upd σ9429 0 (v7163)) 1 (.int .i64 ((z7144.all).length : Int))) 2 (.func (.func 48) #[] #[Pt b5491 0])) 6 (.int .i64 z9428)) ∧ St w0 w I7145 [cells b5491 [Pt b7152 0], cells b7152 [v7153, v7155, v7157, v7159, v7161, v7163], ownS (tyInt .u64) v7153 z7144.up, ownS (tyInt .u64) v7155 z7144.down, ownS (tySl (tyInt .i64)) v7157 z7144.join, ownS (tySl (tyInt .i64)) v7159 z7144.meet, ownS (tyInt .i64) v7161 z7144.rank, ownS (tyInt .i64) v7163 z9388] R) n9430 ⟨(20:Int), _, hm, (fu 0 v7163 z (fu 1 (.int .i64 ((z7144.all).length : Int)) z (fu 2 (.func (.func 48) #[] #[Pt b5491 0]) z (fu 6 (.int .i64 (20:Int)) z z)))), hst⟩ ?_
 rintro n9436 _ w9431 ⟨z9428, σ9429, hm, rfl, hst⟩
 obtain ⟨n9433, y9434, rfl, hm, hx9435⟩ := loopN_some hm
 dsimp only [label_New_l15] at hm
 refine wp_seq (wp_seq (wrl (wv (.int .i64 z9428) z z z (wv (.int .i64 ((z7144.all).length : Int)) z z z (wv (.bool (decide (z9428 < ((z7144.all).length : Int)))) z z z (wl_nil (tn ?_)))))))
 refine bsplit (decide (z9428 < ((z7144.all).length : Int))) (fun hc9437 => ?_) (fun hc9437 => ?_)
 {
 replace hm := bif_t hc9437 hm
 refine wp_ift (cvb hc9437) ?_
 refine wp_skip (tn (wp_block (wp_seq (wrl ?_))))
 refine wv (.int .i64 z9428) z z z (wv (.int .i64 (i64.wrap ((2:Int) * z9428))) z z z (wv (.int .i64 (0:Int)) z z z (wv (.int .i64 (i64.wrap ((2:Int) * z9428))) z z z (wl_nil (tn ?_)))))
 obtain ⟨y9450, hm, hx9451⟩ := bind_some hm
 refine wp_cut (fun a w => ∃ (σ9448 : Nat → Value), (label_New_j16 z9428 z7144) () = some y9434 ∧ a = Fr 63 (upd (upd (upd (upd (upd σ9448 0 (v7163)) 1 (.int .i64 ((z7144.all).length : Int))) 2 (.func (.func 48) #[] #[Pt b5491 0])) 6 (.int .i64 z9428)) 7 (.int .i64 (0:Int))) ∧ St w0 w I7145 [ownS (tyInt .i64) v7163 z9388, cells b5491 [Pt b7152 0], cells b7152 [v7153, v7155, v7157, v7159, v7161, v7163], ownS (tyInt .u64) v7153 z7144.up, ownS (tyInt .u64) v7155 z7144.down, ownS (tySl (tyInt .i64)) v7157 z7144.join, ownS (tySl (tyInt .i64)) v7159 z7144.meet, ownS (tyInt .i64) v7161 z7144.rank] R) ?_ ?_
 {
 refine wp_block ?_
 obtain ⟨n9440, hm⟩ := loopO_some hm
 refine wp_loop_n (fun n a w => ∃ (σ9439 : Nat → Value), loopN (label_New_l17 z9428 z7144) n () = some y9450 ∧ a = Fr 63 (upd (upd (upd (upd (upd (upd σ9439 0 (v7163)) 1 (.int .i64 ((z7144.all).length : Int))) 2 (.func (.func 48) #[] #[Pt b5491 0])) 6 (.int .i64 z9428)) 7 (.int .i64 (0:Int))) 8 (.int .i64 (i64.wrap ((2:Int) * z9428)))) ∧ St w0 w I7145 [cells b5491 [Pt b7152 0], cells b7152 [v7153, v7155, v7157, v7159, v7161, v7163], ownS (tyInt .u64) v7153 z7144.up, ownS (tyInt .u64) v7155 z7144.down, ownS (tySl (tyInt .i64)) v7157 z7144.join, ownS (tySl (tyInt .i64)) v7159 z7144.meet, ownS (tyInt .i64) v7161 z7144.rank, ownS (tyInt .i64) v7163 z9388] R) n9440 ⟨_, hm, (fu 0 v7163 z (fu 1 (.int .i64 ((z7144.all).length : Int)) z (fu 2 (.func (.func 48) #[] #[Pt b5491 0]) z (fu 6 (.int .i64 z9428) z (fu 7 (.int .i64 (0:Int)) z (fu 8 (.int .i64 (i64.wrap ((2:Int) * z9428))) z z)))))), hst⟩ ?_
 rintro n9446 _ w9441 ⟨σ9439, hm, rfl, hst⟩
 obtain ⟨n9443, y9444, rfl, hm, hx9445⟩ := loopN_some hm
 dsimp only [label_New_l17] at hm
 refine wp_seq (wp_seq (wrl (wv (.int .i64 (i64.wrap ((2:Int) * z9428))) z z z (wv (.int .i64 ((z7144.all).length : Int)) z z z (wv (.bool (decide ((i64.wrap ((2:Int) * z9428)) ≤ ((z7144.all).length : Int)))) z z z (wl_nil (tn ?_)))))))
 refine bsplit (decide ((i64.wrap ((2:Int) * z9428)) ≤ ((z7144.all).length : Int))) (fun hc9447 => ?_) (fun hc9447 => ?_)
 {
 replace hm := bif_t hc9447 hm
 refine wp_ift (cvb hc9447) ?_
 refine wp_skip (tn (wp_block (wp_seq (wrl ?_))))
 refine wv (v7163) z z z (wv (.int .i64 (0:Int)) z z z (wv (.int .i64 (0:Int)) z z z (wv (.int .i64 z9428) z z z (wv (.int .i64 (i64.wrap ((0:Int) + z9428))) z z z (wv (.int .i64 (i64.wrap ((2:Int) * z9428))) z z z (wv (.func (.func 48) #[] #[Pt b5491 0]) z z z ?_))))))
 cases hm
}
 {
 replace hm := bif_f hc9447 hm
 refine wp_iff (cvb hc9447) ?_
 refine wp_exit (then_x (then_x ?_))
 replace hm := inr_up hm hx9445
 refine blk_x (tn ?_)
 replace hst := hst.pull6.pull6.pull6.pull6.pull6.pull6.pull6.pull7.keep8
 obtain rfl := some_inj hm
 exact ⟨_, hx9451, (fu 0 v7163 z (fu 1 (.int .i64 ((z7144.all).length : Int)) z (fu 2 (.func (.func 48) #[] #[Pt b5491 0]) z (fu 6 (.int .i64 z9428) z (fu 7 (.int .i64 (0:Int)) z z))))), hst⟩
}
}
 {
 clear hst
 rintro _ w9452 ⟨σ9448, hm, rfl, hst⟩
 dsimp only [label_New_j16] at hm
 refine wp_seq (wp_seq (wrl (wv (.int .i64 (0:Int)) z z z (wv (.int .i64 z9428) z z z (wv (.int .i64 (i64.wrap ((0:Int) + z9428))) z z z (wv (.int .i64 (i64.wrap ((0:Int) + z9428))) z z z (wl_nil (tn (wp_seq (wrl (wv (.int .i64 (i64.wrap ((0:Int) + z9428))) z z z (wv (.int .i64 ((z7144.all).length : Int)) z z z (wv (.bool (decide ((i64.wrap ((0:Int) + z9428)) < ((z7144.all).length : Int)))) z z z (wl_nil (tn ?_)))))))))))))))
 refine bsplit (decide ((i64.wrap ((0:Int) + z9428)) < ((z7144.all).length : Int))) (fun hc9453 => ?_) (fun hc9453 => ?_)
 {
 replace hm := bif_t hc9453 hm
 refine wp_ift (cvb hc9453) ?_
 refine wrl (wv (v7163) z z z (wv (.int .i64 (0:Int)) z z z (wv (.int .i64 (i64.wrap ((0:Int) + z9428))) z z z (wv (.int .i64 ((z7144.all).length : Int)) z z z (wv (.func (.func 48) #[] #[Pt b5491 0]) z z z ?_)))))
 cases hm
}
 {
 replace hm := bif_f hc9453 hm
 refine wp_iff (cvb hc9453) ?_
 refine wp_skip (tn (wrl ?_))
 refine wv (.int .i64 z9428) z z z (wv (.int .i64 (i64.wrap (z9428 * (2:Int)))) z z z (wv (.int .i64 (i64.wrap (z9428 * (2:Int)))) z z z (wl_nil (blk_n (tn ?_)))))
 replace hst := hst.pull7.pull7.pull7.pull7.pull7.pull7.pull7.keep8
 obtain rfl := some_inj hm
 exact ⟨_, Nat.lt_succ_self _, (i64.wrap (z9428 * (2:Int))), _, hx9435, (fu 0 v7163 z (fu 1 (.int .i64 ((z7144.all).length : Int)) z (fu 2 (.func (.func 48) #[] #[Pt b5491 0]) z (fu 6 (.int .i64 (i64.wrap (z9428 * (2:Int)))) z z)))), hst⟩
}
}
}
 {
 replace hm := bif_f hc9437 hm
 refine wp_iff (cvb hc9437) ?_
 refine wp_exit (then_x (then_x ?_))
 replace hm := inr_up hm hx9435
 refine blk_x ?_
 refine post_end (vs := []) results56 rvs_nil ?_
 replace hst := hst.pull7.pull7.pull7.pull7.pull7.pull7.pull7.pull7.keep8
 obtain rfl := some_inj hm
 exact ⟨z9388, z, z, hst⟩
}
}
}
 clear hst
 rintro _ w9458 ⟨z9454, rfl, rfl, hst⟩
 refine ⟨_, z, ?_⟩
 try dsimp only at hm
 refine wl_nil ?_
 refine post_end (vs := []) results47 rvs_nil ?_
 replace hst := hst.pull7.pull7.pull7.pull7.pull7.pull7.pull7.pull7.keep8
 obtain rfl := some_inj hm
 exact ⟨z9454, z, z, hst⟩
}
 clear hst
 rintro _ w9463 ⟨z9459, rfl, rfl, hst⟩
 refine ⟨_, z, ?_⟩
 try dsimp only at hm
 refine wl_nil (tn (wp_seq (wp_seq (wrl (wv (Pt b7152 0) z z (x_load z isAgg60 (hst.bc0 z)) (wv (Pt b7152 0) z z z (wv (Pt b7152 5) z z (x_field z underlying73 z sizeOf46 z) (wv (v7163) z z (x_load z isAgg46 (hst.bc1 z)) (wv (.int .i64 ((z9459).length : Int)) z z (x_len z underlying46 hst.sv7) (wv (.int .i64 (0:Int)) z z z (wl_nil (tn (wp_block ?_)))))))))))))
 obtain ⟨n9499, hm⟩ := loopO_some hm
 refine wp_loop_n (fun n a w => ∃ (z9496 : Int) (z9497 : (List Int)) (σ9498 : Nat → Value), loopN (label_New_l18 z9459 z7144) n (z9496, z9497) = some r ∧ a = Fr 192 (upd (upd (upd (upd σ9498 5 (Pt b5491 0)) 176 (v7163)) 177 (.int .i64 ((z9459).length : Int))) 178 (.int .i64 z9496)) ∧ St w0 w I7145 [cells b5491 [Pt b7152 0], cells b7152 [v7153, v7155, v7157, v7159, v7161, v7163], ownS (tyInt .u64) v7153 z7144.up, ownS (tyInt .u64) v7155 z7144.down, ownS (tySl (tyInt .i64)) v7157 z7144.join, ownS (tySl (tyInt .i64)) v7159 z7144.meet, ownS (tyInt .i64) v7161 z9497, ownS (tyInt .i64) v7163 z9459] R) n9499 ⟨(0:Int), z7144.rank, _, hm, (fu 5 (Pt b5491 0) z (fu 176 v7163 z (fu 177 (.int .i64 ((z9459).length : Int)) z (fu 178 (.int .i64 (0:Int)) z z)))), hst⟩ ?_
 rintro n9505 _ w9500 ⟨z9496, z9497, σ9498, hm, rfl, hst⟩
 obtain ⟨n9502, y9503, rfl, hm, hx9504⟩ := loopN_some hm
 dsimp only [label_New_l18] at hm
 refine wp_seq (wrl (wv (.bool (decide (z9496 < ((z9459).length : Int)))) z z z (wl_nil (tn (wp_seq ?_)))))
 refine bsplit (decide (z9496 < ((z9459).length : Int))) (fun hc9506 => ?_) (fun hc9506 => ?_)
 {
 replace hm := bif_t hc9506 hm
 refine wp_ift (cvb hc9506) ?_
 refine wp_skip (tn (wp_seq (wp_block (wp_seq (wrl ?_)))))
 refine wv (.int .i64 z9496) z z z ?_
 obtain ⟨x9507, hx9508, hm⟩ := bind_some hm
 obtain ⟨h9509, h9510, hi9511⟩ := geto_some hx9508
 refine wv (.pointer (some (eAddr v7163 (z9496.toNat * 1 + 0)))) z z (x_index z z underlying46 sizeOf3 hst.sv7 h9509 h9510) (wv (.int .i64 x9507) z z (x_load z isAgg3 (hst.ol7 hi9511 (by rintro _ rfl; rfl))) (wv (.int .i64 z9496) z z z (wv (.int .i64 x9507) z z z (wl_nil (tn (wrl (wv (Pt b7152 0) z z (x_load z isAgg60 (hst.bc0 z)) (wv (Pt b7152 0) z z z (wv (Pt b7152 4) z z (x_field z underlying73 z sizeOf46 z) (wv (v7161) z z (x_load z isAgg46 (hst.bc1 z)) (wv (.int .i64 x9507) z z z (wv (.int .i64 z9496) z z z ?_))))))))))))
 obtain ⟨x9512, hx9513, hm⟩ := bind_some hm
 obtain ⟨h9514, h9515, hi9516⟩ := geto_some hx9513
 refine wv (.pointer (some (eAddr v7161 (x9507.toNat * 1 + 0)))) z z (x_index z z underlying46 sizeOf3 hst.sv6 h9514 h9515) ?_
 replace hst := hst.pull6
 obtain ⟨w9517, hr9518, hst⟩ := hst.own_store (P := prog) (t := 3) (y := z9496) hi9516 0 (.int .i64 z9496) sizeOf3 (Nat.le_of_ble_eq_true z) (oC z oN) (by rintro _ rfl; rfl)
 have hi9519 := set_get hi9516 z9496
 have h9520 := set_lt h9515 x9507.toNat z9496
 refine wl_unit z z (x_unit hr9518) ?_
 refine wl_nil (blk_n (tn (wrl (wv (.int .i64 (i64.wrap (z9496 + (1:Int)))) z z z (wv (.int .i64 (i64.wrap (z9496 + (1:Int)))) z z z (wl_nil (tn ?_)))))))
 replace hst := hst.pull7.pull1.pull7.pull7.pull7.pull7.pull7.pull7.keep8
 obtain rfl := some_inj hm
 exact ⟨_, Nat.lt_succ_self _, (i64.wrap (z9496 + (1:Int))), (z9497.set x9507.toNat z9496), _, hx9504, (fu 5 (Pt b5491 0) z (fu 176 v7163 z (fu 177 (.int .i64 ((z9459).length : Int)) z (fu 178 (.int .i64 (i64.wrap (z9496 + (1:Int)))) z z)))), hst⟩
}
 {
 replace hm := bif_f hc9506 hm
 refine wp_iff (cvb hc9506) ?_
 refine wp_exit (then_x (then_x ?_))
 replace hm := inr_up hm hx9504
 refine blk_x (tn (wp_seq (wrl ?_)))
 refine wv (Pt b7152 0) z z (x_load z isAgg60 (hst.bc0 z)) (wv (Pt b7152 0) z z z (wv (.int .i64 (0:Int)) z z z (wl_nil (tn (wp_ret ?_)))))
 replace hst := hst.pull7.pull7.pull7.pull7.pull7.pull7.pull7
 replace hst := at_label_Lattice_close (pv := Pt b7152 0) (x := ({ up := z7144.up, down := z7144.down, join := z7144.join, meet := z7144.meet, rank := z9497, all := z9459 } : label_Lattice)) hst z
 replace hst := objO_some hst
 obtain rfl := some_inj hm
 refine post_ret (vs := [Pt b7152 0, Zi]) results34 (rvs_cons (rv_tmp z) (rvs_cons (rv_tmp z) rvs_nil)) ?_
 exact ⟨_, Pt b7152 0, z, hI0, hst.keep1⟩
}
}
}
}
}
}
}
}

end Go.Proofs.Ytkjkbfaaigmmcaa
