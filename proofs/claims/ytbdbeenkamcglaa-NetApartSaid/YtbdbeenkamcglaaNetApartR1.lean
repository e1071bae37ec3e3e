/- The Go functions refine their models, part 1. -/
import Derived.Test.YtbdbeenkamcglaaNetApartR0
set_option linter.unusedVariables false
set_option linter.unusedSimpArgs false
set_option maxRecDepth 100000
set_option maxHeartbeats 4000000
namespace Go.Proofs.Ytbdbeenkamcglaa
open Go Go.V
open _root_.Go.Proofs.Try IntKind
attribute [local irreducible] wpList Code.wp wpQuiet Calls bodyPost Oper.wp wpS Nx PendOK YieldsIn
theorem label_New_ref {w0 w : World} {I : HL} {R : SP} {a0 : (List Int)} {r0_0 : Value} (f0_0 : Rd (tyInt .u64) R I r0_0 a0) (hst : St w0 w I [] R) {r : (Option label_Lattice × Int)} (hm : label_New a0 = some r) :
  Calls prog 20 #[r0_0] w fun e w' => ∃ (I' : HL) (q0 : Value), e = .returned (.tuple #[q0, I6 r.2]) ∧ I.le I' ∧ St w0 w' I' [objO at_label_Lattice q0 r.1] R := by {
 unfold label_New at hm
 refine calls_start (args := [r0_0]) func20 z ntmps20 (Nat.le_of_ble_eq_true z) ?_
 have hI0 := HL.le.refl I
 refine wp_seq (wrl (wv (.pointer none) z z z (wv (.int .i64 (0:Int)) z z z (wl_nil (tn (wp_seq (wrl (wv (r0_0) z z z (wv (.int .i64 ((a0).length : Int)) z z (x_len z underlying40 (rd_sliceV f0_0)) (wv (.int .i64 ((a0).length : Int)) z z z (wl_nil (tn (wp_seq (wp_seq (wrl (wv (.int .i64 ((a0).length : Int)) z z z (wv (.bool (decide (((a0).length : Int) < (1:Int)))) z z z (wv (.bool (decide (((a0).length : Int) < (1:Int)))) z z z ?_))))))))))))))))))
 refine bsplit (decide (((a0).length : Int) < (1:Int))) (fun hc4787 => ?_) (fun hc4787 => ?_)
 {
 replace hm := bif_t hc4787 hm
 refine wo hc4787 z z z z z z (wo hc4787 z z z z z z (wv (.bool true) z z (x_pick_t hc4787 z z) (wl_nil (tn ?_))))
 refine wp_ift z ?_
 refine wp_seq (wrl (wv (.pointer none) z z z (wv (.int .i64 (1:Int)) z z z (wl_nil (tn (wp_ret (then_r ?_)))))))
 replace hst := hst.objO_nil at_label_Lattice
 obtain rfl := some_inj hm
 refine post_ret (vs := [.pointer none, I6 (1:Int)]) results20 (rvs_cons (rv_tmp z) (rvs_cons (rv_tmp z) rvs_nil)) ?_
 exact ⟨_, .pointer none, z, hI0, hst.keep1⟩
}
 {
 replace hm := bif_f hc4787 hm
 refine wv (.int .i64 ((a0).length : Int)) ((wanted_eq z z z (cvb hc4787)).trans z) z z (wv (.bool (decide (((a0).length : Int) > (16:Int)))) ((wanted_eq z z z (cvb hc4787)).trans z) z z (wv (.bool (decide (((a0).length : Int) > (16:Int)))) z z (x_pick_f hc4787 z z) (wl_nil (tn ?_))))
 refine bsplit (decide (((a0).length : Int) > (16:Int))) (fun hc4789 => ?_) (fun hc4789 => ?_)
 {
 replace hm := bif_t hc4789 hm
 refine wp_ift (cvb hc4789) ?_
 refine wp_seq (wrl (wv (.pointer none) z z z (wv (.int .i64 (1:Int)) z z z (wl_nil (tn (wp_ret (then_r ?_)))))))
 replace hst := hst.objO_nil at_label_Lattice
 obtain rfl := some_inj hm
 refine post_ret (vs := [.pointer none, I6 (1:Int)]) results20 (rvs_cons (rv_tmp z) (rvs_cons (rv_tmp z) rvs_nil)) ?_
 exact ⟨_, .pointer none, z, hI0, hst.keep1⟩
}
 {
 replace hm := bif_f hc4789 hm
 refine wp_iff (cvb hc4789) ?_
 refine wp_skip (tn (wp_seq ?_))
 obtain ⟨y5474, hm, hx5475⟩ := bind_some hm
 refine wp_mid (fun a w => ∃ (z5471 : label_Lattice) (b5468 : Nat) (v5470 : Value) (σ5472 : Nat → Value), (label_New_j0 a0) z5471 = some r ∧ a = Fr 192 (upd (upd (upd σ5472 0 (r0_0)) 4 (.int .i64 ((a0).length : Int))) 5 (Pt b5468 0)) ∧ St w0 w I [cells b5468 [v5470], at_label_Lattice v5470 z5471] R) ?_ ?_
 {
 refine wp_region_St hst 10 [0, 1, 2, 3, 4, 5, 6, 7, 8, 9] [0, 1, 0, 4, 0, 16, 63, 127, 0, 511] [] z (by kernel_rfl) (by kernel_rfl) Try.mixed (by kernel_rfl) ?_
 refine wsr (r0_0) 0 z z z (by kernel_rfl) (fun w hst => z) (wsr (.int .i64 ((a0).length : Int)) 2 z z z (by kernel_rfl) (fun w hst => z) (wsr (.int .i64 ((a0).length : Int)) 4 z z z (by kernel_rfl) (fun w hst => z) ?_))
 obtain ⟨t4791, ht4792, hm⟩ := bind_some hm
 obtain ⟨hg4793, hm⟩ := gd_some hm
 obtain ⟨hg4794, hm⟩ := gd_some hm
 refine ws_e4 1 3 5 8 (by kernel_rfl) ?_ ?_ ?_ ?_
 {
 refine nxe [3, 5, 6, 7, 8, 9] (by kernel_rfl) z z ?_
 clear hst
 intro w hst
 refine wec call24 [r0_0] z z ?_
 refine (slices_Clone_uint64_uint64_ref (f0_0.mono (rd_weak _)) hst.to0 ht4792).mono ?_
 rintro _ w4795 ⟨v4798, rfl, hst⟩
 refine ⟨_, z, ?_⟩
 replace hst := hst.of1
 refine ws_next (pend' := [(4, I6 ((a0).length : Int)), (2, I6 ((a0).length : Int))]) hst (by kernel_rfl) (pkr z z (fun w hst => z) (pkr z z (fun w hst => z) pk_nil)) ?_
 refine ws_e3 3 5 8 (by kernel_rfl) ?_ ?_ ?_
 {
 refine nxe [5, 6, 7, 8, 9] (by kernel_rfl) z z ?_
 clear hst
 intro w hst
 obtain ⟨v4800, w4801, hr4802, hst⟩ := run_mk (k := .i64) (k' := .i64) (zm := (0:Int)) elem_40 hst hg4793 (by decide) z
 refine we_run (v := v4800) (w' := w4801) z (x_make z z hr4802) ?_
 refine ws_next (pend' := [(4, I6 ((a0).length : Int))]) hst (by kernel_rfl) (pkr z z (fun w hst => z) pk_nil) ?_
 refine ws_e2 5 8 (by kernel_rfl) ?_ ?_
 {
 refine nxe [6, 7, 8, 9] (by kernel_rfl) z z ?_
 clear hst
 intro w hst
 obtain ⟨v4804, w4805, hr4806, hst⟩ := run_mk (k := .i64) (k' := .i64) (zm := (0:Int)) elem_69 hst hg4794 (by decide) z
 refine we_run (v := v4804) (w' := w4805) z (x_make z z hr4806) ?_
 refine ws_next (pend' := []) hst (by kernel_rfl) pk_nil ?_
 refine wsr (.agg #[v4798, v4800, Zs, Zs, v4804, Zs]) 6 rfl rfl rfl (by kernel_rfl) (fun w hst => by obtain ⟨_, _, hv_, _⟩ := hst.sv0; rw [hv_]; obtain ⟨_, _, hv_, _⟩ := hst.sv1; rw [hv_]; obtain ⟨_, _, hv_, _⟩ := hst.sv2; rw [hv_]; kernel_rfl) ?_
 refine ws_e2 7 8 (by kernel_rfl) ?_ ?_
 {
 refine nxe [8, 9] (by kernel_rfl) z z ?_
 clear hst
 intro w hst
 obtain ⟨b4814, w4815, ew4816, eb4817, hst⟩ := hst.box [v4798, v4800, Zs, Zs, v4804, Zs] 72
 refine we_run (v := Pt b4814 0) (w' := w4815) z (x_al (by kernel_rfl) ew4816 eb4817) ?_
 refine ws_next (pend' := []) hst (by kernel_rfl) pk_nil ?_
 refine ws_e1 8 (by kernel_rfl) ?_
 refine nxe [9] (by kernel_rfl) z z ?_
 clear hst
 intro w hst
 obtain ⟨b4819, w4820, ew4821, eb4822, hst⟩ := hst.box [.pointer none] 59
 refine we_run (v := Pt b4819 0) (w' := w4820) z (x_al (by kernel_rfl) ew4821 eb4822) ?_
 refine ws_next (pend' := []) hst (by kernel_rfl) pk_nil ?_
 refine ws_e1 9 (by kernel_rfl) ?_
 refine nxe [] (by kernel_rfl) z z ?_
 clear hst
 intro w hst
 obtain ⟨w4824, hr4825, hst⟩ := hst.by_ [Pt b4814 0] 0 (Pt b4814 0) sizeOf59 z (oC z oN) (by kernel_rfl)
 refine we_unit z (x_unit hr4825) ?_
 refine ws_next (pend' := []) hst (by kernel_rfl) pk_nil ?_
 refine ws_nil ?_
 intro w hst
 refine ⟨z, ?_⟩
 replace hst := hst.own_nil (tySl (tyInt .i64))
 replace hst := hst.own_nil (tySl (tyInt .i64))
 replace hst := hst.own_nil (tyInt .i64)
 replace hst := hst.pull5.pull2.pull3.pull6.pull7.pull7
 replace hst := at_label_Lattice_close (pv := Pt b4814 0) (x := ({ up := t4791, down := (List.replicate (Int.toNat ((a0).length : Int)) (0:Int)), join := [], meet := [], rank := (List.replicate (Int.toNat ((a0).length : Int)) (0:Int)), all := [] } : label_Lattice)) hst z
 replace hst := hst.pull1.keep2
 obtain rfl := some_inj hm
 exact ⟨({ up := t4791, down := (List.replicate (Int.toNat ((a0).length : Int)) (0:Int)), join := [], meet := [], rank := (List.replicate (Int.toNat ((a0).length : Int)) (0:Int)), all := [] } : label_Lattice), b4819, (Pt b4814 0), _, hx5475, (fu 0 r0_0 z (fu 4 (.int .i64 ((a0).length : Int)) z (fu 5 (Pt b4819 0) z z))), hst⟩
}
 {
 refine nxe [7, 9] (by kernel_rfl) z z ?_
 clear hst
 intro w hst
 obtain ⟨b4826, w4827, ew4828, eb4829, hst⟩ := hst.box [.pointer none] 59
 refine we_run (v := Pt b4826 0) (w' := w4827) z (x_al (by kernel_rfl) ew4828 eb4829) ?_
 refine ws_next (pend' := [(6, .agg #[v4798, v4800, Zs, Zs, v4804, Zs])]) hst (by kernel_rfl) (pkr rfl rfl (fun w hst => by obtain ⟨_, _, hv_, _⟩ := hst.sv1; rw [hv_]; obtain ⟨_, _, hv_, _⟩ := hst.sv2; rw [hv_]; obtain ⟨_, _, hv_, _⟩ := hst.sv3; rw [hv_]; kernel_rfl) pk_nil) ?_
 refine ws_e1 7 (by kernel_rfl) ?_
 refine nxe [9] (by kernel_rfl) z z ?_
 clear hst
 intro w hst
 obtain ⟨b4831, w4832, ew4833, eb4834, hst⟩ := hst.box [v4798, v4800, Zs, Zs, v4804, Zs] 72
 refine we_run (v := Pt b4831 0) (w' := w4832) z (x_al (by kernel_rfl) ew4833 eb4834) ?_
 refine ws_next (pend' := []) hst (by kernel_rfl) pk_nil ?_
 refine ws_e1 9 (by kernel_rfl) ?_
 refine nxe [] (by kernel_rfl) z z ?_
 clear hst
 intro w hst
 replace hst := hst.pull1
 obtain ⟨w4836, hr4837, hst⟩ := hst.by_ [Pt b4831 0] 0 (Pt b4831 0) sizeOf59 z (oC z oN) (by kernel_rfl)
 refine we_unit z (x_unit hr4837) ?_
 refine ws_next (pend' := []) hst (by kernel_rfl) pk_nil ?_
 refine ws_nil ?_
 intro w hst
 refine ⟨z, ?_⟩
 replace hst := hst.own_nil (tySl (tyInt .i64))
 replace hst := hst.own_nil (tySl (tyInt .i64))
 replace hst := hst.own_nil (tyInt .i64)
 replace hst := hst.pull5.pull2.pull3.pull6.pull7.pull7
 replace hst := at_label_Lattice_close (pv := Pt b4831 0) (x := ({ up := t4791, down := (List.replicate (Int.toNat ((a0).length : Int)) (0:Int)), join := [], meet := [], rank := (List.replicate (Int.toNat ((a0).length : Int)) (0:Int)), all := [] } : label_Lattice)) hst z
 replace hst := hst.pull1.keep2
 obtain rfl := some_inj hm
 exact ⟨({ up := t4791, down := (List.replicate (Int.toNat ((a0).length : Int)) (0:Int)), join := [], meet := [], rank := (List.replicate (Int.toNat ((a0).length : Int)) (0:Int)), all := [] } : label_Lattice), b4826, (Pt b4831 0), _, hx5475, (fu 0 r0_0 z (fu 4 (.int .i64 ((a0).length : Int)) z (fu 5 (Pt b4826 0) z z))), hst⟩
}
}
 {
 refine nxe [5, 6, 7, 9] (by kernel_rfl) z z ?_
 clear hst
 intro w hst
 obtain ⟨b4838, w4839, ew4840, eb4841, hst⟩ := hst.box [.pointer none] 59
 refine we_run (v := Pt b4838 0) (w' := w4839) z (x_al (by kernel_rfl) ew4840 eb4841) ?_
 refine ws_next (pend' := [(4, I6 ((a0).length : Int))]) hst (by kernel_rfl) (pkr z z (fun w hst => z) pk_nil) ?_
 refine ws_e1 5 (by kernel_rfl) ?_
 refine nxe [6, 7, 9] (by kernel_rfl) z z ?_
 clear hst
 intro w hst
 obtain ⟨v4843, w4844, hr4845, hst⟩ := run_mk (k := .i64) (k' := .i64) (zm := (0:Int)) elem_69 hst hg4794 (by decide) z
 refine we_run (v := v4843) (w' := w4844) z (x_make z z hr4845) ?_
 refine ws_next (pend' := []) hst (by kernel_rfl) pk_nil ?_
 refine wsr (.agg #[v4798, v4800, Zs, Zs, v4843, Zs]) 6 rfl rfl rfl (by kernel_rfl) (fun w hst => by obtain ⟨_, _, hv_, _⟩ := hst.sv0; rw [hv_]; obtain ⟨_, _, hv_, _⟩ := hst.sv2; rw [hv_]; obtain ⟨_, _, hv_, _⟩ := hst.sv3; rw [hv_]; kernel_rfl) ?_
 refine ws_e1 7 (by kernel_rfl) ?_
 refine nxe [9] (by kernel_rfl) z z ?_
 clear hst
 intro w hst
 obtain ⟨b4853, w4854, ew4855, eb4856, hst⟩ := hst.box [v4798, v4800, Zs, Zs, v4843, Zs] 72
 refine we_run (v := Pt b4853 0) (w' := w4854) z (x_al (by kernel_rfl) ew4855 eb4856) ?_
 refine ws_next (pend' := []) hst (by kernel_rfl) pk_nil ?_
 refine ws_e1 9 (by kernel_rfl) ?_
 refine nxe [] (by kernel_rfl) z z ?_
 clear hst
 intro w hst
 replace hst := hst.pull2
 obtain ⟨w4858, hr4859, hst⟩ := hst.by_ [Pt b4853 0] 0 (Pt b4853 0) sizeOf59 z (oC z oN) (by kernel_rfl)
 refine we_unit z (x_unit hr4859) ?_
 refine ws_next (pend' := []) hst (by kernel_rfl) pk_nil ?_
 refine ws_nil ?_
 intro w hst
 refine ⟨z, ?_⟩
 replace hst := hst.own_nil (tySl (tyInt .i64))
 replace hst := hst.own_nil (tySl (tyInt .i64))
 replace hst := hst.own_nil (tyInt .i64)
 replace hst := hst.pull5.pull2.pull3.pull6.pull7.pull7
 replace hst := at_label_Lattice_close (pv := Pt b4853 0) (x := ({ up := t4791, down := (List.replicate (Int.toNat ((a0).length : Int)) (0:Int)), join := [], meet := [], rank := (List.replicate (Int.toNat ((a0).length : Int)) (0:Int)), all := [] } : label_Lattice)) hst z
 replace hst := hst.pull1.keep2
 obtain rfl := some_inj hm
 exact ⟨({ up := t4791, down := (List.replicate (Int.toNat ((a0).length : Int)) (0:Int)), join := [], meet := [], rank := (List.replicate (Int.toNat ((a0).length : Int)) (0:Int)), all := [] } : label_Lattice), b4838, (Pt b4853 0), _, hx5475, (fu 0 r0_0 z (fu 4 (.int .i64 ((a0).length : Int)) z (fu 5 (Pt b4838 0) z z))), hst⟩
}
}
 {
 refine nxe [3, 6, 7, 8, 9] (by kernel_rfl) z z ?_
 clear hst
 intro w hst
 obtain ⟨v4860, w4861, hr4862, hst⟩ := run_mk (k := .i64) (k' := .i64) (zm := (0:Int)) elem_69 hst hg4794 (by decide) z
 refine we_run (v := v4860) (w' := w4861) z (x_make z z hr4862) ?_
 refine ws_next (pend' := [(2, I6 ((a0).length : Int))]) hst (by kernel_rfl) (pkr z z (fun w hst => z) pk_nil) ?_
 refine ws_e2 3 8 (by kernel_rfl) ?_ ?_
 {
 refine nxe [6, 7, 8, 9] (by kernel_rfl) z z ?_
 clear hst
 intro w hst
 obtain ⟨v4864, w4865, hr4866, hst⟩ := run_mk (k := .i64) (k' := .i64) (zm := (0:Int)) elem_40 hst hg4793 (by decide) z
 refine we_run (v := v4864) (w' := w4865) z (x_make z z hr4866) ?_
 refine ws_next (pend' := []) hst (by kernel_rfl) pk_nil ?_
 refine wsr (.agg #[v4798, v4864, Zs, Zs, v4860, Zs]) 6 rfl rfl rfl (by kernel_rfl) (fun w hst => by obtain ⟨_, _, hv_, _⟩ := hst.sv1; rw [hv_]; obtain ⟨_, _, hv_, _⟩ := hst.sv0; rw [hv_]; obtain ⟨_, _, hv_, _⟩ := hst.sv2; rw [hv_]; kernel_rfl) ?_
 refine ws_e2 7 8 (by kernel_rfl) ?_ ?_
 {
 refine nxe [8, 9] (by kernel_rfl) z z ?_
 clear hst
 intro w hst
 obtain ⟨b4874, w4875, ew4876, eb4877, hst⟩ := hst.box [v4798, v4864, Zs, Zs, v4860, Zs] 72
 refine we_run (v := Pt b4874 0) (w' := w4875) z (x_al (by kernel_rfl) ew4876 eb4877) ?_
 refine ws_next (pend' := []) hst (by kernel_rfl) pk_nil ?_
 refine ws_e1 8 (by kernel_rfl) ?_
 refine nxe [9] (by kernel_rfl) z z ?_
 clear hst
 intro w hst
 obtain ⟨b4879, w4880, ew4881, eb4882, hst⟩ := hst.box [.pointer none] 59
 refine we_run (v := Pt b4879 0) (w' := w4880) z (x_al (by kernel_rfl) ew4881 eb4882) ?_
 refine ws_next (pend' := []) hst (by kernel_rfl) pk_nil ?_
 refine ws_e1 9 (by kernel_rfl) ?_
 refine nxe [] (by kernel_rfl) z z ?_
 clear hst
 intro w hst
 obtain ⟨w4884, hr4885, hst⟩ := hst.by_ [Pt b4874 0] 0 (Pt b4874 0) sizeOf59 z (oC z oN) (by kernel_rfl)
 refine we_unit z (x_unit hr4885) ?_
 refine ws_next (pend' := []) hst (by kernel_rfl) pk_nil ?_
 refine ws_nil ?_
 intro w hst
 refine ⟨z, ?_⟩
 replace hst := hst.own_nil (tySl (tyInt .i64))
 replace hst := hst.own_nil (tySl (tyInt .i64))
 replace hst := hst.own_nil (tyInt .i64)
 replace hst := hst.pull6.pull2.pull3.pull6.pull7.pull7
 replace hst := at_label_Lattice_close (pv := Pt b4874 0) (x := ({ up := t4791, down := (List.replicate (Int.toNat ((a0).length : Int)) (0:Int)), join := [], meet := [], rank := (List.replicate (Int.toNat ((a0).length : Int)) (0:Int)), all := [] } : label_Lattice)) hst z
 replace hst := hst.pull1.keep2
 obtain rfl := some_inj hm
 exact ⟨({ up := t4791, down := (List.replicate (Int.toNat ((a0).length : Int)) (0:Int)), join := [], meet := [], rank := (List.replicate (Int.toNat ((a0).length : Int)) (0:Int)), all := [] } : label_Lattice), b4879, (Pt b4874 0), _, hx5475, (fu 0 r0_0 z (fu 4 (.int .i64 ((a0).length : Int)) z (fu 5 (Pt b4879 0) z z))), hst⟩
}
 {
 refine nxe [7, 9] (by kernel_rfl) z z ?_
 clear hst
 intro w hst
 obtain ⟨b4886, w4887, ew4888, eb4889, hst⟩ := hst.box [.pointer none] 59
 refine we_run (v := Pt b4886 0) (w' := w4887) z (x_al (by kernel_rfl) ew4888 eb4889) ?_
 refine ws_next (pend' := [(6, .agg #[v4798, v4864, Zs, Zs, v4860, Zs])]) hst (by kernel_rfl) (pkr rfl rfl (fun w hst => by obtain ⟨_, _, hv_, _⟩ := hst.sv2; rw [hv_]; obtain ⟨_, _, hv_, _⟩ := hst.sv1; rw [hv_]; obtain ⟨_, _, hv_, _⟩ := hst.sv3; rw [hv_]; kernel_rfl) pk_nil) ?_
 refine ws_e1 7 (by kernel_rfl) ?_
 refine nxe [9] (by kernel_rfl) z z ?_
 clear hst
 intro w hst
 obtain ⟨b4891, w4892, ew4893, eb4894, hst⟩ := hst.box [v4798, v4864, Zs, Zs, v4860, Zs] 72
 refine we_run (v := Pt b4891 0) (w' := w4892) z (x_al (by kernel_rfl) ew4893 eb4894) ?_
 refine ws_next (pend' := []) hst (by kernel_rfl) pk_nil ?_
 refine ws_e1 9 (by kernel_rfl) ?_
 refine nxe [] (by kernel_rfl) z z ?_
 clear hst
 intro w hst
 replace hst := hst.pull1
 obtain ⟨w4896, hr4897, hst⟩ := hst.by_ [Pt b4891 0] 0 (Pt b4891 0) sizeOf59 z (oC z oN) (by kernel_rfl)
 refine we_unit z (x_unit hr4897) ?_
 refine ws_next (pend' := []) hst (by kernel_rfl) pk_nil ?_
 refine ws_nil ?_
 intro w hst
 refine ⟨z, ?_⟩
 replace hst := hst.own_nil (tySl (tyInt .i64))
 replace hst := hst.own_nil (tySl (tyInt .i64))
 replace hst := hst.own_nil (tyInt .i64)
 replace hst := hst.pull6.pull2.pull3.pull6.pull7.pull7
 replace hst := at_label_Lattice_close (pv := Pt b4891 0) (x := ({ up := t4791, down := (List.replicate (Int.toNat ((a0).length : Int)) (0:Int)), join := [], meet := [], rank := (List.replicate (Int.toNat ((a0).length : Int)) (0:Int)), all := [] } : label_Lattice)) hst z
 replace hst := hst.pull1.keep2
 obtain rfl := some_inj hm
 exact ⟨({ up := t4791, down := (List.replicate (Int.toNat ((a0).length : Int)) (0:Int)), join := [], meet := [], rank := (List.replicate (Int.toNat ((a0).length : Int)) (0:Int)), all := [] } : label_Lattice), b4886, (Pt b4891 0), _, hx5475, (fu 0 r0_0 z (fu 4 (.int .i64 ((a0).length : Int)) z (fu 5 (Pt b4886 0) z z))), hst⟩
}
}
 {
 refine nxe [3, 6, 7, 9] (by kernel_rfl) z z ?_
 clear hst
 intro w hst
 obtain ⟨b4898, w4899, ew4900, eb4901, hst⟩ := hst.box [.pointer none] 59
 refine we_run (v := Pt b4898 0) (w' := w4899) z (x_al (by kernel_rfl) ew4900 eb4901) ?_
 refine ws_next (pend' := [(2, I6 ((a0).length : Int))]) hst (by kernel_rfl) (pkr z z (fun w hst => z) pk_nil) ?_
 refine ws_e1 3 (by kernel_rfl) ?_
 refine nxe [6, 7, 9] (by kernel_rfl) z z ?_
 clear hst
 intro w hst
 obtain ⟨v4903, w4904, hr4905, hst⟩ := run_mk (k := .i64) (k' := .i64) (zm := (0:Int)) elem_40 hst hg4793 (by decide) z
 refine we_run (v := v4903) (w' := w4904) z (x_make z z hr4905) ?_
 refine ws_next (pend' := []) hst (by kernel_rfl) pk_nil ?_
 refine wsr (.agg #[v4798, v4903, Zs, Zs, v4860, Zs]) 6 rfl rfl rfl (by kernel_rfl) (fun w hst => by obtain ⟨_, _, hv_, _⟩ := hst.sv2; rw [hv_]; obtain ⟨_, _, hv_, _⟩ := hst.sv0; rw [hv_]; obtain ⟨_, _, hv_, _⟩ := hst.sv3; rw [hv_]; kernel_rfl) ?_
 refine ws_e1 7 (by kernel_rfl) ?_
 refine nxe [9] (by kernel_rfl) z z ?_
 clear hst
 intro w hst
 obtain ⟨b4913, w4914, ew4915, eb4916, hst⟩ := hst.box [v4798, v4903, Zs, Zs, v4860, Zs] 72
 refine we_run (v := Pt b4913 0) (w' := w4914) z (x_al (by kernel_rfl) ew4915 eb4916) ?_
 refine ws_next (pend' := []) hst (by kernel_rfl) pk_nil ?_
 refine ws_e1 9 (by kernel_rfl) ?_
 refine nxe [] (by kernel_rfl) z z ?_
 clear hst
 intro w hst
 replace hst := hst.pull2
 obtain ⟨w4918, hr4919, hst⟩ := hst.by_ [Pt b4913 0] 0 (Pt b4913 0) sizeOf59 z (oC z oN) (by kernel_rfl)
 refine we_unit z (x_unit hr4919) ?_
 refine ws_next (pend' := []) hst (by kernel_rfl) pk_nil ?_
 refine ws_nil ?_
 intro w hst
 refine ⟨z, ?_⟩
 replace hst := hst.own_nil (tySl (tyInt .i64))
 replace hst := hst.own_nil (tySl (tyInt .i64))
 replace hst := hst.own_nil (tyInt .i64)
 replace hst := hst.pull6.pull2.pull3.pull6.pull7.pull7
 replace hst := at_label_Lattice_close (pv := Pt b4913 0) (x := ({ up := t4791, down := (List.replicate (Int.toNat ((a0).length : Int)) (0:Int)), join := [], meet := [], rank := (List.replicate (Int.toNat ((a0).length : Int)) (0:Int)), all := [] } : label_Lattice)) hst z
 replace hst := hst.pull1.keep2
 obtain rfl := some_inj hm
 exact ⟨({ up := t4791, down := (List.replicate (Int.toNat ((a0).length : Int)) (0:Int)), join := [], meet := [], rank := (List.replicate (Int.toNat ((a0).length : Int)) (0:Int)), all := [] } : label_Lattice), b4898, (Pt b4913 0), _, hx5475, (fu 0 r0_0 z (fu 4 (.int .i64 ((a0).length : Int)) z (fu 5 (Pt b4898 0) z z))), hst⟩
}
}
 {
 refine nxe [3, 5, 6, 7, 9] (by kernel_rfl) z z ?_
 clear hst
 intro w hst
 obtain ⟨b4920, w4921, ew4922, eb4923, hst⟩ := hst.box [.pointer none] 59
 refine we_run (v := Pt b4920 0) (w' := w4921) z (x_al (by kernel_rfl) ew4922 eb4923) ?_
 refine ws_next (pend' := [(4, I6 ((a0).length : Int)), (2, I6 ((a0).length : Int))]) hst (by kernel_rfl) (pkr z z (fun w hst => z) (pkr z z (fun w hst => z) pk_nil)) ?_
 refine ws_e2 3 5 (by kernel_rfl) ?_ ?_
 {
 refine nxe [5, 6, 7, 9] (by kernel_rfl) z z ?_
 clear hst
 intro w hst
 obtain ⟨v4925, w4926, hr4927, hst⟩ := run_mk (k := .i64) (k' := .i64) (zm := (0:Int)) elem_40 hst hg4793 (by decide) z
 refine we_run (v := v4925) (w' := w4926) z (x_make z z hr4927) ?_
 refine ws_next (pend' := [(4, I6 ((a0).length : Int))]) hst (by kernel_rfl) (pkr z z (fun w hst => z) pk_nil) ?_
 refine ws_e1 5 (by kernel_rfl) ?_
 refine nxe [6, 7, 9] (by kernel_rfl) z z ?_
 clear hst
 intro w hst
 obtain ⟨v4929, w4930, hr4931, hst⟩ := run_mk (k := .i64) (k' := .i64) (zm := (0:Int)) elem_69 hst hg4794 (by decide) z
 refine we_run (v := v4929) (w' := w4930) z (x_make z z hr4931) ?_
 refine ws_next (pend' := []) hst (by kernel_rfl) pk_nil ?_
 refine wsr (.agg #[v4798, v4925, Zs, Zs, v4929, Zs]) 6 rfl rfl rfl (by kernel_rfl) (fun w hst => by obtain ⟨_, _, hv_, _⟩ := hst.sv0; rw [hv_]; obtain ⟨_, _, hv_, _⟩ := hst.sv1; rw [hv_]; obtain ⟨_, _, hv_, _⟩ := hst.sv3; rw [hv_]; kernel_rfl) ?_
 refine ws_e1 7 (by kernel_rfl) ?_
 refine nxe [9] (by kernel_rfl) z z ?_
 clear hst
 intro w hst
 obtain ⟨b4939, w4940, ew4941, eb4942, hst⟩ := hst.box [v4798, v4925, Zs, Zs, v4929, Zs] 72
 refine we_run (v := Pt b4939 0) (w' := w4940) z (x_al (by kernel_rfl) ew4941 eb4942) ?_
 refine ws_next (pend' := []) hst (by kernel_rfl) pk_nil ?_
 refine ws_e1 9 (by kernel_rfl) ?_
 refine nxe [] (by kernel_rfl) z z ?_
 clear hst
 intro w hst
 replace hst := hst.pull3
 obtain ⟨w4944, hr4945, hst⟩ := hst.by_ [Pt b4939 0] 0 (Pt b4939 0) sizeOf59 z (oC z oN) (by kernel_rfl)
 refine we_unit z (x_unit hr4945) ?_
 refine ws_next (pend' := []) hst (by kernel_rfl) pk_nil ?_
 refine ws_nil ?_
 intro w hst
 refine ⟨z, ?_⟩
 replace hst := hst.own_nil (tySl (tyInt .i64))
 replace hst := hst.own_nil (tySl (tyInt .i64))
 replace hst := hst.own_nil (tyInt .i64)
 replace hst := hst.pull5.pull2.pull3.pull6.pull7.pull7
 replace hst := at_label_Lattice_close (pv := Pt b4939 0) (x := ({ up := t4791, down := (List.replicate (Int.toNat ((a0).length : Int)) (0:Int)), join := [], meet := [], rank := (List.replicate (Int.toNat ((a0).length : Int)) (0:Int)), all := [] } : label_Lattice)) hst z
 replace hst := hst.pull1.keep2
 obtain rfl := some_inj hm
 exact ⟨({ up := t4791, down := (List.replicate (Int.toNat ((a0).length : Int)) (0:Int)), join := [], meet := [], rank := (List.replicate (Int.toNat ((a0).length : Int)) (0:Int)), all := [] } : label_Lattice), b4920, (Pt b4939 0), _, hx5475, (fu 0 r0_0 z (fu 4 (.int .i64 ((a0).length : Int)) z (fu 5 (Pt b4920 0) z z))), hst⟩
}
 {
 refine nxe [3, 6, 7, 9] (by kernel_rfl) z z ?_
 clear hst
 intro w hst
 obtain ⟨v4946, w4947, hr4948, hst⟩ := run_mk (k := .i64) (k' := .i64) (zm := (0:Int)) elem_69 hst hg4794 (by decide) z
 refine we_run (v := v4946) (w' := w4947) z (x_make z z hr4948) ?_
 refine ws_next (pend' := [(2, I6 ((a0).length : Int))]) hst (by kernel_rfl) (pkr z z (fun w hst => z) pk_nil) ?_
 refine ws_e1 3 (by kernel_rfl) ?_
 refine nxe [6, 7, 9] (by kernel_rfl) z z ?_
 clear hst
 intro w hst
 obtain ⟨v4950, w4951, hr4952, hst⟩ := run_mk (k := .i64) (k' := .i64) (zm := (0:Int)) elem_40 hst hg4793 (by decide) z
 refine we_run (v := v4950) (w' := w4951) z (x_make z z hr4952) ?_
 refine ws_next (pend' := []) hst (by kernel_rfl) pk_nil ?_
 refine wsr (.agg #[v4798, v4950, Zs, Zs, v4946, Zs]) 6 rfl rfl rfl (by kernel_rfl) (fun w hst => by obtain ⟨_, _, hv_, _⟩ := hst.sv1; rw [hv_]; obtain ⟨_, _, hv_, _⟩ := hst.sv0; rw [hv_]; obtain ⟨_, _, hv_, _⟩ := hst.sv3; rw [hv_]; kernel_rfl) ?_
 refine ws_e1 7 (by kernel_rfl) ?_
 refine nxe [9] (by kernel_rfl) z z ?_
 clear hst
 intro w hst
 obtain ⟨b4960, w4961, ew4962, eb4963, hst⟩ := hst.box [v4798, v4950, Zs, Zs, v4946, Zs] 72
 refine we_run (v := Pt b4960 0) (w' := w4961) z (x_al (by kernel_rfl) ew4962 eb4963) ?_
 refine ws_next (pend' := []) hst (by kernel_rfl) pk_nil ?_
 refine ws_e1 9 (by kernel_rfl) ?_
 refine nxe [] (by kernel_rfl) z z ?_
 clear hst
 intro w hst
 replace hst := hst.pull3
 obtain ⟨w4965, hr4966, hst⟩ := hst.by_ [Pt b4960 0] 0 (Pt b4960 0) sizeOf59 z (oC z oN) (by kernel_rfl)
 refine we_unit z (x_unit hr4966) ?_
 refine ws_next (pend' := []) hst (by kernel_rfl) pk_nil ?_
 refine ws_nil ?_
 intro w hst
 refine ⟨z, ?_⟩
 replace hst := hst.own_nil (tySl (tyInt .i64))
 replace hst := hst.own_nil (tySl (tyInt .i64))
 replace hst := hst.own_nil (tyInt .i64)
 replace hst := hst.pull6.pull2.pull3.pull6.pull7.pull7
 replace hst := at_label_Lattice_close (pv := Pt b4960 0) (x := ({ up := t4791, down := (List.replicate (Int.toNat ((a0).length : Int)) (0:Int)), join := [], meet := [], rank := (List.replicate (Int.toNat ((a0).length : Int)) (0:Int)), all := [] } : label_Lattice)) hst z
 replace hst := hst.pull1.keep2
 obtain rfl := some_inj hm
 exact ⟨({ up := t4791, down := (List.replicate (Int.toNat ((a0).length : Int)) (0:Int)), join := [], meet := [], rank := (List.replicate (Int.toNat ((a0).length : Int)) (0:Int)), all := [] } : label_Lattice), b4920, (Pt b4960 0), _, hx5475, (fu 0 r0_0 z (fu 4 (.int .i64 ((a0).length : Int)) z (fu 5 (Pt b4920 0) z z))), hst⟩
}
}
}
 {
 refine nxe [1, 5, 6, 7, 8, 9] (by kernel_rfl) z z ?_
 clear hst
 intro w hst
 obtain ⟨v4967, w4968, hr4969, hst⟩ := run_mk (k := .i64) (k' := .i64) (zm := (0:Int)) elem_40 hst hg4793 (by decide) z
 refine we_run (v := v4967) (w' := w4968) z (x_make z z hr4969) ?_
 refine ws_next (pend' := [(4, I6 ((a0).length : Int)), (0, r0_0)]) hst (by kernel_rfl) (pkr z z (fun w hst => z) (pkr z z (fun w hst => z) pk_nil)) ?_
 refine ws_e3 1 5 8 (by kernel_rfl) ?_ ?_ ?_
 {
 refine nxe [5, 6, 7, 8, 9] (by kernel_rfl) z z ?_
 clear hst
 intro w hst
 refine wec call24 [r0_0] z z ?_
 refine (slices_Clone_uint64_uint64_ref (f0_0.mono (rd_weak _)) hst.to0 ht4792).mono ?_
 rintro _ w4971 ⟨v4974, rfl, hst⟩
 refine ⟨_, z, ?_⟩
 replace hst := hst.of1
 refine ws_next (pend' := [(4, I6 ((a0).length : Int))]) hst (by kernel_rfl) (pkr z z (fun w hst => z) pk_nil) ?_
 refine ws_e2 5 8 (by kernel_rfl) ?_ ?_
 {
 refine nxe [6, 7, 8, 9] (by kernel_rfl) z z ?_
 clear hst
 intro w hst
 obtain ⟨v4976, w4977, hr4978, hst⟩ := run_mk (k := .i64) (k' := .i64) (zm := (0:Int)) elem_69 hst hg4794 (by decide) z
 refine we_run (v := v4976) (w' := w4977) z (x_make z z hr4978) ?_
 refine ws_next (pend' := []) hst (by kernel_rfl) pk_nil ?_
 refine wsr (.agg #[v4974, v4967, Zs, Zs, v4976, Zs]) 6 rfl rfl rfl (by kernel_rfl) (fun w hst => by obtain ⟨_, _, hv_, _⟩ := hst.sv0; rw [hv_]; obtain ⟨_, _, hv_, _⟩ := hst.sv2; rw [hv_]; obtain ⟨_, _, hv_, _⟩ := hst.sv1; rw [hv_]; kernel_rfl) ?_
 refine ws_e2 7 8 (by kernel_rfl) ?_ ?_
 {
 refine nxe [8, 9] (by kernel_rfl) z z ?_
 clear hst
 intro w hst
 obtain ⟨b4986, w4987, ew4988, eb4989, hst⟩ := hst.box [v4974, v4967, Zs, Zs, v4976, Zs] 72
 refine we_run (v := Pt b4986 0) (w' := w4987) z (x_al (by kernel_rfl) ew4988 eb4989) ?_
 refine ws_next (pend' := []) hst (by kernel_rfl) pk_nil ?_
 refine ws_e1 8 (by kernel_rfl) ?_
 refine nxe [9] (by kernel_rfl) z z ?_
 clear hst
 intro w hst
 obtain ⟨b4991, w4992, ew4993, eb4994, hst⟩ := hst.box [.pointer none] 59
 refine we_run (v := Pt b4991 0) (w' := w4992) z (x_al (by kernel_rfl) ew4993 eb4994) ?_
 refine ws_next (pend' := []) hst (by kernel_rfl) pk_nil ?_
 refine ws_e1 9 (by kernel_rfl) ?_
 refine nxe [] (by kernel_rfl) z z ?_
 clear hst
 intro w hst
 obtain ⟨w4996, hr4997, hst⟩ := hst.by_ [Pt b4986 0] 0 (Pt b4986 0) sizeOf59 z (oC z oN) (by kernel_rfl)
 refine we_unit z (x_unit hr4997) ?_
 refine ws_next (pend' := []) hst (by kernel_rfl) pk_nil ?_
 refine ws_nil ?_
 intro w hst
 refine ⟨z, ?_⟩
 replace hst := hst.own_nil (tySl (tyInt .i64))
 replace hst := hst.own_nil (tySl (tyInt .i64))
 replace hst := hst.own_nil (tyInt .i64)
 replace hst := hst.pull5.pull2.pull3.pull7.pull7.pull7
 replace hst := at_label_Lattice_close (pv := Pt b4986 0) (x := ({ up := t4791, down := (List.replicate (Int.toNat ((a0).length : Int)) (0:Int)), join := [], meet := [], rank := (List.replicate (Int.toNat ((a0).length : Int)) (0:Int)), all := [] } : label_Lattice)) hst z
 replace hst := hst.pull1.keep2
 obtain rfl := some_inj hm
 exact ⟨({ up := t4791, down := (List.replicate (Int.toNat ((a0).length : Int)) (0:Int)), join := [], meet := [], rank := (List.replicate (Int.toNat ((a0).length : Int)) (0:Int)), all := [] } : label_Lattice), b4991, (Pt b4986 0), _, hx5475, (fu 0 r0_0 z (fu 4 (.int .i64 ((a0).length : Int)) z (fu 5 (Pt b4991 0) z z))), hst⟩
}
 {
 refine nxe [7, 9] (by kernel_rfl) z z ?_
 clear hst
 intro w hst
 obtain ⟨b4998, w4999, ew5000, eb5001, hst⟩ := hst.box [.pointer none] 59
 refine we_run (v := Pt b4998 0) (w' := w4999) z (x_al (by kernel_rfl) ew5000 eb5001) ?_
 refine ws_next (pend' := [(6, .agg #[v4974, v4967, Zs, Zs, v4976, Zs])]) hst (by kernel_rfl) (pkr rfl rfl (fun w hst => by obtain ⟨_, _, hv_, _⟩ := hst.sv1; rw [hv_]; obtain ⟨_, _, hv_, _⟩ := hst.sv3; rw [hv_]; obtain ⟨_, _, hv_, _⟩ := hst.sv2; rw [hv_]; kernel_rfl) pk_nil) ?_
 refine ws_e1 7 (by kernel_rfl) ?_
 refine nxe [9] (by kernel_rfl) z z ?_
 clear hst
 intro w hst
 obtain ⟨b5003, w5004, ew5005, eb5006, hst⟩ := hst.box [v4974, v4967, Zs, Zs, v4976, Zs] 72
 refine we_run (v := Pt b5003 0) (w' := w5004) z (x_al (by kernel_rfl) ew5005 eb5006) ?_
 refine ws_next (pend' := []) hst (by kernel_rfl) pk_nil ?_
 refine ws_e1 9 (by kernel_rfl) ?_
 refine nxe [] (by kernel_rfl) z z ?_
 clear hst
 intro w hst
 replace hst := hst.pull1
 obtain ⟨w5008, hr5009, hst⟩ := hst.by_ [Pt b5003 0] 0 (Pt b5003 0) sizeOf59 z (oC z oN) (by kernel_rfl)
 refine we_unit z (x_unit hr5009) ?_
 refine ws_next (pend' := []) hst (by kernel_rfl) pk_nil ?_
 refine ws_nil ?_
 intro w hst
 refine ⟨z, ?_⟩
 replace hst := hst.own_nil (tySl (tyInt .i64))
 replace hst := hst.own_nil (tySl (tyInt .i64))
 replace hst := hst.own_nil (tyInt .i64)
 replace hst := hst.pull5.pull2.pull3.pull7.pull7.pull7
 replace hst := at_label_Lattice_close (pv := Pt b5003 0) (x := ({ up := t4791, down := (List.replicate (Int.toNat ((a0).length : Int)) (0:Int)), join := [], meet := [], rank := (List.replicate (Int.toNat ((a0).length : Int)) (0:Int)), all := [] } : label_Lattice)) hst z
 replace hst := hst.pull1.keep2
 obtain rfl := some_inj hm
 exact ⟨({ up := t4791, down := (List.replicate (Int.toNat ((a0).length : Int)) (0:Int)), join := [], meet := [], rank := (List.replicate (Int.toNat ((a0).length : Int)) (0:Int)), all := [] } : label_Lattice), b4998, (Pt b5003 0), _, hx5475, (fu 0 r0_0 z (fu 4 (.int .i64 ((a0).length : Int)) z (fu 5 (Pt b4998 0) z z))), hst⟩
}
}
 {
 refine nxe [5, 6, 7, 9] (by kernel_rfl) z z ?_
 clear hst
 intro w hst
 obtain ⟨b5010, w5011, ew5012, eb5013, hst⟩ := hst.box [.pointer none] 59
 refine we_run (v := Pt b5010 0) (w' := w5011) z (x_al (by kernel_rfl) ew5012 eb5013) ?_
 refine ws_next (pend' := [(4, I6 ((a0).length : Int))]) hst (by kernel_rfl) (pkr z z (fun w hst => z) pk_nil) ?_
 refine ws_e1 5 (by kernel_rfl) ?_
 refine nxe [6, 7, 9] (by kernel_rfl) z z ?_
 clear hst
 intro w hst
 obtain ⟨v5015, w5016, hr5017, hst⟩ := run_mk (k := .i64) (k' := .i64) (zm := (0:Int)) elem_69 hst hg4794 (by decide) z
 refine we_run (v := v5015) (w' := w5016) z (x_make z z hr5017) ?_
 refine ws_next (pend' := []) hst (by kernel_rfl) pk_nil ?_
 refine wsr (.agg #[v4974, v4967, Zs, Zs, v5015, Zs]) 6 rfl rfl rfl (by kernel_rfl) (fun w hst => by obtain ⟨_, _, hv_, _⟩ := hst.sv0; rw [hv_]; obtain ⟨_, _, hv_, _⟩ := hst.sv3; rw [hv_]; obtain ⟨_, _, hv_, _⟩ := hst.sv2; rw [hv_]; kernel_rfl) ?_
 refine ws_e1 7 (by kernel_rfl) ?_
 refine nxe [9] (by kernel_rfl) z z ?_
 clear hst
 intro w hst
 obtain ⟨b5025, w5026, ew5027, eb5028, hst⟩ := hst.box [v4974, v4967, Zs, Zs, v5015, Zs] 72
 refine we_run (v := Pt b5025 0) (w' := w5026) z (x_al (by kernel_rfl) ew5027 eb5028) ?_
 refine ws_next (pend' := []) hst (by kernel_rfl) pk_nil ?_
 refine ws_e1 9 (by kernel_rfl) ?_
 refine nxe [] (by kernel_rfl) z z ?_
 clear hst
 intro w hst
 replace hst := hst.pull2
 obtain ⟨w5030, hr5031, hst⟩ := hst.by_ [Pt b5025 0] 0 (Pt b5025 0) sizeOf59 z (oC z oN) (by kernel_rfl)
 refine we_unit z (x_unit hr5031) ?_
 refine ws_next (pend' := []) hst (by kernel_rfl) pk_nil ?_
 refine ws_nil ?_
 intro w hst
 refine ⟨z, ?_⟩
 replace hst := hst.own_nil (tySl (tyInt .i64))
 replace hst := hst.own_nil (tySl (tyInt .i64))
 replace hst := hst.own_nil (tyInt .i64)
 replace hst := hst.pull5.pull2.pull3.pull7.pull7.pull7
 replace hst := at_label_Lattice_close (pv := Pt b5025 0) (x := ({ up := t4791, down := (List.replicate (Int.toNat ((a0).length : Int)) (0:Int)), join := [], meet := [], rank := (List.replicate (Int.toNat ((a0).length : Int)) (0:Int)), all := [] } : label_Lattice)) hst z
 replace hst := hst.pull1.keep2
 obtain rfl := some_inj hm
 exact ⟨({ up := t4791, down := (List.replicate (Int.toNat ((a0).length : Int)) (0:Int)), join := [], meet := [], rank := (List.replicate (Int.toNat ((a0).length : Int)) (0:Int)), all := [] } : label_Lattice), b5010, (Pt b5025 0), _, hx5475, (fu 0 r0_0 z (fu 4 (.int .i64 ((a0).length : Int)) z (fu 5 (Pt b5010 0) z z))), hst⟩
}
}
 {
 refine nxe [1, 6, 7, 8, 9] (by kernel_rfl) z z ?_
 clear hst
 intro w hst
 obtain ⟨v5032, w5033, hr5034, hst⟩ := run_mk (k := .i64) (k' := .i64) (zm := (0:Int)) elem_69 hst hg4794 (by decide) z
 refine we_run (v := v5032) (w' := w5033) z (x_make z z hr5034) ?_
 refine ws_next (pend' := [(0, r0_0)]) hst (by kernel_rfl) (pkr z z (fun w hst => z) pk_nil) ?_
 refine ws_e2 1 8 (by kernel_rfl) ?_ ?_
 {
 refine nxe [6, 7, 8, 9] (by kernel_rfl) z z ?_
 clear hst
 intro w hst
 refine wec call24 [r0_0] z z ?_
 refine (slices_Clone_uint64_uint64_ref (f0_0.mono (rd_weak _)) hst.to0 ht4792).mono ?_
 rintro _ w5036 ⟨v5039, rfl, hst⟩
 refine ⟨_, z, ?_⟩
 replace hst := hst.of1
 refine ws_next (pend' := []) hst (by kernel_rfl) pk_nil ?_
 refine wsr (.agg #[v5039, v4967, Zs, Zs, v5032, Zs]) 6 rfl rfl rfl (by kernel_rfl) (fun w hst => by obtain ⟨_, _, hv_, _⟩ := hst.sv1; rw [hv_]; obtain ⟨_, _, hv_, _⟩ := hst.sv2; rw [hv_]; obtain ⟨_, _, hv_, _⟩ := hst.sv0; rw [hv_]; kernel_rfl) ?_
 refine ws_e2 7 8 (by kernel_rfl) ?_ ?_
 {
 refine nxe [8, 9] (by kernel_rfl) z z ?_
 clear hst
 intro w hst
 obtain ⟨b5047, w5048, ew5049, eb5050, hst⟩ := hst.box [v5039, v4967, Zs, Zs, v5032, Zs] 72
 refine we_run (v := Pt b5047 0) (w' := w5048) z (x_al (by kernel_rfl) ew5049 eb5050) ?_
 refine ws_next (pend' := []) hst (by kernel_rfl) pk_nil ?_
 refine ws_e1 8 (by kernel_rfl) ?_
 refine nxe [9] (by kernel_rfl) z z ?_
 clear hst
 intro w hst
 obtain ⟨b5052, w5053, ew5054, eb5055, hst⟩ := hst.box [.pointer none] 59
 refine we_run (v := Pt b5052 0) (w' := w5053) z (x_al (by kernel_rfl) ew5054 eb5055) ?_
 refine ws_next (pend' := []) hst (by kernel_rfl) pk_nil ?_
 refine ws_e1 9 (by kernel_rfl) ?_
 refine nxe [] (by kernel_rfl) z z ?_
 clear hst
 intro w hst
 obtain ⟨w5057, hr5058, hst⟩ := hst.by_ [Pt b5047 0] 0 (Pt b5047 0) sizeOf59 z (oC z oN) (by kernel_rfl)
 refine we_unit z (x_unit hr5058) ?_
 refine ws_next (pend' := []) hst (by kernel_rfl) pk_nil ?_
 refine ws_nil ?_
 intro w hst
 refine ⟨z, ?_⟩
 replace hst := hst.own_nil (tySl (tyInt .i64))
 replace hst := hst.own_nil (tySl (tyInt .i64))
 replace hst := hst.own_nil (tyInt .i64)
 replace hst := hst.pull6.pull2.pull3.pull7.pull7.pull7
 replace hst := at_label_Lattice_close (pv := Pt b5047 0) (x := ({ up := t4791, down := (List.replicate (Int.toNat ((a0).length : Int)) (0:Int)), join := [], meet := [], rank := (List.replicate (Int.toNat ((a0).length : Int)) (0:Int)), all := [] } : label_Lattice)) hst z
 replace hst := hst.pull1.keep2
 obtain rfl := some_inj hm
 exact ⟨({ up := t4791, down := (List.replicate (Int.toNat ((a0).length : Int)) (0:Int)), join := [], meet := [], rank := (List.replicate (Int.toNat ((a0).length : Int)) (0:Int)), all := [] } : label_Lattice), b5052, (Pt b5047 0), _, hx5475, (fu 0 r0_0 z (fu 4 (.int .i64 ((a0).length : Int)) z (fu 5 (Pt b5052 0) z z))), hst⟩
}
 {
 refine nxe [7, 9] (by kernel_rfl) z z ?_
 clear hst
 intro w hst
 obtain ⟨b5059, w5060, ew5061, eb5062, hst⟩ := hst.box [.pointer none] 59
 refine we_run (v := Pt b5059 0) (w' := w5060) z (x_al (by kernel_rfl) ew5061 eb5062) ?_
 refine ws_next (pend' := [(6, .agg #[v5039, v4967, Zs, Zs, v5032, Zs])]) hst (by kernel_rfl) (pkr rfl rfl (fun w hst => by obtain ⟨_, _, hv_, _⟩ := hst.sv2; rw [hv_]; obtain ⟨_, _, hv_, _⟩ := hst.sv3; rw [hv_]; obtain ⟨_, _, hv_, _⟩ := hst.sv1; rw [hv_]; kernel_rfl) pk_nil) ?_
 refine ws_e1 7 (by kernel_rfl) ?_
 refine nxe [9] (by kernel_rfl) z z ?_
 clear hst
 intro w hst
 obtain ⟨b5064, w5065, ew5066, eb5067, hst⟩ := hst.box [v5039, v4967, Zs, Zs, v5032, Zs] 72
 refine we_run (v := Pt b5064 0) (w' := w5065) z (x_al (by kernel_rfl) ew5066 eb5067) ?_
 refine ws_next (pend' := []) hst (by kernel_rfl) pk_nil ?_
 refine ws_e1 9 (by kernel_rfl) ?_
 refine nxe [] (by kernel_rfl) z z ?_
 clear hst
 intro w hst
 replace hst := hst.pull1
 obtain ⟨w5069, hr5070, hst⟩ := hst.by_ [Pt b5064 0] 0 (Pt b5064 0) sizeOf59 z (oC z oN) (by kernel_rfl)
 refine we_unit z (x_unit hr5070) ?_
 refine ws_next (pend' := []) hst (by kernel_rfl) pk_nil ?_
 refine ws_nil ?_
 intro w hst
 refine ⟨z, ?_⟩
 replace hst := hst.own_nil (tySl (tyInt .i64))
 replace hst := hst.own_nil (tySl (tyInt .i64))
 replace hst := hst.own_nil (tyInt .i64)
 replace hst := hst.pull6.pull2.pull3.pull7.pull7.pull7
 replace hst := at_label_Lattice_close (pv := Pt b5064 0) (x := ({ up := t4791, down := (List.replicate (Int.toNat ((a0).length : Int)) (0:Int)), join := [], meet := [], rank := (List.replicate (Int.toNat ((a0).length : Int)) (0:Int)), all := [] } : label_Lattice)) hst z
 replace hst := hst.pull1.keep2
 obtain rfl := some_inj hm
 exact ⟨({ up := t4791, down := (List.replicate (Int.toNat ((a0).length : Int)) (0:Int)), join := [], meet := [], rank := (List.replicate (Int.toNat ((a0).length : Int)) (0:Int)), all := [] } : label_Lattice), b5059, (Pt b5064 0), _, hx5475, (fu 0 r0_0 z (fu 4 (.int .i64 ((a0).length : Int)) z (fu 5 (Pt b5059 0) z z))), hst⟩
}
}
 {
 refine nxe [1, 6, 7, 9] (by kernel_rfl) z z ?_
 clear hst
 intro w hst
 obtain ⟨b5071, w5072, ew5073, eb5074, hst⟩ := hst.box [.pointer none] 59
 refine we_run (v := Pt b5071 0) (w' := w5072) z (x_al (by kernel_rfl) ew5073 eb5074) ?_
 refine ws_next (pend' := [(0, r0_0)]) hst (by kernel_rfl) (pkr z z (fun w hst => z) pk_nil) ?_
 refine ws_e1 1 (by kernel_rfl) ?_
 refine nxe [6, 7, 9] (by kernel_rfl) z z ?_
 clear hst
 intro w hst
 refine wec call24 [r0_0] z z ?_
 refine (slices_Clone_uint64_uint64_ref (f0_0.mono (rd_weak _)) hst.to0 ht4792).mono ?_
 rintro _ w5076 ⟨v5079, rfl, hst⟩
 refine ⟨_, z, ?_⟩
 replace hst := hst.of1
 refine ws_next (pend' := []) hst (by kernel_rfl) pk_nil ?_
 refine wsr (.agg #[v5079, v4967, Zs, Zs, v5032, Zs]) 6 rfl rfl rfl (by kernel_rfl) (fun w hst => by obtain ⟨_, _, hv_, _⟩ := hst.sv2; rw [hv_]; obtain ⟨_, _, hv_, _⟩ := hst.sv3; rw [hv_]; obtain ⟨_, _, hv_, _⟩ := hst.sv0; rw [hv_]; kernel_rfl) ?_
 refine ws_e1 7 (by kernel_rfl) ?_
 refine nxe [9] (by kernel_rfl) z z ?_
 clear hst
 intro w hst
 obtain ⟨b5087, w5088, ew5089, eb5090, hst⟩ := hst.box [v5079, v4967, Zs, Zs, v5032, Zs] 72
 refine we_run (v := Pt b5087 0) (w' := w5088) z (x_al (by kernel_rfl) ew5089 eb5090) ?_
 refine ws_next (pend' := []) hst (by kernel_rfl) pk_nil ?_
 refine ws_e1 9 (by kernel_rfl) ?_
 refine nxe [] (by kernel_rfl) z z ?_
 clear hst
 intro w hst
 replace hst := hst.pull2
 obtain ⟨w5092, hr5093, hst⟩ := hst.by_ [Pt b5087 0] 0 (Pt b5087 0) sizeOf59 z (oC z oN) (by kernel_rfl)
 refine we_unit z (x_unit hr5093) ?_
 refine ws_next (pend' := []) hst (by kernel_rfl) pk_nil ?_
 refine ws_nil ?_
 intro w hst
 refine ⟨z, ?_⟩
 replace hst := hst.own_nil (tySl (tyInt .i64))
 replace hst := hst.own_nil (tySl (tyInt .i64))
 replace hst := hst.own_nil (tyInt .i64)
 replace hst := hst.pull6.pull2.pull3.pull7.pull7.pull7
 replace hst := at_label_Lattice_close (pv := Pt b5087 0) (x := ({ up := t4791, down := (List.replicate (Int.toNat ((a0).length : Int)) (0:Int)), join := [], meet := [], rank := (List.replicate (Int.toNat ((a0).length : Int)) (0:Int)), all := [] } : label_Lattice)) hst z
 replace hst := hst.pull1.keep2
 obtain rfl := some_inj hm
 exact ⟨({ up := t4791, down := (List.replicate (Int.toNat ((a0).length : Int)) (0:Int)), join := [], meet := [], rank := (List.replicate (Int.toNat ((a0).length : Int)) (0:Int)), all := [] } : label_Lattice), b5071, (Pt b5087 0), _, hx5475, (fu 0 r0_0 z (fu 4 (.int .i64 ((a0).length : Int)) z (fu 5 (Pt b5071 0) z z))), hst⟩
}
}
 {
 refine nxe [1, 5, 6, 7, 9] (by kernel_rfl) z z ?_
 clear hst
 intro w hst
 obtain ⟨b5094, w5095, ew5096, eb5097, hst⟩ := hst.box [.pointer none] 59
 refine we_run (v := Pt b5094 0) (w' := w5095) z (x_al (by kernel_rfl) ew5096 eb5097) ?_
 refine ws_next (pend' := [(4, I6 ((a0).length : Int)), (0, r0_0)]) hst (by kernel_rfl) (pkr z z (fun w hst => z) (pkr z z (fun w hst => z) pk_nil)) ?_
 refine ws_e2 1 5 (by kernel_rfl) ?_ ?_
 {
 refine nxe [5, 6, 7, 9] (by kernel_rfl) z z ?_
 clear hst
 intro w hst
 refine wec call24 [r0_0] z z ?_
 refine (slices_Clone_uint64_uint64_ref (f0_0.mono (rd_weak _)) hst.to0 ht4792).mono ?_
 rintro _ w5099 ⟨v5102, rfl, hst⟩
 refine ⟨_, z, ?_⟩
 replace hst := hst.of1
 refine ws_next (pend' := [(4, I6 ((a0).length : Int))]) hst (by kernel_rfl) (pkr z z (fun w hst => z) pk_nil) ?_
 refine ws_e1 5 (by kernel_rfl) ?_
 refine nxe [6, 7, 9] (by kernel_rfl) z z ?_
 clear hst
 intro w hst
 obtain ⟨v5104, w5105, hr5106, hst⟩ := run_mk (k := .i64) (k' := .i64) (zm := (0:Int)) elem_69 hst hg4794 (by decide) z
 refine we_run (v := v5104) (w' := w5105) z (x_make z z hr5106) ?_
 refine ws_next (pend' := []) hst (by kernel_rfl) pk_nil ?_
 refine wsr (.agg #[v5102, v4967, Zs, Zs, v5104, Zs]) 6 rfl rfl rfl (by kernel_rfl) (fun w hst => by obtain ⟨_, _, hv_, _⟩ := hst.sv0; rw [hv_]; obtain ⟨_, _, hv_, _⟩ := hst.sv3; rw [hv_]; obtain ⟨_, _, hv_, _⟩ := hst.sv1; rw [hv_]; kernel_rfl) ?_
 refine ws_e1 7 (by kernel_rfl) ?_
 refine nxe [9] (by kernel_rfl) z z ?_
 clear hst
 intro w hst
 obtain ⟨b5114, w5115, ew5116, eb5117, hst⟩ := hst.box [v5102, v4967, Zs, Zs, v5104, Zs] 72
 refine we_run (v := Pt b5114 0) (w' := w5115) z (x_al (by kernel_rfl) ew5116 eb5117) ?_
 refine ws_next (pend' := []) hst (by kernel_rfl) pk_nil ?_
 refine ws_e1 9 (by kernel_rfl) ?_
 refine nxe [] (by kernel_rfl) z z ?_
 clear hst
 intro w hst
 replace hst := hst.pull3
 obtain ⟨w5119, hr5120, hst⟩ := hst.by_ [Pt b5114 0] 0 (Pt b5114 0) sizeOf59 z (oC z oN) (by kernel_rfl)
 refine we_unit z (x_unit hr5120) ?_
 refine ws_next (pend' := []) hst (by kernel_rfl) pk_nil ?_
 refine ws_nil ?_
 intro w hst
 refine ⟨z, ?_⟩
 replace hst := hst.own_nil (tySl (tyInt .i64))
 replace hst := hst.own_nil (tySl (tyInt .i64))
 replace hst := hst.own_nil (tyInt .i64)
 replace hst := hst.pull5.pull2.pull3.pull7.pull7.pull7
 replace hst := at_label_Lattice_close (pv := Pt b5114 0) (x := ({ up := t4791, down := (List.replicate (Int.toNat ((a0).length : Int)) (0:Int)), join := [], meet := [], rank := (List.replicate (Int.toNat ((a0).length : Int)) (0:Int)), all := [] } : label_Lattice)) hst z
 replace hst := hst.pull1.keep2
 obtain rfl := some_inj hm
 exact ⟨({ up := t4791, down := (List.replicate (Int.toNat ((a0).length : Int)) (0:Int)), join := [], meet := [], rank := (List.replicate (Int.toNat ((a0).length : Int)) (0:Int)), all := [] } : label_Lattice), b5094, (Pt b5114 0), _, hx5475, (fu 0 r0_0 z (fu 4 (.int .i64 ((a0).length : Int)) z (fu 5 (Pt b5094 0) z z))), hst⟩
}
 {
 refine nxe [1, 6, 7, 9] (by kernel_rfl) z z ?_
 clear hst
 intro w hst
 obtain ⟨v5121, w5122, hr5123, hst⟩ := run_mk (k := .i64) (k' := .i64) (zm := (0:Int)) elem_69 hst hg4794 (by decide) z
 refine we_run (v := v5121) (w' := w5122) z (x_make z z hr5123) ?_
 refine ws_next (pend' := [(0, r0_0)]) hst (by kernel_rfl) (pkr z z (fun w hst => z) pk_nil) ?_
 refine ws_e1 1 (by kernel_rfl) ?_
 refine nxe [6, 7, 9] (by kernel_rfl) z z ?_
 clear hst
 intro w hst
 refine wec call24 [r0_0] z z ?_
 refine (slices_Clone_uint64_uint64_ref (f0_0.mono (rd_weak _)) hst.to0 ht4792).mono ?_
 rintro _ w5125 ⟨v5128, rfl, hst⟩
 refine ⟨_, z, ?_⟩
 replace hst := hst.of1
 refine ws_next (pend' := []) hst (by kernel_rfl) pk_nil ?_
 refine wsr (.agg #[v5128, v4967, Zs, Zs, v5121, Zs]) 6 rfl rfl rfl (by kernel_rfl) (fun w hst => by obtain ⟨_, _, hv_, _⟩ := hst.sv1; rw [hv_]; obtain ⟨_, _, hv_, _⟩ := hst.sv3; rw [hv_]; obtain ⟨_, _, hv_, _⟩ := hst.sv0; rw [hv_]; kernel_rfl) ?_
 refine ws_e1 7 (by kernel_rfl) ?_
 refine nxe [9] (by kernel_rfl) z z ?_
 clear hst
 intro w hst
 obtain ⟨b5136, w5137, ew5138, eb5139, hst⟩ := hst.box [v5128, v4967, Zs, Zs, v5121, Zs] 72
 refine we_run (v := Pt b5136 0) (w' := w5137) z (x_al (by kernel_rfl) ew5138 eb5139) ?_
 refine ws_next (pend' := []) hst (by kernel_rfl) pk_nil ?_
 refine ws_e1 9 (by kernel_rfl) ?_
 refine nxe [] (by kernel_rfl) z z ?_
 clear hst
 intro w hst
 replace hst := hst.pull3
 obtain ⟨w5141, hr5142, hst⟩ := hst.by_ [Pt b5136 0] 0 (Pt b5136 0) sizeOf59 z (oC z oN) (by kernel_rfl)
 refine we_unit z (x_unit hr5142) ?_
 refine ws_next (pend' := []) hst (by kernel_rfl) pk_nil ?_
 refine ws_nil ?_
 intro w hst
 refine ⟨z, ?_⟩
 replace hst := hst.own_nil (tySl (tyInt .i64))
 replace hst := hst.own_nil (tySl (tyInt .i64))
 replace hst := hst.own_nil (tyInt .i64)
 replace hst := hst.pull6.pull2.pull3.pull7.pull7.pull7
 replace hst := at_label_Lattice_close (pv := Pt b5136 0) (x := ({ up := t4791, down := (List.replicate (Int.toNat ((a0).length : Int)) (0:Int)), join := [], meet := [], rank := (List.replicate (Int.toNat ((a0).length : Int)) (0:Int)), all := [] } : label_Lattice)) hst z
 replace hst := hst.pull1.keep2
 obtain rfl := some_inj hm
 exact ⟨({ up := t4791, down := (List.replicate (Int.toNat ((a0).length : Int)) (0:Int)), join := [], meet := [], rank := (List.replicate (Int.toNat ((a0).length : Int)) (0:Int)), all := [] } : label_Lattice), b5094, (Pt b5136 0), _, hx5475, (fu 0 r0_0 z (fu 4 (.int .i64 ((a0).length : Int)) z (fu 5 (Pt b5094 0) z z))), hst⟩
}
}
}
 {
 refine nxe [1, 3, 6, 7, 8, 9] (by kernel_rfl) z z ?_
 clear hst
 intro w hst
 obtain ⟨v5143, w5144, hr5145, hst⟩ := run_mk (k := .i64) (k' := .i64) (zm := (0:Int)) elem_69 hst hg4794 (by decide) z
 refine we_run (v := v5143) (w' := w5144) z (x_make z z hr5145) ?_
 refine ws_next (pend' := [(2, I6 ((a0).length : Int)), (0, r0_0)]) hst (by kernel_rfl) (pkr z z (fun w hst => z) (pkr z z (fun w hst => z) pk_nil)) ?_
 refine ws_e3 1 3 8 (by kernel_rfl) ?_ ?_ ?_
 {
 refine nxe [3, 6, 7, 8, 9] (by kernel_rfl) z z ?_
 clear hst
 intro w hst
 refine wec call24 [r0_0] z z ?_
 refine (slices_Clone_uint64_uint64_ref (f0_0.mono (rd_weak _)) hst.to0 ht4792).mono ?_
 rintro _ w5147 ⟨v5150, rfl, hst⟩
 refine ⟨_, z, ?_⟩
 replace hst := hst.of1
 refine ws_next (pend' := [(2, I6 ((a0).length : Int))]) hst (by kernel_rfl) (pkr z z (fun w hst => z) pk_nil) ?_
 refine ws_e2 3 8 (by kernel_rfl) ?_ ?_
 {
 refine nxe [6, 7, 8, 9] (by kernel_rfl) z z ?_
 clear hst
 intro w hst
 obtain ⟨v5152, w5153, hr5154, hst⟩ := run_mk (k := .i64) (k' := .i64) (zm := (0:Int)) elem_40 hst hg4793 (by decide) z
 refine we_run (v := v5152) (w' := w5153) z (x_make z z hr5154) ?_
 refine ws_next (pend' := []) hst (by kernel_rfl) pk_nil ?_
 refine wsr (.agg #[v5150, v5152, Zs, Zs, v5143, Zs]) 6 rfl rfl rfl (by kernel_rfl) (fun w hst => by obtain ⟨_, _, hv_, _⟩ := hst.sv2; rw [hv_]; obtain ⟨_, _, hv_, _⟩ := hst.sv0; rw [hv_]; obtain ⟨_, _, hv_, _⟩ := hst.sv1; rw [hv_]; kernel_rfl) ?_
 refine ws_e2 7 8 (by kernel_rfl) ?_ ?_
 {
 refine nxe [8, 9] (by kernel_rfl) z z ?_
 clear hst
 intro w hst
 obtain ⟨b5162, w5163, ew5164, eb5165, hst⟩ := hst.box [v5150, v5152, Zs, Zs, v5143, Zs] 72
 refine we_run (v := Pt b5162 0) (w' := w5163) z (x_al (by kernel_rfl) ew5164 eb5165) ?_
 refine ws_next (pend' := []) hst (by kernel_rfl) pk_nil ?_
 refine ws_e1 8 (by kernel_rfl) ?_
 refine nxe [9] (by kernel_rfl) z z ?_
 clear hst
 intro w hst
 obtain ⟨b5167, w5168, ew5169, eb5170, hst⟩ := hst.box [.pointer none] 59
 refine we_run (v := Pt b5167 0) (w' := w5168) z (x_al (by kernel_rfl) ew5169 eb5170) ?_
 refine ws_next (pend' := []) hst (by kernel_rfl) pk_nil ?_
 refine ws_e1 9 (by kernel_rfl) ?_
 refine nxe [] (by kernel_rfl) z z ?_
 clear hst
 intro w hst
 obtain ⟨w5172, hr5173, hst⟩ := hst.by_ [Pt b5162 0] 0 (Pt b5162 0) sizeOf59 z (oC z oN) (by kernel_rfl)
 refine we_unit z (x_unit hr5173) ?_
 refine ws_next (pend' := []) hst (by kernel_rfl) pk_nil ?_
 refine ws_nil ?_
 intro w hst
 refine ⟨z, ?_⟩
 replace hst := hst.own_nil (tySl (tyInt .i64))
 replace hst := hst.own_nil (tySl (tyInt .i64))
 replace hst := hst.own_nil (tyInt .i64)
 replace hst := hst.pull7.pull2.pull3.pull6.pull7.pull7
 replace hst := at_label_Lattice_close (pv := Pt b5162 0) (x := ({ up := t4791, down := (List.replicate (Int.toNat ((a0).length : Int)) (0:Int)), join := [], meet := [], rank := (List.replicate (Int.toNat ((a0).length : Int)) (0:Int)), all := [] } : label_Lattice)) hst z
 replace hst := hst.pull1.keep2
 obtain rfl := some_inj hm
 exact ⟨({ up := t4791, down := (List.replicate (Int.toNat ((a0).length : Int)) (0:Int)), join := [], meet := [], rank := (List.replicate (Int.toNat ((a0).length : Int)) (0:Int)), all := [] } : label_Lattice), b5167, (Pt b5162 0), _, hx5475, (fu 0 r0_0 z (fu 4 (.int .i64 ((a0).length : Int)) z (fu 5 (Pt b5167 0) z z))), hst⟩
}
 {
 refine nxe [7, 9] (by kernel_rfl) z z ?_
 clear hst
 intro w hst
 obtain ⟨b5174, w5175, ew5176, eb5177, hst⟩ := hst.box [.pointer none] 59
 refine we_run (v := Pt b5174 0) (w' := w5175) z (x_al (by kernel_rfl) ew5176 eb5177) ?_
 refine ws_next (pend' := [(6, .agg #[v5150, v5152, Zs, Zs, v5143, Zs])]) hst (by kernel_rfl) (pkr rfl rfl (fun w hst => by obtain ⟨_, _, hv_, _⟩ := hst.sv3; rw [hv_]; obtain ⟨_, _, hv_, _⟩ := hst.sv1; rw [hv_]; obtain ⟨_, _, hv_, _⟩ := hst.sv2; rw [hv_]; kernel_rfl) pk_nil) ?_
 refine ws_e1 7 (by kernel_rfl) ?_
 refine nxe [9] (by kernel_rfl) z z ?_
 clear hst
 intro w hst
 obtain ⟨b5179, w5180, ew5181, eb5182, hst⟩ := hst.box [v5150, v5152, Zs, Zs, v5143, Zs] 72
 refine we_run (v := Pt b5179 0) (w' := w5180) z (x_al (by kernel_rfl) ew5181 eb5182) ?_
 refine ws_next (pend' := []) hst (by kernel_rfl) pk_nil ?_
 refine ws_e1 9 (by kernel_rfl) ?_
 refine nxe [] (by kernel_rfl) z z ?_
 clear hst
 intro w hst
 replace hst := hst.pull1
 obtain ⟨w5184, hr5185, hst⟩ := hst.by_ [Pt b5179 0] 0 (Pt b5179 0) sizeOf59 z (oC z oN) (by kernel_rfl)
 refine we_unit z (x_unit hr5185) ?_
 refine ws_next (pend' := []) hst (by kernel_rfl) pk_nil ?_
 refine ws_nil ?_
 intro w hst
 refine ⟨z, ?_⟩
 replace hst := hst.own_nil (tySl (tyInt .i64))
 replace hst := hst.own_nil (tySl (tyInt .i64))
 replace hst := hst.own_nil (tyInt .i64)
 replace hst := hst.pull7.pull2.pull3.pull6.pull7.pull7
 replace hst := at_label_Lattice_close (pv := Pt b5179 0) (x := ({ up := t4791, down := (List.replicate (Int.toNat ((a0).length : Int)) (0:Int)), join := [], meet := [], rank := (List.replicate (Int.toNat ((a0).length : Int)) (0:Int)), all := [] } : label_Lattice)) hst z
 replace hst := hst.pull1.keep2
 obtain rfl := some_inj hm
 exact ⟨({ up := t4791, down := (List.replicate (Int.toNat ((a0).length : Int)) (0:Int)), join := [], meet := [], rank := (List.replicate (Int.toNat ((a0).length : Int)) (0:Int)), all := [] } : label_Lattice), b5174, (Pt b5179 0), _, hx5475, (fu 0 r0_0 z (fu 4 (.int .i64 ((a0).length : Int)) z (fu 5 (Pt b5174 0) z z))), hst⟩
}
}
 {
 refine nxe [3, 6, 7, 9] (by kernel_rfl) z z ?_
 clear hst
 intro w hst
 obtain ⟨b5186, w5187, ew5188, eb5189, hst⟩ := hst.box [.pointer none] 59
 refine we_run (v := Pt b5186 0) (w' := w5187) z (x_al (by kernel_rfl) ew5188 eb5189) ?_
 refine ws_next (pend' := [(2, I6 ((a0).length : Int))]) hst (by kernel_rfl) (pkr z z (fun w hst => z) pk_nil) ?_
 refine ws_e1 3 (by kernel_rfl) ?_
 refine nxe [6, 7, 9] (by kernel_rfl) z z ?_
 clear hst
 intro w hst
 obtain ⟨v5191, w5192, hr5193, hst⟩ := run_mk (k := .i64) (k' := .i64) (zm := (0:Int)) elem_40 hst hg4793 (by decide) z
 refine we_run (v := v5191) (w' := w5192) z (x_make z z hr5193) ?_
 refine ws_next (pend' := []) hst (by kernel_rfl) pk_nil ?_
 refine wsr (.agg #[v5150, v5191, Zs, Zs, v5143, Zs]) 6 rfl rfl rfl (by kernel_rfl) (fun w hst => by obtain ⟨_, _, hv_, _⟩ := hst.sv3; rw [hv_]; obtain ⟨_, _, hv_, _⟩ := hst.sv0; rw [hv_]; obtain ⟨_, _, hv_, _⟩ := hst.sv2; rw [hv_]; kernel_rfl) ?_
 refine ws_e1 7 (by kernel_rfl) ?_
 refine nxe [9] (by kernel_rfl) z z ?_
 clear hst
 intro w hst
 obtain ⟨b5201, w5202, ew5203, eb5204, hst⟩ := hst.box [v5150, v5191, Zs, Zs, v5143, Zs] 72
 refine we_run (v := Pt b5201 0) (w' := w5202) z (x_al (by kernel_rfl) ew5203 eb5204) ?_
 refine ws_next (pend' := []) hst (by kernel_rfl) pk_nil ?_
 refine ws_e1 9 (by kernel_rfl) ?_
 refine nxe [] (by kernel_rfl) z z ?_
 clear hst
 intro w hst
 replace hst := hst.pull2
 obtain ⟨w5206, hr5207, hst⟩ := hst.by_ [Pt b5201 0] 0 (Pt b5201 0) sizeOf59 z (oC z oN) (by kernel_rfl)
 refine we_unit z (x_unit hr5207) ?_
 refine ws_next (pend' := []) hst (by kernel_rfl) pk_nil ?_
 refine ws_nil ?_
 intro w hst
 refine ⟨z, ?_⟩
 replace hst := hst.own_nil (tySl (tyInt .i64))
 replace hst := hst.own_nil (tySl (tyInt .i64))
 replace hst := hst.own_nil (tyInt .i64)
 replace hst := hst.pull7.pull2.pull3.pull6.pull7.pull7
 replace hst := at_label_Lattice_close (pv := Pt b5201 0) (x := ({ up := t4791, down := (List.replicate (Int.toNat ((a0).length : Int)) (0:Int)), join := [], meet := [], rank := (List.replicate (Int.toNat ((a0).length : Int)) (0:Int)), all := [] } : label_Lattice)) hst z
 replace hst := hst.pull1.keep2
 obtain rfl := some_inj hm
 exact ⟨({ up := t4791, down := (List.replicate (Int.toNat ((a0).length : Int)) (0:Int)), join := [], meet := [], rank := (List.replicate (Int.toNat ((a0).length : Int)) (0:Int)), all := [] } : label_Lattice), b5186, (Pt b5201 0), _, hx5475, (fu 0 r0_0 z (fu 4 (.int .i64 ((a0).length : Int)) z (fu 5 (Pt b5186 0) z z))), hst⟩
}
}
 {
 refine nxe [1, 6, 7, 8, 9] (by kernel_rfl) z z ?_
 clear hst
 intro w hst
 obtain ⟨v5208, w5209, hr5210, hst⟩ := run_mk (k := .i64) (k' := .i64) (zm := (0:Int)) elem_40 hst hg4793 (by decide) z
 refine we_run (v := v5208) (w' := w5209) z (x_make z z hr5210) ?_
 refine ws_next (pend' := [(0, r0_0)]) hst (by kernel_rfl) (pkr z z (fun w hst => z) pk_nil) ?_
 refine ws_e2 1 8 (by kernel_rfl) ?_ ?_
 {
 refine nxe [6, 7, 8, 9] (by kernel_rfl) z z ?_
 clear hst
 intro w hst
 refine wec call24 [r0_0] z z ?_
 refine (slices_Clone_uint64_uint64_ref (f0_0.mono (rd_weak _)) hst.to0 ht4792).mono ?_
 rintro _ w5212 ⟨v5215, rfl, hst⟩
 refine ⟨_, z, ?_⟩
 replace hst := hst.of1
 refine ws_next (pend' := []) hst (by kernel_rfl) pk_nil ?_
 refine wsr (.agg #[v5215, v5208, Zs, Zs, v5143, Zs]) 6 rfl rfl rfl (by kernel_rfl) (fun w hst => by obtain ⟨_, _, hv_, _⟩ := hst.sv2; rw [hv_]; obtain ⟨_, _, hv_, _⟩ := hst.sv1; rw [hv_]; obtain ⟨_, _, hv_, _⟩ := hst.sv0; rw [hv_]; kernel_rfl) ?_
 refine ws_e2 7 8 (by kernel_rfl) ?_ ?_
 {
 refine nxe [8, 9] (by kernel_rfl) z z ?_
 clear hst
 intro w hst
 obtain ⟨b5223, w5224, ew5225, eb5226, hst⟩ := hst.box [v5215, v5208, Zs, Zs, v5143, Zs] 72
 refine we_run (v := Pt b5223 0) (w' := w5224) z (x_al (by kernel_rfl) ew5225 eb5226) ?_
 refine ws_next (pend' := []) hst (by kernel_rfl) pk_nil ?_
 refine ws_e1 8 (by kernel_rfl) ?_
 refine nxe [9] (by kernel_rfl) z z ?_
 clear hst
 intro w hst
 obtain ⟨b5228, w5229, ew5230, eb5231, hst⟩ := hst.box [.pointer none] 59
 refine we_run (v := Pt b5228 0) (w' := w5229) z (x_al (by kernel_rfl) ew5230 eb5231) ?_
 refine ws_next (pend' := []) hst (by kernel_rfl) pk_nil ?_
 refine ws_e1 9 (by kernel_rfl) ?_
 refine nxe [] (by kernel_rfl) z z ?_
 clear hst
 intro w hst
 obtain ⟨w5233, hr5234, hst⟩ := hst.by_ [Pt b5223 0] 0 (Pt b5223 0) sizeOf59 z (oC z oN) (by kernel_rfl)
 refine we_unit z (x_unit hr5234) ?_
 refine ws_next (pend' := []) hst (by kernel_rfl) pk_nil ?_
 refine ws_nil ?_
 intro w hst
 refine ⟨z, ?_⟩
 replace hst := hst.own_nil (tySl (tyInt .i64))
 replace hst := hst.own_nil (tySl (tyInt .i64))
 replace hst := hst.own_nil (tyInt .i64)
 replace hst := hst.pull7.pull2.pull3.pull7.pull7.pull7
 replace hst := at_label_Lattice_close (pv := Pt b5223 0) (x := ({ up := t4791, down := (List.replicate (Int.toNat ((a0).length : Int)) (0:Int)), join := [], meet := [], rank := (List.replicate (Int.toNat ((a0).length : Int)) (0:Int)), all := [] } : label_Lattice)) hst z
 replace hst := hst.pull1.keep2
 obtain rfl := some_inj hm
 exact ⟨({ up := t4791, down := (List.replicate (Int.toNat ((a0).length : Int)) (0:Int)), join := [], meet := [], rank := (List.replicate (Int.toNat ((a0).length : Int)) (0:Int)), all := [] } : label_Lattice), b5228, (Pt b5223 0), _, hx5475, (fu 0 r0_0 z (fu 4 (.int .i64 ((a0).length : Int)) z (fu 5 (Pt b5228 0) z z))), hst⟩
}
 {
 refine nxe [7, 9] (by kernel_rfl) z z ?_
 clear hst
 intro w hst
 obtain ⟨b5235, w5236, ew5237, eb5238, hst⟩ := hst.box [.pointer none] 59
 refine we_run (v := Pt b5235 0) (w' := w5236) z (x_al (by kernel_rfl) ew5237 eb5238) ?_
 refine ws_next (pend' := [(6, .agg #[v5215, v5208, Zs, Zs, v5143, Zs])]) hst (by kernel_rfl) (pkr rfl rfl (fun w hst => by obtain ⟨_, _, hv_, _⟩ := hst.sv3; rw [hv_]; obtain ⟨_, _, hv_, _⟩ := hst.sv2; rw [hv_]; obtain ⟨_, _, hv_, _⟩ := hst.sv1; rw [hv_]; kernel_rfl) pk_nil) ?_
 refine ws_e1 7 (by kernel_rfl) ?_
 refine nxe [9] (by kernel_rfl) z z ?_
 clear hst
 intro w hst
 obtain ⟨b5240, w5241, ew5242, eb5243, hst⟩ := hst.box [v5215, v5208, Zs, Zs, v5143, Zs] 72
 refine we_run (v := Pt b5240 0) (w' := w5241) z (x_al (by kernel_rfl) ew5242 eb5243) ?_
 refine ws_next (pend' := []) hst (by kernel_rfl) pk_nil ?_
 refine ws_e1 9 (by kernel_rfl) ?_
 refine nxe [] (by kernel_rfl) z z ?_
 clear hst
 intro w hst
 replace hst := hst.pull1
 obtain ⟨w5245, hr5246, hst⟩ := hst.by_ [Pt b5240 0] 0 (Pt b5240 0) sizeOf59 z (oC z oN) (by kernel_rfl)
 refine we_unit z (x_unit hr5246) ?_
 refine ws_next (pend' := []) hst (by kernel_rfl) pk_nil ?_
 refine ws_nil ?_
 intro w hst
 refine ⟨z, ?_⟩
 replace hst := hst.own_nil (tySl (tyInt .i64))
 replace hst := hst.own_nil (tySl (tyInt .i64))
 replace hst := hst.own_nil (tyInt .i64)
 replace hst := hst.pull7.pull2.pull3.pull7.pull7.pull7
 replace hst := at_label_Lattice_close (pv := Pt b5240 0) (x := ({ up := t4791, down := (List.replicate (Int.toNat ((a0).length : Int)) (0:Int)), join := [], meet := [], rank := (List.replicate (Int.toNat ((a0).length : Int)) (0:Int)), all := [] } : label_Lattice)) hst z
 replace hst := hst.pull1.keep2
 obtain rfl := some_inj hm
 exact ⟨({ up := t4791, down := (List.replicate (Int.toNat ((a0).length : Int)) (0:Int)), join := [], meet := [], rank := (List.replicate (Int.toNat ((a0).length : Int)) (0:Int)), all := [] } : label_Lattice), b5235, (Pt b5240 0), _, hx5475, (fu 0 r0_0 z (fu 4 (.int .i64 ((a0).length : Int)) z (fu 5 (Pt b5235 0) z z))), hst⟩
}
}
 {
 refine nxe [1, 6, 7, 9] (by kernel_rfl) z z ?_
 clear hst
 intro w hst
 obtain ⟨b5247, w5248, ew5249, eb5250, hst⟩ := hst.box [.pointer none] 59
 refine we_run (v := Pt b5247 0) (w' := w5248) z (x_al (by kernel_rfl) ew5249 eb5250) ?_
 refine ws_next (pend' := [(0, r0_0)]) hst (by kernel_rfl) (pkr z z (fun w hst => z) pk_nil) ?_
 refine ws_e1 1 (by kernel_rfl) ?_
 refine nxe [6, 7, 9] (by kernel_rfl) z z ?_
 clear hst
 intro w hst
 refine wec call24 [r0_0] z z ?_
 refine (slices_Clone_uint64_uint64_ref (f0_0.mono (rd_weak _)) hst.to0 ht4792).mono ?_
 rintro _ w5252 ⟨v5255, rfl, hst⟩
 refine ⟨_, z, ?_⟩
 replace hst := hst.of1
 refine ws_next (pend' := []) hst (by kernel_rfl) pk_nil ?_
 refine wsr (.agg #[v5255, v5208, Zs, Zs, v5143, Zs]) 6 rfl rfl rfl (by kernel_rfl) (fun w hst => by obtain ⟨_, _, hv_, _⟩ := hst.sv3; rw [hv_]; obtain ⟨_, _, hv_, _⟩ := hst.sv2; rw [hv_]; obtain ⟨_, _, hv_, _⟩ := hst.sv0; rw [hv_]; kernel_rfl) ?_
 refine ws_e1 7 (by kernel_rfl) ?_
 refine nxe [9] (by kernel_rfl) z z ?_
 clear hst
 intro w hst
 obtain ⟨b5263, w5264, ew5265, eb5266, hst⟩ := hst.box [v5255, v5208, Zs, Zs, v5143, Zs] 72
 refine we_run (v := Pt b5263 0) (w' := w5264) z (x_al (by kernel_rfl) ew5265 eb5266) ?_
 refine ws_next (pend' := []) hst (by kernel_rfl) pk_nil ?_
 refine ws_e1 9 (by kernel_rfl) ?_
 refine nxe [] (by kernel_rfl) z z ?_
 clear hst
 intro w hst
 replace hst := hst.pull2
 obtain ⟨w5268, hr5269, hst⟩ := hst.by_ [Pt b5263 0] 0 (Pt b5263 0) sizeOf59 z (oC z oN) (by kernel_rfl)
 refine we_unit z (x_unit hr5269) ?_
 refine ws_next (pend' := []) hst (by kernel_rfl) pk_nil ?_
 refine ws_nil ?_
 intro w hst
 refine ⟨z, ?_⟩
 replace hst := hst.own_nil (tySl (tyInt .i64))
 replace hst := hst.own_nil (tySl (tyInt .i64))
 replace hst := hst.own_nil (tyInt .i64)
 replace hst := hst.pull7.pull2.pull3.pull7.pull7.pull7
 replace hst := at_label_Lattice_close (pv := Pt b5263 0) (x := ({ up := t4791, down := (List.replicate (Int.toNat ((a0).length : Int)) (0:Int)), join := [], meet := [], rank := (List.replicate (Int.toNat ((a0).length : Int)) (0:Int)), all := [] } : label_Lattice)) hst z
 replace hst := hst.pull1.keep2
 obtain rfl := some_inj hm
 exact ⟨({ up := t4791, down := (List.replicate (Int.toNat ((a0).length : Int)) (0:Int)), join := [], meet := [], rank := (List.replicate (Int.toNat ((a0).length : Int)) (0:Int)), all := [] } : label_Lattice), b5247, (Pt b5263 0), _, hx5475, (fu 0 r0_0 z (fu 4 (.int .i64 ((a0).length : Int)) z (fu 5 (Pt b5247 0) z z))), hst⟩
}
}
 {
 refine nxe [1, 3, 6, 7, 9] (by kernel_rfl) z z ?_
 clear hst
 intro w hst
 obtain ⟨b5270, w5271, ew5272, eb5273, hst⟩ := hst.box [.pointer none] 59
 refine we_run (v := Pt b5270 0) (w' := w5271) z (x_al (by kernel_rfl) ew5272 eb5273) ?_
 refine ws_next (pend' := [(2, I6 ((a0).length : Int)), (0, r0_0)]) hst (by kernel_rfl) (pkr z z (fun w hst => z) (pkr z z (fun w hst => z) pk_nil)) ?_
 refine ws_e2 1 3 (by kernel_rfl) ?_ ?_
 {
 refine nxe [3, 6, 7, 9] (by kernel_rfl) z z ?_
 clear hst
 intro w hst
 refine wec call24 [r0_0] z z ?_
 refine (slices_Clone_uint64_uint64_ref (f0_0.mono (rd_weak _)) hst.to0 ht4792).mono ?_
 rintro _ w5275 ⟨v5278, rfl, hst⟩
 refine ⟨_, z, ?_⟩
 replace hst := hst.of1
 refine ws_next (pend' := [(2, I6 ((a0).length : Int))]) hst (by kernel_rfl) (pkr z z (fun w hst => z) pk_nil) ?_
 refine ws_e1 3 (by kernel_rfl) ?_
 refine nxe [6, 7, 9] (by kernel_rfl) z z ?_
 clear hst
 intro w hst
 obtain ⟨v5280, w5281, hr5282, hst⟩ := run_mk (k := .i64) (k' := .i64) (zm := (0:Int)) elem_40 hst hg4793 (by decide) z
 refine we_run (v := v5280) (w' := w5281) z (x_make z z hr5282) ?_
 refine ws_next (pend' := []) hst (by kernel_rfl) pk_nil ?_
 refine wsr (.agg #[v5278, v5280, Zs, Zs, v5143, Zs]) 6 rfl rfl rfl (by kernel_rfl) (fun w hst => by obtain ⟨_, _, hv_, _⟩ := hst.sv3; rw [hv_]; obtain ⟨_, _, hv_, _⟩ := hst.sv0; rw [hv_]; obtain ⟨_, _, hv_, _⟩ := hst.sv1; rw [hv_]; kernel_rfl) ?_
 refine ws_e1 7 (by kernel_rfl) ?_
 refine nxe [9] (by kernel_rfl) z z ?_
 clear hst
 intro w hst
 obtain ⟨b5290, w5291, ew5292, eb5293, hst⟩ := hst.box [v5278, v5280, Zs, Zs, v5143, Zs] 72
 refine we_run (v := Pt b5290 0) (w' := w5291) z (x_al (by kernel_rfl) ew5292 eb5293) ?_
 refine ws_next (pend' := []) hst (by kernel_rfl) pk_nil ?_
 refine ws_e1 9 (by kernel_rfl) ?_
 refine nxe [] (by kernel_rfl) z z ?_
 clear hst
 intro w hst
 replace hst := hst.pull3
 obtain ⟨w5295, hr5296, hst⟩ := hst.by_ [Pt b5290 0] 0 (Pt b5290 0) sizeOf59 z (oC z oN) (by kernel_rfl)
 refine we_unit z (x_unit hr5296) ?_
 refine ws_next (pend' := []) hst (by kernel_rfl) pk_nil ?_
 refine ws_nil ?_
 intro w hst
 refine ⟨z, ?_⟩
 replace hst := hst.own_nil (tySl (tyInt .i64))
 replace hst := hst.own_nil (tySl (tyInt .i64))
 replace hst := hst.own_nil (tyInt .i64)
 replace hst := hst.pull7.pull2.pull3.pull6.pull7.pull7
 replace hst := at_label_Lattice_close (pv := Pt b5290 0) (x := ({ up := t4791, down := (List.replicate (Int.toNat ((a0).length : Int)) (0:Int)), join := [], meet := [], rank := (List.replicate (Int.toNat ((a0).length : Int)) (0:Int)), all := [] } : label_Lattice)) hst z
 replace hst := hst.pull1.keep2
 obtain rfl := some_inj hm
 exact ⟨({ up := t4791, down := (List.replicate (Int.toNat ((a0).length : Int)) (0:Int)), join := [], meet := [], rank := (List.replicate (Int.toNat ((a0).length : Int)) (0:Int)), all := [] } : label_Lattice), b5270, (Pt b5290 0), _, hx5475, (fu 0 r0_0 z (fu 4 (.int .i64 ((a0).length : Int)) z (fu 5 (Pt b5270 0) z z))), hst⟩
}
 {
 refine nxe [1, 6, 7, 9] (by kernel_rfl) z z ?_
 clear hst
 intro w hst
 obtain ⟨v5297, w5298, hr5299, hst⟩ := run_mk (k := .i64) (k' := .i64) (zm := (0:Int)) elem_40 hst hg4793 (by decide) z
 refine we_run (v := v5297) (w' := w5298) z (x_make z z hr5299) ?_
 refine ws_next (pend' := [(0, r0_0)]) hst (by kernel_rfl) (pkr z z (fun w hst => z) pk_nil) ?_
 refine ws_e1 1 (by kernel_rfl) ?_
 refine nxe [6, 7, 9] (by kernel_rfl) z z ?_
 clear hst
 intro w hst
 refine wec call24 [r0_0] z z ?_
 refine (slices_Clone_uint64_uint64_ref (f0_0.mono (rd_weak _)) hst.to0 ht4792).mono ?_
 rintro _ w5301 ⟨v5304, rfl, hst⟩
 refine ⟨_, z, ?_⟩
 replace hst := hst.of1
 refine ws_next (pend' := []) hst (by kernel_rfl) pk_nil ?_
 refine wsr (.agg #[v5304, v5297, Zs, Zs, v5143, Zs]) 6 rfl rfl rfl (by kernel_rfl) (fun w hst => by obtain ⟨_, _, hv_, _⟩ := hst.sv3; rw [hv_]; obtain ⟨_, _, hv_, _⟩ := hst.sv1; rw [hv_]; obtain ⟨_, _, hv_, _⟩ := hst.sv0; rw [hv_]; kernel_rfl) ?_
 refine ws_e1 7 (by kernel_rfl) ?_
 refine nxe [9] (by kernel_rfl) z z ?_
 clear hst
 intro w hst
 obtain ⟨b5312, w5313, ew5314, eb5315, hst⟩ := hst.box [v5304, v5297, Zs, Zs, v5143, Zs] 72
 refine we_run (v := Pt b5312 0) (w' := w5313) z (x_al (by kernel_rfl) ew5314 eb5315) ?_
 refine ws_next (pend' := []) hst (by kernel_rfl) pk_nil ?_
 refine ws_e1 9 (by kernel_rfl) ?_
 refine nxe [] (by kernel_rfl) z z ?_
 clear hst
 intro w hst
 replace hst := hst.pull3
 obtain ⟨w5317, hr5318, hst⟩ := hst.by_ [Pt b5312 0] 0 (Pt b5312 0) sizeOf59 z (oC z oN) (by kernel_rfl)
 refine we_unit z (x_unit hr5318) ?_
 refine ws_next (pend' := []) hst (by kernel_rfl) pk_nil ?_
 refine ws_nil ?_
 intro w hst
 refine ⟨z, ?_⟩
 replace hst := hst.own_nil (tySl (tyInt .i64))
 replace hst := hst.own_nil (tySl (tyInt .i64))
 replace hst := hst.own_nil (tyInt .i64)
 replace hst := hst.pull7.pull2.pull3.pull7.pull7.pull7
 replace hst := at_label_Lattice_close (pv := Pt b5312 0) (x := ({ up := t4791, down := (List.replicate (Int.toNat ((a0).length : Int)) (0:Int)), join := [], meet := [], rank := (List.replicate (Int.toNat ((a0).length : Int)) (0:Int)), all := [] } : label_Lattice)) hst z
 replace hst := hst.pull1.keep2
 obtain rfl := some_inj hm
 exact ⟨({ up := t4791, down := (List.replicate (Int.toNat ((a0).length : Int)) (0:Int)), join := [], meet := [], rank := (List.replicate (Int.toNat ((a0).length : Int)) (0:Int)), all := [] } : label_Lattice), b5270, (Pt b5312 0), _, hx5475, (fu 0 r0_0 z (fu 4 (.int .i64 ((a0).length : Int)) z (fu 5 (Pt b5270 0) z z))), hst⟩
}
}
}
 {
 refine nxe [1, 3, 5, 6, 7, 9] (by kernel_rfl) z z ?_
 clear hst
 intro w hst
 obtain ⟨b5319, w5320, ew5321, eb5322, hst⟩ := hst.box [.pointer none] 59
 refine we_run (v := Pt b5319 0) (w' := w5320) z (x_al (by kernel_rfl) ew5321 eb5322) ?_
 refine ws_next (pend' := [(4, I6 ((a0).length : Int)), (2, I6 ((a0).length : Int)), (0, r0_0)]) hst (by kernel_rfl) (pkr z z (fun w hst => z) (pkr z z (fun w hst => z) (pkr z z (fun w hst => z) pk_nil))) ?_
 refine ws_e3 1 3 5 (by kernel_rfl) ?_ ?_ ?_
 {
 refine nxe [3, 5, 6, 7, 9] (by kernel_rfl) z z ?_
 clear hst
 intro w hst
 refine wec call24 [r0_0] z z ?_
 refine (slices_Clone_uint64_uint64_ref (f0_0.mono (rd_weak _)) hst.to0 ht4792).mono ?_
 rintro _ w5324 ⟨v5327, rfl, hst⟩
 refine ⟨_, z, ?_⟩
 replace hst := hst.of1
 refine ws_next (pend' := [(4, I6 ((a0).length : Int)), (2, I6 ((a0).length : Int))]) hst (by kernel_rfl) (pkr z z (fun w hst => z) (pkr z z (fun w hst => z) pk_nil)) ?_
 refine ws_e2 3 5 (by kernel_rfl) ?_ ?_
 {
 refine nxe [5, 6, 7, 9] (by kernel_rfl) z z ?_
 clear hst
 intro w hst
 obtain ⟨v5329, w5330, hr5331, hst⟩ := run_mk (k := .i64) (k' := .i64) (zm := (0:Int)) elem_40 hst hg4793 (by decide) z
 refine we_run (v := v5329) (w' := w5330) z (x_make z z hr5331) ?_
 refine ws_next (pend' := [(4, I6 ((a0).length : Int))]) hst (by kernel_rfl) (pkr z z (fun w hst => z) pk_nil) ?_
 refine ws_e1 5 (by kernel_rfl) ?_
 refine nxe [6, 7, 9] (by kernel_rfl) z z ?_
 clear hst
 intro w hst
 obtain ⟨v5333, w5334, hr5335, hst⟩ := run_mk (k := .i64) (k' := .i64) (zm := (0:Int)) elem_69 hst hg4794 (by decide) z
 refine we_run (v := v5333) (w' := w5334) z (x_make z z hr5335) ?_
 refine ws_next (pend' := []) hst (by kernel_rfl) pk_nil ?_
 refine wsr (.agg #[v5327, v5329, Zs, Zs, v5333, Zs]) 6 rfl rfl rfl (by kernel_rfl) (fun w hst => by obtain ⟨_, _, hv_, _⟩ := hst.sv0; rw [hv_]; obtain ⟨_, _, hv_, _⟩ := hst.sv1; rw [hv_]; obtain ⟨_, _, hv_, _⟩ := hst.sv2; rw [hv_]; kernel_rfl) ?_
 refine ws_e1 7 (by kernel_rfl) ?_
 refine nxe [9] (by kernel_rfl) z z ?_
 clear hst
 intro w hst
 obtain ⟨b5343, w5344, ew5345, eb5346, hst⟩ := hst.box [v5327, v5329, Zs, Zs, v5333, Zs] 72
 refine we_run (v := Pt b5343 0) (w' := w5344) z (x_al (by kernel_rfl) ew5345 eb5346) ?_
 refine ws_next (pend' := []) hst (by kernel_rfl) pk_nil ?_
 refine ws_e1 9 (by kernel_rfl) ?_
 refine nxe [] (by kernel_rfl) z z ?_
 clear hst
 intro w hst
 replace hst := hst.pull4
 obtain ⟨w5348, hr5349, hst⟩ := hst.by_ [Pt b5343 0] 0 (Pt b5343 0) sizeOf59 z (oC z oN) (by kernel_rfl)
 refine we_unit z (x_unit hr5349) ?_
 refine ws_next (pend' := []) hst (by kernel_rfl) pk_nil ?_
 refine ws_nil ?_
 intro w hst
 refine ⟨z, ?_⟩
 replace hst := hst.own_nil (tySl (tyInt .i64))
 replace hst := hst.own_nil (tySl (tyInt .i64))
 replace hst := hst.own_nil (tyInt .i64)
 replace hst := hst.pull5.pull2.pull3.pull6.pull7.pull7
 replace hst := at_label_Lattice_close (pv := Pt b5343 0) (x := ({ up := t4791, down := (List.replicate (Int.toNat ((a0).length : Int)) (0:Int)), join := [], meet := [], rank := (List.replicate (Int.toNat ((a0).length : Int)) (0:Int)), all := [] } : label_Lattice)) hst z
 replace hst := hst.pull1.keep2
 obtain rfl := some_inj hm
 exact ⟨({ up := t4791, down := (List.replicate (Int.toNat ((a0).length : Int)) (0:Int)), join := [], meet := [], rank := (List.replicate (Int.toNat ((a0).length : Int)) (0:Int)), all := [] } : label_Lattice), b5319, (Pt b5343 0), _, hx5475, (fu 0 r0_0 z (fu 4 (.int .i64 ((a0).length : Int)) z (fu 5 (Pt b5319 0) z z))), hst⟩
}
 {
 refine nxe [3, 6, 7, 9] (by kernel_rfl) z z ?_
 clear hst
 intro w hst
 obtain ⟨v5350, w5351, hr5352, hst⟩ := run_mk (k := .i64) (k' := .i64) (zm := (0:Int)) elem_69 hst hg4794 (by decide) z
 refine we_run (v := v5350) (w' := w5351) z (x_make z z hr5352) ?_
 refine ws_next (pend' := [(2, I6 ((a0).length : Int))]) hst (by kernel_rfl) (pkr z z (fun w hst => z) pk_nil) ?_
 refine ws_e1 3 (by kernel_rfl) ?_
 refine nxe [6, 7, 9] (by kernel_rfl) z z ?_
 clear hst
 intro w hst
 obtain ⟨v5354, w5355, hr5356, hst⟩ := run_mk (k := .i64) (k' := .i64) (zm := (0:Int)) elem_40 hst hg4793 (by decide) z
 refine we_run (v := v5354) (w' := w5355) z (x_make z z hr5356) ?_
 refine ws_next (pend' := []) hst (by kernel_rfl) pk_nil ?_
 refine wsr (.agg #[v5327, v5354, Zs, Zs, v5350, Zs]) 6 rfl rfl rfl (by kernel_rfl) (fun w hst => by obtain ⟨_, _, hv_, _⟩ := hst.sv1; rw [hv_]; obtain ⟨_, _, hv_, _⟩ := hst.sv0; rw [hv_]; obtain ⟨_, _, hv_, _⟩ := hst.sv2; rw [hv_]; kernel_rfl) ?_
 refine ws_e1 7 (by kernel_rfl) ?_
 refine nxe [9] (by kernel_rfl) z z ?_
 clear hst
 intro w hst
 obtain ⟨b5364, w5365, ew5366, eb5367, hst⟩ := hst.box [v5327, v5354, Zs, Zs, v5350, Zs] 72
 refine we_run (v := Pt b5364 0) (w' := w5365) z (x_al (by kernel_rfl) ew5366 eb5367) ?_
 refine ws_next (pend' := []) hst (by kernel_rfl) pk_nil ?_
 refine ws_e1 9 (by kernel_rfl) ?_
 refine nxe [] (by kernel_rfl) z z ?_
 clear hst
 intro w hst
 replace hst := hst.pull4
 obtain ⟨w5369, hr5370, hst⟩ := hst.by_ [Pt b5364 0] 0 (Pt b5364 0) sizeOf59 z (oC z oN) (by kernel_rfl)
 refine we_unit z (x_unit hr5370) ?_
 refine ws_next (pend' := []) hst (by kernel_rfl) pk_nil ?_
 refine ws_nil ?_
 intro w hst
 refine ⟨z, ?_⟩
 replace hst := hst.own_nil (tySl (tyInt .i64))
 replace hst := hst.own_nil (tySl (tyInt .i64))
 replace hst := hst.own_nil (tyInt .i64)
 replace hst := hst.pull6.pull2.pull3.pull6.pull7.pull7
 replace hst := at_label_Lattice_close (pv := Pt b5364 0) (x := ({ up := t4791, down := (List.replicate (Int.toNat ((a0).length : Int)) (0:Int)), join := [], meet := [], rank := (List.replicate (Int.toNat ((a0).length : Int)) (0:Int)), all := [] } : label_Lattice)) hst z
 replace hst := hst.pull1.keep2
 obtain rfl := some_inj hm
 exact ⟨({ up := t4791, down := (List.replicate (Int.toNat ((a0).length : Int)) (0:Int)), join := [], meet := [], rank := (List.replicate (Int.toNat ((a0).length : Int)) (0:Int)), all := [] } : label_Lattice), b5319, (Pt b5364 0), _, hx5475, (fu 0 r0_0 z (fu 4 (.int .i64 ((a0).length : Int)) z (fu 5 (Pt b5319 0) z z))), hst⟩
}
}
 {
 refine nxe [1, 5, 6, 7, 9] (by kernel_rfl) z z ?_
 clear hst
 intro w hst
 obtain ⟨v5371, w5372, hr5373, hst⟩ := run_mk (k := .i64) (k' := .i64) (zm := (0:Int)) elem_40 hst hg4793 (by decide) z
 refine we_run (v := v5371) (w' := w5372) z (x_make z z hr5373) ?_
 refine ws_next (pend' := [(4, I6 ((a0).length : Int)), (0, r0_0)]) hst (by kernel_rfl) (pkr z z (fun w hst => z) (pkr z z (fun w hst => z) pk_nil)) ?_
 refine ws_e2 1 5 (by kernel_rfl) ?_ ?_
 {
 refine nxe [5, 6, 7, 9] (by kernel_rfl) z z ?_
 clear hst
 intro w hst
 refine wec call24 [r0_0] z z ?_
 refine (slices_Clone_uint64_uint64_ref (f0_0.mono (rd_weak _)) hst.to0 ht4792).mono ?_
 rintro _ w5375 ⟨v5378, rfl, hst⟩
 refine ⟨_, z, ?_⟩
 replace hst := hst.of1
 refine ws_next (pend' := [(4, I6 ((a0).length : Int))]) hst (by kernel_rfl) (pkr z z (fun w hst => z) pk_nil) ?_
 refine ws_e1 5 (by kernel_rfl) ?_
 refine nxe [6, 7, 9] (by kernel_rfl) z z ?_
 clear hst
 intro w hst
 obtain ⟨v5380, w5381, hr5382, hst⟩ := run_mk (k := .i64) (k' := .i64) (zm := (0:Int)) elem_69 hst hg4794 (by decide) z
 refine we_run (v := v5380) (w' := w5381) z (x_make z z hr5382) ?_
 refine ws_next (pend' := []) hst (by kernel_rfl) pk_nil ?_
 refine wsr (.agg #[v5378, v5371, Zs, Zs, v5380, Zs]) 6 rfl rfl rfl (by kernel_rfl) (fun w hst => by obtain ⟨_, _, hv_, _⟩ := hst.sv0; rw [hv_]; obtain ⟨_, _, hv_, _⟩ := hst.sv2; rw [hv_]; obtain ⟨_, _, hv_, _⟩ := hst.sv1; rw [hv_]; kernel_rfl) ?_
 refine ws_e1 7 (by kernel_rfl) ?_
 refine nxe [9] (by kernel_rfl) z z ?_
 clear hst
 intro w hst
 obtain ⟨b5390, w5391, ew5392, eb5393, hst⟩ := hst.box [v5378, v5371, Zs, Zs, v5380, Zs] 72
 refine we_run (v := Pt b5390 0) (w' := w5391) z (x_al (by kernel_rfl) ew5392 eb5393) ?_
 refine ws_next (pend' := []) hst (by kernel_rfl) pk_nil ?_
 refine ws_e1 9 (by kernel_rfl) ?_
 refine nxe [] (by kernel_rfl) z z ?_
 clear hst
 intro w hst
 replace hst := hst.pull4
 obtain ⟨w5395, hr5396, hst⟩ := hst.by_ [Pt b5390 0] 0 (Pt b5390 0) sizeOf59 z (oC z oN) (by kernel_rfl)
 refine we_unit z (x_unit hr5396) ?_
 refine ws_next (pend' := []) hst (by kernel_rfl) pk_nil ?_
 refine ws_nil ?_
 intro w hst
 refine ⟨z, ?_⟩
 replace hst := hst.own_nil (tySl (tyInt .i64))
 replace hst := hst.own_nil (tySl (tyInt .i64))
 replace hst := hst.own_nil (tyInt .i64)
 replace hst := hst.pull5.pull2.pull3.pull7.pull7.pull7
 replace hst := at_label_Lattice_close (pv := Pt b5390 0) (x := ({ up := t4791, down := (List.replicate (Int.toNat ((a0).length : Int)) (0:Int)), join := [], meet := [], rank := (List.replicate (Int.toNat ((a0).length : Int)) (0:Int)), all := [] } : label_Lattice)) hst z
 replace hst := hst.pull1.keep2
 obtain rfl := some_inj hm
 exact ⟨({ up := t4791, down := (List.replicate (Int.toNat ((a0).length : Int)) (0:Int)), join := [], meet := [], rank := (List.replicate (Int.toNat ((a0).length : Int)) (0:Int)), all := [] } : label_Lattice), b5319, (Pt b5390 0), _, hx5475, (fu 0 r0_0 z (fu 4 (.int .i64 ((a0).length : Int)) z (fu 5 (Pt b5319 0) z z))), hst⟩
}
 {
 refine nxe [1, 6, 7, 9] (by kernel_rfl) z z ?_
 clear hst
 intro w hst
 obtain ⟨v5397, w5398, hr5399, hst⟩ := run_mk (k := .i64) (k' := .i64) (zm := (0:Int)) elem_69 hst hg4794 (by decide) z
 refine we_run (v := v5397) (w' := w5398) z (x_make z z hr5399) ?_
 refine ws_next (pend' := [(0, r0_0)]) hst (by kernel_rfl) (pkr z z (fun w hst => z) pk_nil) ?_
 refine ws_e1 1 (by kernel_rfl) ?_
 refine nxe [6, 7, 9] (by kernel_rfl) z z ?_
 clear hst
 intro w hst
 refine wec call24 [r0_0] z z ?_
 refine (slices_Clone_uint64_uint64_ref (f0_0.mono (rd_weak _)) hst.to0 ht4792).mono ?_
 rintro _ w5401 ⟨v5404, rfl, hst⟩
 refine ⟨_, z, ?_⟩
 replace hst := hst.of1
 refine ws_next (pend' := []) hst (by kernel_rfl) pk_nil ?_
 refine wsr (.agg #[v5404, v5371, Zs, Zs, v5397, Zs]) 6 rfl rfl rfl (by kernel_rfl) (fun w hst => by obtain ⟨_, _, hv_, _⟩ := hst.sv1; rw [hv_]; obtain ⟨_, _, hv_, _⟩ := hst.sv2; rw [hv_]; obtain ⟨_, _, hv_, _⟩ := hst.sv0; rw [hv_]; kernel_rfl) ?_
 refine ws_e1 7 (by kernel_rfl) ?_
 refine nxe [9] (by kernel_rfl) z z ?_
 clear hst
 intro w hst
 obtain ⟨b5412, w5413, ew5414, eb5415, hst⟩ := hst.box [v5404, v5371, Zs, Zs, v5397, Zs] 72
 refine we_run (v := Pt b5412 0) (w' := w5413) z (x_al (by kernel_rfl) ew5414 eb5415) ?_
 refine ws_next (pend' := []) hst (by kernel_rfl) pk_nil ?_
 refine ws_e1 9 (by kernel_rfl) ?_
 refine nxe [] (by kernel_rfl) z z ?_
 clear hst
 intro w hst
 replace hst := hst.pull4
 obtain ⟨w5417, hr5418, hst⟩ := hst.by_ [Pt b5412 0] 0 (Pt b5412 0) sizeOf59 z (oC z oN) (by kernel_rfl)
 refine we_unit z (x_unit hr5418) ?_
 refine ws_next (pend' := []) hst (by kernel_rfl) pk_nil ?_
 refine ws_nil ?_
 intro w hst
 refine ⟨z, ?_⟩
 replace hst := hst.own_nil (tySl (tyInt .i64))
 replace hst := hst.own_nil (tySl (tyInt .i64))
 replace hst := hst.own_nil (tyInt .i64)
 replace hst := hst.pull6.pull2.pull3.pull7.pull7.pull7
 replace hst := at_label_Lattice_close (pv := Pt b5412 0) (x := ({ up := t4791, down := (List.replicate (Int.toNat ((a0).length : Int)) (0:Int)), join := [], meet := [], rank := (List.replicate (Int.toNat ((a0).length : Int)) (0:Int)), all := [] } : label_Lattice)) hst z
 replace hst := hst.pull1.keep2
 obtain rfl := some_inj hm
 exact ⟨({ up := t4791, down := (List.replicate (Int.toNat ((a0).length : Int)) (0:Int)), join := [], meet := [], rank := (List.replicate (Int.toNat ((a0).length : Int)) (0:Int)), all := [] } : label_Lattice), b5319, (Pt b5412 0), _, hx5475, (fu 0 r0_0 z (fu 4 (.int .i64 ((a0).length : Int)) z (fu 5 (Pt b5319 0) z z))), hst⟩
}
}
 {
 refine nxe [1, 3, 6, 7, 9] (by kernel_rfl) z z ?_
 clear hst
 intro w hst
 obtain ⟨v5419, w5420, hr5421, hst⟩ := run_mk (k := .i64) (k' := .i64) (zm := (0:Int)) elem_69 hst hg4794 (by decide) z
 refine we_run (v := v5419) (w' := w5420) z (x_make z z hr5421) ?_
 refine ws_next (pend' := [(2, I6 ((a0).length : Int)), (0, r0_0)]) hst (by kernel_rfl) (pkr z z (fun w hst => z) (pkr z z (fun w hst => z) pk_nil)) ?_
 refine ws_e2 1 3 (by kernel_rfl) ?_ ?_
 {
 refine nxe [3, 6, 7, 9] (by kernel_rfl) z z ?_
 clear hst
 intro w hst
 refine wec call24 [r0_0] z z ?_
 refine (slices_Clone_uint64_uint64_ref (f0_0.mono (rd_weak _)) hst.to0 ht4792).mono ?_
 rintro _ w5423 ⟨v5426, rfl, hst⟩
 refine ⟨_, z, ?_⟩
 replace hst := hst.of1
 refine ws_next (pend' := [(2, I6 ((a0).length : Int))]) hst (by kernel_rfl) (pkr z z (fun w hst => z) pk_nil) ?_
 refine ws_e1 3 (by kernel_rfl) ?_
 refine nxe [6, 7, 9] (by kernel_rfl) z z ?_
 clear hst
 intro w hst
 obtain ⟨v5428, w5429, hr5430, hst⟩ := run_mk (k := .i64) (k' := .i64) (zm := (0:Int)) elem_40 hst hg4793 (by decide) z
 refine we_run (v := v5428) (w' := w5429) z (x_make z z hr5430) ?_
 refine ws_next (pend' := []) hst (by kernel_rfl) pk_nil ?_
 refine wsr (.agg #[v5426, v5428, Zs, Zs, v5419, Zs]) 6 rfl rfl rfl (by kernel_rfl) (fun w hst => by obtain ⟨_, _, hv_, _⟩ := hst.sv2; rw [hv_]; obtain ⟨_, _, hv_, _⟩ := hst.sv0; rw [hv_]; obtain ⟨_, _, hv_, _⟩ := hst.sv1; rw [hv_]; kernel_rfl) ?_
 refine ws_e1 7 (by kernel_rfl) ?_
 refine nxe [9] (by kernel_rfl) z z ?_
 clear hst
 intro w hst
 obtain ⟨b5438, w5439, ew5440, eb5441, hst⟩ := hst.box [v5426, v5428, Zs, Zs, v5419, Zs] 72
 refine we_run (v := Pt b5438 0) (w' := w5439) z (x_al (by kernel_rfl) ew5440 eb5441) ?_
 refine ws_next (pend' := []) hst (by kernel_rfl) pk_nil ?_
 refine ws_e1 9 (by kernel_rfl) ?_
 refine nxe [] (by kernel_rfl) z z ?_
 clear hst
 intro w hst
 replace hst := hst.pull4
 obtain ⟨w5443, hr5444, hst⟩ := hst.by_ [Pt b5438 0] 0 (Pt b5438 0) sizeOf59 z (oC z oN) (by kernel_rfl)
 refine we_unit z (x_unit hr5444) ?_
 refine ws_next (pend' := []) hst (by kernel_rfl) pk_nil ?_
 refine ws_nil ?_
 intro w hst
 refine ⟨z, ?_⟩
 replace hst := hst.own_nil (tySl (tyInt .i64))
 replace hst := hst.own_nil (tySl (tyInt .i64))
 replace hst := hst.own_nil (tyInt .i64)
 replace hst := hst.pull7.pull2.pull3.pull6.pull7.pull7
 replace hst := at_label_Lattice_close (pv := Pt b5438 0) (x := ({ up := t4791, down := (List.replicate (Int.toNat ((a0).length : Int)) (0:Int)), join := [], meet := [], rank := (List.replicate (Int.toNat ((a0).length : Int)) (0:Int)), all := [] } : label_Lattice)) hst z
 replace hst := hst.pull1.keep2
 obtain rfl := some_inj hm
 exact ⟨({ up := t4791, down := (List.replicate (Int.toNat ((a0).length : Int)) (0:Int)), join := [], meet := [], rank := (List.replicate (Int.toNat ((a0).length : Int)) (0:Int)), all := [] } : label_Lattice), b5319, (Pt b5438 0), _, hx5475, (fu 0 r0_0 z (fu 4 (.int .i64 ((a0).length : Int)) z (fu 5 (Pt b5319 0) z z))), hst⟩
}
 {
 refine nxe [1, 6, 7, 9] (by kernel_rfl) z z ?_
 clear hst
 intro w hst
 obtain ⟨v5445, w5446, hr5447, hst⟩ := run_mk (k := .i64) (k' := .i64) (zm := (0:Int)) elem_40 hst hg4793 (by decide) z
 refine we_run (v := v5445) (w' := w5446) z (x_make z z hr5447) ?_
 refine ws_next (pend' := [(0, r0_0)]) hst (by kernel_rfl) (pkr z z (fun w hst => z) pk_nil) ?_
 refine ws_e1 1 (by kernel_rfl) ?_
 refine nxe [6, 7, 9] (by kernel_rfl) z z ?_
 clear hst
 intro w hst
 refine wec call24 [r0_0] z z ?_
 refine (slices_Clone_uint64_uint64_ref (f0_0.mono (rd_weak _)) hst.to0 ht4792).mono ?_
 rintro _ w5449 ⟨v5452, rfl, hst⟩
 refine ⟨_, z, ?_⟩
 replace hst := hst.of1
 refine ws_next (pend' := []) hst (by kernel_rfl) pk_nil ?_
 refine wsr (.agg #[v5452, v5445, Zs, Zs, v5419, Zs]) 6 rfl rfl rfl (by kernel_rfl) (fun w hst => by obtain ⟨_, _, hv_, _⟩ := hst.sv2; rw [hv_]; obtain ⟨_, _, hv_, _⟩ := hst.sv1; rw [hv_]; obtain ⟨_, _, hv_, _⟩ := hst.sv0; rw [hv_]; kernel_rfl) ?_
 refine ws_e1 7 (by kernel_rfl) ?_
 refine nxe [9] (by kernel_rfl) z z ?_
 clear hst
 intro w hst
 obtain ⟨b5460, w5461, ew5462, eb5463, hst⟩ := hst.box [v5452, v5445, Zs, Zs, v5419, Zs] 72
 refine we_run (v := Pt b5460 0) (w' := w5461) z (x_al (by kernel_rfl) ew5462 eb5463) ?_
 refine ws_next (pend' := []) hst (by kernel_rfl) pk_nil ?_
 refine ws_e1 9 (by kernel_rfl) ?_
 refine nxe [] (by kernel_rfl) z z ?_
 clear hst
 intro w hst
 replace hst := hst.pull4
 obtain ⟨w5465, hr5466, hst⟩ := hst.by_ [Pt b5460 0] 0 (Pt b5460 0) sizeOf59 z (oC z oN) (by kernel_rfl)
 refine we_unit z (x_unit hr5466) ?_
 refine ws_next (pend' := []) hst (by kernel_rfl) pk_nil ?_
 refine ws_nil ?_
 intro w hst
 refine ⟨z, ?_⟩
 replace hst := hst.own_nil (tySl (tyInt .i64))
 replace hst := hst.own_nil (tySl (tyInt .i64))
 replace hst := hst.own_nil (tyInt .i64)
 replace hst := hst.pull7.pull2.pull3.pull7.pull7.pull7
 replace hst := at_label_Lattice_close (pv := Pt b5460 0) (x := ({ up := t4791, down := (List.replicate (Int.toNat ((a0).length : Int)) (0:Int)), join := [], meet := [], rank := (List.replicate (Int.toNat ((a0).length : Int)) (0:Int)), all := [] } : label_Lattice)) hst z
 replace hst := hst.pull1.keep2
 obtain rfl := some_inj hm
 exact ⟨({ up := t4791, down := (List.replicate (Int.toNat ((a0).length : Int)) (0:Int)), join := [], meet := [], rank := (List.replicate (Int.toNat ((a0).length : Int)) (0:Int)), all := [] } : label_Lattice), b5319, (Pt b5460 0), _, hx5475, (fu 0 r0_0 z (fu 4 (.int .i64 ((a0).length : Int)) z (fu 5 (Pt b5319 0) z z))), hst⟩
}
}
}
}
 {
 clear hst
 rintro _ w5476 ⟨z5471, b5468, v5470, σ5472, hm, rfl, hst⟩
 dsimp only [label_New_j0] at hm
 refine tn (wp_seq (wp_seq (wrl (wv (v5470) z z (x_load z isAgg59 (hst.bc0 z)) ?_))))
 replace hst := hst.pull1
 replace hst := objO_some hst
 obtain ⟨t5477, ht5478, hm⟩ := bind_some hm
 refine wc call25 [v5470] z z z ?_
 refine (label_Lattice_orders_ref hst.to1 ht5478).mono ?_
 rintro _ w5479 ⟨rfl, hst⟩
 refine ⟨_, z, ?_⟩
 replace hst := hst.of1
 replace hst := objO_get hst
 refine wv (.bool (!t5477)) z z z (wl_nil (tn ?_))
 refine bsplit (!t5477) (fun hc5482 => ?_) (fun hc5482 => ?_)
 {
 replace hm := bif_t hc5482 hm
 refine wp_ift (cvb hc5482) ?_
 refine wp_seq (wrl (wv (.pointer none) z z z (wv (.int .i64 (15:Int)) z z z (wl_nil (tn (wp_ret (then_r ?_)))))))
 replace hst := hst.objO_nil at_label_Lattice
 obtain rfl := some_inj hm
 refine post_ret (vs := [.pointer none, I6 (15:Int)]) results20 (rvs_cons (rv_tmp z) (rvs_cons (rv_tmp z) rvs_nil)) ?_
 exact ⟨_, .pointer none, z, hI0, hst.keep1⟩
}
 {
 replace hm := bif_f hc5482 hm
 refine wp_iff (cvb hc5482) ?_
 refine wp_skip (tn ?_)
 obtain ⟨y5780, hm, hx5781⟩ := bind_some hm
 refine wp_cut (fun a w => ∃ (z5777 : label_Lattice) (σ5778 : Nat → Value), (label_New_j1 a0) z5777 = some r ∧ a = Fr 192 (upd (upd σ5778 4 (.int .i64 ((a0).length : Int))) 5 (Pt b5468 0)) ∧ St w0 w I [cells b5468 [v5470], at_label_Lattice v5470 z5777] R) ?_ ?_
 {
 refine wp_seq (wrl (wv (r0_0) z z z (wv (.int .i64 ((a0).length : Int)) z z (x_len z underlying40 (rd_sliceV f0_0)) (wv (.int .i64 (0:Int)) z z z (wl_nil (tn (wp_block ?_)))))))
 obtain ⟨n5675, hm⟩ := loopO_some hm
 refine wp_loop_n (fun n a w => ∃ (z5672 : label_Lattice) (z5673 : Int) (σ5674 : Nat → Value), loopN (label_New_l2 a0) n (z5672, z5673) = some y5780 ∧ a = Fr 192 (upd (upd (upd (upd (upd σ5674 4 (.int .i64 ((a0).length : Int))) 5 (Pt b5468 0)) 38 (r0_0)) 39 (.int .i64 ((a0).length : Int))) 40 (.int .i64 z5673)) ∧ St w0 w I [at_label_Lattice v5470 z5672, cells b5468 [v5470]] R) n5675 ⟨z5471, (0:Int), _, hm, (fu 4 (.int .i64 ((a0).length : Int)) z (fu 5 (Pt b5468 0) z (fu 38 r0_0 z (fu 39 (.int .i64 ((a0).length : Int)) z (fu 40 (.int .i64 (0:Int)) z z))))), hst⟩ ?_
 rintro n5681 _ w5676 ⟨z5672, z5673, σ5674, hm, rfl, hst⟩
 obtain ⟨n5678, y5679, rfl, hm, hx5680⟩ := loopN_some hm
 dsimp only [label_New_l2] at hm
 refine wp_seq (wrl (wv (.bool (decide (z5673 < ((a0).length : Int)))) z z z (wl_nil (tn (wp_seq ?_)))))
 refine bsplit (decide (z5673 < ((a0).length : Int))) (fun hc5682 => ?_) (fun hc5682 => ?_)
 {
 replace hm := bif_t hc5682 hm
 refine wp_ift (cvb hc5682) ?_
 refine wp_skip (tn (wp_seq (wp_block (wp_seq (wrl ?_)))))
 refine wv (.int .i64 z5673) z z z ?_
 obtain ⟨x5683, hx5684, hm⟩ := bind_some hm
 obtain ⟨h5685, h5686, hi5687⟩ := geto_some hx5684
 refine wv (.pointer (some (eAddr r0_0 (z5673.toNat * 1 + 0)))) z z (x_index z z underlying40 sizeOf66 (rd_sliceV f0_0) h5685 h5686) (wv (.int .u64 x5683) z z (x_load z isAgg66 (rd_load f0_0 (HL.le.refl _) hst hi5687 (by rintro _ rfl; rfl))) (wv (.int .i64 z5673) z z z (wv (.int .u64 x5683) z z z (wl_nil (tn (wp_seq (wrl (wv (.int .i64 ((a0).length : Int)) z z z (wv (.int .i64 (0:Int)) z z z (wl_nil (tn (wp_block ?_))))))))))))
 obtain ⟨n5744, hm⟩ := loopO_some hm
 refine wp_loop_n (fun n a w => ∃ (z5741 : label_Lattice) (z5742 : Int) (σ5743 : Nat → Value), loopN (label_New_l3 a0 x5683 z5673) n (z5741, z5742) = some y5679 ∧ a = Fr 192 (upd (upd (upd (upd (upd (upd (upd (upd (upd σ5743 4 (.int .i64 ((a0).length : Int))) 5 (Pt b5468 0)) 6 (.int .i64 z5673)) 7 (.int .u64 x5683)) 38 (r0_0)) 39 (.int .i64 ((a0).length : Int))) 40 (.int .i64 z5673)) 45 (.int .i64 ((a0).length : Int))) 46 (.int .i64 z5742)) ∧ St w0 w I [at_label_Lattice v5470 z5741, cells b5468 [v5470]] R) n5744 ⟨z5672, (0:Int), _, hm, (fu 4 (.int .i64 ((a0).length : Int)) z (fu 5 (Pt b5468 0) z (fu 6 (.int .i64 z5673) z (fu 7 (.int .u64 x5683) z (fu 38 r0_0 z (fu 39 (.int .i64 ((a0).length : Int)) z (fu 40 (.int .i64 z5673) z (fu 45 (.int .i64 ((a0).length : Int)) z (fu 46 (.int .i64 (0:Int)) z z))))))))), hst⟩ ?_
 rintro n5750 _ w5745 ⟨z5741, z5742, σ5743, hm, rfl, hst⟩
 obtain ⟨n5747, y5748, rfl, hm, hx5749⟩ := loopN_some hm
 dsimp only [label_New_l3] at hm
 refine wp_seq (wrl (wv (.bool (decide (z5742 < ((a0).length : Int)))) z z z (wl_nil (tn (wp_seq ?_)))))
 refine bsplit (decide (z5742 < ((a0).length : Int))) (fun hc5751 => ?_) (fun hc5751 => ?_)
 {
 replace hm := bif_t hc5751 hm
 refine wp_ift (cvb hc5751) ?_
 refine wp_skip (tn (wp_seq (wp_block (wp_seq (wrl ?_)))))
 refine wv (.int .i64 z5742) z z z (wv (.int .i64 z5742) z z z (wl_nil (tn (wp_seq (wrl (wv (.int .u64 x5683) z z z (wv (.int .i64 z5742) z z z ?_)))))))
 obtain ⟨hg5752, hm⟩ := gd_some hm
 refine wv (.int .u64 (iShr .u64 x5683 z5742)) z z (x_shr (of_decide_eq_true hg5752) z z) (wv (.int .u64 (bAnd .u64 (iShr .u64 x5683 z5742) (1:Int))) z z z (wv (.bool ((bAnd .u64 (iShr .u64 x5683 z5742) (1:Int)) == (1:Int))) z z z (wl_nil (tn ?_))))
 refine bsplit ((bAnd .u64 (iShr .u64 x5683 z5742) (1:Int)) == (1:Int)) (fun hc5753 => ?_) (fun hc5753 => ?_)
 {
 replace hm := bif_t hc5753 hm
 refine wp_ift (cvb hc5753) ?_
 obtain ⟨b5754, v5755, v5757, v5759, v5761, v5763, v5765, rfl, hst'⟩ := at_label_Lattice_open hst
 clear hst
 have hst := hst'
 clear hst'
 refine wp_region_St hst 12 [0, 1, 2, 3, 4, 5, 6, 7, 8, 9, 10, 11] [0, 1, 3, 7, 0, 31, 63, 0, 128, 511, 1023, 2047] [] z (by kernel_rfl) (by kernel_rfl) Try.mixed (by kernel_rfl) ?_
 refine wsr (Pt b5754 0) 0 z z z (by kernel_rfl) (fun w hst => x_load z isAgg59 (hst.bc7 z)) (wsr (Pt b5754 0) 1 z z z (by kernel_rfl) (fun w hst => z) (wsr (Pt b5754 1) 2 z z z (by kernel_rfl) (fun w hst => x_field z underlying72 z sizeOf40 z) (wsr (v5757) 3 z z z (by kernel_rfl) (fun w hst => x_load z isAgg40 (hst.bc0 z)) (wsr (.int .i64 z5742) 4 z z z (by kernel_rfl) (fun w hst => z) ?_))))
 obtain ⟨x5767, hx5768, hm⟩ := bind_some hm
 obtain ⟨h5769, h5770, hi5771⟩ := geto_some hx5768
 refine wsr (.pointer (some (eAddr v5757 (z5742.toNat * 1 + 0)))) 5 z z z (by kernel_rfl) (fun w hst => x_index z z underlying40 sizeOf66 hst.sv2 h5769 h5770) (wsr (.int .u64 x5767) 6 z z z (by kernel_rfl) (fun w hst => x_load z isAgg66 (hst.ol2 hi5771 (by rintro _ rfl; rfl))) (wsr (.int .i64 z5673) 7 z z z (by kernel_rfl) (fun w hst => z) ?_))
 obtain ⟨hg5772, hm⟩ := gd_some hm
 refine wsr (.int .u64 (iShl .u64 (1:Int) z5673)) 8 z z z (by kernel_rfl) (fun w hst => x_shl (of_decide_eq_true hg5772) z z) (wsr (.int .u64 (bOr .u64 x5767 (iShl .u64 (1:Int) z5673))) 9 z z z (by kernel_rfl) (fun w hst => z) (wsr (.pointer (some (eAddr v5757 (z5742.toNat * 1 + 0)))) 10 z z z (by kernel_rfl) (fun w hst => x_index z z underlying40 sizeOf66 hst.sv2 h5769 h5770) ?_))
 refine ws_e1 11 (by kernel_rfl) ?_
 refine nxe [] (by kernel_rfl) z z ?_
 clear hst
 intro w hst
 replace hst := hst.pull2
 obtain ⟨w5773, hr5774, hst⟩ := hst.own_store (P := prog) (t := 66) (y := (bOr .u64 x5767 (iShl .u64 (1:Int) z5673))) hi5771 0 (.int .u64 (bOr .u64 x5767 (iShl .u64 (1:Int) z5673))) sizeOf66 (Nat.le_of_ble_eq_true z) (oC z oN) (by rintro _ rfl; rfl)
 have hi5775 := set_get hi5771 (bOr .u64 x5767 (iShl .u64 (1:Int) z5673))
 have h5776 := set_lt h5770 z5742.toNat (bOr .u64 x5767 (iShl .u64 (1:Int) z5673))
 refine we_unit z (x_unit hr5774) ?_
 refine ws_next (pend' := []) hst (by kernel_rfl) pk_nil ?_
 refine ws_nil ?_
 intro w hst
 refine blk_n (tn (wrl ?_))
 refine wv (.int .i64 (i64.wrap (z5742 + (1:Int)))) z z z (wv (.int .i64 (i64.wrap (z5742 + (1:Int)))) z z z (wl_nil (tn ?_)))
 replace hst := hst.pull6.pull6.pull6.pull6.pull4.pull6.pull6
 replace hst := at_label_Lattice_close (pv := Pt b5754 0) (x := ({ up := z5741.up, down := (z5741.down.set z5742.toNat (bOr .u64 x5767 (iShl .u64 (1:Int) z5673))), join := z5741.join, meet := z5741.meet, rank := z5741.rank, all := z5741.all } : label_Lattice)) hst z
 replace hst := hst.pull1.pull1.keep2
 obtain rfl := some_inj hm
 exact ⟨_, Nat.lt_succ_self _, ({ up := z5741.up, down := (z5741.down.set z5742.toNat (bOr .u64 x5767 (iShl .u64 (1:Int) z5673))), join := z5741.join, meet := z5741.meet, rank := z5741.rank, all := z5741.all } : label_Lattice), (i64.wrap (z5742 + (1:Int))), _, hx5749, (fu 4 (.int .i64 ((a0).length : Int)) z (fu 5 (Pt b5468 0) z (fu 6 (.int .i64 z5673) z (fu 7 (.int .u64 x5683) z (fu 38 r0_0 z (fu 39 (.int .i64 ((a0).length : Int)) z (fu 40 (.int .i64 z5673) z (fu 45 (.int .i64 ((a0).length : Int)) z (fu 46 (.int .i64 (i64.wrap (z5742 + (1:Int)))) z z))))))))), hst⟩
}
 {
 replace hm := bif_f hc5753 hm
 refine wp_iff (cvb hc5753) ?_
 refine wp_skip (blk_n (tn (wrl ?_)))
 refine wv (.int .i64 (i64.wrap (z5742 + (1:Int)))) z z z (wv (.int .i64 (i64.wrap (z5742 + (1:Int)))) z z z (wl_nil (tn ?_)))
 replace hst := hst.pull1.pull1.keep2
 obtain rfl := some_inj hm
 exact ⟨_, Nat.lt_succ_self _, z5741, (i64.wrap (z5742 + (1:Int))), _, hx5749, (fu 4 (.int .i64 ((a0).length : Int)) z (fu 5 (Pt b5468 0) z (fu 6 (.int .i64 z5673) z (fu 7 (.int .u64 x5683) z (fu 38 r0_0 z (fu 39 (.int .i64 ((a0).length : Int)) z (fu 40 (.int .i64 z5673) z (fu 45 (.int .i64 ((a0).length : Int)) z (fu 46 (.int .i64 (i64.wrap (z5742 + (1:Int)))) z z))))))))), hst⟩
}
}
 {
 replace hm := bif_f hc5751 hm
 refine wp_iff (cvb hc5751) ?_
 refine wp_exit (then_x (then_x ?_))
 replace hm := inr_up hm hx5749
 refine blk_x (blk_n (tn (wrl ?_)))
 refine wv (.int .i64 (i64.wrap (z5673 + (1:Int)))) z z z (wv (.int .i64 (i64.wrap (z5673 + (1:Int)))) z z z (wl_nil (tn ?_)))
 replace hst := hst.pull1.pull1.keep2
 obtain rfl := some_inj hm
 exact ⟨_, Nat.lt_succ_self _, z5741, (i64.wrap (z5673 + (1:Int))), _, hx5680, (fu 4 (.int .i64 ((a0).length : Int)) z (fu 5 (Pt b5468 0) z (fu 38 r0_0 z (fu 39 (.int .i64 ((a0).length : Int)) z (fu 40 (.int .i64 (i64.wrap (z5673 + (1:Int)))) z z))))), hst⟩
}
}
 {
 replace hm := bif_f hc5682 hm
 refine wp_iff (cvb hc5682) ?_
 refine wp_exit (then_x (then_x ?_))
 replace hm := inr_up hm hx5680
 refine blk_x (tn ?_)
 replace hst := hst.pull1.keep2
 obtain rfl := some_inj hm
 exact ⟨z5672, _, hx5781, (fu 4 (.int .i64 ((a0).length : Int)) z (fu 5 (Pt b5468 0) z z)), hst⟩
}
}
 {
 clear hst
 rintro _ w5782 ⟨z5777, σ5778, hm, rfl, hst⟩
 dsimp only [label_New_j1] at hm
 obtain ⟨y7125, hm, hx7126⟩ := joinO_some hm
 refine wp_cut (fun a w => ∃ (I7122 : HL) (z7121 : label_Lattice) (σ7123 : Nat → Value), (label_New_j4) z7121 = some r ∧ a = Fr 192 (upd σ7123 5 (Pt b5468 0)) ∧ I.le I7122 ∧ St w0 w I7122 [cells b5468 [v5470], at_label_Lattice v5470 z7121] R) ?_ ?_
 {
 have hL7127 := HL.le.refl I
 refine wp_seq (wrl (wv (.int .i64 ((a0).length : Int)) z z z (wv (.int .i64 (0:Int)) z z z (wl_nil (tn (wp_block ?_))))))
 obtain ⟨n6665, hm⟩ := loopO_some hm
 refine wp_loop_n (fun n a w => ∃ (I6663 : HL) (z6661 : label_Lattice) (z6662 : Int) (σ6664 : Nat → Value), loopN (label_New_l5 a0) n (z6661, z6662) = some y7125 ∧ a = Fr 192 (upd (upd (upd (upd σ6664 4 (.int .i64 ((a0).length : Int))) 5 (Pt b5468 0)) 67 (.int .i64 ((a0).length : Int))) 68 (.int .i64 z6662)) ∧ I.le I6663 ∧ St w0 w I6663 [cells b5468 [v5470], at_label_Lattice v5470 z6661] R) n6665 ⟨_, z5777, (0:Int), _, hm, (fu 4 (.int .i64 ((a0).length : Int)) z (fu 5 (Pt b5468 0) z (fu 67 (.int .i64 ((a0).length : Int)) z (fu 68 (.int .i64 (0:Int)) z z)))), (HL.le.refl _), hst⟩ ?_
 rintro n6671 _ w6666 ⟨I6663, z6661, z6662, σ6664, hm, rfl, hL6667, hst⟩
 obtain ⟨n6668, y6669, rfl, hm, hx6670⟩ := loopN_some hm
 dsimp only [label_New_l5] at hm
 replace f0_0 := f0_0.mono (rd_le hL6667)
 replace hI0 := hI0.trans hL6667
 replace hL7127 := hL7127.trans hL6667
 refine wp_seq (wrl (wv (.bool (decide (z6662 < ((a0).length : Int)))) z z z (wl_nil (tn (wp_seq ?_)))))
 refine bsplit (decide (z6662 < ((a0).length : Int))) (fun hc6672 => ?_) (fun hc6672 => ?_)
 {
 replace hm := bif_t hc6672 hm
 refine wp_ift (cvb hc6672) ?_
 refine wp_skip (tn (wp_seq (wp_block (wp_seq (wrl ?_)))))
 refine wv (.int .i64 z6662) z z z (wv (.int .i64 z6662) z z z (wl_nil (tn (wp_seq (wrl (wv ((.slice none 0 0)) z z z (wv ((.slice none 0 0)) z z z (wl_nil (tn ?_)))))))))
 obtain ⟨y6985, hm, hx6986⟩ := joinO_some hm
 refine wp_cut (fun a w => ∃ (z6979 : (List Int)) (z6982 : (List Int)) (v6978 : Value) (v6981 : Value) (σ6983 : Nat → Value), (label_New_j6 z6661 z6662) (z6979, z6982) = some y6669 ∧ a = Fr 192 (upd (upd (upd (upd (upd (upd (upd σ6983 4 (.int .i64 ((a0).length : Int))) 5 (Pt b5468 0)) 9 (.int .i64 z6662)) 10 (v6978)) 11 (v6981)) 67 (.int .i64 ((a0).length : Int))) 68 (.int .i64 z6662)) ∧ St w0 w I6663 [cells b5468 [v5470], at_label_Lattice v5470 z6661, ownS (tyInt .i64) v6978 z6979, ownS (tyInt .i64) v6981 z6982] R) ?_ ?_
 {
 refine wp_seq (wrl (wv (.int .i64 ((a0).length : Int)) z z z (wv (.int .i64 (0:Int)) z z z (wl_nil (tn (wp_block ?_))))))
 replace hst := hst.own_nil (tyInt .i64)
 replace hst := hst.own_nil (tyInt .i64)
 obtain ⟨n6900, hm⟩ := loopO_some hm
 refine wp_loop_n (fun n a w => ∃ (z6892 : (List Int)) (z6895 : (List Int)) (z6898 : Int) (v6893 : Value) (v6896 : Value) (σ6899 : Nat → Value), loopN (label_New_l7 a0 z6661 z6662) n (z6892, z6895, z6898) = some y6985 ∧ a = Fr 192 (upd (upd (upd (upd (upd (upd (upd (upd (upd σ6899 4 (.int .i64 ((a0).length : Int))) 5 (Pt b5468 0)) 9 (.int .i64 z6662)) 10 (v6893)) 11 (v6896)) 67 (.int .i64 ((a0).length : Int))) 68 (.int .i64 z6662)) 71 (.int .i64 ((a0).length : Int))) 72 (.int .i64 z6898)) ∧ St w0 w I6663 [ownS (tyInt .i64) v6896 z6895, ownS (tyInt .i64) v6893 z6892, cells b5468 [v5470], at_label_Lattice v5470 z6661] R) n6900 ⟨[], [], (0:Int), Zs, Zs, _, hm, (fu 4 (.int .i64 ((a0).length : Int)) z (fu 5 (Pt b5468 0) z (fu 9 (.int .i64 z6662) z (fu 10 (.slice none 0 0) z (fu 11 (.slice none 0 0) z (fu 67 (.int .i64 ((a0).length : Int)) z (fu 68 (.int .i64 z6662) z (fu 71 (.int .i64 ((a0).length : Int)) z (fu 72 (.int .i64 (0:Int)) z z))))))))), hst⟩ ?_
 rintro n6906 _ w6901 ⟨z6892, z6895, z6898, v6893, v6896, σ6899, hm, rfl, hst⟩
 obtain ⟨n6903, y6904, rfl, hm, hx6905⟩ := loopN_some hm
 dsimp only [label_New_l7] at hm
 refine wp_seq (wrl (wv (.bool (decide (z6898 < ((a0).length : Int)))) z z z (wl_nil (tn (wp_seq ?_)))))
 refine bsplit (decide (z6898 < ((a0).length : Int))) (fun hc6907 => ?_) (fun hc6907 => ?_)
 {
 replace hm := bif_t hc6907 hm
 refine wp_ift (cvb hc6907) ?_
 refine wp_skip (tn (wp_seq (wp_block (wp_seq (wrl ?_)))))
 refine wv (.int .i64 z6898) z z z (wv (.int .i64 z6898) z z z (wl_nil (tn (wp_seq ?_))))
 replace hst := hst.pull3
 obtain ⟨b6908, v6909, v6911, v6913, v6915, v6917, v6919, rfl, hst'⟩ := at_label_Lattice_open hst
 clear hst
 have hst := hst'
 clear hst'
 refine wp_region_St hst 25 [0, 1, 2, 3, 4, 5, 6, 7, 8, 9, 10, 11, 12, 13, 14, 15, 16, 17, 18, 19, 20, 21, 22, 23, 24] [0, 1, 3, 7, 0, 31, 63, 0, 128, 384, 896, 0, 3968, 8064, 16383, 0, 32768, 98304, 229376, 524287, 1048575, 2097151, 2097151, 4194303, 16777215] [] z (by kernel_rfl) (by kernel_rfl) Try.mixed (by kernel_rfl) ?_
 refine wsr (Pt b6908 0) 0 z z z (by kernel_rfl) (fun w hst => x_load z isAgg59 (hst.bc9 z)) (wsr (Pt b6908 0) 1 z z z (by kernel_rfl) (fun w hst => z) (wsr (Pt b6908 0) 2 z z z (by kernel_rfl) (fun w hst => x_field z underlying72 z sizeOf40 z) (wsr (v6909) 3 z z z (by kernel_rfl) (fun w hst => x_load z isAgg40 (hst.bc0 z)) (wsr (.int .i64 z6662) 4 z z z (by kernel_rfl) (fun w hst => z) ?_))))
 obtain ⟨x6921, hx6922, hm⟩ := bind_some hm
 obtain ⟨h6923, h6924, hi6925⟩ := geto_some hx6922
 refine wsr (.pointer (some (eAddr v6909 (z6662.toNat * 1 + 0)))) 5 z z z (by kernel_rfl) (fun w hst => x_index z z underlying40 sizeOf66 hst.sv1 h6923 h6924) (wsr (.int .u64 x6921) 6 z z z (by kernel_rfl) (fun w hst => x_load z isAgg66 (hst.ol1 hi6925 (by rintro _ rfl; rfl))) (wsr (Pt b6908 0) 7 z z z (by kernel_rfl) (fun w hst => x_load z isAgg59 (hst.bc9 z)) (wsr (Pt b6908 0) 8 z z z (by kernel_rfl) (fun w hst => z) (wsr (Pt b6908 0) 9 z z z (by kernel_rfl) (fun w hst => x_field z underlying72 z sizeOf40 z) (wsr (v6909) 10 z z z (by kernel_rfl) (fun w hst => x_load z isAgg40 (hst.bc0 z)) (wsr (.int .i64 z6898) 11 z z z (by kernel_rfl) (fun w hst => z) ?_))))))
 obtain ⟨x6926, hx6927, hm⟩ := bind_some hm
 obtain ⟨h6928, h6929, hi6930⟩ := geto_some hx6927
 refine wsr (.pointer (some (eAddr v6909 (z6898.toNat * 1 + 0)))) 12 z z z (by kernel_rfl) (fun w hst => x_index z z underlying40 sizeOf66 hst.sv1 h6928 h6929) (wsr (.int .u64 x6926) 13 z z z (by kernel_rfl) (fun w hst => x_load z isAgg66 (hst.ol1 hi6930 (by rintro _ rfl; rfl))) (wsr (.int .u64 (bAnd .u64 x6921 x6926)) 14 z z z (by kernel_rfl) (fun w hst => z) (wsr (Pt b6908 0) 15 z z z (by kernel_rfl) (fun w hst => x_load z isAgg59 (hst.bc9 z)) (wsr (Pt b6908 0) 16 z z z (by kernel_rfl) (fun w hst => z) (wsr (Pt b6908 0) 17 z z z (by kernel_rfl) (fun w hst => x_field z underlying72 z sizeOf40 z) (wsr (v6909) 18 z z z (by kernel_rfl) (fun w hst => x_load z isAgg40 (hst.bc0 z)) ?_))))))
 refine ws_e1 19 (by kernel_rfl) ?_
 refine nxe [20, 21, 22, 23, 24] (by kernel_rfl) z z ?_
 clear hst
 intro w hst
 replace hst := hst.pull1
 obtain ⟨css6931, hq6932, hst⟩ := hst.own_open
 obtain ⟨t6933, ht6934, hm⟩ := bind_some hm
 refine wec call26 [U6 (bAnd .u64 x6921 x6926), v6909] z z ?_
 refine (label_least_ref (hst.rdrow0 hq6932) hst.to0 ht6934).mono ?_
 rintro _ w6935 ⟨rfl, hst⟩
 refine ⟨_, z, ?_⟩
 replace hst := hst.of0.own_close hq6932
 refine ws_next (pend' := []) hst (by kernel_rfl) pk_nil ?_
 refine wsr (.tuple #[I6 t6933.1, .bool t6933.2]) 20 z z z (by kernel_rfl) (fun w hst => z) (wsr (.int .i64 t6933.1) 21 z z z (by kernel_rfl) (fun w hst => z) (wsr (.bool t6933.2) 22 z z z (by kernel_rfl) (fun w hst => z) (wsr (.int .i64 t6933.1) 23 z z z (by kernel_rfl) (fun w hst => z) (wsr (.bool t6933.2) 24 z z z (by kernel_rfl) (fun w hst => z) ?_))))
 refine ws_nil ?_
 intro w hst
 refine tn (wp_seq ?_)
 refine wp_region_St hst 25 [0, 1, 2, 3, 4, 5, 6, 7, 8, 9, 10, 11, 12, 13, 14, 15, 16, 17, 18, 19, 20, 21, 22, 23, 24] [0, 1, 3, 7, 0, 31, 63, 0, 128, 384, 896, 0, 3968, 8064, 16383, 0, 32768, 98304, 229376, 524287, 1048575, 2097151, 2097151, 4194303, 16777215] [] z (by kernel_rfl) (by kernel_rfl) Try.mixed (by kernel_rfl) ?_
 refine wsr (Pt b6908 0) 0 z z z (by kernel_rfl) (fun w hst => x_load z isAgg59 (hst.bc9 z)) (wsr (Pt b6908 0) 1 z z z (by kernel_rfl) (fun w hst => z) (wsr (Pt b6908 1) 2 z z z (by kernel_rfl) (fun w hst => x_field z underlying72 z sizeOf40 z) (wsr (v6911) 3 z z z (by kernel_rfl) (fun w hst => x_load z isAgg40 (hst.bc1 z)) (wsr (.int .i64 z6662) 4 z z z (by kernel_rfl) (fun w hst => z) ?_))))
 obtain ⟨x6938, hx6939, hm⟩ := bind_some hm
 obtain ⟨h6940, h6941, hi6942⟩ := geto_some hx6939
 refine wsr (.pointer (some (eAddr v6911 (z6662.toNat * 1 + 0)))) 5 z z z (by kernel_rfl) (fun w hst => x_index z z underlying40 sizeOf66 hst.sv2 h6940 h6941) (wsr (.int .u64 x6938) 6 z z z (by kernel_rfl) (fun w hst => x_load z isAgg66 (hst.ol2 hi6942 (by rintro _ rfl; rfl))) (wsr (Pt b6908 0) 7 z z z (by kernel_rfl) (fun w hst => x_load z isAgg59 (hst.bc9 z)) (wsr (Pt b6908 0) 8 z z z (by kernel_rfl) (fun w hst => z) (wsr (Pt b6908 1) 9 z z z (by kernel_rfl) (fun w hst => x_field z underlying72 z sizeOf40 z) (wsr (v6911) 10 z z z (by kernel_rfl) (fun w hst => x_load z isAgg40 (hst.bc1 z)) (wsr (.int .i64 z6898) 11 z z z (by kernel_rfl) (fun w hst => z) ?_))))))
 obtain ⟨x6943, hx6944, hm⟩ := bind_some hm
 obtain ⟨h6945, h6946, hi6947⟩ := geto_some hx6944
 refine wsr (.pointer (some (eAddr v6911 (z6898.toNat * 1 + 0)))) 12 z z z (by kernel_rfl) (fun w hst => x_index z z underlying40 sizeOf66 hst.sv2 h6945 h6946) (wsr (.int .u64 x6943) 13 z z z (by kernel_rfl) (fun w hst => x_load z isAgg66 (hst.ol2 hi6947 (by rintro _ rfl; rfl))) (wsr (.int .u64 (bAnd .u64 x6938 x6943)) 14 z z z (by kernel_rfl) (fun w hst => z) (wsr (Pt b6908 0) 15 z z z (by kernel_rfl) (fun w hst => x_load z isAgg59 (hst.bc9 z)) (wsr (Pt b6908 0) 16 z z z (by kernel_rfl) (fun w hst => z) (wsr (Pt b6908 1) 17 z z z (by kernel_rfl) (fun w hst => x_field z underlying72 z sizeOf40 z) (wsr (v6911) 18 z z z (by kernel_rfl) (fun w hst => x_load z isAgg40 (hst.bc1 z)) ?_))))))
 refine ws_e1 19 (by kernel_rfl) ?_
 refine nxe [20, 21, 22, 23, 24] (by kernel_rfl) z z ?_
 clear hst
 intro w hst
 replace hst := hst.pull2
 obtain ⟨css6948, hq6949, hst⟩ := hst.own_open
 obtain ⟨t6950, ht6951, hm⟩ := bind_some hm
 refine wec call26 [U6 (bAnd .u64 x6938 x6943), v6911] z z ?_
 refine (label_least_ref (hst.rdrow0 hq6949) hst.to0 ht6951).mono ?_
 rintro _ w6952 ⟨rfl, hst⟩
 refine ⟨_, z, ?_⟩
 replace hst := hst.of0.own_close hq6949
 refine ws_next (pend' := []) hst (by kernel_rfl) pk_nil ?_
 refine wsr (.tuple #[I6 t6950.1, .bool t6950.2]) 20 z z z (by kernel_rfl) (fun w hst => z) (wsr (.int .i64 t6950.1) 21 z z z (by kernel_rfl) (fun w hst => z) (wsr (.bool t6950.2) 22 z z z (by kernel_rfl) (fun w hst => z) (wsr (.int .i64 t6950.1) 23 z z z (by kernel_rfl) (fun w hst => z) (wsr (.bool t6950.2) 24 z z z (by kernel_rfl) (fun w hst => z) ?_))))
 refine ws_nil ?_
 intro w hst
 refine tn (wp_seq (wp_seq (wrl (wv (.bool t6933.2) z z z (wv (.bool (!t6933.2)) z z z (wv (.bool (!t6933.2)) z z z ?_))))))
 refine bsplit (!t6933.2) (fun hc6955 => ?_) (fun hc6955 => ?_)
 {
 replace hm := bif_t hc6955 hm
 refine wo hc6955 z z z z z z (wo hc6955 z z z z z z (wv (.bool true) z z (x_pick_t hc6955 z z) (wl_nil (tn ?_))))
 refine wp_ift z ?_
 refine wp_seq (wrl (wv (.pointer none) z z z (wv (.int .i64 (15:Int)) z z z (wl_nil (tn (wp_ret (then_r (blk_r (then_r (then_r ?_))))))))))
 replace hm := inr_up hm hx6905
 refine blk_r (then_r ?_)
 replace hm := inr_up hm hx6986
 refine blk_r (then_r (then_r ?_))
 replace hm := inr_up hm hx6670
 refine blk_r (then_r ?_)
 replace hm := inr_up hm hx7126
 replace hst := hst.objO_nil at_label_Lattice
 obtain rfl := some_inj hm
 refine post_ret (vs := [.pointer none, I6 (15:Int)]) results20 (rvs_cons (rv_tmp z) (rvs_cons (rv_tmp z) rvs_nil)) ?_
 exact ⟨_, .pointer none, z, hI0, hst.keep1⟩
}
 {
 replace hm := bif_f hc6955 hm
 refine wv (.bool t6950.2) ((wanted_eq z z z (cvb hc6955)).trans z) z z (wv (.bool (!t6950.2)) ((wanted_eq z z z (cvb hc6955)).trans z) z z (wv (.bool (!t6950.2)) z z (x_pick_f hc6955 z z) (wl_nil (tn ?_))))
 refine bsplit (!t6950.2) (fun hc6957 => ?_) (fun hc6957 => ?_)
 {
 replace hm := bif_t hc6957 hm
 refine wp_ift (cvb hc6957) ?_
 refine wp_seq (wrl (wv (.pointer none) z z z (wv (.int .i64 (15:Int)) z z z (wl_nil (tn (wp_ret (then_r (blk_r (then_r (then_r ?_))))))))))
 replace hm := inr_up hm hx6905
 refine blk_r (then_r ?_)
 replace hm := inr_up hm hx6986
 refine blk_r (then_r (then_r ?_))
 replace hm := inr_up hm hx6670
 refine blk_r (then_r ?_)
 replace hm := inr_up hm hx7126
 replace hst := hst.objO_nil at_label_Lattice
 obtain rfl := some_inj hm
 refine post_ret (vs := [.pointer none, I6 (15:Int)]) results20 (rvs_cons (rv_tmp z) (rvs_cons (rv_tmp z) rvs_nil)) ?_
 exact ⟨_, .pointer none, z, hI0, hst.keep1⟩
}
 {
 replace hm := bif_f hc6957 hm
 refine wp_iff (cvb hc6957) ?_
 refine wp_skip (tn (wrl ?_))
 refine wv (v6893) z z z (wv (.int .i64 t6933.1) z z z ?_)
 obtain ⟨b6959, w6960, ew6961, eb6962, hst⟩ := hst.lits (E := (tyInt .i64)) (xs := [t6933.1]) [[I6 t6933.1]] 3 1 z (Reps.cons z Reps.nil)
 refine wl_run (v := (.slice (some ⟨b6959, 0, none⟩) 1 1)) (w' := w6960) z z (x_als (by kernel_rfl) ew6961 eb6962) ?_
 obtain ⟨hg6964, hm⟩ := gd_some hm
 replace hst := hst.pull9
 obtain ⟨v6965, w6966, hr6967, hst⟩ := run_append elem_69 underlying69 hst hst.src1 (room_of hg6964 z) 69
 refine wl_run (v := v6965) (w' := w6966) z z (x_append z z hr6967) ?_
 refine wv (v6896) z z z (wv (.int .i64 t6950.1) z z z ?_)
 obtain ⟨b6969, w6970, ew6971, eb6972, hst⟩ := hst.lits (E := (tyInt .i64)) (xs := [t6950.1]) [[I6 t6950.1]] 3 1 z (Reps.cons z Reps.nil)
 refine wl_run (v := (.slice (some ⟨b6969, 0, none⟩) 1 1)) (w' := w6970) z z (x_als (by kernel_rfl) ew6971 eb6972) ?_
 obtain ⟨hg6974, hm⟩ := gd_some hm
 replace hst := hst.pull10
 obtain ⟨v6975, w6976, hr6977, hst⟩ := run_append elem_69 underlying69 hst hst.src1 (room_of hg6974 z) 69
 refine wl_run (v := v6975) (w' := w6976) z z (x_append z z hr6977) ?_
 refine wv (v6965) z z z (wv (v6975) z z z (wl_nil (blk_n (tn (wrl (wv (.int .i64 (i64.wrap (z6898 + (1:Int)))) z z z (wv (.int .i64 (i64.wrap (z6898 + (1:Int)))) z z z (wl_nil (tn ?_)))))))))
 replace hst := hst.pull10.pull10.pull10.pull10.pull8.pull9.pull10
 replace hst := at_label_Lattice_close (pv := Pt b6908 0) (x := z6661) hst z
 replace hst := hst.pull5.pull4.pull3.keep4
 obtain rfl := some_inj hm
 exact ⟨_, Nat.lt_succ_self _, (z6892 ++ ([t6933.1])), (z6895 ++ ([t6950.1])), (i64.wrap (z6898 + (1:Int))), v6965, v6975, _, hx6905, (fu 4 (.int .i64 ((a0).length : Int)) z (fu 5 (Pt b5468 0) z (fu 9 (.int .i64 z6662) z (fu 10 v6965 z (fu 11 v6975 z (fu 67 (.int .i64 ((a0).length : Int)) z (fu 68 (.int .i64 z6662) z (fu 71 (.int .i64 ((a0).length : Int)) z (fu 72 (.int .i64 (i64.wrap (z6898 + (1:Int)))) z z))))))))), hst⟩
}
}
}
 {
 replace hm := bif_f hc6907 hm
 refine wp_iff (cvb hc6907) ?_
 refine wp_exit (then_x (then_x ?_))
 replace hm := inr_up hm hx6905
 refine blk_x (tn ?_)
 replace hst := hst.pull1.pull3.pull3.keep4
 obtain rfl := some_inj hm
 exact ⟨z6892, z6895, v6893, v6896, _, hx6986, (fu 4 (.int .i64 ((a0).length : Int)) z (fu 5 (Pt b5468 0) z (fu 9 (.int .i64 z6662) z (fu 10 v6893 z (fu 11 v6896 z (fu 67 (.int .i64 ((a0).length : Int)) z (fu 68 (.int .i64 z6662) z z))))))), hst⟩
}
}
 {
 clear hst
 rintro _ w6987 ⟨z6979, z6982, v6978, v6981, σ6983, hm, rfl, hst⟩
 dsimp only [label_New_j6] at hm
 refine wp_seq ?_
 replace hst := hst.pull1
 obtain ⟨b6988, v6989, v6991, v6993, v6995, v6997, v6999, rfl, hst'⟩ := at_label_Lattice_open hst
 clear hst
 have hst := hst'
 clear hst'
 obtain ⟨y7091, hm, hx7092⟩ := bind_some hm
 refine wp_mid (fun a w => ∃ (I7088 : HL) (σ7089 : Nat → Value), (label_New_j8 z6661 z6979 z6982 z6662) () = some y6669 ∧ a = Fr 192 (upd (upd (upd (upd (upd σ7089 4 (.int .i64 ((a0).length : Int))) 5 (Pt b5468 0)) 9 (.int .i64 z6662)) 67 (.int .i64 ((a0).length : Int))) 68 (.int .i64 z6662)) ∧ I6663.le I7088 ∧ St w0 w I7088 [cells b5468 [Pt b6988 0], at_label_Lattice (Pt b6988 0) ({ up := z6661.up, down := z6661.down, join := (z6661.join ++ ([z6979])), meet := (z6661.meet ++ ([z6982])), rank := z6661.rank, all := z6661.all } : label_Lattice)] R) ?_ ?_
 {
 have hL7093 := HL.le.refl I6663
 refine wp_region_St hst 22 [0, 1, 2, 3, 4, 5, 6, 7, 8, 9, 10, 11, 12, 13, 14, 15, 16, 17, 18, 19, 20, 21] [0, 0, 0, 4, 12, 28, 0, 64, 252, 0, 512, 1536, 3584, 0, 8192, 32764, 65533, 131069, 262141, 524287, 1048575, 2097151] [] z (by kernel_rfl) (by kernel_rfl) Try.mixed (by kernel_rfl) ?_
 refine wsr (Pt b6988 0) 0 z z z (by kernel_rfl) (fun w hst => x_load z isAgg59 (hst.bc7 z)) (wsr (Pt b6988 0) 1 z z z (by kernel_rfl) (fun w hst => x_load z isAgg59 (hst.bc7 z)) (wsr (Pt b6988 0) 2 z z z (by kernel_rfl) (fun w hst => x_load z isAgg59 (hst.bc7 z)) (wsr (Pt b6988 0) 3 z z z (by kernel_rfl) (fun w hst => z) (wsr (Pt b6988 2) 4 z z z (by kernel_rfl) (fun w hst => x_field z underlying72 z sizeOf70 z) (wsr (v6993) 5 z z z (by kernel_rfl) (fun w hst => x_load z isAgg70 (hst.bc0 z)) (wsr (v6978) 6 z z z (by kernel_rfl) (fun w hst => z) (wsr (Pt b6988 0) 9 z z z (by kernel_rfl) (fun w hst => x_load z isAgg59 (hst.bc7 z)) (wsr (Pt b6988 0) 10 z z z (by kernel_rfl) (fun w hst => z) (wsr (Pt b6988 3) 11 z z z (by kernel_rfl) (fun w hst => x_field z underlying72 z sizeOf70 z) (wsr (v6995) 12 z z z (by kernel_rfl) (fun w hst => x_load z isAgg70 (hst.bc0 z)) (wsr (v6981) 13 z z z (by kernel_rfl) (fun w hst => z) ?_)))))))))))
 refine ws_e2 7 14 (by kernel_rfl) ?_ ?_
 {
 refine nxe [8, 14, 15, 16, 17, 18, 19, 20, 21] (by kernel_rfl) z z ?_
 clear hst
 intro w hst
 replace hst := hst.pull8
 obtain ⟨I7002, hI7003, f7004, hst⟩ := hst.own_fix
 replace f0_0 := f0_0.mono (rd_le hI7003)
 replace hI0 := hI0.trans hI7003
 replace hL7127 := hL7127.trans hI7003
 replace hL6667 := hL6667.trans hI7003
 replace hL7093 := hL7093.trans hI7003
 obtain ⟨b7005, w7006, ew7007, eb7008, hst⟩ := hst.lits (E := (tySl (tyInt .i64))) (xs := [z6979]) [[v6978]] 69 1 z (Reps.cons ⟨_, z, f7004, one_of_sliceV (ro_sliceV f7004)⟩ Reps.nil)
 refine we_run (v := (.slice (some ⟨b7005, 0, none⟩) 1 1)) (w' := w7006) z (x_als (by obtain ⟨_, _, hv_, _⟩ := (ro_sliceV f7004); rw [hv_]; kernel_rfl) ew7007 eb7008) ?_
 refine ws_next (pend' := [(13, v6981), (12, v6995), (11, Pt b6988 3), (10, Pt b6988 0), (9, Pt b6988 0), (5, v6993), (4, Pt b6988 2), (3, Pt b6988 0), (2, Pt b6988 0), (1, Pt b6988 0), (0, Pt b6988 0)]) hst (by kernel_rfl) (pkr z z (fun w hst => z) (pkr z z (fun w hst => x_load z isAgg70 (hst.bc1 z)) (pkr z z (fun w hst => x_field z underlying72 z sizeOf70 z) (pkr z z (fun w hst => z) (pkr z z (fun w hst => x_load z isAgg59 (hst.bc8 z)) (pkr z z (fun w hst => x_load z isAgg70 (hst.bc1 z)) (pkr z z (fun w hst => x_field z underlying72 z sizeOf70 z) (pkr z z (fun w hst => z) (pkr z z (fun w hst => x_load z isAgg59 (hst.bc8 z)) (pkr z z (fun w hst => x_load z isAgg59 (hst.bc8 z)) (pkr z z (fun w hst => x_load z isAgg59 (hst.bc8 z)) pk_nil))))))))))) ?_
 refine ws_e2 8 14 (by kernel_rfl) ?_ ?_
 {
 refine nxe [14, 15, 16, 17, 18, 19, 20, 21] (by kernel_rfl) z z ?_
 clear hst
 intro w hst
 obtain ⟨hg7010, hm⟩ := gd_some hm
 replace hst := hst.pull4
 obtain ⟨v7011, w7012, hr7013, hst⟩ := run_append elem_70 underlying70 hst hst.src1 (room_of hg7010 z) 70
 refine we_run (v := v7011) (w' := w7012) z (x_append z z hr7013) ?_
 refine ws_next (pend' := [(13, v6981), (12, v6995), (11, Pt b6988 3), (10, Pt b6988 0), (9, Pt b6988 0), (1, Pt b6988 0), (0, Pt b6988 0)]) hst (by kernel_rfl) (pkr z z (fun w hst => z) (pkr z z (fun w hst => x_load z isAgg70 (hst.bc2 z)) (pkr z z (fun w hst => x_field z underlying72 z sizeOf70 z) (pkr z z (fun w hst => z) (pkr z z (fun w hst => x_load z isAgg59 (hst.bc8 z)) (pkr z z (fun w hst => x_load z isAgg59 (hst.bc8 z)) (pkr z z (fun w hst => x_load z isAgg59 (hst.bc8 z)) pk_nil))))))) ?_
 refine ws_e1 14 (by kernel_rfl) ?_
 refine nxe [15, 16, 17, 18, 19, 20, 21] (by kernel_rfl) z z ?_
 clear hst
 intro w hst
 replace hst := hst.pull9
 obtain ⟨I7016, hI7017, f7018, hst⟩ := hst.own_fix
 replace f0_0 := f0_0.mono (rd_le hI7017)
 replace f7004 := f7004.mono (ro_le hI7017)
 replace hI0 := hI0.trans hI7017
 replace hL7127 := hL7127.trans hI7017
 replace hL6667 := hL6667.trans hI7017
 replace hL7093 := hL7093.trans hI7017
 obtain ⟨b7019, w7020, ew7021, eb7022, hst⟩ := hst.lits (E := (tySl (tyInt .i64))) (xs := [z6982]) [[v6981]] 69 1 z (Reps.cons ⟨_, z, f7018, one_of_sliceV (ro_sliceV f7018)⟩ Reps.nil)
 refine we_run (v := (.slice (some ⟨b7019, 0, none⟩) 1 1)) (w' := w7020) z (x_als (by obtain ⟨_, _, hv_, _⟩ := (ro_sliceV f7018); rw [hv_]; kernel_rfl) ew7021 eb7022) ?_
 refine ws_next (pend' := [(12, v6995), (11, Pt b6988 3), (10, Pt b6988 0), (9, Pt b6988 0), (1, Pt b6988 0), (0, Pt b6988 0)]) hst (by kernel_rfl) (pkr z z (fun w hst => x_load z isAgg70 (hst.bc3 z)) (pkr z z (fun w hst => x_field z underlying72 z sizeOf70 z) (pkr z z (fun w hst => z) (pkr z z (fun w hst => x_load z isAgg59 (hst.bc9 z)) (pkr z z (fun w hst => x_load z isAgg59 (hst.bc9 z)) (pkr z z (fun w hst => x_load z isAgg59 (hst.bc9 z)) pk_nil)))))) ?_
 refine ws_e1 15 (by kernel_rfl) ?_
 refine nxe [16, 17, 18, 19, 20, 21] (by kernel_rfl) z z ?_
 clear hst
 intro w hst
 obtain ⟨hg7024, hm⟩ := gd_some hm
 replace hst := hst.pull6
 obtain ⟨v7025, w7026, hr7027, hst⟩ := run_append elem_70 underlying70 hst hst.src1 (room_of hg7024 z) 70
 refine we_run (v := v7025) (w' := w7026) z (x_append z z hr7027) ?_
 refine ws_next (pend' := [(1, Pt b6988 0), (0, Pt b6988 0)]) hst (by kernel_rfl) (pkr z z (fun w hst => x_load z isAgg59 (hst.bc9 z)) (pkr z z (fun w hst => x_load z isAgg59 (hst.bc9 z)) pk_nil)) ?_
 refine wsr (Pt b6988 0) 16 z z z (by kernel_rfl) (fun w hst => z) (wsr (Pt b6988 2) 17 z z z (by kernel_rfl) (fun w hst => x_field z underlying72 z sizeOf70 z) ?_)
 refine ws_e1 18 (by kernel_rfl) ?_
 refine nxe [19, 20, 21] (by kernel_rfl) z z ?_
 clear hst
 intro w hst
 replace hst := hst.pull4
 obtain ⟨w7029, hr7030, hst⟩ := hst.boxStore1 (P := prog) (t := 70) (cs' := [v6989, v6991, v7011, v6995, v6997, v6999]) 2 v7011 (one_of_sliceV hst.sv3) sizeOf70 z z
 refine we_unit z (x_unit hr7030) ?_
 refine ws_next (pend' := [(1, Pt b6988 0)]) hst (by kernel_rfl) (pkr z z (fun w hst => x_load z isAgg59 (hst.bc9 z)) pk_nil) ?_
 refine wsr (Pt b6988 0) 19 z z z (by kernel_rfl) (fun w hst => z) (wsr (Pt b6988 3) 20 z z z (by kernel_rfl) (fun w hst => x_field z underlying72 z sizeOf70 z) ?_)
 refine ws_e1 21 (by kernel_rfl) ?_
 refine nxe [] (by kernel_rfl) z z ?_
 clear hst
 intro w hst
 obtain ⟨w7031, hr7032, hst⟩ := hst.boxStore1 (P := prog) (t := 70) (cs' := [v6989, v6991, v7011, v7025, v6997, v6999]) 3 v7025 (one_of_sliceV hst.sv1) sizeOf70 z z
 refine we_unit z (x_unit hr7032) ?_
 refine ws_next (pend' := []) hst (by kernel_rfl) pk_nil ?_
 refine ws_nil ?_
 intro w hst
 refine ⟨z, ?_⟩
 replace hst := hst.pull8.pull8.pull3.pull5.pull8.pull8.pull6
 replace hst := at_label_Lattice_close (pv := Pt b6988 0) (x := ({ up := z6661.up, down := z6661.down, join := (z6661.join ++ ([z6979])), meet := (z6661.meet ++ ([z6982])), rank := z6661.rank, all := z6661.all } : label_Lattice)) hst z
 replace hst := hst.pull3.keep2
 obtain rfl := some_inj hm
 exact ⟨_, _, hx7092, (fu 4 (.int .i64 ((a0).length : Int)) z (fu 5 (Pt b5468 0) z (fu 9 (.int .i64 z6662) z (fu 67 (.int .i64 ((a0).length : Int)) z (fu 68 (.int .i64 z6662) z z))))), hL7093, hst⟩
}
 {
 refine nxe [8, 15, 16, 17, 18, 19, 20, 21] (by kernel_rfl) z z ?_
 clear hst
 intro w hst
 replace hst := hst.pull9
 obtain ⟨I7034, hI7035, f7036, hst⟩ := hst.own_fix
 replace f0_0 := f0_0.mono (rd_le hI7035)
 replace f7004 := f7004.mono (ro_le hI7035)
 replace hI0 := hI0.trans hI7035
 replace hL7127 := hL7127.trans hI7035
 replace hL6667 := hL6667.trans hI7035
 replace hL7093 := hL7093.trans hI7035
 obtain ⟨b7037, w7038, ew7039, eb7040, hst⟩ := hst.lits (E := (tySl (tyInt .i64))) (xs := [z6982]) [[v6981]] 69 1 z (Reps.cons ⟨_, z, f7036, one_of_sliceV (ro_sliceV f7036)⟩ Reps.nil)
 refine we_run (v := (.slice (some ⟨b7037, 0, none⟩) 1 1)) (w' := w7038) z (x_als (by obtain ⟨_, _, hv_, _⟩ := (ro_sliceV f7036); rw [hv_]; kernel_rfl) ew7039 eb7040) ?_
 refine ws_next (pend' := [(12, v6995), (11, Pt b6988 3), (10, Pt b6988 0), (9, Pt b6988 0), (5, v6993), (4, Pt b6988 2), (3, Pt b6988 0), (2, Pt b6988 0), (1, Pt b6988 0), (0, Pt b6988 0)]) hst (by kernel_rfl) (pkr z z (fun w hst => x_load z isAgg70 (hst.bc2 z)) (pkr z z (fun w hst => x_field z underlying72 z sizeOf70 z) (pkr z z (fun w hst => z) (pkr z z (fun w hst => x_load z isAgg59 (hst.bc9 z)) (pkr z z (fun w hst => x_load z isAgg70 (hst.bc2 z)) (pkr z z (fun w hst => x_field z underlying72 z sizeOf70 z) (pkr z z (fun w hst => z) (pkr z z (fun w hst => x_load z isAgg59 (hst.bc9 z)) (pkr z z (fun w hst => x_load z isAgg59 (hst.bc9 z)) (pkr z z (fun w hst => x_load z isAgg59 (hst.bc9 z)) pk_nil)))))))))) ?_
 refine ws_e1 8 (by kernel_rfl) ?_
 refine nxe [15, 16, 17, 18, 19, 20, 21] (by kernel_rfl) z z ?_
 clear hst
 intro w hst
 obtain ⟨hg7042, hm⟩ := gd_some hm
 replace hst := hst.pull5
 obtain ⟨v7043, w7044, hr7045, hst⟩ := run_append elem_70 underlying70 hst hst.src2 (room_of hg7042 z) 70
 refine we_run (v := v7043) (w' := w7044) z (x_append z z hr7045) ?_
 refine ws_next (pend' := [(12, v6995), (11, Pt b6988 3), (10, Pt b6988 0), (9, Pt b6988 0), (1, Pt b6988 0), (0, Pt b6988 0)]) hst (by kernel_rfl) (pkr z z (fun w hst => x_load z isAgg70 (hst.bc3 z)) (pkr z z (fun w hst => x_field z underlying72 z sizeOf70 z) (pkr z z (fun w hst => z) (pkr z z (fun w hst => x_load z isAgg59 (hst.bc9 z)) (pkr z z (fun w hst => x_load z isAgg59 (hst.bc9 z)) (pkr z z (fun w hst => x_load z isAgg59 (hst.bc9 z)) pk_nil)))))) ?_
 refine ws_e1 15 (by kernel_rfl) ?_
 refine nxe [16, 17, 18, 19, 20, 21] (by kernel_rfl) z z ?_
 clear hst
 intro w hst
 obtain ⟨hg7047, hm⟩ := gd_some hm
 replace hst := hst.pull6
 obtain ⟨v7048, w7049, hr7050, hst⟩ := run_append elem_70 underlying70 hst hst.src2 (room_of hg7047 z) 70
 refine we_run (v := v7048) (w' := w7049) z (x_append z z hr7050) ?_
 refine ws_next (pend' := [(1, Pt b6988 0), (0, Pt b6988 0)]) hst (by kernel_rfl) (pkr z z (fun w hst => x_load z isAgg59 (hst.bc9 z)) (pkr z z (fun w hst => x_load z isAgg59 (hst.bc9 z)) pk_nil)) ?_
 refine wsr (Pt b6988 0) 16 z z z (by kernel_rfl) (fun w hst => z) (wsr (Pt b6988 2) 17 z z z (by kernel_rfl) (fun w hst => x_field z underlying72 z sizeOf70 z) ?_)
 refine ws_e1 18 (by kernel_rfl) ?_
 refine nxe [19, 20, 21] (by kernel_rfl) z z ?_
 clear hst
 intro w hst
 replace hst := hst.pull4
 obtain ⟨w7052, hr7053, hst⟩ := hst.boxStore1 (P := prog) (t := 70) (cs' := [v6989, v6991, v7043, v6995, v6997, v6999]) 2 v7043 (one_of_sliceV hst.sv2) sizeOf70 z z
 refine we_unit z (x_unit hr7053) ?_
 refine ws_next (pend' := [(1, Pt b6988 0)]) hst (by kernel_rfl) (pkr z z (fun w hst => x_load z isAgg59 (hst.bc9 z)) pk_nil) ?_
 refine wsr (Pt b6988 0) 19 z z z (by kernel_rfl) (fun w hst => z) (wsr (Pt b6988 3) 20 z z z (by kernel_rfl) (fun w hst => x_field z underlying72 z sizeOf70 z) ?_)
 refine ws_e1 21 (by kernel_rfl) ?_
 refine nxe [] (by kernel_rfl) z z ?_
 clear hst
 intro w hst
 obtain ⟨w7054, hr7055, hst⟩ := hst.boxStore1 (P := prog) (t := 70) (cs' := [v6989, v6991, v7043, v7048, v6997, v6999]) 3 v7048 (one_of_sliceV hst.sv1) sizeOf70 z z
 refine we_unit z (x_unit hr7055) ?_
 refine ws_next (pend' := []) hst (by kernel_rfl) pk_nil ?_
 refine ws_nil ?_
 intro w hst
 refine ⟨z, ?_⟩
 replace hst := hst.pull8.pull8.pull3.pull4.pull8.pull8.pull6
 replace hst := at_label_Lattice_close (pv := Pt b6988 0) (x := ({ up := z6661.up, down := z6661.down, join := (z6661.join ++ ([z6979])), meet := (z6661.meet ++ ([z6982])), rank := z6661.rank, all := z6661.all } : label_Lattice)) hst z
 replace hst := hst.pull3.keep2
 obtain rfl := some_inj hm
 exact ⟨_, _, hx7092, (fu 4 (.int .i64 ((a0).length : Int)) z (fu 5 (Pt b5468 0) z (fu 9 (.int .i64 z6662) z (fu 67 (.int .i64 ((a0).length : Int)) z (fu 68 (.int .i64 z6662) z z))))), hL7093, hst⟩
}
}
 {
 refine nxe [7, 8, 15, 16, 17, 18, 19, 20, 21] (by kernel_rfl) z z ?_
 clear hst
 intro w hst
 replace hst := hst.pull9
 obtain ⟨I7057, hI7058, f7059, hst⟩ := hst.own_fix
 replace f0_0 := f0_0.mono (rd_le hI7058)
 replace hI0 := hI0.trans hI7058
 replace hL7127 := hL7127.trans hI7058
 replace hL6667 := hL6667.trans hI7058
 replace hL7093 := hL7093.trans hI7058
 obtain ⟨b7060, w7061, ew7062, eb7063, hst⟩ := hst.lits (E := (tySl (tyInt .i64))) (xs := [z6982]) [[v6981]] 69 1 z (Reps.cons ⟨_, z, f7059, one_of_sliceV (ro_sliceV f7059)⟩ Reps.nil)
 refine we_run (v := (.slice (some ⟨b7060, 0, none⟩) 1 1)) (w' := w7061) z (x_als (by obtain ⟨_, _, hv_, _⟩ := (ro_sliceV f7059); rw [hv_]; kernel_rfl) ew7062 eb7063) ?_
 refine ws_next (pend' := [(12, v6995), (11, Pt b6988 3), (10, Pt b6988 0), (9, Pt b6988 0), (6, v6978), (5, v6993), (4, Pt b6988 2), (3, Pt b6988 0), (2, Pt b6988 0), (1, Pt b6988 0), (0, Pt b6988 0)]) hst (by kernel_rfl) (pkr z z (fun w hst => x_load z isAgg70 (hst.bc1 z)) (pkr z z (fun w hst => x_field z underlying72 z sizeOf70 z) (pkr z z (fun w hst => z) (pkr z z (fun w hst => x_load z isAgg59 (hst.bc8 z)) (pkr z z (fun w hst => z) (pkr z z (fun w hst => x_load z isAgg70 (hst.bc1 z)) (pkr z z (fun w hst => x_field z underlying72 z sizeOf70 z) (pkr z z (fun w hst => z) (pkr z z (fun w hst => x_load z isAgg59 (hst.bc8 z)) (pkr z z (fun w hst => x_load z isAgg59 (hst.bc8 z)) (pkr z z (fun w hst => x_load z isAgg59 (hst.bc8 z)) pk_nil))))))))))) ?_
 refine ws_e1 7 (by kernel_rfl) ?_
 refine nxe [8, 15, 16, 17, 18, 19, 20, 21] (by kernel_rfl) z z ?_
 clear hst
 intro w hst
 replace hst := hst.pull9
 obtain ⟨I7066, hI7067, f7068, hst⟩ := hst.own_fix
 replace f0_0 := f0_0.mono (rd_le hI7067)
 replace f7059 := f7059.mono (ro_le hI7067)
 replace hI0 := hI0.trans hI7067
 replace hL7127 := hL7127.trans hI7067
 replace hL6667 := hL6667.trans hI7067
 replace hL7093 := hL7093.trans hI7067
 obtain ⟨b7069, w7070, ew7071, eb7072, hst⟩ := hst.lits (E := (tySl (tyInt .i64))) (xs := [z6979]) [[v6978]] 69 1 z (Reps.cons ⟨_, z, f7068, one_of_sliceV (ro_sliceV f7068)⟩ Reps.nil)
 refine we_run (v := (.slice (some ⟨b7069, 0, none⟩) 1 1)) (w' := w7070) z (x_als (by obtain ⟨_, _, hv_, _⟩ := (ro_sliceV f7068); rw [hv_]; kernel_rfl) ew7071 eb7072) ?_
 refine ws_next (pend' := [(12, v6995), (11, Pt b6988 3), (10, Pt b6988 0), (9, Pt b6988 0), (5, v6993), (4, Pt b6988 2), (3, Pt b6988 0), (2, Pt b6988 0), (1, Pt b6988 0), (0, Pt b6988 0)]) hst (by kernel_rfl) (pkr z z (fun w hst => x_load z isAgg70 (hst.bc2 z)) (pkr z z (fun w hst => x_field z underlying72 z sizeOf70 z) (pkr z z (fun w hst => z) (pkr z z (fun w hst => x_load z isAgg59 (hst.bc9 z)) (pkr z z (fun w hst => x_load z isAgg70 (hst.bc2 z)) (pkr z z (fun w hst => x_field z underlying72 z sizeOf70 z) (pkr z z (fun w hst => z) (pkr z z (fun w hst => x_load z isAgg59 (hst.bc9 z)) (pkr z z (fun w hst => x_load z isAgg59 (hst.bc9 z)) (pkr z z (fun w hst => x_load z isAgg59 (hst.bc9 z)) pk_nil)))))))))) ?_
 refine ws_e1 8 (by kernel_rfl) ?_
 refine nxe [15, 16, 17, 18, 19, 20, 21] (by kernel_rfl) z z ?_
 clear hst
 intro w hst
 obtain ⟨hg7074, hm⟩ := gd_some hm
 replace hst := hst.pull5
 obtain ⟨v7075, w7076, hr7077, hst⟩ := run_append elem_70 underlying70 hst hst.src1 (room_of hg7074 z) 70
 refine we_run (v := v7075) (w' := w7076) z (x_append z z hr7077) ?_
 refine ws_next (pend' := [(12, v6995), (11, Pt b6988 3), (10, Pt b6988 0), (9, Pt b6988 0), (1, Pt b6988 0), (0, Pt b6988 0)]) hst (by kernel_rfl) (pkr z z (fun w hst => x_load z isAgg70 (hst.bc3 z)) (pkr z z (fun w hst => x_field z underlying72 z sizeOf70 z) (pkr z z (fun w hst => z) (pkr z z (fun w hst => x_load z isAgg59 (hst.bc9 z)) (pkr z z (fun w hst => x_load z isAgg59 (hst.bc9 z)) (pkr z z (fun w hst => x_load z isAgg59 (hst.bc9 z)) pk_nil)))))) ?_
 refine ws_e1 15 (by kernel_rfl) ?_
 refine nxe [16, 17, 18, 19, 20, 21] (by kernel_rfl) z z ?_
 clear hst
 intro w hst
 obtain ⟨hg7079, hm⟩ := gd_some hm
 replace hst := hst.pull6
 obtain ⟨v7080, w7081, hr7082, hst⟩ := run_append elem_70 underlying70 hst hst.src3 (room_of hg7079 z) 70
 refine we_run (v := v7080) (w' := w7081) z (x_append z z hr7082) ?_
 refine ws_next (pend' := [(1, Pt b6988 0), (0, Pt b6988 0)]) hst (by kernel_rfl) (pkr z z (fun w hst => x_load z isAgg59 (hst.bc9 z)) (pkr z z (fun w hst => x_load z isAgg59 (hst.bc9 z)) pk_nil)) ?_
 refine wsr (Pt b6988 0) 16 z z z (by kernel_rfl) (fun w hst => z) (wsr (Pt b6988 2) 17 z z z (by kernel_rfl) (fun w hst => x_field z underlying72 z sizeOf70 z) ?_)
 refine ws_e1 18 (by kernel_rfl) ?_
 refine nxe [19, 20, 21] (by kernel_rfl) z z ?_
 clear hst
 intro w hst
 replace hst := hst.pull4
 obtain ⟨w7084, hr7085, hst⟩ := hst.boxStore1 (P := prog) (t := 70) (cs' := [v6989, v6991, v7075, v6995, v6997, v6999]) 2 v7075 (one_of_sliceV hst.sv2) sizeOf70 z z
 refine we_unit z (x_unit hr7085) ?_
 refine ws_next (pend' := [(1, Pt b6988 0)]) hst (by kernel_rfl) (pkr z z (fun w hst => x_load z isAgg59 (hst.bc9 z)) pk_nil) ?_
 refine wsr (Pt b6988 0) 19 z z z (by kernel_rfl) (fun w hst => z) (wsr (Pt b6988 3) 20 z z z (by kernel_rfl) (fun w hst => x_field z underlying72 z sizeOf70 z) ?_)
 refine ws_e1 21 (by kernel_rfl) ?_
 refine nxe [] (by kernel_rfl) z z ?_
 clear hst
 intro w hst
 obtain ⟨w7086, hr7087, hst⟩ := hst.boxStore1 (P := prog) (t := 70) (cs' := [v6989, v6991, v7075, v7080, v6997, v6999]) 3 v7080 (one_of_sliceV hst.sv1) sizeOf70 z z
 refine we_unit z (x_unit hr7087) ?_
 refine ws_next (pend' := []) hst (by kernel_rfl) pk_nil ?_
 refine ws_nil ?_
 intro w hst
 refine ⟨z, ?_⟩
 replace hst := hst.pull8.pull8.pull3.pull4.pull8.pull8.pull6
 replace hst := at_label_Lattice_close (pv := Pt b6988 0) (x := ({ up := z6661.up, down := z6661.down, join := (z6661.join ++ ([z6979])), meet := (z6661.meet ++ ([z6982])), rank := z6661.rank, all := z6661.all } : label_Lattice)) hst z
 replace hst := hst.pull3.keep2
 obtain rfl := some_inj hm
 exact ⟨_, _, hx7092, (fu 4 (.int .i64 ((a0).length : Int)) z (fu 5 (Pt b5468 0) z (fu 9 (.int .i64 z6662) z (fu 67 (.int .i64 ((a0).length : Int)) z (fu 68 (.int .i64 z6662) z z))))), hL7093, hst⟩
}
}
 {
 clear hst
 rintro _ w7094 ⟨I7088, σ7089, hm, rfl, hL7090, hst⟩
 dsimp only [label_New_j8] at hm
 replace f0_0 := f0_0.mono (rd_le hL7090)
 replace hI0 := hI0.trans hL7090
 replace hL7127 := hL7127.trans hL7090
 replace hL6667 := hL6667.trans hL7090
 refine tn ?_
 replace hst := hst.pull1
 obtain ⟨b7095, v7096, v7098, v7100, v7102, v7104, v7106, e7108, hst'⟩ := at_label_Lattice_open hst
 clear hst
 have e7108 := ptr_inj e7108
 subst e7108
 have hst := hst'
 clear hst'
 refine wp_region_St hst 11 [0, 1, 2, 3, 4, 5, 6, 7, 8, 9, 10] [0, 0, 2, 6, 14, 0, 32, 126, 255, 511, 1023] [] z (by kernel_rfl) (by kernel_rfl) Try.mixed (by kernel_rfl) ?_
 refine wsr (Pt b6988 0) 0 z z z (by kernel_rfl) (fun w hst => x_load z isAgg59 (hst.bc7 z)) (wsr (Pt b6988 0) 1 z z z (by kernel_rfl) (fun w hst => x_load z isAgg59 (hst.bc7 z)) (wsr (Pt b6988 0) 2 z z z (by kernel_rfl) (fun w hst => z) (wsr (Pt b6988 5) 3 z z z (by kernel_rfl) (fun w hst => x_field z underlying72 z sizeOf69 z) (wsr (v7106) 4 z z z (by kernel_rfl) (fun w hst => x_load z isAgg69 (hst.bc0 z)) (wsr (.int .i64 z6662) 5 z z z (by kernel_rfl) (fun w hst => z) ?_)))))
 refine ws_e1 6 (by kernel_rfl) ?_
 refine nxe [7, 8, 9, 10] (by kernel_rfl) z z ?_
 clear hst
 intro w hst
 obtain ⟨b7109, w7110, ew7111, eb7112, hst⟩ := hst.lits (E := (tyInt .i64)) (xs := [z6662]) [[I6 z6662]] 3 1 z (Reps.cons z Reps.nil)
 refine we_run (v := (.slice (some ⟨b7109, 0, none⟩) 1 1)) (w' := w7110) z (x_als (by kernel_rfl) ew7111 eb7112) ?_
 refine ws_next (pend' := [(4, v7106), (3, Pt b6988 5), (2, Pt b6988 0), (1, Pt b6988 0), (0, Pt b6988 0)]) hst (by kernel_rfl) (pkr z z (fun w hst => x_load z isAgg69 (hst.bc1 z)) (pkr z z (fun w hst => x_field z underlying72 z sizeOf69 z) (pkr z z (fun w hst => z) (pkr z z (fun w hst => x_load z isAgg59 (hst.bc8 z)) (pkr z z (fun w hst => x_load z isAgg59 (hst.bc8 z)) pk_nil))))) ?_
 refine ws_e1 7 (by kernel_rfl) ?_
 refine nxe [8, 9, 10] (by kernel_rfl) z z ?_
 clear hst
 intro w hst
 obtain ⟨hg7114, hm⟩ := gd_some hm
 replace hst := hst.pull7
 obtain ⟨v7115, w7116, hr7117, hst⟩ := run_append elem_69 underlying69 hst hst.src1 (room_of hg7114 z) 69
 refine we_run (v := v7115) (w' := w7116) z (x_append z z hr7117) ?_
 refine ws_next (pend' := [(0, Pt b6988 0)]) hst (by kernel_rfl) (pkr z z (fun w hst => x_load z isAgg59 (hst.bc8 z)) pk_nil) ?_
 refine wsr (Pt b6988 0) 8 z z z (by kernel_rfl) (fun w hst => z) (wsr (Pt b6988 5) 9 z z z (by kernel_rfl) (fun w hst => x_field z underlying72 z sizeOf69 z) ?_)
 refine ws_e1 10 (by kernel_rfl) ?_
 refine nxe [] (by kernel_rfl) z z ?_
 clear hst
 intro w hst
 replace hst := hst.pull2
 obtain ⟨w7119, hr7120, hst⟩ := hst.boxStore1 (P := prog) (t := 69) (cs' := [v7096, v7098, v7100, v7102, v7104, v7115]) 5 v7115 (one_of_sliceV hst.sv1) sizeOf69 z z
 refine we_unit z (x_unit hr7120) ?_
 refine ws_next (pend' := []) hst (by kernel_rfl) pk_nil ?_
 refine ws_nil ?_
 intro w hst
 refine blk_n (tn (wrl ?_))
 refine wv (.int .i64 (i64.wrap (z6662 + (1:Int)))) z z z (wv (.int .i64 (i64.wrap (z6662 + (1:Int)))) z z z (wl_nil (tn ?_)))
 replace hst := hst.pull1.pull7.pull7.pull7.pull7.pull7.pull6
 replace hst := at_label_Lattice_close (pv := Pt b6988 0) (x := ({ up := ({ up := z6661.up, down := z6661.down, join := (z6661.join ++ ([z6979])), meet := (z6661.meet ++ ([z6982])), rank := z6661.rank, all := z6661.all } : label_Lattice).up, down := ({ up := z6661.up, down := z6661.down, join := (z6661.join ++ ([z6979])), meet := (z6661.meet ++ ([z6982])), rank := z6661.rank, all := z6661.all } : label_Lattice).down, join := ({ up := z6661.up, down := z6661.down, join := (z6661.join ++ ([z6979])), meet := (z6661.meet ++ ([z6982])), rank := z6661.rank, all := z6661.all } : label_Lattice).join, meet := ({ up := z6661.up, down := z6661.down, join := (z6661.join ++ ([z6979])), meet := (z6661.meet ++ ([z6982])), rank := z6661.rank, all := z6661.all } : label_Lattice).meet, rank := ({ up := z6661.up, down := z6661.down, join := (z6661.join ++ ([z6979])), meet := (z6661.meet ++ ([z6982])), rank := z6661.rank, all := z6661.all } : label_Lattice).rank, all := ((({ up := z6661.up, down := z6661.down, join := (z6661.join ++ ([z6979])), meet := (z6661.meet ++ ([z6982])), rank := z6661.rank, all := z6661.all } : label_Lattice).all) ++ ([z6662])) } : label_Lattice)) hst z
 replace hst := hst.pull2.keep2
 obtain rfl := some_inj hm
 exact ⟨_, Nat.lt_succ_self _, _, ({ up := ({ up := z6661.up, down := z6661.down, join := (z6661.join ++ ([z6979])), meet := (z6661.meet ++ ([z6982])), rank := z6661.rank, all := z6661.all } : label_Lattice).up, down := ({ up := z6661.up, down := z6661.down, join := (z6661.join ++ ([z6979])), meet := (z6661.meet ++ ([z6982])), rank := z6661.rank, all := z6661.all } : label_Lattice).down, join := ({ up := z6661.up, down := z6661.down, join := (z6661.join ++ ([z6979])), meet := (z6661.meet ++ ([z6982])), rank := z6661.rank, all := z6661.all } : label_Lattice).join, meet := ({ up := z6661.up, down := z6661.down, join := (z6661.join ++ ([z6979])), meet := (z6661.meet ++ ([z6982])), rank := z6661.rank, all := z6661.all } : label_Lattice).meet, rank := ({ up := z6661.up, down := z6661.down, join := (z6661.join ++ ([z6979])), meet := (z6661.meet ++ ([z6982])), rank := z6661.rank, all := z6661.all } : label_Lattice).rank, all := ((({ up := z6661.up, down := z6661.down, join := (z6661.join ++ ([z6979])), meet := (z6661.meet ++ ([z6982])), rank := z6661.rank, all := z6661.all } : label_Lattice).all) ++ ([z6662])) } : label_Lattice), (i64.wrap (z6662 + (1:Int))), _, hx6670, (fu 4 (.int .i64 ((a0).length : Int)) z (fu 5 (Pt b5468 0) z (fu 67 (.int .i64 ((a0).length : Int)) z (fu 68 (.int .i64 (i64.wrap (z6662 + (1:Int)))) z z)))), hL6667, hst⟩
}
}
}
 {
 replace hm := bif_f hc6672 hm
 refine wp_iff (cvb hc6672) ?_
 refine wp_exit (then_x (then_x ?_))
 replace hm := inr_up hm hx6670
 refine blk_x (tn ?_)
 replace hst := hst.pull1.pull1.keep2
 obtain rfl := some_inj hm
 exact ⟨_, z6661, _, hx7126, (fu 5 (Pt b5468 0) z z), hL7127, hst⟩
}
}
 {
 clear hst
 rintro _ w7128 ⟨I7122, z7121, σ7123, hm, rfl, hL7124, hst⟩
 dsimp only [label_New_j4] at hm
 replace f0_0 := f0_0.mono (rd_le hL7124)
 replace hI0 := hI0.trans hL7124
 refine wp_seq (wrl (wv (v5470) z z (x_load z isAgg59 (hst.bc0 z)) ?_))
 replace hst := hst.pull1
 obtain ⟨b7129, v7130, v7132, v7134, v7136, v7138, v7140, rfl, hst'⟩ := at_label_Lattice_open hst
 clear hst
 have hst := hst'
 clear hst'
 refine wv (Pt b7129 0) z z z (wv (Pt b7129 5) z z (x_field z underlying72 z sizeOf69 z) (wv (v7140) z z (x_load z isAgg69 (hst.bc0 z)) (wv (.func (.func 28) #[] #[Pt b5468 0]) z z (by kernel_rfl) ?_)))
 obtain ⟨y9438, hq9439, hm⟩ := bind_some hm
 refine wl_call z z (x_callv call27 (caps := []) z (vs := [v7140, .func (.func 28) #[] #[Pt b5468 0]]) z) ?_
 refine Calls.mono (show Calls prog 27 #[v7140, .func (.func 28) #[] #[Pt b5468 0]] _ (fun e w' => ∃ (z9436 : (List Int)), z9436 = y9438 ∧ e = .returned (.tuple #[]) ∧ St w0 w' I7122 [cells b5468 [Pt b7129 0], cells b7129 [v7130, v7132, v7134, v7136, v7138, v7140], ownS (tyInt .u64) v7130 z7121.up, ownS (tyInt .u64) v7132 z7121.down, ownS (tySl (tyInt .i64)) v7134 z7121.join, ownS (tySl (tyInt .i64)) v7136 z7121.meet, ownS (tyInt .i64) v7138 z7121.rank, ownS (tyInt .i64) v7140 z9436] R) from ?_) ?_
 {
 clear hm; have hm := hq9439
 refine calls_start (args := [v7140, .func (.func 28) #[] #[Pt b5468 0]]) func27 z ntmps27 (Nat.le_of_ble_eq_true z) ?_
 refine wrl (wv (v7140) z z z (wv (v7140) z z z (wv (.int .i64 ((z7121.all).length : Int)) z z (x_len z underlying69 hst.sv6) (wv (.func (.func 28) #[] #[Pt b5468 0]) z z z ?_))))
 obtain ⟨y9433, hq9434, hm⟩ := bind_some hm
 refine wl_call z z (x_callv call36 (caps := []) z (vs := [v7140, I6 ((z7121.all).length : Int), .func (.func 28) #[] #[Pt b5468 0]]) z) ?_
 refine Calls.mono (show Calls prog 36 #[v7140, I6 ((z7121.all).length : Int), .func (.func 28) #[] #[Pt b5468 0]] _ (fun e w' => ∃ (z9431 : (List Int)), z9431 = y9433 ∧ e = .returned (.tuple #[]) ∧ St w0 w' I7122 [cells b5468 [Pt b7129 0], cells b7129 [v7130, v7132, v7134, v7136, v7138, v7140], ownS (tyInt .u64) v7130 z7121.up, ownS (tyInt .u64) v7132 z7121.down, ownS (tySl (tyInt .i64)) v7134 z7121.join, ownS (tySl (tyInt .i64)) v7136 z7121.meet, ownS (tyInt .i64) v7138 z7121.rank, ownS (tyInt .i64) v7140 z9431] R) from ?_) ?_
 {
 clear hm; have hm := hq9434
 refine calls_start (args := [v7140, I6 ((z7121.all).length : Int), .func (.func 28) #[] #[Pt b5468 0]]) func36 z ntmps36 (Nat.le_of_ble_eq_true z) ?_
 refine wp_seq (wrl (wv (.int .i64 (20:Int)) z z z (wl_nil (tn (wp_seq (wrl (wv (.int .i64 (20:Int)) z z z (wv (.int .i64 (0:Int)) z z z (wv (.int .i64 (20:Int)) z z z (wl_nil (tn ?_)))))))))))
 obtain ⟨y8816, hm, hx8817⟩ := bind_some hm
 refine wp_cut (fun a w => ∃ (z8812 : (List Int)) (z8813 : Int) (σ8814 : Nat → Value), (label_New_j9 z7121) (z8812, z8813) = some y9433 ∧ a = Fr 63 (upd (upd (upd (upd (upd σ8814 0 (v7140)) 1 (.int .i64 ((z7121.all).length : Int))) 2 (.func (.func 28) #[] #[Pt b5468 0])) 6 (.int .i64 (20:Int))) 7 (.int .i64 z8813)) ∧ St w0 w I7122 [ownS (tyInt .i64) v7140 z8812, cells b5468 [Pt b7129 0], cells b7129 [v7130, v7132, v7134, v7136, v7138, v7140], ownS (tyInt .u64) v7130 z7121.up, ownS (tyInt .u64) v7132 z7121.down, ownS (tySl (tyInt .i64)) v7134 z7121.join, ownS (tySl (tyInt .i64)) v7136 z7121.meet, ownS (tyInt .i64) v7138 z7121.rank] R) ?_ ?_
 {
 refine wp_block ?_
 obtain ⟨n8253, hm⟩ := loopO_some hm
 refine wp_loop_n (fun n a w => ∃ (z8249 : Int) (z8250 : Int) (z8251 : (List Int)) (σ8252 : Nat → Value), loopN (label_New_l10 z7121) n (z8249, z8250, z8251) = some y8816 ∧ a = Fr 63 (upd (upd (upd (upd (upd (upd σ8252 0 (v7140)) 1 (.int .i64 ((z7121.all).length : Int))) 2 (.func (.func 28) #[] #[Pt b5468 0])) 6 (.int .i64 (20:Int))) 7 (.int .i64 z8249)) 8 (.int .i64 z8250)) ∧ St w0 w I7122 [cells b7129 [v7130, v7132, v7134, v7136, v7138, v7140], ownS (tyInt .u64) v7130 z7121.up, ownS (tyInt .u64) v7132 z7121.down, ownS (tySl (tyInt .i64)) v7134 z7121.join, ownS (tySl (tyInt .i64)) v7136 z7121.meet, ownS (tyInt .i64) v7138 z7121.rank, ownS (tyInt .i64) v7140 z8251, cells b5468 [Pt b7129 0]] R) n8253 ⟨(0:Int), (20:Int), z7121.all, _, hm, (fu 0 v7140 z (fu 1 (.int .i64 ((z7121.all).length : Int)) z (fu 2 (.func (.func 28) #[] #[Pt b5468 0]) z (fu 6 (.int .i64 (20:Int)) z (fu 7 (.int .i64 (0:Int)) z (fu 8 (.int .i64 (20:Int)) z z)))))), hst⟩ ?_
 rintro n8259 _ w8254 ⟨z8249, z8250, z8251, σ8252, hm, rfl, hst⟩
 obtain ⟨n8256, y8257, rfl, hm, hx8258⟩ := loopN_some hm
 dsimp only [label_New_l10] at hm
 refine wp_seq (wp_seq (wrl (wv (.int .i64 z8250) z z z (wv (.int .i64 ((z7121.all).length : Int)) z z z (wv (.bool (decide (z8250 ≤ ((z7121.all).length : Int)))) z z z (wl_nil (tn ?_)))))))
 refine bsplit (decide (z8250 ≤ ((z7121.all).length : Int))) (fun hc8260 => ?_) (fun hc8260 => ?_)
 {
 replace hm := bif_t hc8260 hm
 refine wp_ift (cvb hc8260) ?_
 refine wp_skip (tn (wp_block (wp_seq (wrl ?_))))
 refine wv (v7140) z z z (wv (.int .i64 z8249) z z z (wv (.int .i64 z8250) z z z (wv (.func (.func 28) #[] #[Pt b5468 0]) z z z ?_)))
 obtain ⟨y8809, hq8810, hm⟩ := bind_some hm
 refine wl_call z z (x_callv call41 (caps := []) z (vs := [v7140, I6 z8249, I6 z8250, .func (.func 28) #[] #[Pt b5468 0]]) z) ?_
 refine Calls.mono (show Calls prog 41 #[v7140, I6 z8249, I6 z8250, .func (.func 28) #[] #[Pt b5468 0]] _ (fun e w' => ∃ (z8807 : (List Int)), z8807 = y8809 ∧ e = .returned (.tuple #[]) ∧ St w0 w' I7122 [cells b5468 [Pt b7129 0], cells b7129 [v7130, v7132, v7134, v7136, v7138, v7140], ownS (tyInt .u64) v7130 z7121.up, ownS (tyInt .u64) v7132 z7121.down, ownS (tySl (tyInt .i64)) v7134 z7121.join, ownS (tySl (tyInt .i64)) v7136 z7121.meet, ownS (tyInt .i64) v7138 z7121.rank, ownS (tyInt .i64) v7140 z8807] R) from ?_) ?_
 {
 clear hm; have hm := hq8810
 refine calls_start (args := [v7140, I6 z8249, I6 z8250, .func (.func 28) #[] #[Pt b5468 0]]) func41 z ntmps41 (Nat.le_of_ble_eq_true z) ?_
 refine wp_seq (wrl (wv (.int .i64 z8249) z z z (wv (.int .i64 (i64.wrap (z8249 + (1:Int)))) z z z (wv (.int .i64 (i64.wrap (z8249 + (1:Int)))) z z z (wl_nil (tn (wp_block ?_)))))))
 obtain ⟨n8622, hm⟩ := loopO_some hm
 refine wp_loop_n (fun n a w => ∃ (z8619 : Int) (z8620 : (List Int)) (σ8621 : Nat → Value), loopN (label_New_l11 z8250 z8249 z7121) n (z8619, z8620) = some y8809 ∧ a = Fr 53 (upd (upd (upd (upd (upd σ8621 0 (v7140)) 1 (.int .i64 z8249)) 2 (.int .i64 z8250)) 3 (.func (.func 28) #[] #[Pt b5468 0])) 8 (.int .i64 z8619)) ∧ St w0 w I7122 [cells b7129 [v7130, v7132, v7134, v7136, v7138, v7140], ownS (tyInt .u64) v7130 z7121.up, ownS (tyInt .u64) v7132 z7121.down, ownS (tySl (tyInt .i64)) v7134 z7121.join, ownS (tySl (tyInt .i64)) v7136 z7121.meet, ownS (tyInt .i64) v7138 z7121.rank, ownS (tyInt .i64) v7140 z8620, cells b5468 [Pt b7129 0]] R) n8622 ⟨(i64.wrap (z8249 + (1:Int))), z8251, _, hm, (fu 0 v7140 z (fu 1 (.int .i64 z8249) z (fu 2 (.int .i64 z8250) z (fu 3 (.func (.func 28) #[] #[Pt b5468 0]) z (fu 8 (.int .i64 (i64.wrap (z8249 + (1:Int)))) z z))))), hst⟩ ?_
 rintro n8628 _ w8623 ⟨z8619, z8620, σ8621, hm, rfl, hst⟩
 obtain ⟨n8625, y8626, rfl, hm, hx8627⟩ := loopN_some hm
 dsimp only [label_New_l11] at hm
 refine wp_seq (wp_seq (wrl (wv (.int .i64 z8619) z z z (wv (.int .i64 z8250) z z z (wv (.bool (decide (z8619 < z8250))) z z z (wl_nil (tn ?_)))))))
 refine bsplit (decide (z8619 < z8250)) (fun hc8629 => ?_) (fun hc8629 => ?_)
 {
 replace hm := bif_t hc8629 hm
 refine wp_ift (cvb hc8629) ?_
 refine wp_skip (tn (wp_seq (wp_block (wp_seq (wrl ?_)))))
 refine wv (.int .i64 z8619) z z z (wv (.int .i64 z8619) z z z (wl_nil (tn (wp_block ?_))))
 obtain ⟨n8745, hm⟩ := loopO_some hm
 refine wp_loop_n (fun n a w => ∃ (z8742 : Int) (z8743 : (List Int)) (σ8744 : Nat → Value), loopN (label_New_l12 z8249 z7121 z8619) n (z8742, z8743) = some y8626 ∧ a = Fr 53 (upd (upd (upd (upd (upd (upd σ8744 0 (v7140)) 1 (.int .i64 z8249)) 2 (.int .i64 z8250)) 3 (.func (.func 28) #[] #[Pt b5468 0])) 8 (.int .i64 z8619)) 9 (.int .i64 z8742)) ∧ St w0 w I7122 [cells b7129 [v7130, v7132, v7134, v7136, v7138, v7140], ownS (tyInt .u64) v7130 z7121.up, ownS (tyInt .u64) v7132 z7121.down, ownS (tySl (tyInt .i64)) v7134 z7121.join, ownS (tySl (tyInt .i64)) v7136 z7121.meet, ownS (tyInt .i64) v7138 z7121.rank, ownS (tyInt .i64) v7140 z8743, cells b5468 [Pt b7129 0]] R) n8745 ⟨z8619, z8620, _, hm, (fu 0 v7140 z (fu 1 (.int .i64 z8249) z (fu 2 (.int .i64 z8250) z (fu 3 (.func (.func 28) #[] #[Pt b5468 0]) z (fu 8 (.int .i64 z8619) z (fu 9 (.int .i64 z8619) z z)))))), hst⟩ ?_
 rintro n8751 _ w8746 ⟨z8742, z8743, σ8744, hm, rfl, hst⟩
 obtain ⟨n8748, y8749, rfl, hm, hx8750⟩ := loopN_some hm
 dsimp only [label_New_l12] at hm
 refine wp_seq (wp_seq ?_)
 refine wp_region_St hst 17 [0, 1, 2, 3, 4, 5, 6, 7, 8, 9, 10, 11, 12, 13, 14, 15, 16] [0, 0, 3, 7, 15, 15, 15, 111, 239, 15, 15, 1039, 3599, 7695, 16383, 32767, 65535] [] z (by kernel_rfl) (by kernel_rfl) Try.mixed (by kernel_rfl) ?_
 refine wsr (.int .i64 z8742) 0 z z z (by kernel_rfl) (fun w hst => z) (wsr (.int .i64 z8249) 1 z z z (by kernel_rfl) (fun w hst => z) (wsr (.bool (decide (z8742 > z8249))) 2 z z z (by kernel_rfl) (fun w hst => z) (wsr (.bool (decide (z8742 > z8249))) 3 z z z (by kernel_rfl) (fun w hst => z) ?_)))
 refine bsplit (decide (z8742 > z8249)) (fun hc8752 => ?_) (fun hc8752 => ?_)
 {
 replace hm := bif_t hc8752 hm
 refine ws_q (v := .func (.func 28) #[] #[Pt b5468 0]) 4 [5, 6, 7, 8, 9, 10, 11, 12, 13, 14, 15, 16] (by kernel_rfl) z z (yi_run ((wanted_eq z z z (cvb hc8752)).trans z) (fun w hst => z)) (ws_q (v := v7140) 5 [6, 7, 8, 9, 10, 11, 12, 13, 14, 15, 16] (by kernel_rfl) z z (yi_run ((wanted_eq z z z (cvb hc8752)).trans z) (fun w hst => z)) (ws_q (v := .int .i64 z8742) 6 [7, 8, 9, 10, 11, 12, 13, 14, 15, 16] (by kernel_rfl) z z (yi_run ((wanted_eq z z z (cvb hc8752)).trans z) (fun w hst => z)) ?_))
 obtain ⟨x8753, hx8754, hm⟩ := bind_some hm
 obtain ⟨h8755, h8756, hi8757⟩ := geto_some hx8754
 refine ws_q (v := .pointer (some (eAddr v7140 (z8742.toNat * 1 + 0)))) 7 [8, 9, 10, 11, 12, 13, 14, 15, 16] (by kernel_rfl) z z (yi_run ((wanted_eq z z z (cvb hc8752)).trans z) (fun w hst => x_index z z underlying69 sizeOf3 hst.sv6 h8755 h8756)) (ws_q (v := .int .i64 x8753) 8 [9, 10, 11, 12, 13, 14, 15, 16] (by kernel_rfl) z z (yi_run ((wanted_eq z z z (cvb hc8752)).trans z) (fun w hst => x_load z isAgg3 (hst.ol6 hi8757 (by rintro _ rfl; rfl)))) (ws_q (v := v7140) 9 [10, 11, 12, 13, 14, 15, 16] (by kernel_rfl) z z (yi_run ((wanted_eq z z z (cvb hc8752)).trans z) (fun w hst => z)) (ws_q (v := .int .i64 z8742) 10 [11, 12, 13, 14, 15, 16] (by kernel_rfl) z z (yi_run ((wanted_eq z z z (cvb hc8752)).trans z) (fun w hst => z)) (ws_q (v := .int .i64 (i64.wrap (z8742 - (1:Int)))) 11 [12, 13, 14, 15, 16] (by kernel_rfl) z z (yi_run ((wanted_eq z z z (cvb hc8752)).trans z) (fun w hst => z)) ?_))))
 obtain ⟨x8758, hx8759, hm⟩ := bind_some hm
 obtain ⟨h8760, h8761, hi8762⟩ := geto_some hx8759
 refine ws_q (v := .pointer (some (eAddr v7140 ((i64.wrap (z8742 - (1:Int))).toNat * 1 + 0)))) 12 [13, 14, 15, 16] (by kernel_rfl) z z (yi_run ((wanted_eq z z z (cvb hc8752)).trans z) (fun w hst => x_index z z underlying69 sizeOf3 hst.sv6 h8760 h8761)) (ws_q (v := .int .i64 x8758) 13 [14, 15, 16] (by kernel_rfl) z z (yi_run ((wanted_eq z z z (cvb hc8752)).trans z) (fun w hst => x_load z isAgg3 (hst.ol6 hi8762 (by rintro _ rfl; rfl)))) ?_)
 refine ws_e1 14 (by kernel_rfl) ?_
 refine nxe [15, 16] (by kernel_rfl) z ((wanted_eq z z z (cvb hc8752)).trans z) ?_
 clear hst
 intro w hst
 obtain ⟨y8790, hq8791, hm⟩ := bind_some hm
 refine we_call z (x_callv call28 (caps := [Pt b5468 0]) z (vs := [I6 x8753, I6 x8758]) z) ?_
 refine Calls.mono (show Calls prog 28 #[I6 x8753, I6 x8758, Pt b5468 0] _ (fun e w' => ∃ (z8788 : Int), z8788 = y8790 ∧ e = .returned (.int .i64 z8788) ∧ St w0 w' I7122 [cells b5468 [Pt b7129 0], cells b7129 [v7130, v7132, v7134, v7136, v7138, v7140], ownS (tyInt .u64) v7130 z7121.up, ownS (tyInt .u64) v7132 z7121.down, ownS (tySl (tyInt .i64)) v7134 z7121.join, ownS (tySl (tyInt .i64)) v7136 z7121.meet, ownS (tyInt .i64) v7138 z7121.rank, ownS (tyInt .i64) v7140 z8743] R) from ?_) ?_
 {
 clear hm; have hm := hq8791
 refine calls_start (args := [I6 x8753, I6 x8758, Pt b5468 0]) func28 z ntmps28 (Nat.le_of_ble_eq_true z) ?_
 refine wp_seq (wrl (wv (.int .i64 (0:Int)) z z z (wl_nil (tn (wp_seq ?_)))))
 refine wp_region_St hst 18 [0, 1, 2, 3, 4, 5, 6, 7, 8, 9, 10, 11, 12, 13, 14, 15, 16, 17] [0, 1, 3, 7, 0, 31, 63, 127, 0, 256, 768, 1792, 0, 7936, 16128, 32767, 65535, 131071] [] z (by kernel_rfl) (by kernel_rfl) Try.mixed (by kernel_rfl) ?_
 refine wsr (Pt b7129 0) 0 z z z (by kernel_rfl) (fun w hst => x_load z isAgg59 (hst.bc7 z)) (wsr (Pt b7129 0) 1 z z z (by kernel_rfl) (fun w hst => z) (wsr (Pt b7129 1) 2 z z z (by kernel_rfl) (fun w hst => x_field z underlying72 z sizeOf40 z) (wsr (v7132) 3 z z z (by kernel_rfl) (fun w hst => x_load z isAgg40 (hst.bc0 z)) (wsr (.int .i64 x8753) 4 z z z (by kernel_rfl) (fun w hst => z) ?_))))
 obtain ⟨x8763, hx8764, hm⟩ := bind_some hm
 obtain ⟨h8765, h8766, hi8767⟩ := geto_some hx8764
 refine wsr (.pointer (some (eAddr v7132 (x8753.toNat * 1 + 0)))) 5 z z z (by kernel_rfl) (fun w hst => x_index z z underlying40 sizeOf66 hst.sv2 h8765 h8766) (wsr (.int .u64 x8763) 6 z z z (by kernel_rfl) (fun w hst => x_load z isAgg66 (hst.ol2 hi8767 (by rintro _ rfl; rfl))) (wsr (Pt b7129 0) 8 z z z (by kernel_rfl) (fun w hst => x_load z isAgg59 (hst.bc7 z)) (wsr (Pt b7129 0) 9 z z z (by kernel_rfl) (fun w hst => z) (wsr (Pt b7129 1) 10 z z z (by kernel_rfl) (fun w hst => x_field z underlying72 z sizeOf40 z) (wsr (v7132) 11 z z z (by kernel_rfl) (fun w hst => x_load z isAgg40 (hst.bc0 z)) (wsr (.int .i64 x8758) 12 z z z (by kernel_rfl) (fun w hst => z) ?_))))))
 obtain ⟨x8768, hx8769, hm⟩ := bind_some hm
 obtain ⟨h8770, h8771, hi8772⟩ := geto_some hx8769
 refine wsr (.pointer (some (eAddr v7132 (x8758.toNat * 1 + 0)))) 13 z z z (by kernel_rfl) (fun w hst => x_index z z underlying40 sizeOf66 hst.sv2 h8770 h8771) (wsr (.int .u64 x8768) 14 z z z (by kernel_rfl) (fun w hst => x_load z isAgg66 (hst.ol2 hi8772 (by rintro _ rfl; rfl))) ?_)
 refine ws_e1 7 (by kernel_rfl) ?_
 refine nxe [15, 16, 17] (by kernel_rfl) z z ?_
 clear hst
 intro w hst
 obtain ⟨t8773, ht8774, hm⟩ := bind_some hm
 refine wec call30 [U6 x8763] z z ?_
 refine (math_bits_OnesCount64_ref hst.to0 ht8774).mono ?_
 rintro _ w8775 ⟨rfl, hst⟩
 refine ⟨_, z, ?_⟩
 replace hst := hst.of0
 refine ws_next (pend' := [(14, U6 x8768), (13, .pointer (some (eAddr v7132 (x8758.toNat * 1 + 0)))), (12, I6 x8758), (11, v7132), (10, Pt b7129 1), (9, Pt b7129 0), (8, Pt b7129 0)]) hst (by kernel_rfl) (pkr z z (fun w hst => x_load z isAgg66 (hst.ol2 hi8772 (by rintro _ rfl; rfl))) (pkr z z (fun w hst => x_index z z underlying40 sizeOf66 hst.sv2 h8770 h8771) (pkr z z (fun w hst => z) (pkr z z (fun w hst => x_load z isAgg40 (hst.bc0 z)) (pkr z z (fun w hst => x_field z underlying72 z sizeOf40 z) (pkr z z (fun w hst => z) (pkr z z (fun w hst => x_load z isAgg59 (hst.bc7 z)) pk_nil))))))) ?_
 refine ws_e1 15 (by kernel_rfl) ?_
 refine nxe [16, 17] (by kernel_rfl) z z ?_
 clear hst
 intro w hst
 obtain ⟨t8778, ht8779, hm⟩ := bind_some hm
 refine wec call30 [U6 x8768] z z ?_
 refine (math_bits_OnesCount64_ref hst.to0 ht8779).mono ?_
 rintro _ w8780 ⟨rfl, hst⟩
 refine ⟨_, z, ?_⟩
 replace hst := hst.of0
 refine ws_next (pend' := []) hst (by kernel_rfl) pk_nil ?_
 refine ws_e1 16 (by kernel_rfl) ?_
 refine nxe [17] (by kernel_rfl) z z ?_
 clear hst
 intro w hst
 obtain ⟨t8783, ht8784, hm⟩ := bind_some hm
 refine wec call29 [I6 t8773, I6 t8778] z z ?_
 refine (cmp_Compare_int_ref hst.to0 ht8784).mono ?_
 rintro _ w8785 ⟨rfl, hst⟩
 refine ⟨_, z, ?_⟩
 replace hst := hst.of0
 refine ws_next (pend' := []) hst (by kernel_rfl) pk_nil ?_
 refine wsr (.int .i64 t8783) 17 z z z (by kernel_rfl) (fun w hst => z) ?_
 refine ws_nil ?_
 intro w hst
 refine tn (wp_ret ?_)
 refine post_ret (vs := [I6 t8783]) results28 (rvs_cons (rv_tmp z) rvs_nil) ?_
 replace hst := hst.pull6.pull6.pull6.pull6.pull6.pull6.pull6.pull7.keep8
 obtain rfl := some_inj hm
 exact ⟨t8783, z, z, hst⟩
}
 clear hst
 rintro _ w8792 ⟨z8788, rfl, rfl, hst⟩
 refine ⟨_, z, ?_⟩
 try dsimp only at hm
 refine ws_next (pend' := []) hst (by kernel_rfl) pk_nil ?_
 refine ws_q (v := .bool (decide (z8788 < (0:Int)))) 15 [16] (by kernel_rfl) z z (yi_run ((wanted_eq z z z (cvb hc8752)).trans z) (fun w hst => z)) (wsr (.bool (decide (z8788 < (0:Int)))) 16 z z z (by kernel_rfl) (fun w hst => x_pick_t hc8752 z z) ?_)
 refine ws_nil ?_
 intro w hst
 refine tn ?_
 refine bsplit (decide (z8788 < (0:Int))) (fun hc8793 => ?_) (fun hc8793 => ?_)
 {
 replace hm := bif_t hc8793 hm
 refine wp_ift (cvb hc8793) ?_
 refine wp_skip (tn (wp_seq (wp_block ?_)))
 refine wp_region_St hst 18 [0, 1, 2, 3, 4, 5, 6, 7, 8, 9, 10, 11, 12, 13, 14, 15, 16, 17] [0, 0, 0, 0, 8, 0, 0, 64, 224, 480, 0, 0, 3072, 7168, 16355, 32739, 65535, 131071] [] z (by kernel_rfl) (by kernel_rfl) Try.mixed (by kernel_rfl) ?_
 refine wsr (v7140) 0 z z z (by kernel_rfl) (fun w hst => z) (wsr (.int .i64 z8742) 1 z z z (by kernel_rfl) (fun w hst => z) (wsr (v7140) 2 z z z (by kernel_rfl) (fun w hst => z) (wsr (.int .i64 z8742) 3 z z z (by kernel_rfl) (fun w hst => z) (wsr (.int .i64 (i64.wrap (z8742 - (1:Int)))) 4 z z z (by kernel_rfl) (fun w hst => z) (wsr (v7140) 5 z z z (by kernel_rfl) (fun w hst => z) (wsr (.int .i64 z8742) 6 z z z (by kernel_rfl) (fun w hst => z) (wsr (.int .i64 (i64.wrap (z8742 - (1:Int)))) 7 z z z (by kernel_rfl) (fun w hst => z) (wsr (.pointer (some (eAddr v7140 ((i64.wrap (z8742 - (1:Int))).toNat * 1 + 0)))) 8 z z z (by kernel_rfl) (fun w hst => x_index z z underlying69 sizeOf3 hst.sv7 h8760 h8761) (wsr (.int .i64 x8758) 9 z z z (by kernel_rfl) (fun w hst => x_load z isAgg3 (hst.ol7 hi8762 (by rintro _ rfl; rfl))) (wsr (v7140) 10 z z z (by kernel_rfl) (fun w hst => z) (wsr (.int .i64 z8742) 11 z z z (by kernel_rfl) (fun w hst => z) (wsr (.pointer (some (eAddr v7140 (z8742.toNat * 1 + 0)))) 12 z z z (by kernel_rfl) (fun w hst => x_index z z underlying69 sizeOf3 hst.sv7 h8755 h8756) ?_))))))))))))
 refine wsr (.int .i64 x8753) 13 z z z (by kernel_rfl) (fun w hst => x_load z isAgg3 (hst.ol7 hi8757 (by rintro _ rfl; rfl))) (wsr (.pointer (some (eAddr v7140 (z8742.toNat * 1 + 0)))) 14 z z z (by kernel_rfl) (fun w hst => x_index z z underlying69 sizeOf3 hst.sv7 h8755 h8756) ?_)
 refine ws_e1 15 (by kernel_rfl) ?_
 refine nxe [16, 17] (by kernel_rfl) z z ?_
 clear hst
 intro w hst
 replace hst := hst.pull7
 obtain ⟨w8794, hr8795, hst⟩ := hst.own_store (P := prog) (t := 3) (y := x8758) hi8757 0 (.int .i64 x8758) sizeOf3 (Nat.le_of_ble_eq_true z) (oC z oN) (by rintro _ rfl; rfl)
 have hi8796 := set_get hi8757 x8758
 have h8797 := set_lt h8756 z8742.toNat x8758
 refine we_unit z (x_unit hr8795) ?_
 refine ws_next (pend' := [(4, I6 (i64.wrap (z8742 - (1:Int)))), (3, I6 z8742), (2, v7140)]) hst (by kernel_rfl) (pkr z z (fun w hst => z) (pkr z z (fun w hst => z) (pkr z z (fun w hst => z) pk_nil))) ?_
 obtain ⟨x8798, hx8799, hm⟩ := bind_some hm
 obtain ⟨h8800, h8801, hi8802⟩ := geto_some hx8799
 refine wsr (.pointer (some (eAddr v7140 ((i64.wrap (z8742 - (1:Int))).toNat * 1 + 0)))) 16 z z z (by kernel_rfl) (fun w hst => x_index z z underlying69 sizeOf3 hst.sv0 h8800 h8801) ?_
 refine ws_e1 17 (by kernel_rfl) ?_
 refine nxe [] (by kernel_rfl) z z ?_
 clear hst
 intro w hst
 obtain ⟨w8803, hr8804, hst⟩ := hst.own_store (P := prog) (t := 3) (y := x8753) hi8802 0 (.int .i64 x8753) sizeOf3 (Nat.le_of_ble_eq_true z) (oC z oN) (by rintro _ rfl; rfl)
 have hi8805 := set_get hi8802 x8753
 have h8806 := set_lt h8801 (i64.wrap (z8742 - (1:Int))).toNat x8753
 refine we_unit z (x_unit hr8804) ?_
 refine ws_next (pend' := []) hst (by kernel_rfl) pk_nil ?_
 refine ws_nil ?_
 intro w hst
 refine blk_n (tn (wrl ?_))
 refine wv (.int .i64 z8742) z z z (wv (.int .i64 (i64.wrap (z8742 - (1:Int)))) z z z (wv (.int .i64 (i64.wrap (z8742 - (1:Int)))) z z z (wl_nil (tn ?_))))
 replace hst := hst.pull1.pull1.pull7.pull7.pull7.pull7.pull7.pull7.keep8
 obtain rfl := some_inj hm
 exact ⟨_, Nat.lt_succ_self _, (i64.wrap (z8742 - (1:Int))), ((z8743.set z8742.toNat x8758).set (i64.wrap (z8742 - (1:Int))).toNat x8753), _, hx8750, (fu 0 v7140 z (fu 1 (.int .i64 z8249) z (fu 2 (.int .i64 z8250) z (fu 3 (.func (.func 28) #[] #[Pt b5468 0]) z (fu 8 (.int .i64 z8619) z (fu 9 (.int .i64 (i64.wrap (z8742 - (1:Int)))) z z)))))), hst⟩
}
 {
 replace hm := bif_f hc8793 hm
 refine wp_iff (cvb hc8793) ?_
 refine wp_exit (then_x (then_x ?_))
 replace hm := inr_up hm hx8750
 refine blk_x (blk_n (tn (wrl ?_)))
 refine wv (.int .i64 z8619) z z z (wv (.int .i64 (i64.wrap (z8619 + (1:Int)))) z z z (wv (.int .i64 (i64.wrap (z8619 + (1:Int)))) z z z (wl_nil (tn ?_))))
 replace hst := hst.pull7.pull7.pull7.pull7.pull7.pull7.pull7.keep8
 obtain rfl := some_inj hm
 exact ⟨_, Nat.lt_succ_self _, (i64.wrap (z8619 + (1:Int))), z8743, _, hx8627, (fu 0 v7140 z (fu 1 (.int .i64 z8249) z (fu 2 (.int .i64 z8250) z (fu 3 (.func (.func 28) #[] #[Pt b5468 0]) z (fu 8 (.int .i64 (i64.wrap (z8619 + (1:Int)))) z z))))), hst⟩
}
}
 {
 replace hm := bif_f hc8752 hm
 refine ws_q (v := undef) 4 [5, 6, 7, 8, 9, 10, 11, 12, 13, 14, 15, 16] (by kernel_rfl) z z (yi_off ((wanted_eq z z z (cvb hc8752)).trans z)) (ws_q (v := undef) 5 [6, 7, 8, 9, 10, 11, 12, 13, 14, 15, 16] (by kernel_rfl) z z (yi_off ((wanted_eq z z z (cvb hc8752)).trans z)) (ws_q (v := undef) 6 [7, 8, 9, 10, 11, 12, 13, 14, 15, 16] (by kernel_rfl) z z (yi_off ((wanted_eq z z z (cvb hc8752)).trans z)) (ws_q (v := undef) 7 [8, 9, 10, 11, 12, 13, 14, 15, 16] (by kernel_rfl) z z (yi_off ((wanted_eq z z z (cvb hc8752)).trans z)) (ws_q (v := undef) 8 [9, 10, 11, 12, 13, 14, 15, 16] (by kernel_rfl) z z (yi_off ((wanted_eq z z z (cvb hc8752)).trans z)) (ws_q (v := undef) 9 [10, 11, 12, 13, 14, 15, 16] (by kernel_rfl) z z (yi_off ((wanted_eq z z z (cvb hc8752)).trans z)) (ws_q (v := undef) 10 [11, 12, 13, 14, 15, 16] (by kernel_rfl) z z (yi_off ((wanted_eq z z z (cvb hc8752)).trans z)) (ws_q (v := undef) 11 [12, 13, 14, 15, 16] (by kernel_rfl) z z (yi_off ((wanted_eq z z z (cvb hc8752)).trans z)) (ws_q (v := undef) 12 [13, 14, 15, 16] (by kernel_rfl) z z (yi_off ((wanted_eq z z z (cvb hc8752)).trans z)) (ws_q (v := undef) 13 [14, 15, 16] (by kernel_rfl) z z (yi_off ((wanted_eq z z z (cvb hc8752)).trans z)) (ws_q (v := undef) 14 [15, 16] (by kernel_rfl) z z (yi_off ((wanted_eq z z z (cvb hc8752)).trans z)) (ws_q (v := undef) 15 [16] (by kernel_rfl) z z (yi_off ((wanted_eq z z z (cvb hc8752)).trans z)) (wsr (.bool false) 16 z z z (by kernel_rfl) (fun w hst => x_pick_f hc8752 z z) ?_))))))))))))
 refine ws_nil ?_
 intro w hst
 refine tn ?_
 refine wp_iff z ?_
 refine wp_exit (then_x (then_x ?_))
 replace hm := inr_up hm hx8750
 refine blk_x (blk_n (tn (wrl ?_)))
 refine wv (.int .i64 z8619) z z z (wv (.int .i64 (i64.wrap (z8619 + (1:Int)))) z z z (wv (.int .i64 (i64.wrap (z8619 + (1:Int)))) z z z (wl_nil (tn ?_))))
 replace hst := hst.pull7.pull7.pull7.pull7.pull7.pull7.pull7.pull7.keep8
 obtain rfl := some_inj hm
 exact ⟨_, Nat.lt_succ_self _, (i64.wrap (z8619 + (1:Int))), z8743, _, hx8627, (fu 0 v7140 z (fu 1 (.int .i64 z8249) z (fu 2 (.int .i64 z8250) z (fu 3 (.func (.func 28) #[] #[Pt b5468 0]) z (fu 8 (.int .i64 (i64.wrap (z8619 + (1:Int)))) z z))))), hst⟩
}
}
 {
 replace hm := bif_f hc8629 hm
 refine wp_iff (cvb hc8629) ?_
 refine wp_exit (then_x (then_x ?_))
 replace hm := inr_up hm hx8627
 refine blk_x ?_
 refine post_end (vs := []) results41 rvs_nil ?_
 replace hst := hst.pull6.pull6.pull6.pull6.pull6.pull6.pull6.pull7.keep8
 obtain rfl := some_inj hm
 exact ⟨z8620, z, z, hst⟩
}
}
 clear hst
 rintro _ w8811 ⟨z8807, rfl, rfl, hst⟩
 refine ⟨_, z, ?_⟩
 try dsimp only at hm
 refine wl_nil (tn (wp_seq (wrl (wv (.int .i64 z8250) z z z (wv (.int .i64 z8250) z z z (wl_nil (tn (wrl (wv (.int .i64 z8250) z z z (wv (.int .i64 (20:Int)) z z z (wv (.int .i64 (i64.wrap (z8250 + (20:Int)))) z z z (wv (.int .i64 (i64.wrap (z8250 + (20:Int)))) z z z (wl_nil (blk_n (tn ?_)))))))))))))))
 replace hst := hst.pull7.pull7.pull7.pull7.pull7.pull7.pull7.keep8
 obtain rfl := some_inj hm
 exact ⟨_, Nat.lt_succ_self _, z8250, (i64.wrap (z8250 + (20:Int))), z8807, _, hx8258, (fu 0 v7140 z (fu 1 (.int .i64 ((z7121.all).length : Int)) z (fu 2 (.func (.func 28) #[] #[Pt b5468 0]) z (fu 6 (.int .i64 (20:Int)) z (fu 7 (.int .i64 z8250) z (fu 8 (.int .i64 (i64.wrap (z8250 + (20:Int)))) z z)))))), hst⟩
}
 {
 replace hm := bif_f hc8260 hm
 refine wp_iff (cvb hc8260) ?_
 refine wp_exit (then_x (then_x ?_))
 replace hm := inr_up hm hx8258
 refine blk_x (tn ?_)
 replace hst := hst.pull5.pull5.pull5.pull5.pull5.pull5.pull7.pull7.keep8
 obtain rfl := some_inj hm
 exact ⟨z8251, z8249, _, hx8817, (fu 0 v7140 z (fu 1 (.int .i64 ((z7121.all).length : Int)) z (fu 2 (.func (.func 28) #[] #[Pt b5468 0]) z (fu 6 (.int .i64 (20:Int)) z (fu 7 (.int .i64 z8249) z z))))), hst⟩
}
}
 {
 clear hst
 rintro _ w8818 ⟨z8812, z8813, σ8814, hm, rfl, hst⟩
 dsimp only [label_New_j9] at hm
 refine wp_seq (wrl (wv (v7140) z z z (wv (.int .i64 z8813) z z z (wv (.int .i64 ((z7121.all).length : Int)) z z z (wv (.func (.func 28) #[] #[Pt b5468 0]) z z z ?_)))))
 obtain ⟨y9367, hq9368, hm⟩ := bind_some hm
 refine wl_call z z (x_callv call41 (caps := []) z (vs := [v7140, I6 z8813, I6 ((z7121.all).length : Int), .func (.func 28) #[] #[Pt b5468 0]]) z) ?_
 refine Calls.mono (show Calls prog 41 #[v7140, I6 z8813, I6 ((z7121.all).length : Int), .func (.func 28) #[] #[Pt b5468 0]] _ (fun e w' => ∃ (z9365 : (List Int)), z9365 = y9367 ∧ e = .returned (.tuple #[]) ∧ St w0 w' I7122 [cells b5468 [Pt b7129 0], cells b7129 [v7130, v7132, v7134, v7136, v7138, v7140], ownS (tyInt .u64) v7130 z7121.up, ownS (tyInt .u64) v7132 z7121.down, ownS (tySl (tyInt .i64)) v7134 z7121.join, ownS (tySl (tyInt .i64)) v7136 z7121.meet, ownS (tyInt .i64) v7138 z7121.rank, ownS (tyInt .i64) v7140 z9365] R) from ?_) ?_
 {
 clear hm; have hm := hq9368
 refine calls_start (args := [v7140, I6 z8813, I6 ((z7121.all).length : Int), .func (.func 28) #[] #[Pt b5468 0]]) func41 z ntmps41 (Nat.le_of_ble_eq_true z) ?_
 refine wp_seq (wrl (wv (.int .i64 z8813) z z z (wv (.int .i64 (i64.wrap (z8813 + (1:Int)))) z z z (wv (.int .i64 (i64.wrap (z8813 + (1:Int)))) z z z (wl_nil (tn (wp_block ?_)))))))
 obtain ⟨n9180, hm⟩ := loopO_some hm
 refine wp_loop_n (fun n a w => ∃ (z9177 : Int) (z9178 : (List Int)) (σ9179 : Nat → Value), loopN (label_New_l13 z7121 z8813) n (z9177, z9178) = some y9367 ∧ a = Fr 53 (upd (upd (upd (upd (upd σ9179 0 (v7140)) 1 (.int .i64 z8813)) 2 (.int .i64 ((z7121.all).length : Int))) 3 (.func (.func 28) #[] #[Pt b5468 0])) 8 (.int .i64 z9177)) ∧ St w0 w I7122 [ownS (tyInt .i64) v7140 z9178, cells b5468 [Pt b7129 0], cells b7129 [v7130, v7132, v7134, v7136, v7138, v7140], ownS (tyInt .u64) v7130 z7121.up, ownS (tyInt .u64) v7132 z7121.down, ownS (tySl (tyInt .i64)) v7134 z7121.join, ownS (tySl (tyInt .i64)) v7136 z7121.meet, ownS (tyInt .i64) v7138 z7121.rank] R) n9180 ⟨(i64.wrap (z8813 + (1:Int))), z8812, _, hm, (fu 0 v7140 z (fu 1 (.int .i64 z8813) z (fu 2 (.int .i64 ((z7121.all).length : Int)) z (fu 3 (.func (.func 28) #[] #[Pt b5468 0]) z (fu 8 (.int .i64 (i64.wrap (z8813 + (1:Int)))) z z))))), hst⟩ ?_
 rintro n9186 _ w9181 ⟨z9177, z9178, σ9179, hm, rfl, hst⟩
 obtain ⟨n9183, y9184, rfl, hm, hx9185⟩ := loopN_some hm
 dsimp only [label_New_l13] at hm
 refine wp_seq (wp_seq (wrl (wv (.int .i64 z9177) z z z (wv (.int .i64 ((z7121.all).length : Int)) z z z (wv (.bool (decide (z9177 < ((z7121.all).length : Int)))) z z z (wl_nil (tn ?_)))))))
 refine bsplit (decide (z9177 < ((z7121.all).length : Int))) (fun hc9187 => ?_) (fun hc9187 => ?_)
 {
 replace hm := bif_t hc9187 hm
 refine wp_ift (cvb hc9187) ?_
 refine wp_skip (tn (wp_seq (wp_block (wp_seq (wrl ?_)))))
 refine wv (.int .i64 z9177) z z z (wv (.int .i64 z9177) z z z (wl_nil (tn (wp_block ?_))))
 obtain ⟨n9303, hm⟩ := loopO_some hm
 refine wp_loop_n (fun n a w => ∃ (z9300 : Int) (z9301 : (List Int)) (σ9302 : Nat → Value), loopN (label_New_l14 z8813 z7121 z9177) n (z9300, z9301) = some y9184 ∧ a = Fr 53 (upd (upd (upd (upd (upd (upd σ9302 0 (v7140)) 1 (.int .i64 z8813)) 2 (.int .i64 ((z7121.all).length : Int))) 3 (.func (.func 28) #[] #[Pt b5468 0])) 8 (.int .i64 z9177)) 9 (.int .i64 z9300)) ∧ St w0 w I7122 [ownS (tyInt .i64) v7140 z9301, cells b5468 [Pt b7129 0], cells b7129 [v7130, v7132, v7134, v7136, v7138, v7140], ownS (tyInt .u64) v7130 z7121.up, ownS (tyInt .u64) v7132 z7121.down, ownS (tySl (tyInt .i64)) v7134 z7121.join, ownS (tySl (tyInt .i64)) v7136 z7121.meet, ownS (tyInt .i64) v7138 z7121.rank] R) n9303 ⟨z9177, z9178, _, hm, (fu 0 v7140 z (fu 1 (.int .i64 z8813) z (fu 2 (.int .i64 ((z7121.all).length : Int)) z (fu 3 (.func (.func 28) #[] #[Pt b5468 0]) z (fu 8 (.int .i64 z9177) z (fu 9 (.int .i64 z9177) z z)))))), hst⟩ ?_
 rintro n9309 _ w9304 ⟨z9300, z9301, σ9302, hm, rfl, hst⟩
 obtain ⟨n9306, y9307, rfl, hm, hx9308⟩ := loopN_some hm
 dsimp only [label_New_l14] at hm
 refine wp_seq (wp_seq ?_)
 refine wp_region_St hst 17 [0, 1, 2, 3, 4, 5, 6, 7, 8, 9, 10, 11, 12, 13, 14, 15, 16] [0, 0, 3, 7, 15, 15, 15, 111, 239, 15, 15, 1039, 3599, 7695, 16383, 32767, 65535] [] z (by kernel_rfl) (by kernel_rfl) Try.mixed (by kernel_rfl) ?_
 refine wsr (.int .i64 z9300) 0 z z z (by kernel_rfl) (fun w hst => z) (wsr (.int .i64 z8813) 1 z z z (by kernel_rfl) (fun w hst => z) (wsr (.bool (decide (z9300 > z8813))) 2 z z z (by kernel_rfl) (fun w hst => z) (wsr (.bool (decide (z9300 > z8813))) 3 z z z (by kernel_rfl) (fun w hst => z) ?_)))
 refine bsplit (decide (z9300 > z8813)) (fun hc9310 => ?_) (fun hc9310 => ?_)
 {
 replace hm := bif_t hc9310 hm
 refine ws_q (v := .func (.func 28) #[] #[Pt b5468 0]) 4 [5, 6, 7, 8, 9, 10, 11, 12, 13, 14, 15, 16] (by kernel_rfl) z z (yi_run ((wanted_eq z z z (cvb hc9310)).trans z) (fun w hst => z)) (ws_q (v := v7140) 5 [6, 7, 8, 9, 10, 11, 12, 13, 14, 15, 16] (by kernel_rfl) z z (yi_run ((wanted_eq z z z (cvb hc9310)).trans z) (fun w hst => z)) (ws_q (v := .int .i64 z9300) 6 [7, 8, 9, 10, 11, 12, 13, 14, 15, 16] (by kernel_rfl) z z (yi_run ((wanted_eq z z z (cvb hc9310)).trans z) (fun w hst => z)) ?_))
 obtain ⟨x9311, hx9312, hm⟩ := bind_some hm
 obtain ⟨h9313, h9314, hi9315⟩ := geto_some hx9312
 refine ws_q (v := .pointer (some (eAddr v7140 (z9300.toNat * 1 + 0)))) 7 [8, 9, 10, 11, 12, 13, 14, 15, 16] (by kernel_rfl) z z (yi_run ((wanted_eq z z z (cvb hc9310)).trans z) (fun w hst => x_index z z underlying69 sizeOf3 hst.sv0 h9313 h9314)) (ws_q (v := .int .i64 x9311) 8 [9, 10, 11, 12, 13, 14, 15, 16] (by kernel_rfl) z z (yi_run ((wanted_eq z z z (cvb hc9310)).trans z) (fun w hst => x_load z isAgg3 (hst.ol0 hi9315 (by rintro _ rfl; rfl)))) (ws_q (v := v7140) 9 [10, 11, 12, 13, 14, 15, 16] (by kernel_rfl) z z (yi_run ((wanted_eq z z z (cvb hc9310)).trans z) (fun w hst => z)) (ws_q (v := .int .i64 z9300) 10 [11, 12, 13, 14, 15, 16] (by kernel_rfl) z z (yi_run ((wanted_eq z z z (cvb hc9310)).trans z) (fun w hst => z)) (ws_q (v := .int .i64 (i64.wrap (z9300 - (1:Int)))) 11 [12, 13, 14, 15, 16] (by kernel_rfl) z z (yi_run ((wanted_eq z z z (cvb hc9310)).trans z) (fun w hst => z)) ?_))))
 obtain ⟨x9316, hx9317, hm⟩ := bind_some hm
 obtain ⟨h9318, h9319, hi9320⟩ := geto_some hx9317
 refine ws_q (v := .pointer (some (eAddr v7140 ((i64.wrap (z9300 - (1:Int))).toNat * 1 + 0)))) 12 [13, 14, 15, 16] (by kernel_rfl) z z (yi_run ((wanted_eq z z z (cvb hc9310)).trans z) (fun w hst => x_index z z underlying69 sizeOf3 hst.sv0 h9318 h9319)) (ws_q (v := .int .i64 x9316) 13 [14, 15, 16] (by kernel_rfl) z z (yi_run ((wanted_eq z z z (cvb hc9310)).trans z) (fun w hst => x_load z isAgg3 (hst.ol0 hi9320 (by rintro _ rfl; rfl)))) ?_)
 refine ws_e1 14 (by kernel_rfl) ?_
 refine nxe [15, 16] (by kernel_rfl) z ((wanted_eq z z z (cvb hc9310)).trans z) ?_
 clear hst
 intro w hst
 obtain ⟨y9348, hq9349, hm⟩ := bind_some hm
 refine we_call z (x_callv call28 (caps := [Pt b5468 0]) z (vs := [I6 x9311, I6 x9316]) z) ?_
 refine Calls.mono (show Calls prog 28 #[I6 x9311, I6 x9316, Pt b5468 0] _ (fun e w' => ∃ (z9346 : Int), z9346 = y9348 ∧ e = .returned (.int .i64 z9346) ∧ St w0 w' I7122 [cells b5468 [Pt b7129 0], cells b7129 [v7130, v7132, v7134, v7136, v7138, v7140], ownS (tyInt .u64) v7130 z7121.up, ownS (tyInt .u64) v7132 z7121.down, ownS (tySl (tyInt .i64)) v7134 z7121.join, ownS (tySl (tyInt .i64)) v7136 z7121.meet, ownS (tyInt .i64) v7138 z7121.rank, ownS (tyInt .i64) v7140 z9301] R) from ?_) ?_
 {
 clear hm; have hm := hq9349
 refine calls_start (args := [I6 x9311, I6 x9316, Pt b5468 0]) func28 z ntmps28 (Nat.le_of_ble_eq_true z) ?_
 refine wp_seq (wrl (wv (.int .i64 (0:Int)) z z z (wl_nil (tn (wp_seq ?_)))))
 refine wp_region_St hst 18 [0, 1, 2, 3, 4, 5, 6, 7, 8, 9, 10, 11, 12, 13, 14, 15, 16, 17] [0, 1, 3, 7, 0, 31, 63, 127, 0, 256, 768, 1792, 0, 7936, 16128, 32767, 65535, 131071] [] z (by kernel_rfl) (by kernel_rfl) Try.mixed (by kernel_rfl) ?_
 refine wsr (Pt b7129 0) 0 z z z (by kernel_rfl) (fun w hst => x_load z isAgg59 (hst.bc1 z)) (wsr (Pt b7129 0) 1 z z z (by kernel_rfl) (fun w hst => z) (wsr (Pt b7129 1) 2 z z z (by kernel_rfl) (fun w hst => x_field z underlying72 z sizeOf40 z) (wsr (v7132) 3 z z z (by kernel_rfl) (fun w hst => x_load z isAgg40 (hst.bc2 z)) (wsr (.int .i64 x9311) 4 z z z (by kernel_rfl) (fun w hst => z) ?_))))
 obtain ⟨x9321, hx9322, hm⟩ := bind_some hm
 obtain ⟨h9323, h9324, hi9325⟩ := geto_some hx9322
 refine wsr (.pointer (some (eAddr v7132 (x9311.toNat * 1 + 0)))) 5 z z z (by kernel_rfl) (fun w hst => x_index z z underlying40 sizeOf66 hst.sv4 h9323 h9324) (wsr (.int .u64 x9321) 6 z z z (by kernel_rfl) (fun w hst => x_load z isAgg66 (hst.ol4 hi9325 (by rintro _ rfl; rfl))) (wsr (Pt b7129 0) 8 z z z (by kernel_rfl) (fun w hst => x_load z isAgg59 (hst.bc1 z)) (wsr (Pt b7129 0) 9 z z z (by kernel_rfl) (fun w hst => z) (wsr (Pt b7129 1) 10 z z z (by kernel_rfl) (fun w hst => x_field z underlying72 z sizeOf40 z) (wsr (v7132) 11 z z z (by kernel_rfl) (fun w hst => x_load z isAgg40 (hst.bc2 z)) (wsr (.int .i64 x9316) 12 z z z (by kernel_rfl) (fun w hst => z) ?_))))))
 obtain ⟨x9326, hx9327, hm⟩ := bind_some hm
 obtain ⟨h9328, h9329, hi9330⟩ := geto_some hx9327
 refine wsr (.pointer (some (eAddr v7132 (x9316.toNat * 1 + 0)))) 13 z z z (by kernel_rfl) (fun w hst => x_index z z underlying40 sizeOf66 hst.sv4 h9328 h9329) (wsr (.int .u64 x9326) 14 z z z (by kernel_rfl) (fun w hst => x_load z isAgg66 (hst.ol4 hi9330 (by rintro _ rfl; rfl))) ?_)
 refine ws_e1 7 (by kernel_rfl) ?_
 refine nxe [15, 16, 17] (by kernel_rfl) z z ?_
 clear hst
 intro w hst
 obtain ⟨t9331, ht9332, hm⟩ := bind_some hm
 refine wec call30 [U6 x9321] z z ?_
 refine (math_bits_OnesCount64_ref hst.to0 ht9332).mono ?_
 rintro _ w9333 ⟨rfl, hst⟩
 refine ⟨_, z, ?_⟩
 replace hst := hst.of0
 refine ws_next (pend' := [(14, U6 x9326), (13, .pointer (some (eAddr v7132 (x9316.toNat * 1 + 0)))), (12, I6 x9316), (11, v7132), (10, Pt b7129 1), (9, Pt b7129 0), (8, Pt b7129 0)]) hst (by kernel_rfl) (pkr z z (fun w hst => x_load z isAgg66 (hst.ol4 hi9330 (by rintro _ rfl; rfl))) (pkr z z (fun w hst => x_index z z underlying40 sizeOf66 hst.sv4 h9328 h9329) (pkr z z (fun w hst => z) (pkr z z (fun w hst => x_load z isAgg40 (hst.bc2 z)) (pkr z z (fun w hst => x_field z underlying72 z sizeOf40 z) (pkr z z (fun w hst => z) (pkr z z (fun w hst => x_load z isAgg59 (hst.bc1 z)) pk_nil))))))) ?_
 refine ws_e1 15 (by kernel_rfl) ?_
 refine nxe [16, 17] (by kernel_rfl) z z ?_
 clear hst
 intro w hst
 obtain ⟨t9336, ht9337, hm⟩ := bind_some hm
 refine wec call30 [U6 x9326] z z ?_
 refine (math_bits_OnesCount64_ref hst.to0 ht9337).mono ?_
 rintro _ w9338 ⟨rfl, hst⟩
 refine ⟨_, z, ?_⟩
 replace hst := hst.of0
 refine ws_next (pend' := []) hst (by kernel_rfl) pk_nil ?_
 refine ws_e1 16 (by kernel_rfl) ?_
 refine nxe [17] (by kernel_rfl) z z ?_
 clear hst
 intro w hst
 obtain ⟨t9341, ht9342, hm⟩ := bind_some hm
 refine wec call29 [I6 t9331, I6 t9336] z z ?_
 refine (cmp_Compare_int_ref hst.to0 ht9342).mono ?_
 rintro _ w9343 ⟨rfl, hst⟩
 refine ⟨_, z, ?_⟩
 replace hst := hst.of0
 refine ws_next (pend' := []) hst (by kernel_rfl) pk_nil ?_
 refine wsr (.int .i64 t9341) 17 z z z (by kernel_rfl) (fun w hst => z) ?_
 refine ws_nil ?_
 intro w hst
 refine tn (wp_ret ?_)
 refine post_ret (vs := [I6 t9341]) results28 (rvs_cons (rv_tmp z) rvs_nil) ?_
 replace hst := hst.pull7.pull7.pull7.pull7.pull7.pull7.pull7.keep8
 obtain rfl := some_inj hm
 exact ⟨t9341, z, z, hst⟩
}
 clear hst
 rintro _ w9350 ⟨z9346, rfl, rfl, hst⟩
 refine ⟨_, z, ?_⟩
 try dsimp only at hm
 refine ws_next (pend' := []) hst (by kernel_rfl) pk_nil ?_
 refine ws_q (v := .bool (decide (z9346 < (0:Int)))) 15 [16] (by kernel_rfl) z z (yi_run ((wanted_eq z z z (cvb hc9310)).trans z) (fun w hst => z)) (wsr (.bool (decide (z9346 < (0:Int)))) 16 z z z (by kernel_rfl) (fun w hst => x_pick_t hc9310 z z) ?_)
 refine ws_nil ?_
 intro w hst
 refine tn ?_
 refine bsplit (decide (z9346 < (0:Int))) (fun hc9351 => ?_) (fun hc9351 => ?_)
 {
 replace hm := bif_t hc9351 hm
 refine wp_ift (cvb hc9351) ?_
 refine wp_skip (tn (wp_seq (wp_block ?_)))
 refine wp_region_St hst 18 [0, 1, 2, 3, 4, 5, 6, 7, 8, 9, 10, 11, 12, 13, 14, 15, 16, 17] [0, 0, 0, 0, 8, 0, 0, 64, 224, 480, 0, 0, 3072, 7168, 16355, 32739, 65535, 131071] [] z (by kernel_rfl) (by kernel_rfl) Try.mixed (by kernel_rfl) ?_
 refine wsr (v7140) 0 z z z (by kernel_rfl) (fun w hst => z) (wsr (.int .i64 z9300) 1 z z z (by kernel_rfl) (fun w hst => z) (wsr (v7140) 2 z z z (by kernel_rfl) (fun w hst => z) (wsr (.int .i64 z9300) 3 z z z (by kernel_rfl) (fun w hst => z) (wsr (.int .i64 (i64.wrap (z9300 - (1:Int)))) 4 z z z (by kernel_rfl) (fun w hst => z) (wsr (v7140) 5 z z z (by kernel_rfl) (fun w hst => z) (wsr (.int .i64 z9300) 6 z z z (by kernel_rfl) (fun w hst => z) (wsr (.int .i64 (i64.wrap (z9300 - (1:Int)))) 7 z z z (by kernel_rfl) (fun w hst => z) (wsr (.pointer (some (eAddr v7140 ((i64.wrap (z9300 - (1:Int))).toNat * 1 + 0)))) 8 z z z (by kernel_rfl) (fun w hst => x_index z z underlying69 sizeOf3 hst.sv7 h9318 h9319) (wsr (.int .i64 x9316) 9 z z z (by kernel_rfl) (fun w hst => x_load z isAgg3 (hst.ol7 hi9320 (by rintro _ rfl; rfl))) (wsr (v7140) 10 z z z (by kernel_rfl) (fun w hst => z) (wsr (.int .i64 z9300) 11 z z z (by kernel_rfl) (fun w hst => z) (wsr (.pointer (some (eAddr v7140 (z9300.toNat * 1 + 0)))) 12 z z z (by kernel_rfl) (fun w hst => x_index z z underlying69 sizeOf3 hst.sv7 h9313 h9314) ?_))))))))))))
 refine wsr (.int .i64 x9311) 13 z z z (by kernel_rfl) (fun w hst => x_load z isAgg3 (hst.ol7 hi9315 (by rintro _ rfl; rfl))) (wsr (.pointer (some (eAddr v7140 (z9300.toNat * 1 + 0)))) 14 z z z (by kernel_rfl) (fun w hst => x_index z z underlying69 sizeOf3 hst.sv7 h9313 h9314) ?_)
 refine ws_e1 15 (by kernel_rfl) ?_
 refine nxe [16, 17] (by kernel_rfl) z z ?_
 clear hst
 intro w hst
 replace hst := hst.pull7
 obtain ⟨w9352, hr9353, hst⟩ := hst.own_store (P := prog) (t := 3) (y := x9316) hi9315 0 (.int .i64 x9316) sizeOf3 (Nat.le_of_ble_eq_true z) (oC z oN) (by rintro _ rfl; rfl)
 have hi9354 := set_get hi9315 x9316
 have h9355 := set_lt h9314 z9300.toNat x9316
 refine we_unit z (x_unit hr9353) ?_
 refine ws_next (pend' := [(4, I6 (i64.wrap (z9300 - (1:Int)))), (3, I6 z9300), (2, v7140)]) hst (by kernel_rfl) (pkr z z (fun w hst => z) (pkr z z (fun w hst => z) (pkr z z (fun w hst => z) pk_nil))) ?_
 obtain ⟨x9356, hx9357, hm⟩ := bind_some hm
 obtain ⟨h9358, h9359, hi9360⟩ := geto_some hx9357
 refine wsr (.pointer (some (eAddr v7140 ((i64.wrap (z9300 - (1:Int))).toNat * 1 + 0)))) 16 z z z (by kernel_rfl) (fun w hst => x_index z z underlying69 sizeOf3 hst.sv0 h9358 h9359) ?_
 refine ws_e1 17 (by kernel_rfl) ?_
 refine nxe [] (by kernel_rfl) z z ?_
 clear hst
 intro w hst
 obtain ⟨w9361, hr9362, hst⟩ := hst.own_store (P := prog) (t := 3) (y := x9311) hi9360 0 (.int .i64 x9311) sizeOf3 (Nat.le_of_ble_eq_true z) (oC z oN) (by rintro _ rfl; rfl)
 have hi9363 := set_get hi9360 x9311
 have h9364 := set_lt h9359 (i64.wrap (z9300 - (1:Int))).toNat x9311
 refine we_unit z (x_unit hr9362) ?_
 refine ws_next (pend' := []) hst (by kernel_rfl) pk_nil ?_
 refine ws_nil ?_
 intro w hst
 refine blk_n (tn (wrl ?_))
 refine wv (.int .i64 z9300) z z z (wv (.int .i64 (i64.wrap (z9300 - (1:Int)))) z z z (wv (.int .i64 (i64.wrap (z9300 - (1:Int)))) z z z (wl_nil (tn ?_))))
 replace hst := hst.pull7.pull7.pull7.pull7.pull7.pull7.pull7.pull7.keep8
 obtain rfl := some_inj hm
 exact ⟨_, Nat.lt_succ_self _, (i64.wrap (z9300 - (1:Int))), ((z9301.set z9300.toNat x9316).set (i64.wrap (z9300 - (1:Int))).toNat x9311), _, hx9308, (fu 0 v7140 z (fu 1 (.int .i64 z8813) z (fu 2 (.int .i64 ((z7121.all).length : Int)) z (fu 3 (.func (.func 28) #[] #[Pt b5468 0]) z (fu 8 (.int .i64 z9177) z (fu 9 (.int .i64 (i64.wrap (z9300 - (1:Int)))) z z)))))), hst⟩
}
 {
 replace hm := bif_f hc9351 hm
 refine wp_iff (cvb hc9351) ?_
 refine wp_exit (then_x (then_x ?_))
 replace hm := inr_up hm hx9308
 refine blk_x (blk_n (tn (wrl ?_)))
 refine wv (.int .i64 z9177) z z z (wv (.int .i64 (i64.wrap (z9177 + (1:Int)))) z z z (wv (.int .i64 (i64.wrap (z9177 + (1:Int)))) z z z (wl_nil (tn ?_))))
 replace hst := hst.pull6.pull6.pull6.pull6.pull6.pull6.pull6.pull7.keep8
 obtain rfl := some_inj hm
 exact ⟨_, Nat.lt_succ_self _, (i64.wrap (z9177 + (1:Int))), z9301, _, hx9185, (fu 0 v7140 z (fu 1 (.int .i64 z8813) z (fu 2 (.int .i64 ((z7121.all).length : Int)) z (fu 3 (.func (.func 28) #[] #[Pt b5468 0]) z (fu 8 (.int .i64 (i64.wrap (z9177 + (1:Int)))) z z))))), hst⟩
}
}
 {
 replace hm := bif_f hc9310 hm
 refine ws_q (v := undef) 4 [5, 6, 7, 8, 9, 10, 11, 12, 13, 14, 15, 16] (by kernel_rfl) z z (yi_off ((wanted_eq z z z (cvb hc9310)).trans z)) (ws_q (v := undef) 5 [6, 7, 8, 9, 10, 11, 12, 13, 14, 15, 16] (by kernel_rfl) z z (yi_off ((wanted_eq z z z (cvb hc9310)).trans z)) (ws_q (v := undef) 6 [7, 8, 9, 10, 11, 12, 13, 14, 15, 16] (by kernel_rfl) z z (yi_off ((wanted_eq z z z (cvb hc9310)).trans z)) (ws_q (v := undef) 7 [8, 9, 10, 11, 12, 13, 14, 15, 16] (by kernel_rfl) z z (yi_off ((wanted_eq z z z (cvb hc9310)).trans z)) (ws_q (v := undef) 8 [9, 10, 11, 12, 13, 14, 15, 16] (by kernel_rfl) z z (yi_off ((wanted_eq z z z (cvb hc9310)).trans z)) (ws_q (v := undef) 9 [10, 11, 12, 13, 14, 15, 16] (by kernel_rfl) z z (yi_off ((wanted_eq z z z (cvb hc9310)).trans z)) (ws_q (v := undef) 10 [11, 12, 13, 14, 15, 16] (by kernel_rfl) z z (yi_off ((wanted_eq z z z (cvb hc9310)).trans z)) (ws_q (v := undef) 11 [12, 13, 14, 15, 16] (by kernel_rfl) z z (yi_off ((wanted_eq z z z (cvb hc9310)).trans z)) (ws_q (v := undef) 12 [13, 14, 15, 16] (by kernel_rfl) z z (yi_off ((wanted_eq z z z (cvb hc9310)).trans z)) (ws_q (v := undef) 13 [14, 15, 16] (by kernel_rfl) z z (yi_off ((wanted_eq z z z (cvb hc9310)).trans z)) (ws_q (v := undef) 14 [15, 16] (by kernel_rfl) z z (yi_off ((wanted_eq z z z (cvb hc9310)).trans z)) (ws_q (v := undef) 15 [16] (by kernel_rfl) z z (yi_off ((wanted_eq z z z (cvb hc9310)).trans z)) (wsr (.bool false) 16 z z z (by kernel_rfl) (fun w hst => x_pick_f hc9310 z z) ?_))))))))))))
 refine ws_nil ?_
 intro w hst
 refine tn ?_
 refine wp_iff z ?_
 refine wp_exit (then_x (then_x ?_))
 replace hm := inr_up hm hx9308
 refine blk_x (blk_n (tn (wrl ?_)))
 refine wv (.int .i64 z9177) z z z (wv (.int .i64 (i64.wrap (z9177 + (1:Int)))) z z z (wv (.int .i64 (i64.wrap (z9177 + (1:Int)))) z z z (wl_nil (tn ?_))))
 replace hst := hst.pull7.pull7.pull7.pull7.pull7.pull7.pull7.pull7.keep8
 obtain rfl := some_inj hm
 exact ⟨_, Nat.lt_succ_self _, (i64.wrap (z9177 + (1:Int))), z9301, _, hx9185, (fu 0 v7140 z (fu 1 (.int .i64 z8813) z (fu 2 (.int .i64 ((z7121.all).length : Int)) z (fu 3 (.func (.func 28) #[] #[Pt b5468 0]) z (fu 8 (.int .i64 (i64.wrap (z9177 + (1:Int)))) z z))))), hst⟩
}
}
 {
 replace hm := bif_f hc9187 hm
 refine wp_iff (cvb hc9187) ?_
 refine wp_exit (then_x (then_x ?_))
 replace hm := inr_up hm hx9185
 refine blk_x ?_
 refine post_end (vs := []) results41 rvs_nil ?_
 replace hst := hst.pull7.pull7.pull7.pull7.pull7.pull7.pull7.keep8
 obtain rfl := some_inj hm
 exact ⟨z9178, z, z, hst⟩
}
}
 clear hst
 rintro _ w9369 ⟨z9365, rfl, rfl, hst⟩
 refine ⟨_, z, ?_⟩
 try dsimp only at hm
 refine wl_nil (tn (wp_block ?_))
 obtain ⟨n9407, hm⟩ := loopO_some hm
 refine wp_loop_n (fun n a w => ∃ (z9405 : Int) (σ9406 : Nat → Value), loopN (label_New_l15 z7121 z9365) n z9405 = some y9433 ∧ a = Fr 63 (upd (upd (upd (upd σ9406 0 (v7140)) 1 (.int .i64 ((z7121.all).length : Int))) 2 (.func (.func 28) #[] #[Pt b5468 0])) 6 (.int .i64 z9405)) ∧ St w0 w I7122 [cells b5468 [Pt b7129 0], cells b7129 [v7130, v7132, v7134, v7136, v7138, v7140], ownS (tyInt .u64) v7130 z7121.up, ownS (tyInt .u64) v7132 z7121.down, ownS (tySl (tyInt .i64)) v7134 z7121.join, ownS (tySl (tyInt .i64)) v7136 z7121.meet, ownS (tyInt .i64) v7138 z7121.rank, ownS (tyInt .i64) v7140 z9365] R) n9407 ⟨(20:Int), _, hm, (fu 0 v7140 z (fu 1 (.int .i64 ((z7121.all).length : Int)) z (fu 2 (.func (.func 28) #[] #[Pt b5468 0]) z (fu 6 (.int .i64 (20:Int)) z z)))), hst⟩ ?_
 rintro n9413 _ w9408 ⟨z9405, σ9406, hm, rfl, hst⟩
 obtain ⟨n9410, y9411, rfl, hm, hx9412⟩ := loopN_some hm
 dsimp only [label_New_l15] at hm
 refine wp_seq (wp_seq (wrl (wv (.int .i64 z9405) z z z (wv (.int .i64 ((z7121.all).length : Int)) z z z (wv (.bool (decide (z9405 < ((z7121.all).length : Int)))) z z z (wl_nil (tn ?_)))))))
 refine bsplit (decide (z9405 < ((z7121.all).length : Int))) (fun hc9414 => ?_) (fun hc9414 => ?_)
 {
 replace hm := bif_t hc9414 hm
 refine wp_ift (cvb hc9414) ?_
 refine wp_skip (tn (wp_block (wp_seq (wrl ?_))))
 refine wv (.int .i64 z9405) z z z (wv (.int .i64 (i64.wrap ((2:Int) * z9405))) z z z (wv (.int .i64 (0:Int)) z z z (wv (.int .i64 (i64.wrap ((2:Int) * z9405))) z z z (wl_nil (tn ?_)))))
 obtain ⟨y9427, hm, hx9428⟩ := bind_some hm
 refine wp_cut (fun a w => ∃ (σ9425 : Nat → Value), (label_New_j16 z9405 z7121) () = some y9411 ∧ a = Fr 63 (upd (upd (upd (upd (upd σ9425 0 (v7140)) 1 (.int .i64 ((z7121.all).length : Int))) 2 (.func (.func 28) #[] #[Pt b5468 0])) 6 (.int .i64 z9405)) 7 (.int .i64 (0:Int))) ∧ St w0 w I7122 [ownS (tyInt .i64) v7140 z9365, cells b5468 [Pt b7129 0], cells b7129 [v7130, v7132, v7134, v7136, v7138, v7140], ownS (tyInt .u64) v7130 z7121.up, ownS (tyInt .u64) v7132 z7121.down, ownS (tySl (tyInt .i64)) v7134 z7121.join, ownS (tySl (tyInt .i64)) v7136 z7121.meet, ownS (tyInt .i64) v7138 z7121.rank] R) ?_ ?_
 {
 refine wp_block ?_
 obtain ⟨n9417, hm⟩ := loopO_some hm
 refine wp_loop_n (fun n a w => ∃ (σ9416 : Nat → Value), loopN (label_New_l17 z9405 z7121) n () = some y9427 ∧ a = Fr 63 (upd (upd (upd (upd (upd (upd σ9416 0 (v7140)) 1 (.int .i64 ((z7121.all).length : Int))) 2 (.func (.func 28) #[] #[Pt b5468 0])) 6 (.int .i64 z9405)) 7 (.int .i64 (0:Int))) 8 (.int .i64 (i64.wrap ((2:Int) * z9405)))) ∧ St w0 w I7122 [cells b5468 [Pt b7129 0], cells b7129 [v7130, v7132, v7134, v7136, v7138, v7140], ownS (tyInt .u64) v7130 z7121.up, ownS (tyInt .u64) v7132 z7121.down, ownS (tySl (tyInt .i64)) v7134 z7121.join, ownS (tySl (tyInt .i64)) v7136 z7121.meet, ownS (tyInt .i64) v7138 z7121.rank, ownS (tyInt .i64) v7140 z9365] R) n9417 ⟨_, hm, (fu 0 v7140 z (fu 1 (.int .i64 ((z7121.all).length : Int)) z (fu 2 (.func (.func 28) #[] #[Pt b5468 0]) z (fu 6 (.int .i64 z9405) z (fu 7 (.int .i64 (0:Int)) z (fu 8 (.int .i64 (i64.wrap ((2:Int) * z9405))) z z)))))), hst⟩ ?_
 rintro n9423 _ w9418 ⟨σ9416, hm, rfl, hst⟩
 obtain ⟨n9420, y9421, rfl, hm, hx9422⟩ := loopN_some hm
 dsimp only [label_New_l17] at hm
 refine wp_seq (wp_seq (wrl (wv (.int .i64 (i64.wrap ((2:Int) * z9405))) z z z (wv (.int .i64 ((z7121.all).length : Int)) z z z (wv (.bool (decide ((i64.wrap ((2:Int) * z9405)) ≤ ((z7121.all).length : Int)))) z z z (wl_nil (tn ?_)))))))
 refine bsplit (decide ((i64.wrap ((2:Int) * z9405)) ≤ ((z7121.all).length : Int))) (fun hc9424 => ?_) (fun hc9424 => ?_)
 {
 replace hm := bif_t hc9424 hm
 refine wp_ift (cvb hc9424) ?_
 refine wp_skip (tn (wp_block (wp_seq (wrl ?_))))
 refine wv (v7140) z z z (wv (.int .i64 (0:Int)) z z z (wv (.int .i64 (0:Int)) z z z (wv (.int .i64 z9405) z z z (wv (.int .i64 (i64.wrap ((0:Int) + z9405))) z z z (wv (.int .i64 (i64.wrap ((2:Int) * z9405))) z z z (wv (.func (.func 28) #[] #[Pt b5468 0]) z z z ?_))))))
 cases hm
}
 {
 replace hm := bif_f hc9424 hm
 refine wp_iff (cvb hc9424) ?_
 refine wp_exit (then_x (then_x ?_))
 replace hm := inr_up hm hx9422
 refine blk_x (tn ?_)
 replace hst := hst.pull6.pull6.pull6.pull6.pull6.pull6.pull6.pull7.keep8
 obtain rfl := some_inj hm
 exact ⟨_, hx9428, (fu 0 v7140 z (fu 1 (.int .i64 ((z7121.all).length : Int)) z (fu 2 (.func (.func 28) #[] #[Pt b5468 0]) z (fu 6 (.int .i64 z9405) z (fu 7 (.int .i64 (0:Int)) z z))))), hst⟩
}
}
 {
 clear hst
 rintro _ w9429 ⟨σ9425, hm, rfl, hst⟩
 dsimp only [label_New_j16] at hm
 refine wp_seq (wp_seq (wrl (wv (.int .i64 (0:Int)) z z z (wv (.int .i64 z9405) z z z (wv (.int .i64 (i64.wrap ((0:Int) + z9405))) z z z (wv (.int .i64 (i64.wrap ((0:Int) + z9405))) z z z (wl_nil (tn (wp_seq (wrl (wv (.int .i64 (i64.wrap ((0:Int) + z9405))) z z z (wv (.int .i64 ((z7121.all).length : Int)) z z z (wv (.bool (decide ((i64.wrap ((0:Int) + z9405)) < ((z7121.all).length : Int)))) z z z (wl_nil (tn ?_)))))))))))))))
 refine bsplit (decide ((i64.wrap ((0:Int) + z9405)) < ((z7121.all).length : Int))) (fun hc9430 => ?_) (fun hc9430 => ?_)
 {
 replace hm := bif_t hc9430 hm
 refine wp_ift (cvb hc9430) ?_
 refine wrl (wv (v7140) z z z (wv (.int .i64 (0:Int)) z z z (wv (.int .i64 (i64.wrap ((0:Int) + z9405))) z z z (wv (.int .i64 ((z7121.all).length : Int)) z z z (wv (.func (.func 28) #[] #[Pt b5468 0]) z z z ?_)))))
 cases hm
}
 {
 replace hm := bif_f hc9430 hm
 refine wp_iff (cvb hc9430) ?_
 refine wp_skip (tn (wrl ?_))
 refine wv (.int .i64 z9405) z z z (wv (.int .i64 (i64.wrap (z9405 * (2:Int)))) z z z (wv (.int .i64 (i64.wrap (z9405 * (2:Int)))) z z z (wl_nil (blk_n (tn ?_)))))
 replace hst := hst.pull7.pull7.pull7.pull7.pull7.pull7.pull7.keep8
 obtain rfl := some_inj hm
 exact ⟨_, Nat.lt_succ_self _, (i64.wrap (z9405 * (2:Int))), _, hx9412, (fu 0 v7140 z (fu 1 (.int .i64 ((z7121.all).length : Int)) z (fu 2 (.func (.func 28) #[] #[Pt b5468 0]) z (fu 6 (.int .i64 (i64.wrap (z9405 * (2:Int)))) z z)))), hst⟩
}
}
}
 {
 replace hm := bif_f hc9414 hm
 refine wp_iff (cvb hc9414) ?_
 refine wp_exit (then_x (then_x ?_))
 replace hm := inr_up hm hx9412
 refine blk_x ?_
 refine post_end (vs := []) results36 rvs_nil ?_
 replace hst := hst.pull7.pull7.pull7.pull7.pull7.pull7.pull7.pull7.keep8
 obtain rfl := some_inj hm
 exact ⟨z9365, z, z, hst⟩
}
}
}
 clear hst
 rintro _ w9435 ⟨z9431, rfl, rfl, hst⟩
 refine ⟨_, z, ?_⟩
 try dsimp only at hm
 refine wl_nil ?_
 refine post_end (vs := []) results27 rvs_nil ?_
 replace hst := hst.pull7.pull7.pull7.pull7.pull7.pull7.pull7.pull7.keep8
 obtain rfl := some_inj hm
 exact ⟨z9431, z, z, hst⟩
}
 clear hst
 rintro _ w9440 ⟨z9436, rfl, rfl, hst⟩
 refine ⟨_, z, ?_⟩
 try dsimp only at hm
 refine wl_nil (tn (wp_seq (wp_seq (wrl (wv (Pt b7129 0) z z (x_load z isAgg59 (hst.bc0 z)) (wv (Pt b7129 0) z z z (wv (Pt b7129 5) z z (x_field z underlying72 z sizeOf69 z) (wv (v7140) z z (x_load z isAgg69 (hst.bc1 z)) (wv (.int .i64 ((z9436).length : Int)) z z (x_len z underlying69 hst.sv7) (wv (.int .i64 (0:Int)) z z z (wl_nil (tn (wp_block ?_)))))))))))))
 obtain ⟨n9476, hm⟩ := loopO_some hm
 refine wp_loop_n (fun n a w => ∃ (z9473 : Int) (z9474 : (List Int)) (σ9475 : Nat → Value), loopN (label_New_l18 z9436 z7121) n (z9473, z9474) = some r ∧ a = Fr 192 (upd (upd (upd (upd σ9475 5 (Pt b5468 0)) 176 (v7140)) 177 (.int .i64 ((z9436).length : Int))) 178 (.int .i64 z9473)) ∧ St w0 w I7122 [cells b5468 [Pt b7129 0], cells b7129 [v7130, v7132, v7134, v7136, v7138, v7140], ownS (tyInt .u64) v7130 z7121.up, ownS (tyInt .u64) v7132 z7121.down, ownS (tySl (tyInt .i64)) v7134 z7121.join, ownS (tySl (tyInt .i64)) v7136 z7121.meet, ownS (tyInt .i64) v7138 z9474, ownS (tyInt .i64) v7140 z9436] R) n9476 ⟨(0:Int), z7121.rank, _, hm, (fu 5 (Pt b5468 0) z (fu 176 v7140 z (fu 177 (.int .i64 ((z9436).length : Int)) z (fu 178 (.int .i64 (0:Int)) z z)))), hst⟩ ?_
 rintro n9482 _ w9477 ⟨z9473, z9474, σ9475, hm, rfl, hst⟩
 obtain ⟨n9479, y9480, rfl, hm, hx9481⟩ := loopN_some hm
 dsimp only [label_New_l18] at hm
 refine wp_seq (wrl (wv (.bool (decide (z9473 < ((z9436).length : Int)))) z z z (wl_nil (tn (wp_seq ?_)))))
 refine bsplit (decide (z9473 < ((z9436).length : Int))) (fun hc9483 => ?_) (fun hc9483 => ?_)
 {
 replace hm := bif_t hc9483 hm
 refine wp_ift (cvb hc9483) ?_
 refine wp_skip (tn (wp_seq (wp_block (wp_seq (wrl ?_)))))
 refine wv (.int .i64 z9473) z z z ?_
 obtain ⟨x9484, hx9485, hm⟩ := bind_some hm
 obtain ⟨h9486, h9487, hi9488⟩ := geto_some hx9485
 refine wv (.pointer (some (eAddr v7140 (z9473.toNat * 1 + 0)))) z z (x_index z z underlying69 sizeOf3 hst.sv7 h9486 h9487) (wv (.int .i64 x9484) z z (x_load z isAgg3 (hst.ol7 hi9488 (by rintro _ rfl; rfl))) (wv (.int .i64 z9473) z z z (wv (.int .i64 x9484) z z z (wl_nil (tn (wrl (wv (Pt b7129 0) z z (x_load z isAgg59 (hst.bc0 z)) (wv (Pt b7129 0) z z z (wv (Pt b7129 4) z z (x_field z underlying72 z sizeOf69 z) (wv (v7138) z z (x_load z isAgg69 (hst.bc1 z)) (wv (.int .i64 x9484) z z z (wv (.int .i64 z9473) z z z ?_))))))))))))
 obtain ⟨x9489, hx9490, hm⟩ := bind_some hm
 obtain ⟨h9491, h9492, hi9493⟩ := geto_some hx9490
 refine wv (.pointer (some (eAddr v7138 (x9484.toNat * 1 + 0)))) z z (x_index z z underlying69 sizeOf3 hst.sv6 h9491 h9492) ?_
 replace hst := hst.pull6
 obtain ⟨w9494, hr9495, hst⟩ := hst.own_store (P := prog) (t := 3) (y := z9473) hi9493 0 (.int .i64 z9473) sizeOf3 (Nat.le_of_ble_eq_true z) (oC z oN) (by rintro _ rfl; rfl)
 have hi9496 := set_get hi9493 z9473
 have h9497 := set_lt h9492 x9484.toNat z9473
 refine wl_unit z z (x_unit hr9495) ?_
 refine wl_nil (blk_n (tn (wrl (wv (.int .i64 (i64.wrap (z9473 + (1:Int)))) z z z (wv (.int .i64 (i64.wrap (z9473 + (1:Int)))) z z z (wl_nil (tn ?_)))))))
 replace hst := hst.pull7.pull1.pull7.pull7.pull7.pull7.pull7.pull7.keep8
 obtain rfl := some_inj hm
 exact ⟨_, Nat.lt_succ_self _, (i64.wrap (z9473 + (1:Int))), (z9474.set x9484.toNat z9473), _, hx9481, (fu 5 (Pt b5468 0) z (fu 176 v7140 z (fu 177 (.int .i64 ((z9436).length : Int)) z (fu 178 (.int .i64 (i64.wrap (z9473 + (1:Int)))) z z)))), hst⟩
}
 {
 replace hm := bif_f hc9483 hm
 refine wp_iff (cvb hc9483) ?_
 refine wp_exit (then_x (then_x ?_))
 replace hm := inr_up hm hx9481
 refine blk_x (tn (wp_seq (wrl ?_)))
 refine wv (Pt b7129 0) z z (x_load z isAgg59 (hst.bc0 z)) (wv (Pt b7129 0) z z z (wv (.int .i64 (0:Int)) z z z (wl_nil (tn (wp_ret ?_)))))
 replace hst := hst.pull7.pull7.pull7.pull7.pull7.pull7.pull7
 replace hst := at_label_Lattice_close (pv := Pt b7129 0) (x := ({ up := z7121.up, down := z7121.down, join := z7121.join, meet := z7121.meet, rank := z9474, all := z9436 } : label_Lattice)) hst z
 replace hst := objO_some hst
 obtain rfl := some_inj hm
 refine post_ret (vs := [Pt b7129 0, Zi]) results20 (rvs_cons (rv_tmp z) (rvs_cons (rv_tmp z) rvs_nil)) ?_
 exact ⟨_, Pt b7129 0, z, hI0, hst.keep1⟩
}
}
}
}
}
}
}
}

end Go.Proofs.Ytbdbeenkamcglaa
