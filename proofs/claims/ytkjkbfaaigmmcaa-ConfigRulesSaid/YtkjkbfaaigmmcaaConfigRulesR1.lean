/- The Go functions refine their models, part 1. -/
import Derived.Test.YtkjkbfaaigmmcaaConfigRulesR0
set_option linter.unusedVariables false
set_option linter.unusedSimpArgs false
set_option maxRecDepth 100000
set_option maxHeartbeats 4000000
namespace Go.Proofs.Ytkjkbfaaigmmcaa
open Go Go.V
open _root_.Go.Proofs.Try IntKind
attribute [local irreducible] wpList Code.wp wpQuiet Calls bodyPost Oper.wp wpS Nx PendOK YieldsIn
theorem label_New_ref {w0 w : World} {I : HL} {R : SP} {a0 : (List Int)} {r0_0 : Value} (f0_0 : Rd (tyInt .u64) R I r0_0 a0) (hst : St w0 w I [] R) {r : (Option label_Lattice × Int)} (hm : label_New a0 = some r) :
  Calls prog 34 #[r0_0] w fun e w' => ∃ (I' : HL) (q0 : Value), e = .returned (.tuple #[q0, I6 r.2]) ∧ I.le I' ∧ St w0 w' I' [objO at_label_Lattice q0 r.1] R := by {
 unfold label_New at hm
 refine calls_start (args := [r0_0]) func34 z ntmps34 (Nat.le_of_ble_eq_true z) ?_
 have hI0 := HL.le.refl I
 refine wp_seq (wrl (wv (.pointer none) z z z (wv (.int .i64 (0:Int)) z z z (wl_nil (tn (wp_seq (wrl (wv (r0_0) z z z (wv (.int .i64 ((a0).length : Int)) z z (x_len z underlying25 (rd_sliceV f0_0)) (wv (.int .i64 ((a0).length : Int)) z z z (wl_nil (tn (wp_seq (wp_seq (wrl (wv (.int .i64 ((a0).length : Int)) z z z (wv (.bool (decide (((a0).length : Int) < (1:Int)))) z z z (wv (.bool (decide (((a0).length : Int) < (1:Int)))) z z z ?_))))))))))))))))))
 refine bsplit (decide (((a0).length : Int) < (1:Int))) (fun hc4779 => ?_) (fun hc4779 => ?_)
 {
 replace hm := bif_t hc4779 hm
 refine wo hc4779 z z z z z z (wo hc4779 z z z z z z (wv (.bool true) z z (x_pick_t hc4779 z z) (wl_nil (tn ?_))))
 refine wp_ift z ?_
 refine wp_seq (wrl (wv (.pointer none) z z z (wv (.int .i64 (1:Int)) z z z (wl_nil (tn (wp_ret (then_r ?_)))))))
 replace hst := hst.objO_nil at_label_Lattice
 obtain rfl := some_inj hm
 refine post_ret (vs := [.pointer none, I6 (1:Int)]) results34 (rvs_cons (rv_tmp z) (rvs_cons (rv_tmp z) rvs_nil)) ?_
 exact ⟨_, .pointer none, z, hI0, hst.keep1⟩
}
 {
 replace hm := bif_f hc4779 hm
 refine wv (.int .i64 ((a0).length : Int)) ((wanted_eq z z z (cvb hc4779)).trans z) z z (wv (.bool (decide (((a0).length : Int) > (16:Int)))) ((wanted_eq z z z (cvb hc4779)).trans z) z z (wv (.bool (decide (((a0).length : Int) > (16:Int)))) z z (x_pick_f hc4779 z z) (wl_nil (tn ?_))))
 refine bsplit (decide (((a0).length : Int) > (16:Int))) (fun hc4781 => ?_) (fun hc4781 => ?_)
 {
 replace hm := bif_t hc4781 hm
 refine wp_ift (cvb hc4781) ?_
 refine wp_seq (wrl (wv (.pointer none) z z z (wv (.int .i64 (1:Int)) z z z (wl_nil (tn (wp_ret (then_r ?_)))))))
 replace hst := hst.objO_nil at_label_Lattice
 obtain rfl := some_inj hm
 refine post_ret (vs := [.pointer none, I6 (1:Int)]) results34 (rvs_cons (rv_tmp z) (rvs_cons (rv_tmp z) rvs_nil)) ?_
 exact ⟨_, .pointer none, z, hI0, hst.keep1⟩
}
 {
 replace hm := bif_f hc4781 hm
 refine wp_iff (cvb hc4781) ?_
 refine wp_skip (tn (wp_seq ?_))
 obtain ⟨y5466, hm, hx5467⟩ := bind_some hm
 refine wp_mid (fun a w => ∃ (z5463 : label_Lattice) (b5460 : Nat) (v5462 : Value) (σ5464 : Nat → Value), (label_New_j0 a0) z5463 = some r ∧ a = Fr 192 (upd (upd (upd σ5464 0 (r0_0)) 4 (.int .i64 ((a0).length : Int))) 5 (Pt b5460 0)) ∧ St w0 w I [cells b5460 [v5462], at_label_Lattice v5462 z5463] R) ?_ ?_
 {
 refine wp_region_St hst 10 [0, 1, 2, 3, 4, 5, 6, 7, 8, 9] [0, 1, 0, 4, 0, 16, 63, 127, 0, 511] [] z (by kernel_rfl) (by kernel_rfl) Try.mixed (by kernel_rfl) ?_
 refine wsr (r0_0) 0 z z z (by kernel_rfl) (fun w hst => z) (wsr (.int .i64 ((a0).length : Int)) 2 z z z (by kernel_rfl) (fun w hst => z) (wsr (.int .i64 ((a0).length : Int)) 4 z z z (by kernel_rfl) (fun w hst => z) ?_))
 obtain ⟨t4783, ht4784, hm⟩ := bind_some hm
 obtain ⟨hg4785, hm⟩ := gd_some hm
 obtain ⟨hg4786, hm⟩ := gd_some hm
 refine ws_e4 1 3 5 8 (by kernel_rfl) ?_ ?_ ?_ ?_
 {
 refine nxe [3, 5, 6, 7, 8, 9] (by kernel_rfl) z z ?_
 clear hst
 intro w hst
 refine wec call44 [r0_0] z z ?_
 refine (slices_Clone_uint64_uint64_ref (f0_0.mono (rd_weak _)) hst.to0 ht4784).mono ?_
 rintro _ w4787 ⟨v4790, rfl, hst⟩
 refine ⟨_, z, ?_⟩
 replace hst := hst.of1
 refine ws_next (pend' := [(4, I6 ((a0).length : Int)), (2, I6 ((a0).length : Int))]) hst (by kernel_rfl) (pkr z z (fun w hst => z) (pkr z z (fun w hst => z) pk_nil)) ?_
 refine ws_e3 3 5 8 (by kernel_rfl) ?_ ?_ ?_
 {
 refine nxe [5, 6, 7, 8, 9] (by kernel_rfl) z z ?_
 clear hst
 intro w hst
 obtain ⟨v4792, w4793, hr4794, hst⟩ := run_mk (k := .i64) (k' := .i64) (zm := (0:Int)) elem_25 hst hg4785 (by decide) z
 refine we_run (v := v4792) (w' := w4793) z (x_make z z hr4794) ?_
 refine ws_next (pend' := [(4, I6 ((a0).length : Int))]) hst (by kernel_rfl) (pkr z z (fun w hst => z) pk_nil) ?_
 refine ws_e2 5 8 (by kernel_rfl) ?_ ?_
 {
 refine nxe [6, 7, 8, 9] (by kernel_rfl) z z ?_
 clear hst
 intro w hst
 obtain ⟨v4796, w4797, hr4798, hst⟩ := run_mk (k := .i64) (k' := .i64) (zm := (0:Int)) elem_46 hst hg4786 (by decide) z
 refine we_run (v := v4796) (w' := w4797) z (x_make z z hr4798) ?_
 refine ws_next (pend' := []) hst (by kernel_rfl) pk_nil ?_
 refine wsr (.agg #[v4790, v4792, Zs, Zs, v4796, Zs]) 6 rfl rfl rfl (by kernel_rfl) (fun w hst => by obtain ⟨_, _, hv_, _⟩ := hst.sv0; rw [hv_]; obtain ⟨_, _, hv_, _⟩ := hst.sv1; rw [hv_]; obtain ⟨_, _, hv_, _⟩ := hst.sv2; rw [hv_]; kernel_rfl) ?_
 refine ws_e2 7 8 (by kernel_rfl) ?_ ?_
 {
 refine nxe [8, 9] (by kernel_rfl) z z ?_
 clear hst
 intro w hst
 obtain ⟨b4806, w4807, ew4808, eb4809, hst⟩ := hst.box [v4790, v4792, Zs, Zs, v4796, Zs] 73
 refine we_run (v := Pt b4806 0) (w' := w4807) z (x_al (by kernel_rfl) ew4808 eb4809) ?_
 refine ws_next (pend' := []) hst (by kernel_rfl) pk_nil ?_
 refine ws_e1 8 (by kernel_rfl) ?_
 refine nxe [9] (by kernel_rfl) z z ?_
 clear hst
 intro w hst
 obtain ⟨b4811, w4812, ew4813, eb4814, hst⟩ := hst.box [.pointer none] 60
 refine we_run (v := Pt b4811 0) (w' := w4812) z (x_al (by kernel_rfl) ew4813 eb4814) ?_
 refine ws_next (pend' := []) hst (by kernel_rfl) pk_nil ?_
 refine ws_e1 9 (by kernel_rfl) ?_
 refine nxe [] (by kernel_rfl) z z ?_
 clear hst
 intro w hst
 obtain ⟨w4816, hr4817, hst⟩ := hst.by_ [Pt b4806 0] 0 (Pt b4806 0) sizeOf60 z (oC z oN) (by kernel_rfl)
 refine we_unit z (x_unit hr4817) ?_
 refine ws_next (pend' := []) hst (by kernel_rfl) pk_nil ?_
 refine ws_nil ?_
 intro w hst
 refine ⟨z, ?_⟩
 replace hst := hst.own_nil (tySl (tyInt .i64))
 replace hst := hst.own_nil (tySl (tyInt .i64))
 replace hst := hst.own_nil (tyInt .i64)
 replace hst := hst.pull5.pull2.pull3.pull6.pull7.pull7
 replace hst := at_label_Lattice_close (pv := Pt b4806 0) (x := ({ up := t4783, down := (List.replicate (Int.toNat ((a0).length : Int)) (0:Int)), join := [], meet := [], rank := (List.replicate (Int.toNat ((a0).length : Int)) (0:Int)), all := [] } : label_Lattice)) hst z
 replace hst := hst.pull1.keep2
 obtain rfl := some_inj hm
 exact ⟨({ up := t4783, down := (List.replicate (Int.toNat ((a0).length : Int)) (0:Int)), join := [], meet := [], rank := (List.replicate (Int.toNat ((a0).length : Int)) (0:Int)), all := [] } : label_Lattice), b4811, (Pt b4806 0), _, hx5467, (fu 0 r0_0 z (fu 4 (.int .i64 ((a0).length : Int)) z (fu 5 (Pt b4811 0) z z))), hst⟩
}
 {
 refine nxe [7, 9] (by kernel_rfl) z z ?_
 clear hst
 intro w hst
 obtain ⟨b4818, w4819, ew4820, eb4821, hst⟩ := hst.box [.pointer none] 60
 refine we_run (v := Pt b4818 0) (w' := w4819) z (x_al (by kernel_rfl) ew4820 eb4821) ?_
 refine ws_next (pend' := [(6, .agg #[v4790, v4792, Zs, Zs, v4796, Zs])]) hst (by kernel_rfl) (pkr rfl rfl (fun w hst => by obtain ⟨_, _, hv_, _⟩ := hst.sv1; rw [hv_]; obtain ⟨_, _, hv_, _⟩ := hst.sv2; rw [hv_]; obtain ⟨_, _, hv_, _⟩ := hst.sv3; rw [hv_]; kernel_rfl) pk_nil) ?_
 refine ws_e1 7 (by kernel_rfl) ?_
 refine nxe [9] (by kernel_rfl) z z ?_
 clear hst
 intro w hst
 obtain ⟨b4823, w4824, ew4825, eb4826, hst⟩ := hst.box [v4790, v4792, Zs, Zs, v4796, Zs] 73
 refine we_run (v := Pt b4823 0) (w' := w4824) z (x_al (by kernel_rfl) ew4825 eb4826) ?_
 refine ws_next (pend' := []) hst (by kernel_rfl) pk_nil ?_
 refine ws_e1 9 (by kernel_rfl) ?_
 refine nxe [] (by kernel_rfl) z z ?_
 clear hst
 intro w hst
 replace hst := hst.pull1
 obtain ⟨w4828, hr4829, hst⟩ := hst.by_ [Pt b4823 0] 0 (Pt b4823 0) sizeOf60 z (oC z oN) (by kernel_rfl)
 refine we_unit z (x_unit hr4829) ?_
 refine ws_next (pend' := []) hst (by kernel_rfl) pk_nil ?_
 refine ws_nil ?_
 intro w hst
 refine ⟨z, ?_⟩
 replace hst := hst.own_nil (tySl (tyInt .i64))
 replace hst := hst.own_nil (tySl (tyInt .i64))
 replace hst := hst.own_nil (tyInt .i64)
 replace hst := hst.pull5.pull2.pull3.pull6.pull7.pull7
 replace hst := at_label_Lattice_close (pv := Pt b4823 0) (x := ({ up := t4783, down := (List.replicate (Int.toNat ((a0).length : Int)) (0:Int)), join := [], meet := [], rank := (List.replicate (Int.toNat ((a0).length : Int)) (0:Int)), all := [] } : label_Lattice)) hst z
 replace hst := hst.pull1.keep2
 obtain rfl := some_inj hm
 exact ⟨({ up := t4783, down := (List.replicate (Int.toNat ((a0).length : Int)) (0:Int)), join := [], meet := [], rank := (List.replicate (Int.toNat ((a0).length : Int)) (0:Int)), all := [] } : label_Lattice), b4818, (Pt b4823 0), _, hx5467, (fu 0 r0_0 z (fu 4 (.int .i64 ((a0).length : Int)) z (fu 5 (Pt b4818 0) z z))), hst⟩
}
}
 {
 refine nxe [5, 6, 7, 9] (by kernel_rfl) z z ?_
 clear hst
 intro w hst
 obtain ⟨b4830, w4831, ew4832, eb4833, hst⟩ := hst.box [.pointer none] 60
 refine we_run (v := Pt b4830 0) (w' := w4831) z (x_al (by kernel_rfl) ew4832 eb4833) ?_
 refine ws_next (pend' := [(4, I6 ((a0).length : Int))]) hst (by kernel_rfl) (pkr z z (fun w hst => z) pk_nil) ?_
 refine ws_e1 5 (by kernel_rfl) ?_
 refine nxe [6, 7, 9] (by kernel_rfl) z z ?_
 clear hst
 intro w hst
 obtain ⟨v4835, w4836, hr4837, hst⟩ := run_mk (k := .i64) (k' := .i64) (zm := (0:Int)) elem_46 hst hg4786 (by decide) z
 refine we_run (v := v4835) (w' := w4836) z (x_make z z hr4837) ?_
 refine ws_next (pend' := []) hst (by kernel_rfl) pk_nil ?_
 refine wsr (.agg #[v4790, v4792, Zs, Zs, v4835, Zs]) 6 rfl rfl rfl (by kernel_rfl) (fun w hst => by obtain ⟨_, _, hv_, _⟩ := hst.sv0; rw [hv_]; obtain ⟨_, _, hv_, _⟩ := hst.sv2; rw [hv_]; obtain ⟨_, _, hv_, _⟩ := hst.sv3; rw [hv_]; kernel_rfl) ?_
 refine ws_e1 7 (by kernel_rfl) ?_
 refine nxe [9] (by kernel_rfl) z z ?_
 clear hst
 intro w hst
 obtain ⟨b4845, w4846, ew4847, eb4848, hst⟩ := hst.box [v4790, v4792, Zs, Zs, v4835, Zs] 73
 refine we_run (v := Pt b4845 0) (w' := w4846) z (x_al (by kernel_rfl) ew4847 eb4848) ?_
 refine ws_next (pend' := []) hst (by kernel_rfl) pk_nil ?_
 refine ws_e1 9 (by kernel_rfl) ?_
 refine nxe [] (by kernel_rfl) z z ?_
 clear hst
 intro w hst
 replace hst := hst.pull2
 obtain ⟨w4850, hr4851, hst⟩ := hst.by_ [Pt b4845 0] 0 (Pt b4845 0) sizeOf60 z (oC z oN) (by kernel_rfl)
 refine we_unit z (x_unit hr4851) ?_
 refine ws_next (pend' := []) hst (by kernel_rfl) pk_nil ?_
 refine ws_nil ?_
 intro w hst
 refine ⟨z, ?_⟩
 replace hst := hst.own_nil (tySl (tyInt .i64))
 replace hst := hst.own_nil (tySl (tyInt .i64))
 replace hst := hst.own_nil (tyInt .i64)
 replace hst := hst.pull5.pull2.pull3.pull6.pull7.pull7
 replace hst := at_label_Lattice_close (pv := Pt b4845 0) (x := ({ up := t4783, down := (List.replicate (Int.toNat ((a0).length : Int)) (0:Int)), join := [], meet := [], rank := (List.replicate (Int.toNat ((a0).length : Int)) (0:Int)), all := [] } : label_Lattice)) hst z
 replace hst := hst.pull1.keep2
 obtain rfl := some_inj hm
 exact ⟨({ up := t4783, down := (List.replicate (Int.toNat ((a0).length : Int)) (0:Int)), join := [], meet := [], rank := (List.replicate (Int.toNat ((a0).length : Int)) (0:Int)), all := [] } : label_Lattice), b4830, (Pt b4845 0), _, hx5467, (fu 0 r0_0 z (fu 4 (.int .i64 ((a0).length : Int)) z (fu 5 (Pt b4830 0) z z))), hst⟩
}
}
 {
 refine nxe [3, 6, 7, 8, 9] (by kernel_rfl) z z ?_
 clear hst
 intro w hst
 obtain ⟨v4852, w4853, hr4854, hst⟩ := run_mk (k := .i64) (k' := .i64) (zm := (0:Int)) elem_46 hst hg4786 (by decide) z
 refine we_run (v := v4852) (w' := w4853) z (x_make z z hr4854) ?_
 refine ws_next (pend' := [(2, I6 ((a0).length : Int))]) hst (by kernel_rfl) (pkr z z (fun w hst => z) pk_nil) ?_
 refine ws_e2 3 8 (by kernel_rfl) ?_ ?_
 {
 refine nxe [6, 7, 8, 9] (by kernel_rfl) z z ?_
 clear hst
 intro w hst
 obtain ⟨v4856, w4857, hr4858, hst⟩ := run_mk (k := .i64) (k' := .i64) (zm := (0:Int)) elem_25 hst hg4785 (by decide) z
 refine we_run (v := v4856) (w' := w4857) z (x_make z z hr4858) ?_
 refine ws_next (pend' := []) hst (by kernel_rfl) pk_nil ?_
 refine wsr (.agg #[v4790, v4856, Zs, Zs, v4852, Zs]) 6 rfl rfl rfl (by kernel_rfl) (fun w hst => by obtain ⟨_, _, hv_, _⟩ := hst.sv1; rw [hv_]; obtain ⟨_, _, hv_, _⟩ := hst.sv0; rw [hv_]; obtain ⟨_, _, hv_, _⟩ := hst.sv2; rw [hv_]; kernel_rfl) ?_
 refine ws_e2 7 8 (by kernel_rfl) ?_ ?_
 {
 refine nxe [8, 9] (by kernel_rfl) z z ?_
 clear hst
 intro w hst
 obtain ⟨b4866, w4867, ew4868, eb4869, hst⟩ := hst.box [v4790, v4856, Zs, Zs, v4852, Zs] 73
 refine we_run (v := Pt b4866 0) (w' := w4867) z (x_al (by kernel_rfl) ew4868 eb4869) ?_
 refine ws_next (pend' := []) hst (by kernel_rfl) pk_nil ?_
 refine ws_e1 8 (by kernel_rfl) ?_
 refine nxe [9] (by kernel_rfl) z z ?_
 clear hst
 intro w hst
 obtain ⟨b4871, w4872, ew4873, eb4874, hst⟩ := hst.box [.pointer none] 60
 refine we_run (v := Pt b4871 0) (w' := w4872) z (x_al (by kernel_rfl) ew4873 eb4874) ?_
 refine ws_next (pend' := []) hst (by kernel_rfl) pk_nil ?_
 refine ws_e1 9 (by kernel_rfl) ?_
 refine nxe [] (by kernel_rfl) z z ?_
 clear hst
 intro w hst
 obtain ⟨w4876, hr4877, hst⟩ := hst.by_ [Pt b4866 0] 0 (Pt b4866 0) sizeOf60 z (oC z oN) (by kernel_rfl)
 refine we_unit z (x_unit hr4877) ?_
 refine ws_next (pend' := []) hst (by kernel_rfl) pk_nil ?_
 refine ws_nil ?_
 intro w hst
 refine ⟨z, ?_⟩
 replace hst := hst.own_nil (tySl (tyInt .i64))
 replace hst := hst.own_nil (tySl (tyInt .i64))
 replace hst := hst.own_nil (tyInt .i64)
 replace hst := hst.pull6.pull2.pull3.pull6.pull7.pull7
 replace hst := at_label_Lattice_close (pv := Pt b4866 0) (x := ({ up := t4783, down := (List.replicate (Int.toNat ((a0).length : Int)) (0:Int)), join := [], meet := [], rank := (List.replicate (Int.toNat ((a0).length : Int)) (0:Int)), all := [] } : label_Lattice)) hst z
 replace hst := hst.pull1.keep2
 obtain rfl := some_inj hm
 exact ⟨({ up := t4783, down := (List.replicate (Int.toNat ((a0).length : Int)) (0:Int)), join := [], meet := [], rank := (List.replicate (Int.toNat ((a0).length : Int)) (0:Int)), all := [] } : label_Lattice), b4871, (Pt b4866 0), _, hx5467, (fu 0 r0_0 z (fu 4 (.int .i64 ((a0).length : Int)) z (fu 5 (Pt b4871 0) z z))), hst⟩
}
 {
 refine nxe [7, 9] (by kernel_rfl) z z ?_
 clear hst
 intro w hst
 obtain ⟨b4878, w4879, ew4880, eb4881, hst⟩ := hst.box [.pointer none] 60
 refine we_run (v := Pt b4878 0) (w' := w4879) z (x_al (by kernel_rfl) ew4880 eb4881) ?_
 refine ws_next (pend' := [(6, .agg #[v4790, v4856, Zs, Zs, v4852, Zs])]) hst (by kernel_rfl) (pkr rfl rfl (fun w hst => by obtain ⟨_, _, hv_, _⟩ := hst.sv2; rw [hv_]; obtain ⟨_, _, hv_, _⟩ := hst.sv1; rw [hv_]; obtain ⟨_, _, hv_, _⟩ := hst.sv3; rw [hv_]; kernel_rfl) pk_nil) ?_
 refine ws_e1 7 (by kernel_rfl) ?_
 refine nxe [9] (by kernel_rfl) z z ?_
 clear hst
 intro w hst
 obtain ⟨b4883, w4884, ew4885, eb4886, hst⟩ := hst.box [v4790, v4856, Zs, Zs, v4852, Zs] 73
 refine we_run (v := Pt b4883 0) (w' := w4884) z (x_al (by kernel_rfl) ew4885 eb4886) ?_
 refine ws_next (pend' := []) hst (by kernel_rfl) pk_nil ?_
 refine ws_e1 9 (by kernel_rfl) ?_
 refine nxe [] (by kernel_rfl) z z ?_
 clear hst
 intro w hst
 replace hst := hst.pull1
 obtain ⟨w4888, hr4889, hst⟩ := hst.by_ [Pt b4883 0] 0 (Pt b4883 0) sizeOf60 z (oC z oN) (by kernel_rfl)
 refine we_unit z (x_unit hr4889) ?_
 refine ws_next (pend' := []) hst (by kernel_rfl) pk_nil ?_
 refine ws_nil ?_
 intro w hst
 refine ⟨z, ?_⟩
 replace hst := hst.own_nil (tySl (tyInt .i64))
 replace hst := hst.own_nil (tySl (tyInt .i64))
 replace hst := hst.own_nil (tyInt .i64)
 replace hst := hst.pull6.pull2.pull3.pull6.pull7.pull7
 replace hst := at_label_Lattice_close (pv := Pt b4883 0) (x := ({ up := t4783, down := (List.replicate (Int.toNat ((a0).length : Int)) (0:Int)), join := [], meet := [], rank := (List.replicate (Int.toNat ((a0).length : Int)) (0:Int)), all := [] } : label_Lattice)) hst z
 replace hst := hst.pull1.keep2
 obtain rfl := some_inj hm
 exact ⟨({ up := t4783, down := (List.replicate (Int.toNat ((a0).length : Int)) (0:Int)), join := [], meet := [], rank := (List.replicate (Int.toNat ((a0).length : Int)) (0:Int)), all := [] } : label_Lattice), b4878, (Pt b4883 0), _, hx5467, (fu 0 r0_0 z (fu 4 (.int .i64 ((a0).length : Int)) z (fu 5 (Pt b4878 0) z z))), hst⟩
}
}
 {
 refine nxe [3, 6, 7, 9] (by kernel_rfl) z z ?_
 clear hst
 intro w hst
 obtain ⟨b4890, w4891, ew4892, eb4893, hst⟩ := hst.box [.pointer none] 60
 refine we_run (v := Pt b4890 0) (w' := w4891) z (x_al (by kernel_rfl) ew4892 eb4893) ?_
 refine ws_next (pend' := [(2, I6 ((a0).length : Int))]) hst (by kernel_rfl) (pkr z z (fun w hst => z) pk_nil) ?_
 refine ws_e1 3 (by kernel_rfl) ?_
 refine nxe [6, 7, 9] (by kernel_rfl) z z ?_
 clear hst
 intro w hst
 obtain ⟨v4895, w4896, hr4897, hst⟩ := run_mk (k := .i64) (k' := .i64) (zm := (0:Int)) elem_25 hst hg4785 (by decide) z
 refine we_run (v := v4895) (w' := w4896) z (x_make z z hr4897) ?_
 refine ws_next (pend' := []) hst (by kernel_rfl) pk_nil ?_
 refine wsr (.agg #[v4790, v4895, Zs, Zs, v4852, Zs]) 6 rfl rfl rfl (by kernel_rfl) (fun w hst => by obtain ⟨_, _, hv_, _⟩ := hst.sv2; rw [hv_]; obtain ⟨_, _, hv_, _⟩ := hst.sv0; rw [hv_]; obtain ⟨_, _, hv_, _⟩ := hst.sv3; rw [hv_]; kernel_rfl) ?_
 refine ws_e1 7 (by kernel_rfl) ?_
 refine nxe [9] (by kernel_rfl) z z ?_
 clear hst
 intro w hst
 obtain ⟨b4905, w4906, ew4907, eb4908, hst⟩ := hst.box [v4790, v4895, Zs, Zs, v4852, Zs] 73
 refine we_run (v := Pt b4905 0) (w' := w4906) z (x_al (by kernel_rfl) ew4907 eb4908) ?_
 refine ws_next (pend' := []) hst (by kernel_rfl) pk_nil ?_
 refine ws_e1 9 (by kernel_rfl) ?_
 refine nxe [] (by kernel_rfl) z z ?_
 clear hst
 intro w hst
 replace hst := hst.pull2
 obtain ⟨w4910, hr4911, hst⟩ := hst.by_ [Pt b4905 0] 0 (Pt b4905 0) sizeOf60 z (oC z oN) (by kernel_rfl)
 refine we_unit z (x_unit hr4911) ?_
 refine ws_next (pend' := []) hst (by kernel_rfl) pk_nil ?_
 refine ws_nil ?_
 intro w hst
 refine ⟨z, ?_⟩
 replace hst := hst.own_nil (tySl (tyInt .i64))
 replace hst := hst.own_nil (tySl (tyInt .i64))
 replace hst := hst.own_nil (tyInt .i64)
 replace hst := hst.pull6.pull2.pull3.pull6.pull7.pull7
 replace hst := at_label_Lattice_close (pv := Pt b4905 0) (x := ({ up := t4783, down := (List.replicate (Int.toNat ((a0).length : Int)) (0:Int)), join := [], meet := [], rank := (List.replicate (Int.toNat ((a0).length : Int)) (0:Int)), all := [] } : label_Lattice)) hst z
 replace hst := hst.pull1.keep2
 obtain rfl := some_inj hm
 exact ⟨({ up := t4783, down := (List.replicate (Int.toNat ((a0).length : Int)) (0:Int)), join := [], meet := [], rank := (List.replicate (Int.toNat ((a0).length : Int)) (0:Int)), all := [] } : label_Lattice), b4890, (Pt b4905 0), _, hx5467, (fu 0 r0_0 z (fu 4 (.int .i64 ((a0).length : Int)) z (fu 5 (Pt b4890 0) z z))), hst⟩
}
}
 {
 refine nxe [3, 5, 6, 7, 9] (by kernel_rfl) z z ?_
 clear hst
 intro w hst
 obtain ⟨b4912, w4913, ew4914, eb4915, hst⟩ := hst.box [.pointer none] 60
 refine we_run (v := Pt b4912 0) (w' := w4913) z (x_al (by kernel_rfl) ew4914 eb4915) ?_
 refine ws_next (pend' := [(4, I6 ((a0).length : Int)), (2, I6 ((a0).length : Int))]) hst (by kernel_rfl) (pkr z z (fun w hst => z) (pkr z z (fun w hst => z) pk_nil)) ?_
 refine ws_e2 3 5 (by kernel_rfl) ?_ ?_
 {
 refine nxe [5, 6, 7, 9] (by kernel_rfl) z z ?_
 clear hst
 intro w hst
 obtain ⟨v4917, w4918, hr4919, hst⟩ := run_mk (k := .i64) (k' := .i64) (zm := (0:Int)) elem_25 hst hg4785 (by decide) z
 refine we_run (v := v4917) (w' := w4918) z (x_make z z hr4919) ?_
 refine ws_next (pend' := [(4, I6 ((a0).length : Int))]) hst (by kernel_rfl) (pkr z z (fun w hst => z) pk_nil) ?_
 refine ws_e1 5 (by kernel_rfl) ?_
 refine nxe [6, 7, 9] (by kernel_rfl) z z ?_
 clear hst
 intro w hst
 obtain ⟨v4921, w4922, hr4923, hst⟩ := run_mk (k := .i64) (k' := .i64) (zm := (0:Int)) elem_46 hst hg4786 (by decide) z
 refine we_run (v := v4921) (w' := w4922) z (x_make z z hr4923) ?_
 refine ws_next (pend' := []) hst (by kernel_rfl) pk_nil ?_
 refine wsr (.agg #[v4790, v4917, Zs, Zs, v4921, Zs]) 6 rfl rfl rfl (by kernel_rfl) (fun w hst => by obtain ⟨_, _, hv_, _⟩ := hst.sv0; rw [hv_]; obtain ⟨_, _, hv_, _⟩ := hst.sv1; rw [hv_]; obtain ⟨_, _, hv_, _⟩ := hst.sv3; rw [hv_]; kernel_rfl) ?_
 refine ws_e1 7 (by kernel_rfl) ?_
 refine nxe [9] (by kernel_rfl) z z ?_
 clear hst
 intro w hst
 obtain ⟨b4931, w4932, ew4933, eb4934, hst⟩ := hst.box [v4790, v4917, Zs, Zs, v4921, Zs] 73
 refine we_run (v := Pt b4931 0) (w' := w4932) z (x_al (by kernel_rfl) ew4933 eb4934) ?_
 refine ws_next (pend' := []) hst (by kernel_rfl) pk_nil ?_
 refine ws_e1 9 (by kernel_rfl) ?_
 refine nxe [] (by kernel_rfl) z z ?_
 clear hst
 intro w hst
 replace hst := hst.pull3
 obtain ⟨w4936, hr4937, hst⟩ := hst.by_ [Pt b4931 0] 0 (Pt b4931 0) sizeOf60 z (oC z oN) (by kernel_rfl)
 refine we_unit z (x_unit hr4937) ?_
 refine ws_next (pend' := []) hst (by kernel_rfl) pk_nil ?_
 refine ws_nil ?_
 intro w hst
 refine ⟨z, ?_⟩
 replace hst := hst.own_nil (tySl (tyInt .i64))
 replace hst := hst.own_nil (tySl (tyInt .i64))
 replace hst := hst.own_nil (tyInt .i64)
 replace hst := hst.pull5.pull2.pull3.pull6.pull7.pull7
 replace hst := at_label_Lattice_close (pv := Pt b4931 0) (x := ({ up := t4783, down := (List.replicate (Int.toNat ((a0).length : Int)) (0:Int)), join := [], meet := [], rank := (List.replicate (Int.toNat ((a0).length : Int)) (0:Int)), all := [] } : label_Lattice)) hst z
 replace hst := hst.pull1.keep2
 obtain rfl := some_inj hm
 exact ⟨({ up := t4783, down := (List.replicate (Int.toNat ((a0).length : Int)) (0:Int)), join := [], meet := [], rank := (List.replicate (Int.toNat ((a0).length : Int)) (0:Int)), all := [] } : label_Lattice), b4912, (Pt b4931 0), _, hx5467, (fu 0 r0_0 z (fu 4 (.int .i64 ((a0).length : Int)) z (fu 5 (Pt b4912 0) z z))), hst⟩
}
 {
 refine nxe [3, 6, 7, 9] (by kernel_rfl) z z ?_
 clear hst
 intro w hst
 obtain ⟨v4938, w4939, hr4940, hst⟩ := run_mk (k := .i64) (k' := .i64) (zm := (0:Int)) elem_46 hst hg4786 (by decide) z
 refine we_run (v := v4938) (w' := w4939) z (x_make z z hr4940) ?_
 refine ws_next (pend' := [(2, I6 ((a0).length : Int))]) hst (by kernel_rfl) (pkr z z (fun w hst => z) pk_nil) ?_
 refine ws_e1 3 (by kernel_rfl) ?_
 refine nxe [6, 7, 9] (by kernel_rfl) z z ?_
 clear hst
 intro w hst
 obtain ⟨v4942, w4943, hr4944, hst⟩ := run_mk (k := .i64) (k' := .i64) (zm := (0:Int)) elem_25 hst hg4785 (by decide) z
 refine we_run (v := v4942) (w' := w4943) z (x_make z z hr4944) ?_
 refine ws_next (pend' := []) hst (by kernel_rfl) pk_nil ?_
 refine wsr (.agg #[v4790, v4942, Zs, Zs, v4938, Zs]) 6 rfl rfl rfl (by kernel_rfl) (fun w hst => by obtain ⟨_, _, hv_, _⟩ := hst.sv1; rw [hv_]; obtain ⟨_, _, hv_, _⟩ := hst.sv0; rw [hv_]; obtain ⟨_, _, hv_, _⟩ := hst.sv3; rw [hv_]; kernel_rfl) ?_
 refine ws_e1 7 (by kernel_rfl) ?_
 refine nxe [9] (by kernel_rfl) z z ?_
 clear hst
 intro w hst
 obtain ⟨b4952, w4953, ew4954, eb4955, hst⟩ := hst.box [v4790, v4942, Zs, Zs, v4938, Zs] 73
 refine we_run (v := Pt b4952 0) (w' := w4953) z (x_al (by kernel_rfl) ew4954 eb4955) ?_
 refine ws_next (pend' := []) hst (by kernel_rfl) pk_nil ?_
 refine ws_e1 9 (by kernel_rfl) ?_
 refine nxe [] (by kernel_rfl) z z ?_
 clear hst
 intro w hst
 replace hst := hst.pull3
 obtain ⟨w4957, hr4958, hst⟩ := hst.by_ [Pt b4952 0] 0 (Pt b4952 0) sizeOf60 z (oC z oN) (by kernel_rfl)
 refine we_unit z (x_unit hr4958) ?_
 refine ws_next (pend' := []) hst (by kernel_rfl) pk_nil ?_
 refine ws_nil ?_
 intro w hst
 refine ⟨z, ?_⟩
 replace hst := hst.own_nil (tySl (tyInt .i64))
 replace hst := hst.own_nil (tySl (tyInt .i64))
 replace hst := hst.own_nil (tyInt .i64)
 replace hst := hst.pull6.pull2.pull3.pull6.pull7.pull7
 replace hst := at_label_Lattice_close (pv := Pt b4952 0) (x := ({ up := t4783, down := (List.replicate (Int.toNat ((a0).length : Int)) (0:Int)), join := [], meet := [], rank := (List.replicate (Int.toNat ((a0).length : Int)) (0:Int)), all := [] } : label_Lattice)) hst z
 replace hst := hst.pull1.keep2
 obtain rfl := some_inj hm
 exact ⟨({ up := t4783, down := (List.replicate (Int.toNat ((a0).length : Int)) (0:Int)), join := [], meet := [], rank := (List.replicate (Int.toNat ((a0).length : Int)) (0:Int)), all := [] } : label_Lattice), b4912, (Pt b4952 0), _, hx5467, (fu 0 r0_0 z (fu 4 (.int .i64 ((a0).length : Int)) z (fu 5 (Pt b4912 0) z z))), hst⟩
}
}
}
 {
 refine nxe [1, 5, 6, 7, 8, 9] (by kernel_rfl) z z ?_
 clear hst
 intro w hst
 obtain ⟨v4959, w4960, hr4961, hst⟩ := run_mk (k := .i64) (k' := .i64) (zm := (0:Int)) elem_25 hst hg4785 (by decide) z
 refine we_run (v := v4959) (w' := w4960) z (x_make z z hr4961) ?_
 refine ws_next (pend' := [(4, I6 ((a0).length : Int)), (0, r0_0)]) hst (by kernel_rfl) (pkr z z (fun w hst => z) (pkr z z (fun w hst => z) pk_nil)) ?_
 refine ws_e3 1 5 8 (by kernel_rfl) ?_ ?_ ?_
 {
 refine nxe [5, 6, 7, 8, 9] (by kernel_rfl) z z ?_
 clear hst
 intro w hst
 refine wec call44 [r0_0] z z ?_
 refine (slices_Clone_uint64_uint64_ref (f0_0.mono (rd_weak _)) hst.to0 ht4784).mono ?_
 rintro _ w4963 ⟨v4966, rfl, hst⟩
 refine ⟨_, z, ?_⟩
 replace hst := hst.of1
 refine ws_next (pend' := [(4, I6 ((a0).length : Int))]) hst (by kernel_rfl) (pkr z z (fun w hst => z) pk_nil) ?_
 refine ws_e2 5 8 (by kernel_rfl) ?_ ?_
 {
 refine nxe [6, 7, 8, 9] (by kernel_rfl) z z ?_
 clear hst
 intro w hst
 obtain ⟨v4968, w4969, hr4970, hst⟩ := run_mk (k := .i64) (k' := .i64) (zm := (0:Int)) elem_46 hst hg4786 (by decide) z
 refine we_run (v := v4968) (w' := w4969) z (x_make z z hr4970) ?_
 refine ws_next (pend' := []) hst (by kernel_rfl) pk_nil ?_
 refine wsr (.agg #[v4966, v4959, Zs, Zs, v4968, Zs]) 6 rfl rfl rfl (by kernel_rfl) (fun w hst => by obtain ⟨_, _, hv_, _⟩ := hst.sv0; rw [hv_]; obtain ⟨_, _, hv_, _⟩ := hst.sv2; rw [hv_]; obtain ⟨_, _, hv_, _⟩ := hst.sv1; rw [hv_]; kernel_rfl) ?_
 refine ws_e2 7 8 (by kernel_rfl) ?_ ?_
 {
 refine nxe [8, 9] (by kernel_rfl) z z ?_
 clear hst
 intro w hst
 obtain ⟨b4978, w4979, ew4980, eb4981, hst⟩ := hst.box [v4966, v4959, Zs, Zs, v4968, Zs] 73
 refine we_run (v := Pt b4978 0) (w' := w4979) z (x_al (by kernel_rfl) ew4980 eb4981) ?_
 refine ws_next (pend' := []) hst (by kernel_rfl) pk_nil ?_
 refine ws_e1 8 (by kernel_rfl) ?_
 refine nxe [9] (by kernel_rfl) z z ?_
 clear hst
 intro w hst
 obtain ⟨b4983, w4984, ew4985, eb4986, hst⟩ := hst.box [.pointer none] 60
 refine we_run (v := Pt b4983 0) (w' := w4984) z (x_al (by kernel_rfl) ew4985 eb4986) ?_
 refine ws_next (pend' := []) hst (by kernel_rfl) pk_nil ?_
 refine ws_e1 9 (by kernel_rfl) ?_
 refine nxe [] (by kernel_rfl) z z ?_
 clear hst
 intro w hst
 obtain ⟨w4988, hr4989, hst⟩ := hst.by_ [Pt b4978 0] 0 (Pt b4978 0) sizeOf60 z (oC z oN) (by kernel_rfl)
 refine we_unit z (x_unit hr4989) ?_
 refine ws_next (pend' := []) hst (by kernel_rfl) pk_nil ?_
 refine ws_nil ?_
 intro w hst
 refine ⟨z, ?_⟩
 replace hst := hst.own_nil (tySl (tyInt .i64))
 replace hst := hst.own_nil (tySl (tyInt .i64))
 replace hst := hst.own_nil (tyInt .i64)
 replace hst := hst.pull5.pull2.pull3.pull7.pull7.pull7
 replace hst := at_label_Lattice_close (pv := Pt b4978 0) (x := ({ up := t4783, down := (List.replicate (Int.toNat ((a0).length : Int)) (0:Int)), join := [], meet := [], rank := (List.replicate (Int.toNat ((a0).length : Int)) (0:Int)), all := [] } : label_Lattice)) hst z
 replace hst := hst.pull1.keep2
 obtain rfl := some_inj hm
 exact ⟨({ up := t4783, down := (List.replicate (Int.toNat ((a0).length : Int)) (0:Int)), join := [], meet := [], rank := (List.replicate (Int.toNat ((a0).length : Int)) (0:Int)), all := [] } : label_Lattice), b4983, (Pt b4978 0), _, hx5467, (fu 0 r0_0 z (fu 4 (.int .i64 ((a0).length : Int)) z (fu 5 (Pt b4983 0) z z))), hst⟩
}
 {
 refine nxe [7, 9] (by kernel_rfl) z z ?_
 clear hst
 intro w hst
 obtain ⟨b4990, w4991, ew4992, eb4993, hst⟩ := hst.box [.pointer none] 60
 refine we_run (v := Pt b4990 0) (w' := w4991) z (x_al (by kernel_rfl) ew4992 eb4993) ?_
 refine ws_next (pend' := [(6, .agg #[v4966, v4959, Zs, Zs, v4968, Zs])]) hst (by kernel_rfl) (pkr rfl rfl (fun w hst => by obtain ⟨_, _, hv_, _⟩ := hst.sv1; rw [hv_]; obtain ⟨_, _, hv_, _⟩ := hst.sv3; rw [hv_]; obtain ⟨_, _, hv_, _⟩ := hst.sv2; rw [hv_]; kernel_rfl) pk_nil) ?_
 refine ws_e1 7 (by kernel_rfl) ?_
 refine nxe [9] (by kernel_rfl) z z ?_
 clear hst
 intro w hst
 obtain ⟨b4995, w4996, ew4997, eb4998, hst⟩ := hst.box [v4966, v4959, Zs, Zs, v4968, Zs] 73
 refine we_run (v := Pt b4995 0) (w' := w4996) z (x_al (by kernel_rfl) ew4997 eb4998) ?_
 refine ws_next (pend' := []) hst (by kernel_rfl) pk_nil ?_
 refine ws_e1 9 (by kernel_rfl) ?_
 refine nxe [] (by kernel_rfl) z z ?_
 clear hst
 intro w hst
 replace hst := hst.pull1
 obtain ⟨w5000, hr5001, hst⟩ := hst.by_ [Pt b4995 0] 0 (Pt b4995 0) sizeOf60 z (oC z oN) (by kernel_rfl)
 refine we_unit z (x_unit hr5001) ?_
 refine ws_next (pend' := []) hst (by kernel_rfl) pk_nil ?_
 refine ws_nil ?_
 intro w hst
 refine ⟨z, ?_⟩
 replace hst := hst.own_nil (tySl (tyInt .i64))
 replace hst := hst.own_nil (tySl (tyInt .i64))
 replace hst := hst.own_nil (tyInt .i64)
 replace hst := hst.pull5.pull2.pull3.pull7.pull7.pull7
 replace hst := at_label_Lattice_close (pv := Pt b4995 0) (x := ({ up := t4783, down := (List.replicate (Int.toNat ((a0).length : Int)) (0:Int)), join := [], meet := [], rank := (List.replicate (Int.toNat ((a0).length : Int)) (0:Int)), all := [] } : label_Lattice)) hst z
 replace hst := hst.pull1.keep2
 obtain rfl := some_inj hm
 exact ⟨({ up := t4783, down := (List.replicate (Int.toNat ((a0).length : Int)) (0:Int)), join := [], meet := [], rank := (List.replicate (Int.toNat ((a0).length : Int)) (0:Int)), all := [] } : label_Lattice), b4990, (Pt b4995 0), _, hx5467, (fu 0 r0_0 z (fu 4 (.int .i64 ((a0).length : Int)) z (fu 5 (Pt b4990 0) z z))), hst⟩
}
}
 {
 refine nxe [5, 6, 7, 9] (by kernel_rfl) z z ?_
 clear hst
 intro w hst
 obtain ⟨b5002, w5003, ew5004, eb5005, hst⟩ := hst.box [.pointer none] 60
 refine we_run (v := Pt b5002 0) (w' := w5003) z (x_al (by kernel_rfl) ew5004 eb5005) ?_
 refine ws_next (pend' := [(4, I6 ((a0).length : Int))]) hst (by kernel_rfl) (pkr z z (fun w hst => z) pk_nil) ?_
 refine ws_e1 5 (by kernel_rfl) ?_
 refine nxe [6, 7, 9] (by kernel_rfl) z z ?_
 clear hst
 intro w hst
 obtain ⟨v5007, w5008, hr5009, hst⟩ := run_mk (k := .i64) (k' := .i64) (zm := (0:Int)) elem_46 hst hg4786 (by decide) z
 refine we_run (v := v5007) (w' := w5008) z (x_make z z hr5009) ?_
 refine ws_next (pend' := []) hst (by kernel_rfl) pk_nil ?_
 refine wsr (.agg #[v4966, v4959, Zs, Zs, v5007, Zs]) 6 rfl rfl rfl (by kernel_rfl) (fun w hst => by obtain ⟨_, _, hv_, _⟩ := hst.sv0; rw [hv_]; obtain ⟨_, _, hv_, _⟩ := hst.sv3; rw [hv_]; obtain ⟨_, _, hv_, _⟩ := hst.sv2; rw [hv_]; kernel_rfl) ?_
 refine ws_e1 7 (by kernel_rfl) ?_
 refine nxe [9] (by kernel_rfl) z z ?_
 clear hst
 intro w hst
 obtain ⟨b5017, w5018, ew5019, eb5020, hst⟩ := hst.box [v4966, v4959, Zs, Zs, v5007, Zs] 73
 refine we_run (v := Pt b5017 0) (w' := w5018) z (x_al (by kernel_rfl) ew5019 eb5020) ?_
 refine ws_next (pend' := []) hst (by kernel_rfl) pk_nil ?_
 refine ws_e1 9 (by kernel_rfl) ?_
 refine nxe [] (by kernel_rfl) z z ?_
 clear hst
 intro w hst
 replace hst := hst.pull2
 obtain ⟨w5022, hr5023, hst⟩ := hst.by_ [Pt b5017 0] 0 (Pt b5017 0) sizeOf60 z (oC z oN) (by kernel_rfl)
 refine we_unit z (x_unit hr5023) ?_
 refine ws_next (pend' := []) hst (by kernel_rfl) pk_nil ?_
 refine ws_nil ?_
 intro w hst
 refine ⟨z, ?_⟩
 replace hst := hst.own_nil (tySl (tyInt .i64))
 replace hst := hst.own_nil (tySl (tyInt .i64))
 replace hst := hst.own_nil (tyInt .i64)
 replace hst := hst.pull5.pull2.pull3.pull7.pull7.pull7
 replace hst := at_label_Lattice_close (pv := Pt b5017 0) (x := ({ up := t4783, down := (List.replicate (Int.toNat ((a0).length : Int)) (0:Int)), join := [], meet := [], rank := (List.replicate (Int.toNat ((a0).length : Int)) (0:Int)), all := [] } : label_Lattice)) hst z
 replace hst := hst.pull1.keep2
 obtain rfl := some_inj hm
 exact ⟨({ up := t4783, down := (List.replicate (Int.toNat ((a0).length : Int)) (0:Int)), join := [], meet := [], rank := (List.replicate (Int.toNat ((a0).length : Int)) (0:Int)), all := [] } : label_Lattice), b5002, (Pt b5017 0), _, hx5467, (fu 0 r0_0 z (fu 4 (.int .i64 ((a0).length : Int)) z (fu 5 (Pt b5002 0) z z))), hst⟩
}
}
 {
 refine nxe [1, 6, 7, 8, 9] (by kernel_rfl) z z ?_
 clear hst
 intro w hst
 obtain ⟨v5024, w5025, hr5026, hst⟩ := run_mk (k := .i64) (k' := .i64) (zm := (0:Int)) elem_46 hst hg4786 (by decide) z
 refine we_run (v := v5024) (w' := w5025) z (x_make z z hr5026) ?_
 refine ws_next (pend' := [(0, r0_0)]) hst (by kernel_rfl) (pkr z z (fun w hst => z) pk_nil) ?_
 refine ws_e2 1 8 (by kernel_rfl) ?_ ?_
 {
 refine nxe [6, 7, 8, 9] (by kernel_rfl) z z ?_
 clear hst
 intro w hst
 refine wec call44 [r0_0] z z ?_
 refine (slices_Clone_uint64_uint64_ref (f0_0.mono (rd_weak _)) hst.to0 ht4784).mono ?_
 rintro _ w5028 ⟨v5031, rfl, hst⟩
 refine ⟨_, z, ?_⟩
 replace hst := hst.of1
 refine ws_next (pend' := []) hst (by kernel_rfl) pk_nil ?_
 refine wsr (.agg #[v5031, v4959, Zs, Zs, v5024, Zs]) 6 rfl rfl rfl (by kernel_rfl) (fun w hst => by obtain ⟨_, _, hv_, _⟩ := hst.sv1; rw [hv_]; obtain ⟨_, _, hv_, _⟩ := hst.sv2; rw [hv_]; obtain ⟨_, _, hv_, _⟩ := hst.sv0; rw [hv_]; kernel_rfl) ?_
 refine ws_e2 7 8 (by kernel_rfl) ?_ ?_
 {
 refine nxe [8, 9] (by kernel_rfl) z z ?_
 clear hst
 intro w hst
 obtain ⟨b5039, w5040, ew5041, eb5042, hst⟩ := hst.box [v5031, v4959, Zs, Zs, v5024, Zs] 73
 refine we_run (v := Pt b5039 0) (w' := w5040) z (x_al (by kernel_rfl) ew5041 eb5042) ?_
 refine ws_next (pend' := []) hst (by kernel_rfl) pk_nil ?_
 refine ws_e1 8 (by kernel_rfl) ?_
 refine nxe [9] (by kernel_rfl) z z ?_
 clear hst
 intro w hst
 obtain ⟨b5044, w5045, ew5046, eb5047, hst⟩ := hst.box [.pointer none] 60
 refine we_run (v := Pt b5044 0) (w' := w5045) z (x_al (by kernel_rfl) ew5046 eb5047) ?_
 refine ws_next (pend' := []) hst (by kernel_rfl) pk_nil ?_
 refine ws_e1 9 (by kernel_rfl) ?_
 refine nxe [] (by kernel_rfl) z z ?_
 clear hst
 intro w hst
 obtain ⟨w5049, hr5050, hst⟩ := hst.by_ [Pt b5039 0] 0 (Pt b5039 0) sizeOf60 z (oC z oN) (by kernel_rfl)
 refine we_unit z (x_unit hr5050) ?_
 refine ws_next (pend' := []) hst (by kernel_rfl) pk_nil ?_
 refine ws_nil ?_
 intro w hst
 refine ⟨z, ?_⟩
 replace hst := hst.own_nil (tySl (tyInt .i64))
 replace hst := hst.own_nil (tySl (tyInt .i64))
 replace hst := hst.own_nil (tyInt .i64)
 replace hst := hst.pull6.pull2.pull3.pull7.pull7.pull7
 replace hst := at_label_Lattice_close (pv := Pt b5039 0) (x := ({ up := t4783, down := (List.replicate (Int.toNat ((a0).length : Int)) (0:Int)), join := [], meet := [], rank := (List.replicate (Int.toNat ((a0).length : Int)) (0:Int)), all := [] } : label_Lattice)) hst z
 replace hst := hst.pull1.keep2
 obtain rfl := some_inj hm
 exact ⟨({ up := t4783, down := (List.replicate (Int.toNat ((a0).length : Int)) (0:Int)), join := [], meet := [], rank := (List.replicate (Int.toNat ((a0).length : Int)) (0:Int)), all := [] } : label_Lattice), b5044, (Pt b5039 0), _, hx5467, (fu 0 r0_0 z (fu 4 (.int .i64 ((a0).length : Int)) z (fu 5 (Pt b5044 0) z z))), hst⟩
}
 {
 refine nxe [7, 9] (by kernel_rfl) z z ?_
 clear hst
 intro w hst
 obtain ⟨b5051, w5052, ew5053, eb5054, hst⟩ := hst.box [.pointer none] 60
 refine we_run (v := Pt b5051 0) (w' := w5052) z (x_al (by kernel_rfl) ew5053 eb5054) ?_
 refine ws_next (pend' := [(6, .agg #[v5031, v4959, Zs, Zs, v5024, Zs])]) hst (by kernel_rfl) (pkr rfl rfl (fun w hst => by obtain ⟨_, _, hv_, _⟩ := hst.sv2; rw [hv_]; obtain ⟨_, _, hv_, _⟩ := hst.sv3; rw [hv_]; obtain ⟨_, _, hv_, _⟩ := hst.sv1; rw [hv_]; kernel_rfl) pk_nil) ?_
 refine ws_e1 7 (by kernel_rfl) ?_
 refine nxe [9] (by kernel_rfl) z z ?_
 clear hst
 intro w hst
 obtain ⟨b5056, w5057, ew5058, eb5059, hst⟩ := hst.box [v5031, v4959, Zs, Zs, v5024, Zs] 73
 refine we_run (v := Pt b5056 0) (w' := w5057) z (x_al (by kernel_rfl) ew5058 eb5059) ?_
 refine ws_next (pend' := []) hst (by kernel_rfl) pk_nil ?_
 refine ws_e1 9 (by kernel_rfl) ?_
 refine nxe [] (by kernel_rfl) z z ?_
 clear hst
 intro w hst
 replace hst := hst.pull1
 obtain ⟨w5061, hr5062, hst⟩ := hst.by_ [Pt b5056 0] 0 (Pt b5056 0) sizeOf60 z (oC z oN) (by kernel_rfl)
 refine we_unit z (x_unit hr5062) ?_
 refine ws_next (pend' := []) hst (by kernel_rfl) pk_nil ?_
 refine ws_nil ?_
 intro w hst
 refine ⟨z, ?_⟩
 replace hst := hst.own_nil (tySl (tyInt .i64))
 replace hst := hst.own_nil (tySl (tyInt .i64))
 replace hst := hst.own_nil (tyInt .i64)
 replace hst := hst.pull6.pull2.pull3.pull7.pull7.pull7
 replace hst := at_label_Lattice_close (pv := Pt b5056 0) (x := ({ up := t4783, down := (List.replicate (Int.toNat ((a0).length : Int)) (0:Int)), join := [], meet := [], rank := (List.replicate (Int.toNat ((a0).length : Int)) (0:Int)), all := [] } : label_Lattice)) hst z
 replace hst := hst.pull1.keep2
 obtain rfl := some_inj hm
 exact ⟨({ up := t4783, down := (List.replicate (Int.toNat ((a0).length : Int)) (0:Int)), join := [], meet := [], rank := (List.replicate (Int.toNat ((a0).length : Int)) (0:Int)), all := [] } : label_Lattice), b5051, (Pt b5056 0), _, hx5467, (fu 0 r0_0 z (fu 4 (.int .i64 ((a0).length : Int)) z (fu 5 (Pt b5051 0) z z))), hst⟩
}
}
 {
 refine nxe [1, 6, 7, 9] (by kernel_rfl) z z ?_
 clear hst
 intro w hst
 obtain ⟨b5063, w5064, ew5065, eb5066, hst⟩ := hst.box [.pointer none] 60
 refine we_run (v := Pt b5063 0) (w' := w5064) z (x_al (by kernel_rfl) ew5065 eb5066) ?_
 refine ws_next (pend' := [(0, r0_0)]) hst (by kernel_rfl) (pkr z z (fun w hst => z) pk_nil) ?_
 refine ws_e1 1 (by kernel_rfl) ?_
 refine nxe [6, 7, 9] (by kernel_rfl) z z ?_
 clear hst
 intro w hst
 refine wec call44 [r0_0] z z ?_
 refine (slices_Clone_uint64_uint64_ref (f0_0.mono (rd_weak _)) hst.to0 ht4784).mono ?_
 rintro _ w5068 ⟨v5071, rfl, hst⟩
 refine ⟨_, z, ?_⟩
 replace hst := hst.of1
 refine ws_next (pend' := []) hst (by kernel_rfl) pk_nil ?_
 refine wsr (.agg #[v5071, v4959, Zs, Zs, v5024, Zs]) 6 rfl rfl rfl (by kernel_rfl) (fun w hst => by obtain ⟨_, _, hv_, _⟩ := hst.sv2; rw [hv_]; obtain ⟨_, _, hv_, _⟩ := hst.sv3; rw [hv_]; obtain ⟨_, _, hv_, _⟩ := hst.sv0; rw [hv_]; kernel_rfl) ?_
 refine ws_e1 7 (by kernel_rfl) ?_
 refine nxe [9] (by kernel_rfl) z z ?_
 clear hst
 intro w hst
 obtain ⟨b5079, w5080, ew5081, eb5082, hst⟩ := hst.box [v5071, v4959, Zs, Zs, v5024, Zs] 73
 refine we_run (v := Pt b5079 0) (w' := w5080) z (x_al (by kernel_rfl) ew5081 eb5082) ?_
 refine ws_next (pend' := []) hst (by kernel_rfl) pk_nil ?_
 refine ws_e1 9 (by kernel_rfl) ?_
 refine nxe [] (by kernel_rfl) z z ?_
 clear hst
 intro w hst
 replace hst := hst.pull2
 obtain ⟨w5084, hr5085, hst⟩ := hst.by_ [Pt b5079 0] 0 (Pt b5079 0) sizeOf60 z (oC z oN) (by kernel_rfl)
 refine we_unit z (x_unit hr5085) ?_
 refine ws_next (pend' := []) hst (by kernel_rfl) pk_nil ?_
 refine ws_nil ?_
 intro w hst
 refine ⟨z, ?_⟩
 replace hst := hst.own_nil (tySl (tyInt .i64))
 replace hst := hst.own_nil (tySl (tyInt .i64))
 replace hst := hst.own_nil (tyInt .i64)
 replace hst := hst.pull6.pull2.pull3.pull7.pull7.pull7
 replace hst := at_label_Lattice_close (pv := Pt b5079 0) (x := ({ up := t4783, down := (List.replicate (Int.toNat ((a0).length : Int)) (0:Int)), join := [], meet := [], rank := (List.replicate (Int.toNat ((a0).length : Int)) (0:Int)), all := [] } : label_Lattice)) hst z
 replace hst := hst.pull1.keep2
 obtain rfl := some_inj hm
 exact ⟨({ up := t4783, down := (List.replicate (Int.toNat ((a0).length : Int)) (0:Int)), join := [], meet := [], rank := (List.replicate (Int.toNat ((a0).length : Int)) (0:Int)), all := [] } : label_Lattice), b5063, (Pt b5079 0), _, hx5467, (fu 0 r0_0 z (fu 4 (.int .i64 ((a0).length : Int)) z (fu 5 (Pt b5063 0) z z))), hst⟩
}
}
 {
 refine nxe [1, 5, 6, 7, 9] (by kernel_rfl) z z ?_
 clear hst
 intro w hst
 obtain ⟨b5086, w5087, ew5088, eb5089, hst⟩ := hst.box [.pointer none] 60
 refine we_run (v := Pt b5086 0) (w' := w5087) z (x_al (by kernel_rfl) ew5088 eb5089) ?_
 refine ws_next (pend' := [(4, I6 ((a0).length : Int)), (0, r0_0)]) hst (by kernel_rfl) (pkr z z (fun w hst => z) (pkr z z (fun w hst => z) pk_nil)) ?_
 refine ws_e2 1 5 (by kernel_rfl) ?_ ?_
 {
 refine nxe [5, 6, 7, 9] (by kernel_rfl) z z ?_
 clear hst
 intro w hst
 refine wec call44 [r0_0] z z ?_
 refine (slices_Clone_uint64_uint64_ref (f0_0.mono (rd_weak _)) hst.to0 ht4784).mono ?_
 rintro _ w5091 ⟨v5094, rfl, hst⟩
 refine ⟨_, z, ?_⟩
 replace hst := hst.of1
 refine ws_next (pend' := [(4, I6 ((a0).length : Int))]) hst (by kernel_rfl) (pkr z z (fun w hst => z) pk_nil) ?_
 refine ws_e1 5 (by kernel_rfl) ?_
 refine nxe [6, 7, 9] (by kernel_rfl) z z ?_
 clear hst
 intro w hst
 obtain ⟨v5096, w5097, hr5098, hst⟩ := run_mk (k := .i64) (k' := .i64) (zm := (0:Int)) elem_46 hst hg4786 (by decide) z
 refine we_run (v := v5096) (w' := w5097) z (x_make z z hr5098) ?_
 refine ws_next (pend' := []) hst (by kernel_rfl) pk_nil ?_
 refine wsr (.agg #[v5094, v4959, Zs, Zs, v5096, Zs]) 6 rfl rfl rfl (by kernel_rfl) (fun w hst => by obtain ⟨_, _, hv_, _⟩ := hst.sv0; rw [hv_]; obtain ⟨_, _, hv_, _⟩ := hst.sv3; rw [hv_]; obtain ⟨_, _, hv_, _⟩ := hst.sv1; rw [hv_]; kernel_rfl) ?_
 refine ws_e1 7 (by kernel_rfl) ?_
 refine nxe [9] (by kernel_rfl) z z ?_
 clear hst
 intro w hst
 obtain ⟨b5106, w5107, ew5108, eb5109, hst⟩ := hst.box [v5094, v4959, Zs, Zs, v5096, Zs] 73
 refine we_run (v := Pt b5106 0) (w' := w5107) z (x_al (by kernel_rfl) ew5108 eb5109) ?_
 refine ws_next (pend' := []) hst (by kernel_rfl) pk_nil ?_
 refine ws_e1 9 (by kernel_rfl) ?_
 refine nxe [] (by kernel_rfl) z z ?_
 clear hst
 intro w hst
 replace hst := hst.pull3
 obtain ⟨w5111, hr5112, hst⟩ := hst.by_ [Pt b5106 0] 0 (Pt b5106 0) sizeOf60 z (oC z oN) (by kernel_rfl)
 refine we_unit z (x_unit hr5112) ?_
 refine ws_next (pend' := []) hst (by kernel_rfl) pk_nil ?_
 refine ws_nil ?_
 intro w hst
 refine ⟨z, ?_⟩
 replace hst := hst.own_nil (tySl (tyInt .i64))
 replace hst := hst.own_nil (tySl (tyInt .i64))
 replace hst := hst.own_nil (tyInt .i64)
 replace hst := hst.pull5.pull2.pull3.pull7.pull7.pull7
 replace hst := at_label_Lattice_close (pv := Pt b5106 0) (x := ({ up := t4783, down := (List.replicate (Int.toNat ((a0).length : Int)) (0:Int)), join := [], meet := [], rank := (List.replicate (Int.toNat ((a0).length : Int)) (0:Int)), all := [] } : label_Lattice)) hst z
 replace hst := hst.pull1.keep2
 obtain rfl := some_inj hm
 exact ⟨({ up := t4783, down := (List.replicate (Int.toNat ((a0).length : Int)) (0:Int)), join := [], meet := [], rank := (List.replicate (Int.toNat ((a0).length : Int)) (0:Int)), all := [] } : label_Lattice), b5086, (Pt b5106 0), _, hx5467, (fu 0 r0_0 z (fu 4 (.int .i64 ((a0).length : Int)) z (fu 5 (Pt b5086 0) z z))), hst⟩
}
 {
 refine nxe [1, 6, 7, 9] (by kernel_rfl) z z ?_
 clear hst
 intro w hst
 obtain ⟨v5113, w5114, hr5115, hst⟩ := run_mk (k := .i64) (k' := .i64) (zm := (0:Int)) elem_46 hst hg4786 (by decide) z
 refine we_run (v := v5113) (w' := w5114) z (x_make z z hr5115) ?_
 refine ws_next (pend' := [(0, r0_0)]) hst (by kernel_rfl) (pkr z z (fun w hst => z) pk_nil) ?_
 refine ws_e1 1 (by kernel_rfl) ?_
 refine nxe [6, 7, 9] (by kernel_rfl) z z ?_
 clear hst
 intro w hst
 refine wec call44 [r0_0] z z ?_
 refine (slices_Clone_uint64_uint64_ref (f0_0.mono (rd_weak _)) hst.to0 ht4784).mono ?_
 rintro _ w5117 ⟨v5120, rfl, hst⟩
 refine ⟨_, z, ?_⟩
 replace hst := hst.of1
 refine ws_next (pend' := []) hst (by kernel_rfl) pk_nil ?_
 refine wsr (.agg #[v5120, v4959, Zs, Zs, v5113, Zs]) 6 rfl rfl rfl (by kernel_rfl) (fun w hst => by obtain ⟨_, _, hv_, _⟩ := hst.sv1; rw [hv_]; obtain ⟨_, _, hv_, _⟩ := hst.sv3; rw [hv_]; obtain ⟨_, _, hv_, _⟩ := hst.sv0; rw [hv_]; kernel_rfl) ?_
 refine ws_e1 7 (by kernel_rfl) ?_
 refine nxe [9] (by kernel_rfl) z z ?_
 clear hst
 intro w hst
 obtain ⟨b5128, w5129, ew5130, eb5131, hst⟩ := hst.box [v5120, v4959, Zs, Zs, v5113, Zs] 73
 refine we_run (v := Pt b5128 0) (w' := w5129) z (x_al (by kernel_rfl) ew5130 eb5131) ?_
 refine ws_next (pend' := []) hst (by kernel_rfl) pk_nil ?_
 refine ws_e1 9 (by kernel_rfl) ?_
 refine nxe [] (by kernel_rfl) z z ?_
 clear hst
 intro w hst
 replace hst := hst.pull3
 obtain ⟨w5133, hr5134, hst⟩ := hst.by_ [Pt b5128 0] 0 (Pt b5128 0) sizeOf60 z (oC z oN) (by kernel_rfl)
 refine we_unit z (x_unit hr5134) ?_
 refine ws_next (pend' := []) hst (by kernel_rfl) pk_nil ?_
 refine ws_nil ?_
 intro w hst
 refine ⟨z, ?_⟩
 replace hst := hst.own_nil (tySl (tyInt .i64))
 replace hst := hst.own_nil (tySl (tyInt .i64))
 replace hst := hst.own_nil (tyInt .i64)
 replace hst := hst.pull6.pull2.pull3.pull7.pull7.pull7
 replace hst := at_label_Lattice_close (pv := Pt b5128 0) (x := ({ up := t4783, down := (List.replicate (Int.toNat ((a0).length : Int)) (0:Int)), join := [], meet := [], rank := (List.replicate (Int.toNat ((a0).length : Int)) (0:Int)), all := [] } : label_Lattice)) hst z
 replace hst := hst.pull1.keep2
 obtain rfl := some_inj hm
 exact ⟨({ up := t4783, down := (List.replicate (Int.toNat ((a0).length : Int)) (0:Int)), join := [], meet := [], rank := (List.replicate (Int.toNat ((a0).length : Int)) (0:Int)), all := [] } : label_Lattice), b5086, (Pt b5128 0), _, hx5467, (fu 0 r0_0 z (fu 4 (.int .i64 ((a0).length : Int)) z (fu 5 (Pt b5086 0) z z))), hst⟩
}
}
}
 {
 refine nxe [1, 3, 6, 7, 8, 9] (by kernel_rfl) z z ?_
 clear hst
 intro w hst
 obtain ⟨v5135, w5136, hr5137, hst⟩ := run_mk (k := .i64) (k' := .i64) (zm := (0:Int)) elem_46 hst hg4786 (by decide) z
 refine we_run (v := v5135) (w' := w5136) z (x_make z z hr5137) ?_
 refine ws_next (pend' := [(2, I6 ((a0).length : Int)), (0, r0_0)]) hst (by kernel_rfl) (pkr z z (fun w hst => z) (pkr z z (fun w hst => z) pk_nil)) ?_
 refine ws_e3 1 3 8 (by kernel_rfl) ?_ ?_ ?_
 {
 refine nxe [3, 6, 7, 8, 9] (by kernel_rfl) z z ?_
 clear hst
 intro w hst
 refine wec call44 [r0_0] z z ?_
 refine (slices_Clone_uint64_uint64_ref (f0_0.mono (rd_weak _)) hst.to0 ht4784).mono ?_
 rintro _ w5139 ⟨v5142, rfl, hst⟩
 refine ⟨_, z, ?_⟩
 replace hst := hst.of1
 refine ws_next (pend' := [(2, I6 ((a0).length : Int))]) hst (by kernel_rfl) (pkr z z (fun w hst => z) pk_nil) ?_
 refine ws_e2 3 8 (by kernel_rfl) ?_ ?_
 {
 refine nxe [6, 7, 8, 9] (by kernel_rfl) z z ?_
 clear hst
 intro w hst
 obtain ⟨v5144, w5145, hr5146, hst⟩ := run_mk (k := .i64) (k' := .i64) (zm := (0:Int)) elem_25 hst hg4785 (by decide) z
 refine we_run (v := v5144) (w' := w5145) z (x_make z z hr5146) ?_
 refine ws_next (pend' := []) hst (by kernel_rfl) pk_nil ?_
 refine wsr (.agg #[v5142, v5144, Zs, Zs, v5135, Zs]) 6 rfl rfl rfl (by kernel_rfl) (fun w hst => by obtain ⟨_, _, hv_, _⟩ := hst.sv2; rw [hv_]; obtain ⟨_, _, hv_, _⟩ := hst.sv0; rw [hv_]; obtain ⟨_, _, hv_, _⟩ := hst.sv1; rw [hv_]; kernel_rfl) ?_
 refine ws_e2 7 8 (by kernel_rfl) ?_ ?_
 {
 refine nxe [8, 9] (by kernel_rfl) z z ?_
 clear hst
 intro w hst
 obtain ⟨b5154, w5155, ew5156, eb5157, hst⟩ := hst.box [v5142, v5144, Zs, Zs, v5135, Zs] 73
 refine we_run (v := Pt b5154 0) (w' := w5155) z (x_al (by kernel_rfl) ew5156 eb5157) ?_
 refine ws_next (pend' := []) hst (by kernel_rfl) pk_nil ?_
 refine ws_e1 8 (by kernel_rfl) ?_
 refine nxe [9] (by kernel_rfl) z z ?_
 clear hst
 intro w hst
 obtain ⟨b5159, w5160, ew5161, eb5162, hst⟩ := hst.box [.pointer none] 60
 refine we_run (v := Pt b5159 0) (w' := w5160) z (x_al (by kernel_rfl) ew5161 eb5162) ?_
 refine ws_next (pend' := []) hst (by kernel_rfl) pk_nil ?_
 refine ws_e1 9 (by kernel_rfl) ?_
 refine nxe [] (by kernel_rfl) z z ?_
 clear hst
 intro w hst
 obtain ⟨w5164, hr5165, hst⟩ := hst.by_ [Pt b5154 0] 0 (Pt b5154 0) sizeOf60 z (oC z oN) (by kernel_rfl)
 refine we_unit z (x_unit hr5165) ?_
 refine ws_next (pend' := []) hst (by kernel_rfl) pk_nil ?_
 refine ws_nil ?_
 intro w hst
 refine ⟨z, ?_⟩
 replace hst := hst.own_nil (tySl (tyInt .i64))
 replace hst := hst.own_nil (tySl (tyInt .i64))
 replace hst := hst.own_nil (tyInt .i64)
 replace hst := hst.pull7.pull2.pull3.pull6.pull7.pull7
 replace hst := at_label_Lattice_close (pv := Pt b5154 0) (x := ({ up := t4783, down := (List.replicate (Int.toNat ((a0).length : Int)) (0:Int)), join := [], meet := [], rank := (List.replicate (Int.toNat ((a0).length : Int)) (0:Int)), all := [] } : label_Lattice)) hst z
 replace hst := hst.pull1.keep2
 obtain rfl := some_inj hm
 exact ⟨({ up := t4783, down := (List.replicate (Int.toNat ((a0).length : Int)) (0:Int)), join := [], meet := [], rank := (List.replicate (Int.toNat ((a0).length : Int)) (0:Int)), all := [] } : label_Lattice), b5159, (Pt b5154 0), _, hx5467, (fu 0 r0_0 z (fu 4 (.int .i64 ((a0).length : Int)) z (fu 5 (Pt b5159 0) z z))), hst⟩
}
 {
 refine nxe [7, 9] (by kernel_rfl) z z ?_
 clear hst
 intro w hst
 obtain ⟨b5166, w5167, ew5168, eb5169, hst⟩ := hst.box [.pointer none] 60
 refine we_run (v := Pt b5166 0) (w' := w5167) z (x_al (by kernel_rfl) ew5168 eb5169) ?_
 refine ws_next (pend' := [(6, .agg #[v5142, v5144, Zs, Zs, v5135, Zs])]) hst (by kernel_rfl) (pkr rfl rfl (fun w hst => by obtain ⟨_, _, hv_, _⟩ := hst.sv3; rw [hv_]; obtain ⟨_, _, hv_, _⟩ := hst.sv1; rw [hv_]; obtain ⟨_, _, hv_, _⟩ := hst.sv2; rw [hv_]; kernel_rfl) pk_nil) ?_
 refine ws_e1 7 (by kernel_rfl) ?_
 refine nxe [9] (by kernel_rfl) z z ?_
 clear hst
 intro w hst
 obtain ⟨b5171, w5172, ew5173, eb5174, hst⟩ := hst.box [v5142, v5144, Zs, Zs, v5135, Zs] 73
 refine we_run (v := Pt b5171 0) (w' := w5172) z (x_al (by kernel_rfl) ew5173 eb5174) ?_
 refine ws_next (pend' := []) hst (by kernel_rfl) pk_nil ?_
 refine ws_e1 9 (by kernel_rfl) ?_
 refine nxe [] (by kernel_rfl) z z ?_
 clear hst
 intro w hst
 replace hst := hst.pull1
 obtain ⟨w5176, hr5177, hst⟩ := hst.by_ [Pt b5171 0] 0 (Pt b5171 0) sizeOf60 z (oC z oN) (by kernel_rfl)
 refine we_unit z (x_unit hr5177) ?_
 refine ws_next (pend' := []) hst (by kernel_rfl) pk_nil ?_
 refine ws_nil ?_
 intro w hst
 refine ⟨z, ?_⟩
 replace hst := hst.own_nil (tySl (tyInt .i64))
 replace hst := hst.own_nil (tySl (tyInt .i64))
 replace hst := hst.own_nil (tyInt .i64)
 replace hst := hst.pull7.pull2.pull3.pull6.pull7.pull7
 replace hst := at_label_Lattice_close (pv := Pt b5171 0) (x := ({ up := t4783, down := (List.replicate (Int.toNat ((a0).length : Int)) (0:Int)), join := [], meet := [], rank := (List.replicate (Int.toNat ((a0).length : Int)) (0:Int)), all := [] } : label_Lattice)) hst z
 replace hst := hst.pull1.keep2
 obtain rfl := some_inj hm
 exact ⟨({ up := t4783, down := (List.replicate (Int.toNat ((a0).length : Int)) (0:Int)), join := [], meet := [], rank := (List.replicate (Int.toNat ((a0).length : Int)) (0:Int)), all := [] } : label_Lattice), b5166, (Pt b5171 0), _, hx5467, (fu 0 r0_0 z (fu 4 (.int .i64 ((a0).length : Int)) z (fu 5 (Pt b5166 0) z z))), hst⟩
}
}
 {
 refine nxe [3, 6, 7, 9] (by kernel_rfl) z z ?_
 clear hst
 intro w hst
 obtain ⟨b5178, w5179, ew5180, eb5181, hst⟩ := hst.box [.pointer none] 60
 refine we_run (v := Pt b5178 0) (w' := w5179) z (x_al (by kernel_rfl) ew5180 eb5181) ?_
 refine ws_next (pend' := [(2, I6 ((a0).length : Int))]) hst (by kernel_rfl) (pkr z z (fun w hst => z) pk_nil) ?_
 refine ws_e1 3 (by kernel_rfl) ?_
 refine nxe [6, 7, 9] (by kernel_rfl) z z ?_
 clear hst
 intro w hst
 obtain ⟨v5183, w5184, hr5185, hst⟩ := run_mk (k := .i64) (k' := .i64) (zm := (0:Int)) elem_25 hst hg4785 (by decide) z
 refine we_run (v := v5183) (w' := w5184) z (x_make z z hr5185) ?_
 refine ws_next (pend' := []) hst (by kernel_rfl) pk_nil ?_
 refine wsr (.agg #[v5142, v5183, Zs, Zs, v5135, Zs]) 6 rfl rfl rfl (by kernel_rfl) (fun w hst => by obtain ⟨_, _, hv_, _⟩ := hst.sv3; rw [hv_]; obtain ⟨_, _, hv_, _⟩ := hst.sv0; rw [hv_]; obtain ⟨_, _, hv_, _⟩ := hst.sv2; rw [hv_]; kernel_rfl) ?_
 refine ws_e1 7 (by kernel_rfl) ?_
 refine nxe [9] (by kernel_rfl) z z ?_
 clear hst
 intro w hst
 obtain ⟨b5193, w5194, ew5195, eb5196, hst⟩ := hst.box [v5142, v5183, Zs, Zs, v5135, Zs] 73
 refine we_run (v := Pt b5193 0) (w' := w5194) z (x_al (by kernel_rfl) ew5195 eb5196) ?_
 refine ws_next (pend' := []) hst (by kernel_rfl) pk_nil ?_
 refine ws_e1 9 (by kernel_rfl) ?_
 refine nxe [] (by kernel_rfl) z z ?_
 clear hst
 intro w hst
 replace hst := hst.pull2
 obtain ⟨w5198, hr5199, hst⟩ := hst.by_ [Pt b5193 0] 0 (Pt b5193 0) sizeOf60 z (oC z oN) (by kernel_rfl)
 refine we_unit z (x_unit hr5199) ?_
 refine ws_next (pend' := []) hst (by kernel_rfl) pk_nil ?_
 refine ws_nil ?_
 intro w hst
 refine ⟨z, ?_⟩
 replace hst := hst.own_nil (tySl (tyInt .i64))
 replace hst := hst.own_nil (tySl (tyInt .i64))
 replace hst := hst.own_nil (tyInt .i64)
 replace hst := hst.pull7.pull2.pull3.pull6.pull7.pull7
 replace hst := at_label_Lattice_close (pv := Pt b5193 0) (x := ({ up := t4783, down := (List.replicate (Int.toNat ((a0).length : Int)) (0:Int)), join := [], meet := [], rank := (List.replicate (Int.toNat ((a0).length : Int)) (0:Int)), all := [] } : label_Lattice)) hst z
 replace hst := hst.pull1.keep2
 obtain rfl := some_inj hm
 exact ⟨({ up := t4783, down := (List.replicate (Int.toNat ((a0).length : Int)) (0:Int)), join := [], meet := [], rank := (List.replicate (Int.toNat ((a0).length : Int)) (0:Int)), all := [] } : label_Lattice), b5178, (Pt b5193 0), _, hx5467, (fu 0 r0_0 z (fu 4 (.int .i64 ((a0).length : Int)) z (fu 5 (Pt b5178 0) z z))), hst⟩
}
}
 {
 refine nxe [1, 6, 7, 8, 9] (by kernel_rfl) z z ?_
 clear hst
 intro w hst
 obtain ⟨v5200, w5201, hr5202, hst⟩ := run_mk (k := .i64) (k' := .i64) (zm := (0:Int)) elem_25 hst hg4785 (by decide) z
 refine we_run (v := v5200) (w' := w5201) z (x_make z z hr5202) ?_
 refine ws_next (pend' := [(0, r0_0)]) hst (by kernel_rfl) (pkr z z (fun w hst => z) pk_nil) ?_
 refine ws_e2 1 8 (by kernel_rfl) ?_ ?_
 {
 refine nxe [6, 7, 8, 9] (by kernel_rfl) z z ?_
 clear hst
 intro w hst
 refine wec call44 [r0_0] z z ?_
 refine (slices_Clone_uint64_uint64_ref (f0_0.mono (rd_weak _)) hst.to0 ht4784).mono ?_
 rintro _ w5204 ⟨v5207, rfl, hst⟩
 refine ⟨_, z, ?_⟩
 replace hst := hst.of1
 refine ws_next (pend' := []) hst (by kernel_rfl) pk_nil ?_
 refine wsr (.agg #[v5207, v5200, Zs, Zs, v5135, Zs]) 6 rfl rfl rfl (by kernel_rfl) (fun w hst => by obtain ⟨_, _, hv_, _⟩ := hst.sv2; rw [hv_]; obtain ⟨_, _, hv_, _⟩ := hst.sv1; rw [hv_]; obtain ⟨_, _, hv_, _⟩ := hst.sv0; rw [hv_]; kernel_rfl) ?_
 refine ws_e2 7 8 (by kernel_rfl) ?_ ?_
 {
 refine nxe [8, 9] (by kernel_rfl) z z ?_
 clear hst
 intro w hst
 obtain ⟨b5215, w5216, ew5217, eb5218, hst⟩ := hst.box [v5207, v5200, Zs, Zs, v5135, Zs] 73
 refine we_run (v := Pt b5215 0) (w' := w5216) z (x_al (by kernel_rfl) ew5217 eb5218) ?_
 refine ws_next (pend' := []) hst (by kernel_rfl) pk_nil ?_
 refine ws_e1 8 (by kernel_rfl) ?_
 refine nxe [9] (by kernel_rfl) z z ?_
 clear hst
 intro w hst
 obtain ⟨b5220, w5221, ew5222, eb5223, hst⟩ := hst.box [.pointer none] 60
 refine we_run (v := Pt b5220 0) (w' := w5221) z (x_al (by kernel_rfl) ew5222 eb5223) ?_
 refine ws_next (pend' := []) hst (by kernel_rfl) pk_nil ?_
 refine ws_e1 9 (by kernel_rfl) ?_
 refine nxe [] (by kernel_rfl) z z ?_
 clear hst
 intro w hst
 obtain ⟨w5225, hr5226, hst⟩ := hst.by_ [Pt b5215 0] 0 (Pt b5215 0) sizeOf60 z (oC z oN) (by kernel_rfl)
 refine we_unit z (x_unit hr5226) ?_
 refine ws_next (pend' := []) hst (by kernel_rfl) pk_nil ?_
 refine ws_nil ?_
 intro w hst
 refine ⟨z, ?_⟩
 replace hst := hst.own_nil (tySl (tyInt .i64))
 replace hst := hst.own_nil (tySl (tyInt .i64))
 replace hst := hst.own_nil (tyInt .i64)
 replace hst := hst.pull7.pull2.pull3.pull7.pull7.pull7
 replace hst := at_label_Lattice_close (pv := Pt b5215 0) (x := ({ up := t4783, down := (List.replicate (Int.toNat ((a0).length : Int)) (0:Int)), join := [], meet := [], rank := (List.replicate (Int.toNat ((a0).length : Int)) (0:Int)), all := [] } : label_Lattice)) hst z
 replace hst := hst.pull1.keep2
 obtain rfl := some_inj hm
 exact ⟨({ up := t4783, down := (List.replicate (Int.toNat ((a0).length : Int)) (0:Int)), join := [], meet := [], rank := (List.replicate (Int.toNat ((a0).length : Int)) (0:Int)), all := [] } : label_Lattice), b5220, (Pt b5215 0), _, hx5467, (fu 0 r0_0 z (fu 4 (.int .i64 ((a0).length : Int)) z (fu 5 (Pt b5220 0) z z))), hst⟩
}
 {
 refine nxe [7, 9] (by kernel_rfl) z z ?_
 clear hst
 intro w hst
 obtain ⟨b5227, w5228, ew5229, eb5230, hst⟩ := hst.box [.pointer none] 60
 refine we_run (v := Pt b5227 0) (w' := w5228) z (x_al (by kernel_rfl) ew5229 eb5230) ?_
 refine ws_next (pend' := [(6, .agg #[v5207, v5200, Zs, Zs, v5135, Zs])]) hst (by kernel_rfl) (pkr rfl rfl (fun w hst => by obtain ⟨_, _, hv_, _⟩ := hst.sv3; rw [hv_]; obtain ⟨_, _, hv_, _⟩ := hst.sv2; rw [hv_]; obtain ⟨_, _, hv_, _⟩ := hst.sv1; rw [hv_]; kernel_rfl) pk_nil) ?_
 refine ws_e1 7 (by kernel_rfl) ?_
 refine nxe [9] (by kernel_rfl) z z ?_
 clear hst
 intro w hst
 obtain ⟨b5232, w5233, ew5234, eb5235, hst⟩ := hst.box [v5207, v5200, Zs, Zs, v5135, Zs] 73
 refine we_run (v := Pt b5232 0) (w' := w5233) z (x_al (by kernel_rfl) ew5234 eb5235) ?_
 refine ws_next (pend' := []) hst (by kernel_rfl) pk_nil ?_
 refine ws_e1 9 (by kernel_rfl) ?_
 refine nxe [] (by kernel_rfl) z z ?_
 clear hst
 intro w hst
 replace hst := hst.pull1
 obtain ⟨w5237, hr5238, hst⟩ := hst.by_ [Pt b5232 0] 0 (Pt b5232 0) sizeOf60 z (oC z oN) (by kernel_rfl)
 refine we_unit z (x_unit hr5238) ?_
 refine ws_next (pend' := []) hst (by kernel_rfl) pk_nil ?_
 refine ws_nil ?_
 intro w hst
 refine ⟨z, ?_⟩
 replace hst := hst.own_nil (tySl (tyInt .i64))
 replace hst := hst.own_nil (tySl (tyInt .i64))
 replace hst := hst.own_nil (tyInt .i64)
 replace hst := hst.pull7.pull2.pull3.pull7.pull7.pull7
 replace hst := at_label_Lattice_close (pv := Pt b5232 0) (x := ({ up := t4783, down := (List.replicate (Int.toNat ((a0).length : Int)) (0:Int)), join := [], meet := [], rank := (List.replicate (Int.toNat ((a0).length : Int)) (0:Int)), all := [] } : label_Lattice)) hst z
 replace hst := hst.pull1.keep2
 obtain rfl := some_inj hm
 exact ⟨({ up := t4783, down := (List.replicate (Int.toNat ((a0).length : Int)) (0:Int)), join := [], meet := [], rank := (List.replicate (Int.toNat ((a0).length : Int)) (0:Int)), all := [] } : label_Lattice), b5227, (Pt b5232 0), _, hx5467, (fu 0 r0_0 z (fu 4 (.int .i64 ((a0).length : Int)) z (fu 5 (Pt b5227 0) z z))), hst⟩
}
}
 {
 refine nxe [1, 6, 7, 9] (by kernel_rfl) z z ?_
 clear hst
 intro w hst
 obtain ⟨b5239, w5240, ew5241, eb5242, hst⟩ := hst.box [.pointer none] 60
 refine we_run (v := Pt b5239 0) (w' := w5240) z (x_al (by kernel_rfl) ew5241 eb5242) ?_
 refine ws_next (pend' := [(0, r0_0)]) hst (by kernel_rfl) (pkr z z (fun w hst => z) pk_nil) ?_
 refine ws_e1 1 (by kernel_rfl) ?_
 refine nxe [6, 7, 9] (by kernel_rfl) z z ?_
 clear hst
 intro w hst
 refine wec call44 [r0_0] z z ?_
 refine (slices_Clone_uint64_uint64_ref (f0_0.mono (rd_weak _)) hst.to0 ht4784).mono ?_
 rintro _ w5244 ⟨v5247, rfl, hst⟩
 refine ⟨_, z, ?_⟩
 replace hst := hst.of1
 refine ws_next (pend' := []) hst (by kernel_rfl) pk_nil ?_
 refine wsr (.agg #[v5247, v5200, Zs, Zs, v5135, Zs]) 6 rfl rfl rfl (by kernel_rfl) (fun w hst => by obtain ⟨_, _, hv_, _⟩ := hst.sv3; rw [hv_]; obtain ⟨_, _, hv_, _⟩ := hst.sv2; rw [hv_]; obtain ⟨_, _, hv_, _⟩ := hst.sv0; rw [hv_]; kernel_rfl) ?_
 refine ws_e1 7 (by kernel_rfl) ?_
 refine nxe [9] (by kernel_rfl) z z ?_
 clear hst
 intro w hst
 obtain ⟨b5255, w5256, ew5257, eb5258, hst⟩ := hst.box [v5247, v5200, Zs, Zs, v5135, Zs] 73
 refine we_run (v := Pt b5255 0) (w' := w5256) z (x_al (by kernel_rfl) ew5257 eb5258) ?_
 refine ws_next (pend' := []) hst (by kernel_rfl) pk_nil ?_
 refine ws_e1 9 (by kernel_rfl) ?_
 refine nxe [] (by kernel_rfl) z z ?_
 clear hst
 intro w hst
 replace hst := hst.pull2
 obtain ⟨w5260, hr5261, hst⟩ := hst.by_ [Pt b5255 0] 0 (Pt b5255 0) sizeOf60 z (oC z oN) (by kernel_rfl)
 refine we_unit z (x_unit hr5261) ?_
 refine ws_next (pend' := []) hst (by kernel_rfl) pk_nil ?_
 refine ws_nil ?_
 intro w hst
 refine ⟨z, ?_⟩
 replace hst := hst.own_nil (tySl (tyInt .i64))
 replace hst := hst.own_nil (tySl (tyInt .i64))
 replace hst := hst.own_nil (tyInt .i64)
 replace hst := hst.pull7.pull2.pull3.pull7.pull7.pull7
 replace hst := at_label_Lattice_close (pv := Pt b5255 0) (x := ({ up := t4783, down := (List.replicate (Int.toNat ((a0).length : Int)) (0:Int)), join := [], meet := [], rank := (List.replicate (Int.toNat ((a0).length : Int)) (0:Int)), all := [] } : label_Lattice)) hst z
 replace hst := hst.pull1.keep2
 obtain rfl := some_inj hm
 exact ⟨({ up := t4783, down := (List.replicate (Int.toNat ((a0).length : Int)) (0:Int)), join := [], meet := [], rank := (List.replicate (Int.toNat ((a0).length : Int)) (0:Int)), all := [] } : label_Lattice), b5239, (Pt b5255 0), _, hx5467, (fu 0 r0_0 z (fu 4 (.int .i64 ((a0).length : Int)) z (fu 5 (Pt b5239 0) z z))), hst⟩
}
}
 {
 refine nxe [1, 3, 6, 7, 9] (by kernel_rfl) z z ?_
 clear hst
 intro w hst
 obtain ⟨b5262, w5263, ew5264, eb5265, hst⟩ := hst.box [.pointer none] 60
 refine we_run (v := Pt b5262 0) (w' := w5263) z (x_al (by kernel_rfl) ew5264 eb5265) ?_
 refine ws_next (pend' := [(2, I6 ((a0).length : Int)), (0, r0_0)]) hst (by kernel_rfl) (pkr z z (fun w hst => z) (pkr z z (fun w hst => z) pk_nil)) ?_
 refine ws_e2 1 3 (by kernel_rfl) ?_ ?_
 {
 refine nxe [3, 6, 7, 9] (by kernel_rfl) z z ?_
 clear hst
 intro w hst
 refine wec call44 [r0_0] z z ?_
 refine (slices_Clone_uint64_uint64_ref (f0_0.mono (rd_weak _)) hst.to0 ht4784).mono ?_
 rintro _ w5267 ⟨v5270, rfl, hst⟩
 refine ⟨_, z, ?_⟩
 replace hst := hst.of1
 refine ws_next (pend' := [(2, I6 ((a0).length : Int))]) hst (by kernel_rfl) (pkr z z (fun w hst => z) pk_nil) ?_
 refine ws_e1 3 (by kernel_rfl) ?_
 refine nxe [6, 7, 9] (by kernel_rfl) z z ?_
 clear hst
 intro w hst
 obtain ⟨v5272, w5273, hr5274, hst⟩ := run_mk (k := .i64) (k' := .i64) (zm := (0:Int)) elem_25 hst hg4785 (by decide) z
 refine we_run (v := v5272) (w' := w5273) z (x_make z z hr5274) ?_
 refine ws_next (pend' := []) hst (by kernel_rfl) pk_nil ?_
 refine wsr (.agg #[v5270, v5272, Zs, Zs, v5135, Zs]) 6 rfl rfl rfl (by kernel_rfl) (fun w hst => by obtain ⟨_, _, hv_, _⟩ := hst.sv3; rw [hv_]; obtain ⟨_, _, hv_, _⟩ := hst.sv0; rw [hv_]; obtain ⟨_, _, hv_, _⟩ := hst.sv1; rw [hv_]; kernel_rfl) ?_
 refine ws_e1 7 (by kernel_rfl) ?_
 refine nxe [9] (by kernel_rfl) z z ?_
 clear hst
 intro w hst
 obtain ⟨b5282, w5283, ew5284, eb5285, hst⟩ := hst.box [v5270, v5272, Zs, Zs, v5135, Zs] 73
 refine we_run (v := Pt b5282 0) (w' := w5283) z (x_al (by kernel_rfl) ew5284 eb5285) ?_
 refine ws_next (pend' := []) hst (by kernel_rfl) pk_nil ?_
 refine ws_e1 9 (by kernel_rfl) ?_
 refine nxe [] (by kernel_rfl) z z ?_
 clear hst
 intro w hst
 replace hst := hst.pull3
 obtain ⟨w5287, hr5288, hst⟩ := hst.by_ [Pt b5282 0] 0 (Pt b5282 0) sizeOf60 z (oC z oN) (by kernel_rfl)
 refine we_unit z (x_unit hr5288) ?_
 refine ws_next (pend' := []) hst (by kernel_rfl) pk_nil ?_
 refine ws_nil ?_
 intro w hst
 refine ⟨z, ?_⟩
 replace hst := hst.own_nil (tySl (tyInt .i64))
 replace hst := hst.own_nil (tySl (tyInt .i64))
 replace hst := hst.own_nil (tyInt .i64)
 replace hst := hst.pull7.pull2.pull3.pull6.pull7.pull7
 replace hst := at_label_Lattice_close (pv := Pt b5282 0) (x := ({ up := t4783, down := (List.replicate (Int.toNat ((a0).length : Int)) (0:Int)), join := [], meet := [], rank := (List.replicate (Int.toNat ((a0).length : Int)) (0:Int)), all := [] } : label_Lattice)) hst z
 replace hst := hst.pull1.keep2
 obtain rfl := some_inj hm
 exact ⟨({ up := t4783, down := (List.replicate (Int.toNat ((a0).length : Int)) (0:Int)), join := [], meet := [], rank := (List.replicate (Int.toNat ((a0).length : Int)) (0:Int)), all := [] } : label_Lattice), b5262, (Pt b5282 0), _, hx5467, (fu 0 r0_0 z (fu 4 (.int .i64 ((a0).length : Int)) z (fu 5 (Pt b5262 0) z z))), hst⟩
}
 {
 refine nxe [1, 6, 7, 9] (by kernel_rfl) z z ?_
 clear hst
 intro w hst
 obtain ⟨v5289, w5290, hr5291, hst⟩ := run_mk (k := .i64) (k' := .i64) (zm := (0:Int)) elem_25 hst hg4785 (by decide) z
 refine we_run (v := v5289) (w' := w5290) z (x_make z z hr5291) ?_
 refine ws_next (pend' := [(0, r0_0)]) hst (by kernel_rfl) (pkr z z (fun w hst => z) pk_nil) ?_
 refine ws_e1 1 (by kernel_rfl) ?_
 refine nxe [6, 7, 9] (by kernel_rfl) z z ?_
 clear hst
 intro w hst
 refine wec call44 [r0_0] z z ?_
 refine (slices_Clone_uint64_uint64_ref (f0_0.mono (rd_weak _)) hst.to0 ht4784).mono ?_
 rintro _ w5293 ⟨v5296, rfl, hst⟩
 refine ⟨_, z, ?_⟩
 replace hst := hst.of1
 refine ws_next (pend' := []) hst (by kernel_rfl) pk_nil ?_
 refine wsr (.agg #[v5296, v5289, Zs, Zs, v5135, Zs]) 6 rfl rfl rfl (by kernel_rfl) (fun w hst => by obtain ⟨_, _, hv_, _⟩ := hst.sv3; rw [hv_]; obtain ⟨_, _, hv_, _⟩ := hst.sv1; rw [hv_]; obtain ⟨_, _, hv_, _⟩ := hst.sv0; rw [hv_]; kernel_rfl) ?_
 refine ws_e1 7 (by kernel_rfl) ?_
 refine nxe [9] (by kernel_rfl) z z ?_
 clear hst
 intro w hst
 obtain ⟨b5304, w5305, ew5306, eb5307, hst⟩ := hst.box [v5296, v5289, Zs, Zs, v5135, Zs] 73
 refine we_run (v := Pt b5304 0) (w' := w5305) z (x_al (by kernel_rfl) ew5306 eb5307) ?_
 refine ws_next (pend' := []) hst (by kernel_rfl) pk_nil ?_
 refine ws_e1 9 (by kernel_rfl) ?_
 refine nxe [] (by kernel_rfl) z z ?_
 clear hst
 intro w hst
 replace hst := hst.pull3
 obtain ⟨w5309, hr5310, hst⟩ := hst.by_ [Pt b5304 0] 0 (Pt b5304 0) sizeOf60 z (oC z oN) (by kernel_rfl)
 refine we_unit z (x_unit hr5310) ?_
 refine ws_next (pend' := []) hst (by kernel_rfl) pk_nil ?_
 refine ws_nil ?_
 intro w hst
 refine ⟨z, ?_⟩
 replace hst := hst.own_nil (tySl (tyInt .i64))
 replace hst := hst.own_nil (tySl (tyInt .i64))
 replace hst := hst.own_nil (tyInt .i64)
 replace hst := hst.pull7.pull2.pull3.pull7.pull7.pull7
 replace hst := at_label_Lattice_close (pv := Pt b5304 0) (x := ({ up := t4783, down := (List.replicate (Int.toNat ((a0).length : Int)) (0:Int)), join := [], meet := [], rank := (List.replicate (Int.toNat ((a0).length : Int)) (0:Int)), all := [] } : label_Lattice)) hst z
 replace hst := hst.pull1.keep2
 obtain rfl := some_inj hm
 exact ⟨({ up := t4783, down := (List.replicate (Int.toNat ((a0).length : Int)) (0:Int)), join := [], meet := [], rank := (List.replicate (Int.toNat ((a0).length : Int)) (0:Int)), all := [] } : label_Lattice), b5262, (Pt b5304 0), _, hx5467, (fu 0 r0_0 z (fu 4 (.int .i64 ((a0).length : Int)) z (fu 5 (Pt b5262 0) z z))), hst⟩
}
}
}
 {
 refine nxe [1, 3, 5, 6, 7, 9] (by kernel_rfl) z z ?_
 clear hst
 intro w hst
 obtain ⟨b5311, w5312, ew5313, eb5314, hst⟩ := hst.box [.pointer none] 60
 refine we_run (v := Pt b5311 0) (w' := w5312) z (x_al (by kernel_rfl) ew5313 eb5314) ?_
 refine ws_next (pend' := [(4, I6 ((a0).length : Int)), (2, I6 ((a0).length : Int)), (0, r0_0)]) hst (by kernel_rfl) (pkr z z (fun w hst => z) (pkr z z (fun w hst => z) (pkr z z (fun w hst => z) pk_nil))) ?_
 refine ws_e3 1 3 5 (by kernel_rfl) ?_ ?_ ?_
 {
 refine nxe [3, 5, 6, 7, 9] (by kernel_rfl) z z ?_
 clear hst
 intro w hst
 refine wec call44 [r0_0] z z ?_
 refine (slices_Clone_uint64_uint64_ref (f0_0.mono (rd_weak _)) hst.to0 ht4784).mono ?_
 rintro _ w5316 ⟨v5319, rfl, hst⟩
 refine ⟨_, z, ?_⟩
 replace hst := hst.of1
 refine ws_next (pend' := [(4, I6 ((a0).length : Int)), (2, I6 ((a0).length : Int))]) hst (by kernel_rfl) (pkr z z (fun w hst => z) (pkr z z (fun w hst => z) pk_nil)) ?_
 refine ws_e2 3 5 (by kernel_rfl) ?_ ?_
 {
 refine nxe [5, 6, 7, 9] (by kernel_rfl) z z ?_
 clear hst
 intro w hst
 obtain ⟨v5321, w5322, hr5323, hst⟩ := run_mk (k := .i64) (k' := .i64) (zm := (0:Int)) elem_25 hst hg4785 (by decide) z
 refine we_run (v := v5321) (w' := w5322) z (x_make z z hr5323) ?_
 refine ws_next (pend' := [(4, I6 ((a0).length : Int))]) hst (by kernel_rfl) (pkr z z (fun w hst => z) pk_nil) ?_
 refine ws_e1 5 (by kernel_rfl) ?_
 refine nxe [6, 7, 9] (by kernel_rfl) z z ?_
 clear hst
 intro w hst
 obtain ⟨v5325, w5326, hr5327, hst⟩ := run_mk (k := .i64) (k' := .i64) (zm := (0:Int)) elem_46 hst hg4786 (by decide) z
 refine we_run (v := v5325) (w' := w5326) z (x_make z z hr5327) ?_
 refine ws_next (pend' := []) hst (by kernel_rfl) pk_nil ?_
 refine wsr (.agg #[v5319, v5321, Zs, Zs, v5325, Zs]) 6 rfl rfl rfl (by kernel_rfl) (fun w hst => by obtain ⟨_, _, hv_, _⟩ := hst.sv0; rw [hv_]; obtain ⟨_, _, hv_, _⟩ := hst.sv1; rw [hv_]; obtain ⟨_, _, hv_, _⟩ := hst.sv2; rw [hv_]; kernel_rfl) ?_
 refine ws_e1 7 (by kernel_rfl) ?_
 refine nxe [9] (by kernel_rfl) z z ?_
 clear hst
 intro w hst
 obtain ⟨b5335, w5336, ew5337, eb5338, hst⟩ := hst.box [v5319, v5321, Zs, Zs, v5325, Zs] 73
 refine we_run (v := Pt b5335 0) (w' := w5336) z (x_al (by kernel_rfl) ew5337 eb5338) ?_
 refine ws_next (pend' := []) hst (by kernel_rfl) pk_nil ?_
 refine ws_e1 9 (by kernel_rfl) ?_
 refine nxe [] (by kernel_rfl) z z ?_
 clear hst
 intro w hst
 replace hst := hst.pull4
 obtain ⟨w5340, hr5341, hst⟩ := hst.by_ [Pt b5335 0] 0 (Pt b5335 0) sizeOf60 z (oC z oN) (by kernel_rfl)
 refine we_unit z (x_unit hr5341) ?_
 refine ws_next (pend' := []) hst (by kernel_rfl) pk_nil ?_
 refine ws_nil ?_
 intro w hst
 refine ⟨z, ?_⟩
 replace hst := hst.own_nil (tySl (tyInt .i64))
 replace hst := hst.own_nil (tySl (tyInt .i64))
 replace hst := hst.own_nil (tyInt .i64)
 replace hst := hst.pull5.pull2.pull3.pull6.pull7.pull7
 replace hst := at_label_Lattice_close (pv := Pt b5335 0) (x := ({ up := t4783, down := (List.replicate (Int.toNat ((a0).length : Int)) (0:Int)), join := [], meet := [], rank := (List.replicate (Int.toNat ((a0).length : Int)) (0:Int)), all := [] } : label_Lattice)) hst z
 replace hst := hst.pull1.keep2
 obtain rfl := some_inj hm
 exact ⟨({ up := t4783, down := (List.replicate (Int.toNat ((a0).length : Int)) (0:Int)), join := [], meet := [], rank := (List.replicate (Int.toNat ((a0).length : Int)) (0:Int)), all := [] } : label_Lattice), b5311, (Pt b5335 0), _, hx5467, (fu 0 r0_0 z (fu 4 (.int .i64 ((a0).length : Int)) z (fu 5 (Pt b5311 0) z z))), hst⟩
}
 {
 refine nxe [3, 6, 7, 9] (by kernel_rfl) z z ?_
 clear hst
 intro w hst
 obtain ⟨v5342, w5343, hr5344, hst⟩ := run_mk (k := .i64) (k' := .i64) (zm := (0:Int)) elem_46 hst hg4786 (by decide) z
 refine we_run (v := v5342) (w' := w5343) z (x_make z z hr5344) ?_
 refine ws_next (pend' := [(2, I6 ((a0).length : Int))]) hst (by kernel_rfl) (pkr z z (fun w hst => z) pk_nil) ?_
 refine ws_e1 3 (by kernel_rfl) ?_
 refine nxe [6, 7, 9] (by kernel_rfl) z z ?_
 clear hst
 intro w hst
 obtain ⟨v5346, w5347, hr5348, hst⟩ := run_mk (k := .i64) (k' := .i64) (zm := (0:Int)) elem_25 hst hg4785 (by decide) z
 refine we_run (v := v5346) (w' := w5347) z (x_make z z hr5348) ?_
 refine ws_next (pend' := []) hst (by kernel_rfl) pk_nil ?_
 refine wsr (.agg #[v5319, v5346, Zs, Zs, v5342, Zs]) 6 rfl rfl rfl (by kernel_rfl) (fun w hst => by obtain ⟨_, _, hv_, _⟩ := hst.sv1; rw [hv_]; obtain ⟨_, _, hv_, _⟩ := hst.sv0; rw [hv_]; obtain ⟨_, _, hv_, _⟩ := hst.sv2; rw [hv_]; kernel_rfl) ?_
 refine ws_e1 7 (by kernel_rfl) ?_
 refine nxe [9] (by kernel_rfl) z z ?_
 clear hst
 intro w hst
 obtain ⟨b5356, w5357, ew5358, eb5359, hst⟩ := hst.box [v5319, v5346, Zs, Zs, v5342, Zs] 73
 refine we_run (v := Pt b5356 0) (w' := w5357) z (x_al (by kernel_rfl) ew5358 eb5359) ?_
 refine ws_next (pend' := []) hst (by kernel_rfl) pk_nil ?_
 refine ws_e1 9 (by kernel_rfl) ?_
 refine nxe [] (by kernel_rfl) z z ?_
 clear hst
 intro w hst
 replace hst := hst.pull4
 obtain ⟨w5361, hr5362, hst⟩ := hst.by_ [Pt b5356 0] 0 (Pt b5356 0) sizeOf60 z (oC z oN) (by kernel_rfl)
 refine we_unit z (x_unit hr5362) ?_
 refine ws_next (pend' := []) hst (by kernel_rfl) pk_nil ?_
 refine ws_nil ?_
 intro w hst
 refine ⟨z, ?_⟩
 replace hst := hst.own_nil (tySl (tyInt .i64))
 replace hst := hst.own_nil (tySl (tyInt .i64))
 replace hst := hst.own_nil (tyInt .i64)
 replace hst := hst.pull6.pull2.pull3.pull6.pull7.pull7
 replace hst := at_label_Lattice_close (pv := Pt b5356 0) (x := ({ up := t4783, down := (List.replicate (Int.toNat ((a0).length : Int)) (0:Int)), join := [], meet := [], rank := (List.replicate (Int.toNat ((a0).length : Int)) (0:Int)), all := [] } : label_Lattice)) hst z
 replace hst := hst.pull1.keep2
 obtain rfl := some_inj hm
 exact ⟨({ up := t4783, down := (List.replicate (Int.toNat ((a0).length : Int)) (0:Int)), join := [], meet := [], rank := (List.replicate (Int.toNat ((a0).length : Int)) (0:Int)), all := [] } : label_Lattice), b5311, (Pt b5356 0), _, hx5467, (fu 0 r0_0 z (fu 4 (.int .i64 ((a0).length : Int)) z (fu 5 (Pt b5311 0) z z))), hst⟩
}
}
 {
 refine nxe [1, 5, 6, 7, 9] (by kernel_rfl) z z ?_
 clear hst
 intro w hst
 obtain ⟨v5363, w5364, hr5365, hst⟩ := run_mk (k := .i64) (k' := .i64) (zm := (0:Int)) elem_25 hst hg4785 (by decide) z
 refine we_run (v := v5363) (w' := w5364) z (x_make z z hr5365) ?_
 refine ws_next (pend' := [(4, I6 ((a0).length : Int)), (0, r0_0)]) hst (by kernel_rfl) (pkr z z (fun w hst => z) (pkr z z (fun w hst => z) pk_nil)) ?_
 refine ws_e2 1 5 (by kernel_rfl) ?_ ?_
 {
 refine nxe [5, 6, 7, 9] (by kernel_rfl) z z ?_
 clear hst
 intro w hst
 refine wec call44 [r0_0] z z ?_
 refine (slices_Clone_uint64_uint64_ref (f0_0.mono (rd_weak _)) hst.to0 ht4784).mono ?_
 rintro _ w5367 ⟨v5370, rfl, hst⟩
 refine ⟨_, z, ?_⟩
 replace hst := hst.of1
 refine ws_next (pend' := [(4, I6 ((a0).length : Int))]) hst (by kernel_rfl) (pkr z z (fun w hst => z) pk_nil) ?_
 refine ws_e1 5 (by kernel_rfl) ?_
 refine nxe [6, 7, 9] (by kernel_rfl) z z ?_
 clear hst
 intro w hst
 obtain ⟨v5372, w5373, hr5374, hst⟩ := run_mk (k := .i64) (k' := .i64) (zm := (0:Int)) elem_46 hst hg4786 (by decide) z
 refine we_run (v := v5372) (w' := w5373) z (x_make z z hr5374) ?_
 refine ws_next (pend' := []) hst (by kernel_rfl) pk_nil ?_
 refine wsr (.agg #[v5370, v5363, Zs, Zs, v5372, Zs]) 6 rfl rfl rfl (by kernel_rfl) (fun w hst => by obtain ⟨_, _, hv_, _⟩ := hst.sv0; rw [hv_]; obtain ⟨_, _, hv_, _⟩ := hst.sv2; rw [hv_]; obtain ⟨_, _, hv_, _⟩ := hst.sv1; rw [hv_]; kernel_rfl) ?_
 refine ws_e1 7 (by kernel_rfl) ?_
 refine nxe [9] (by kernel_rfl) z z ?_
 clear hst
 intro w hst
 obtain ⟨b5382, w5383, ew5384, eb5385, hst⟩ := hst.box [v5370, v5363, Zs, Zs, v5372, Zs] 73
 refine we_run (v := Pt b5382 0) (w' := w5383) z (x_al (by kernel_rfl) ew5384 eb5385) ?_
 refine ws_next (pend' := []) hst (by kernel_rfl) pk_nil ?_
 refine ws_e1 9 (by kernel_rfl) ?_
 refine nxe [] (by kernel_rfl) z z ?_
 clear hst
 intro w hst
 replace hst := hst.pull4
 obtain ⟨w5387, hr5388, hst⟩ := hst.by_ [Pt b5382 0] 0 (Pt b5382 0) sizeOf60 z (oC z oN) (by kernel_rfl)
 refine we_unit z (x_unit hr5388) ?_
 refine ws_next (pend' := []) hst (by kernel_rfl) pk_nil ?_
 refine ws_nil ?_
 intro w hst
 refine ⟨z, ?_⟩
 replace hst := hst.own_nil (tySl (tyInt .i64))
 replace hst := hst.own_nil (tySl (tyInt .i64))
 replace hst := hst.own_nil (tyInt .i64)
 replace hst := hst.pull5.pull2.pull3.pull7.pull7.pull7
 replace hst := at_label_Lattice_close (pv := Pt b5382 0) (x := ({ up := t4783, down := (List.replicate (Int.toNat ((a0).length : Int)) (0:Int)), join := [], meet := [], rank := (List.replicate (Int.toNat ((a0).length : Int)) (0:Int)), all := [] } : label_Lattice)) hst z
 replace hst := hst.pull1.keep2
 obtain rfl := some_inj hm
 exact ⟨({ up := t4783, down := (List.replicate (Int.toNat ((a0).length : Int)) (0:Int)), join := [], meet := [], rank := (List.replicate (Int.toNat ((a0).length : Int)) (0:Int)), all := [] } : label_Lattice), b5311, (Pt b5382 0), _, hx5467, (fu 0 r0_0 z (fu 4 (.int .i64 ((a0).length : Int)) z (fu 5 (Pt b5311 0) z z))), hst⟩
}
 {
 refine nxe [1, 6, 7, 9] (by kernel_rfl) z z ?_
 clear hst
 intro w hst
 obtain ⟨v5389, w5390, hr5391, hst⟩ := run_mk (k := .i64) (k' := .i64) (zm := (0:Int)) elem_46 hst hg4786 (by decide) z
 refine we_run (v := v5389) (w' := w5390) z (x_make z z hr5391) ?_
 refine ws_next (pend' := [(0, r0_0)]) hst (by kernel_rfl) (pkr z z (fun w hst => z) pk_nil) ?_
 refine ws_e1 1 (by kernel_rfl) ?_
 refine nxe [6, 7, 9] (by kernel_rfl) z z ?_
 clear hst
 intro w hst
 refine wec call44 [r0_0] z z ?_
 refine (slices_Clone_uint64_uint64_ref (f0_0.mono (rd_weak _)) hst.to0 ht4784).mono ?_
 rintro _ w5393 ⟨v5396, rfl, hst⟩
 refine ⟨_, z, ?_⟩
 replace hst := hst.of1
 refine ws_next (pend' := []) hst (by kernel_rfl) pk_nil ?_
 refine wsr (.agg #[v5396, v5363, Zs, Zs, v5389, Zs]) 6 rfl rfl rfl (by kernel_rfl) (fun w hst => by obtain ⟨_, _, hv_, _⟩ := hst.sv1; rw [hv_]; obtain ⟨_, _, hv_, _⟩ := hst.sv2; rw [hv_]; obtain ⟨_, _, hv_, _⟩ := hst.sv0; rw [hv_]; kernel_rfl) ?_
 refine ws_e1 7 (by kernel_rfl) ?_
 refine nxe [9] (by kernel_rfl) z z ?_
 clear hst
 intro w hst
 obtain ⟨b5404, w5405, ew5406, eb5407, hst⟩ := hst.box [v5396, v5363, Zs, Zs, v5389, Zs] 73
 refine we_run (v := Pt b5404 0) (w' := w5405) z (x_al (by kernel_rfl) ew5406 eb5407) ?_
 refine ws_next (pend' := []) hst (by kernel_rfl) pk_nil ?_
 refine ws_e1 9 (by kernel_rfl) ?_
 refine nxe [] (by kernel_rfl) z z ?_
 clear hst
 intro w hst
 replace hst := hst.pull4
 obtain ⟨w5409, hr5410, hst⟩ := hst.by_ [Pt b5404 0] 0 (Pt b5404 0) sizeOf60 z (oC z oN) (by kernel_rfl)
 refine we_unit z (x_unit hr5410) ?_
 refine ws_next (pend' := []) hst (by kernel_rfl) pk_nil ?_
 refine ws_nil ?_
 intro w hst
 refine ⟨z, ?_⟩
 replace hst := hst.own_nil (tySl (tyInt .i64))
 replace hst := hst.own_nil (tySl (tyInt .i64))
 replace hst := hst.own_nil (tyInt .i64)
 replace hst := hst.pull6.pull2.pull3.pull7.pull7.pull7
 replace hst := at_label_Lattice_close (pv := Pt b5404 0) (x := ({ up := t4783, down := (List.replicate (Int.toNat ((a0).length : Int)) (0:Int)), join := [], meet := [], rank := (List.replicate (Int.toNat ((a0).length : Int)) (0:Int)), all := [] } : label_Lattice)) hst z
 replace hst := hst.pull1.keep2
 obtain rfl := some_inj hm
 exact ⟨({ up := t4783, down := (List.replicate (Int.toNat ((a0).length : Int)) (0:Int)), join := [], meet := [], rank := (List.replicate (Int.toNat ((a0).length : Int)) (0:Int)), all := [] } : label_Lattice), b5311, (Pt b5404 0), _, hx5467, (fu 0 r0_0 z (fu 4 (.int .i64 ((a0).length : Int)) z (fu 5 (Pt b5311 0) z z))), hst⟩
}
}
 {
 refine nxe [1, 3, 6, 7, 9] (by kernel_rfl) z z ?_
 clear hst
 intro w hst
 obtain ⟨v5411, w5412, hr5413, hst⟩ := run_mk (k := .i64) (k' := .i64) (zm := (0:Int)) elem_46 hst hg4786 (by decide) z
 refine we_run (v := v5411) (w' := w5412) z (x_make z z hr5413) ?_
 refine ws_next (pend' := [(2, I6 ((a0).length : Int)), (0, r0_0)]) hst (by kernel_rfl) (pkr z z (fun w hst => z) (pkr z z (fun w hst => z) pk_nil)) ?_
 refine ws_e2 1 3 (by kernel_rfl) ?_ ?_
 {
 refine nxe [3, 6, 7, 9] (by kernel_rfl) z z ?_
 clear hst
 intro w hst
 refine wec call44 [r0_0] z z ?_
 refine (slices_Clone_uint64_uint64_ref (f0_0.mono (rd_weak _)) hst.to0 ht4784).mono ?_
 rintro _ w5415 ⟨v5418, rfl, hst⟩
 refine ⟨_, z, ?_⟩
 replace hst := hst.of1
 refine ws_next (pend' := [(2, I6 ((a0).length : Int))]) hst (by kernel_rfl) (pkr z z (fun w hst => z) pk_nil) ?_
 refine ws_e1 3 (by kernel_rfl) ?_
 refine nxe [6, 7, 9] (by kernel_rfl) z z ?_
 clear hst
 intro w hst
 obtain ⟨v5420, w5421, hr5422, hst⟩ := run_mk (k := .i64) (k' := .i64) (zm := (0:Int)) elem_25 hst hg4785 (by decide) z
 refine we_run (v := v5420) (w' := w5421) z (x_make z z hr5422) ?_
 refine ws_next (pend' := []) hst (by kernel_rfl) pk_nil ?_
 refine wsr (.agg #[v5418, v5420, Zs, Zs, v5411, Zs]) 6 rfl rfl rfl (by kernel_rfl) (fun w hst => by obtain ⟨_, _, hv_, _⟩ := hst.sv2; rw [hv_]; obtain ⟨_, _, hv_, _⟩ := hst.sv0; rw [hv_]; obtain ⟨_, _, hv_, _⟩ := hst.sv1; rw [hv_]; kernel_rfl) ?_
 refine ws_e1 7 (by kernel_rfl) ?_
 refine nxe [9] (by kernel_rfl) z z ?_
 clear hst
 intro w hst
 obtain ⟨b5430, w5431, ew5432, eb5433, hst⟩ := hst.box [v5418, v5420, Zs, Zs, v5411, Zs] 73
 refine we_run (v := Pt b5430 0) (w' := w5431) z (x_al (by kernel_rfl) ew5432 eb5433) ?_
 refine ws_next (pend' := []) hst (by kernel_rfl) pk_nil ?_
 refine ws_e1 9 (by kernel_rfl) ?_
 refine nxe [] (by kernel_rfl) z z ?_
 clear hst
 intro w hst
 replace hst := hst.pull4
 obtain ⟨w5435, hr5436, hst⟩ := hst.by_ [Pt b5430 0] 0 (Pt b5430 0) sizeOf60 z (oC z oN) (by kernel_rfl)
 refine we_unit z (x_unit hr5436) ?_
 refine ws_next (pend' := []) hst (by kernel_rfl) pk_nil ?_
 refine ws_nil ?_
 intro w hst
 refine ⟨z, ?_⟩
 replace hst := hst.own_nil (tySl (tyInt .i64))
 replace hst := hst.own_nil (tySl (tyInt .i64))
 replace hst := hst.own_nil (tyInt .i64)
 replace hst := hst.pull7.pull2.pull3.pull6.pull7.pull7
 replace hst := at_label_Lattice_close (pv := Pt b5430 0) (x := ({ up := t4783, down := (List.replicate (Int.toNat ((a0).length : Int)) (0:Int)), join := [], meet := [], rank := (List.replicate (Int.toNat ((a0).length : Int)) (0:Int)), all := [] } : label_Lattice)) hst z
 replace hst := hst.pull1.keep2
 obtain rfl := some_inj hm
 exact ⟨({ up := t4783, down := (List.replicate (Int.toNat ((a0).length : Int)) (0:Int)), join := [], meet := [], rank := (List.replicate (Int.toNat ((a0).length : Int)) (0:Int)), all := [] } : label_Lattice), b5311, (Pt b5430 0), _, hx5467, (fu 0 r0_0 z (fu 4 (.int .i64 ((a0).length : Int)) z (fu 5 (Pt b5311 0) z z))), hst⟩
}
 {
 refine nxe [1, 6, 7, 9] (by kernel_rfl) z z ?_
 clear hst
 intro w hst
 obtain ⟨v5437, w5438, hr5439, hst⟩ := run_mk (k := .i64) (k' := .i64) (zm := (0:Int)) elem_25 hst hg4785 (by decide) z
 refine we_run (v := v5437) (w' := w5438) z (x_make z z hr5439) ?_
 refine ws_next (pend' := [(0, r0_0)]) hst (by kernel_rfl) (pkr z z (fun w hst => z) pk_nil) ?_
 refine ws_e1 1 (by kernel_rfl) ?_
 refine nxe [6, 7, 9] (by kernel_rfl) z z ?_
 clear hst
 intro w hst
 refine wec call44 [r0_0] z z ?_
 refine (slices_Clone_uint64_uint64_ref (f0_0.mono (rd_weak _)) hst.to0 ht4784).mono ?_
 rintro _ w5441 ⟨v5444, rfl, hst⟩
 refine ⟨_, z, ?_⟩
 replace hst := hst.of1
 refine ws_next (pend' := []) hst (by kernel_rfl) pk_nil ?_
 refine wsr (.agg #[v5444, v5437, Zs, Zs, v5411, Zs]) 6 rfl rfl rfl (by kernel_rfl) (fun w hst => by obtain ⟨_, _, hv_, _⟩ := hst.sv2; rw [hv_]; obtain ⟨_, _, hv_, _⟩ := hst.sv1; rw [hv_]; obtain ⟨_, _, hv_, _⟩ := hst.sv0; rw [hv_]; kernel_rfl) ?_
 refine ws_e1 7 (by kernel_rfl) ?_
 refine nxe [9] (by kernel_rfl) z z ?_
 clear hst
 intro w hst
 obtain ⟨b5452, w5453, ew5454, eb5455, hst⟩ := hst.box [v5444, v5437, Zs, Zs, v5411, Zs] 73
 refine we_run (v := Pt b5452 0) (w' := w5453) z (x_al (by kernel_rfl) ew5454 eb5455) ?_
 refine ws_next (pend' := []) hst (by kernel_rfl) pk_nil ?_
 refine ws_e1 9 (by kernel_rfl) ?_
 refine nxe [] (by kernel_rfl) z z ?_
 clear hst
 intro w hst
 replace hst := hst.pull4
 obtain ⟨w5457, hr5458, hst⟩ := hst.by_ [Pt b5452 0] 0 (Pt b5452 0) sizeOf60 z (oC z oN) (by kernel_rfl)
 refine we_unit z (x_unit hr5458) ?_
 refine ws_next (pend' := []) hst (by kernel_rfl) pk_nil ?_
 refine ws_nil ?_
 intro w hst
 refine ⟨z, ?_⟩
 replace hst := hst.own_nil (tySl (tyInt .i64))
 replace hst := hst.own_nil (tySl (tyInt .i64))
 replace hst := hst.own_nil (tyInt .i64)
 replace hst := hst.pull7.pull2.pull3.pull7.pull7.pull7
 replace hst := at_label_Lattice_close (pv := Pt b5452 0) (x := ({ up := t4783, down := (List.replicate (Int.toNat ((a0).length : Int)) (0:Int)), join := [], meet := [], rank := (List.replicate (Int.toNat ((a0).length : Int)) (0:Int)), all := [] } : label_Lattice)) hst z
 replace hst := hst.pull1.keep2
 obtain rfl := some_inj hm
 exact ⟨({ up := t4783, down := (List.replicate (Int.toNat ((a0).length : Int)) (0:Int)), join := [], meet := [], rank := (List.replicate (Int.toNat ((a0).length : Int)) (0:Int)), all := [] } : label_Lattice), b5311, (Pt b5452 0), _, hx5467, (fu 0 r0_0 z (fu 4 (.int .i64 ((a0).length : Int)) z (fu 5 (Pt b5311 0) z z))), hst⟩
}
}
}
}
 {
 clear hst
 rintro _ w5468 ⟨z5463, b5460, v5462, σ5464, hm, rfl, hst⟩
 dsimp only [label_New_j0] at hm
 refine tn (wp_seq (wp_seq (wrl (wv (v5462) z z (x_load z isAgg60 (hst.bc0 z)) ?_))))
 replace hst := hst.pull1
 replace hst := objO_some hst
 obtain ⟨t5469, ht5470, hm⟩ := bind_some hm
 refine wc call45 [v5462] z z z ?_
 refine (label_Lattice_orders_ref hst.to1 ht5470).mono ?_
 rintro _ w5471 ⟨rfl, hst⟩
 refine ⟨_, z, ?_⟩
 replace hst := hst.of1
 replace hst := objO_get hst
 refine wv (.bool (!t5469)) z z z (wl_nil (tn ?_))
 refine bsplit (!t5469) (fun hc5474 => ?_) (fun hc5474 => ?_)
 {
 replace hm := bif_t hc5474 hm
 refine wp_ift (cvb hc5474) ?_
 refine wp_seq (wrl (wv (.pointer none) z z z (wv (.int .i64 (15:Int)) z z z (wl_nil (tn (wp_ret (then_r ?_)))))))
 replace hst := hst.objO_nil at_label_Lattice
 obtain rfl := some_inj hm
 refine post_ret (vs := [.pointer none, I6 (15:Int)]) results34 (rvs_cons (rv_tmp z) (rvs_cons (rv_tmp z) rvs_nil)) ?_
 exact ⟨_, .pointer none, z, hI0, hst.keep1⟩
}
 {
 replace hm := bif_f hc5474 hm
 refine wp_iff (cvb hc5474) ?_
 refine wp_skip (tn ?_)
 obtain ⟨y5772, hm, hx5773⟩ := bind_some hm
 refine wp_cut (fun a w => ∃ (z5769 : label_Lattice) (σ5770 : Nat → Value), (label_New_j1 a0) z5769 = some r ∧ a = Fr 192 (upd (upd σ5770 4 (.int .i64 ((a0).length : Int))) 5 (Pt b5460 0)) ∧ St w0 w I [cells b5460 [v5462], at_label_Lattice v5462 z5769] R) ?_ ?_
 {
 refine wp_seq (wrl (wv (r0_0) z z z (wv (.int .i64 ((a0).length : Int)) z z (x_len z underlying25 (rd_sliceV f0_0)) (wv (.int .i64 (0:Int)) z z z (wl_nil (tn (wp_block ?_)))))))
 obtain ⟨n5667, hm⟩ := loopO_some hm
 refine wp_loop_n (fun n a w => ∃ (z5664 : label_Lattice) (z5665 : Int) (σ5666 : Nat → Value), loopN (label_New_l2 a0) n (z5664, z5665) = some y5772 ∧ a = Fr 192 (upd (upd (upd (upd (upd σ5666 4 (.int .i64 ((a0).length : Int))) 5 (Pt b5460 0)) 38 (r0_0)) 39 (.int .i64 ((a0).length : Int))) 40 (.int .i64 z5665)) ∧ St w0 w I [at_label_Lattice v5462 z5664, cells b5460 [v5462]] R) n5667 ⟨z5463, (0:Int), _, hm, (fu 4 (.int .i64 ((a0).length : Int)) z (fu 5 (Pt b5460 0) z (fu 38 r0_0 z (fu 39 (.int .i64 ((a0).length : Int)) z (fu 40 (.int .i64 (0:Int)) z z))))), hst⟩ ?_
 rintro n5673 _ w5668 ⟨z5664, z5665, σ5666, hm, rfl, hst⟩
 obtain ⟨n5670, y5671, rfl, hm, hx5672⟩ := loopN_some hm
 dsimp only [label_New_l2] at hm
 refine wp_seq (wrl (wv (.bool (decide (z5665 < ((a0).length : Int)))) z z z (wl_nil (tn (wp_seq ?_)))))
 refine bsplit (decide (z5665 < ((a0).length : Int))) (fun hc5674 => ?_) (fun hc5674 => ?_)
 {
 replace hm := bif_t hc5674 hm
 refine wp_ift (cvb hc5674) ?_
 refine wp_skip (tn (wp_seq (wp_block (wp_seq (wrl ?_)))))
 refine wv (.int .i64 z5665) z z z ?_
 obtain ⟨x5675, hx5676, hm⟩ := bind_some hm
 obtain ⟨h5677, h5678, hi5679⟩ := geto_some hx5676
 refine wv (.pointer (some (eAddr r0_0 (z5665.toNat * 1 + 0)))) z z (x_index z z underlying25 sizeOf22 (rd_sliceV f0_0) h5677 h5678) (wv (.int .u64 x5675) z z (x_load z isAgg22 (rd_load f0_0 (HL.le.refl _) hst hi5679 (by rintro _ rfl; rfl))) (wv (.int .i64 z5665) z z z (wv (.int .u64 x5675) z z z (wl_nil (tn (wp_seq (wrl (wv (.int .i64 ((a0).length : Int)) z z z (wv (.int .i64 (0:Int)) z z z (wl_nil (tn (wp_block ?_))))))))))))
 obtain ⟨n5736, hm⟩ := loopO_some hm
 refine wp_loop_n (fun n a w => ∃ (z5733 : label_Lattice) (z5734 : Int) (σ5735 : Nat → Value), loopN (label_New_l3 a0 x5675 z5665) n (z5733, z5734) = some y5671 ∧ a = Fr 192 (upd (upd (upd (upd (upd (upd (upd (upd (upd σ5735 4 (.int .i64 ((a0).length : Int))) 5 (Pt b5460 0)) 6 (.int .i64 z5665)) 7 (.int .u64 x5675)) 38 (r0_0)) 39 (.int .i64 ((a0).length : Int))) 40 (.int .i64 z5665)) 45 (.int .i64 ((a0).length : Int))) 46 (.int .i64 z5734)) ∧ St w0 w I [at_label_Lattice v5462 z5733, cells b5460 [v5462]] R) n5736 ⟨z5664, (0:Int), _, hm, (fu 4 (.int .i64 ((a0).length : Int)) z (fu 5 (Pt b5460 0) z (fu 6 (.int .i64 z5665) z (fu 7 (.int .u64 x5675) z (fu 38 r0_0 z (fu 39 (.int .i64 ((a0).length : Int)) z (fu 40 (.int .i64 z5665) z (fu 45 (.int .i64 ((a0).length : Int)) z (fu 46 (.int .i64 (0:Int)) z z))))))))), hst⟩ ?_
 rintro n5742 _ w5737 ⟨z5733, z5734, σ5735, hm, rfl, hst⟩
 obtain ⟨n5739, y5740, rfl, hm, hx5741⟩ := loopN_some hm
 dsimp only [label_New_l3] at hm
 refine wp_seq (wrl (wv (.bool (decide (z5734 < ((a0).length : Int)))) z z z (wl_nil (tn (wp_seq ?_)))))
 refine bsplit (decide (z5734 < ((a0).length : Int))) (fun hc5743 => ?_) (fun hc5743 => ?_)
 {
 replace hm := bif_t hc5743 hm
 refine wp_ift (cvb hc5743) ?_
 refine wp_skip (tn (wp_seq (wp_block (wp_seq (wrl ?_)))))
 refine wv (.int .i64 z5734) z z z (wv (.int .i64 z5734) z z z (wl_nil (tn (wp_seq (wrl (wv (.int .u64 x5675) z z z (wv (.int .i64 z5734) z z z ?_)))))))
 obtain ⟨hg5744, hm⟩ := gd_some hm
 refine wv (.int .u64 (iShr .u64 x5675 z5734)) z z (x_shr (of_decide_eq_true hg5744) z z) (wv (.int .u64 (bAnd .u64 (iShr .u64 x5675 z5734) (1:Int))) z z z (wv (.bool ((bAnd .u64 (iShr .u64 x5675 z5734) (1:Int)) == (1:Int))) z z z (wl_nil (tn ?_))))
 refine bsplit ((bAnd .u64 (iShr .u64 x5675 z5734) (1:Int)) == (1:Int)) (fun hc5745 => ?_) (fun hc5745 => ?_)
 {
 replace hm := bif_t hc5745 hm
 refine wp_ift (cvb hc5745) ?_
 obtain ⟨b5746, v5747, v5749, v5751, v5753, v5755, v5757, rfl, hst'⟩ := at_label_Lattice_open hst
 clear hst
 have hst := hst'
 clear hst'
 refine wp_region_St hst 12 [0, 1, 2, 3, 4, 5, 6, 7, 8, 9, 10, 11] [0, 1, 3, 7, 0, 31, 63, 0, 128, 511, 1023, 2047] [] z (by kernel_rfl) (by kernel_rfl) Try.mixed (by kernel_rfl) ?_
 refine wsr (Pt b5746 0) 0 z z z (by kernel_rfl) (fun w hst => x_load z isAgg60 (hst.bc7 z)) (wsr (Pt b5746 0) 1 z z z (by kernel_rfl) (fun w hst => z) (wsr (Pt b5746 1) 2 z z z (by kernel_rfl) (fun w hst => x_field z underlying73 z sizeOf25 z) (wsr (v5749) 3 z z z (by kernel_rfl) (fun w hst => x_load z isAgg25 (hst.bc0 z)) (wsr (.int .i64 z5734) 4 z z z (by kernel_rfl) (fun w hst => z) ?_))))
 obtain ⟨x5759, hx5760, hm⟩ := bind_some hm
 obtain ⟨h5761, h5762, hi5763⟩ := geto_some hx5760
 refine wsr (.pointer (some (eAddr v5749 (z5734.toNat * 1 + 0)))) 5 z z z (by kernel_rfl) (fun w hst => x_index z z underlying25 sizeOf22 hst.sv2 h5761 h5762) (wsr (.int .u64 x5759) 6 z z z (by kernel_rfl) (fun w hst => x_load z isAgg22 (hst.ol2 hi5763 (by rintro _ rfl; rfl))) (wsr (.int .i64 z5665) 7 z z z (by kernel_rfl) (fun w hst => z) ?_))
 obtain ⟨hg5764, hm⟩ := gd_some hm
 refine wsr (.int .u64 (iShl .u64 (1:Int) z5665)) 8 z z z (by kernel_rfl) (fun w hst => x_shl (of_decide_eq_true hg5764) z z) (wsr (.int .u64 (bOr .u64 x5759 (iShl .u64 (1:Int) z5665))) 9 z z z (by kernel_rfl) (fun w hst => z) (wsr (.pointer (some (eAddr v5749 (z5734.toNat * 1 + 0)))) 10 z z z (by kernel_rfl) (fun w hst => x_index z z underlying25 sizeOf22 hst.sv2 h5761 h5762) ?_))
 refine ws_e1 11 (by kernel_rfl) ?_
 refine nxe [] (by kernel_rfl) z z ?_
 clear hst
 intro w hst
 replace hst := hst.pull2
 obtain ⟨w5765, hr5766, hst⟩ := hst.own_store (P := prog) (t := 22) (y := (bOr .u64 x5759 (iShl .u64 (1:Int) z5665))) hi5763 0 (.int .u64 (bOr .u64 x5759 (iShl .u64 (1:Int) z5665))) sizeOf22 (Nat.le_of_ble_eq_true z) (oC z oN) (by rintro _ rfl; rfl)
 have hi5767 := set_get hi5763 (bOr .u64 x5759 (iShl .u64 (1:Int) z5665))
 have h5768 := set_lt h5762 z5734.toNat (bOr .u64 x5759 (iShl .u64 (1:Int) z5665))
 refine we_unit z (x_unit hr5766) ?_
 refine ws_next (pend' := []) hst (by kernel_rfl) pk_nil ?_
 refine ws_nil ?_
 intro w hst
 refine blk_n (tn (wrl ?_))
 refine wv (.int .i64 (i64.wrap (z5734 + (1:Int)))) z z z (wv (.int .i64 (i64.wrap (z5734 + (1:Int)))) z z z (wl_nil (tn ?_)))
 replace hst := hst.pull6.pull6.pull6.pull6.pull4.pull6.pull6
 replace hst := at_label_Lattice_close (pv := Pt b5746 0) (x := ({ up := z5733.up, down := (z5733.down.set z5734.toNat (bOr .u64 x5759 (iShl .u64 (1:Int) z5665))), join := z5733.join, meet := z5733.meet, rank := z5733.rank, all := z5733.all } : label_Lattice)) hst z
 replace hst := hst.pull1.pull1.keep2
 obtain rfl := some_inj hm
 exact ⟨_, Nat.lt_succ_self _, ({ up := z5733.up, down := (z5733.down.set z5734.toNat (bOr .u64 x5759 (iShl .u64 (1:Int) z5665))), join := z5733.join, meet := z5733.meet, rank := z5733.rank, all := z5733.all } : label_Lattice), (i64.wrap (z5734 + (1:Int))), _, hx5741, (fu 4 (.int .i64 ((a0).length : Int)) z (fu 5 (Pt b5460 0) z (fu 6 (.int .i64 z5665) z (fu 7 (.int .u64 x5675) z (fu 38 r0_0 z (fu 39 (.int .i64 ((a0).length : Int)) z (fu 40 (.int .i64 z5665) z (fu 45 (.int .i64 ((a0).length : Int)) z (fu 46 (.int .i64 (i64.wrap (z5734 + (1:Int)))) z z))))))))), hst⟩
}
 {
 replace hm := bif_f hc5745 hm
 refine wp_iff (cvb hc5745) ?_
 refine wp_skip (blk_n (tn (wrl ?_)))
 refine wv (.int .i64 (i64.wrap (z5734 + (1:Int)))) z z z (wv (.int .i64 (i64.wrap (z5734 + (1:Int)))) z z z (wl_nil (tn ?_)))
 replace hst := hst.pull1.pull1.keep2
 obtain rfl := some_inj hm
 exact ⟨_, Nat.lt_succ_self _, z5733, (i64.wrap (z5734 + (1:Int))), _, hx5741, (fu 4 (.int .i64 ((a0).length : Int)) z (fu 5 (Pt b5460 0) z (fu 6 (.int .i64 z5665) z (fu 7 (.int .u64 x5675) z (fu 38 r0_0 z (fu 39 (.int .i64 ((a0).length : Int)) z (fu 40 (.int .i64 z5665) z (fu 45 (.int .i64 ((a0).length : Int)) z (fu 46 (.int .i64 (i64.wrap (z5734 + (1:Int)))) z z))))))))), hst⟩
}
}
 {
 replace hm := bif_f hc5743 hm
 refine wp_iff (cvb hc5743) ?_
 refine wp_exit (then_x (then_x ?_))
 replace hm := inr_up hm hx5741
 refine blk_x (blk_n (tn (wrl ?_)))
 refine wv (.int .i64 (i64.wrap (z5665 + (1:Int)))) z z z (wv (.int .i64 (i64.wrap (z5665 + (1:Int)))) z z z (wl_nil (tn ?_)))
 replace hst := hst.pull1.pull1.keep2
 obtain rfl := some_inj hm
 exact ⟨_, Nat.lt_succ_self _, z5733, (i64.wrap (z5665 + (1:Int))), _, hx5672, (fu 4 (.int .i64 ((a0).length : Int)) z (fu 5 (Pt b5460 0) z (fu 38 r0_0 z (fu 39 (.int .i64 ((a0).length : Int)) z (fu 40 (.int .i64 (i64.wrap (z5665 + (1:Int)))) z z))))), hst⟩
}
}
 {
 replace hm := bif_f hc5674 hm
 refine wp_iff (cvb hc5674) ?_
 refine wp_exit (then_x (then_x ?_))
 replace hm := inr_up hm hx5672
 refine blk_x (tn ?_)
 replace hst := hst.pull1.keep2
 obtain rfl := some_inj hm
 exact ⟨z5664, _, hx5773, (fu 4 (.int .i64 ((a0).length : Int)) z (fu 5 (Pt b5460 0) z z)), hst⟩
}
}
 {
 clear hst
 rintro _ w5774 ⟨z5769, σ5770, hm, rfl, hst⟩
 dsimp only [label_New_j1] at hm
 obtain ⟨y7117, hm, hx7118⟩ := joinO_some hm
 refine wp_cut (fun a w => ∃ (I7114 : HL) (z7113 : label_Lattice) (σ7115 : Nat → Value), (label_New_j4) z7113 = some r ∧ a = Fr 192 (upd σ7115 5 (Pt b5460 0)) ∧ I.le I7114 ∧ St w0 w I7114 [cells b5460 [v5462], at_label_Lattice v5462 z7113] R) ?_ ?_
 {
 have hL7119 := HL.le.refl I
 refine wp_seq (wrl (wv (.int .i64 ((a0).length : Int)) z z z (wv (.int .i64 (0:Int)) z z z (wl_nil (tn (wp_block ?_))))))
 obtain ⟨n6657, hm⟩ := loopO_some hm
 refine wp_loop_n (fun n a w => ∃ (I6655 : HL) (z6653 : label_Lattice) (z6654 : Int) (σ6656 : Nat → Value), loopN (label_New_l5 a0) n (z6653, z6654) = some y7117 ∧ a = Fr 192 (upd (upd (upd (upd σ6656 4 (.int .i64 ((a0).length : Int))) 5 (Pt b5460 0)) 67 (.int .i64 ((a0).length : Int))) 68 (.int .i64 z6654)) ∧ I.le I6655 ∧ St w0 w I6655 [cells b5460 [v5462], at_label_Lattice v5462 z6653] R) n6657 ⟨_, z5769, (0:Int), _, hm, (fu 4 (.int .i64 ((a0).length : Int)) z (fu 5 (Pt b5460 0) z (fu 67 (.int .i64 ((a0).length : Int)) z (fu 68 (.int .i64 (0:Int)) z z)))), (HL.le.refl _), hst⟩ ?_
 rintro n6663 _ w6658 ⟨I6655, z6653, z6654, σ6656, hm, rfl, hL6659, hst⟩
 obtain ⟨n6660, y6661, rfl, hm, hx6662⟩ := loopN_some hm
 dsimp only [label_New_l5] at hm
 replace f0_0 := f0_0.mono (rd_le hL6659)
 replace hI0 := hI0.trans hL6659
 replace hL7119 := hL7119.trans hL6659
 refine wp_seq (wrl (wv (.bool (decide (z6654 < ((a0).length : Int)))) z z z (wl_nil (tn (wp_seq ?_)))))
 refine bsplit (decide (z6654 < ((a0).length : Int))) (fun hc6664 => ?_) (fun hc6664 => ?_)
 {
 replace hm := bif_t hc6664 hm
 refine wp_ift (cvb hc6664) ?_
 refine wp_skip (tn (wp_seq (wp_block (wp_seq (wrl ?_)))))
 refine wv (.int .i64 z6654) z z z (wv (.int .i64 z6654) z z z (wl_nil (tn (wp_seq (wrl (wv ((.slice none 0 0)) z z z (wv ((.slice none 0 0)) z z z (wl_nil (tn ?_)))))))))
 obtain ⟨y6977, hm, hx6978⟩ := joinO_some hm
 refine wp_cut (fun a w => ∃ (z6971 : (List Int)) (z6974 : (List Int)) (v6970 : Value) (v6973 : Value) (σ6975 : Nat → Value), (label_New_j6 z6653 z6654) (z6971, z6974) = some y6661 ∧ a = Fr 192 (upd (upd (upd (upd (upd (upd (upd σ6975 4 (.int .i64 ((a0).length : Int))) 5 (Pt b5460 0)) 9 (.int .i64 z6654)) 10 (v6970)) 11 (v6973)) 67 (.int .i64 ((a0).length : Int))) 68 (.int .i64 z6654)) ∧ St w0 w I6655 [cells b5460 [v5462], at_label_Lattice v5462 z6653, ownS (tyInt .i64) v6970 z6971, ownS (tyInt .i64) v6973 z6974] R) ?_ ?_
 {
 refine wp_seq (wrl (wv (.int .i64 ((a0).length : Int)) z z z (wv (.int .i64 (0:Int)) z z z (wl_nil (tn (wp_block ?_))))))
 replace hst := hst.own_nil (tyInt .i64)
 replace hst := hst.own_nil (tyInt .i64)
 obtain ⟨n6892, hm⟩ := loopO_some hm
 refine wp_loop_n (fun n a w => ∃ (z6884 : (List Int)) (z6887 : (List Int)) (z6890 : Int) (v6885 : Value) (v6888 : Value) (σ6891 : Nat → Value), loopN (label_New_l7 a0 z6653 z6654) n (z6884, z6887, z6890) = some y6977 ∧ a = Fr 192 (upd (upd (upd (upd (upd (upd (upd (upd (upd σ6891 4 (.int .i64 ((a0).length : Int))) 5 (Pt b5460 0)) 9 (.int .i64 z6654)) 10 (v6885)) 11 (v6888)) 67 (.int .i64 ((a0).length : Int))) 68 (.int .i64 z6654)) 71 (.int .i64 ((a0).length : Int))) 72 (.int .i64 z6890)) ∧ St w0 w I6655 [ownS (tyInt .i64) v6888 z6887, ownS (tyInt .i64) v6885 z6884, cells b5460 [v5462], at_label_Lattice v5462 z6653] R) n6892 ⟨[], [], (0:Int), Zs, Zs, _, hm, (fu 4 (.int .i64 ((a0).length : Int)) z (fu 5 (Pt b5460 0) z (fu 9 (.int .i64 z6654) z (fu 10 (.slice none 0 0) z (fu 11 (.slice none 0 0) z (fu 67 (.int .i64 ((a0).length : Int)) z (fu 68 (.int .i64 z6654) z (fu 71 (.int .i64 ((a0).length : Int)) z (fu 72 (.int .i64 (0:Int)) z z))))))))), hst⟩ ?_
 rintro n6898 _ w6893 ⟨z6884, z6887, z6890, v6885, v6888, σ6891, hm, rfl, hst⟩
 obtain ⟨n6895, y6896, rfl, hm, hx6897⟩ := loopN_some hm
 dsimp only [label_New_l7] at hm
 refine wp_seq (wrl (wv (.bool (decide (z6890 < ((a0).length : Int)))) z z z (wl_nil (tn (wp_seq ?_)))))
 refine bsplit (decide (z6890 < ((a0).length : Int))) (fun hc6899 => ?_) (fun hc6899 => ?_)
 {
 replace hm := bif_t hc6899 hm
 refine wp_ift (cvb hc6899) ?_
 refine wp_skip (tn (wp_seq (wp_block (wp_seq (wrl ?_)))))
 refine wv (.int .i64 z6890) z z z (wv (.int .i64 z6890) z z z (wl_nil (tn (wp_seq ?_))))
 replace hst := hst.pull3
 obtain ⟨b6900, v6901, v6903, v6905, v6907, v6909, v6911, rfl, hst'⟩ := at_label_Lattice_open hst
 clear hst
 have hst := hst'
 clear hst'
 refine wp_region_St hst 25 [0, 1, 2, 3, 4, 5, 6, 7, 8, 9, 10, 11, 12, 13, 14, 15, 16, 17, 18, 19, 20, 21, 22, 23, 24] [0, 1, 3, 7, 0, 31, 63, 0, 128, 384, 896, 0, 3968, 8064, 16383, 0, 32768, 98304, 229376, 524287, 1048575, 2097151, 2097151, 4194303, 16777215] [] z (by kernel_rfl) (by kernel_rfl) Try.mixed (by kernel_rfl) ?_
 refine wsr (Pt b6900 0) 0 z z z (by kernel_rfl) (fun w hst => x_load z isAgg60 (hst.bc9 z)) (wsr (Pt b6900 0) 1 z z z (by kernel_rfl) (fun w hst => z) (wsr (Pt b6900 0) 2 z z z (by kernel_rfl) (fun w hst => x_field z underlying73 z sizeOf25 z) (wsr (v6901) 3 z z z (by kernel_rfl) (fun w hst => x_load z isAgg25 (hst.bc0 z)) (wsr (.int .i64 z6654) 4 z z z (by kernel_rfl) (fun w hst => z) ?_))))
 obtain ⟨x6913, hx6914, hm⟩ := bind_some hm
 obtain ⟨h6915, h6916, hi6917⟩ := geto_some hx6914
 refine wsr (.pointer (some (eAddr v6901 (z6654.toNat * 1 + 0)))) 5 z z z (by kernel_rfl) (fun w hst => x_index z z underlying25 sizeOf22 hst.sv1 h6915 h6916) (wsr (.int .u64 x6913) 6 z z z (by kernel_rfl) (fun w hst => x_load z isAgg22 (hst.ol1 hi6917 (by rintro _ rfl; rfl))) (wsr (Pt b6900 0) 7 z z z (by kernel_rfl) (fun w hst => x_load z isAgg60 (hst.bc9 z)) (wsr (Pt b6900 0) 8 z z z (by kernel_rfl) (fun w hst => z) (wsr (Pt b6900 0) 9 z z z (by kernel_rfl) (fun w hst => x_field z underlying73 z sizeOf25 z) (wsr (v6901) 10 z z z (by kernel_rfl) (fun w hst => x_load z isAgg25 (hst.bc0 z)) (wsr (.int .i64 z6890) 11 z z z (by kernel_rfl) (fun w hst => z) ?_))))))
 obtain ⟨x6918, hx6919, hm⟩ := bind_some hm
 obtain ⟨h6920, h6921, hi6922⟩ := geto_some hx6919
 refine wsr (.pointer (some (eAddr v6901 (z6890.toNat * 1 + 0)))) 12 z z z (by kernel_rfl) (fun w hst => x_index z z underlying25 sizeOf22 hst.sv1 h6920 h6921) (wsr (.int .u64 x6918) 13 z z z (by kernel_rfl) (fun w hst => x_load z isAgg22 (hst.ol1 hi6922 (by rintro _ rfl; rfl))) (wsr (.int .u64 (bAnd .u64 x6913 x6918)) 14 z z z (by kernel_rfl) (fun w hst => z) (wsr (Pt b6900 0) 15 z z z (by kernel_rfl) (fun w hst => x_load z isAgg60 (hst.bc9 z)) (wsr (Pt b6900 0) 16 z z z (by kernel_rfl) (fun w hst => z) (wsr (Pt b6900 0) 17 z z z (by kernel_rfl) (fun w hst => x_field z underlying73 z sizeOf25 z) (wsr (v6901) 18 z z z (by kernel_rfl) (fun w hst => x_load z isAgg25 (hst.bc0 z)) ?_))))))
 refine ws_e1 19 (by kernel_rfl) ?_
 refine nxe [20, 21, 22, 23, 24] (by kernel_rfl) z z ?_
 clear hst
 intro w hst
 replace hst := hst.pull1
 obtain ⟨css6923, hq6924, hst⟩ := hst.own_open
 obtain ⟨t6925, ht6926, hm⟩ := bind_some hm
 refine wec call46 [U6 (bAnd .u64 x6913 x6918), v6901] z z ?_
 refine (label_least_ref (hst.rdrow0 hq6924) hst.to0 ht6926).mono ?_
 rintro _ w6927 ⟨rfl, hst⟩
 refine ⟨_, z, ?_⟩
 replace hst := hst.of0.own_close hq6924
 refine ws_next (pend' := []) hst (by kernel_rfl) pk_nil ?_
 refine wsr (.tuple #[I6 t6925.1, .bool t6925.2]) 20 z z z (by kernel_rfl) (fun w hst => z) (wsr (.int .i64 t6925.1) 21 z z z (by kernel_rfl) (fun w hst => z) (wsr (.bool t6925.2) 22 z z z (by kernel_rfl) (fun w hst => z) (wsr (.int .i64 t6925.1) 23 z z z (by kernel_rfl) (fun w hst => z) (wsr (.bool t6925.2) 24 z z z (by kernel_rfl) (fun w hst => z) ?_))))
 refine ws_nil ?_
 intro w hst
 refine tn (wp_seq ?_)
 refine wp_region_St hst 25 [0, 1, 2, 3, 4, 5, 6, 7, 8, 9, 10, 11, 12, 13, 14, 15, 16, 17, 18, 19, 20, 21, 22, 23, 24] [0, 1, 3, 7, 0, 31, 63, 0, 128, 384, 896, 0, 3968, 8064, 16383, 0, 32768, 98304, 229376, 524287, 1048575, 2097151, 2097151, 4194303, 16777215] [] z (by kernel_rfl) (by kernel_rfl) Try.mixed (by kernel_rfl) ?_
 refine wsr (Pt b6900 0) 0 z z z (by kernel_rfl) (fun w hst => x_load z isAgg60 (hst.bc9 z)) (wsr (Pt b6900 0) 1 z z z (by kernel_rfl) (fun w hst => z) (wsr (Pt b6900 1) 2 z z z (by kernel_rfl) (fun w hst => x_field z underlying73 z sizeOf25 z) (wsr (v6903) 3 z z z (by kernel_rfl) (fun w hst => x_load z isAgg25 (hst.bc1 z)) (wsr (.int .i64 z6654) 4 z z z (by kernel_rfl) (fun w hst => z) ?_))))
 obtain ⟨x6930, hx6931, hm⟩ := bind_some hm
 obtain ⟨h6932, h6933, hi6934⟩ := geto_some hx6931
 refine wsr (.pointer (some (eAddr v6903 (z6654.toNat * 1 + 0)))) 5 z z z (by kernel_rfl) (fun w hst => x_index z z underlying25 sizeOf22 hst.sv2 h6932 h6933) (wsr (.int .u64 x6930) 6 z z z (by kernel_rfl) (fun w hst => x_load z isAgg22 (hst.ol2 hi6934 (by rintro _ rfl; rfl))) (wsr (Pt b6900 0) 7 z z z (by kernel_rfl) (fun w hst => x_load z isAgg60 (hst.bc9 z)) (wsr (Pt b6900 0) 8 z z z (by kernel_rfl) (fun w hst => z) (wsr (Pt b6900 1) 9 z z z (by kernel_rfl) (fun w hst => x_field z underlying73 z sizeOf25 z) (wsr (v6903) 10 z z z (by kernel_rfl) (fun w hst => x_load z isAgg25 (hst.bc1 z)) (wsr (.int .i64 z6890) 11 z z z (by kernel_rfl) (fun w hst => z) ?_))))))
 obtain ⟨x6935, hx6936, hm⟩ := bind_some hm
 obtain ⟨h6937, h6938, hi6939⟩ := geto_some hx6936
 refine wsr (.pointer (some (eAddr v6903 (z6890.toNat * 1 + 0)))) 12 z z z (by kernel_rfl) (fun w hst => x_index z z underlying25 sizeOf22 hst.sv2 h6937 h6938) (wsr (.int .u64 x6935) 13 z z z (by kernel_rfl) (fun w hst => x_load z isAgg22 (hst.ol2 hi6939 (by rintro _ rfl; rfl))) (wsr (.int .u64 (bAnd .u64 x6930 x6935)) 14 z z z (by kernel_rfl) (fun w hst => z) (wsr (Pt b6900 0) 15 z z z (by kernel_rfl) (fun w hst => x_load z isAgg60 (hst.bc9 z)) (wsr (Pt b6900 0) 16 z z z (by kernel_rfl) (fun w hst => z) (wsr (Pt b6900 1) 17 z z z (by kernel_rfl) (fun w hst => x_field z underlying73 z sizeOf25 z) (wsr (v6903) 18 z z z (by kernel_rfl) (fun w hst => x_load z isAgg25 (hst.bc1 z)) ?_))))))
 refine ws_e1 19 (by kernel_rfl) ?_
 refine nxe [20, 21, 22, 23, 24] (by kernel_rfl) z z ?_
 clear hst
 intro w hst
 replace hst := hst.pull2
 obtain ⟨css6940, hq6941, hst⟩ := hst.own_open
 obtain ⟨t6942, ht6943, hm⟩ := bind_some hm
 refine wec call46 [U6 (bAnd .u64 x6930 x6935), v6903] z z ?_
 refine (label_least_ref (hst.rdrow0 hq6941) hst.to0 ht6943).mono ?_
 rintro _ w6944 ⟨rfl, hst⟩
 refine ⟨_, z, ?_⟩
 replace hst := hst.of0.own_close hq6941
 refine ws_next (pend' := []) hst (by kernel_rfl) pk_nil ?_
 refine wsr (.tuple #[I6 t6942.1, .bool t6942.2]) 20 z z z (by kernel_rfl) (fun w hst => z) (wsr (.int .i64 t6942.1) 21 z z z (by kernel_rfl) (fun w hst => z) (wsr (.bool t6942.2) 22 z z z (by kernel_rfl) (fun w hst => z) (wsr (.int .i64 t6942.1) 23 z z z (by kernel_rfl) (fun w hst => z) (wsr (.bool t6942.2) 24 z z z (by kernel_rfl) (fun w hst => z) ?_))))
 refine ws_nil ?_
 intro w hst
 refine tn (wp_seq (wp_seq (wrl (wv (.bool t6925.2) z z z (wv (.bool (!t6925.2)) z z z (wv (.bool (!t6925.2)) z z z ?_))))))
 refine bsplit (!t6925.2) (fun hc6947 => ?_) (fun hc6947 => ?_)
 {
 replace hm := bif_t hc6947 hm
 refine wo hc6947 z z z z z z (wo hc6947 z z z z z z (wv (.bool true) z z (x_pick_t hc6947 z z) (wl_nil (tn ?_))))
 refine wp_ift z ?_
 refine wp_seq (wrl (wv (.pointer none) z z z (wv (.int .i64 (15:Int)) z z z (wl_nil (tn (wp_ret (then_r (blk_r (then_r (then_r ?_))))))))))
 replace hm := inr_up hm hx6897
 refine blk_r (then_r ?_)
 replace hm := inr_up hm hx6978
 refine blk_r (then_r (then_r ?_))
 replace hm := inr_up hm hx6662
 refine blk_r (then_r ?_)
 replace hm := inr_up hm hx7118
 replace hst := hst.objO_nil at_label_Lattice
 obtain rfl := some_inj hm
 refine post_ret (vs := [.pointer none, I6 (15:Int)]) results34 (rvs_cons (rv_tmp z) (rvs_cons (rv_tmp z) rvs_nil)) ?_
 exact ⟨_, .pointer none, z, hI0, hst.keep1⟩
}
 {
 replace hm := bif_f hc6947 hm
 refine wv (.bool t6942.2) ((wanted_eq z z z (cvb hc6947)).trans z) z z (wv (.bool (!t6942.2)) ((wanted_eq z z z (cvb hc6947)).trans z) z z (wv (.bool (!t6942.2)) z z (x_pick_f hc6947 z z) (wl_nil (tn ?_))))
 refine bsplit (!t6942.2) (fun hc6949 => ?_) (fun hc6949 => ?_)
 {
 replace hm := bif_t hc6949 hm
 refine wp_ift (cvb hc6949) ?_
 refine wp_seq (wrl (wv (.pointer none) z z z (wv (.int .i64 (15:Int)) z z z (wl_nil (tn (wp_ret (then_r (blk_r (then_r (then_r ?_))))))))))
 replace hm := inr_up hm hx6897
 refine blk_r (then_r ?_)
 replace hm := inr_up hm hx6978
 refine blk_r (then_r (then_r ?_))
 replace hm := inr_up hm hx6662
 refine blk_r (then_r ?_)
 replace hm := inr_up hm hx7118
 replace hst := hst.objO_nil at_label_Lattice
 obtain rfl := some_inj hm
 refine post_ret (vs := [.pointer none, I6 (15:Int)]) results34 (rvs_cons (rv_tmp z) (rvs_cons (rv_tmp z) rvs_nil)) ?_
 exact ⟨_, .pointer none, z, hI0, hst.keep1⟩
}
 {
 replace hm := bif_f hc6949 hm
 refine wp_iff (cvb hc6949) ?_
 refine wp_skip (tn (wrl ?_))
 refine wv (v6885) z z z (wv (.int .i64 t6925.1) z z z ?_)
 obtain ⟨b6951, w6952, ew6953, eb6954, hst⟩ := hst.lits (E := (tyInt .i64)) (xs := [t6925.1]) [[I6 t6925.1]] 3 1 z (Reps.cons z Reps.nil)
 refine wl_run (v := (.slice (some ⟨b6951, 0, none⟩) 1 1)) (w' := w6952) z z (x_als (by kernel_rfl) ew6953 eb6954) ?_
 obtain ⟨hg6956, hm⟩ := gd_some hm
 replace hst := hst.pull9
 obtain ⟨v6957, w6958, hr6959, hst⟩ := run_append elem_46 underlying46 hst hst.src1 (room_of hg6956 z) 46
 refine wl_run (v := v6957) (w' := w6958) z z (x_append z z hr6959) ?_
 refine wv (v6888) z z z (wv (.int .i64 t6942.1) z z z ?_)
 obtain ⟨b6961, w6962, ew6963, eb6964, hst⟩ := hst.lits (E := (tyInt .i64)) (xs := [t6942.1]) [[I6 t6942.1]] 3 1 z (Reps.cons z Reps.nil)
 refine wl_run (v := (.slice (some ⟨b6961, 0, none⟩) 1 1)) (w' := w6962) z z (x_als (by kernel_rfl) ew6963 eb6964) ?_
 obtain ⟨hg6966, hm⟩ := gd_some hm
 replace hst := hst.pull10
 obtain ⟨v6967, w6968, hr6969, hst⟩ := run_append elem_46 underlying46 hst hst.src1 (room_of hg6966 z) 46
 refine wl_run (v := v6967) (w' := w6968) z z (x_append z z hr6969) ?_
 refine wv (v6957) z z z (wv (v6967) z z z (wl_nil (blk_n (tn (wrl (wv (.int .i64 (i64.wrap (z6890 + (1:Int)))) z z z (wv (.int .i64 (i64.wrap (z6890 + (1:Int)))) z z z (wl_nil (tn ?_)))))))))
 replace hst := hst.pull10.pull10.pull10.pull10.pull8.pull9.pull10
 replace hst := at_label_Lattice_close (pv := Pt b6900 0) (x := z6653) hst z
 replace hst := hst.pull5.pull4.pull3.keep4
 obtain rfl := some_inj hm
 exact ⟨_, Nat.lt_succ_self _, (z6884 ++ ([t6925.1])), (z6887 ++ ([t6942.1])), (i64.wrap (z6890 + (1:Int))), v6957, v6967, _, hx6897, (fu 4 (.int .i64 ((a0).length : Int)) z (fu 5 (Pt b5460 0) z (fu 9 (.int .i64 z6654) z (fu 10 v6957 z (fu 11 v6967 z (fu 67 (.int .i64 ((a0).length : Int)) z (fu 68 (.int .i64 z6654) z (fu 71 (.int .i64 ((a0).length : Int)) z (fu 72 (.int .i64 (i64.wrap (z6890 + (1:Int)))) z z))))))))), hst⟩
}
}
}
 {
 replace hm := bif_f hc6899 hm
 refine wp_iff (cvb hc6899) ?_
 refine wp_exit (then_x (then_x ?_))
 replace hm := inr_up hm hx6897
 refine blk_x (tn ?_)
 replace hst := hst.pull1.pull3.pull3.keep4
 obtain rfl := some_inj hm
 exact ⟨z6884, z6887, v6885, v6888, _, hx6978, (fu 4 (.int .i64 ((a0).length : Int)) z (fu 5 (Pt b5460 0) z (fu 9 (.int .i64 z6654) z (fu 10 v6885 z (fu 11 v6888 z (fu 67 (.int .i64 ((a0).length : Int)) z (fu 68 (.int .i64 z6654) z z))))))), hst⟩
}
}
 {
 clear hst
 rintro _ w6979 ⟨z6971, z6974, v6970, v6973, σ6975, hm, rfl, hst⟩
 dsimp only [label_New_j6] at hm
 refine wp_seq ?_
 replace hst := hst.pull1
 obtain ⟨b6980, v6981, v6983, v6985, v6987, v6989, v6991, rfl, hst'⟩ := at_label_Lattice_open hst
 clear hst
 have hst := hst'
 clear hst'
 obtain ⟨y7083, hm, hx7084⟩ := bind_some hm
 refine wp_mid (fun a w => ∃ (I7080 : HL) (σ7081 : Nat → Value), (label_New_j8 z6653 z6971 z6974 z6654) () = some y6661 ∧ a = Fr 192 (upd (upd (upd (upd (upd σ7081 4 (.int .i64 ((a0).length : Int))) 5 (Pt b5460 0)) 9 (.int .i64 z6654)) 67 (.int .i64 ((a0).length : Int))) 68 (.int .i64 z6654)) ∧ I6655.le I7080 ∧ St w0 w I7080 [cells b5460 [Pt b6980 0], at_label_Lattice (Pt b6980 0) ({ up := z6653.up, down := z6653.down, join := (z6653.join ++ ([z6971])), meet := (z6653.meet ++ ([z6974])), rank := z6653.rank, all := z6653.all } : label_Lattice)] R) ?_ ?_
 {
 have hL7085 := HL.le.refl I6655
 refine wp_region_St hst 22 [0, 1, 2, 3, 4, 5, 6, 7, 8, 9, 10, 11, 12, 13, 14, 15, 16, 17, 18, 19, 20, 21] [0, 0, 0, 4, 12, 28, 0, 64, 252, 0, 512, 1536, 3584, 0, 8192, 32764, 65533, 131069, 262141, 524287, 1048575, 2097151] [] z (by kernel_rfl) (by kernel_rfl) Try.mixed (by kernel_rfl) ?_
 refine wsr (Pt b6980 0) 0 z z z (by kernel_rfl) (fun w hst => x_load z isAgg60 (hst.bc7 z)) (wsr (Pt b6980 0) 1 z z z (by kernel_rfl) (fun w hst => x_load z isAgg60 (hst.bc7 z)) (wsr (Pt b6980 0) 2 z z z (by kernel_rfl) (fun w hst => x_load z isAgg60 (hst.bc7 z)) (wsr (Pt b6980 0) 3 z z z (by kernel_rfl) (fun w hst => z) (wsr (Pt b6980 2) 4 z z z (by kernel_rfl) (fun w hst => x_field z underlying73 z sizeOf71 z) (wsr (v6985) 5 z z z (by kernel_rfl) (fun w hst => x_load z isAgg71 (hst.bc0 z)) (wsr (v6970) 6 z z z (by kernel_rfl) (fun w hst => z) (wsr (Pt b6980 0) 9 z z z (by kernel_rfl) (fun w hst => x_load z isAgg60 (hst.bc7 z)) (wsr (Pt b6980 0) 10 z z z (by kernel_rfl) (fun w hst => z) (wsr (Pt b6980 3) 11 z z z (by kernel_rfl) (fun w hst => x_field z underlying73 z sizeOf71 z) (wsr (v6987) 12 z z z (by kernel_rfl) (fun w hst => x_load z isAgg71 (hst.bc0 z)) (wsr (v6973) 13 z z z (by kernel_rfl) (fun w hst => z) ?_)))))))))))
 refine ws_e2 7 14 (by kernel_rfl) ?_ ?_
 {
 refine nxe [8, 14, 15, 16, 17, 18, 19, 20, 21] (by kernel_rfl) z z ?_
 clear hst
 intro w hst
 replace hst := hst.pull8
 obtain ⟨I6994, hI6995, f6996, hst⟩ := hst.own_fix
 replace f0_0 := f0_0.mono (rd_le hI6995)
 replace hI0 := hI0.trans hI6995
 replace hL7119 := hL7119.trans hI6995
 replace hL6659 := hL6659.trans hI6995
 replace hL7085 := hL7085.trans hI6995
 obtain ⟨b6997, w6998, ew6999, eb7000, hst⟩ := hst.lits (E := (tySl (tyInt .i64))) (xs := [z6971]) [[v6970]] 46 1 z (Reps.cons ⟨_, z, f6996, one_of_sliceV (ro_sliceV f6996)⟩ Reps.nil)
 refine we_run (v := (.slice (some ⟨b6997, 0, none⟩) 1 1)) (w' := w6998) z (x_als (by obtain ⟨_, _, hv_, _⟩ := (ro_sliceV f6996); rw [hv_]; kernel_rfl) ew6999 eb7000) ?_
 refine ws_next (pend' := [(13, v6973), (12, v6987), (11, Pt b6980 3), (10, Pt b6980 0), (9, Pt b6980 0), (5, v6985), (4, Pt b6980 2), (3, Pt b6980 0), (2, Pt b6980 0), (1, Pt b6980 0), (0, Pt b6980 0)]) hst (by kernel_rfl) (pkr z z (fun w hst => z) (pkr z z (fun w hst => x_load z isAgg71 (hst.bc1 z)) (pkr z z (fun w hst => x_field z underlying73 z sizeOf71 z) (pkr z z (fun w hst => z) (pkr z z (fun w hst => x_load z isAgg60 (hst.bc8 z)) (pkr z z (fun w hst => x_load z isAgg71 (hst.bc1 z)) (pkr z z (fun w hst => x_field z underlying73 z sizeOf71 z) (pkr z z (fun w hst => z) (pkr z z (fun w hst => x_load z isAgg60 (hst.bc8 z)) (pkr z z (fun w hst => x_load z isAgg60 (hst.bc8 z)) (pkr z z (fun w hst => x_load z isAgg60 (hst.bc8 z)) pk_nil))))))))))) ?_
 refine ws_e2 8 14 (by kernel_rfl) ?_ ?_
 {
 refine nxe [14, 15, 16, 17, 18, 19, 20, 21] (by kernel_rfl) z z ?_
 clear hst
 intro w hst
 obtain ⟨hg7002, hm⟩ := gd_some hm
 replace hst := hst.pull4
 obtain ⟨v7003, w7004, hr7005, hst⟩ := run_append elem_71 underlying71 hst hst.src1 (room_of hg7002 z) 71
 refine we_run (v := v7003) (w' := w7004) z (x_append z z hr7005) ?_
 refine ws_next (pend' := [(13, v6973), (12, v6987), (11, Pt b6980 3), (10, Pt b6980 0), (9, Pt b6980 0), (1, Pt b6980 0), (0, Pt b6980 0)]) hst (by kernel_rfl) (pkr z z (fun w hst => z) (pkr z z (fun w hst => x_load z isAgg71 (hst.bc2 z)) (pkr z z (fun w hst => x_field z underlying73 z sizeOf71 z) (pkr z z (fun w hst => z) (pkr z z (fun w hst => x_load z isAgg60 (hst.bc8 z)) (pkr z z (fun w hst => x_load z isAgg60 (hst.bc8 z)) (pkr z z (fun w hst => x_load z isAgg60 (hst.bc8 z)) pk_nil))))))) ?_
 refine ws_e1 14 (by kernel_rfl) ?_
 refine nxe [15, 16, 17, 18, 19, 20, 21] (by kernel_rfl) z z ?_
 clear hst
 intro w hst
 replace hst := hst.pull9
 obtain ⟨I7008, hI7009, f7010, hst⟩ := hst.own_fix
 replace f0_0 := f0_0.mono (rd_le hI7009)
 replace f6996 := f6996.mono (ro_le hI7009)
 replace hI0 := hI0.trans hI7009
 replace hL7119 := hL7119.trans hI7009
 replace hL6659 := hL6659.trans hI7009
 replace hL7085 := hL7085.trans hI7009
 obtain ⟨b7011, w7012, ew7013, eb7014, hst⟩ := hst.lits (E := (tySl (tyInt .i64))) (xs := [z6974]) [[v6973]] 46 1 z (Reps.cons ⟨_, z, f7010, one_of_sliceV (ro_sliceV f7010)⟩ Reps.nil)
 refine we_run (v := (.slice (some ⟨b7011, 0, none⟩) 1 1)) (w' := w7012) z (x_als (by obtain ⟨_, _, hv_, _⟩ := (ro_sliceV f7010); rw [hv_]; kernel_rfl) ew7013 eb7014) ?_
 refine ws_next (pend' := [(12, v6987), (11, Pt b6980 3), (10, Pt b6980 0), (9, Pt b6980 0), (1, Pt b6980 0), (0, Pt b6980 0)]) hst (by kernel_rfl) (pkr z z (fun w hst => x_load z isAgg71 (hst.bc3 z)) (pkr z z (fun w hst => x_field z underlying73 z sizeOf71 z) (pkr z z (fun w hst => z) (pkr z z (fun w hst => x_load z isAgg60 (hst.bc9 z)) (pkr z z (fun w hst => x_load z isAgg60 (hst.bc9 z)) (pkr z z (fun w hst => x_load z isAgg60 (hst.bc9 z)) pk_nil)))))) ?_
 refine ws_e1 15 (by kernel_rfl) ?_
 refine nxe [16, 17, 18, 19, 20, 21] (by kernel_rfl) z z ?_
 clear hst
 intro w hst
 obtain ⟨hg7016, hm⟩ := gd_some hm
 replace hst := hst.pull6
 obtain ⟨v7017, w7018, hr7019, hst⟩ := run_append elem_71 underlying71 hst hst.src1 (room_of hg7016 z) 71
 refine we_run (v := v7017) (w' := w7018) z (x_append z z hr7019) ?_
 refine ws_next (pend' := [(1, Pt b6980 0), (0, Pt b6980 0)]) hst (by kernel_rfl) (pkr z z (fun w hst => x_load z isAgg60 (hst.bc9 z)) (pkr z z (fun w hst => x_load z isAgg60 (hst.bc9 z)) pk_nil)) ?_
 refine wsr (Pt b6980 0) 16 z z z (by kernel_rfl) (fun w hst => z) (wsr (Pt b6980 2) 17 z z z (by kernel_rfl) (fun w hst => x_field z underlying73 z sizeOf71 z) ?_)
 refine ws_e1 18 (by kernel_rfl) ?_
 refine nxe [19, 20, 21] (by kernel_rfl) z z ?_
 clear hst
 intro w hst
 replace hst := hst.pull4
 obtain ⟨w7021, hr7022, hst⟩ := hst.boxStore1 (P := prog) (t := 71) (cs' := [v6981, v6983, v7003, v6987, v6989, v6991]) 2 v7003 (one_of_sliceV hst.sv3) sizeOf71 z z
 refine we_unit z (x_unit hr7022) ?_
 refine ws_next (pend' := [(1, Pt b6980 0)]) hst (by kernel_rfl) (pkr z z (fun w hst => x_load z isAgg60 (hst.bc9 z)) pk_nil) ?_
 refine wsr (Pt b6980 0) 19 z z z (by kernel_rfl) (fun w hst => z) (wsr (Pt b6980 3) 20 z z z (by kernel_rfl) (fun w hst => x_field z underlying73 z sizeOf71 z) ?_)
 refine ws_e1 21 (by kernel_rfl) ?_
 refine nxe [] (by kernel_rfl) z z ?_
 clear hst
 intro w hst
 obtain ⟨w7023, hr7024, hst⟩ := hst.boxStore1 (P := prog) (t := 71) (cs' := [v6981, v6983, v7003, v7017, v6989, v6991]) 3 v7017 (one_of_sliceV hst.sv1) sizeOf71 z z
 refine we_unit z (x_unit hr7024) ?_
 refine ws_next (pend' := []) hst (by kernel_rfl) pk_nil ?_
 refine ws_nil ?_
 intro w hst
 refine ⟨z, ?_⟩
 replace hst := hst.pull8.pull8.pull3.pull5.pull8.pull8.pull6
 replace hst := at_label_Lattice_close (pv := Pt b6980 0) (x := ({ up := z6653.up, down := z6653.down, join := (z6653.join ++ ([z6971])), meet := (z6653.meet ++ ([z6974])), rank := z6653.rank, all := z6653.all } : label_Lattice)) hst z
 replace hst := hst.pull3.keep2
 obtain rfl := some_inj hm
 exact ⟨_, _, hx7084, (fu 4 (.int .i64 ((a0).length : Int)) z (fu 5 (Pt b5460 0) z (fu 9 (.int .i64 z6654) z (fu 67 (.int .i64 ((a0).length : Int)) z (fu 68 (.int .i64 z6654) z z))))), hL7085, hst⟩
}
 {
 refine nxe [8, 15, 16, 17, 18, 19, 20, 21] (by kernel_rfl) z z ?_
 clear hst
 intro w hst
 replace hst := hst.pull9
 obtain ⟨I7026, hI7027, f7028, hst⟩ := hst.own_fix
 replace f0_0 := f0_0.mono (rd_le hI7027)
 replace f6996 := f6996.mono (ro_le hI7027)
 replace hI0 := hI0.trans hI7027
 replace hL7119 := hL7119.trans hI7027
 replace hL6659 := hL6659.trans hI7027
 replace hL7085 := hL7085.trans hI7027
 obtain ⟨b7029, w7030, ew7031, eb7032, hst⟩ := hst.lits (E := (tySl (tyInt .i64))) (xs := [z6974]) [[v6973]] 46 1 z (Reps.cons ⟨_, z, f7028, one_of_sliceV (ro_sliceV f7028)⟩ Reps.nil)
 refine we_run (v := (.slice (some ⟨b7029, 0, none⟩) 1 1)) (w' := w7030) z (x_als (by obtain ⟨_, _, hv_, _⟩ := (ro_sliceV f7028); rw [hv_]; kernel_rfl) ew7031 eb7032) ?_
 refine ws_next (pend' := [(12, v6987), (11, Pt b6980 3), (10, Pt b6980 0), (9, Pt b6980 0), (5, v6985), (4, Pt b6980 2), (3, Pt b6980 0), (2, Pt b6980 0), (1, Pt b6980 0), (0, Pt b6980 0)]) hst (by kernel_rfl) (pkr z z (fun w hst => x_load z isAgg71 (hst.bc2 z)) (pkr z z (fun w hst => x_field z underlying73 z sizeOf71 z) (pkr z z (fun w hst => z) (pkr z z (fun w hst => x_load z isAgg60 (hst.bc9 z)) (pkr z z (fun w hst => x_load z isAgg71 (hst.bc2 z)) (pkr z z (fun w hst => x_field z underlying73 z sizeOf71 z) (pkr z z (fun w hst => z) (pkr z z (fun w hst => x_load z isAgg60 (hst.bc9 z)) (pkr z z (fun w hst => x_load z isAgg60 (hst.bc9 z)) (pkr z z (fun w hst => x_load z isAgg60 (hst.bc9 z)) pk_nil)))))))))) ?_
 refine ws_e1 8 (by kernel_rfl) ?_
 refine nxe [15, 16, 17, 18, 19, 20, 21] (by kernel_rfl) z z ?_
 clear hst
 intro w hst
 obtain ⟨hg7034, hm⟩ := gd_some hm
 replace hst := hst.pull5
 obtain ⟨v7035, w7036, hr7037, hst⟩ := run_append elem_71 underlying71 hst hst.src2 (room_of hg7034 z) 71
 refine we_run (v := v7035) (w' := w7036) z (x_append z z hr7037) ?_
 refine ws_next (pend' := [(12, v6987), (11, Pt b6980 3), (10, Pt b6980 0), (9, Pt b6980 0), (1, Pt b6980 0), (0, Pt b6980 0)]) hst (by kernel_rfl) (pkr z z (fun w hst => x_load z isAgg71 (hst.bc3 z)) (pkr z z (fun w hst => x_field z underlying73 z sizeOf71 z) (pkr z z (fun w hst => z) (pkr z z (fun w hst => x_load z isAgg60 (hst.bc9 z)) (pkr z z (fun w hst => x_load z isAgg60 (hst.bc9 z)) (pkr z z (fun w hst => x_load z isAgg60 (hst.bc9 z)) pk_nil)))))) ?_
 refine ws_e1 15 (by kernel_rfl) ?_
 refine nxe [16, 17, 18, 19, 20, 21] (by kernel_rfl) z z ?_
 clear hst
 intro w hst
 obtain ⟨hg7039, hm⟩ := gd_some hm
 replace hst := hst.pull6
 obtain ⟨v7040, w7041, hr7042, hst⟩ := run_append elem_71 underlying71 hst hst.src2 (room_of hg7039 z) 71
 refine we_run (v := v7040) (w' := w7041) z (x_append z z hr7042) ?_
 refine ws_next (pend' := [(1, Pt b6980 0), (0, Pt b6980 0)]) hst (by kernel_rfl) (pkr z z (fun w hst => x_load z isAgg60 (hst.bc9 z)) (pkr z z (fun w hst => x_load z isAgg60 (hst.bc9 z)) pk_nil)) ?_
 refine wsr (Pt b6980 0) 16 z z z (by kernel_rfl) (fun w hst => z) (wsr (Pt b6980 2) 17 z z z (by kernel_rfl) (fun w hst => x_field z underlying73 z sizeOf71 z) ?_)
 refine ws_e1 18 (by kernel_rfl) ?_
 refine nxe [19, 20, 21] (by kernel_rfl) z z ?_
 clear hst
 intro w hst
 replace hst := hst.pull4
 obtain ⟨w7044, hr7045, hst⟩ := hst.boxStore1 (P := prog) (t := 71) (cs' := [v6981, v6983, v7035, v6987, v6989, v6991]) 2 v7035 (one_of_sliceV hst.sv2) sizeOf71 z z
 refine we_unit z (x_unit hr7045) ?_
 refine ws_next (pend' := [(1, Pt b6980 0)]) hst (by kernel_rfl) (pkr z z (fun w hst => x_load z isAgg60 (hst.bc9 z)) pk_nil) ?_
 refine wsr (Pt b6980 0) 19 z z z (by kernel_rfl) (fun w hst => z) (wsr (Pt b6980 3) 20 z z z (by kernel_rfl) (fun w hst => x_field z underlying73 z sizeOf71 z) ?_)
 refine ws_e1 21 (by kernel_rfl) ?_
 refine nxe [] (by kernel_rfl) z z ?_
 clear hst
 intro w hst
 obtain ⟨w7046, hr7047, hst⟩ := hst.boxStore1 (P := prog) (t := 71) (cs' := [v6981, v6983, v7035, v7040, v6989, v6991]) 3 v7040 (one_of_sliceV hst.sv1) sizeOf71 z z
 refine we_unit z (x_unit hr7047) ?_
 refine ws_next (pend' := []) hst (by kernel_rfl) pk_nil ?_
 refine ws_nil ?_
 intro w hst
 refine ⟨z, ?_⟩
 replace hst := hst.pull8.pull8.pull3.pull4.pull8.pull8.pull6
 replace hst := at_label_Lattice_close (pv := Pt b6980 0) (x := ({ up := z6653.up, down := z6653.down, join := (z6653.join ++ ([z6971])), meet := (z6653.meet ++ ([z6974])), rank := z6653.rank, all := z6653.all } : label_Lattice)) hst z
 replace hst := hst.pull3.keep2
 obtain rfl := some_inj hm
 exact ⟨_, _, hx7084, (fu 4 (.int .i64 ((a0).length : Int)) z (fu 5 (Pt b5460 0) z (fu 9 (.int .i64 z6654) z (fu 67 (.int .i64 ((a0).length : Int)) z (fu 68 (.int .i64 z6654) z z))))), hL7085, hst⟩
}
}
 {
 refine nxe [7, 8, 15, 16, 17, 18, 19, 20, 21] (by kernel_rfl) z z ?_
 clear hst
 intro w hst
 replace hst := hst.pull9
 obtain ⟨I7049, hI7050, f7051, hst⟩ := hst.own_fix
 replace f0_0 := f0_0.mono (rd_le hI7050)
 replace hI0 := hI0.trans hI7050
 replace hL7119 := hL7119.trans hI7050
 replace hL6659 := hL6659.trans hI7050
 replace hL7085 := hL7085.trans hI7050
 obtain ⟨b7052, w7053, ew7054, eb7055, hst⟩ := hst.lits (E := (tySl (tyInt .i64))) (xs := [z6974]) [[v6973]] 46 1 z (Reps.cons ⟨_, z, f7051, one_of_sliceV (ro_sliceV f7051)⟩ Reps.nil)
 refine we_run (v := (.slice (some ⟨b7052, 0, none⟩) 1 1)) (w' := w7053) z (x_als (by obtain ⟨_, _, hv_, _⟩ := (ro_sliceV f7051); rw [hv_]; kernel_rfl) ew7054 eb7055) ?_
 refine ws_next (pend' := [(12, v6987), (11, Pt b6980 3), (10, Pt b6980 0), (9, Pt b6980 0), (6, v6970), (5, v6985), (4, Pt b6980 2), (3, Pt b6980 0), (2, Pt b6980 0), (1, Pt b6980 0), (0, Pt b6980 0)]) hst (by kernel_rfl) (pkr z z (fun w hst => x_load z isAgg71 (hst.bc1 z)) (pkr z z (fun w hst => x_field z underlying73 z sizeOf71 z) (pkr z z (fun w hst => z) (pkr z z (fun w hst => x_load z isAgg60 (hst.bc8 z)) (pkr z z (fun w hst => z) (pkr z z (fun w hst => x_load z isAgg71 (hst.bc1 z)) (pkr z z (fun w hst => x_field z underlying73 z sizeOf71 z) (pkr z z (fun w hst => z) (pkr z z (fun w hst => x_load z isAgg60 (hst.bc8 z)) (pkr z z (fun w hst => x_load z isAgg60 (hst.bc8 z)) (pkr z z (fun w hst => x_load z isAgg60 (hst.bc8 z)) pk_nil))))))))))) ?_
 refine ws_e1 7 (by kernel_rfl) ?_
 refine nxe [8, 15, 16, 17, 18, 19, 20, 21] (by kernel_rfl) z z ?_
 clear hst
 intro w hst
 replace hst := hst.pull9
 obtain ⟨I7058, hI7059, f7060, hst⟩ := hst.own_fix
 replace f0_0 := f0_0.mono (rd_le hI7059)
 replace f7051 := f7051.mono (ro_le hI7059)
 replace hI0 := hI0.trans hI7059
 replace hL7119 := hL7119.trans hI7059
 replace hL6659 := hL6659.trans hI7059
 replace hL7085 := hL7085.trans hI7059
 obtain ⟨b7061, w7062, ew7063, eb7064, hst⟩ := hst.lits (E := (tySl (tyInt .i64))) (xs := [z6971]) [[v6970]] 46 1 z (Reps.cons ⟨_, z, f7060, one_of_sliceV (ro_sliceV f7060)⟩ Reps.nil)
 refine we_run (v := (.slice (some ⟨b7061, 0, none⟩) 1 1)) (w' := w7062) z (x_als (by obtain ⟨_, _, hv_, _⟩ := (ro_sliceV f7060); rw [hv_]; kernel_rfl) ew7063 eb7064) ?_
 refine ws_next (pend' := [(12, v6987), (11, Pt b6980 3), (10, Pt b6980 0), (9, Pt b6980 0), (5, v6985), (4, Pt b6980 2), (3, Pt b6980 0), (2, Pt b6980 0), (1, Pt b6980 0), (0, Pt b6980 0)]) hst (by kernel_rfl) (pkr z z (fun w hst => x_load z isAgg71 (hst.bc2 z)) (pkr z z (fun w hst => x_field z underlying73 z sizeOf71 z) (pkr z z (fun w hst => z) (pkr z z (fun w hst => x_load z isAgg60 (hst.bc9 z)) (pkr z z (fun w hst => x_load z isAgg71 (hst.bc2 z)) (pkr z z (fun w hst => x_field z underlying73 z sizeOf71 z) (pkr z z (fun w hst => z) (pkr z z (fun w hst => x_load z isAgg60 (hst.bc9 z)) (pkr z z (fun w hst => x_load z isAgg60 (hst.bc9 z)) (pkr z z (fun w hst => x_load z isAgg60 (hst.bc9 z)) pk_nil)))))))))) ?_
 refine ws_e1 8 (by kernel_rfl) ?_
 refine nxe [15, 16, 17, 18, 19, 20, 21] (by kernel_rfl) z z ?_
 clear hst
 intro w hst
 obtain ⟨hg7066, hm⟩ := gd_some hm
 replace hst := hst.pull5
 obtain ⟨v7067, w7068, hr7069, hst⟩ := run_append elem_71 underlying71 hst hst.src1 (room_of hg7066 z) 71
 refine we_run (v := v7067) (w' := w7068) z (x_append z z hr7069) ?_
 refine ws_next (pend' := [(12, v6987), (11, Pt b6980 3), (10, Pt b6980 0), (9, Pt b6980 0), (1, Pt b6980 0), (0, Pt b6980 0)]) hst (by kernel_rfl) (pkr z z (fun w hst => x_load z isAgg71 (hst.bc3 z)) (pkr z z (fun w hst => x_field z underlying73 z sizeOf71 z) (pkr z z (fun w hst => z) (pkr z z (fun w hst => x_load z isAgg60 (hst.bc9 z)) (pkr z z (fun w hst => x_load z isAgg60 (hst.bc9 z)) (pkr z z (fun w hst => x_load z isAgg60 (hst.bc9 z)) pk_nil)))))) ?_
 refine ws_e1 15 (by kernel_rfl) ?_
 refine nxe [16, 17, 18, 19, 20, 21] (by kernel_rfl) z z ?_
 clear hst
 intro w hst
 obtain ⟨hg7071, hm⟩ := gd_some hm
 replace hst := hst.pull6
 obtain ⟨v7072, w7073, hr7074, hst⟩ := run_append elem_71 underlying71 hst hst.src3 (room_of hg7071 z) 71
 refine we_run (v := v7072) (w' := w7073) z (x_append z z hr7074) ?_
 refine ws_next (pend' := [(1, Pt b6980 0), (0, Pt b6980 0)]) hst (by kernel_rfl) (pkr z z (fun w hst => x_load z isAgg60 (hst.bc9 z)) (pkr z z (fun w hst => x_load z isAgg60 (hst.bc9 z)) pk_nil)) ?_
 refine wsr (Pt b6980 0) 16 z z z (by kernel_rfl) (fun w hst => z) (wsr (Pt b6980 2) 17 z z z (by kernel_rfl) (fun w hst => x_field z underlying73 z sizeOf71 z) ?_)
 refine ws_e1 18 (by kernel_rfl) ?_
 refine nxe [19, 20, 21] (by kernel_rfl) z z ?_
 clear hst
 intro w hst
 replace hst := hst.pull4
 obtain ⟨w7076, hr7077, hst⟩ := hst.boxStore1 (P := prog) (t := 71) (cs' := [v6981, v6983, v7067, v6987, v6989, v6991]) 2 v7067 (one_of_sliceV hst.sv2) sizeOf71 z z
 refine we_unit z (x_unit hr7077) ?_
 refine ws_next (pend' := [(1, Pt b6980 0)]) hst (by kernel_rfl) (pkr z z (fun w hst => x_load z isAgg60 (hst.bc9 z)) pk_nil) ?_
 refine wsr (Pt b6980 0) 19 z z z (by kernel_rfl) (fun w hst => z) (wsr (Pt b6980 3) 20 z z z (by kernel_rfl) (fun w hst => x_field z underlying73 z sizeOf71 z) ?_)
 refine ws_e1 21 (by kernel_rfl) ?_
 refine nxe [] (by kernel_rfl) z z ?_
 clear hst
 intro w hst
 obtain ⟨w7078, hr7079, hst⟩ := hst.boxStore1 (P := prog) (t := 71) (cs' := [v6981, v6983, v7067, v7072, v6989, v6991]) 3 v7072 (one_of_sliceV hst.sv1) sizeOf71 z z
 refine we_unit z (x_unit hr7079) ?_
 refine ws_next (pend' := []) hst (by kernel_rfl) pk_nil ?_
 refine ws_nil ?_
 intro w hst
 refine ⟨z, ?_⟩
 replace hst := hst.pull8.pull8.pull3.pull4.pull8.pull8.pull6
 replace hst := at_label_Lattice_close (pv := Pt b6980 0) (x := ({ up := z6653.up, down := z6653.down, join := (z6653.join ++ ([z6971])), meet := (z6653.meet ++ ([z6974])), rank := z6653.rank, all := z6653.all } : label_Lattice)) hst z
 replace hst := hst.pull3.keep2
 obtain rfl := some_inj hm
 exact ⟨_, _, hx7084, (fu 4 (.int .i64 ((a0).length : Int)) z (fu 5 (Pt b5460 0) z (fu 9 (.int .i64 z6654) z (fu 67 (.int .i64 ((a0).length : Int)) z (fu 68 (.int .i64 z6654) z z))))), hL7085, hst⟩
}
}
 {
 clear hst
 rintro _ w7086 ⟨I7080, σ7081, hm, rfl, hL7082, hst⟩
 dsimp only [label_New_j8] at hm
 replace f0_0 := f0_0.mono (rd_le hL7082)
 replace hI0 := hI0.trans hL7082
 replace hL7119 := hL7119.trans hL7082
 replace hL6659 := hL6659.trans hL7082
 refine tn ?_
 replace hst := hst.pull1
 obtain ⟨b7087, v7088, v7090, v7092, v7094, v7096, v7098, e7100, hst'⟩ := at_label_Lattice_open hst
 clear hst
 have e7100 := ptr_inj e7100
 subst e7100
 have hst := hst'
 clear hst'
 refine wp_region_St hst 11 [0, 1, 2, 3, 4, 5, 6, 7, 8, 9, 10] [0, 0, 2, 6, 14, 0, 32, 126, 255, 511, 1023] [] z (by kernel_rfl) (by kernel_rfl) Try.mixed (by kernel_rfl) ?_
 refine wsr (Pt b6980 0) 0 z z z (by kernel_rfl) (fun w hst => x_load z isAgg60 (hst.bc7 z)) (wsr (Pt b6980 0) 1 z z z (by kernel_rfl) (fun w hst => x_load z isAgg60 (hst.bc7 z)) (wsr (Pt b6980 0) 2 z z z (by kernel_rfl) (fun w hst => z) (wsr (Pt b6980 5) 3 z z z (by kernel_rfl) (fun w hst => x_field z underlying73 z sizeOf46 z) (wsr (v7098) 4 z z z (by kernel_rfl) (fun w hst => x_load z isAgg46 (hst.bc0 z)) (wsr (.int .i64 z6654) 5 z z z (by kernel_rfl) (fun w hst => z) ?_)))))
 refine ws_e1 6 (by kernel_rfl) ?_
 refine nxe [7, 8, 9, 10] (by kernel_rfl) z z ?_
 clear hst
 intro w hst
 obtain ⟨b7101, w7102, ew7103, eb7104, hst⟩ := hst.lits (E := (tyInt .i64)) (xs := [z6654]) [[I6 z6654]] 3 1 z (Reps.cons z Reps.nil)
 refine we_run (v := (.slice (some ⟨b7101, 0, none⟩) 1 1)) (w' := w7102) z (x_als (by kernel_rfl) ew7103 eb7104) ?_
 refine ws_next (pend' := [(4, v7098), (3, Pt b6980 5), (2, Pt b6980 0), (1, Pt b6980 0), (0, Pt b6980 0)]) hst (by kernel_rfl) (pkr z z (fun w hst => x_load z isAgg46 (hst.bc1 z)) (pkr z z (fun w hst => x_field z underlying73 z sizeOf46 z) (pkr z z (fun w hst => z) (pkr z z (fun w hst => x_load z isAgg60 (hst.bc8 z)) (pkr z z (fun w hst => x_load z isAgg60 (hst.bc8 z)) pk_nil))))) ?_
 refine ws_e1 7 (by kernel_rfl) ?_
 refine nxe [8, 9, 10] (by kernel_rfl) z z ?_
 clear hst
 intro w hst
 obtain ⟨hg7106, hm⟩ := gd_some hm
 replace hst := hst.pull7
 obtain ⟨v7107, w7108, hr7109, hst⟩ := run_append elem_46 underlying46 hst hst.src1 (room_of hg7106 z) 46
 refine we_run (v := v7107) (w' := w7108) z (x_append z z hr7109) ?_
 refine ws_next (pend' := [(0, Pt b6980 0)]) hst (by kernel_rfl) (pkr z z (fun w hst => x_load z isAgg60 (hst.bc8 z)) pk_nil) ?_
 refine wsr (Pt b6980 0) 8 z z z (by kernel_rfl) (fun w hst => z) (wsr (Pt b6980 5) 9 z z z (by kernel_rfl) (fun w hst => x_field z underlying73 z sizeOf46 z) ?_)
 refine ws_e1 10 (by kernel_rfl) ?_
 refine nxe [] (by kernel_rfl) z z ?_
 clear hst
 intro w hst
 replace hst := hst.pull2
 obtain ⟨w7111, hr7112, hst⟩ := hst.boxStore1 (P := prog) (t := 46) (cs' := [v7088, v7090, v7092, v7094, v7096, v7107]) 5 v7107 (one_of_sliceV hst.sv1) sizeOf46 z z
 refine we_unit z (x_unit hr7112) ?_
 refine ws_next (pend' := []) hst (by kernel_rfl) pk_nil ?_
 refine ws_nil ?_
 intro w hst
 refine blk_n (tn (wrl ?_))
 refine wv (.int .i64 (i64.wrap (z6654 + (1:Int)))) z z z (wv (.int .i64 (i64.wrap (z6654 + (1:Int)))) z z z (wl_nil (tn ?_)))
 replace hst := hst.pull1.pull7.pull7.pull7.pull7.pull7.pull6
 replace hst := at_label_Lattice_close (pv := Pt b6980 0) (x := ({ up := ({ up := z6653.up, down := z6653.down, join := (z6653.join ++ ([z6971])), meet := (z6653.meet ++ ([z6974])), rank := z6653.rank, all := z6653.all } : label_Lattice).up, down := ({ up := z6653.up, down := z6653.down, join := (z6653.join ++ ([z6971])), meet := (z6653.meet ++ ([z6974])), rank := z6653.rank, all := z6653.all } : label_Lattice).down, join := ({ up := z6653.up, down := z6653.down, join := (z6653.join ++ ([z6971])), meet := (z6653.meet ++ ([z6974])), rank := z6653.rank, all := z6653.all } : label_Lattice).join, meet := ({ up := z6653.up, down := z6653.down, join := (z6653.join ++ ([z6971])), meet := (z6653.meet ++ ([z6974])), rank := z6653.rank, all := z6653.all } : label_Lattice).meet, rank := ({ up := z6653.up, down := z6653.down, join := (z6653.join ++ ([z6971])), meet := (z6653.meet ++ ([z6974])), rank := z6653.rank, all := z6653.all } : label_Lattice).rank, all := ((({ up := z6653.up, down := z6653.down, join := (z6653.join ++ ([z6971])), meet := (z6653.meet ++ ([z6974])), rank := z6653.rank, all := z6653.all } : label_Lattice).all) ++ ([z6654])) } : label_Lattice)) hst z
 replace hst := hst.pull2.keep2
 obtain rfl := some_inj hm
 exact ⟨_, Nat.lt_succ_self _, _, ({ up := ({ up := z6653.up, down := z6653.down, join := (z6653.join ++ ([z6971])), meet := (z6653.meet ++ ([z6974])), rank := z6653.rank, all := z6653.all } : label_Lattice).up, down := ({ up := z6653.up, down := z6653.down, join := (z6653.join ++ ([z6971])), meet := (z6653.meet ++ ([z6974])), rank := z6653.rank, all := z6653.all } : label_Lattice).down, join := ({ up := z6653.up, down := z6653.down, join := (z6653.join ++ ([z6971])), meet := (z6653.meet ++ ([z6974])), rank := z6653.rank, all := z6653.all } : label_Lattice).join, meet := ({ up := z6653.up, down := z6653.down, join := (z6653.join ++ ([z6971])), meet := (z6653.meet ++ ([z6974])), rank := z6653.rank, all := z6653.all } : label_Lattice).meet, rank := ({ up := z6653.up, down := z6653.down, join := (z6653.join ++ ([z6971])), meet := (z6653.meet ++ ([z6974])), rank := z6653.rank, all := z6653.all } : label_Lattice).rank, all := ((({ up := z6653.up, down := z6653.down, join := (z6653.join ++ ([z6971])), meet := (z6653.meet ++ ([z6974])), rank := z6653.rank, all := z6653.all } : label_Lattice).all) ++ ([z6654])) } : label_Lattice), (i64.wrap (z6654 + (1:Int))), _, hx6662, (fu 4 (.int .i64 ((a0).length : Int)) z (fu 5 (Pt b5460 0) z (fu 67 (.int .i64 ((a0).length : Int)) z (fu 68 (.int .i64 (i64.wrap (z6654 + (1:Int)))) z z)))), hL6659, hst⟩
}
}
}
 {
 replace hm := bif_f hc6664 hm
 refine wp_iff (cvb hc6664) ?_
 refine wp_exit (then_x (then_x ?_))
 replace hm := inr_up hm hx6662
 refine blk_x (tn ?_)
 replace hst := hst.pull1.pull1.keep2
 obtain rfl := some_inj hm
 exact ⟨_, z6653, _, hx7118, (fu 5 (Pt b5460 0) z z), hL7119, hst⟩
}
}
 {
 clear hst
 rintro _ w7120 ⟨I7114, z7113, σ7115, hm, rfl, hL7116, hst⟩
 dsimp only [label_New_j4] at hm
 replace f0_0 := f0_0.mono (rd_le hL7116)
 replace hI0 := hI0.trans hL7116
 refine wp_seq (wrl (wv (v5462) z z (x_load z isAgg60 (hst.bc0 z)) ?_))
 replace hst := hst.pull1
 obtain ⟨b7121, v7122, v7124, v7126, v7128, v7130, v7132, rfl, hst'⟩ := at_label_Lattice_open hst
 clear hst
 have hst := hst'
 clear hst'
 refine wv (Pt b7121 0) z z z (wv (Pt b7121 5) z z (x_field z underlying73 z sizeOf46 z) (wv (v7132) z z (x_load z isAgg46 (hst.bc0 z)) (wv (.func (.func 48) #[] #[Pt b5460 0]) z z (by kernel_rfl) ?_)))
 obtain ⟨y9430, hq9431, hm⟩ := bind_some hm
 refine wl_call z z (x_callv call47 (caps := []) z (vs := [v7132, .func (.func 48) #[] #[Pt b5460 0]]) z) ?_
 refine Calls.mono (show Calls prog 47 #[v7132, .func (.func 48) #[] #[Pt b5460 0]] _ (fun e w' => ∃ (z9428 : (List Int)), z9428 = y9430 ∧ e = .returned (.tuple #[]) ∧ St w0 w' I7114 [cells b5460 [Pt b7121 0], cells b7121 [v7122, v7124, v7126, v7128, v7130, v7132], ownS (tyInt .u64) v7122 z7113.up, ownS (tyInt .u64) v7124 z7113.down, ownS (tySl (tyInt .i64)) v7126 z7113.join, ownS (tySl (tyInt .i64)) v7128 z7113.meet, ownS (tyInt .i64) v7130 z7113.rank, ownS (tyInt .i64) v7132 z9428] R) from ?_) ?_
 {
 clear hm; have hm := hq9431
 refine calls_start (args := [v7132, .func (.func 48) #[] #[Pt b5460 0]]) func47 z ntmps47 (Nat.le_of_ble_eq_true z) ?_
 refine wrl (wv (v7132) z z z (wv (v7132) z z z (wv (.int .i64 ((z7113.all).length : Int)) z z (x_len z underlying46 hst.sv6) (wv (.func (.func 48) #[] #[Pt b5460 0]) z z z ?_))))
 obtain ⟨y9425, hq9426, hm⟩ := bind_some hm
 refine wl_call z z (x_callv call56 (caps := []) z (vs := [v7132, I6 ((z7113.all).length : Int), .func (.func 48) #[] #[Pt b5460 0]]) z) ?_
 refine Calls.mono (show Calls prog 56 #[v7132, I6 ((z7113.all).length : Int), .func (.func 48) #[] #[Pt b5460 0]] _ (fun e w' => ∃ (z9423 : (List Int)), z9423 = y9425 ∧ e = .returned (.tuple #[]) ∧ St w0 w' I7114 [cells b5460 [Pt b7121 0], cells b7121 [v7122, v7124, v7126, v7128, v7130, v7132], ownS (tyInt .u64) v7122 z7113.up, ownS (tyInt .u64) v7124 z7113.down, ownS (tySl (tyInt .i64)) v7126 z7113.join, ownS (tySl (tyInt .i64)) v7128 z7113.meet, ownS (tyInt .i64) v7130 z7113.rank, ownS (tyInt .i64) v7132 z9423] R) from ?_) ?_
 {
 clear hm; have hm := hq9426
 refine calls_start (args := [v7132, I6 ((z7113.all).length : Int), .func (.func 48) #[] #[Pt b5460 0]]) func56 z ntmps56 (Nat.le_of_ble_eq_true z) ?_
 refine wp_seq (wrl (wv (.int .i64 (20:Int)) z z z (wl_nil (tn (wp_seq (wrl (wv (.int .i64 (20:Int)) z z z (wv (.int .i64 (0:Int)) z z z (wv (.int .i64 (20:Int)) z z z (wl_nil (tn ?_)))))))))))
 obtain ⟨y8808, hm, hx8809⟩ := bind_some hm
 refine wp_cut (fun a w => ∃ (z8804 : (List Int)) (z8805 : Int) (σ8806 : Nat → Value), (label_New_j9 z7113) (z8804, z8805) = some y9425 ∧ a = Fr 63 (upd (upd (upd (upd (upd σ8806 0 (v7132)) 1 (.int .i64 ((z7113.all).length : Int))) 2 (.func (.func 48) #[] #[Pt b5460 0])) 6 (.int .i64 (20:Int))) 7 (.int .i64 z8805)) ∧ St w0 w I7114 [ownS (tyInt .i64) v7132 z8804, cells b5460 [Pt b7121 0], cells b7121 [v7122, v7124, v7126, v7128, v7130, v7132], ownS (tyInt .u64) v7122 z7113.up, ownS (tyInt .u64) v7124 z7113.down, ownS (tySl (tyInt .i64)) v7126 z7113.join, ownS (tySl (tyInt .i64)) v7128 z7113.meet, ownS (tyInt .i64) v7130 z7113.rank] R) ?_ ?_
 {
 refine wp_block ?_
 obtain ⟨n8245, hm⟩ := loopO_some hm
 refine wp_loop_n (fun n a w => ∃ (z8241 : Int) (z8242 : Int) (z8243 : (List Int)) (σ8244 : Nat → Value), loopN (label_New_l10 z7113) n (z8241, z8242, z8243) = some y8808 ∧ a = Fr 63 (upd (upd (upd (upd (upd (upd σ8244 0 (v7132)) 1 (.int .i64 ((z7113.all).length : Int))) 2 (.func (.func 48) #[] #[Pt b5460 0])) 6 (.int .i64 (20:Int))) 7 (.int .i64 z8241)) 8 (.int .i64 z8242)) ∧ St w0 w I7114 [cells b7121 [v7122, v7124, v7126, v7128, v7130, v7132], ownS (tyInt .u64) v7122 z7113.up, ownS (tyInt .u64) v7124 z7113.down, ownS (tySl (tyInt .i64)) v7126 z7113.join, ownS (tySl (tyInt .i64)) v7128 z7113.meet, ownS (tyInt .i64) v7130 z7113.rank, ownS (tyInt .i64) v7132 z8243, cells b5460 [Pt b7121 0]] R) n8245 ⟨(0:Int), (20:Int), z7113.all, _, hm, (fu 0 v7132 z (fu 1 (.int .i64 ((z7113.all).length : Int)) z (fu 2 (.func (.func 48) #[] #[Pt b5460 0]) z (fu 6 (.int .i64 (20:Int)) z (fu 7 (.int .i64 (0:Int)) z (fu 8 (.int .i64 (20:Int)) z z)))))), hst⟩ ?_
 rintro n8251 _ w8246 ⟨z8241, z8242, z8243, σ8244, hm, rfl, hst⟩
 obtain ⟨n8248, y8249, rfl, hm, hx8250⟩ := loopN_some hm
 dsimp only [label_New_l10] at hm
 refine wp_seq (wp_seq (wrl (wv (.int .i64 z8242) z z z (wv (.int .i64 ((z7113.all).length : Int)) z z z (wv (.bool (decide (z8242 ≤ ((z7113.all).length : Int)))) z z z (wl_nil (tn ?_)))))))
 refine bsplit (decide (z8242 ≤ ((z7113.all).length : Int))) (fun hc8252 => ?_) (fun hc8252 => ?_)
 {
 replace hm := bif_t hc8252 hm
 refine wp_ift (cvb hc8252) ?_
 refine wp_skip (tn (wp_block (wp_seq (wrl ?_))))
 refine wv (v7132) z z z (wv (.int .i64 z8241) z z z (wv (.int .i64 z8242) z z z (wv (.func (.func 48) #[] #[Pt b5460 0]) z z z ?_)))
 obtain ⟨y8801, hq8802, hm⟩ := bind_some hm
 refine wl_call z z (x_callv call59 (caps := []) z (vs := [v7132, I6 z8241, I6 z8242, .func (.func 48) #[] #[Pt b5460 0]]) z) ?_
 refine Calls.mono (show Calls prog 59 #[v7132, I6 z8241, I6 z8242, .func (.func 48) #[] #[Pt b5460 0]] _ (fun e w' => ∃ (z8799 : (List Int)), z8799 = y8801 ∧ e = .returned (.tuple #[]) ∧ St w0 w' I7114 [cells b5460 [Pt b7121 0], cells b7121 [v7122, v7124, v7126, v7128, v7130, v7132], ownS (tyInt .u64) v7122 z7113.up, ownS (tyInt .u64) v7124 z7113.down, ownS (tySl (tyInt .i64)) v7126 z7113.join, ownS (tySl (tyInt .i64)) v7128 z7113.meet, ownS (tyInt .i64) v7130 z7113.rank, ownS (tyInt .i64) v7132 z8799] R) from ?_) ?_
 {
 clear hm; have hm := hq8802
 refine calls_start (args := [v7132, I6 z8241, I6 z8242, .func (.func 48) #[] #[Pt b5460 0]]) func59 z ntmps59 (Nat.le_of_ble_eq_true z) ?_
 refine wp_seq (wrl (wv (.int .i64 z8241) z z z (wv (.int .i64 (i64.wrap (z8241 + (1:Int)))) z z z (wv (.int .i64 (i64.wrap (z8241 + (1:Int)))) z z z (wl_nil (tn (wp_block ?_)))))))
 obtain ⟨n8614, hm⟩ := loopO_some hm
 refine wp_loop_n (fun n a w => ∃ (z8611 : Int) (z8612 : (List Int)) (σ8613 : Nat → Value), loopN (label_New_l11 z8242 z8241 z7113) n (z8611, z8612) = some y8801 ∧ a = Fr 53 (upd (upd (upd (upd (upd σ8613 0 (v7132)) 1 (.int .i64 z8241)) 2 (.int .i64 z8242)) 3 (.func (.func 48) #[] #[Pt b5460 0])) 8 (.int .i64 z8611)) ∧ St w0 w I7114 [cells b7121 [v7122, v7124, v7126, v7128, v7130, v7132], ownS (tyInt .u64) v7122 z7113.up, ownS (tyInt .u64) v7124 z7113.down, ownS (tySl (tyInt .i64)) v7126 z7113.join, ownS (tySl (tyInt .i64)) v7128 z7113.meet, ownS (tyInt .i64) v7130 z7113.rank, ownS (tyInt .i64) v7132 z8612, cells b5460 [Pt b7121 0]] R) n8614 ⟨(i64.wrap (z8241 + (1:Int))), z8243, _, hm, (fu 0 v7132 z (fu 1 (.int .i64 z8241) z (fu 2 (.int .i64 z8242) z (fu 3 (.func (.func 48) #[] #[Pt b5460 0]) z (fu 8 (.int .i64 (i64.wrap (z8241 + (1:Int)))) z z))))), hst⟩ ?_
 rintro n8620 _ w8615 ⟨z8611, z8612, σ8613, hm, rfl, hst⟩
 obtain ⟨n8617, y8618, rfl, hm, hx8619⟩ := loopN_some hm
 dsimp only [label_New_l11] at hm
 refine wp_seq (wp_seq (wrl (wv (.int .i64 z8611) z z z (wv (.int .i64 z8242) z z z (wv (.bool (decide (z8611 < z8242))) z z z (wl_nil (tn ?_)))))))
 refine bsplit (decide (z8611 < z8242)) (fun hc8621 => ?_) (fun hc8621 => ?_)
 {
 replace hm := bif_t hc8621 hm
 refine wp_ift (cvb hc8621) ?_
 refine wp_skip (tn (wp_seq (wp_block (wp_seq (wrl ?_)))))
 refine wv (.int .i64 z8611) z z z (wv (.int .i64 z8611) z z z (wl_nil (tn (wp_block ?_))))
 obtain ⟨n8737, hm⟩ := loopO_some hm
 refine wp_loop_n (fun n a w => ∃ (z8734 : Int) (z8735 : (List Int)) (σ8736 : Nat → Value), loopN (label_New_l12 z8241 z7113 z8611) n (z8734, z8735) = some y8618 ∧ a = Fr 53 (upd (upd (upd (upd (upd (upd σ8736 0 (v7132)) 1 (.int .i64 z8241)) 2 (.int .i64 z8242)) 3 (.func (.func 48) #[] #[Pt b5460 0])) 8 (.int .i64 z8611)) 9 (.int .i64 z8734)) ∧ St w0 w I7114 [cells b7121 [v7122, v7124, v7126, v7128, v7130, v7132], ownS (tyInt .u64) v7122 z7113.up, ownS (tyInt .u64) v7124 z7113.down, ownS (tySl (tyInt .i64)) v7126 z7113.join, ownS (tySl (tyInt .i64)) v7128 z7113.meet, ownS (tyInt .i64) v7130 z7113.rank, ownS (tyInt .i64) v7132 z8735, cells b5460 [Pt b7121 0]] R) n8737 ⟨z8611, z8612, _, hm, (fu 0 v7132 z (fu 1 (.int .i64 z8241) z (fu 2 (.int .i64 z8242) z (fu 3 (.func (.func 48) #[] #[Pt b5460 0]) z (fu 8 (.int .i64 z8611) z (fu 9 (.int .i64 z8611) z z)))))), hst⟩ ?_
 rintro n8743 _ w8738 ⟨z8734, z8735, σ8736, hm, rfl, hst⟩
 obtain ⟨n8740, y8741, rfl, hm, hx8742⟩ := loopN_some hm
 dsimp only [label_New_l12] at hm
 refine wp_seq (wp_seq ?_)
 refine wp_region_St hst 17 [0, 1, 2, 3, 4, 5, 6, 7, 8, 9, 10, 11, 12, 13, 14, 15, 16] [0, 0, 3, 7, 15, 15, 15, 111, 239, 15, 15, 1039, 3599, 7695, 16383, 32767, 65535] [] z (by kernel_rfl) (by kernel_rfl) Try.mixed (by kernel_rfl) ?_
 refine wsr (.int .i64 z8734) 0 z z z (by kernel_rfl) (fun w hst => z) (wsr (.int .i64 z8241) 1 z z z (by kernel_rfl) (fun w hst => z) (wsr (.bool (decide (z8734 > z8241))) 2 z z z (by kernel_rfl) (fun w hst => z) (wsr (.bool (decide (z8734 > z8241))) 3 z z z (by kernel_rfl) (fun w hst => z) ?_)))
 refine bsplit (decide (z8734 > z8241)) (fun hc8744 => ?_) (fun hc8744 => ?_)
 {
 replace hm := bif_t hc8744 hm
 refine ws_q (v := .func (.func 48) #[] #[Pt b5460 0]) 4 [5, 6, 7, 8, 9, 10, 11, 12, 13, 14, 15, 16] (by kernel_rfl) z z (yi_run ((wanted_eq z z z (cvb hc8744)).trans z) (fun w hst => z)) (ws_q (v := v7132) 5 [6, 7, 8, 9, 10, 11, 12, 13, 14, 15, 16] (by kernel_rfl) z z (yi_run ((wanted_eq z z z (cvb hc8744)).trans z) (fun w hst => z)) (ws_q (v := .int .i64 z8734) 6 [7, 8, 9, 10, 11, 12, 13, 14, 15, 16] (by kernel_rfl) z z (yi_run ((wanted_eq z z z (cvb hc8744)).trans z) (fun w hst => z)) ?_))
 obtain ⟨x8745, hx8746, hm⟩ := bind_some hm
 obtain ⟨h8747, h8748, hi8749⟩ := geto_some hx8746
 refine ws_q (v := .pointer (some (eAddr v7132 (z8734.toNat * 1 + 0)))) 7 [8, 9, 10, 11, 12, 13, 14, 15, 16] (by kernel_rfl) z z (yi_run ((wanted_eq z z z (cvb hc8744)).trans z) (fun w hst => x_index z z underlying46 sizeOf3 hst.sv6 h8747 h8748)) (ws_q (v := .int .i64 x8745) 8 [9, 10, 11, 12, 13, 14, 15, 16] (by kernel_rfl) z z (yi_run ((wanted_eq z z z (cvb hc8744)).trans z) (fun w hst => x_load z isAgg3 (hst.ol6 hi8749 (by rintro _ rfl; rfl)))) (ws_q (v := v7132) 9 [10, 11, 12, 13, 14, 15, 16] (by kernel_rfl) z z (yi_run ((wanted_eq z z z (cvb hc8744)).trans z) (fun w hst => z)) (ws_q (v := .int .i64 z8734) 10 [11, 12, 13, 14, 15, 16] (by kernel_rfl) z z (yi_run ((wanted_eq z z z (cvb hc8744)).trans z) (fun w hst => z)) (ws_q (v := .int .i64 (i64.wrap (z8734 - (1:Int)))) 11 [12, 13, 14, 15, 16] (by kernel_rfl) z z (yi_run ((wanted_eq z z z (cvb hc8744)).trans z) (fun w hst => z)) ?_))))
 obtain ⟨x8750, hx8751, hm⟩ := bind_some hm
 obtain ⟨h8752, h8753, hi8754⟩ := geto_some hx8751
 refine ws_q (v := .pointer (some (eAddr v7132 ((i64.wrap (z8734 - (1:Int))).toNat * 1 + 0)))) 12 [13, 14, 15, 16] (by kernel_rfl) z z (yi_run ((wanted_eq z z z (cvb hc8744)).trans z) (fun w hst => x_index z z underlying46 sizeOf3 hst.sv6 h8752 h8753)) (ws_q (v := .int .i64 x8750) 13 [14, 15, 16] (by kernel_rfl) z z (yi_run ((wanted_eq z z z (cvb hc8744)).trans z) (fun w hst => x_load z isAgg3 (hst.ol6 hi8754 (by rintro _ rfl; rfl)))) ?_)
 refine ws_e1 14 (by kernel_rfl) ?_
 refine nxe [15, 16] (by kernel_rfl) z ((wanted_eq z z z (cvb hc8744)).trans z) ?_
 clear hst
 intro w hst
 obtain ⟨y8782, hq8783, hm⟩ := bind_some hm
 refine we_call z (x_callv call48 (caps := [Pt b5460 0]) z (vs := [I6 x8745, I6 x8750]) z) ?_
 refine Calls.mono (show Calls prog 48 #[I6 x8745, I6 x8750, Pt b5460 0] _ (fun e w' => ∃ (z8780 : Int), z8780 = y8782 ∧ e = .returned (.int .i64 z8780) ∧ St w0 w' I7114 [cells b5460 [Pt b7121 0], cells b7121 [v7122, v7124, v7126, v7128, v7130, v7132], ownS (tyInt .u64) v7122 z7113.up, ownS (tyInt .u64) v7124 z7113.down, ownS (tySl (tyInt .i64)) v7126 z7113.join, ownS (tySl (tyInt .i64)) v7128 z7113.meet, ownS (tyInt .i64) v7130 z7113.rank, ownS (tyInt .i64) v7132 z8735] R) from ?_) ?_
 {
 clear hm; have hm := hq8783
 refine calls_start (args := [I6 x8745, I6 x8750, Pt b5460 0]) func48 z ntmps48 (Nat.le_of_ble_eq_true z) ?_
 refine wp_seq (wrl (wv (.int .i64 (0:Int)) z z z (wl_nil (tn (wp_seq ?_)))))
 refine wp_region_St hst 18 [0, 1, 2, 3, 4, 5, 6, 7, 8, 9, 10, 11, 12, 13, 14, 15, 16, 17] [0, 1, 3, 7, 0, 31, 63, 127, 0, 256, 768, 1792, 0, 7936, 16128, 32767, 65535, 131071] [] z (by kernel_rfl) (by kernel_rfl) Try.mixed (by kernel_rfl) ?_
 refine wsr (Pt b7121 0) 0 z z z (by kernel_rfl) (fun w hst => x_load z isAgg60 (hst.bc7 z)) (wsr (Pt b7121 0) 1 z z z (by kernel_rfl) (fun w hst => z) (wsr (Pt b7121 1) 2 z z z (by kernel_rfl) (fun w hst => x_field z underlying73 z sizeOf25 z) (wsr (v7124) 3 z z z (by kernel_rfl) (fun w hst => x_load z isAgg25 (hst.bc0 z)) (wsr (.int .i64 x8745) 4 z z z (by kernel_rfl) (fun w hst => z) ?_))))
 obtain ⟨x8755, hx8756, hm⟩ := bind_some hm
 obtain ⟨h8757, h8758, hi8759⟩ := geto_some hx8756
 refine wsr (.pointer (some (eAddr v7124 (x8745.toNat * 1 + 0)))) 5 z z z (by kernel_rfl) (fun w hst => x_index z z underlying25 sizeOf22 hst.sv2 h8757 h8758) (wsr (.int .u64 x8755) 6 z z z (by kernel_rfl) (fun w hst => x_load z isAgg22 (hst.ol2 hi8759 (by rintro _ rfl; rfl))) (wsr (Pt b7121 0) 8 z z z (by kernel_rfl) (fun w hst => x_load z isAgg60 (hst.bc7 z)) (wsr (Pt b7121 0) 9 z z z (by kernel_rfl) (fun w hst => z) (wsr (Pt b7121 1) 10 z z z (by kernel_rfl) (fun w hst => x_field z underlying73 z sizeOf25 z) (wsr (v7124) 11 z z z (by kernel_rfl) (fun w hst => x_load z isAgg25 (hst.bc0 z)) (wsr (.int .i64 x8750) 12 z z z (by kernel_rfl) (fun w hst => z) ?_))))))
 obtain ⟨x8760, hx8761, hm⟩ := bind_some hm
 obtain ⟨h8762, h8763, hi8764⟩ := geto_some hx8761
 refine wsr (.pointer (some (eAddr v7124 (x8750.toNat * 1 + 0)))) 13 z z z (by kernel_rfl) (fun w hst => x_index z z underlying25 sizeOf22 hst.sv2 h8762 h8763) (wsr (.int .u64 x8760) 14 z z z (by kernel_rfl) (fun w hst => x_load z isAgg22 (hst.ol2 hi8764 (by rintro _ rfl; rfl))) ?_)
 refine ws_e1 7 (by kernel_rfl) ?_
 refine nxe [15, 16, 17] (by kernel_rfl) z z ?_
 clear hst
 intro w hst
 obtain ⟨t8765, ht8766, hm⟩ := bind_some hm
 refine wec call32 [U6 x8755] z z ?_
 refine (math_bits_OnesCount64_ref hst.to0 ht8766).mono ?_
 rintro _ w8767 ⟨rfl, hst⟩
 refine ⟨_, z, ?_⟩
 replace hst := hst.of0
 refine ws_next (pend' := [(14, U6 x8760), (13, .pointer (some (eAddr v7124 (x8750.toNat * 1 + 0)))), (12, I6 x8750), (11, v7124), (10, Pt b7121 1), (9, Pt b7121 0), (8, Pt b7121 0)]) hst (by kernel_rfl) (pkr z z (fun w hst => x_load z isAgg22 (hst.ol2 hi8764 (by rintro _ rfl; rfl))) (pkr z z (fun w hst => x_index z z underlying25 sizeOf22 hst.sv2 h8762 h8763) (pkr z z (fun w hst => z) (pkr z z (fun w hst => x_load z isAgg25 (hst.bc0 z)) (pkr z z (fun w hst => x_field z underlying73 z sizeOf25 z) (pkr z z (fun w hst => z) (pkr z z (fun w hst => x_load z isAgg60 (hst.bc7 z)) pk_nil))))))) ?_
 refine ws_e1 15 (by kernel_rfl) ?_
 refine nxe [16, 17] (by kernel_rfl) z z ?_
 clear hst
 intro w hst
 obtain ⟨t8770, ht8771, hm⟩ := bind_some hm
 refine wec call32 [U6 x8760] z z ?_
 refine (math_bits_OnesCount64_ref hst.to0 ht8771).mono ?_
 rintro _ w8772 ⟨rfl, hst⟩
 refine ⟨_, z, ?_⟩
 replace hst := hst.of0
 refine ws_next (pend' := []) hst (by kernel_rfl) pk_nil ?_
 refine ws_e1 16 (by kernel_rfl) ?_
 refine nxe [17] (by kernel_rfl) z z ?_
 clear hst
 intro w hst
 obtain ⟨t8775, ht8776, hm⟩ := bind_some hm
 refine wec call49 [I6 t8765, I6 t8770] z z ?_
 refine (cmp_Compare_int_ref hst.to0 ht8776).mono ?_
 rintro _ w8777 ⟨rfl, hst⟩
 refine ⟨_, z, ?_⟩
 replace hst := hst.of0
 refine ws_next (pend' := []) hst (by kernel_rfl) pk_nil ?_
 refine wsr (.int .i64 t8775) 17 z z z (by kernel_rfl) (fun w hst => z) ?_
 refine ws_nil ?_
 intro w hst
 refine tn (wp_ret ?_)
 refine post_ret (vs := [I6 t8775]) results48 (rvs_cons (rv_tmp z) rvs_nil) ?_
 replace hst := hst.pull6.pull6.pull6.pull6.pull6.pull6.pull6.pull7.keep8
 obtain rfl := some_inj hm
 exact ⟨t8775, z, z, hst⟩
}
 clear hst
 rintro _ w8784 ⟨z8780, rfl, rfl, hst⟩
 refine ⟨_, z, ?_⟩
 try dsimp only at hm
 refine ws_next (pend' := []) hst (by kernel_rfl) pk_nil ?_
 refine ws_q (v := .bool (decide (z8780 < (0:Int)))) 15 [16] (by kernel_rfl) z z (yi_run ((wanted_eq z z z (cvb hc8744)).trans z) (fun w hst => z)) (wsr (.bool (decide (z8780 < (0:Int)))) 16 z z z (by kernel_rfl) (fun w hst => x_pick_t hc8744 z z) ?_)
 refine ws_nil ?_
 intro w hst
 refine tn ?_
 refine bsplit (decide (z8780 < (0:Int))) (fun hc8785 => ?_) (fun hc8785 => ?_)
 {
 replace hm := bif_t hc8785 hm
 refine wp_ift (cvb hc8785) ?_
 refine wp_skip (tn (wp_seq (wp_block ?_)))
 refine wp_region_St hst 18 [0, 1, 2, 3, 4, 5, 6, 7, 8, 9, 10, 11, 12, 13, 14, 15, 16, 17] [0, 0, 0, 0, 8, 0, 0, 64, 224, 480, 0, 0, 3072, 7168, 16355, 32739, 65535, 131071] [] z (by kernel_rfl) (by kernel_rfl) Try.mixed (by kernel_rfl) ?_
 refine wsr (v7132) 0 z z z (by kernel_rfl) (fun w hst => z) (wsr (.int .i64 z8734) 1 z z z (by kernel_rfl) (fun w hst => z) (wsr (v7132) 2 z z z (by kernel_rfl) (fun w hst => z) (wsr (.int .i64 z8734) 3 z z z (by kernel_rfl) (fun w hst => z) (wsr (.int .i64 (i64.wrap (z8734 - (1:Int)))) 4 z z z (by kernel_rfl) (fun w hst => z) (wsr (v7132) 5 z z z (by kernel_rfl) (fun w hst => z) (wsr (.int .i64 z8734) 6 z z z (by kernel_rfl) (fun w hst => z) (wsr (.int .i64 (i64.wrap (z8734 - (1:Int)))) 7 z z z (by kernel_rfl) (fun w hst => z) (wsr (.pointer (some (eAddr v7132 ((i64.wrap (z8734 - (1:Int))).toNat * 1 + 0)))) 8 z z z (by kernel_rfl) (fun w hst => x_index z z underlying46 sizeOf3 hst.sv7 h8752 h8753) (wsr (.int .i64 x8750) 9 z z z (by kernel_rfl) (fun w hst => x_load z isAgg3 (hst.ol7 hi8754 (by rintro _ rfl; rfl))) (wsr (v7132) 10 z z z (by kernel_rfl) (fun w hst => z) (wsr (.int .i64 z8734) 11 z z z (by kernel_rfl) (fun w hst => z) (wsr (.pointer (some (eAddr v7132 (z8734.toNat * 1 + 0)))) 12 z z z (by kernel_rfl) (fun w hst => x_index z z underlying46 sizeOf3 hst.sv7 h8747 h8748) ?_))))))))))))
 refine wsr (.int .i64 x8745) 13 z z z (by kernel_rfl) (fun w hst => x_load z isAgg3 (hst.ol7 hi8749 (by rintro _ rfl; rfl))) (wsr (.pointer (some (eAddr v7132 (z8734.toNat * 1 + 0)))) 14 z z z (by kernel_rfl) (fun w hst => x_index z z underlying46 sizeOf3 hst.sv7 h8747 h8748) ?_)
 refine ws_e1 15 (by kernel_rfl) ?_
 refine nxe [16, 17] (by kernel_rfl) z z ?_
 clear hst
 intro w hst
 replace hst := hst.pull7
 obtain ⟨w8786, hr8787, hst⟩ := hst.own_store (P := prog) (t := 3) (y := x8750) hi8749 0 (.int .i64 x8750) sizeOf3 (Nat.le_of_ble_eq_true z) (oC z oN) (by rintro _ rfl; rfl)
 have hi8788 := set_get hi8749 x8750
 have h8789 := set_lt h8748 z8734.toNat x8750
 refine we_unit z (x_unit hr8787) ?_
 refine ws_next (pend' := [(4, I6 (i64.wrap (z8734 - (1:Int)))), (3, I6 z8734), (2, v7132)]) hst (by kernel_rfl) (pkr z z (fun w hst => z) (pkr z z (fun w hst => z) (pkr z z (fun w hst => z) pk_nil))) ?_
 obtain ⟨x8790, hx8791, hm⟩ := bind_some hm
 obtain ⟨h8792, h8793, hi8794⟩ := geto_some hx8791
 refine wsr (.pointer (some (eAddr v7132 ((i64.wrap (z8734 - (1:Int))).toNat * 1 + 0)))) 16 z z z (by kernel_rfl) (fun w hst => x_index z z underlying46 sizeOf3 hst.sv0 h8792 h8793) ?_
 refine ws_e1 17 (by kernel_rfl) ?_
 refine nxe [] (by kernel_rfl) z z ?_
 clear hst
 intro w hst
 obtain ⟨w8795, hr8796, hst⟩ := hst.own_store (P := prog) (t := 3) (y := x8745) hi8794 0 (.int .i64 x8745) sizeOf3 (Nat.le_of_ble_eq_true z) (oC z oN) (by rintro _ rfl; rfl)
 have hi8797 := set_get hi8794 x8745
 have h8798 := set_lt h8793 (i64.wrap (z8734 - (1:Int))).toNat x8745
 refine we_unit z (x_unit hr8796) ?_
 refine ws_next (pend' := []) hst (by kernel_rfl) pk_nil ?_
 refine ws_nil ?_
 intro w hst
 refine blk_n (tn (wrl ?_))
 refine wv (.int .i64 z8734) z z z (wv (.int .i64 (i64.wrap (z8734 - (1:Int)))) z z z (wv (.int .i64 (i64.wrap (z8734 - (1:Int)))) z z z (wl_nil (tn ?_))))
 replace hst := hst.pull1.pull1.pull7.pull7.pull7.pull7.pull7.pull7.keep8
 obtain rfl := some_inj hm
 exact ⟨_, Nat.lt_succ_self _, (i64.wrap (z8734 - (1:Int))), ((z8735.set z8734.toNat x8750).set (i64.wrap (z8734 - (1:Int))).toNat x8745), _, hx8742, (fu 0 v7132 z (fu 1 (.int .i64 z8241) z (fu 2 (.int .i64 z8242) z (fu 3 (.func (.func 48) #[] #[Pt b5460 0]) z (fu 8 (.int .i64 z8611) z (fu 9 (.int .i64 (i64.wrap (z8734 - (1:Int)))) z z)))))), hst⟩
}
 {
 replace hm := bif_f hc8785 hm
 refine wp_iff (cvb hc8785) ?_
 refine wp_exit (then_x (then_x ?_))
 replace hm := inr_up hm hx8742
 refine blk_x (blk_n (tn (wrl ?_)))
 refine wv (.int .i64 z8611) z z z (wv (.int .i64 (i64.wrap (z8611 + (1:Int)))) z z z (wv (.int .i64 (i64.wrap (z8611 + (1:Int)))) z z z (wl_nil (tn ?_))))
 replace hst := hst.pull7.pull7.pull7.pull7.pull7.pull7.pull7.keep8
 obtain rfl := some_inj hm
 exact ⟨_, Nat.lt_succ_self _, (i64.wrap (z8611 + (1:Int))), z8735, _, hx8619, (fu 0 v7132 z (fu 1 (.int .i64 z8241) z (fu 2 (.int .i64 z8242) z (fu 3 (.func (.func 48) #[] #[Pt b5460 0]) z (fu 8 (.int .i64 (i64.wrap (z8611 + (1:Int)))) z z))))), hst⟩
}
}
 {
 replace hm := bif_f hc8744 hm
 refine ws_q (v := undef) 4 [5, 6, 7, 8, 9, 10, 11, 12, 13, 14, 15, 16] (by kernel_rfl) z z (yi_off ((wanted_eq z z z (cvb hc8744)).trans z)) (ws_q (v := undef) 5 [6, 7, 8, 9, 10, 11, 12, 13, 14, 15, 16] (by kernel_rfl) z z (yi_off ((wanted_eq z z z (cvb hc8744)).trans z)) (ws_q (v := undef) 6 [7, 8, 9, 10, 11, 12, 13, 14, 15, 16] (by kernel_rfl) z z (yi_off ((wanted_eq z z z (cvb hc8744)).trans z)) (ws_q (v := undef) 7 [8, 9, 10, 11, 12, 13, 14, 15, 16] (by kernel_rfl) z z (yi_off ((wanted_eq z z z (cvb hc8744)).trans z)) (ws_q (v := undef) 8 [9, 10, 11, 12, 13, 14, 15, 16] (by kernel_rfl) z z (yi_off ((wanted_eq z z z (cvb hc8744)).trans z)) (ws_q (v := undef) 9 [10, 11, 12, 13, 14, 15, 16] (by kernel_rfl) z z (yi_off ((wanted_eq z z z (cvb hc8744)).trans z)) (ws_q (v := undef) 10 [11, 12, 13, 14, 15, 16] (by kernel_rfl) z z (yi_off ((wanted_eq z z z (cvb hc8744)).trans z)) (ws_q (v := undef) 11 [12, 13, 14, 15, 16] (by kernel_rfl) z z (yi_off ((wanted_eq z z z (cvb hc8744)).trans z)) (ws_q (v := undef) 12 [13, 14, 15, 16] (by kernel_rfl) z z (yi_off ((wanted_eq z z z (cvb hc8744)).trans z)) (ws_q (v := undef) 13 [14, 15, 16] (by kernel_rfl) z z (yi_off ((wanted_eq z z z (cvb hc8744)).trans z)) (ws_q (v := undef) 14 [15, 16] (by kernel_rfl) z z (yi_off ((wanted_eq z z z (cvb hc8744)).trans z)) (ws_q (v := undef) 15 [16] (by kernel_rfl) z z (yi_off ((wanted_eq z z z (cvb hc8744)).trans z)) (wsr (.bool false) 16 z z z (by kernel_rfl) (fun w hst => x_pick_f hc8744 z z) ?_))))))))))))
 refine ws_nil ?_
 intro w hst
 refine tn ?_
 refine wp_iff z ?_
 refine wp_exit (then_x (then_x ?_))
 replace hm := inr_up hm hx8742
 refine blk_x (blk_n (tn (wrl ?_)))
 refine wv (.int .i64 z8611) z z z (wv (.int .i64 (i64.wrap (z8611 + (1:Int)))) z z z (wv (.int .i64 (i64.wrap (z8611 + (1:Int)))) z z z (wl_nil (tn ?_))))
 replace hst := hst.pull7.pull7.pull7.pull7.pull7.pull7.pull7.pull7.keep8
 obtain rfl := some_inj hm
 exact ⟨_, Nat.lt_succ_self _, (i64.wrap (z8611 + (1:Int))), z8735, _, hx8619, (fu 0 v7132 z (fu 1 (.int .i64 z8241) z (fu 2 (.int .i64 z8242) z (fu 3 (.func (.func 48) #[] #[Pt b5460 0]) z (fu 8 (.int .i64 (i64.wrap (z8611 + (1:Int)))) z z))))), hst⟩
}
}
 {
 replace hm := bif_f hc8621 hm
 refine wp_iff (cvb hc8621) ?_
 refine wp_exit (then_x (then_x ?_))
 replace hm := inr_up hm hx8619
 refine blk_x ?_
 refine post_end (vs := []) results59 rvs_nil ?_
 replace hst := hst.pull6.pull6.pull6.pull6.pull6.pull6.pull6.pull7.keep8
 obtain rfl := some_inj hm
 exact ⟨z8612, z, z, hst⟩
}
}
 clear hst
 rintro _ w8803 ⟨z8799, rfl, rfl, hst⟩
 refine ⟨_, z, ?_⟩
 try dsimp only at hm
 refine wl_nil (tn (wp_seq (wrl (wv (.int .i64 z8242) z z z (wv (.int .i64 z8242) z z z (wl_nil (tn (wrl (wv (.int .i64 z8242) z z z (wv (.int .i64 (20:Int)) z z z (wv (.int .i64 (i64.wrap (z8242 + (20:Int)))) z z z (wv (.int .i64 (i64.wrap (z8242 + (20:Int)))) z z z (wl_nil (blk_n (tn ?_)))))))))))))))
 replace hst := hst.pull7.pull7.pull7.pull7.pull7.pull7.pull7.keep8
 obtain rfl := some_inj hm
 exact ⟨_, Nat.lt_succ_self _, z8242, (i64.wrap (z8242 + (20:Int))), z8799, _, hx8250, (fu 0 v7132 z (fu 1 (.int .i64 ((z7113.all).length : Int)) z (fu 2 (.func (.func 48) #[] #[Pt b5460 0]) z (fu 6 (.int .i64 (20:Int)) z (fu 7 (.int .i64 z8242) z (fu 8 (.int .i64 (i64.wrap (z8242 + (20:Int)))) z z)))))), hst⟩
}
 {
 replace hm := bif_f hc8252 hm
 refine wp_iff (cvb hc8252) ?_
 refine wp_exit (then_x (then_x ?_))
 replace hm := inr_up hm hx8250
 refine blk_x (tn ?_)
 replace hst := hst.pull5.pull5.pull5.pull5.pull5.pull5.pull7.pull7.keep8
 obtain rfl := some_inj hm
 exact ⟨z8243, z8241, _, hx8809, (fu 0 v7132 z (fu 1 (.int .i64 ((z7113.all).length : Int)) z (fu 2 (.func (.func 48) #[] #[Pt b5460 0]) z (fu 6 (.int .i64 (20:Int)) z (fu 7 (.int .i64 z8241) z z))))), hst⟩
}
}
 {
 clear hst
 rintro _ w8810 ⟨z8804, z8805, σ8806, hm, rfl, hst⟩
 dsimp only [label_New_j9] at hm
 refine wp_seq (wrl (wv (v7132) z z z (wv (.int .i64 z8805) z z z (wv (.int .i64 ((z7113.all).length : Int)) z z z (wv (.func (.func 48) #[] #[Pt b5460 0]) z z z ?_)))))
 obtain ⟨y9359, hq9360, hm⟩ := bind_some hm
 refine wl_call z z (x_callv call59 (caps := []) z (vs := [v7132, I6 z8805, I6 ((z7113.all).length : Int), .func (.func 48) #[] #[Pt b5460 0]]) z) ?_
 refine Calls.mono (show Calls prog 59 #[v7132, I6 z8805, I6 ((z7113.all).length : Int), .func (.func 48) #[] #[Pt b5460 0]] _ (fun e w' => ∃ (z9357 : (List Int)), z9357 = y9359 ∧ e = .returned (.tuple #[]) ∧ St w0 w' I7114 [cells b5460 [Pt b7121 0], cells b7121 [v7122, v7124, v7126, v7128, v7130, v7132], ownS (tyInt .u64) v7122 z7113.up, ownS (tyInt .u64) v7124 z7113.down, ownS (tySl (tyInt .i64)) v7126 z7113.join, ownS (tySl (tyInt .i64)) v7128 z7113.meet, ownS (tyInt .i64) v7130 z7113.rank, ownS (tyInt .i64) v7132 z9357] R) from ?_) ?_
 {
 clear hm; have hm := hq9360
 refine calls_start (args := [v7132, I6 z8805, I6 ((z7113.all).length : Int), .func (.func 48) #[] #[Pt b5460 0]]) func59 z ntmps59 (Nat.le_of_ble_eq_true z) ?_
 refine wp_seq (wrl (wv (.int .i64 z8805) z z z (wv (.int .i64 (i64.wrap (z8805 + (1:Int)))) z z z (wv (.int .i64 (i64.wrap (z8805 + (1:Int)))) z z z (wl_nil (tn (wp_block ?_)))))))
 obtain ⟨n9172, hm⟩ := loopO_some hm
 refine wp_loop_n (fun n a w => ∃ (z9169 : Int) (z9170 : (List Int)) (σ9171 : Nat → Value), loopN (label_New_l13 z7113 z8805) n (z9169, z9170) = some y9359 ∧ a = Fr 53 (upd (upd (upd (upd (upd σ9171 0 (v7132)) 1 (.int .i64 z8805)) 2 (.int .i64 ((z7113.all).length : Int))) 3 (.func (.func 48) #[] #[Pt b5460 0])) 8 (.int .i64 z9169)) ∧ St w0 w I7114 [ownS (tyInt .i64) v7132 z9170, cells b5460 [Pt b7121 0], cells b7121 [v7122, v7124, v7126, v7128, v7130, v7132], ownS (tyInt .u64) v7122 z7113.up, ownS (tyInt .u64) v7124 z7113.down, ownS (tySl (tyInt .i64)) v7126 z7113.join, ownS (tySl (tyInt .i64)) v7128 z7113.meet, ownS (tyInt .i64) v7130 z7113.rank] R) n9172 ⟨(i64.wrap (z8805 + (1:Int))), z8804, _, hm, (fu 0 v7132 z (fu 1 (.int .i64 z8805) z (fu 2 (.int .i64 ((z7113.all).length : Int)) z (fu 3 (.func (.func 48) #[] #[Pt b5460 0]) z (fu 8 (.int .i64 (i64.wrap (z8805 + (1:Int)))) z z))))), hst⟩ ?_
 rintro n9178 _ w9173 ⟨z9169, z9170, σ9171, hm, rfl, hst⟩
 obtain ⟨n9175, y9176, rfl, hm, hx9177⟩ := loopN_some hm
 dsimp only [label_New_l13] at hm
 refine wp_seq (wp_seq (wrl (wv (.int .i64 z9169) z z z (wv (.int .i64 ((z7113.all).length : Int)) z z z (wv (.bool (decide (z9169 < ((z7113.all).length : Int)))) z z z (wl_nil (tn ?_)))))))
 refine bsplit (decide (z9169 < ((z7113.all).length : Int))) (fun hc9179 => ?_) (fun hc9179 => ?_)
 {
 replace hm := bif_t hc9179 hm
 refine wp_ift (cvb hc9179) ?_
 refine wp_skip (tn (wp_seq (wp_block (wp_seq (wrl ?_)))))
 refine wv (.int .i64 z9169) z z z (wv (.int .i64 z9169) z z z (wl_nil (tn (wp_block ?_))))
 obtain ⟨n9295, hm⟩ := loopO_some hm
 refine wp_loop_n (fun n a w => ∃ (z9292 : Int) (z9293 : (List Int)) (σ9294 : Nat → Value), loopN (label_New_l14 z8805 z7113 z9169) n (z9292, z9293) = some y9176 ∧ a = Fr 53 (upd (upd (upd (upd (upd (upd σ9294 0 (v7132)) 1 (.int .i64 z8805)) 2 (.int .i64 ((z7113.all).length : Int))) 3 (.func (.func 48) #[] #[Pt b5460 0])) 8 (.int .i64 z9169)) 9 (.int .i64 z9292)) ∧ St w0 w I7114 [ownS (tyInt .i64) v7132 z9293, cells b5460 [Pt b7121 0], cells b7121 [v7122, v7124, v7126, v7128, v7130, v7132], ownS (tyInt .u64) v7122 z7113.up, ownS (tyInt .u64) v7124 z7113.down, ownS (tySl (tyInt .i64)) v7126 z7113.join, ownS (tySl (tyInt .i64)) v7128 z7113.meet, ownS (tyInt .i64) v7130 z7113.rank] R) n9295 ⟨z9169, z9170, _, hm, (fu 0 v7132 z (fu 1 (.int .i64 z8805) z (fu 2 (.int .i64 ((z7113.all).length : Int)) z (fu 3 (.func (.func 48) #[] #[Pt b5460 0]) z (fu 8 (.int .i64 z9169) z (fu 9 (.int .i64 z9169) z z)))))), hst⟩ ?_
 rintro n9301 _ w9296 ⟨z9292, z9293, σ9294, hm, rfl, hst⟩
 obtain ⟨n9298, y9299, rfl, hm, hx9300⟩ := loopN_some hm
 dsimp only [label_New_l14] at hm
 refine wp_seq (wp_seq ?_)
 refine wp_region_St hst 17 [0, 1, 2, 3, 4, 5, 6, 7, 8, 9, 10, 11, 12, 13, 14, 15, 16] [0, 0, 3, 7, 15, 15, 15, 111, 239, 15, 15, 1039, 3599, 7695, 16383, 32767, 65535] [] z (by kernel_rfl) (by kernel_rfl) Try.mixed (by kernel_rfl) ?_
 refine wsr (.int .i64 z9292) 0 z z z (by kernel_rfl) (fun w hst => z) (wsr (.int .i64 z8805) 1 z z z (by kernel_rfl) (fun w hst => z) (wsr (.bool (decide (z9292 > z8805))) 2 z z z (by kernel_rfl) (fun w hst => z) (wsr (.bool (decide (z9292 > z8805))) 3 z z z (by kernel_rfl) (fun w hst => z) ?_)))
 refine bsplit (decide (z9292 > z8805)) (fun hc9302 => ?_) (fun hc9302 => ?_)
 {
 replace hm := bif_t hc9302 hm
 refine ws_q (v := .func (.func 48) #[] #[Pt b5460 0]) 4 [5, 6, 7, 8, 9, 10, 11, 12, 13, 14, 15, 16] (by kernel_rfl) z z (yi_run ((wanted_eq z z z (cvb hc9302)).trans z) (fun w hst => z)) (ws_q (v := v7132) 5 [6, 7, 8, 9, 10, 11, 12, 13, 14, 15, 16] (by kernel_rfl) z z (yi_run ((wanted_eq z z z (cvb hc9302)).trans z) (fun w hst => z)) (ws_q (v := .int .i64 z9292) 6 [7, 8, 9, 10, 11, 12, 13, 14, 15, 16] (by kernel_rfl) z z (yi_run ((wanted_eq z z z (cvb hc9302)).trans z) (fun w hst => z)) ?_))
 obtain ⟨x9303, hx9304, hm⟩ := bind_some hm
 obtain ⟨h9305, h9306, hi9307⟩ := geto_some hx9304
 refine ws_q (v := .pointer (some (eAddr v7132 (z9292.toNat * 1 + 0)))) 7 [8, 9, 10, 11, 12, 13, 14, 15, 16] (by kernel_rfl) z z (yi_run ((wanted_eq z z z (cvb hc9302)).trans z) (fun w hst => x_index z z underlying46 sizeOf3 hst.sv0 h9305 h9306)) (ws_q (v := .int .i64 x9303) 8 [9, 10, 11, 12, 13, 14, 15, 16] (by kernel_rfl) z z (yi_run ((wanted_eq z z z (cvb hc9302)).trans z) (fun w hst => x_load z isAgg3 (hst.ol0 hi9307 (by rintro _ rfl; rfl)))) (ws_q (v := v7132) 9 [10, 11, 12, 13, 14, 15, 16] (by kernel_rfl) z z (yi_run ((wanted_eq z z z (cvb hc9302)).trans z) (fun w hst => z)) (ws_q (v := .int .i64 z9292) 10 [11, 12, 13, 14, 15, 16] (by kernel_rfl) z z (yi_run ((wanted_eq z z z (cvb hc9302)).trans z) (fun w hst => z)) (ws_q (v := .int .i64 (i64.wrap (z9292 - (1:Int)))) 11 [12, 13, 14, 15, 16] (by kernel_rfl) z z (yi_run ((wanted_eq z z z (cvb hc9302)).trans z) (fun w hst => z)) ?_))))
 obtain ⟨x9308, hx9309, hm⟩ := bind_some hm
 obtain ⟨h9310, h9311, hi9312⟩ := geto_some hx9309
 refine ws_q (v := .pointer (some (eAddr v7132 ((i64.wrap (z9292 - (1:Int))).toNat * 1 + 0)))) 12 [13, 14, 15, 16] (by kernel_rfl) z z (yi_run ((wanted_eq z z z (cvb hc9302)).trans z) (fun w hst => x_index z z underlying46 sizeOf3 hst.sv0 h9310 h9311)) (ws_q (v := .int .i64 x9308) 13 [14, 15, 16] (by kernel_rfl) z z (yi_run ((wanted_eq z z z (cvb hc9302)).trans z) (fun w hst => x_load z isAgg3 (hst.ol0 hi9312 (by rintro _ rfl; rfl)))) ?_)
 refine ws_e1 14 (by kernel_rfl) ?_
 refine nxe [15, 16] (by kernel_rfl) z ((wanted_eq z z z (cvb hc9302)).trans z) ?_
 clear hst
 intro w hst
 obtain ⟨y9340, hq9341, hm⟩ := bind_some hm
 refine we_call z (x_callv call48 (caps := [Pt b5460 0]) z (vs := [I6 x9303, I6 x9308]) z) ?_
 refine Calls.mono (show Calls prog 48 #[I6 x9303, I6 x9308, Pt b5460 0] _ (fun e w' => ∃ (z9338 : Int), z9338 = y9340 ∧ e = .returned (.int .i64 z9338) ∧ St w0 w' I7114 [cells b5460 [Pt b7121 0], cells b7121 [v7122, v7124, v7126, v7128, v7130, v7132], ownS (tyInt .u64) v7122 z7113.up, ownS (tyInt .u64) v7124 z7113.down, ownS (tySl (tyInt .i64)) v7126 z7113.join, ownS (tySl (tyInt .i64)) v7128 z7113.meet, ownS (tyInt .i64) v7130 z7113.rank, ownS (tyInt .i64) v7132 z9293] R) from ?_) ?_
 {
 clear hm; have hm := hq9341
 refine calls_start (args := [I6 x9303, I6 x9308, Pt b5460 0]) func48 z ntmps48 (Nat.le_of_ble_eq_true z) ?_
 refine wp_seq (wrl (wv (.int .i64 (0:Int)) z z z (wl_nil (tn (wp_seq ?_)))))
 refine wp_region_St hst 18 [0, 1, 2, 3, 4, 5, 6, 7, 8, 9, 10, 11, 12, 13, 14, 15, 16, 17] [0, 1, 3, 7, 0, 31, 63, 127, 0, 256, 768, 1792, 0, 7936, 16128, 32767, 65535, 131071] [] z (by kernel_rfl) (by kernel_rfl) Try.mixed (by kernel_rfl) ?_
 refine wsr (Pt b7121 0) 0 z z z (by kernel_rfl) (fun w hst => x_load z isAgg60 (hst.bc1 z)) (wsr (Pt b7121 0) 1 z z z (by kernel_rfl) (fun w hst => z) (wsr (Pt b7121 1) 2 z z z (by kernel_rfl) (fun w hst => x_field z underlying73 z sizeOf25 z) (wsr (v7124) 3 z z z (by kernel_rfl) (fun w hst => x_load z isAgg25 (hst.bc2 z)) (wsr (.int .i64 x9303) 4 z z z (by kernel_rfl) (fun w hst => z) ?_))))
 obtain ⟨x9313, hx9314, hm⟩ := bind_some hm
 obtain ⟨h9315, h9316, hi9317⟩ := geto_some hx9314
 refine wsr (.pointer (some (eAddr v7124 (x9303.toNat * 1 + 0)))) 5 z z z (by kernel_rfl) (fun w hst => x_index z z underlying25 sizeOf22 hst.sv4 h9315 h9316) (wsr (.int .u64 x9313) 6 z z z (by kernel_rfl) (fun w hst => x_load z isAgg22 (hst.ol4 hi9317 (by rintro _ rfl; rfl))) (wsr (Pt b7121 0) 8 z z z (by kernel_rfl) (fun w hst => x_load z isAgg60 (hst.bc1 z)) (wsr (Pt b7121 0) 9 z z z (by kernel_rfl) (fun w hst => z) (wsr (Pt b7121 1) 10 z z z (by kernel_rfl) (fun w hst => x_field z underlying73 z sizeOf25 z) (wsr (v7124) 11 z z z (by kernel_rfl) (fun w hst => x_load z isAgg25 (hst.bc2 z)) (wsr (.int .i64 x9308) 12 z z z (by kernel_rfl) (fun w hst => z) ?_))))))
 obtain ⟨x9318, hx9319, hm⟩ := bind_some hm
 obtain ⟨h9320, h9321, hi9322⟩ := geto_some hx9319
 refine wsr (.pointer (some (eAddr v7124 (x9308.toNat * 1 + 0)))) 13 z z z (by kernel_rfl) (fun w hst => x_index z z underlying25 sizeOf22 hst.sv4 h9320 h9321) (wsr (.int .u64 x9318) 14 z z z (by kernel_rfl) (fun w hst => x_load z isAgg22 (hst.ol4 hi9322 (by rintro _ rfl; rfl))) ?_)
 refine ws_e1 7 (by kernel_rfl) ?_
 refine nxe [15, 16, 17] (by kernel_rfl) z z ?_
 clear hst
 intro w hst
 obtain ⟨t9323, ht9324, hm⟩ := bind_some hm
 refine wec call32 [U6 x9313] z z ?_
 refine (math_bits_OnesCount64_ref hst.to0 ht9324).mono ?_
 rintro _ w9325 ⟨rfl, hst⟩
 refine ⟨_, z, ?_⟩
 replace hst := hst.of0
 refine ws_next (pend' := [(14, U6 x9318), (13, .pointer (some (eAddr v7124 (x9308.toNat * 1 + 0)))), (12, I6 x9308), (11, v7124), (10, Pt b7121 1), (9, Pt b7121 0), (8, Pt b7121 0)]) hst (by kernel_rfl) (pkr z z (fun w hst => x_load z isAgg22 (hst.ol4 hi9322 (by rintro _ rfl; rfl))) (pkr z z (fun w hst => x_index z z underlying25 sizeOf22 hst.sv4 h9320 h9321) (pkr z z (fun w hst => z) (pkr z z (fun w hst => x_load z isAgg25 (hst.bc2 z)) (pkr z z (fun w hst => x_field z underlying73 z sizeOf25 z) (pkr z z (fun w hst => z) (pkr z z (fun w hst => x_load z isAgg60 (hst.bc1 z)) pk_nil))))))) ?_
 refine ws_e1 15 (by kernel_rfl) ?_
 refine nxe [16, 17] (by kernel_rfl) z z ?_
 clear hst
 intro w hst
 obtain ⟨t9328, ht9329, hm⟩ := bind_some hm
 refine wec call32 [U6 x9318] z z ?_
 refine (math_bits_OnesCount64_ref hst.to0 ht9329).mono ?_
 rintro _ w9330 ⟨rfl, hst⟩
 refine ⟨_, z, ?_⟩
 replace hst := hst.of0
 refine ws_next (pend' := []) hst (by kernel_rfl) pk_nil ?_
 refine ws_e1 16 (by kernel_rfl) ?_
 refine nxe [17] (by kernel_rfl) z z ?_
 clear hst
 intro w hst
 obtain ⟨t9333, ht9334, hm⟩ := bind_some hm
 refine wec call49 [I6 t9323, I6 t9328] z z ?_
 refine (cmp_Compare_int_ref hst.to0 ht9334).mono ?_
 rintro _ w9335 ⟨rfl, hst⟩
 refine ⟨_, z, ?_⟩
 replace hst := hst.of0
 refine ws_next (pend' := []) hst (by kernel_rfl) pk_nil ?_
 refine wsr (.int .i64 t9333) 17 z z z (by kernel_rfl) (fun w hst => z) ?_
 refine ws_nil ?_
 intro w hst
 refine tn (wp_ret ?_)
 refine post_ret (vs := [I6 t9333]) results48 (rvs_cons (rv_tmp z) rvs_nil) ?_
 replace hst := hst.pull7.pull7.pull7.pull7.pull7.pull7.pull7.keep8
 obtain rfl := some_inj hm
 exact ⟨t9333, z, z, hst⟩
}
 clear hst
 rintro _ w9342 ⟨z9338, rfl, rfl, hst⟩
 refine ⟨_, z, ?_⟩
 try dsimp only at hm
 refine ws_next (pend' := []) hst (by kernel_rfl) pk_nil ?_
 refine ws_q (v := .bool (decide (z9338 < (0:Int)))) 15 [16] (by kernel_rfl) z z (yi_run ((wanted_eq z z z (cvb hc9302)).trans z) (fun w hst => z)) (wsr (.bool (decide (z9338 < (0:Int)))) 16 z z z (by kernel_rfl) (fun w hst => x_pick_t hc9302 z z) ?_)
 refine ws_nil ?_
 intro w hst
 refine tn ?_
 refine bsplit (decide (z9338 < (0:Int))) (fun hc9343 => ?_) (fun hc9343 => ?_)
 {
 replace hm := bif_t hc9343 hm
 refine wp_ift (cvb hc9343) ?_
 refine wp_skip (tn (wp_seq (wp_block ?_)))
 refine wp_region_St hst 18 [0, 1, 2, 3, 4, 5, 6, 7, 8, 9, 10, 11, 12, 13, 14, 15, 16, 17] [0, 0, 0, 0, 8, 0, 0, 64, 224, 480, 0, 0, 3072, 7168, 16355, 32739, 65535, 131071] [] z (by kernel_rfl) (by kernel_rfl) Try.mixed (by kernel_rfl) ?_
 refine wsr (v7132) 0 z z z (by kernel_rfl) (fun w hst => z) (wsr (.int .i64 z9292) 1 z z z (by kernel_rfl) (fun w hst => z) (wsr (v7132) 2 z z z (by kernel_rfl) (fun w hst => z) (wsr (.int .i64 z9292) 3 z z z (by kernel_rfl) (fun w hst => z) (wsr (.int .i64 (i64.wrap (z9292 - (1:Int)))) 4 z z z (by kernel_rfl) (fun w hst => z) (wsr (v7132) 5 z z z (by kernel_rfl) (fun w hst => z) (wsr (.int .i64 z9292) 6 z z z (by kernel_rfl) (fun w hst => z) (wsr (.int .i64 (i64.wrap (z9292 - (1:Int)))) 7 z z z (by kernel_rfl) (fun w hst => z) (wsr (.pointer (some (eAddr v7132 ((i64.wrap (z9292 - (1:Int))).toNat * 1 + 0)))) 8 z z z (by kernel_rfl) (fun w hst => x_index z z underlying46 sizeOf3 hst.sv7 h9310 h9311) (wsr (.int .i64 x9308) 9 z z z (by kernel_rfl) (fun w hst => x_load z isAgg3 (hst.ol7 hi9312 (by rintro _ rfl; rfl))) (wsr (v7132) 10 z z z (by kernel_rfl) (fun w hst => z) (wsr (.int .i64 z9292) 11 z z z (by kernel_rfl) (fun w hst => z) (wsr (.pointer (some (eAddr v7132 (z9292.toNat * 1 + 0)))) 12 z z z (by kernel_rfl) (fun w hst => x_index z z underlying46 sizeOf3 hst.sv7 h9305 h9306) ?_))))))))))))
 refine wsr (.int .i64 x9303) 13 z z z (by kernel_rfl) (fun w hst => x_load z isAgg3 (hst.ol7 hi9307 (by rintro _ rfl; rfl))) (wsr (.pointer (some (eAddr v7132 (z9292.toNat * 1 + 0)))) 14 z z z (by kernel_rfl) (fun w hst => x_index z z underlying46 sizeOf3 hst.sv7 h9305 h9306) ?_)
 refine ws_e1 15 (by kernel_rfl) ?_
 refine nxe [16, 17] (by kernel_rfl) z z ?_
 clear hst
 intro w hst
 replace hst := hst.pull7
 obtain ⟨w9344, hr9345, hst⟩ := hst.own_store (P := prog) (t := 3) (y := x9308) hi9307 0 (.int .i64 x9308) sizeOf3 (Nat.le_of_ble_eq_true z) (oC z oN) (by rintro _ rfl; rfl)
 have hi9346 := set_get hi9307 x9308
 have h9347 := set_lt h9306 z9292.toNat x9308
 refine we_unit z (x_unit hr9345) ?_
 refine ws_next (pend' := [(4, I6 (i64.wrap (z9292 - (1:Int)))), (3, I6 z9292), (2, v7132)]) hst (by kernel_rfl) (pkr z z (fun w hst => z) (pkr z z (fun w hst => z) (pkr z z (fun w hst => z) pk_nil))) ?_
 obtain ⟨x9348, hx9349, hm⟩ := bind_some hm
 obtain ⟨h9350, h9351, hi9352⟩ := geto_some hx9349
 refine wsr (.pointer (some (eAddr v7132 ((i64.wrap (z9292 - (1:Int))).toNat * 1 + 0)))) 16 z z z (by kernel_rfl) (fun w hst => x_index z z underlying46 sizeOf3 hst.sv0 h9350 h9351) ?_
 refine ws_e1 17 (by kernel_rfl) ?_
 refine nxe [] (by kernel_rfl) z z ?_
 clear hst
 intro w hst
 obtain ⟨w9353, hr9354, hst⟩ := hst.own_store (P := prog) (t := 3) (y := x9303) hi9352 0 (.int .i64 x9303) sizeOf3 (Nat.le_of_ble_eq_true z) (oC z oN) (by rintro _ rfl; rfl)
 have hi9355 := set_get hi9352 x9303
 have h9356 := set_lt h9351 (i64.wrap (z9292 - (1:Int))).toNat x9303
 refine we_unit z (x_unit hr9354) ?_
 refine ws_next (pend' := []) hst (by kernel_rfl) pk_nil ?_
 refine ws_nil ?_
 intro w hst
 refine blk_n (tn (wrl ?_))
 refine wv (.int .i64 z9292) z z z (wv (.int .i64 (i64.wrap (z9292 - (1:Int)))) z z z (wv (.int .i64 (i64.wrap (z9292 - (1:Int)))) z z z (wl_nil (tn ?_))))
 replace hst := hst.pull7.pull7.pull7.pull7.pull7.pull7.pull7.pull7.keep8
 obtain rfl := some_inj hm
 exact ⟨_, Nat.lt_succ_self _, (i64.wrap (z9292 - (1:Int))), ((z9293.set z9292.toNat x9308).set (i64.wrap (z9292 - (1:Int))).toNat x9303), _, hx9300, (fu 0 v7132 z (fu 1 (.int .i64 z8805) z (fu 2 (.int .i64 ((z7113.all).length : Int)) z (fu 3 (.func (.func 48) #[] #[Pt b5460 0]) z (fu 8 (.int .i64 z9169) z (fu 9 (.int .i64 (i64.wrap (z9292 - (1:Int)))) z z)))))), hst⟩
}
 {
 replace hm := bif_f hc9343 hm
 refine wp_iff (cvb hc9343) ?_
 refine wp_exit (then_x (then_x ?_))
 replace hm := inr_up hm hx9300
 refine blk_x (blk_n (tn (wrl ?_)))
 refine wv (.int .i64 z9169) z z z (wv (.int .i64 (i64.wrap (z9169 + (1:Int)))) z z z (wv (.int .i64 (i64.wrap (z9169 + (1:Int)))) z z z (wl_nil (tn ?_))))
 replace hst := hst.pull6.pull6.pull6.pull6.pull6.pull6.pull6.pull7.keep8
 obtain rfl := some_inj hm
 exact ⟨_, Nat.lt_succ_self _, (i64.wrap (z9169 + (1:Int))), z9293, _, hx9177, (fu 0 v7132 z (fu 1 (.int .i64 z8805) z (fu 2 (.int .i64 ((z7113.all).length : Int)) z (fu 3 (.func (.func 48) #[] #[Pt b5460 0]) z (fu 8 (.int .i64 (i64.wrap (z9169 + (1:Int)))) z z))))), hst⟩
}
}
 {
 replace hm := bif_f hc9302 hm
 refine ws_q (v := undef) 4 [5, 6, 7, 8, 9, 10, 11, 12, 13, 14, 15, 16] (by kernel_rfl) z z (yi_off ((wanted_eq z z z (cvb hc9302)).trans z)) (ws_q (v := undef) 5 [6, 7, 8, 9, 10, 11, 12, 13, 14, 15, 16] (by kernel_rfl) z z (yi_off ((wanted_eq z z z (cvb hc9302)).trans z)) (ws_q (v := undef) 6 [7, 8, 9, 10, 11, 12, 13, 14, 15, 16] (by kernel_rfl) z z (yi_off ((wanted_eq z z z (cvb hc9302)).trans z)) (ws_q (v := undef) 7 [8, 9, 10, 11, 12, 13, 14, 15, 16] (by kernel_rfl) z z (yi_off ((wanted_eq z z z (cvb hc9302)).trans z)) (ws_q (v := undef) 8 [9, 10, 11, 12, 13, 14, 15, 16] (by kernel_rfl) z z (yi_off ((wanted_eq z z z (cvb hc9302)).trans z)) (ws_q (v := undef) 9 [10, 11, 12, 13, 14, 15, 16] (by kernel_rfl) z z (yi_off ((wanted_eq z z z (cvb hc9302)).trans z)) (ws_q (v := undef) 10 [11, 12, 13, 14, 15, 16] (by kernel_rfl) z z (yi_off ((wanted_eq z z z (cvb hc9302)).trans z)) (ws_q (v := undef) 11 [12, 13, 14, 15, 16] (by kernel_rfl) z z (yi_off ((wanted_eq z z z (cvb hc9302)).trans z)) (ws_q (v := undef) 12 [13, 14, 15, 16] (by kernel_rfl) z z (yi_off ((wanted_eq z z z (cvb hc9302)).trans z)) (ws_q (v := undef) 13 [14, 15, 16] (by kernel_rfl) z z (yi_off ((wanted_eq z z z (cvb hc9302)).trans z)) (ws_q (v := undef) 14 [15, 16] (by kernel_rfl) z z (yi_off ((wanted_eq z z z (cvb hc9302)).trans z)) (ws_q (v := undef) 15 [16] (by kernel_rfl) z z (yi_off ((wanted_eq z z z (cvb hc9302)).trans z)) (wsr (.bool false) 16 z z z (by kernel_rfl) (fun w hst => x_pick_f hc9302 z z) ?_))))))))))))
 refine ws_nil ?_
 intro w hst
 refine tn ?_
 refine wp_iff z ?_
 refine wp_exit (then_x (then_x ?_))
 replace hm := inr_up hm hx9300
 refine blk_x (blk_n (tn (wrl ?_)))
 refine wv (.int .i64 z9169) z z z (wv (.int .i64 (i64.wrap (z9169 + (1:Int)))) z z z (wv (.int .i64 (i64.wrap (z9169 + (1:Int)))) z z z (wl_nil (tn ?_))))
 replace hst := hst.pull7.pull7.pull7.pull7.pull7.pull7.pull7.pull7.keep8
 obtain rfl := some_inj hm
 exact ⟨_, Nat.lt_succ_self _, (i64.wrap (z9169 + (1:Int))), z9293, _, hx9177, (fu 0 v7132 z (fu 1 (.int .i64 z8805) z (fu 2 (.int .i64 ((z7113.all).length : Int)) z (fu 3 (.func (.func 48) #[] #[Pt b5460 0]) z (fu 8 (.int .i64 (i64.wrap (z9169 + (1:Int)))) z z))))), hst⟩
}
}
 {
 replace hm := bif_f hc9179 hm
 refine wp_iff (cvb hc9179) ?_
 refine wp_exit (then_x (then_x ?_))
 replace hm := inr_up hm hx9177
 refine blk_x ?_
 refine post_end (vs := []) results59 rvs_nil ?_
 replace hst := hst.pull7.pull7.pull7.pull7.pull7.pull7.pull7.keep8
 obtain rfl := some_inj hm
 exact ⟨z9170, z, z, hst⟩
}
}
 clear hst
 rintro _ w9361 ⟨z9357, rfl, rfl, hst⟩
 refine ⟨_, z, ?_⟩
 try dsimp only at hm
 refine wl_nil (tn (wp_block ?_))
 obtain ⟨n9399, hm⟩ := loopO_some hm
 refine wp_loop_n (fun n a w => ∃ (z9397 : Int) (σ9398 : Nat → Value), loopN (label_New_l15 z7113 z9357) n z9397 = some y9425 ∧ a = Fr 63 (upd (upd (upd (upd σ9398 0 (v7132)) 1 (.int .i64 ((z7113.all).length : Int))) 2 (.func (.func 48) #[] #[Pt b5460 0])) 6 (.int .i64 z9397)) ∧ St w0 w I7114 [cells b5460 [Pt b7121 0], cells b7121 [v7122, v7124, v7126, v7128, v7130, v7132], ownS (tyInt .u64) v7122 z7113.up, ownS (tyInt .u64) v7124 z7113.down, ownS (tySl (tyInt .i64)) v7126 z7113.join, ownS (tySl (tyInt .i64)) v7128 z7113.meet, ownS (tyInt .i64) v7130 z7113.rank, ownS (tyInt .i64) v7132 z9357] R) n9399 ⟨(20:Int), _, hm, (fu 0 v7132 z (fu 1 (.int .i64 ((z7113.all).length : Int)) z (fu 2 (.func (.func 48) #[] #[Pt b5460 0]) z (fu 6 (.int .i64 (20:Int)) z z)))), hst⟩ ?_
 rintro n9405 _ w9400 ⟨z9397, σ9398, hm, rfl, hst⟩
 obtain ⟨n9402, y9403, rfl, hm, hx9404⟩ := loopN_some hm
 dsimp only [label_New_l15] at hm
 refine wp_seq (wp_seq (wrl (wv (.int .i64 z9397) z z z (wv (.int .i64 ((z7113.all).length : Int)) z z z (wv (.bool (decide (z9397 < ((z7113.all).length : Int)))) z z z (wl_nil (tn ?_)))))))
 refine bsplit (decide (z9397 < ((z7113.all).length : Int))) (fun hc9406 => ?_) (fun hc9406 => ?_)
 {
 replace hm := bif_t hc9406 hm
 refine wp_ift (cvb hc9406) ?_
 refine wp_skip (tn (wp_block (wp_seq (wrl ?_))))
 refine wv (.int .i64 z9397) z z z (wv (.int .i64 (i64.wrap ((2:Int) * z9397))) z z z (wv (.int .i64 (0:Int)) z z z (wv (.int .i64 (i64.wrap ((2:Int) * z9397))) z z z (wl_nil (tn ?_)))))
 obtain ⟨y9419, hm, hx9420⟩ := bind_some hm
 refine wp_cut (fun a w => ∃ (σ9417 : Nat → Value), (label_New_j16 z9397 z7113) () = some y9403 ∧ a = Fr 63 (upd (upd (upd (upd (upd σ9417 0 (v7132)) 1 (.int .i64 ((z7113.all).length : Int))) 2 (.func (.func 48) #[] #[Pt b5460 0])) 6 (.int .i64 z9397)) 7 (.int .i64 (0:Int))) ∧ St w0 w I7114 [ownS (tyInt .i64) v7132 z9357, cells b5460 [Pt b7121 0], cells b7121 [v7122, v7124, v7126, v7128, v7130, v7132], ownS (tyInt .u64) v7122 z7113.up, ownS (tyInt .u64) v7124 z7113.down, ownS (tySl (tyInt .i64)) v7126 z7113.join, ownS (tySl (tyInt .i64)) v7128 z7113.meet, ownS (tyInt .i64) v7130 z7113.rank] R) ?_ ?_
 {
 refine wp_block ?_
 obtain ⟨n9409, hm⟩ := loopO_some hm
 refine wp_loop_n (fun n a w => ∃ (σ9408 : Nat → Value), loopN (label_New_l17 z9397 z7113) n () = some y9419 ∧ a = Fr 63 (upd (upd (upd (upd (upd (upd σ9408 0 (v7132)) 1 (.int .i64 ((z7113.all).length : Int))) 2 (.func (.func 48) #[] #[Pt b5460 0])) 6 (.int .i64 z9397)) 7 (.int .i64 (0:Int))) 8 (.int .i64 (i64.wrap ((2:Int) * z9397)))) ∧ St w0 w I7114 [cells b5460 [Pt b7121 0], cells b7121 [v7122, v7124, v7126, v7128, v7130, v7132], ownS (tyInt .u64) v7122 z7113.up, ownS (tyInt .u64) v7124 z7113.down, ownS (tySl (tyInt .i64)) v7126 z7113.join, ownS (tySl (tyInt .i64)) v7128 z7113.meet, ownS (tyInt .i64) v7130 z7113.rank, ownS (tyInt .i64) v7132 z9357] R) n9409 ⟨_, hm, (fu 0 v7132 z (fu 1 (.int .i64 ((z7113.all).length : Int)) z (fu 2 (.func (.func 48) #[] #[Pt b5460 0]) z (fu 6 (.int .i64 z9397) z (fu 7 (.int .i64 (0:Int)) z (fu 8 (.int .i64 (i64.wrap ((2:Int) * z9397))) z z)))))), hst⟩ ?_
 rintro n9415 _ w9410 ⟨σ9408, hm, rfl, hst⟩
 obtain ⟨n9412, y9413, rfl, hm, hx9414⟩ := loopN_some hm
 dsimp only [label_New_l17] at hm
 refine wp_seq (wp_seq (wrl (wv (.int .i64 (i64.wrap ((2:Int) * z9397))) z z z (wv (.int .i64 ((z7113.all).length : Int)) z z z (wv (.bool (decide ((i64.wrap ((2:Int) * z9397)) ≤ ((z7113.all).length : Int)))) z z z (wl_nil (tn ?_)))))))
 refine bsplit (decide ((i64.wrap ((2:Int) * z9397)) ≤ ((z7113.all).length : Int))) (fun hc9416 => ?_) (fun hc9416 => ?_)
 {
 replace hm := bif_t hc9416 hm
 refine wp_ift (cvb hc9416) ?_
 refine wp_skip (tn (wp_block (wp_seq (wrl ?_))))
 refine wv (v7132) z z z (wv (.int .i64 (0:Int)) z z z (wv (.int .i64 (0:Int)) z z z (wv (.int .i64 z9397) z z z (wv (.int .i64 (i64.wrap ((0:Int) + z9397))) z z z (wv (.int .i64 (i64.wrap ((2:Int) * z9397))) z z z (wv (.func (.func 48) #[] #[Pt b5460 0]) z z z ?_))))))
 cases hm
}
 {
 replace hm := bif_f hc9416 hm
 refine wp_iff (cvb hc9416) ?_
 refine wp_exit (then_x (then_x ?_))
 replace hm := inr_up hm hx9414
 refine blk_x (tn ?_)
 replace hst := hst.pull6.pull6.pull6.pull6.pull6.pull6.pull6.pull7.keep8
 obtain rfl := some_inj hm
 exact ⟨_, hx9420, (fu 0 v7132 z (fu 1 (.int .i64 ((z7113.all).length : Int)) z (fu 2 (.func (.func 48) #[] #[Pt b5460 0]) z (fu 6 (.int .i64 z9397) z (fu 7 (.int .i64 (0:Int)) z z))))), hst⟩
}
}
 {
 clear hst
 rintro _ w9421 ⟨σ9417, hm, rfl, hst⟩
 dsimp only [label_New_j16] at hm
 refine wp_seq (wp_seq (wrl (wv (.int .i64 (0:Int)) z z z (wv (.int .i64 z9397) z z z (wv (.int .i64 (i64.wrap ((0:Int) + z9397))) z z z (wv (.int .i64 (i64.wrap ((0:Int) + z9397))) z z z (wl_nil (tn (wp_seq (wrl (wv (.int .i64 (i64.wrap ((0:Int) + z9397))) z z z (wv (.int .i64 ((z7113.all).length : Int)) z z z (wv (.bool (decide ((i64.wrap ((0:Int) + z9397)) < ((z7113.all).length : Int)))) z z z (wl_nil (tn ?_)))))))))))))))
 refine bsplit (decide ((i64.wrap ((0:Int) + z9397)) < ((z7113.all).length : Int))) (fun hc9422 => ?_) (fun hc9422 => ?_)
 {
 replace hm := bif_t hc9422 hm
 refine wp_ift (cvb hc9422) ?_
 refine wrl (wv (v7132) z z z (wv (.int .i64 (0:Int)) z z z (wv (.int .i64 (i64.wrap ((0:Int) + z9397))) z z z (wv (.int .i64 ((z7113.all).length : Int)) z z z (wv (.func (.func 48) #[] #[Pt b5460 0]) z z z ?_)))))
 cases hm
}
 {
 replace hm := bif_f hc9422 hm
 refine wp_iff (cvb hc9422) ?_
 refine wp_skip (tn (wrl ?_))
 refine wv (.int .i64 z9397) z z z (wv (.int .i64 (i64.wrap (z9397 * (2:Int)))) z z z (wv (.int .i64 (i64.wrap (z9397 * (2:Int)))) z z z (wl_nil (blk_n (tn ?_)))))
 replace hst := hst.pull7.pull7.pull7.pull7.pull7.pull7.pull7.keep8
 obtain rfl := some_inj hm
 exact ⟨_, Nat.lt_succ_self _, (i64.wrap (z9397 * (2:Int))), _, hx9404, (fu 0 v7132 z (fu 1 (.int .i64 ((z7113.all).length : Int)) z (fu 2 (.func (.func 48) #[] #[Pt b5460 0]) z (fu 6 (.int .i64 (i64.wrap (z9397 * (2:Int)))) z z)))), hst⟩
}
}
}
 {
 replace hm := bif_f hc9406 hm
 refine wp_iff (cvb hc9406) ?_
 refine wp_exit (then_x (then_x ?_))
 replace hm := inr_up hm hx9404
 refine blk_x ?_
 refine post_end (vs := []) results56 rvs_nil ?_
 replace hst := hst.pull7.pull7.pull7.pull7.pull7.pull7.pull7.pull7.keep8
 obtain rfl := some_inj hm
 exact ⟨z9357, z, z, hst⟩
}
}
}
 clear hst
 rintro _ w9427 ⟨z9423, rfl, rfl, hst⟩
 refine ⟨_, z, ?_⟩
 try dsimp only at hm
 refine wl_nil ?_
 refine post_end (vs := []) results47 rvs_nil ?_
 replace hst := hst.pull7.pull7.pull7.pull7.pull7.pull7.pull7.pull7.keep8
 obtain rfl := some_inj hm
 exact ⟨z9423, z, z, hst⟩
}
 clear hst
 rintro _ w9432 ⟨z9428, rfl, rfl, hst⟩
 refine ⟨_, z, ?_⟩
 try dsimp only at hm
 refine wl_nil (tn (wp_seq (wp_seq (wrl (wv (Pt b7121 0) z z (x_load z isAgg60 (hst.bc0 z)) (wv (Pt b7121 0) z z z (wv (Pt b7121 5) z z (x_field z underlying73 z sizeOf46 z) (wv (v7132) z z (x_load z isAgg46 (hst.bc1 z)) (wv (.int .i64 ((z9428).length : Int)) z z (x_len z underlying46 hst.sv7) (wv (.int .i64 (0:Int)) z z z (wl_nil (tn (wp_block ?_)))))))))))))
 obtain ⟨n9468, hm⟩ := loopO_some hm
 refine wp_loop_n (fun n a w => ∃ (z9465 : Int) (z9466 : (List Int)) (σ9467 : Nat → Value), loopN (label_New_l18 z9428 z7113) n (z9465, z9466) = some r ∧ a = Fr 192 (upd (upd (upd (upd σ9467 5 (Pt b5460 0)) 176 (v7132)) 177 (.int .i64 ((z9428).length : Int))) 178 (.int .i64 z9465)) ∧ St w0 w I7114 [cells b5460 [Pt b7121 0], cells b7121 [v7122, v7124, v7126, v7128, v7130, v7132], ownS (tyInt .u64) v7122 z7113.up, ownS (tyInt .u64) v7124 z7113.down, ownS (tySl (tyInt .i64)) v7126 z7113.join, ownS (tySl (tyInt .i64)) v7128 z7113.meet, ownS (tyInt .i64) v7130 z9466, ownS (tyInt .i64) v7132 z9428] R) n9468 ⟨(0:Int), z7113.rank, _, hm, (fu 5 (Pt b5460 0) z (fu 176 v7132 z (fu 177 (.int .i64 ((z9428).length : Int)) z (fu 178 (.int .i64 (0:Int)) z z)))), hst⟩ ?_
 rintro n9474 _ w9469 ⟨z9465, z9466, σ9467, hm, rfl, hst⟩
 obtain ⟨n9471, y9472, rfl, hm, hx9473⟩ := loopN_some hm
 dsimp only [label_New_l18] at hm
 refine wp_seq (wrl (wv (.bool (decide (z9465 < ((z9428).length : Int)))) z z z (wl_nil (tn (wp_seq ?_)))))
 refine bsplit (decide (z9465 < ((z9428).length : Int))) (fun hc9475 => ?_) (fun hc9475 => ?_)
 {
 replace hm := bif_t hc9475 hm
 refine wp_ift (cvb hc9475) ?_
 refine wp_skip (tn (wp_seq (wp_block (wp_seq (wrl ?_)))))
 refine wv (.int .i64 z9465) z z z ?_
 obtain ⟨x9476, hx9477, hm⟩ := bind_some hm
 obtain ⟨h9478, h9479, hi9480⟩ := geto_some hx9477
 refine wv (.pointer (some (eAddr v7132 (z9465.toNat * 1 + 0)))) z z (x_index z z underlying46 sizeOf3 hst.sv7 h9478 h9479) (wv (.int .i64 x9476) z z (x_load z isAgg3 (hst.ol7 hi9480 (by rintro _ rfl; rfl))) (wv (.int .i64 z9465) z z z (wv (.int .i64 x9476) z z z (wl_nil (tn (wrl (wv (Pt b7121 0) z z (x_load z isAgg60 (hst.bc0 z)) (wv (Pt b7121 0) z z z (wv (Pt b7121 4) z z (x_field z underlying73 z sizeOf46 z) (wv (v7130) z z (x_load z isAgg46 (hst.bc1 z)) (wv (.int .i64 x9476) z z z (wv (.int .i64 z9465) z z z ?_))))))))))))
 obtain ⟨x9481, hx9482, hm⟩ := bind_some hm
 obtain ⟨h9483, h9484, hi9485⟩ := geto_some hx9482
 refine wv (.pointer (some (eAddr v7130 (x9476.toNat * 1 + 0)))) z z (x_index z z underlying46 sizeOf3 hst.sv6 h9483 h9484) ?_
 replace hst := hst.pull6
 obtain ⟨w9486, hr9487, hst⟩ := hst.own_store (P := prog) (t := 3) (y := z9465) hi9485 0 (.int .i64 z9465) sizeOf3 (Nat.le_of_ble_eq_true z) (oC z oN) (by rintro _ rfl; rfl)
 have hi9488 := set_get hi9485 z9465
 have h9489 := set_lt h9484 x9476.toNat z9465
 refine wl_unit z z (x_unit hr9487) ?_
 refine wl_nil (blk_n (tn (wrl (wv (.int .i64 (i64.wrap (z9465 + (1:Int)))) z z z (wv (.int .i64 (i64.wrap (z9465 + (1:Int)))) z z z (wl_nil (tn ?_)))))))
 replace hst := hst.pull7.pull1.pull7.pull7.pull7.pull7.pull7.pull7.keep8
 obtain rfl := some_inj hm
 exact ⟨_, Nat.lt_succ_self _, (i64.wrap (z9465 + (1:Int))), (z9466.set x9476.toNat z9465), _, hx9473, (fu 5 (Pt b5460 0) z (fu 176 v7132 z (fu 177 (.int .i64 ((z9428).length : Int)) z (fu 178 (.int .i64 (i64.wrap (z9465 + (1:Int)))) z z)))), hst⟩
}
 {
 replace hm := bif_f hc9475 hm
 refine wp_iff (cvb hc9475) ?_
 refine wp_exit (then_x (then_x ?_))
 replace hm := inr_up hm hx9473
 refine blk_x (tn (wp_seq (wrl ?_)))
 refine wv (Pt b7121 0) z z (x_load z isAgg60 (hst.bc0 z)) (wv (Pt b7121 0) z z z (wv (.int .i64 (0:Int)) z z z (wl_nil (tn (wp_ret ?_)))))
 replace hst := hst.pull7.pull7.pull7.pull7.pull7.pull7.pull7
 replace hst := at_label_Lattice_close (pv := Pt b7121 0) (x := ({ up := z7113.up, down := z7113.down, join := z7113.join, meet := z7113.meet, rank := z9466, all := z9428 } : label_Lattice)) hst z
 replace hst := objO_some hst
 obtain rfl := some_inj hm
 refine post_ret (vs := [Pt b7121 0, Zi]) results34 (rvs_cons (rv_tmp z) (rvs_cons (rv_tmp z) rvs_nil)) ?_
 exact ⟨_, Pt b7121 0, z, hI0, hst.keep1⟩
}
}
}
}
}
}
}
}

end Go.Proofs.Ytkjkbfaaigmmcaa
