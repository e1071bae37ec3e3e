/- The Go functions refine their models, part 1. -/
import Derived.Test.YtbdbeenkamcglaaNetMostR0
set_option linter.unusedVariables false
set_option linter.unusedSimpArgs false
set_option maxRecDepth 100000
set_option maxHeartbeats 4000000
namespace Go.Proofs.Ytbdbeenkamcglaa
open Go Go.V
open _root_.Go.Proofs.Try IntKind
attribute [local irreducible] wpList Code.wp wpQuiet Calls bodyPost Oper.wp wpS Nx PendOK YieldsIn
theorem label_New_ref {w0 w : World} {I : HL} {R : SP} {a0 : (List Int)} {r0_0 : Value} (f0_0 : Rd (tyInt .u64) R I r0_0 a0) (hst : St w0 w I [] R) {r : (Option label_Lattice × Int)} (hm : label_New a0 = some r) :
  Calls prog 20 #[r0_0] w fun e w' => ∃ (I' : HL) (q0 : Value), e = .returned (.tuple #[q0, I6 r.2]) ∧ I.le I' ∧ St w0 w' I' [objO at_label_Lattice q0 r.1] R := by {
 unfold label_New at hm
 refine calls_start (args := [r0_0]) func20 z ntmps20 (Nat.le_of_ble_eq_true z) ?_
 have hI0 := HL.le.refl I
 refine wp_seq (wrl (wv (.pointer none) z z z (wv (.int .i64 (0:Int)) z z z (wl_nil (tn (wp_seq (wrl (wv (r0_0) z z z (wv (.int .i64 ((a0).length : Int)) z z (x_len z underlying40 (rd_sliceV f0_0)) (wv (.int .i64 ((a0).length : Int)) z z z (wl_nil (tn (wp_seq (wp_seq (wrl (wv (.int .i64 ((a0).length : Int)) z z z (wv (.bool (decide (((a0).length : Int) < (1:Int)))) z z z (wv (.bool (decide (((a0).length : Int) < (1:Int)))) z z z ?_))))))))))))))))))
 refine bsplit (decide (((a0).length : Int) < (1:Int))) (fun hc4776 => ?_) (fun hc4776 => ?_)
 {
 replace hm := bif_t hc4776 hm
 refine wo hc4776 z z z z z z (wo hc4776 z z z z z z (wv (.bool true) z z (x_pick_t hc4776 z z) (wl_nil (tn ?_))))
 refine wp_ift z ?_
 refine wp_seq (wrl (wv (.pointer none) z z z (wv (.int .i64 (1:Int)) z z z (wl_nil (tn (wp_ret (then_r ?_)))))))
 replace hst := hst.objO_nil at_label_Lattice
 obtain rfl := some_inj hm
 refine post_ret (vs := [.pointer none, I6 (1:Int)]) results20 (rvs_cons (rv_tmp z) (rvs_cons (rv_tmp z) rvs_nil)) ?_
 exact ⟨_, .pointer none, z, hI0, hst.keep1⟩
}
 {
 replace hm := bif_f hc4776 hm
 refine wv (.int .i64 ((a0).length : Int)) ((wanted_eq z z z (cvb hc4776)).trans z) z z (wv (.bool (decide (((a0).length : Int) > (16:Int)))) ((wanted_eq z z z (cvb hc4776)).trans z) z z (wv (.bool (decide (((a0).length : Int) > (16:Int)))) z z (x_pick_f hc4776 z z) (wl_nil (tn ?_))))
 refine bsplit (decide (((a0).length : Int) > (16:Int))) (fun hc4778 => ?_) (fun hc4778 => ?_)
 {
 replace hm := bif_t hc4778 hm
 refine wp_ift (cvb hc4778) ?_
 refine wp_seq (wrl (wv (.pointer none) z z z (wv (.int .i64 (1:Int)) z z z (wl_nil (tn (wp_ret (then_r ?_)))))))
 replace hst := hst.objO_nil at_label_Lattice
 obtain rfl := some_inj hm
 refine post_ret (vs := [.pointer none, I6 (1:Int)]) results20 (rvs_cons (rv_tmp z) (rvs_cons (rv_tmp z) rvs_nil)) ?_
 exact ⟨_, .pointer none, z, hI0, hst.keep1⟩
}
 {
 replace hm := bif_f hc4778 hm
 refine wp_iff (cvb hc4778) ?_
 refine wp_skip (tn (wp_seq ?_))
 obtain ⟨y5463, hm, hx5464⟩ := bind_some hm
 refine wp_mid (fun a w => ∃ (z5460 : label_Lattice) (b5457 : Nat) (v5459 : Value) (σ5461 : Nat → Value), (label_New_j0 a0) z5460 = some r ∧ a = Fr 192 (upd (upd (upd σ5461 0 (r0_0)) 4 (.int .i64 ((a0).length : Int))) 5 (Pt b5457 0)) ∧ St w0 w I [cells b5457 [v5459], at_label_Lattice v5459 z5460] R) ?_ ?_
 {
 refine wp_region_St hst 10 [0, 1, 2, 3, 4, 5, 6, 7, 8, 9] [0, 1, 0, 4, 0, 16, 63, 127, 0, 511] [] z (by kernel_rfl) (by kernel_rfl) Try.mixed (by kernel_rfl) ?_
 refine wsr (r0_0) 0 z z z (by kernel_rfl) (fun w hst => z) (wsr (.int .i64 ((a0).length : Int)) 2 z z z (by kernel_rfl) (fun w hst => z) (wsr (.int .i64 ((a0).length : Int)) 4 z z z (by kernel_rfl) (fun w hst => z) ?_))
 obtain ⟨t4780, ht4781, hm⟩ := bind_some hm
 obtain ⟨hg4782, hm⟩ := gd_some hm
 obtain ⟨hg4783, hm⟩ := gd_some hm
 refine ws_e4 1 3 5 8 (by kernel_rfl) ?_ ?_ ?_ ?_
 {
 refine nxe [3, 5, 6, 7, 8, 9] (by kernel_rfl) z z ?_
 clear hst
 intro w hst
 refine wec call24 [r0_0] z z ?_
 refine (slices_Clone_uint64_uint64_ref (f0_0.mono (rd_weak _)) hst.to0 ht4781).mono ?_
 rintro _ w4784 ⟨v4787, rfl, hst⟩
 refine ⟨_, z, ?_⟩
 replace hst := hst.of1
 refine ws_next (pend' := [(4, I6 ((a0).length : Int)), (2, I6 ((a0).length : Int))]) hst (by kernel_rfl) (pkr z z (fun w hst => z) (pkr z z (fun w hst => z) pk_nil)) ?_
 refine ws_e3 3 5 8 (by kernel_rfl) ?_ ?_ ?_
 {
 refine nxe [5, 6, 7, 8, 9] (by kernel_rfl) z z ?_
 clear hst
 intro w hst
 obtain ⟨v4789, w4790, hr4791, hst⟩ := run_mk (k := .i64) (k' := .i64) (zm := (0:Int)) elem_40 hst hg4782 (by decide) z
 refine we_run (v := v4789) (w' := w4790) z (x_make z z hr4791) ?_
 refine ws_next (pend' := [(4, I6 ((a0).length : Int))]) hst (by kernel_rfl) (pkr z z (fun w hst => z) pk_nil) ?_
 refine ws_e2 5 8 (by kernel_rfl) ?_ ?_
 {
 refine nxe [6, 7, 8, 9] (by kernel_rfl) z z ?_
 clear hst
 intro w hst
 obtain ⟨v4793, w4794, hr4795, hst⟩ := run_mk (k := .i64) (k' := .i64) (zm := (0:Int)) elem_69 hst hg4783 (by decide) z
 refine we_run (v := v4793) (w' := w4794) z (x_make z z hr4795) ?_
 refine ws_next (pend' := []) hst (by kernel_rfl) pk_nil ?_
 refine wsr (.agg #[v4787, v4789, Zs, Zs, v4793, Zs]) 6 rfl rfl rfl (by kernel_rfl) (fun w hst => by obtain ⟨_, _, hv_, _⟩ := hst.sv0; rw [hv_]; obtain ⟨_, _, hv_, _⟩ := hst.sv1; rw [hv_]; obtain ⟨_, _, hv_, _⟩ := hst.sv2; rw [hv_]; kernel_rfl) ?_
 refine ws_e2 7 8 (by kernel_rfl) ?_ ?_
 {
 refine nxe [8, 9] (by kernel_rfl) z z ?_
 clear hst
 intro w hst
 obtain ⟨b4803, w4804, ew4805, eb4806, hst⟩ := hst.box [v4787, v4789, Zs, Zs, v4793, Zs] 72
 refine we_run (v := Pt b4803 0) (w' := w4804) z (x_al (by kernel_rfl) ew4805 eb4806) ?_
 refine ws_next (pend' := []) hst (by kernel_rfl) pk_nil ?_
 refine ws_e1 8 (by kernel_rfl) ?_
 refine nxe [9] (by kernel_rfl) z z ?_
 clear hst
 intro w hst
 obtain ⟨b4808, w4809, ew4810, eb4811, hst⟩ := hst.box [.pointer none] 59
 refine we_run (v := Pt b4808 0) (w' := w4809) z (x_al (by kernel_rfl) ew4810 eb4811) ?_
 refine ws_next (pend' := []) hst (by kernel_rfl) pk_nil ?_
 refine ws_e1 9 (by kernel_rfl) ?_
 refine nxe [] (by kernel_rfl) z z ?_
 clear hst
 intro w hst
 obtain ⟨w4813, hr4814, hst⟩ := hst.by_ [Pt b4803 0] 0 (Pt b4803 0) sizeOf59 z (oC z oN) (by kernel_rfl)
 refine we_unit z (x_unit hr4814) ?_
 refine ws_next (pend' := []) hst (by kernel_rfl) pk_nil ?_
 refine ws_nil ?_
 intro w hst
 refine ⟨z, ?_⟩
 replace hst := hst.own_nil (tySl (tyInt .i64))
 replace hst := hst.own_nil (tySl (tyInt .i64))
 replace hst := hst.own_nil (tyInt .i64)
 replace hst := hst.pull5.pull2.pull3.pull6.pull7.pull7
 replace hst := at_label_Lattice_close (pv := Pt b4803 0) (x := ({ up := t4780, down := (List.replicate (Int.toNat ((a0).length : Int)) (0:Int)), join := [], meet := [], rank := (List.replicate (Int.toNat ((a0).length : Int)) (0:Int)), all := [] } : label_Lattice)) hst z
 replace hst := hst.pull1.keep2
 obtain rfl := some_inj hm
 exact ⟨({ up := t4780, down := (List.replicate (Int.toNat ((a0).length : Int)) (0:Int)), join := [], meet := [], rank := (List.replicate (Int.toNat ((a0).length : Int)) (0:Int)), all := [] } : label_Lattice), b4808, (Pt b4803 0), _, hx5464, (fu 0 r0_0 z (fu 4 (.int .i64 ((a0).length : Int)) z (fu 5 (Pt b4808 0) z z))), hst⟩
}
 {
 refine nxe [7, 9] (by kernel_rfl) z z ?_
 clear hst
 intro w hst
 obtain ⟨b4815, w4816, ew4817, eb4818, hst⟩ := hst.box [.pointer none] 59
 refine we_run (v := Pt b4815 0) (w' := w4816) z (x_al (by kernel_rfl) ew4817 eb4818) ?_
 refine ws_next (pend' := [(6, .agg #[v4787, v4789, Zs, Zs, v4793, Zs])]) hst (by kernel_rfl) (pkr rfl rfl (fun w hst => by obtain ⟨_, _, hv_, _⟩ := hst.sv1; rw [hv_]; obtain ⟨_, _, hv_, _⟩ := hst.sv2; rw [hv_]; obtain ⟨_, _, hv_, _⟩ := hst.sv3; rw [hv_]; kernel_rfl) pk_nil) ?_
 refine ws_e1 7 (by kernel_rfl) ?_
 refine nxe [9] (by kernel_rfl) z z ?_
 clear hst
 intro w hst
 obtain ⟨b4820, w4821, ew4822, eb4823, hst⟩ := hst.box [v4787, v4789, Zs, Zs, v4793, Zs] 72
 refine we_run (v := Pt b4820 0) (w' := w4821) z (x_al (by kernel_rfl) ew4822 eb4823) ?_
 refine ws_next (pend' := []) hst (by kernel_rfl) pk_nil ?_
 refine ws_e1 9 (by kernel_rfl) ?_
 refine nxe [] (by kernel_rfl) z z ?_
 clear hst
 intro w hst
 replace hst := hst.pull1
 obtain ⟨w4825, hr4826, hst⟩ := hst.by_ [Pt b4820 0] 0 (Pt b4820 0) sizeOf59 z (oC z oN) (by kernel_rfl)
 refine we_unit z (x_unit hr4826) ?_
 refine ws_next (pend' := []) hst (by kernel_rfl) pk_nil ?_
 refine ws_nil ?_
 intro w hst
 refine ⟨z, ?_⟩
 replace hst := hst.own_nil (tySl (tyInt .i64))
 replace hst := hst.own_nil (tySl (tyInt .i64))
 replace hst := hst.own_nil (tyInt .i64)
 replace hst := hst.pull5.pull2.pull3.pull6.pull7.pull7
 replace hst := at_label_Lattice_close (pv := Pt b4820 0) (x := ({ up := t4780, down := (List.replicate (Int.toNat ((a0).length : Int)) (0:Int)), join := [], meet := [], rank := (List.replicate (Int.toNat ((a0).length : Int)) (0:Int)), all := [] } : label_Lattice)) hst z
 replace hst := hst.pull1.keep2
 obtain rfl := some_inj hm
 exact ⟨({ up := t4780, down := (List.replicate (Int.toNat ((a0).length : Int)) (0:Int)), join := [], meet := [], rank := (List.replicate (Int.toNat ((a0).length : Int)) (0:Int)), all := [] } : label_Lattice), b4815, (Pt b4820 0), _, hx5464, (fu 0 r0_0 z (fu 4 (.int .i64 ((a0).length : Int)) z (fu 5 (Pt b4815 0) z z))), hst⟩
}
}
 {
 refine nxe [5, 6, 7, 9] (by kernel_rfl) z z ?_
 clear hst
 intro w hst
 obtain ⟨b4827, w4828, ew4829, eb4830, hst⟩ := hst.box [.pointer none] 59
 refine we_run (v := Pt b4827 0) (w' := w4828) z (x_al (by kernel_rfl) ew4829 eb4830) ?_
 refine ws_next (pend' := [(4, I6 ((a0).length : Int))]) hst (by kernel_rfl) (pkr z z (fun w hst => z) pk_nil) ?_
 refine ws_e1 5 (by kernel_rfl) ?_
 refine nxe [6, 7, 9] (by kernel_rfl) z z ?_
 clear hst
 intro w hst
 obtain ⟨v4832, w4833, hr4834, hst⟩ := run_mk (k := .i64) (k' := .i64) (zm := (0:Int)) elem_69 hst hg4783 (by decide) z
 refine we_run (v := v4832) (w' := w4833) z (x_make z z hr4834) ?_
 refine ws_next (pend' := []) hst (by kernel_rfl) pk_nil ?_
 refine wsr (.agg #[v4787, v4789, Zs, Zs, v4832, Zs]) 6 rfl rfl rfl (by kernel_rfl) (fun w hst => by obtain ⟨_, _, hv_, _⟩ := hst.sv0; rw [hv_]; obtain ⟨_, _, hv_, _⟩ := hst.sv2; rw [hv_]; obtain ⟨_, _, hv_, _⟩ := hst.sv3; rw [hv_]; kernel_rfl) ?_
 refine ws_e1 7 (by kernel_rfl) ?_
 refine nxe [9] (by kernel_rfl) z z ?_
 clear hst
 intro w hst
 obtain ⟨b4842, w4843, ew4844, eb4845, hst⟩ := hst.box [v4787, v4789, Zs, Zs, v4832, Zs] 72
 refine we_run (v := Pt b4842 0) (w' := w4843) z (x_al (by kernel_rfl) ew4844 eb4845) ?_
 refine ws_next (pend' := []) hst (by kernel_rfl) pk_nil ?_
 refine ws_e1 9 (by kernel_rfl) ?_
 refine nxe [] (by kernel_rfl) z z ?_
 clear hst
 intro w hst
 replace hst := hst.pull2
 obtain ⟨w4847, hr4848, hst⟩ := hst.by_ [Pt b4842 0] 0 (Pt b4842 0) sizeOf59 z (oC z oN) (by kernel_rfl)
 refine we_unit z (x_unit hr4848) ?_
 refine ws_next (pend' := []) hst (by kernel_rfl) pk_nil ?_
 refine ws_nil ?_
 intro w hst
 refine ⟨z, ?_⟩
 replace hst := hst.own_nil (tySl (tyInt .i64))
 replace hst := hst.own_nil (tySl (tyInt .i64))
 replace hst := hst.own_nil (tyInt .i64)
 replace hst := hst.pull5.pull2.pull3.pull6.pull7.pull7
 replace hst := at_label_Lattice_close (pv := Pt b4842 0) (x := ({ up := t4780, down := (List.replicate (Int.toNat ((a0).length : Int)) (0:Int)), join := [], meet := [], rank := (List.replicate (Int.toNat ((a0).length : Int)) (0:Int)), all := [] } : label_Lattice)) hst z
 replace hst := hst.pull1.keep2
 obtain rfl := some_inj hm
 exact ⟨({ up := t4780, down := (List.replicate (Int.toNat ((a0).length : Int)) (0:Int)), join := [], meet := [], rank := (List.replicate (Int.toNat ((a0).length : Int)) (0:Int)), all := [] } : label_Lattice), b4827, (Pt b4842 0), _, hx5464, (fu 0 r0_0 z (fu 4 (.int .i64 ((a0).length : Int)) z (fu 5 (Pt b4827 0) z z))), hst⟩
}
}
 {
 refine nxe [3, 6, 7, 8, 9] (by kernel_rfl) z z ?_
 clear hst
 intro w hst
 obtain ⟨v4849, w4850, hr4851, hst⟩ := run_mk (k := .i64) (k' := .i64) (zm := (0:Int)) elem_69 hst hg4783 (by decide) z
 refine we_run (v := v4849) (w' := w4850) z (x_make z z hr4851) ?_
 refine ws_next (pend' := [(2, I6 ((a0).length : Int))]) hst (by kernel_rfl) (pkr z z (fun w hst => z) pk_nil) ?_
 refine ws_e2 3 8 (by kernel_rfl) ?_ ?_
 {
 refine nxe [6, 7, 8, 9] (by kernel_rfl) z z ?_
 clear hst
 intro w hst
 obtain ⟨v4853, w4854, hr4855, hst⟩ := run_mk (k := .i64) (k' := .i64) (zm := (0:Int)) elem_40 hst hg4782 (by decide) z
 refine we_run (v := v4853) (w' := w4854) z (x_make z z hr4855) ?_
 refine ws_next (pend' := []) hst (by kernel_rfl) pk_nil ?_
 refine wsr (.agg #[v4787, v4853, Zs, Zs, v4849, Zs]) 6 rfl rfl rfl (by kernel_rfl) (fun w hst => by obtain ⟨_, _, hv_, _⟩ := hst.sv1; rw [hv_]; obtain ⟨_, _, hv_, _⟩ := hst.sv0; rw [hv_]; obtain ⟨_, _, hv_, _⟩ := hst.sv2; rw [hv_]; kernel_rfl) ?_
 refine ws_e2 7 8 (by kernel_rfl) ?_ ?_
 {
 refine nxe [8, 9] (by kernel_rfl) z z ?_
 clear hst
 intro w hst
 obtain ⟨b4863, w4864, ew4865, eb4866, hst⟩ := hst.box [v4787, v4853, Zs, Zs, v4849, Zs] 72
 refine we_run (v := Pt b4863 0) (w' := w4864) z (x_al (by kernel_rfl) ew4865 eb4866) ?_
 refine ws_next (pend' := []) hst (by kernel_rfl) pk_nil ?_
 refine ws_e1 8 (by kernel_rfl) ?_
 refine nxe [9] (by kernel_rfl) z z ?_
 clear hst
 intro w hst
 obtain ⟨b4868, w4869, ew4870, eb4871, hst⟩ := hst.box [.pointer none] 59
 refine we_run (v := Pt b4868 0) (w' := w4869) z (x_al (by kernel_rfl) ew4870 eb4871) ?_
 refine ws_next (pend' := []) hst (by kernel_rfl) pk_nil ?_
 refine ws_e1 9 (by kernel_rfl) ?_
 refine nxe [] (by kernel_rfl) z z ?_
 clear hst
 intro w hst
 obtain ⟨w4873, hr4874, hst⟩ := hst.by_ [Pt b4863 0] 0 (Pt b4863 0) sizeOf59 z (oC z oN) (by kernel_rfl)
 refine we_unit z (x_unit hr4874) ?_
 refine ws_next (pend' := []) hst (by kernel_rfl) pk_nil ?_
 refine ws_nil ?_
 intro w hst
 refine ⟨z, ?_⟩
 replace hst := hst.own_nil (tySl (tyInt .i64))
 replace hst := hst.own_nil (tySl (tyInt .i64))
 replace hst := hst.own_nil (tyInt .i64)
 replace hst := hst.pull6.pull2.pull3.pull6.pull7.pull7
 replace hst := at_label_Lattice_close (pv := Pt b4863 0) (x := ({ up := t4780, down := (List.replicate (Int.toNat ((a0).length : Int)) (0:Int)), join := [], meet := [], rank := (List.replicate (Int.toNat ((a0).length : Int)) (0:Int)), all := [] } : label_Lattice)) hst z
 replace hst := hst.pull1.keep2
 obtain rfl := some_inj hm
 exact ⟨({ up := t4780, down := (List.replicate (Int.toNat ((a0).length : Int)) (0:Int)), join := [], meet := [], rank := (List.replicate (Int.toNat ((a0).length : Int)) (0:Int)), all := [] } : label_Lattice), b4868, (Pt b4863 0), _, hx5464, (fu 0 r0_0 z (fu 4 (.int .i64 ((a0).length : Int)) z (fu 5 (Pt b4868 0) z z))), hst⟩
}
 {
 refine nxe [7, 9] (by kernel_rfl) z z ?_
 clear hst
 intro w hst
 obtain ⟨b4875, w4876, ew4877, eb4878, hst⟩ := hst.box [.pointer none] 59
 refine we_run (v := Pt b4875 0) (w' := w4876) z (x_al (by kernel_rfl) ew4877 eb4878) ?_
 refine ws_next (pend' := [(6, .agg #[v4787, v4853, Zs, Zs, v4849, Zs])]) hst (by kernel_rfl) (pkr rfl rfl (fun w hst => by obtain ⟨_, _, hv_, _⟩ := hst.sv2; rw [hv_]; obtain ⟨_, _, hv_, _⟩ := hst.sv1; rw [hv_]; obtain ⟨_, _, hv_, _⟩ := hst.sv3; rw [hv_]; kernel_rfl) pk_nil) ?_
 refine ws_e1 7 (by kernel_rfl) ?_
 refine nxe [9] (by kernel_rfl) z z ?_
 clear hst
 intro w hst
 obtain ⟨b4880, w4881, ew4882, eb4883, hst⟩ := hst.box [v4787, v4853, Zs, Zs, v4849, Zs] 72
 refine we_run (v := Pt b4880 0) (w' := w4881) z (x_al (by kernel_rfl) ew4882 eb4883) ?_
 refine ws_next (pend' := []) hst (by kernel_rfl) pk_nil ?_
 refine ws_e1 9 (by kernel_rfl) ?_
 refine nxe [] (by kernel_rfl) z z ?_
 clear hst
 intro w hst
 replace hst := hst.pull1
 obtain ⟨w4885, hr4886, hst⟩ := hst.by_ [Pt b4880 0] 0 (Pt b4880 0) sizeOf59 z (oC z oN) (by kernel_rfl)
 refine we_unit z (x_unit hr4886) ?_
 refine ws_next (pend' := []) hst (by kernel_rfl) pk_nil ?_
 refine ws_nil ?_
 intro w hst
 refine ⟨z, ?_⟩
 replace hst := hst.own_nil (tySl (tyInt .i64))
 replace hst := hst.own_nil (tySl (tyInt .i64))
 replace hst := hst.own_nil (tyInt .i64)
 replace hst := hst.pull6.pull2.pull3.pull6.pull7.pull7
 replace hst := at_label_Lattice_close (pv := Pt b4880 0) (x := ({ up := t4780, down := (List.replicate (Int.toNat ((a0).length : Int)) (0:Int)), join := [], meet := [], rank := (List.replicate (Int.toNat ((a0).length : Int)) (0:Int)), all := [] } : label_Lattice)) hst z
 replace hst := hst.pull1.keep2
 obtain rfl := some_inj hm
 exact ⟨({ up := t4780, down := (List.replicate (Int.toNat ((a0).length : Int)) (0:Int)), join := [], meet := [], rank := (List.replicate (Int.toNat ((a0).length : Int)) (0:Int)), all := [] } : label_Lattice), b4875, (Pt b4880 0), _, hx5464, (fu 0 r0_0 z (fu 4 (.int .i64 ((a0).length : Int)) z (fu 5 (Pt b4875 0) z z))), hst⟩
}
}
 {
 refine nxe [3, 6, 7, 9] (by kernel_rfl) z z ?_
 clear hst
 intro w hst
 obtain ⟨b4887, w4888, ew4889, eb4890, hst⟩ := hst.box [.pointer none] 59
 refine we_run (v := Pt b4887 0) (w' := w4888) z (x_al (by kernel_rfl) ew4889 eb4890) ?_
 refine ws_next (pend' := [(2, I6 ((a0).length : Int))]) hst (by kernel_rfl) (pkr z z (fun w hst => z) pk_nil) ?_
 refine ws_e1 3 (by kernel_rfl) ?_
 refine nxe [6, 7, 9] (by kernel_rfl) z z ?_
 clear hst
 intro w hst
 obtain ⟨v4892, w4893, hr4894, hst⟩ := run_mk (k := .i64) (k' := .i64) (zm := (0:Int)) elem_40 hst hg4782 (by decide) z
 refine we_run (v := v4892) (w' := w4893) z (x_make z z hr4894) ?_
 refine ws_next (pend' := []) hst (by kernel_rfl) pk_nil ?_
 refine wsr (.agg #[v4787, v4892, Zs, Zs, v4849, Zs]) 6 rfl rfl rfl (by kernel_rfl) (fun w hst => by obtain ⟨_, _, hv_, _⟩ := hst.sv2; rw [hv_]; obtain ⟨_, _, hv_, _⟩ := hst.sv0; rw [hv_]; obtain ⟨_, _, hv_, _⟩ := hst.sv3; rw [hv_]; kernel_rfl) ?_
 refine ws_e1 7 (by kernel_rfl) ?_
 refine nxe [9] (by kernel_rfl) z z ?_
 clear hst
 intro w hst
 obtain ⟨b4902, w4903, ew4904, eb4905, hst⟩ := hst.box [v4787, v4892, Zs, Zs, v4849, Zs] 72
 refine we_run (v := Pt b4902 0) (w' := w4903) z (x_al (by kernel_rfl) ew4904 eb4905) ?_
 refine ws_next (pend' := []) hst (by kernel_rfl) pk_nil ?_
 refine ws_e1 9 (by kernel_rfl) ?_
 refine nxe [] (by kernel_rfl) z z ?_
 clear hst
 intro w hst
 replace hst := hst.pull2
 obtain ⟨w4907, hr4908, hst⟩ := hst.by_ [Pt b4902 0] 0 (Pt b4902 0) sizeOf59 z (oC z oN) (by kernel_rfl)
 refine we_unit z (x_unit hr4908) ?_
 refine ws_next (pend' := []) hst (by kernel_rfl) pk_nil ?_
 refine ws_nil ?_
 intro w hst
 refine ⟨z, ?_⟩
 replace hst := hst.own_nil (tySl (tyInt .i64))
 replace hst := hst.own_nil (tySl (tyInt .i64))
 replace hst := hst.own_nil (tyInt .i64)
 replace hst := hst.pull6.pull2.pull3.pull6.pull7.pull7
 replace hst := at_label_Lattice_close (pv := Pt b4902 0) (x := ({ up := t4780, down := (List.replicate (Int.toNat ((a0).length : Int)) (0:Int)), join := [], meet := [], rank := (List.replicate (Int.toNat ((a0).length : Int)) (0:Int)), all := [] } : label_Lattice)) hst z
 replace hst := hst.pull1.keep2
 obtain rfl := some_inj hm
 exact ⟨({ up := t4780, down := (List.replicate (Int.toNat ((a0).length : Int)) (0:Int)), join := [], meet := [], rank := (List.replicate (Int.toNat ((a0).length : Int)) (0:Int)), all := [] } : label_Lattice), b4887, (Pt b4902 0), _, hx5464, (fu 0 r0_0 z (fu 4 (.int .i64 ((a0).length : Int)) z (fu 5 (Pt b4887 0) z z))), hst⟩
}
}
 {
 refine nxe [3, 5, 6, 7, 9] (by kernel_rfl) z z ?_
 clear hst
 intro w hst
 obtain ⟨b4909, w4910, ew4911, eb4912, hst⟩ := hst.box [.pointer none] 59
 refine we_run (v := Pt b4909 0) (w' := w4910) z (x_al (by kernel_rfl) ew4911 eb4912) ?_
 refine ws_next (pend' := [(4, I6 ((a0).length : Int)), (2, I6 ((a0).length : Int))]) hst (by kernel_rfl) (pkr z z (fun w hst => z) (pkr z z (fun w hst => z) pk_nil)) ?_
 refine ws_e2 3 5 (by kernel_rfl) ?_ ?_
 {
 refine nxe [5, 6, 7, 9] (by kernel_rfl) z z ?_
 clear hst
 intro w hst
 obtain ⟨v4914, w4915, hr4916, hst⟩ := run_mk (k := .i64) (k' := .i64) (zm := (0:Int)) elem_40 hst hg4782 (by decide) z
 refine we_run (v := v4914) (w' := w4915) z (x_make z z hr4916) ?_
 refine ws_next (pend' := [(4, I6 ((a0).length : Int))]) hst (by kernel_rfl) (pkr z z (fun w hst => z) pk_nil) ?_
 refine ws_e1 5 (by kernel_rfl) ?_
 refine nxe [6, 7, 9] (by kernel_rfl) z z ?_
 clear hst
 intro w hst
 obtain ⟨v4918, w4919, hr4920, hst⟩ := run_mk (k := .i64) (k' := .i64) (zm := (0:Int)) elem_69 hst hg4783 (by decide) z
 refine we_run (v := v4918) (w' := w4919) z (x_make z z hr4920) ?_
 refine ws_next (pend' := []) hst (by kernel_rfl) pk_nil ?_
 refine wsr (.agg #[v4787, v4914, Zs, Zs, v4918, Zs]) 6 rfl rfl rfl (by kernel_rfl) (fun w hst => by obtain ⟨_, _, hv_, _⟩ := hst.sv0; rw [hv_]; obtain ⟨_, _, hv_, _⟩ := hst.sv1; rw [hv_]; obtain ⟨_, _, hv_, _⟩ := hst.sv3; rw [hv_]; kernel_rfl) ?_
 refine ws_e1 7 (by kernel_rfl) ?_
 refine nxe [9] (by kernel_rfl) z z ?_
 clear hst
 intro w hst
 obtain ⟨b4928, w4929, ew4930, eb4931, hst⟩ := hst.box [v4787, v4914, Zs, Zs, v4918, Zs] 72
 refine we_run (v := Pt b4928 0) (w' := w4929) z (x_al (by kernel_rfl) ew4930 eb4931) ?_
 refine ws_next (pend' := []) hst (by kernel_rfl) pk_nil ?_
 refine ws_e1 9 (by kernel_rfl) ?_
 refine nxe [] (by kernel_rfl) z z ?_
 clear hst
 intro w hst
 replace hst := hst.pull3
 obtain ⟨w4933, hr4934, hst⟩ := hst.by_ [Pt b4928 0] 0 (Pt b4928 0) sizeOf59 z (oC z oN) (by kernel_rfl)
 refine we_unit z (x_unit hr4934) ?_
 refine ws_next (pend' := []) hst (by kernel_rfl) pk_nil ?_
 refine ws_nil ?_
 intro w hst
 refine ⟨z, ?_⟩
 replace hst := hst.own_nil (tySl (tyInt .i64))
 replace hst := hst.own_nil (tySl (tyInt .i64))
 replace hst := hst.own_nil (tyInt .i64)
 replace hst := hst.pull5.pull2.pull3.pull6.pull7.pull7
 replace hst := at_label_Lattice_close (pv := Pt b4928 0) (x := ({ up := t4780, down := (List.replicate (Int.toNat ((a0).length : Int)) (0:Int)), join := [], meet := [], rank := (List.replicate (Int.toNat ((a0).length : Int)) (0:Int)), all := [] } : label_Lattice)) hst z
 replace hst := hst.pull1.keep2
 obtain rfl := some_inj hm
 exact ⟨({ up := t4780, down := (List.replicate (Int.toNat ((a0).length : Int)) (0:Int)), join := [], meet := [], rank := (List.replicate (Int.toNat ((a0).length : Int)) (0:Int)), all := [] } : label_Lattice), b4909, (Pt b4928 0), _, hx5464, (fu 0 r0_0 z (fu 4 (.int .i64 ((a0).length : Int)) z (fu 5 (Pt b4909 0) z z))), hst⟩
}
 {
 refine nxe [3, 6, 7, 9] (by kernel_rfl) z z ?_
 clear hst
 intro w hst
 obtain ⟨v4935, w4936, hr4937, hst⟩ := run_mk (k := .i64) (k' := .i64) (zm := (0:Int)) elem_69 hst hg4783 (by decide) z
 refine we_run (v := v4935) (w' := w4936) z (x_make z z hr4937) ?_
 refine ws_next (pend' := [(2, I6 ((a0).length : Int))]) hst (by kernel_rfl) (pkr z z (fun w hst => z) pk_nil) ?_
 refine ws_e1 3 (by kernel_rfl) ?_
 refine nxe [6, 7, 9] (by kernel_rfl) z z ?_
 clear hst
 intro w hst
 obtain ⟨v4939, w4940, hr4941, hst⟩ := run_mk (k := .i64) (k' := .i64) (zm := (0:Int)) elem_40 hst hg4782 (by decide) z
 refine we_run (v := v4939) (w' := w4940) z (x_make z z hr4941) ?_
 refine ws_next (pend' := []) hst (by kernel_rfl) pk_nil ?_
 refine wsr (.agg #[v4787, v4939, Zs, Zs, v4935, Zs]) 6 rfl rfl rfl (by kernel_rfl) (fun w hst => by obtain ⟨_, _, hv_, _⟩ := hst.sv1; rw [hv_]; obtain ⟨_, _, hv_, _⟩ := hst.sv0; rw [hv_]; obtain ⟨_, _, hv_, _⟩ := hst.sv3; rw [hv_]; kernel_rfl) ?_
 refine ws_e1 7 (by kernel_rfl) ?_
 refine nxe [9] (by kernel_rfl) z z ?_
 clear hst
 intro w hst
 obtain ⟨b4949, w4950, ew4951, eb4952, hst⟩ := hst.box [v4787, v4939, Zs, Zs, v4935, Zs] 72
 refine we_run (v := Pt b4949 0) (w' := w4950) z (x_al (by kernel_rfl) ew4951 eb4952) ?_
 refine ws_next (pend' := []) hst (by kernel_rfl) pk_nil ?_
 refine ws_e1 9 (by kernel_rfl) ?_
 refine nxe [] (by kernel_rfl) z z ?_
 clear hst
 intro w hst
 replace hst := hst.pull3
 obtain ⟨w4954, hr4955, hst⟩ := hst.by_ [Pt b4949 0] 0 (Pt b4949 0) sizeOf59 z (oC z oN) (by kernel_rfl)
 refine we_unit z (x_unit hr4955) ?_
 refine ws_next (pend' := []) hst (by kernel_rfl) pk_nil ?_
 refine ws_nil ?_
 intro w hst
 refine ⟨z, ?_⟩
 replace hst := hst.own_nil (tySl (tyInt .i64))
 replace hst := hst.own_nil (tySl (tyInt .i64))
 replace hst := hst.own_nil (tyInt .i64)
 replace hst := hst.pull6.pull2.pull3.pull6.pull7.pull7
 replace hst := at_label_Lattice_close (pv := Pt b4949 0) (x := ({ up := t4780, down := (List.replicate (Int.toNat ((a0).length : Int)) (0:Int)), join := [], meet := [], rank := (List.replicate (Int.toNat ((a0).length : Int)) (0:Int)), all := [] } : label_Lattice)) hst z
 replace hst := hst.pull1.keep2
 obtain rfl := some_inj hm
 exact ⟨({ up := t4780, down := (List.replicate (Int.toNat ((a0).length : Int)) (0:Int)), join := [], meet := [], rank := (List.replicate (Int.toNat ((a0).length : Int)) (0:Int)), all := [] } : label_Lattice), b4909, (Pt b4949 0), _, hx5464, (fu 0 r0_0 z (fu 4 (.int .i64 ((a0).length : Int)) z (fu 5 (Pt b4909 0) z z))), hst⟩
}
}
}
 {
 refine nxe [1, 5, 6, 7, 8, 9] (by kernel_rfl) z z ?_
 clear hst
 intro w hst
 obtain ⟨v4956, w4957, hr4958, hst⟩ := run_mk (k := .i64) (k' := .i64) (zm := (0:Int)) elem_40 hst hg4782 (by decide) z
 refine we_run (v := v4956) (w' := w4957) z (x_make z z hr4958) ?_
 refine ws_next (pend' := [(4, I6 ((a0).length : Int)), (0, r0_0)]) hst (by kernel_rfl) (pkr z z (fun w hst => z) (pkr z z (fun w hst => z) pk_nil)) ?_
 refine ws_e3 1 5 8 (by kernel_rfl) ?_ ?_ ?_
 {
 refine nxe [5, 6, 7, 8, 9] (by kernel_rfl) z z ?_
 clear hst
 intro w hst
 refine wec call24 [r0_0] z z ?_
 refine (slices_Clone_uint64_uint64_ref (f0_0.mono (rd_weak _)) hst.to0 ht4781).mono ?_
 rintro _ w4960 ⟨v4963, rfl, hst⟩
 refine ⟨_, z, ?_⟩
 replace hst := hst.of1
 refine ws_next (pend' := [(4, I6 ((a0).length : Int))]) hst (by kernel_rfl) (pkr z z (fun w hst => z) pk_nil) ?_
 refine ws_e2 5 8 (by kernel_rfl) ?_ ?_
 {
 refine nxe [6, 7, 8, 9] (by kernel_rfl) z z ?_
 clear hst
 intro w hst
 obtain ⟨v4965, w4966, hr4967, hst⟩ := run_mk (k := .i64) (k' := .i64) (zm := (0:Int)) elem_69 hst hg4783 (by decide) z
 refine we_run (v := v4965) (w' := w4966) z (x_make z z hr4967) ?_
 refine ws_next (pend' := []) hst (by kernel_rfl) pk_nil ?_
 refine wsr (.agg #[v4963, v4956, Zs, Zs, v4965, Zs]) 6 rfl rfl rfl (by kernel_rfl) (fun w hst => by obtain ⟨_, _, hv_, _⟩ := hst.sv0; rw [hv_]; obtain ⟨_, _, hv_, _⟩ := hst.sv2; rw [hv_]; obtain ⟨_, _, hv_, _⟩ := hst.sv1; rw [hv_]; kernel_rfl) ?_
 refine ws_e2 7 8 (by kernel_rfl) ?_ ?_
 {
 refine nxe [8, 9] (by kernel_rfl) z z ?_
 clear hst
 intro w hst
 obtain ⟨b4975, w4976, ew4977, eb4978, hst⟩ := hst.box [v4963, v4956, Zs, Zs, v4965, Zs] 72
 refine we_run (v := Pt b4975 0) (w' := w4976) z (x_al (by kernel_rfl) ew4977 eb4978) ?_
 refine ws_next (pend' := []) hst (by kernel_rfl) pk_nil ?_
 refine ws_e1 8 (by kernel_rfl) ?_
 refine nxe [9] (by kernel_rfl) z z ?_
 clear hst
 intro w hst
 obtain ⟨b4980, w4981, ew4982, eb4983, hst⟩ := hst.box [.pointer none] 59
 refine we_run (v := Pt b4980 0) (w' := w4981) z (x_al (by kernel_rfl) ew4982 eb4983) ?_
 refine ws_next (pend' := []) hst (by kernel_rfl) pk_nil ?_
 refine ws_e1 9 (by kernel_rfl) ?_
 refine nxe [] (by kernel_rfl) z z ?_
 clear hst
 intro w hst
 obtain ⟨w4985, hr4986, hst⟩ := hst.by_ [Pt b4975 0] 0 (Pt b4975 0) sizeOf59 z (oC z oN) (by kernel_rfl)
 refine we_unit z (x_unit hr4986) ?_
 refine ws_next (pend' := []) hst (by kernel_rfl) pk_nil ?_
 refine ws_nil ?_
 intro w hst
 refine ⟨z, ?_⟩
 replace hst := hst.own_nil (tySl (tyInt .i64))
 replace hst := hst.own_nil (tySl (tyInt .i64))
 replace hst := hst.own_nil (tyInt .i64)
 replace hst := hst.pull5.pull2.pull3.pull7.pull7.pull7
 replace hst := at_label_Lattice_close (pv := Pt b4975 0) (x := ({ up := t4780, down := (List.replicate (Int.toNat ((a0).length : Int)) (0:Int)), join := [], meet := [], rank := (List.replicate (Int.toNat ((a0).length : Int)) (0:Int)), all := [] } : label_Lattice)) hst z
 replace hst := hst.pull1.keep2
 obtain rfl := some_inj hm
 exact ⟨({ up := t4780, down := (List.replicate (Int.toNat ((a0).length : Int)) (0:Int)), join := [], meet := [], rank := (List.replicate (Int.toNat ((a0).length : Int)) (0:Int)), all := [] } : label_Lattice), b4980, (Pt b4975 0), _, hx5464, (fu 0 r0_0 z (fu 4 (.int .i64 ((a0).length : Int)) z (fu 5 (Pt b4980 0) z z))), hst⟩
}
 {
 refine nxe [7, 9] (by kernel_rfl) z z ?_
 clear hst
 intro w hst
 obtain ⟨b4987, w4988, ew4989, eb4990, hst⟩ := hst.box [.pointer none] 59
 refine we_run (v := Pt b4987 0) (w' := w4988) z (x_al (by kernel_rfl) ew4989 eb4990) ?_
 refine ws_next (pend' := [(6, .agg #[v4963, v4956, Zs, Zs, v4965, Zs])]) hst (by kernel_rfl) (pkr rfl rfl (fun w hst => by obtain ⟨_, _, hv_, _⟩ := hst.sv1; rw [hv_]; obtain ⟨_, _, hv_, _⟩ := hst.sv3; rw [hv_]; obtain ⟨_, _, hv_, _⟩ := hst.sv2; rw [hv_]; kernel_rfl) pk_nil) ?_
 refine ws_e1 7 (by kernel_rfl) ?_
 refine nxe [9] (by kernel_rfl) z z ?_
 clear hst
 intro w hst
 obtain ⟨b4992, w4993, ew4994, eb4995, hst⟩ := hst.box [v4963, v4956, Zs, Zs, v4965, Zs] 72
 refine we_run (v := Pt b4992 0) (w' := w4993) z (x_al (by kernel_rfl) ew4994 eb4995) ?_
 refine ws_next (pend' := []) hst (by kernel_rfl) pk_nil ?_
 refine ws_e1 9 (by kernel_rfl) ?_
 refine nxe [] (by kernel_rfl) z z ?_
 clear hst
 intro w hst
 replace hst := hst.pull1
 obtain ⟨w4997, hr4998, hst⟩ := hst.by_ [Pt b4992 0] 0 (Pt b4992 0) sizeOf59 z (oC z oN) (by kernel_rfl)
 refine we_unit z (x_unit hr4998) ?_
 refine ws_next (pend' := []) hst (by kernel_rfl) pk_nil ?_
 refine ws_nil ?_
 intro w hst
 refine ⟨z, ?_⟩
 replace hst := hst.own_nil (tySl (tyInt .i64))
 replace hst := hst.own_nil (tySl (tyInt .i64))
 replace hst := hst.own_nil (tyInt .i64)
 replace hst := hst.pull5.pull2.pull3.pull7.pull7.pull7
 replace hst := at_label_Lattice_close (pv := Pt b4992 0) (x := ({ up := t4780, down := (List.replicate (Int.toNat ((a0).length : Int)) (0:Int)), join := [], meet := [], rank := (List.replicate (Int.toNat ((a0).length : Int)) (0:Int)), all := [] } : label_Lattice)) hst z
 replace hst := hst.pull1.keep2
 obtain rfl := some_inj hm
 exact ⟨({ up := t4780, down := (List.replicate (Int.toNat ((a0).length : Int)) (0:Int)), join := [], meet := [], rank := (List.replicate (Int.toNat ((a0).length : Int)) (0:Int)), all := [] } : label_Lattice), b4987, (Pt b4992 0), _, hx5464, (fu 0 r0_0 z (fu 4 (.int .i64 ((a0).length : Int)) z (fu 5 (Pt b4987 0) z z))), hst⟩
}
}
 {
 refine nxe [5, 6, 7, 9] (by kernel_rfl) z z ?_
 clear hst
 intro w hst
 obtain ⟨b4999, w5000, ew5001, eb5002, hst⟩ := hst.box [.pointer none] 59
 refine we_run (v := Pt b4999 0) (w' := w5000) z (x_al (by kernel_rfl) ew5001 eb5002) ?_
 refine ws_next (pend' := [(4, I6 ((a0).length : Int))]) hst (by kernel_rfl) (pkr z z (fun w hst => z) pk_nil) ?_
 refine ws_e1 5 (by kernel_rfl) ?_
 refine nxe [6, 7, 9] (by kernel_rfl) z z ?_
 clear hst
 intro w hst
 obtain ⟨v5004, w5005, hr5006, hst⟩ := run_mk (k := .i64) (k' := .i64) (zm := (0:Int)) elem_69 hst hg4783 (by decide) z
 refine we_run (v := v5004) (w' := w5005) z (x_make z z hr5006) ?_
 refine ws_next (pend' := []) hst (by kernel_rfl) pk_nil ?_
 refine wsr (.agg #[v4963, v4956, Zs, Zs, v5004, Zs]) 6 rfl rfl rfl (by kernel_rfl) (fun w hst => by obtain ⟨_, _, hv_, _⟩ := hst.sv0; rw [hv_]; obtain ⟨_, _, hv_, _⟩ := hst.sv3; rw [hv_]; obtain ⟨_, _, hv_, _⟩ := hst.sv2; rw [hv_]; kernel_rfl) ?_
 refine ws_e1 7 (by kernel_rfl) ?_
 refine nxe [9] (by kernel_rfl) z z ?_
 clear hst
 intro w hst
 obtain ⟨b5014, w5015, ew5016, eb5017, hst⟩ := hst.box [v4963, v4956, Zs, Zs, v5004, Zs] 72
 refine we_run (v := Pt b5014 0) (w' := w5015) z (x_al (by kernel_rfl) ew5016 eb5017) ?_
 refine ws_next (pend' := []) hst (by kernel_rfl) pk_nil ?_
 refine ws_e1 9 (by kernel_rfl) ?_
 refine nxe [] (by kernel_rfl) z z ?_
 clear hst
 intro w hst
 replace hst := hst.pull2
 obtain ⟨w5019, hr5020, hst⟩ := hst.by_ [Pt b5014 0] 0 (Pt b5014 0) sizeOf59 z (oC z oN) (by kernel_rfl)
 refine we_unit z (x_unit hr5020) ?_
 refine ws_next (pend' := []) hst (by kernel_rfl) pk_nil ?_
 refine ws_nil ?_
 intro w hst
 refine ⟨z, ?_⟩
 replace hst := hst.own_nil (tySl (tyInt .i64))
 replace hst := hst.own_nil (tySl (tyInt .i64))
 replace hst := hst.own_nil (tyInt .i64)
 replace hst := hst.pull5.pull2.pull3.pull7.pull7.pull7
 replace hst := at_label_Lattice_close (pv := Pt b5014 0) (x := ({ up := t4780, down := (List.replicate (Int.toNat ((a0).length : Int)) (0:Int)), join := [], meet := [], rank := (List.replicate (Int.toNat ((a0).length : Int)) (0:Int)), all := [] } : label_Lattice)) hst z
 replace hst := hst.pull1.keep2
 obtain rfl := some_inj hm
 exact ⟨({ up := t4780, down := (List.replicate (Int.toNat ((a0).length : Int)) (0:Int)), join := [], meet := [], rank := (List.replicate (Int.toNat ((a0).length : Int)) (0:Int)), all := [] } : label_Lattice), b4999, (Pt b5014 0), _, hx5464, (fu 0 r0_0 z (fu 4 (.int .i64 ((a0).length : Int)) z (fu 5 (Pt b4999 0) z z))), hst⟩
}
}
 {
 refine nxe [1, 6, 7, 8, 9] (by kernel_rfl) z z ?_
 clear hst
 intro w hst
 obtain ⟨v5021, w5022, hr5023, hst⟩ := run_mk (k := .i64) (k' := .i64) (zm := (0:Int)) elem_69 hst hg4783 (by decide) z
 refine we_run (v := v5021) (w' := w5022) z (x_make z z hr5023) ?_
 refine ws_next (pend' := [(0, r0_0)]) hst (by kernel_rfl) (pkr z z (fun w hst => z) pk_nil) ?_
 refine ws_e2 1 8 (by kernel_rfl) ?_ ?_
 {
 refine nxe [6, 7, 8, 9] (by kernel_rfl) z z ?_
 clear hst
 intro w hst
 refine wec call24 [r0_0] z z ?_
 refine (slices_Clone_uint64_uint64_ref (f0_0.mono (rd_weak _)) hst.to0 ht4781).mono ?_
 rintro _ w5025 ⟨v5028, rfl, hst⟩
 refine ⟨_, z, ?_⟩
 replace hst := hst.of1
 refine ws_next (pend' := []) hst (by kernel_rfl) pk_nil ?_
 refine wsr (.agg #[v5028, v4956, Zs, Zs, v5021, Zs]) 6 rfl rfl rfl (by kernel_rfl) (fun w hst => by obtain ⟨_, _, hv_, _⟩ := hst.sv1; rw [hv_]; obtain ⟨_, _, hv_, _⟩ := hst.sv2; rw [hv_]; obtain ⟨_, _, hv_, _⟩ := hst.sv0; rw [hv_]; kernel_rfl) ?_
 refine ws_e2 7 8 (by kernel_rfl) ?_ ?_
 {
 refine nxe [8, 9] (by kernel_rfl) z z ?_
 clear hst
 intro w hst
 obtain ⟨b5036, w5037, ew5038, eb5039, hst⟩ := hst.box [v5028, v4956, Zs, Zs, v5021, Zs] 72
 refine we_run (v := Pt b5036 0) (w' := w5037) z (x_al (by kernel_rfl) ew5038 eb5039) ?_
 refine ws_next (pend' := []) hst (by kernel_rfl) pk_nil ?_
 refine ws_e1 8 (by kernel_rfl) ?_
 refine nxe [9] (by kernel_rfl) z z ?_
 clear hst
 intro w hst
 obtain ⟨b5041, w5042, ew5043, eb5044, hst⟩ := hst.box [.pointer none] 59
 refine we_run (v := Pt b5041 0) (w' := w5042) z (x_al (by kernel_rfl) ew5043 eb5044) ?_
 refine ws_next (pend' := []) hst (by kernel_rfl) pk_nil ?_
 refine ws_e1 9 (by kernel_rfl) ?_
 refine nxe [] (by kernel_rfl) z z ?_
 clear hst
 intro w hst
 obtain ⟨w5046, hr5047, hst⟩ := hst.by_ [Pt b5036 0] 0 (Pt b5036 0) sizeOf59 z (oC z oN) (by kernel_rfl)
 refine we_unit z (x_unit hr5047) ?_
 refine ws_next (pend' := []) hst (by kernel_rfl) pk_nil ?_
 refine ws_nil ?_
 intro w hst
 refine ⟨z, ?_⟩
 replace hst := hst.own_nil (tySl (tyInt .i64))
 replace hst := hst.own_nil (tySl (tyInt .i64))
 replace hst := hst.own_nil (tyInt .i64)
 replace hst := hst.pull6.pull2.pull3.pull7.pull7.pull7
 replace hst := at_label_Lattice_close (pv := Pt b5036 0) (x := ({ up := t4780, down := (List.replicate (Int.toNat ((a0).length : Int)) (0:Int)), join := [], meet := [], rank := (List.replicate (Int.toNat ((a0).length : Int)) (0:Int)), all := [] } : label_Lattice)) hst z
 replace hst := hst.pull1.keep2
 obtain rfl := some_inj hm
 exact ⟨({ up := t4780, down := (List.replicate (Int.toNat ((a0).length : Int)) (0:Int)), join := [], meet := [], rank := (List.replicate (Int.toNat ((a0).length : Int)) (0:Int)), all := [] } : label_Lattice), b5041, (Pt b5036 0), _, hx5464, (fu 0 r0_0 z (fu 4 (.int .i64 ((a0).length : Int)) z (fu 5 (Pt b5041 0) z z))), hst⟩
}
 {
 refine nxe [7, 9] (by kernel_rfl) z z ?_
 clear hst
 intro w hst
 obtain ⟨b5048, w5049, ew5050, eb5051, hst⟩ := hst.box [.pointer none] 59
 refine we_run (v := Pt b5048 0) (w' := w5049) z (x_al (by kernel_rfl) ew5050 eb5051) ?_
 refine ws_next (pend' := [(6, .agg #[v5028, v4956, Zs, Zs, v5021, Zs])]) hst (by kernel_rfl) (pkr rfl rfl (fun w hst => by obtain ⟨_, _, hv_, _⟩ := hst.sv2; rw [hv_]; obtain ⟨_, _, hv_, _⟩ := hst.sv3; rw [hv_]; obtain ⟨_, _, hv_, _⟩ := hst.sv1; rw [hv_]; kernel_rfl) pk_nil) ?_
 refine ws_e1 7 (by kernel_rfl) ?_
 refine nxe [9] (by kernel_rfl) z z ?_
 clear hst
 intro w hst
 obtain ⟨b5053, w5054, ew5055, eb5056, hst⟩ := hst.box [v5028, v4956, Zs, Zs, v5021, Zs] 72
 refine we_run (v := Pt b5053 0) (w' := w5054) z (x_al (by kernel_rfl) ew5055 eb5056) ?_
 refine ws_next (pend' := []) hst (by kernel_rfl) pk_nil ?_
 refine ws_e1 9 (by kernel_rfl) ?_
 refine nxe [] (by kernel_rfl) z z ?_
 clear hst
 intro w hst
 replace hst := hst.pull1
 obtain ⟨w5058, hr5059, hst⟩ := hst.by_ [Pt b5053 0] 0 (Pt b5053 0) sizeOf59 z (oC z oN) (by kernel_rfl)
 refine we_unit z (x_unit hr5059) ?_
 refine ws_next (pend' := []) hst (by kernel_rfl) pk_nil ?_
 refine ws_nil ?_
 intro w hst
 refine ⟨z, ?_⟩
 replace hst := hst.own_nil (tySl (tyInt .i64))
 replace hst := hst.own_nil (tySl (tyInt .i64))
 replace hst := hst.own_nil (tyInt .i64)
 replace hst := hst.pull6.pull2.pull3.pull7.pull7.pull7
 replace hst := at_label_Lattice_close (pv := Pt b5053 0) (x := ({ up := t4780, down := (List.replicate (Int.toNat ((a0).length : Int)) (0:Int)), join := [], meet := [], rank := (List.replicate (Int.toNat ((a0).length : Int)) (0:Int)), all := [] } : label_Lattice)) hst z
 replace hst := hst.pull1.keep2
 obtain rfl := some_inj hm
 exact ⟨({ up := t4780, down := (List.replicate (Int.toNat ((a0).length : Int)) (0:Int)), join := [], meet := [], rank := (List.replicate (Int.toNat ((a0).length : Int)) (0:Int)), all := [] } : label_Lattice), b5048, (Pt b5053 0), _, hx5464, (fu 0 r0_0 z (fu 4 (.int .i64 ((a0).length : Int)) z (fu 5 (Pt b5048 0) z z))), hst⟩
}
}
 {
 refine nxe [1, 6, 7, 9] (by kernel_rfl) z z ?_
 clear hst
 intro w hst
 obtain ⟨b5060, w5061, ew5062, eb5063, hst⟩ := hst.box [.pointer none] 59
 refine we_run (v := Pt b5060 0) (w' := w5061) z (x_al (by kernel_rfl) ew5062 eb5063) ?_
 refine ws_next (pend' := [(0, r0_0)]) hst (by kernel_rfl) (pkr z z (fun w hst => z) pk_nil) ?_
 refine ws_e1 1 (by kernel_rfl) ?_
 refine nxe [6, 7, 9] (by kernel_rfl) z z ?_
 clear hst
 intro w hst
 refine wec call24 [r0_0] z z ?_
 refine (slices_Clone_uint64_uint64_ref (f0_0.mono (rd_weak _)) hst.to0 ht4781).mono ?_
 rintro _ w5065 ⟨v5068, rfl, hst⟩
 refine ⟨_, z, ?_⟩
 replace hst := hst.of1
 refine ws_next (pend' := []) hst (by kernel_rfl) pk_nil ?_
 refine wsr (.agg #[v5068, v4956, Zs, Zs, v5021, Zs]) 6 rfl rfl rfl (by kernel_rfl) (fun w hst => by obtain ⟨_, _, hv_, _⟩ := hst.sv2; rw [hv_]; obtain ⟨_, _, hv_, _⟩ := hst.sv3; rw [hv_]; obtain ⟨_, _, hv_, _⟩ := hst.sv0; rw [hv_]; kernel_rfl) ?_
 refine ws_e1 7 (by kernel_rfl) ?_
 refine nxe [9] (by kernel_rfl) z z ?_
 clear hst
 intro w hst
 obtain ⟨b5076, w5077, ew5078, eb5079, hst⟩ := hst.box [v5068, v4956, Zs, Zs, v5021, Zs] 72
 refine we_run (v := Pt b5076 0) (w' := w5077) z (x_al (by kernel_rfl) ew5078 eb5079) ?_
 refine ws_next (pend' := []) hst (by kernel_rfl) pk_nil ?_
 refine ws_e1 9 (by kernel_rfl) ?_
 refine nxe [] (by kernel_rfl) z z ?_
 clear hst
 intro w hst
 replace hst := hst.pull2
 obtain ⟨w5081, hr5082, hst⟩ := hst.by_ [Pt b5076 0] 0 (Pt b5076 0) sizeOf59 z (oC z oN) (by kernel_rfl)
 refine we_unit z (x_unit hr5082) ?_
 refine ws_next (pend' := []) hst (by kernel_rfl) pk_nil ?_
 refine ws_nil ?_
 intro w hst
 refine ⟨z, ?_⟩
 replace hst := hst.own_nil (tySl (tyInt .i64))
 replace hst := hst.own_nil (tySl (tyInt .i64))
 replace hst := hst.own_nil (tyInt .i64)
 replace hst := hst.pull6.pull2.pull3.pull7.pull7.pull7
 replace hst := at_label_Lattice_close (pv := Pt b5076 0) (x := ({ up := t4780, down := (List.replicate (Int.toNat ((a0).length : Int)) (0:Int)), join := [], meet := [], rank := (List.replicate (Int.toNat ((a0).length : Int)) (0:Int)), all := [] } : label_Lattice)) hst z
 replace hst := hst.pull1.keep2
 obtain rfl := some_inj hm
 exact ⟨({ up := t4780, down := (List.replicate (Int.toNat ((a0).length : Int)) (0:Int)), join := [], meet := [], rank := (List.replicate (Int.toNat ((a0).length : Int)) (0:Int)), all := [] } : label_Lattice), b5060, (Pt b5076 0), _, hx5464, (fu 0 r0_0 z (fu 4 (.int .i64 ((a0).length : Int)) z (fu 5 (Pt b5060 0) z z))), hst⟩
}
}
 {
 refine nxe [1, 5, 6, 7, 9] (by kernel_rfl) z z ?_
 clear hst
 intro w hst
 obtain ⟨b5083, w5084, ew5085, eb5086, hst⟩ := hst.box [.pointer none] 59
 refine we_run (v := Pt b5083 0) (w' := w5084) z (x_al (by kernel_rfl) ew5085 eb5086) ?_
 refine ws_next (pend' := [(4, I6 ((a0).length : Int)), (0, r0_0)]) hst (by kernel_rfl) (pkr z z (fun w hst => z) (pkr z z (fun w hst => z) pk_nil)) ?_
 refine ws_e2 1 5 (by kernel_rfl) ?_ ?_
 {
 refine nxe [5, 6, 7, 9] (by kernel_rfl) z z ?_
 clear hst
 intro w hst
 refine wec call24 [r0_0] z z ?_
 refine (slices_Clone_uint64_uint64_ref (f0_0.mono (rd_weak _)) hst.to0 ht4781).mono ?_
 rintro _ w5088 ⟨v5091, rfl, hst⟩
 refine ⟨_, z, ?_⟩
 replace hst := hst.of1
 refine ws_next (pend' := [(4, I6 ((a0).length : Int))]) hst (by kernel_rfl) (pkr z z (fun w hst => z) pk_nil) ?_
 refine ws_e1 5 (by kernel_rfl) ?_
 refine nxe [6, 7, 9] (by kernel_rfl) z z ?_
 clear hst
 intro w hst
 obtain ⟨v5093, w5094, hr5095, hst⟩ := run_mk (k := .i64) (k' := .i64) (zm := (0:Int)) elem_69 hst hg4783 (by decide) z
 refine we_run (v := v5093) (w' := w5094) z (x_make z z hr5095) ?_
 refine ws_next (pend' := []) hst (by kernel_rfl) pk_nil ?_
 refine wsr (.agg #[v5091, v4956, Zs, Zs, v5093, Zs]) 6 rfl rfl rfl (by kernel_rfl) (fun w hst => by obtain ⟨_, _, hv_, _⟩ := hst.sv0; rw [hv_]; obtain ⟨_, _, hv_, _⟩ := hst.sv3; rw [hv_]; obtain ⟨_, _, hv_, _⟩ := hst.sv1; rw [hv_]; kernel_rfl) ?_
 refine ws_e1 7 (by kernel_rfl) ?_
 refine nxe [9] (by kernel_rfl) z z ?_
 clear hst
 intro w hst
 obtain ⟨b5103, w5104, ew5105, eb5106, hst⟩ := hst.box [v5091, v4956, Zs, Zs, v5093, Zs] 72
 refine we_run (v := Pt b5103 0) (w' := w5104) z (x_al (by kernel_rfl) ew5105 eb5106) ?_
 refine ws_next (pend' := []) hst (by kernel_rfl) pk_nil ?_
 refine ws_e1 9 (by kernel_rfl) ?_
 refine nxe [] (by kernel_rfl) z z ?_
 clear hst
 intro w hst
 replace hst := hst.pull3
 obtain ⟨w5108, hr5109, hst⟩ := hst.by_ [Pt b5103 0] 0 (Pt b5103 0) sizeOf59 z (oC z oN) (by kernel_rfl)
 refine we_unit z (x_unit hr5109) ?_
 refine ws_next (pend' := []) hst (by kernel_rfl) pk_nil ?_
 refine ws_nil ?_
 intro w hst
 refine ⟨z, ?_⟩
 replace hst := hst.own_nil (tySl (tyInt .i64))
 replace hst := hst.own_nil (tySl (tyInt .i64))
 replace hst := hst.own_nil (tyInt .i64)
 replace hst := hst.pull5.pull2.pull3.pull7.pull7.pull7
 replace hst := at_label_Lattice_close (pv := Pt b5103 0) (x := ({ up := t4780, down := (List.replicate (Int.toNat ((a0).length : Int)) (0:Int)), join := [], meet := [], rank := (List.replicate (Int.toNat ((a0).length : Int)) (0:Int)), all := [] } : label_Lattice)) hst z
 replace hst := hst.pull1.keep2
 obtain rfl := some_inj hm
 exact ⟨({ up := t4780, down := (List.replicate (Int.toNat ((a0).length : Int)) (0:Int)), join := [], meet := [], rank := (List.replicate (Int.toNat ((a0).length : Int)) (0:Int)), all := [] } : label_Lattice), b5083, (Pt b5103 0), _, hx5464, (fu 0 r0_0 z (fu 4 (.int .i64 ((a0).length : Int)) z (fu 5 (Pt b5083 0) z z))), hst⟩
}
 {
 refine nxe [1, 6, 7, 9] (by kernel_rfl) z z ?_
 clear hst
 intro w hst
 obtain ⟨v5110, w5111, hr5112, hst⟩ := run_mk (k := .i64) (k' := .i64) (zm := (0:Int)) elem_69 hst hg4783 (by decide) z
 refine we_run (v := v5110) (w' := w5111) z (x_make z z hr5112) ?_
 refine ws_next (pend' := [(0, r0_0)]) hst (by kernel_rfl) (pkr z z (fun w hst => z) pk_nil) ?_
 refine ws_e1 1 (by kernel_rfl) ?_
 refine nxe [6, 7, 9] (by kernel_rfl) z z ?_
 clear hst
 intro w hst
 refine wec call24 [r0_0] z z ?_
 refine (slices_Clone_uint64_uint64_ref (f0_0.mono (rd_weak _)) hst.to0 ht4781).mono ?_
 rintro _ w5114 ⟨v5117, rfl, hst⟩
 refine ⟨_, z, ?_⟩
 replace hst := hst.of1
 refine ws_next (pend' := []) hst (by kernel_rfl) pk_nil ?_
 refine wsr (.agg #[v5117, v4956, Zs, Zs, v5110, Zs]) 6 rfl rfl rfl (by kernel_rfl) (fun w hst => by obtain ⟨_, _, hv_, _⟩ := hst.sv1; rw [hv_]; obtain ⟨_, _, hv_, _⟩ := hst.sv3; rw [hv_]; obtain ⟨_, _, hv_, _⟩ := hst.sv0; rw [hv_]; kernel_rfl) ?_
 refine ws_e1 7 (by kernel_rfl) ?_
 refine nxe [9] (by kernel_rfl) z z ?_
 clear hst
 intro w hst
 obtain ⟨b5125, w5126, ew5127, eb5128, hst⟩ := hst.box [v5117, v4956, Zs, Zs, v5110, Zs] 72
 refine we_run (v := Pt b5125 0) (w' := w5126) z (x_al (by kernel_rfl) ew5127 eb5128) ?_
 refine ws_next (pend' := []) hst (by kernel_rfl) pk_nil ?_
 refine ws_e1 9 (by kernel_rfl) ?_
 refine nxe [] (by kernel_rfl) z z ?_
 clear hst
 intro w hst
 replace hst := hst.pull3
 obtain ⟨w5130, hr5131, hst⟩ := hst.by_ [Pt b5125 0] 0 (Pt b5125 0) sizeOf59 z (oC z oN) (by kernel_rfl)
 refine we_unit z (x_unit hr5131) ?_
 refine ws_next (pend' := []) hst (by kernel_rfl) pk_nil ?_
 refine ws_nil ?_
 intro w hst
 refine ⟨z, ?_⟩
 replace hst := hst.own_nil (tySl (tyInt .i64))
 replace hst := hst.own_nil (tySl (tyInt .i64))
 replace hst := hst.own_nil (tyInt .i64)
 replace hst := hst.pull6.pull2.pull3.pull7.pull7.pull7
 replace hst := at_label_Lattice_close (pv := Pt b5125 0) (x := ({ up := t4780, down := (List.replicate (Int.toNat ((a0).length : Int)) (0:Int)), join := [], meet := [], rank := (List.replicate (Int.toNat ((a0).length : Int)) (0:Int)), all := [] } : label_Lattice)) hst z
 replace hst := hst.pull1.keep2
 obtain rfl := some_inj hm
 exact ⟨({ up := t4780, down := (List.replicate (Int.toNat ((a0).length : Int)) (0:Int)), join := [], meet := [], rank := (List.replicate (Int.toNat ((a0).length : Int)) (0:Int)), all := [] } : label_Lattice), b5083, (Pt b5125 0), _, hx5464, (fu 0 r0_0 z (fu 4 (.int .i64 ((a0).length : Int)) z (fu 5 (Pt b5083 0) z z))), hst⟩
}
}
}
 {
 refine nxe [1, 3, 6, 7, 8, 9] (by kernel_rfl) z z ?_
 clear hst
 intro w hst
 obtain ⟨v5132, w5133, hr5134, hst⟩ := run_mk (k := .i64) (k' := .i64) (zm := (0:Int)) elem_69 hst hg4783 (by decide) z
 refine we_run (v := v5132) (w' := w5133) z (x_make z z hr5134) ?_
 refine ws_next (pend' := [(2, I6 ((a0).length : Int)), (0, r0_0)]) hst (by kernel_rfl) (pkr z z (fun w hst => z) (pkr z z (fun w hst => z) pk_nil)) ?_
 refine ws_e3 1 3 8 (by kernel_rfl) ?_ ?_ ?_
 {
 refine nxe [3, 6, 7, 8, 9] (by kernel_rfl) z z ?_
 clear hst
 intro w hst
 refine wec call24 [r0_0] z z ?_
 refine (slices_Clone_uint64_uint64_ref (f0_0.mono (rd_weak _)) hst.to0 ht4781).mono ?_
 rintro _ w5136 ⟨v5139, rfl, hst⟩
 refine ⟨_, z, ?_⟩
 replace hst := hst.of1
 refine ws_next (pend' := [(2, I6 ((a0).length : Int))]) hst (by kernel_rfl) (pkr z z (fun w hst => z) pk_nil) ?_
 refine ws_e2 3 8 (by kernel_rfl) ?_ ?_
 {
 refine nxe [6, 7, 8, 9] (by kernel_rfl) z z ?_
 clear hst
 intro w hst
 obtain ⟨v5141, w5142, hr5143, hst⟩ := run_mk (k := .i64) (k' := .i64) (zm := (0:Int)) elem_40 hst hg4782 (by decide) z
 refine we_run (v := v5141) (w' := w5142) z (x_make z z hr5143) ?_
 refine ws_next (pend' := []) hst (by kernel_rfl) pk_nil ?_
 refine wsr (.agg #[v5139, v5141, Zs, Zs, v5132, Zs]) 6 rfl rfl rfl (by kernel_rfl) (fun w hst => by obtain ⟨_, _, hv_, _⟩ := hst.sv2; rw [hv_]; obtain ⟨_, _, hv_, _⟩ := hst.sv0; rw [hv_]; obtain ⟨_, _, hv_, _⟩ := hst.sv1; rw [hv_]; kernel_rfl) ?_
 refine ws_e2 7 8 (by kernel_rfl) ?_ ?_
 {
 refine nxe [8, 9] (by kernel_rfl) z z ?_
 clear hst
 intro w hst
 obtain ⟨b5151, w5152, ew5153, eb5154, hst⟩ := hst.box [v5139, v5141, Zs, Zs, v5132, Zs] 72
 refine we_run (v := Pt b5151 0) (w' := w5152) z (x_al (by kernel_rfl) ew5153 eb5154) ?_
 refine ws_next (pend' := []) hst (by kernel_rfl) pk_nil ?_
 refine ws_e1 8 (by kernel_rfl) ?_
 refine nxe [9] (by kernel_rfl) z z ?_
 clear hst
 intro w hst
 obtain ⟨b5156, w5157, ew5158, eb5159, hst⟩ := hst.box [.pointer none] 59
 refine we_run (v := Pt b5156 0) (w' := w5157) z (x_al (by kernel_rfl) ew5158 eb5159) ?_
 refine ws_next (pend' := []) hst (by kernel_rfl) pk_nil ?_
 refine ws_e1 9 (by kernel_rfl) ?_
 refine nxe [] (by kernel_rfl) z z ?_
 clear hst
 intro w hst
 obtain ⟨w5161, hr5162, hst⟩ := hst.by_ [Pt b5151 0] 0 (Pt b5151 0) sizeOf59 z (oC z oN) (by kernel_rfl)
 refine we_unit z (x_unit hr5162) ?_
 refine ws_next (pend' := []) hst (by kernel_rfl) pk_nil ?_
 refine ws_nil ?_
 intro w hst
 refine ⟨z, ?_⟩
 replace hst := hst.own_nil (tySl (tyInt .i64))
 replace hst := hst.own_nil (tySl (tyInt .i64))
 replace hst := hst.own_nil (tyInt .i64)
 replace hst := hst.pull7.pull2.pull3.pull6.pull7.pull7
 replace hst := at_label_Lattice_close (pv := Pt b5151 0) (x := ({ up := t4780, down := (List.replicate (Int.toNat ((a0).length : Int)) (0:Int)), join := [], meet := [], rank := (List.replicate (Int.toNat ((a0).length : Int)) (0:Int)), all := [] } : label_Lattice)) hst z
 replace hst := hst.pull1.keep2
 obtain rfl := some_inj hm
 exact ⟨({ up := t4780, down := (List.replicate (Int.toNat ((a0).length : Int)) (0:Int)), join := [], meet := [], rank := (List.replicate (Int.toNat ((a0).length : Int)) (0:Int)), all := [] } : label_Lattice), b5156, (Pt b5151 0), _, hx5464, (fu 0 r0_0 z (fu 4 (.int .i64 ((a0).length : Int)) z (fu 5 (Pt b5156 0) z z))), hst⟩
}
 {
 refine nxe [7, 9] (by kernel_rfl) z z ?_
 clear hst
 intro w hst
 obtain ⟨b5163, w5164, ew5165, eb5166, hst⟩ := hst.box [.pointer none] 59
 refine we_run (v := Pt b5163 0) (w' := w5164) z (x_al (by kernel_rfl) ew5165 eb5166) ?_
 refine ws_next (pend' := [(6, .agg #[v5139, v5141, Zs, Zs, v5132, Zs])]) hst (by kernel_rfl) (pkr rfl rfl (fun w hst => by obtain ⟨_, _, hv_, _⟩ := hst.sv3; rw [hv_]; obtain ⟨_, _, hv_, _⟩ := hst.sv1; rw [hv_]; obtain ⟨_, _, hv_, _⟩ := hst.sv2; rw [hv_]; kernel_rfl) pk_nil) ?_
 refine ws_e1 7 (by kernel_rfl) ?_
 refine nxe [9] (by kernel_rfl) z z ?_
 clear hst
 intro w hst
 obtain ⟨b5168, w5169, ew5170, eb5171, hst⟩ := hst.box [v5139, v5141, Zs, Zs, v5132, Zs] 72
 refine we_run (v := Pt b5168 0) (w' := w5169) z (x_al (by kernel_rfl) ew5170 eb5171) ?_
 refine ws_next (pend' := []) hst (by kernel_rfl) pk_nil ?_
 refine ws_e1 9 (by kernel_rfl) ?_
 refine nxe [] (by kernel_rfl) z z ?_
 clear hst
 intro w hst
 replace hst := hst.pull1
 obtain ⟨w5173, hr5174, hst⟩ := hst.by_ [Pt b5168 0] 0 (Pt b5168 0) sizeOf59 z (oC z oN) (by kernel_rfl)
 refine we_unit z (x_unit hr5174) ?_
 refine ws_next (pend' := []) hst (by kernel_rfl) pk_nil ?_
 refine ws_nil ?_
 intro w hst
 refine ⟨z, ?_⟩
 replace hst := hst.own_nil (tySl (tyInt .i64))
 replace hst := hst.own_nil (tySl (tyInt .i64))
 replace hst := hst.own_nil (tyInt .i64)
 replace hst := hst.pull7.pull2.pull3.pull6.pull7.pull7
 replace hst := at_label_Lattice_close (pv := Pt b5168 0) (x := ({ up := t4780, down := (List.replicate (Int.toNat ((a0).length : Int)) (0:Int)), join := [], meet := [], rank := (List.replicate (Int.toNat ((a0).length : Int)) (0:Int)), all := [] } : label_Lattice)) hst z
 replace hst := hst.pull1.keep2
 obtain rfl := some_inj hm
 exact ⟨({ up := t4780, down := (List.replicate (Int.toNat ((a0).length : Int)) (0:Int)), join := [], meet := [], rank := (List.replicate (Int.toNat ((a0).length : Int)) (0:Int)), all := [] } : label_Lattice), b5163, (Pt b5168 0), _, hx5464, (fu 0 r0_0 z (fu 4 (.int .i64 ((a0).length : Int)) z (fu 5 (Pt b5163 0) z z))), hst⟩
}
}
 {
 refine nxe [3, 6, 7, 9] (by kernel_rfl) z z ?_
 clear hst
 intro w hst
 obtain ⟨b5175, w5176, ew5177, eb5178, hst⟩ := hst.box [.pointer none] 59
 refine we_run (v := Pt b5175 0) (w' := w5176) z (x_al (by kernel_rfl) ew5177 eb5178) ?_
 refine ws_next (pend' := [(2, I6 ((a0).length : Int))]) hst (by kernel_rfl) (pkr z z (fun w hst => z) pk_nil) ?_
 refine ws_e1 3 (by kernel_rfl) ?_
 refine nxe [6, 7, 9] (by kernel_rfl) z z ?_
 clear hst
 intro w hst
 obtain ⟨v5180, w5181, hr5182, hst⟩ := run_mk (k := .i64) (k' := .i64) (zm := (0:Int)) elem_40 hst hg4782 (by decide) z
 refine we_run (v := v5180) (w' := w5181) z (x_make z z hr5182) ?_
 refine ws_next (pend' := []) hst (by kernel_rfl) pk_nil ?_
 refine wsr (.agg #[v5139, v5180, Zs, Zs, v5132, Zs]) 6 rfl rfl rfl (by kernel_rfl) (fun w hst => by obtain ⟨_, _, hv_, _⟩ := hst.sv3; rw [hv_]; obtain ⟨_, _, hv_, _⟩ := hst.sv0; rw [hv_]; obtain ⟨_, _, hv_, _⟩ := hst.sv2; rw [hv_]; kernel_rfl) ?_
 refine ws_e1 7 (by kernel_rfl) ?_
 refine nxe [9] (by kernel_rfl) z z ?_
 clear hst
 intro w hst
 obtain ⟨b5190, w5191, ew5192, eb5193, hst⟩ := hst.box [v5139, v5180, Zs, Zs, v5132, Zs] 72
 refine we_run (v := Pt b5190 0) (w' := w5191) z (x_al (by kernel_rfl) ew5192 eb5193) ?_
 refine ws_next (pend' := []) hst (by kernel_rfl) pk_nil ?_
 refine ws_e1 9 (by kernel_rfl) ?_
 refine nxe [] (by kernel_rfl) z z ?_
 clear hst
 intro w hst
 replace hst := hst.pull2
 obtain ⟨w5195, hr5196, hst⟩ := hst.by_ [Pt b5190 0] 0 (Pt b5190 0) sizeOf59 z (oC z oN) (by kernel_rfl)
 refine we_unit z (x_unit hr5196) ?_
 refine ws_next (pend' := []) hst (by kernel_rfl) pk_nil ?_
 refine ws_nil ?_
 intro w hst
 refine ⟨z, ?_⟩
 replace hst := hst.own_nil (tySl (tyInt .i64))
 replace hst := hst.own_nil (tySl (tyInt .i64))
 replace hst := hst.own_nil (tyInt .i64)
 replace hst := hst.pull7.pull2.pull3.pull6.pull7.pull7
 replace hst := at_label_Lattice_close (pv := Pt b5190 0) (x := ({ up := t4780, down := (List.replicate (Int.toNat ((a0).length : Int)) (0:Int)), join := [], meet := [], rank := (List.replicate (Int.toNat ((a0).length : Int)) (0:Int)), all := [] } : label_Lattice)) hst z
 replace hst := hst.pull1.keep2
 obtain rfl := some_inj hm
 exact ⟨({ up := t4780, down := (List.replicate (Int.toNat ((a0).length : Int)) (0:Int)), join := [], meet := [], rank := (List.replicate (Int.toNat ((a0).length : Int)) (0:Int)), all := [] } : label_Lattice), b5175, (Pt b5190 0), _, hx5464, (fu 0 r0_0 z (fu 4 (.int .i64 ((a0).length : Int)) z (fu 5 (Pt b5175 0) z z))), hst⟩
}
}
 {
 refine nxe [1, 6, 7, 8, 9] (by kernel_rfl) z z ?_
 clear hst
 intro w hst
 obtain ⟨v5197, w5198, hr5199, hst⟩ := run_mk (k := .i64) (k' := .i64) (zm := (0:Int)) elem_40 hst hg4782 (by decide) z
 refine we_run (v := v5197) (w' := w5198) z (x_make z z hr5199) ?_
 refine ws_next (pend' := [(0, r0_0)]) hst (by kernel_rfl) (pkr z z (fun w hst => z) pk_nil) ?_
 refine ws_e2 1 8 (by kernel_rfl) ?_ ?_
 {
 refine nxe [6, 7, 8, 9] (by kernel_rfl) z z ?_
 clear hst
 intro w hst
 refine wec call24 [r0_0] z z ?_
 refine (slices_Clone_uint64_uint64_ref (f0_0.mono (rd_weak _)) hst.to0 ht4781).mono ?_
 rintro _ w5201 ⟨v5204, rfl, hst⟩
 refine ⟨_, z, ?_⟩
 replace hst := hst.of1
 refine ws_next (pend' := []) hst (by kernel_rfl) pk_nil ?_
 refine wsr (.agg #[v5204, v5197, Zs, Zs, v5132, Zs]) 6 rfl rfl rfl (by kernel_rfl) (fun w hst => by obtain ⟨_, _, hv_, _⟩ := hst.sv2; rw [hv_]; obtain ⟨_, _, hv_, _⟩ := hst.sv1; rw [hv_]; obtain ⟨_, _, hv_, _⟩ := hst.sv0; rw [hv_]; kernel_rfl) ?_
 refine ws_e2 7 8 (by kernel_rfl) ?_ ?_
 {
 refine nxe [8, 9] (by kernel_rfl) z z ?_
 clear hst
 intro w hst
 obtain ⟨b5212, w5213, ew5214, eb5215, hst⟩ := hst.box [v5204, v5197, Zs, Zs, v5132, Zs] 72
 refine we_run (v := Pt b5212 0) (w' := w5213) z (x_al (by kernel_rfl) ew5214 eb5215) ?_
 refine ws_next (pend' := []) hst (by kernel_rfl) pk_nil ?_
 refine ws_e1 8 (by kernel_rfl) ?_
 refine nxe [9] (by kernel_rfl) z z ?_
 clear hst
 intro w hst
 obtain ⟨b5217, w5218, ew5219, eb5220, hst⟩ := hst.box [.pointer none] 59
 refine we_run (v := Pt b5217 0) (w' := w5218) z (x_al (by kernel_rfl) ew5219 eb5220) ?_
 refine ws_next (pend' := []) hst (by kernel_rfl) pk_nil ?_
 refine ws_e1 9 (by kernel_rfl) ?_
 refine nxe [] (by kernel_rfl) z z ?_
 clear hst
 intro w hst
 obtain ⟨w5222, hr5223, hst⟩ := hst.by_ [Pt b5212 0] 0 (Pt b5212 0) sizeOf59 z (oC z oN) (by kernel_rfl)
 refine we_unit z (x_unit hr5223) ?_
 refine ws_next (pend' := []) hst (by kernel_rfl) pk_nil ?_
 refine ws_nil ?_
 intro w hst
 refine ⟨z, ?_⟩
 replace hst := hst.own_nil (tySl (tyInt .i64))
 replace hst := hst.own_nil (tySl (tyInt .i64))
 replace hst := hst.own_nil (tyInt .i64)
 replace hst := hst.pull7.pull2.pull3.pull7.pull7.pull7
 replace hst := at_label_Lattice_close (pv := Pt b5212 0) (x := ({ up := t4780, down := (List.replicate (Int.toNat ((a0).length : Int)) (0:Int)), join := [], meet := [], rank := (List.replicate (Int.toNat ((a0).length : Int)) (0:Int)), all := [] } : label_Lattice)) hst z
 replace hst := hst.pull1.keep2
 obtain rfl := some_inj hm
 exact ⟨({ up := t4780, down := (List.replicate (Int.toNat ((a0).length : Int)) (0:Int)), join := [], meet := [], rank := (List.replicate (Int.toNat ((a0).length : Int)) (0:Int)), all := [] } : label_Lattice), b5217, (Pt b5212 0), _, hx5464, (fu 0 r0_0 z (fu 4 (.int .i64 ((a0).length : Int)) z (fu 5 (Pt b5217 0) z z))), hst⟩
}
 {
 refine nxe [7, 9] (by kernel_rfl) z z ?_
 clear hst
 intro w hst
 obtain ⟨b5224, w5225, ew5226, eb5227, hst⟩ := hst.box [.pointer none] 59
 refine we_run (v := Pt b5224 0) (w' := w5225) z (x_al (by kernel_rfl) ew5226 eb5227) ?_
 refine ws_next (pend' := [(6, .agg #[v5204, v5197, Zs, Zs, v5132, Zs])]) hst (by kernel_rfl) (pkr rfl rfl (fun w hst => by obtain ⟨_, _, hv_, _⟩ := hst.sv3; rw [hv_]; obtain ⟨_, _, hv_, _⟩ := hst.sv2; rw [hv_]; obtain ⟨_, _, hv_, _⟩ := hst.sv1; rw [hv_]; kernel_rfl) pk_nil) ?_
 refine ws_e1 7 (by kernel_rfl) ?_
 refine nxe [9] (by kernel_rfl) z z ?_
 clear hst
 intro w hst
 obtain ⟨b5229, w5230, ew5231, eb5232, hst⟩ := hst.box [v5204, v5197, Zs, Zs, v5132, Zs] 72
 refine we_run (v := Pt b5229 0) (w' := w5230) z (x_al (by kernel_rfl) ew5231 eb5232) ?_
 refine ws_next (pend' := []) hst (by kernel_rfl) pk_nil ?_
 refine ws_e1 9 (by kernel_rfl) ?_
 refine nxe [] (by kernel_rfl) z z ?_
 clear hst
 intro w hst
 replace hst := hst.pull1
 obtain ⟨w5234, hr5235, hst⟩ := hst.by_ [Pt b5229 0] 0 (Pt b5229 0) sizeOf59 z (oC z oN) (by kernel_rfl)
 refine we_unit z (x_unit hr5235) ?_
 refine ws_next (pend' := []) hst (by kernel_rfl) pk_nil ?_
 refine ws_nil ?_
 intro w hst
 refine ⟨z, ?_⟩
 replace hst := hst.own_nil (tySl (tyInt .i64))
 replace hst := hst.own_nil (tySl (tyInt .i64))
 replace hst := hst.own_nil (tyInt .i64)
 replace hst := hst.pull7.pull2.pull3.pull7.pull7.pull7
 replace hst := at_label_Lattice_close (pv := Pt b5229 0) (x := ({ up := t4780, down := (List.replicate (Int.toNat ((a0).length : Int)) (0:Int)), join := [], meet := [], rank := (List.replicate (Int.toNat ((a0).length : Int)) (0:Int)), all := [] } : label_Lattice)) hst z
 replace hst := hst.pull1.keep2
 obtain rfl := some_inj hm
 exact ⟨({ up := t4780, down := (List.replicate (Int.toNat ((a0).length : Int)) (0:Int)), join := [], meet := [], rank := (List.replicate (Int.toNat ((a0).length : Int)) (0:Int)), all := [] } : label_Lattice), b5224, (Pt b5229 0), _, hx5464, (fu 0 r0_0 z (fu 4 (.int .i64 ((a0).length : Int)) z (fu 5 (Pt b5224 0) z z))), hst⟩
}
}
 {
 refine nxe [1, 6, 7, 9] (by kernel_rfl) z z ?_
 clear hst
 intro w hst
 obtain ⟨b5236, w5237, ew5238, eb5239, hst⟩ := hst.box [.pointer none] 59
 refine we_run (v := Pt b5236 0) (w' := w5237) z (x_al (by kernel_rfl) ew5238 eb5239) ?_
 refine ws_next (pend' := [(0, r0_0)]) hst (by kernel_rfl) (pkr z z (fun w hst => z) pk_nil) ?_
 refine ws_e1 1 (by kernel_rfl) ?_
 refine nxe [6, 7, 9] (by kernel_rfl) z z ?_
 clear hst
 intro w hst
 refine wec call24 [r0_0] z z ?_
 refine (slices_Clone_uint64_uint64_ref (f0_0.mono (rd_weak _)) hst.to0 ht4781).mono ?_
 rintro _ w5241 ⟨v5244, rfl, hst⟩
 refine ⟨_, z, ?_⟩
 replace hst := hst.of1
 refine ws_next (pend' := []) hst (by kernel_rfl) pk_nil ?_
 refine wsr (.agg #[v5244, v5197, Zs, Zs, v5132, Zs]) 6 rfl rfl rfl (by kernel_rfl) (fun w hst => by obtain ⟨_, _, hv_, _⟩ := hst.sv3; rw [hv_]; obtain ⟨_, _, hv_, _⟩ := hst.sv2; rw [hv_]; obtain ⟨_, _, hv_, _⟩ := hst.sv0; rw [hv_]; kernel_rfl) ?_
 refine ws_e1 7 (by kernel_rfl) ?_
 refine nxe [9] (by kernel_rfl) z z ?_
 clear hst
 intro w hst
 obtain ⟨b5252, w5253, ew5254, eb5255, hst⟩ := hst.box [v5244, v5197, Zs, Zs, v5132, Zs] 72
 refine we_run (v := Pt b5252 0) (w' := w5253) z (x_al (by kernel_rfl) ew5254 eb5255) ?_
 refine ws_next (pend' := []) hst (by kernel_rfl) pk_nil ?_
 refine ws_e1 9 (by kernel_rfl) ?_
 refine nxe [] (by kernel_rfl) z z ?_
 clear hst
 intro w hst
 replace hst := hst.pull2
 obtain ⟨w5257, hr5258, hst⟩ := hst.by_ [Pt b5252 0] 0 (Pt b5252 0) sizeOf59 z (oC z oN) (by kernel_rfl)
 refine we_unit z (x_unit hr5258) ?_
 refine ws_next (pend' := []) hst (by kernel_rfl) pk_nil ?_
 refine ws_nil ?_
 intro w hst
 refine ⟨z, ?_⟩
 replace hst := hst.own_nil (tySl (tyInt .i64))
 replace hst := hst.own_nil (tySl (tyInt .i64))
 replace hst := hst.own_nil (tyInt .i64)
 replace hst := hst.pull7.pull2.pull3.pull7.pull7.pull7
 replace hst := at_label_Lattice_close (pv := Pt b5252 0) (x := ({ up := t4780, down := (List.replicate (Int.toNat ((a0).length : Int)) (0:Int)), join := [], meet := [], rank := (List.replicate (Int.toNat ((a0).length : Int)) (0:Int)), all := [] } : label_Lattice)) hst z
 replace hst := hst.pull1.keep2
 obtain rfl := some_inj hm
 exact ⟨({ up := t4780, down := (List.replicate (Int.toNat ((a0).length : Int)) (0:Int)), join := [], meet := [], rank := (List.replicate (Int.toNat ((a0).length : Int)) (0:Int)), all := [] } : label_Lattice), b5236, (Pt b5252 0), _, hx5464, (fu 0 r0_0 z (fu 4 (.int .i64 ((a0).length : Int)) z (fu 5 (Pt b5236 0) z z))), hst⟩
}
}
 {
 refine nxe [1, 3, 6, 7, 9] (by kernel_rfl) z z ?_
 clear hst
 intro w hst
 obtain ⟨b5259, w5260, ew5261, eb5262, hst⟩ := hst.box [.pointer none] 59
 refine we_run (v := Pt b5259 0) (w' := w5260) z (x_al (by kernel_rfl) ew5261 eb5262) ?_
 refine ws_next (pend' := [(2, I6 ((a0).length : Int)), (0, r0_0)]) hst (by kernel_rfl) (pkr z z (fun w hst => z) (pkr z z (fun w hst => z) pk_nil)) ?_
 refine ws_e2 1 3 (by kernel_rfl) ?_ ?_
 {
 refine nxe [3, 6, 7, 9] (by kernel_rfl) z z ?_
 clear hst
 intro w hst
 refine wec call24 [r0_0] z z ?_
 refine (slices_Clone_uint64_uint64_ref (f0_0.mono (rd_weak _)) hst.to0 ht4781).mono ?_
 rintro _ w5264 ⟨v5267, rfl, hst⟩
 refine ⟨_, z, ?_⟩
 replace hst := hst.of1
 refine ws_next (pend' := [(2, I6 ((a0).length : Int))]) hst (by kernel_rfl) (pkr z z (fun w hst => z) pk_nil) ?_
 refine ws_e1 3 (by kernel_rfl) ?_
 refine nxe [6, 7, 9] (by kernel_rfl) z z ?_
 clear hst
 intro w hst
 obtain ⟨v5269, w5270, hr5271, hst⟩ := run_mk (k := .i64) (k' := .i64) (zm := (0:Int)) elem_40 hst hg4782 (by decide) z
 refine we_run (v := v5269) (w' := w5270) z (x_make z z hr5271) ?_
 refine ws_next (pend' := []) hst (by kernel_rfl) pk_nil ?_
 refine wsr (.agg #[v5267, v5269, Zs, Zs, v5132, Zs]) 6 rfl rfl rfl (by kernel_rfl) (fun w hst => by obtain ⟨_, _, hv_, _⟩ := hst.sv3; rw [hv_]; obtain ⟨_, _, hv_, _⟩ := hst.sv0; rw [hv_]; obtain ⟨_, _, hv_, _⟩ := hst.sv1; rw [hv_]; kernel_rfl) ?_
 refine ws_e1 7 (by kernel_rfl) ?_
 refine nxe [9] (by kernel_rfl) z z ?_
 clear hst
 intro w hst
 obtain ⟨b5279, w5280, ew5281, eb5282, hst⟩ := hst.box [v5267, v5269, Zs, Zs, v5132, Zs] 72
 refine we_run (v := Pt b5279 0) (w' := w5280) z (x_al (by kernel_rfl) ew5281 eb5282) ?_
 refine ws_next (pend' := []) hst (by kernel_rfl) pk_nil ?_
 refine ws_e1 9 (by kernel_rfl) ?_
 refine nxe [] (by kernel_rfl) z z ?_
 clear hst
 intro w hst
 replace hst := hst.pull3
 obtain ⟨w5284, hr5285, hst⟩ := hst.by_ [Pt b5279 0] 0 (Pt b5279 0) sizeOf59 z (oC z oN) (by kernel_rfl)
 refine we_unit z (x_unit hr5285) ?_
 refine ws_next (pend' := []) hst (by kernel_rfl) pk_nil ?_
 refine ws_nil ?_
 intro w hst
 refine ⟨z, ?_⟩
 replace hst := hst.own_nil (tySl (tyInt .i64))
 replace hst := hst.own_nil (tySl (tyInt .i64))
 replace hst := hst.own_nil (tyInt .i64)
 replace hst := hst.pull7.pull2.pull3.pull6.pull7.pull7
 replace hst := at_label_Lattice_close (pv := Pt b5279 0) (x := ({ up := t4780, down := (List.replicate (Int.toNat ((a0).length : Int)) (0:Int)), join := [], meet := [], rank := (List.replicate (Int.toNat ((a0).length : Int)) (0:Int)), all := [] } : label_Lattice)) hst z
 replace hst := hst.pull1.keep2
 obtain rfl := some_inj hm
 exact ⟨({ up := t4780, down := (List.replicate (Int.toNat ((a0).length : Int)) (0:Int)), join := [], meet := [], rank := (List.replicate (Int.toNat ((a0).length : Int)) (0:Int)), all := [] } : label_Lattice), b5259, (Pt b5279 0), _, hx5464, (fu 0 r0_0 z (fu 4 (.int .i64 ((a0).length : Int)) z (fu 5 (Pt b5259 0) z z))), hst⟩
}
 {
 refine nxe [1, 6, 7, 9] (by kernel_rfl) z z ?_
 clear hst
 intro w hst
 obtain ⟨v5286, w5287, hr5288, hst⟩ := run_mk (k := .i64) (k' := .i64) (zm := (0:Int)) elem_40 hst hg4782 (by decide) z
 refine we_run (v := v5286) (w' := w5287) z (x_make z z hr5288) ?_
 refine ws_next (pend' := [(0, r0_0)]) hst (by kernel_rfl) (pkr z z (fun w hst => z) pk_nil) ?_
 refine ws_e1 1 (by kernel_rfl) ?_
 refine nxe [6, 7, 9] (by kernel_rfl) z z ?_
 clear hst
 intro w hst
 refine wec call24 [r0_0] z z ?_
 refine (slices_Clone_uint64_uint64_ref (f0_0.mono (rd_weak _)) hst.to0 ht4781).mono ?_
 rintro _ w5290 ⟨v5293, rfl, hst⟩
 refine ⟨_, z, ?_⟩
 replace hst := hst.of1
 refine ws_next (pend' := []) hst (by kernel_rfl) pk_nil ?_
 refine wsr (.agg #[v5293, v5286, Zs, Zs, v5132, Zs]) 6 rfl rfl rfl (by kernel_rfl) (fun w hst => by obtain ⟨_, _, hv_, _⟩ := hst.sv3; rw [hv_]; obtain ⟨_, _, hv_, _⟩ := hst.sv1; rw [hv_]; obtain ⟨_, _, hv_, _⟩ := hst.sv0; rw [hv_]; kernel_rfl) ?_
 refine ws_e1 7 (by kernel_rfl) ?_
 refine nxe [9] (by kernel_rfl) z z ?_
 clear hst
 intro w hst
 obtain ⟨b5301, w5302, ew5303, eb5304, hst⟩ := hst.box [v5293, v5286, Zs, Zs, v5132, Zs] 72
 refine we_run (v := Pt b5301 0) (w' := w5302) z (x_al (by kernel_rfl) ew5303 eb5304) ?_
 refine ws_next (pend' := []) hst (by kernel_rfl) pk_nil ?_
 refine ws_e1 9 (by kernel_rfl) ?_
 refine nxe [] (by kernel_rfl) z z ?_
 clear hst
 intro w hst
 replace hst := hst.pull3
 obtain ⟨w5306, hr5307, hst⟩ := hst.by_ [Pt b5301 0] 0 (Pt b5301 0) sizeOf59 z (oC z oN) (by kernel_rfl)
 refine we_unit z (x_unit hr5307) ?_
 refine ws_next (pend' := []) hst (by kernel_rfl) pk_nil ?_
 refine ws_nil ?_
 intro w hst
 refine ⟨z, ?_⟩
 replace hst := hst.own_nil (tySl (tyInt .i64))
 replace hst := hst.own_nil (tySl (tyInt .i64))
 replace hst := hst.own_nil (tyInt .i64)
 replace hst := hst.pull7.pull2.pull3.pull7.pull7.pull7
 replace hst := at_label_Lattice_close (pv := Pt b5301 0) (x := ({ up := t4780, down := (List.replicate (Int.toNat ((a0).length : Int)) (0:Int)), join := [], meet := [], rank := (List.replicate (Int.toNat ((a0).length : Int)) (0:Int)), all := [] } : label_Lattice)) hst z
 replace hst := hst.pull1.keep2
 obtain rfl := some_inj hm
 exact ⟨({ up := t4780, down := (List.replicate (Int.toNat ((a0).length : Int)) (0:Int)), join := [], meet := [], rank := (List.replicate (Int.toNat ((a0).length : Int)) (0:Int)), all := [] } : label_Lattice), b5259, (Pt b5301 0), _, hx5464, (fu 0 r0_0 z (fu 4 (.int .i64 ((a0).length : Int)) z (fu 5 (Pt b5259 0) z z))), hst⟩
}
}
}
 {
 refine nxe [1, 3, 5, 6, 7, 9] (by kernel_rfl) z z ?_
 clear hst
 intro w hst
 obtain ⟨b5308, w5309, ew5310, eb5311, hst⟩ := hst.box [.pointer none] 59
 refine we_run (v := Pt b5308 0) (w' := w5309) z (x_al (by kernel_rfl) ew5310 eb5311) ?_
 refine ws_next (pend' := [(4, I6 ((a0).length : Int)), (2, I6 ((a0).length : Int)), (0, r0_0)]) hst (by kernel_rfl) (pkr z z (fun w hst => z) (pkr z z (fun w hst => z) (pkr z z (fun w hst => z) pk_nil))) ?_
 refine ws_e3 1 3 5 (by kernel_rfl) ?_ ?_ ?_
 {
 refine nxe [3, 5, 6, 7, 9] (by kernel_rfl) z z ?_
 clear hst
 intro w hst
 refine wec call24 [r0_0] z z ?_
 refine (slices_Clone_uint64_uint64_ref (f0_0.mono (rd_weak _)) hst.to0 ht4781).mono ?_
 rintro _ w5313 ⟨v5316, rfl, hst⟩
 refine ⟨_, z, ?_⟩
 replace hst := hst.of1
 refine ws_next (pend' := [(4, I6 ((a0).length : Int)), (2, I6 ((a0).length : Int))]) hst (by kernel_rfl) (pkr z z (fun w hst => z) (pkr z z (fun w hst => z) pk_nil)) ?_
 refine ws_e2 3 5 (by kernel_rfl) ?_ ?_
 {
 refine nxe [5, 6, 7, 9] (by kernel_rfl) z z ?_
 clear hst
 intro w hst
 obtain ⟨v5318, w5319, hr5320, hst⟩ := run_mk (k := .i64) (k' := .i64) (zm := (0:Int)) elem_40 hst hg4782 (by decide) z
 refine we_run (v := v5318) (w' := w5319) z (x_make z z hr5320) ?_
 refine ws_next (pend' := [(4, I6 ((a0).length : Int))]) hst (by kernel_rfl) (pkr z z (fun w hst => z) pk_nil) ?_
 refine ws_e1 5 (by kernel_rfl) ?_
 refine nxe [6, 7, 9] (by kernel_rfl) z z ?_
 clear hst
 intro w hst
 obtain ⟨v5322, w5323, hr5324, hst⟩ := run_mk (k := .i64) (k' := .i64) (zm := (0:Int)) elem_69 hst hg4783 (by decide) z
 refine we_run (v := v5322) (w' := w5323) z (x_make z z hr5324) ?_
 refine ws_next (pend' := []) hst (by kernel_rfl) pk_nil ?_
 refine wsr (.agg #[v5316, v5318, Zs, Zs, v5322, Zs]) 6 rfl rfl rfl (by kernel_rfl) (fun w hst => by obtain ⟨_, _, hv_, _⟩ := hst.sv0; rw [hv_]; obtain ⟨_, _, hv_, _⟩ := hst.sv1; rw [hv_]; obtain ⟨_, _, hv_, _⟩ := hst.sv2; rw [hv_]; kernel_rfl) ?_
 refine ws_e1 7 (by kernel_rfl) ?_
 refine nxe [9] (by kernel_rfl) z z ?_
 clear hst
 intro w hst
 obtain ⟨b5332, w5333, ew5334, eb5335, hst⟩ := hst.box [v5316, v5318, Zs, Zs, v5322, Zs] 72
 refine we_run (v := Pt b5332 0) (w' := w5333) z (x_al (by kernel_rfl) ew5334 eb5335) ?_
 refine ws_next (pend' := []) hst (by kernel_rfl) pk_nil ?_
 refine ws_e1 9 (by kernel_rfl) ?_
 refine nxe [] (by kernel_rfl) z z ?_
 clear hst
 intro w hst
 replace hst := hst.pull4
 obtain ⟨w5337, hr5338, hst⟩ := hst.by_ [Pt b5332 0] 0 (Pt b5332 0) sizeOf59 z (oC z oN) (by kernel_rfl)
 refine we_unit z (x_unit hr5338) ?_
 refine ws_next (pend' := []) hst (by kernel_rfl) pk_nil ?_
 refine ws_nil ?_
 intro w hst
 refine ⟨z, ?_⟩
 replace hst := hst.own_nil (tySl (tyInt .i64))
 replace hst := hst.own_nil (tySl (tyInt .i64))
 replace hst := hst.own_nil (tyInt .i64)
 replace hst := hst.pull5.pull2.pull3.pull6.pull7.pull7
 replace hst := at_label_Lattice_close (pv := Pt b5332 0) (x := ({ up := t4780, down := (List.replicate (Int.toNat ((a0).length : Int)) (0:Int)), join := [], meet := [], rank := (List.replicate (Int.toNat ((a0).length : Int)) (0:Int)), all := [] } : label_Lattice)) hst z
 replace hst := hst.pull1.keep2
 obtain rfl := some_inj hm
 exact ⟨({ up := t4780, down := (List.replicate (Int.toNat ((a0).length : Int)) (0:Int)), join := [], meet := [], rank := (List.replicate (Int.toNat ((a0).length : Int)) (0:Int)), all := [] } : label_Lattice), b5308, (Pt b5332 0), _, hx5464, (fu 0 r0_0 z (fu 4 (.int .i64 ((a0).length : Int)) z (fu 5 (Pt b5308 0) z z))), hst⟩
}
 {
 refine nxe [3, 6, 7, 9] (by kernel_rfl) z z ?_
 clear hst
 intro w hst
 obtain ⟨v5339, w5340, hr5341, hst⟩ := run_mk (k := .i64) (k' := .i64) (zm := (0:Int)) elem_69 hst hg4783 (by decide) z
 refine we_run (v := v5339) (w' := w5340) z (x_make z z hr5341) ?_
 refine ws_next (pend' := [(2, I6 ((a0).length : Int))]) hst (by kernel_rfl) (pkr z z (fun w hst => z) pk_nil) ?_
 refine ws_e1 3 (by kernel_rfl) ?_
 refine nxe [6, 7, 9] (by kernel_rfl) z z ?_
 clear hst
 intro w hst
 obtain ⟨v5343, w5344, hr5345, hst⟩ := run_mk (k := .i64) (k' := .i64) (zm := (0:Int)) elem_40 hst hg4782 (by decide) z
 refine we_run (v := v5343) (w' := w5344) z (x_make z z hr5345) ?_
 refine ws_next (pend' := []) hst (by kernel_rfl) pk_nil ?_
 refine wsr (.agg #[v5316, v5343, Zs, Zs, v5339, Zs]) 6 rfl rfl rfl (by kernel_rfl) (fun w hst => by obtain ⟨_, _, hv_, _⟩ := hst.sv1; rw [hv_]; obtain ⟨_, _, hv_, _⟩ := hst.sv0; rw [hv_]; obtain ⟨_, _, hv_, _⟩ := hst.sv2; rw [hv_]; kernel_rfl) ?_
 refine ws_e1 7 (by kernel_rfl) ?_
 refine nxe [9] (by kernel_rfl) z z ?_
 clear hst
 intro w hst
 obtain ⟨b5353, w5354, ew5355, eb5356, hst⟩ := hst.box [v5316, v5343, Zs, Zs, v5339, Zs] 72
 refine we_run (v := Pt b5353 0) (w' := w5354) z (x_al (by kernel_rfl) ew5355 eb5356) ?_
 refine ws_next (pend' := []) hst (by kernel_rfl) pk_nil ?_
 refine ws_e1 9 (by kernel_rfl) ?_
 refine nxe [] (by kernel_rfl) z z ?_
 clear hst
 intro w hst
 replace hst := hst.pull4
 obtain ⟨w5358, hr5359, hst⟩ := hst.by_ [Pt b5353 0] 0 (Pt b5353 0) sizeOf59 z (oC z oN) (by kernel_rfl)
 refine we_unit z (x_unit hr5359) ?_
 refine ws_next (pend' := []) hst (by kernel_rfl) pk_nil ?_
 refine ws_nil ?_
 intro w hst
 refine ⟨z, ?_⟩
 replace hst := hst.own_nil (tySl (tyInt .i64))
 replace hst := hst.own_nil (tySl (tyInt .i64))
 replace hst := hst.own_nil (tyInt .i64)
 replace hst := hst.pull6.pull2.pull3.pull6.pull7.pull7
 replace hst := at_label_Lattice_close (pv := Pt b5353 0) (x := ({ up := t4780, down := (List.replicate (Int.toNat ((a0).length : Int)) (0:Int)), join := [], meet := [], rank := (List.replicate (Int.toNat ((a0).length : Int)) (0:Int)), all := [] } : label_Lattice)) hst z
 replace hst := hst.pull1.keep2
 obtain rfl := some_inj hm
 exact ⟨({ up := t4780, down := (List.replicate (Int.toNat ((a0).length : Int)) (0:Int)), join := [], meet := [], rank := (List.replicate (Int.toNat ((a0).length : Int)) (0:Int)), all := [] } : label_Lattice), b5308, (Pt b5353 0), _, hx5464, (fu 0 r0_0 z (fu 4 (.int .i64 ((a0).length : Int)) z (fu 5 (Pt b5308 0) z z))), hst⟩
}
}
 {
 refine nxe [1, 5, 6, 7, 9] (by kernel_rfl) z z ?_
 clear hst
 intro w hst
 obtain ⟨v5360, w5361, hr5362, hst⟩ := run_mk (k := .i64) (k' := .i64) (zm := (0:Int)) elem_40 hst hg4782 (by decide) z
 refine we_run (v := v5360) (w' := w5361) z (x_make z z hr5362) ?_
 refine ws_next (pend' := [(4, I6 ((a0).length : Int)), (0, r0_0)]) hst (by kernel_rfl) (pkr z z (fun w hst => z) (pkr z z (fun w hst => z) pk_nil)) ?_
 refine ws_e2 1 5 (by kernel_rfl) ?_ ?_
 {
 refine nxe [5, 6, 7, 9] (by kernel_rfl) z z ?_
 clear hst
 intro w hst
 refine wec call24 [r0_0] z z ?_
 refine (slices_Clone_uint64_uint64_ref (f0_0.mono (rd_weak _)) hst.to0 ht4781).mono ?_
 rintro _ w5364 ⟨v5367, rfl, hst⟩
 refine ⟨_, z, ?_⟩
 replace hst := hst.of1
 refine ws_next (pend' := [(4, I6 ((a0).length : Int))]) hst (by kernel_rfl) (pkr z z (fun w hst => z) pk_nil) ?_
 refine ws_e1 5 (by kernel_rfl) ?_
 refine nxe [6, 7, 9] (by kernel_rfl) z z ?_
 clear hst
 intro w hst
 obtain ⟨v5369, w5370, hr5371, hst⟩ := run_mk (k := .i64) (k' := .i64) (zm := (0:Int)) elem_69 hst hg4783 (by decide) z
 refine we_run (v := v5369) (w' := w5370) z (x_make z z hr5371) ?_
 refine ws_next (pend' := []) hst (by kernel_rfl) pk_nil ?_
 refine wsr (.agg #[v5367, v5360, Zs, Zs, v5369, Zs]) 6 rfl rfl rfl (by kernel_rfl) (fun w hst => by obtain ⟨_, _, hv_, _⟩ := hst.sv0; rw [hv_]; obtain ⟨_, _, hv_, _⟩ := hst.sv2; rw [hv_]; obtain ⟨_, _, hv_, _⟩ := hst.sv1; rw [hv_]; kernel_rfl) ?_
 refine ws_e1 7 (by kernel_rfl) ?_
 refine nxe [9] (by kernel_rfl) z z ?_
 clear hst
 intro w hst
 obtain ⟨b5379, w5380, ew5381, eb5382, hst⟩ := hst.box [v5367, v5360, Zs, Zs, v5369, Zs] 72
 refine we_run (v := Pt b5379 0) (w' := w5380) z (x_al (by kernel_rfl) ew5381 eb5382) ?_
 refine ws_next (pend' := []) hst (by kernel_rfl) pk_nil ?_
 refine ws_e1 9 (by kernel_rfl) ?_
 refine nxe [] (by kernel_rfl) z z ?_
 clear hst
 intro w hst
 replace hst := hst.pull4
 obtain ⟨w5384, hr5385, hst⟩ := hst.by_ [Pt b5379 0] 0 (Pt b5379 0) sizeOf59 z (oC z oN) (by kernel_rfl)
 refine we_unit z (x_unit hr5385) ?_
 refine ws_next (pend' := []) hst (by kernel_rfl) pk_nil ?_
 refine ws_nil ?_
 intro w hst
 refine ⟨z, ?_⟩
 replace hst := hst.own_nil (tySl (tyInt .i64))
 replace hst := hst.own_nil (tySl (tyInt .i64))
 replace hst := hst.own_nil (tyInt .i64)
 replace hst := hst.pull5.pull2.pull3.pull7.pull7.pull7
 replace hst := at_label_Lattice_close (pv := Pt b5379 0) (x := ({ up := t4780, down := (List.replicate (Int.toNat ((a0).length : Int)) (0:Int)), join := [], meet := [], rank := (List.replicate (Int.toNat ((a0).length : Int)) (0:Int)), all := [] } : label_Lattice)) hst z
 replace hst := hst.pull1.keep2
 obtain rfl := some_inj hm
 exact ⟨({ up := t4780, down := (List.replicate (Int.toNat ((a0).length : Int)) (0:Int)), join := [], meet := [], rank := (List.replicate (Int.toNat ((a0).length : Int)) (0:Int)), all := [] } : label_Lattice), b5308, (Pt b5379 0), _, hx5464, (fu 0 r0_0 z (fu 4 (.int .i64 ((a0).length : Int)) z (fu 5 (Pt b5308 0) z z))), hst⟩
}
 {
 refine nxe [1, 6, 7, 9] (by kernel_rfl) z z ?_
 clear hst
 intro w hst
 obtain ⟨v5386, w5387, hr5388, hst⟩ := run_mk (k := .i64) (k' := .i64) (zm := (0:Int)) elem_69 hst hg4783 (by decide) z
 refine we_run (v := v5386) (w' := w5387) z (x_make z z hr5388) ?_
 refine ws_next (pend' := [(0, r0_0)]) hst (by kernel_rfl) (pkr z z (fun w hst => z) pk_nil) ?_
 refine ws_e1 1 (by kernel_rfl) ?_
 refine nxe [6, 7, 9] (by kernel_rfl) z z ?_
 clear hst
 intro w hst
 refine wec call24 [r0_0] z z ?_
 refine (slices_Clone_uint64_uint64_ref (f0_0.mono (rd_weak _)) hst.to0 ht4781).mono ?_
 rintro _ w5390 ⟨v5393, rfl, hst⟩
 refine ⟨_, z, ?_⟩
 replace hst := hst.of1
 refine ws_next (pend' := []) hst (by kernel_rfl) pk_nil ?_
 refine wsr (.agg #[v5393, v5360, Zs, Zs, v5386, Zs]) 6 rfl rfl rfl (by kernel_rfl) (fun w hst => by obtain ⟨_, _, hv_, _⟩ := hst.sv1; rw [hv_]; obtain ⟨_, _, hv_, _⟩ := hst.sv2; rw [hv_]; obtain ⟨_, _, hv_, _⟩ := hst.sv0; rw [hv_]; kernel_rfl) ?_
 refine ws_e1 7 (by kernel_rfl) ?_
 refine nxe [9] (by kernel_rfl) z z ?_
 clear hst
 intro w hst
 obtain ⟨b5401, w5402, ew5403, eb5404, hst⟩ := hst.box [v5393, v5360, Zs, Zs, v5386, Zs] 72
 refine we_run (v := Pt b5401 0) (w' := w5402) z (x_al (by kernel_rfl) ew5403 eb5404) ?_
 refine ws_next (pend' := []) hst (by kernel_rfl) pk_nil ?_
 refine ws_e1 9 (by kernel_rfl) ?_
 refine nxe [] (by kernel_rfl) z z ?_
 clear hst
 intro w hst
 replace hst := hst.pull4
 obtain ⟨w5406, hr5407, hst⟩ := hst.by_ [Pt b5401 0] 0 (Pt b5401 0) sizeOf59 z (oC z oN) (by kernel_rfl)
 refine we_unit z (x_unit hr5407) ?_
 refine ws_next (pend' := []) hst (by kernel_rfl) pk_nil ?_
 refine ws_nil ?_
 intro w hst
 refine ⟨z, ?_⟩
 replace hst := hst.own_nil (tySl (tyInt .i64))
 replace hst := hst.own_nil (tySl (tyInt .i64))
 replace hst := hst.own_nil (tyInt .i64)
 replace hst := hst.pull6.pull2.pull3.pull7.pull7.pull7
 replace hst := at_label_Lattice_close (pv := Pt b5401 0) (x := ({ up := t4780, down := (List.replicate (Int.toNat ((a0).length : Int)) (0:Int)), join := [], meet := [], rank := (List.replicate (Int.toNat ((a0).length : Int)) (0:Int)), all := [] } : label_Lattice)) hst z
 replace hst := hst.pull1.keep2
 obtain rfl := some_inj hm
 exact ⟨({ up := t4780, down := (List.replicate (Int.toNat ((a0).length : Int)) (0:Int)), join := [], meet := [], rank := (List.replicate (Int.toNat ((a0).length : Int)) (0:Int)), all := [] } : label_Lattice), b5308, (Pt b5401 0), _, hx5464, (fu 0 r0_0 z (fu 4 (.int .i64 ((a0).length : Int)) z (fu 5 (Pt b5308 0) z z))), hst⟩
}
}
 {
 refine nxe [1, 3, 6, 7, 9] (by kernel_rfl) z z ?_
 clear hst
 intro w hst
 obtain ⟨v5408, w5409, hr5410, hst⟩ := run_mk (k := .i64) (k' := .i64) (zm := (0:Int)) elem_69 hst hg4783 (by decide) z
 refine we_run (v := v5408) (w' := w5409) z (x_make z z hr5410) ?_
 refine ws_next (pend' := [(2, I6 ((a0).length : Int)), (0, r0_0)]) hst (by kernel_rfl) (pkr z z (fun w hst => z) (pkr z z (fun w hst => z) pk_nil)) ?_
 refine ws_e2 1 3 (by kernel_rfl) ?_ ?_
 {
 refine nxe [3, 6, 7, 9] (by kernel_rfl) z z ?_
 clear hst
 intro w hst
 refine wec call24 [r0_0] z z ?_
 refine (slices_Clone_uint64_uint64_ref (f0_0.mono (rd_weak _)) hst.to0 ht4781).mono ?_
 rintro _ w5412 ⟨v5415, rfl, hst⟩
 refine ⟨_, z, ?_⟩
 replace hst := hst.of1
 refine ws_next (pend' := [(2, I6 ((a0).length : Int))]) hst (by kernel_rfl) (pkr z z (fun w hst => z) pk_nil) ?_
 refine ws_e1 3 (by kernel_rfl) ?_
 refine nxe [6, 7, 9] (by kernel_rfl) z z ?_
 clear hst
 intro w hst
 obtain ⟨v5417, w5418, hr5419, hst⟩ := run_mk (k := .i64) (k' := .i64) (zm := (0:Int)) elem_40 hst hg4782 (by decide) z
 refine we_run (v := v5417) (w' := w5418) z (x_make z z hr5419) ?_
 refine ws_next (pend' := []) hst (by kernel_rfl) pk_nil ?_
 refine wsr (.agg #[v5415, v5417, Zs, Zs, v5408, Zs]) 6 rfl rfl rfl (by kernel_rfl) (fun w hst => by obtain ⟨_, _, hv_, _⟩ := hst.sv2; rw [hv_]; obtain ⟨_, _, hv_, _⟩ := hst.sv0; rw [hv_]; obtain ⟨_, _, hv_, _⟩ := hst.sv1; rw [hv_]; kernel_rfl) ?_
 refine ws_e1 7 (by kernel_rfl) ?_
 refine nxe [9] (by kernel_rfl) z z ?_
 clear hst
 intro w hst
 obtain ⟨b5427, w5428, ew5429, eb5430, hst⟩ := hst.box [v5415, v5417, Zs, Zs, v5408, Zs] 72
 refine we_run (v := Pt b5427 0) (w' := w5428) z (x_al (by kernel_rfl) ew5429 eb5430) ?_
 refine ws_next (pend' := []) hst (by kernel_rfl) pk_nil ?_
 refine ws_e1 9 (by kernel_rfl) ?_
 refine nxe [] (by kernel_rfl) z z ?_
 clear hst
 intro w hst
 replace hst := hst.pull4
 obtain ⟨w5432, hr5433, hst⟩ := hst.by_ [Pt b5427 0] 0 (Pt b5427 0) sizeOf59 z (oC z oN) (by kernel_rfl)
 refine we_unit z (x_unit hr5433) ?_
 refine ws_next (pend' := []) hst (by kernel_rfl) pk_nil ?_
 refine ws_nil ?_
 intro w hst
 refine ⟨z, ?_⟩
 replace hst := hst.own_nil (tySl (tyInt .i64))
 replace hst := hst.own_nil (tySl (tyInt .i64))
 replace hst := hst.own_nil (tyInt .i64)
 replace hst := hst.pull7.pull2.pull3.pull6.pull7.pull7
 replace hst := at_label_Lattice_close (pv := Pt b5427 0) (x := ({ up := t4780, down := (List.replicate (Int.toNat ((a0).length : Int)) (0:Int)), join := [], meet := [], rank := (List.replicate (Int.toNat ((a0).length : Int)) (0:Int)), all := [] } : label_Lattice)) hst z
 replace hst := hst.pull1.keep2
 obtain rfl := some_inj hm
 exact ⟨({ up := t4780, down := (List.replicate (Int.toNat ((a0).length : Int)) (0:Int)), join := [], meet := [], rank := (List.replicate (Int.toNat ((a0).length : Int)) (0:Int)), all := [] } : label_Lattice), b5308, (Pt b5427 0), _, hx5464, (fu 0 r0_0 z (fu 4 (.int .i64 ((a0).length : Int)) z (fu 5 (Pt b5308 0) z z))), hst⟩
}
 {
 refine nxe [1, 6, 7, 9] (by kernel_rfl) z z ?_
 clear hst
 intro w hst
 obtain ⟨v5434, w5435, hr5436, hst⟩ := run_mk (k := .i64) (k' := .i64) (zm := (0:Int)) elem_40 hst hg4782 (by decide) z
 refine we_run (v := v5434) (w' := w5435) z (x_make z z hr5436) ?_
 refine ws_next (pend' := [(0, r0_0)]) hst (by kernel_rfl) (pkr z z (fun w hst => z) pk_nil) ?_
 refine ws_e1 1 (by kernel_rfl) ?_
 refine nxe [6, 7, 9] (by kernel_rfl) z z ?_
 clear hst
 intro w hst
 refine wec call24 [r0_0] z z ?_
 refine (slices_Clone_uint64_uint64_ref (f0_0.mono (rd_weak _)) hst.to0 ht4781).mono ?_
 rintro _ w5438 ⟨v5441, rfl, hst⟩
 refine ⟨_, z, ?_⟩
 replace hst := hst.of1
 refine ws_next (pend' := []) hst (by kernel_rfl) pk_nil ?_
 refine wsr (.agg #[v5441, v5434, Zs, Zs, v5408, Zs]) 6 rfl rfl rfl (by kernel_rfl) (fun w hst => by obtain ⟨_, _, hv_, _⟩ := hst.sv2; rw [hv_]; obtain ⟨_, _, hv_, _⟩ := hst.sv1; rw [hv_]; obtain ⟨_, _, hv_, _⟩ := hst.sv0; rw [hv_]; kernel_rfl) ?_
 refine ws_e1 7 (by kernel_rfl) ?_
 refine nxe [9] (by kernel_rfl) z z ?_
 clear hst
 intro w hst
 obtain ⟨b5449, w5450, ew5451, eb5452, hst⟩ := hst.box [v5441, v5434, Zs, Zs, v5408, Zs] 72
 refine we_run (v := Pt b5449 0) (w' := w5450) z (x_al (by kernel_rfl) ew5451 eb5452) ?_
 refine ws_next (pend' := []) hst (by kernel_rfl) pk_nil ?_
 refine ws_e1 9 (by kernel_rfl) ?_
 refine nxe [] (by kernel_rfl) z z ?_
 clear hst
 intro w hst
 replace hst := hst.pull4
 obtain ⟨w5454, hr5455, hst⟩ := hst.by_ [Pt b5449 0] 0 (Pt b5449 0) sizeOf59 z (oC z oN) (by kernel_rfl)
 refine we_unit z (x_unit hr5455) ?_
 refine ws_next (pend' := []) hst (by kernel_rfl) pk_nil ?_
 refine ws_nil ?_
 intro w hst
 refine ⟨z, ?_⟩
 replace hst := hst.own_nil (tySl (tyInt .i64))
 replace hst := hst.own_nil (tySl (tyInt .i64))
 replace hst := hst.own_nil (tyInt .i64)
 replace hst := hst.pull7.pull2.pull3.pull7.pull7.pull7
 replace hst := at_label_Lattice_close (pv := Pt b5449 0) (x := ({ up := t4780, down := (List.replicate (Int.toNat ((a0).length : Int)) (0:Int)), join := [], meet := [], rank := (List.replicate (Int.toNat ((a0).length : Int)) (0:Int)), all := [] } : label_Lattice)) hst z
 replace hst := hst.pull1.keep2
 obtain rfl := some_inj hm
 exact ⟨({ up := t4780, down := (List.replicate (Int.toNat ((a0).length : Int)) (0:Int)), join := [], meet := [], rank := (List.replicate (Int.toNat ((a0).length : Int)) (0:Int)), all := [] } : label_Lattice), b5308, (Pt b5449 0), _, hx5464, (fu 0 r0_0 z (fu 4 (.int .i64 ((a0).length : Int)) z (fu 5 (Pt b5308 0) z z))), hst⟩
}
}
}
}
 {
 clear hst
 rintro _ w5465 ⟨z5460, b5457, v5459, σ5461, hm, rfl, hst⟩
 dsimp only [label_New_j0] at hm
 refine tn (wp_seq (wp_seq (wrl (wv (v5459) z z (x_load z isAgg59 (hst.bc0 z)) ?_))))
 replace hst := hst.pull1
 replace hst := objO_some hst
 obtain ⟨t5466, ht5467, hm⟩ := bind_some hm
 refine wc call25 [v5459] z z z ?_
 refine (label_Lattice_orders_ref hst.to1 ht5467).mono ?_
 rintro _ w5468 ⟨rfl, hst⟩
 refine ⟨_, z, ?_⟩
 replace hst := hst.of1
 replace hst := objO_get hst
 refine wv (.bool (!t5466)) z z z (wl_nil (tn ?_))
 refine bsplit (!t5466) (fun hc5471 => ?_) (fun hc5471 => ?_)
 {
 replace hm := bif_t hc5471 hm
 refine wp_ift (cvb hc5471) ?_
 refine wp_seq (wrl (wv (.pointer none) z z z (wv (.int .i64 (15:Int)) z z z (wl_nil (tn (wp_ret (then_r ?_)))))))
 replace hst := hst.objO_nil at_label_Lattice
 obtain rfl := some_inj hm
 refine post_ret (vs := [.pointer none, I6 (15:Int)]) results20 (rvs_cons (rv_tmp z) (rvs_cons (rv_tmp z) rvs_nil)) ?_
 exact ⟨_, .pointer none, z, hI0, hst.keep1⟩
}
 {
 replace hm := bif_f hc5471 hm
 refine wp_iff (cvb hc5471) ?_
 refine wp_skip (tn ?_)
 obtain ⟨y5769, hm, hx5770⟩ := bind_some hm
 refine wp_cut (fun a w => ∃ (z5766 : label_Lattice) (σ5767 : Nat → Value), (label_New_j1 a0) z5766 = some r ∧ a = Fr 192 (upd (upd σ5767 4 (.int .i64 ((a0).length : Int))) 5 (Pt b5457 0)) ∧ St w0 w I [cells b5457 [v5459], at_label_Lattice v5459 z5766] R) ?_ ?_
 {
 refine wp_seq (wrl (wv (r0_0) z z z (wv (.int .i64 ((a0).length : Int)) z z (x_len z underlying40 (rd_sliceV f0_0)) (wv (.int .i64 (0:Int)) z z z (wl_nil (tn (wp_block ?_)))))))
 obtain ⟨n5664, hm⟩ := loopO_some hm
 refine wp_loop_n (fun n a w => ∃ (z5661 : label_Lattice) (z5662 : Int) (σ5663 : Nat → Value), loopN (label_New_l2 a0) n (z5661, z5662) = some y5769 ∧ a = Fr 192 (upd (upd (upd (upd (upd σ5663 4 (.int .i64 ((a0).length : Int))) 5 (Pt b5457 0)) 38 (r0_0)) 39 (.int .i64 ((a0).length : Int))) 40 (.int .i64 z5662)) ∧ St w0 w I [at_label_Lattice v5459 z5661, cells b5457 [v5459]] R) n5664 ⟨z5460, (0:Int), _, hm, (fu 4 (.int .i64 ((a0).length : Int)) z (fu 5 (Pt b5457 0) z (fu 38 r0_0 z (fu 39 (.int .i64 ((a0).length : Int)) z (fu 40 (.int .i64 (0:Int)) z z))))), hst⟩ ?_
 rintro n5670 _ w5665 ⟨z5661, z5662, σ5663, hm, rfl, hst⟩
 obtain ⟨n5667, y5668, rfl, hm, hx5669⟩ := loopN_some hm
 dsimp only [label_New_l2] at hm
 refine wp_seq (wrl (wv (.bool (decide (z5662 < ((a0).length : Int)))) z z z (wl_nil (tn (wp_seq ?_)))))
 refine bsplit (decide (z5662 < ((a0).length : Int))) (fun hc5671 => ?_) (fun hc5671 => ?_)
 {
 replace hm := bif_t hc5671 hm
 refine wp_ift (cvb hc5671) ?_
 refine wp_skip (tn (wp_seq (wp_block (wp_seq (wrl ?_)))))
 refine wv (.int .i64 z5662) z z z ?_
 obtain ⟨x5672, hx5673, hm⟩ := bind_some hm
 obtain ⟨h5674, h5675, hi5676⟩ := geto_some hx5673
 refine wv (.pointer (some (eAddr r0_0 (z5662.toNat * 1 + 0)))) z z (x_index z z underlying40 sizeOf66 (rd_sliceV f0_0) h5674 h5675) (wv (.int .u64 x5672) z z (x_load z isAgg66 (rd_load f0_0 (HL.le.refl _) hst hi5676 (by rintro _ rfl; rfl))) (wv (.int .i64 z5662) z z z (wv (.int .u64 x5672) z z z (wl_nil (tn (wp_seq (wrl (wv (.int .i64 ((a0).length : Int)) z z z (wv (.int .i64 (0:Int)) z z z (wl_nil (tn (wp_block ?_))))))))))))
 obtain ⟨n5733, hm⟩ := loopO_some hm
 refine wp_loop_n (fun n a w => ∃ (z5730 : label_Lattice) (z5731 : Int) (σ5732 : Nat → Value), loopN (label_New_l3 a0 x5672 z5662) n (z5730, z5731) = some y5668 ∧ a = Fr 192 (upd (upd (upd (upd (upd (upd (upd (upd (upd σ5732 4 (.int .i64 ((a0).length : Int))) 5 (Pt b5457 0)) 6 (.int .i64 z5662)) 7 (.int .u64 x5672)) 38 (r0_0)) 39 (.int .i64 ((a0).length : Int))) 40 (.int .i64 z5662)) 45 (.int .i64 ((a0).length : Int))) 46 (.int .i64 z5731)) ∧ St w0 w I [at_label_Lattice v5459 z5730, cells b5457 [v5459]] R) n5733 ⟨z5661, (0:Int), _, hm, (fu 4 (.int .i64 ((a0).length : Int)) z (fu 5 (Pt b5457 0) z (fu 6 (.int .i64 z5662) z (fu 7 (.int .u64 x5672) z (fu 38 r0_0 z (fu 39 (.int .i64 ((a0).length : Int)) z (fu 40 (.int .i64 z5662) z (fu 45 (.int .i64 ((a0).length : Int)) z (fu 46 (.int .i64 (0:Int)) z z))))))))), hst⟩ ?_
 rintro n5739 _ w5734 ⟨z5730, z5731, σ5732, hm, rfl, hst⟩
 obtain ⟨n5736, y5737, rfl, hm, hx5738⟩ := loopN_some hm
 dsimp only [label_New_l3] at hm
 refine wp_seq (wrl (wv (.bool (decide (z5731 < ((a0).length : Int)))) z z z (wl_nil (tn (wp_seq ?_)))))
 refine bsplit (decide (z5731 < ((a0).length : Int))) (fun hc5740 => ?_) (fun hc5740 => ?_)
 {
 replace hm := bif_t hc5740 hm
 refine wp_ift (cvb hc5740) ?_
 refine wp_skip (tn (wp_seq (wp_block (wp_seq (wrl ?_)))))
 refine wv (.int .i64 z5731) z z z (wv (.int .i64 z5731) z z z (wl_nil (tn (wp_seq (wrl (wv (.int .u64 x5672) z z z (wv (.int .i64 z5731) z z z ?_)))))))
 obtain ⟨hg5741, hm⟩ := gd_some hm
 refine wv (.int .u64 (iShr .u64 x5672 z5731)) z z (x_shr (of_decide_eq_true hg5741) z z) (wv (.int .u64 (bAnd .u64 (iShr .u64 x5672 z5731) (1:Int))) z z z (wv (.bool ((bAnd .u64 (iShr .u64 x5672 z5731) (1:Int)) == (1:Int))) z z z (wl_nil (tn ?_))))
 refine bsplit ((bAnd .u64 (iShr .u64 x5672 z5731) (1:Int)) == (1:Int)) (fun hc5742 => ?_) (fun hc5742 => ?_)
 {
 replace hm := bif_t hc5742 hm
 refine wp_ift (cvb hc5742) ?_
 obtain ⟨b5743, v5744, v5746, v5748, v5750, v5752, v5754, rfl, hst'⟩ := at_label_Lattice_open hst
 clear hst
 have hst := hst'
 clear hst'
 refine wp_region_St hst 12 [0, 1, 2, 3, 4, 5, 6, 7, 8, 9, 10, 11] [0, 1, 3, 7, 0, 31, 63, 0, 128, 511, 1023, 2047] [] z (by kernel_rfl) (by kernel_rfl) Try.mixed (by kernel_rfl) ?_
 refine wsr (Pt b5743 0) 0 z z z (by kernel_rfl) (fun w hst => x_load z isAgg59 (hst.bc7 z)) (wsr (Pt b5743 0) 1 z z z (by kernel_rfl) (fun w hst => z) (wsr (Pt b5743 1) 2 z z z (by kernel_rfl) (fun w hst => x_field z underlying72 z sizeOf40 z) (wsr (v5746) 3 z z z (by kernel_rfl) (fun w hst => x_load z isAgg40 (hst.bc0 z)) (wsr (.int .i64 z5731) 4 z z z (by kernel_rfl) (fun w hst => z) ?_))))
 obtain ⟨x5756, hx5757, hm⟩ := bind_some hm
 obtain ⟨h5758, h5759, hi5760⟩ := geto_some hx5757
 refine wsr (.pointer (some (eAddr v5746 (z5731.toNat * 1 + 0)))) 5 z z z (by kernel_rfl) (fun w hst => x_index z z underlying40 sizeOf66 hst.sv2 h5758 h5759) (wsr (.int .u64 x5756) 6 z z z (by kernel_rfl) (fun w hst => x_load z isAgg66 (hst.ol2 hi5760 (by rintro _ rfl; rfl))) (wsr (.int .i64 z5662) 7 z z z (by kernel_rfl) (fun w hst => z) ?_))
 obtain ⟨hg5761, hm⟩ := gd_some hm
 refine wsr (.int .u64 (iShl .u64 (1:Int) z5662)) 8 z z z (by kernel_rfl) (fun w hst => x_shl (of_decide_eq_true hg5761) z z) (wsr (.int .u64 (bOr .u64 x5756 (iShl .u64 (1:Int) z5662))) 9 z z z (by kernel_rfl) (fun w hst => z) (wsr (.pointer (some (eAddr v5746 (z5731.toNat * 1 + 0)))) 10 z z z (by kernel_rfl) (fun w hst => x_index z z underlying40 sizeOf66 hst.sv2 h5758 h5759) ?_))
 refine ws_e1 11 (by kernel_rfl) ?_
 refine nxe [] (by kernel_rfl) z z ?_
 clear hst
 intro w hst
 replace hst := hst.pull2
 obtain ⟨w5762, hr5763, hst⟩ := hst.own_store (P := prog) (t := 66) (y := (bOr .u64 x5756 (iShl .u64 (1:Int) z5662))) hi5760 0 (.int .u64 (bOr .u64 x5756 (iShl .u64 (1:Int) z5662))) sizeOf66 (Nat.le_of_ble_eq_true z) (oC z oN) (by rintro _ rfl; rfl)
 have hi5764 := set_get hi5760 (bOr .u64 x5756 (iShl .u64 (1:Int) z5662))
 have h5765 := set_lt h5759 z5731.toNat (bOr .u64 x5756 (iShl .u64 (1:Int) z5662))
 refine we_unit z (x_unit hr5763) ?_
 refine ws_next (pend' := []) hst (by kernel_rfl) pk_nil ?_
 refine ws_nil ?_
 intro w hst
 refine blk_n (tn (wrl ?_))
 refine wv (.int .i64 (i64.wrap (z5731 + (1:Int)))) z z z (wv (.int .i64 (i64.wrap (z5731 + (1:Int)))) z z z (wl_nil (tn ?_)))
 replace hst := hst.pull6.pull6.pull6.pull6.pull4.pull6.pull6
 replace hst := at_label_Lattice_close (pv := Pt b5743 0) (x := ({ up := z5730.up, down := (z5730.down.set z5731.toNat (bOr .u64 x5756 (iShl .u64 (1:Int) z5662))), join := z5730.join, meet := z5730.meet, rank := z5730.rank, all := z5730.all } : label_Lattice)) hst z
 replace hst := hst.pull1.pull1.keep2
 obtain rfl := some_inj hm
 exact ⟨_, Nat.lt_succ_self _, ({ up := z5730.up, down := (z5730.down.set z5731.toNat (bOr .u64 x5756 (iShl .u64 (1:Int) z5662))), join := z5730.join, meet := z5730.meet, rank := z5730.rank, all := z5730.all } : label_Lattice), (i64.wrap (z5731 + (1:Int))), _, hx5738, (fu 4 (.int .i64 ((a0).length : Int)) z (fu 5 (Pt b5457 0) z (fu 6 (.int .i64 z5662) z (fu 7 (.int .u64 x5672) z (fu 38 r0_0 z (fu 39 (.int .i64 ((a0).length : Int)) z (fu 40 (.int .i64 z5662) z (fu 45 (.int .i64 ((a0).length : Int)) z (fu 46 (.int .i64 (i64.wrap (z5731 + (1:Int)))) z z))))))))), hst⟩
}
 {
 replace hm := bif_f hc5742 hm
 refine wp_iff (cvb hc5742) ?_
 refine wp_skip (blk_n (tn (wrl ?_)))
 refine wv (.int .i64 (i64.wrap (z5731 + (1:Int)))) z z z (wv (.int .i64 (i64.wrap (z5731 + (1:Int)))) z z z (wl_nil (tn ?_)))
 replace hst := hst.pull1.pull1.keep2
 obtain rfl := some_inj hm
 exact ⟨_, Nat.lt_succ_self _, z5730, (i64.wrap (z5731 + (1:Int))), _, hx5738, (fu 4 (.int .i64 ((a0).length : Int)) z (fu 5 (Pt b5457 0) z (fu 6 (.int .i64 z5662) z (fu 7 (.int .u64 x5672) z (fu 38 r0_0 z (fu 39 (.int .i64 ((a0).length : Int)) z (fu 40 (.int .i64 z5662) z (fu 45 (.int .i64 ((a0).length : Int)) z (fu 46 (.int .i64 (i64.wrap (z5731 + (1:Int)))) z z))))))))), hst⟩
}
}
 {
 replace hm := bif_f hc5740 hm
 refine wp_iff (cvb hc5740) ?_
 refine wp_exit (then_x (then_x ?_))
 replace hm := inr_up hm hx5738
 refine blk_x (blk_n (tn (wrl ?_)))
 refine wv (.int .i64 (i64.wrap (z5662 + (1:Int)))) z z z (wv (.int .i64 (i64.wrap (z5662 + (1:Int)))) z z z (wl_nil (tn ?_)))
 replace hst := hst.pull1.pull1.keep2
 obtain rfl := some_inj hm
 exact ⟨_, Nat.lt_succ_self _, z5730, (i64.wrap (z5662 + (1:Int))), _, hx5669, (fu 4 (.int .i64 ((a0).length : Int)) z (fu 5 (Pt b5457 0) z (fu 38 r0_0 z (fu 39 (.int .i64 ((a0).length : Int)) z (fu 40 (.int .i64 (i64.wrap (z5662 + (1:Int)))) z z))))), hst⟩
}
}
 {
 replace hm := bif_f hc5671 hm
 refine wp_iff (cvb hc5671) ?_
 refine wp_exit (then_x (then_x ?_))
 replace hm := inr_up hm hx5669
 refine blk_x (tn ?_)
 replace hst := hst.pull1.keep2
 obtain rfl := some_inj hm
 exact ⟨z5661, _, hx5770, (fu 4 (.int .i64 ((a0).length : Int)) z (fu 5 (Pt b5457 0) z z)), hst⟩
}
}
 {
 clear hst
 rintro _ w5771 ⟨z5766, σ5767, hm, rfl, hst⟩
 dsimp only [label_New_j1] at hm
 obtain ⟨y7114, hm, hx7115⟩ := joinO_some hm
 refine wp_cut (fun a w => ∃ (I7111 : HL) (z7110 : label_Lattice) (σ7112 : Nat → Value), (label_New_j4) z7110 = some r ∧ a = Fr 192 (upd σ7112 5 (Pt b5457 0)) ∧ I.le I7111 ∧ St w0 w I7111 [cells b5457 [v5459], at_label_Lattice v5459 z7110] R) ?_ ?_
 {
 have hL7116 := HL.le.refl I
 refine wp_seq (wrl (wv (.int .i64 ((a0).length : Int)) z z z (wv (.int .i64 (0:Int)) z z z (wl_nil (tn (wp_block ?_))))))
 obtain ⟨n6654, hm⟩ := loopO_some hm
 refine wp_loop_n (fun n a w => ∃ (I6652 : HL) (z6650 : label_Lattice) (z6651 : Int) (σ6653 : Nat → Value), loopN (label_New_l5 a0) n (z6650, z6651) = some y7114 ∧ a = Fr 192 (upd (upd (upd (upd σ6653 4 (.int .i64 ((a0).length : Int))) 5 (Pt b5457 0)) 67 (.int .i64 ((a0).length : Int))) 68 (.int .i64 z6651)) ∧ I.le I6652 ∧ St w0 w I6652 [cells b5457 [v5459], at_label_Lattice v5459 z6650] R) n6654 ⟨_, z5766, (0:Int), _, hm, (fu 4 (.int .i64 ((a0).length : Int)) z (fu 5 (Pt b5457 0) z (fu 67 (.int .i64 ((a0).length : Int)) z (fu 68 (.int .i64 (0:Int)) z z)))), (HL.le.refl _), hst⟩ ?_
 rintro n6660 _ w6655 ⟨I6652, z6650, z6651, σ6653, hm, rfl, hL6656, hst⟩
 obtain ⟨n6657, y6658, rfl, hm, hx6659⟩ := loopN_some hm
 dsimp only [label_New_l5] at hm
 replace f0_0 := f0_0.mono (rd_le hL6656)
 replace hI0 := hI0.trans hL6656
 replace hL7116 := hL7116.trans hL6656
 refine wp_seq (wrl (wv (.bool (decide (z6651 < ((a0).length : Int)))) z z z (wl_nil (tn (wp_seq ?_)))))
 refine bsplit (decide (z6651 < ((a0).length : Int))) (fun hc6661 => ?_) (fun hc6661 => ?_)
 {
 replace hm := bif_t hc6661 hm
 refine wp_ift (cvb hc6661) ?_
 refine wp_skip (tn (wp_seq (wp_block (wp_seq (wrl ?_)))))
 refine wv (.int .i64 z6651) z z z (wv (.int .i64 z6651) z z z (wl_nil (tn (wp_seq (wrl (wv ((.slice none 0 0)) z z z (wv ((.slice none 0 0)) z z z (wl_nil (tn ?_)))))))))
 obtain ⟨y6974, hm, hx6975⟩ := joinO_some hm
 refine wp_cut (fun a w => ∃ (z6968 : (List Int)) (z6971 : (List Int)) (v6967 : Value) (v6970 : Value) (σ6972 : Nat → Value), (label_New_j6 z6650 z6651) (z6968, z6971) = some y6658 ∧ a = Fr 192 (upd (upd (upd (upd (upd (upd (upd σ6972 4 (.int .i64 ((a0).length : Int))) 5 (Pt b5457 0)) 9 (.int .i64 z6651)) 10 (v6967)) 11 (v6970)) 67 (.int .i64 ((a0).length : Int))) 68 (.int .i64 z6651)) ∧ St w0 w I6652 [cells b5457 [v5459], at_label_Lattice v5459 z6650, ownS (tyInt .i64) v6967 z6968, ownS (tyInt .i64) v6970 z6971] R) ?_ ?_
 {
 refine wp_seq (wrl (wv (.int .i64 ((a0).length : Int)) z z z (wv (.int .i64 (0:Int)) z z z (wl_nil (tn (wp_block ?_))))))
 replace hst := hst.own_nil (tyInt .i64)
 replace hst := hst.own_nil (tyInt .i64)
 obtain ⟨n6889, hm⟩ := loopO_some hm
 refine wp_loop_n (fun n a w => ∃ (z6881 : (List Int)) (z6884 : (List Int)) (z6887 : Int) (v6882 : Value) (v6885 : Value) (σ6888 : Nat → Value), loopN (label_New_l7 a0 z6650 z6651) n (z6881, z6884, z6887) = some y6974 ∧ a = Fr 192 (upd (upd (upd (upd (upd (upd (upd (upd (upd σ6888 4 (.int .i64 ((a0).length : Int))) 5 (Pt b5457 0)) 9 (.int .i64 z6651)) 10 (v6882)) 11 (v6885)) 67 (.int .i64 ((a0).length : Int))) 68 (.int .i64 z6651)) 71 (.int .i64 ((a0).length : Int))) 72 (.int .i64 z6887)) ∧ St w0 w I6652 [ownS (tyInt .i64) v6885 z6884, ownS (tyInt .i64) v6882 z6881, cells b5457 [v5459], at_label_Lattice v5459 z6650] R) n6889 ⟨[], [], (0:Int), Zs, Zs, _, hm, (fu 4 (.int .i64 ((a0).length : Int)) z (fu 5 (Pt b5457 0) z (fu 9 (.int .i64 z6651) z (fu 10 (.slice none 0 0) z (fu 11 (.slice none 0 0) z (fu 67 (.int .i64 ((a0).length : Int)) z (fu 68 (.int .i64 z6651) z (fu 71 (.int .i64 ((a0).length : Int)) z (fu 72 (.int .i64 (0:Int)) z z))))))))), hst⟩ ?_
 rintro n6895 _ w6890 ⟨z6881, z6884, z6887, v6882, v6885, σ6888, hm, rfl, hst⟩
 obtain ⟨n6892, y6893, rfl, hm, hx6894⟩ := loopN_some hm
 dsimp only [label_New_l7] at hm
 refine wp_seq (wrl (wv (.bool (decide (z6887 < ((a0).length : Int)))) z z z (wl_nil (tn (wp_seq ?_)))))
 refine bsplit (decide (z6887 < ((a0).length : Int))) (fun hc6896 => ?_) (fun hc6896 => ?_)
 {
 replace hm := bif_t hc6896 hm
 refine wp_ift (cvb hc6896) ?_
 refine wp_skip (tn (wp_seq (wp_block (wp_seq (wrl ?_)))))
 refine wv (.int .i64 z6887) z z z (wv (.int .i64 z6887) z z z (wl_nil (tn (wp_seq ?_))))
 replace hst := hst.pull3
 obtain ⟨b6897, v6898, v6900, v6902, v6904, v6906, v6908, rfl, hst'⟩ := at_label_Lattice_open hst
 clear hst
 have hst := hst'
 clear hst'
 refine wp_region_St hst 25 [0, 1, 2, 3, 4, 5, 6, 7, 8, 9, 10, 11, 12, 13, 14, 15, 16, 17, 18, 19, 20, 21, 22, 23, 24] [0, 1, 3, 7, 0, 31, 63, 0, 128, 384, 896, 0, 3968, 8064, 16383, 0, 32768, 98304, 229376, 524287, 1048575, 2097151, 2097151, 4194303, 16777215] [] z (by kernel_rfl) (by kernel_rfl) Try.mixed (by kernel_rfl) ?_
 refine wsr (Pt b6897 0) 0 z z z (by kernel_rfl) (fun w hst => x_load z isAgg59 (hst.bc9 z)) (wsr (Pt b6897 0) 1 z z z (by kernel_rfl) (fun w hst => z) (wsr (Pt b6897 0) 2 z z z (by kernel_rfl) (fun w hst => x_field z underlying72 z sizeOf40 z) (wsr (v6898) 3 z z z (by kernel_rfl) (fun w hst => x_load z isAgg40 (hst.bc0 z)) (wsr (.int .i64 z6651) 4 z z z (by kernel_rfl) (fun w hst => z) ?_))))
 obtain ⟨x6910, hx6911, hm⟩ := bind_some hm
 obtain ⟨h6912, h6913, hi6914⟩ := geto_some hx6911
 refine wsr (.pointer (some (eAddr v6898 (z6651.toNat * 1 + 0)))) 5 z z z (by kernel_rfl) (fun w hst => x_index z z underlying40 sizeOf66 hst.sv1 h6912 h6913) (wsr (.int .u64 x6910) 6 z z z (by kernel_rfl) (fun w hst => x_load z isAgg66 (hst.ol1 hi6914 (by rintro _ rfl; rfl))) (wsr (Pt b6897 0) 7 z z z (by kernel_rfl) (fun w hst => x_load z isAgg59 (hst.bc9 z)) (wsr (Pt b6897 0) 8 z z z (by kernel_rfl) (fun w hst => z) (wsr (Pt b6897 0) 9 z z z (by kernel_rfl) (fun w hst => x_field z underlying72 z sizeOf40 z) (wsr (v6898) 10 z z z (by kernel_rfl) (fun w hst => x_load z isAgg40 (hst.bc0 z)) (wsr (.int .i64 z6887) 11 z z z (by kernel_rfl) (fun w hst => z) ?_))))))
 obtain ⟨x6915, hx6916, hm⟩ := bind_some hm
 obtain ⟨h6917, h6918, hi6919⟩ := geto_some hx6916
 refine wsr (.pointer (some (eAddr v6898 (z6887.toNat * 1 + 0)))) 12 z z z (by kernel_rfl) (fun w hst => x_index z z underlying40 sizeOf66 hst.sv1 h6917 h6918) (wsr (.int .u64 x6915) 13 z z z (by kernel_rfl) (fun w hst => x_load z isAgg66 (hst.ol1 hi6919 (by rintro _ rfl; rfl))) (wsr (.int .u64 (bAnd .u64 x6910 x6915)) 14 z z z (by kernel_rfl) (fun w hst => z) (wsr (Pt b6897 0) 15 z z z (by kernel_rfl) (fun w hst => x_load z isAgg59 (hst.bc9 z)) (wsr (Pt b6897 0) 16 z z z (by kernel_rfl) (fun w hst => z) (wsr (Pt b6897 0) 17 z z z (by kernel_rfl) (fun w hst => x_field z underlying72 z sizeOf40 z) (wsr (v6898) 18 z z z (by kernel_rfl) (fun w hst => x_load z isAgg40 (hst.bc0 z)) ?_))))))
 refine ws_e1 19 (by kernel_rfl) ?_
 refine nxe [20, 21, 22, 23, 24] (by kernel_rfl) z z ?_
 clear hst
 intro w hst
 replace hst := hst.pull1
 obtain ⟨css6920, hq6921, hst⟩ := hst.own_open
 obtain ⟨t6922, ht6923, hm⟩ := bind_some hm
 refine wec call26 [U6 (bAnd .u64 x6910 x6915), v6898] z z ?_
 refine (label_least_ref (hst.rdrow0 hq6921) hst.to0 ht6923).mono ?_
 rintro _ w6924 ⟨rfl, hst⟩
 refine ⟨_, z, ?_⟩
 replace hst := hst.of0.own_close hq6921
 refine ws_next (pend' := []) hst (by kernel_rfl) pk_nil ?_
 refine wsr (.tuple #[I6 t6922.1, .bool t6922.2]) 20 z z z (by kernel_rfl) (fun w hst => z) (wsr (.int .i64 t6922.1) 21 z z z (by kernel_rfl) (fun w hst => z) (wsr (.bool t6922.2) 22 z z z (by kernel_rfl) (fun w hst => z) (wsr (.int .i64 t6922.1) 23 z z z (by kernel_rfl) (fun w hst => z) (wsr (.bool t6922.2) 24 z z z (by kernel_rfl) (fun w hst => z) ?_))))
 refine ws_nil ?_
 intro w hst
 refine tn (wp_seq ?_)
 refine wp_region_St hst 25 [0, 1, 2, 3, 4, 5, 6, 7, 8, 9, 10, 11, 12, 13, 14, 15, 16, 17, 18, 19, 20, 21, 22, 23, 24] [0, 1, 3, 7, 0, 31, 63, 0, 128, 384, 896, 0, 3968, 8064, 16383, 0, 32768, 98304, 229376, 524287, 1048575, 2097151, 2097151, 4194303, 16777215] [] z (by kernel_rfl) (by kernel_rfl) Try.mixed (by kernel_rfl) ?_
 refine wsr (Pt b6897 0) 0 z z z (by kernel_rfl) (fun w hst => x_load z isAgg59 (hst.bc9 z)) (wsr (Pt b6897 0) 1 z z z (by kernel_rfl) (fun w hst => z) (wsr (Pt b6897 1) 2 z z z (by kernel_rfl) (fun w hst => x_field z underlying72 z sizeOf40 z) (wsr (v6900) 3 z z z (by kernel_rfl) (fun w hst => x_load z isAgg40 (hst.bc1 z)) (wsr (.int .i64 z6651) 4 z z z (by kernel_rfl) (fun w hst => z) ?_))))
 obtain ⟨x6927, hx6928, hm⟩ := bind_some hm
 obtain ⟨h6929, h6930, hi6931⟩ := geto_some hx6928
 refine wsr (.pointer (some (eAddr v6900 (z6651.toNat * 1 + 0)))) 5 z z z (by kernel_rfl) (fun w hst => x_index z z underlying40 sizeOf66 hst.sv2 h6929 h6930) (wsr (.int .u64 x6927) 6 z z z (by kernel_rfl) (fun w hst => x_load z isAgg66 (hst.ol2 hi6931 (by rintro _ rfl; rfl))) (wsr (Pt b6897 0) 7 z z z (by kernel_rfl) (fun w hst => x_load z isAgg59 (hst.bc9 z)) (wsr (Pt b6897 0) 8 z z z (by kernel_rfl) (fun w hst => z) (wsr (Pt b6897 1) 9 z z z (by kernel_rfl) (fun w hst => x_field z underlying72 z sizeOf40 z) (wsr (v6900) 10 z z z (by kernel_rfl) (fun w hst => x_load z isAgg40 (hst.bc1 z)) (wsr (.int .i64 z6887) 11 z z z (by kernel_rfl) (fun w hst => z) ?_))))))
 obtain ⟨x6932, hx6933, hm⟩ := bind_some hm
 obtain ⟨h6934, h6935, hi6936⟩ := geto_some hx6933
 refine wsr (.pointer (some (eAddr v6900 (z6887.toNat * 1 + 0)))) 12 z z z (by kernel_rfl) (fun w hst => x_index z z underlying40 sizeOf66 hst.sv2 h6934 h6935) (wsr (.int .u64 x6932) 13 z z z (by kernel_rfl) (fun w hst => x_load z isAgg66 (hst.ol2 hi6936 (by rintro _ rfl; rfl))) (wsr (.int .u64 (bAnd .u64 x6927 x6932)) 14 z z z (by kernel_rfl) (fun w hst => z) (wsr (Pt b6897 0) 15 z z z (by kernel_rfl) (fun w hst => x_load z isAgg59 (hst.bc9 z)) (wsr (Pt b6897 0) 16 z z z (by kernel_rfl) (fun w hst => z) (wsr (Pt b6897 1) 17 z z z (by kernel_rfl) (fun w hst => x_field z underlying72 z sizeOf40 z) (wsr (v6900) 18 z z z (by kernel_rfl) (fun w hst => x_load z isAgg40 (hst.bc1 z)) ?_))))))
 refine ws_e1 19 (by kernel_rfl) ?_
 refine nxe [20, 21, 22, 23, 24] (by kernel_rfl) z z ?_
 clear hst
 intro w hst
 replace hst := hst.pull2
 obtain ⟨css6937, hq6938, hst⟩ := hst.own_open
 obtain ⟨t6939, ht6940, hm⟩ := bind_some hm
 refine wec call26 [U6 (bAnd .u64 x6927 x6932), v6900] z z ?_
 refine (label_least_ref (hst.rdrow0 hq6938) hst.to0 ht6940).mono ?_
 rintro _ w6941 ⟨rfl, hst⟩
 refine ⟨_, z, ?_⟩
 replace hst := hst.of0.own_close hq6938
 refine ws_next (pend' := []) hst (by kernel_rfl) pk_nil ?_
 refine wsr (.tuple #[I6 t6939.1, .bool t6939.2]) 20 z z z (by kernel_rfl) (fun w hst => z) (wsr (.int .i64 t6939.1) 21 z z z (by kernel_rfl) (fun w hst => z) (wsr (.bool t6939.2) 22 z z z (by kernel_rfl) (fun w hst => z) (wsr (.int .i64 t6939.1) 23 z z z (by kernel_rfl) (fun w hst => z) (wsr (.bool t6939.2) 24 z z z (by kernel_rfl) (fun w hst => z) ?_))))
 refine ws_nil ?_
 intro w hst
 refine tn (wp_seq (wp_seq (wrl (wv (.bool t6922.2) z z z (wv (.bool (!t6922.2)) z z z (wv (.bool (!t6922.2)) z z z ?_))))))
 refine bsplit (!t6922.2) (fun hc6944 => ?_) (fun hc6944 => ?_)
 {
 replace hm := bif_t hc6944 hm
 refine wo hc6944 z z z z z z (wo hc6944 z z z z z z (wv (.bool true) z z (x_pick_t hc6944 z z) (wl_nil (tn ?_))))
 refine wp_ift z ?_
 refine wp_seq (wrl (wv (.pointer none) z z z (wv (.int .i64 (15:Int)) z z z (wl_nil (tn (wp_ret (then_r (blk_r (then_r (then_r ?_))))))))))
 replace hm := inr_up hm hx6894
 refine blk_r (then_r ?_)
 replace hm := inr_up hm hx6975
 refine blk_r (then_r (then_r ?_))
 replace hm := inr_up hm hx6659
 refine blk_r (then_r ?_)
 replace hm := inr_up hm hx7115
 replace hst := hst.objO_nil at_label_Lattice
 obtain rfl := some_inj hm
 refine post_ret (vs := [.pointer none, I6 (15:Int)]) results20 (rvs_cons (rv_tmp z) (rvs_cons (rv_tmp z) rvs_nil)) ?_
 exact ⟨_, .pointer none, z, hI0, hst.keep1⟩
}
 {
 replace hm := bif_f hc6944 hm
 refine wv (.bool t6939.2) ((wanted_eq z z z (cvb hc6944)).trans z) z z (wv (.bool (!t6939.2)) ((wanted_eq z z z (cvb hc6944)).trans z) z z (wv (.bool (!t6939.2)) z z (x_pick_f hc6944 z z) (wl_nil (tn ?_))))
 refine bsplit (!t6939.2) (fun hc6946 => ?_) (fun hc6946 => ?_)
 {
 replace hm := bif_t hc6946 hm
 refine wp_ift (cvb hc6946) ?_
 refine wp_seq (wrl (wv (.pointer none) z z z (wv (.int .i64 (15:Int)) z z z (wl_nil (tn (wp_ret (then_r (blk_r (then_r (then_r ?_))))))))))
 replace hm := inr_up hm hx6894
 refine blk_r (then_r ?_)
 replace hm := inr_up hm hx6975
 refine blk_r (then_r (then_r ?_))
 replace hm := inr_up hm hx6659
 refine blk_r (then_r ?_)
 replace hm := inr_up hm hx7115
 replace hst := hst.objO_nil at_label_Lattice
 obtain rfl := some_inj hm
 refine post_ret (vs := [.pointer none, I6 (15:Int)]) results20 (rvs_cons (rv_tmp z) (rvs_cons (rv_tmp z) rvs_nil)) ?_
 exact ⟨_, .pointer none, z, hI0, hst.keep1⟩
}
 {
 replace hm := bif_f hc6946 hm
 refine wp_iff (cvb hc6946) ?_
 refine wp_skip (tn (wrl ?_))
 refine wv (v6882) z z z (wv (.int .i64 t6922.1) z z z ?_)
 obtain ⟨b6948, w6949, ew6950, eb6951, hst⟩ := hst.lits (E := (tyInt .i64)) (xs := [t6922.1]) [[I6 t6922.1]] 3 1 z (Reps.cons z Reps.nil)
 refine wl_run (v := (.slice (some ⟨b6948, 0, none⟩) 1 1)) (w' := w6949) z z (x_als (by kernel_rfl) ew6950 eb6951) ?_
 obtain ⟨hg6953, hm⟩ := gd_some hm
 replace hst := hst.pull9
 obtain ⟨v6954, w6955, hr6956, hst⟩ := run_append elem_69 underlying69 hst hst.src1 (room_of hg6953 z) 69
 refine wl_run (v := v6954) (w' := w6955) z z (x_append z z hr6956) ?_
 refine wv (v6885) z z z (wv (.int .i64 t6939.1) z z z ?_)
 obtain ⟨b6958, w6959, ew6960, eb6961, hst⟩ := hst.lits (E := (tyInt .i64)) (xs := [t6939.1]) [[I6 t6939.1]] 3 1 z (Reps.cons z Reps.nil)
 refine wl_run (v := (.slice (some ⟨b6958, 0, none⟩) 1 1)) (w' := w6959) z z (x_als (by kernel_rfl) ew6960 eb6961) ?_
 obtain ⟨hg6963, hm⟩ := gd_some hm
 replace hst := hst.pull10
 obtain ⟨v6964, w6965, hr6966, hst⟩ := run_append elem_69 underlying69 hst hst.src1 (room_of hg6963 z) 69
 refine wl_run (v := v6964) (w' := w6965) z z (x_append z z hr6966) ?_
 refine wv (v6954) z z z (wv (v6964) z z z (wl_nil (blk_n (tn (wrl (wv (.int .i64 (i64.wrap (z6887 + (1:Int)))) z z z (wv (.int .i64 (i64.wrap (z6887 + (1:Int)))) z z z (wl_nil (tn ?_)))))))))
 replace hst := hst.pull10.pull10.pull10.pull10.pull8.pull9.pull10
 replace hst := at_label_Lattice_close (pv := Pt b6897 0) (x := z6650) hst z
 replace hst := hst.pull5.pull4.pull3.keep4
 obtain rfl := some_inj hm
 exact ⟨_, Nat.lt_succ_self _, (z6881 ++ ([t6922.1])), (z6884 ++ ([t6939.1])), (i64.wrap (z6887 + (1:Int))), v6954, v6964, _, hx6894, (fu 4 (.int .i64 ((a0).length : Int)) z (fu 5 (Pt b5457 0) z (fu 9 (.int .i64 z6651) z (fu 10 v6954 z (fu 11 v6964 z (fu 67 (.int .i64 ((a0).length : Int)) z (fu 68 (.int .i64 z6651) z (fu 71 (.int .i64 ((a0).length : Int)) z (fu 72 (.int .i64 (i64.wrap (z6887 + (1:Int)))) z z))))))))), hst⟩
}
}
}
 {
 replace hm := bif_f hc6896 hm
 refine wp_iff (cvb hc6896) ?_
 refine wp_exit (then_x (then_x ?_))
 replace hm := inr_up hm hx6894
 refine blk_x (tn ?_)
 replace hst := hst.pull1.pull3.pull3.keep4
 obtain rfl := some_inj hm
 exact ⟨z6881, z6884, v6882, v6885, _, hx6975, (fu 4 (.int .i64 ((a0).length : Int)) z (fu 5 (Pt b5457 0) z (fu 9 (.int .i64 z6651) z (fu 10 v6882 z (fu 11 v6885 z (fu 67 (.int .i64 ((a0).length : Int)) z (fu 68 (.int .i64 z6651) z z))))))), hst⟩
}
}
 {
 clear hst
 rintro _ w6976 ⟨z6968, z6971, v6967, v6970, σ6972, hm, rfl, hst⟩
 dsimp only [label_New_j6] at hm
 refine wp_seq ?_
 replace hst := hst.pull1
 obtain ⟨b6977, v6978, v6980, v6982, v6984, v6986, v6988, rfl, hst'⟩ := at_label_Lattice_open hst
 clear hst
 have hst := hst'
 clear hst'
 obtain ⟨y7080, hm, hx7081⟩ := bind_some hm
 refine wp_mid (fun a w => ∃ (I7077 : HL) (σ7078 : Nat → Value), (label_New_j8 z6650 z6968 z6971 z6651) () = some y6658 ∧ a = Fr 192 (upd (upd (upd (upd (upd σ7078 4 (.int .i64 ((a0).length : Int))) 5 (Pt b5457 0)) 9 (.int .i64 z6651)) 67 (.int .i64 ((a0).length : Int))) 68 (.int .i64 z6651)) ∧ I6652.le I7077 ∧ St w0 w I7077 [cells b5457 [Pt b6977 0], at_label_Lattice (Pt b6977 0) ({ up := z6650.up, down := z6650.down, join := (z6650.join ++ ([z6968])), meet := (z6650.meet ++ ([z6971])), rank := z6650.rank, all := z6650.all } : label_Lattice)] R) ?_ ?_
 {
 have hL7082 := HL.le.refl I6652
 refine wp_region_St hst 22 [0, 1, 2, 3, 4, 5, 6, 7, 8, 9, 10, 11, 12, 13, 14, 15, 16, 17, 18, 19, 20, 21] [0, 0, 0, 4, 12, 28, 0, 64, 252, 0, 512, 1536, 3584, 0, 8192, 32764, 65533, 131069, 262141, 524287, 1048575, 2097151] [] z (by kernel_rfl) (by kernel_rfl) Try.mixed (by kernel_rfl) ?_
 refine wsr (Pt b6977 0) 0 z z z (by kernel_rfl) (fun w hst => x_load z isAgg59 (hst.bc7 z)) (wsr (Pt b6977 0) 1 z z z (by kernel_rfl) (fun w hst => x_load z isAgg59 (hst.bc7 z)) (wsr (Pt b6977 0) 2 z z z (by kernel_rfl) (fun w hst => x_load z isAgg59 (hst.bc7 z)) (wsr (Pt b6977 0) 3 z z z (by kernel_rfl) (fun w hst => z) (wsr (Pt b6977 2) 4 z z z (by kernel_rfl) (fun w hst => x_field z underlying72 z sizeOf70 z) (wsr (v6982) 5 z z z (by kernel_rfl) (fun w hst => x_load z isAgg70 (hst.bc0 z)) (wsr (v6967) 6 z z z (by kernel_rfl) (fun w hst => z) (wsr (Pt b6977 0) 9 z z z (by kernel_rfl) (fun w hst => x_load z isAgg59 (hst.bc7 z)) (wsr (Pt b6977 0) 10 z z z (by kernel_rfl) (fun w hst => z) (wsr (Pt b6977 3) 11 z z z (by kernel_rfl) (fun w hst => x_field z underlying72 z sizeOf70 z) (wsr (v6984) 12 z z z (by kernel_rfl) (fun w hst => x_load z isAgg70 (hst.bc0 z)) (wsr (v6970) 13 z z z (by kernel_rfl) (fun w hst => z) ?_)))))))))))
 refine ws_e2 7 14 (by kernel_rfl) ?_ ?_
 {
 refine nxe [8, 14, 15, 16, 17, 18, 19, 20, 21] (by kernel_rfl) z z ?_
 clear hst
 intro w hst
 replace hst := hst.pull8
 obtain ⟨I6991, hI6992, f6993, hst⟩ := hst.own_fix
 replace f0_0 := f0_0.mono (rd_le hI6992)
 replace hI0 := hI0.trans hI6992
 replace hL7116 := hL7116.trans hI6992
 replace hL6656 := hL6656.trans hI6992
 replace hL7082 := hL7082.trans hI6992
 obtain ⟨b6994, w6995, ew6996, eb6997, hst⟩ := hst.lits (E := (tySl (tyInt .i64))) (xs := [z6968]) [[v6967]] 69 1 z (Reps.cons ⟨_, z, f6993, one_of_sliceV (ro_sliceV f6993)⟩ Reps.nil)
 refine we_run (v := (.slice (some ⟨b6994, 0, none⟩) 1 1)) (w' := w6995) z (x_als (by obtain ⟨_, _, hv_, _⟩ := (ro_sliceV f6993); rw [hv_]; kernel_rfl) ew6996 eb6997) ?_
 refine ws_next (pend' := [(13, v6970), (12, v6984), (11, Pt b6977 3), (10, Pt b6977 0), (9, Pt b6977 0), (5, v6982), (4, Pt b6977 2), (3, Pt b6977 0), (2, Pt b6977 0), (1, Pt b6977 0), (0, Pt b6977 0)]) hst (by kernel_rfl) (pkr z z (fun w hst => z) (pkr z z (fun w hst => x_load z isAgg70 (hst.bc1 z)) (pkr z z (fun w hst => x_field z underlying72 z sizeOf70 z) (pkr z z (fun w hst => z) (pkr z z (fun w hst => x_load z isAgg59 (hst.bc8 z)) (pkr z z (fun w hst => x_load z isAgg70 (hst.bc1 z)) (pkr z z (fun w hst => x_field z underlying72 z sizeOf70 z) (pkr z z (fun w hst => z) (pkr z z (fun w hst => x_load z isAgg59 (hst.bc8 z)) (pkr z z (fun w hst => x_load z isAgg59 (hst.bc8 z)) (pkr z z (fun w hst => x_load z isAgg59 (hst.bc8 z)) pk_nil))))))))))) ?_
 refine ws_e2 8 14 (by kernel_rfl) ?_ ?_
 {
 refine nxe [14, 15, 16, 17, 18, 19, 20, 21] (by kernel_rfl) z z ?_
 clear hst
 intro w hst
 obtain ⟨hg6999, hm⟩ := gd_some hm
 replace hst := hst.pull4
 obtain ⟨v7000, w7001, hr7002, hst⟩ := run_append elem_70 underlying70 hst hst.src1 (room_of hg6999 z) 70
 refine we_run (v := v7000) (w' := w7001) z (x_append z z hr7002) ?_
 refine ws_next (pend' := [(13, v6970), (12, v6984), (11, Pt b6977 3), (10, Pt b6977 0), (9, Pt b6977 0), (1, Pt b6977 0), (0, Pt b6977 0)]) hst (by kernel_rfl) (pkr z z (fun w hst => z) (pkr z z (fun w hst => x_load z isAgg70 (hst.bc2 z)) (pkr z z (fun w hst => x_field z underlying72 z sizeOf70 z) (pkr z z (fun w hst => z) (pkr z z (fun w hst => x_load z isAgg59 (hst.bc8 z)) (pkr z z (fun w hst => x_load z isAgg59 (hst.bc8 z)) (pkr z z (fun w hst => x_load z isAgg59 (hst.bc8 z)) pk_nil))))))) ?_
 refine ws_e1 14 (by kernel_rfl) ?_
 refine nxe [15, 16, 17, 18, 19, 20, 21] (by kernel_rfl) z z ?_
 clear hst
 intro w hst
 replace hst := hst.pull9
 obtain ⟨I7005, hI7006, f7007, hst⟩ := hst.own_fix
 replace f0_0 := f0_0.mono (rd_le hI7006)
 replace f6993 := f6993.mono (ro_le hI7006)
 replace hI0 := hI0.trans hI7006
 replace hL7116 := hL7116.trans hI7006
 replace hL6656 := hL6656.trans hI7006
 replace hL7082 := hL7082.trans hI7006
 obtain ⟨b7008, w7009, ew7010, eb7011, hst⟩ := hst.lits (E := (tySl (tyInt .i64))) (xs := [z6971]) [[v6970]] 69 1 z (Reps.cons ⟨_, z, f7007, one_of_sliceV (ro_sliceV f7007)⟩ Reps.nil)
 refine we_run (v := (.slice (some ⟨b7008, 0, none⟩) 1 1)) (w' := w7009) z (x_als (by obtain ⟨_, _, hv_, _⟩ := (ro_sliceV f7007); rw [hv_]; kernel_rfl) ew7010 eb7011) ?_
 refine ws_next (pend' := [(12, v6984), (11, Pt b6977 3), (10, Pt b6977 0), (9, Pt b6977 0), (1, Pt b6977 0), (0, Pt b6977 0)]) hst (by kernel_rfl) (pkr z z (fun w hst => x_load z isAgg70 (hst.bc3 z)) (pkr z z (fun w hst => x_field z underlying72 z sizeOf70 z) (pkr z z (fun w hst => z) (pkr z z (fun w hst => x_load z isAgg59 (hst.bc9 z)) (pkr z z (fun w hst => x_load z isAgg59 (hst.bc9 z)) (pkr z z (fun w hst => x_load z isAgg59 (hst.bc9 z)) pk_nil)))))) ?_
 refine ws_e1 15 (by kernel_rfl) ?_
 refine nxe [16, 17, 18, 19, 20, 21] (by kernel_rfl) z z ?_
 clear hst
 intro w hst
 obtain ⟨hg7013, hm⟩ := gd_some hm
 replace hst := hst.pull6
 obtain ⟨v7014, w7015, hr7016, hst⟩ := run_append elem_70 underlying70 hst hst.src1 (room_of hg7013 z) 70
 refine we_run (v := v7014) (w' := w7015) z (x_append z z hr7016) ?_
 refine ws_next (pend' := [(1, Pt b6977 0), (0, Pt b6977 0)]) hst (by kernel_rfl) (pkr z z (fun w hst => x_load z isAgg59 (hst.bc9 z)) (pkr z z (fun w hst => x_load z isAgg59 (hst.bc9 z)) pk_nil)) ?_
 refine wsr (Pt b6977 0) 16 z z z (by kernel_rfl) (fun w hst => z) (wsr (Pt b6977 2) 17 z z z (by kernel_rfl) (fun w hst => x_field z underlying72 z sizeOf70 z) ?_)
 refine ws_e1 18 (by kernel_rfl) ?_
 refine nxe [19, 20, 21] (by kernel_rfl) z z ?_
 clear hst
 intro w hst
 replace hst := hst.pull4
 obtain ⟨w7018, hr7019, hst⟩ := hst.boxStore1 (P := prog) (t := 70) (cs' := [v6978, v6980, v7000, v6984, v6986, v6988]) 2 v7000 (one_of_sliceV hst.sv3) sizeOf70 z z
 refine we_unit z (x_unit hr7019) ?_
 refine ws_next (pend' := [(1, Pt b6977 0)]) hst (by kernel_rfl) (pkr z z (fun w hst => x_load z isAgg59 (hst.bc9 z)) pk_nil) ?_
 refine wsr (Pt b6977 0) 19 z z z (by kernel_rfl) (fun w hst => z) (wsr (Pt b6977 3) 20 z z z (by kernel_rfl) (fun w hst => x_field z underlying72 z sizeOf70 z) ?_)
 refine ws_e1 21 (by kernel_rfl) ?_
 refine nxe [] (by kernel_rfl) z z ?_
 clear hst
 intro w hst
 obtain ⟨w7020, hr7021, hst⟩ := hst.boxStore1 (P := prog) (t := 70) (cs' := [v6978, v6980, v7000, v7014, v6986, v6988]) 3 v7014 (one_of_sliceV hst.sv1) sizeOf70 z z
 refine we_unit z (x_unit hr7021) ?_
 refine ws_next (pend' := []) hst (by kernel_rfl) pk_nil ?_
 refine ws_nil ?_
 intro w hst
 refine ⟨z, ?_⟩
 replace hst := hst.pull8.pull8.pull3.pull5.pull8.pull8.pull6
 replace hst := at_label_Lattice_close (pv := Pt b6977 0) (x := ({ up := z6650.up, down := z6650.down, join := (z6650.join ++ ([z6968])), meet := (z6650.meet ++ ([z6971])), rank := z6650.rank, all := z6650.all } : label_Lattice)) hst z
 replace hst := hst.pull3.keep2
 obtain rfl := some_inj hm
 exact ⟨_, _, hx7081, (fu 4 (.int .i64 ((a0).length : Int)) z (fu 5 (Pt b5457 0) z (fu 9 (.int .i64 z6651) z (fu 67 (.int .i64 ((a0).length : Int)) z (fu 68 (.int .i64 z6651) z z))))), hL7082, hst⟩
}
 {
 refine nxe [8, 15, 16, 17, 18, 19, 20, 21] (by kernel_rfl) z z ?_
 clear hst
 intro w hst
 replace hst := hst.pull9
 obtain ⟨I7023, hI7024, f7025, hst⟩ := hst.own_fix
 replace f0_0 := f0_0.mono (rd_le hI7024)
 replace f6993 := f6993.mono (ro_le hI7024)
 replace hI0 := hI0.trans hI7024
 replace hL7116 := hL7116.trans hI7024
 replace hL6656 := hL6656.trans hI7024
 replace hL7082 := hL7082.trans hI7024
 obtain ⟨b7026, w7027, ew7028, eb7029, hst⟩ := hst.lits (E := (tySl (tyInt .i64))) (xs := [z6971]) [[v6970]] 69 1 z (Reps.cons ⟨_, z, f7025, one_of_sliceV (ro_sliceV f7025)⟩ Reps.nil)
 refine we_run (v := (.slice (some ⟨b7026, 0, none⟩) 1 1)) (w' := w7027) z (x_als (by obtain ⟨_, _, hv_, _⟩ := (ro_sliceV f7025); rw [hv_]; kernel_rfl) ew7028 eb7029) ?_
 refine ws_next (pend' := [(12, v6984), (11, Pt b6977 3), (10, Pt b6977 0), (9, Pt b6977 0), (5, v6982), (4, Pt b6977 2), (3, Pt b6977 0), (2, Pt b6977 0), (1, Pt b6977 0), (0, Pt b6977 0)]) hst (by kernel_rfl) (pkr z z (fun w hst => x_load z isAgg70 (hst.bc2 z)) (pkr z z (fun w hst => x_field z underlying72 z sizeOf70 z) (pkr z z (fun w hst => z) (pkr z z (fun w hst => x_load z isAgg59 (hst.bc9 z)) (pkr z z (fun w hst => x_load z isAgg70 (hst.bc2 z)) (pkr z z (fun w hst => x_field z underlying72 z sizeOf70 z) (pkr z z (fun w hst => z) (pkr z z (fun w hst => x_load z isAgg59 (hst.bc9 z)) (pkr z z (fun w hst => x_load z isAgg59 (hst.bc9 z)) (pkr z z (fun w hst => x_load z isAgg59 (hst.bc9 z)) pk_nil)))))))))) ?_
 refine ws_e1 8 (by kernel_rfl) ?_
 refine nxe [15, 16, 17, 18, 19, 20, 21] (by kernel_rfl) z z ?_
 clear hst
 intro w hst
 obtain ⟨hg7031, hm⟩ := gd_some hm
 replace hst := hst.pull5
 obtain ⟨v7032, w7033, hr7034, hst⟩ := run_append elem_70 underlying70 hst hst.src2 (room_of hg7031 z) 70
 refine we_run (v := v7032) (w' := w7033) z (x_append z z hr7034) ?_
 refine ws_next (pend' := [(12, v6984), (11, Pt b6977 3), (10, Pt b6977 0), (9, Pt b6977 0), (1, Pt b6977 0), (0, Pt b6977 0)]) hst (by kernel_rfl) (pkr z z (fun w hst => x_load z isAgg70 (hst.bc3 z)) (pkr z z (fun w hst => x_field z underlying72 z sizeOf70 z) (pkr z z (fun w hst => z) (pkr z z (fun w hst => x_load z isAgg59 (hst.bc9 z)) (pkr z z (fun w hst => x_load z isAgg59 (hst.bc9 z)) (pkr z z (fun w hst => x_load z isAgg59 (hst.bc9 z)) pk_nil)))))) ?_
 refine ws_e1 15 (by kernel_rfl) ?_
 refine nxe [16, 17, 18, 19, 20, 21] (by kernel_rfl) z z ?_
 clear hst
 intro w hst
 obtain ⟨hg7036, hm⟩ := gd_some hm
 replace hst := hst.pull6
 obtain ⟨v7037, w7038, hr7039, hst⟩ := run_append elem_70 underlying70 hst hst.src2 (room_of hg7036 z) 70
 refine we_run (v := v7037) (w' := w7038) z (x_append z z hr7039) ?_
 refine ws_next (pend' := [(1, Pt b6977 0), (0, Pt b6977 0)]) hst (by kernel_rfl) (pkr z z (fun w hst => x_load z isAgg59 (hst.bc9 z)) (pkr z z (fun w hst => x_load z isAgg59 (hst.bc9 z)) pk_nil)) ?_
 refine wsr (Pt b6977 0) 16 z z z (by kernel_rfl) (fun w hst => z) (wsr (Pt b6977 2) 17 z z z (by kernel_rfl) (fun w hst => x_field z underlying72 z sizeOf70 z) ?_)
 refine ws_e1 18 (by kernel_rfl) ?_
 refine nxe [19, 20, 21] (by kernel_rfl) z z ?_
 clear hst
 intro w hst
 replace hst := hst.pull4
 obtain ⟨w7041, hr7042, hst⟩ := hst.boxStore1 (P := prog) (t := 70) (cs' := [v6978, v6980, v7032, v6984, v6986, v6988]) 2 v7032 (one_of_sliceV hst.sv2) sizeOf70 z z
 refine we_unit z (x_unit hr7042) ?_
 refine ws_next (pend' := [(1, Pt b6977 0)]) hst (by kernel_rfl) (pkr z z (fun w hst => x_load z isAgg59 (hst.bc9 z)) pk_nil) ?_
 refine wsr (Pt b6977 0) 19 z z z (by kernel_rfl) (fun w hst => z) (wsr (Pt b6977 3) 20 z z z (by kernel_rfl) (fun w hst => x_field z underlying72 z sizeOf70 z) ?_)
 refine ws_e1 21 (by kernel_rfl) ?_
 refine nxe [] (by kernel_rfl) z z ?_
 clear hst
 intro w hst
 obtain ⟨w7043, hr7044, hst⟩ := hst.boxStore1 (P := prog) (t := 70) (cs' := [v6978, v6980, v7032, v7037, v6986, v6988]) 3 v7037 (one_of_sliceV hst.sv1) sizeOf70 z z
 refine we_unit z (x_unit hr7044) ?_
 refine ws_next (pend' := []) hst (by kernel_rfl) pk_nil ?_
 refine ws_nil ?_
 intro w hst
 refine ⟨z, ?_⟩
 replace hst := hst.pull8.pull8.pull3.pull4.pull8.pull8.pull6
 replace hst := at_label_Lattice_close (pv := Pt b6977 0) (x := ({ up := z6650.up, down := z6650.down, join := (z6650.join ++ ([z6968])), meet := (z6650.meet ++ ([z6971])), rank := z6650.rank, all := z6650.all } : label_Lattice)) hst z
 replace hst := hst.pull3.keep2
 obtain rfl := some_inj hm
 exact ⟨_, _, hx7081, (fu 4 (.int .i64 ((a0).length : Int)) z (fu 5 (Pt b5457 0) z (fu 9 (.int .i64 z6651) z (fu 67 (.int .i64 ((a0).length : Int)) z (fu 68 (.int .i64 z6651) z z))))), hL7082, hst⟩
}
}
 {
 refine nxe [7, 8, 15, 16, 17, 18, 19, 20, 21] (by kernel_rfl) z z ?_
 clear hst
 intro w hst
 replace hst := hst.pull9
 obtain ⟨I7046, hI7047, f7048, hst⟩ := hst.own_fix
 replace f0_0 := f0_0.mono (rd_le hI7047)
 replace hI0 := hI0.trans hI7047
 replace hL7116 := hL7116.trans hI7047
 replace hL6656 := hL6656.trans hI7047
 replace hL7082 := hL7082.trans hI7047
 obtain ⟨b7049, w7050, ew7051, eb7052, hst⟩ := hst.lits (E := (tySl (tyInt .i64))) (xs := [z6971]) [[v6970]] 69 1 z (Reps.cons ⟨_, z, f7048, one_of_sliceV (ro_sliceV f7048)⟩ Reps.nil)
 refine we_run (v := (.slice (some ⟨b7049, 0, none⟩) 1 1)) (w' := w7050) z (x_als (by obtain ⟨_, _, hv_, _⟩ := (ro_sliceV f7048); rw [hv_]; kernel_rfl) ew7051 eb7052) ?_
 refine ws_next (pend' := [(12, v6984), (11, Pt b6977 3), (10, Pt b6977 0), (9, Pt b6977 0), (6, v6967), (5, v6982), (4, Pt b6977 2), (3, Pt b6977 0), (2, Pt b6977 0), (1, Pt b6977 0), (0, Pt b6977 0)]) hst (by kernel_rfl) (pkr z z (fun w hst => x_load z isAgg70 (hst.bc1 z)) (pkr z z (fun w hst => x_field z underlying72 z sizeOf70 z) (pkr z z (fun w hst => z) (pkr z z (fun w hst => x_load z isAgg59 (hst.bc8 z)) (pkr z z (fun w hst => z) (pkr z z (fun w hst => x_load z isAgg70 (hst.bc1 z)) (pkr z z (fun w hst => x_field z underlying72 z sizeOf70 z) (pkr z z (fun w hst => z) (pkr z z (fun w hst => x_load z isAgg59 (hst.bc8 z)) (pkr z z (fun w hst => x_load z isAgg59 (hst.bc8 z)) (pkr z z (fun w hst => x_load z isAgg59 (hst.bc8 z)) pk_nil))))))))))) ?_
 refine ws_e1 7 (by kernel_rfl) ?_
 refine nxe [8, 15, 16, 17, 18, 19, 20, 21] (by kernel_rfl) z z ?_
 clear hst
 intro w hst
 replace hst := hst.pull9
 obtain ⟨I7055, hI7056, f7057, hst⟩ := hst.own_fix
 replace f0_0 := f0_0.mono (rd_le hI7056)
 replace f7048 := f7048.mono (ro_le hI7056)
 replace hI0 := hI0.trans hI7056
 replace hL7116 := hL7116.trans hI7056
 replace hL6656 := hL6656.trans hI7056
 replace hL7082 := hL7082.trans hI7056
 obtain ⟨b7058, w7059, ew7060, eb7061, hst⟩ := hst.lits (E := (tySl (tyInt .i64))) (xs := [z6968]) [[v6967]] 69 1 z (Reps.cons ⟨_, z, f7057, one_of_sliceV (ro_sliceV f7057)⟩ Reps.nil)
 refine we_run (v := (.slice (some ⟨b7058, 0, none⟩) 1 1)) (w' := w7059) z (x_als (by obtain ⟨_, _, hv_, _⟩ := (ro_sliceV f7057); rw [hv_]; kernel_rfl) ew7060 eb7061) ?_
 refine ws_next (pend' := [(12, v6984), (11, Pt b6977 3), (10, Pt b6977 0), (9, Pt b6977 0), (5, v6982), (4, Pt b6977 2), (3, Pt b6977 0), (2, Pt b6977 0), (1, Pt b6977 0), (0, Pt b6977 0)]) hst (by kernel_rfl) (pkr z z (fun w hst => x_load z isAgg70 (hst.bc2 z)) (pkr z z (fun w hst => x_field z underlying72 z sizeOf70 z) (pkr z z (fun w hst => z) (pkr z z (fun w hst => x_load z isAgg59 (hst.bc9 z)) (pkr z z (fun w hst => x_load z isAgg70 (hst.bc2 z)) (pkr z z (fun w hst => x_field z underlying72 z sizeOf70 z) (pkr z z (fun w hst => z) (pkr z z (fun w hst => x_load z isAgg59 (hst.bc9 z)) (pkr z z (fun w hst => x_load z isAgg59 (hst.bc9 z)) (pkr z z (fun w hst => x_load z isAgg59 (hst.bc9 z)) pk_nil)))))))))) ?_
 refine ws_e1 8 (by kernel_rfl) ?_
 refine nxe [15, 16, 17, 18, 19, 20, 21] (by kernel_rfl) z z ?_
 clear hst
 intro w hst
 obtain ⟨hg7063, hm⟩ := gd_some hm
 replace hst := hst.pull5
 obtain ⟨v7064, w7065, hr7066, hst⟩ := run_append elem_70 underlying70 hst hst.src1 (room_of hg7063 z) 70
 refine we_run (v := v7064) (w' := w7065) z (x_append z z hr7066) ?_
 refine ws_next (pend' := [(12, v6984), (11, Pt b6977 3), (10, Pt b6977 0), (9, Pt b6977 0), (1, Pt b6977 0), (0, Pt b6977 0)]) hst (by kernel_rfl) (pkr z z (fun w hst => x_load z isAgg70 (hst.bc3 z)) (pkr z z (fun w hst => x_field z underlying72 z sizeOf70 z) (pkr z z (fun w hst => z) (pkr z z (fun w hst => x_load z isAgg59 (hst.bc9 z)) (pkr z z (fun w hst => x_load z isAgg59 (hst.bc9 z)) (pkr z z (fun w hst => x_load z isAgg59 (hst.bc9 z)) pk_nil)))))) ?_
 refine ws_e1 15 (by kernel_rfl) ?_
 refine nxe [16, 17, 18, 19, 20, 21] (by kernel_rfl) z z ?_
 clear hst
 intro w hst
 obtain ⟨hg7068, hm⟩ := gd_some hm
 replace hst := hst.pull6
 obtain ⟨v7069, w7070, hr7071, hst⟩ := run_append elem_70 underlying70 hst hst.src3 (room_of hg7068 z) 70
 refine we_run (v := v7069) (w' := w7070) z (x_append z z hr7071) ?_
 refine ws_next (pend' := [(1, Pt b6977 0), (0, Pt b6977 0)]) hst (by kernel_rfl) (pkr z z (fun w hst => x_load z isAgg59 (hst.bc9 z)) (pkr z z (fun w hst => x_load z isAgg59 (hst.bc9 z)) pk_nil)) ?_
 refine wsr (Pt b6977 0) 16 z z z (by kernel_rfl) (fun w hst => z) (wsr (Pt b6977 2) 17 z z z (by kernel_rfl) (fun w hst => x_field z underlying72 z sizeOf70 z) ?_)
 refine ws_e1 18 (by kernel_rfl) ?_
 refine nxe [19, 20, 21] (by kernel_rfl) z z ?_
 clear hst
 intro w hst
 replace hst := hst.pull4
 obtain ⟨w7073, hr7074, hst⟩ := hst.boxStore1 (P := prog) (t := 70) (cs' := [v6978, v6980, v7064, v6984, v6986, v6988]) 2 v7064 (one_of_sliceV hst.sv2) sizeOf70 z z
 refine we_unit z (x_unit hr7074) ?_
 refine ws_next (pend' := [(1, Pt b6977 0)]) hst (by kernel_rfl) (pkr z z (fun w hst => x_load z isAgg59 (hst.bc9 z)) pk_nil) ?_
 refine wsr (Pt b6977 0) 19 z z z (by kernel_rfl) (fun w hst => z) (wsr (Pt b6977 3) 20 z z z (by kernel_rfl) (fun w hst => x_field z underlying72 z sizeOf70 z) ?_)
 refine ws_e1 21 (by kernel_rfl) ?_
 refine nxe [] (by kernel_rfl) z z ?_
 clear hst
 intro w hst
 obtain ⟨w7075, hr7076, hst⟩ := hst.boxStore1 (P := prog) (t := 70) (cs' := [v6978, v6980, v7064, v7069, v6986, v6988]) 3 v7069 (one_of_sliceV hst.sv1) sizeOf70 z z
 refine we_unit z (x_unit hr7076) ?_
 refine ws_next (pend' := []) hst (by kernel_rfl) pk_nil ?_
 refine ws_nil ?_
 intro w hst
 refine ⟨z, ?_⟩
 replace hst := hst.pull8.pull8.pull3.pull4.pull8.pull8.pull6
 replace hst := at_label_Lattice_close (pv := Pt b6977 0) (x := ({ up := z6650.up, down := z6650.down, join := (z6650.join ++ ([z6968])), meet := (z6650.meet ++ ([z6971])), rank := z6650.rank, all := z6650.all } : label_Lattice)) hst z
 replace hst := hst.pull3.keep2
 obtain rfl := some_inj hm
 exact ⟨_, _, hx7081, (fu 4 (.int .i64 ((a0).length : Int)) z (fu 5 (Pt b5457 0) z (fu 9 (.int .i64 z6651) z (fu 67 (.int .i64 ((a0).length : Int)) z (fu 68 (.int .i64 z6651) z z))))), hL7082, hst⟩
}
}
 {
 clear hst
 rintro _ w7083 ⟨I7077, σ7078, hm, rfl, hL7079, hst⟩
 dsimp only [label_New_j8] at hm
 replace f0_0 := f0_0.mono (rd_le hL7079)
 replace hI0 := hI0.trans hL7079
 replace hL7116 := hL7116.trans hL7079
 replace hL6656 := hL6656.trans hL7079
 refine tn ?_
 replace hst := hst.pull1
 obtain ⟨b7084, v7085, v7087, v7089, v7091, v7093, v7095, e7097, hst'⟩ := at_label_Lattice_open hst
 clear hst
 have e7097 := ptr_inj e7097
 subst e7097
 have hst := hst'
 clear hst'
 refine wp_region_St hst 11 [0, 1, 2, 3, 4, 5, 6, 7, 8, 9, 10] [0, 0, 2, 6, 14, 0, 32, 126, 255, 511, 1023] [] z (by kernel_rfl) (by kernel_rfl) Try.mixed (by kernel_rfl) ?_
 refine wsr (Pt b6977 0) 0 z z z (by kernel_rfl) (fun w hst => x_load z isAgg59 (hst.bc7 z)) (wsr (Pt b6977 0) 1 z z z (by kernel_rfl) (fun w hst => x_load z isAgg59 (hst.bc7 z)) (wsr (Pt b6977 0) 2 z z z (by kernel_rfl) (fun w hst => z) (wsr (Pt b6977 5) 3 z z z (by kernel_rfl) (fun w hst => x_field z underlying72 z sizeOf69 z) (wsr (v7095) 4 z z z (by kernel_rfl) (fun w hst => x_load z isAgg69 (hst.bc0 z)) (wsr (.int .i64 z6651) 5 z z z (by kernel_rfl) (fun w hst => z) ?_)))))
 refine ws_e1 6 (by kernel_rfl) ?_
 refine nxe [7, 8, 9, 10] (by kernel_rfl) z z ?_
 clear hst
 intro w hst
 obtain ⟨b7098, w7099, ew7100, eb7101, hst⟩ := hst.lits (E := (tyInt .i64)) (xs := [z6651]) [[I6 z6651]] 3 1 z (Reps.cons z Reps.nil)
 refine we_run (v := (.slice (some ⟨b7098, 0, none⟩) 1 1)) (w' := w7099) z (x_als (by kernel_rfl) ew7100 eb7101) ?_
 refine ws_next (pend' := [(4, v7095), (3, Pt b6977 5), (2, Pt b6977 0), (1, Pt b6977 0), (0, Pt b6977 0)]) hst (by kernel_rfl) (pkr z z (fun w hst => x_load z isAgg69 (hst.bc1 z)) (pkr z z (fun w hst => x_field z underlying72 z sizeOf69 z) (pkr z z (fun w hst => z) (pkr z z (fun w hst => x_load z isAgg59 (hst.bc8 z)) (pkr z z (fun w hst => x_load z isAgg59 (hst.bc8 z)) pk_nil))))) ?_
 refine ws_e1 7 (by kernel_rfl) ?_
 refine nxe [8, 9, 10] (by kernel_rfl) z z ?_
 clear hst
 intro w hst
 obtain ⟨hg7103, hm⟩ := gd_some hm
 replace hst := hst.pull7
 obtain ⟨v7104, w7105, hr7106, hst⟩ := run_append elem_69 underlying69 hst hst.src1 (room_of hg7103 z) 69
 refine we_run (v := v7104) (w' := w7105) z (x_append z z hr7106) ?_
 refine ws_next (pend' := [(0, Pt b6977 0)]) hst (by kernel_rfl) (pkr z z (fun w hst => x_load z isAgg59 (hst.bc8 z)) pk_nil) ?_
 refine wsr (Pt b6977 0) 8 z z z (by kernel_rfl) (fun w hst => z) (wsr (Pt b6977 5) 9 z z z (by kernel_rfl) (fun w hst => x_field z underlying72 z sizeOf69 z) ?_)
 refine ws_e1 10 (by kernel_rfl) ?_
 refine nxe [] (by kernel_rfl) z z ?_
 clear hst
 intro w hst
 replace hst := hst.pull2
 obtain ⟨w7108, hr7109, hst⟩ := hst.boxStore1 (P := prog) (t := 69) (cs' := [v7085, v7087, v7089, v7091, v7093, v7104]) 5 v7104 (one_of_sliceV hst.sv1) sizeOf69 z z
 refine we_unit z (x_unit hr7109) ?_
 refine ws_next (pend' := []) hst (by kernel_rfl) pk_nil ?_
 refine ws_nil ?_
 intro w hst
 refine blk_n (tn (wrl ?_))
 refine wv (.int .i64 (i64.wrap (z6651 + (1:Int)))) z z z (wv (.int .i64 (i64.wrap (z6651 + (1:Int)))) z z z (wl_nil (tn ?_)))
 replace hst := hst.pull1.pull7.pull7.pull7.pull7.pull7.pull6
 replace hst := at_label_Lattice_close (pv := Pt b6977 0) (x := ({ up := ({ up := z6650.up, down := z6650.down, join := (z6650.join ++ ([z6968])), meet := (z6650.meet ++ ([z6971])), rank := z6650.rank, all := z6650.all } : label_Lattice).up, down := ({ up := z6650.up, down := z6650.down, join := (z6650.join ++ ([z6968])), meet := (z6650.meet ++ ([z6971])), rank := z6650.rank, all := z6650.all } : label_Lattice).down, join := ({ up := z6650.up, down := z6650.down, join := (z6650.join ++ ([z6968])), meet := (z6650.meet ++ ([z6971])), rank := z6650.rank, all := z6650.all } : label_Lattice).join, meet := ({ up := z6650.up, down := z6650.down, join := (z6650.join ++ ([z6968])), meet := (z6650.meet ++ ([z6971])), rank := z6650.rank, all := z6650.all } : label_Lattice).meet, rank := ({ up := z6650.up, down := z6650.down, join := (z6650.join ++ ([z6968])), meet := (z6650.meet ++ ([z6971])), rank := z6650.rank, all := z6650.all } : label_Lattice).rank, all := ((({ up := z6650.up, down := z6650.down, join := (z6650.join ++ ([z6968])), meet := (z6650.meet ++ ([z6971])), rank := z6650.rank, all := z6650.all } : label_Lattice).all) ++ ([z6651])) } : label_Lattice)) hst z
 replace hst := hst.pull2.keep2
 obtain rfl := some_inj hm
 exact ⟨_, Nat.lt_succ_self _, _, ({ up := ({ up := z6650.up, down := z6650.down, join := (z6650.join ++ ([z6968])), meet := (z6650.meet ++ ([z6971])), rank := z6650.rank, all := z6650.all } : label_Lattice).up, down := ({ up := z6650.up, down := z6650.down, join := (z6650.join ++ ([z6968])), meet := (z6650.meet ++ ([z6971])), rank := z6650.rank, all := z6650.all } : label_Lattice).down, join := ({ up := z6650.up, down := z6650.down, join := (z6650.join ++ ([z6968])), meet := (z6650.meet ++ ([z6971])), rank := z6650.rank, all := z6650.all } : label_Lattice).join, meet := ({ up := z6650.up, down := z6650.down, join := (z6650.join ++ ([z6968])), meet := (z6650.meet ++ ([z6971])), rank := z6650.rank, all := z6650.all } : label_Lattice).meet, rank := ({ up := z6650.up, down := z6650.down, join := (z6650.join ++ ([z6968])), meet := (z6650.meet ++ ([z6971])), rank := z6650.rank, all := z6650.all } : label_Lattice).rank, all := ((({ up := z6650.up, down := z6650.down, join := (z6650.join ++ ([z6968])), meet := (z6650.meet ++ ([z6971])), rank := z6650.rank, all := z6650.all } : label_Lattice).all) ++ ([z6651])) } : label_Lattice), (i64.wrap (z6651 + (1:Int))), _, hx6659, (fu 4 (.int .i64 ((a0).length : Int)) z (fu 5 (Pt b5457 0) z (fu 67 (.int .i64 ((a0).length : Int)) z (fu 68 (.int .i64 (i64.wrap (z6651 + (1:Int)))) z z)))), hL6656, hst⟩
}
}
}
 {
 replace hm := bif_f hc6661 hm
 refine wp_iff (cvb hc6661) ?_
 refine wp_exit (then_x (then_x ?_))
 replace hm := inr_up hm hx6659
 refine blk_x (tn ?_)
 replace hst := hst.pull1.pull1.keep2
 obtain rfl := some_inj hm
 exact ⟨_, z6650, _, hx7115, (fu 5 (Pt b5457 0) z z), hL7116, hst⟩
}
}
 {
 clear hst
 rintro _ w7117 ⟨I7111, z7110, σ7112, hm, rfl, hL7113, hst⟩
 dsimp only [label_New_j4] at hm
 replace f0_0 := f0_0.mono (rd_le hL7113)
 replace hI0 := hI0.trans hL7113
 refine wp_seq (wrl (wv (v5459) z z (x_load z isAgg59 (hst.bc0 z)) ?_))
 replace hst := hst.pull1
 obtain ⟨b7118, v7119, v7121, v7123, v7125, v7127, v7129, rfl, hst'⟩ := at_label_Lattice_open hst
 clear hst
 have hst := hst'
 clear hst'
 refine wv (Pt b7118 0) z z z (wv (Pt b7118 5) z z (x_field z underlying72 z sizeOf69 z) (wv (v7129) z z (x_load z isAgg69 (hst.bc0 z)) (wv (.func (.func 28) #[] #[Pt b5457 0]) z z (by kernel_rfl) ?_)))
 obtain ⟨y9427, hq9428, hm⟩ := bind_some hm
 refine wl_call z z (x_callv call27 (caps := []) z (vs := [v7129, .func (.func 28) #[] #[Pt b5457 0]]) z) ?_
 refine Calls.mono (show Calls prog 27 #[v7129, .func (.func 28) #[] #[Pt b5457 0]] _ (fun e w' => ∃ (z9425 : (List Int)), z9425 = y9427 ∧ e = .returned (.tuple #[]) ∧ St w0 w' I7111 [cells b5457 [Pt b7118 0], cells b7118 [v7119, v7121, v7123, v7125, v7127, v7129], ownS (tyInt .u64) v7119 z7110.up, ownS (tyInt .u64) v7121 z7110.down, ownS (tySl (tyInt .i64)) v7123 z7110.join, ownS (tySl (tyInt .i64)) v7125 z7110.meet, ownS (tyInt .i64) v7127 z7110.rank, ownS (tyInt .i64) v7129 z9425] R) from ?_) ?_
 {
 clear hm; have hm := hq9428
 refine calls_start (args := [v7129, .func (.func 28) #[] #[Pt b5457 0]]) func27 z ntmps27 (Nat.le_of_ble_eq_true z) ?_
 refine wrl (wv (v7129) z z z (wv (v7129) z z z (wv (.int .i64 ((z7110.all).length : Int)) z z (x_len z underlying69 hst.sv6) (wv (.func (.func 28) #[] #[Pt b5457 0]) z z z ?_))))
 obtain ⟨y9422, hq9423, hm⟩ := bind_some hm
 refine wl_call z z (x_callv call36 (caps := []) z (vs := [v7129, I6 ((z7110.all).length : Int), .func (.func 28) #[] #[Pt b5457 0]]) z) ?_
 refine Calls.mono (show Calls prog 36 #[v7129, I6 ((z7110.all).length : Int), .func (.func 28) #[] #[Pt b5457 0]] _ (fun e w' => ∃ (z9420 : (List Int)), z9420 = y9422 ∧ e = .returned (.tuple #[]) ∧ St w0 w' I7111 [cells b5457 [Pt b7118 0], cells b7118 [v7119, v7121, v7123, v7125, v7127, v7129], ownS (tyInt .u64) v7119 z7110.up, ownS (tyInt .u64) v7121 z7110.down, ownS (tySl (tyInt .i64)) v7123 z7110.join, ownS (tySl (tyInt .i64)) v7125 z7110.meet, ownS (tyInt .i64) v7127 z7110.rank, ownS (tyInt .i64) v7129 z9420] R) from ?_) ?_
 {
 clear hm; have hm := hq9423
 refine calls_start (args := [v7129, I6 ((z7110.all).length : Int), .func (.func 28) #[] #[Pt b5457 0]]) func36 z ntmps36 (Nat.le_of_ble_eq_true z) ?_
 refine wp_seq (wrl (wv (.int .i64 (20:Int)) z z z (wl_nil (tn (wp_seq (wrl (wv (.int .i64 (20:Int)) z z z (wv (.int .i64 (0:Int)) z z z (wv (.int .i64 (20:Int)) z z z (wl_nil (tn ?_)))))))))))
 obtain ⟨y8805, hm, hx8806⟩ := bind_some hm
 refine wp_cut (fun a w => ∃ (z8801 : (List Int)) (z8802 : Int) (σ8803 : Nat → Value), (label_New_j9 z7110) (z8801, z8802) = some y9422 ∧ a = Fr 63 (upd (upd (upd (upd (upd σ8803 0 (v7129)) 1 (.int .i64 ((z7110.all).length : Int))) 2 (.func (.func 28) #[] #[Pt b5457 0])) 6 (.int .i64 (20:Int))) 7 (.int .i64 z8802)) ∧ St w0 w I7111 [ownS (tyInt .i64) v7129 z8801, cells b5457 [Pt b7118 0], cells b7118 [v7119, v7121, v7123, v7125, v7127, v7129], ownS (tyInt .u64) v7119 z7110.up, ownS (tyInt .u64) v7121 z7110.down, ownS (tySl (tyInt .i64)) v7123 z7110.join, ownS (tySl (tyInt .i64)) v7125 z7110.meet, ownS (tyInt .i64) v7127 z7110.rank] R) ?_ ?_
 {
 refine wp_block ?_
 obtain ⟨n8242, hm⟩ := loopO_some hm
 refine wp_loop_n (fun n a w => ∃ (z8238 : Int) (z8239 : Int) (z8240 : (List Int)) (σ8241 : Nat → Value), loopN (label_New_l10 z7110) n (z8238, z8239, z8240) = some y8805 ∧ a = Fr 63 (upd (upd (upd (upd (upd (upd σ8241 0 (v7129)) 1 (.int .i64 ((z7110.all).length : Int))) 2 (.func (.func 28) #[] #[Pt b5457 0])) 6 (.int .i64 (20:Int))) 7 (.int .i64 z8238)) 8 (.int .i64 z8239)) ∧ St w0 w I7111 [cells b7118 [v7119, v7121, v7123, v7125, v7127, v7129], ownS (tyInt .u64) v7119 z7110.up, ownS (tyInt .u64) v7121 z7110.down, ownS (tySl (tyInt .i64)) v7123 z7110.join, ownS (tySl (tyInt .i64)) v7125 z7110.meet, ownS (tyInt .i64) v7127 z7110.rank, ownS (tyInt .i64) v7129 z8240, cells b5457 [Pt b7118 0]] R) n8242 ⟨(0:Int), (20:Int), z7110.all, _, hm, (fu 0 v7129 z (fu 1 (.int .i64 ((z7110.all).length : Int)) z (fu 2 (.func (.func 28) #[] #[Pt b5457 0]) z (fu 6 (.int .i64 (20:Int)) z (fu 7 (.int .i64 (0:Int)) z (fu 8 (.int .i64 (20:Int)) z z)))))), hst⟩ ?_
 rintro n8248 _ w8243 ⟨z8238, z8239, z8240, σ8241, hm, rfl, hst⟩
 obtain ⟨n8245, y8246, rfl, hm, hx8247⟩ := loopN_some hm
 dsimp only [label_New_l10] at hm
 refine wp_seq (wp_seq (wrl (wv (.int .i64 z8239) z z z (wv (.int .i64 ((z7110.all).length : Int)) z z z (wv (.bool (decide (z8239 ≤ ((z7110.all).length : Int)))) z z z (wl_nil (tn ?_)))))))
 refine bsplit (decide (z8239 ≤ ((z7110.all).length : Int))) (fun hc8249 => ?_) (fun hc8249 => ?_)
 {
 replace hm := bif_t hc8249 hm
 refine wp_ift (cvb hc8249) ?_
 refine wp_skip (tn (wp_block (wp_seq (wrl ?_))))
 refine wv (v7129) z z z (wv (.int .i64 z8238) z z z (wv (.int .i64 z8239) z z z (wv (.func (.func 28) #[] #[Pt b5457 0]) z z z ?_)))
 obtain ⟨y8798, hq8799, hm⟩ := bind_some hm
 refine wl_call z z (x_callv call41 (caps := []) z (vs := [v7129, I6 z8238, I6 z8239, .func (.func 28) #[] #[Pt b5457 0]]) z) ?_
 refine Calls.mono (show Calls prog 41 #[v7129, I6 z8238, I6 z8239, .func (.func 28) #[] #[Pt b5457 0]] _ (fun e w' => ∃ (z8796 : (List Int)), z8796 = y8798 ∧ e = .returned (.tuple #[]) ∧ St w0 w' I7111 [cells b5457 [Pt b7118 0], cells b7118 [v7119, v7121, v7123, v7125, v7127, v7129], ownS (tyInt .u64) v7119 z7110.up, ownS (tyInt .u64) v7121 z7110.down, ownS (tySl (tyInt .i64)) v7123 z7110.join, ownS (tySl (tyInt .i64)) v7125 z7110.meet, ownS (tyInt .i64) v7127 z7110.rank, ownS (tyInt .i64) v7129 z8796] R) from ?_) ?_
 {
 clear hm; have hm := hq8799
 refine calls_start (args := [v7129, I6 z8238, I6 z8239, .func (.func 28) #[] #[Pt b5457 0]]) func41 z ntmps41 (Nat.le_of_ble_eq_true z) ?_
 refine wp_seq (wrl (wv (.int .i64 z8238) z z z (wv (.int .i64 (i64.wrap (z8238 + (1:Int)))) z z z (wv (.int .i64 (i64.wrap (z8238 + (1:Int)))) z z z (wl_nil (tn (wp_block ?_)))))))
 obtain ⟨n8611, hm⟩ := loopO_some hm
 refine wp_loop_n (fun n a w => ∃ (z8608 : Int) (z8609 : (List Int)) (σ8610 : Nat → Value), loopN (label_New_l11 z8239 z8238 z7110) n (z8608, z8609) = some y8798 ∧ a = Fr 53 (upd (upd (upd (upd (upd σ8610 0 (v7129)) 1 (.int .i64 z8238)) 2 (.int .i64 z8239)) 3 (.func (.func 28) #[] #[Pt b5457 0])) 8 (.int .i64 z8608)) ∧ St w0 w I7111 [cells b7118 [v7119, v7121, v7123, v7125, v7127, v7129], ownS (tyInt .u64) v7119 z7110.up, ownS (tyInt .u64) v7121 z7110.down, ownS (tySl (tyInt .i64)) v7123 z7110.join, ownS (tySl (tyInt .i64)) v7125 z7110.meet, ownS (tyInt .i64) v7127 z7110.rank, ownS (tyInt .i64) v7129 z8609, cells b5457 [Pt b7118 0]] R) n8611 ⟨(i64.wrap (z8238 + (1:Int))), z8240, _, hm, (fu 0 v7129 z (fu 1 (.int .i64 z8238) z (fu 2 (.int .i64 z8239) z (fu 3 (.func (.func 28) #[] #[Pt b5457 0]) z (fu 8 (.int .i64 (i64.wrap (z8238 + (1:Int)))) z z))))), hst⟩ ?_
 rintro n8617 _ w8612 ⟨z8608, z8609, σ8610, hm, rfl, hst⟩
 obtain ⟨n8614, y8615, rfl, hm, hx8616⟩ := loopN_some hm
 dsimp only [label_New_l11] at hm
 refine wp_seq (wp_seq (wrl (wv (.int .i64 z8608) z z z (wv (.int .i64 z8239) z z z (wv (.bool (decide (z8608 < z8239))) z z z (wl_nil (tn ?_)))))))
 refine bsplit (decide (z8608 < z8239)) (fun hc8618 => ?_) (fun hc8618 => ?_)
 {
 replace hm := bif_t hc8618 hm
 refine wp_ift (cvb hc8618) ?_
 refine wp_skip (tn (wp_seq (wp_block (wp_seq (wrl ?_)))))
 refine wv (.int .i64 z8608) z z z (wv (.int .i64 z8608) z z z (wl_nil (tn (wp_block ?_))))
 obtain ⟨n8734, hm⟩ := loopO_some hm
 refine wp_loop_n (fun n a w => ∃ (z8731 : Int) (z8732 : (List Int)) (σ8733 : Nat → Value), loopN (label_New_l12 z8238 z7110 z8608) n (z8731, z8732) = some y8615 ∧ a = Fr 53 (upd (upd (upd (upd (upd (upd σ8733 0 (v7129)) 1 (.int .i64 z8238)) 2 (.int .i64 z8239)) 3 (.func (.func 28) #[] #[Pt b5457 0])) 8 (.int .i64 z8608)) 9 (.int .i64 z8731)) ∧ St w0 w I7111 [cells b7118 [v7119, v7121, v7123, v7125, v7127, v7129], ownS (tyInt .u64) v7119 z7110.up, ownS (tyInt .u64) v7121 z7110.down, ownS (tySl (tyInt .i64)) v7123 z7110.join, ownS (tySl (tyInt .i64)) v7125 z7110.meet, ownS (tyInt .i64) v7127 z7110.rank, ownS (tyInt .i64) v7129 z8732, cells b5457 [Pt b7118 0]] R) n8734 ⟨z8608, z8609, _, hm, (fu 0 v7129 z (fu 1 (.int .i64 z8238) z (fu 2 (.int .i64 z8239) z (fu 3 (.func (.func 28) #[] #[Pt b5457 0]) z (fu 8 (.int .i64 z8608) z (fu 9 (.int .i64 z8608) z z)))))), hst⟩ ?_
 rintro n8740 _ w8735 ⟨z8731, z8732, σ8733, hm, rfl, hst⟩
 obtain ⟨n8737, y8738, rfl, hm, hx8739⟩ := loopN_some hm
 dsimp only [label_New_l12] at hm
 refine wp_seq (wp_seq ?_)
 refine wp_region_St hst 17 [0, 1, 2, 3, 4, 5, 6, 7, 8, 9, 10, 11, 12, 13, 14, 15, 16] [0, 0, 3, 7, 15, 15, 15, 111, 239, 15, 15, 1039, 3599, 7695, 16383, 32767, 65535] [] z (by kernel_rfl) (by kernel_rfl) Try.mixed (by kernel_rfl) ?_
 refine wsr (.int .i64 z8731) 0 z z z (by kernel_rfl) (fun w hst => z) (wsr (.int .i64 z8238) 1 z z z (by kernel_rfl) (fun w hst => z) (wsr (.bool (decide (z8731 > z8238))) 2 z z z (by kernel_rfl) (fun w hst => z) (wsr (.bool (decide (z8731 > z8238))) 3 z z z (by kernel_rfl) (fun w hst => z) ?_)))
 refine bsplit (decide (z8731 > z8238)) (fun hc8741 => ?_) (fun hc8741 => ?_)
 {
 replace hm := bif_t hc8741 hm
 refine ws_q (v := .func (.func 28) #[] #[Pt b5457 0]) 4 [5, 6, 7, 8, 9, 10, 11, 12, 13, 14, 15, 16] (by kernel_rfl) z z (yi_run ((wanted_eq z z z (cvb hc8741)).trans z) (fun w hst => z)) (ws_q (v := v7129) 5 [6, 7, 8, 9, 10, 11, 12, 13, 14, 15, 16] (by kernel_rfl) z z (yi_run ((wanted_eq z z z (cvb hc8741)).trans z) (fun w hst => z)) (ws_q (v := .int .i64 z8731) 6 [7, 8, 9, 10, 11, 12, 13, 14, 15, 16] (by kernel_rfl) z z (yi_run ((wanted_eq z z z (cvb hc8741)).trans z) (fun w hst => z)) ?_))
 obtain ⟨x8742, hx8743, hm⟩ := bind_some hm
 obtain ⟨h8744, h8745, hi8746⟩ := geto_some hx8743
 refine ws_q (v := .pointer (some (eAddr v7129 (z8731.toNat * 1 + 0)))) 7 [8, 9, 10, 11, 12, 13, 14, 15, 16] (by kernel_rfl) z z (yi_run ((wanted_eq z z z (cvb hc8741)).trans z) (fun w hst => x_index z z underlying69 sizeOf3 hst.sv6 h8744 h8745)) (ws_q (v := .int .i64 x8742) 8 [9, 10, 11, 12, 13, 14, 15, 16] (by kernel_rfl) z z (yi_run ((wanted_eq z z z (cvb hc8741)).trans z) (fun w hst => x_load z isAgg3 (hst.ol6 hi8746 (by rintro _ rfl; rfl)))) (ws_q (v := v7129) 9 [10, 11, 12, 13, 14, 15, 16] (by kernel_rfl) z z (yi_run ((wanted_eq z z z (cvb hc8741)).trans z) (fun w hst => z)) (ws_q (v := .int .i64 z8731) 10 [11, 12, 13, 14, 15, 16] (by kernel_rfl) z z (yi_run ((wanted_eq z z z (cvb hc8741)).trans z) (fun w hst => z)) (ws_q (v := .int .i64 (i64.wrap (z8731 - (1:Int)))) 11 [12, 13, 14, 15, 16] (by kernel_rfl) z z (yi_run ((wanted_eq z z z (cvb hc8741)).trans z) (fun w hst => z)) ?_))))
 obtain ⟨x8747, hx8748, hm⟩ := bind_some hm
 obtain ⟨h8749, h8750, hi8751⟩ := geto_some hx8748
 refine ws_q (v := .pointer (some (eAddr v7129 ((i64.wrap (z8731 - (1:Int))).toNat * 1 + 0)))) 12 [13, 14, 15, 16] (by kernel_rfl) z z (yi_run ((wanted_eq z z z (cvb hc8741)).trans z) (fun w hst => x_index z z underlying69 sizeOf3 hst.sv6 h8749 h8750)) (ws_q (v := .int .i64 x8747) 13 [14, 15, 16] (by kernel_rfl) z z (yi_run ((wanted_eq z z z (cvb hc8741)).trans z) (fun w hst => x_load z isAgg3 (hst.ol6 hi8751 (by rintro _ rfl; rfl)))) ?_)
 refine ws_e1 14 (by kernel_rfl) ?_
 refine nxe [15, 16] (by kernel_rfl) z ((wanted_eq z z z (cvb hc8741)).trans z) ?_
 clear hst
 intro w hst
 obtain ⟨y8779, hq8780, hm⟩ := bind_some hm
 refine we_call z (x_callv call28 (caps := [Pt b5457 0]) z (vs := [I6 x8742, I6 x8747]) z) ?_
 refine Calls.mono (show Calls prog 28 #[I6 x8742, I6 x8747, Pt b5457 0] _ (fun e w' => ∃ (z8777 : Int), z8777 = y8779 ∧ e = .returned (.int .i64 z8777) ∧ St w0 w' I7111 [cells b5457 [Pt b7118 0], cells b7118 [v7119, v7121, v7123, v7125, v7127, v7129], ownS (tyInt .u64) v7119 z7110.up, ownS (tyInt .u64) v7121 z7110.down, ownS (tySl (tyInt .i64)) v7123 z7110.join, ownS (tySl (tyInt .i64)) v7125 z7110.meet, ownS (tyInt .i64) v7127 z7110.rank, ownS (tyInt .i64) v7129 z8732] R) from ?_) ?_
 {
 clear hm; have hm := hq8780
 refine calls_start (args := [I6 x8742, I6 x8747, Pt b5457 0]) func28 z ntmps28 (Nat.le_of_ble_eq_true z) ?_
 refine wp_seq (wrl (wv (.int .i64 (0:Int)) z z z (wl_nil (tn (wp_seq ?_)))))
 refine wp_region_St hst 18 [0, 1, 2, 3, 4, 5, 6, 7, 8, 9, 10, 11, 12, 13, 14, 15, 16, 17] [0, 1, 3, 7, 0, 31, 63, 127, 0, 256, 768, 1792, 0, 7936, 16128, 32767, 65535, 131071] [] z (by kernel_rfl) (by kernel_rfl) Try.mixed (by kernel_rfl) ?_
 refine wsr (Pt b7118 0) 0 z z z (by kernel_rfl) (fun w hst => x_load z isAgg59 (hst.bc7 z)) (wsr (Pt b7118 0) 1 z z z (by kernel_rfl) (fun w hst => z) (wsr (Pt b7118 1) 2 z z z (by kernel_rfl) (fun w hst => x_field z underlying72 z sizeOf40 z) (wsr (v7121) 3 z z z (by kernel_rfl) (fun w hst => x_load z isAgg40 (hst.bc0 z)) (wsr (.int .i64 x8742) 4 z z z (by kernel_rfl) (fun w hst => z) ?_))))
 obtain ⟨x8752, hx8753, hm⟩ := bind_some hm
 obtain ⟨h8754, h8755, hi8756⟩ := geto_some hx8753
 refine wsr (.pointer (some (eAddr v7121 (x8742.toNat * 1 + 0)))) 5 z z z (by kernel_rfl) (fun w hst => x_index z z underlying40 sizeOf66 hst.sv2 h8754 h8755) (wsr (.int .u64 x8752) 6 z z z (by kernel_rfl) (fun w hst => x_load z isAgg66 (hst.ol2 hi8756 (by rintro _ rfl; rfl))) (wsr (Pt b7118 0) 8 z z z (by kernel_rfl) (fun w hst => x_load z isAgg59 (hst.bc7 z)) (wsr (Pt b7118 0) 9 z z z (by kernel_rfl) (fun w hst => z) (wsr (Pt b7118 1) 10 z z z (by kernel_rfl) (fun w hst => x_field z underlying72 z sizeOf40 z) (wsr (v7121) 11 z z z (by kernel_rfl) (fun w hst => x_load z isAgg40 (hst.bc0 z)) (wsr (.int .i64 x8747) 12 z z z (by kernel_rfl) (fun w hst => z) ?_))))))
 obtain ⟨x8757, hx8758, hm⟩ := bind_some hm
 obtain ⟨h8759, h8760, hi8761⟩ := geto_some hx8758
 refine wsr (.pointer (some (eAddr v7121 (x8747.toNat * 1 + 0)))) 13 z z z (by kernel_rfl) (fun w hst => x_index z z underlying40 sizeOf66 hst.sv2 h8759 h8760) (wsr (.int .u64 x8757) 14 z z z (by kernel_rfl) (fun w hst => x_load z isAgg66 (hst.ol2 hi8761 (by rintro _ rfl; rfl))) ?_)
 refine ws_e1 7 (by kernel_rfl) ?_
 refine nxe [15, 16, 17] (by kernel_rfl) z z ?_
 clear hst
 intro w hst
 obtain ⟨t8762, ht8763, hm⟩ := bind_some hm
 refine wec call30 [U6 x8752] z z ?_
 refine (math_bits_OnesCount64_ref hst.to0 ht8763).mono ?_
 rintro _ w8764 ⟨rfl, hst⟩
 refine ⟨_, z, ?_⟩
 replace hst := hst.of0
 refine ws_next (pend' := [(14, U6 x8757), (13, .pointer (some (eAddr v7121 (x8747.toNat * 1 + 0)))), (12, I6 x8747), (11, v7121), (10, Pt b7118 1), (9, Pt b7118 0), (8, Pt b7118 0)]) hst (by kernel_rfl) (pkr z z (fun w hst => x_load z isAgg66 (hst.ol2 hi8761 (by rintro _ rfl; rfl))) (pkr z z (fun w hst => x_index z z underlying40 sizeOf66 hst.sv2 h8759 h8760) (pkr z z (fun w hst => z) (pkr z z (fun w hst => x_load z isAgg40 (hst.bc0 z)) (pkr z z (fun w hst => x_field z underlying72 z sizeOf40 z) (pkr z z (fun w hst => z) (pkr z z (fun w hst => x_load z isAgg59 (hst.bc7 z)) pk_nil))))))) ?_
 refine ws_e1 15 (by kernel_rfl) ?_
 refine nxe [16, 17] (by kernel_rfl) z z ?_
 clear hst
 intro w hst
 obtain ⟨t8767, ht8768, hm⟩ := bind_some hm
 refine wec call30 [U6 x8757] z z ?_
 refine (math_bits_OnesCount64_ref hst.to0 ht8768).mono ?_
 rintro _ w8769 ⟨rfl, hst⟩
 refine ⟨_, z, ?_⟩
 replace hst := hst.of0
 refine ws_next (pend' := []) hst (by kernel_rfl) pk_nil ?_
 refine ws_e1 16 (by kernel_rfl) ?_
 refine nxe [17] (by kernel_rfl) z z ?_
 clear hst
 intro w hst
 obtain ⟨t8772, ht8773, hm⟩ := bind_some hm
 refine wec call29 [I6 t8762, I6 t8767] z z ?_
 refine (cmp_Compare_int_ref hst.to0 ht8773).mono ?_
 rintro _ w8774 ⟨rfl, hst⟩
 refine ⟨_, z, ?_⟩
 replace hst := hst.of0
 refine ws_next (pend' := []) hst (by kernel_rfl) pk_nil ?_
 refine wsr (.int .i64 t8772) 17 z z z (by kernel_rfl) (fun w hst => z) ?_
 refine ws_nil ?_
 intro w hst
 refine tn (wp_ret ?_)
 refine post_ret (vs := [I6 t8772]) results28 (rvs_cons (rv_tmp z) rvs_nil) ?_
 replace hst := hst.pull6.pull6.pull6.pull6.pull6.pull6.pull6.pull7.keep8
 obtain rfl := some_inj hm
 exact ⟨t8772, z, z, hst⟩
}
 clear hst
 rintro _ w8781 ⟨z8777, rfl, rfl, hst⟩
 refine ⟨_, z, ?_⟩
 try dsimp only at hm
 refine ws_next (pend' := []) hst (by kernel_rfl) pk_nil ?_
 refine ws_q (v := .bool (decide (z8777 < (0:Int)))) 15 [16] (by kernel_rfl) z z (yi_run ((wanted_eq z z z (cvb hc8741)).trans z) (fun w hst => z)) (wsr (.bool (decide (z8777 < (0:Int)))) 16 z z z (by kernel_rfl) (fun w hst => x_pick_t hc8741 z z) ?_)
 refine ws_nil ?_
 intro w hst
 refine tn ?_
 refine bsplit (decide (z8777 < (0:Int))) (fun hc8782 => ?_) (fun hc8782 => ?_)
 {
 replace hm := bif_t hc8782 hm
 refine wp_ift (cvb hc8782) ?_
 refine wp_skip (tn (wp_seq (wp_block ?_)))
 refine wp_region_St hst 18 [0, 1, 2, 3, 4, 5, 6, 7, 8, 9, 10, 11, 12, 13, 14, 15, 16, 17] [0, 0, 0, 0, 8, 0, 0, 64, 224, 480, 0, 0, 3072, 7168, 16355, 32739, 65535, 131071] [] z (by kernel_rfl) (by kernel_rfl) Try.mixed (by kernel_rfl) ?_
 refine wsr (v7129) 0 z z z (by kernel_rfl) (fun w hst => z) (wsr (.int .i64 z8731) 1 z z z (by kernel_rfl) (fun w hst => z) (wsr (v7129) 2 z z z (by kernel_rfl) (fun w hst => z) (wsr (.int .i64 z8731) 3 z z z (by kernel_rfl) (fun w hst => z) (wsr (.int .i64 (i64.wrap (z8731 - (1:Int)))) 4 z z z (by kernel_rfl) (fun w hst => z) (wsr (v7129) 5 z z z (by kernel_rfl) (fun w hst => z) (wsr (.int .i64 z8731) 6 z z z (by kernel_rfl) (fun w hst => z) (wsr (.int .i64 (i64.wrap (z8731 - (1:Int)))) 7 z z z (by kernel_rfl) (fun w hst => z) (wsr (.pointer (some (eAddr v7129 ((i64.wrap (z8731 - (1:Int))).toNat * 1 + 0)))) 8 z z z (by kernel_rfl) (fun w hst => x_index z z underlying69 sizeOf3 hst.sv7 h8749 h8750) (wsr (.int .i64 x8747) 9 z z z (by kernel_rfl) (fun w hst => x_load z isAgg3 (hst.ol7 hi8751 (by rintro _ rfl; rfl))) (wsr (v7129) 10 z z z (by kernel_rfl) (fun w hst => z) (wsr (.int .i64 z8731) 11 z z z (by kernel_rfl) (fun w hst => z) (wsr (.pointer (some (eAddr v7129 (z8731.toNat * 1 + 0)))) 12 z z z (by kernel_rfl) (fun w hst => x_index z z underlying69 sizeOf3 hst.sv7 h8744 h8745) ?_))))))))))))
 refine wsr (.int .i64 x8742) 13 z z z (by kernel_rfl) (fun w hst => x_load z isAgg3 (hst.ol7 hi8746 (by rintro _ rfl; rfl))) (wsr (.pointer (some (eAddr v7129 (z8731.toNat * 1 + 0)))) 14 z z z (by kernel_rfl) (fun w hst => x_index z z underlying69 sizeOf3 hst.sv7 h8744 h8745) ?_)
 refine ws_e1 15 (by kernel_rfl) ?_
 refine nxe [16, 17] (by kernel_rfl) z z ?_
 clear hst
 intro w hst
 replace hst := hst.pull7
 obtain ⟨w8783, hr8784, hst⟩ := hst.own_store (P := prog) (t := 3) (y := x8747) hi8746 0 (.int .i64 x8747) sizeOf3 (Nat.le_of_ble_eq_true z) (oC z oN) (by rintro _ rfl; rfl)
 have hi8785 := set_get hi8746 x8747
 have h8786 := set_lt h8745 z8731.toNat x8747
 refine we_unit z (x_unit hr8784) ?_
 refine ws_next (pend' := [(4, I6 (i64.wrap (z8731 - (1:Int)))), (3, I6 z8731), (2, v7129)]) hst (by kernel_rfl) (pkr z z (fun w hst => z) (pkr z z (fun w hst => z) (pkr z z (fun w hst => z) pk_nil))) ?_
 obtain ⟨x8787, hx8788, hm⟩ := bind_some hm
 obtain ⟨h8789, h8790, hi8791⟩ := geto_some hx8788
 refine wsr (.pointer (some (eAddr v7129 ((i64.wrap (z8731 - (1:Int))).toNat * 1 + 0)))) 16 z z z (by kernel_rfl) (fun w hst => x_index z z underlying69 sizeOf3 hst.sv0 h8789 h8790) ?_
 refine ws_e1 17 (by kernel_rfl) ?_
 refine nxe [] (by kernel_rfl) z z ?_
 clear hst
 intro w hst
 obtain ⟨w8792, hr8793, hst⟩ := hst.own_store (P := prog) (t := 3) (y := x8742) hi8791 0 (.int .i64 x8742) sizeOf3 (Nat.le_of_ble_eq_true z) (oC z oN) (by rintro _ rfl; rfl)
 have hi8794 := set_get hi8791 x8742
 have h8795 := set_lt h8790 (i64.wrap (z8731 - (1:Int))).toNat x8742
 refine we_unit z (x_unit hr8793) ?_
 refine ws_next (pend' := []) hst (by kernel_rfl) pk_nil ?_
 refine ws_nil ?_
 intro w hst
 refine blk_n (tn (wrl ?_))
 refine wv (.int .i64 z8731) z z z (wv (.int .i64 (i64.wrap (z8731 - (1:Int)))) z z z (wv (.int .i64 (i64.wrap (z8731 - (1:Int)))) z z z (wl_nil (tn ?_))))
 replace hst := hst.pull1.pull1.pull7.pull7.pull7.pull7.pull7.pull7.keep8
 obtain rfl := some_inj hm
 exact ⟨_, Nat.lt_succ_self _, (i64.wrap (z8731 - (1:Int))), ((z8732.set z8731.toNat x8747).set (i64.wrap (z8731 - (1:Int))).toNat x8742), _, hx8739, (fu 0 v7129 z (fu 1 (.int .i64 z8238) z (fu 2 (.int .i64 z8239) z (fu 3 (.func (.func 28) #[] #[Pt b5457 0]) z (fu 8 (.int .i64 z8608) z (fu 9 (.int .i64 (i64.wrap (z8731 - (1:Int)))) z z)))))), hst⟩
}
 {
 replace hm := bif_f hc8782 hm
 refine wp_iff (cvb hc8782) ?_
 refine wp_exit (then_x (then_x ?_))
 replace hm := inr_up hm hx8739
 refine blk_x (blk_n (tn (wrl ?_)))
 refine wv (.int .i64 z8608) z z z (wv (.int .i64 (i64.wrap (z8608 + (1:Int)))) z z z (wv (.int .i64 (i64.wrap (z8608 + (1:Int)))) z z z (wl_nil (tn ?_))))
 replace hst := hst.pull7.pull7.pull7.pull7.pull7.pull7.pull7.keep8
 obtain rfl := some_inj hm
 exact ⟨_, Nat.lt_succ_self _, (i64.wrap (z8608 + (1:Int))), z8732, _, hx8616, (fu 0 v7129 z (fu 1 (.int .i64 z8238) z (fu 2 (.int .i64 z8239) z (fu 3 (.func (.func 28) #[] #[Pt b5457 0]) z (fu 8 (.int .i64 (i64.wrap (z8608 + (1:Int)))) z z))))), hst⟩
}
}
 {
 replace hm := bif_f hc8741 hm
 refine ws_q (v := undef) 4 [5, 6, 7, 8, 9, 10, 11, 12, 13, 14, 15, 16] (by kernel_rfl) z z (yi_off ((wanted_eq z z z (cvb hc8741)).trans z)) (ws_q (v := undef) 5 [6, 7, 8, 9, 10, 11, 12, 13, 14, 15, 16] (by kernel_rfl) z z (yi_off ((wanted_eq z z z (cvb hc8741)).trans z)) (ws_q (v := undef) 6 [7, 8, 9, 10, 11, 12, 13, 14, 15, 16] (by kernel_rfl) z z (yi_off ((wanted_eq z z z (cvb hc8741)).trans z)) (ws_q (v := undef) 7 [8, 9, 10, 11, 12, 13, 14, 15, 16] (by kernel_rfl) z z (yi_off ((wanted_eq z z z (cvb hc8741)).trans z)) (ws_q (v := undef) 8 [9, 10, 11, 12, 13, 14, 15, 16] (by kernel_rfl) z z (yi_off ((wanted_eq z z z (cvb hc8741)).trans z)) (ws_q (v := undef) 9 [10, 11, 12, 13, 14, 15, 16] (by kernel_rfl) z z (yi_off ((wanted_eq z z z (cvb hc8741)).trans z)) (ws_q (v := undef) 10 [11, 12, 13, 14, 15, 16] (by kernel_rfl) z z (yi_off ((wanted_eq z z z (cvb hc8741)).trans z)) (ws_q (v := undef) 11 [12, 13, 14, 15, 16] (by kernel_rfl) z z (yi_off ((wanted_eq z z z (cvb hc8741)).trans z)) (ws_q (v := undef) 12 [13, 14, 15, 16] (by kernel_rfl) z z (yi_off ((wanted_eq z z z (cvb hc8741)).trans z)) (ws_q (v := undef) 13 [14, 15, 16] (by kernel_rfl) z z (yi_off ((wanted_eq z z z (cvb hc8741)).trans z)) (ws_q (v := undef) 14 [15, 16] (by kernel_rfl) z z (yi_off ((wanted_eq z z z (cvb hc8741)).trans z)) (ws_q (v := undef) 15 [16] (by kernel_rfl) z z (yi_off ((wanted_eq z z z (cvb hc8741)).trans z)) (wsr (.bool false) 16 z z z (by kernel_rfl) (fun w hst => x_pick_f hc8741 z z) ?_))))))))))))
 refine ws_nil ?_
 intro w hst
 refine tn ?_
 refine wp_iff z ?_
 refine wp_exit (then_x (then_x ?_))
 replace hm := inr_up hm hx8739
 refine blk_x (blk_n (tn (wrl ?_)))
 refine wv (.int .i64 z8608) z z z (wv (.int .i64 (i64.wrap (z8608 + (1:Int)))) z z z (wv (.int .i64 (i64.wrap (z8608 + (1:Int)))) z z z (wl_nil (tn ?_))))
 replace hst := hst.pull7.pull7.pull7.pull7.pull7.pull7.pull7.pull7.keep8
 obtain rfl := some_inj hm
 exact ⟨_, Nat.lt_succ_self _, (i64.wrap (z8608 + (1:Int))), z8732, _, hx8616, (fu 0 v7129 z (fu 1 (.int .i64 z8238) z (fu 2 (.int .i64 z8239) z (fu 3 (.func (.func 28) #[] #[Pt b5457 0]) z (fu 8 (.int .i64 (i64.wrap (z8608 + (1:Int)))) z z))))), hst⟩
}
}
 {
 replace hm := bif_f hc8618 hm
 refine wp_iff (cvb hc8618) ?_
 refine wp_exit (then_x (then_x ?_))
 replace hm := inr_up hm hx8616
 refine blk_x ?_
 refine post_end (vs := []) results41 rvs_nil ?_
 replace hst := hst.pull6.pull6.pull6.pull6.pull6.pull6.pull6.pull7.keep8
 obtain rfl := some_inj hm
 exact ⟨z8609, z, z, hst⟩
}
}
 clear hst
 rintro _ w8800 ⟨z8796, rfl, rfl, hst⟩
 refine ⟨_, z, ?_⟩
 try dsimp only at hm
 refine wl_nil (tn (wp_seq (wrl (wv (.int .i64 z8239) z z z (wv (.int .i64 z8239) z z z (wl_nil (tn (wrl (wv (.int .i64 z8239) z z z (wv (.int .i64 (20:Int)) z z z (wv (.int .i64 (i64.wrap (z8239 + (20:Int)))) z z z (wv (.int .i64 (i64.wrap (z8239 + (20:Int)))) z z z (wl_nil (blk_n (tn ?_)))))))))))))))
 replace hst := hst.pull7.pull7.pull7.pull7.pull7.pull7.pull7.keep8
 obtain rfl := some_inj hm
 exact ⟨_, Nat.lt_succ_self _, z8239, (i64.wrap (z8239 + (20:Int))), z8796, _, hx8247, (fu 0 v7129 z (fu 1 (.int .i64 ((z7110.all).length : Int)) z (fu 2 (.func (.func 28) #[] #[Pt b5457 0]) z (fu 6 (.int .i64 (20:Int)) z (fu 7 (.int .i64 z8239) z (fu 8 (.int .i64 (i64.wrap (z8239 + (20:Int)))) z z)))))), hst⟩
}
 {
 replace hm := bif_f hc8249 hm
 refine wp_iff (cvb hc8249) ?_
 refine wp_exit (then_x (then_x ?_))
 replace hm := inr_up hm hx8247
 refine blk_x (tn ?_)
 replace hst := hst.pull5.pull5.pull5.pull5.pull5.pull5.pull7.pull7.keep8
 obtain rfl := some_inj hm
 exact ⟨z8240, z8238, _, hx8806, (fu 0 v7129 z (fu 1 (.int .i64 ((z7110.all).length : Int)) z (fu 2 (.func (.func 28) #[] #[Pt b5457 0]) z (fu 6 (.int .i64 (20:Int)) z (fu 7 (.int .i64 z8238) z z))))), hst⟩
}
}
 {
 clear hst
 rintro _ w8807 ⟨z8801, z8802, σ8803, hm, rfl, hst⟩
 dsimp only [label_New_j9] at hm
 refine wp_seq (wrl (wv (v7129) z z z (wv (.int .i64 z8802) z z z (wv (.int .i64 ((z7110.all).length : Int)) z z z (wv (.func (.func 28) #[] #[Pt b5457 0]) z z z ?_)))))
 obtain ⟨y9356, hq9357, hm⟩ := bind_some hm
 refine wl_call z z (x_callv call41 (caps := []) z (vs := [v7129, I6 z8802, I6 ((z7110.all).length : Int), .func (.func 28) #[] #[Pt b5457 0]]) z) ?_
 refine Calls.mono (show Calls prog 41 #[v7129, I6 z8802, I6 ((z7110.all).length : Int), .func (.func 28) #[] #[Pt b5457 0]] _ (fun e w' => ∃ (z9354 : (List Int)), z9354 = y9356 ∧ e = .returned (.tuple #[]) ∧ St w0 w' I7111 [cells b5457 [Pt b7118 0], cells b7118 [v7119, v7121, v7123, v7125, v7127, v7129], ownS (tyInt .u64) v7119 z7110.up, ownS (tyInt .u64) v7121 z7110.down, ownS (tySl (tyInt .i64)) v7123 z7110.join, ownS (tySl (tyInt .i64)) v7125 z7110.meet, ownS (tyInt .i64) v7127 z7110.rank, ownS (tyInt .i64) v7129 z9354] R) from ?_) ?_
 {
 clear hm; have hm := hq9357
 refine calls_start (args := [v7129, I6 z8802, I6 ((z7110.all).length : Int), .func (.func 28) #[] #[Pt b5457 0]]) func41 z ntmps41 (Nat.le_of_ble_eq_true z) ?_
 refine wp_seq (wrl (wv (.int .i64 z8802) z z z (wv (.int .i64 (i64.wrap (z8802 + (1:Int)))) z z z (wv (.int .i64 (i64.wrap (z8802 + (1:Int)))) z z z (wl_nil (tn (wp_block ?_)))))))
 obtain ⟨n9169, hm⟩ := loopO_some hm
 refine wp_loop_n (fun n a w => ∃ (z9166 : Int) (z9167 : (List Int)) (σ9168 : Nat → Value), loopN (label_New_l13 z7110 z8802) n (z9166, z9167) = some y9356 ∧ a = Fr 53 (upd (upd (upd (upd (upd σ9168 0 (v7129)) 1 (.int .i64 z8802)) 2 (.int .i64 ((z7110.all).length : Int))) 3 (.func (.func 28) #[] #[Pt b5457 0])) 8 (.int .i64 z9166)) ∧ St w0 w I7111 [ownS (tyInt .i64) v7129 z9167, cells b5457 [Pt b7118 0], cells b7118 [v7119, v7121, v7123, v7125, v7127, v7129], ownS (tyInt .u64) v7119 z7110.up, ownS (tyInt .u64) v7121 z7110.down, ownS (tySl (tyInt .i64)) v7123 z7110.join, ownS (tySl (tyInt .i64)) v7125 z7110.meet, ownS (tyInt .i64) v7127 z7110.rank] R) n9169 ⟨(i64.wrap (z8802 + (1:Int))), z8801, _, hm, (fu 0 v7129 z (fu 1 (.int .i64 z8802) z (fu 2 (.int .i64 ((z7110.all).length : Int)) z (fu 3 (.func (.func 28) #[] #[Pt b5457 0]) z (fu 8 (.int .i64 (i64.wrap (z8802 + (1:Int)))) z z))))), hst⟩ ?_
 rintro n9175 _ w9170 ⟨z9166, z9167, σ9168, hm, rfl, hst⟩
 obtain ⟨n9172, y9173, rfl, hm, hx9174⟩ := loopN_some hm
 dsimp only [label_New_l13] at hm
 refine wp_seq (wp_seq (wrl (wv (.int .i64 z9166) z z z (wv (.int .i64 ((z7110.all).length : Int)) z z z (wv (.bool (decide (z9166 < ((z7110.all).length : Int)))) z z z (wl_nil (tn ?_)))))))
 refine bsplit (decide (z9166 < ((z7110.all).length : Int))) (fun hc9176 => ?_) (fun hc9176 => ?_)
 {
 replace hm := bif_t hc9176 hm
 refine wp_ift (cvb hc9176) ?_
 refine wp_skip (tn (wp_seq (wp_block (wp_seq (wrl ?_)))))
 refine wv (.int .i64 z9166) z z z (wv (.int .i64 z9166) z z z (wl_nil (tn (wp_block ?_))))
 obtain ⟨n9292, hm⟩ := loopO_some hm
 refine wp_loop_n (fun n a w => ∃ (z9289 : Int) (z9290 : (List Int)) (σ9291 : Nat → Value), loopN (label_New_l14 z8802 z7110 z9166) n (z9289, z9290) = some y9173 ∧ a = Fr 53 (upd (upd (upd (upd (upd (upd σ9291 0 (v7129)) 1 (.int .i64 z8802)) 2 (.int .i64 ((z7110.all).length : Int))) 3 (.func (.func 28) #[] #[Pt b5457 0])) 8 (.int .i64 z9166)) 9 (.int .i64 z9289)) ∧ St w0 w I7111 [ownS (tyInt .i64) v7129 z9290, cells b5457 [Pt b7118 0], cells b7118 [v7119, v7121, v7123, v7125, v7127, v7129], ownS (tyInt .u64) v7119 z7110.up, ownS (tyInt .u64) v7121 z7110.down, ownS (tySl (tyInt .i64)) v7123 z7110.join, ownS (tySl (tyInt .i64)) v7125 z7110.meet, ownS (tyInt .i64) v7127 z7110.rank] R) n9292 ⟨z9166, z9167, _, hm, (fu 0 v7129 z (fu 1 (.int .i64 z8802) z (fu 2 (.int .i64 ((z7110.all).length : Int)) z (fu 3 (.func (.func 28) #[] #[Pt b5457 0]) z (fu 8 (.int .i64 z9166) z (fu 9 (.int .i64 z9166) z z)))))), hst⟩ ?_
 rintro n9298 _ w9293 ⟨z9289, z9290, σ9291, hm, rfl, hst⟩
 obtain ⟨n9295, y9296, rfl, hm, hx9297⟩ := loopN_some hm
 dsimp only [label_New_l14] at hm
 refine wp_seq (wp_seq ?_)
 refine wp_region_St hst 17 [0, 1, 2, 3, 4, 5, 6, 7, 8, 9, 10, 11, 12, 13, 14, 15, 16] [0, 0, 3, 7, 15, 15, 15, 111, 239, 15, 15, 1039, 3599, 7695, 16383, 32767, 65535] [] z (by kernel_rfl) (by kernel_rfl) Try.mixed (by kernel_rfl) ?_
 refine wsr (.int .i64 z9289) 0 z z z (by kernel_rfl) (fun w hst => z) (wsr (.int .i64 z8802) 1 z z z (by kernel_rfl) (fun w hst => z) (wsr (.bool (decide (z9289 > z8802))) 2 z z z (by kernel_rfl) (fun w hst => z) (wsr (.bool (decide (z9289 > z8802))) 3 z z z (by kernel_rfl) (fun w hst => z) ?_)))
 refine bsplit (decide (z9289 > z8802)) (fun hc9299 => ?_) (fun hc9299 => ?_)
 {
 replace hm := bif_t hc9299 hm
 refine ws_q (v := .func (.func 28) #[] #[Pt b5457 0]) 4 [5, 6, 7, 8, 9, 10, 11, 12, 13, 14, 15, 16] (by kernel_rfl) z z (yi_run ((wanted_eq z z z (cvb hc9299)).trans z) (fun w hst => z)) (ws_q (v := v7129) 5 [6, 7, 8, 9, 10, 11, 12, 13, 14, 15, 16] (by kernel_rfl) z z (yi_run ((wanted_eq z z z (cvb hc9299)).trans z) (fun w hst => z)) (ws_q (v := .int .i64 z9289) 6 [7, 8, 9, 10, 11, 12, 13, 14, 15, 16] (by kernel_rfl) z z (yi_run ((wanted_eq z z z (cvb hc9299)).trans z) (fun w hst => z)) ?_))
 obtain ⟨x9300, hx9301, hm⟩ := bind_some hm
 obtain ⟨h9302, h9303, hi9304⟩ := geto_some hx9301
 refine ws_q (v := .pointer (some (eAddr v7129 (z9289.toNat * 1 + 0)))) 7 [8, 9, 10, 11, 12, 13, 14, 15, 16] (by kernel_rfl) z z (yi_run ((wanted_eq z z z (cvb hc9299)).trans z) (fun w hst => x_index z z underlying69 sizeOf3 hst.sv0 h9302 h9303)) (ws_q (v := .int .i64 x9300) 8 [9, 10, 11, 12, 13, 14, 15, 16] (by kernel_rfl) z z (yi_run ((wanted_eq z z z (cvb hc9299)).trans z) (fun w hst => x_load z isAgg3 (hst.ol0 hi9304 (by rintro _ rfl; rfl)))) (ws_q (v := v7129) 9 [10, 11, 12, 13, 14, 15, 16] (by kernel_rfl) z z (yi_run ((wanted_eq z z z (cvb hc9299)).trans z) (fun w hst => z)) (ws_q (v := .int .i64 z9289) 10 [11, 12, 13, 14, 15, 16] (by kernel_rfl) z z (yi_run ((wanted_eq z z z (cvb hc9299)).trans z) (fun w hst => z)) (ws_q (v := .int .i64 (i64.wrap (z9289 - (1:Int)))) 11 [12, 13, 14, 15, 16] (by kernel_rfl) z z (yi_run ((wanted_eq z z z (cvb hc9299)).trans z) (fun w hst => z)) ?_))))
 obtain ⟨x9305, hx9306, hm⟩ := bind_some hm
 obtain ⟨h9307, h9308, hi9309⟩ := geto_some hx9306
 refine ws_q (v := .pointer (some (eAddr v7129 ((i64.wrap (z9289 - (1:Int))).toNat * 1 + 0)))) 12 [13, 14, 15, 16] (by kernel_rfl) z z (yi_run ((wanted_eq z z z (cvb hc9299)).trans z) (fun w hst => x_index z z underlying69 sizeOf3 hst.sv0 h9307 h9308)) (ws_q (v := .int .i64 x9305) 13 [14, 15, 16] (by kernel_rfl) z z (yi_run ((wanted_eq z z z (cvb hc9299)).trans z) (fun w hst => x_load z isAgg3 (hst.ol0 hi9309 (by rintro _ rfl; rfl)))) ?_)
 refine ws_e1 14 (by kernel_rfl) ?_
 refine nxe [15, 16] (by kernel_rfl) z ((wanted_eq z z z (cvb hc9299)).trans z) ?_
 clear hst
 intro w hst
 obtain ⟨y9337, hq9338, hm⟩ := bind_some hm
 refine we_call z (x_callv call28 (caps := [Pt b5457 0]) z (vs := [I6 x9300, I6 x9305]) z) ?_
 refine Calls.mono (show Calls prog 28 #[I6 x9300, I6 x9305, Pt b5457 0] _ (fun e w' => ∃ (z9335 : Int), z9335 = y9337 ∧ e = .returned (.int .i64 z9335) ∧ St w0 w' I7111 [cells b5457 [Pt b7118 0], cells b7118 [v7119, v7121, v7123, v7125, v7127, v7129], ownS (tyInt .u64) v7119 z7110.up, ownS (tyInt .u64) v7121 z7110.down, ownS (tySl (tyInt .i64)) v7123 z7110.join, ownS (tySl (tyInt .i64)) v7125 z7110.meet, ownS (tyInt .i64) v7127 z7110.rank, ownS (tyInt .i64) v7129 z9290] R) from ?_) ?_
 {
 clear hm; have hm := hq9338
 refine calls_start (args := [I6 x9300, I6 x9305, Pt b5457 0]) func28 z ntmps28 (Nat.le_of_ble_eq_true z) ?_
 refine wp_seq (wrl (wv (.int .i64 (0:Int)) z z z (wl_nil (tn (wp_seq ?_)))))
 refine wp_region_St hst 18 [0, 1, 2, 3, 4, 5, 6, 7, 8, 9, 10, 11, 12, 13, 14, 15, 16, 17] [0, 1, 3, 7, 0, 31, 63, 127, 0, 256, 768, 1792, 0, 7936, 16128, 32767, 65535, 131071] [] z (by kernel_rfl) (by kernel_rfl) Try.mixed (by kernel_rfl) ?_
 refine wsr (Pt b7118 0) 0 z z z (by kernel_rfl) (fun w hst => x_load z isAgg59 (hst.bc1 z)) (wsr (Pt b7118 0) 1 z z z (by kernel_rfl) (fun w hst => z) (wsr (Pt b7118 1) 2 z z z (by kernel_rfl) (fun w hst => x_field z underlying72 z sizeOf40 z) (wsr (v7121) 3 z z z (by kernel_rfl) (fun w hst => x_load z isAgg40 (hst.bc2 z)) (wsr (.int .i64 x9300) 4 z z z (by kernel_rfl) (fun w hst => z) ?_))))
 obtain ⟨x9310, hx9311, hm⟩ := bind_some hm
 obtain ⟨h9312, h9313, hi9314⟩ := geto_some hx9311
 refine wsr (.pointer (some (eAddr v7121 (x9300.toNat * 1 + 0)))) 5 z z z (by kernel_rfl) (fun w hst => x_index z z underlying40 sizeOf66 hst.sv4 h9312 h9313) (wsr (.int .u64 x9310) 6 z z z (by kernel_rfl) (fun w hst => x_load z isAgg66 (hst.ol4 hi9314 (by rintro _ rfl; rfl))) (wsr (Pt b7118 0) 8 z z z (by kernel_rfl) (fun w hst => x_load z isAgg59 (hst.bc1 z)) (wsr (Pt b7118 0) 9 z z z (by kernel_rfl) (fun w hst => z) (wsr (Pt b7118 1) 10 z z z (by kernel_rfl) (fun w hst => x_field z underlying72 z sizeOf40 z) (wsr (v7121) 11 z z z (by kernel_rfl) (fun w hst => x_load z isAgg40 (hst.bc2 z)) (wsr (.int .i64 x9305) 12 z z z (by kernel_rfl) (fun w hst => z) ?_))))))
 obtain ⟨x9315, hx9316, hm⟩ := bind_some hm
 obtain ⟨h9317, h9318, hi9319⟩ := geto_some hx9316
 refine wsr (.pointer (some (eAddr v7121 (x9305.toNat * 1 + 0)))) 13 z z z (by kernel_rfl) (fun w hst => x_index z z underlying40 sizeOf66 hst.sv4 h9317 h9318) (wsr (.int .u64 x9315) 14 z z z (by kernel_rfl) (fun w hst => x_load z isAgg66 (hst.ol4 hi9319 (by rintro _ rfl; rfl))) ?_)
 refine ws_e1 7 (by kernel_rfl) ?_
 refine nxe [15, 16, 17] (by kernel_rfl) z z ?_
 clear hst
 intro w hst
 obtain ⟨t9320, ht9321, hm⟩ := bind_some hm
 refine wec call30 [U6 x9310] z z ?_
 refine (math_bits_OnesCount64_ref hst.to0 ht9321).mono ?_
 rintro _ w9322 ⟨rfl, hst⟩
 refine ⟨_, z, ?_⟩
 replace hst := hst.of0
 refine ws_next (pend' := [(14, U6 x9315), (13, .pointer (some (eAddr v7121 (x9305.toNat * 1 + 0)))), (12, I6 x9305), (11, v7121), (10, Pt b7118 1), (9, Pt b7118 0), (8, Pt b7118 0)]) hst (by kernel_rfl) (pkr z z (fun w hst => x_load z isAgg66 (hst.ol4 hi9319 (by rintro _ rfl; rfl))) (pkr z z (fun w hst => x_index z z underlying40 sizeOf66 hst.sv4 h9317 h9318) (pkr z z (fun w hst => z) (pkr z z (fun w hst => x_load z isAgg40 (hst.bc2 z)) (pkr z z (fun w hst => x_field z underlying72 z sizeOf40 z) (pkr z z (fun w hst => z) (pkr z z (fun w hst => x_load z isAgg59 (hst.bc1 z)) pk_nil))))))) ?_
 refine ws_e1 15 (by kernel_rfl) ?_
 refine nxe [16, 17] (by kernel_rfl) z z ?_
 clear hst
 intro w hst
 obtain ⟨t9325, ht9326, hm⟩ := bind_some hm
 refine wec call30 [U6 x9315] z z ?_
 refine (math_bits_OnesCount64_ref hst.to0 ht9326).mono ?_
 rintro _ w9327 ⟨rfl, hst⟩
 refine ⟨_, z, ?_⟩
 replace hst := hst.of0
 refine ws_next (pend' := []) hst (by kernel_rfl) pk_nil ?_
 refine ws_e1 16 (by kernel_rfl) ?_
 refine nxe [17] (by kernel_rfl) z z ?_
 clear hst
 intro w hst
 obtain ⟨t9330, ht9331, hm⟩ := bind_some hm
 refine wec call29 [I6 t9320, I6 t9325] z z ?_
 refine (cmp_Compare_int_ref hst.to0 ht9331).mono ?_
 rintro _ w9332 ⟨rfl, hst⟩
 refine ⟨_, z, ?_⟩
 replace hst := hst.of0
 refine ws_next (pend' := []) hst (by kernel_rfl) pk_nil ?_
 refine wsr (.int .i64 t9330) 17 z z z (by kernel_rfl) (fun w hst => z) ?_
 refine ws_nil ?_
 intro w hst
 refine tn (wp_ret ?_)
 refine post_ret (vs := [I6 t9330]) results28 (rvs_cons (rv_tmp z) rvs_nil) ?_
 replace hst := hst.pull7.pull7.pull7.pull7.pull7.pull7.pull7.keep8
 obtain rfl := some_inj hm
 exact ⟨t9330, z, z, hst⟩
}
 clear hst
 rintro _ w9339 ⟨z9335, rfl, rfl, hst⟩
 refine ⟨_, z, ?_⟩
 try dsimp only at hm
 refine ws_next (pend' := []) hst (by kernel_rfl) pk_nil ?_
 refine ws_q (v := .bool (decide (z9335 < (0:Int)))) 15 [16] (by kernel_rfl) z z (yi_run ((wanted_eq z z z (cvb hc9299)).trans z) (fun w hst => z)) (wsr (.bool (decide (z9335 < (0:Int)))) 16 z z z (by kernel_rfl) (fun w hst => x_pick_t hc9299 z z) ?_)
 refine ws_nil ?_
 intro w hst
 refine tn ?_
 refine bsplit (decide (z9335 < (0:Int))) (fun hc9340 => ?_) (fun hc9340 => ?_)
 {
 replace hm := bif_t hc9340 hm
 refine wp_ift (cvb hc9340) ?_
 refine wp_skip (tn (wp_seq (wp_block ?_)))
 refine wp_region_St hst 18 [0, 1, 2, 3, 4, 5, 6, 7, 8, 9, 10, 11, 12, 13, 14, 15, 16, 17] [0, 0, 0, 0, 8, 0, 0, 64, 224, 480, 0, 0, 3072, 7168, 16355, 32739, 65535, 131071] [] z (by kernel_rfl) (by kernel_rfl) Try.mixed (by kernel_rfl) ?_
 refine wsr (v7129) 0 z z z (by kernel_rfl) (fun w hst => z) (wsr (.int .i64 z9289) 1 z z z (by kernel_rfl) (fun w hst => z) (wsr (v7129) 2 z z z (by kernel_rfl) (fun w hst => z) (wsr (.int .i64 z9289) 3 z z z (by kernel_rfl) (fun w hst => z) (wsr (.int .i64 (i64.wrap (z9289 - (1:Int)))) 4 z z z (by kernel_rfl) (fun w hst => z) (wsr (v7129) 5 z z z (by kernel_rfl) (fun w hst => z) (wsr (.int .i64 z9289) 6 z z z (by kernel_rfl) (fun w hst => z) (wsr (.int .i64 (i64.wrap (z9289 - (1:Int)))) 7 z z z (by kernel_rfl) (fun w hst => z) (wsr (.pointer (some (eAddr v7129 ((i64.wrap (z9289 - (1:Int))).toNat * 1 + 0)))) 8 z z z (by kernel_rfl) (fun w hst => x_index z z underlying69 sizeOf3 hst.sv7 h9307 h9308) (wsr (.int .i64 x9305) 9 z z z (by kernel_rfl) (fun w hst => x_load z isAgg3 (hst.ol7 hi9309 (by rintro _ rfl; rfl))) (wsr (v7129) 10 z z z (by kernel_rfl) (fun w hst => z) (wsr (.int .i64 z9289) 11 z z z (by kernel_rfl) (fun w hst => z) (wsr (.pointer (some (eAddr v7129 (z9289.toNat * 1 + 0)))) 12 z z z (by kernel_rfl) (fun w hst => x_index z z underlying69 sizeOf3 hst.sv7 h9302 h9303) ?_))))))))))))
 refine wsr (.int .i64 x9300) 13 z z z (by kernel_rfl) (fun w hst => x_load z isAgg3 (hst.ol7 hi9304 (by rintro _ rfl; rfl))) (wsr (.pointer (some (eAddr v7129 (z9289.toNat * 1 + 0)))) 14 z z z (by kernel_rfl) (fun w hst => x_index z z underlying69 sizeOf3 hst.sv7 h9302 h9303) ?_)
 refine ws_e1 15 (by kernel_rfl) ?_
 refine nxe [16, 17] (by kernel_rfl) z z ?_
 clear hst
 intro w hst
 replace hst := hst.pull7
 obtain ⟨w9341, hr9342, hst⟩ := hst.own_store (P := prog) (t := 3) (y := x9305) hi9304 0 (.int .i64 x9305) sizeOf3 (Nat.le_of_ble_eq_true z) (oC z oN) (by rintro _ rfl; rfl)
 have hi9343 := set_get hi9304 x9305
 have h9344 := set_lt h9303 z9289.toNat x9305
 refine we_unit z (x_unit hr9342) ?_
 refine ws_next (pend' := [(4, I6 (i64.wrap (z9289 - (1:Int)))), (3, I6 z9289), (2, v7129)]) hst (by kernel_rfl) (pkr z z (fun w hst => z) (pkr z z (fun w hst => z) (pkr z z (fun w hst => z) pk_nil))) ?_
 obtain ⟨x9345, hx9346, hm⟩ := bind_some hm
 obtain ⟨h9347, h9348, hi9349⟩ := geto_some hx9346
 refine wsr (.pointer (some (eAddr v7129 ((i64.wrap (z9289 - (1:Int))).toNat * 1 + 0)))) 16 z z z (by kernel_rfl) (fun w hst => x_index z z underlying69 sizeOf3 hst.sv0 h9347 h9348) ?_
 refine ws_e1 17 (by kernel_rfl) ?_
 refine nxe [] (by kernel_rfl) z z ?_
 clear hst
 intro w hst
 obtain ⟨w9350, hr9351, hst⟩ := hst.own_store (P := prog) (t := 3) (y := x9300) hi9349 0 (.int .i64 x9300) sizeOf3 (Nat.le_of_ble_eq_true z) (oC z oN) (by rintro _ rfl; rfl)
 have hi9352 := set_get hi9349 x9300
 have h9353 := set_lt h9348 (i64.wrap (z9289 - (1:Int))).toNat x9300
 refine we_unit z (x_unit hr9351) ?_
 refine ws_next (pend' := []) hst (by kernel_rfl) pk_nil ?_
 refine ws_nil ?_
 intro w hst
 refine blk_n (tn (wrl ?_))
 refine wv (.int .i64 z9289) z z z (wv (.int .i64 (i64.wrap (z9289 - (1:Int)))) z z z (wv (.int .i64 (i64.wrap (z9289 - (1:Int)))) z z z (wl_nil (tn ?_))))
 replace hst := hst.pull7.pull7.pull7.pull7.pull7.pull7.pull7.pull7.keep8
 obtain rfl := some_inj hm
 exact ⟨_, Nat.lt_succ_self _, (i64.wrap (z9289 - (1:Int))), ((z9290.set z9289.toNat x9305).set (i64.wrap (z9289 - (1:Int))).toNat x9300), _, hx9297, (fu 0 v7129 z (fu 1 (.int .i64 z8802) z (fu 2 (.int .i64 ((z7110.all).length : Int)) z (fu 3 (.func (.func 28) #[] #[Pt b5457 0]) z (fu 8 (.int .i64 z9166) z (fu 9 (.int .i64 (i64.wrap (z9289 - (1:Int)))) z z)))))), hst⟩
}
 {
 replace hm := bif_f hc9340 hm
 refine wp_iff (cvb hc9340) ?_
 refine wp_exit (then_x (then_x ?_))
 replace hm := inr_up hm hx9297
 refine blk_x (blk_n (tn (wrl ?_)))
 refine wv (.int .i64 z9166) z z z (wv (.int .i64 (i64.wrap (z9166 + (1:Int)))) z z z (wv (.int .i64 (i64.wrap (z9166 + (1:Int)))) z z z (wl_nil (tn ?_))))
 replace hst := hst.pull6.pull6.pull6.pull6.pull6.pull6.pull6.pull7.keep8
 obtain rfl := some_inj hm
 exact ⟨_, Nat.lt_succ_self _, (i64.wrap (z9166 + (1:Int))), z9290, _, hx9174, (fu 0 v7129 z (fu 1 (.int .i64 z8802) z (fu 2 (.int .i64 ((z7110.all).length : Int)) z (fu 3 (.func (.func 28) #[] #[Pt b5457 0]) z (fu 8 (.int .i64 (i64.wrap (z9166 + (1:Int)))) z z))))), hst⟩
}
}
 {
 replace hm := bif_f hc9299 hm
 refine ws_q (v := undef) 4 [5, 6, 7, 8, 9, 10, 11, 12, 13, 14, 15, 16] (by kernel_rfl) z z (yi_off ((wanted_eq z z z (cvb hc9299)).trans z)) (ws_q (v := undef) 5 [6, 7, 8, 9, 10, 11, 12, 13, 14, 15, 16] (by kernel_rfl) z z (yi_off ((wanted_eq z z z (cvb hc9299)).trans z)) (ws_q (v := undef) 6 [7, 8, 9, 10, 11, 12, 13, 14, 15, 16] (by kernel_rfl) z z (yi_off ((wanted_eq z z z (cvb hc9299)).trans z)) (ws_q (v := undef) 7 [8, 9, 10, 11, 12, 13, 14, 15, 16] (by kernel_rfl) z z (yi_off ((wanted_eq z z z (cvb hc9299)).trans z)) (ws_q (v := undef) 8 [9, 10, 11, 12, 13, 14, 15, 16] (by kernel_rfl) z z (yi_off ((wanted_eq z z z (cvb hc9299)).trans z)) (ws_q (v := undef) 9 [10, 11, 12, 13, 14, 15, 16] (by kernel_rfl) z z (yi_off ((wanted_eq z z z (cvb hc9299)).trans z)) (ws_q (v := undef) 10 [11, 12, 13, 14, 15, 16] (by kernel_rfl) z z (yi_off ((wanted_eq z z z (cvb hc9299)).trans z)) (ws_q (v := undef) 11 [12, 13, 14, 15, 16] (by kernel_rfl) z z (yi_off ((wanted_eq z z z (cvb hc9299)).trans z)) (ws_q (v := undef) 12 [13, 14, 15, 16] (by kernel_rfl) z z (yi_off ((wanted_eq z z z (cvb hc9299)).trans z)) (ws_q (v := undef) 13 [14, 15, 16] (by kernel_rfl) z z (yi_off ((wanted_eq z z z (cvb hc9299)).trans z)) (ws_q (v := undef) 14 [15, 16] (by kernel_rfl) z z (yi_off ((wanted_eq z z z (cvb hc9299)).trans z)) (ws_q (v := undef) 15 [16] (by kernel_rfl) z z (yi_off ((wanted_eq z z z (cvb hc9299)).trans z)) (wsr (.bool false) 16 z z z (by kernel_rfl) (fun w hst => x_pick_f hc9299 z z) ?_))))))))))))
 refine ws_nil ?_
 intro w hst
 refine tn ?_
 refine wp_iff z ?_
 refine wp_exit (then_x (then_x ?_))
 replace hm := inr_up hm hx9297
 refine blk_x (blk_n (tn (wrl ?_)))
 refine wv (.int .i64 z9166) z z z (wv (.int .i64 (i64.wrap (z9166 + (1:Int)))) z z z (wv (.int .i64 (i64.wrap (z9166 + (1:Int)))) z z z (wl_nil (tn ?_))))
 replace hst := hst.pull7.pull7.pull7.pull7.pull7.pull7.pull7.pull7.keep8
 obtain rfl := some_inj hm
 exact ⟨_, Nat.lt_succ_self _, (i64.wrap (z9166 + (1:Int))), z9290, _, hx9174, (fu 0 v7129 z (fu 1 (.int .i64 z8802) z (fu 2 (.int .i64 ((z7110.all).length : Int)) z (fu 3 (.func (.func 28) #[] #[Pt b5457 0]) z (fu 8 (.int .i64 (i64.wrap (z9166 + (1:Int)))) z z))))), hst⟩
}
}
 {
 replace hm := bif_f hc9176 hm
 refine wp_iff (cvb hc9176) ?_
 refine wp_exit (then_x (then_x ?_))
 replace hm := inr_up hm hx9174
 refine blk_x ?_
 refine post_end (vs := []) results41 rvs_nil ?_
 replace hst := hst.pull7.pull7.pull7.pull7.pull7.pull7.pull7.keep8
 obtain rfl := some_inj hm
 exact ⟨z9167, z, z, hst⟩
}
}
 clear hst
 rintro _ w9358 ⟨z9354, rfl, rfl, hst⟩
 refine ⟨_, z, ?_⟩
 try dsimp only at hm
 refine wl_nil (tn (wp_block ?_))
 obtain ⟨n9396, hm⟩ := loopO_some hm
 refine wp_loop_n (fun n a w => ∃ (z9394 : Int) (σ9395 : Nat → Value), loopN (label_New_l15 z7110 z9354) n z9394 = some y9422 ∧ a = Fr 63 (upd (upd (upd (upd σ9395 0 (v7129)) 1 (.int .i64 ((z7110.all).length : Int))) 2 (.func (.func 28) #[] #[Pt b5457 0])) 6 (.int .i64 z9394)) ∧ St w0 w I7111 [cells b5457 [Pt b7118 0], cells b7118 [v7119, v7121, v7123, v7125, v7127, v7129], ownS (tyInt .u64) v7119 z7110.up, ownS (tyInt .u64) v7121 z7110.down, ownS (tySl (tyInt .i64)) v7123 z7110.join, ownS (tySl (tyInt .i64)) v7125 z7110.meet, ownS (tyInt .i64) v7127 z7110.rank, ownS (tyInt .i64) v7129 z9354] R) n9396 ⟨(20:Int), _, hm, (fu 0 v7129 z (fu 1 (.int .i64 ((z7110.all).length : Int)) z (fu 2 (.func (.func 28) #[] #[Pt b5457 0]) z (fu 6 (.int .i64 (20:Int)) z z)))), hst⟩ ?_
 rintro n9402 _ w9397 ⟨z9394, σ9395, hm, rfl, hst⟩
 obtain ⟨n9399, y9400, rfl, hm, hx9401⟩ := loopN_some hm
 dsimp only [label_New_l15] at hm
 refine wp_seq (wp_seq (wrl (wv (.int .i64 z9394) z z z (wv (.int .i64 ((z7110.all).length : Int)) z z z (wv (.bool (decide (z9394 < ((z7110.all).length : Int)))) z z z (wl_nil (tn ?_)))))))
 refine bsplit (decide (z9394 < ((z7110.all).length : Int))) (fun hc9403 => ?_) (fun hc9403 => ?_)
 {
 replace hm := bif_t hc9403 hm
 refine wp_ift (cvb hc9403) ?_
 refine wp_skip (tn (wp_block (wp_seq (wrl ?_))))
 refine wv (.int .i64 z9394) z z z (wv (.int .i64 (i64.wrap ((2:Int) * z9394))) z z z (wv (.int .i64 (0:Int)) z z z (wv (.int .i64 (i64.wrap ((2:Int) * z9394))) z z z (wl_nil (tn ?_)))))
 obtain ⟨y9416, hm, hx9417⟩ := bind_some hm
 refine wp_cut (fun a w => ∃ (σ9414 : Nat → Value), (label_New_j16 z9394 z7110) () = some y9400 ∧ a = Fr 63 (upd (upd (upd (upd (upd σ9414 0 (v7129)) 1 (.int .i64 ((z7110.all).length : Int))) 2 (.func (.func 28) #[] #[Pt b5457 0])) 6 (.int .i64 z9394)) 7 (.int .i64 (0:Int))) ∧ St w0 w I7111 [ownS (tyInt .i64) v7129 z9354, cells b5457 [Pt b7118 0], cells b7118 [v7119, v7121, v7123, v7125, v7127, v7129], ownS (tyInt .u64) v7119 z7110.up, ownS (tyInt .u64) v7121 z7110.down, ownS (tySl (tyInt .i64)) v7123 z7110.join, ownS (tySl (tyInt .i64)) v7125 z7110.meet, ownS (tyInt .i64) v7127 z7110.rank] R) ?_ ?_
 {
 refine wp_block ?_
 obtain ⟨n9406, hm⟩ := loopO_some hm
 refine wp_loop_n (fun n a w => ∃ (σ9405 : Nat → Value), loopN (label_New_l17 z9394 z7110) n () = some y9416 ∧ a = Fr 63 (upd (upd (upd (upd (upd (upd σ9405 0 (v7129)) 1 (.int .i64 ((z7110.all).length : Int))) 2 (.func (.func 28) #[] #[Pt b5457 0])) 6 (.int .i64 z9394)) 7 (.int .i64 (0:Int))) 8 (.int .i64 (i64.wrap ((2:Int) * z9394)))) ∧ St w0 w I7111 [cells b5457 [Pt b7118 0], cells b7118 [v7119, v7121, v7123, v7125, v7127, v7129], ownS (tyInt .u64) v7119 z7110.up, ownS (tyInt .u64) v7121 z7110.down, ownS (tySl (tyInt .i64)) v7123 z7110.join, ownS (tySl (tyInt .i64)) v7125 z7110.meet, ownS (tyInt .i64) v7127 z7110.rank, ownS (tyInt .i64) v7129 z9354] R) n9406 ⟨_, hm, (fu 0 v7129 z (fu 1 (.int .i64 ((z7110.all).length : Int)) z (fu 2 (.func (.func 28) #[] #[Pt b5457 0]) z (fu 6 (.int .i64 z9394) z (fu 7 (.int .i64 (0:Int)) z (fu 8 (.int .i64 (i64.wrap ((2:Int) * z9394))) z z)))))), hst⟩ ?_
 rintro n9412 _ w9407 ⟨σ9405, hm, rfl, hst⟩
 obtain ⟨n9409, y9410, rfl, hm, hx9411⟩ := loopN_some hm
 dsimp only [label_New_l17] at hm
 refine wp_seq (wp_seq (wrl (wv (.int .i64 (i64.wrap ((2:Int) * z9394))) z z z (wv (.int .i64 ((z7110.all).length : Int)) z z z (wv (.bool (decide ((i64.wrap ((2:Int) * z9394)) ≤ ((z7110.all).length : Int)))) z z z (wl_nil (tn ?_)))))))
 refine bsplit (decide ((i64.wrap ((2:Int) * z9394)) ≤ ((z7110.all).length : Int))) (fun hc9413 => ?_) (fun hc9413 => ?_)
 {
 replace hm := bif_t hc9413 hm
 refine wp_ift (cvb hc9413) ?_
 refine wp_skip (tn (wp_block (wp_seq (wrl ?_))))
 refine wv (v7129) z z z (wv (.int .i64 (0:Int)) z z z (wv (.int .i64 (0:Int)) z z z (wv (.int .i64 z9394) z z z (wv (.int .i64 (i64.wrap ((0:Int) + z9394))) z z z (wv (.int .i64 (i64.wrap ((2:Int) * z9394))) z z z (wv (.func (.func 28) #[] #[Pt b5457 0]) z z z ?_))))))
 cases hm
}
 {
 replace hm := bif_f hc9413 hm
 refine wp_iff (cvb hc9413) ?_
 refine wp_exit (then_x (then_x ?_))
 replace hm := inr_up hm hx9411
 refine blk_x (tn ?_)
 replace hst := hst.pull6.pull6.pull6.pull6.pull6.pull6.pull6.pull7.keep8
 obtain rfl := some_inj hm
 exact ⟨_, hx9417, (fu 0 v7129 z (fu 1 (.int .i64 ((z7110.all).length : Int)) z (fu 2 (.func (.func 28) #[] #[Pt b5457 0]) z (fu 6 (.int .i64 z9394) z (fu 7 (.int .i64 (0:Int)) z z))))), hst⟩
}
}
 {
 clear hst
 rintro _ w9418 ⟨σ9414, hm, rfl, hst⟩
 dsimp only [label_New_j16] at hm
 refine wp_seq (wp_seq (wrl (wv (.int .i64 (0:Int)) z z z (wv (.int .i64 z9394) z z z (wv (.int .i64 (i64.wrap ((0:Int) + z9394))) z z z (wv (.int .i64 (i64.wrap ((0:Int) + z9394))) z z z (wl_nil (tn (wp_seq (wrl (wv (.int .i64 (i64.wrap ((0:Int) + z9394))) z z z (wv (.int .i64 ((z7110.all).length : Int)) z z z (wv (.bool (decide ((i64.wrap ((0:Int) + z9394)) < ((z7110.all).length : Int)))) z z z (wl_nil (tn ?_)))))))))))))))
 refine bsplit (decide ((i64.wrap ((0:Int) + z9394)) < ((z7110.all).length : Int))) (fun hc9419 => ?_) (fun hc9419 => ?_)
 {
 replace hm := bif_t hc9419 hm
 refine wp_ift (cvb hc9419) ?_
 refine wrl (wv (v7129) z z z (wv (.int .i64 (0:Int)) z z z (wv (.int .i64 (i64.wrap ((0:Int) + z9394))) z z z (wv (.int .i64 ((z7110.all).length : Int)) z z z (wv (.func (.func 28) #[] #[Pt b5457 0]) z z z ?_)))))
 cases hm
}
 {
 replace hm := bif_f hc9419 hm
 refine wp_iff (cvb hc9419) ?_
 refine wp_skip (tn (wrl ?_))
 refine wv (.int .i64 z9394) z z z (wv (.int .i64 (i64.wrap (z9394 * (2:Int)))) z z z (wv (.int .i64 (i64.wrap (z9394 * (2:Int)))) z z z (wl_nil (blk_n (tn ?_)))))
 replace hst := hst.pull7.pull7.pull7.pull7.pull7.pull7.pull7.keep8
 obtain rfl := some_inj hm
 exact ⟨_, Nat.lt_succ_self _, (i64.wrap (z9394 * (2:Int))), _, hx9401, (fu 0 v7129 z (fu 1 (.int .i64 ((z7110.all).length : Int)) z (fu 2 (.func (.func 28) #[] #[Pt b5457 0]) z (fu 6 (.int .i64 (i64.wrap (z9394 * (2:Int)))) z z)))), hst⟩
}
}
}
 {
 replace hm := bif_f hc9403 hm
 refine wp_iff (cvb hc9403) ?_
 refine wp_exit (then_x (then_x ?_))
 replace hm := inr_up hm hx9401
 refine blk_x ?_
 refine post_end (vs := []) results36 rvs_nil ?_
 replace hst := hst.pull7.pull7.pull7.pull7.pull7.pull7.pull7.pull7.keep8
 obtain rfl := some_inj hm
 exact ⟨z9354, z, z, hst⟩
}
}
}
 clear hst
 rintro _ w9424 ⟨z9420, rfl, rfl, hst⟩
 refine ⟨_, z, ?_⟩
 try dsimp only at hm
 refine wl_nil ?_
 refine post_end (vs := []) results27 rvs_nil ?_
 replace hst := hst.pull7.pull7.pull7.pull7.pull7.pull7.pull7.pull7.keep8
 obtain rfl := some_inj hm
 exact ⟨z9420, z, z, hst⟩
}
 clear hst
 rintro _ w9429 ⟨z9425, rfl, rfl, hst⟩
 refine ⟨_, z, ?_⟩
 try dsimp only at hm
 refine wl_nil (tn (wp_seq (wp_seq (wrl (wv (Pt b7118 0) z z (x_load z isAgg59 (hst.bc0 z)) (wv (Pt b7118 0) z z z (wv (Pt b7118 5) z z (x_field z underlying72 z sizeOf69 z) (wv (v7129) z z (x_load z isAgg69 (hst.bc1 z)) (wv (.int .i64 ((z9425).length : Int)) z z (x_len z underlying69 hst.sv7) (wv (.int .i64 (0:Int)) z z z (wl_nil (tn (wp_block ?_)))))))))))))
 obtain ⟨n9465, hm⟩ := loopO_some hm
 refine wp_loop_n (fun n a w => ∃ (z9462 : Int) (z9463 : (List Int)) (σ9464 : Nat → Value), loopN (label_New_l18 z9425 z7110) n (z9462, z9463) = some r ∧ a = Fr 192 (upd (upd (upd (upd σ9464 5 (Pt b5457 0)) 176 (v7129)) 177 (.int .i64 ((z9425).length : Int))) 178 (.int .i64 z9462)) ∧ St w0 w I7111 [cells b5457 [Pt b7118 0], cells b7118 [v7119, v7121, v7123, v7125, v7127, v7129], ownS (tyInt .u64) v7119 z7110.up, ownS (tyInt .u64) v7121 z7110.down, ownS (tySl (tyInt .i64)) v7123 z7110.join, ownS (tySl (tyInt .i64)) v7125 z7110.meet, ownS (tyInt .i64) v7127 z9463, ownS (tyInt .i64) v7129 z9425] R) n9465 ⟨(0:Int), z7110.rank, _, hm, (fu 5 (Pt b5457 0) z (fu 176 v7129 z (fu 177 (.int .i64 ((z9425).length : Int)) z (fu 178 (.int .i64 (0:Int)) z z)))), hst⟩ ?_
 rintro n9471 _ w9466 ⟨z9462, z9463, σ9464, hm, rfl, hst⟩
 obtain ⟨n9468, y9469, rfl, hm, hx9470⟩ := loopN_some hm
 dsimp only [label_New_l18] at hm
 refine wp_seq (wrl (wv (.bool (decide (z9462 < ((z9425).length : Int)))) z z z (wl_nil (tn (wp_seq ?_)))))
 refine bsplit (decide (z9462 < ((z9425).length : Int))) (fun hc9472 => ?_) (fun hc9472 => ?_)
 {
 replace hm := bif_t hc9472 hm
 refine wp_ift (cvb hc9472) ?_
 refine wp_skip (tn (wp_seq (wp_block (wp_seq (wrl ?_)))))
 refine wv (.int .i64 z9462) z z z ?_
 obtain ⟨x9473, hx9474, hm⟩ := bind_some hm
 obtain ⟨h9475, h9476, hi9477⟩ := geto_some hx9474
 refine wv (.pointer (some (eAddr v7129 (z9462.toNat * 1 + 0)))) z z (x_index z z underlying69 sizeOf3 hst.sv7 h9475 h9476) (wv (.int .i64 x9473) z z (x_load z isAgg3 (hst.ol7 hi9477 (by rintro _ rfl; rfl))) (wv (.int .i64 z9462) z z z (wv (.int .i64 x9473) z z z (wl_nil (tn (wrl (wv (Pt b7118 0) z z (x_load z isAgg59 (hst.bc0 z)) (wv (Pt b7118 0) z z z (wv (Pt b7118 4) z z (x_field z underlying72 z sizeOf69 z) (wv (v7127) z z (x_load z isAgg69 (hst.bc1 z)) (wv (.int .i64 x9473) z z z (wv (.int .i64 z9462) z z z ?_))))))))))))
 obtain ⟨x9478, hx9479, hm⟩ := bind_some hm
 obtain ⟨h9480, h9481, hi9482⟩ := geto_some hx9479
 refine wv (.pointer (some (eAddr v7127 (x9473.toNat * 1 + 0)))) z z (x_index z z underlying69 sizeOf3 hst.sv6 h9480 h9481) ?_
 replace hst := hst.pull6
 obtain ⟨w9483, hr9484, hst⟩ := hst.own_store (P := prog) (t := 3) (y := z9462) hi9482 0 (.int .i64 z9462) sizeOf3 (Nat.le_of_ble_eq_true z) (oC z oN) (by rintro _ rfl; rfl)
 have hi9485 := set_get hi9482 z9462
 have h9486 := set_lt h9481 x9473.toNat z9462
 refine wl_unit z z (x_unit hr9484) ?_
 refine wl_nil (blk_n (tn (wrl (wv (.int .i64 (i64.wrap (z9462 + (1:Int)))) z z z (wv (.int .i64 (i64.wrap (z9462 + (1:Int)))) z z z (wl_nil (tn ?_)))))))
 replace hst := hst.pull7.pull1.pull7.pull7.pull7.pull7.pull7.pull7.keep8
 obtain rfl := some_inj hm
 exact ⟨_, Nat.lt_succ_self _, (i64.wrap (z9462 + (1:Int))), (z9463.set x9473.toNat z9462), _, hx9470, (fu 5 (Pt b5457 0) z (fu 176 v7129 z (fu 177 (.int .i64 ((z9425).length : Int)) z (fu 178 (.int .i64 (i64.wrap (z9462 + (1:Int)))) z z)))), hst⟩
}
 {
 replace hm := bif_f hc9472 hm
 refine wp_iff (cvb hc9472) ?_
 refine wp_exit (then_x (then_x ?_))
 replace hm := inr_up hm hx9470
 refine blk_x (tn (wp_seq (wrl ?_)))
 refine wv (Pt b7118 0) z z (x_load z isAgg59 (hst.bc0 z)) (wv (Pt b7118 0) z z z (wv (.int .i64 (0:Int)) z z z (wl_nil (tn (wp_ret ?_)))))
 replace hst := hst.pull7.pull7.pull7.pull7.pull7.pull7.pull7
 replace hst := at_label_Lattice_close (pv := Pt b7118 0) (x := ({ up := z7110.up, down := z7110.down, join := z7110.join, meet := z7110.meet, rank := z9463, all := z9425 } : label_Lattice)) hst z
 replace hst := objO_some hst
 obtain rfl := some_inj hm
 refine post_ret (vs := [Pt b7118 0, Zi]) results20 (rvs_cons (rv_tmp z) (rvs_cons (rv_tmp z) rvs_nil)) ?_
 exact ⟨_, Pt b7118 0, z, hI0, hst.keep1⟩
}
}
}
}
}
}
}
}

end Go.Proofs.Ytbdbeenkamcglaa
