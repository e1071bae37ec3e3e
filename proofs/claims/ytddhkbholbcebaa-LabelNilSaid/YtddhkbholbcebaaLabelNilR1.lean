/- The Go functions refine their models, part 1. -/
import Derived.Test.YtddhkbholbcebaaLabelNilR0
set_option linter.unusedVariables false
set_option linter.unusedSimpArgs false
set_option maxRecDepth 100000
set_option maxHeartbeats 4000000
namespace Go.Proofs.Ytddhkbholbcebaa
open Go Go.V
open _root_.Go.Proofs.Try IntKind
attribute [local irreducible] wpList Code.wp wpQuiet Calls bodyPost Oper.wp wpS Nx PendOK YieldsIn
theorem label_New_ref {w0 w : World} {I : HL} {R : SP} {a0 : (List Int)} {r0_0 : Value} (f0_0 : Rd (tyInt .u64) R I r0_0 a0) (hst : St w0 w I [] R) {r : (Option label_Lattice × Int)} (hm : label_New a0 = some r) :
  Calls prog 10 #[r0_0] w fun e w' => ∃ (I' : HL) (q0 : Value), e = .returned (.tuple #[q0, I6 r.2]) ∧ I.le I' ∧ St w0 w' I' [objO at_label_Lattice q0 r.1] R := by {
 unfold label_New at hm
 refine calls_start (args := [r0_0]) func10 z ntmps10 (Nat.le_of_ble_eq_true z) ?_
 have hI0 := HL.le.refl I
 refine wp_seq (wrl (wv (.pointer none) z z z (wv (.int .i64 (0:Int)) z z z (wl_nil (tn (wp_seq (wrl (wv (r0_0) z z z (wv (.int .i64 ((a0).length : Int)) z z (x_len z underlying28 (rd_sliceV f0_0)) (wv (.int .i64 ((a0).length : Int)) z z z (wl_nil (tn (wp_seq (wp_seq (wrl (wv (.int .i64 ((a0).length : Int)) z z z (wv (.bool (decide (((a0).length : Int) < (1:Int)))) z z z (wv (.bool (decide (((a0).length : Int) < (1:Int)))) z z z ?_))))))))))))))))))
 refine bsplit (decide (((a0).length : Int) < (1:Int))) (fun hc4716 => ?_) (fun hc4716 => ?_)
 {
 replace hm := bif_t hc4716 hm
 refine wo hc4716 z z z z z z (wo hc4716 z z z z z z (wv (.bool true) z z (x_pick_t hc4716 z z) (wl_nil (tn ?_))))
 refine wp_ift z ?_
 refine wp_seq (wrl (wv (.pointer none) z z z (wv (.int .i64 (1:Int)) z z z (wl_nil (tn (wp_ret (then_r ?_)))))))
 replace hst := hst.objO_nil at_label_Lattice
 obtain rfl := some_inj hm
 refine post_ret (vs := [.pointer none, I6 (1:Int)]) results10 (rvs_cons (rv_tmp z) (rvs_cons (rv_tmp z) rvs_nil)) ?_
 exact ⟨_, .pointer none, z, hI0, hst.keep1⟩
}
 {
 replace hm := bif_f hc4716 hm
 refine wv (.int .i64 ((a0).length : Int)) ((wanted_eq z z z (cvb hc4716)).trans z) z z (wv (.bool (decide (((a0).length : Int) > (16:Int)))) ((wanted_eq z z z (cvb hc4716)).trans z) z z (wv (.bool (decide (((a0).length : Int) > (16:Int)))) z z (x_pick_f hc4716 z z) (wl_nil (tn ?_))))
 refine bsplit (decide (((a0).length : Int) > (16:Int))) (fun hc4718 => ?_) (fun hc4718 => ?_)
 {
 replace hm := bif_t hc4718 hm
 refine wp_ift (cvb hc4718) ?_
 refine wp_seq (wrl (wv (.pointer none) z z z (wv (.int .i64 (1:Int)) z z z (wl_nil (tn (wp_ret (then_r ?_)))))))
 replace hst := hst.objO_nil at_label_Lattice
 obtain rfl := some_inj hm
 refine post_ret (vs := [.pointer none, I6 (1:Int)]) results10 (rvs_cons (rv_tmp z) (rvs_cons (rv_tmp z) rvs_nil)) ?_
 exact ⟨_, .pointer none, z, hI0, hst.keep1⟩
}
 {
 replace hm := bif_f hc4718 hm
 refine wp_iff (cvb hc4718) ?_
 refine wp_skip (tn (wp_seq ?_))
 obtain ⟨y5403, hm, hx5404⟩ := bind_some hm
 refine wp_mid (fun a w => ∃ (z5400 : label_Lattice) (b5397 : Nat) (v5399 : Value) (σ5401 : Nat → Value), (label_New_j0 a0) z5400 = some r ∧ a = Fr 192 (upd (upd (upd σ5401 0 (r0_0)) 4 (.int .i64 ((a0).length : Int))) 5 (Pt b5397 0)) ∧ St w0 w I [cells b5397 [v5399], at_label_Lattice v5399 z5400] R) ?_ ?_
 {
 refine wp_region_St hst 10 [0, 1, 2, 3, 4, 5, 6, 7, 8, 9] [0, 1, 0, 4, 0, 16, 63, 127, 0, 511] [] z (by kernel_rfl) (by kernel_rfl) Try.mixed (by kernel_rfl) ?_
 refine wsr (r0_0) 0 z z z (by kernel_rfl) (fun w hst => z) (wsr (.int .i64 ((a0).length : Int)) 2 z z z (by kernel_rfl) (fun w hst => z) (wsr (.int .i64 ((a0).length : Int)) 4 z z z (by kernel_rfl) (fun w hst => z) ?_))
 obtain ⟨t4720, ht4721, hm⟩ := bind_some hm
 obtain ⟨hg4722, hm⟩ := gd_some hm
 obtain ⟨hg4723, hm⟩ := gd_some hm
 refine ws_e4 1 3 5 8 (by kernel_rfl) ?_ ?_ ?_ ?_
 {
 refine nxe [3, 5, 6, 7, 8, 9] (by kernel_rfl) z z ?_
 clear hst
 intro w hst
 refine wec call25 [r0_0] z z ?_
 refine (slices_Clone_uint64_uint64_ref (f0_0.mono (rd_weak _)) hst.to0 ht4721).mono ?_
 rintro _ w4724 ⟨v4727, rfl, hst⟩
 refine ⟨_, z, ?_⟩
 replace hst := hst.of1
 refine ws_next (pend' := [(4, I6 ((a0).length : Int)), (2, I6 ((a0).length : Int))]) hst (by kernel_rfl) (pkr z z (fun w hst => z) (pkr z z (fun w hst => z) pk_nil)) ?_
 refine ws_e3 3 5 8 (by kernel_rfl) ?_ ?_ ?_
 {
 refine nxe [5, 6, 7, 8, 9] (by kernel_rfl) z z ?_
 clear hst
 intro w hst
 obtain ⟨v4729, w4730, hr4731, hst⟩ := run_mk (k := .i64) (k' := .i64) (zm := (0:Int)) elem_28 hst hg4722 (by decide) z
 refine we_run (v := v4729) (w' := w4730) z (x_make z z hr4731) ?_
 refine ws_next (pend' := [(4, I6 ((a0).length : Int))]) hst (by kernel_rfl) (pkr z z (fun w hst => z) pk_nil) ?_
 refine ws_e2 5 8 (by kernel_rfl) ?_ ?_
 {
 refine nxe [6, 7, 8, 9] (by kernel_rfl) z z ?_
 clear hst
 intro w hst
 obtain ⟨v4733, w4734, hr4735, hst⟩ := run_mk (k := .i64) (k' := .i64) (zm := (0:Int)) elem_41 hst hg4723 (by decide) z
 refine we_run (v := v4733) (w' := w4734) z (x_make z z hr4735) ?_
 refine ws_next (pend' := []) hst (by kernel_rfl) pk_nil ?_
 refine wsr (.agg #[v4727, v4729, Zs, Zs, v4733, Zs]) 6 rfl rfl rfl (by kernel_rfl) (fun w hst => by obtain ⟨_, _, hv_, _⟩ := hst.sv0; rw [hv_]; obtain ⟨_, _, hv_, _⟩ := hst.sv1; rw [hv_]; obtain ⟨_, _, hv_, _⟩ := hst.sv2; rw [hv_]; kernel_rfl) ?_
 refine ws_e2 7 8 (by kernel_rfl) ?_ ?_
 {
 refine nxe [8, 9] (by kernel_rfl) z z ?_
 clear hst
 intro w hst
 obtain ⟨b4743, w4744, ew4745, eb4746, hst⟩ := hst.box [v4727, v4729, Zs, Zs, v4733, Zs] 49
 refine we_run (v := Pt b4743 0) (w' := w4744) z (x_al (by kernel_rfl) ew4745 eb4746) ?_
 refine ws_next (pend' := []) hst (by kernel_rfl) pk_nil ?_
 refine ws_e1 8 (by kernel_rfl) ?_
 refine nxe [9] (by kernel_rfl) z z ?_
 clear hst
 intro w hst
 obtain ⟨b4748, w4749, ew4750, eb4751, hst⟩ := hst.box [.pointer none] 24
 refine we_run (v := Pt b4748 0) (w' := w4749) z (x_al (by kernel_rfl) ew4750 eb4751) ?_
 refine ws_next (pend' := []) hst (by kernel_rfl) pk_nil ?_
 refine ws_e1 9 (by kernel_rfl) ?_
 refine nxe [] (by kernel_rfl) z z ?_
 clear hst
 intro w hst
 obtain ⟨w4753, hr4754, hst⟩ := hst.by_ [Pt b4743 0] 0 (Pt b4743 0) sizeOf24 z (oC z oN) (by kernel_rfl)
 refine we_unit z (x_unit hr4754) ?_
 refine ws_next (pend' := []) hst (by kernel_rfl) pk_nil ?_
 refine ws_nil ?_
 intro w hst
 refine ⟨z, ?_⟩
 replace hst := hst.own_nil (tySl (tyInt .i64))
 replace hst := hst.own_nil (tySl (tyInt .i64))
 replace hst := hst.own_nil (tyInt .i64)
 replace hst := hst.pull5.pull2.pull3.pull6.pull7.pull7
 replace hst := at_label_Lattice_close (pv := Pt b4743 0) (x := ({ up := t4720, down := (List.replicate (Int.toNat ((a0).length : Int)) (0:Int)), join := [], meet := [], rank := (List.replicate (Int.toNat ((a0).length : Int)) (0:Int)), all := [] } : label_Lattice)) hst z
 replace hst := hst.pull1.keep2
 obtain rfl := some_inj hm
 exact ⟨({ up := t4720, down := (List.replicate (Int.toNat ((a0).length : Int)) (0:Int)), join := [], meet := [], rank := (List.replicate (Int.toNat ((a0).length : Int)) (0:Int)), all := [] } : label_Lattice), b4748, (Pt b4743 0), _, hx5404, (fu 0 r0_0 z (fu 4 (.int .i64 ((a0).length : Int)) z (fu 5 (Pt b4748 0) z z))), hst⟩
}
 {
 refine nxe [7, 9] (by kernel_rfl) z z ?_
 clear hst
 intro w hst
 obtain ⟨b4755, w4756, ew4757, eb4758, hst⟩ := hst.box [.pointer none] 24
 refine we_run (v := Pt b4755 0) (w' := w4756) z (x_al (by kernel_rfl) ew4757 eb4758) ?_
 refine ws_next (pend' := [(6, .agg #[v4727, v4729, Zs, Zs, v4733, Zs])]) hst (by kernel_rfl) (pkr rfl rfl (fun w hst => by obtain ⟨_, _, hv_, _⟩ := hst.sv1; rw [hv_]; obtain ⟨_, _, hv_, _⟩ := hst.sv2; rw [hv_]; obtain ⟨_, _, hv_, _⟩ := hst.sv3; rw [hv_]; kernel_rfl) pk_nil) ?_
 refine ws_e1 7 (by kernel_rfl) ?_
 refine nxe [9] (by kernel_rfl) z z ?_
 clear hst
 intro w hst
 obtain ⟨b4760, w4761, ew4762, eb4763, hst⟩ := hst.box [v4727, v4729, Zs, Zs, v4733, Zs] 49
 refine we_run (v := Pt b4760 0) (w' := w4761) z (x_al (by kernel_rfl) ew4762 eb4763) ?_
 refine ws_next (pend' := []) hst (by kernel_rfl) pk_nil ?_
 refine ws_e1 9 (by kernel_rfl) ?_
 refine nxe [] (by kernel_rfl) z z ?_
 clear hst
 intro w hst
 replace hst := hst.pull1
 obtain ⟨w4765, hr4766, hst⟩ := hst.by_ [Pt b4760 0] 0 (Pt b4760 0) sizeOf24 z (oC z oN) (by kernel_rfl)
 refine we_unit z (x_unit hr4766) ?_
 refine ws_next (pend' := []) hst (by kernel_rfl) pk_nil ?_
 refine ws_nil ?_
 intro w hst
 refine ⟨z, ?_⟩
 replace hst := hst.own_nil (tySl (tyInt .i64))
 replace hst := hst.own_nil (tySl (tyInt .i64))
 replace hst := hst.own_nil (tyInt .i64)
 replace hst := hst.pull5.pull2.pull3.pull6.pull7.pull7
 replace hst := at_label_Lattice_close (pv := Pt b4760 0) (x := ({ up := t4720, down := (List.replicate (Int.toNat ((a0).length : Int)) (0:Int)), join := [], meet := [], rank := (List.replicate (Int.toNat ((a0).length : Int)) (0:Int)), all := [] } : label_Lattice)) hst z
 replace hst := hst.pull1.keep2
 obtain rfl := some_inj hm
 exact ⟨({ up := t4720, down := (List.replicate (Int.toNat ((a0).length : Int)) (0:Int)), join := [], meet := [], rank := (List.replicate (Int.toNat ((a0).length : Int)) (0:Int)), all := [] } : label_Lattice), b4755, (Pt b4760 0), _, hx5404, (fu 0 r0_0 z (fu 4 (.int .i64 ((a0).length : Int)) z (fu 5 (Pt b4755 0) z z))), hst⟩
}
}
 {
 refine nxe [5, 6, 7, 9] (by kernel_rfl) z z ?_
 clear hst
 intro w hst
 obtain ⟨b4767, w4768, ew4769, eb4770, hst⟩ := hst.box [.pointer none] 24
 refine we_run (v := Pt b4767 0) (w' := w4768) z (x_al (by kernel_rfl) ew4769 eb4770) ?_
 refine ws_next (pend' := [(4, I6 ((a0).length : Int))]) hst (by kernel_rfl) (pkr z z (fun w hst => z) pk_nil) ?_
 refine ws_e1 5 (by kernel_rfl) ?_
 refine nxe [6, 7, 9] (by kernel_rfl) z z ?_
 clear hst
 intro w hst
 obtain ⟨v4772, w4773, hr4774, hst⟩ := run_mk (k := .i64) (k' := .i64) (zm := (0:Int)) elem_41 hst hg4723 (by decide) z
 refine we_run (v := v4772) (w' := w4773) z (x_make z z hr4774) ?_
 refine ws_next (pend' := []) hst (by kernel_rfl) pk_nil ?_
 refine wsr (.agg #[v4727, v4729, Zs, Zs, v4772, Zs]) 6 rfl rfl rfl (by kernel_rfl) (fun w hst => by obtain ⟨_, _, hv_, _⟩ := hst.sv0; rw [hv_]; obtain ⟨_, _, hv_, _⟩ := hst.sv2; rw [hv_]; obtain ⟨_, _, hv_, _⟩ := hst.sv3; rw [hv_]; kernel_rfl) ?_
 refine ws_e1 7 (by kernel_rfl) ?_
 refine nxe [9] (by kernel_rfl) z z ?_
 clear hst
 intro w hst
 obtain ⟨b4782, w4783, ew4784, eb4785, hst⟩ := hst.box [v4727, v4729, Zs, Zs, v4772, Zs] 49
 refine we_run (v := Pt b4782 0) (w' := w4783) z (x_al (by kernel_rfl) ew4784 eb4785) ?_
 refine ws_next (pend' := []) hst (by kernel_rfl) pk_nil ?_
 refine ws_e1 9 (by kernel_rfl) ?_
 refine nxe [] (by kernel_rfl) z z ?_
 clear hst
 intro w hst
 replace hst := hst.pull2
 obtain ⟨w4787, hr4788, hst⟩ := hst.by_ [Pt b4782 0] 0 (Pt b4782 0) sizeOf24 z (oC z oN) (by kernel_rfl)
 refine we_unit z (x_unit hr4788) ?_
 refine ws_next (pend' := []) hst (by kernel_rfl) pk_nil ?_
 refine ws_nil ?_
 intro w hst
 refine ⟨z, ?_⟩
 replace hst := hst.own_nil (tySl (tyInt .i64))
 replace hst := hst.own_nil (tySl (tyInt .i64))
 replace hst := hst.own_nil (tyInt .i64)
 replace hst := hst.pull5.pull2.pull3.pull6.pull7.pull7
 replace hst := at_label_Lattice_close (pv := Pt b4782 0) (x := ({ up := t4720, down := (List.replicate (Int.toNat ((a0).length : Int)) (0:Int)), join := [], meet := [], rank := (List.replicate (Int.toNat ((a0).length : Int)) (0:Int)), all := [] } : label_Lattice)) hst z
 replace hst := hst.pull1.keep2
 obtain rfl := some_inj hm
 exact ⟨({ up := t4720, down := (List.replicate (Int.toNat ((a0).length : Int)) (0:Int)), join := [], meet := [], rank := (List.replicate (Int.toNat ((a0).length : Int)) (0:Int)), all := [] } : label_Lattice), b4767, (Pt b4782 0), _, hx5404, (fu 0 r0_0 z (fu 4 (.int .i64 ((a0).length : Int)) z (fu 5 (Pt b4767 0) z z))), hst⟩
}
}
 {
 refine nxe [3, 6, 7, 8, 9] (by kernel_rfl) z z ?_
 clear hst
 intro w hst
 obtain ⟨v4789, w4790, hr4791, hst⟩ := run_mk (k := .i64) (k' := .i64) (zm := (0:Int)) elem_41 hst hg4723 (by decide) z
 refine we_run (v := v4789) (w' := w4790) z (x_make z z hr4791) ?_
 refine ws_next (pend' := [(2, I6 ((a0).length : Int))]) hst (by kernel_rfl) (pkr z z (fun w hst => z) pk_nil) ?_
 refine ws_e2 3 8 (by kernel_rfl) ?_ ?_
 {
 refine nxe [6, 7, 8, 9] (by kernel_rfl) z z ?_
 clear hst
 intro w hst
 obtain ⟨v4793, w4794, hr4795, hst⟩ := run_mk (k := .i64) (k' := .i64) (zm := (0:Int)) elem_28 hst hg4722 (by decide) z
 refine we_run (v := v4793) (w' := w4794) z (x_make z z hr4795) ?_
 refine ws_next (pend' := []) hst (by kernel_rfl) pk_nil ?_
 refine wsr (.agg #[v4727, v4793, Zs, Zs, v4789, Zs]) 6 rfl rfl rfl (by kernel_rfl) (fun w hst => by obtain ⟨_, _, hv_, _⟩ := hst.sv1; rw [hv_]; obtain ⟨_, _, hv_, _⟩ := hst.sv0; rw [hv_]; obtain ⟨_, _, hv_, _⟩ := hst.sv2; rw [hv_]; kernel_rfl) ?_
 refine ws_e2 7 8 (by kernel_rfl) ?_ ?_
 {
 refine nxe [8, 9] (by kernel_rfl) z z ?_
 clear hst
 intro w hst
 obtain ⟨b4803, w4804, ew4805, eb4806, hst⟩ := hst.box [v4727, v4793, Zs, Zs, v4789, Zs] 49
 refine we_run (v := Pt b4803 0) (w' := w4804) z (x_al (by kernel_rfl) ew4805 eb4806) ?_
 refine ws_next (pend' := []) hst (by kernel_rfl) pk_nil ?_
 refine ws_e1 8 (by kernel_rfl) ?_
 refine nxe [9] (by kernel_rfl) z z ?_
 clear hst
 intro w hst
 obtain ⟨b4808, w4809, ew4810, eb4811, hst⟩ := hst.box [.pointer none] 24
 refine we_run (v := Pt b4808 0) (w' := w4809) z (x_al (by kernel_rfl) ew4810 eb4811) ?_
 refine ws_next (pend' := []) hst (by kernel_rfl) pk_nil ?_
 refine ws_e1 9 (by kernel_rfl) ?_
 refine nxe [] (by kernel_rfl) z z ?_
 clear hst
 intro w hst
 obtain ⟨w4813, hr4814, hst⟩ := hst.by_ [Pt b4803 0] 0 (Pt b4803 0) sizeOf24 z (oC z oN) (by kernel_rfl)
 refine we_unit z (x_unit hr4814) ?_
 refine ws_next (pend' := []) hst (by kernel_rfl) pk_nil ?_
 refine ws_nil ?_
 intro w hst
 refine ⟨z, ?_⟩
 replace hst := hst.own_nil (tySl (tyInt .i64))
 replace hst := hst.own_nil (tySl (tyInt .i64))
 replace hst := hst.own_nil (tyInt .i64)
 replace hst := hst.pull6.pull2.pull3.pull6.pull7.pull7
 replace hst := at_label_Lattice_close (pv := Pt b4803 0) (x := ({ up := t4720, down := (List.replicate (Int.toNat ((a0).length : Int)) (0:Int)), join := [], meet := [], rank := (List.replicate (Int.toNat ((a0).length : Int)) (0:Int)), all := [] } : label_Lattice)) hst z
 replace hst := hst.pull1.keep2
 obtain rfl := some_inj hm
 exact ⟨({ up := t4720, down := (List.replicate (Int.toNat ((a0).length : Int)) (0:Int)), join := [], meet := [], rank := (List.replicate (Int.toNat ((a0).length : Int)) (0:Int)), all := [] } : label_Lattice), b4808, (Pt b4803 0), _, hx5404, (fu 0 r0_0 z (fu 4 (.int .i64 ((a0).length : Int)) z (fu 5 (Pt b4808 0) z z))), hst⟩
}
 {
 refine nxe [7, 9] (by kernel_rfl) z z ?_
 clear hst
 intro w hst
 obtain ⟨b4815, w4816, ew4817, eb4818, hst⟩ := hst.box [.pointer none] 24
 refine we_run (v := Pt b4815 0) (w' := w4816) z (x_al (by kernel_rfl) ew4817 eb4818) ?_
 refine ws_next (pend' := [(6, .agg #[v4727, v4793, Zs, Zs, v4789, Zs])]) hst (by kernel_rfl) (pkr rfl rfl (fun w hst => by obtain ⟨_, _, hv_, _⟩ := hst.sv2; rw [hv_]; obtain ⟨_, _, hv_, _⟩ := hst.sv1; rw [hv_]; obtain ⟨_, _, hv_, _⟩ := hst.sv3; rw [hv_]; kernel_rfl) pk_nil) ?_
 refine ws_e1 7 (by kernel_rfl) ?_
 refine nxe [9] (by kernel_rfl) z z ?_
 clear hst
 intro w hst
 obtain ⟨b4820, w4821, ew4822, eb4823, hst⟩ := hst.box [v4727, v4793, Zs, Zs, v4789, Zs] 49
 refine we_run (v := Pt b4820 0) (w' := w4821) z (x_al (by kernel_rfl) ew4822 eb4823) ?_
 refine ws_next (pend' := []) hst (by kernel_rfl) pk_nil ?_
 refine ws_e1 9 (by kernel_rfl) ?_
 refine nxe [] (by kernel_rfl) z z ?_
 clear hst
 intro w hst
 replace hst := hst.pull1
 obtain ⟨w4825, hr4826, hst⟩ := hst.by_ [Pt b4820 0] 0 (Pt b4820 0) sizeOf24 z (oC z oN) (by kernel_rfl)
 refine we_unit z (x_unit hr4826) ?_
 refine ws_next (pend' := []) hst (by kernel_rfl) pk_nil ?_
 refine ws_nil ?_
 intro w hst
 refine ⟨z, ?_⟩
 replace hst := hst.own_nil (tySl (tyInt .i64))
 replace hst := hst.own_nil (tySl (tyInt .i64))
 replace hst := hst.own_nil (tyInt .i64)
 replace hst := hst.pull6.pull2.pull3.pull6.pull7.pull7
 replace hst := at_label_Lattice_close (pv := Pt b4820 0) (x := ({ up := t4720, down := (List.replicate (Int.toNat ((a0).length : Int)) (0:Int)), join := [], meet := [], rank := (List.replicate (Int.toNat ((a0).length : Int)) (0:Int)), all := [] } : label_Lattice)) hst z
 replace hst := hst.pull1.keep2
 obtain rfl := some_inj hm
 exact ⟨({ up := t4720, down := (List.replicate (Int.toNat ((a0).length : Int)) (0:Int)), join := [], meet := [], rank := (List.replicate (Int.toNat ((a0).length : Int)) (0:Int)), all := [] } : label_Lattice), b4815, (Pt b4820 0), _, hx5404, (fu 0 r0_0 z (fu 4 (.int .i64 ((a0).length : Int)) z (fu 5 (Pt b4815 0) z z))), hst⟩
}
}
 {
 refine nxe [3, 6, 7, 9] (by kernel_rfl) z z ?_
 clear hst
 intro w hst
 obtain ⟨b4827, w4828, ew4829, eb4830, hst⟩ := hst.box [.pointer none] 24
 refine we_run (v := Pt b4827 0) (w' := w4828) z (x_al (by kernel_rfl) ew4829 eb4830) ?_
 refine ws_next (pend' := [(2, I6 ((a0).length : Int))]) hst (by kernel_rfl) (pkr z z (fun w hst => z) pk_nil) ?_
 refine ws_e1 3 (by kernel_rfl) ?_
 refine nxe [6, 7, 9] (by kernel_rfl) z z ?_
 clear hst
 intro w hst
 obtain ⟨v4832, w4833, hr4834, hst⟩ := run_mk (k := .i64) (k' := .i64) (zm := (0:Int)) elem_28 hst hg4722 (by decide) z
 refine we_run (v := v4832) (w' := w4833) z (x_make z z hr4834) ?_
 refine ws_next (pend' := []) hst (by kernel_rfl) pk_nil ?_
 refine wsr (.agg #[v4727, v4832, Zs, Zs, v4789, Zs]) 6 rfl rfl rfl (by kernel_rfl) (fun w hst => by obtain ⟨_, _, hv_, _⟩ := hst.sv2; rw [hv_]; obtain ⟨_, _, hv_, _⟩ := hst.sv0; rw [hv_]; obtain ⟨_, _, hv_, _⟩ := hst.sv3; rw [hv_]; kernel_rfl) ?_
 refine ws_e1 7 (by kernel_rfl) ?_
 refine nxe [9] (by kernel_rfl) z z ?_
 clear hst
 intro w hst
 obtain ⟨b4842, w4843, ew4844, eb4845, hst⟩ := hst.box [v4727, v4832, Zs, Zs, v4789, Zs] 49
 refine we_run (v := Pt b4842 0) (w' := w4843) z (x_al (by kernel_rfl) ew4844 eb4845) ?_
 refine ws_next (pend' := []) hst (by kernel_rfl) pk_nil ?_
 refine ws_e1 9 (by kernel_rfl) ?_
 refine nxe [] (by kernel_rfl) z z ?_
 clear hst
 intro w hst
 replace hst := hst.pull2
 obtain ⟨w4847, hr4848, hst⟩ := hst.by_ [Pt b4842 0] 0 (Pt b4842 0) sizeOf24 z (oC z oN) (by kernel_rfl)
 refine we_unit z (x_unit hr4848) ?_
 refine ws_next (pend' := []) hst (by kernel_rfl) pk_nil ?_
 refine ws_nil ?_
 intro w hst
 refine ⟨z, ?_⟩
 replace hst := hst.own_nil (tySl (tyInt .i64))
 replace hst := hst.own_nil (tySl (tyInt .i64))
 replace hst := hst.own_nil (tyInt .i64)
 replace hst := hst.pull6.pull2.pull3.pull6.pull7.pull7
 replace hst := at_label_Lattice_close (pv := Pt b4842 0) (x := ({ up := t4720, down := (List.replicate (Int.toNat ((a0).length : Int)) (0:Int)), join := [], meet := [], rank := (List.replicate (Int.toNat ((a0).length : Int)) (0:Int)), all := [] } : label_Lattice)) hst z
 replace hst := hst.pull1.keep2
 obtain rfl := some_inj hm
 exact ⟨({ up := t4720, down := (List.replicate (Int.toNat ((a0).length : Int)) (0:Int)), join := [], meet := [], rank := (List.replicate (Int.toNat ((a0).length : Int)) (0:Int)), all := [] } : label_Lattice), b4827, (Pt b4842 0), _, hx5404, (fu 0 r0_0 z (fu 4 (.int .i64 ((a0).length : Int)) z (fu 5 (Pt b4827 0) z z))), hst⟩
}
}
 {
 refine nxe [3, 5, 6, 7, 9] (by kernel_rfl) z z ?_
 clear hst
 intro w hst
 obtain ⟨b4849, w4850, ew4851, eb4852, hst⟩ := hst.box [.pointer none] 24
 refine we_run (v := Pt b4849 0) (w' := w4850) z (x_al (by kernel_rfl) ew4851 eb4852) ?_
 refine ws_next (pend' := [(4, I6 ((a0).length : Int)), (2, I6 ((a0).length : Int))]) hst (by kernel_rfl) (pkr z z (fun w hst => z) (pkr z z (fun w hst => z) pk_nil)) ?_
 refine ws_e2 3 5 (by kernel_rfl) ?_ ?_
 {
 refine nxe [5, 6, 7, 9] (by kernel_rfl) z z ?_
 clear hst
 intro w hst
 obtain ⟨v4854, w4855, hr4856, hst⟩ := run_mk (k := .i64) (k' := .i64) (zm := (0:Int)) elem_28 hst hg4722 (by decide) z
 refine we_run (v := v4854) (w' := w4855) z (x_make z z hr4856) ?_
 refine ws_next (pend' := [(4, I6 ((a0).length : Int))]) hst (by kernel_rfl) (pkr z z (fun w hst => z) pk_nil) ?_
 refine ws_e1 5 (by kernel_rfl) ?_
 refine nxe [6, 7, 9] (by kernel_rfl) z z ?_
 clear hst
 intro w hst
 obtain ⟨v4858, w4859, hr4860, hst⟩ := run_mk (k := .i64) (k' := .i64) (zm := (0:Int)) elem_41 hst hg4723 (by decide) z
 refine we_run (v := v4858) (w' := w4859) z (x_make z z hr4860) ?_
 refine ws_next (pend' := []) hst (by kernel_rfl) pk_nil ?_
 refine wsr (.agg #[v4727, v4854, Zs, Zs, v4858, Zs]) 6 rfl rfl rfl (by kernel_rfl) (fun w hst => by obtain ⟨_, _, hv_, _⟩ := hst.sv0; rw [hv_]; obtain ⟨_, _, hv_, _⟩ := hst.sv1; rw [hv_]; obtain ⟨_, _, hv_, _⟩ := hst.sv3; rw [hv_]; kernel_rfl) ?_
 refine ws_e1 7 (by kernel_rfl) ?_
 refine nxe [9] (by kernel_rfl) z z ?_
 clear hst
 intro w hst
 obtain ⟨b4868, w4869, ew4870, eb4871, hst⟩ := hst.box [v4727, v4854, Zs, Zs, v4858, Zs] 49
 refine we_run (v := Pt b4868 0) (w' := w4869) z (x_al (by kernel_rfl) ew4870 eb4871) ?_
 refine ws_next (pend' := []) hst (by kernel_rfl) pk_nil ?_
 refine ws_e1 9 (by kernel_rfl) ?_
 refine nxe [] (by kernel_rfl) z z ?_
 clear hst
 intro w hst
 replace hst := hst.pull3
 obtain ⟨w4873, hr4874, hst⟩ := hst.by_ [Pt b4868 0] 0 (Pt b4868 0) sizeOf24 z (oC z oN) (by kernel_rfl)
 refine we_unit z (x_unit hr4874) ?_
 refine ws_next (pend' := []) hst (by kernel_rfl) pk_nil ?_
 refine ws_nil ?_
 intro w hst
 refine ⟨z, ?_⟩
 replace hst := hst.own_nil (tySl (tyInt .i64))
 replace hst := hst.own_nil (tySl (tyInt .i64))
 replace hst := hst.own_nil (tyInt .i64)
 replace hst := hst.pull5.pull2.pull3.pull6.pull7.pull7
 replace hst := at_label_Lattice_close (pv := Pt b4868 0) (x := ({ up := t4720, down := (List.replicate (Int.toNat ((a0).length : Int)) (0:Int)), join := [], meet := [], rank := (List.replicate (Int.toNat ((a0).length : Int)) (0:Int)), all := [] } : label_Lattice)) hst z
 replace hst := hst.pull1.keep2
 obtain rfl := some_inj hm
 exact ⟨({ up := t4720, down := (List.replicate (Int.toNat ((a0).length : Int)) (0:Int)), join := [], meet := [], rank := (List.replicate (Int.toNat ((a0).length : Int)) (0:Int)), all := [] } : label_Lattice), b4849, (Pt b4868 0), _, hx5404, (fu 0 r0_0 z (fu 4 (.int .i64 ((a0).length : Int)) z (fu 5 (Pt b4849 0) z z))), hst⟩
}
 {
 refine nxe [3, 6, 7, 9] (by kernel_rfl) z z ?_
 clear hst
 intro w hst
 obtain ⟨v4875, w4876, hr4877, hst⟩ := run_mk (k := .i64) (k' := .i64) (zm := (0:Int)) elem_41 hst hg4723 (by decide) z
 refine we_run (v := v4875) (w' := w4876) z (x_make z z hr4877) ?_
 refine ws_next (pend' := [(2, I6 ((a0).length : Int))]) hst (by kernel_rfl) (pkr z z (fun w hst => z) pk_nil) ?_
 refine ws_e1 3 (by kernel_rfl) ?_
 refine nxe [6, 7, 9] (by kernel_rfl) z z ?_
 clear hst
 intro w hst
 obtain ⟨v4879, w4880, hr4881, hst⟩ := run_mk (k := .i64) (k' := .i64) (zm := (0:Int)) elem_28 hst hg4722 (by decide) z
 refine we_run (v := v4879) (w' := w4880) z (x_make z z hr4881) ?_
 refine ws_next (pend' := []) hst (by kernel_rfl) pk_nil ?_
 refine wsr (.agg #[v4727, v4879, Zs, Zs, v4875, Zs]) 6 rfl rfl rfl (by kernel_rfl) (fun w hst => by obtain ⟨_, _, hv_, _⟩ := hst.sv1; rw [hv_]; obtain ⟨_, _, hv_, _⟩ := hst.sv0; rw [hv_]; obtain ⟨_, _, hv_, _⟩ := hst.sv3; rw [hv_]; kernel_rfl) ?_
 refine ws_e1 7 (by kernel_rfl) ?_
 refine nxe [9] (by kernel_rfl) z z ?_
 clear hst
 intro w hst
 obtain ⟨b4889, w4890, ew4891, eb4892, hst⟩ := hst.box [v4727, v4879, Zs, Zs, v4875, Zs] 49
 refine we_run (v := Pt b4889 0) (w' := w4890) z (x_al (by kernel_rfl) ew4891 eb4892) ?_
 refine ws_next (pend' := []) hst (by kernel_rfl) pk_nil ?_
 refine ws_e1 9 (by kernel_rfl) ?_
 refine nxe [] (by kernel_rfl) z z ?_
 clear hst
 intro w hst
 replace hst := hst.pull3
 obtain ⟨w4894, hr4895, hst⟩ := hst.by_ [Pt b4889 0] 0 (Pt b4889 0) sizeOf24 z (oC z oN) (by kernel_rfl)
 refine we_unit z (x_unit hr4895) ?_
 refine ws_next (pend' := []) hst (by kernel_rfl) pk_nil ?_
 refine ws_nil ?_
 intro w hst
 refine ⟨z, ?_⟩
 replace hst := hst.own_nil (tySl (tyInt .i64))
 replace hst := hst.own_nil (tySl (tyInt .i64))
 replace hst := hst.own_nil (tyInt .i64)
 replace hst := hst.pull6.pull2.pull3.pull6.pull7.pull7
 replace hst := at_label_Lattice_close (pv := Pt b4889 0) (x := ({ up := t4720, down := (List.replicate (Int.toNat ((a0).length : Int)) (0:Int)), join := [], meet := [], rank := (List.replicate (Int.toNat ((a0).length : Int)) (0:Int)), all := [] } : label_Lattice)) hst z
 replace hst := hst.pull1.keep2
 obtain rfl := some_inj hm
 exact ⟨({ up := t4720, down := (List.replicate (Int.toNat ((a0).length : Int)) (0:Int)), join := [], meet := [], rank := (List.replicate (Int.toNat ((a0).length : Int)) (0:Int)), all := [] } : label_Lattice), b4849, (Pt b4889 0), _, hx5404, (fu 0 r0_0 z (fu 4 (.int .i64 ((a0).length : Int)) z (fu 5 (Pt b4849 0) z z))), hst⟩
}
}
}
 {
 refine nxe [1, 5, 6, 7, 8, 9] (by kernel_rfl) z z ?_
 clear hst
 intro w hst
 obtain ⟨v4896, w4897, hr4898, hst⟩ := run_mk (k := .i64) (k' := .i64) (zm := (0:Int)) elem_28 hst hg4722 (by decide) z
 refine we_run (v := v4896) (w' := w4897) z (x_make z z hr4898) ?_
 refine ws_next (pend' := [(4, I6 ((a0).length : Int)), (0, r0_0)]) hst (by kernel_rfl) (pkr z z (fun w hst => z) (pkr z z (fun w hst => z) pk_nil)) ?_
 refine ws_e3 1 5 8 (by kernel_rfl) ?_ ?_ ?_
 {
 refine nxe [5, 6, 7, 8, 9] (by kernel_rfl) z z ?_
 clear hst
 intro w hst
 refine wec call25 [r0_0] z z ?_
 refine (slices_Clone_uint64_uint64_ref (f0_0.mono (rd_weak _)) hst.to0 ht4721).mono ?_
 rintro _ w4900 ⟨v4903, rfl, hst⟩
 refine ⟨_, z, ?_⟩
 replace hst := hst.of1
 refine ws_next (pend' := [(4, I6 ((a0).length : Int))]) hst (by kernel_rfl) (pkr z z (fun w hst => z) pk_nil) ?_
 refine ws_e2 5 8 (by kernel_rfl) ?_ ?_
 {
 refine nxe [6, 7, 8, 9] (by kernel_rfl) z z ?_
 clear hst
 intro w hst
 obtain ⟨v4905, w4906, hr4907, hst⟩ := run_mk (k := .i64) (k' := .i64) (zm := (0:Int)) elem_41 hst hg4723 (by decide) z
 refine we_run (v := v4905) (w' := w4906) z (x_make z z hr4907) ?_
 refine ws_next (pend' := []) hst (by kernel_rfl) pk_nil ?_
 refine wsr (.agg #[v4903, v4896, Zs, Zs, v4905, Zs]) 6 rfl rfl rfl (by kernel_rfl) (fun w hst => by obtain ⟨_, _, hv_, _⟩ := hst.sv0; rw [hv_]; obtain ⟨_, _, hv_, _⟩ := hst.sv2; rw [hv_]; obtain ⟨_, _, hv_, _⟩ := hst.sv1; rw [hv_]; kernel_rfl) ?_
 refine ws_e2 7 8 (by kernel_rfl) ?_ ?_
 {
 refine nxe [8, 9] (by kernel_rfl) z z ?_
 clear hst
 intro w hst
 obtain ⟨b4915, w4916, ew4917, eb4918, hst⟩ := hst.box [v4903, v4896, Zs, Zs, v4905, Zs] 49
 refine we_run (v := Pt b4915 0) (w' := w4916) z (x_al (by kernel_rfl) ew4917 eb4918) ?_
 refine ws_next (pend' := []) hst (by kernel_rfl) pk_nil ?_
 refine ws_e1 8 (by kernel_rfl) ?_
 refine nxe [9] (by kernel_rfl) z z ?_
 clear hst
 intro w hst
 obtain ⟨b4920, w4921, ew4922, eb4923, hst⟩ := hst.box [.pointer none] 24
 refine we_run (v := Pt b4920 0) (w' := w4921) z (x_al (by kernel_rfl) ew4922 eb4923) ?_
 refine ws_next (pend' := []) hst (by kernel_rfl) pk_nil ?_
 refine ws_e1 9 (by kernel_rfl) ?_
 refine nxe [] (by kernel_rfl) z z ?_
 clear hst
 intro w hst
 obtain ⟨w4925, hr4926, hst⟩ := hst.by_ [Pt b4915 0] 0 (Pt b4915 0) sizeOf24 z (oC z oN) (by kernel_rfl)
 refine we_unit z (x_unit hr4926) ?_
 refine ws_next (pend' := []) hst (by kernel_rfl) pk_nil ?_
 refine ws_nil ?_
 intro w hst
 refine ⟨z, ?_⟩
 replace hst := hst.own_nil (tySl (tyInt .i64))
 replace hst := hst.own_nil (tySl (tyInt .i64))
 replace hst := hst.own_nil (tyInt .i64)
 replace hst := hst.pull5.pull2.pull3.pull7.pull7.pull7
 replace hst := at_label_Lattice_close (pv := Pt b4915 0) (x := ({ up := t4720, down := (List.replicate (Int.toNat ((a0).length : Int)) (0:Int)), join := [], meet := [], rank := (List.replicate (Int.toNat ((a0).length : Int)) (0:Int)), all := [] } : label_Lattice)) hst z
 replace hst := hst.pull1.keep2
 obtain rfl := some_inj hm
 exact ⟨({ up := t4720, down := (List.replicate (Int.toNat ((a0).length : Int)) (0:Int)), join := [], meet := [], rank := (List.replicate (Int.toNat ((a0).length : Int)) (0:Int)), all := [] } : label_Lattice), b4920, (Pt b4915 0), _, hx5404, (fu 0 r0_0 z (fu 4 (.int .i64 ((a0).length : Int)) z (fu 5 (Pt b4920 0) z z))), hst⟩
}
 {
 refine nxe [7, 9] (by kernel_rfl) z z ?_
 clear hst
 intro w hst
 obtain ⟨b4927, w4928, ew4929, eb4930, hst⟩ := hst.box [.pointer none] 24
 refine we_run (v := Pt b4927 0) (w' := w4928) z (x_al (by kernel_rfl) ew4929 eb4930) ?_
 refine ws_next (pend' := [(6, .agg #[v4903, v4896, Zs, Zs, v4905, Zs])]) hst (by kernel_rfl) (pkr rfl rfl (fun w hst => by obtain ⟨_, _, hv_, _⟩ := hst.sv1; rw [hv_]; obtain ⟨_, _, hv_, _⟩ := hst.sv3; rw [hv_]; obtain ⟨_, _, hv_, _⟩ := hst.sv2; rw [hv_]; kernel_rfl) pk_nil) ?_
 refine ws_e1 7 (by kernel_rfl) ?_
 refine nxe [9] (by kernel_rfl) z z ?_
 clear hst
 intro w hst
 obtain ⟨b4932, w4933, ew4934, eb4935, hst⟩ := hst.box [v4903, v4896, Zs, Zs, v4905, Zs] 49
 refine we_run (v := Pt b4932 0) (w' := w4933) z (x_al (by kernel_rfl) ew4934 eb4935) ?_
 refine ws_next (pend' := []) hst (by kernel_rfl) pk_nil ?_
 refine ws_e1 9 (by kernel_rfl) ?_
 refine nxe [] (by kernel_rfl) z z ?_
 clear hst
 intro w hst
 replace hst := hst.pull1
 obtain ⟨w4937, hr4938, hst⟩ := hst.by_ [Pt b4932 0] 0 (Pt b4932 0) sizeOf24 z (oC z oN) (by kernel_rfl)
 refine we_unit z (x_unit hr4938) ?_
 refine ws_next (pend' := []) hst (by kernel_rfl) pk_nil ?_
 refine ws_nil ?_
 intro w hst
 refine ⟨z, ?_⟩
 replace hst := hst.own_nil (tySl (tyInt .i64))
 replace hst := hst.own_nil (tySl (tyInt .i64))
 replace hst := hst.own_nil (tyInt .i64)
 replace hst := hst.pull5.pull2.pull3.pull7.pull7.pull7
 replace hst := at_label_Lattice_close (pv := Pt b4932 0) (x := ({ up := t4720, down := (List.replicate (Int.toNat ((a0).length : Int)) (0:Int)), join := [], meet := [], rank := (List.replicate (Int.toNat ((a0).length : Int)) (0:Int)), all := [] } : label_Lattice)) hst z
 replace hst := hst.pull1.keep2
 obtain rfl := some_inj hm
 exact ⟨({ up := t4720, down := (List.replicate (Int.toNat ((a0).length : Int)) (0:Int)), join := [], meet := [], rank := (List.replicate (Int.toNat ((a0).length : Int)) (0:Int)), all := [] } : label_Lattice), b4927, (Pt b4932 0), _, hx5404, (fu 0 r0_0 z (fu 4 (.int .i64 ((a0).length : Int)) z (fu 5 (Pt b4927 0) z z))), hst⟩
}
}
 {
 refine nxe [5, 6, 7, 9] (by kernel_rfl) z z ?_
 clear hst
 intro w hst
 obtain ⟨b4939, w4940, ew4941, eb4942, hst⟩ := hst.box [.pointer none] 24
 refine we_run (v := Pt b4939 0) (w' := w4940) z (x_al (by kernel_rfl) ew4941 eb4942) ?_
 refine ws_next (pend' := [(4, I6 ((a0).length : Int))]) hst (by kernel_rfl) (pkr z z (fun w hst => z) pk_nil) ?_
 refine ws_e1 5 (by kernel_rfl) ?_
 refine nxe [6, 7, 9] (by kernel_rfl) z z ?_
 clear hst
 intro w hst
 obtain ⟨v4944, w4945, hr4946, hst⟩ := run_mk (k := .i64) (k' := .i64) (zm := (0:Int)) elem_41 hst hg4723 (by decide) z
 refine we_run (v := v4944) (w' := w4945) z (x_make z z hr4946) ?_
 refine ws_next (pend' := []) hst (by kernel_rfl) pk_nil ?_
 refine wsr (.agg #[v4903, v4896, Zs, Zs, v4944, Zs]) 6 rfl rfl rfl (by kernel_rfl) (fun w hst => by obtain ⟨_, _, hv_, _⟩ := hst.sv0; rw [hv_]; obtain ⟨_, _, hv_, _⟩ := hst.sv3; rw [hv_]; obtain ⟨_, _, hv_, _⟩ := hst.sv2; rw [hv_]; kernel_rfl) ?_
 refine ws_e1 7 (by kernel_rfl) ?_
 refine nxe [9] (by kernel_rfl) z z ?_
 clear hst
 intro w hst
 obtain ⟨b4954, w4955, ew4956, eb4957, hst⟩ := hst.box [v4903, v4896, Zs, Zs, v4944, Zs] 49
 refine we_run (v := Pt b4954 0) (w' := w4955) z (x_al (by kernel_rfl) ew4956 eb4957) ?_
 refine ws_next (pend' := []) hst (by kernel_rfl) pk_nil ?_
 refine ws_e1 9 (by kernel_rfl) ?_
 refine nxe [] (by kernel_rfl) z z ?_
 clear hst
 intro w hst
 replace hst := hst.pull2
 obtain ⟨w4959, hr4960, hst⟩ := hst.by_ [Pt b4954 0] 0 (Pt b4954 0) sizeOf24 z (oC z oN) (by kernel_rfl)
 refine we_unit z (x_unit hr4960) ?_
 refine ws_next (pend' := []) hst (by kernel_rfl) pk_nil ?_
 refine ws_nil ?_
 intro w hst
 refine ⟨z, ?_⟩
 replace hst := hst.own_nil (tySl (tyInt .i64))
 replace hst := hst.own_nil (tySl (tyInt .i64))
 replace hst := hst.own_nil (tyInt .i64)
 replace hst := hst.pull5.pull2.pull3.pull7.pull7.pull7
 replace hst := at_label_Lattice_close (pv := Pt b4954 0) (x := ({ up := t4720, down := (List.replicate (Int.toNat ((a0).length : Int)) (0:Int)), join := [], meet := [], rank := (List.replicate (Int.toNat ((a0).length : Int)) (0:Int)), all := [] } : label_Lattice)) hst z
 replace hst := hst.pull1.keep2
 obtain rfl := some_inj hm
 exact ⟨({ up := t4720, down := (List.replicate (Int.toNat ((a0).length : Int)) (0:Int)), join := [], meet := [], rank := (List.replicate (Int.toNat ((a0).length : Int)) (0:Int)), all := [] } : label_Lattice), b4939, (Pt b4954 0), _, hx5404, (fu 0 r0_0 z (fu 4 (.int .i64 ((a0).length : Int)) z (fu 5 (Pt b4939 0) z z))), hst⟩
}
}
 {
 refine nxe [1, 6, 7, 8, 9] (by kernel_rfl) z z ?_
 clear hst
 intro w hst
 obtain ⟨v4961, w4962, hr4963, hst⟩ := run_mk (k := .i64) (k' := .i64) (zm := (0:Int)) elem_41 hst hg4723 (by decide) z
 refine we_run (v := v4961) (w' := w4962) z (x_make z z hr4963) ?_
 refine ws_next (pend' := [(0, r0_0)]) hst (by kernel_rfl) (pkr z z (fun w hst => z) pk_nil) ?_
 refine ws_e2 1 8 (by kernel_rfl) ?_ ?_
 {
 refine nxe [6, 7, 8, 9] (by kernel_rfl) z z ?_
 clear hst
 intro w hst
 refine wec call25 [r0_0] z z ?_
 refine (slices_Clone_uint64_uint64_ref (f0_0.mono (rd_weak _)) hst.to0 ht4721).mono ?_
 rintro _ w4965 ⟨v4968, rfl, hst⟩
 refine ⟨_, z, ?_⟩
 replace hst := hst.of1
 refine ws_next (pend' := []) hst (by kernel_rfl) pk_nil ?_
 refine wsr (.agg #[v4968, v4896, Zs, Zs, v4961, Zs]) 6 rfl rfl rfl (by kernel_rfl) (fun w hst => by obtain ⟨_, _, hv_, _⟩ := hst.sv1; rw [hv_]; obtain ⟨_, _, hv_, _⟩ := hst.sv2; rw [hv_]; obtain ⟨_, _, hv_, _⟩ := hst.sv0; rw [hv_]; kernel_rfl) ?_
 refine ws_e2 7 8 (by kernel_rfl) ?_ ?_
 {
 refine nxe [8, 9] (by kernel_rfl) z z ?_
 clear hst
 intro w hst
 obtain ⟨b4976, w4977, ew4978, eb4979, hst⟩ := hst.box [v4968, v4896, Zs, Zs, v4961, Zs] 49
 refine we_run (v := Pt b4976 0) (w' := w4977) z (x_al (by kernel_rfl) ew4978 eb4979) ?_
 refine ws_next (pend' := []) hst (by kernel_rfl) pk_nil ?_
 refine ws_e1 8 (by kernel_rfl) ?_
 refine nxe [9] (by kernel_rfl) z z ?_
 clear hst
 intro w hst
 obtain ⟨b4981, w4982, ew4983, eb4984, hst⟩ := hst.box [.pointer none] 24
 refine we_run (v := Pt b4981 0) (w' := w4982) z (x_al (by kernel_rfl) ew4983 eb4984) ?_
 refine ws_next (pend' := []) hst (by kernel_rfl) pk_nil ?_
 refine ws_e1 9 (by kernel_rfl) ?_
 refine nxe [] (by kernel_rfl) z z ?_
 clear hst
 intro w hst
 obtain ⟨w4986, hr4987, hst⟩ := hst.by_ [Pt b4976 0] 0 (Pt b4976 0) sizeOf24 z (oC z oN) (by kernel_rfl)
 refine we_unit z (x_unit hr4987) ?_
 refine ws_next (pend' := []) hst (by kernel_rfl) pk_nil ?_
 refine ws_nil ?_
 intro w hst
 refine ⟨z, ?_⟩
 replace hst := hst.own_nil (tySl (tyInt .i64))
 replace hst := hst.own_nil (tySl (tyInt .i64))
 replace hst := hst.own_nil (tyInt .i64)
 replace hst := hst.pull6.pull2.pull3.pull7.pull7.pull7
 replace hst := at_label_Lattice_close (pv := Pt b4976 0) (x := ({ up := t4720, down := (List.replicate (Int.toNat ((a0).length : Int)) (0:Int)), join := [], meet := [], rank := (List.replicate (Int.toNat ((a0).length : Int)) (0:Int)), all := [] } : label_Lattice)) hst z
 replace hst := hst.pull1.keep2
 obtain rfl := some_inj hm
 exact ⟨({ up := t4720, down := (List.replicate (Int.toNat ((a0).length : Int)) (0:Int)), join := [], meet := [], rank := (List.replicate (Int.toNat ((a0).length : Int)) (0:Int)), all := [] } : label_Lattice), b4981, (Pt b4976 0), _, hx5404, (fu 0 r0_0 z (fu 4 (.int .i64 ((a0).length : Int)) z (fu 5 (Pt b4981 0) z z))), hst⟩
}
 {
 refine nxe [7, 9] (by kernel_rfl) z z ?_
 clear hst
 intro w hst
 obtain ⟨b4988, w4989, ew4990, eb4991, hst⟩ := hst.box [.pointer none] 24
 refine we_run (v := Pt b4988 0) (w' := w4989) z (x_al (by kernel_rfl) ew4990 eb4991) ?_
 refine ws_next (pend' := [(6, .agg #[v4968, v4896, Zs, Zs, v4961, Zs])]) hst (by kernel_rfl) (pkr rfl rfl (fun w hst => by obtain ⟨_, _, hv_, _⟩ := hst.sv2; rw [hv_]; obtain ⟨_, _, hv_, _⟩ := hst.sv3; rw [hv_]; obtain ⟨_, _, hv_, _⟩ := hst.sv1; rw [hv_]; kernel_rfl) pk_nil) ?_
 refine ws_e1 7 (by kernel_rfl) ?_
 refine nxe [9] (by kernel_rfl) z z ?_
 clear hst
 intro w hst
 obtain ⟨b4993, w4994, ew4995, eb4996, hst⟩ := hst.box [v4968, v4896, Zs, Zs, v4961, Zs] 49
 refine we_run (v := Pt b4993 0) (w' := w4994) z (x_al (by kernel_rfl) ew4995 eb4996) ?_
 refine ws_next (pend' := []) hst (by kernel_rfl) pk_nil ?_
 refine ws_e1 9 (by kernel_rfl) ?_
 refine nxe [] (by kernel_rfl) z z ?_
 clear hst
 intro w hst
 replace hst := hst.pull1
 obtain ⟨w4998, hr4999, hst⟩ := hst.by_ [Pt b4993 0] 0 (Pt b4993 0) sizeOf24 z (oC z oN) (by kernel_rfl)
 refine we_unit z (x_unit hr4999) ?_
 refine ws_next (pend' := []) hst (by kernel_rfl) pk_nil ?_
 refine ws_nil ?_
 intro w hst
 refine ⟨z, ?_⟩
 replace hst := hst.own_nil (tySl (tyInt .i64))
 replace hst := hst.own_nil (tySl (tyInt .i64))
 replace hst := hst.own_nil (tyInt .i64)
 replace hst := hst.pull6.pull2.pull3.pull7.pull7.pull7
 replace hst := at_label_Lattice_close (pv := Pt b4993 0) (x := ({ up := t4720, down := (List.replicate (Int.toNat ((a0).length : Int)) (0:Int)), join := [], meet := [], rank := (List.replicate (Int.toNat ((a0).length : Int)) (0:Int)), all := [] } : label_Lattice)) hst z
 replace hst := hst.pull1.keep2
 obtain rfl := some_inj hm
 exact ⟨({ up := t4720, down := (List.replicate (Int.toNat ((a0).length : Int)) (0:Int)), join := [], meet := [], rank := (List.replicate (Int.toNat ((a0).length : Int)) (0:Int)), all := [] } : label_Lattice), b4988, (Pt b4993 0), _, hx5404, (fu 0 r0_0 z (fu 4 (.int .i64 ((a0).length : Int)) z (fu 5 (Pt b4988 0) z z))), hst⟩
}
}
 {
 refine nxe [1, 6, 7, 9] (by kernel_rfl) z z ?_
 clear hst
 intro w hst
 obtain ⟨b5000, w5001, ew5002, eb5003, hst⟩ := hst.box [.pointer none] 24
 refine we_run (v := Pt b5000 0) (w' := w5001) z (x_al (by kernel_rfl) ew5002 eb5003) ?_
 refine ws_next (pend' := [(0, r0_0)]) hst (by kernel_rfl) (pkr z z (fun w hst => z) pk_nil) ?_
 refine ws_e1 1 (by kernel_rfl) ?_
 refine nxe [6, 7, 9] (by kernel_rfl) z z ?_
 clear hst
 intro w hst
 refine wec call25 [r0_0] z z ?_
 refine (slices_Clone_uint64_uint64_ref (f0_0.mono (rd_weak _)) hst.to0 ht4721).mono ?_
 rintro _ w5005 ⟨v5008, rfl, hst⟩
 refine ⟨_, z, ?_⟩
 replace hst := hst.of1
 refine ws_next (pend' := []) hst (by kernel_rfl) pk_nil ?_
 refine wsr (.agg #[v5008, v4896, Zs, Zs, v4961, Zs]) 6 rfl rfl rfl (by kernel_rfl) (fun w hst => by obtain ⟨_, _, hv_, _⟩ := hst.sv2; rw [hv_]; obtain ⟨_, _, hv_, _⟩ := hst.sv3; rw [hv_]; obtain ⟨_, _, hv_, _⟩ := hst.sv0; rw [hv_]; kernel_rfl) ?_
 refine ws_e1 7 (by kernel_rfl) ?_
 refine nxe [9] (by kernel_rfl) z z ?_
 clear hst
 intro w hst
 obtain ⟨b5016, w5017, ew5018, eb5019, hst⟩ := hst.box [v5008, v4896, Zs, Zs, v4961, Zs] 49
 refine we_run (v := Pt b5016 0) (w' := w5017) z (x_al (by kernel_rfl) ew5018 eb5019) ?_
 refine ws_next (pend' := []) hst (by kernel_rfl) pk_nil ?_
 refine ws_e1 9 (by kernel_rfl) ?_
 refine nxe [] (by kernel_rfl) z z ?_
 clear hst
 intro w hst
 replace hst := hst.pull2
 obtain ⟨w5021, hr5022, hst⟩ := hst.by_ [Pt b5016 0] 0 (Pt b5016 0) sizeOf24 z (oC z oN) (by kernel_rfl)
 refine we_unit z (x_unit hr5022) ?_
 refine ws_next (pend' := []) hst (by kernel_rfl) pk_nil ?_
 refine ws_nil ?_
 intro w hst
 refine ⟨z, ?_⟩
 replace hst := hst.own_nil (tySl (tyInt .i64))
 replace hst := hst.own_nil (tySl (tyInt .i64))
 replace hst := hst.own_nil (tyInt .i64)
 replace hst := hst.pull6.pull2.pull3.pull7.pull7.pull7
 replace hst := at_label_Lattice_close (pv := Pt b5016 0) (x := ({ up := t4720, down := (List.replicate (Int.toNat ((a0).length : Int)) (0:Int)), join := [], meet := [], rank := (List.replicate (Int.toNat ((a0).length : Int)) (0:Int)), all := [] } : label_Lattice)) hst z
 replace hst := hst.pull1.keep2
 obtain rfl := some_inj hm
 exact ⟨({ up := t4720, down := (List.replicate (Int.toNat ((a0).length : Int)) (0:Int)), join := [], meet := [], rank := (List.replicate (Int.toNat ((a0).length : Int)) (0:Int)), all := [] } : label_Lattice), b5000, (Pt b5016 0), _, hx5404, (fu 0 r0_0 z (fu 4 (.int .i64 ((a0).length : Int)) z (fu 5 (Pt b5000 0) z z))), hst⟩
}
}
 {
 refine nxe [1, 5, 6, 7, 9] (by kernel_rfl) z z ?_
 clear hst
 intro w hst
 obtain ⟨b5023, w5024, ew5025, eb5026, hst⟩ := hst.box [.pointer none] 24
 refine we_run (v := Pt b5023 0) (w' := w5024) z (x_al (by kernel_rfl) ew5025 eb5026) ?_
 refine ws_next (pend' := [(4, I6 ((a0).length : Int)), (0, r0_0)]) hst (by kernel_rfl) (pkr z z (fun w hst => z) (pkr z z (fun w hst => z) pk_nil)) ?_
 refine ws_e2 1 5 (by kernel_rfl) ?_ ?_
 {
 refine nxe [5, 6, 7, 9] (by kernel_rfl) z z ?_
 clear hst
 intro w hst
 refine wec call25 [r0_0] z z ?_
 refine (slices_Clone_uint64_uint64_ref (f0_0.mono (rd_weak _)) hst.to0 ht4721).mono ?_
 rintro _ w5028 ⟨v5031, rfl, hst⟩
 refine ⟨_, z, ?_⟩
 replace hst := hst.of1
 refine ws_next (pend' := [(4, I6 ((a0).length : Int))]) hst (by kernel_rfl) (pkr z z (fun w hst => z) pk_nil) ?_
 refine ws_e1 5 (by kernel_rfl) ?_
 refine nxe [6, 7, 9] (by kernel_rfl) z z ?_
 clear hst
 intro w hst
 obtain ⟨v5033, w5034, hr5035, hst⟩ := run_mk (k := .i64) (k' := .i64) (zm := (0:Int)) elem_41 hst hg4723 (by decide) z
 refine we_run (v := v5033) (w' := w5034) z (x_make z z hr5035) ?_
 refine ws_next (pend' := []) hst (by kernel_rfl) pk_nil ?_
 refine wsr (.agg #[v5031, v4896, Zs, Zs, v5033, Zs]) 6 rfl rfl rfl (by kernel_rfl) (fun w hst => by obtain ⟨_, _, hv_, _⟩ := hst.sv0; rw [hv_]; obtain ⟨_, _, hv_, _⟩ := hst.sv3; rw [hv_]; obtain ⟨_, _, hv_, _⟩ := hst.sv1; rw [hv_]; kernel_rfl) ?_
 refine ws_e1 7 (by kernel_rfl) ?_
 refine nxe [9] (by kernel_rfl) z z ?_
 clear hst
 intro w hst
 obtain ⟨b5043, w5044, ew5045, eb5046, hst⟩ := hst.box [v5031, v4896, Zs, Zs, v5033, Zs] 49
 refine we_run (v := Pt b5043 0) (w' := w5044) z (x_al (by kernel_rfl) ew5045 eb5046) ?_
 refine ws_next (pend' := []) hst (by kernel_rfl) pk_nil ?_
 refine ws_e1 9 (by kernel_rfl) ?_
 refine nxe [] (by kernel_rfl) z z ?_
 clear hst
 intro w hst
 replace hst := hst.pull3
 obtain ⟨w5048, hr5049, hst⟩ := hst.by_ [Pt b5043 0] 0 (Pt b5043 0) sizeOf24 z (oC z oN) (by kernel_rfl)
 refine we_unit z (x_unit hr5049) ?_
 refine ws_next (pend' := []) hst (by kernel_rfl) pk_nil ?_
 refine ws_nil ?_
 intro w hst
 refine ⟨z, ?_⟩
 replace hst := hst.own_nil (tySl (tyInt .i64))
 replace hst := hst.own_nil (tySl (tyInt .i64))
 replace hst := hst.own_nil (tyInt .i64)
 replace hst := hst.pull5.pull2.pull3.pull7.pull7.pull7
 replace hst := at_label_Lattice_close (pv := Pt b5043 0) (x := ({ up := t4720, down := (List.replicate (Int.toNat ((a0).length : Int)) (0:Int)), join := [], meet := [], rank := (List.replicate (Int.toNat ((a0).length : Int)) (0:Int)), all := [] } : label_Lattice)) hst z
 replace hst := hst.pull1.keep2
 obtain rfl := some_inj hm
 exact ⟨({ up := t4720, down := (List.replicate (Int.toNat ((a0).length : Int)) (0:Int)), join := [], meet := [], rank := (List.replicate (Int.toNat ((a0).length : Int)) (0:Int)), all := [] } : label_Lattice), b5023, (Pt b5043 0), _, hx5404, (fu 0 r0_0 z (fu 4 (.int .i64 ((a0).length : Int)) z (fu 5 (Pt b5023 0) z z))), hst⟩
}
 {
 refine nxe [1, 6, 7, 9] (by kernel_rfl) z z ?_
 clear hst
 intro w hst
 obtain ⟨v5050, w5051, hr5052, hst⟩ := run_mk (k := .i64) (k' := .i64) (zm := (0:Int)) elem_41 hst hg4723 (by decide) z
 refine we_run (v := v5050) (w' := w5051) z (x_make z z hr5052) ?_
 refine ws_next (pend' := [(0, r0_0)]) hst (by kernel_rfl) (pkr z z (fun w hst => z) pk_nil) ?_
 refine ws_e1 1 (by kernel_rfl) ?_
 refine nxe [6, 7, 9] (by kernel_rfl) z z ?_
 clear hst
 intro w hst
 refine wec call25 [r0_0] z z ?_
 refine (slices_Clone_uint64_uint64_ref (f0_0.mono (rd_weak _)) hst.to0 ht4721).mono ?_
 rintro _ w5054 ⟨v5057, rfl, hst⟩
 refine ⟨_, z, ?_⟩
 replace hst := hst.of1
 refine ws_next (pend' := []) hst (by kernel_rfl) pk_nil ?_
 refine wsr (.agg #[v5057, v4896, Zs, Zs, v5050, Zs]) 6 rfl rfl rfl (by kernel_rfl) (fun w hst => by obtain ⟨_, _, hv_, _⟩ := hst.sv1; rw [hv_]; obtain ⟨_, _, hv_, _⟩ := hst.sv3; rw [hv_]; obtain ⟨_, _, hv_, _⟩ := hst.sv0; rw [hv_]; kernel_rfl) ?_
 refine ws_e1 7 (by kernel_rfl) ?_
 refine nxe [9] (by kernel_rfl) z z ?_
 clear hst
 intro w hst
 obtain ⟨b5065, w5066, ew5067, eb5068, hst⟩ := hst.box [v5057, v4896, Zs, Zs, v5050, Zs] 49
 refine we_run (v := Pt b5065 0) (w' := w5066) z (x_al (by kernel_rfl) ew5067 eb5068) ?_
 refine ws_next (pend' := []) hst (by kernel_rfl) pk_nil ?_
 refine ws_e1 9 (by kernel_rfl) ?_
 refine nxe [] (by kernel_rfl) z z ?_
 clear hst
 intro w hst
 replace hst := hst.pull3
 obtain ⟨w5070, hr5071, hst⟩ := hst.by_ [Pt b5065 0] 0 (Pt b5065 0) sizeOf24 z (oC z oN) (by kernel_rfl)
 refine we_unit z (x_unit hr5071) ?_
 refine ws_next (pend' := []) hst (by kernel_rfl) pk_nil ?_
 refine ws_nil ?_
 intro w hst
 refine ⟨z, ?_⟩
 replace hst := hst.own_nil (tySl (tyInt .i64))
 replace hst := hst.own_nil (tySl (tyInt .i64))
 replace hst := hst.own_nil (tyInt .i64)
 replace hst := hst.pull6.pull2.pull3.pull7.pull7.pull7
 replace hst := at_label_Lattice_close (pv := Pt b5065 0) (x := ({ up := t4720, down := (List.replicate (Int.toNat ((a0).length : Int)) (0:Int)), join := [], meet := [], rank := (List.replicate (Int.toNat ((a0).length : Int)) (0:Int)), all := [] } : label_Lattice)) hst z
 replace hst := hst.pull1.keep2
 obtain rfl := some_inj hm
 exact ⟨({ up := t4720, down := (List.replicate (Int.toNat ((a0).length : Int)) (0:Int)), join := [], meet := [], rank := (List.replicate (Int.toNat ((a0).length : Int)) (0:Int)), all := [] } : label_Lattice), b5023, (Pt b5065 0), _, hx5404, (fu 0 r0_0 z (fu 4 (.int .i64 ((a0).length : Int)) z (fu 5 (Pt b5023 0) z z))), hst⟩
}
}
}
 {
 refine nxe [1, 3, 6, 7, 8, 9] (by kernel_rfl) z z ?_
 clear hst
 intro w hst
 obtain ⟨v5072, w5073, hr5074, hst⟩ := run_mk (k := .i64) (k' := .i64) (zm := (0:Int)) elem_41 hst hg4723 (by decide) z
 refine we_run (v := v5072) (w' := w5073) z (x_make z z hr5074) ?_
 refine ws_next (pend' := [(2, I6 ((a0).length : Int)), (0, r0_0)]) hst (by kernel_rfl) (pkr z z (fun w hst => z) (pkr z z (fun w hst => z) pk_nil)) ?_
 refine ws_e3 1 3 8 (by kernel_rfl) ?_ ?_ ?_
 {
 refine nxe [3, 6, 7, 8, 9] (by kernel_rfl) z z ?_
 clear hst
 intro w hst
 refine wec call25 [r0_0] z z ?_
 refine (slices_Clone_uint64_uint64_ref (f0_0.mono (rd_weak _)) hst.to0 ht4721).mono ?_
 rintro _ w5076 ⟨v5079, rfl, hst⟩
 refine ⟨_, z, ?_⟩
 replace hst := hst.of1
 refine ws_next (pend' := [(2, I6 ((a0).length : Int))]) hst (by kernel_rfl) (pkr z z (fun w hst => z) pk_nil) ?_
 refine ws_e2 3 8 (by kernel_rfl) ?_ ?_
 {
 refine nxe [6, 7, 8, 9] (by kernel_rfl) z z ?_
 clear hst
 intro w hst
 obtain ⟨v5081, w5082, hr5083, hst⟩ := run_mk (k := .i64) (k' := .i64) (zm := (0:Int)) elem_28 hst hg4722 (by decide) z
 refine we_run (v := v5081) (w' := w5082) z (x_make z z hr5083) ?_
 refine ws_next (pend' := []) hst (by kernel_rfl) pk_nil ?_
 refine wsr (.agg #[v5079, v5081, Zs, Zs, v5072, Zs]) 6 rfl rfl rfl (by kernel_rfl) (fun w hst => by obtain ⟨_, _, hv_, _⟩ := hst.sv2; rw [hv_]; obtain ⟨_, _, hv_, _⟩ := hst.sv0; rw [hv_]; obtain ⟨_, _, hv_, _⟩ := hst.sv1; rw [hv_]; kernel_rfl) ?_
 refine ws_e2 7 8 (by kernel_rfl) ?_ ?_
 {
 refine nxe [8, 9] (by kernel_rfl) z z ?_
 clear hst
 intro w hst
 obtain ⟨b5091, w5092, ew5093, eb5094, hst⟩ := hst.box [v5079, v5081, Zs, Zs, v5072, Zs] 49
 refine we_run (v := Pt b5091 0) (w' := w5092) z (x_al (by kernel_rfl) ew5093 eb5094) ?_
 refine ws_next (pend' := []) hst (by kernel_rfl) pk_nil ?_
 refine ws_e1 8 (by kernel_rfl) ?_
 refine nxe [9] (by kernel_rfl) z z ?_
 clear hst
 intro w hst
 obtain ⟨b5096, w5097, ew5098, eb5099, hst⟩ := hst.box [.pointer none] 24
 refine we_run (v := Pt b5096 0) (w' := w5097) z (x_al (by kernel_rfl) ew5098 eb5099) ?_
 refine ws_next (pend' := []) hst (by kernel_rfl) pk_nil ?_
 refine ws_e1 9 (by kernel_rfl) ?_
 refine nxe [] (by kernel_rfl) z z ?_
 clear hst
 intro w hst
 obtain ⟨w5101, hr5102, hst⟩ := hst.by_ [Pt b5091 0] 0 (Pt b5091 0) sizeOf24 z (oC z oN) (by kernel_rfl)
 refine we_unit z (x_unit hr5102) ?_
 refine ws_next (pend' := []) hst (by kernel_rfl) pk_nil ?_
 refine ws_nil ?_
 intro w hst
 refine ⟨z, ?_⟩
 replace hst := hst.own_nil (tySl (tyInt .i64))
 replace hst := hst.own_nil (tySl (tyInt .i64))
 replace hst := hst.own_nil (tyInt .i64)
 replace hst := hst.pull7.pull2.pull3.pull6.pull7.pull7
 replace hst := at_label_Lattice_close (pv := Pt b5091 0) (x := ({ up := t4720, down := (List.replicate (Int.toNat ((a0).length : Int)) (0:Int)), join := [], meet := [], rank := (List.replicate (Int.toNat ((a0).length : Int)) (0:Int)), all := [] } : label_Lattice)) hst z
 replace hst := hst.pull1.keep2
 obtain rfl := some_inj hm
 exact ⟨({ up := t4720, down := (List.replicate (Int.toNat ((a0).length : Int)) (0:Int)), join := [], meet := [], rank := (List.replicate (Int.toNat ((a0).length : Int)) (0:Int)), all := [] } : label_Lattice), b5096, (Pt b5091 0), _, hx5404, (fu 0 r0_0 z (fu 4 (.int .i64 ((a0).length : Int)) z (fu 5 (Pt b5096 0) z z))), hst⟩
}
 {
 refine nxe [7, 9] (by kernel_rfl) z z ?_
 clear hst
 intro w hst
 obtain ⟨b5103, w5104, ew5105, eb5106, hst⟩ := hst.box [.pointer none] 24
 refine we_run (v := Pt b5103 0) (w' := w5104) z (x_al (by kernel_rfl) ew5105 eb5106) ?_
 refine ws_next (pend' := [(6, .agg #[v5079, v5081, Zs, Zs, v5072, Zs])]) hst (by kernel_rfl) (pkr rfl rfl (fun w hst => by obtain ⟨_, _, hv_, _⟩ := hst.sv3; rw [hv_]; obtain ⟨_, _, hv_, _⟩ := hst.sv1; rw [hv_]; obtain ⟨_, _, hv_, _⟩ := hst.sv2; rw [hv_]; kernel_rfl) pk_nil) ?_
 refine ws_e1 7 (by kernel_rfl) ?_
 refine nxe [9] (by kernel_rfl) z z ?_
 clear hst
 intro w hst
 obtain ⟨b5108, w5109, ew5110, eb5111, hst⟩ := hst.box [v5079, v5081, Zs, Zs, v5072, Zs] 49
 refine we_run (v := Pt b5108 0) (w' := w5109) z (x_al (by kernel_rfl) ew5110 eb5111) ?_
 refine ws_next (pend' := []) hst (by kernel_rfl) pk_nil ?_
 refine ws_e1 9 (by kernel_rfl) ?_
 refine nxe [] (by kernel_rfl) z z ?_
 clear hst
 intro w hst
 replace hst := hst.pull1
 obtain ⟨w5113, hr5114, hst⟩ := hst.by_ [Pt b5108 0] 0 (Pt b5108 0) sizeOf24 z (oC z oN) (by kernel_rfl)
 refine we_unit z (x_unit hr5114) ?_
 refine ws_next (pend' := []) hst (by kernel_rfl) pk_nil ?_
 refine ws_nil ?_
 intro w hst
 refine ⟨z, ?_⟩
 replace hst := hst.own_nil (tySl (tyInt .i64))
 replace hst := hst.own_nil (tySl (tyInt .i64))
 replace hst := hst.own_nil (tyInt .i64)
 replace hst := hst.pull7.pull2.pull3.pull6.pull7.pull7
 replace hst := at_label_Lattice_close (pv := Pt b5108 0) (x := ({ up := t4720, down := (List.replicate (Int.toNat ((a0).length : Int)) (0:Int)), join := [], meet := [], rank := (List.replicate (Int.toNat ((a0).length : Int)) (0:Int)), all := [] } : label_Lattice)) hst z
 replace hst := hst.pull1.keep2
 obtain rfl := some_inj hm
 exact ⟨({ up := t4720, down := (List.replicate (Int.toNat ((a0).length : Int)) (0:Int)), join := [], meet := [], rank := (List.replicate (Int.toNat ((a0).length : Int)) (0:Int)), all := [] } : label_Lattice), b5103, (Pt b5108 0), _, hx5404, (fu 0 r0_0 z (fu 4 (.int .i64 ((a0).length : Int)) z (fu 5 (Pt b5103 0) z z))), hst⟩
}
}
 {
 refine nxe [3, 6, 7, 9] (by kernel_rfl) z z ?_
 clear hst
 intro w hst
 obtain ⟨b5115, w5116, ew5117, eb5118, hst⟩ := hst.box [.pointer none] 24
 refine we_run (v := Pt b5115 0) (w' := w5116) z (x_al (by kernel_rfl) ew5117 eb5118) ?_
 refine ws_next (pend' := [(2, I6 ((a0).length : Int))]) hst (by kernel_rfl) (pkr z z (fun w hst => z) pk_nil) ?_
 refine ws_e1 3 (by kernel_rfl) ?_
 refine nxe [6, 7, 9] (by kernel_rfl) z z ?_
 clear hst
 intro w hst
 obtain ⟨v5120, w5121, hr5122, hst⟩ := run_mk (k := .i64) (k' := .i64) (zm := (0:Int)) elem_28 hst hg4722 (by decide) z
 refine we_run (v := v5120) (w' := w5121) z (x_make z z hr5122) ?_
 refine ws_next (pend' := []) hst (by kernel_rfl) pk_nil ?_
 refine wsr (.agg #[v5079, v5120, Zs, Zs, v5072, Zs]) 6 rfl rfl rfl (by kernel_rfl) (fun w hst => by obtain ⟨_, _, hv_, _⟩ := hst.sv3; rw [hv_]; obtain ⟨_, _, hv_, _⟩ := hst.sv0; rw [hv_]; obtain ⟨_, _, hv_, _⟩ := hst.sv2; rw [hv_]; kernel_rfl) ?_
 refine ws_e1 7 (by kernel_rfl) ?_
 refine nxe [9] (by kernel_rfl) z z ?_
 clear hst
 intro w hst
 obtain ⟨b5130, w5131, ew5132, eb5133, hst⟩ := hst.box [v5079, v5120, Zs, Zs, v5072, Zs] 49
 refine we_run (v := Pt b5130 0) (w' := w5131) z (x_al (by kernel_rfl) ew5132 eb5133) ?_
 refine ws_next (pend' := []) hst (by kernel_rfl) pk_nil ?_
 refine ws_e1 9 (by kernel_rfl) ?_
 refine nxe [] (by kernel_rfl) z z ?_
 clear hst
 intro w hst
 replace hst := hst.pull2
 obtain ⟨w5135, hr5136, hst⟩ := hst.by_ [Pt b5130 0] 0 (Pt b5130 0) sizeOf24 z (oC z oN) (by kernel_rfl)
 refine we_unit z (x_unit hr5136) ?_
 refine ws_next (pend' := []) hst (by kernel_rfl) pk_nil ?_
 refine ws_nil ?_
 intro w hst
 refine ⟨z, ?_⟩
 replace hst := hst.own_nil (tySl (tyInt .i64))
 replace hst := hst.own_nil (tySl (tyInt .i64))
 replace hst := hst.own_nil (tyInt .i64)
 replace hst := hst.pull7.pull2.pull3.pull6.pull7.pull7
 replace hst := at_label_Lattice_close (pv := Pt b5130 0) (x := ({ up := t4720, down := (List.replicate (Int.toNat ((a0).length : Int)) (0:Int)), join := [], meet := [], rank := (List.replicate (Int.toNat ((a0).length : Int)) (0:Int)), all := [] } : label_Lattice)) hst z
 replace hst := hst.pull1.keep2
 obtain rfl := some_inj hm
 exact ⟨({ up := t4720, down := (List.replicate (Int.toNat ((a0).length : Int)) (0:Int)), join := [], meet := [], rank := (List.replicate (Int.toNat ((a0).length : Int)) (0:Int)), all := [] } : label_Lattice), b5115, (Pt b5130 0), _, hx5404, (fu 0 r0_0 z (fu 4 (.int .i64 ((a0).length : Int)) z (fu 5 (Pt b5115 0) z z))), hst⟩
}
}
 {
 refine nxe [1, 6, 7, 8, 9] (by kernel_rfl) z z ?_
 clear hst
 intro w hst
 obtain ⟨v5137, w5138, hr5139, hst⟩ := run_mk (k := .i64) (k' := .i64) (zm := (0:Int)) elem_28 hst hg4722 (by decide) z
 refine we_run (v := v5137) (w' := w5138) z (x_make z z hr5139) ?_
 refine ws_next (pend' := [(0, r0_0)]) hst (by kernel_rfl) (pkr z z (fun w hst => z) pk_nil) ?_
 refine ws_e2 1 8 (by kernel_rfl) ?_ ?_
 {
 refine nxe [6, 7, 8, 9] (by kernel_rfl) z z ?_
 clear hst
 intro w hst
 refine wec call25 [r0_0] z z ?_
 refine (slices_Clone_uint64_uint64_ref (f0_0.mono (rd_weak _)) hst.to0 ht4721).mono ?_
 rintro _ w5141 ⟨v5144, rfl, hst⟩
 refine ⟨_, z, ?_⟩
 replace hst := hst.of1
 refine ws_next (pend' := []) hst (by kernel_rfl) pk_nil ?_
 refine wsr (.agg #[v5144, v5137, Zs, Zs, v5072, Zs]) 6 rfl rfl rfl (by kernel_rfl) (fun w hst => by obtain ⟨_, _, hv_, _⟩ := hst.sv2; rw [hv_]; obtain ⟨_, _, hv_, _⟩ := hst.sv1; rw [hv_]; obtain ⟨_, _, hv_, _⟩ := hst.sv0; rw [hv_]; kernel_rfl) ?_
 refine ws_e2 7 8 (by kernel_rfl) ?_ ?_
 {
 refine nxe [8, 9] (by kernel_rfl) z z ?_
 clear hst
 intro w hst
 obtain ⟨b5152, w5153, ew5154, eb5155, hst⟩ := hst.box [v5144, v5137, Zs, Zs, v5072, Zs] 49
 refine we_run (v := Pt b5152 0) (w' := w5153) z (x_al (by kernel_rfl) ew5154 eb5155) ?_
 refine ws_next (pend' := []) hst (by kernel_rfl) pk_nil ?_
 refine ws_e1 8 (by kernel_rfl) ?_
 refine nxe [9] (by kernel_rfl) z z ?_
 clear hst
 intro w hst
 obtain ⟨b5157, w5158, ew5159, eb5160, hst⟩ := hst.box [.pointer none] 24
 refine we_run (v := Pt b5157 0) (w' := w5158) z (x_al (by kernel_rfl) ew5159 eb5160) ?_
 refine ws_next (pend' := []) hst (by kernel_rfl) pk_nil ?_
 refine ws_e1 9 (by kernel_rfl) ?_
 refine nxe [] (by kernel_rfl) z z ?_
 clear hst
 intro w hst
 obtain ⟨w5162, hr5163, hst⟩ := hst.by_ [Pt b5152 0] 0 (Pt b5152 0) sizeOf24 z (oC z oN) (by kernel_rfl)
 refine we_unit z (x_unit hr5163) ?_
 refine ws_next (pend' := []) hst (by kernel_rfl) pk_nil ?_
 refine ws_nil ?_
 intro w hst
 refine ⟨z, ?_⟩
 replace hst := hst.own_nil (tySl (tyInt .i64))
 replace hst := hst.own_nil (tySl (tyInt .i64))
 replace hst := hst.own_nil (tyInt .i64)
 replace hst := hst.pull7.pull2.pull3.pull7.pull7.pull7
 replace hst := at_label_Lattice_close (pv := Pt b5152 0) (x := ({ up := t4720, down := (List.replicate (Int.toNat ((a0).length : Int)) (0:Int)), join := [], meet := [], rank := (List.replicate (Int.toNat ((a0).length : Int)) (0:Int)), all := [] } : label_Lattice)) hst z
 replace hst := hst.pull1.keep2
 obtain rfl := some_inj hm
 exact ⟨({ up := t4720, down := (List.replicate (Int.toNat ((a0).length : Int)) (0:Int)), join := [], meet := [], rank := (List.replicate (Int.toNat ((a0).length : Int)) (0:Int)), all := [] } : label_Lattice), b5157, (Pt b5152 0), _, hx5404, (fu 0 r0_0 z (fu 4 (.int .i64 ((a0).length : Int)) z (fu 5 (Pt b5157 0) z z))), hst⟩
}
 {
 refine nxe [7, 9] (by kernel_rfl) z z ?_
 clear hst
 intro w hst
 obtain ⟨b5164, w5165, ew5166, eb5167, hst⟩ := hst.box [.pointer none] 24
 refine we_run (v := Pt b5164 0) (w' := w5165) z (x_al (by kernel_rfl) ew5166 eb5167) ?_
 refine ws_next (pend' := [(6, .agg #[v5144, v5137, Zs, Zs, v5072, Zs])]) hst (by kernel_rfl) (pkr rfl rfl (fun w hst => by obtain ⟨_, _, hv_, _⟩ := hst.sv3; rw [hv_]; obtain ⟨_, _, hv_, _⟩ := hst.sv2; rw [hv_]; obtain ⟨_, _, hv_, _⟩ := hst.sv1; rw [hv_]; kernel_rfl) pk_nil) ?_
 refine ws_e1 7 (by kernel_rfl) ?_
 refine nxe [9] (by kernel_rfl) z z ?_
 clear hst
 intro w hst
 obtain ⟨b5169, w5170, ew5171, eb5172, hst⟩ := hst.box [v5144, v5137, Zs, Zs, v5072, Zs] 49
 refine we_run (v := Pt b5169 0) (w' := w5170) z (x_al (by kernel_rfl) ew5171 eb5172) ?_
 refine ws_next (pend' := []) hst (by kernel_rfl) pk_nil ?_
 refine ws_e1 9 (by kernel_rfl) ?_
 refine nxe [] (by kernel_rfl) z z ?_
 clear hst
 intro w hst
 replace hst := hst.pull1
 obtain ⟨w5174, hr5175, hst⟩ := hst.by_ [Pt b5169 0] 0 (Pt b5169 0) sizeOf24 z (oC z oN) (by kernel_rfl)
 refine we_unit z (x_unit hr5175) ?_
 refine ws_next (pend' := []) hst (by kernel_rfl) pk_nil ?_
 refine ws_nil ?_
 intro w hst
 refine ⟨z, ?_⟩
 replace hst := hst.own_nil (tySl (tyInt .i64))
 replace hst := hst.own_nil (tySl (tyInt .i64))
 replace hst := hst.own_nil (tyInt .i64)
 replace hst := hst.pull7.pull2.pull3.pull7.pull7.pull7
 replace hst := at_label_Lattice_close (pv := Pt b5169 0) (x := ({ up := t4720, down := (List.replicate (Int.toNat ((a0).length : Int)) (0:Int)), join := [], meet := [], rank := (List.replicate (Int.toNat ((a0).length : Int)) (0:Int)), all := [] } : label_Lattice)) hst z
 replace hst := hst.pull1.keep2
 obtain rfl := some_inj hm
 exact ⟨({ up := t4720, down := (List.replicate (Int.toNat ((a0).length : Int)) (0:Int)), join := [], meet := [], rank := (List.replicate (Int.toNat ((a0).length : Int)) (0:Int)), all := [] } : label_Lattice), b5164, (Pt b5169 0), _, hx5404, (fu 0 r0_0 z (fu 4 (.int .i64 ((a0).length : Int)) z (fu 5 (Pt b5164 0) z z))), hst⟩
}
}
 {
 refine nxe [1, 6, 7, 9] (by kernel_rfl) z z ?_
 clear hst
 intro w hst
 obtain ⟨b5176, w5177, ew5178, eb5179, hst⟩ := hst.box [.pointer none] 24
 refine we_run (v := Pt b5176 0) (w' := w5177) z (x_al (by kernel_rfl) ew5178 eb5179) ?_
 refine ws_next (pend' := [(0, r0_0)]) hst (by kernel_rfl) (pkr z z (fun w hst => z) pk_nil) ?_
 refine ws_e1 1 (by kernel_rfl) ?_
 refine nxe [6, 7, 9] (by kernel_rfl) z z ?_
 clear hst
 intro w hst
 refine wec call25 [r0_0] z z ?_
 refine (slices_Clone_uint64_uint64_ref (f0_0.mono (rd_weak _)) hst.to0 ht4721).mono ?_
 rintro _ w5181 ⟨v5184, rfl, hst⟩
 refine ⟨_, z, ?_⟩
 replace hst := hst.of1
 refine ws_next (pend' := []) hst (by kernel_rfl) pk_nil ?_
 refine wsr (.agg #[v5184, v5137, Zs, Zs, v5072, Zs]) 6 rfl rfl rfl (by kernel_rfl) (fun w hst => by obtain ⟨_, _, hv_, _⟩ := hst.sv3; rw [hv_]; obtain ⟨_, _, hv_, _⟩ := hst.sv2; rw [hv_]; obtain ⟨_, _, hv_, _⟩ := hst.sv0; rw [hv_]; kernel_rfl) ?_
 refine ws_e1 7 (by kernel_rfl) ?_
 refine nxe [9] (by kernel_rfl) z z ?_
 clear hst
 intro w hst
 obtain ⟨b5192, w5193, ew5194, eb5195, hst⟩ := hst.box [v5184, v5137, Zs, Zs, v5072, Zs] 49
 refine we_run (v := Pt b5192 0) (w' := w5193) z (x_al (by kernel_rfl) ew5194 eb5195) ?_
 refine ws_next (pend' := []) hst (by kernel_rfl) pk_nil ?_
 refine ws_e1 9 (by kernel_rfl) ?_
 refine nxe [] (by kernel_rfl) z z ?_
 clear hst
 intro w hst
 replace hst := hst.pull2
 obtain ⟨w5197, hr5198, hst⟩ := hst.by_ [Pt b5192 0] 0 (Pt b5192 0) sizeOf24 z (oC z oN) (by kernel_rfl)
 refine we_unit z (x_unit hr5198) ?_
 refine ws_next (pend' := []) hst (by kernel_rfl) pk_nil ?_
 refine ws_nil ?_
 intro w hst
 refine ⟨z, ?_⟩
 replace hst := hst.own_nil (tySl (tyInt .i64))
 replace hst := hst.own_nil (tySl (tyInt .i64))
 replace hst := hst.own_nil (tyInt .i64)
 replace hst := hst.pull7.pull2.pull3.pull7.pull7.pull7
 replace hst := at_label_Lattice_close (pv := Pt b5192 0) (x := ({ up := t4720, down := (List.replicate (Int.toNat ((a0).length : Int)) (0:Int)), join := [], meet := [], rank := (List.replicate (Int.toNat ((a0).length : Int)) (0:Int)), all := [] } : label_Lattice)) hst z
 replace hst := hst.pull1.keep2
 obtain rfl := some_inj hm
 exact ⟨({ up := t4720, down := (List.replicate (Int.toNat ((a0).length : Int)) (0:Int)), join := [], meet := [], rank := (List.replicate (Int.toNat ((a0).length : Int)) (0:Int)), all := [] } : label_Lattice), b5176, (Pt b5192 0), _, hx5404, (fu 0 r0_0 z (fu 4 (.int .i64 ((a0).length : Int)) z (fu 5 (Pt b5176 0) z z))), hst⟩
}
}
 {
 refine nxe [1, 3, 6, 7, 9] (by kernel_rfl) z z ?_
 clear hst
 intro w hst
 obtain ⟨b5199, w5200, ew5201, eb5202, hst⟩ := hst.box [.pointer none] 24
 refine we_run (v := Pt b5199 0) (w' := w5200) z (x_al (by kernel_rfl) ew5201 eb5202) ?_
 refine ws_next (pend' := [(2, I6 ((a0).length : Int)), (0, r0_0)]) hst (by kernel_rfl) (pkr z z (fun w hst => z) (pkr z z (fun w hst => z) pk_nil)) ?_
 refine ws_e2 1 3 (by kernel_rfl) ?_ ?_
 {
 refine nxe [3, 6, 7, 9] (by kernel_rfl) z z ?_
 clear hst
 intro w hst
 refine wec call25 [r0_0] z z ?_
 refine (slices_Clone_uint64_uint64_ref (f0_0.mono (rd_weak _)) hst.to0 ht4721).mono ?_
 rintro _ w5204 ⟨v5207, rfl, hst⟩
 refine ⟨_, z, ?_⟩
 replace hst := hst.of1
 refine ws_next (pend' := [(2, I6 ((a0).length : Int))]) hst (by kernel_rfl) (pkr z z (fun w hst => z) pk_nil) ?_
 refine ws_e1 3 (by kernel_rfl) ?_
 refine nxe [6, 7, 9] (by kernel_rfl) z z ?_
 clear hst
 intro w hst
 obtain ⟨v5209, w5210, hr5211, hst⟩ := run_mk (k := .i64) (k' := .i64) (zm := (0:Int)) elem_28 hst hg4722 (by decide) z
 refine we_run (v := v5209) (w' := w5210) z (x_make z z hr5211) ?_
 refine ws_next (pend' := []) hst (by kernel_rfl) pk_nil ?_
 refine wsr (.agg #[v5207, v5209, Zs, Zs, v5072, Zs]) 6 rfl rfl rfl (by kernel_rfl) (fun w hst => by obtain ⟨_, _, hv_, _⟩ := hst.sv3; rw [hv_]; obtain ⟨_, _, hv_, _⟩ := hst.sv0; rw [hv_]; obtain ⟨_, _, hv_, _⟩ := hst.sv1; rw [hv_]; kernel_rfl) ?_
 refine ws_e1 7 (by kernel_rfl) ?_
 refine nxe [9] (by kernel_rfl) z z ?_
 clear hst
 intro w hst
 obtain ⟨b5219, w5220, ew5221, eb5222, hst⟩ := hst.box [v5207, v5209, Zs, Zs, v5072, Zs] 49
 refine we_run (v := Pt b5219 0) (w' := w5220) z (x_al (by kernel_rfl) ew5221 eb5222) ?_
 refine ws_next (pend' := []) hst (by kernel_rfl) pk_nil ?_
 refine ws_e1 9 (by kernel_rfl) ?_
 refine nxe [] (by kernel_rfl) z z ?_
 clear hst
 intro w hst
 replace hst := hst.pull3
 obtain ⟨w5224, hr5225, hst⟩ := hst.by_ [Pt b5219 0] 0 (Pt b5219 0) sizeOf24 z (oC z oN) (by kernel_rfl)
 refine we_unit z (x_unit hr5225) ?_
 refine ws_next (pend' := []) hst (by kernel_rfl) pk_nil ?_
 refine ws_nil ?_
 intro w hst
 refine ⟨z, ?_⟩
 replace hst := hst.own_nil (tySl (tyInt .i64))
 replace hst := hst.own_nil (tySl (tyInt .i64))
 replace hst := hst.own_nil (tyInt .i64)
 replace hst := hst.pull7.pull2.pull3.pull6.pull7.pull7
 replace hst := at_label_Lattice_close (pv := Pt b5219 0) (x := ({ up := t4720, down := (List.replicate (Int.toNat ((a0).length : Int)) (0:Int)), join := [], meet := [], rank := (List.replicate (Int.toNat ((a0).length : Int)) (0:Int)), all := [] } : label_Lattice)) hst z
 replace hst := hst.pull1.keep2
 obtain rfl := some_inj hm
 exact ⟨({ up := t4720, down := (List.replicate (Int.toNat ((a0).length : Int)) (0:Int)), join := [], meet := [], rank := (List.replicate (Int.toNat ((a0).length : Int)) (0:Int)), all := [] } : label_Lattice), b5199, (Pt b5219 0), _, hx5404, (fu 0 r0_0 z (fu 4 (.int .i64 ((a0).length : Int)) z (fu 5 (Pt b5199 0) z z))), hst⟩
}
 {
 refine nxe [1, 6, 7, 9] (by kernel_rfl) z z ?_
 clear hst
 intro w hst
 obtain ⟨v5226, w5227, hr5228, hst⟩ := run_mk (k := .i64) (k' := .i64) (zm := (0:Int)) elem_28 hst hg4722 (by decide) z
 refine we_run (v := v5226) (w' := w5227) z (x_make z z hr5228) ?_
 refine ws_next (pend' := [(0, r0_0)]) hst (by kernel_rfl) (pkr z z (fun w hst => z) pk_nil) ?_
 refine ws_e1 1 (by kernel_rfl) ?_
 refine nxe [6, 7, 9] (by kernel_rfl) z z ?_
 clear hst
 intro w hst
 refine wec call25 [r0_0] z z ?_
 refine (slices_Clone_uint64_uint64_ref (f0_0.mono (rd_weak _)) hst.to0 ht4721).mono ?_
 rintro _ w5230 ⟨v5233, rfl, hst⟩
 refine ⟨_, z, ?_⟩
 replace hst := hst.of1
 refine ws_next (pend' := []) hst (by kernel_rfl) pk_nil ?_
 refine wsr (.agg #[v5233, v5226, Zs, Zs, v5072, Zs]) 6 rfl rfl rfl (by kernel_rfl) (fun w hst => by obtain ⟨_, _, hv_, _⟩ := hst.sv3; rw [hv_]; obtain ⟨_, _, hv_, _⟩ := hst.sv1; rw [hv_]; obtain ⟨_, _, hv_, _⟩ := hst.sv0; rw [hv_]; kernel_rfl) ?_
 refine ws_e1 7 (by kernel_rfl) ?_
 refine nxe [9] (by kernel_rfl) z z ?_
 clear hst
 intro w hst
 obtain ⟨b5241, w5242, ew5243, eb5244, hst⟩ := hst.box [v5233, v5226, Zs, Zs, v5072, Zs] 49
 refine we_run (v := Pt b5241 0) (w' := w5242) z (x_al (by kernel_rfl) ew5243 eb5244) ?_
 refine ws_next (pend' := []) hst (by kernel_rfl) pk_nil ?_
 refine ws_e1 9 (by kernel_rfl) ?_
 refine nxe [] (by kernel_rfl) z z ?_
 clear hst
 intro w hst
 replace hst := hst.pull3
 obtain ⟨w5246, hr5247, hst⟩ := hst.by_ [Pt b5241 0] 0 (Pt b5241 0) sizeOf24 z (oC z oN) (by kernel_rfl)
 refine we_unit z (x_unit hr5247) ?_
 refine ws_next (pend' := []) hst (by kernel_rfl) pk_nil ?_
 refine ws_nil ?_
 intro w hst
 refine ⟨z, ?_⟩
 replace hst := hst.own_nil (tySl (tyInt .i64))
 replace hst := hst.own_nil (tySl (tyInt .i64))
 replace hst := hst.own_nil (tyInt .i64)
 replace hst := hst.pull7.pull2.pull3.pull7.pull7.pull7
 replace hst := at_label_Lattice_close (pv := Pt b5241 0) (x := ({ up := t4720, down := (List.replicate (Int.toNat ((a0).length : Int)) (0:Int)), join := [], meet := [], rank := (List.replicate (Int.toNat ((a0).length : Int)) (0:Int)), all := [] } : label_Lattice)) hst z
 replace hst := hst.pull1.keep2
 obtain rfl := some_inj hm
 exact ⟨({ up := t4720, down := (List.replicate (Int.toNat ((a0).length : Int)) (0:Int)), join := [], meet := [], rank := (List.replicate (Int.toNat ((a0).length : Int)) (0:Int)), all := [] } : label_Lattice), b5199, (Pt b5241 0), _, hx5404, (fu 0 r0_0 z (fu 4 (.int .i64 ((a0).length : Int)) z (fu 5 (Pt b5199 0) z z))), hst⟩
}
}
}
 {
 refine nxe [1, 3, 5, 6, 7, 9] (by kernel_rfl) z z ?_
 clear hst
 intro w hst
 obtain ⟨b5248, w5249, ew5250, eb5251, hst⟩ := hst.box [.pointer none] 24
 refine we_run (v := Pt b5248 0) (w' := w5249) z (x_al (by kernel_rfl) ew5250 eb5251) ?_
 refine ws_next (pend' := [(4, I6 ((a0).length : Int)), (2, I6 ((a0).length : Int)), (0, r0_0)]) hst (by kernel_rfl) (pkr z z (fun w hst => z) (pkr z z (fun w hst => z) (pkr z z (fun w hst => z) pk_nil))) ?_
 refine ws_e3 1 3 5 (by kernel_rfl) ?_ ?_ ?_
 {
 refine nxe [3, 5, 6, 7, 9] (by kernel_rfl) z z ?_
 clear hst
 intro w hst
 refine wec call25 [r0_0] z z ?_
 refine (slices_Clone_uint64_uint64_ref (f0_0.mono (rd_weak _)) hst.to0 ht4721).mono ?_
 rintro _ w5253 ⟨v5256, rfl, hst⟩
 refine ⟨_, z, ?_⟩
 replace hst := hst.of1
 refine ws_next (pend' := [(4, I6 ((a0).length : Int)), (2, I6 ((a0).length : Int))]) hst (by kernel_rfl) (pkr z z (fun w hst => z) (pkr z z (fun w hst => z) pk_nil)) ?_
 refine ws_e2 3 5 (by kernel_rfl) ?_ ?_
 {
 refine nxe [5, 6, 7, 9] (by kernel_rfl) z z ?_
 clear hst
 intro w hst
 obtain ⟨v5258, w5259, hr5260, hst⟩ := run_mk (k := .i64) (k' := .i64) (zm := (0:Int)) elem_28 hst hg4722 (by decide) z
 refine we_run (v := v5258) (w' := w5259) z (x_make z z hr5260) ?_
 refine ws_next (pend' := [(4, I6 ((a0).length : Int))]) hst (by kernel_rfl) (pkr z z (fun w hst => z) pk_nil) ?_
 refine ws_e1 5 (by kernel_rfl) ?_
 refine nxe [6, 7, 9] (by kernel_rfl) z z ?_
 clear hst
 intro w hst
 obtain ⟨v5262, w5263, hr5264, hst⟩ := run_mk (k := .i64) (k' := .i64) (zm := (0:Int)) elem_41 hst hg4723 (by decide) z
 refine we_run (v := v5262) (w' := w5263) z (x_make z z hr5264) ?_
 refine ws_next (pend' := []) hst (by kernel_rfl) pk_nil ?_
 refine wsr (.agg #[v5256, v5258, Zs, Zs, v5262, Zs]) 6 rfl rfl rfl (by kernel_rfl) (fun w hst => by obtain ⟨_, _, hv_, _⟩ := hst.sv0; rw [hv_]; obtain ⟨_, _, hv_, _⟩ := hst.sv1; rw [hv_]; obtain ⟨_, _, hv_, _⟩ := hst.sv2; rw [hv_]; kernel_rfl) ?_
 refine ws_e1 7 (by kernel_rfl) ?_
 refine nxe [9] (by kernel_rfl) z z ?_
 clear hst
 intro w hst
 obtain ⟨b5272, w5273, ew5274, eb5275, hst⟩ := hst.box [v5256, v5258, Zs, Zs, v5262, Zs] 49
 refine we_run (v := Pt b5272 0) (w' := w5273) z (x_al (by kernel_rfl) ew5274 eb5275) ?_
 refine ws_next (pend' := []) hst (by kernel_rfl) pk_nil ?_
 refine ws_e1 9 (by kernel_rfl) ?_
 refine nxe [] (by kernel_rfl) z z ?_
 clear hst
 intro w hst
 replace hst := hst.pull4
 obtain ⟨w5277, hr5278, hst⟩ := hst.by_ [Pt b5272 0] 0 (Pt b5272 0) sizeOf24 z (oC z oN) (by kernel_rfl)
 refine we_unit z (x_unit hr5278) ?_
 refine ws_next (pend' := []) hst (by kernel_rfl) pk_nil ?_
 refine ws_nil ?_
 intro w hst
 refine ⟨z, ?_⟩
 replace hst := hst.own_nil (tySl (tyInt .i64))
 replace hst := hst.own_nil (tySl (tyInt .i64))
 replace hst := hst.own_nil (tyInt .i64)
 replace hst := hst.pull5.pull2.pull3.pull6.pull7.pull7
 replace hst := at_label_Lattice_close (pv := Pt b5272 0) (x := ({ up := t4720, down := (List.replicate (Int.toNat ((a0).length : Int)) (0:Int)), join := [], meet := [], rank := (List.replicate (Int.toNat ((a0).length : Int)) (0:Int)), all := [] } : label_Lattice)) hst z
 replace hst := hst.pull1.keep2
 obtain rfl := some_inj hm
 exact ⟨({ up := t4720, down := (List.replicate (Int.toNat ((a0).length : Int)) (0:Int)), join := [], meet := [], rank := (List.replicate (Int.toNat ((a0).length : Int)) (0:Int)), all := [] } : label_Lattice), b5248, (Pt b5272 0), _, hx5404, (fu 0 r0_0 z (fu 4 (.int .i64 ((a0).length : Int)) z (fu 5 (Pt b5248 0) z z))), hst⟩
}
 {
 refine nxe [3, 6, 7, 9] (by kernel_rfl) z z ?_
 clear hst
 intro w hst
 obtain ⟨v5279, w5280, hr5281, hst⟩ := run_mk (k := .i64) (k' := .i64) (zm := (0:Int)) elem_41 hst hg4723 (by decide) z
 refine we_run (v := v5279) (w' := w5280) z (x_make z z hr5281) ?_
 refine ws_next (pend' := [(2, I6 ((a0).length : Int))]) hst (by kernel_rfl) (pkr z z (fun w hst => z) pk_nil) ?_
 refine ws_e1 3 (by kernel_rfl) ?_
 refine nxe [6, 7, 9] (by kernel_rfl) z z ?_
 clear hst
 intro w hst
 obtain ⟨v5283, w5284, hr5285, hst⟩ := run_mk (k := .i64) (k' := .i64) (zm := (0:Int)) elem_28 hst hg4722 (by decide) z
 refine we_run (v := v5283) (w' := w5284) z (x_make z z hr5285) ?_
 refine ws_next (pend' := []) hst (by kernel_rfl) pk_nil ?_
 refine wsr (.agg #[v5256, v5283, Zs, Zs, v5279, Zs]) 6 rfl rfl rfl (by kernel_rfl) (fun w hst => by obtain ⟨_, _, hv_, _⟩ := hst.sv1; rw [hv_]; obtain ⟨_, _, hv_, _⟩ := hst.sv0; rw [hv_]; obtain ⟨_, _, hv_, _⟩ := hst.sv2; rw [hv_]; kernel_rfl) ?_
 refine ws_e1 7 (by kernel_rfl) ?_
 refine nxe [9] (by kernel_rfl) z z ?_
 clear hst
 intro w hst
 obtain ⟨b5293, w5294, ew5295, eb5296, hst⟩ := hst.box [v5256, v5283, Zs, Zs, v5279, Zs] 49
 refine we_run (v := Pt b5293 0) (w' := w5294) z (x_al (by kernel_rfl) ew5295 eb5296) ?_
 refine ws_next (pend' := []) hst (by kernel_rfl) pk_nil ?_
 refine ws_e1 9 (by kernel_rfl) ?_
 refine nxe [] (by kernel_rfl) z z ?_
 clear hst
 intro w hst
 replace hst := hst.pull4
 obtain ⟨w5298, hr5299, hst⟩ := hst.by_ [Pt b5293 0] 0 (Pt b5293 0) sizeOf24 z (oC z oN) (by kernel_rfl)
 refine we_unit z (x_unit hr5299) ?_
 refine ws_next (pend' := []) hst (by kernel_rfl) pk_nil ?_
 refine ws_nil ?_
 intro w hst
 refine ⟨z, ?_⟩
 replace hst := hst.own_nil (tySl (tyInt .i64))
 replace hst := hst.own_nil (tySl (tyInt .i64))
 replace hst := hst.own_nil (tyInt .i64)
 replace hst := hst.pull6.pull2.pull3.pull6.pull7.pull7
 replace hst := at_label_Lattice_close (pv := Pt b5293 0) (x := ({ up := t4720, down := (List.replicate (Int.toNat ((a0).length : Int)) (0:Int)), join := [], meet := [], rank := (List.replicate (Int.toNat ((a0).length : Int)) (0:Int)), all := [] } : label_Lattice)) hst z
 replace hst := hst.pull1.keep2
 obtain rfl := some_inj hm
 exact ⟨({ up := t4720, down := (List.replicate (Int.toNat ((a0).length : Int)) (0:Int)), join := [], meet := [], rank := (List.replicate (Int.toNat ((a0).length : Int)) (0:Int)), all := [] } : label_Lattice), b5248, (Pt b5293 0), _, hx5404, (fu 0 r0_0 z (fu 4 (.int .i64 ((a0).length : Int)) z (fu 5 (Pt b5248 0) z z))), hst⟩
}
}
 {
 refine nxe [1, 5, 6, 7, 9] (by kernel_rfl) z z ?_
 clear hst
 intro w hst
 obtain ⟨v5300, w5301, hr5302, hst⟩ := run_mk (k := .i64) (k' := .i64) (zm := (0:Int)) elem_28 hst hg4722 (by decide) z
 refine we_run (v := v5300) (w' := w5301) z (x_make z z hr5302) ?_
 refine ws_next (pend' := [(4, I6 ((a0).length : Int)), (0, r0_0)]) hst (by kernel_rfl) (pkr z z (fun w hst => z) (pkr z z (fun w hst => z) pk_nil)) ?_
 refine ws_e2 1 5 (by kernel_rfl) ?_ ?_
 {
 refine nxe [5, 6, 7, 9] (by kernel_rfl) z z ?_
 clear hst
 intro w hst
 refine wec call25 [r0_0] z z ?_
 refine (slices_Clone_uint64_uint64_ref (f0_0.mono (rd_weak _)) hst.to0 ht4721).mono ?_
 rintro _ w5304 ⟨v5307, rfl, hst⟩
 refine ⟨_, z, ?_⟩
 replace hst := hst.of1
 refine ws_next (pend' := [(4, I6 ((a0).length : Int))]) hst (by kernel_rfl) (pkr z z (fun w hst => z) pk_nil) ?_
 refine ws_e1 5 (by kernel_rfl) ?_
 refine nxe [6, 7, 9] (by kernel_rfl) z z ?_
 clear hst
 intro w hst
 obtain ⟨v5309, w5310, hr5311, hst⟩ := run_mk (k := .i64) (k' := .i64) (zm := (0:Int)) elem_41 hst hg4723 (by decide) z
 refine we_run (v := v5309) (w' := w5310) z (x_make z z hr5311) ?_
 refine ws_next (pend' := []) hst (by kernel_rfl) pk_nil ?_
 refine wsr (.agg #[v5307, v5300, Zs, Zs, v5309, Zs]) 6 rfl rfl rfl (by kernel_rfl) (fun w hst => by obtain ⟨_, _, hv_, _⟩ := hst.sv0; rw [hv_]; obtain ⟨_, _, hv_, _⟩ := hst.sv2; rw [hv_]; obtain ⟨_, _, hv_, _⟩ := hst.sv1; rw [hv_]; kernel_rfl) ?_
 refine ws_e1 7 (by kernel_rfl) ?_
 refine nxe [9] (by kernel_rfl) z z ?_
 clear hst
 intro w hst
 obtain ⟨b5319, w5320, ew5321, eb5322, hst⟩ := hst.box [v5307, v5300, Zs, Zs, v5309, Zs] 49
 refine we_run (v := Pt b5319 0) (w' := w5320) z (x_al (by kernel_rfl) ew5321 eb5322) ?_
 refine ws_next (pend' := []) hst (by kernel_rfl) pk_nil ?_
 refine ws_e1 9 (by kernel_rfl) ?_
 refine nxe [] (by kernel_rfl) z z ?_
 clear hst
 intro w hst
 replace hst := hst.pull4
 obtain ⟨w5324, hr5325, hst⟩ := hst.by_ [Pt b5319 0] 0 (Pt b5319 0) sizeOf24 z (oC z oN) (by kernel_rfl)
 refine we_unit z (x_unit hr5325) ?_
 refine ws_next (pend' := []) hst (by kernel_rfl) pk_nil ?_
 refine ws_nil ?_
 intro w hst
 refine ⟨z, ?_⟩
 replace hst := hst.own_nil (tySl (tyInt .i64))
 replace hst := hst.own_nil (tySl (tyInt .i64))
 replace hst := hst.own_nil (tyInt .i64)
 replace hst := hst.pull5.pull2.pull3.pull7.pull7.pull7
 replace hst := at_label_Lattice_close (pv := Pt b5319 0) (x := ({ up := t4720, down := (List.replicate (Int.toNat ((a0).length : Int)) (0:Int)), join := [], meet := [], rank := (List.replicate (Int.toNat ((a0).length : Int)) (0:Int)), all := [] } : label_Lattice)) hst z
 replace hst := hst.pull1.keep2
 obtain rfl := some_inj hm
 exact ⟨({ up := t4720, down := (List.replicate (Int.toNat ((a0).length : Int)) (0:Int)), join := [], meet := [], rank := (List.replicate (Int.toNat ((a0).length : Int)) (0:Int)), all := [] } : label_Lattice), b5248, (Pt b5319 0), _, hx5404, (fu 0 r0_0 z (fu 4 (.int .i64 ((a0).length : Int)) z (fu 5 (Pt b5248 0) z z))), hst⟩
}
 {
 refine nxe [1, 6, 7, 9] (by kernel_rfl) z z ?_
 clear hst
 intro w hst
 obtain ⟨v5326, w5327, hr5328, hst⟩ := run_mk (k := .i64) (k' := .i64) (zm := (0:Int)) elem_41 hst hg4723 (by decide) z
 refine we_run (v := v5326) (w' := w5327) z (x_make z z hr5328) ?_
 refine ws_next (pend' := [(0, r0_0)]) hst (by kernel_rfl) (pkr z z (fun w hst => z) pk_nil) ?_
 refine ws_e1 1 (by kernel_rfl) ?_
 refine nxe [6, 7, 9] (by kernel_rfl) z z ?_
 clear hst
 intro w hst
 refine wec call25 [r0_0] z z ?_
 refine (slices_Clone_uint64_uint64_ref (f0_0.mono (rd_weak _)) hst.to0 ht4721).mono ?_
 rintro _ w5330 ⟨v5333, rfl, hst⟩
 refine ⟨_, z, ?_⟩
 replace hst := hst.of1
 refine ws_next (pend' := []) hst (by kernel_rfl) pk_nil ?_
 refine wsr (.agg #[v5333, v5300, Zs, Zs, v5326, Zs]) 6 rfl rfl rfl (by kernel_rfl) (fun w hst => by obtain ⟨_, _, hv_, _⟩ := hst.sv1; rw [hv_]; obtain ⟨_, _, hv_, _⟩ := hst.sv2; rw [hv_]; obtain ⟨_, _, hv_, _⟩ := hst.sv0; rw [hv_]; kernel_rfl) ?_
 refine ws_e1 7 (by kernel_rfl) ?_
 refine nxe [9] (by kernel_rfl) z z ?_
 clear hst
 intro w hst
 obtain ⟨b5341, w5342, ew5343, eb5344, hst⟩ := hst.box [v5333, v5300, Zs, Zs, v5326, Zs] 49
 refine we_run (v := Pt b5341 0) (w' := w5342) z (x_al (by kernel_rfl) ew5343 eb5344) ?_
 refine ws_next (pend' := []) hst (by kernel_rfl) pk_nil ?_
 refine ws_e1 9 (by kernel_rfl) ?_
 refine nxe [] (by kernel_rfl) z z ?_
 clear hst
 intro w hst
 replace hst := hst.pull4
 obtain ⟨w5346, hr5347, hst⟩ := hst.by_ [Pt b5341 0] 0 (Pt b5341 0) sizeOf24 z (oC z oN) (by kernel_rfl)
 refine we_unit z (x_unit hr5347) ?_
 refine ws_next (pend' := []) hst (by kernel_rfl) pk_nil ?_
 refine ws_nil ?_
 intro w hst
 refine ⟨z, ?_⟩
 replace hst := hst.own_nil (tySl (tyInt .i64))
 replace hst := hst.own_nil (tySl (tyInt .i64))
 replace hst := hst.own_nil (tyInt .i64)
 replace hst := hst.pull6.pull2.pull3.pull7.pull7.pull7
 replace hst := at_label_Lattice_close (pv := Pt b5341 0) (x := ({ up := t4720, down := (List.replicate (Int.toNat ((a0).length : Int)) (0:Int)), join := [], meet := [], rank := (List.replicate (Int.toNat ((a0).length : Int)) (0:Int)), all := [] } : label_Lattice)) hst z
 replace hst := hst.pull1.keep2
 obtain rfl := some_inj hm
 exact ⟨({ up := t4720, down := (List.replicate (Int.toNat ((a0).length : Int)) (0:Int)), join := [], meet := [], rank := (List.replicate (Int.toNat ((a0).length : Int)) (0:Int)), all := [] } : label_Lattice), b5248, (Pt b5341 0), _, hx5404, (fu 0 r0_0 z (fu 4 (.int .i64 ((a0).length : Int)) z (fu 5 (Pt b5248 0) z z))), hst⟩
}
}
 {
 refine nxe [1, 3, 6, 7, 9] (by kernel_rfl) z z ?_
 clear hst
 intro w hst
 obtain ⟨v5348, w5349, hr5350, hst⟩ := run_mk (k := .i64) (k' := .i64) (zm := (0:Int)) elem_41 hst hg4723 (by decide) z
 refine we_run (v := v5348) (w' := w5349) z (x_make z z hr5350) ?_
 refine ws_next (pend' := [(2, I6 ((a0).length : Int)), (0, r0_0)]) hst (by kernel_rfl) (pkr z z (fun w hst => z) (pkr z z (fun w hst => z) pk_nil)) ?_
 refine ws_e2 1 3 (by kernel_rfl) ?_ ?_
 {
 refine nxe [3, 6, 7, 9] (by kernel_rfl) z z ?_
 clear hst
 intro w hst
 refine wec call25 [r0_0] z z ?_
 refine (slices_Clone_uint64_uint64_ref (f0_0.mono (rd_weak _)) hst.to0 ht4721).mono ?_
 rintro _ w5352 ⟨v5355, rfl, hst⟩
 refine ⟨_, z, ?_⟩
 replace hst := hst.of1
 refine ws_next (pend' := [(2, I6 ((a0).length : Int))]) hst (by kernel_rfl) (pkr z z (fun w hst => z) pk_nil) ?_
 refine ws_e1 3 (by kernel_rfl) ?_
 refine nxe [6, 7, 9] (by kernel_rfl) z z ?_
 clear hst
 intro w hst
 obtain ⟨v5357, w5358, hr5359, hst⟩ := run_mk (k := .i64) (k' := .i64) (zm := (0:Int)) elem_28 hst hg4722 (by decide) z
 refine we_run (v := v5357) (w' := w5358) z (x_make z z hr5359) ?_
 refine ws_next (pend' := []) hst (by kernel_rfl) pk_nil ?_
 refine wsr (.agg #[v5355, v5357, Zs, Zs, v5348, Zs]) 6 rfl rfl rfl (by kernel_rfl) (fun w hst => by obtain ⟨_, _, hv_, _⟩ := hst.sv2; rw [hv_]; obtain ⟨_, _, hv_, _⟩ := hst.sv0; rw [hv_]; obtain ⟨_, _, hv_, _⟩ := hst.sv1; rw [hv_]; kernel_rfl) ?_
 refine ws_e1 7 (by kernel_rfl) ?_
 refine nxe [9] (by kernel_rfl) z z ?_
 clear hst
 intro w hst
 obtain ⟨b5367, w5368, ew5369, eb5370, hst⟩ := hst.box [v5355, v5357, Zs, Zs, v5348, Zs] 49
 refine we_run (v := Pt b5367 0) (w' := w5368) z (x_al (by kernel_rfl) ew5369 eb5370) ?_
 refine ws_next (pend' := []) hst (by kernel_rfl) pk_nil ?_
 refine ws_e1 9 (by kernel_rfl) ?_
 refine nxe [] (by kernel_rfl) z z ?_
 clear hst
 intro w hst
 replace hst := hst.pull4
 obtain ⟨w5372, hr5373, hst⟩ := hst.by_ [Pt b5367 0] 0 (Pt b5367 0) sizeOf24 z (oC z oN) (by kernel_rfl)
 refine we_unit z (x_unit hr5373) ?_
 refine ws_next (pend' := []) hst (by kernel_rfl) pk_nil ?_
 refine ws_nil ?_
 intro w hst
 refine ⟨z, ?_⟩
 replace hst := hst.own_nil (tySl (tyInt .i64))
 replace hst := hst.own_nil (tySl (tyInt .i64))
 replace hst := hst.own_nil (tyInt .i64)
 replace hst := hst.pull7.pull2.pull3.pull6.pull7.pull7
 replace hst := at_label_Lattice_close (pv := Pt b5367 0) (x := ({ up := t4720, down := (List.replicate (Int.toNat ((a0).length : Int)) (0:Int)), join := [], meet := [], rank := (List.replicate (Int.toNat ((a0).length : Int)) (0:Int)), all := [] } : label_Lattice)) hst z
 replace hst := hst.pull1.keep2
 obtain rfl := some_inj hm
 exact ⟨({ up := t4720, down := (List.replicate (Int.toNat ((a0).length : Int)) (0:Int)), join := [], meet := [], rank := (List.replicate (Int.toNat ((a0).length : Int)) (0:Int)), all := [] } : label_Lattice), b5248, (Pt b5367 0), _, hx5404, (fu 0 r0_0 z (fu 4 (.int .i64 ((a0).length : Int)) z (fu 5 (Pt b5248 0) z z))), hst⟩
}
 {
 refine nxe [1, 6, 7, 9] (by kernel_rfl) z z ?_
 clear hst
 intro w hst
 obtain ⟨v5374, w5375, hr5376, hst⟩ := run_mk (k := .i64) (k' := .i64) (zm := (0:Int)) elem_28 hst hg4722 (by decide) z
 refine we_run (v := v5374) (w' := w5375) z (x_make z z hr5376) ?_
 refine ws_next (pend' := [(0, r0_0)]) hst (by kernel_rfl) (pkr z z (fun w hst => z) pk_nil) ?_
 refine ws_e1 1 (by kernel_rfl) ?_
 refine nxe [6, 7, 9] (by kernel_rfl) z z ?_
 clear hst
 intro w hst
 refine wec call25 [r0_0] z z ?_
 refine (slices_Clone_uint64_uint64_ref (f0_0.mono (rd_weak _)) hst.to0 ht4721).mono ?_
 rintro _ w5378 ⟨v5381, rfl, hst⟩
 refine ⟨_, z, ?_⟩
 replace hst := hst.of1
 refine ws_next (pend' := []) hst (by kernel_rfl) pk_nil ?_
 refine wsr (.agg #[v5381, v5374, Zs, Zs, v5348, Zs]) 6 rfl rfl rfl (by kernel_rfl) (fun w hst => by obtain ⟨_, _, hv_, _⟩ := hst.sv2; rw [hv_]; obtain ⟨_, _, hv_, _⟩ := hst.sv1; rw [hv_]; obtain ⟨_, _, hv_, _⟩ := hst.sv0; rw [hv_]; kernel_rfl) ?_
 refine ws_e1 7 (by kernel_rfl) ?_
 refine nxe [9] (by kernel_rfl) z z ?_
 clear hst
 intro w hst
 obtain ⟨b5389, w5390, ew5391, eb5392, hst⟩ := hst.box [v5381, v5374, Zs, Zs, v5348, Zs] 49
 refine we_run (v := Pt b5389 0) (w' := w5390) z (x_al (by kernel_rfl) ew5391 eb5392) ?_
 refine ws_next (pend' := []) hst (by kernel_rfl) pk_nil ?_
 refine ws_e1 9 (by kernel_rfl) ?_
 refine nxe [] (by kernel_rfl) z z ?_
 clear hst
 intro w hst
 replace hst := hst.pull4
 obtain ⟨w5394, hr5395, hst⟩ := hst.by_ [Pt b5389 0] 0 (Pt b5389 0) sizeOf24 z (oC z oN) (by kernel_rfl)
 refine we_unit z (x_unit hr5395) ?_
 refine ws_next (pend' := []) hst (by kernel_rfl) pk_nil ?_
 refine ws_nil ?_
 intro w hst
 refine ⟨z, ?_⟩
 replace hst := hst.own_nil (tySl (tyInt .i64))
 replace hst := hst.own_nil (tySl (tyInt .i64))
 replace hst := hst.own_nil (tyInt .i64)
 replace hst := hst.pull7.pull2.pull3.pull7.pull7.pull7
 replace hst := at_label_Lattice_close (pv := Pt b5389 0) (x := ({ up := t4720, down := (List.replicate (Int.toNat ((a0).length : Int)) (0:Int)), join := [], meet := [], rank := (List.replicate (Int.toNat ((a0).length : Int)) (0:Int)), all := [] } : label_Lattice)) hst z
 replace hst := hst.pull1.keep2
 obtain rfl := some_inj hm
 exact ⟨({ up := t4720, down := (List.replicate (Int.toNat ((a0).length : Int)) (0:Int)), join := [], meet := [], rank := (List.replicate (Int.toNat ((a0).length : Int)) (0:Int)), all := [] } : label_Lattice), b5248, (Pt b5389 0), _, hx5404, (fu 0 r0_0 z (fu 4 (.int .i64 ((a0).length : Int)) z (fu 5 (Pt b5248 0) z z))), hst⟩
}
}
}
}
 {
 clear hst
 rintro _ w5405 ⟨z5400, b5397, v5399, σ5401, hm, rfl, hst⟩
 dsimp only [label_New_j0] at hm
 refine tn (wp_seq (wp_seq (wrl (wv (v5399) z z (x_load z isAgg24 (hst.bc0 z)) ?_))))
 replace hst := hst.pull1
 replace hst := objO_some hst
 obtain ⟨t5406, ht5407, hm⟩ := bind_some hm
 refine wc call26 [v5399] z z z ?_
 refine (label_Lattice_orders_ref hst.to1 ht5407).mono ?_
 rintro _ w5408 ⟨rfl, hst⟩
 refine ⟨_, z, ?_⟩
 replace hst := hst.of1
 replace hst := objO_get hst
 refine wv (.bool (!t5406)) z z z (wl_nil (tn ?_))
 refine bsplit (!t5406) (fun hc5411 => ?_) (fun hc5411 => ?_)
 {
 replace hm := bif_t hc5411 hm
 refine wp_ift (cvb hc5411) ?_
 refine wp_seq (wrl (wv (.pointer none) z z z (wv (.int .i64 (15:Int)) z z z (wl_nil (tn (wp_ret (then_r ?_)))))))
 replace hst := hst.objO_nil at_label_Lattice
 obtain rfl := some_inj hm
 refine post_ret (vs := [.pointer none, I6 (15:Int)]) results10 (rvs_cons (rv_tmp z) (rvs_cons (rv_tmp z) rvs_nil)) ?_
 exact ⟨_, .pointer none, z, hI0, hst.keep1⟩
}
 {
 replace hm := bif_f hc5411 hm
 refine wp_iff (cvb hc5411) ?_
 refine wp_skip (tn ?_)
 obtain ⟨y5709, hm, hx5710⟩ := bind_some hm
 refine wp_cut (fun a w => ∃ (z5706 : label_Lattice) (σ5707 : Nat → Value), (label_New_j1 a0) z5706 = some r ∧ a = Fr 192 (upd (upd σ5707 4 (.int .i64 ((a0).length : Int))) 5 (Pt b5397 0)) ∧ St w0 w I [cells b5397 [v5399], at_label_Lattice v5399 z5706] R) ?_ ?_
 {
 refine wp_seq (wrl (wv (r0_0) z z z (wv (.int .i64 ((a0).length : Int)) z z (x_len z underlying28 (rd_sliceV f0_0)) (wv (.int .i64 (0:Int)) z z z (wl_nil (tn (wp_block ?_)))))))
 obtain ⟨n5604, hm⟩ := loopO_some hm
 refine wp_loop_n (fun n a w => ∃ (z5601 : label_Lattice) (z5602 : Int) (σ5603 : Nat → Value), loopN (label_New_l2 a0) n (z5601, z5602) = some y5709 ∧ a = Fr 192 (upd (upd (upd (upd (upd σ5603 4 (.int .i64 ((a0).length : Int))) 5 (Pt b5397 0)) 38 (r0_0)) 39 (.int .i64 ((a0).length : Int))) 40 (.int .i64 z5602)) ∧ St w0 w I [at_label_Lattice v5399 z5601, cells b5397 [v5399]] R) n5604 ⟨z5400, (0:Int), _, hm, (fu 4 (.int .i64 ((a0).length : Int)) z (fu 5 (Pt b5397 0) z (fu 38 r0_0 z (fu 39 (.int .i64 ((a0).length : Int)) z (fu 40 (.int .i64 (0:Int)) z z))))), hst⟩ ?_
 rintro n5610 _ w5605 ⟨z5601, z5602, σ5603, hm, rfl, hst⟩
 obtain ⟨n5607, y5608, rfl, hm, hx5609⟩ := loopN_some hm
 dsimp only [label_New_l2] at hm
 refine wp_seq (wrl (wv (.bool (decide (z5602 < ((a0).length : Int)))) z z z (wl_nil (tn (wp_seq ?_)))))
 refine bsplit (decide (z5602 < ((a0).length : Int))) (fun hc5611 => ?_) (fun hc5611 => ?_)
 {
 replace hm := bif_t hc5611 hm
 refine wp_ift (cvb hc5611) ?_
 refine wp_skip (tn (wp_seq (wp_block (wp_seq (wrl ?_)))))
 refine wv (.int .i64 z5602) z z z ?_
 obtain ⟨x5612, hx5613, hm⟩ := bind_some hm
 obtain ⟨h5614, h5615, hi5616⟩ := geto_some hx5613
 refine wv (.pointer (some (eAddr r0_0 (z5602.toNat * 1 + 0)))) z z (x_index z z underlying28 sizeOf43 (rd_sliceV f0_0) h5614 h5615) (wv (.int .u64 x5612) z z (x_load z isAgg43 (rd_load f0_0 (HL.le.refl _) hst hi5616 (by rintro _ rfl; rfl))) (wv (.int .i64 z5602) z z z (wv (.int .u64 x5612) z z z (wl_nil (tn (wp_seq (wrl (wv (.int .i64 ((a0).length : Int)) z z z (wv (.int .i64 (0:Int)) z z z (wl_nil (tn (wp_block ?_))))))))))))
 obtain ⟨n5673, hm⟩ := loopO_some hm
 refine wp_loop_n (fun n a w => ∃ (z5670 : label_Lattice) (z5671 : Int) (σ5672 : Nat → Value), loopN (label_New_l3 a0 x5612 z5602) n (z5670, z5671) = some y5608 ∧ a = Fr 192 (upd (upd (upd (upd (upd (upd (upd (upd (upd σ5672 4 (.int .i64 ((a0).length : Int))) 5 (Pt b5397 0)) 6 (.int .i64 z5602)) 7 (.int .u64 x5612)) 38 (r0_0)) 39 (.int .i64 ((a0).length : Int))) 40 (.int .i64 z5602)) 45 (.int .i64 ((a0).length : Int))) 46 (.int .i64 z5671)) ∧ St w0 w I [at_label_Lattice v5399 z5670, cells b5397 [v5399]] R) n5673 ⟨z5601, (0:Int), _, hm, (fu 4 (.int .i64 ((a0).length : Int)) z (fu 5 (Pt b5397 0) z (fu 6 (.int .i64 z5602) z (fu 7 (.int .u64 x5612) z (fu 38 r0_0 z (fu 39 (.int .i64 ((a0).length : Int)) z (fu 40 (.int .i64 z5602) z (fu 45 (.int .i64 ((a0).length : Int)) z (fu 46 (.int .i64 (0:Int)) z z))))))))), hst⟩ ?_
 rintro n5679 _ w5674 ⟨z5670, z5671, σ5672, hm, rfl, hst⟩
 obtain ⟨n5676, y5677, rfl, hm, hx5678⟩ := loopN_some hm
 dsimp only [label_New_l3] at hm
 refine wp_seq (wrl (wv (.bool (decide (z5671 < ((a0).length : Int)))) z z z (wl_nil (tn (wp_seq ?_)))))
 refine bsplit (decide (z5671 < ((a0).length : Int))) (fun hc5680 => ?_) (fun hc5680 => ?_)
 {
 replace hm := bif_t hc5680 hm
 refine wp_ift (cvb hc5680) ?_
 refine wp_skip (tn (wp_seq (wp_block (wp_seq (wrl ?_)))))
 refine wv (.int .i64 z5671) z z z (wv (.int .i64 z5671) z z z (wl_nil (tn (wp_seq (wrl (wv (.int .u64 x5612) z z z (wv (.int .i64 z5671) z z z ?_)))))))
 obtain ⟨hg5681, hm⟩ := gd_some hm
 refine wv (.int .u64 (iShr .u64 x5612 z5671)) z z (x_shr (of_decide_eq_true hg5681) z z) (wv (.int .u64 (bAnd .u64 (iShr .u64 x5612 z5671) (1:Int))) z z z (wv (.bool ((bAnd .u64 (iShr .u64 x5612 z5671) (1:Int)) == (1:Int))) z z z (wl_nil (tn ?_))))
 refine bsplit ((bAnd .u64 (iShr .u64 x5612 z5671) (1:Int)) == (1:Int)) (fun hc5682 => ?_) (fun hc5682 => ?_)
 {
 replace hm := bif_t hc5682 hm
 refine wp_ift (cvb hc5682) ?_
 obtain ⟨b5683, v5684, v5686, v5688, v5690, v5692, v5694, rfl, hst'⟩ := at_label_Lattice_open hst
 clear hst
 have hst := hst'
 clear hst'
 refine wp_region_St hst 12 [0, 1, 2, 3, 4, 5, 6, 7, 8, 9, 10, 11] [0, 1, 3, 7, 0, 31, 63, 0, 128, 511, 1023, 2047] [] z (by kernel_rfl) (by kernel_rfl) Try.mixed (by kernel_rfl) ?_
 refine wsr (Pt b5683 0) 0 z z z (by kernel_rfl) (fun w hst => x_load z isAgg24 (hst.bc7 z)) (wsr (Pt b5683 0) 1 z z z (by kernel_rfl) (fun w hst => z) (wsr (Pt b5683 1) 2 z z z (by kernel_rfl) (fun w hst => x_field z underlying49 z sizeOf28 z) (wsr (v5686) 3 z z z (by kernel_rfl) (fun w hst => x_load z isAgg28 (hst.bc0 z)) (wsr (.int .i64 z5671) 4 z z z (by kernel_rfl) (fun w hst => z) ?_))))
 obtain ⟨x5696, hx5697, hm⟩ := bind_some hm
 obtain ⟨h5698, h5699, hi5700⟩ := geto_some hx5697
 refine wsr (.pointer (some (eAddr v5686 (z5671.toNat * 1 + 0)))) 5 z z z (by kernel_rfl) (fun w hst => x_index z z underlying28 sizeOf43 hst.sv2 h5698 h5699) (wsr (.int .u64 x5696) 6 z z z (by kernel_rfl) (fun w hst => x_load z isAgg43 (hst.ol2 hi5700 (by rintro _ rfl; rfl))) (wsr (.int .i64 z5602) 7 z z z (by kernel_rfl) (fun w hst => z) ?_))
 obtain ⟨hg5701, hm⟩ := gd_some hm
 refine wsr (.int .u64 (iShl .u64 (1:Int) z5602)) 8 z z z (by kernel_rfl) (fun w hst => x_shl (of_decide_eq_true hg5701) z z) (wsr (.int .u64 (bOr .u64 x5696 (iShl .u64 (1:Int) z5602))) 9 z z z (by kernel_rfl) (fun w hst => z) (wsr (.pointer (some (eAddr v5686 (z5671.toNat * 1 + 0)))) 10 z z z (by kernel_rfl) (fun w hst => x_index z z underlying28 sizeOf43 hst.sv2 h5698 h5699) ?_))
 refine ws_e1 11 (by kernel_rfl) ?_
 refine nxe [] (by kernel_rfl) z z ?_
 clear hst
 intro w hst
 replace hst := hst.pull2
 obtain ⟨w5702, hr5703, hst⟩ := hst.own_store (P := prog) (t := 43) (y := (bOr .u64 x5696 (iShl .u64 (1:Int) z5602))) hi5700 0 (.int .u64 (bOr .u64 x5696 (iShl .u64 (1:Int) z5602))) sizeOf43 (Nat.le_of_ble_eq_true z) (oC z oN) (by rintro _ rfl; rfl)
 have hi5704 := set_get hi5700 (bOr .u64 x5696 (iShl .u64 (1:Int) z5602))
 have h5705 := set_lt h5699 z5671.toNat (bOr .u64 x5696 (iShl .u64 (1:Int) z5602))
 refine we_unit z (x_unit hr5703) ?_
 refine ws_next (pend' := []) hst (by kernel_rfl) pk_nil ?_
 refine ws_nil ?_
 intro w hst
 refine blk_n (tn (wrl ?_))
 refine wv (.int .i64 (i64.wrap (z5671 + (1:Int)))) z z z (wv (.int .i64 (i64.wrap (z5671 + (1:Int)))) z z z (wl_nil (tn ?_)))
 replace hst := hst.pull6.pull6.pull6.pull6.pull4.pull6.pull6
 replace hst := at_label_Lattice_close (pv := Pt b5683 0) (x := ({ up := z5670.up, down := (z5670.down.set z5671.toNat (bOr .u64 x5696 (iShl .u64 (1:Int) z5602))), join := z5670.join, meet := z5670.meet, rank := z5670.rank, all := z5670.all } : label_Lattice)) hst z
 replace hst := hst.pull1.pull1.keep2
 obtain rfl := some_inj hm
 exact ⟨_, Nat.lt_succ_self _, ({ up := z5670.up, down := (z5670.down.set z5671.toNat (bOr .u64 x5696 (iShl .u64 (1:Int) z5602))), join := z5670.join, meet := z5670.meet, rank := z5670.rank, all := z5670.all } : label_Lattice), (i64.wrap (z5671 + (1:Int))), _, hx5678, (fu 4 (.int .i64 ((a0).length : Int)) z (fu 5 (Pt b5397 0) z (fu 6 (.int .i64 z5602) z (fu 7 (.int .u64 x5612) z (fu 38 r0_0 z (fu 39 (.int .i64 ((a0).length : Int)) z (fu 40 (.int .i64 z5602) z (fu 45 (.int .i64 ((a0).length : Int)) z (fu 46 (.int .i64 (i64.wrap (z5671 + (1:Int)))) z z))))))))), hst⟩
}
 {
 replace hm := bif_f hc5682 hm
 refine wp_iff (cvb hc5682) ?_
 refine wp_skip (blk_n (tn (wrl ?_)))
 refine wv (.int .i64 (i64.wrap (z5671 + (1:Int)))) z z z (wv (.int .i64 (i64.wrap (z5671 + (1:Int)))) z z z (wl_nil (tn ?_)))
 replace hst := hst.pull1.pull1.keep2
 obtain rfl := some_inj hm
 exact ⟨_, Nat.lt_succ_self _, z5670, (i64.wrap (z5671 + (1:Int))), _, hx5678, (fu 4 (.int .i64 ((a0).length : Int)) z (fu 5 (Pt b5397 0) z (fu 6 (.int .i64 z5602) z (fu 7 (.int .u64 x5612) z (fu 38 r0_0 z (fu 39 (.int .i64 ((a0).length : Int)) z (fu 40 (.int .i64 z5602) z (fu 45 (.int .i64 ((a0).length : Int)) z (fu 46 (.int .i64 (i64.wrap (z5671 + (1:Int)))) z z))))))))), hst⟩
}
}
 {
 replace hm := bif_f hc5680 hm
 refine wp_iff (cvb hc5680) ?_
 refine wp_exit (then_x (then_x ?_))
 replace hm := inr_up hm hx5678
 refine blk_x (blk_n (tn (wrl ?_)))
 refine wv (.int .i64 (i64.wrap (z5602 + (1:Int)))) z z z (wv (.int .i64 (i64.wrap (z5602 + (1:Int)))) z z z (wl_nil (tn ?_)))
 replace hst := hst.pull1.pull1.keep2
 obtain rfl := some_inj hm
 exact ⟨_, Nat.lt_succ_self _, z5670, (i64.wrap (z5602 + (1:Int))), _, hx5609, (fu 4 (.int .i64 ((a0).length : Int)) z (fu 5 (Pt b5397 0) z (fu 38 r0_0 z (fu 39 (.int .i64 ((a0).length : Int)) z (fu 40 (.int .i64 (i64.wrap (z5602 + (1:Int)))) z z))))), hst⟩
}
}
 {
 replace hm := bif_f hc5611 hm
 refine wp_iff (cvb hc5611) ?_
 refine wp_exit (then_x (then_x ?_))
 replace hm := inr_up hm hx5609
 refine blk_x (tn ?_)
 replace hst := hst.pull1.keep2
 obtain rfl := some_inj hm
 exact ⟨z5601, _, hx5710, (fu 4 (.int .i64 ((a0).length : Int)) z (fu 5 (Pt b5397 0) z z)), hst⟩
}
}
 {
 clear hst
 rintro _ w5711 ⟨z5706, σ5707, hm, rfl, hst⟩
 dsimp only [label_New_j1] at hm
 obtain ⟨y7054, hm, hx7055⟩ := joinO_some hm
 refine wp_cut (fun a w => ∃ (I7051 : HL) (z7050 : label_Lattice) (σ7052 : Nat → Value), (label_New_j4) z7050 = some r ∧ a = Fr 192 (upd σ7052 5 (Pt b5397 0)) ∧ I.le I7051 ∧ St w0 w I7051 [cells b5397 [v5399], at_label_Lattice v5399 z7050] R) ?_ ?_
 {
 have hL7056 := HL.le.refl I
 refine wp_seq (wrl (wv (.int .i64 ((a0).length : Int)) z z z (wv (.int .i64 (0:Int)) z z z (wl_nil (tn (wp_block ?_))))))
 obtain ⟨n6594, hm⟩ := loopO_some hm
 refine wp_loop_n (fun n a w => ∃ (I6592 : HL) (z6590 : label_Lattice) (z6591 : Int) (σ6593 : Nat → Value), loopN (label_New_l5 a0) n (z6590, z6591) = some y7054 ∧ a = Fr 192 (upd (upd (upd (upd σ6593 4 (.int .i64 ((a0).length : Int))) 5 (Pt b5397 0)) 67 (.int .i64 ((a0).length : Int))) 68 (.int .i64 z6591)) ∧ I.le I6592 ∧ St w0 w I6592 [cells b5397 [v5399], at_label_Lattice v5399 z6590] R) n6594 ⟨_, z5706, (0:Int), _, hm, (fu 4 (.int .i64 ((a0).length : Int)) z (fu 5 (Pt b5397 0) z (fu 67 (.int .i64 ((a0).length : Int)) z (fu 68 (.int .i64 (0:Int)) z z)))), (HL.le.refl _), hst⟩ ?_
 rintro n6600 _ w6595 ⟨I6592, z6590, z6591, σ6593, hm, rfl, hL6596, hst⟩
 obtain ⟨n6597, y6598, rfl, hm, hx6599⟩ := loopN_some hm
 dsimp only [label_New_l5] at hm
 replace f0_0 := f0_0.mono (rd_le hL6596)
 replace hI0 := hI0.trans hL6596
 replace hL7056 := hL7056.trans hL6596
 refine wp_seq (wrl (wv (.bool (decide (z6591 < ((a0).length : Int)))) z z z (wl_nil (tn (wp_seq ?_)))))
 refine bsplit (decide (z6591 < ((a0).length : Int))) (fun hc6601 => ?_) (fun hc6601 => ?_)
 {
 replace hm := bif_t hc6601 hm
 refine wp_ift (cvb hc6601) ?_
 refine wp_skip (tn (wp_seq (wp_block (wp_seq (wrl ?_)))))
 refine wv (.int .i64 z6591) z z z (wv (.int .i64 z6591) z z z (wl_nil (tn (wp_seq (wrl (wv ((.slice none 0 0)) z z z (wv ((.slice none 0 0)) z z z (wl_nil (tn ?_)))))))))
 obtain ⟨y6914, hm, hx6915⟩ := joinO_some hm
 refine wp_cut (fun a w => ∃ (z6908 : (List Int)) (z6911 : (List Int)) (v6907 : Value) (v6910 : Value) (σ6912 : Nat → Value), (label_New_j6 z6590 z6591) (z6908, z6911) = some y6598 ∧ a = Fr 192 (upd (upd (upd (upd (upd (upd (upd σ6912 4 (.int .i64 ((a0).length : Int))) 5 (Pt b5397 0)) 9 (.int .i64 z6591)) 10 (v6907)) 11 (v6910)) 67 (.int .i64 ((a0).length : Int))) 68 (.int .i64 z6591)) ∧ St w0 w I6592 [cells b5397 [v5399], at_label_Lattice v5399 z6590, ownS (tyInt .i64) v6907 z6908, ownS (tyInt .i64) v6910 z6911] R) ?_ ?_
 {
 refine wp_seq (wrl (wv (.int .i64 ((a0).length : Int)) z z z (wv (.int .i64 (0:Int)) z z z (wl_nil (tn (wp_block ?_))))))
 replace hst := hst.own_nil (tyInt .i64)
 replace hst := hst.own_nil (tyInt .i64)
 obtain ⟨n6829, hm⟩ := loopO_some hm
 refine wp_loop_n (fun n a w => ∃ (z6821 : (List Int)) (z6824 : (List Int)) (z6827 : Int) (v6822 : Value) (v6825 : Value) (σ6828 : Nat → Value), loopN (label_New_l7 a0 z6590 z6591) n (z6821, z6824, z6827) = some y6914 ∧ a = Fr 192 (upd (upd (upd (upd (upd (upd (upd (upd (upd σ6828 4 (.int .i64 ((a0).length : Int))) 5 (Pt b5397 0)) 9 (.int .i64 z6591)) 10 (v6822)) 11 (v6825)) 67 (.int .i64 ((a0).length : Int))) 68 (.int .i64 z6591)) 71 (.int .i64 ((a0).length : Int))) 72 (.int .i64 z6827)) ∧ St w0 w I6592 [ownS (tyInt .i64) v6825 z6824, ownS (tyInt .i64) v6822 z6821, cells b5397 [v5399], at_label_Lattice v5399 z6590] R) n6829 ⟨[], [], (0:Int), Zs, Zs, _, hm, (fu 4 (.int .i64 ((a0).length : Int)) z (fu 5 (Pt b5397 0) z (fu 9 (.int .i64 z6591) z (fu 10 (.slice none 0 0) z (fu 11 (.slice none 0 0) z (fu 67 (.int .i64 ((a0).length : Int)) z (fu 68 (.int .i64 z6591) z (fu 71 (.int .i64 ((a0).length : Int)) z (fu 72 (.int .i64 (0:Int)) z z))))))))), hst⟩ ?_
 rintro n6835 _ w6830 ⟨z6821, z6824, z6827, v6822, v6825, σ6828, hm, rfl, hst⟩
 obtain ⟨n6832, y6833, rfl, hm, hx6834⟩ := loopN_some hm
 dsimp only [label_New_l7] at hm
 refine wp_seq (wrl (wv (.bool (decide (z6827 < ((a0).length : Int)))) z z z (wl_nil (tn (wp_seq ?_)))))
 refine bsplit (decide (z6827 < ((a0).length : Int))) (fun hc6836 => ?_) (fun hc6836 => ?_)
 {
 replace hm := bif_t hc6836 hm
 refine wp_ift (cvb hc6836) ?_
 refine wp_skip (tn (wp_seq (wp_block (wp_seq (wrl ?_)))))
 refine wv (.int .i64 z6827) z z z (wv (.int .i64 z6827) z z z (wl_nil (tn (wp_seq ?_))))
 replace hst := hst.pull3
 obtain ⟨b6837, v6838, v6840, v6842, v6844, v6846, v6848, rfl, hst'⟩ := at_label_Lattice_open hst
 clear hst
 have hst := hst'
 clear hst'
 refine wp_region_St hst 25 [0, 1, 2, 3, 4, 5, 6, 7, 8, 9, 10, 11, 12, 13, 14, 15, 16, 17, 18, 19, 20, 21, 22, 23, 24] [0, 1, 3, 7, 0, 31, 63, 0, 128, 384, 896, 0, 3968, 8064, 16383, 0, 32768, 98304, 229376, 524287, 1048575, 2097151, 2097151, 4194303, 16777215] [] z (by kernel_rfl) (by kernel_rfl) Try.mixed (by kernel_rfl) ?_
 refine wsr (Pt b6837 0) 0 z z z (by kernel_rfl) (fun w hst => x_load z isAgg24 (hst.bc9 z)) (wsr (Pt b6837 0) 1 z z z (by kernel_rfl) (fun w hst => z) (wsr (Pt b6837 0) 2 z z z (by kernel_rfl) (fun w hst => x_field z underlying49 z sizeOf28 z) (wsr (v6838) 3 z z z (by kernel_rfl) (fun w hst => x_load z isAgg28 (hst.bc0 z)) (wsr (.int .i64 z6591) 4 z z z (by kernel_rfl) (fun w hst => z) ?_))))
 obtain ⟨x6850, hx6851, hm⟩ := bind_some hm
 obtain ⟨h6852, h6853, hi6854⟩ := geto_some hx6851
 refine wsr (.pointer (some (eAddr v6838 (z6591.toNat * 1 + 0)))) 5 z z z (by kernel_rfl) (fun w hst => x_index z z underlying28 sizeOf43 hst.sv1 h6852 h6853) (wsr (.int .u64 x6850) 6 z z z (by kernel_rfl) (fun w hst => x_load z isAgg43 (hst.ol1 hi6854 (by rintro _ rfl; rfl))) (wsr (Pt b6837 0) 7 z z z (by kernel_rfl) (fun w hst => x_load z isAgg24 (hst.bc9 z)) (wsr (Pt b6837 0) 8 z z z (by kernel_rfl) (fun w hst => z) (wsr (Pt b6837 0) 9 z z z (by kernel_rfl) (fun w hst => x_field z underlying49 z sizeOf28 z) (wsr (v6838) 10 z z z (by kernel_rfl) (fun w hst => x_load z isAgg28 (hst.bc0 z)) (wsr (.int .i64 z6827) 11 z z z (by kernel_rfl) (fun w hst => z) ?_))))))
 obtain ⟨x6855, hx6856, hm⟩ := bind_some hm
 obtain ⟨h6857, h6858, hi6859⟩ := geto_some hx6856
 refine wsr (.pointer (some (eAddr v6838 (z6827.toNat * 1 + 0)))) 12 z z z (by kernel_rfl) (fun w hst => x_index z z underlying28 sizeOf43 hst.sv1 h6857 h6858) (wsr (.int .u64 x6855) 13 z z z (by kernel_rfl) (fun w hst => x_load z isAgg43 (hst.ol1 hi6859 (by rintro _ rfl; rfl))) (wsr (.int .u64 (bAnd .u64 x6850 x6855)) 14 z z z (by kernel_rfl) (fun w hst => z) (wsr (Pt b6837 0) 15 z z z (by kernel_rfl) (fun w hst => x_load z isAgg24 (hst.bc9 z)) (wsr (Pt b6837 0) 16 z z z (by kernel_rfl) (fun w hst => z) (wsr (Pt b6837 0) 17 z z z (by kernel_rfl) (fun w hst => x_field z underlying49 z sizeOf28 z) (wsr (v6838) 18 z z z (by kernel_rfl) (fun w hst => x_load z isAgg28 (hst.bc0 z)) ?_))))))
 refine ws_e1 19 (by kernel_rfl) ?_
 refine nxe [20, 21, 22, 23, 24] (by kernel_rfl) z z ?_
 clear hst
 intro w hst
 replace hst := hst.pull1
 obtain ⟨css6860, hq6861, hst⟩ := hst.own_open
 obtain ⟨t6862, ht6863, hm⟩ := bind_some hm
 refine wec call27 [U6 (bAnd .u64 x6850 x6855), v6838] z z ?_
 refine (label_least_ref (hst.rdrow0 hq6861) hst.to0 ht6863).mono ?_
 rintro _ w6864 ⟨rfl, hst⟩
 refine ⟨_, z, ?_⟩
 replace hst := hst.of0.own_close hq6861
 refine ws_next (pend' := []) hst (by kernel_rfl) pk_nil ?_
 refine wsr (.tuple #[I6 t6862.1, .bool t6862.2]) 20 z z z (by kernel_rfl) (fun w hst => z) (wsr (.int .i64 t6862.1) 21 z z z (by kernel_rfl) (fun w hst => z) (wsr (.bool t6862.2) 22 z z z (by kernel_rfl) (fun w hst => z) (wsr (.int .i64 t6862.1) 23 z z z (by kernel_rfl) (fun w hst => z) (wsr (.bool t6862.2) 24 z z z (by kernel_rfl) (fun w hst => z) ?_))))
 refine ws_nil ?_
 intro w hst
 refine tn (wp_seq ?_)
 refine wp_region_St hst 25 [0, 1, 2, 3, 4, 5, 6, 7, 8, 9, 10, 11, 12, 13, 14, 15, 16, 17, 18, 19, 20, 21, 22, 23, 24] [0, 1, 3, 7, 0, 31, 63, 0, 128, 384, 896, 0, 3968, 8064, 16383, 0, 32768, 98304, 229376, 524287, 1048575, 2097151, 2097151, 4194303, 16777215] [] z (by kernel_rfl) (by kernel_rfl) Try.mixed (by kernel_rfl) ?_
 refine wsr (Pt b6837 0) 0 z z z (by kernel_rfl) (fun w hst => x_load z isAgg24 (hst.bc9 z)) (wsr (Pt b6837 0) 1 z z z (by kernel_rfl) (fun w hst => z) (wsr (Pt b6837 1) 2 z z z (by kernel_rfl) (fun w hst => x_field z underlying49 z sizeOf28 z) (wsr (v6840) 3 z z z (by kernel_rfl) (fun w hst => x_load z isAgg28 (hst.bc1 z)) (wsr (.int .i64 z6591) 4 z z z (by kernel_rfl) (fun w hst => z) ?_))))
 obtain ⟨x6867, hx6868, hm⟩ := bind_some hm
 obtain ⟨h6869, h6870, hi6871⟩ := geto_some hx6868
 refine wsr (.pointer (some (eAddr v6840 (z6591.toNat * 1 + 0)))) 5 z z z (by kernel_rfl) (fun w hst => x_index z z underlying28 sizeOf43 hst.sv2 h6869 h6870) (wsr (.int .u64 x6867) 6 z z z (by kernel_rfl) (fun w hst => x_load z isAgg43 (hst.ol2 hi6871 (by rintro _ rfl; rfl))) (wsr (Pt b6837 0) 7 z z z (by kernel_rfl) (fun w hst => x_load z isAgg24 (hst.bc9 z)) (wsr (Pt b6837 0) 8 z z z (by kernel_rfl) (fun w hst => z) (wsr (Pt b6837 1) 9 z z z (by kernel_rfl) (fun w hst => x_field z underlying49 z sizeOf28 z) (wsr (v6840) 10 z z z (by kernel_rfl) (fun w hst => x_load z isAgg28 (hst.bc1 z)) (wsr (.int .i64 z6827) 11 z z z (by kernel_rfl) (fun w hst => z) ?_))))))
 obtain ⟨x6872, hx6873, hm⟩ := bind_some hm
 obtain ⟨h6874, h6875, hi6876⟩ := geto_some hx6873
 refine wsr (.pointer (some (eAddr v6840 (z6827.toNat * 1 + 0)))) 12 z z z (by kernel_rfl) (fun w hst => x_index z z underlying28 sizeOf43 hst.sv2 h6874 h6875) (wsr (.int .u64 x6872) 13 z z z (by kernel_rfl) (fun w hst => x_load z isAgg43 (hst.ol2 hi6876 (by rintro _ rfl; rfl))) (wsr (.int .u64 (bAnd .u64 x6867 x6872)) 14 z z z (by kernel_rfl) (fun w hst => z) (wsr (Pt b6837 0) 15 z z z (by kernel_rfl) (fun w hst => x_load z isAgg24 (hst.bc9 z)) (wsr (Pt b6837 0) 16 z z z (by kernel_rfl) (fun w hst => z) (wsr (Pt b6837 1) 17 z z z (by kernel_rfl) (fun w hst => x_field z underlying49 z sizeOf28 z) (wsr (v6840) 18 z z z (by kernel_rfl) (fun w hst => x_load z isAgg28 (hst.bc1 z)) ?_))))))
 refine ws_e1 19 (by kernel_rfl) ?_
 refine nxe [20, 21, 22, 23, 24] (by kernel_rfl) z z ?_
 clear hst
 intro w hst
 replace hst := hst.pull2
 obtain ⟨css6877, hq6878, hst⟩ := hst.own_open
 obtain ⟨t6879, ht6880, hm⟩ := bind_some hm
 refine wec call27 [U6 (bAnd .u64 x6867 x6872), v6840] z z ?_
 refine (label_least_ref (hst.rdrow0 hq6878) hst.to0 ht6880).mono ?_
 rintro _ w6881 ⟨rfl, hst⟩
 refine ⟨_, z, ?_⟩
 replace hst := hst.of0.own_close hq6878
 refine ws_next (pend' := []) hst (by kernel_rfl) pk_nil ?_
 refine wsr (.tuple #[I6 t6879.1, .bool t6879.2]) 20 z z z (by kernel_rfl) (fun w hst => z) (wsr (.int .i64 t6879.1) 21 z z z (by kernel_rfl) (fun w hst => z) (wsr (.bool t6879.2) 22 z z z (by kernel_rfl) (fun w hst => z) (wsr (.int .i64 t6879.1) 23 z z z (by kernel_rfl) (fun w hst => z) (wsr (.bool t6879.2) 24 z z z (by kernel_rfl) (fun w hst => z) ?_))))
 refine ws_nil ?_
 intro w hst
 refine tn (wp_seq (wp_seq (wrl (wv (.bool t6862.2) z z z (wv (.bool (!t6862.2)) z z z (wv (.bool (!t6862.2)) z z z ?_))))))
 refine bsplit (!t6862.2) (fun hc6884 => ?_) (fun hc6884 => ?_)
 {
 replace hm := bif_t hc6884 hm
 refine wo hc6884 z z z z z z (wo hc6884 z z z z z z (wv (.bool true) z z (x_pick_t hc6884 z z) (wl_nil (tn ?_))))
 refine wp_ift z ?_
 refine wp_seq (wrl (wv (.pointer none) z z z (wv (.int .i64 (15:Int)) z z z (wl_nil (tn (wp_ret (then_r (blk_r (then_r (then_r ?_))))))))))
 replace hm := inr_up hm hx6834
 refine blk_r (then_r ?_)
 replace hm := inr_up hm hx6915
 refine blk_r (then_r (then_r ?_))
 replace hm := inr_up hm hx6599
 refine blk_r (then_r ?_)
 replace hm := inr_up hm hx7055
 replace hst := hst.objO_nil at_label_Lattice
 obtain rfl := some_inj hm
 refine post_ret (vs := [.pointer none, I6 (15:Int)]) results10 (rvs_cons (rv_tmp z) (rvs_cons (rv_tmp z) rvs_nil)) ?_
 exact ⟨_, .pointer none, z, hI0, hst.keep1⟩
}
 {
 replace hm := bif_f hc6884 hm
 refine wv (.bool t6879.2) ((wanted_eq z z z (cvb hc6884)).trans z) z z (wv (.bool (!t6879.2)) ((wanted_eq z z z (cvb hc6884)).trans z) z z (wv (.bool (!t6879.2)) z z (x_pick_f hc6884 z z) (wl_nil (tn ?_))))
 refine bsplit (!t6879.2) (fun hc6886 => ?_) (fun hc6886 => ?_)
 {
 replace hm := bif_t hc6886 hm
 refine wp_ift (cvb hc6886) ?_
 refine wp_seq (wrl (wv (.pointer none) z z z (wv (.int .i64 (15:Int)) z z z (wl_nil (tn (wp_ret (then_r (blk_r (then_r (then_r ?_))))))))))
 replace hm := inr_up hm hx6834
 refine blk_r (then_r ?_)
 replace hm := inr_up hm hx6915
 refine blk_r (then_r (then_r ?_))
 replace hm := inr_up hm hx6599
 refine blk_r (then_r ?_)
 replace hm := inr_up hm hx7055
 replace hst := hst.objO_nil at_label_Lattice
 obtain rfl := some_inj hm
 refine post_ret (vs := [.pointer none, I6 (15:Int)]) results10 (rvs_cons (rv_tmp z) (rvs_cons (rv_tmp z) rvs_nil)) ?_
 exact ⟨_, .pointer none, z, hI0, hst.keep1⟩
}
 {
 replace hm := bif_f hc6886 hm
 refine wp_iff (cvb hc6886) ?_
 refine wp_skip (tn (wrl ?_))
 refine wv (v6822) z z z (wv (.int .i64 t6862.1) z z z ?_)
 obtain ⟨b6888, w6889, ew6890, eb6891, hst⟩ := hst.lits (E := (tyInt .i64)) (xs := [t6862.1]) [[I6 t6862.1]] 3 1 z (Reps.cons z Reps.nil)
 refine wl_run (v := (.slice (some ⟨b6888, 0, none⟩) 1 1)) (w' := w6889) z z (x_als (by kernel_rfl) ew6890 eb6891) ?_
 obtain ⟨hg6893, hm⟩ := gd_some hm
 replace hst := hst.pull9
 obtain ⟨v6894, w6895, hr6896, hst⟩ := run_append elem_41 underlying41 hst hst.src1 (room_of hg6893 z) 41
 refine wl_run (v := v6894) (w' := w6895) z z (x_append z z hr6896) ?_
 refine wv (v6825) z z z (wv (.int .i64 t6879.1) z z z ?_)
 obtain ⟨b6898, w6899, ew6900, eb6901, hst⟩ := hst.lits (E := (tyInt .i64)) (xs := [t6879.1]) [[I6 t6879.1]] 3 1 z (Reps.cons z Reps.nil)
 refine wl_run (v := (.slice (some ⟨b6898, 0, none⟩) 1 1)) (w' := w6899) z z (x_als (by kernel_rfl) ew6900 eb6901) ?_
 obtain ⟨hg6903, hm⟩ := gd_some hm
 replace hst := hst.pull10
 obtain ⟨v6904, w6905, hr6906, hst⟩ := run_append elem_41 underlying41 hst hst.src1 (room_of hg6903 z) 41
 refine wl_run (v := v6904) (w' := w6905) z z (x_append z z hr6906) ?_
 refine wv (v6894) z z z (wv (v6904) z z z (wl_nil (blk_n (tn (wrl (wv (.int .i64 (i64.wrap (z6827 + (1:Int)))) z z z (wv (.int .i64 (i64.wrap (z6827 + (1:Int)))) z z z (wl_nil (tn ?_)))))))))
 replace hst := hst.pull10.pull10.pull10.pull10.pull8.pull9.pull10
 replace hst := at_label_Lattice_close (pv := Pt b6837 0) (x := z6590) hst z
 replace hst := hst.pull5.pull4.pull3.keep4
 obtain rfl := some_inj hm
 exact ⟨_, Nat.lt_succ_self _, (z6821 ++ ([t6862.1])), (z6824 ++ ([t6879.1])), (i64.wrap (z6827 + (1:Int))), v6894, v6904, _, hx6834, (fu 4 (.int .i64 ((a0).length : Int)) z (fu 5 (Pt b5397 0) z (fu 9 (.int .i64 z6591) z (fu 10 v6894 z (fu 11 v6904 z (fu 67 (.int .i64 ((a0).length : Int)) z (fu 68 (.int .i64 z6591) z (fu 71 (.int .i64 ((a0).length : Int)) z (fu 72 (.int .i64 (i64.wrap (z6827 + (1:Int)))) z z))))))))), hst⟩
}
}
}
 {
 replace hm := bif_f hc6836 hm
 refine wp_iff (cvb hc6836) ?_
 refine wp_exit (then_x (then_x ?_))
 replace hm := inr_up hm hx6834
 refine blk_x (tn ?_)
 replace hst := hst.pull1.pull3.pull3.keep4
 obtain rfl := some_inj hm
 exact ⟨z6821, z6824, v6822, v6825, _, hx6915, (fu 4 (.int .i64 ((a0).length : Int)) z (fu 5 (Pt b5397 0) z (fu 9 (.int .i64 z6591) z (fu 10 v6822 z (fu 11 v6825 z (fu 67 (.int .i64 ((a0).length : Int)) z (fu 68 (.int .i64 z6591) z z))))))), hst⟩
}
}
 {
 clear hst
 rintro _ w6916 ⟨z6908, z6911, v6907, v6910, σ6912, hm, rfl, hst⟩
 dsimp only [label_New_j6] at hm
 refine wp_seq ?_
 replace hst := hst.pull1
 obtain ⟨b6917, v6918, v6920, v6922, v6924, v6926, v6928, rfl, hst'⟩ := at_label_Lattice_open hst
 clear hst
 have hst := hst'
 clear hst'
 obtain ⟨y7020, hm, hx7021⟩ := bind_some hm
 refine wp_mid (fun a w => ∃ (I7017 : HL) (σ7018 : Nat → Value), (label_New_j8 z6590 z6908 z6911 z6591) () = some y6598 ∧ a = Fr 192 (upd (upd (upd (upd (upd σ7018 4 (.int .i64 ((a0).length : Int))) 5 (Pt b5397 0)) 9 (.int .i64 z6591)) 67 (.int .i64 ((a0).length : Int))) 68 (.int .i64 z6591)) ∧ I6592.le I7017 ∧ St w0 w I7017 [cells b5397 [Pt b6917 0], at_label_Lattice (Pt b6917 0) ({ up := z6590.up, down := z6590.down, join := (z6590.join ++ ([z6908])), meet := (z6590.meet ++ ([z6911])), rank := z6590.rank, all := z6590.all } : label_Lattice)] R) ?_ ?_
 {
 have hL7022 := HL.le.refl I6592
 refine wp_region_St hst 22 [0, 1, 2, 3, 4, 5, 6, 7, 8, 9, 10, 11, 12, 13, 14, 15, 16, 17, 18, 19, 20, 21] [0, 0, 0, 4, 12, 28, 0, 64, 252, 0, 512, 1536, 3584, 0, 8192, 32764, 65533, 131069, 262141, 524287, 1048575, 2097151] [] z (by kernel_rfl) (by kernel_rfl) Try.mixed (by kernel_rfl) ?_
 refine wsr (Pt b6917 0) 0 z z z (by kernel_rfl) (fun w hst => x_load z isAgg24 (hst.bc7 z)) (wsr (Pt b6917 0) 1 z z z (by kernel_rfl) (fun w hst => x_load z isAgg24 (hst.bc7 z)) (wsr (Pt b6917 0) 2 z z z (by kernel_rfl) (fun w hst => x_load z isAgg24 (hst.bc7 z)) (wsr (Pt b6917 0) 3 z z z (by kernel_rfl) (fun w hst => z) (wsr (Pt b6917 2) 4 z z z (by kernel_rfl) (fun w hst => x_field z underlying49 z sizeOf47 z) (wsr (v6922) 5 z z z (by kernel_rfl) (fun w hst => x_load z isAgg47 (hst.bc0 z)) (wsr (v6907) 6 z z z (by kernel_rfl) (fun w hst => z) (wsr (Pt b6917 0) 9 z z z (by kernel_rfl) (fun w hst => x_load z isAgg24 (hst.bc7 z)) (wsr (Pt b6917 0) 10 z z z (by kernel_rfl) (fun w hst => z) (wsr (Pt b6917 3) 11 z z z (by kernel_rfl) (fun w hst => x_field z underlying49 z sizeOf47 z) (wsr (v6924) 12 z z z (by kernel_rfl) (fun w hst => x_load z isAgg47 (hst.bc0 z)) (wsr (v6910) 13 z z z (by kernel_rfl) (fun w hst => z) ?_)))))))))))
 refine ws_e2 7 14 (by kernel_rfl) ?_ ?_
 {
 refine nxe [8, 14, 15, 16, 17, 18, 19, 20, 21] (by kernel_rfl) z z ?_
 clear hst
 intro w hst
 replace hst := hst.pull8
 obtain ⟨I6931, hI6932, f6933, hst⟩ := hst.own_fix
 replace f0_0 := f0_0.mono (rd_le hI6932)
 replace hI0 := hI0.trans hI6932
 replace hL7056 := hL7056.trans hI6932
 replace hL6596 := hL6596.trans hI6932
 replace hL7022 := hL7022.trans hI6932
 obtain ⟨b6934, w6935, ew6936, eb6937, hst⟩ := hst.lits (E := (tySl (tyInt .i64))) (xs := [z6908]) [[v6907]] 41 1 z (Reps.cons ⟨_, z, f6933, one_of_sliceV (ro_sliceV f6933)⟩ Reps.nil)
 refine we_run (v := (.slice (some ⟨b6934, 0, none⟩) 1 1)) (w' := w6935) z (x_als (by obtain ⟨_, _, hv_, _⟩ := (ro_sliceV f6933); rw [hv_]; kernel_rfl) ew6936 eb6937) ?_
 refine ws_next (pend' := [(13, v6910), (12, v6924), (11, Pt b6917 3), (10, Pt b6917 0), (9, Pt b6917 0), (5, v6922), (4, Pt b6917 2), (3, Pt b6917 0), (2, Pt b6917 0), (1, Pt b6917 0), (0, Pt b6917 0)]) hst (by kernel_rfl) (pkr z z (fun w hst => z) (pkr z z (fun w hst => x_load z isAgg47 (hst.bc1 z)) (pkr z z (fun w hst => x_field z underlying49 z sizeOf47 z) (pkr z z (fun w hst => z) (pkr z z (fun w hst => x_load z isAgg24 (hst.bc8 z)) (pkr z z (fun w hst => x_load z isAgg47 (hst.bc1 z)) (pkr z z (fun w hst => x_field z underlying49 z sizeOf47 z) (pkr z z (fun w hst => z) (pkr z z (fun w hst => x_load z isAgg24 (hst.bc8 z)) (pkr z z (fun w hst => x_load z isAgg24 (hst.bc8 z)) (pkr z z (fun w hst => x_load z isAgg24 (hst.bc8 z)) pk_nil))))))))))) ?_
 refine ws_e2 8 14 (by kernel_rfl) ?_ ?_
 {
 refine nxe [14, 15, 16, 17, 18, 19, 20, 21] (by kernel_rfl) z z ?_
 clear hst
 intro w hst
 obtain ⟨hg6939, hm⟩ := gd_some hm
 replace hst := hst.pull4
 obtain ⟨v6940, w6941, hr6942, hst⟩ := run_append elem_47 underlying47 hst hst.src1 (room_of hg6939 z) 47
 refine we_run (v := v6940) (w' := w6941) z (x_append z z hr6942) ?_
 refine ws_next (pend' := [(13, v6910), (12, v6924), (11, Pt b6917 3), (10, Pt b6917 0), (9, Pt b6917 0), (1, Pt b6917 0), (0, Pt b6917 0)]) hst (by kernel_rfl) (pkr z z (fun w hst => z) (pkr z z (fun w hst => x_load z isAgg47 (hst.bc2 z)) (pkr z z (fun w hst => x_field z underlying49 z sizeOf47 z) (pkr z z (fun w hst => z) (pkr z z (fun w hst => x_load z isAgg24 (hst.bc8 z)) (pkr z z (fun w hst => x_load z isAgg24 (hst.bc8 z)) (pkr z z (fun w hst => x_load z isAgg24 (hst.bc8 z)) pk_nil))))))) ?_
 refine ws_e1 14 (by kernel_rfl) ?_
 refine nxe [15, 16, 17, 18, 19, 20, 21] (by kernel_rfl) z z ?_
 clear hst
 intro w hst
 replace hst := hst.pull9
 obtain ⟨I6945, hI6946, f6947, hst⟩ := hst.own_fix
 replace f0_0 := f0_0.mono (rd_le hI6946)
 replace f6933 := f6933.mono (ro_le hI6946)
 replace hI0 := hI0.trans hI6946
 replace hL7056 := hL7056.trans hI6946
 replace hL6596 := hL6596.trans hI6946
 replace hL7022 := hL7022.trans hI6946
 obtain ⟨b6948, w6949, ew6950, eb6951, hst⟩ := hst.lits (E := (tySl (tyInt .i64))) (xs := [z6911]) [[v6910]] 41 1 z (Reps.cons ⟨_, z, f6947, one_of_sliceV (ro_sliceV f6947)⟩ Reps.nil)
 refine we_run (v := (.slice (some ⟨b6948, 0, none⟩) 1 1)) (w' := w6949) z (x_als (by obtain ⟨_, _, hv_, _⟩ := (ro_sliceV f6947); rw [hv_]; kernel_rfl) ew6950 eb6951) ?_
 refine ws_next (pend' := [(12, v6924), (11, Pt b6917 3), (10, Pt b6917 0), (9, Pt b6917 0), (1, Pt b6917 0), (0, Pt b6917 0)]) hst (by kernel_rfl) (pkr z z (fun w hst => x_load z isAgg47 (hst.bc3 z)) (pkr z z (fun w hst => x_field z underlying49 z sizeOf47 z) (pkr z z (fun w hst => z) (pkr z z (fun w hst => x_load z isAgg24 (hst.bc9 z)) (pkr z z (fun w hst => x_load z isAgg24 (hst.bc9 z)) (pkr z z (fun w hst => x_load z isAgg24 (hst.bc9 z)) pk_nil)))))) ?_
 refine ws_e1 15 (by kernel_rfl) ?_
 refine nxe [16, 17, 18, 19, 20, 21] (by kernel_rfl) z z ?_
 clear hst
 intro w hst
 obtain ⟨hg6953, hm⟩ := gd_some hm
 replace hst := hst.pull6
 obtain ⟨v6954, w6955, hr6956, hst⟩ := run_append elem_47 underlying47 hst hst.src1 (room_of hg6953 z) 47
 refine we_run (v := v6954) (w' := w6955) z (x_append z z hr6956) ?_
 refine ws_next (pend' := [(1, Pt b6917 0), (0, Pt b6917 0)]) hst (by kernel_rfl) (pkr z z (fun w hst => x_load z isAgg24 (hst.bc9 z)) (pkr z z (fun w hst => x_load z isAgg24 (hst.bc9 z)) pk_nil)) ?_
 refine wsr (Pt b6917 0) 16 z z z (by kernel_rfl) (fun w hst => z) (wsr (Pt b6917 2) 17 z z z (by kernel_rfl) (fun w hst => x_field z underlying49 z sizeOf47 z) ?_)
 refine ws_e1 18 (by kernel_rfl) ?_
 refine nxe [19, 20, 21] (by kernel_rfl) z z ?_
 clear hst
 intro w hst
 replace hst := hst.pull4
 obtain ⟨w6958, hr6959, hst⟩ := hst.boxStore1 (P := prog) (t := 47) (cs' := [v6918, v6920, v6940, v6924, v6926, v6928]) 2 v6940 (one_of_sliceV hst.sv3) sizeOf47 z z
 refine we_unit z (x_unit hr6959) ?_
 refine ws_next (pend' := [(1, Pt b6917 0)]) hst (by kernel_rfl) (pkr z z (fun w hst => x_load z isAgg24 (hst.bc9 z)) pk_nil) ?_
 refine wsr (Pt b6917 0) 19 z z z (by kernel_rfl) (fun w hst => z) (wsr (Pt b6917 3) 20 z z z (by kernel_rfl) (fun w hst => x_field z underlying49 z sizeOf47 z) ?_)
 refine ws_e1 21 (by kernel_rfl) ?_
 refine nxe [] (by kernel_rfl) z z ?_
 clear hst
 intro w hst
 obtain ⟨w6960, hr6961, hst⟩ := hst.boxStore1 (P := prog) (t := 47) (cs' := [v6918, v6920, v6940, v6954, v6926, v6928]) 3 v6954 (one_of_sliceV hst.sv1) sizeOf47 z z
 refine we_unit z (x_unit hr6961) ?_
 refine ws_next (pend' := []) hst (by kernel_rfl) pk_nil ?_
 refine ws_nil ?_
 intro w hst
 refine ⟨z, ?_⟩
 replace hst := hst.pull8.pull8.pull3.pull5.pull8.pull8.pull6
 replace hst := at_label_Lattice_close (pv := Pt b6917 0) (x := ({ up := z6590.up, down := z6590.down, join := (z6590.join ++ ([z6908])), meet := (z6590.meet ++ ([z6911])), rank := z6590.rank, all := z6590.all } : label_Lattice)) hst z
 replace hst := hst.pull3.keep2
 obtain rfl := some_inj hm
 exact ⟨_, _, hx7021, (fu 4 (.int .i64 ((a0).length : Int)) z (fu 5 (Pt b5397 0) z (fu 9 (.int .i64 z6591) z (fu 67 (.int .i64 ((a0).length : Int)) z (fu 68 (.int .i64 z6591) z z))))), hL7022, hst⟩
}
 {
 refine nxe [8, 15, 16, 17, 18, 19, 20, 21] (by kernel_rfl) z z ?_
 clear hst
 intro w hst
 replace hst := hst.pull9
 obtain ⟨I6963, hI6964, f6965, hst⟩ := hst.own_fix
 replace f0_0 := f0_0.mono (rd_le hI6964)
 replace f6933 := f6933.mono (ro_le hI6964)
 replace hI0 := hI0.trans hI6964
 replace hL7056 := hL7056.trans hI6964
 replace hL6596 := hL6596.trans hI6964
 replace hL7022 := hL7022.trans hI6964
 obtain ⟨b6966, w6967, ew6968, eb6969, hst⟩ := hst.lits (E := (tySl (tyInt .i64))) (xs := [z6911]) [[v6910]] 41 1 z (Reps.cons ⟨_, z, f6965, one_of_sliceV (ro_sliceV f6965)⟩ Reps.nil)
 refine we_run (v := (.slice (some ⟨b6966, 0, none⟩) 1 1)) (w' := w6967) z (x_als (by obtain ⟨_, _, hv_, _⟩ := (ro_sliceV f6965); rw [hv_]; kernel_rfl) ew6968 eb6969) ?_
 refine ws_next (pend' := [(12, v6924), (11, Pt b6917 3), (10, Pt b6917 0), (9, Pt b6917 0), (5, v6922), (4, Pt b6917 2), (3, Pt b6917 0), (2, Pt b6917 0), (1, Pt b6917 0), (0, Pt b6917 0)]) hst (by kernel_rfl) (pkr z z (fun w hst => x_load z isAgg47 (hst.bc2 z)) (pkr z z (fun w hst => x_field z underlying49 z sizeOf47 z) (pkr z z (fun w hst => z) (pkr z z (fun w hst => x_load z isAgg24 (hst.bc9 z)) (pkr z z (fun w hst => x_load z isAgg47 (hst.bc2 z)) (pkr z z (fun w hst => x_field z underlying49 z sizeOf47 z) (pkr z z (fun w hst => z) (pkr z z (fun w hst => x_load z isAgg24 (hst.bc9 z)) (pkr z z (fun w hst => x_load z isAgg24 (hst.bc9 z)) (pkr z z (fun w hst => x_load z isAgg24 (hst.bc9 z)) pk_nil)))))))))) ?_
 refine ws_e1 8 (by kernel_rfl) ?_
 refine nxe [15, 16, 17, 18, 19, 20, 21] (by kernel_rfl) z z ?_
 clear hst
 intro w hst
 obtain ⟨hg6971, hm⟩ := gd_some hm
 replace hst := hst.pull5
 obtain ⟨v6972, w6973, hr6974, hst⟩ := run_append elem_47 underlying47 hst hst.src2 (room_of hg6971 z) 47
 refine we_run (v := v6972) (w' := w6973) z (x_append z z hr6974) ?_
 refine ws_next (pend' := [(12, v6924), (11, Pt b6917 3), (10, Pt b6917 0), (9, Pt b6917 0), (1, Pt b6917 0), (0, Pt b6917 0)]) hst (by kernel_rfl) (pkr z z (fun w hst => x_load z isAgg47 (hst.bc3 z)) (pkr z z (fun w hst => x_field z underlying49 z sizeOf47 z) (pkr z z (fun w hst => z) (pkr z z (fun w hst => x_load z isAgg24 (hst.bc9 z)) (pkr z z (fun w hst => x_load z isAgg24 (hst.bc9 z)) (pkr z z (fun w hst => x_load z isAgg24 (hst.bc9 z)) pk_nil)))))) ?_
 refine ws_e1 15 (by kernel_rfl) ?_
 refine nxe [16, 17, 18, 19, 20, 21] (by kernel_rfl) z z ?_
 clear hst
 intro w hst
 obtain ⟨hg6976, hm⟩ := gd_some hm
 replace hst := hst.pull6
 obtain ⟨v6977, w6978, hr6979, hst⟩ := run_append elem_47 underlying47 hst hst.src2 (room_of hg6976 z) 47
 refine we_run (v := v6977) (w' := w6978) z (x_append z z hr6979) ?_
 refine ws_next (pend' := [(1, Pt b6917 0), (0, Pt b6917 0)]) hst (by kernel_rfl) (pkr z z (fun w hst => x_load z isAgg24 (hst.bc9 z)) (pkr z z (fun w hst => x_load z isAgg24 (hst.bc9 z)) pk_nil)) ?_
 refine wsr (Pt b6917 0) 16 z z z (by kernel_rfl) (fun w hst => z) (wsr (Pt b6917 2) 17 z z z (by kernel_rfl) (fun w hst => x_field z underlying49 z sizeOf47 z) ?_)
 refine ws_e1 18 (by kernel_rfl) ?_
 refine nxe [19, 20, 21] (by kernel_rfl) z z ?_
 clear hst
 intro w hst
 replace hst := hst.pull4
 obtain ⟨w6981, hr6982, hst⟩ := hst.boxStore1 (P := prog) (t := 47) (cs' := [v6918, v6920, v6972, v6924, v6926, v6928]) 2 v6972 (one_of_sliceV hst.sv2) sizeOf47 z z
 refine we_unit z (x_unit hr6982) ?_
 refine ws_next (pend' := [(1, Pt b6917 0)]) hst (by kernel_rfl) (pkr z z (fun w hst => x_load z isAgg24 (hst.bc9 z)) pk_nil) ?_
 refine wsr (Pt b6917 0) 19 z z z (by kernel_rfl) (fun w hst => z) (wsr (Pt b6917 3) 20 z z z (by kernel_rfl) (fun w hst => x_field z underlying49 z sizeOf47 z) ?_)
 refine ws_e1 21 (by kernel_rfl) ?_
 refine nxe [] (by kernel_rfl) z z ?_
 clear hst
 intro w hst
 obtain ⟨w6983, hr6984, hst⟩ := hst.boxStore1 (P := prog) (t := 47) (cs' := [v6918, v6920, v6972, v6977, v6926, v6928]) 3 v6977 (one_of_sliceV hst.sv1) sizeOf47 z z
 refine we_unit z (x_unit hr6984) ?_
 refine ws_next (pend' := []) hst (by kernel_rfl) pk_nil ?_
 refine ws_nil ?_
 intro w hst
 refine ⟨z, ?_⟩
 replace hst := hst.pull8.pull8.pull3.pull4.pull8.pull8.pull6
 replace hst := at_label_Lattice_close (pv := Pt b6917 0) (x := ({ up := z6590.up, down := z6590.down, join := (z6590.join ++ ([z6908])), meet := (z6590.meet ++ ([z6911])), rank := z6590.rank, all := z6590.all } : label_Lattice)) hst z
 replace hst := hst.pull3.keep2
 obtain rfl := some_inj hm
 exact ⟨_, _, hx7021, (fu 4 (.int .i64 ((a0).length : Int)) z (fu 5 (Pt b5397 0) z (fu 9 (.int .i64 z6591) z (fu 67 (.int .i64 ((a0).length : Int)) z (fu 68 (.int .i64 z6591) z z))))), hL7022, hst⟩
}
}
 {
 refine nxe [7, 8, 15, 16, 17, 18, 19, 20, 21] (by kernel_rfl) z z ?_
 clear hst
 intro w hst
 replace hst := hst.pull9
 obtain ⟨I6986, hI6987, f6988, hst⟩ := hst.own_fix
 replace f0_0 := f0_0.mono (rd_le hI6987)
 replace hI0 := hI0.trans hI6987
 replace hL7056 := hL7056.trans hI6987
 replace hL6596 := hL6596.trans hI6987
 replace hL7022 := hL7022.trans hI6987
 obtain ⟨b6989, w6990, ew6991, eb6992, hst⟩ := hst.lits (E := (tySl (tyInt .i64))) (xs := [z6911]) [[v6910]] 41 1 z (Reps.cons ⟨_, z, f6988, one_of_sliceV (ro_sliceV f6988)⟩ Reps.nil)
 refine we_run (v := (.slice (some ⟨b6989, 0, none⟩) 1 1)) (w' := w6990) z (x_als (by obtain ⟨_, _, hv_, _⟩ := (ro_sliceV f6988); rw [hv_]; kernel_rfl) ew6991 eb6992) ?_
 refine ws_next (pend' := [(12, v6924), (11, Pt b6917 3), (10, Pt b6917 0), (9, Pt b6917 0), (6, v6907), (5, v6922), (4, Pt b6917 2), (3, Pt b6917 0), (2, Pt b6917 0), (1, Pt b6917 0), (0, Pt b6917 0)]) hst (by kernel_rfl) (pkr z z (fun w hst => x_load z isAgg47 (hst.bc1 z)) (pkr z z (fun w hst => x_field z underlying49 z sizeOf47 z) (pkr z z (fun w hst => z) (pkr z z (fun w hst => x_load z isAgg24 (hst.bc8 z)) (pkr z z (fun w hst => z) (pkr z z (fun w hst => x_load z isAgg47 (hst.bc1 z)) (pkr z z (fun w hst => x_field z underlying49 z sizeOf47 z) (pkr z z (fun w hst => z) (pkr z z (fun w hst => x_load z isAgg24 (hst.bc8 z)) (pkr z z (fun w hst => x_load z isAgg24 (hst.bc8 z)) (pkr z z (fun w hst => x_load z isAgg24 (hst.bc8 z)) pk_nil))))))))))) ?_
 refine ws_e1 7 (by kernel_rfl) ?_
 refine nxe [8, 15, 16, 17, 18, 19, 20, 21] (by kernel_rfl) z z ?_
 clear hst
 intro w hst
 replace hst := hst.pull9
 obtain ⟨I6995, hI6996, f6997, hst⟩ := hst.own_fix
 replace f0_0 := f0_0.mono (rd_le hI6996)
 replace f6988 := f6988.mono (ro_le hI6996)
 replace hI0 := hI0.trans hI6996
 replace hL7056 := hL7056.trans hI6996
 replace hL6596 := hL6596.trans hI6996
 replace hL7022 := hL7022.trans hI6996
 obtain ⟨b6998, w6999, ew7000, eb7001, hst⟩ := hst.lits (E := (tySl (tyInt .i64))) (xs := [z6908]) [[v6907]] 41 1 z (Reps.cons ⟨_, z, f6997, one_of_sliceV (ro_sliceV f6997)⟩ Reps.nil)
 refine we_run (v := (.slice (some ⟨b6998, 0, none⟩) 1 1)) (w' := w6999) z (x_als (by obtain ⟨_, _, hv_, _⟩ := (ro_sliceV f6997); rw [hv_]; kernel_rfl) ew7000 eb7001) ?_
 refine ws_next (pend' := [(12, v6924), (11, Pt b6917 3), (10, Pt b6917 0), (9, Pt b6917 0), (5, v6922), (4, Pt b6917 2), (3, Pt b6917 0), (2, Pt b6917 0), (1, Pt b6917 0), (0, Pt b6917 0)]) hst (by kernel_rfl) (pkr z z (fun w hst => x_load z isAgg47 (hst.bc2 z)) (pkr z z (fun w hst => x_field z underlying49 z sizeOf47 z) (pkr z z (fun w hst => z) (pkr z z (fun w hst => x_load z isAgg24 (hst.bc9 z)) (pkr z z (fun w hst => x_load z isAgg47 (hst.bc2 z)) (pkr z z (fun w hst => x_field z underlying49 z sizeOf47 z) (pkr z z (fun w hst => z) (pkr z z (fun w hst => x_load z isAgg24 (hst.bc9 z)) (pkr z z (fun w hst => x_load z isAgg24 (hst.bc9 z)) (pkr z z (fun w hst => x_load z isAgg24 (hst.bc9 z)) pk_nil)))))))))) ?_
 refine ws_e1 8 (by kernel_rfl) ?_
 refine nxe [15, 16, 17, 18, 19, 20, 21] (by kernel_rfl) z z ?_
 clear hst
 intro w hst
 obtain ⟨hg7003, hm⟩ := gd_some hm
 replace hst := hst.pull5
 obtain ⟨v7004, w7005, hr7006, hst⟩ := run_append elem_47 underlying47 hst hst.src1 (room_of hg7003 z) 47
 refine we_run (v := v7004) (w' := w7005) z (x_append z z hr7006) ?_
 refine ws_next (pend' := [(12, v6924), (11, Pt b6917 3), (10, Pt b6917 0), (9, Pt b6917 0), (1, Pt b6917 0), (0, Pt b6917 0)]) hst (by kernel_rfl) (pkr z z (fun w hst => x_load z isAgg47 (hst.bc3 z)) (pkr z z (fun w hst => x_field z underlying49 z sizeOf47 z) (pkr z z (fun w hst => z) (pkr z z (fun w hst => x_load z isAgg24 (hst.bc9 z)) (pkr z z (fun w hst => x_load z isAgg24 (hst.bc9 z)) (pkr z z (fun w hst => x_load z isAgg24 (hst.bc9 z)) pk_nil)))))) ?_
 refine ws_e1 15 (by kernel_rfl) ?_
 refine nxe [16, 17, 18, 19, 20, 21] (by kernel_rfl) z z ?_
 clear hst
 intro w hst
 obtain ⟨hg7008, hm⟩ := gd_some hm
 replace hst := hst.pull6
 obtain ⟨v7009, w7010, hr7011, hst⟩ := run_append elem_47 underlying47 hst hst.src3 (room_of hg7008 z) 47
 refine we_run (v := v7009) (w' := w7010) z (x_append z z hr7011) ?_
 refine ws_next (pend' := [(1, Pt b6917 0), (0, Pt b6917 0)]) hst (by kernel_rfl) (pkr z z (fun w hst => x_load z isAgg24 (hst.bc9 z)) (pkr z z (fun w hst => x_load z isAgg24 (hst.bc9 z)) pk_nil)) ?_
 refine wsr (Pt b6917 0) 16 z z z (by kernel_rfl) (fun w hst => z) (wsr (Pt b6917 2) 17 z z z (by kernel_rfl) (fun w hst => x_field z underlying49 z sizeOf47 z) ?_)
 refine ws_e1 18 (by kernel_rfl) ?_
 refine nxe [19, 20, 21] (by kernel_rfl) z z ?_
 clear hst
 intro w hst
 replace hst := hst.pull4
 obtain ⟨w7013, hr7014, hst⟩ := hst.boxStore1 (P := prog) (t := 47) (cs' := [v6918, v6920, v7004, v6924, v6926, v6928]) 2 v7004 (one_of_sliceV hst.sv2) sizeOf47 z z
 refine we_unit z (x_unit hr7014) ?_
 refine ws_next (pend' := [(1, Pt b6917 0)]) hst (by kernel_rfl) (pkr z z (fun w hst => x_load z isAgg24 (hst.bc9 z)) pk_nil) ?_
 refine wsr (Pt b6917 0) 19 z z z (by kernel_rfl) (fun w hst => z) (wsr (Pt b6917 3) 20 z z z (by kernel_rfl) (fun w hst => x_field z underlying49 z sizeOf47 z) ?_)
 refine ws_e1 21 (by kernel_rfl) ?_
 refine nxe [] (by kernel_rfl) z z ?_
 clear hst
 intro w hst
 obtain ⟨w7015, hr7016, hst⟩ := hst.boxStore1 (P := prog) (t := 47) (cs' := [v6918, v6920, v7004, v7009, v6926, v6928]) 3 v7009 (one_of_sliceV hst.sv1) sizeOf47 z z
 refine we_unit z (x_unit hr7016) ?_
 refine ws_next (pend' := []) hst (by kernel_rfl) pk_nil ?_
 refine ws_nil ?_
 intro w hst
 refine ⟨z, ?_⟩
 replace hst := hst.pull8.pull8.pull3.pull4.pull8.pull8.pull6
 replace hst := at_label_Lattice_close (pv := Pt b6917 0) (x := ({ up := z6590.up, down := z6590.down, join := (z6590.join ++ ([z6908])), meet := (z6590.meet ++ ([z6911])), rank := z6590.rank, all := z6590.all } : label_Lattice)) hst z
 replace hst := hst.pull3.keep2
 obtain rfl := some_inj hm
 exact ⟨_, _, hx7021, (fu 4 (.int .i64 ((a0).length : Int)) z (fu 5 (Pt b5397 0) z (fu 9 (.int .i64 z6591) z (fu 67 (.int .i64 ((a0).length : Int)) z (fu 68 (.int .i64 z6591) z z))))), hL7022, hst⟩
}
}
 {
 clear hst
 rintro _ w7023 ⟨I7017, σ7018, hm, rfl, hL7019, hst⟩
 dsimp only [label_New_j8] at hm
 replace f0_0 := f0_0.mono (rd_le hL7019)
 replace hI0 := hI0.trans hL7019
 replace hL7056 := hL7056.trans hL7019
 replace hL6596 := hL6596.trans hL7019
 refine tn ?_
 replace hst := hst.pull1
 obtain ⟨b7024, v7025, v7027, v7029, v7031, v7033, v7035, e7037, hst'⟩ := at_label_Lattice_open hst
 clear hst
 have e7037 := ptr_inj e7037
 subst e7037
 have hst := hst'
 clear hst'
 refine wp_region_St hst 11 [0, 1, 2, 3, 4, 5, 6, 7, 8, 9, 10] [0, 0, 2, 6, 14, 0, 32, 126, 255, 511, 1023] [] z (by kernel_rfl) (by kernel_rfl) Try.mixed (by kernel_rfl) ?_
 refine wsr (Pt b6917 0) 0 z z z (by kernel_rfl) (fun w hst => x_load z isAgg24 (hst.bc7 z)) (wsr (Pt b6917 0) 1 z z z (by kernel_rfl) (fun w hst => x_load z isAgg24 (hst.bc7 z)) (wsr (Pt b6917 0) 2 z z z (by kernel_rfl) (fun w hst => z) (wsr (Pt b6917 5) 3 z z z (by kernel_rfl) (fun w hst => x_field z underlying49 z sizeOf41 z) (wsr (v7035) 4 z z z (by kernel_rfl) (fun w hst => x_load z isAgg41 (hst.bc0 z)) (wsr (.int .i64 z6591) 5 z z z (by kernel_rfl) (fun w hst => z) ?_)))))
 refine ws_e1 6 (by kernel_rfl) ?_
 refine nxe [7, 8, 9, 10] (by kernel_rfl) z z ?_
 clear hst
 intro w hst
 obtain ⟨b7038, w7039, ew7040, eb7041, hst⟩ := hst.lits (E := (tyInt .i64)) (xs := [z6591]) [[I6 z6591]] 3 1 z (Reps.cons z Reps.nil)
 refine we_run (v := (.slice (some ⟨b7038, 0, none⟩) 1 1)) (w' := w7039) z (x_als (by kernel_rfl) ew7040 eb7041) ?_
 refine ws_next (pend' := [(4, v7035), (3, Pt b6917 5), (2, Pt b6917 0), (1, Pt b6917 0), (0, Pt b6917 0)]) hst (by kernel_rfl) (pkr z z (fun w hst => x_load z isAgg41 (hst.bc1 z)) (pkr z z (fun w hst => x_field z underlying49 z sizeOf41 z) (pkr z z (fun w hst => z) (pkr z z (fun w hst => x_load z isAgg24 (hst.bc8 z)) (pkr z z (fun w hst => x_load z isAgg24 (hst.bc8 z)) pk_nil))))) ?_
 refine ws_e1 7 (by kernel_rfl) ?_
 refine nxe [8, 9, 10] (by kernel_rfl) z z ?_
 clear hst
 intro w hst
 obtain ⟨hg7043, hm⟩ := gd_some hm
 replace hst := hst.pull7
 obtain ⟨v7044, w7045, hr7046, hst⟩ := run_append elem_41 underlying41 hst hst.src1 (room_of hg7043 z) 41
 refine we_run (v := v7044) (w' := w7045) z (x_append z z hr7046) ?_
 refine ws_next (pend' := [(0, Pt b6917 0)]) hst (by kernel_rfl) (pkr z z (fun w hst => x_load z isAgg24 (hst.bc8 z)) pk_nil) ?_
 refine wsr (Pt b6917 0) 8 z z z (by kernel_rfl) (fun w hst => z) (wsr (Pt b6917 5) 9 z z z (by kernel_rfl) (fun w hst => x_field z underlying49 z sizeOf41 z) ?_)
 refine ws_e1 10 (by kernel_rfl) ?_
 refine nxe [] (by kernel_rfl) z z ?_
 clear hst
 intro w hst
 replace hst := hst.pull2
 obtain ⟨w7048, hr7049, hst⟩ := hst.boxStore1 (P := prog) (t := 41) (cs' := [v7025, v7027, v7029, v7031, v7033, v7044]) 5 v7044 (one_of_sliceV hst.sv1) sizeOf41 z z
 refine we_unit z (x_unit hr7049) ?_
 refine ws_next (pend' := []) hst (by kernel_rfl) pk_nil ?_
 refine ws_nil ?_
 intro w hst
 refine blk_n (tn (wrl ?_))
 refine wv (.int .i64 (i64.wrap (z6591 + (1:Int)))) z z z (wv (.int .i64 (i64.wrap (z6591 + (1:Int)))) z z z (wl_nil (tn ?_)))
 replace hst := hst.pull1.pull7.pull7.pull7.pull7.pull7.pull6
 replace hst := at_label_Lattice_close (pv := Pt b6917 0) (x := ({ up := ({ up := z6590.up, down := z6590.down, join := (z6590.join ++ ([z6908])), meet := (z6590.meet ++ ([z6911])), rank := z6590.rank, all := z6590.all } : label_Lattice).up, down := ({ up := z6590.up, down := z6590.down, join := (z6590.join ++ ([z6908])), meet := (z6590.meet ++ ([z6911])), rank := z6590.rank, all := z6590.all } : label_Lattice).down, join := ({ up := z6590.up, down := z6590.down, join := (z6590.join ++ ([z6908])), meet := (z6590.meet ++ ([z6911])), rank := z6590.rank, all := z6590.all } : label_Lattice).join, meet := ({ up := z6590.up, down := z6590.down, join := (z6590.join ++ ([z6908])), meet := (z6590.meet ++ ([z6911])), rank := z6590.rank, all := z6590.all } : label_Lattice).meet, rank := ({ up := z6590.up, down := z6590.down, join := (z6590.join ++ ([z6908])), meet := (z6590.meet ++ ([z6911])), rank := z6590.rank, all := z6590.all } : label_Lattice).rank, all := ((({ up := z6590.up, down := z6590.down, join := (z6590.join ++ ([z6908])), meet := (z6590.meet ++ ([z6911])), rank := z6590.rank, all := z6590.all } : label_Lattice).all) ++ ([z6591])) } : label_Lattice)) hst z
 replace hst := hst.pull2.keep2
 obtain rfl := some_inj hm
 exact ⟨_, Nat.lt_succ_self _, _, ({ up := ({ up := z6590.up, down := z6590.down, join := (z6590.join ++ ([z6908])), meet := (z6590.meet ++ ([z6911])), rank := z6590.rank, all := z6590.all } : label_Lattice).up, down := ({ up := z6590.up, down := z6590.down, join := (z6590.join ++ ([z6908])), meet := (z6590.meet ++ ([z6911])), rank := z6590.rank, all := z6590.all } : label_Lattice).down, join := ({ up := z6590.up, down := z6590.down, join := (z6590.join ++ ([z6908])), meet := (z6590.meet ++ ([z6911])), rank := z6590.rank, all := z6590.all } : label_Lattice).join, meet := ({ up := z6590.up, down := z6590.down, join := (z6590.join ++ ([z6908])), meet := (z6590.meet ++ ([z6911])), rank := z6590.rank, all := z6590.all } : label_Lattice).meet, rank := ({ up := z6590.up, down := z6590.down, join := (z6590.join ++ ([z6908])), meet := (z6590.meet ++ ([z6911])), rank := z6590.rank, all := z6590.all } : label_Lattice).rank, all := ((({ up := z6590.up, down := z6590.down, join := (z6590.join ++ ([z6908])), meet := (z6590.meet ++ ([z6911])), rank := z6590.rank, all := z6590.all } : label_Lattice).all) ++ ([z6591])) } : label_Lattice), (i64.wrap (z6591 + (1:Int))), _, hx6599, (fu 4 (.int .i64 ((a0).length : Int)) z (fu 5 (Pt b5397 0) z (fu 67 (.int .i64 ((a0).length : Int)) z (fu 68 (.int .i64 (i64.wrap (z6591 + (1:Int)))) z z)))), hL6596, hst⟩
}
}
}
 {
 replace hm := bif_f hc6601 hm
 refine wp_iff (cvb hc6601) ?_
 refine wp_exit (then_x (then_x ?_))
 replace hm := inr_up hm hx6599
 refine blk_x (tn ?_)
 replace hst := hst.pull1.pull1.keep2
 obtain rfl := some_inj hm
 exact ⟨_, z6590, _, hx7055, (fu 5 (Pt b5397 0) z z), hL7056, hst⟩
}
}
 {
 clear hst
 rintro _ w7057 ⟨I7051, z7050, σ7052, hm, rfl, hL7053, hst⟩
 dsimp only [label_New_j4] at hm
 replace f0_0 := f0_0.mono (rd_le hL7053)
 replace hI0 := hI0.trans hL7053
 refine wp_seq (wrl (wv (v5399) z z (x_load z isAgg24 (hst.bc0 z)) ?_))
 replace hst := hst.pull1
 obtain ⟨b7058, v7059, v7061, v7063, v7065, v7067, v7069, rfl, hst'⟩ := at_label_Lattice_open hst
 clear hst
 have hst := hst'
 clear hst'
 refine wv (Pt b7058 0) z z z (wv (Pt b7058 5) z z (x_field z underlying49 z sizeOf41 z) (wv (v7069) z z (x_load z isAgg41 (hst.bc0 z)) (wv (.func (.func 29) #[] #[Pt b5397 0]) z z (by kernel_rfl) ?_)))
 obtain ⟨y9367, hq9368, hm⟩ := bind_some hm
 refine wl_call z z (x_callv call28 (caps := []) z (vs := [v7069, .func (.func 29) #[] #[Pt b5397 0]]) z) ?_
 refine Calls.mono (show Calls prog 28 #[v7069, .func (.func 29) #[] #[Pt b5397 0]] _ (fun e w' => ∃ (z9365 : (List Int)), z9365 = y9367 ∧ e = .returned (.tuple #[]) ∧ St w0 w' I7051 [cells b5397 [Pt b7058 0], cells b7058 [v7059, v7061, v7063, v7065, v7067, v7069], ownS (tyInt .u64) v7059 z7050.up, ownS (tyInt .u64) v7061 z7050.down, ownS (tySl (tyInt .i64)) v7063 z7050.join, ownS (tySl (tyInt .i64)) v7065 z7050.meet, ownS (tyInt .i64) v7067 z7050.rank, ownS (tyInt .i64) v7069 z9365] R) from ?_) ?_
 {
 clear hm; have hm := hq9368
 refine calls_start (args := [v7069, .func (.func 29) #[] #[Pt b5397 0]]) func28 z ntmps28 (Nat.le_of_ble_eq_true z) ?_
 refine wrl (wv (v7069) z z z (wv (v7069) z z z (wv (.int .i64 ((z7050.all).length : Int)) z z (x_len z underlying41 hst.sv6) (wv (.func (.func 29) #[] #[Pt b5397 0]) z z z ?_))))
 obtain ⟨y9362, hq9363, hm⟩ := bind_some hm
 refine wl_call z z (x_callv call37 (caps := []) z (vs := [v7069, I6 ((z7050.all).length : Int), .func (.func 29) #[] #[Pt b5397 0]]) z) ?_
 refine Calls.mono (show Calls prog 37 #[v7069, I6 ((z7050.all).length : Int), .func (.func 29) #[] #[Pt b5397 0]] _ (fun e w' => ∃ (z9360 : (List Int)), z9360 = y9362 ∧ e = .returned (.tuple #[]) ∧ St w0 w' I7051 [cells b5397 [Pt b7058 0], cells b7058 [v7059, v7061, v7063, v7065, v7067, v7069], ownS (tyInt .u64) v7059 z7050.up, ownS (tyInt .u64) v7061 z7050.down, ownS (tySl (tyInt .i64)) v7063 z7050.join, ownS (tySl (tyInt .i64)) v7065 z7050.meet, ownS (tyInt .i64) v7067 z7050.rank, ownS (tyInt .i64) v7069 z9360] R) from ?_) ?_
 {
 clear hm; have hm := hq9363
 refine calls_start (args := [v7069, I6 ((z7050.all).length : Int), .func (.func 29) #[] #[Pt b5397 0]]) func37 z ntmps37 (Nat.le_of_ble_eq_true z) ?_
 refine wp_seq (wrl (wv (.int .i64 (20:Int)) z z z (wl_nil (tn (wp_seq (wrl (wv (.int .i64 (20:Int)) z z z (wv (.int .i64 (0:Int)) z z z (wv (.int .i64 (20:Int)) z z z (wl_nil (tn ?_)))))))))))
 obtain ⟨y8745, hm, hx8746⟩ := bind_some hm
 refine wp_cut (fun a w => ∃ (z8741 : (List Int)) (z8742 : Int) (σ8743 : Nat → Value), (label_New_j9 z7050) (z8741, z8742) = some y9362 ∧ a = Fr 63 (upd (upd (upd (upd (upd σ8743 0 (v7069)) 1 (.int .i64 ((z7050.all).length : Int))) 2 (.func (.func 29) #[] #[Pt b5397 0])) 6 (.int .i64 (20:Int))) 7 (.int .i64 z8742)) ∧ St w0 w I7051 [ownS (tyInt .i64) v7069 z8741, cells b5397 [Pt b7058 0], cells b7058 [v7059, v7061, v7063, v7065, v7067, v7069], ownS (tyInt .u64) v7059 z7050.up, ownS (tyInt .u64) v7061 z7050.down, ownS (tySl (tyInt .i64)) v7063 z7050.join, ownS (tySl (tyInt .i64)) v7065 z7050.meet, ownS (tyInt .i64) v7067 z7050.rank] R) ?_ ?_
 {
 refine wp_block ?_
 obtain ⟨n8182, hm⟩ := loopO_some hm
 refine wp_loop_n (fun n a w => ∃ (z8178 : Int) (z8179 : Int) (z8180 : (List Int)) (σ8181 : Nat → Value), loopN (label_New_l10 z7050) n (z8178, z8179, z8180) = some y8745 ∧ a = Fr 63 (upd (upd (upd (upd (upd (upd σ8181 0 (v7069)) 1 (.int .i64 ((z7050.all).length : Int))) 2 (.func (.func 29) #[] #[Pt b5397 0])) 6 (.int .i64 (20:Int))) 7 (.int .i64 z8178)) 8 (.int .i64 z8179)) ∧ St w0 w I7051 [cells b7058 [v7059, v7061, v7063, v7065, v7067, v7069], ownS (tyInt .u64) v7059 z7050.up, ownS (tyInt .u64) v7061 z7050.down, ownS (tySl (tyInt .i64)) v7063 z7050.join, ownS (tySl (tyInt .i64)) v7065 z7050.meet, ownS (tyInt .i64) v7067 z7050.rank, ownS (tyInt .i64) v7069 z8180, cells b5397 [Pt b7058 0]] R) n8182 ⟨(0:Int), (20:Int), z7050.all, _, hm, (fu 0 v7069 z (fu 1 (.int .i64 ((z7050.all).length : Int)) z (fu 2 (.func (.func 29) #[] #[Pt b5397 0]) z (fu 6 (.int .i64 (20:Int)) z (fu 7 (.int .i64 (0:Int)) z (fu 8 (.int .i64 (20:Int)) z z)))))), hst⟩ ?_
 rintro n8188 _ w8183 ⟨z8178, z8179, z8180, σ8181, hm, rfl, hst⟩
 obtain ⟨n8185, y8186, rfl, hm, hx8187⟩ := loopN_some hm
 dsimp only [label_New_l10] at hm
 refine wp_seq (wp_seq (wrl (wv (.int .i64 z8179) z z z (wv (.int .i64 ((z7050.all).length : Int)) z z z (wv (.bool (decide (z8179 ≤ ((z7050.all).length : Int)))) z z z (wl_nil (tn ?_)))))))
 refine bsplit (decide (z8179 ≤ ((z7050.all).length : Int))) (fun hc8189 => ?_) (fun hc8189 => ?_)
 {
 replace hm := bif_t hc8189 hm
 refine wp_ift (cvb hc8189) ?_
 refine wp_skip (tn (wp_block (wp_seq (wrl ?_))))
 refine wv (v7069) z z z (wv (.int .i64 z8178) z z z (wv (.int .i64 z8179) z z z (wv (.func (.func 29) #[] #[Pt b5397 0]) z z z ?_)))
 obtain ⟨y8738, hq8739, hm⟩ := bind_some hm
 refine wl_call z z (x_callv call39 (caps := []) z (vs := [v7069, I6 z8178, I6 z8179, .func (.func 29) #[] #[Pt b5397 0]]) z) ?_
 refine Calls.mono (show Calls prog 39 #[v7069, I6 z8178, I6 z8179, .func (.func 29) #[] #[Pt b5397 0]] _ (fun e w' => ∃ (z8736 : (List Int)), z8736 = y8738 ∧ e = .returned (.tuple #[]) ∧ St w0 w' I7051 [cells b5397 [Pt b7058 0], cells b7058 [v7059, v7061, v7063, v7065, v7067, v7069], ownS (tyInt .u64) v7059 z7050.up, ownS (tyInt .u64) v7061 z7050.down, ownS (tySl (tyInt .i64)) v7063 z7050.join, ownS (tySl (tyInt .i64)) v7065 z7050.meet, ownS (tyInt .i64) v7067 z7050.rank, ownS (tyInt .i64) v7069 z8736] R) from ?_) ?_
 {
 clear hm; have hm := hq8739
 refine calls_start (args := [v7069, I6 z8178, I6 z8179, .func (.func 29) #[] #[Pt b5397 0]]) func39 z ntmps39 (Nat.le_of_ble_eq_true z) ?_
 refine wp_seq (wrl (wv (.int .i64 z8178) z z z (wv (.int .i64 (i64.wrap (z8178 + (1:Int)))) z z z (wv (.int .i64 (i64.wrap (z8178 + (1:Int)))) z z z (wl_nil (tn (wp_block ?_)))))))
 obtain ⟨n8551, hm⟩ := loopO_some hm
 refine wp_loop_n (fun n a w => ∃ (z8548 : Int) (z8549 : (List Int)) (σ8550 : Nat → Value), loopN (label_New_l11 z8179 z8178 z7050) n (z8548, z8549) = some y8738 ∧ a = Fr 53 (upd (upd (upd (upd (upd σ8550 0 (v7069)) 1 (.int .i64 z8178)) 2 (.int .i64 z8179)) 3 (.func (.func 29) #[] #[Pt b5397 0])) 8 (.int .i64 z8548)) ∧ St w0 w I7051 [cells b7058 [v7059, v7061, v7063, v7065, v7067, v7069], ownS (tyInt .u64) v7059 z7050.up, ownS (tyInt .u64) v7061 z7050.down, ownS (tySl (tyInt .i64)) v7063 z7050.join, ownS (tySl (tyInt .i64)) v7065 z7050.meet, ownS (tyInt .i64) v7067 z7050.rank, ownS (tyInt .i64) v7069 z8549, cells b5397 [Pt b7058 0]] R) n8551 ⟨(i64.wrap (z8178 + (1:Int))), z8180, _, hm, (fu 0 v7069 z (fu 1 (.int .i64 z8178) z (fu 2 (.int .i64 z8179) z (fu 3 (.func (.func 29) #[] #[Pt b5397 0]) z (fu 8 (.int .i64 (i64.wrap (z8178 + (1:Int)))) z z))))), hst⟩ ?_
 rintro n8557 _ w8552 ⟨z8548, z8549, σ8550, hm, rfl, hst⟩
 obtain ⟨n8554, y8555, rfl, hm, hx8556⟩ := loopN_some hm
 dsimp only [label_New_l11] at hm
 refine wp_seq (wp_seq (wrl (wv (.int .i64 z8548) z z z (wv (.int .i64 z8179) z z z (wv (.bool (decide (z8548 < z8179))) z z z (wl_nil (tn ?_)))))))
 refine bsplit (decide (z8548 < z8179)) (fun hc8558 => ?_) (fun hc8558 => ?_)
 {
 replace hm := bif_t hc8558 hm
 refine wp_ift (cvb hc8558) ?_
 refine wp_skip (tn (wp_seq (wp_block (wp_seq (wrl ?_)))))
 refine wv (.int .i64 z8548) z z z (wv (.int .i64 z8548) z z z (wl_nil (tn (wp_block ?_))))
 obtain ⟨n8674, hm⟩ := loopO_some hm
 refine wp_loop_n (fun n a w => ∃ (z8671 : Int) (z8672 : (List Int)) (σ8673 : Nat → Value), loopN (label_New_l12 z8178 z7050 z8548) n (z8671, z8672) = some y8555 ∧ a = Fr 53 (upd (upd (upd (upd (upd (upd σ8673 0 (v7069)) 1 (.int .i64 z8178)) 2 (.int .i64 z8179)) 3 (.func (.func 29) #[] #[Pt b5397 0])) 8 (.int .i64 z8548)) 9 (.int .i64 z8671)) ∧ St w0 w I7051 [cells b7058 [v7059, v7061, v7063, v7065, v7067, v7069], ownS (tyInt .u64) v7059 z7050.up, ownS (tyInt .u64) v7061 z7050.down, ownS (tySl (tyInt .i64)) v7063 z7050.join, ownS (tySl (tyInt .i64)) v7065 z7050.meet, ownS (tyInt .i64) v7067 z7050.rank, ownS (tyInt .i64) v7069 z8672, cells b5397 [Pt b7058 0]] R) n8674 ⟨z8548, z8549, _, hm, (fu 0 v7069 z (fu 1 (.int .i64 z8178) z (fu 2 (.int .i64 z8179) z (fu 3 (.func (.func 29) #[] #[Pt b5397 0]) z (fu 8 (.int .i64 z8548) z (fu 9 (.int .i64 z8548) z z)))))), hst⟩ ?_
 rintro n8680 _ w8675 ⟨z8671, z8672, σ8673, hm, rfl, hst⟩
 obtain ⟨n8677, y8678, rfl, hm, hx8679⟩ := loopN_some hm
 dsimp only [label_New_l12] at hm
 refine wp_seq (wp_seq ?_)
 refine wp_region_St hst 17 [0, 1, 2, 3, 4, 5, 6, 7, 8, 9, 10, 11, 12, 13, 14, 15, 16] [0, 0, 3, 7, 15, 15, 15, 111, 239, 15, 15, 1039, 3599, 7695, 16383, 32767, 65535] [] z (by kernel_rfl) (by kernel_rfl) Try.mixed (by kernel_rfl) ?_
 refine wsr (.int .i64 z8671) 0 z z z (by kernel_rfl) (fun w hst => z) (wsr (.int .i64 z8178) 1 z z z (by kernel_rfl) (fun w hst => z) (wsr (.bool (decide (z8671 > z8178))) 2 z z z (by kernel_rfl) (fun w hst => z) (wsr (.bool (decide (z8671 > z8178))) 3 z z z (by kernel_rfl) (fun w hst => z) ?_)))
 refine bsplit (decide (z8671 > z8178)) (fun hc8681 => ?_) (fun hc8681 => ?_)
 {
 replace hm := bif_t hc8681 hm
 refine ws_q (v := .func (.func 29) #[] #[Pt b5397 0]) 4 [5, 6, 7, 8, 9, 10, 11, 12, 13, 14, 15, 16] (by kernel_rfl) z z (yi_run ((wanted_eq z z z (cvb hc8681)).trans z) (fun w hst => z)) (ws_q (v := v7069) 5 [6, 7, 8, 9, 10, 11, 12, 13, 14, 15, 16] (by kernel_rfl) z z (yi_run ((wanted_eq z z z (cvb hc8681)).trans z) (fun w hst => z)) (ws_q (v := .int .i64 z8671) 6 [7, 8, 9, 10, 11, 12, 13, 14, 15, 16] (by kernel_rfl) z z (yi_run ((wanted_eq z z z (cvb hc8681)).trans z) (fun w hst => z)) ?_))
 obtain ⟨x8682, hx8683, hm⟩ := bind_some hm
 obtain ⟨h8684, h8685, hi8686⟩ := geto_some hx8683
 refine ws_q (v := .pointer (some (eAddr v7069 (z8671.toNat * 1 + 0)))) 7 [8, 9, 10, 11, 12, 13, 14, 15, 16] (by kernel_rfl) z z (yi_run ((wanted_eq z z z (cvb hc8681)).trans z) (fun w hst => x_index z z underlying41 sizeOf3 hst.sv6 h8684 h8685)) (ws_q (v := .int .i64 x8682) 8 [9, 10, 11, 12, 13, 14, 15, 16] (by kernel_rfl) z z (yi_run ((wanted_eq z z z (cvb hc8681)).trans z) (fun w hst => x_load z isAgg3 (hst.ol6 hi8686 (by rintro _ rfl; rfl)))) (ws_q (v := v7069) 9 [10, 11, 12, 13, 14, 15, 16] (by kernel_rfl) z z (yi_run ((wanted_eq z z z (cvb hc8681)).trans z) (fun w hst => z)) (ws_q (v := .int .i64 z8671) 10 [11, 12, 13, 14, 15, 16] (by kernel_rfl) z z (yi_run ((wanted_eq z z z (cvb hc8681)).trans z) (fun w hst => z)) (ws_q (v := .int .i64 (i64.wrap (z8671 - (1:Int)))) 11 [12, 13, 14, 15, 16] (by kernel_rfl) z z (yi_run ((wanted_eq z z z (cvb hc8681)).trans z) (fun w hst => z)) ?_))))
 obtain ⟨x8687, hx8688, hm⟩ := bind_some hm
 obtain ⟨h8689, h8690, hi8691⟩ := geto_some hx8688
 refine ws_q (v := .pointer (some (eAddr v7069 ((i64.wrap (z8671 - (1:Int))).toNat * 1 + 0)))) 12 [13, 14, 15, 16] (by kernel_rfl) z z (yi_run ((wanted_eq z z z (cvb hc8681)).trans z) (fun w hst => x_index z z underlying41 sizeOf3 hst.sv6 h8689 h8690)) (ws_q (v := .int .i64 x8687) 13 [14, 15, 16] (by kernel_rfl) z z (yi_run ((wanted_eq z z z (cvb hc8681)).trans z) (fun w hst => x_load z isAgg3 (hst.ol6 hi8691 (by rintro _ rfl; rfl)))) ?_)
 refine ws_e1 14 (by kernel_rfl) ?_
 refine nxe [15, 16] (by kernel_rfl) z ((wanted_eq z z z (cvb hc8681)).trans z) ?_
 clear hst
 intro w hst
 obtain ⟨y8719, hq8720, hm⟩ := bind_some hm
 refine we_call z (x_callv call29 (caps := [Pt b5397 0]) z (vs := [I6 x8682, I6 x8687]) z) ?_
 refine Calls.mono (show Calls prog 29 #[I6 x8682, I6 x8687, Pt b5397 0] _ (fun e w' => ∃ (z8717 : Int), z8717 = y8719 ∧ e = .returned (.int .i64 z8717) ∧ St w0 w' I7051 [cells b5397 [Pt b7058 0], cells b7058 [v7059, v7061, v7063, v7065, v7067, v7069], ownS (tyInt .u64) v7059 z7050.up, ownS (tyInt .u64) v7061 z7050.down, ownS (tySl (tyInt .i64)) v7063 z7050.join, ownS (tySl (tyInt .i64)) v7065 z7050.meet, ownS (tyInt .i64) v7067 z7050.rank, ownS (tyInt .i64) v7069 z8672] R) from ?_) ?_
 {
 clear hm; have hm := hq8720
 refine calls_start (args := [I6 x8682, I6 x8687, Pt b5397 0]) func29 z ntmps29 (Nat.le_of_ble_eq_true z) ?_
 refine wp_seq (wrl (wv (.int .i64 (0:Int)) z z z (wl_nil (tn (wp_seq ?_)))))
 refine wp_region_St hst 18 [0, 1, 2, 3, 4, 5, 6, 7, 8, 9, 10, 11, 12, 13, 14, 15, 16, 17] [0, 1, 3, 7, 0, 31, 63, 127, 0, 256, 768, 1792, 0, 7936, 16128, 32767, 65535, 131071] [] z (by kernel_rfl) (by kernel_rfl) Try.mixed (by kernel_rfl) ?_
 refine wsr (Pt b7058 0) 0 z z z (by kernel_rfl) (fun w hst => x_load z isAgg24 (hst.bc7 z)) (wsr (Pt b7058 0) 1 z z z (by kernel_rfl) (fun w hst => z) (wsr (Pt b7058 1) 2 z z z (by kernel_rfl) (fun w hst => x_field z underlying49 z sizeOf28 z) (wsr (v7061) 3 z z z (by kernel_rfl) (fun w hst => x_load z isAgg28 (hst.bc0 z)) (wsr (.int .i64 x8682) 4 z z z (by kernel_rfl) (fun w hst => z) ?_))))
 obtain ⟨x8692, hx8693, hm⟩ := bind_some hm
 obtain ⟨h8694, h8695, hi8696⟩ := geto_some hx8693
 refine wsr (.pointer (some (eAddr v7061 (x8682.toNat * 1 + 0)))) 5 z z z (by kernel_rfl) (fun w hst => x_index z z underlying28 sizeOf43 hst.sv2 h8694 h8695) (wsr (.int .u64 x8692) 6 z z z (by kernel_rfl) (fun w hst => x_load z isAgg43 (hst.ol2 hi8696 (by rintro _ rfl; rfl))) (wsr (Pt b7058 0) 8 z z z (by kernel_rfl) (fun w hst => x_load z isAgg24 (hst.bc7 z)) (wsr (Pt b7058 0) 9 z z z (by kernel_rfl) (fun w hst => z) (wsr (Pt b7058 1) 10 z z z (by kernel_rfl) (fun w hst => x_field z underlying49 z sizeOf28 z) (wsr (v7061) 11 z z z (by kernel_rfl) (fun w hst => x_load z isAgg28 (hst.bc0 z)) (wsr (.int .i64 x8687) 12 z z z (by kernel_rfl) (fun w hst => z) ?_))))))
 obtain ⟨x8697, hx8698, hm⟩ := bind_some hm
 obtain ⟨h8699, h8700, hi8701⟩ := geto_some hx8698
 refine wsr (.pointer (some (eAddr v7061 (x8687.toNat * 1 + 0)))) 13 z z z (by kernel_rfl) (fun w hst => x_index z z underlying28 sizeOf43 hst.sv2 h8699 h8700) (wsr (.int .u64 x8697) 14 z z z (by kernel_rfl) (fun w hst => x_load z isAgg43 (hst.ol2 hi8701 (by rintro _ rfl; rfl))) ?_)
 refine ws_e1 7 (by kernel_rfl) ?_
 refine nxe [15, 16, 17] (by kernel_rfl) z z ?_
 clear hst
 intro w hst
 obtain ⟨t8702, ht8703, hm⟩ := bind_some hm
 refine wec call31 [U6 x8692] z z ?_
 refine (math_bits_OnesCount64_ref hst.to0 ht8703).mono ?_
 rintro _ w8704 ⟨rfl, hst⟩
 refine ⟨_, z, ?_⟩
 replace hst := hst.of0
 refine ws_next (pend' := [(14, U6 x8697), (13, .pointer (some (eAddr v7061 (x8687.toNat * 1 + 0)))), (12, I6 x8687), (11, v7061), (10, Pt b7058 1), (9, Pt b7058 0), (8, Pt b7058 0)]) hst (by kernel_rfl) (pkr z z (fun w hst => x_load z isAgg43 (hst.ol2 hi8701 (by rintro _ rfl; rfl))) (pkr z z (fun w hst => x_index z z underlying28 sizeOf43 hst.sv2 h8699 h8700) (pkr z z (fun w hst => z) (pkr z z (fun w hst => x_load z isAgg28 (hst.bc0 z)) (pkr z z (fun w hst => x_field z underlying49 z sizeOf28 z) (pkr z z (fun w hst => z) (pkr z z (fun w hst => x_load z isAgg24 (hst.bc7 z)) pk_nil))))))) ?_
 refine ws_e1 15 (by kernel_rfl) ?_
 refine nxe [16, 17] (by kernel_rfl) z z ?_
 clear hst
 intro w hst
 obtain ⟨t8707, ht8708, hm⟩ := bind_some hm
 refine wec call31 [U6 x8697] z z ?_
 refine (math_bits_OnesCount64_ref hst.to0 ht8708).mono ?_
 rintro _ w8709 ⟨rfl, hst⟩
 refine ⟨_, z, ?_⟩
 replace hst := hst.of0
 refine ws_next (pend' := []) hst (by kernel_rfl) pk_nil ?_
 refine ws_e1 16 (by kernel_rfl) ?_
 refine nxe [17] (by kernel_rfl) z z ?_
 clear hst
 intro w hst
 obtain ⟨t8712, ht8713, hm⟩ := bind_some hm
 refine wec call30 [I6 t8702, I6 t8707] z z ?_
 refine (cmp_Compare_int_ref hst.to0 ht8713).mono ?_
 rintro _ w8714 ⟨rfl, hst⟩
 refine ⟨_, z, ?_⟩
 replace hst := hst.of0
 refine ws_next (pend' := []) hst (by kernel_rfl) pk_nil ?_
 refine wsr (.int .i64 t8712) 17 z z z (by kernel_rfl) (fun w hst => z) ?_
 refine ws_nil ?_
 intro w hst
 refine tn (wp_ret ?_)
 refine post_ret (vs := [I6 t8712]) results29 (rvs_cons (rv_tmp z) rvs_nil) ?_
 replace hst := hst.pull6.pull6.pull6.pull6.pull6.pull6.pull6.pull7.keep8
 obtain rfl := some_inj hm
 exact ⟨t8712, z, z, hst⟩
}
 clear hst
 rintro _ w8721 ⟨z8717, rfl, rfl, hst⟩
 refine ⟨_, z, ?_⟩
 try dsimp only at hm
 refine ws_next (pend' := []) hst (by kernel_rfl) pk_nil ?_
 refine ws_q (v := .bool (decide (z8717 < (0:Int)))) 15 [16] (by kernel_rfl) z z (yi_run ((wanted_eq z z z (cvb hc8681)).trans z) (fun w hst => z)) (wsr (.bool (decide (z8717 < (0:Int)))) 16 z z z (by kernel_rfl) (fun w hst => x_pick_t hc8681 z z) ?_)
 refine ws_nil ?_
 intro w hst
 refine tn ?_
 refine bsplit (decide (z8717 < (0:Int))) (fun hc8722 => ?_) (fun hc8722 => ?_)
 {
 replace hm := bif_t hc8722 hm
 refine wp_ift (cvb hc8722) ?_
 refine wp_skip (tn (wp_seq (wp_block ?_)))
 refine wp_region_St hst 18 [0, 1, 2, 3, 4, 5, 6, 7, 8, 9, 10, 11, 12, 13, 14, 15, 16, 17] [0, 0, 0, 0, 8, 0, 0, 64, 224, 480, 0, 0, 3072, 7168, 16355, 32739, 65535, 131071] [] z (by kernel_rfl) (by kernel_rfl) Try.mixed (by kernel_rfl) ?_
 refine wsr (v7069) 0 z z z (by kernel_rfl) (fun w hst => z) (wsr (.int .i64 z8671) 1 z z z (by kernel_rfl) (fun w hst => z) (wsr (v7069) 2 z z z (by kernel_rfl) (fun w hst => z) (wsr (.int .i64 z8671) 3 z z z (by kernel_rfl) (fun w hst => z) (wsr (.int .i64 (i64.wrap (z8671 - (1:Int)))) 4 z z z (by kernel_rfl) (fun w hst => z) (wsr (v7069) 5 z z z (by kernel_rfl) (fun w hst => z) (wsr (.int .i64 z8671) 6 z z z (by kernel_rfl) (fun w hst => z) (wsr (.int .i64 (i64.wrap (z8671 - (1:Int)))) 7 z z z (by kernel_rfl) (fun w hst => z) (wsr (.pointer (some (eAddr v7069 ((i64.wrap (z8671 - (1:Int))).toNat * 1 + 0)))) 8 z z z (by kernel_rfl) (fun w hst => x_index z z underlying41 sizeOf3 hst.sv7 h8689 h8690) (wsr (.int .i64 x8687) 9 z z z (by kernel_rfl) (fun w hst => x_load z isAgg3 (hst.ol7 hi8691 (by rintro _ rfl; rfl))) (wsr (v7069) 10 z z z (by kernel_rfl) (fun w hst => z) (wsr (.int .i64 z8671) 11 z z z (by kernel_rfl) (fun w hst => z) (wsr (.pointer (some (eAddr v7069 (z8671.toNat * 1 + 0)))) 12 z z z (by kernel_rfl) (fun w hst => x_index z z underlying41 sizeOf3 hst.sv7 h8684 h8685) ?_))))))))))))
 refine wsr (.int .i64 x8682) 13 z z z (by kernel_rfl) (fun w hst => x_load z isAgg3 (hst.ol7 hi8686 (by rintro _ rfl; rfl))) (wsr (.pointer (some (eAddr v7069 (z8671.toNat * 1 + 0)))) 14 z z z (by kernel_rfl) (fun w hst => x_index z z underlying41 sizeOf3 hst.sv7 h8684 h8685) ?_)
 refine ws_e1 15 (by kernel_rfl) ?_
 refine nxe [16, 17] (by kernel_rfl) z z ?_
 clear hst
 intro w hst
 replace hst := hst.pull7
 obtain ⟨w8723, hr8724, hst⟩ := hst.own_store (P := prog) (t := 3) (y := x8687) hi8686 0 (.int .i64 x8687) sizeOf3 (Nat.le_of_ble_eq_true z) (oC z oN) (by rintro _ rfl; rfl)
 have hi8725 := set_get hi8686 x8687
 have h8726 := set_lt h8685 z8671.toNat x8687
 refine we_unit z (x_unit hr8724) ?_
 refine ws_next (pend' := [(4, I6 (i64.wrap (z8671 - (1:Int)))), (3, I6 z8671), (2, v7069)]) hst (by kernel_rfl) (pkr z z (fun w hst => z) (pkr z z (fun w hst => z) (pkr z z (fun w hst => z) pk_nil))) ?_
 obtain ⟨x8727, hx8728, hm⟩ := bind_some hm
 obtain ⟨h8729, h8730, hi8731⟩ := geto_some hx8728
 refine wsr (.pointer (some (eAddr v7069 ((i64.wrap (z8671 - (1:Int))).toNat * 1 + 0)))) 16 z z z (by kernel_rfl) (fun w hst => x_index z z underlying41 sizeOf3 hst.sv0 h8729 h8730) ?_
 refine ws_e1 17 (by kernel_rfl) ?_
 refine nxe [] (by kernel_rfl) z z ?_
 clear hst
 intro w hst
 obtain ⟨w8732, hr8733, hst⟩ := hst.own_store (P := prog) (t := 3) (y := x8682) hi8731 0 (.int .i64 x8682) sizeOf3 (Nat.le_of_ble_eq_true z) (oC z oN) (by rintro _ rfl; rfl)
 have hi8734 := set_get hi8731 x8682
 have h8735 := set_lt h8730 (i64.wrap (z8671 - (1:Int))).toNat x8682
 refine we_unit z (x_unit hr8733) ?_
 refine ws_next (pend' := []) hst (by kernel_rfl) pk_nil ?_
 refine ws_nil ?_
 intro w hst
 refine blk_n (tn (wrl ?_))
 refine wv (.int .i64 z8671) z z z (wv (.int .i64 (i64.wrap (z8671 - (1:Int)))) z z z (wv (.int .i64 (i64.wrap (z8671 - (1:Int)))) z z z (wl_nil (tn ?_))))
 replace hst := hst.pull1.pull1.pull7.pull7.pull7.pull7.pull7.pull7.keep8
 obtain rfl := some_inj hm
 exact ⟨_, Nat.lt_succ_self _, (i64.wrap (z8671 - (1:Int))), ((z8672.set z8671.toNat x8687).set (i64.wrap (z8671 - (1:Int))).toNat x8682), _, hx8679, (fu 0 v7069 z (fu 1 (.int .i64 z8178) z (fu 2 (.int .i64 z8179) z (fu 3 (.func (.func 29) #[] #[Pt b5397 0]) z (fu 8 (.int .i64 z8548) z (fu 9 (.int .i64 (i64.wrap (z8671 - (1:Int)))) z z)))))), hst⟩
}
 {
 replace hm := bif_f hc8722 hm
 refine wp_iff (cvb hc8722) ?_
 refine wp_exit (then_x (then_x ?_))
 replace hm := inr_up hm hx8679
 refine blk_x (blk_n (tn (wrl ?_)))
 refine wv (.int .i64 z8548) z z z (wv (.int .i64 (i64.wrap (z8548 + (1:Int)))) z z z (wv (.int .i64 (i64.wrap (z8548 + (1:Int)))) z z z (wl_nil (tn ?_))))
 replace hst := hst.pull7.pull7.pull7.pull7.pull7.pull7.pull7.keep8
 obtain rfl := some_inj hm
 exact ⟨_, Nat.lt_succ_self _, (i64.wrap (z8548 + (1:Int))), z8672, _, hx8556, (fu 0 v7069 z (fu 1 (.int .i64 z8178) z (fu 2 (.int .i64 z8179) z (fu 3 (.func (.func 29) #[] #[Pt b5397 0]) z (fu 8 (.int .i64 (i64.wrap (z8548 + (1:Int)))) z z))))), hst⟩
}
}
 {
 replace hm := bif_f hc8681 hm
 refine ws_q (v := undef) 4 [5, 6, 7, 8, 9, 10, 11, 12, 13, 14, 15, 16] (by kernel_rfl) z z (yi_off ((wanted_eq z z z (cvb hc8681)).trans z)) (ws_q (v := undef) 5 [6, 7, 8, 9, 10, 11, 12, 13, 14, 15, 16] (by kernel_rfl) z z (yi_off ((wanted_eq z z z (cvb hc8681)).trans z)) (ws_q (v := undef) 6 [7, 8, 9, 10, 11, 12, 13, 14, 15, 16] (by kernel_rfl) z z (yi_off ((wanted_eq z z z (cvb hc8681)).trans z)) (ws_q (v := undef) 7 [8, 9, 10, 11, 12, 13, 14, 15, 16] (by kernel_rfl) z z (yi_off ((wanted_eq z z z (cvb hc8681)).trans z)) (ws_q (v := undef) 8 [9, 10, 11, 12, 13, 14, 15, 16] (by kernel_rfl) z z (yi_off ((wanted_eq z z z (cvb hc8681)).trans z)) (ws_q (v := undef) 9 [10, 11, 12, 13, 14, 15, 16] (by kernel_rfl) z z (yi_off ((wanted_eq z z z (cvb hc8681)).trans z)) (ws_q (v := undef) 10 [11, 12, 13, 14, 15, 16] (by kernel_rfl) z z (yi_off ((wanted_eq z z z (cvb hc8681)).trans z)) (ws_q (v := undef) 11 [12, 13, 14, 15, 16] (by kernel_rfl) z z (yi_off ((wanted_eq z z z (cvb hc8681)).trans z)) (ws_q (v := undef) 12 [13, 14, 15, 16] (by kernel_rfl) z z (yi_off ((wanted_eq z z z (cvb hc8681)).trans z)) (ws_q (v := undef) 13 [14, 15, 16] (by kernel_rfl) z z (yi_off ((wanted_eq z z z (cvb hc8681)).trans z)) (ws_q (v := undef) 14 [15, 16] (by kernel_rfl) z z (yi_off ((wanted_eq z z z (cvb hc8681)).trans z)) (ws_q (v := undef) 15 [16] (by kernel_rfl) z z (yi_off ((wanted_eq z z z (cvb hc8681)).trans z)) (wsr (.bool false) 16 z z z (by kernel_rfl) (fun w hst => x_pick_f hc8681 z z) ?_))))))))))))
 refine ws_nil ?_
 intro w hst
 refine tn ?_
 refine wp_iff z ?_
 refine wp_exit (then_x (then_x ?_))
 replace hm := inr_up hm hx8679
 refine blk_x (blk_n (tn (wrl ?_)))
 refine wv (.int .i64 z8548) z z z (wv (.int .i64 (i64.wrap (z8548 + (1:Int)))) z z z (wv (.int .i64 (i64.wrap (z8548 + (1:Int)))) z z z (wl_nil (tn ?_))))
 replace hst := hst.pull7.pull7.pull7.pull7.pull7.pull7.pull7.pull7.keep8
 obtain rfl := some_inj hm
 exact ⟨_, Nat.lt_succ_self _, (i64.wrap (z8548 + (1:Int))), z8672, _, hx8556, (fu 0 v7069 z (fu 1 (.int .i64 z8178) z (fu 2 (.int .i64 z8179) z (fu 3 (.func (.func 29) #[] #[Pt b5397 0]) z (fu 8 (.int .i64 (i64.wrap (z8548 + (1:Int)))) z z))))), hst⟩
}
}
 {
 replace hm := bif_f hc8558 hm
 refine wp_iff (cvb hc8558) ?_
 refine wp_exit (then_x (then_x ?_))
 replace hm := inr_up hm hx8556
 refine blk_x ?_
 refine post_end (vs := []) results39 rvs_nil ?_
 replace hst := hst.pull6.pull6.pull6.pull6.pull6.pull6.pull6.pull7.keep8
 obtain rfl := some_inj hm
 exact ⟨z8549, z, z, hst⟩
}
}
 clear hst
 rintro _ w8740 ⟨z8736, rfl, rfl, hst⟩
 refine ⟨_, z, ?_⟩
 try dsimp only at hm
 refine wl_nil (tn (wp_seq (wrl (wv (.int .i64 z8179) z z z (wv (.int .i64 z8179) z z z (wl_nil (tn (wrl (wv (.int .i64 z8179) z z z (wv (.int .i64 (20:Int)) z z z (wv (.int .i64 (i64.wrap (z8179 + (20:Int)))) z z z (wv (.int .i64 (i64.wrap (z8179 + (20:Int)))) z z z (wl_nil (blk_n (tn ?_)))))))))))))))
 replace hst := hst.pull7.pull7.pull7.pull7.pull7.pull7.pull7.keep8
 obtain rfl := some_inj hm
 exact ⟨_, Nat.lt_succ_self _, z8179, (i64.wrap (z8179 + (20:Int))), z8736, _, hx8187, (fu 0 v7069 z (fu 1 (.int .i64 ((z7050.all).length : Int)) z (fu 2 (.func (.func 29) #[] #[Pt b5397 0]) z (fu 6 (.int .i64 (20:Int)) z (fu 7 (.int .i64 z8179) z (fu 8 (.int .i64 (i64.wrap (z8179 + (20:Int)))) z z)))))), hst⟩
}
 {
 replace hm := bif_f hc8189 hm
 refine wp_iff (cvb hc8189) ?_
 refine wp_exit (then_x (then_x ?_))
 replace hm := inr_up hm hx8187
 refine blk_x (tn ?_)
 replace hst := hst.pull5.pull5.pull5.pull5.pull5.pull5.pull7.pull7.keep8
 obtain rfl := some_inj hm
 exact ⟨z8180, z8178, _, hx8746, (fu 0 v7069 z (fu 1 (.int .i64 ((z7050.all).length : Int)) z (fu 2 (.func (.func 29) #[] #[Pt b5397 0]) z (fu 6 (.int .i64 (20:Int)) z (fu 7 (.int .i64 z8178) z z))))), hst⟩
}
}
 {
 clear hst
 rintro _ w8747 ⟨z8741, z8742, σ8743, hm, rfl, hst⟩
 dsimp only [label_New_j9] at hm
 refine wp_seq (wrl (wv (v7069) z z z (wv (.int .i64 z8742) z z z (wv (.int .i64 ((z7050.all).length : Int)) z z z (wv (.func (.func 29) #[] #[Pt b5397 0]) z z z ?_)))))
 obtain ⟨y9296, hq9297, hm⟩ := bind_some hm
 refine wl_call z z (x_callv call39 (caps := []) z (vs := [v7069, I6 z8742, I6 ((z7050.all).length : Int), .func (.func 29) #[] #[Pt b5397 0]]) z) ?_
 refine Calls.mono (show Calls prog 39 #[v7069, I6 z8742, I6 ((z7050.all).length : Int), .func (.func 29) #[] #[Pt b5397 0]] _ (fun e w' => ∃ (z9294 : (List Int)), z9294 = y9296 ∧ e = .returned (.tuple #[]) ∧ St w0 w' I7051 [cells b5397 [Pt b7058 0], cells b7058 [v7059, v7061, v7063, v7065, v7067, v7069], ownS (tyInt .u64) v7059 z7050.up, ownS (tyInt .u64) v7061 z7050.down, ownS (tySl (tyInt .i64)) v7063 z7050.join, ownS (tySl (tyInt .i64)) v7065 z7050.meet, ownS (tyInt .i64) v7067 z7050.rank, ownS (tyInt .i64) v7069 z9294] R) from ?_) ?_
 {
 clear hm; have hm := hq9297
 refine calls_start (args := [v7069, I6 z8742, I6 ((z7050.all).length : Int), .func (.func 29) #[] #[Pt b5397 0]]) func39 z ntmps39 (Nat.le_of_ble_eq_true z) ?_
 refine wp_seq (wrl (wv (.int .i64 z8742) z z z (wv (.int .i64 (i64.wrap (z8742 + (1:Int)))) z z z (wv (.int .i64 (i64.wrap (z8742 + (1:Int)))) z z z (wl_nil (tn (wp_block ?_)))))))
 obtain ⟨n9109, hm⟩ := loopO_some hm
 refine wp_loop_n (fun n a w => ∃ (z9106 : Int) (z9107 : (List Int)) (σ9108 : Nat → Value), loopN (label_New_l13 z7050 z8742) n (z9106, z9107) = some y9296 ∧ a = Fr 53 (upd (upd (upd (upd (upd σ9108 0 (v7069)) 1 (.int .i64 z8742)) 2 (.int .i64 ((z7050.all).length : Int))) 3 (.func (.func 29) #[] #[Pt b5397 0])) 8 (.int .i64 z9106)) ∧ St w0 w I7051 [ownS (tyInt .i64) v7069 z9107, cells b5397 [Pt b7058 0], cells b7058 [v7059, v7061, v7063, v7065, v7067, v7069], ownS (tyInt .u64) v7059 z7050.up, ownS (tyInt .u64) v7061 z7050.down, ownS (tySl (tyInt .i64)) v7063 z7050.join, ownS (tySl (tyInt .i64)) v7065 z7050.meet, ownS (tyInt .i64) v7067 z7050.rank] R) n9109 ⟨(i64.wrap (z8742 + (1:Int))), z8741, _, hm, (fu 0 v7069 z (fu 1 (.int .i64 z8742) z (fu 2 (.int .i64 ((z7050.all).length : Int)) z (fu 3 (.func (.func 29) #[] #[Pt b5397 0]) z (fu 8 (.int .i64 (i64.wrap (z8742 + (1:Int)))) z z))))), hst⟩ ?_
 rintro n9115 _ w9110 ⟨z9106, z9107, σ9108, hm, rfl, hst⟩
 obtain ⟨n9112, y9113, rfl, hm, hx9114⟩ := loopN_some hm
 dsimp only [label_New_l13] at hm
 refine wp_seq (wp_seq (wrl (wv (.int .i64 z9106) z z z (wv (.int .i64 ((z7050.all).length : Int)) z z z (wv (.bool (decide (z9106 < ((z7050.all).length : Int)))) z z z (wl_nil (tn ?_)))))))
 refine bsplit (decide (z9106 < ((z7050.all).length : Int))) (fun hc9116 => ?_) (fun hc9116 => ?_)
 {
 replace hm := bif_t hc9116 hm
 refine wp_ift (cvb hc9116) ?_
 refine wp_skip (tn (wp_seq (wp_block (wp_seq (wrl ?_)))))
 refine wv (.int .i64 z9106) z z z (wv (.int .i64 z9106) z z z (wl_nil (tn (wp_block ?_))))
 obtain ⟨n9232, hm⟩ := loopO_some hm
 refine wp_loop_n (fun n a w => ∃ (z9229 : Int) (z9230 : (List Int)) (σ9231 : Nat → Value), loopN (label_New_l14 z8742 z7050 z9106) n (z9229, z9230) = some y9113 ∧ a = Fr 53 (upd (upd (upd (upd (upd (upd σ9231 0 (v7069)) 1 (.int .i64 z8742)) 2 (.int .i64 ((z7050.all).length : Int))) 3 (.func (.func 29) #[] #[Pt b5397 0])) 8 (.int .i64 z9106)) 9 (.int .i64 z9229)) ∧ St w0 w I7051 [ownS (tyInt .i64) v7069 z9230, cells b5397 [Pt b7058 0], cells b7058 [v7059, v7061, v7063, v7065, v7067, v7069], ownS (tyInt .u64) v7059 z7050.up, ownS (tyInt .u64) v7061 z7050.down, ownS (tySl (tyInt .i64)) v7063 z7050.join, ownS (tySl (tyInt .i64)) v7065 z7050.meet, ownS (tyInt .i64) v7067 z7050.rank] R) n9232 ⟨z9106, z9107, _, hm, (fu 0 v7069 z (fu 1 (.int .i64 z8742) z (fu 2 (.int .i64 ((z7050.all).length : Int)) z (fu 3 (.func (.func 29) #[] #[Pt b5397 0]) z (fu 8 (.int .i64 z9106) z (fu 9 (.int .i64 z9106) z z)))))), hst⟩ ?_
 rintro n9238 _ w9233 ⟨z9229, z9230, σ9231, hm, rfl, hst⟩
 obtain ⟨n9235, y9236, rfl, hm, hx9237⟩ := loopN_some hm
 dsimp only [label_New_l14] at hm
 refine wp_seq (wp_seq ?_)
 refine wp_region_St hst 17 [0, 1, 2, 3, 4, 5, 6, 7, 8, 9, 10, 11, 12, 13, 14, 15, 16] [0, 0, 3, 7, 15, 15, 15, 111, 239, 15, 15, 1039, 3599, 7695, 16383, 32767, 65535] [] z (by kernel_rfl) (by kernel_rfl) Try.mixed (by kernel_rfl) ?_
 refine wsr (.int .i64 z9229) 0 z z z (by kernel_rfl) (fun w hst => z) (wsr (.int .i64 z8742) 1 z z z (by kernel_rfl) (fun w hst => z) (wsr (.bool (decide (z9229 > z8742))) 2 z z z (by kernel_rfl) (fun w hst => z) (wsr (.bool (decide (z9229 > z8742))) 3 z z z (by kernel_rfl) (fun w hst => z) ?_)))
 refine bsplit (decide (z9229 > z8742)) (fun hc9239 => ?_) (fun hc9239 => ?_)
 {
 replace hm := bif_t hc9239 hm
 refine ws_q (v := .func (.func 29) #[] #[Pt b5397 0]) 4 [5, 6, 7, 8, 9, 10, 11, 12, 13, 14, 15, 16] (by kernel_rfl) z z (yi_run ((wanted_eq z z z (cvb hc9239)).trans z) (fun w hst => z)) (ws_q (v := v7069) 5 [6, 7, 8, 9, 10, 11, 12, 13, 14, 15, 16] (by kernel_rfl) z z (yi_run ((wanted_eq z z z (cvb hc9239)).trans z) (fun w hst => z)) (ws_q (v := .int .i64 z9229) 6 [7, 8, 9, 10, 11, 12, 13, 14, 15, 16] (by kernel_rfl) z z (yi_run ((wanted_eq z z z (cvb hc9239)).trans z) (fun w hst => z)) ?_))
 obtain ⟨x9240, hx9241, hm⟩ := bind_some hm
 obtain ⟨h9242, h9243, hi9244⟩ := geto_some hx9241
 refine ws_q (v := .pointer (some (eAddr v7069 (z9229.toNat * 1 + 0)))) 7 [8, 9, 10, 11, 12, 13, 14, 15, 16] (by kernel_rfl) z z (yi_run ((wanted_eq z z z (cvb hc9239)).trans z) (fun w hst => x_index z z underlying41 sizeOf3 hst.sv0 h9242 h9243)) (ws_q (v := .int .i64 x9240) 8 [9, 10, 11, 12, 13, 14, 15, 16] (by kernel_rfl) z z (yi_run ((wanted_eq z z z (cvb hc9239)).trans z) (fun w hst => x_load z isAgg3 (hst.ol0 hi9244 (by rintro _ rfl; rfl)))) (ws_q (v := v7069) 9 [10, 11, 12, 13, 14, 15, 16] (by kernel_rfl) z z (yi_run ((wanted_eq z z z (cvb hc9239)).trans z) (fun w hst => z)) (ws_q (v := .int .i64 z9229) 10 [11, 12, 13, 14, 15, 16] (by kernel_rfl) z z (yi_run ((wanted_eq z z z (cvb hc9239)).trans z) (fun w hst => z)) (ws_q (v := .int .i64 (i64.wrap (z9229 - (1:Int)))) 11 [12, 13, 14, 15, 16] (by kernel_rfl) z z (yi_run ((wanted_eq z z z (cvb hc9239)).trans z) (fun w hst => z)) ?_))))
 obtain ⟨x9245, hx9246, hm⟩ := bind_some hm
 obtain ⟨h9247, h9248, hi9249⟩ := geto_some hx9246
 refine ws_q (v := .pointer (some (eAddr v7069 ((i64.wrap (z9229 - (1:Int))).toNat * 1 + 0)))) 12 [13, 14, 15, 16] (by kernel_rfl) z z (yi_run ((wanted_eq z z z (cvb hc9239)).trans z) (fun w hst => x_index z z underlying41 sizeOf3 hst.sv0 h9247 h9248)) (ws_q (v := .int .i64 x9245) 13 [14, 15, 16] (by kernel_rfl) z z (yi_run ((wanted_eq z z z (cvb hc9239)).trans z) (fun w hst => x_load z isAgg3 (hst.ol0 hi9249 (by rintro _ rfl; rfl)))) ?_)
 refine ws_e1 14 (by kernel_rfl) ?_
 refine nxe [15, 16] (by kernel_rfl) z ((wanted_eq z z z (cvb hc9239)).trans z) ?_
 clear hst
 intro w hst
 obtain ⟨y9277, hq9278, hm⟩ := bind_some hm
 refine we_call z (x_callv call29 (caps := [Pt b5397 0]) z (vs := [I6 x9240, I6 x9245]) z) ?_
 refine Calls.mono (show Calls prog 29 #[I6 x9240, I6 x9245, Pt b5397 0] _ (fun e w' => ∃ (z9275 : Int), z9275 = y9277 ∧ e = .returned (.int .i64 z9275) ∧ St w0 w' I7051 [cells b5397 [Pt b7058 0], cells b7058 [v7059, v7061, v7063, v7065, v7067, v7069], ownS (tyInt .u64) v7059 z7050.up, ownS (tyInt .u64) v7061 z7050.down, ownS (tySl (tyInt .i64)) v7063 z7050.join, ownS (tySl (tyInt .i64)) v7065 z7050.meet, ownS (tyInt .i64) v7067 z7050.rank, ownS (tyInt .i64) v7069 z9230] R) from ?_) ?_
 {
 clear hm; have hm := hq9278
 refine calls_start (args := [I6 x9240, I6 x9245, Pt b5397 0]) func29 z ntmps29 (Nat.le_of_ble_eq_true z) ?_
 refine wp_seq (wrl (wv (.int .i64 (0:Int)) z z z (wl_nil (tn (wp_seq ?_)))))
 refine wp_region_St hst 18 [0, 1, 2, 3, 4, 5, 6, 7, 8, 9, 10, 11, 12, 13, 14, 15, 16, 17] [0, 1, 3, 7, 0, 31, 63, 127, 0, 256, 768, 1792, 0, 7936, 16128, 32767, 65535, 131071] [] z (by kernel_rfl) (by kernel_rfl) Try.mixed (by kernel_rfl) ?_
 refine wsr (Pt b7058 0) 0 z z z (by kernel_rfl) (fun w hst => x_load z isAgg24 (hst.bc1 z)) (wsr (Pt b7058 0) 1 z z z (by kernel_rfl) (fun w hst => z) (wsr (Pt b7058 1) 2 z z z (by kernel_rfl) (fun w hst => x_field z underlying49 z sizeOf28 z) (wsr (v7061) 3 z z z (by kernel_rfl) (fun w hst => x_load z isAgg28 (hst.bc2 z)) (wsr (.int .i64 x9240) 4 z z z (by kernel_rfl) (fun w hst => z) ?_))))
 obtain ⟨x9250, hx9251, hm⟩ := bind_some hm
 obtain ⟨h9252, h9253, hi9254⟩ := geto_some hx9251
 refine wsr (.pointer (some (eAddr v7061 (x9240.toNat * 1 + 0)))) 5 z z z (by kernel_rfl) (fun w hst => x_index z z underlying28 sizeOf43 hst.sv4 h9252 h9253) (wsr (.int .u64 x9250) 6 z z z (by kernel_rfl) (fun w hst => x_load z isAgg43 (hst.ol4 hi9254 (by rintro _ rfl; rfl))) (wsr (Pt b7058 0) 8 z z z (by kernel_rfl) (fun w hst => x_load z isAgg24 (hst.bc1 z)) (wsr (Pt b7058 0) 9 z z z (by kernel_rfl) (fun w hst => z) (wsr (Pt b7058 1) 10 z z z (by kernel_rfl) (fun w hst => x_field z underlying49 z sizeOf28 z) (wsr (v7061) 11 z z z (by kernel_rfl) (fun w hst => x_load z isAgg28 (hst.bc2 z)) (wsr (.int .i64 x9245) 12 z z z (by kernel_rfl) (fun w hst => z) ?_))))))
 obtain ⟨x9255, hx9256, hm⟩ := bind_some hm
 obtain ⟨h9257, h9258, hi9259⟩ := geto_some hx9256
 refine wsr (.pointer (some (eAddr v7061 (x9245.toNat * 1 + 0)))) 13 z z z (by kernel_rfl) (fun w hst => x_index z z underlying28 sizeOf43 hst.sv4 h9257 h9258) (wsr (.int .u64 x9255) 14 z z z (by kernel_rfl) (fun w hst => x_load z isAgg43 (hst.ol4 hi9259 (by rintro _ rfl; rfl))) ?_)
 refine ws_e1 7 (by kernel_rfl) ?_
 refine nxe [15, 16, 17] (by kernel_rfl) z z ?_
 clear hst
 intro w hst
 obtain ⟨t9260, ht9261, hm⟩ := bind_some hm
 refine wec call31 [U6 x9250] z z ?_
 refine (math_bits_OnesCount64_ref hst.to0 ht9261).mono ?_
 rintro _ w9262 ⟨rfl, hst⟩
 refine ⟨_, z, ?_⟩
 replace hst := hst.of0
 refine ws_next (pend' := [(14, U6 x9255), (13, .pointer (some (eAddr v7061 (x9245.toNat * 1 + 0)))), (12, I6 x9245), (11, v7061), (10, Pt b7058 1), (9, Pt b7058 0), (8, Pt b7058 0)]) hst (by kernel_rfl) (pkr z z (fun w hst => x_load z isAgg43 (hst.ol4 hi9259 (by rintro _ rfl; rfl))) (pkr z z (fun w hst => x_index z z underlying28 sizeOf43 hst.sv4 h9257 h9258) (pkr z z (fun w hst => z) (pkr z z (fun w hst => x_load z isAgg28 (hst.bc2 z)) (pkr z z (fun w hst => x_field z underlying49 z sizeOf28 z) (pkr z z (fun w hst => z) (pkr z z (fun w hst => x_load z isAgg24 (hst.bc1 z)) pk_nil))))))) ?_
 refine ws_e1 15 (by kernel_rfl) ?_
 refine nxe [16, 17] (by kernel_rfl) z z ?_
 clear hst
 intro w hst
 obtain ⟨t9265, ht9266, hm⟩ := bind_some hm
 refine wec call31 [U6 x9255] z z ?_
 refine (math_bits_OnesCount64_ref hst.to0 ht9266).mono ?_
 rintro _ w9267 ⟨rfl, hst⟩
 refine ⟨_, z, ?_⟩
 replace hst := hst.of0
 refine ws_next (pend' := []) hst (by kernel_rfl) pk_nil ?_
 refine ws_e1 16 (by kernel_rfl) ?_
 refine nxe [17] (by kernel_rfl) z z ?_
 clear hst
 intro w hst
 obtain ⟨t9270, ht9271, hm⟩ := bind_some hm
 refine wec call30 [I6 t9260, I6 t9265] z z ?_
 refine (cmp_Compare_int_ref hst.to0 ht9271).mono ?_
 rintro _ w9272 ⟨rfl, hst⟩
 refine ⟨_, z, ?_⟩
 replace hst := hst.of0
 refine ws_next (pend' := []) hst (by kernel_rfl) pk_nil ?_
 refine wsr (.int .i64 t9270) 17 z z z (by kernel_rfl) (fun w hst => z) ?_
 refine ws_nil ?_
 intro w hst
 refine tn (wp_ret ?_)
 refine post_ret (vs := [I6 t9270]) results29 (rvs_cons (rv_tmp z) rvs_nil) ?_
 replace hst := hst.pull7.pull7.pull7.pull7.pull7.pull7.pull7.keep8
 obtain rfl := some_inj hm
 exact ⟨t9270, z, z, hst⟩
}
 clear hst
 rintro _ w9279 ⟨z9275, rfl, rfl, hst⟩
 refine ⟨_, z, ?_⟩
 try dsimp only at hm
 refine ws_next (pend' := []) hst (by kernel_rfl) pk_nil ?_
 refine ws_q (v := .bool (decide (z9275 < (0:Int)))) 15 [16] (by kernel_rfl) z z (yi_run ((wanted_eq z z z (cvb hc9239)).trans z) (fun w hst => z)) (wsr (.bool (decide (z9275 < (0:Int)))) 16 z z z (by kernel_rfl) (fun w hst => x_pick_t hc9239 z z) ?_)
 refine ws_nil ?_
 intro w hst
 refine tn ?_
 refine bsplit (decide (z9275 < (0:Int))) (fun hc9280 => ?_) (fun hc9280 => ?_)
 {
 replace hm := bif_t hc9280 hm
 refine wp_ift (cvb hc9280) ?_
 refine wp_skip (tn (wp_seq (wp_block ?_)))
 refine wp_region_St hst 18 [0, 1, 2, 3, 4, 5, 6, 7, 8, 9, 10, 11, 12, 13, 14, 15, 16, 17] [0, 0, 0, 0, 8, 0, 0, 64, 224, 480, 0, 0, 3072, 7168, 16355, 32739, 65535, 131071] [] z (by kernel_rfl) (by kernel_rfl) Try.mixed (by kernel_rfl) ?_
 refine wsr (v7069) 0 z z z (by kernel_rfl) (fun w hst => z) (wsr (.int .i64 z9229) 1 z z z (by kernel_rfl) (fun w hst => z) (wsr (v7069) 2 z z z (by kernel_rfl) (fun w hst => z) (wsr (.int .i64 z9229) 3 z z z (by kernel_rfl) (fun w hst => z) (wsr (.int .i64 (i64.wrap (z9229 - (1:Int)))) 4 z z z (by kernel_rfl) (fun w hst => z) (wsr (v7069) 5 z z z (by kernel_rfl) (fun w hst => z) (wsr (.int .i64 z9229) 6 z z z (by kernel_rfl) (fun w hst => z) (wsr (.int .i64 (i64.wrap (z9229 - (1:Int)))) 7 z z z (by kernel_rfl) (fun w hst => z) (wsr (.pointer (some (eAddr v7069 ((i64.wrap (z9229 - (1:Int))).toNat * 1 + 0)))) 8 z z z (by kernel_rfl) (fun w hst => x_index z z underlying41 sizeOf3 hst.sv7 h9247 h9248) (wsr (.int .i64 x9245) 9 z z z (by kernel_rfl) (fun w hst => x_load z isAgg3 (hst.ol7 hi9249 (by rintro _ rfl; rfl))) (wsr (v7069) 10 z z z (by kernel_rfl) (fun w hst => z) (wsr (.int .i64 z9229) 11 z z z (by kernel_rfl) (fun w hst => z) (wsr (.pointer (some (eAddr v7069 (z9229.toNat * 1 + 0)))) 12 z z z (by kernel_rfl) (fun w hst => x_index z z underlying41 sizeOf3 hst.sv7 h9242 h9243) ?_))))))))))))
 refine wsr (.int .i64 x9240) 13 z z z (by kernel_rfl) (fun w hst => x_load z isAgg3 (hst.ol7 hi9244 (by rintro _ rfl; rfl))) (wsr (.pointer (some (eAddr v7069 (z9229.toNat * 1 + 0)))) 14 z z z (by kernel_rfl) (fun w hst => x_index z z underlying41 sizeOf3 hst.sv7 h9242 h9243) ?_)
 refine ws_e1 15 (by kernel_rfl) ?_
 refine nxe [16, 17] (by kernel_rfl) z z ?_
 clear hst
 intro w hst
 replace hst := hst.pull7
 obtain ⟨w9281, hr9282, hst⟩ := hst.own_store (P := prog) (t := 3) (y := x9245) hi9244 0 (.int .i64 x9245) sizeOf3 (Nat.le_of_ble_eq_true z) (oC z oN) (by rintro _ rfl; rfl)
 have hi9283 := set_get hi9244 x9245
 have h9284 := set_lt h9243 z9229.toNat x9245
 refine we_unit z (x_unit hr9282) ?_
 refine ws_next (pend' := [(4, I6 (i64.wrap (z9229 - (1:Int)))), (3, I6 z9229), (2, v7069)]) hst (by kernel_rfl) (pkr z z (fun w hst => z) (pkr z z (fun w hst => z) (pkr z z (fun w hst => z) pk_nil))) ?_
 obtain ⟨x9285, hx9286, hm⟩ := bind_some hm
 obtain ⟨h9287, h9288, hi9289⟩ := geto_some hx9286
 refine wsr (.pointer (some (eAddr v7069 ((i64.wrap (z9229 - (1:Int))).toNat * 1 + 0)))) 16 z z z (by kernel_rfl) (fun w hst => x_index z z underlying41 sizeOf3 hst.sv0 h9287 h9288) ?_
 refine ws_e1 17 (by kernel_rfl) ?_
 refine nxe [] (by kernel_rfl) z z ?_
 clear hst
 intro w hst
 obtain ⟨w9290, hr9291, hst⟩ := hst.own_store (P := prog) (t := 3) (y := x9240) hi9289 0 (.int .i64 x9240) sizeOf3 (Nat.le_of_ble_eq_true z) (oC z oN) (by rintro _ rfl; rfl)
 have hi9292 := set_get hi9289 x9240
 have h9293 := set_lt h9288 (i64.wrap (z9229 - (1:Int))).toNat x9240
 refine we_unit z (x_unit hr9291) ?_
 refine ws_next (pend' := []) hst (by kernel_rfl) pk_nil ?_
 refine ws_nil ?_
 intro w hst
 refine blk_n (tn (wrl ?_))
 refine wv (.int .i64 z9229) z z z (wv (.int .i64 (i64.wrap (z9229 - (1:Int)))) z z z (wv (.int .i64 (i64.wrap (z9229 - (1:Int)))) z z z (wl_nil (tn ?_))))
 replace hst := hst.pull7.pull7.pull7.pull7.pull7.pull7.pull7.pull7.keep8
 obtain rfl := some_inj hm
 exact ⟨_, Nat.lt_succ_self _, (i64.wrap (z9229 - (1:Int))), ((z9230.set z9229.toNat x9245).set (i64.wrap (z9229 - (1:Int))).toNat x9240), _, hx9237, (fu 0 v7069 z (fu 1 (.int .i64 z8742) z (fu 2 (.int .i64 ((z7050.all).length : Int)) z (fu 3 (.func (.func 29) #[] #[Pt b5397 0]) z (fu 8 (.int .i64 z9106) z (fu 9 (.int .i64 (i64.wrap (z9229 - (1:Int)))) z z)))))), hst⟩
}
 {
 replace hm := bif_f hc9280 hm
 refine wp_iff (cvb hc9280) ?_
 refine wp_exit (then_x (then_x ?_))
 replace hm := inr_up hm hx9237
 refine blk_x (blk_n (tn (wrl ?_)))
 refine wv (.int .i64 z9106) z z z (wv (.int .i64 (i64.wrap (z9106 + (1:Int)))) z z z (wv (.int .i64 (i64.wrap (z9106 + (1:Int)))) z z z (wl_nil (tn ?_))))
 replace hst := hst.pull6.pull6.pull6.pull6.pull6.pull6.pull6.pull7.keep8
 obtain rfl := some_inj hm
 exact ⟨_, Nat.lt_succ_self _, (i64.wrap (z9106 + (1:Int))), z9230, _, hx9114, (fu 0 v7069 z (fu 1 (.int .i64 z8742) z (fu 2 (.int .i64 ((z7050.all).length : Int)) z (fu 3 (.func (.func 29) #[] #[Pt b5397 0]) z (fu 8 (.int .i64 (i64.wrap (z9106 + (1:Int)))) z z))))), hst⟩
}
}
 {
 replace hm := bif_f hc9239 hm
 refine ws_q (v := undef) 4 [5, 6, 7, 8, 9, 10, 11, 12, 13, 14, 15, 16] (by kernel_rfl) z z (yi_off ((wanted_eq z z z (cvb hc9239)).trans z)) (ws_q (v := undef) 5 [6, 7, 8, 9, 10, 11, 12, 13, 14, 15, 16] (by kernel_rfl) z z (yi_off ((wanted_eq z z z (cvb hc9239)).trans z)) (ws_q (v := undef) 6 [7, 8, 9, 10, 11, 12, 13, 14, 15, 16] (by kernel_rfl) z z (yi_off ((wanted_eq z z z (cvb hc9239)).trans z)) (ws_q (v := undef) 7 [8, 9, 10, 11, 12, 13, 14, 15, 16] (by kernel_rfl) z z (yi_off ((wanted_eq z z z (cvb hc9239)).trans z)) (ws_q (v := undef) 8 [9, 10, 11, 12, 13, 14, 15, 16] (by kernel_rfl) z z (yi_off ((wanted_eq z z z (cvb hc9239)).trans z)) (ws_q (v := undef) 9 [10, 11, 12, 13, 14, 15, 16] (by kernel_rfl) z z (yi_off ((wanted_eq z z z (cvb hc9239)).trans z)) (ws_q (v := undef) 10 [11, 12, 13, 14, 15, 16] (by kernel_rfl) z z (yi_off ((wanted_eq z z z (cvb hc9239)).trans z)) (ws_q (v := undef) 11 [12, 13, 14, 15, 16] (by kernel_rfl) z z (yi_off ((wanted_eq z z z (cvb hc9239)).trans z)) (ws_q (v := undef) 12 [13, 14, 15, 16] (by kernel_rfl) z z (yi_off ((wanted_eq z z z (cvb hc9239)).trans z)) (ws_q (v := undef) 13 [14, 15, 16] (by kernel_rfl) z z (yi_off ((wanted_eq z z z (cvb hc9239)).trans z)) (ws_q (v := undef) 14 [15, 16] (by kernel_rfl) z z (yi_off ((wanted_eq z z z (cvb hc9239)).trans z)) (ws_q (v := undef) 15 [16] (by kernel_rfl) z z (yi_off ((wanted_eq z z z (cvb hc9239)).trans z)) (wsr (.bool false) 16 z z z (by kernel_rfl) (fun w hst => x_pick_f hc9239 z z) ?_))))))))))))
 refine ws_nil ?_
 intro w hst
 refine tn ?_
 refine wp_iff z ?_
 refine wp_exit (then_x (then_x ?_))
 replace hm := inr_up hm hx9237
 refine blk_x (blk_n (tn (wrl ?_)))
 refine wv (.int .i64 z9106) z z z (wv (.int .i64 (i64.wrap (z9106 + (1:Int)))) z z z (wv (.int .i64 (i64.wrap (z9106 + (1:Int)))) z z z (wl_nil (tn ?_))))
 replace hst := hst.pull7.pull7.pull7.pull7.pull7.pull7.pull7.pull7.keep8
 obtain rfl := some_inj hm
 exact ⟨_, Nat.lt_succ_self _, (i64.wrap (z9106 + (1:Int))), z9230, _, hx9114, (fu 0 v7069 z (fu 1 (.int .i64 z8742) z (fu 2 (.int .i64 ((z7050.all).length : Int)) z (fu 3 (.func (.func 29) #[] #[Pt b5397 0]) z (fu 8 (.int .i64 (i64.wrap (z9106 + (1:Int)))) z z))))), hst⟩
}
}
 {
 replace hm := bif_f hc9116 hm
 refine wp_iff (cvb hc9116) ?_
 refine wp_exit (then_x (then_x ?_))
 replace hm := inr_up hm hx9114
 refine blk_x ?_
 refine post_end (vs := []) results39 rvs_nil ?_
 replace hst := hst.pull7.pull7.pull7.pull7.pull7.pull7.pull7.keep8
 obtain rfl := some_inj hm
 exact ⟨z9107, z, z, hst⟩
}
}
 clear hst
 rintro _ w9298 ⟨z9294, rfl, rfl, hst⟩
 refine ⟨_, z, ?_⟩
 try dsimp only at hm
 refine wl_nil (tn (wp_block ?_))
 obtain ⟨n9336, hm⟩ := loopO_some hm
 refine wp_loop_n (fun n a w => ∃ (z9334 : Int) (σ9335 : Nat → Value), loopN (label_New_l15 z7050 z9294) n z9334 = some y9362 ∧ a = Fr 63 (upd (upd (upd (upd σ9335 0 (v7069)) 1 (.int .i64 ((z7050.all).length : Int))) 2 (.func (.func 29) #[] #[Pt b5397 0])) 6 (.int .i64 z9334)) ∧ St w0 w I7051 [cells b5397 [Pt b7058 0], cells b7058 [v7059, v7061, v7063, v7065, v7067, v7069], ownS (tyInt .u64) v7059 z7050.up, ownS (tyInt .u64) v7061 z7050.down, ownS (tySl (tyInt .i64)) v7063 z7050.join, ownS (tySl (tyInt .i64)) v7065 z7050.meet, ownS (tyInt .i64) v7067 z7050.rank, ownS (tyInt .i64) v7069 z9294] R) n9336 ⟨(20:Int), _, hm, (fu 0 v7069 z (fu 1 (.int .i64 ((z7050.all).length : Int)) z (fu 2 (.func (.func 29) #[] #[Pt b5397 0]) z (fu 6 (.int .i64 (20:Int)) z z)))), hst⟩ ?_
 rintro n9342 _ w9337 ⟨z9334, σ9335, hm, rfl, hst⟩
 obtain ⟨n9339, y9340, rfl, hm, hx9341⟩ := loopN_some hm
 dsimp only [label_New_l15] at hm
 refine wp_seq (wp_seq (wrl (wv (.int .i64 z9334) z z z (wv (.int .i64 ((z7050.all).length : Int)) z z z (wv (.bool (decide (z9334 < ((z7050.all).length : Int)))) z z z (wl_nil (tn ?_)))))))
 refine bsplit (decide (z9334 < ((z7050.all).length : Int))) (fun hc9343 => ?_) (fun hc9343 => ?_)
 {
 replace hm := bif_t hc9343 hm
 refine wp_ift (cvb hc9343) ?_
 refine wp_skip (tn (wp_block (wp_seq (wrl ?_))))
 refine wv (.int .i64 z9334) z z z (wv (.int .i64 (i64.wrap ((2:Int) * z9334))) z z z (wv (.int .i64 (0:Int)) z z z (wv (.int .i64 (i64.wrap ((2:Int) * z9334))) z z z (wl_nil (tn ?_)))))
 obtain ⟨y9356, hm, hx9357⟩ := bind_some hm
 refine wp_cut (fun a w => ∃ (σ9354 : Nat → Value), (label_New_j16 z9334 z7050) () = some y9340 ∧ a = Fr 63 (upd (upd (upd (upd (upd σ9354 0 (v7069)) 1 (.int .i64 ((z7050.all).length : Int))) 2 (.func (.func 29) #[] #[Pt b5397 0])) 6 (.int .i64 z9334)) 7 (.int .i64 (0:Int))) ∧ St w0 w I7051 [ownS (tyInt .i64) v7069 z9294, cells b5397 [Pt b7058 0], cells b7058 [v7059, v7061, v7063, v7065, v7067, v7069], ownS (tyInt .u64) v7059 z7050.up, ownS (tyInt .u64) v7061 z7050.down, ownS (tySl (tyInt .i64)) v7063 z7050.join, ownS (tySl (tyInt .i64)) v7065 z7050.meet, ownS (tyInt .i64) v7067 z7050.rank] R) ?_ ?_
 {
 refine wp_block ?_
 obtain ⟨n9346, hm⟩ := loopO_some hm
 refine wp_loop_n (fun n a w => ∃ (σ9345 : Nat → Value), loopN (label_New_l17 z9334 z7050) n () = some y9356 ∧ a = Fr 63 (upd (upd (upd (upd (upd (upd σ9345 0 (v7069)) 1 (.int .i64 ((z7050.all).length : Int))) 2 (.func (.func 29) #[] #[Pt b5397 0])) 6 (.int .i64 z9334)) 7 (.int .i64 (0:Int))) 8 (.int .i64 (i64.wrap ((2:Int) * z9334)))) ∧ St w0 w I7051 [cells b5397 [Pt b7058 0], cells b7058 [v7059, v7061, v7063, v7065, v7067, v7069], ownS (tyInt .u64) v7059 z7050.up, ownS (tyInt .u64) v7061 z7050.down, ownS (tySl (tyInt .i64)) v7063 z7050.join, ownS (tySl (tyInt .i64)) v7065 z7050.meet, ownS (tyInt .i64) v7067 z7050.rank, ownS (tyInt .i64) v7069 z9294] R) n9346 ⟨_, hm, (fu 0 v7069 z (fu 1 (.int .i64 ((z7050.all).length : Int)) z (fu 2 (.func (.func 29) #[] #[Pt b5397 0]) z (fu 6 (.int .i64 z9334) z (fu 7 (.int .i64 (0:Int)) z (fu 8 (.int .i64 (i64.wrap ((2:Int) * z9334))) z z)))))), hst⟩ ?_
 rintro n9352 _ w9347 ⟨σ9345, hm, rfl, hst⟩
 obtain ⟨n9349, y9350, rfl, hm, hx9351⟩ := loopN_some hm
 dsimp only [label_New_l17] at hm
 refine wp_seq (wp_seq (wrl (wv (.int .i64 (i64.wrap ((2:Int) * z9334))) z z z (wv (.int .i64 ((z7050.all).length : Int)) z z z (wv (.bool (decide ((i64.wrap ((2:Int) * z9334)) ≤ ((z7050.all).length : Int)))) z z z (wl_nil (tn ?_)))))))
 refine bsplit (decide ((i64.wrap ((2:Int) * z9334)) ≤ ((z7050.all).length : Int))) (fun hc9353 => ?_) (fun hc9353 => ?_)
 {
 replace hm := bif_t hc9353 hm
 refine wp_ift (cvb hc9353) ?_
 refine wp_skip (tn (wp_block (wp_seq (wrl ?_))))
 refine wv (v7069) z z z (wv (.int .i64 (0:Int)) z z z (wv (.int .i64 (0:Int)) z z z (wv (.int .i64 z9334) z z z (wv (.int .i64 (i64.wrap ((0:Int) + z9334))) z z z (wv (.int .i64 (i64.wrap ((2:Int) * z9334))) z z z (wv (.func (.func 29) #[] #[Pt b5397 0]) z z z ?_))))))
 cases hm
}
 {
 replace hm := bif_f hc9353 hm
 refine wp_iff (cvb hc9353) ?_
 refine wp_exit (then_x (then_x ?_))
 replace hm := inr_up hm hx9351
 refine blk_x (tn ?_)
 replace hst := hst.pull6.pull6.pull6.pull6.pull6.pull6.pull6.pull7.keep8
 obtain rfl := some_inj hm
 exact ⟨_, hx9357, (fu 0 v7069 z (fu 1 (.int .i64 ((z7050.all).length : Int)) z (fu 2 (.func (.func 29) #[] #[Pt b5397 0]) z (fu 6 (.int .i64 z9334) z (fu 7 (.int .i64 (0:Int)) z z))))), hst⟩
}
}
 {
 clear hst
 rintro _ w9358 ⟨σ9354, hm, rfl, hst⟩
 dsimp only [label_New_j16] at hm
 refine wp_seq (wp_seq (wrl (wv (.int .i64 (0:Int)) z z z (wv (.int .i64 z9334) z z z (wv (.int .i64 (i64.wrap ((0:Int) + z9334))) z z z (wv (.int .i64 (i64.wrap ((0:Int) + z9334))) z z z (wl_nil (tn (wp_seq (wrl (wv (.int .i64 (i64.wrap ((0:Int) + z9334))) z z z (wv (.int .i64 ((z7050.all).length : Int)) z z z (wv (.bool (decide ((i64.wrap ((0:Int) + z9334)) < ((z7050.all).length : Int)))) z z z (wl_nil (tn ?_)))))))))))))))
 refine bsplit (decide ((i64.wrap ((0:Int) + z9334)) < ((z7050.all).length : Int))) (fun hc9359 => ?_) (fun hc9359 => ?_)
 {
 replace hm := bif_t hc9359 hm
 refine wp_ift (cvb hc9359) ?_
 refine wrl (wv (v7069) z z z (wv (.int .i64 (0:Int)) z z z (wv (.int .i64 (i64.wrap ((0:Int) + z9334))) z z z (wv (.int .i64 ((z7050.all).length : Int)) z z z (wv (.func (.func 29) #[] #[Pt b5397 0]) z z z ?_)))))
 cases hm
}
 {
 replace hm := bif_f hc9359 hm
 refine wp_iff (cvb hc9359) ?_
 refine wp_skip (tn (wrl ?_))
 refine wv (.int .i64 z9334) z z z (wv (.int .i64 (i64.wrap (z9334 * (2:Int)))) z z z (wv (.int .i64 (i64.wrap (z9334 * (2:Int)))) z z z (wl_nil (blk_n (tn ?_)))))
 replace hst := hst.pull7.pull7.pull7.pull7.pull7.pull7.pull7.keep8
 obtain rfl := some_inj hm
 exact ⟨_, Nat.lt_succ_self _, (i64.wrap (z9334 * (2:Int))), _, hx9341, (fu 0 v7069 z (fu 1 (.int .i64 ((z7050.all).length : Int)) z (fu 2 (.func (.func 29) #[] #[Pt b5397 0]) z (fu 6 (.int .i64 (i64.wrap (z9334 * (2:Int)))) z z)))), hst⟩
}
}
}
 {
 replace hm := bif_f hc9343 hm
 refine wp_iff (cvb hc9343) ?_
 refine wp_exit (then_x (then_x ?_))
 replace hm := inr_up hm hx9341
 refine blk_x ?_
 refine post_end (vs := []) results37 rvs_nil ?_
 replace hst := hst.pull7.pull7.pull7.pull7.pull7.pull7.pull7.pull7.keep8
 obtain rfl := some_inj hm
 exact ⟨z9294, z, z, hst⟩
}
}
}
 clear hst
 rintro _ w9364 ⟨z9360, rfl, rfl, hst⟩
 refine ⟨_, z, ?_⟩
 try dsimp only at hm
 refine wl_nil ?_
 refine post_end (vs := []) results28 rvs_nil ?_
 replace hst := hst.pull7.pull7.pull7.pull7.pull7.pull7.pull7.pull7.keep8
 obtain rfl := some_inj hm
 exact ⟨z9360, z, z, hst⟩
}
 clear hst
 rintro _ w9369 ⟨z9365, rfl, rfl, hst⟩
 refine ⟨_, z, ?_⟩
 try dsimp only at hm
 refine wl_nil (tn (wp_seq (wp_seq (wrl (wv (Pt b7058 0) z z (x_load z isAgg24 (hst.bc0 z)) (wv (Pt b7058 0) z z z (wv (Pt b7058 5) z z (x_field z underlying49 z sizeOf41 z) (wv (v7069) z z (x_load z isAgg41 (hst.bc1 z)) (wv (.int .i64 ((z9365).length : Int)) z z (x_len z underlying41 hst.sv7) (wv (.int .i64 (0:Int)) z z z (wl_nil (tn (wp_block ?_)))))))))))))
 obtain ⟨n9405, hm⟩ := loopO_some hm
 refine wp_loop_n (fun n a w => ∃ (z9402 : Int) (z9403 : (List Int)) (σ9404 : Nat → Value), loopN (label_New_l18 z9365 z7050) n (z9402, z9403) = some r ∧ a = Fr 192 (upd (upd (upd (upd σ9404 5 (Pt b5397 0)) 176 (v7069)) 177 (.int .i64 ((z9365).length : Int))) 178 (.int .i64 z9402)) ∧ St w0 w I7051 [cells b5397 [Pt b7058 0], cells b7058 [v7059, v7061, v7063, v7065, v7067, v7069], ownS (tyInt .u64) v7059 z7050.up, ownS (tyInt .u64) v7061 z7050.down, ownS (tySl (tyInt .i64)) v7063 z7050.join, ownS (tySl (tyInt .i64)) v7065 z7050.meet, ownS (tyInt .i64) v7067 z9403, ownS (tyInt .i64) v7069 z9365] R) n9405 ⟨(0:Int), z7050.rank, _, hm, (fu 5 (Pt b5397 0) z (fu 176 v7069 z (fu 177 (.int .i64 ((z9365).length : Int)) z (fu 178 (.int .i64 (0:Int)) z z)))), hst⟩ ?_
 rintro n9411 _ w9406 ⟨z9402, z9403, σ9404, hm, rfl, hst⟩
 obtain ⟨n9408, y9409, rfl, hm, hx9410⟩ := loopN_some hm
 dsimp only [label_New_l18] at hm
 refine wp_seq (wrl (wv (.bool (decide (z9402 < ((z9365).length : Int)))) z z z (wl_nil (tn (wp_seq ?_)))))
 refine bsplit (decide (z9402 < ((z9365).length : Int))) (fun hc9412 => ?_) (fun hc9412 => ?_)
 {
 replace hm := bif_t hc9412 hm
 refine wp_ift (cvb hc9412) ?_
 refine wp_skip (tn (wp_seq (wp_block (wp_seq (wrl ?_)))))
 refine wv (.int .i64 z9402) z z z ?_
 obtain ⟨x9413, hx9414, hm⟩ := bind_some hm
 obtain ⟨h9415, h9416, hi9417⟩ := geto_some hx9414
 refine wv (.pointer (some (eAddr v7069 (z9402.toNat * 1 + 0)))) z z (x_index z z underlying41 sizeOf3 hst.sv7 h9415 h9416) (wv (.int .i64 x9413) z z (x_load z isAgg3 (hst.ol7 hi9417 (by rintro _ rfl; rfl))) (wv (.int .i64 z9402) z z z (wv (.int .i64 x9413) z z z (wl_nil (tn (wrl (wv (Pt b7058 0) z z (x_load z isAgg24 (hst.bc0 z)) (wv (Pt b7058 0) z z z (wv (Pt b7058 4) z z (x_field z underlying49 z sizeOf41 z) (wv (v7067) z z (x_load z isAgg41 (hst.bc1 z)) (wv (.int .i64 x9413) z z z (wv (.int .i64 z9402) z z z ?_))))))))))))
 obtain ⟨x9418, hx9419, hm⟩ := bind_some hm
 obtain ⟨h9420, h9421, hi9422⟩ := geto_some hx9419
 refine wv (.pointer (some (eAddr v7067 (x9413.toNat * 1 + 0)))) z z (x_index z z underlying41 sizeOf3 hst.sv6 h9420 h9421) ?_
 replace hst := hst.pull6
 obtain ⟨w9423, hr9424, hst⟩ := hst.own_store (P := prog) (t := 3) (y := z9402) hi9422 0 (.int .i64 z9402) sizeOf3 (Nat.le_of_ble_eq_true z) (oC z oN) (by rintro _ rfl; rfl)
 have hi9425 := set_get hi9422 z9402
 have h9426 := set_lt h9421 x9413.toNat z9402
 refine wl_unit z z (x_unit hr9424) ?_
 refine wl_nil (blk_n (tn (wrl (wv (.int .i64 (i64.wrap (z9402 + (1:Int)))) z z z (wv (.int .i64 (i64.wrap (z9402 + (1:Int)))) z z z (wl_nil (tn ?_)))))))
 replace hst := hst.pull7.pull1.pull7.pull7.pull7.pull7.pull7.pull7.keep8
 obtain rfl := some_inj hm
 exact ⟨_, Nat.lt_succ_self _, (i64.wrap (z9402 + (1:Int))), (z9403.set x9413.toNat z9402), _, hx9410, (fu 5 (Pt b5397 0) z (fu 176 v7069 z (fu 177 (.int .i64 ((z9365).length : Int)) z (fu 178 (.int .i64 (i64.wrap (z9402 + (1:Int)))) z z)))), hst⟩
}
 {
 replace hm := bif_f hc9412 hm
 refine wp_iff (cvb hc9412) ?_
 refine wp_exit (then_x (then_x ?_))
 replace hm := inr_up hm hx9410
 refine blk_x (tn (wp_seq (wrl ?_)))
 refine wv (Pt b7058 0) z z (x_load z isAgg24 (hst.bc0 z)) (wv (Pt b7058 0) z z z (wv (.int .i64 (0:Int)) z z z (wl_nil (tn (wp_ret ?_)))))
 replace hst := hst.pull7.pull7.pull7.pull7.pull7.pull7.pull7
 replace hst := at_label_Lattice_close (pv := Pt b7058 0) (x := ({ up := z7050.up, down := z7050.down, join := z7050.join, meet := z7050.meet, rank := z9403, all := z9365 } : label_Lattice)) hst z
 replace hst := objO_some hst
 obtain rfl := some_inj hm
 refine post_ret (vs := [Pt b7058 0, Zi]) results10 (rvs_cons (rv_tmp z) (rvs_cons (rv_tmp z) rvs_nil)) ?_
 exact ⟨_, Pt b7058 0, z, hI0, hst.keep1⟩
}
}
}
}
}
}
}
}

end Go.Proofs.Ytddhkbholbcebaa
