/- The Go functions refine their models, part 1. -/
import Derived.Test.YtddhkbholbcebaaLabelOrdersR0
set_option linter.unusedVariables false
set_option linter.unusedSimpArgs false
set_option maxRecDepth 100000
set_option maxHeartbeats 4000000
namespace Go.Proofs.Ytddhkbholbcebaa
open Go Go.V
open _root_.Go.Proofs.Try IntKind
attribute [local irreducible] wpList Code.wp wpQuiet Calls bodyPost Oper.wp wpS Nx PendOK YieldsIn
theorem label_New_ref {w0 w : World} {I : HL} {R : SP} {a0 : (List Int)} {r0_0 : Value} (f0_0 : Rd (tyInt .u64) R I r0_0 a0) (hst : St w0 w I [] R) {r : (Option label_Lattice × Int)} (hm : label_New a0 = some r) :
  Calls prog 10 #[r0_0] w fun e w' => ∃ (I' : HL) (q0 : Value), e = .returned (.tuple #[q0, I6 r.2]) ∧ I.le I' ∧ St w0 w' I' [objO at_label_Lattice q0 r.1] R := by {
 unfold label_New at hm
 refine calls_start (args := [r0_0]) func10 z ntmps10 (Nat.le_of_ble_eq_true z) ?_
 have hI0 := HL.le.refl I
 refine wp_seq (wrl (wv (.pointer none) z z z (wv (.int .i64 (0:Int)) z z z (wl_nil (tn (wp_seq (wrl (wv (r0_0) z z z (wv (.int .i64 ((a0).length : Int)) z z (x_len z underlying28 (rd_sliceV f0_0)) (wv (.int .i64 ((a0).length : Int)) z z z (wl_nil (tn (wp_seq (wp_seq (wrl (wv (.int .i64 ((a0).length : Int)) z z z (wv (.bool (decide (((a0).length : Int) < (1:Int)))) z z z (wv (.bool (decide (((a0).length : Int) < (1:Int)))) z z z ?_))))))))))))))))))
 refine bsplit (decide (((a0).length : Int) < (1:Int))) (fun hc4717 => ?_) (fun hc4717 => ?_)
 {
 replace hm := bif_t hc4717 hm
 refine wo hc4717 z z z z z z (wo hc4717 z z z z z z (wv (.bool true) z z (x_pick_t hc4717 z z) (wl_nil (tn ?_))))
 refine wp_ift z ?_
 refine wp_seq (wrl (wv (.pointer none) z z z (wv (.int .i64 (1:Int)) z z z (wl_nil (tn (wp_ret (then_r ?_)))))))
 replace hst := hst.objO_nil at_label_Lattice
 obtain rfl := some_inj hm
 refine post_ret (vs := [.pointer none, I6 (1:Int)]) results10 (rvs_cons (rv_tmp z) (rvs_cons (rv_tmp z) rvs_nil)) ?_
 exact ⟨_, .pointer none, z, hI0, hst.keep1⟩
}
 {
 replace hm := bif_f hc4717 hm
 refine wv (.int .i64 ((a0).length : Int)) ((wanted_eq z z z (cvb hc4717)).trans z) z z (wv (.bool (decide (((a0).length : Int) > (16:Int)))) ((wanted_eq z z z (cvb hc4717)).trans z) z z (wv (.bool (decide (((a0).length : Int) > (16:Int)))) z z (x_pick_f hc4717 z z) (wl_nil (tn ?_))))
 refine bsplit (decide (((a0).length : Int) > (16:Int))) (fun hc4719 => ?_) (fun hc4719 => ?_)
 {
 replace hm := bif_t hc4719 hm
 refine wp_ift (cvb hc4719) ?_
 refine wp_seq (wrl (wv (.pointer none) z z z (wv (.int .i64 (1:Int)) z z z (wl_nil (tn (wp_ret (then_r ?_)))))))
 replace hst := hst.objO_nil at_label_Lattice
 obtain rfl := some_inj hm
 refine post_ret (vs := [.pointer none, I6 (1:Int)]) results10 (rvs_cons (rv_tmp z) (rvs_cons (rv_tmp z) rvs_nil)) ?_
 exact ⟨_, .pointer none, z, hI0, hst.keep1⟩
}
 {
 replace hm := bif_f hc4719 hm
 refine wp_iff (cvb hc4719) ?_
 refine wp_skip (tn (wp_seq ?_))
 obtain ⟨y5404, hm, hx5405⟩ := bind_some hm
 refine wp_mid (fun a w => ∃ (z5401 : label_Lattice) (b5398 : Nat) (v5400 : Value) (σ5402 : Nat → Value), (label_New_j0 a0) z5401 = some r ∧ a = Fr 192 (upd (upd (upd σ5402 0 (r0_0)) 4 (.int .i64 ((a0).length : Int))) 5 (Pt b5398 0)) ∧ St w0 w I [cells b5398 [v5400], at_label_Lattice v5400 z5401] R) ?_ ?_
 {
 refine wp_region_St hst 10 [0, 1, 2, 3, 4, 5, 6, 7, 8, 9] [0, 1, 0, 4, 0, 16, 63, 127, 0, 511] [] z (by kernel_rfl) (by kernel_rfl) Try.mixed (by kernel_rfl) ?_
 refine wsr (r0_0) 0 z z z (by kernel_rfl) (fun w hst => z) (wsr (.int .i64 ((a0).length : Int)) 2 z z z (by kernel_rfl) (fun w hst => z) (wsr (.int .i64 ((a0).length : Int)) 4 z z z (by kernel_rfl) (fun w hst => z) ?_))
 obtain ⟨t4721, ht4722, hm⟩ := bind_some hm
 obtain ⟨hg4723, hm⟩ := gd_some hm
 obtain ⟨hg4724, hm⟩ := gd_some hm
 refine ws_e4 1 3 5 8 (by kernel_rfl) ?_ ?_ ?_ ?_
 {
 refine nxe [3, 5, 6, 7, 8, 9] (by kernel_rfl) z z ?_
 clear hst
 intro w hst
 refine wec call25 [r0_0] z z ?_
 refine (slices_Clone_uint64_uint64_ref (f0_0.mono (rd_weak _)) hst.to0 ht4722).mono ?_
 rintro _ w4725 ⟨v4728, rfl, hst⟩
 refine ⟨_, z, ?_⟩
 replace hst := hst.of1
 refine ws_next (pend' := [(4, I6 ((a0).length : Int)), (2, I6 ((a0).length : Int))]) hst (by kernel_rfl) (pkr z z (fun w hst => z) (pkr z z (fun w hst => z) pk_nil)) ?_
 refine ws_e3 3 5 8 (by kernel_rfl) ?_ ?_ ?_
 {
 refine nxe [5, 6, 7, 8, 9] (by kernel_rfl) z z ?_
 clear hst
 intro w hst
 obtain ⟨v4730, w4731, hr4732, hst⟩ := run_mk (k := .i64) (k' := .i64) (zm := (0:Int)) elem_28 hst hg4723 (by decide) z
 refine we_run (v := v4730) (w' := w4731) z (x_make z z hr4732) ?_
 refine ws_next (pend' := [(4, I6 ((a0).length : Int))]) hst (by kernel_rfl) (pkr z z (fun w hst => z) pk_nil) ?_
 refine ws_e2 5 8 (by kernel_rfl) ?_ ?_
 {
 refine nxe [6, 7, 8, 9] (by kernel_rfl) z z ?_
 clear hst
 intro w hst
 obtain ⟨v4734, w4735, hr4736, hst⟩ := run_mk (k := .i64) (k' := .i64) (zm := (0:Int)) elem_41 hst hg4724 (by decide) z
 refine we_run (v := v4734) (w' := w4735) z (x_make z z hr4736) ?_
 refine ws_next (pend' := []) hst (by kernel_rfl) pk_nil ?_
 refine wsr (.agg #[v4728, v4730, Zs, Zs, v4734, Zs]) 6 rfl rfl rfl (by kernel_rfl) (fun w hst => by obtain ⟨_, _, hv_, _⟩ := hst.sv0; rw [hv_]; obtain ⟨_, _, hv_, _⟩ := hst.sv1; rw [hv_]; obtain ⟨_, _, hv_, _⟩ := hst.sv2; rw [hv_]; kernel_rfl) ?_
 refine ws_e2 7 8 (by kernel_rfl) ?_ ?_
 {
 refine nxe [8, 9] (by kernel_rfl) z z ?_
 clear hst
 intro w hst
 obtain ⟨b4744, w4745, ew4746, eb4747, hst⟩ := hst.box [v4728, v4730, Zs, Zs, v4734, Zs] 49
 refine we_run (v := Pt b4744 0) (w' := w4745) z (x_al (by kernel_rfl) ew4746 eb4747) ?_
 refine ws_next (pend' := []) hst (by kernel_rfl) pk_nil ?_
 refine ws_e1 8 (by kernel_rfl) ?_
 refine nxe [9] (by kernel_rfl) z z ?_
 clear hst
 intro w hst
 obtain ⟨b4749, w4750, ew4751, eb4752, hst⟩ := hst.box [.pointer none] 24
 refine we_run (v := Pt b4749 0) (w' := w4750) z (x_al (by kernel_rfl) ew4751 eb4752) ?_
 refine ws_next (pend' := []) hst (by kernel_rfl) pk_nil ?_
 refine ws_e1 9 (by kernel_rfl) ?_
 refine nxe [] (by kernel_rfl) z z ?_
 clear hst
 intro w hst
 obtain ⟨w4754, hr4755, hst⟩ := hst.by_ [Pt b4744 0] 0 (Pt b4744 0) sizeOf24 z (oC z oN) (by kernel_rfl)
 refine we_unit z (x_unit hr4755) ?_
 refine ws_next (pend' := []) hst (by kernel_rfl) pk_nil ?_
 refine ws_nil ?_
 intro w hst
 refine ⟨z, ?_⟩
 replace hst := hst.own_nil (tySl (tyInt .i64))
 replace hst := hst.own_nil (tySl (tyInt .i64))
 replace hst := hst.own_nil (tyInt .i64)
 replace hst := hst.pull5.pull2.pull3.pull6.pull7.pull7
 replace hst := at_label_Lattice_close (pv := Pt b4744 0) (x := ({ up := t4721, down := (List.replicate (Int.toNat ((a0).length : Int)) (0:Int)), join := [], meet := [], rank := (List.replicate (Int.toNat ((a0).length : Int)) (0:Int)), all := [] } : label_Lattice)) hst z
 replace hst := hst.pull1.keep2
 obtain rfl := some_inj hm
 exact ⟨({ up := t4721, down := (List.replicate (Int.toNat ((a0).length : Int)) (0:Int)), join := [], meet := [], rank := (List.replicate (Int.toNat ((a0).length : Int)) (0:Int)), all := [] } : label_Lattice), b4749, (Pt b4744 0), _, hx5405, (fu 0 r0_0 z (fu 4 (.int .i64 ((a0).length : Int)) z (fu 5 (Pt b4749 0) z z))), hst⟩
}
 {
 refine nxe [7, 9] (by kernel_rfl) z z ?_
 clear hst
 intro w hst
 obtain ⟨b4756, w4757, ew4758, eb4759, hst⟩ := hst.box [.pointer none] 24
 refine we_run (v := Pt b4756 0) (w' := w4757) z (x_al (by kernel_rfl) ew4758 eb4759) ?_
 refine ws_next (pend' := [(6, .agg #[v4728, v4730, Zs, Zs, v4734, Zs])]) hst (by kernel_rfl) (pkr rfl rfl (fun w hst => by obtain ⟨_, _, hv_, _⟩ := hst.sv1; rw [hv_]; obtain ⟨_, _, hv_, _⟩ := hst.sv2; rw [hv_]; obtain ⟨_, _, hv_, _⟩ := hst.sv3; rw [hv_]; kernel_rfl) pk_nil) ?_
 refine ws_e1 7 (by kernel_rfl) ?_
 refine nxe [9] (by kernel_rfl) z z ?_
 clear hst
 intro w hst
 obtain ⟨b4761, w4762, ew4763, eb4764, hst⟩ := hst.box [v4728, v4730, Zs, Zs, v4734, Zs] 49
 refine we_run (v := Pt b4761 0) (w' := w4762) z (x_al (by kernel_rfl) ew4763 eb4764) ?_
 refine ws_next (pend' := []) hst (by kernel_rfl) pk_nil ?_
 refine ws_e1 9 (by kernel_rfl) ?_
 refine nxe [] (by kernel_rfl) z z ?_
 clear hst
 intro w hst
 replace hst := hst.pull1
 obtain ⟨w4766, hr4767, hst⟩ := hst.by_ [Pt b4761 0] 0 (Pt b4761 0) sizeOf24 z (oC z oN) (by kernel_rfl)
 refine we_unit z (x_unit hr4767) ?_
 refine ws_next (pend' := []) hst (by kernel_rfl) pk_nil ?_
 refine ws_nil ?_
 intro w hst
 refine ⟨z, ?_⟩
 replace hst := hst.own_nil (tySl (tyInt .i64))
 replace hst := hst.own_nil (tySl (tyInt .i64))
 replace hst := hst.own_nil (tyInt .i64)
 replace hst := hst.pull5.pull2.pull3.pull6.pull7.pull7
 replace hst := at_label_Lattice_close (pv := Pt b4761 0) (x := ({ up := t4721, down := (List.replicate (Int.toNat ((a0).length : Int)) (0:Int)), join := [], meet := [], rank := (List.replicate (Int.toNat ((a0).length : Int)) (0:Int)), all := [] } : label_Lattice)) hst z
 replace hst := hst.pull1.keep2
 obtain rfl := some_inj hm
 exact ⟨({ up := t4721, down := (List.replicate (Int.toNat ((a0).length : Int)) (0:Int)), join := [], meet := [], rank := (List.replicate (Int.toNat ((a0).length : Int)) (0:Int)), all := [] } : label_Lattice), b4756, (Pt b4761 0), _, hx5405, (fu 0 r0_0 z (fu 4 (.int .i64 ((a0).length : Int)) z (fu 5 (Pt b4756 0) z z))), hst⟩
}
}
 {
 refine nxe [5, 6, 7, 9] (by kernel_rfl) z z ?_
 clear hst
 intro w hst
 obtain ⟨b4768, w4769, ew4770, eb4771, hst⟩ := hst.box [.pointer none] 24
 refine we_run (v := Pt b4768 0) (w' := w4769) z (x_al (by kernel_rfl) ew4770 eb4771) ?_
 refine ws_next (pend' := [(4, I6 ((a0).length : Int))]) hst (by kernel_rfl) (pkr z z (fun w hst => z) pk_nil) ?_
 refine ws_e1 5 (by kernel_rfl) ?_
 refine nxe [6, 7, 9] (by kernel_rfl) z z ?_
 clear hst
 intro w hst
 obtain ⟨v4773, w4774, hr4775, hst⟩ := run_mk (k := .i64) (k' := .i64) (zm := (0:Int)) elem_41 hst hg4724 (by decide) z
 refine we_run (v := v4773) (w' := w4774) z (x_make z z hr4775) ?_
 refine ws_next (pend' := []) hst (by kernel_rfl) pk_nil ?_
 refine wsr (.agg #[v4728, v4730, Zs, Zs, v4773, Zs]) 6 rfl rfl rfl (by kernel_rfl) (fun w hst => by obtain ⟨_, _, hv_, _⟩ := hst.sv0; rw [hv_]; obtain ⟨_, _, hv_, _⟩ := hst.sv2; rw [hv_]; obtain ⟨_, _, hv_, _⟩ := hst.sv3; rw [hv_]; kernel_rfl) ?_
 refine ws_e1 7 (by kernel_rfl) ?_
 refine nxe [9] (by kernel_rfl) z z ?_
 clear hst
 intro w hst
 obtain ⟨b4783, w4784, ew4785, eb4786, hst⟩ := hst.box [v4728, v4730, Zs, Zs, v4773, Zs] 49
 refine we_run (v := Pt b4783 0) (w' := w4784) z (x_al (by kernel_rfl) ew4785 eb4786) ?_
 refine ws_next (pend' := []) hst (by kernel_rfl) pk_nil ?_
 refine ws_e1 9 (by kernel_rfl) ?_
 refine nxe [] (by kernel_rfl) z z ?_
 clear hst
 intro w hst
 replace hst := hst.pull2
 obtain ⟨w4788, hr4789, hst⟩ := hst.by_ [Pt b4783 0] 0 (Pt b4783 0) sizeOf24 z (oC z oN) (by kernel_rfl)
 refine we_unit z (x_unit hr4789) ?_
 refine ws_next (pend' := []) hst (by kernel_rfl) pk_nil ?_
 refine ws_nil ?_
 intro w hst
 refine ⟨z, ?_⟩
 replace hst := hst.own_nil (tySl (tyInt .i64))
 replace hst := hst.own_nil (tySl (tyInt .i64))
 replace hst := hst.own_nil (tyInt .i64)
 replace hst := hst.pull5.pull2.pull3.pull6.pull7.pull7
 replace hst := at_label_Lattice_close (pv := Pt b4783 0) (x := ({ up := t4721, down := (List.replicate (Int.toNat ((a0).length : Int)) (0:Int)), join := [], meet := [], rank := (List.replicate (Int.toNat ((a0).length : Int)) (0:Int)), all := [] } : label_Lattice)) hst z
 replace hst := hst.pull1.keep2
 obtain rfl := some_inj hm
 exact ⟨({ up := t4721, down := (List.replicate (Int.toNat ((a0).length : Int)) (0:Int)), join := [], meet := [], rank := (List.replicate (Int.toNat ((a0).length : Int)) (0:Int)), all := [] } : label_Lattice), b4768, (Pt b4783 0), _, hx5405, (fu 0 r0_0 z (fu 4 (.int .i64 ((a0).length : Int)) z (fu 5 (Pt b4768 0) z z))), hst⟩
}
}
 {
 refine nxe [3, 6, 7, 8, 9] (by kernel_rfl) z z ?_
 clear hst
 intro w hst
 obtain ⟨v4790, w4791, hr4792, hst⟩ := run_mk (k := .i64) (k' := .i64) (zm := (0:Int)) elem_41 hst hg4724 (by decide) z
 refine we_run (v := v4790) (w' := w4791) z (x_make z z hr4792) ?_
 refine ws_next (pend' := [(2, I6 ((a0).length : Int))]) hst (by kernel_rfl) (pkr z z (fun w hst => z) pk_nil) ?_
 refine ws_e2 3 8 (by kernel_rfl) ?_ ?_
 {
 refine nxe [6, 7, 8, 9] (by kernel_rfl) z z ?_
 clear hst
 intro w hst
 obtain ⟨v4794, w4795, hr4796, hst⟩ := run_mk (k := .i64) (k' := .i64) (zm := (0:Int)) elem_28 hst hg4723 (by decide) z
 refine we_run (v := v4794) (w' := w4795) z (x_make z z hr4796) ?_
 refine ws_next (pend' := []) hst (by kernel_rfl) pk_nil ?_
 refine wsr (.agg #[v4728, v4794, Zs, Zs, v4790, Zs]) 6 rfl rfl rfl (by kernel_rfl) (fun w hst => by obtain ⟨_, _, hv_, _⟩ := hst.sv1; rw [hv_]; obtain ⟨_, _, hv_, _⟩ := hst.sv0; rw [hv_]; obtain ⟨_, _, hv_, _⟩ := hst.sv2; rw [hv_]; kernel_rfl) ?_
 refine ws_e2 7 8 (by kernel_rfl) ?_ ?_
 {
 refine nxe [8, 9] (by kernel_rfl) z z ?_
 clear hst
 intro w hst
 obtain ⟨b4804, w4805, ew4806, eb4807, hst⟩ := hst.box [v4728, v4794, Zs, Zs, v4790, Zs] 49
 refine we_run (v := Pt b4804 0) (w' := w4805) z (x_al (by kernel_rfl) ew4806 eb4807) ?_
 refine ws_next (pend' := []) hst (by kernel_rfl) pk_nil ?_
 refine ws_e1 8 (by kernel_rfl) ?_
 refine nxe [9] (by kernel_rfl) z z ?_
 clear hst
 intro w hst
 obtain ⟨b4809, w4810, ew4811, eb4812, hst⟩ := hst.box [.pointer none] 24
 refine we_run (v := Pt b4809 0) (w' := w4810) z (x_al (by kernel_rfl) ew4811 eb4812) ?_
 refine ws_next (pend' := []) hst (by kernel_rfl) pk_nil ?_
 refine ws_e1 9 (by kernel_rfl) ?_
 refine nxe [] (by kernel_rfl) z z ?_
 clear hst
 intro w hst
 obtain ⟨w4814, hr4815, hst⟩ := hst.by_ [Pt b4804 0] 0 (Pt b4804 0) sizeOf24 z (oC z oN) (by kernel_rfl)
 refine we_unit z (x_unit hr4815) ?_
 refine ws_next (pend' := []) hst (by kernel_rfl) pk_nil ?_
 refine ws_nil ?_
 intro w hst
 refine ⟨z, ?_⟩
 replace hst := hst.own_nil (tySl (tyInt .i64))
 replace hst := hst.own_nil (tySl (tyInt .i64))
 replace hst := hst.own_nil (tyInt .i64)
 replace hst := hst.pull6.pull2.pull3.pull6.pull7.pull7
 replace hst := at_label_Lattice_close (pv := Pt b4804 0) (x := ({ up := t4721, down := (List.replicate (Int.toNat ((a0).length : Int)) (0:Int)), join := [], meet := [], rank := (List.replicate (Int.toNat ((a0).length : Int)) (0:Int)), all := [] } : label_Lattice)) hst z
 replace hst := hst.pull1.keep2
 obtain rfl := some_inj hm
 exact ⟨({ up := t4721, down := (List.replicate (Int.toNat ((a0).length : Int)) (0:Int)), join := [], meet := [], rank := (List.replicate (Int.toNat ((a0).length : Int)) (0:Int)), all := [] } : label_Lattice), b4809, (Pt b4804 0), _, hx5405, (fu 0 r0_0 z (fu 4 (.int .i64 ((a0).length : Int)) z (fu 5 (Pt b4809 0) z z))), hst⟩
}
 {
 refine nxe [7, 9] (by kernel_rfl) z z ?_
 clear hst
 intro w hst
 obtain ⟨b4816, w4817, ew4818, eb4819, hst⟩ := hst.box [.pointer none] 24
 refine we_run (v := Pt b4816 0) (w' := w4817) z (x_al (by kernel_rfl) ew4818 eb4819) ?_
 refine ws_next (pend' := [(6, .agg #[v4728, v4794, Zs, Zs, v4790, Zs])]) hst (by kernel_rfl) (pkr rfl rfl (fun w hst => by obtain ⟨_, _, hv_, _⟩ := hst.sv2; rw [hv_]; obtain ⟨_, _, hv_, _⟩ := hst.sv1; rw [hv_]; obtain ⟨_, _, hv_, _⟩ := hst.sv3; rw [hv_]; kernel_rfl) pk_nil) ?_
 refine ws_e1 7 (by kernel_rfl) ?_
 refine nxe [9] (by kernel_rfl) z z ?_
 clear hst
 intro w hst
 obtain ⟨b4821, w4822, ew4823, eb4824, hst⟩ := hst.box [v4728, v4794, Zs, Zs, v4790, Zs] 49
 refine we_run (v := Pt b4821 0) (w' := w4822) z (x_al (by kernel_rfl) ew4823 eb4824) ?_
 refine ws_next (pend' := []) hst (by kernel_rfl) pk_nil ?_
 refine ws_e1 9 (by kernel_rfl) ?_
 refine nxe [] (by kernel_rfl) z z ?_
 clear hst
 intro w hst
 replace hst := hst.pull1
 obtain ⟨w4826, hr4827, hst⟩ := hst.by_ [Pt b4821 0] 0 (Pt b4821 0) sizeOf24 z (oC z oN) (by kernel_rfl)
 refine we_unit z (x_unit hr4827) ?_
 refine ws_next (pend' := []) hst (by kernel_rfl) pk_nil ?_
 refine ws_nil ?_
 intro w hst
 refine ⟨z, ?_⟩
 replace hst := hst.own_nil (tySl (tyInt .i64))
 replace hst := hst.own_nil (tySl (tyInt .i64))
 replace hst := hst.own_nil (tyInt .i64)
 replace hst := hst.pull6.pull2.pull3.pull6.pull7.pull7
 replace hst := at_label_Lattice_close (pv := Pt b4821 0) (x := ({ up := t4721, down := (List.replicate (Int.toNat ((a0).length : Int)) (0:Int)), join := [], meet := [], rank := (List.replicate (Int.toNat ((a0).length : Int)) (0:Int)), all := [] } : label_Lattice)) hst z
 replace hst := hst.pull1.keep2
 obtain rfl := some_inj hm
 exact ⟨({ up := t4721, down := (List.replicate (Int.toNat ((a0).length : Int)) (0:Int)), join := [], meet := [], rank := (List.replicate (Int.toNat ((a0).length : Int)) (0:Int)), all := [] } : label_Lattice), b4816, (Pt b4821 0), _, hx5405, (fu 0 r0_0 z (fu 4 (.int .i64 ((a0).length : Int)) z (fu 5 (Pt b4816 0) z z))), hst⟩
}
}
 {
 refine nxe [3, 6, 7, 9] (by kernel_rfl) z z ?_
 clear hst
 intro w hst
 obtain ⟨b4828, w4829, ew4830, eb4831, hst⟩ := hst.box [.pointer none] 24
 refine we_run (v := Pt b4828 0) (w' := w4829) z (x_al (by kernel_rfl) ew4830 eb4831) ?_
 refine ws_next (pend' := [(2, I6 ((a0).length : Int))]) hst (by kernel_rfl) (pkr z z (fun w hst => z) pk_nil) ?_
 refine ws_e1 3 (by kernel_rfl) ?_
 refine nxe [6, 7, 9] (by kernel_rfl) z z ?_
 clear hst
 intro w hst
 obtain ⟨v4833, w4834, hr4835, hst⟩ := run_mk (k := .i64) (k' := .i64) (zm := (0:Int)) elem_28 hst hg4723 (by decide) z
 refine we_run (v := v4833) (w' := w4834) z (x_make z z hr4835) ?_
 refine ws_next (pend' := []) hst (by kernel_rfl) pk_nil ?_
 refine wsr (.agg #[v4728, v4833, Zs, Zs, v4790, Zs]) 6 rfl rfl rfl (by kernel_rfl) (fun w hst => by obtain ⟨_, _, hv_, _⟩ := hst.sv2; rw [hv_]; obtain ⟨_, _, hv_, _⟩ := hst.sv0; rw [hv_]; obtain ⟨_, _, hv_, _⟩ := hst.sv3; rw [hv_]; kernel_rfl) ?_
 refine ws_e1 7 (by kernel_rfl) ?_
 refine nxe [9] (by kernel_rfl) z z ?_
 clear hst
 intro w hst
 obtain ⟨b4843, w4844, ew4845, eb4846, hst⟩ := hst.box [v4728, v4833, Zs, Zs, v4790, Zs] 49
 refine we_run (v := Pt b4843 0) (w' := w4844) z (x_al (by kernel_rfl) ew4845 eb4846) ?_
 refine ws_next (pend' := []) hst (by kernel_rfl) pk_nil ?_
 refine ws_e1 9 (by kernel_rfl) ?_
 refine nxe [] (by kernel_rfl) z z ?_
 clear hst
 intro w hst
 replace hst := hst.pull2
 obtain ⟨w4848, hr4849, hst⟩ := hst.by_ [Pt b4843 0] 0 (Pt b4843 0) sizeOf24 z (oC z oN) (by kernel_rfl)
 refine we_unit z (x_unit hr4849) ?_
 refine ws_next (pend' := []) hst (by kernel_rfl) pk_nil ?_
 refine ws_nil ?_
 intro w hst
 refine ⟨z, ?_⟩
 replace hst := hst.own_nil (tySl (tyInt .i64))
 replace hst := hst.own_nil (tySl (tyInt .i64))
 replace hst := hst.own_nil (tyInt .i64)
 replace hst := hst.pull6.pull2.pull3.pull6.pull7.pull7
 replace hst := at_label_Lattice_close (pv := Pt b4843 0) (x := ({ up := t4721, down := (List.replicate (Int.toNat ((a0).length : Int)) (0:Int)), join := [], meet := [], rank := (List.replicate (Int.toNat ((a0).length : Int)) (0:Int)), all := [] } : label_Lattice)) hst z
 replace hst := hst.pull1.keep2
 obtain rfl := some_inj hm
 exact ⟨({ up := t4721, down := (List.replicate (Int.toNat ((a0).length : Int)) (0:Int)), join := [], meet := [], rank := (List.replicate (Int.toNat ((a0).length : Int)) (0:Int)), all := [] } : label_Lattice), b4828, (Pt b4843 0), _, hx5405, (fu 0 r0_0 z (fu 4 (.int .i64 ((a0).length : Int)) z (fu 5 (Pt b4828 0) z z))), hst⟩
}
}
 {
 refine nxe [3, 5, 6, 7, 9] (by kernel_rfl) z z ?_
 clear hst
 intro w hst
 obtain ⟨b4850, w4851, ew4852, eb4853, hst⟩ := hst.box [.pointer none] 24
 refine we_run (v := Pt b4850 0) (w' := w4851) z (x_al (by kernel_rfl) ew4852 eb4853) ?_
 refine ws_next (pend' := [(4, I6 ((a0).length : Int)), (2, I6 ((a0).length : Int))]) hst (by kernel_rfl) (pkr z z (fun w hst => z) (pkr z z (fun w hst => z) pk_nil)) ?_
 refine ws_e2 3 5 (by kernel_rfl) ?_ ?_
 {
 refine nxe [5, 6, 7, 9] (by kernel_rfl) z z ?_
 clear hst
 intro w hst
 obtain ⟨v4855, w4856, hr4857, hst⟩ := run_mk (k := .i64) (k' := .i64) (zm := (0:Int)) elem_28 hst hg4723 (by decide) z
 refine we_run (v := v4855) (w' := w4856) z (x_make z z hr4857) ?_
 refine ws_next (pend' := [(4, I6 ((a0).length : Int))]) hst (by kernel_rfl) (pkr z z (fun w hst => z) pk_nil) ?_
 refine ws_e1 5 (by kernel_rfl) ?_
 refine nxe [6, 7, 9] (by kernel_rfl) z z ?_
 clear hst
 intro w hst
 obtain ⟨v4859, w4860, hr4861, hst⟩ := run_mk (k := .i64) (k' := .i64) (zm := (0:Int)) elem_41 hst hg4724 (by decide) z
 refine we_run (v := v4859) (w' := w4860) z (x_make z z hr4861) ?_
 refine ws_next (pend' := []) hst (by kernel_rfl) pk_nil ?_
 refine wsr (.agg #[v4728, v4855, Zs, Zs, v4859, Zs]) 6 rfl rfl rfl (by kernel_rfl) (fun w hst => by obtain ⟨_, _, hv_, _⟩ := hst.sv0; rw [hv_]; obtain ⟨_, _, hv_, _⟩ := hst.sv1; rw [hv_]; obtain ⟨_, _, hv_, _⟩ := hst.sv3; rw [hv_]; kernel_rfl) ?_
 refine ws_e1 7 (by kernel_rfl) ?_
 refine nxe [9] (by kernel_rfl) z z ?_
 clear hst
 intro w hst
 obtain ⟨b4869, w4870, ew4871, eb4872, hst⟩ := hst.box [v4728, v4855, Zs, Zs, v4859, Zs] 49
 refine we_run (v := Pt b4869 0) (w' := w4870) z (x_al (by kernel_rfl) ew4871 eb4872) ?_
 refine ws_next (pend' := []) hst (by kernel_rfl) pk_nil ?_
 refine ws_e1 9 (by kernel_rfl) ?_
 refine nxe [] (by kernel_rfl) z z ?_
 clear hst
 intro w hst
 replace hst := hst.pull3
 obtain ⟨w4874, hr4875, hst⟩ := hst.by_ [Pt b4869 0] 0 (Pt b4869 0) sizeOf24 z (oC z oN) (by kernel_rfl)
 refine we_unit z (x_unit hr4875) ?_
 refine ws_next (pend' := []) hst (by kernel_rfl) pk_nil ?_
 refine ws_nil ?_
 intro w hst
 refine ⟨z, ?_⟩
 replace hst := hst.own_nil (tySl (tyInt .i64))
 replace hst := hst.own_nil (tySl (tyInt .i64))
 replace hst := hst.own_nil (tyInt .i64)
 replace hst := hst.pull5.pull2.pull3.pull6.pull7.pull7
 replace hst := at_label_Lattice_close (pv := Pt b4869 0) (x := ({ up := t4721, down := (List.replicate (Int.toNat ((a0).length : Int)) (0:Int)), join := [], meet := [], rank := (List.replicate (Int.toNat ((a0).length : Int)) (0:Int)), all := [] } : label_Lattice)) hst z
 replace hst := hst.pull1.keep2
 obtain rfl := some_inj hm
 exact ⟨({ up := t4721, down := (List.replicate (Int.toNat ((a0).length : Int)) (0:Int)), join := [], meet := [], rank := (List.replicate (Int.toNat ((a0).length : Int)) (0:Int)), all := [] } : label_Lattice), b4850, (Pt b4869 0), _, hx5405, (fu 0 r0_0 z (fu 4 (.int .i64 ((a0).length : Int)) z (fu 5 (Pt b4850 0) z z))), hst⟩
}
 {
 refine nxe [3, 6, 7, 9] (by kernel_rfl) z z ?_
 clear hst
 intro w hst
 obtain ⟨v4876, w4877, hr4878, hst⟩ := run_mk (k := .i64) (k' := .i64) (zm := (0:Int)) elem_41 hst hg4724 (by decide) z
 refine we_run (v := v4876) (w' := w4877) z (x_make z z hr4878) ?_
 refine ws_next (pend' := [(2, I6 ((a0).length : Int))]) hst (by kernel_rfl) (pkr z z (fun w hst => z) pk_nil) ?_
 refine ws_e1 3 (by kernel_rfl) ?_
 refine nxe [6, 7, 9] (by kernel_rfl) z z ?_
 clear hst
 intro w hst
 obtain ⟨v4880, w4881, hr4882, hst⟩ := run_mk (k := .i64) (k' := .i64) (zm := (0:Int)) elem_28 hst hg4723 (by decide) z
 refine we_run (v := v4880) (w' := w4881) z (x_make z z hr4882) ?_
 refine ws_next (pend' := []) hst (by kernel_rfl) pk_nil ?_
 refine wsr (.agg #[v4728, v4880, Zs, Zs, v4876, Zs]) 6 rfl rfl rfl (by kernel_rfl) (fun w hst => by obtain ⟨_, _, hv_, _⟩ := hst.sv1; rw [hv_]; obtain ⟨_, _, hv_, _⟩ := hst.sv0; rw [hv_]; obtain ⟨_, _, hv_, _⟩ := hst.sv3; rw [hv_]; kernel_rfl) ?_
 refine ws_e1 7 (by kernel_rfl) ?_
 refine nxe [9] (by kernel_rfl) z z ?_
 clear hst
 intro w hst
 obtain ⟨b4890, w4891, ew4892, eb4893, hst⟩ := hst.box [v4728, v4880, Zs, Zs, v4876, Zs] 49
 refine we_run (v := Pt b4890 0) (w' := w4891) z (x_al (by kernel_rfl) ew4892 eb4893) ?_
 refine ws_next (pend' := []) hst (by kernel_rfl) pk_nil ?_
 refine ws_e1 9 (by kernel_rfl) ?_
 refine nxe [] (by kernel_rfl) z z ?_
 clear hst
 intro w hst
 replace hst := hst.pull3
 obtain ⟨w4895, hr4896, hst⟩ := hst.by_ [Pt b4890 0] 0 (Pt b4890 0) sizeOf24 z (oC z oN) (by kernel_rfl)
 refine we_unit z (x_unit hr4896) ?_
 refine ws_next (pend' := []) hst (by kernel_rfl) pk_nil ?_
 refine ws_nil ?_
 intro w hst
 refine ⟨z, ?_⟩
 replace hst := hst.own_nil (tySl (tyInt .i64))
 replace hst := hst.own_nil (tySl (tyInt .i64))
 replace hst := hst.own_nil (tyInt .i64)
 replace hst := hst.pull6.pull2.pull3.pull6.pull7.pull7
 replace hst := at_label_Lattice_close (pv := Pt b4890 0) (x := ({ up := t4721, down := (List.replicate (Int.toNat ((a0).length : Int)) (0:Int)), join := [], meet := [], rank := (List.replicate (Int.toNat ((a0).length : Int)) (0:Int)), all := [] } : label_Lattice)) hst z
 replace hst := hst.pull1.keep2
 obtain rfl := some_inj hm
 exact ⟨({ up := t4721, down := (List.replicate (Int.toNat ((a0).length : Int)) (0:Int)), join := [], meet := [], rank := (List.replicate (Int.toNat ((a0).length : Int)) (0:Int)), all := [] } : label_Lattice), b4850, (Pt b4890 0), _, hx5405, (fu 0 r0_0 z (fu 4 (.int .i64 ((a0).length : Int)) z (fu 5 (Pt b4850 0) z z))), hst⟩
}
}
}
 {
 refine nxe [1, 5, 6, 7, 8, 9] (by kernel_rfl) z z ?_
 clear hst
 intro w hst
 obtain ⟨v4897, w4898, hr4899, hst⟩ := run_mk (k := .i64) (k' := .i64) (zm := (0:Int)) elem_28 hst hg4723 (by decide) z
 refine we_run (v := v4897) (w' := w4898) z (x_make z z hr4899) ?_
 refine ws_next (pend' := [(4, I6 ((a0).length : Int)), (0, r0_0)]) hst (by kernel_rfl) (pkr z z (fun w hst => z) (pkr z z (fun w hst => z) pk_nil)) ?_
 refine ws_e3 1 5 8 (by kernel_rfl) ?_ ?_ ?_
 {
 refine nxe [5, 6, 7, 8, 9] (by kernel_rfl) z z ?_
 clear hst
 intro w hst
 refine wec call25 [r0_0] z z ?_
 refine (slices_Clone_uint64_uint64_ref (f0_0.mono (rd_weak _)) hst.to0 ht4722).mono ?_
 rintro _ w4901 ⟨v4904, rfl, hst⟩
 refine ⟨_, z, ?_⟩
 replace hst := hst.of1
 refine ws_next (pend' := [(4, I6 ((a0).length : Int))]) hst (by kernel_rfl) (pkr z z (fun w hst => z) pk_nil) ?_
 refine ws_e2 5 8 (by kernel_rfl) ?_ ?_
 {
 refine nxe [6, 7, 8, 9] (by kernel_rfl) z z ?_
 clear hst
 intro w hst
 obtain ⟨v4906, w4907, hr4908, hst⟩ := run_mk (k := .i64) (k' := .i64) (zm := (0:Int)) elem_41 hst hg4724 (by decide) z
 refine we_run (v := v4906) (w' := w4907) z (x_make z z hr4908) ?_
 refine ws_next (pend' := []) hst (by kernel_rfl) pk_nil ?_
 refine wsr (.agg #[v4904, v4897, Zs, Zs, v4906, Zs]) 6 rfl rfl rfl (by kernel_rfl) (fun w hst => by obtain ⟨_, _, hv_, _⟩ := hst.sv0; rw [hv_]; obtain ⟨_, _, hv_, _⟩ := hst.sv2; rw [hv_]; obtain ⟨_, _, hv_, _⟩ := hst.sv1; rw [hv_]; kernel_rfl) ?_
 refine ws_e2 7 8 (by kernel_rfl) ?_ ?_
 {
 refine nxe [8, 9] (by kernel_rfl) z z ?_
 clear hst
 intro w hst
 obtain ⟨b4916, w4917, ew4918, eb4919, hst⟩ := hst.box [v4904, v4897, Zs, Zs, v4906, Zs] 49
 refine we_run (v := Pt b4916 0) (w' := w4917) z (x_al (by kernel_rfl) ew4918 eb4919) ?_
 refine ws_next (pend' := []) hst (by kernel_rfl) pk_nil ?_
 refine ws_e1 8 (by kernel_rfl) ?_
 refine nxe [9] (by kernel_rfl) z z ?_
 clear hst
 intro w hst
 obtain ⟨b4921, w4922, ew4923, eb4924, hst⟩ := hst.box [.pointer none] 24
 refine we_run (v := Pt b4921 0) (w' := w4922) z (x_al (by kernel_rfl) ew4923 eb4924) ?_
 refine ws_next (pend' := []) hst (by kernel_rfl) pk_nil ?_
 refine ws_e1 9 (by kernel_rfl) ?_
 refine nxe [] (by kernel_rfl) z z ?_
 clear hst
 intro w hst
 obtain ⟨w4926, hr4927, hst⟩ := hst.by_ [Pt b4916 0] 0 (Pt b4916 0) sizeOf24 z (oC z oN) (by kernel_rfl)
 refine we_unit z (x_unit hr4927) ?_
 refine ws_next (pend' := []) hst (by kernel_rfl) pk_nil ?_
 refine ws_nil ?_
 intro w hst
 refine ⟨z, ?_⟩
 replace hst := hst.own_nil (tySl (tyInt .i64))
 replace hst := hst.own_nil (tySl (tyInt .i64))
 replace hst := hst.own_nil (tyInt .i64)
 replace hst := hst.pull5.pull2.pull3.pull7.pull7.pull7
 replace hst := at_label_Lattice_close (pv := Pt b4916 0) (x := ({ up := t4721, down := (List.replicate (Int.toNat ((a0).length : Int)) (0:Int)), join := [], meet := [], rank := (List.replicate (Int.toNat ((a0).length : Int)) (0:Int)), all := [] } : label_Lattice)) hst z
 replace hst := hst.pull1.keep2
 obtain rfl := some_inj hm
 exact ⟨({ up := t4721, down := (List.replicate (Int.toNat ((a0).length : Int)) (0:Int)), join := [], meet := [], rank := (List.replicate (Int.toNat ((a0).length : Int)) (0:Int)), all := [] } : label_Lattice), b4921, (Pt b4916 0), _, hx5405, (fu 0 r0_0 z (fu 4 (.int .i64 ((a0).length : Int)) z (fu 5 (Pt b4921 0) z z))), hst⟩
}
 {
 refine nxe [7, 9] (by kernel_rfl) z z ?_
 clear hst
 intro w hst
 obtain ⟨b4928, w4929, ew4930, eb4931, hst⟩ := hst.box [.pointer none] 24
 refine we_run (v := Pt b4928 0) (w' := w4929) z (x_al (by kernel_rfl) ew4930 eb4931) ?_
 refine ws_next (pend' := [(6, .agg #[v4904, v4897, Zs, Zs, v4906, Zs])]) hst (by kernel_rfl) (pkr rfl rfl (fun w hst => by obtain ⟨_, _, hv_, _⟩ := hst.sv1; rw [hv_]; obtain ⟨_, _, hv_, _⟩ := hst.sv3; rw [hv_]; obtain ⟨_, _, hv_, _⟩ := hst.sv2; rw [hv_]; kernel_rfl) pk_nil) ?_
 refine ws_e1 7 (by kernel_rfl) ?_
 refine nxe [9] (by kernel_rfl) z z ?_
 clear hst
 intro w hst
 obtain ⟨b4933, w4934, ew4935, eb4936, hst⟩ := hst.box [v4904, v4897, Zs, Zs, v4906, Zs] 49
 refine we_run (v := Pt b4933 0) (w' := w4934) z (x_al (by kernel_rfl) ew4935 eb4936) ?_
 refine ws_next (pend' := []) hst (by kernel_rfl) pk_nil ?_
 refine ws_e1 9 (by kernel_rfl) ?_
 refine nxe [] (by kernel_rfl) z z ?_
 clear hst
 intro w hst
 replace hst := hst.pull1
 obtain ⟨w4938, hr4939, hst⟩ := hst.by_ [Pt b4933 0] 0 (Pt b4933 0) sizeOf24 z (oC z oN) (by kernel_rfl)
 refine we_unit z (x_unit hr4939) ?_
 refine ws_next (pend' := []) hst (by kernel_rfl) pk_nil ?_
 refine ws_nil ?_
 intro w hst
 refine ⟨z, ?_⟩
 replace hst := hst.own_nil (tySl (tyInt .i64))
 replace hst := hst.own_nil (tySl (tyInt .i64))
 replace hst := hst.own_nil (tyInt .i64)
 replace hst := hst.pull5.pull2.pull3.pull7.pull7.pull7
 replace hst := at_label_Lattice_close (pv := Pt b4933 0) (x := ({ up := t4721, down := (List.replicate (Int.toNat ((a0).length : Int)) (0:Int)), join := [], meet := [], rank := (List.replicate (Int.toNat ((a0).length : Int)) (0:Int)), all := [] } : label_Lattice)) hst z
 replace hst := hst.pull1.keep2
 obtain rfl := some_inj hm
 exact ⟨({ up := t4721, down := (List.replicate (Int.toNat ((a0).length : Int)) (0:Int)), join := [], meet := [], rank := (List.replicate (Int.toNat ((a0).length : Int)) (0:Int)), all := [] } : label_Lattice), b4928, (Pt b4933 0), _, hx5405, (fu 0 r0_0 z (fu 4 (.int .i64 ((a0).length : Int)) z (fu 5 (Pt b4928 0) z z))), hst⟩
}
}
 {
 refine nxe [5, 6, 7, 9] (by kernel_rfl) z z ?_
 clear hst
 intro w hst
 obtain ⟨b4940, w4941, ew4942, eb4943, hst⟩ := hst.box [.pointer none] 24
 refine we_run (v := Pt b4940 0) (w' := w4941) z (x_al (by kernel_rfl) ew4942 eb4943) ?_
 refine ws_next (pend' := [(4, I6 ((a0).length : Int))]) hst (by kernel_rfl) (pkr z z (fun w hst => z) pk_nil) ?_
 refine ws_e1 5 (by kernel_rfl) ?_
 refine nxe [6, 7, 9] (by kernel_rfl) z z ?_
 clear hst
 intro w hst
 obtain ⟨v4945, w4946, hr4947, hst⟩ := run_mk (k := .i64) (k' := .i64) (zm := (0:Int)) elem_41 hst hg4724 (by decide) z
 refine we_run (v := v4945) (w' := w4946) z (x_make z z hr4947) ?_
 refine ws_next (pend' := []) hst (by kernel_rfl) pk_nil ?_
 refine wsr (.agg #[v4904, v4897, Zs, Zs, v4945, Zs]) 6 rfl rfl rfl (by kernel_rfl) (fun w hst => by obtain ⟨_, _, hv_, _⟩ := hst.sv0; rw [hv_]; obtain ⟨_, _, hv_, _⟩ := hst.sv3; rw [hv_]; obtain ⟨_, _, hv_, _⟩ := hst.sv2; rw [hv_]; kernel_rfl) ?_
 refine ws_e1 7 (by kernel_rfl) ?_
 refine nxe [9] (by kernel_rfl) z z ?_
 clear hst
 intro w hst
 obtain ⟨b4955, w4956, ew4957, eb4958, hst⟩ := hst.box [v4904, v4897, Zs, Zs, v4945, Zs] 49
 refine we_run (v := Pt b4955 0) (w' := w4956) z (x_al (by kernel_rfl) ew4957 eb4958) ?_
 refine ws_next (pend' := []) hst (by kernel_rfl) pk_nil ?_
 refine ws_e1 9 (by kernel_rfl) ?_
 refine nxe [] (by kernel_rfl) z z ?_
 clear hst
 intro w hst
 replace hst := hst.pull2
 obtain ⟨w4960, hr4961, hst⟩ := hst.by_ [Pt b4955 0] 0 (Pt b4955 0) sizeOf24 z (oC z oN) (by kernel_rfl)
 refine we_unit z (x_unit hr4961) ?_
 refine ws_next (pend' := []) hst (by kernel_rfl) pk_nil ?_
 refine ws_nil ?_
 intro w hst
 refine ⟨z, ?_⟩
 replace hst := hst.own_nil (tySl (tyInt .i64))
 replace hst := hst.own_nil (tySl (tyInt .i64))
 replace hst := hst.own_nil (tyInt .i64)
 replace hst := hst.pull5.pull2.pull3.pull7.pull7.pull7
 replace hst := at_label_Lattice_close (pv := Pt b4955 0) (x := ({ up := t4721, down := (List.replicate (Int.toNat ((a0).length : Int)) (0:Int)), join := [], meet := [], rank := (List.replicate (Int.toNat ((a0).length : Int)) (0:Int)), all := [] } : label_Lattice)) hst z
 replace hst := hst.pull1.keep2
 obtain rfl := some_inj hm
 exact ⟨({ up := t4721, down := (List.replicate (Int.toNat ((a0).length : Int)) (0:Int)), join := [], meet := [], rank := (List.replicate (Int.toNat ((a0).length : Int)) (0:Int)), all := [] } : label_Lattice), b4940, (Pt b4955 0), _, hx5405, (fu 0 r0_0 z (fu 4 (.int .i64 ((a0).length : Int)) z (fu 5 (Pt b4940 0) z z))), hst⟩
}
}
 {
 refine nxe [1, 6, 7, 8, 9] (by kernel_rfl) z z ?_
 clear hst
 intro w hst
 obtain ⟨v4962, w4963, hr4964, hst⟩ := run_mk (k := .i64) (k' := .i64) (zm := (0:Int)) elem_41 hst hg4724 (by decide) z
 refine we_run (v := v4962) (w' := w4963) z (x_make z z hr4964) ?_
 refine ws_next (pend' := [(0, r0_0)]) hst (by kernel_rfl) (pkr z z (fun w hst => z) pk_nil) ?_
 refine ws_e2 1 8 (by kernel_rfl) ?_ ?_
 {
 refine nxe [6, 7, 8, 9] (by kernel_rfl) z z ?_
 clear hst
 intro w hst
 refine wec call25 [r0_0] z z ?_
 refine (slices_Clone_uint64_uint64_ref (f0_0.mono (rd_weak _)) hst.to0 ht4722).mono ?_
 rintro _ w4966 ⟨v4969, rfl, hst⟩
 refine ⟨_, z, ?_⟩
 replace hst := hst.of1
 refine ws_next (pend' := []) hst (by kernel_rfl) pk_nil ?_
 refine wsr (.agg #[v4969, v4897, Zs, Zs, v4962, Zs]) 6 rfl rfl rfl (by kernel_rfl) (fun w hst => by obtain ⟨_, _, hv_, _⟩ := hst.sv1; rw [hv_]; obtain ⟨_, _, hv_, _⟩ := hst.sv2; rw [hv_]; obtain ⟨_, _, hv_, _⟩ := hst.sv0; rw [hv_]; kernel_rfl) ?_
 refine ws_e2 7 8 (by kernel_rfl) ?_ ?_
 {
 refine nxe [8, 9] (by kernel_rfl) z z ?_
 clear hst
 intro w hst
 obtain ⟨b4977, w4978, ew4979, eb4980, hst⟩ := hst.box [v4969, v4897, Zs, Zs, v4962, Zs] 49
 refine we_run (v := Pt b4977 0) (w' := w4978) z (x_al (by kernel_rfl) ew4979 eb4980) ?_
 refine ws_next (pend' := []) hst (by kernel_rfl) pk_nil ?_
 refine ws_e1 8 (by kernel_rfl) ?_
 refine nxe [9] (by kernel_rfl) z z ?_
 clear hst
 intro w hst
 obtain ⟨b4982, w4983, ew4984, eb4985, hst⟩ := hst.box [.pointer none] 24
 refine we_run (v := Pt b4982 0) (w' := w4983) z (x_al (by kernel_rfl) ew4984 eb4985) ?_
 refine ws_next (pend' := []) hst (by kernel_rfl) pk_nil ?_
 refine ws_e1 9 (by kernel_rfl) ?_
 refine nxe [] (by kernel_rfl) z z ?_
 clear hst
 intro w hst
 obtain ⟨w4987, hr4988, hst⟩ := hst.by_ [Pt b4977 0] 0 (Pt b4977 0) sizeOf24 z (oC z oN) (by kernel_rfl)
 refine we_unit z (x_unit hr4988) ?_
 refine ws_next (pend' := []) hst (by kernel_rfl) pk_nil ?_
 refine ws_nil ?_
 intro w hst
 refine ⟨z, ?_⟩
 replace hst := hst.own_nil (tySl (tyInt .i64))
 replace hst := hst.own_nil (tySl (tyInt .i64))
 replace hst := hst.own_nil (tyInt .i64)
 replace hst := hst.pull6.pull2.pull3.pull7.pull7.pull7
 replace hst := at_label_Lattice_close (pv := Pt b4977 0) (x := ({ up := t4721, down := (List.replicate (Int.toNat ((a0).length : Int)) (0:Int)), join := [], meet := [], rank := (List.replicate (Int.toNat ((a0).length : Int)) (0:Int)), all := [] } : label_Lattice)) hst z
 replace hst := hst.pull1.keep2
 obtain rfl := some_inj hm
 exact ⟨({ up := t4721, down := (List.replicate (Int.toNat ((a0).length : Int)) (0:Int)), join := [], meet := [], rank := (List.replicate (Int.toNat ((a0).length : Int)) (0:Int)), all := [] } : label_Lattice), b4982, (Pt b4977 0), _, hx5405, (fu 0 r0_0 z (fu 4 (.int .i64 ((a0).length : Int)) z (fu 5 (Pt b4982 0) z z))), hst⟩
}
 {
 refine nxe [7, 9] (by kernel_rfl) z z ?_
 clear hst
 intro w hst
 obtain ⟨b4989, w4990, ew4991, eb4992, hst⟩ := hst.box [.pointer none] 24
 refine we_run (v := Pt b4989 0) (w' := w4990) z (x_al (by kernel_rfl) ew4991 eb4992) ?_
 refine ws_next (pend' := [(6, .agg #[v4969, v4897, Zs, Zs, v4962, Zs])]) hst (by kernel_rfl) (pkr rfl rfl (fun w hst => by obtain ⟨_, _, hv_, _⟩ := hst.sv2; rw [hv_]; obtain ⟨_, _, hv_, _⟩ := hst.sv3; rw [hv_]; obtain ⟨_, _, hv_, _⟩ := hst.sv1; rw [hv_]; kernel_rfl) pk_nil) ?_
 refine ws_e1 7 (by kernel_rfl) ?_
 refine nxe [9] (by kernel_rfl) z z ?_
 clear hst
 intro w hst
 obtain ⟨b4994, w4995, ew4996, eb4997, hst⟩ := hst.box [v4969, v4897, Zs, Zs, v4962, Zs] 49
 refine we_run (v := Pt b4994 0) (w' := w4995) z (x_al (by kernel_rfl) ew4996 eb4997) ?_
 refine ws_next (pend' := []) hst (by kernel_rfl) pk_nil ?_
 refine ws_e1 9 (by kernel_rfl) ?_
 refine nxe [] (by kernel_rfl) z z ?_
 clear hst
 intro w hst
 replace hst := hst.pull1
 obtain ⟨w4999, hr5000, hst⟩ := hst.by_ [Pt b4994 0] 0 (Pt b4994 0) sizeOf24 z (oC z oN) (by kernel_rfl)
 refine we_unit z (x_unit hr5000) ?_
 refine ws_next (pend' := []) hst (by kernel_rfl) pk_nil ?_
 refine ws_nil ?_
 intro w hst
 refine ⟨z, ?_⟩
 replace hst := hst.own_nil (tySl (tyInt .i64))
 replace hst := hst.own_nil (tySl (tyInt .i64))
 replace hst := hst.own_nil (tyInt .i64)
 replace hst := hst.pull6.pull2.pull3.pull7.pull7.pull7
 replace hst := at_label_Lattice_close (pv := Pt b4994 0) (x := ({ up := t4721, down := (List.replicate (Int.toNat ((a0).length : Int)) (0:Int)), join := [], meet := [], rank := (List.replicate (Int.toNat ((a0).length : Int)) (0:Int)), all := [] } : label_Lattice)) hst z
 replace hst := hst.pull1.keep2
 obtain rfl := some_inj hm
 exact ⟨({ up := t4721, down := (List.replicate (Int.toNat ((a0).length : Int)) (0:Int)), join := [], meet := [], rank := (List.replicate (Int.toNat ((a0).length : Int)) (0:Int)), all := [] } : label_Lattice), b4989, (Pt b4994 0), _, hx5405, (fu 0 r0_0 z (fu 4 (.int .i64 ((a0).length : Int)) z (fu 5 (Pt b4989 0) z z))), hst⟩
}
}
 {
 refine nxe [1, 6, 7, 9] (by kernel_rfl) z z ?_
 clear hst
 intro w hst
 obtain ⟨b5001, w5002, ew5003, eb5004, hst⟩ := hst.box [.pointer none] 24
 refine we_run (v := Pt b5001 0) (w' := w5002) z (x_al (by kernel_rfl) ew5003 eb5004) ?_
 refine ws_next (pend' := [(0, r0_0)]) hst (by kernel_rfl) (pkr z z (fun w hst => z) pk_nil) ?_
 refine ws_e1 1 (by kernel_rfl) ?_
 refine nxe [6, 7, 9] (by kernel_rfl) z z ?_
 clear hst
 intro w hst
 refine wec call25 [r0_0] z z ?_
 refine (slices_Clone_uint64_uint64_ref (f0_0.mono (rd_weak _)) hst.to0 ht4722).mono ?_
 rintro _ w5006 ⟨v5009, rfl, hst⟩
 refine ⟨_, z, ?_⟩
 replace hst := hst.of1
 refine ws_next (pend' := []) hst (by kernel_rfl) pk_nil ?_
 refine wsr (.agg #[v5009, v4897, Zs, Zs, v4962, Zs]) 6 rfl rfl rfl (by kernel_rfl) (fun w hst => by obtain ⟨_, _, hv_, _⟩ := hst.sv2; rw [hv_]; obtain ⟨_, _, hv_, _⟩ := hst.sv3; rw [hv_]; obtain ⟨_, _, hv_, _⟩ := hst.sv0; rw [hv_]; kernel_rfl) ?_
 refine ws_e1 7 (by kernel_rfl) ?_
 refine nxe [9] (by kernel_rfl) z z ?_
 clear hst
 intro w hst
 obtain ⟨b5017, w5018, ew5019, eb5020, hst⟩ := hst.box [v5009, v4897, Zs, Zs, v4962, Zs] 49
 refine we_run (v := Pt b5017 0) (w' := w5018) z (x_al (by kernel_rfl) ew5019 eb5020) ?_
 refine ws_next (pend' := []) hst (by kernel_rfl) pk_nil ?_
 refine ws_e1 9 (by kernel_rfl) ?_
 refine nxe [] (by kernel_rfl) z z ?_
 clear hst
 intro w hst
 replace hst := hst.pull2
 obtain ⟨w5022, hr5023, hst⟩ := hst.by_ [Pt b5017 0] 0 (Pt b5017 0) sizeOf24 z (oC z oN) (by kernel_rfl)
 refine we_unit z (x_unit hr5023) ?_
 refine ws_next (pend' := []) hst (by kernel_rfl) pk_nil ?_
 refine ws_nil ?_
 intro w hst
 refine ⟨z, ?_⟩
 replace hst := hst.own_nil (tySl (tyInt .i64))
 replace hst := hst.own_nil (tySl (tyInt .i64))
 replace hst := hst.own_nil (tyInt .i64)
 replace hst := hst.pull6.pull2.pull3.pull7.pull7.pull7
 replace hst := at_label_Lattice_close (pv := Pt b5017 0) (x := ({ up := t4721, down := (List.replicate (Int.toNat ((a0).length : Int)) (0:Int)), join := [], meet := [], rank := (List.replicate (Int.toNat ((a0).length : Int)) (0:Int)), all := [] } : label_Lattice)) hst z
 replace hst := hst.pull1.keep2
 obtain rfl := some_inj hm
 exact ⟨({ up := t4721, down := (List.replicate (Int.toNat ((a0).length : Int)) (0:Int)), join := [], meet := [], rank := (List.replicate (Int.toNat ((a0).length : Int)) (0:Int)), all := [] } : label_Lattice), b5001, (Pt b5017 0), _, hx5405, (fu 0 r0_0 z (fu 4 (.int .i64 ((a0).length : Int)) z (fu 5 (Pt b5001 0) z z))), hst⟩
}
}
 {
 refine nxe [1, 5, 6, 7, 9] (by kernel_rfl) z z ?_
 clear hst
 intro w hst
 obtain ⟨b5024, w5025, ew5026, eb5027, hst⟩ := hst.box [.pointer none] 24
 refine we_run (v := Pt b5024 0) (w' := w5025) z (x_al (by kernel_rfl) ew5026 eb5027) ?_
 refine ws_next (pend' := [(4, I6 ((a0).length : Int)), (0, r0_0)]) hst (by kernel_rfl) (pkr z z (fun w hst => z) (pkr z z (fun w hst => z) pk_nil)) ?_
 refine ws_e2 1 5 (by kernel_rfl) ?_ ?_
 {
 refine nxe [5, 6, 7, 9] (by kernel_rfl) z z ?_
 clear hst
 intro w hst
 refine wec call25 [r0_0] z z ?_
 refine (slices_Clone_uint64_uint64_ref (f0_0.mono (rd_weak _)) hst.to0 ht4722).mono ?_
 rintro _ w5029 ⟨v5032, rfl, hst⟩
 refine ⟨_, z, ?_⟩
 replace hst := hst.of1
 refine ws_next (pend' := [(4, I6 ((a0).length : Int))]) hst (by kernel_rfl) (pkr z z (fun w hst => z) pk_nil) ?_
 refine ws_e1 5 (by kernel_rfl) ?_
 refine nxe [6, 7, 9] (by kernel_rfl) z z ?_
 clear hst
 intro w hst
 obtain ⟨v5034, w5035, hr5036, hst⟩ := run_mk (k := .i64) (k' := .i64) (zm := (0:Int)) elem_41 hst hg4724 (by decide) z
 refine we_run (v := v5034) (w' := w5035) z (x_make z z hr5036) ?_
 refine ws_next (pend' := []) hst (by kernel_rfl) pk_nil ?_
 refine wsr (.agg #[v5032, v4897, Zs, Zs, v5034, Zs]) 6 rfl rfl rfl (by kernel_rfl) (fun w hst => by obtain ⟨_, _, hv_, _⟩ := hst.sv0; rw [hv_]; obtain ⟨_, _, hv_, _⟩ := hst.sv3; rw [hv_]; obtain ⟨_, _, hv_, _⟩ := hst.sv1; rw [hv_]; kernel_rfl) ?_
 refine ws_e1 7 (by kernel_rfl) ?_
 refine nxe [9] (by kernel_rfl) z z ?_
 clear hst
 intro w hst
 obtain ⟨b5044, w5045, ew5046, eb5047, hst⟩ := hst.box [v5032, v4897, Zs, Zs, v5034, Zs] 49
 refine we_run (v := Pt b5044 0) (w' := w5045) z (x_al (by kernel_rfl) ew5046 eb5047) ?_
 refine ws_next (pend' := []) hst (by kernel_rfl) pk_nil ?_
 refine ws_e1 9 (by kernel_rfl) ?_
 refine nxe [] (by kernel_rfl) z z ?_
 clear hst
 intro w hst
 replace hst := hst.pull3
 obtain ⟨w5049, hr5050, hst⟩ := hst.by_ [Pt b5044 0] 0 (Pt b5044 0) sizeOf24 z (oC z oN) (by kernel_rfl)
 refine we_unit z (x_unit hr5050) ?_
 refine ws_next (pend' := []) hst (by kernel_rfl) pk_nil ?_
 refine ws_nil ?_
 intro w hst
 refine ⟨z, ?_⟩
 replace hst := hst.own_nil (tySl (tyInt .i64))
 replace hst := hst.own_nil (tySl (tyInt .i64))
 replace hst := hst.own_nil (tyInt .i64)
 replace hst := hst.pull5.pull2.pull3.pull7.pull7.pull7
 replace hst := at_label_Lattice_close (pv := Pt b5044 0) (x := ({ up := t4721, down := (List.replicate (Int.toNat ((a0).length : Int)) (0:Int)), join := [], meet := [], rank := (List.replicate (Int.toNat ((a0).length : Int)) (0:Int)), all := [] } : label_Lattice)) hst z
 replace hst := hst.pull1.keep2
 obtain rfl := some_inj hm
 exact ⟨({ up := t4721, down := (List.replicate (Int.toNat ((a0).length : Int)) (0:Int)), join := [], meet := [], rank := (List.replicate (Int.toNat ((a0).length : Int)) (0:Int)), all := [] } : label_Lattice), b5024, (Pt b5044 0), _, hx5405, (fu 0 r0_0 z (fu 4 (.int .i64 ((a0).length : Int)) z (fu 5 (Pt b5024 0) z z))), hst⟩
}
 {
 refine nxe [1, 6, 7, 9] (by kernel_rfl) z z ?_
 clear hst
 intro w hst
 obtain ⟨v5051, w5052, hr5053, hst⟩ := run_mk (k := .i64) (k' := .i64) (zm := (0:Int)) elem_41 hst hg4724 (by decide) z
 refine we_run (v := v5051) (w' := w5052) z (x_make z z hr5053) ?_
 refine ws_next (pend' := [(0, r0_0)]) hst (by kernel_rfl) (pkr z z (fun w hst => z) pk_nil) ?_
 refine ws_e1 1 (by kernel_rfl) ?_
 refine nxe [6, 7, 9] (by kernel_rfl) z z ?_
 clear hst
 intro w hst
 refine wec call25 [r0_0] z z ?_
 refine (slices_Clone_uint64_uint64_ref (f0_0.mono (rd_weak _)) hst.to0 ht4722).mono ?_
 rintro _ w5055 ⟨v5058, rfl, hst⟩
 refine ⟨_, z, ?_⟩
 replace hst := hst.of1
 refine ws_next (pend' := []) hst (by kernel_rfl) pk_nil ?_
 refine wsr (.agg #[v5058, v4897, Zs, Zs, v5051, Zs]) 6 rfl rfl rfl (by kernel_rfl) (fun w hst => by obtain ⟨_, _, hv_, _⟩ := hst.sv1; rw [hv_]; obtain ⟨_, _, hv_, _⟩ := hst.sv3; rw [hv_]; obtain ⟨_, _, hv_, _⟩ := hst.sv0; rw [hv_]; kernel_rfl) ?_
 refine ws_e1 7 (by kernel_rfl) ?_
 refine nxe [9] (by kernel_rfl) z z ?_
 clear hst
 intro w hst
 obtain ⟨b5066, w5067, ew5068, eb5069, hst⟩ := hst.box [v5058, v4897, Zs, Zs, v5051, Zs] 49
 refine we_run (v := Pt b5066 0) (w' := w5067) z (x_al (by kernel_rfl) ew5068 eb5069) ?_
 refine ws_next (pend' := []) hst (by kernel_rfl) pk_nil ?_
 refine ws_e1 9 (by kernel_rfl) ?_
 refine nxe [] (by kernel_rfl) z z ?_
 clear hst
 intro w hst
 replace hst := hst.pull3
 obtain ⟨w5071, hr5072, hst⟩ := hst.by_ [Pt b5066 0] 0 (Pt b5066 0) sizeOf24 z (oC z oN) (by kernel_rfl)
 refine we_unit z (x_unit hr5072) ?_
 refine ws_next (pend' := []) hst (by kernel_rfl) pk_nil ?_
 refine ws_nil ?_
 intro w hst
 refine ⟨z, ?_⟩
 replace hst := hst.own_nil (tySl (tyInt .i64))
 replace hst := hst.own_nil (tySl (tyInt .i64))
 replace hst := hst.own_nil (tyInt .i64)
 replace hst := hst.pull6.pull2.pull3.pull7.pull7.pull7
 replace hst := at_label_Lattice_close (pv := Pt b5066 0) (x := ({ up := t4721, down := (List.replicate (Int.toNat ((a0).length : Int)) (0:Int)), join := [], meet := [], rank := (List.replicate (Int.toNat ((a0).length : Int)) (0:Int)), all := [] } : label_Lattice)) hst z
 replace hst := hst.pull1.keep2
 obtain rfl := some_inj hm
 exact ⟨({ up := t4721, down := (List.replicate (Int.toNat ((a0).length : Int)) (0:Int)), join := [], meet := [], rank := (List.replicate (Int.toNat ((a0).length : Int)) (0:Int)), all := [] } : label_Lattice), b5024, (Pt b5066 0), _, hx5405, (fu 0 r0_0 z (fu 4 (.int .i64 ((a0).length : Int)) z (fu 5 (Pt b5024 0) z z))), hst⟩
}
}
}
 {
 refine nxe [1, 3, 6, 7, 8, 9] (by kernel_rfl) z z ?_
 clear hst
 intro w hst
 obtain ⟨v5073, w5074, hr5075, hst⟩ := run_mk (k := .i64) (k' := .i64) (zm := (0:Int)) elem_41 hst hg4724 (by decide) z
 refine we_run (v := v5073) (w' := w5074) z (x_make z z hr5075) ?_
 refine ws_next (pend' := [(2, I6 ((a0).length : Int)), (0, r0_0)]) hst (by kernel_rfl) (pkr z z (fun w hst => z) (pkr z z (fun w hst => z) pk_nil)) ?_
 refine ws_e3 1 3 8 (by kernel_rfl) ?_ ?_ ?_
 {
 refine nxe [3, 6, 7, 8, 9] (by kernel_rfl) z z ?_
 clear hst
 intro w hst
 refine wec call25 [r0_0] z z ?_
 refine (slices_Clone_uint64_uint64_ref (f0_0.mono (rd_weak _)) hst.to0 ht4722).mono ?_
 rintro _ w5077 ⟨v5080, rfl, hst⟩
 refine ⟨_, z, ?_⟩
 replace hst := hst.of1
 refine ws_next (pend' := [(2, I6 ((a0).length : Int))]) hst (by kernel_rfl) (pkr z z (fun w hst => z) pk_nil) ?_
 refine ws_e2 3 8 (by kernel_rfl) ?_ ?_
 {
 refine nxe [6, 7, 8, 9] (by kernel_rfl) z z ?_
 clear hst
 intro w hst
 obtain ⟨v5082, w5083, hr5084, hst⟩ := run_mk (k := .i64) (k' := .i64) (zm := (0:Int)) elem_28 hst hg4723 (by decide) z
 refine we_run (v := v5082) (w' := w5083) z (x_make z z hr5084) ?_
 refine ws_next (pend' := []) hst (by kernel_rfl) pk_nil ?_
 refine wsr (.agg #[v5080, v5082, Zs, Zs, v5073, Zs]) 6 rfl rfl rfl (by kernel_rfl) (fun w hst => by obtain ⟨_, _, hv_, _⟩ := hst.sv2; rw [hv_]; obtain ⟨_, _, hv_, _⟩ := hst.sv0; rw [hv_]; obtain ⟨_, _, hv_, _⟩ := hst.sv1; rw [hv_]; kernel_rfl) ?_
 refine ws_e2 7 8 (by kernel_rfl) ?_ ?_
 {
 refine nxe [8, 9] (by kernel_rfl) z z ?_
 clear hst
 intro w hst
 obtain ⟨b5092, w5093, ew5094, eb5095, hst⟩ := hst.box [v5080, v5082, Zs, Zs, v5073, Zs] 49
 refine we_run (v := Pt b5092 0) (w' := w5093) z (x_al (by kernel_rfl) ew5094 eb5095) ?_
 refine ws_next (pend' := []) hst (by kernel_rfl) pk_nil ?_
 refine ws_e1 8 (by kernel_rfl) ?_
 refine nxe [9] (by kernel_rfl) z z ?_
 clear hst
 intro w hst
 obtain ⟨b5097, w5098, ew5099, eb5100, hst⟩ := hst.box [.pointer none] 24
 refine we_run (v := Pt b5097 0) (w' := w5098) z (x_al (by kernel_rfl) ew5099 eb5100) ?_
 refine ws_next (pend' := []) hst (by kernel_rfl) pk_nil ?_
 refine ws_e1 9 (by kernel_rfl) ?_
 refine nxe [] (by kernel_rfl) z z ?_
 clear hst
 intro w hst
 obtain ⟨w5102, hr5103, hst⟩ := hst.by_ [Pt b5092 0] 0 (Pt b5092 0) sizeOf24 z (oC z oN) (by kernel_rfl)
 refine we_unit z (x_unit hr5103) ?_
 refine ws_next (pend' := []) hst (by kernel_rfl) pk_nil ?_
 refine ws_nil ?_
 intro w hst
 refine ⟨z, ?_⟩
 replace hst := hst.own_nil (tySl (tyInt .i64))
 replace hst := hst.own_nil (tySl (tyInt .i64))
 replace hst := hst.own_nil (tyInt .i64)
 replace hst := hst.pull7.pull2.pull3.pull6.pull7.pull7
 replace hst := at_label_Lattice_close (pv := Pt b5092 0) (x := ({ up := t4721, down := (List.replicate (Int.toNat ((a0).length : Int)) (0:Int)), join := [], meet := [], rank := (List.replicate (Int.toNat ((a0).length : Int)) (0:Int)), all := [] } : label_Lattice)) hst z
 replace hst := hst.pull1.keep2
 obtain rfl := some_inj hm
 exact ⟨({ up := t4721, down := (List.replicate (Int.toNat ((a0).length : Int)) (0:Int)), join := [], meet := [], rank := (List.replicate (Int.toNat ((a0).length : Int)) (0:Int)), all := [] } : label_Lattice), b5097, (Pt b5092 0), _, hx5405, (fu 0 r0_0 z (fu 4 (.int .i64 ((a0).length : Int)) z (fu 5 (Pt b5097 0) z z))), hst⟩
}
 {
 refine nxe [7, 9] (by kernel_rfl) z z ?_
 clear hst
 intro w hst
 obtain ⟨b5104, w5105, ew5106, eb5107, hst⟩ := hst.box [.pointer none] 24
 refine we_run (v := Pt b5104 0) (w' := w5105) z (x_al (by kernel_rfl) ew5106 eb5107) ?_
 refine ws_next (pend' := [(6, .agg #[v5080, v5082, Zs, Zs, v5073, Zs])]) hst (by kernel_rfl) (pkr rfl rfl (fun w hst => by obtain ⟨_, _, hv_, _⟩ := hst.sv3; rw [hv_]; obtain ⟨_, _, hv_, _⟩ := hst.sv1; rw [hv_]; obtain ⟨_, _, hv_, _⟩ := hst.sv2; rw [hv_]; kernel_rfl) pk_nil) ?_
 refine ws_e1 7 (by kernel_rfl) ?_
 refine nxe [9] (by kernel_rfl) z z ?_
 clear hst
 intro w hst
 obtain ⟨b5109, w5110, ew5111, eb5112, hst⟩ := hst.box [v5080, v5082, Zs, Zs, v5073, Zs] 49
 refine we_run (v := Pt b5109 0) (w' := w5110) z (x_al (by kernel_rfl) ew5111 eb5112) ?_
 refine ws_next (pend' := []) hst (by kernel_rfl) pk_nil ?_
 refine ws_e1 9 (by kernel_rfl) ?_
 refine nxe [] (by kernel_rfl) z z ?_
 clear hst
 intro w hst
 replace hst := hst.pull1
 obtain ⟨w5114, hr5115, hst⟩ := hst.by_ [Pt b5109 0] 0 (Pt b5109 0) sizeOf24 z (oC z oN) (by kernel_rfl)
 refine we_unit z (x_unit hr5115) ?_
 refine ws_next (pend' := []) hst (by kernel_rfl) pk_nil ?_
 refine ws_nil ?_
 intro w hst
 refine ⟨z, ?_⟩
 replace hst := hst.own_nil (tySl (tyInt .i64))
 replace hst := hst.own_nil (tySl (tyInt .i64))
 replace hst := hst.own_nil (tyInt .i64)
 replace hst := hst.pull7.pull2.pull3.pull6.pull7.pull7
 replace hst := at_label_Lattice_close (pv := Pt b5109 0) (x := ({ up := t4721, down := (List.replicate (Int.toNat ((a0).length : Int)) (0:Int)), join := [], meet := [], rank := (List.replicate (Int.toNat ((a0).length : Int)) (0:Int)), all := [] } : label_Lattice)) hst z
 replace hst := hst.pull1.keep2
 obtain rfl := some_inj hm
 exact ⟨({ up := t4721, down := (List.replicate (Int.toNat ((a0).length : Int)) (0:Int)), join := [], meet := [], rank := (List.replicate (Int.toNat ((a0).length : Int)) (0:Int)), all := [] } : label_Lattice), b5104, (Pt b5109 0), _, hx5405, (fu 0 r0_0 z (fu 4 (.int .i64 ((a0).length : Int)) z (fu 5 (Pt b5104 0) z z))), hst⟩
}
}
 {
 refine nxe [3, 6, 7, 9] (by kernel_rfl) z z ?_
 clear hst
 intro w hst
 obtain ⟨b5116, w5117, ew5118, eb5119, hst⟩ := hst.box [.pointer none] 24
 refine we_run (v := Pt b5116 0) (w' := w5117) z (x_al (by kernel_rfl) ew5118 eb5119) ?_
 refine ws_next (pend' := [(2, I6 ((a0).length : Int))]) hst (by kernel_rfl) (pkr z z (fun w hst => z) pk_nil) ?_
 refine ws_e1 3 (by kernel_rfl) ?_
 refine nxe [6, 7, 9] (by kernel_rfl) z z ?_
 clear hst
 intro w hst
 obtain ⟨v5121, w5122, hr5123, hst⟩ := run_mk (k := .i64) (k' := .i64) (zm := (0:Int)) elem_28 hst hg4723 (by decide) z
 refine we_run (v := v5121) (w' := w5122) z (x_make z z hr5123) ?_
 refine ws_next (pend' := []) hst (by kernel_rfl) pk_nil ?_
 refine wsr (.agg #[v5080, v5121, Zs, Zs, v5073, Zs]) 6 rfl rfl rfl (by kernel_rfl) (fun w hst => by obtain ⟨_, _, hv_, _⟩ := hst.sv3; rw [hv_]; obtain ⟨_, _, hv_, _⟩ := hst.sv0; rw [hv_]; obtain ⟨_, _, hv_, _⟩ := hst.sv2; rw [hv_]; kernel_rfl) ?_
 refine ws_e1 7 (by kernel_rfl) ?_
 refine nxe [9] (by kernel_rfl) z z ?_
 clear hst
 intro w hst
 obtain ⟨b5131, w5132, ew5133, eb5134, hst⟩ := hst.box [v5080, v5121, Zs, Zs, v5073, Zs] 49
 refine we_run (v := Pt b5131 0) (w' := w5132) z (x_al (by kernel_rfl) ew5133 eb5134) ?_
 refine ws_next (pend' := []) hst (by kernel_rfl) pk_nil ?_
 refine ws_e1 9 (by kernel_rfl) ?_
 refine nxe [] (by kernel_rfl) z z ?_
 clear hst
 intro w hst
 replace hst := hst.pull2
 obtain ⟨w5136, hr5137, hst⟩ := hst.by_ [Pt b5131 0] 0 (Pt b5131 0) sizeOf24 z (oC z oN) (by kernel_rfl)
 refine we_unit z (x_unit hr5137) ?_
 refine ws_next (pend' := []) hst (by kernel_rfl) pk_nil ?_
 refine ws_nil ?_
 intro w hst
 refine ⟨z, ?_⟩
 replace hst := hst.own_nil (tySl (tyInt .i64))
 replace hst := hst.own_nil (tySl (tyInt .i64))
 replace hst := hst.own_nil (tyInt .i64)
 replace hst := hst.pull7.pull2.pull3.pull6.pull7.pull7
 replace hst := at_label_Lattice_close (pv := Pt b5131 0) (x := ({ up := t4721, down := (List.replicate (Int.toNat ((a0).length : Int)) (0:Int)), join := [], meet := [], rank := (List.replicate (Int.toNat ((a0).length : Int)) (0:Int)), all := [] } : label_Lattice)) hst z
 replace hst := hst.pull1.keep2
 obtain rfl := some_inj hm
 exact ⟨({ up := t4721, down := (List.replicate (Int.toNat ((a0).length : Int)) (0:Int)), join := [], meet := [], rank := (List.replicate (Int.toNat ((a0).length : Int)) (0:Int)), all := [] } : label_Lattice), b5116, (Pt b5131 0), _, hx5405, (fu 0 r0_0 z (fu 4 (.int .i64 ((a0).length : Int)) z (fu 5 (Pt b5116 0) z z))), hst⟩
}
}
 {
 refine nxe [1, 6, 7, 8, 9] (by kernel_rfl) z z ?_
 clear hst
 intro w hst
 obtain ⟨v5138, w5139, hr5140, hst⟩ := run_mk (k := .i64) (k' := .i64) (zm := (0:Int)) elem_28 hst hg4723 (by decide) z
 refine we_run (v := v5138) (w' := w5139) z (x_make z z hr5140) ?_
 refine ws_next (pend' := [(0, r0_0)]) hst (by kernel_rfl) (pkr z z (fun w hst => z) pk_nil) ?_
 refine ws_e2 1 8 (by kernel_rfl) ?_ ?_
 {
 refine nxe [6, 7, 8, 9] (by kernel_rfl) z z ?_
 clear hst
 intro w hst
 refine wec call25 [r0_0] z z ?_
 refine (slices_Clone_uint64_uint64_ref (f0_0.mono (rd_weak _)) hst.to0 ht4722).mono ?_
 rintro _ w5142 ⟨v5145, rfl, hst⟩
 refine ⟨_, z, ?_⟩
 replace hst := hst.of1
 refine ws_next (pend' := []) hst (by kernel_rfl) pk_nil ?_
 refine wsr (.agg #[v5145, v5138, Zs, Zs, v5073, Zs]) 6 rfl rfl rfl (by kernel_rfl) (fun w hst => by obtain ⟨_, _, hv_, _⟩ := hst.sv2; rw [hv_]; obtain ⟨_, _, hv_, _⟩ := hst.sv1; rw [hv_]; obtain ⟨_, _, hv_, _⟩ := hst.sv0; rw [hv_]; kernel_rfl) ?_
 refine ws_e2 7 8 (by kernel_rfl) ?_ ?_
 {
 refine nxe [8, 9] (by kernel_rfl) z z ?_
 clear hst
 intro w hst
 obtain ⟨b5153, w5154, ew5155, eb5156, hst⟩ := hst.box [v5145, v5138, Zs, Zs, v5073, Zs] 49
 refine we_run (v := Pt b5153 0) (w' := w5154) z (x_al (by kernel_rfl) ew5155 eb5156) ?_
 refine ws_next (pend' := []) hst (by kernel_rfl) pk_nil ?_
 refine ws_e1 8 (by kernel_rfl) ?_
 refine nxe [9] (by kernel_rfl) z z ?_
 clear hst
 intro w hst
 obtain ⟨b5158, w5159, ew5160, eb5161, hst⟩ := hst.box [.pointer none] 24
 refine we_run (v := Pt b5158 0) (w' := w5159) z (x_al (by kernel_rfl) ew5160 eb5161) ?_
 refine ws_next (pend' := []) hst (by kernel_rfl) pk_nil ?_
 refine ws_e1 9 (by kernel_rfl) ?_
 refine nxe [] (by kernel_rfl) z z ?_
 clear hst
 intro w hst
 obtain ⟨w5163, hr5164, hst⟩ := hst.by_ [Pt b5153 0] 0 (Pt b5153 0) sizeOf24 z (oC z oN) (by kernel_rfl)
 refine we_unit z (x_unit hr5164) ?_
 refine ws_next (pend' := []) hst (by kernel_rfl) pk_nil ?_
 refine ws_nil ?_
 intro w hst
 refine ⟨z, ?_⟩
 replace hst := hst.own_nil (tySl (tyInt .i64))
 replace hst := hst.own_nil (tySl (tyInt .i64))
 replace hst := hst.own_nil (tyInt .i64)
 replace hst := hst.pull7.pull2.pull3.pull7.pull7.pull7
 replace hst := at_label_Lattice_close (pv := Pt b5153 0) (x := ({ up := t4721, down := (List.replicate (Int.toNat ((a0).length : Int)) (0:Int)), join := [], meet := [], rank := (List.replicate (Int.toNat ((a0).length : Int)) (0:Int)), all := [] } : label_Lattice)) hst z
 replace hst := hst.pull1.keep2
 obtain rfl := some_inj hm
 exact ⟨({ up := t4721, down := (List.replicate (Int.toNat ((a0).length : Int)) (0:Int)), join := [], meet := [], rank := (List.replicate (Int.toNat ((a0).length : Int)) (0:Int)), all := [] } : label_Lattice), b5158, (Pt b5153 0), _, hx5405, (fu 0 r0_0 z (fu 4 (.int .i64 ((a0).length : Int)) z (fu 5 (Pt b5158 0) z z))), hst⟩
}
 {
 refine nxe [7, 9] (by kernel_rfl) z z ?_
 clear hst
 intro w hst
 obtain ⟨b5165, w5166, ew5167, eb5168, hst⟩ := hst.box [.pointer none] 24
 refine we_run (v := Pt b5165 0) (w' := w5166) z (x_al (by kernel_rfl) ew5167 eb5168) ?_
 refine ws_next (pend' := [(6, .agg #[v5145, v5138, Zs, Zs, v5073, Zs])]) hst (by kernel_rfl) (pkr rfl rfl (fun w hst => by obtain ⟨_, _, hv_, _⟩ := hst.sv3; rw [hv_]; obtain ⟨_, _, hv_, _⟩ := hst.sv2; rw [hv_]; obtain ⟨_, _, hv_, _⟩ := hst.sv1; rw [hv_]; kernel_rfl) pk_nil) ?_
 refine ws_e1 7 (by kernel_rfl) ?_
 refine nxe [9] (by kernel_rfl) z z ?_
 clear hst
 intro w hst
 obtain ⟨b5170, w5171, ew5172, eb5173, hst⟩ := hst.box [v5145, v5138, Zs, Zs, v5073, Zs] 49
 refine we_run (v := Pt b5170 0) (w' := w5171) z (x_al (by kernel_rfl) ew5172 eb5173) ?_
 refine ws_next (pend' := []) hst (by kernel_rfl) pk_nil ?_
 refine ws_e1 9 (by kernel_rfl) ?_
 refine nxe [] (by kernel_rfl) z z ?_
 clear hst
 intro w hst
 replace hst := hst.pull1
 obtain ⟨w5175, hr5176, hst⟩ := hst.by_ [Pt b5170 0] 0 (Pt b5170 0) sizeOf24 z (oC z oN) (by kernel_rfl)
 refine we_unit z (x_unit hr5176) ?_
 refine ws_next (pend' := []) hst (by kernel_rfl) pk_nil ?_
 refine ws_nil ?_
 intro w hst
 refine ⟨z, ?_⟩
 replace hst := hst.own_nil (tySl (tyInt .i64))
 replace hst := hst.own_nil (tySl (tyInt .i64))
 replace hst := hst.own_nil (tyInt .i64)
 replace hst := hst.pull7.pull2.pull3.pull7.pull7.pull7
 replace hst := at_label_Lattice_close (pv := Pt b5170 0) (x := ({ up := t4721, down := (List.replicate (Int.toNat ((a0).length : Int)) (0:Int)), join := [], meet := [], rank := (List.replicate (Int.toNat ((a0).length : Int)) (0:Int)), all := [] } : label_Lattice)) hst z
 replace hst := hst.pull1.keep2
 obtain rfl := some_inj hm
 exact ⟨({ up := t4721, down := (List.replicate (Int.toNat ((a0).length : Int)) (0:Int)), join := [], meet := [], rank := (List.replicate (Int.toNat ((a0).length : Int)) (0:Int)), all := [] } : label_Lattice), b5165, (Pt b5170 0), _, hx5405, (fu 0 r0_0 z (fu 4 (.int .i64 ((a0).length : Int)) z (fu 5 (Pt b5165 0) z z))), hst⟩
}
}
 {
 refine nxe [1, 6, 7, 9] (by kernel_rfl) z z ?_
 clear hst
 intro w hst
 obtain ⟨b5177, w5178, ew5179, eb5180, hst⟩ := hst.box [.pointer none] 24
 refine we_run (v := Pt b5177 0) (w' := w5178) z (x_al (by kernel_rfl) ew5179 eb5180) ?_
 refine ws_next (pend' := [(0, r0_0)]) hst (by kernel_rfl) (pkr z z (fun w hst => z) pk_nil) ?_
 refine ws_e1 1 (by kernel_rfl) ?_
 refine nxe [6, 7, 9] (by kernel_rfl) z z ?_
 clear hst
 intro w hst
 refine wec call25 [r0_0] z z ?_
 refine (slices_Clone_uint64_uint64_ref (f0_0.mono (rd_weak _)) hst.to0 ht4722).mono ?_
 rintro _ w5182 ⟨v5185, rfl, hst⟩
 refine ⟨_, z, ?_⟩
 replace hst := hst.of1
 refine ws_next (pend' := []) hst (by kernel_rfl) pk_nil ?_
 refine wsr (.agg #[v5185, v5138, Zs, Zs, v5073, Zs]) 6 rfl rfl rfl (by kernel_rfl) (fun w hst => by obtain ⟨_, _, hv_, _⟩ := hst.sv3; rw [hv_]; obtain ⟨_, _, hv_, _⟩ := hst.sv2; rw [hv_]; obtain ⟨_, _, hv_, _⟩ := hst.sv0; rw [hv_]; kernel_rfl) ?_
 refine ws_e1 7 (by kernel_rfl) ?_
 refine nxe [9] (by kernel_rfl) z z ?_
 clear hst
 intro w hst
 obtain ⟨b5193, w5194, ew5195, eb5196, hst⟩ := hst.box [v5185, v5138, Zs, Zs, v5073, Zs] 49
 refine we_run (v := Pt b5193 0) (w' := w5194) z (x_al (by kernel_rfl) ew5195 eb5196) ?_
 refine ws_next (pend' := []) hst (by kernel_rfl) pk_nil ?_
 refine ws_e1 9 (by kernel_rfl) ?_
 refine nxe [] (by kernel_rfl) z z ?_
 clear hst
 intro w hst
 replace hst := hst.pull2
 obtain ⟨w5198, hr5199, hst⟩ := hst.by_ [Pt b5193 0] 0 (Pt b5193 0) sizeOf24 z (oC z oN) (by kernel_rfl)
 refine we_unit z (x_unit hr5199) ?_
 refine ws_next (pend' := []) hst (by kernel_rfl) pk_nil ?_
 refine ws_nil ?_
 intro w hst
 refine ⟨z, ?_⟩
 replace hst := hst.own_nil (tySl (tyInt .i64))
 replace hst := hst.own_nil (tySl (tyInt .i64))
 replace hst := hst.own_nil (tyInt .i64)
 replace hst := hst.pull7.pull2.pull3.pull7.pull7.pull7
 replace hst := at_label_Lattice_close (pv := Pt b5193 0) (x := ({ up := t4721, down := (List.replicate (Int.toNat ((a0).length : Int)) (0:Int)), join := [], meet := [], rank := (List.replicate (Int.toNat ((a0).length : Int)) (0:Int)), all := [] } : label_Lattice)) hst z
 replace hst := hst.pull1.keep2
 obtain rfl := some_inj hm
 exact ⟨({ up := t4721, down := (List.replicate (Int.toNat ((a0).length : Int)) (0:Int)), join := [], meet := [], rank := (List.replicate (Int.toNat ((a0).length : Int)) (0:Int)), all := [] } : label_Lattice), b5177, (Pt b5193 0), _, hx5405, (fu 0 r0_0 z (fu 4 (.int .i64 ((a0).length : Int)) z (fu 5 (Pt b5177 0) z z))), hst⟩
}
}
 {
 refine nxe [1, 3, 6, 7, 9] (by kernel_rfl) z z ?_
 clear hst
 intro w hst
 obtain ⟨b5200, w5201, ew5202, eb5203, hst⟩ := hst.box [.pointer none] 24
 refine we_run (v := Pt b5200 0) (w' := w5201) z (x_al (by kernel_rfl) ew5202 eb5203) ?_
 refine ws_next (pend' := [(2, I6 ((a0).length : Int)), (0, r0_0)]) hst (by kernel_rfl) (pkr z z (fun w hst => z) (pkr z z (fun w hst => z) pk_nil)) ?_
 refine ws_e2 1 3 (by kernel_rfl) ?_ ?_
 {
 refine nxe [3, 6, 7, 9] (by kernel_rfl) z z ?_
 clear hst
 intro w hst
 refine wec call25 [r0_0] z z ?_
 refine (slices_Clone_uint64_uint64_ref (f0_0.mono (rd_weak _)) hst.to0 ht4722).mono ?_
 rintro _ w5205 ⟨v5208, rfl, hst⟩
 refine ⟨_, z, ?_⟩
 replace hst := hst.of1
 refine ws_next (pend' := [(2, I6 ((a0).length : Int))]) hst (by kernel_rfl) (pkr z z (fun w hst => z) pk_nil) ?_
 refine ws_e1 3 (by kernel_rfl) ?_
 refine nxe [6, 7, 9] (by kernel_rfl) z z ?_
 clear hst
 intro w hst
 obtain ⟨v5210, w5211, hr5212, hst⟩ := run_mk (k := .i64) (k' := .i64) (zm := (0:Int)) elem_28 hst hg4723 (by decide) z
 refine we_run (v := v5210) (w' := w5211) z (x_make z z hr5212) ?_
 refine ws_next (pend' := []) hst (by kernel_rfl) pk_nil ?_
 refine wsr (.agg #[v5208, v5210, Zs, Zs, v5073, Zs]) 6 rfl rfl rfl (by kernel_rfl) (fun w hst => by obtain ⟨_, _, hv_, _⟩ := hst.sv3; rw [hv_]; obtain ⟨_, _, hv_, _⟩ := hst.sv0; rw [hv_]; obtain ⟨_, _, hv_, _⟩ := hst.sv1; rw [hv_]; kernel_rfl) ?_
 refine ws_e1 7 (by kernel_rfl) ?_
 refine nxe [9] (by kernel_rfl) z z ?_
 clear hst
 intro w hst
 obtain ⟨b5220, w5221, ew5222, eb5223, hst⟩ := hst.box [v5208, v5210, Zs, Zs, v5073, Zs] 49
 refine we_run (v := Pt b5220 0) (w' := w5221) z (x_al (by kernel_rfl) ew5222 eb5223) ?_
 refine ws_next (pend' := []) hst (by kernel_rfl) pk_nil ?_
 refine ws_e1 9 (by kernel_rfl) ?_
 refine nxe [] (by kernel_rfl) z z ?_
 clear hst
 intro w hst
 replace hst := hst.pull3
 obtain ⟨w5225, hr5226, hst⟩ := hst.by_ [Pt b5220 0] 0 (Pt b5220 0) sizeOf24 z (oC z oN) (by kernel_rfl)
 refine we_unit z (x_unit hr5226) ?_
 refine ws_next (pend' := []) hst (by kernel_rfl) pk_nil ?_
 refine ws_nil ?_
 intro w hst
 refine ⟨z, ?_⟩
 replace hst := hst.own_nil (tySl (tyInt .i64))
 replace hst := hst.own_nil (tySl (tyInt .i64))
 replace hst := hst.own_nil (tyInt .i64)
 replace hst := hst.pull7.pull2.pull3.pull6.pull7.pull7
 replace hst := at_label_Lattice_close (pv := Pt b5220 0) (x := ({ up := t4721, down := (List.replicate (Int.toNat ((a0).length : Int)) (0:Int)), join := [], meet := [], rank := (List.replicate (Int.toNat ((a0).length : Int)) (0:Int)), all := [] } : label_Lattice)) hst z
 replace hst := hst.pull1.keep2
 obtain rfl := some_inj hm
 exact ⟨({ up := t4721, down := (List.replicate (Int.toNat ((a0).length : Int)) (0:Int)), join := [], meet := [], rank := (List.replicate (Int.toNat ((a0).length : Int)) (0:Int)), all := [] } : label_Lattice), b5200, (Pt b5220 0), _, hx5405, (fu 0 r0_0 z (fu 4 (.int .i64 ((a0).length : Int)) z (fu 5 (Pt b5200 0) z z))), hst⟩
}
 {
 refine nxe [1, 6, 7, 9] (by kernel_rfl) z z ?_
 clear hst
 intro w hst
 obtain ⟨v5227, w5228, hr5229, hst⟩ := run_mk (k := .i64) (k' := .i64) (zm := (0:Int)) elem_28 hst hg4723 (by decide) z
 refine we_run (v := v5227) (w' := w5228) z (x_make z z hr5229) ?_
 refine ws_next (pend' := [(0, r0_0)]) hst (by kernel_rfl) (pkr z z (fun w hst => z) pk_nil) ?_
 refine ws_e1 1 (by kernel_rfl) ?_
 refine nxe [6, 7, 9] (by kernel_rfl) z z ?_
 clear hst
 intro w hst
 refine wec call25 [r0_0] z z ?_
 refine (slices_Clone_uint64_uint64_ref (f0_0.mono (rd_weak _)) hst.to0 ht4722).mono ?_
 rintro _ w5231 ⟨v5234, rfl, hst⟩
 refine ⟨_, z, ?_⟩
 replace hst := hst.of1
 refine ws_next (pend' := []) hst (by kernel_rfl) pk_nil ?_
 refine wsr (.agg #[v5234, v5227, Zs, Zs, v5073, Zs]) 6 rfl rfl rfl (by kernel_rfl) (fun w hst => by obtain ⟨_, _, hv_, _⟩ := hst.sv3; rw [hv_]; obtain ⟨_, _, hv_, _⟩ := hst.sv1; rw [hv_]; obtain ⟨_, _, hv_, _⟩ := hst.sv0; rw [hv_]; kernel_rfl) ?_
 refine ws_e1 7 (by kernel_rfl) ?_
 refine nxe [9] (by kernel_rfl) z z ?_
 clear hst
 intro w hst
 obtain ⟨b5242, w5243, ew5244, eb5245, hst⟩ := hst.box [v5234, v5227, Zs, Zs, v5073, Zs] 49
 refine we_run (v := Pt b5242 0) (w' := w5243) z (x_al (by kernel_rfl) ew5244 eb5245) ?_
 refine ws_next (pend' := []) hst (by kernel_rfl) pk_nil ?_
 refine ws_e1 9 (by kernel_rfl) ?_
 refine nxe [] (by kernel_rfl) z z ?_
 clear hst
 intro w hst
 replace hst := hst.pull3
 obtain ⟨w5247, hr5248, hst⟩ := hst.by_ [Pt b5242 0] 0 (Pt b5242 0) sizeOf24 z (oC z oN) (by kernel_rfl)
 refine we_unit z (x_unit hr5248) ?_
 refine ws_next (pend' := []) hst (by kernel_rfl) pk_nil ?_
 refine ws_nil ?_
 intro w hst
 refine ⟨z, ?_⟩
 replace hst := hst.own_nil (tySl (tyInt .i64))
 replace hst := hst.own_nil (tySl (tyInt .i64))
 replace hst := hst.own_nil (tyInt .i64)
 replace hst := hst.pull7.pull2.pull3.pull7.pull7.pull7
 replace hst := at_label_Lattice_close (pv := Pt b5242 0) (x := ({ up := t4721, down := (List.replicate (Int.toNat ((a0).length : Int)) (0:Int)), join := [], meet := [], rank := (List.replicate (Int.toNat ((a0).length : Int)) (0:Int)), all := [] } : label_Lattice)) hst z
 replace hst := hst.pull1.keep2
 obtain rfl := some_inj hm
 exact ⟨({ up := t4721, down := (List.replicate (Int.toNat ((a0).length : Int)) (0:Int)), join := [], meet := [], rank := (List.replicate (Int.toNat ((a0).length : Int)) (0:Int)), all := [] } : label_Lattice), b5200, (Pt b5242 0), _, hx5405, (fu 0 r0_0 z (fu 4 (.int .i64 ((a0).length : Int)) z (fu 5 (Pt b5200 0) z z))), hst⟩
}
}
}
 {
 refine nxe [1, 3, 5, 6, 7, 9] (by kernel_rfl) z z ?_
 clear hst
 intro w hst
 obtain ⟨b5249, w5250, ew5251, eb5252, hst⟩ := hst.box [.pointer none] 24
 refine we_run (v := Pt b5249 0) (w' := w5250) z (x_al (by kernel_rfl) ew5251 eb5252) ?_
 refine ws_next (pend' := [(4, I6 ((a0).length : Int)), (2, I6 ((a0).length : Int)), (0, r0_0)]) hst (by kernel_rfl) (pkr z z (fun w hst => z) (pkr z z (fun w hst => z) (pkr z z (fun w hst => z) pk_nil))) ?_
 refine ws_e3 1 3 5 (by kernel_rfl) ?_ ?_ ?_
 {
 refine nxe [3, 5, 6, 7, 9] (by kernel_rfl) z z ?_
 clear hst
 intro w hst
 refine wec call25 [r0_0] z z ?_
 refine (slices_Clone_uint64_uint64_ref (f0_0.mono (rd_weak _)) hst.to0 ht4722).mono ?_
 rintro _ w5254 ⟨v5257, rfl, hst⟩
 refine ⟨_, z, ?_⟩
 replace hst := hst.of1
 refine ws_next (pend' := [(4, I6 ((a0).length : Int)), (2, I6 ((a0).length : Int))]) hst (by kernel_rfl) (pkr z z (fun w hst => z) (pkr z z (fun w hst => z) pk_nil)) ?_
 refine ws_e2 3 5 (by kernel_rfl) ?_ ?_
 {
 refine nxe [5, 6, 7, 9] (by kernel_rfl) z z ?_
 clear hst
 intro w hst
 obtain ⟨v5259, w5260, hr5261, hst⟩ := run_mk (k := .i64) (k' := .i64) (zm := (0:Int)) elem_28 hst hg4723 (by decide) z
 refine we_run (v := v5259) (w' := w5260) z (x_make z z hr5261) ?_
 refine ws_next (pend' := [(4, I6 ((a0).length : Int))]) hst (by kernel_rfl) (pkr z z (fun w hst => z) pk_nil) ?_
 refine ws_e1 5 (by kernel_rfl) ?_
 refine nxe [6, 7, 9] (by kernel_rfl) z z ?_
 clear hst
 intro w hst
 obtain ⟨v5263, w5264, hr5265, hst⟩ := run_mk (k := .i64) (k' := .i64) (zm := (0:Int)) elem_41 hst hg4724 (by decide) z
 refine we_run (v := v5263) (w' := w5264) z (x_make z z hr5265) ?_
 refine ws_next (pend' := []) hst (by kernel_rfl) pk_nil ?_
 refine wsr (.agg #[v5257, v5259, Zs, Zs, v5263, Zs]) 6 rfl rfl rfl (by kernel_rfl) (fun w hst => by obtain ⟨_, _, hv_, _⟩ := hst.sv0; rw [hv_]; obtain ⟨_, _, hv_, _⟩ := hst.sv1; rw [hv_]; obtain ⟨_, _, hv_, _⟩ := hst.sv2; rw [hv_]; kernel_rfl) ?_
 refine ws_e1 7 (by kernel_rfl) ?_
 refine nxe [9] (by kernel_rfl) z z ?_
 clear hst
 intro w hst
 obtain ⟨b5273, w5274, ew5275, eb5276, hst⟩ := hst.box [v5257, v5259, Zs, Zs, v5263, Zs] 49
 refine we_run (v := Pt b5273 0) (w' := w5274) z (x_al (by kernel_rfl) ew5275 eb5276) ?_
 refine ws_next (pend' := []) hst (by kernel_rfl) pk_nil ?_
 refine ws_e1 9 (by kernel_rfl) ?_
 refine nxe [] (by kernel_rfl) z z ?_
 clear hst
 intro w hst
 replace hst := hst.pull4
 obtain ⟨w5278, hr5279, hst⟩ := hst.by_ [Pt b5273 0] 0 (Pt b5273 0) sizeOf24 z (oC z oN) (by kernel_rfl)
 refine we_unit z (x_unit hr5279) ?_
 refine ws_next (pend' := []) hst (by kernel_rfl) pk_nil ?_
 refine ws_nil ?_
 intro w hst
 refine ⟨z, ?_⟩
 replace hst := hst.own_nil (tySl (tyInt .i64))
 replace hst := hst.own_nil (tySl (tyInt .i64))
 replace hst := hst.own_nil (tyInt .i64)
 replace hst := hst.pull5.pull2.pull3.pull6.pull7.pull7
 replace hst := at_label_Lattice_close (pv := Pt b5273 0) (x := ({ up := t4721, down := (List.replicate (Int.toNat ((a0).length : Int)) (0:Int)), join := [], meet := [], rank := (List.replicate (Int.toNat ((a0).length : Int)) (0:Int)), all := [] } : label_Lattice)) hst z
 replace hst := hst.pull1.keep2
 obtain rfl := some_inj hm
 exact ⟨({ up := t4721, down := (List.replicate (Int.toNat ((a0).length : Int)) (0:Int)), join := [], meet := [], rank := (List.replicate (Int.toNat ((a0).length : Int)) (0:Int)), all := [] } : label_Lattice), b5249, (Pt b5273 0), _, hx5405, (fu 0 r0_0 z (fu 4 (.int .i64 ((a0).length : Int)) z (fu 5 (Pt b5249 0) z z))), hst⟩
}
 {
 refine nxe [3, 6, 7, 9] (by kernel_rfl) z z ?_
 clear hst
 intro w hst
 obtain ⟨v5280, w5281, hr5282, hst⟩ := run_mk (k := .i64) (k' := .i64) (zm := (0:Int)) elem_41 hst hg4724 (by decide) z
 refine we_run (v := v5280) (w' := w5281) z (x_make z z hr5282) ?_
 refine ws_next (pend' := [(2, I6 ((a0).length : Int))]) hst (by kernel_rfl) (pkr z z (fun w hst => z) pk_nil) ?_
 refine ws_e1 3 (by kernel_rfl) ?_
 refine nxe [6, 7, 9] (by kernel_rfl) z z ?_
 clear hst
 intro w hst
 obtain ⟨v5284, w5285, hr5286, hst⟩ := run_mk (k := .i64) (k' := .i64) (zm := (0:Int)) elem_28 hst hg4723 (by decide) z
 refine we_run (v := v5284) (w' := w5285) z (x_make z z hr5286) ?_
 refine ws_next (pend' := []) hst (by kernel_rfl) pk_nil ?_
 refine wsr (.agg #[v5257, v5284, Zs, Zs, v5280, Zs]) 6 rfl rfl rfl (by kernel_rfl) (fun w hst => by obtain ⟨_, _, hv_, _⟩ := hst.sv1; rw [hv_]; obtain ⟨_, _, hv_, _⟩ := hst.sv0; rw [hv_]; obtain ⟨_, _, hv_, _⟩ := hst.sv2; rw [hv_]; kernel_rfl) ?_
 refine ws_e1 7 (by kernel_rfl) ?_
 refine nxe [9] (by kernel_rfl) z z ?_
 clear hst
 intro w hst
 obtain ⟨b5294, w5295, ew5296, eb5297, hst⟩ := hst.box [v5257, v5284, Zs, Zs, v5280, Zs] 49
 refine we_run (v := Pt b5294 0) (w' := w5295) z (x_al (by kernel_rfl) ew5296 eb5297) ?_
 refine ws_next (pend' := []) hst (by kernel_rfl) pk_nil ?_
 refine ws_e1 9 (by kernel_rfl) ?_
 refine nxe [] (by kernel_rfl) z z ?_
 clear hst
 intro w hst
 replace hst := hst.pull4
 obtain ⟨w5299, hr5300, hst⟩ := hst.by_ [Pt b5294 0] 0 (Pt b5294 0) sizeOf24 z (oC z oN) (by kernel_rfl)
 refine we_unit z (x_unit hr5300) ?_
 refine ws_next (pend' := []) hst (by kernel_rfl) pk_nil ?_
 refine ws_nil ?_
 intro w hst
 refine ⟨z, ?_⟩
 replace hst := hst.own_nil (tySl (tyInt .i64))
 replace hst := hst.own_nil (tySl (tyInt .i64))
 replace hst := hst.own_nil (tyInt .i64)
 replace hst := hst.pull6.pull2.pull3.pull6.pull7.pull7
 replace hst := at_label_Lattice_close (pv := Pt b5294 0) (x := ({ up := t4721, down := (List.replicate (Int.toNat ((a0).length : Int)) (0:Int)), join := [], meet := [], rank := (List.replicate (Int.toNat ((a0).length : Int)) (0:Int)), all := [] } : label_Lattice)) hst z
 replace hst := hst.pull1.keep2
 obtain rfl := some_inj hm
 exact ⟨({ up := t4721, down := (List.replicate (Int.toNat ((a0).length : Int)) (0:Int)), join := [], meet := [], rank := (List.replicate (Int.toNat ((a0).length : Int)) (0:Int)), all := [] } : label_Lattice), b5249, (Pt b5294 0), _, hx5405, (fu 0 r0_0 z (fu 4 (.int .i64 ((a0).length : Int)) z (fu 5 (Pt b5249 0) z z))), hst⟩
}
}
 {
 refine nxe [1, 5, 6, 7, 9] (by kernel_rfl) z z ?_
 clear hst
 intro w hst
 obtain ⟨v5301, w5302, hr5303, hst⟩ := run_mk (k := .i64) (k' := .i64) (zm := (0:Int)) elem_28 hst hg4723 (by decide) z
 refine we_run (v := v5301) (w' := w5302) z (x_make z z hr5303) ?_
 refine ws_next (pend' := [(4, I6 ((a0).length : Int)), (0, r0_0)]) hst (by kernel_rfl) (pkr z z (fun w hst => z) (pkr z z (fun w hst => z) pk_nil)) ?_
 refine ws_e2 1 5 (by kernel_rfl) ?_ ?_
 {
 refine nxe [5, 6, 7, 9] (by kernel_rfl) z z ?_
 clear hst
 intro w hst
 refine wec call25 [r0_0] z z ?_
 refine (slices_Clone_uint64_uint64_ref (f0_0.mono (rd_weak _)) hst.to0 ht4722).mono ?_
 rintro _ w5305 ⟨v5308, rfl, hst⟩
 refine ⟨_, z, ?_⟩
 replace hst := hst.of1
 refine ws_next (pend' := [(4, I6 ((a0).length : Int))]) hst (by kernel_rfl) (pkr z z (fun w hst => z) pk_nil) ?_
 refine ws_e1 5 (by kernel_rfl) ?_
 refine nxe [6, 7, 9] (by kernel_rfl) z z ?_
 clear hst
 intro w hst
 obtain ⟨v5310, w5311, hr5312, hst⟩ := run_mk (k := .i64) (k' := .i64) (zm := (0:Int)) elem_41 hst hg4724 (by decide) z
 refine we_run (v := v5310) (w' := w5311) z (x_make z z hr5312) ?_
 refine ws_next (pend' := []) hst (by kernel_rfl) pk_nil ?_
 refine wsr (.agg #[v5308, v5301, Zs, Zs, v5310, Zs]) 6 rfl rfl rfl (by kernel_rfl) (fun w hst => by obtain ⟨_, _, hv_, _⟩ := hst.sv0; rw [hv_]; obtain ⟨_, _, hv_, _⟩ := hst.sv2; rw [hv_]; obtain ⟨_, _, hv_, _⟩ := hst.sv1; rw [hv_]; kernel_rfl) ?_
 refine ws_e1 7 (by kernel_rfl) ?_
 refine nxe [9] (by kernel_rfl) z z ?_
 clear hst
 intro w hst
 obtain ⟨b5320, w5321, ew5322, eb5323, hst⟩ := hst.box [v5308, v5301, Zs, Zs, v5310, Zs] 49
 refine we_run (v := Pt b5320 0) (w' := w5321) z (x_al (by kernel_rfl) ew5322 eb5323) ?_
 refine ws_next (pend' := []) hst (by kernel_rfl) pk_nil ?_
 refine ws_e1 9 (by kernel_rfl) ?_
 refine nxe [] (by kernel_rfl) z z ?_
 clear hst
 intro w hst
 replace hst := hst.pull4
 obtain ⟨w5325, hr5326, hst⟩ := hst.by_ [Pt b5320 0] 0 (Pt b5320 0) sizeOf24 z (oC z oN) (by kernel_rfl)
 refine we_unit z (x_unit hr5326) ?_
 refine ws_next (pend' := []) hst (by kernel_rfl) pk_nil ?_
 refine ws_nil ?_
 intro w hst
 refine ⟨z, ?_⟩
 replace hst := hst.own_nil (tySl (tyInt .i64))
 replace hst := hst.own_nil (tySl (tyInt .i64))
 replace hst := hst.own_nil (tyInt .i64)
 replace hst := hst.pull5.pull2.pull3.pull7.pull7.pull7
 replace hst := at_label_Lattice_close (pv := Pt b5320 0) (x := ({ up := t4721, down := (List.replicate (Int.toNat ((a0).length : Int)) (0:Int)), join := [], meet := [], rank := (List.replicate (Int.toNat ((a0).length : Int)) (0:Int)), all := [] } : label_Lattice)) hst z
 replace hst := hst.pull1.keep2
 obtain rfl := some_inj hm
 exact ⟨({ up := t4721, down := (List.replicate (Int.toNat ((a0).length : Int)) (0:Int)), join := [], meet := [], rank := (List.replicate (Int.toNat ((a0).length : Int)) (0:Int)), all := [] } : label_Lattice), b5249, (Pt b5320 0), _, hx5405, (fu 0 r0_0 z (fu 4 (.int .i64 ((a0).length : Int)) z (fu 5 (Pt b5249 0) z z))), hst⟩
}
 {
 refine nxe [1, 6, 7, 9] (by kernel_rfl) z z ?_
 clear hst
 intro w hst
 obtain ⟨v5327, w5328, hr5329, hst⟩ := run_mk (k := .i64) (k' := .i64) (zm := (0:Int)) elem_41 hst hg4724 (by decide) z
 refine we_run (v := v5327) (w' := w5328) z (x_make z z hr5329) ?_
 refine ws_next (pend' := [(0, r0_0)]) hst (by kernel_rfl) (pkr z z (fun w hst => z) pk_nil) ?_
 refine ws_e1 1 (by kernel_rfl) ?_
 refine nxe [6, 7, 9] (by kernel_rfl) z z ?_
 clear hst
 intro w hst
 refine wec call25 [r0_0] z z ?_
 refine (slices_Clone_uint64_uint64_ref (f0_0.mono (rd_weak _)) hst.to0 ht4722).mono ?_
 rintro _ w5331 ⟨v5334, rfl, hst⟩
 refine ⟨_, z, ?_⟩
 replace hst := hst.of1
 refine ws_next (pend' := []) hst (by kernel_rfl) pk_nil ?_
 refine wsr (.agg #[v5334, v5301, Zs, Zs, v5327, Zs]) 6 rfl rfl rfl (by kernel_rfl) (fun w hst => by obtain ⟨_, _, hv_, _⟩ := hst.sv1; rw [hv_]; obtain ⟨_, _, hv_, _⟩ := hst.sv2; rw [hv_]; obtain ⟨_, _, hv_, _⟩ := hst.sv0; rw [hv_]; kernel_rfl) ?_
 refine ws_e1 7 (by kernel_rfl) ?_
 refine nxe [9] (by kernel_rfl) z z ?_
 clear hst
 intro w hst
 obtain ⟨b5342, w5343, ew5344, eb5345, hst⟩ := hst.box [v5334, v5301, Zs, Zs, v5327, Zs] 49
 refine we_run (v := Pt b5342 0) (w' := w5343) z (x_al (by kernel_rfl) ew5344 eb5345) ?_
 refine ws_next (pend' := []) hst (by kernel_rfl) pk_nil ?_
 refine ws_e1 9 (by kernel_rfl) ?_
 refine nxe [] (by kernel_rfl) z z ?_
 clear hst
 intro w hst
 replace hst := hst.pull4
 obtain ⟨w5347, hr5348, hst⟩ := hst.by_ [Pt b5342 0] 0 (Pt b5342 0) sizeOf24 z (oC z oN) (by kernel_rfl)
 refine we_unit z (x_unit hr5348) ?_
 refine ws_next (pend' := []) hst (by kernel_rfl) pk_nil ?_
 refine ws_nil ?_
 intro w hst
 refine ⟨z, ?_⟩
 replace hst := hst.own_nil (tySl (tyInt .i64))
 replace hst := hst.own_nil (tySl (tyInt .i64))
 replace hst := hst.own_nil (tyInt .i64)
 replace hst := hst.pull6.pull2.pull3.pull7.pull7.pull7
 replace hst := at_label_Lattice_close (pv := Pt b5342 0) (x := ({ up := t4721, down := (List.replicate (Int.toNat ((a0).length : Int)) (0:Int)), join := [], meet := [], rank := (List.replicate (Int.toNat ((a0).length : Int)) (0:Int)), all := [] } : label_Lattice)) hst z
 replace hst := hst.pull1.keep2
 obtain rfl := some_inj hm
 exact ⟨({ up := t4721, down := (List.replicate (Int.toNat ((a0).length : Int)) (0:Int)), join := [], meet := [], rank := (List.replicate (Int.toNat ((a0).length : Int)) (0:Int)), all := [] } : label_Lattice), b5249, (Pt b5342 0), _, hx5405, (fu 0 r0_0 z (fu 4 (.int .i64 ((a0).length : Int)) z (fu 5 (Pt b5249 0) z z))), hst⟩
}
}
 {
 refine nxe [1, 3, 6, 7, 9] (by kernel_rfl) z z ?_
 clear hst
 intro w hst
 obtain ⟨v5349, w5350, hr5351, hst⟩ := run_mk (k := .i64) (k' := .i64) (zm := (0:Int)) elem_41 hst hg4724 (by decide) z
 refine we_run (v := v5349) (w' := w5350) z (x_make z z hr5351) ?_
 refine ws_next (pend' := [(2, I6 ((a0).length : Int)), (0, r0_0)]) hst (by kernel_rfl) (pkr z z (fun w hst => z) (pkr z z (fun w hst => z) pk_nil)) ?_
 refine ws_e2 1 3 (by kernel_rfl) ?_ ?_
 {
 refine nxe [3, 6, 7, 9] (by kernel_rfl) z z ?_
 clear hst
 intro w hst
 refine wec call25 [r0_0] z z ?_
 refine (slices_Clone_uint64_uint64_ref (f0_0.mono (rd_weak _)) hst.to0 ht4722).mono ?_
 rintro _ w5353 ⟨v5356, rfl, hst⟩
 refine ⟨_, z, ?_⟩
 replace hst := hst.of1
 refine ws_next (pend' := [(2, I6 ((a0).length : Int))]) hst (by kernel_rfl) (pkr z z (fun w hst => z) pk_nil) ?_
 refine ws_e1 3 (by kernel_rfl) ?_
 refine nxe [6, 7, 9] (by kernel_rfl) z z ?_
 clear hst
 intro w hst
 obtain ⟨v5358, w5359, hr5360, hst⟩ := run_mk (k := .i64) (k' := .i64) (zm := (0:Int)) elem_28 hst hg4723 (by decide) z
 refine we_run (v := v5358) (w' := w5359) z (x_make z z hr5360) ?_
 refine ws_next (pend' := []) hst (by kernel_rfl) pk_nil ?_
 refine wsr (.agg #[v5356, v5358, Zs, Zs, v5349, Zs]) 6 rfl rfl rfl (by kernel_rfl) (fun w hst => by obtain ⟨_, _, hv_, _⟩ := hst.sv2; rw [hv_]; obtain ⟨_, _, hv_, _⟩ := hst.sv0; rw [hv_]; obtain ⟨_, _, hv_, _⟩ := hst.sv1; rw [hv_]; kernel_rfl) ?_
 refine ws_e1 7 (by kernel_rfl) ?_
 refine nxe [9] (by kernel_rfl) z z ?_
 clear hst
 intro w hst
 obtain ⟨b5368, w5369, ew5370, eb5371, hst⟩ := hst.box [v5356, v5358, Zs, Zs, v5349, Zs] 49
 refine we_run (v := Pt b5368 0) (w' := w5369) z (x_al (by kernel_rfl) ew5370 eb5371) ?_
 refine ws_next (pend' := []) hst (by kernel_rfl) pk_nil ?_
 refine ws_e1 9 (by kernel_rfl) ?_
 refine nxe [] (by kernel_rfl) z z ?_
 clear hst
 intro w hst
 replace hst := hst.pull4
 obtain ⟨w5373, hr5374, hst⟩ := hst.by_ [Pt b5368 0] 0 (Pt b5368 0) sizeOf24 z (oC z oN) (by kernel_rfl)
 refine we_unit z (x_unit hr5374) ?_
 refine ws_next (pend' := []) hst (by kernel_rfl) pk_nil ?_
 refine ws_nil ?_
 intro w hst
 refine ⟨z, ?_⟩
 replace hst := hst.own_nil (tySl (tyInt .i64))
 replace hst := hst.own_nil (tySl (tyInt .i64))
 replace hst := hst.own_nil (tyInt .i64)
 replace hst := hst.pull7.pull2.pull3.pull6.pull7.pull7
 replace hst := at_label_Lattice_close (pv := Pt b5368 0) (x := ({ up := t4721, down := (List.replicate (Int.toNat ((a0).length : Int)) (0:Int)), join := [], meet := [], rank := (List.replicate (Int.toNat ((a0).length : Int)) (0:Int)), all := [] } : label_Lattice)) hst z
 replace hst := hst.pull1.keep2
 obtain rfl := some_inj hm
 exact ⟨({ up := t4721, down := (List.replicate (Int.toNat ((a0).length : Int)) (0:Int)), join := [], meet := [], rank := (List.replicate (Int.toNat ((a0).length : Int)) (0:Int)), all := [] } : label_Lattice), b5249, (Pt b5368 0), _, hx5405, (fu 0 r0_0 z (fu 4 (.int .i64 ((a0).length : Int)) z (fu 5 (Pt b5249 0) z z))), hst⟩
}
 {
 refine nxe [1, 6, 7, 9] (by kernel_rfl) z z ?_
 clear hst
 intro w hst
 obtain ⟨v5375, w5376, hr5377, hst⟩ := run_mk (k := .i64) (k' := .i64) (zm := (0:Int)) elem_28 hst hg4723 (by decide) z
 refine we_run (v := v5375) (w' := w5376) z (x_make z z hr5377) ?_
 refine ws_next (pend' := [(0, r0_0)]) hst (by kernel_rfl) (pkr z z (fun w hst => z) pk_nil) ?_
 refine ws_e1 1 (by kernel_rfl) ?_
 refine nxe [6, 7, 9] (by kernel_rfl) z z ?_
 clear hst
 intro w hst
 refine wec call25 [r0_0] z z ?_
 refine (slices_Clone_uint64_uint64_ref (f0_0.mono (rd_weak _)) hst.to0 ht4722).mono ?_
 rintro _ w5379 ⟨v5382, rfl, hst⟩
 refine ⟨_, z, ?_⟩
 replace hst := hst.of1
 refine ws_next (pend' := []) hst (by kernel_rfl) pk_nil ?_
 refine wsr (.agg #[v5382, v5375, Zs, Zs, v5349, Zs]) 6 rfl rfl rfl (by kernel_rfl) (fun w hst => by obtain ⟨_, _, hv_, _⟩ := hst.sv2; rw [hv_]; obtain ⟨_, _, hv_, _⟩ := hst.sv1; rw [hv_]; obtain ⟨_, _, hv_, _⟩ := hst.sv0; rw [hv_]; kernel_rfl) ?_
 refine ws_e1 7 (by kernel_rfl) ?_
 refine nxe [9] (by kernel_rfl) z z ?_
 clear hst
 intro w hst
 obtain ⟨b5390, w5391, ew5392, eb5393, hst⟩ := hst.box [v5382, v5375, Zs, Zs, v5349, Zs] 49
 refine we_run (v := Pt b5390 0) (w' := w5391) z (x_al (by kernel_rfl) ew5392 eb5393) ?_
 refine ws_next (pend' := []) hst (by kernel_rfl) pk_nil ?_
 refine ws_e1 9 (by kernel_rfl) ?_
 refine nxe [] (by kernel_rfl) z z ?_
 clear hst
 intro w hst
 replace hst := hst.pull4
 obtain ⟨w5395, hr5396, hst⟩ := hst.by_ [Pt b5390 0] 0 (Pt b5390 0) sizeOf24 z (oC z oN) (by kernel_rfl)
 refine we_unit z (x_unit hr5396) ?_
 refine ws_next (pend' := []) hst (by kernel_rfl) pk_nil ?_
 refine ws_nil ?_
 intro w hst
 refine ⟨z, ?_⟩
 replace hst := hst.own_nil (tySl (tyInt .i64))
 replace hst := hst.own_nil (tySl (tyInt .i64))
 replace hst := hst.own_nil (tyInt .i64)
 replace hst := hst.pull7.pull2.pull3.pull7.pull7.pull7
 replace hst := at_label_Lattice_close (pv := Pt b5390 0) (x := ({ up := t4721, down := (List.replicate (Int.toNat ((a0).length : Int)) (0:Int)), join := [], meet := [], rank := (List.replicate (Int.toNat ((a0).length : Int)) (0:Int)), all := [] } : label_Lattice)) hst z
 replace hst := hst.pull1.keep2
 obtain rfl := some_inj hm
 exact ⟨({ up := t4721, down := (List.replicate (Int.toNat ((a0).length : Int)) (0:Int)), join := [], meet := [], rank := (List.replicate (Int.toNat ((a0).length : Int)) (0:Int)), all := [] } : label_Lattice), b5249, (Pt b5390 0), _, hx5405, (fu 0 r0_0 z (fu 4 (.int .i64 ((a0).length : Int)) z (fu 5 (Pt b5249 0) z z))), hst⟩
}
}
}
}
 {
 clear hst
 rintro _ w5406 ⟨z5401, b5398, v5400, σ5402, hm, rfl, hst⟩
 dsimp only [label_New_j0] at hm
 refine tn (wp_seq (wp_seq (wrl (wv (v5400) z z (x_load z isAgg24 (hst.bc0 z)) ?_))))
 replace hst := hst.pull1
 replace hst := objO_some hst
 obtain ⟨t5407, ht5408, hm⟩ := bind_some hm
 refine wc call26 [v5400] z z z ?_
 refine (label_Lattice_orders_ref hst.to1 ht5408).mono ?_
 rintro _ w5409 ⟨rfl, hst⟩
 refine ⟨_, z, ?_⟩
 replace hst := hst.of1
 replace hst := objO_get hst
 refine wv (.bool (!t5407)) z z z (wl_nil (tn ?_))
 refine bsplit (!t5407) (fun hc5412 => ?_) (fun hc5412 => ?_)
 {
 replace hm := bif_t hc5412 hm
 refine wp_ift (cvb hc5412) ?_
 refine wp_seq (wrl (wv (.pointer none) z z z (wv (.int .i64 (15:Int)) z z z (wl_nil (tn (wp_ret (then_r ?_)))))))
 replace hst := hst.objO_nil at_label_Lattice
 obtain rfl := some_inj hm
 refine post_ret (vs := [.pointer none, I6 (15:Int)]) results10 (rvs_cons (rv_tmp z) (rvs_cons (rv_tmp z) rvs_nil)) ?_
 exact ⟨_, .pointer none, z, hI0, hst.keep1⟩
}
 {
 replace hm := bif_f hc5412 hm
 refine wp_iff (cvb hc5412) ?_
 refine wp_skip (tn ?_)
 obtain ⟨y5710, hm, hx5711⟩ := bind_some hm
 refine wp_cut (fun a w => ∃ (z5707 : label_Lattice) (σ5708 : Nat → Value), (label_New_j1 a0) z5707 = some r ∧ a = Fr 192 (upd (upd σ5708 4 (.int .i64 ((a0).length : Int))) 5 (Pt b5398 0)) ∧ St w0 w I [cells b5398 [v5400], at_label_Lattice v5400 z5707] R) ?_ ?_
 {
 refine wp_seq (wrl (wv (r0_0) z z z (wv (.int .i64 ((a0).length : Int)) z z (x_len z underlying28 (rd_sliceV f0_0)) (wv (.int .i64 (0:Int)) z z z (wl_nil (tn (wp_block ?_)))))))
 obtain ⟨n5605, hm⟩ := loopO_some hm
 refine wp_loop_n (fun n a w => ∃ (z5602 : label_Lattice) (z5603 : Int) (σ5604 : Nat → Value), loopN (label_New_l2 a0) n (z5602, z5603) = some y5710 ∧ a = Fr 192 (upd (upd (upd (upd (upd σ5604 4 (.int .i64 ((a0).length : Int))) 5 (Pt b5398 0)) 38 (r0_0)) 39 (.int .i64 ((a0).length : Int))) 40 (.int .i64 z5603)) ∧ St w0 w I [at_label_Lattice v5400 z5602, cells b5398 [v5400]] R) n5605 ⟨z5401, (0:Int), _, hm, (fu 4 (.int .i64 ((a0).length : Int)) z (fu 5 (Pt b5398 0) z (fu 38 r0_0 z (fu 39 (.int .i64 ((a0).length : Int)) z (fu 40 (.int .i64 (0:Int)) z z))))), hst⟩ ?_
 rintro n5611 _ w5606 ⟨z5602, z5603, σ5604, hm, rfl, hst⟩
 obtain ⟨n5608, y5609, rfl, hm, hx5610⟩ := loopN_some hm
 dsimp only [label_New_l2] at hm
 refine wp_seq (wrl (wv (.bool (decide (z5603 < ((a0).length : Int)))) z z z (wl_nil (tn (wp_seq ?_)))))
 refine bsplit (decide (z5603 < ((a0).length : Int))) (fun hc5612 => ?_) (fun hc5612 => ?_)
 {
 replace hm := bif_t hc5612 hm
 refine wp_ift (cvb hc5612) ?_
 refine wp_skip (tn (wp_seq (wp_block (wp_seq (wrl ?_)))))
 refine wv (.int .i64 z5603) z z z ?_
 obtain ⟨x5613, hx5614, hm⟩ := bind_some hm
 obtain ⟨h5615, h5616, hi5617⟩ := geto_some hx5614
 refine wv (.pointer (some (eAddr r0_0 (z5603.toNat * 1 + 0)))) z z (x_index z z underlying28 sizeOf43 (rd_sliceV f0_0) h5615 h5616) (wv (.int .u64 x5613) z z (x_load z isAgg43 (rd_load f0_0 (HL.le.refl _) hst hi5617 (by rintro _ rfl; rfl))) (wv (.int .i64 z5603) z z z (wv (.int .u64 x5613) z z z (wl_nil (tn (wp_seq (wrl (wv (.int .i64 ((a0).length : Int)) z z z (wv (.int .i64 (0:Int)) z z z (wl_nil (tn (wp_block ?_))))))))))))
 obtain ⟨n5674, hm⟩ := loopO_some hm
 refine wp_loop_n (fun n a w => ∃ (z5671 : label_Lattice) (z5672 : Int) (σ5673 : Nat → Value), loopN (label_New_l3 a0 x5613 z5603) n (z5671, z5672) = some y5609 ∧ a = Fr 192 (upd (upd (upd (upd (upd (upd (upd (upd (upd σ5673 4 (.int .i64 ((a0).length : Int))) 5 (Pt b5398 0)) 6 (.int .i64 z5603)) 7 (.int .u64 x5613)) 38 (r0_0)) 39 (.int .i64 ((a0).length : Int))) 40 (.int .i64 z5603)) 45 (.int .i64 ((a0).length : Int))) 46 (.int .i64 z5672)) ∧ St w0 w I [at_label_Lattice v5400 z5671, cells b5398 [v5400]] R) n5674 ⟨z5602, (0:Int), _, hm, (fu 4 (.int .i64 ((a0).length : Int)) z (fu 5 (Pt b5398 0) z (fu 6 (.int .i64 z5603) z (fu 7 (.int .u64 x5613) z (fu 38 r0_0 z (fu 39 (.int .i64 ((a0).length : Int)) z (fu 40 (.int .i64 z5603) z (fu 45 (.int .i64 ((a0).length : Int)) z (fu 46 (.int .i64 (0:Int)) z z))))))))), hst⟩ ?_
 rintro n5680 _ w5675 ⟨z5671, z5672, σ5673, hm, rfl, hst⟩
 obtain ⟨n5677, y5678, rfl, hm, hx5679⟩ := loopN_some hm
 dsimp only [label_New_l3] at hm
 refine wp_seq (wrl (wv (.bool (decide (z5672 < ((a0).length : Int)))) z z z (wl_nil (tn (wp_seq ?_)))))
 refine bsplit (decide (z5672 < ((a0).length : Int))) (fun hc5681 => ?_) (fun hc5681 => ?_)
 {
 replace hm := bif_t hc5681 hm
 refine wp_ift (cvb hc5681) ?_
 refine wp_skip (tn (wp_seq (wp_block (wp_seq (wrl ?_)))))
 refine wv (.int .i64 z5672) z z z (wv (.int .i64 z5672) z z z (wl_nil (tn (wp_seq (wrl (wv (.int .u64 x5613) z z z (wv (.int .i64 z5672) z z z ?_)))))))
 obtain ⟨hg5682, hm⟩ := gd_some hm
 refine wv (.int .u64 (iShr .u64 x5613 z5672)) z z (x_shr (of_decide_eq_true hg5682) z z) (wv (.int .u64 (bAnd .u64 (iShr .u64 x5613 z5672) (1:Int))) z z z (wv (.bool ((bAnd .u64 (iShr .u64 x5613 z5672) (1:Int)) == (1:Int))) z z z (wl_nil (tn ?_))))
 refine bsplit ((bAnd .u64 (iShr .u64 x5613 z5672) (1:Int)) == (1:Int)) (fun hc5683 => ?_) (fun hc5683 => ?_)
 {
 replace hm := bif_t hc5683 hm
 refine wp_ift (cvb hc5683) ?_
 obtain ⟨b5684, v5685, v5687, v5689, v5691, v5693, v5695, rfl, hst'⟩ := at_label_Lattice_open hst
 clear hst
 have hst := hst'
 clear hst'
 refine wp_region_St hst 12 [0, 1, 2, 3, 4, 5, 6, 7, 8, 9, 10, 11] [0, 1, 3, 7, 0, 31, 63, 0, 128, 511, 1023, 2047] [] z (by kernel_rfl) (by kernel_rfl) Try.mixed (by kernel_rfl) ?_
 refine wsr (Pt b5684 0) 0 z z z (by kernel_rfl) (fun w hst => x_load z isAgg24 (hst.bc7 z)) (wsr (Pt b5684 0) 1 z z z (by kernel_rfl) (fun w hst => z) (wsr (Pt b5684 1) 2 z z z (by kernel_rfl) (fun w hst => x_field z underlying49 z sizeOf28 z) (wsr (v5687) 3 z z z (by kernel_rfl) (fun w hst => x_load z isAgg28 (hst.bc0 z)) (wsr (.int .i64 z5672) 4 z z z (by kernel_rfl) (fun w hst => z) ?_))))
 obtain ⟨x5697, hx5698, hm⟩ := bind_some hm
 obtain ⟨h5699, h5700, hi5701⟩ := geto_some hx5698
 refine wsr (.pointer (some (eAddr v5687 (z5672.toNat * 1 + 0)))) 5 z z z (by kernel_rfl) (fun w hst => x_index z z underlying28 sizeOf43 hst.sv2 h5699 h5700) (wsr (.int .u64 x5697) 6 z z z (by kernel_rfl) (fun w hst => x_load z isAgg43 (hst.ol2 hi5701 (by rintro _ rfl; rfl))) (wsr (.int .i64 z5603) 7 z z z (by kernel_rfl) (fun w hst => z) ?_))
 obtain ⟨hg5702, hm⟩ := gd_some hm
 refine wsr (.int .u64 (iShl .u64 (1:Int) z5603)) 8 z z z (by kernel_rfl) (fun w hst => x_shl (of_decide_eq_true hg5702) z z) (wsr (.int .u64 (bOr .u64 x5697 (iShl .u64 (1:Int) z5603))) 9 z z z (by kernel_rfl) (fun w hst => z) (wsr (.pointer (some (eAddr v5687 (z5672.toNat * 1 + 0)))) 10 z z z (by kernel_rfl) (fun w hst => x_index z z underlying28 sizeOf43 hst.sv2 h5699 h5700) ?_))
 refine ws_e1 11 (by kernel_rfl) ?_
 refine nxe [] (by kernel_rfl) z z ?_
 clear hst
 intro w hst
 replace hst := hst.pull2
 obtain ⟨w5703, hr5704, hst⟩ := hst.own_store (P := prog) (t := 43) (y := (bOr .u64 x5697 (iShl .u64 (1:Int) z5603))) hi5701 0 (.int .u64 (bOr .u64 x5697 (iShl .u64 (1:Int) z5603))) sizeOf43 (Nat.le_of_ble_eq_true z) (oC z oN) (by rintro _ rfl; rfl)
 have hi5705 := set_get hi5701 (bOr .u64 x5697 (iShl .u64 (1:Int) z5603))
 have h5706 := set_lt h5700 z5672.toNat (bOr .u64 x5697 (iShl .u64 (1:Int) z5603))
 refine we_unit z (x_unit hr5704) ?_
 refine ws_next (pend' := []) hst (by kernel_rfl) pk_nil ?_
 refine ws_nil ?_
 intro w hst
 refine blk_n (tn (wrl ?_))
 refine wv (.int .i64 (i64.wrap (z5672 + (1:Int)))) z z z (wv (.int .i64 (i64.wrap (z5672 + (1:Int)))) z z z (wl_nil (tn ?_)))
 replace hst := hst.pull6.pull6.pull6.pull6.pull4.pull6.pull6
 replace hst := at_label_Lattice_close (pv := Pt b5684 0) (x := ({ up := z5671.up, down := (z5671.down.set z5672.toNat (bOr .u64 x5697 (iShl .u64 (1:Int) z5603))), join := z5671.join, meet := z5671.meet, rank := z5671.rank, all := z5671.all } : label_Lattice)) hst z
 replace hst := hst.pull1.pull1.keep2
 obtain rfl := some_inj hm
 exact ⟨_, Nat.lt_succ_self _, ({ up := z5671.up, down := (z5671.down.set z5672.toNat (bOr .u64 x5697 (iShl .u64 (1:Int) z5603))), join := z5671.join, meet := z5671.meet, rank := z5671.rank, all := z5671.all } : label_Lattice), (i64.wrap (z5672 + (1:Int))), _, hx5679, (fu 4 (.int .i64 ((a0).length : Int)) z (fu 5 (Pt b5398 0) z (fu 6 (.int .i64 z5603) z (fu 7 (.int .u64 x5613) z (fu 38 r0_0 z (fu 39 (.int .i64 ((a0).length : Int)) z (fu 40 (.int .i64 z5603) z (fu 45 (.int .i64 ((a0).length : Int)) z (fu 46 (.int .i64 (i64.wrap (z5672 + (1:Int)))) z z))))))))), hst⟩
}
 {
 replace hm := bif_f hc5683 hm
 refine wp_iff (cvb hc5683) ?_
 refine wp_skip (blk_n (tn (wrl ?_)))
 refine wv (.int .i64 (i64.wrap (z5672 + (1:Int)))) z z z (wv (.int .i64 (i64.wrap (z5672 + (1:Int)))) z z z (wl_nil (tn ?_)))
 replace hst := hst.pull1.pull1.keep2
 obtain rfl := some_inj hm
 exact ⟨_, Nat.lt_succ_self _, z5671, (i64.wrap (z5672 + (1:Int))), _, hx5679, (fu 4 (.int .i64 ((a0).length : Int)) z (fu 5 (Pt b5398 0) z (fu 6 (.int .i64 z5603) z (fu 7 (.int .u64 x5613) z (fu 38 r0_0 z (fu 39 (.int .i64 ((a0).length : Int)) z (fu 40 (.int .i64 z5603) z (fu 45 (.int .i64 ((a0).length : Int)) z (fu 46 (.int .i64 (i64.wrap (z5672 + (1:Int)))) z z))))))))), hst⟩
}
}
 {
 replace hm := bif_f hc5681 hm
 refine wp_iff (cvb hc5681) ?_
 refine wp_exit (then_x (then_x ?_))
 replace hm := inr_up hm hx5679
 refine blk_x (blk_n (tn (wrl ?_)))
 refine wv (.int .i64 (i64.wrap (z5603 + (1:Int)))) z z z (wv (.int .i64 (i64.wrap (z5603 + (1:Int)))) z z z (wl_nil (tn ?_)))
 replace hst := hst.pull1.pull1.keep2
 obtain rfl := some_inj hm
 exact ⟨_, Nat.lt_succ_self _, z5671, (i64.wrap (z5603 + (1:Int))), _, hx5610, (fu 4 (.int .i64 ((a0).length : Int)) z (fu 5 (Pt b5398 0) z (fu 38 r0_0 z (fu 39 (.int .i64 ((a0).length : Int)) z (fu 40 (.int .i64 (i64.wrap (z5603 + (1:Int)))) z z))))), hst⟩
}
}
 {
 replace hm := bif_f hc5612 hm
 refine wp_iff (cvb hc5612) ?_
 refine wp_exit (then_x (then_x ?_))
 replace hm := inr_up hm hx5610
 refine blk_x (tn ?_)
 replace hst := hst.pull1.keep2
 obtain rfl := some_inj hm
 exact ⟨z5602, _, hx5711, (fu 4 (.int .i64 ((a0).length : Int)) z (fu 5 (Pt b5398 0) z z)), hst⟩
}
}
 {
 clear hst
 rintro _ w5712 ⟨z5707, σ5708, hm, rfl, hst⟩
 dsimp only [label_New_j1] at hm
 obtain ⟨y7055, hm, hx7056⟩ := joinO_some hm
 refine wp_cut (fun a w => ∃ (I7052 : HL) (z7051 : label_Lattice) (σ7053 : Nat → Value), (label_New_j4) z7051 = some r ∧ a = Fr 192 (upd σ7053 5 (Pt b5398 0)) ∧ I.le I7052 ∧ St w0 w I7052 [cells b5398 [v5400], at_label_Lattice v5400 z7051] R) ?_ ?_
 {
 have hL7057 := HL.le.refl I
 refine wp_seq (wrl (wv (.int .i64 ((a0).length : Int)) z z z (wv (.int .i64 (0:Int)) z z z (wl_nil (tn (wp_block ?_))))))
 obtain ⟨n6595, hm⟩ := loopO_some hm
 refine wp_loop_n (fun n a w => ∃ (I6593 : HL) (z6591 : label_Lattice) (z6592 : Int) (σ6594 : Nat → Value), loopN (label_New_l5 a0) n (z6591, z6592) = some y7055 ∧ a = Fr 192 (upd (upd (upd (upd σ6594 4 (.int .i64 ((a0).length : Int))) 5 (Pt b5398 0)) 67 (.int .i64 ((a0).length : Int))) 68 (.int .i64 z6592)) ∧ I.le I6593 ∧ St w0 w I6593 [cells b5398 [v5400], at_label_Lattice v5400 z6591] R) n6595 ⟨_, z5707, (0:Int), _, hm, (fu 4 (.int .i64 ((a0).length : Int)) z (fu 5 (Pt b5398 0) z (fu 67 (.int .i64 ((a0).length : Int)) z (fu 68 (.int .i64 (0:Int)) z z)))), (HL.le.refl _), hst⟩ ?_
 rintro n6601 _ w6596 ⟨I6593, z6591, z6592, σ6594, hm, rfl, hL6597, hst⟩
 obtain ⟨n6598, y6599, rfl, hm, hx6600⟩ := loopN_some hm
 dsimp only [label_New_l5] at hm
 replace f0_0 := f0_0.mono (rd_le hL6597)
 replace hI0 := hI0.trans hL6597
 replace hL7057 := hL7057.trans hL6597
 refine wp_seq (wrl (wv (.bool (decide (z6592 < ((a0).length : Int)))) z z z (wl_nil (tn (wp_seq ?_)))))
 refine bsplit (decide (z6592 < ((a0).length : Int))) (fun hc6602 => ?_) (fun hc6602 => ?_)
 {
 replace hm := bif_t hc6602 hm
 refine wp_ift (cvb hc6602) ?_
 refine wp_skip (tn (wp_seq (wp_block (wp_seq (wrl ?_)))))
 refine wv (.int .i64 z6592) z z z (wv (.int .i64 z6592) z z z (wl_nil (tn (wp_seq (wrl (wv ((.slice none 0 0)) z z z (wv ((.slice none 0 0)) z z z (wl_nil (tn ?_)))))))))
 obtain ⟨y6915, hm, hx6916⟩ := joinO_some hm
 refine wp_cut (fun a w => ∃ (z6909 : (List Int)) (z6912 : (List Int)) (v6908 : Value) (v6911 : Value) (σ6913 : Nat → Value), (label_New_j6 z6591 z6592) (z6909, z6912) = some y6599 ∧ a = Fr 192 (upd (upd (upd (upd (upd (upd (upd σ6913 4 (.int .i64 ((a0).length : Int))) 5 (Pt b5398 0)) 9 (.int .i64 z6592)) 10 (v6908)) 11 (v6911)) 67 (.int .i64 ((a0).length : Int))) 68 (.int .i64 z6592)) ∧ St w0 w I6593 [cells b5398 [v5400], at_label_Lattice v5400 z6591, ownS (tyInt .i64) v6908 z6909, ownS (tyInt .i64) v6911 z6912] R) ?_ ?_
 {
 refine wp_seq (wrl (wv (.int .i64 ((a0).length : Int)) z z z (wv (.int .i64 (0:Int)) z z z (wl_nil (tn (wp_block ?_))))))
 replace hst := hst.own_nil (tyInt .i64)
 replace hst := hst.own_nil (tyInt .i64)
 obtain ⟨n6830, hm⟩ := loopO_some hm
 refine wp_loop_n (fun n a w => ∃ (z6822 : (List Int)) (z6825 : (List Int)) (z6828 : Int) (v6823 : Value) (v6826 : Value) (σ6829 : Nat → Value), loopN (label_New_l7 a0 z6591 z6592) n (z6822, z6825, z6828) = some y6915 ∧ a = Fr 192 (upd (upd (upd (upd (upd (upd (upd (upd (upd σ6829 4 (.int .i64 ((a0).length : Int))) 5 (Pt b5398 0)) 9 (.int .i64 z6592)) 10 (v6823)) 11 (v6826)) 67 (.int .i64 ((a0).length : Int))) 68 (.int .i64 z6592)) 71 (.int .i64 ((a0).length : Int))) 72 (.int .i64 z6828)) ∧ St w0 w I6593 [ownS (tyInt .i64) v6826 z6825, ownS (tyInt .i64) v6823 z6822, cells b5398 [v5400], at_label_Lattice v5400 z6591] R) n6830 ⟨[], [], (0:Int), Zs, Zs, _, hm, (fu 4 (.int .i64 ((a0).length : Int)) z (fu 5 (Pt b5398 0) z (fu 9 (.int .i64 z6592) z (fu 10 (.slice none 0 0) z (fu 11 (.slice none 0 0) z (fu 67 (.int .i64 ((a0).length : Int)) z (fu 68 (.int .i64 z6592) z (fu 71 (.int .i64 ((a0).length : Int)) z (fu 72 (.int .i64 (0:Int)) z z))))))))), hst⟩ ?_
 rintro n6836 _ w6831 ⟨z6822, z6825, z6828, v6823, v6826, σ6829, hm, rfl, hst⟩
 obtain ⟨n6833, y6834, rfl, hm, hx6835⟩ := loopN_some hm
 dsimp only [label_New_l7] at hm
 refine wp_seq (wrl (wv (.bool (decide (z6828 < ((a0).length : Int)))) z z z (wl_nil (tn (wp_seq ?_)))))
 refine bsplit (decide (z6828 < ((a0).length : Int))) (fun hc6837 => ?_) (fun hc6837 => ?_)
 {
 replace hm := bif_t hc6837 hm
 refine wp_ift (cvb hc6837) ?_
 refine wp_skip (tn (wp_seq (wp_block (wp_seq (wrl ?_)))))
 refine wv (.int .i64 z6828) z z z (wv (.int .i64 z6828) z z z (wl_nil (tn (wp_seq ?_))))
 replace hst := hst.pull3
 obtain ⟨b6838, v6839, v6841, v6843, v6845, v6847, v6849, rfl, hst'⟩ := at_label_Lattice_open hst
 clear hst
 have hst := hst'
 clear hst'
 refine wp_region_St hst 25 [0, 1, 2, 3, 4, 5, 6, 7, 8, 9, 10, 11, 12, 13, 14, 15, 16, 17, 18, 19, 20, 21, 22, 23, 24] [0, 1, 3, 7, 0, 31, 63, 0, 128, 384, 896, 0, 3968, 8064, 16383, 0, 32768, 98304, 229376, 524287, 1048575, 2097151, 2097151, 4194303, 16777215] [] z (by kernel_rfl) (by kernel_rfl) Try.mixed (by kernel_rfl) ?_
 refine wsr (Pt b6838 0) 0 z z z (by kernel_rfl) (fun w hst => x_load z isAgg24 (hst.bc9 z)) (wsr (Pt b6838 0) 1 z z z (by kernel_rfl) (fun w hst => z) (wsr (Pt b6838 0) 2 z z z (by kernel_rfl) (fun w hst => x_field z underlying49 z sizeOf28 z) (wsr (v6839) 3 z z z (by kernel_rfl) (fun w hst => x_load z isAgg28 (hst.bc0 z)) (wsr (.int .i64 z6592) 4 z z z (by kernel_rfl) (fun w hst => z) ?_))))
 obtain ⟨x6851, hx6852, hm⟩ := bind_some hm
 obtain ⟨h6853, h6854, hi6855⟩ := geto_some hx6852
 refine wsr (.pointer (some (eAddr v6839 (z6592.toNat * 1 + 0)))) 5 z z z (by kernel_rfl) (fun w hst => x_index z z underlying28 sizeOf43 hst.sv1 h6853 h6854) (wsr (.int .u64 x6851) 6 z z z (by kernel_rfl) (fun w hst => x_load z isAgg43 (hst.ol1 hi6855 (by rintro _ rfl; rfl))) (wsr (Pt b6838 0) 7 z z z (by kernel_rfl) (fun w hst => x_load z isAgg24 (hst.bc9 z)) (wsr (Pt b6838 0) 8 z z z (by kernel_rfl) (fun w hst => z) (wsr (Pt b6838 0) 9 z z z (by kernel_rfl) (fun w hst => x_field z underlying49 z sizeOf28 z) (wsr (v6839) 10 z z z (by kernel_rfl) (fun w hst => x_load z isAgg28 (hst.bc0 z)) (wsr (.int .i64 z6828) 11 z z z (by kernel_rfl) (fun w hst => z) ?_))))))
 obtain ⟨x6856, hx6857, hm⟩ := bind_some hm
 obtain ⟨h6858, h6859, hi6860⟩ := geto_some hx6857
 refine wsr (.pointer (some (eAddr v6839 (z6828.toNat * 1 + 0)))) 12 z z z (by kernel_rfl) (fun w hst => x_index z z underlying28 sizeOf43 hst.sv1 h6858 h6859) (wsr (.int .u64 x6856) 13 z z z (by kernel_rfl) (fun w hst => x_load z isAgg43 (hst.ol1 hi6860 (by rintro _ rfl; rfl))) (wsr (.int .u64 (bAnd .u64 x6851 x6856)) 14 z z z (by kernel_rfl) (fun w hst => z) (wsr (Pt b6838 0) 15 z z z (by kernel_rfl) (fun w hst => x_load z isAgg24 (hst.bc9 z)) (wsr (Pt b6838 0) 16 z z z (by kernel_rfl) (fun w hst => z) (wsr (Pt b6838 0) 17 z z z (by kernel_rfl) (fun w hst => x_field z underlying49 z sizeOf28 z) (wsr (v6839) 18 z z z (by kernel_rfl) (fun w hst => x_load z isAgg28 (hst.bc0 z)) ?_))))))
 refine ws_e1 19 (by kernel_rfl) ?_
 refine nxe [20, 21, 22, 23, 24] (by kernel_rfl) z z ?_
 clear hst
 intro w hst
 replace hst := hst.pull1
 obtain ⟨css6861, hq6862, hst⟩ := hst.own_open
 obtain ⟨t6863, ht6864, hm⟩ := bind_some hm
 refine wec call27 [U6 (bAnd .u64 x6851 x6856), v6839] z z ?_
 refine (label_least_ref (hst.rdrow0 hq6862) hst.to0 ht6864).mono ?_
 rintro _ w6865 ⟨rfl, hst⟩
 refine ⟨_, z, ?_⟩
 replace hst := hst.of0.own_close hq6862
 refine ws_next (pend' := []) hst (by kernel_rfl) pk_nil ?_
 refine wsr (.tuple #[I6 t6863.1, .bool t6863.2]) 20 z z z (by kernel_rfl) (fun w hst => z) (wsr (.int .i64 t6863.1) 21 z z z (by kernel_rfl) (fun w hst => z) (wsr (.bool t6863.2) 22 z z z (by kernel_rfl) (fun w hst => z) (wsr (.int .i64 t6863.1) 23 z z z (by kernel_rfl) (fun w hst => z) (wsr (.bool t6863.2) 24 z z z (by kernel_rfl) (fun w hst => z) ?_))))
 refine ws_nil ?_
 intro w hst
 refine tn (wp_seq ?_)
 refine wp_region_St hst 25 [0, 1, 2, 3, 4, 5, 6, 7, 8, 9, 10, 11, 12, 13, 14, 15, 16, 17, 18, 19, 20, 21, 22, 23, 24] [0, 1, 3, 7, 0, 31, 63, 0, 128, 384, 896, 0, 3968, 8064, 16383, 0, 32768, 98304, 229376, 524287, 1048575, 2097151, 2097151, 4194303, 16777215] [] z (by kernel_rfl) (by kernel_rfl) Try.mixed (by kernel_rfl) ?_
 refine wsr (Pt b6838 0) 0 z z z (by kernel_rfl) (fun w hst => x_load z isAgg24 (hst.bc9 z)) (wsr (Pt b6838 0) 1 z z z (by kernel_rfl) (fun w hst => z) (wsr (Pt b6838 1) 2 z z z (by kernel_rfl) (fun w hst => x_field z underlying49 z sizeOf28 z) (wsr (v6841) 3 z z z (by kernel_rfl) (fun w hst => x_load z isAgg28 (hst.bc1 z)) (wsr (.int .i64 z6592) 4 z z z (by kernel_rfl) (fun w hst => z) ?_))))
 obtain ⟨x6868, hx6869, hm⟩ := bind_some hm
 obtain ⟨h6870, h6871, hi6872⟩ := geto_some hx6869
 refine wsr (.pointer (some (eAddr v6841 (z6592.toNat * 1 + 0)))) 5 z z z (by kernel_rfl) (fun w hst => x_index z z underlying28 sizeOf43 hst.sv2 h6870 h6871) (wsr (.int .u64 x6868) 6 z z z (by kernel_rfl) (fun w hst => x_load z isAgg43 (hst.ol2 hi6872 (by rintro _ rfl; rfl))) (wsr (Pt b6838 0) 7 z z z (by kernel_rfl) (fun w hst => x_load z isAgg24 (hst.bc9 z)) (wsr (Pt b6838 0) 8 z z z (by kernel_rfl) (fun w hst => z) (wsr (Pt b6838 1) 9 z z z (by kernel_rfl) (fun w hst => x_field z underlying49 z sizeOf28 z) (wsr (v6841) 10 z z z (by kernel_rfl) (fun w hst => x_load z isAgg28 (hst.bc1 z)) (wsr (.int .i64 z6828) 11 z z z (by kernel_rfl) (fun w hst => z) ?_))))))
 obtain ⟨x6873, hx6874, hm⟩ := bind_some hm
 obtain ⟨h6875, h6876, hi6877⟩ := geto_some hx6874
 refine wsr (.pointer (some (eAddr v6841 (z6828.toNat * 1 + 0)))) 12 z z z (by kernel_rfl) (fun w hst => x_index z z underlying28 sizeOf43 hst.sv2 h6875 h6876) (wsr (.int .u64 x6873) 13 z z z (by kernel_rfl) (fun w hst => x_load z isAgg43 (hst.ol2 hi6877 (by rintro _ rfl; rfl))) (wsr (.int .u64 (bAnd .u64 x6868 x6873)) 14 z z z (by kernel_rfl) (fun w hst => z) (wsr (Pt b6838 0) 15 z z z (by kernel_rfl) (fun w hst => x_load z isAgg24 (hst.bc9 z)) (wsr (Pt b6838 0) 16 z z z (by kernel_rfl) (fun w hst => z) (wsr (Pt b6838 1) 17 z z z (by kernel_rfl) (fun w hst => x_field z underlying49 z sizeOf28 z) (wsr (v6841) 18 z z z (by kernel_rfl) (fun w hst => x_load z isAgg28 (hst.bc1 z)) ?_))))))
 refine ws_e1 19 (by kernel_rfl) ?_
 refine nxe [20, 21, 22, 23, 24] (by kernel_rfl) z z ?_
 clear hst
 intro w hst
 replace hst := hst.pull2
 obtain ⟨css6878, hq6879, hst⟩ := hst.own_open
 obtain ⟨t6880, ht6881, hm⟩ := bind_some hm
 refine wec call27 [U6 (bAnd .u64 x6868 x6873), v6841] z z ?_
 refine (label_least_ref (hst.rdrow0 hq6879) hst.to0 ht6881).mono ?_
 rintro _ w6882 ⟨rfl, hst⟩
 refine ⟨_, z, ?_⟩
 replace hst := hst.of0.own_close hq6879
 refine ws_next (pend' := []) hst (by kernel_rfl) pk_nil ?_
 refine wsr (.tuple #[I6 t6880.1, .bool t6880.2]) 20 z z z (by kernel_rfl) (fun w hst => z) (wsr (.int .i64 t6880.1) 21 z z z (by kernel_rfl) (fun w hst => z) (wsr (.bool t6880.2) 22 z z z (by kernel_rfl) (fun w hst => z) (wsr (.int .i64 t6880.1) 23 z z z (by kernel_rfl) (fun w hst => z) (wsr (.bool t6880.2) 24 z z z (by kernel_rfl) (fun w hst => z) ?_))))
 refine ws_nil ?_
 intro w hst
 refine tn (wp_seq (wp_seq (wrl (wv (.bool t6863.2) z z z (wv (.bool (!t6863.2)) z z z (wv (.bool (!t6863.2)) z z z ?_))))))
 refine bsplit (!t6863.2) (fun hc6885 => ?_) (fun hc6885 => ?_)
 {
 replace hm := bif_t hc6885 hm
 refine wo hc6885 z z z z z z (wo hc6885 z z z z z z (wv (.bool true) z z (x_pick_t hc6885 z z) (wl_nil (tn ?_))))
 refine wp_ift z ?_
 refine wp_seq (wrl (wv (.pointer none) z z z (wv (.int .i64 (15:Int)) z z z (wl_nil (tn (wp_ret (then_r (blk_r (then_r (then_r ?_))))))))))
 replace hm := inr_up hm hx6835
 refine blk_r (then_r ?_)
 replace hm := inr_up hm hx6916
 refine blk_r (then_r (then_r ?_))
 replace hm := inr_up hm hx6600
 refine blk_r (then_r ?_)
 replace hm := inr_up hm hx7056
 replace hst := hst.objO_nil at_label_Lattice
 obtain rfl := some_inj hm
 refine post_ret (vs := [.pointer none, I6 (15:Int)]) results10 (rvs_cons (rv_tmp z) (rvs_cons (rv_tmp z) rvs_nil)) ?_
 exact ⟨_, .pointer none, z, hI0, hst.keep1⟩
}
 {
 replace hm := bif_f hc6885 hm
 refine wv (.bool t6880.2) ((wanted_eq z z z (cvb hc6885)).trans z) z z (wv (.bool (!t6880.2)) ((wanted_eq z z z (cvb hc6885)).trans z) z z (wv (.bool (!t6880.2)) z z (x_pick_f hc6885 z z) (wl_nil (tn ?_))))
 refine bsplit (!t6880.2) (fun hc6887 => ?_) (fun hc6887 => ?_)
 {
 replace hm := bif_t hc6887 hm
 refine wp_ift (cvb hc6887) ?_
 refine wp_seq (wrl (wv (.pointer none) z z z (wv (.int .i64 (15:Int)) z z z (wl_nil (tn (wp_ret (then_r (blk_r (then_r (then_r ?_))))))))))
 replace hm := inr_up hm hx6835
 refine blk_r (then_r ?_)
 replace hm := inr_up hm hx6916
 refine blk_r (then_r (then_r ?_))
 replace hm := inr_up hm hx6600
 refine blk_r (then_r ?_)
 replace hm := inr_up hm hx7056
 replace hst := hst.objO_nil at_label_Lattice
 obtain rfl := some_inj hm
 refine post_ret (vs := [.pointer none, I6 (15:Int)]) results10 (rvs_cons (rv_tmp z) (rvs_cons (rv_tmp z) rvs_nil)) ?_
 exact ⟨_, .pointer none, z, hI0, hst.keep1⟩
}
 {
 replace hm := bif_f hc6887 hm
 refine wp_iff (cvb hc6887) ?_
 refine wp_skip (tn (wrl ?_))
 refine wv (v6823) z z z (wv (.int .i64 t6863.1) z z z ?_)
 obtain ⟨b6889, w6890, ew6891, eb6892, hst⟩ := hst.lits (E := (tyInt .i64)) (xs := [t6863.1]) [[I6 t6863.1]] 3 1 z (Reps.cons z Reps.nil)
 refine wl_run (v := (.slice (some ⟨b6889, 0, none⟩) 1 1)) (w' := w6890) z z (x_als (by kernel_rfl) ew6891 eb6892) ?_
 obtain ⟨hg6894, hm⟩ := gd_some hm
 replace hst := hst.pull9
 obtain ⟨v6895, w6896, hr6897, hst⟩ := run_append elem_41 underlying41 hst hst.src1 (room_of hg6894 z) 41
 refine wl_run (v := v6895) (w' := w6896) z z (x_append z z hr6897) ?_
 refine wv (v6826) z z z (wv (.int .i64 t6880.1) z z z ?_)
 obtain ⟨b6899, w6900, ew6901, eb6902, hst⟩ := hst.lits (E := (tyInt .i64)) (xs := [t6880.1]) [[I6 t6880.1]] 3 1 z (Reps.cons z Reps.nil)
 refine wl_run (v := (.slice (some ⟨b6899, 0, none⟩) 1 1)) (w' := w6900) z z (x_als (by kernel_rfl) ew6901 eb6902) ?_
 obtain ⟨hg6904, hm⟩ := gd_some hm
 replace hst := hst.pull10
 obtain ⟨v6905, w6906, hr6907, hst⟩ := run_append elem_41 underlying41 hst hst.src1 (room_of hg6904 z) 41
 refine wl_run (v := v6905) (w' := w6906) z z (x_append z z hr6907) ?_
 refine wv (v6895) z z z (wv (v6905) z z z (wl_nil (blk_n (tn (wrl (wv (.int .i64 (i64.wrap (z6828 + (1:Int)))) z z z (wv (.int .i64 (i64.wrap (z6828 + (1:Int)))) z z z (wl_nil (tn ?_)))))))))
 replace hst := hst.pull10.pull10.pull10.pull10.pull8.pull9.pull10
 replace hst := at_label_Lattice_close (pv := Pt b6838 0) (x := z6591) hst z
 replace hst := hst.pull5.pull4.pull3.keep4
 obtain rfl := some_inj hm
 exact ⟨_, Nat.lt_succ_self _, (z6822 ++ ([t6863.1])), (z6825 ++ ([t6880.1])), (i64.wrap (z6828 + (1:Int))), v6895, v6905, _, hx6835, (fu 4 (.int .i64 ((a0).length : Int)) z (fu 5 (Pt b5398 0) z (fu 9 (.int .i64 z6592) z (fu 10 v6895 z (fu 11 v6905 z (fu 67 (.int .i64 ((a0).length : Int)) z (fu 68 (.int .i64 z6592) z (fu 71 (.int .i64 ((a0).length : Int)) z (fu 72 (.int .i64 (i64.wrap (z6828 + (1:Int)))) z z))))))))), hst⟩
}
}
}
 {
 replace hm := bif_f hc6837 hm
 refine wp_iff (cvb hc6837) ?_
 refine wp_exit (then_x (then_x ?_))
 replace hm := inr_up hm hx6835
 refine blk_x (tn ?_)
 replace hst := hst.pull1.pull3.pull3.keep4
 obtain rfl := some_inj hm
 exact ⟨z6822, z6825, v6823, v6826, _, hx6916, (fu 4 (.int .i64 ((a0).length : Int)) z (fu 5 (Pt b5398 0) z (fu 9 (.int .i64 z6592) z (fu 10 v6823 z (fu 11 v6826 z (fu 67 (.int .i64 ((a0).length : Int)) z (fu 68 (.int .i64 z6592) z z))))))), hst⟩
}
}
 {
 clear hst
 rintro _ w6917 ⟨z6909, z6912, v6908, v6911, σ6913, hm, rfl, hst⟩
 dsimp only [label_New_j6] at hm
 refine wp_seq ?_
 replace hst := hst.pull1
 obtain ⟨b6918, v6919, v6921, v6923, v6925, v6927, v6929, rfl, hst'⟩ := at_label_Lattice_open hst
 clear hst
 have hst := hst'
 clear hst'
 obtain ⟨y7021, hm, hx7022⟩ := bind_some hm
 refine wp_mid (fun a w => ∃ (I7018 : HL) (σ7019 : Nat → Value), (label_New_j8 z6591 z6909 z6912 z6592) () = some y6599 ∧ a = Fr 192 (upd (upd (upd (upd (upd σ7019 4 (.int .i64 ((a0).length : Int))) 5 (Pt b5398 0)) 9 (.int .i64 z6592)) 67 (.int .i64 ((a0).length : Int))) 68 (.int .i64 z6592)) ∧ I6593.le I7018 ∧ St w0 w I7018 [cells b5398 [Pt b6918 0], at_label_Lattice (Pt b6918 0) ({ up := z6591.up, down := z6591.down, join := (z6591.join ++ ([z6909])), meet := (z6591.meet ++ ([z6912])), rank := z6591.rank, all := z6591.all } : label_Lattice)] R) ?_ ?_
 {
 have hL7023 := HL.le.refl I6593
 refine wp_region_St hst 22 [0, 1, 2, 3, 4, 5, 6, 7, 8, 9, 10, 11, 12, 13, 14, 15, 16, 17, 18, 19, 20, 21] [0, 0, 0, 4, 12, 28, 0, 64, 252, 0, 512, 1536, 3584, 0, 8192, 32764, 65533, 131069, 262141, 524287, 1048575, 2097151] [] z (by kernel_rfl) (by kernel_rfl) Try.mixed (by kernel_rfl) ?_
 refine wsr (Pt b6918 0) 0 z z z (by kernel_rfl) (fun w hst => x_load z isAgg24 (hst.bc7 z)) (wsr (Pt b6918 0) 1 z z z (by kernel_rfl) (fun w hst => x_load z isAgg24 (hst.bc7 z)) (wsr (Pt b6918 0) 2 z z z (by kernel_rfl) (fun w hst => x_load z isAgg24 (hst.bc7 z)) (wsr (Pt b6918 0) 3 z z z (by kernel_rfl) (fun w hst => z) (wsr (Pt b6918 2) 4 z z z (by kernel_rfl) (fun w hst => x_field z underlying49 z sizeOf47 z) (wsr (v6923) 5 z z z (by kernel_rfl) (fun w hst => x_load z isAgg47 (hst.bc0 z)) (wsr (v6908) 6 z z z (by kernel_rfl) (fun w hst => z) (wsr (Pt b6918 0) 9 z z z (by kernel_rfl) (fun w hst => x_load z isAgg24 (hst.bc7 z)) (wsr (Pt b6918 0) 10 z z z (by kernel_rfl) (fun w hst => z) (wsr (Pt b6918 3) 11 z z z (by kernel_rfl) (fun w hst => x_field z underlying49 z sizeOf47 z) (wsr (v6925) 12 z z z (by kernel_rfl) (fun w hst => x_load z isAgg47 (hst.bc0 z)) (wsr (v6911) 13 z z z (by kernel_rfl) (fun w hst => z) ?_)))))))))))
 refine ws_e2 7 14 (by kernel_rfl) ?_ ?_
 {
 refine nxe [8, 14, 15, 16, 17, 18, 19, 20, 21] (by kernel_rfl) z z ?_
 clear hst
 intro w hst
 replace hst := hst.pull8
 obtain ⟨I6932, hI6933, f6934, hst⟩ := hst.own_fix
 replace f0_0 := f0_0.mono (rd_le hI6933)
 replace hI0 := hI0.trans hI6933
 replace hL7057 := hL7057.trans hI6933
 replace hL6597 := hL6597.trans hI6933
 replace hL7023 := hL7023.trans hI6933
 obtain ⟨b6935, w6936, ew6937, eb6938, hst⟩ := hst.lits (E := (tySl (tyInt .i64))) (xs := [z6909]) [[v6908]] 41 1 z (Reps.cons ⟨_, z, f6934, one_of_sliceV (ro_sliceV f6934)⟩ Reps.nil)
 refine we_run (v := (.slice (some ⟨b6935, 0, none⟩) 1 1)) (w' := w6936) z (x_als (by obtain ⟨_, _, hv_, _⟩ := (ro_sliceV f6934); rw [hv_]; kernel_rfl) ew6937 eb6938) ?_
 refine ws_next (pend' := [(13, v6911), (12, v6925), (11, Pt b6918 3), (10, Pt b6918 0), (9, Pt b6918 0), (5, v6923), (4, Pt b6918 2), (3, Pt b6918 0), (2, Pt b6918 0), (1, Pt b6918 0), (0, Pt b6918 0)]) hst (by kernel_rfl) (pkr z z (fun w hst => z) (pkr z z (fun w hst => x_load z isAgg47 (hst.bc1 z)) (pkr z z (fun w hst => x_field z underlying49 z sizeOf47 z) (pkr z z (fun w hst => z) (pkr z z (fun w hst => x_load z isAgg24 (hst.bc8 z)) (pkr z z (fun w hst => x_load z isAgg47 (hst.bc1 z)) (pkr z z (fun w hst => x_field z underlying49 z sizeOf47 z) (pkr z z (fun w hst => z) (pkr z z (fun w hst => x_load z isAgg24 (hst.bc8 z)) (pkr z z (fun w hst => x_load z isAgg24 (hst.bc8 z)) (pkr z z (fun w hst => x_load z isAgg24 (hst.bc8 z)) pk_nil))))))))))) ?_
 refine ws_e2 8 14 (by kernel_rfl) ?_ ?_
 {
 refine nxe [14, 15, 16, 17, 18, 19, 20, 21] (by kernel_rfl) z z ?_
 clear hst
 intro w hst
 obtain ⟨hg6940, hm⟩ := gd_some hm
 replace hst := hst.pull4
 obtain ⟨v6941, w6942, hr6943, hst⟩ := run_append elem_47 underlying47 hst hst.src1 (room_of hg6940 z) 47
 refine we_run (v := v6941) (w' := w6942) z (x_append z z hr6943) ?_
 refine ws_next (pend' := [(13, v6911), (12, v6925), (11, Pt b6918 3), (10, Pt b6918 0), (9, Pt b6918 0), (1, Pt b6918 0), (0, Pt b6918 0)]) hst (by kernel_rfl) (pkr z z (fun w hst => z) (pkr z z (fun w hst => x_load z isAgg47 (hst.bc2 z)) (pkr z z (fun w hst => x_field z underlying49 z sizeOf47 z) (pkr z z (fun w hst => z) (pkr z z (fun w hst => x_load z isAgg24 (hst.bc8 z)) (pkr z z (fun w hst => x_load z isAgg24 (hst.bc8 z)) (pkr z z (fun w hst => x_load z isAgg24 (hst.bc8 z)) pk_nil))))))) ?_
 refine ws_e1 14 (by kernel_rfl) ?_
 refine nxe [15, 16, 17, 18, 19, 20, 21] (by kernel_rfl) z z ?_
 clear hst
 intro w hst
 replace hst := hst.pull9
 obtain ⟨I6946, hI6947, f6948, hst⟩ := hst.own_fix
 replace f0_0 := f0_0.mono (rd_le hI6947)
 replace f6934 := f6934.mono (ro_le hI6947)
 replace hI0 := hI0.trans hI6947
 replace hL7057 := hL7057.trans hI6947
 replace hL6597 := hL6597.trans hI6947
 replace hL7023 := hL7023.trans hI6947
 obtain ⟨b6949, w6950, ew6951, eb6952, hst⟩ := hst.lits (E := (tySl (tyInt .i64))) (xs := [z6912]) [[v6911]] 41 1 z (Reps.cons ⟨_, z, f6948, one_of_sliceV (ro_sliceV f6948)⟩ Reps.nil)
 refine we_run (v := (.slice (some ⟨b6949, 0, none⟩) 1 1)) (w' := w6950) z (x_als (by obtain ⟨_, _, hv_, _⟩ := (ro_sliceV f6948); rw [hv_]; kernel_rfl) ew6951 eb6952) ?_
 refine ws_next (pend' := [(12, v6925), (11, Pt b6918 3), (10, Pt b6918 0), (9, Pt b6918 0), (1, Pt b6918 0), (0, Pt b6918 0)]) hst (by kernel_rfl) (pkr z z (fun w hst => x_load z isAgg47 (hst.bc3 z)) (pkr z z (fun w hst => x_field z underlying49 z sizeOf47 z) (pkr z z (fun w hst => z) (pkr z z (fun w hst => x_load z isAgg24 (hst.bc9 z)) (pkr z z (fun w hst => x_load z isAgg24 (hst.bc9 z)) (pkr z z (fun w hst => x_load z isAgg24 (hst.bc9 z)) pk_nil)))))) ?_
 refine ws_e1 15 (by kernel_rfl) ?_
 refine nxe [16, 17, 18, 19, 20, 21] (by kernel_rfl) z z ?_
 clear hst
 intro w hst
 obtain ⟨hg6954, hm⟩ := gd_some hm
 replace hst := hst.pull6
 obtain ⟨v6955, w6956, hr6957, hst⟩ := run_append elem_47 underlying47 hst hst.src1 (room_of hg6954 z) 47
 refine we_run (v := v6955) (w' := w6956) z (x_append z z hr6957) ?_
 refine ws_next (pend' := [(1, Pt b6918 0), (0, Pt b6918 0)]) hst (by kernel_rfl) (pkr z z (fun w hst => x_load z isAgg24 (hst.bc9 z)) (pkr z z (fun w hst => x_load z isAgg24 (hst.bc9 z)) pk_nil)) ?_
 refine wsr (Pt b6918 0) 16 z z z (by kernel_rfl) (fun w hst => z) (wsr (Pt b6918 2) 17 z z z (by kernel_rfl) (fun w hst => x_field z underlying49 z sizeOf47 z) ?_)
 refine ws_e1 18 (by kernel_rfl) ?_
 refine nxe [19, 20, 21] (by kernel_rfl) z z ?_
 clear hst
 intro w hst
 replace hst := hst.pull4
 obtain ⟨w6959, hr6960, hst⟩ := hst.boxStore1 (P := prog) (t := 47) (cs' := [v6919, v6921, v6941, v6925, v6927, v6929]) 2 v6941 (one_of_sliceV hst.sv3) sizeOf47 z z
 refine we_unit z (x_unit hr6960) ?_
 refine ws_next (pend' := [(1, Pt b6918 0)]) hst (by kernel_rfl) (pkr z z (fun w hst => x_load z isAgg24 (hst.bc9 z)) pk_nil) ?_
 refine wsr (Pt b6918 0) 19 z z z (by kernel_rfl) (fun w hst => z) (wsr (Pt b6918 3) 20 z z z (by kernel_rfl) (fun w hst => x_field z underlying49 z sizeOf47 z) ?_)
 refine ws_e1 21 (by kernel_rfl) ?_
 refine nxe [] (by kernel_rfl) z z ?_
 clear hst
 intro w hst
 obtain ⟨w6961, hr6962, hst⟩ := hst.boxStore1 (P := prog) (t := 47) (cs' := [v6919, v6921, v6941, v6955, v6927, v6929]) 3 v6955 (one_of_sliceV hst.sv1) sizeOf47 z z
 refine we_unit z (x_unit hr6962) ?_
 refine ws_next (pend' := []) hst (by kernel_rfl) pk_nil ?_
 refine ws_nil ?_
 intro w hst
 refine ⟨z, ?_⟩
 replace hst := hst.pull8.pull8.pull3.pull5.pull8.pull8.pull6
 replace hst := at_label_Lattice_close (pv := Pt b6918 0) (x := ({ up := z6591.up, down := z6591.down, join := (z6591.join ++ ([z6909])), meet := (z6591.meet ++ ([z6912])), rank := z6591.rank, all := z6591.all } : label_Lattice)) hst z
 replace hst := hst.pull3.keep2
 obtain rfl := some_inj hm
 exact ⟨_, _, hx7022, (fu 4 (.int .i64 ((a0).length : Int)) z (fu 5 (Pt b5398 0) z (fu 9 (.int .i64 z6592) z (fu 67 (.int .i64 ((a0).length : Int)) z (fu 68 (.int .i64 z6592) z z))))), hL7023, hst⟩
}
 {
 refine nxe [8, 15, 16, 17, 18, 19, 20, 21] (by kernel_rfl) z z ?_
 clear hst
 intro w hst
 replace hst := hst.pull9
 obtain ⟨I6964, hI6965, f6966, hst⟩ := hst.own_fix
 replace f0_0 := f0_0.mono (rd_le hI6965)
 replace f6934 := f6934.mono (ro_le hI6965)
 replace hI0 := hI0.trans hI6965
 replace hL7057 := hL7057.trans hI6965
 replace hL6597 := hL6597.trans hI6965
 replace hL7023 := hL7023.trans hI6965
 obtain ⟨b6967, w6968, ew6969, eb6970, hst⟩ := hst.lits (E := (tySl (tyInt .i64))) (xs := [z6912]) [[v6911]] 41 1 z (Reps.cons ⟨_, z, f6966, one_of_sliceV (ro_sliceV f6966)⟩ Reps.nil)
 refine we_run (v := (.slice (some ⟨b6967, 0, none⟩) 1 1)) (w' := w6968) z (x_als (by obtain ⟨_, _, hv_, _⟩ := (ro_sliceV f6966); rw [hv_]; kernel_rfl) ew6969 eb6970) ?_
 refine ws_next (pend' := [(12, v6925), (11, Pt b6918 3), (10, Pt b6918 0), (9, Pt b6918 0), (5, v6923), (4, Pt b6918 2), (3, Pt b6918 0), (2, Pt b6918 0), (1, Pt b6918 0), (0, Pt b6918 0)]) hst (by kernel_rfl) (pkr z z (fun w hst => x_load z isAgg47 (hst.bc2 z)) (pkr z z (fun w hst => x_field z underlying49 z sizeOf47 z) (pkr z z (fun w hst => z) (pkr z z (fun w hst => x_load z isAgg24 (hst.bc9 z)) (pkr z z (fun w hst => x_load z isAgg47 (hst.bc2 z)) (pkr z z (fun w hst => x_field z underlying49 z sizeOf47 z) (pkr z z (fun w hst => z) (pkr z z (fun w hst => x_load z isAgg24 (hst.bc9 z)) (pkr z z (fun w hst => x_load z isAgg24 (hst.bc9 z)) (pkr z z (fun w hst => x_load z isAgg24 (hst.bc9 z)) pk_nil)))))))))) ?_
 refine ws_e1 8 (by kernel_rfl) ?_
 refine nxe [15, 16, 17, 18, 19, 20, 21] (by kernel_rfl) z z ?_
 clear hst
 intro w hst
 obtain ⟨hg6972, hm⟩ := gd_some hm
 replace hst := hst.pull5
 obtain ⟨v6973, w6974, hr6975, hst⟩ := run_append elem_47 underlying47 hst hst.src2 (room_of hg6972 z) 47
 refine we_run (v := v6973) (w' := w6974) z (x_append z z hr6975) ?_
 refine ws_next (pend' := [(12, v6925), (11, Pt b6918 3), (10, Pt b6918 0), (9, Pt b6918 0), (1, Pt b6918 0), (0, Pt b6918 0)]) hst (by kernel_rfl) (pkr z z (fun w hst => x_load z isAgg47 (hst.bc3 z)) (pkr z z (fun w hst => x_field z underlying49 z sizeOf47 z) (pkr z z (fun w hst => z) (pkr z z (fun w hst => x_load z isAgg24 (hst.bc9 z)) (pkr z z (fun w hst => x_load z isAgg24 (hst.bc9 z)) (pkr z z (fun w hst => x_load z isAgg24 (hst.bc9 z)) pk_nil)))))) ?_
 refine ws_e1 15 (by kernel_rfl) ?_
 refine nxe [16, 17, 18, 19, 20, 21] (by kernel_rfl) z z ?_
 clear hst
 intro w hst
 obtain ⟨hg6977, hm⟩ := gd_some hm
 replace hst := hst.pull6
 obtain ⟨v6978, w6979, hr6980, hst⟩ := run_append elem_47 underlying47 hst hst.src2 (room_of hg6977 z) 47
 refine we_run (v := v6978) (w' := w6979) z (x_append z z hr6980) ?_
 refine ws_next (pend' := [(1, Pt b6918 0), (0, Pt b6918 0)]) hst (by kernel_rfl) (pkr z z (fun w hst => x_load z isAgg24 (hst.bc9 z)) (pkr z z (fun w hst => x_load z isAgg24 (hst.bc9 z)) pk_nil)) ?_
 refine wsr (Pt b6918 0) 16 z z z (by kernel_rfl) (fun w hst => z) (wsr (Pt b6918 2) 17 z z z (by kernel_rfl) (fun w hst => x_field z underlying49 z sizeOf47 z) ?_)
 refine ws_e1 18 (by kernel_rfl) ?_
 refine nxe [19, 20, 21] (by kernel_rfl) z z ?_
 clear hst
 intro w hst
 replace hst := hst.pull4
 obtain ⟨w6982, hr6983, hst⟩ := hst.boxStore1 (P := prog) (t := 47) (cs' := [v6919, v6921, v6973, v6925, v6927, v6929]) 2 v6973 (one_of_sliceV hst.sv2) sizeOf47 z z
 refine we_unit z (x_unit hr6983) ?_
 refine ws_next (pend' := [(1, Pt b6918 0)]) hst (by kernel_rfl) (pkr z z (fun w hst => x_load z isAgg24 (hst.bc9 z)) pk_nil) ?_
 refine wsr (Pt b6918 0) 19 z z z (by kernel_rfl) (fun w hst => z) (wsr (Pt b6918 3) 20 z z z (by kernel_rfl) (fun w hst => x_field z underlying49 z sizeOf47 z) ?_)
 refine ws_e1 21 (by kernel_rfl) ?_
 refine nxe [] (by kernel_rfl) z z ?_
 clear hst
 intro w hst
 obtain ⟨w6984, hr6985, hst⟩ := hst.boxStore1 (P := prog) (t := 47) (cs' := [v6919, v6921, v6973, v6978, v6927, v6929]) 3 v6978 (one_of_sliceV hst.sv1) sizeOf47 z z
 refine we_unit z (x_unit hr6985) ?_
 refine ws_next (pend' := []) hst (by kernel_rfl) pk_nil ?_
 refine ws_nil ?_
 intro w hst
 refine ⟨z, ?_⟩
 replace hst := hst.pull8.pull8.pull3.pull4.pull8.pull8.pull6
 replace hst := at_label_Lattice_close (pv := Pt b6918 0) (x := ({ up := z6591.up, down := z6591.down, join := (z6591.join ++ ([z6909])), meet := (z6591.meet ++ ([z6912])), rank := z6591.rank, all := z6591.all } : label_Lattice)) hst z
 replace hst := hst.pull3.keep2
 obtain rfl := some_inj hm
 exact ⟨_, _, hx7022, (fu 4 (.int .i64 ((a0).length : Int)) z (fu 5 (Pt b5398 0) z (fu 9 (.int .i64 z6592) z (fu 67 (.int .i64 ((a0).length : Int)) z (fu 68 (.int .i64 z6592) z z))))), hL7023, hst⟩
}
}
 {
 refine nxe [7, 8, 15, 16, 17, 18, 19, 20, 21] (by kernel_rfl) z z ?_
 clear hst
 intro w hst
 replace hst := hst.pull9
 obtain ⟨I6987, hI6988, f6989, hst⟩ := hst.own_fix
 replace f0_0 := f0_0.mono (rd_le hI6988)
 replace hI0 := hI0.trans hI6988
 replace hL7057 := hL7057.trans hI6988
 replace hL6597 := hL6597.trans hI6988
 replace hL7023 := hL7023.trans hI6988
 obtain ⟨b6990, w6991, ew6992, eb6993, hst⟩ := hst.lits (E := (tySl (tyInt .i64))) (xs := [z6912]) [[v6911]] 41 1 z (Reps.cons ⟨_, z, f6989, one_of_sliceV (ro_sliceV f6989)⟩ Reps.nil)
 refine we_run (v := (.slice (some ⟨b6990, 0, none⟩) 1 1)) (w' := w6991) z (x_als (by obtain ⟨_, _, hv_, _⟩ := (ro_sliceV f6989); rw [hv_]; kernel_rfl) ew6992 eb6993) ?_
 refine ws_next (pend' := [(12, v6925), (11, Pt b6918 3), (10, Pt b6918 0), (9, Pt b6918 0), (6, v6908), (5, v6923), (4, Pt b6918 2), (3, Pt b6918 0), (2, Pt b6918 0), (1, Pt b6918 0), (0, Pt b6918 0)]) hst (by kernel_rfl) (pkr z z (fun w hst => x_load z isAgg47 (hst.bc1 z)) (pkr z z (fun w hst => x_field z underlying49 z sizeOf47 z) (pkr z z (fun w hst => z) (pkr z z (fun w hst => x_load z isAgg24 (hst.bc8 z)) (pkr z z (fun w hst => z) (pkr z z (fun w hst => x_load z isAgg47 (hst.bc1 z)) (pkr z z (fun w hst => x_field z underlying49 z sizeOf47 z) (pkr z z (fun w hst => z) (pkr z z (fun w hst => x_load z isAgg24 (hst.bc8 z)) (pkr z z (fun w hst => x_load z isAgg24 (hst.bc8 z)) (pkr z z (fun w hst => x_load z isAgg24 (hst.bc8 z)) pk_nil))))))))))) ?_
 refine ws_e1 7 (by kernel_rfl) ?_
 refine nxe [8, 15, 16, 17, 18, 19, 20, 21] (by kernel_rfl) z z ?_
 clear hst
 intro w hst
 replace hst := hst.pull9
 obtain ⟨I6996, hI6997, f6998, hst⟩ := hst.own_fix
 replace f0_0 := f0_0.mono (rd_le hI6997)
 replace f6989 := f6989.mono (ro_le hI6997)
 replace hI0 := hI0.trans hI6997
 replace hL7057 := hL7057.trans hI6997
 replace hL6597 := hL6597.trans hI6997
 replace hL7023 := hL7023.trans hI6997
 obtain ⟨b6999, w7000, ew7001, eb7002, hst⟩ := hst.lits (E := (tySl (tyInt .i64))) (xs := [z6909]) [[v6908]] 41 1 z (Reps.cons ⟨_, z, f6998, one_of_sliceV (ro_sliceV f6998)⟩ Reps.nil)
 refine we_run (v := (.slice (some ⟨b6999, 0, none⟩) 1 1)) (w' := w7000) z (x_als (by obtain ⟨_, _, hv_, _⟩ := (ro_sliceV f6998); rw [hv_]; kernel_rfl) ew7001 eb7002) ?_
 refine ws_next (pend' := [(12, v6925), (11, Pt b6918 3), (10, Pt b6918 0), (9, Pt b6918 0), (5, v6923), (4, Pt b6918 2), (3, Pt b6918 0), (2, Pt b6918 0), (1, Pt b6918 0), (0, Pt b6918 0)]) hst (by kernel_rfl) (pkr z z (fun w hst => x_load z isAgg47 (hst.bc2 z)) (pkr z z (fun w hst => x_field z underlying49 z sizeOf47 z) (pkr z z (fun w hst => z) (pkr z z (fun w hst => x_load z isAgg24 (hst.bc9 z)) (pkr z z (fun w hst => x_load z isAgg47 (hst.bc2 z)) (pkr z z (fun w hst => x_field z underlying49 z sizeOf47 z) (pkr z z (fun w hst => z) (pkr z z (fun w hst => x_load z isAgg24 (hst.bc9 z)) (pkr z z (fun w hst => x_load z isAgg24 (hst.bc9 z)) (pkr z z (fun w hst => x_load z isAgg24 (hst.bc9 z)) pk_nil)))))))))) ?_
 refine ws_e1 8 (by kernel_rfl) ?_
 refine nxe [15, 16, 17, 18, 19, 20, 21] (by kernel_rfl) z z ?_
 clear hst
 intro w hst
 obtain ⟨hg7004, hm⟩ := gd_some hm
 replace hst := hst.pull5
 obtain ⟨v7005, w7006, hr7007, hst⟩ := run_append elem_47 underlying47 hst hst.src1 (room_of hg7004 z) 47
 refine we_run (v := v7005) (w' := w7006) z (x_append z z hr7007) ?_
 refine ws_next (pend' := [(12, v6925), (11, Pt b6918 3), (10, Pt b6918 0), (9, Pt b6918 0), (1, Pt b6918 0), (0, Pt b6918 0)]) hst (by kernel_rfl) (pkr z z (fun w hst => x_load z isAgg47 (hst.bc3 z)) (pkr z z (fun w hst => x_field z underlying49 z sizeOf47 z) (pkr z z (fun w hst => z) (pkr z z (fun w hst => x_load z isAgg24 (hst.bc9 z)) (pkr z z (fun w hst => x_load z isAgg24 (hst.bc9 z)) (pkr z z (fun w hst => x_load z isAgg24 (hst.bc9 z)) pk_nil)))))) ?_
 refine ws_e1 15 (by kernel_rfl) ?_
 refine nxe [16, 17, 18, 19, 20, 21] (by kernel_rfl) z z ?_
 clear hst
 intro w hst
 obtain ⟨hg7009, hm⟩ := gd_some hm
 replace hst := hst.pull6
 obtain ⟨v7010, w7011, hr7012, hst⟩ := run_append elem_47 underlying47 hst hst.src3 (room_of hg7009 z) 47
 refine we_run (v := v7010) (w' := w7011) z (x_append z z hr7012) ?_
 refine ws_next (pend' := [(1, Pt b6918 0), (0, Pt b6918 0)]) hst (by kernel_rfl) (pkr z z (fun w hst => x_load z isAgg24 (hst.bc9 z)) (pkr z z (fun w hst => x_load z isAgg24 (hst.bc9 z)) pk_nil)) ?_
 refine wsr (Pt b6918 0) 16 z z z (by kernel_rfl) (fun w hst => z) (wsr (Pt b6918 2) 17 z z z (by kernel_rfl) (fun w hst => x_field z underlying49 z sizeOf47 z) ?_)
 refine ws_e1 18 (by kernel_rfl) ?_
 refine nxe [19, 20, 21] (by kernel_rfl) z z ?_
 clear hst
 intro w hst
 replace hst := hst.pull4
 obtain ⟨w7014, hr7015, hst⟩ := hst.boxStore1 (P := prog) (t := 47) (cs' := [v6919, v6921, v7005, v6925, v6927, v6929]) 2 v7005 (one_of_sliceV hst.sv2) sizeOf47 z z
 refine we_unit z (x_unit hr7015) ?_
 refine ws_next (pend' := [(1, Pt b6918 0)]) hst (by kernel_rfl) (pkr z z (fun w hst => x_load z isAgg24 (hst.bc9 z)) pk_nil) ?_
 refine wsr (Pt b6918 0) 19 z z z (by kernel_rfl) (fun w hst => z) (wsr (Pt b6918 3) 20 z z z (by kernel_rfl) (fun w hst => x_field z underlying49 z sizeOf47 z) ?_)
 refine ws_e1 21 (by kernel_rfl) ?_
 refine nxe [] (by kernel_rfl) z z ?_
 clear hst
 intro w hst
 obtain ⟨w7016, hr7017, hst⟩ := hst.boxStore1 (P := prog) (t := 47) (cs' := [v6919, v6921, v7005, v7010, v6927, v6929]) 3 v7010 (one_of_sliceV hst.sv1) sizeOf47 z z
 refine we_unit z (x_unit hr7017) ?_
 refine ws_next (pend' := []) hst (by kernel_rfl) pk_nil ?_
 refine ws_nil ?_
 intro w hst
 refine ⟨z, ?_⟩
 replace hst := hst.pull8.pull8.pull3.pull4.pull8.pull8.pull6
 replace hst := at_label_Lattice_close (pv := Pt b6918 0) (x := ({ up := z6591.up, down := z6591.down, join := (z6591.join ++ ([z6909])), meet := (z6591.meet ++ ([z6912])), rank := z6591.rank, all := z6591.all } : label_Lattice)) hst z
 replace hst := hst.pull3.keep2
 obtain rfl := some_inj hm
 exact ⟨_, _, hx7022, (fu 4 (.int .i64 ((a0).length : Int)) z (fu 5 (Pt b5398 0) z (fu 9 (.int .i64 z6592) z (fu 67 (.int .i64 ((a0).length : Int)) z (fu 68 (.int .i64 z6592) z z))))), hL7023, hst⟩
}
}
 {
 clear hst
 rintro _ w7024 ⟨I7018, σ7019, hm, rfl, hL7020, hst⟩
 dsimp only [label_New_j8] at hm
 replace f0_0 := f0_0.mono (rd_le hL7020)
 replace hI0 := hI0.trans hL7020
 replace hL7057 := hL7057.trans hL7020
 replace hL6597 := hL6597.trans hL7020
 refine tn ?_
 replace hst := hst.pull1
 obtain ⟨b7025, v7026, v7028, v7030, v7032, v7034, v7036, e7038, hst'⟩ := at_label_Lattice_open hst
 clear hst
 have e7038 := ptr_inj e7038
 subst e7038
 have hst := hst'
 clear hst'
 refine wp_region_St hst 11 [0, 1, 2, 3, 4, 5, 6, 7, 8, 9, 10] [0, 0, 2, 6, 14, 0, 32, 126, 255, 511, 1023] [] z (by kernel_rfl) (by kernel_rfl) Try.mixed (by kernel_rfl) ?_
 refine wsr (Pt b6918 0) 0 z z z (by kernel_rfl) (fun w hst => x_load z isAgg24 (hst.bc7 z)) (wsr (Pt b6918 0) 1 z z z (by kernel_rfl) (fun w hst => x_load z isAgg24 (hst.bc7 z)) (wsr (Pt b6918 0) 2 z z z (by kernel_rfl) (fun w hst => z) (wsr (Pt b6918 5) 3 z z z (by kernel_rfl) (fun w hst => x_field z underlying49 z sizeOf41 z) (wsr (v7036) 4 z z z (by kernel_rfl) (fun w hst => x_load z isAgg41 (hst.bc0 z)) (wsr (.int .i64 z6592) 5 z z z (by kernel_rfl) (fun w hst => z) ?_)))))
 refine ws_e1 6 (by kernel_rfl) ?_
 refine nxe [7, 8, 9, 10] (by kernel_rfl) z z ?_
 clear hst
 intro w hst
 obtain ⟨b7039, w7040, ew7041, eb7042, hst⟩ := hst.lits (E := (tyInt .i64)) (xs := [z6592]) [[I6 z6592]] 3 1 z (Reps.cons z Reps.nil)
 refine we_run (v := (.slice (some ⟨b7039, 0, none⟩) 1 1)) (w' := w7040) z (x_als (by kernel_rfl) ew7041 eb7042) ?_
 refine ws_next (pend' := [(4, v7036), (3, Pt b6918 5), (2, Pt b6918 0), (1, Pt b6918 0), (0, Pt b6918 0)]) hst (by kernel_rfl) (pkr z z (fun w hst => x_load z isAgg41 (hst.bc1 z)) (pkr z z (fun w hst => x_field z underlying49 z sizeOf41 z) (pkr z z (fun w hst => z) (pkr z z (fun w hst => x_load z isAgg24 (hst.bc8 z)) (pkr z z (fun w hst => x_load z isAgg24 (hst.bc8 z)) pk_nil))))) ?_
 refine ws_e1 7 (by kernel_rfl) ?_
 refine nxe [8, 9, 10] (by kernel_rfl) z z ?_
 clear hst
 intro w hst
 obtain ⟨hg7044, hm⟩ := gd_some hm
 replace hst := hst.pull7
 obtain ⟨v7045, w7046, hr7047, hst⟩ := run_append elem_41 underlying41 hst hst.src1 (room_of hg7044 z) 41
 refine we_run (v := v7045) (w' := w7046) z (x_append z z hr7047) ?_
 refine ws_next (pend' := [(0, Pt b6918 0)]) hst (by kernel_rfl) (pkr z z (fun w hst => x_load z isAgg24 (hst.bc8 z)) pk_nil) ?_
 refine wsr (Pt b6918 0) 8 z z z (by kernel_rfl) (fun w hst => z) (wsr (Pt b6918 5) 9 z z z (by kernel_rfl) (fun w hst => x_field z underlying49 z sizeOf41 z) ?_)
 refine ws_e1 10 (by kernel_rfl) ?_
 refine nxe [] (by kernel_rfl) z z ?_
 clear hst
 intro w hst
 replace hst := hst.pull2
 obtain ⟨w7049, hr7050, hst⟩ := hst.boxStore1 (P := prog) (t := 41) (cs' := [v7026, v7028, v7030, v7032, v7034, v7045]) 5 v7045 (one_of_sliceV hst.sv1) sizeOf41 z z
 refine we_unit z (x_unit hr7050) ?_
 refine ws_next (pend' := []) hst (by kernel_rfl) pk_nil ?_
 refine ws_nil ?_
 intro w hst
 refine blk_n (tn (wrl ?_))
 refine wv (.int .i64 (i64.wrap (z6592 + (1:Int)))) z z z (wv (.int .i64 (i64.wrap (z6592 + (1:Int)))) z z z (wl_nil (tn ?_)))
 replace hst := hst.pull1.pull7.pull7.pull7.pull7.pull7.pull6
 replace hst := at_label_Lattice_close (pv := Pt b6918 0) (x := ({ up := ({ up := z6591.up, down := z6591.down, join := (z6591.join ++ ([z6909])), meet := (z6591.meet ++ ([z6912])), rank := z6591.rank, all := z6591.all } : label_Lattice).up, down := ({ up := z6591.up, down := z6591.down, join := (z6591.join ++ ([z6909])), meet := (z6591.meet ++ ([z6912])), rank := z6591.rank, all := z6591.all } : label_Lattice).down, join := ({ up := z6591.up, down := z6591.down, join := (z6591.join ++ ([z6909])), meet := (z6591.meet ++ ([z6912])), rank := z6591.rank, all := z6591.all } : label_Lattice).join, meet := ({ up := z6591.up, down := z6591.down, join := (z6591.join ++ ([z6909])), meet := (z6591.meet ++ ([z6912])), rank := z6591.rank, all := z6591.all } : label_Lattice).meet, rank := ({ up := z6591.up, down := z6591.down, join := (z6591.join ++ ([z6909])), meet := (z6591.meet ++ ([z6912])), rank := z6591.rank, all := z6591.all } : label_Lattice).rank, all := ((({ up := z6591.up, down := z6591.down, join := (z6591.join ++ ([z6909])), meet := (z6591.meet ++ ([z6912])), rank := z6591.rank, all := z6591.all } : label_Lattice).all) ++ ([z6592])) } : label_Lattice)) hst z
 replace hst := hst.pull2.keep2
 obtain rfl := some_inj hm
 exact ⟨_, Nat.lt_succ_self _, _, ({ up := ({ up := z6591.up, down := z6591.down, join := (z6591.join ++ ([z6909])), meet := (z6591.meet ++ ([z6912])), rank := z6591.rank, all := z6591.all } : label_Lattice).up, down := ({ up := z6591.up, down := z6591.down, join := (z6591.join ++ ([z6909])), meet := (z6591.meet ++ ([z6912])), rank := z6591.rank, all := z6591.all } : label_Lattice).down, join := ({ up := z6591.up, down := z6591.down, join := (z6591.join ++ ([z6909])), meet := (z6591.meet ++ ([z6912])), rank := z6591.rank, all := z6591.all } : label_Lattice).join, meet := ({ up := z6591.up, down := z6591.down, join := (z6591.join ++ ([z6909])), meet := (z6591.meet ++ ([z6912])), rank := z6591.rank, all := z6591.all } : label_Lattice).meet, rank := ({ up := z6591.up, down := z6591.down, join := (z6591.join ++ ([z6909])), meet := (z6591.meet ++ ([z6912])), rank := z6591.rank, all := z6591.all } : label_Lattice).rank, all := ((({ up := z6591.up, down := z6591.down, join := (z6591.join ++ ([z6909])), meet := (z6591.meet ++ ([z6912])), rank := z6591.rank, all := z6591.all } : label_Lattice).all) ++ ([z6592])) } : label_Lattice), (i64.wrap (z6592 + (1:Int))), _, hx6600, (fu 4 (.int .i64 ((a0).length : Int)) z (fu 5 (Pt b5398 0) z (fu 67 (.int .i64 ((a0).length : Int)) z (fu 68 (.int .i64 (i64.wrap (z6592 + (1:Int)))) z z)))), hL6597, hst⟩
}
}
}
 {
 replace hm := bif_f hc6602 hm
 refine wp_iff (cvb hc6602) ?_
 refine wp_exit (then_x (then_x ?_))
 replace hm := inr_up hm hx6600
 refine blk_x (tn ?_)
 replace hst := hst.pull1.pull1.keep2
 obtain rfl := some_inj hm
 exact ⟨_, z6591, _, hx7056, (fu 5 (Pt b5398 0) z z), hL7057, hst⟩
}
}
 {
 clear hst
 rintro _ w7058 ⟨I7052, z7051, σ7053, hm, rfl, hL7054, hst⟩
 dsimp only [label_New_j4] at hm
 replace f0_0 := f0_0.mono (rd_le hL7054)
 replace hI0 := hI0.trans hL7054
 refine wp_seq (wrl (wv (v5400) z z (x_load z isAgg24 (hst.bc0 z)) ?_))
 replace hst := hst.pull1
 obtain ⟨b7059, v7060, v7062, v7064, v7066, v7068, v7070, rfl, hst'⟩ := at_label_Lattice_open hst
 clear hst
 have hst := hst'
 clear hst'
 refine wv (Pt b7059 0) z z z (wv (Pt b7059 5) z z (x_field z underlying49 z sizeOf41 z) (wv (v7070) z z (x_load z isAgg41 (hst.bc0 z)) (wv (.func (.func 29) #[] #[Pt b5398 0]) z z (by kernel_rfl) ?_)))
 obtain ⟨y9368, hq9369, hm⟩ := bind_some hm
 refine wl_call z z (x_callv call28 (caps := []) z (vs := [v7070, .func (.func 29) #[] #[Pt b5398 0]]) z) ?_
 refine Calls.mono (show Calls prog 28 #[v7070, .func (.func 29) #[] #[Pt b5398 0]] _ (fun e w' => ∃ (z9366 : (List Int)), z9366 = y9368 ∧ e = .returned (.tuple #[]) ∧ St w0 w' I7052 [cells b5398 [Pt b7059 0], cells b7059 [v7060, v7062, v7064, v7066, v7068, v7070], ownS (tyInt .u64) v7060 z7051.up, ownS (tyInt .u64) v7062 z7051.down, ownS (tySl (tyInt .i64)) v7064 z7051.join, ownS (tySl (tyInt .i64)) v7066 z7051.meet, ownS (tyInt .i64) v7068 z7051.rank, ownS (tyInt .i64) v7070 z9366] R) from ?_) ?_
 {
 clear hm; have hm := hq9369
 refine calls_start (args := [v7070, .func (.func 29) #[] #[Pt b5398 0]]) func28 z ntmps28 (Nat.le_of_ble_eq_true z) ?_
 refine wrl (wv (v7070) z z z (wv (v7070) z z z (wv (.int .i64 ((z7051.all).length : Int)) z z (x_len z underlying41 hst.sv6) (wv (.func (.func 29) #[] #[Pt b5398 0]) z z z ?_))))
 obtain ⟨y9363, hq9364, hm⟩ := bind_some hm
 refine wl_call z z (x_callv call37 (caps := []) z (vs := [v7070, I6 ((z7051.all).length : Int), .func (.func 29) #[] #[Pt b5398 0]]) z) ?_
 refine Calls.mono (show Calls prog 37 #[v7070, I6 ((z7051.all).length : Int), .func (.func 29) #[] #[Pt b5398 0]] _ (fun e w' => ∃ (z9361 : (List Int)), z9361 = y9363 ∧ e = .returned (.tuple #[]) ∧ St w0 w' I7052 [cells b5398 [Pt b7059 0], cells b7059 [v7060, v7062, v7064, v7066, v7068, v7070], ownS (tyInt .u64) v7060 z7051.up, ownS (tyInt .u64) v7062 z7051.down, ownS (tySl (tyInt .i64)) v7064 z7051.join, ownS (tySl (tyInt .i64)) v7066 z7051.meet, ownS (tyInt .i64) v7068 z7051.rank, ownS (tyInt .i64) v7070 z9361] R) from ?_) ?_
 {
 clear hm; have hm := hq9364
 refine calls_start (args := [v7070, I6 ((z7051.all).length : Int), .func (.func 29) #[] #[Pt b5398 0]]) func37 z ntmps37 (Nat.le_of_ble_eq_true z) ?_
 refine wp_seq (wrl (wv (.int .i64 (20:Int)) z z z (wl_nil (tn (wp_seq (wrl (wv (.int .i64 (20:Int)) z z z (wv (.int .i64 (0:Int)) z z z (wv (.int .i64 (20:Int)) z z z (wl_nil (tn ?_)))))))))))
 obtain ⟨y8746, hm, hx8747⟩ := bind_some hm
 refine wp_cut (fun a w => ∃ (z8742 : (List Int)) (z8743 : Int) (σ8744 : Nat → Value), (label_New_j9 z7051) (z8742, z8743) = some y9363 ∧ a = Fr 63 (upd (upd (upd (upd (upd σ8744 0 (v7070)) 1 (.int .i64 ((z7051.all).length : Int))) 2 (.func (.func 29) #[] #[Pt b5398 0])) 6 (.int .i64 (20:Int))) 7 (.int .i64 z8743)) ∧ St w0 w I7052 [ownS (tyInt .i64) v7070 z8742, cells b5398 [Pt b7059 0], cells b7059 [v7060, v7062, v7064, v7066, v7068, v7070], ownS (tyInt .u64) v7060 z7051.up, ownS (tyInt .u64) v7062 z7051.down, ownS (tySl (tyInt .i64)) v7064 z7051.join, ownS (tySl (tyInt .i64)) v7066 z7051.meet, ownS (tyInt .i64) v7068 z7051.rank] R) ?_ ?_
 {
 refine wp_block ?_
 obtain ⟨n8183, hm⟩ := loopO_some hm
 refine wp_loop_n (fun n a w => ∃ (z8179 : Int) (z8180 : Int) (z8181 : (List Int)) (σ8182 : Nat → Value), loopN (label_New_l10 z7051) n (z8179, z8180, z8181) = some y8746 ∧ a = Fr 63 (upd (upd (upd (upd (upd (upd σ8182 0 (v7070)) 1 (.int .i64 ((z7051.all).length : Int))) 2 (.func (.func 29) #[] #[Pt b5398 0])) 6 (.int .i64 (20:Int))) 7 (.int .i64 z8179)) 8 (.int .i64 z8180)) ∧ St w0 w I7052 [cells b7059 [v7060, v7062, v7064, v7066, v7068, v7070], ownS (tyInt .u64) v7060 z7051.up, ownS (tyInt .u64) v7062 z7051.down, ownS (tySl (tyInt .i64)) v7064 z7051.join, ownS (tySl (tyInt .i64)) v7066 z7051.meet, ownS (tyInt .i64) v7068 z7051.rank, ownS (tyInt .i64) v7070 z8181, cells b5398 [Pt b7059 0]] R) n8183 ⟨(0:Int), (20:Int), z7051.all, _, hm, (fu 0 v7070 z (fu 1 (.int .i64 ((z7051.all).length : Int)) z (fu 2 (.func (.func 29) #[] #[Pt b5398 0]) z (fu 6 (.int .i64 (20:Int)) z (fu 7 (.int .i64 (0:Int)) z (fu 8 (.int .i64 (20:Int)) z z)))))), hst⟩ ?_
 rintro n8189 _ w8184 ⟨z8179, z8180, z8181, σ8182, hm, rfl, hst⟩
 obtain ⟨n8186, y8187, rfl, hm, hx8188⟩ := loopN_some hm
 dsimp only [label_New_l10] at hm
 refine wp_seq (wp_seq (wrl (wv (.int .i64 z8180) z z z (wv (.int .i64 ((z7051.all).length : Int)) z z z (wv (.bool (decide (z8180 ≤ ((z7051.all).length : Int)))) z z z (wl_nil (tn ?_)))))))
 refine bsplit (decide (z8180 ≤ ((z7051.all).length : Int))) (fun hc8190 => ?_) (fun hc8190 => ?_)
 {
 replace hm := bif_t hc8190 hm
 refine wp_ift (cvb hc8190) ?_
 refine wp_skip (tn (wp_block (wp_seq (wrl ?_))))
 refine wv (v7070) z z z (wv (.int .i64 z8179) z z z (wv (.int .i64 z8180) z z z (wv (.func (.func 29) #[] #[Pt b5398 0]) z z z ?_)))
 obtain ⟨y8739, hq8740, hm⟩ := bind_some hm
 refine wl_call z z (x_callv call39 (caps := []) z (vs := [v7070, I6 z8179, I6 z8180, .func (.func 29) #[] #[Pt b5398 0]]) z) ?_
 refine Calls.mono (show Calls prog 39 #[v7070, I6 z8179, I6 z8180, .func (.func 29) #[] #[Pt b5398 0]] _ (fun e w' => ∃ (z8737 : (List Int)), z8737 = y8739 ∧ e = .returned (.tuple #[]) ∧ St w0 w' I7052 [cells b5398 [Pt b7059 0], cells b7059 [v7060, v7062, v7064, v7066, v7068, v7070], ownS (tyInt .u64) v7060 z7051.up, ownS (tyInt .u64) v7062 z7051.down, ownS (tySl (tyInt .i64)) v7064 z7051.join, ownS (tySl (tyInt .i64)) v7066 z7051.meet, ownS (tyInt .i64) v7068 z7051.rank, ownS (tyInt .i64) v7070 z8737] R) from ?_) ?_
 {
 clear hm; have hm := hq8740
 refine calls_start (args := [v7070, I6 z8179, I6 z8180, .func (.func 29) #[] #[Pt b5398 0]]) func39 z ntmps39 (Nat.le_of_ble_eq_true z) ?_
 refine wp_seq (wrl (wv (.int .i64 z8179) z z z (wv (.int .i64 (i64.wrap (z8179 + (1:Int)))) z z z (wv (.int .i64 (i64.wrap (z8179 + (1:Int)))) z z z (wl_nil (tn (wp_block ?_)))))))
 obtain ⟨n8552, hm⟩ := loopO_some hm
 refine wp_loop_n (fun n a w => ∃ (z8549 : Int) (z8550 : (List Int)) (σ8551 : Nat → Value), loopN (label_New_l11 z8180 z8179 z7051) n (z8549, z8550) = some y8739 ∧ a = Fr 53 (upd (upd (upd (upd (upd σ8551 0 (v7070)) 1 (.int .i64 z8179)) 2 (.int .i64 z8180)) 3 (.func (.func 29) #[] #[Pt b5398 0])) 8 (.int .i64 z8549)) ∧ St w0 w I7052 [cells b7059 [v7060, v7062, v7064, v7066, v7068, v7070], ownS (tyInt .u64) v7060 z7051.up, ownS (tyInt .u64) v7062 z7051.down, ownS (tySl (tyInt .i64)) v7064 z7051.join, ownS (tySl (tyInt .i64)) v7066 z7051.meet, ownS (tyInt .i64) v7068 z7051.rank, ownS (tyInt .i64) v7070 z8550, cells b5398 [Pt b7059 0]] R) n8552 ⟨(i64.wrap (z8179 + (1:Int))), z8181, _, hm, (fu 0 v7070 z (fu 1 (.int .i64 z8179) z (fu 2 (.int .i64 z8180) z (fu 3 (.func (.func 29) #[] #[Pt b5398 0]) z (fu 8 (.int .i64 (i64.wrap (z8179 + (1:Int)))) z z))))), hst⟩ ?_
 rintro n8558 _ w8553 ⟨z8549, z8550, σ8551, hm, rfl, hst⟩
 obtain ⟨n8555, y8556, rfl, hm, hx8557⟩ := loopN_some hm
 dsimp only [label_New_l11] at hm
 refine wp_seq (wp_seq (wrl (wv (.int .i64 z8549) z z z (wv (.int .i64 z8180) z z z (wv (.bool (decide (z8549 < z8180))) z z z (wl_nil (tn ?_)))))))
 refine bsplit (decide (z8549 < z8180)) (fun hc8559 => ?_) (fun hc8559 => ?_)
 {
 replace hm := bif_t hc8559 hm
 refine wp_ift (cvb hc8559) ?_
 refine wp_skip (tn (wp_seq (wp_block (wp_seq (wrl ?_)))))
 refine wv (.int .i64 z8549) z z z (wv (.int .i64 z8549) z z z (wl_nil (tn (wp_block ?_))))
 obtain ⟨n8675, hm⟩ := loopO_some hm
 refine wp_loop_n (fun n a w => ∃ (z8672 : Int) (z8673 : (List Int)) (σ8674 : Nat → Value), loopN (label_New_l12 z8179 z7051 z8549) n (z8672, z8673) = some y8556 ∧ a = Fr 53 (upd (upd (upd (upd (upd (upd σ8674 0 (v7070)) 1 (.int .i64 z8179)) 2 (.int .i64 z8180)) 3 (.func (.func 29) #[] #[Pt b5398 0])) 8 (.int .i64 z8549)) 9 (.int .i64 z8672)) ∧ St w0 w I7052 [cells b7059 [v7060, v7062, v7064, v7066, v7068, v7070], ownS (tyInt .u64) v7060 z7051.up, ownS (tyInt .u64) v7062 z7051.down, ownS (tySl (tyInt .i64)) v7064 z7051.join, ownS (tySl (tyInt .i64)) v7066 z7051.meet, ownS (tyInt .i64) v7068 z7051.rank, ownS (tyInt .i64) v7070 z8673, cells b5398 [Pt b7059 0]] R) n8675 ⟨z8549, z8550, _, hm, (fu 0 v7070 z (fu 1 (.int .i64 z8179) z (fu 2 (.int .i64 z8180) z (fu 3 (.func (.func 29) #[] #[Pt b5398 0]) z (fu 8 (.int .i64 z8549) z (fu 9 (.int .i64 z8549) z z)))))), hst⟩ ?_
 rintro n8681 _ w8676 ⟨z8672, z8673, σ8674, hm, rfl, hst⟩
 obtain ⟨n8678, y8679, rfl, hm, hx8680⟩ := loopN_some hm
 dsimp only [label_New_l12] at hm
 refine wp_seq (wp_seq ?_)
 refine wp_region_St hst 17 [0, 1, 2, 3, 4, 5, 6, 7, 8, 9, 10, 11, 12, 13, 14, 15, 16] [0, 0, 3, 7, 15, 15, 15, 111, 239, 15, 15, 1039, 3599, 7695, 16383, 32767, 65535] [] z (by kernel_rfl) (by kernel_rfl) Try.mixed (by kernel_rfl) ?_
 refine wsr (.int .i64 z8672) 0 z z z (by kernel_rfl) (fun w hst => z) (wsr (.int .i64 z8179) 1 z z z (by kernel_rfl) (fun w hst => z) (wsr (.bool (decide (z8672 > z8179))) 2 z z z (by kernel_rfl) (fun w hst => z) (wsr (.bool (decide (z8672 > z8179))) 3 z z z (by kernel_rfl) (fun w hst => z) ?_)))
 refine bsplit (decide (z8672 > z8179)) (fun hc8682 => ?_) (fun hc8682 => ?_)
 {
 replace hm := bif_t hc8682 hm
 refine ws_q (v := .func (.func 29) #[] #[Pt b5398 0]) 4 [5, 6, 7, 8, 9, 10, 11, 12, 13, 14, 15, 16] (by kernel_rfl) z z (yi_run ((wanted_eq z z z (cvb hc8682)).trans z) (fun w hst => z)) (ws_q (v := v7070) 5 [6, 7, 8, 9, 10, 11, 12, 13, 14, 15, 16] (by kernel_rfl) z z (yi_run ((wanted_eq z z z (cvb hc8682)).trans z) (fun w hst => z)) (ws_q (v := .int .i64 z8672) 6 [7, 8, 9, 10, 11, 12, 13, 14, 15, 16] (by kernel_rfl) z z (yi_run ((wanted_eq z z z (cvb hc8682)).trans z) (fun w hst => z)) ?_))
 obtain ⟨x8683, hx8684, hm⟩ := bind_some hm
 obtain ⟨h8685, h8686, hi8687⟩ := geto_some hx8684
 refine ws_q (v := .pointer (some (eAddr v7070 (z8672.toNat * 1 + 0)))) 7 [8, 9, 10, 11, 12, 13, 14, 15, 16] (by kernel_rfl) z z (yi_run ((wanted_eq z z z (cvb hc8682)).trans z) (fun w hst => x_index z z underlying41 sizeOf3 hst.sv6 h8685 h8686)) (ws_q (v := .int .i64 x8683) 8 [9, 10, 11, 12, 13, 14, 15, 16] (by kernel_rfl) z z (yi_run ((wanted_eq z z z (cvb hc8682)).trans z) (fun w hst => x_load z isAgg3 (hst.ol6 hi8687 (by rintro _ rfl; rfl)))) (ws_q (v := v7070) 9 [10, 11, 12, 13, 14, 15, 16] (by kernel_rfl) z z (yi_run ((wanted_eq z z z (cvb hc8682)).trans z) (fun w hst => z)) (ws_q (v := .int .i64 z8672) 10 [11, 12, 13, 14, 15, 16] (by kernel_rfl) z z (yi_run ((wanted_eq z z z (cvb hc8682)).trans z) (fun w hst => z)) (ws_q (v := .int .i64 (i64.wrap (z8672 - (1:Int)))) 11 [12, 13, 14, 15, 16] (by kernel_rfl) z z (yi_run ((wanted_eq z z z (cvb hc8682)).trans z) (fun w hst => z)) ?_))))
 obtain ⟨x8688, hx8689, hm⟩ := bind_some hm
 obtain ⟨h8690, h8691, hi8692⟩ := geto_some hx8689
 refine ws_q (v := .pointer (some (eAddr v7070 ((i64.wrap (z8672 - (1:Int))).toNat * 1 + 0)))) 12 [13, 14, 15, 16] (by kernel_rfl) z z (yi_run ((wanted_eq z z z (cvb hc8682)).trans z) (fun w hst => x_index z z underlying41 sizeOf3 hst.sv6 h8690 h8691)) (ws_q (v := .int .i64 x8688) 13 [14, 15, 16] (by kernel_rfl) z z (yi_run ((wanted_eq z z z (cvb hc8682)).trans z) (fun w hst => x_load z isAgg3 (hst.ol6 hi8692 (by rintro _ rfl; rfl)))) ?_)
 refine ws_e1 14 (by kernel_rfl) ?_
 refine nxe [15, 16] (by kernel_rfl) z ((wanted_eq z z z (cvb hc8682)).trans z) ?_
 clear hst
 intro w hst
 obtain ⟨y8720, hq8721, hm⟩ := bind_some hm
 refine we_call z (x_callv call29 (caps := [Pt b5398 0]) z (vs := [I6 x8683, I6 x8688]) z) ?_
 refine Calls.mono (show Calls prog 29 #[I6 x8683, I6 x8688, Pt b5398 0] _ (fun e w' => ∃ (z8718 : Int), z8718 = y8720 ∧ e = .returned (.int .i64 z8718) ∧ St w0 w' I7052 [cells b5398 [Pt b7059 0], cells b7059 [v7060, v7062, v7064, v7066, v7068, v7070], ownS (tyInt .u64) v7060 z7051.up, ownS (tyInt .u64) v7062 z7051.down, ownS (tySl (tyInt .i64)) v7064 z7051.join, ownS (tySl (tyInt .i64)) v7066 z7051.meet, ownS (tyInt .i64) v7068 z7051.rank, ownS (tyInt .i64) v7070 z8673] R) from ?_) ?_
 {
 clear hm; have hm := hq8721
 refine calls_start (args := [I6 x8683, I6 x8688, Pt b5398 0]) func29 z ntmps29 (Nat.le_of_ble_eq_true z) ?_
 refine wp_seq (wrl (wv (.int .i64 (0:Int)) z z z (wl_nil (tn (wp_seq ?_)))))
 refine wp_region_St hst 18 [0, 1, 2, 3, 4, 5, 6, 7, 8, 9, 10, 11, 12, 13, 14, 15, 16, 17] [0, 1, 3, 7, 0, 31, 63, 127, 0, 256, 768, 1792, 0, 7936, 16128, 32767, 65535, 131071] [] z (by kernel_rfl) (by kernel_rfl) Try.mixed (by kernel_rfl) ?_
 refine wsr (Pt b7059 0) 0 z z z (by kernel_rfl) (fun w hst => x_load z isAgg24 (hst.bc7 z)) (wsr (Pt b7059 0) 1 z z z (by kernel_rfl) (fun w hst => z) (wsr (Pt b7059 1) 2 z z z (by kernel_rfl) (fun w hst => x_field z underlying49 z sizeOf28 z) (wsr (v7062) 3 z z z (by kernel_rfl) (fun w hst => x_load z isAgg28 (hst.bc0 z)) (wsr (.int .i64 x8683) 4 z z z (by kernel_rfl) (fun w hst => z) ?_))))
 obtain ⟨x8693, hx8694, hm⟩ := bind_some hm
 obtain ⟨h8695, h8696, hi8697⟩ := geto_some hx8694
 refine wsr (.pointer (some (eAddr v7062 (x8683.toNat * 1 + 0)))) 5 z z z (by kernel_rfl) (fun w hst => x_index z z underlying28 sizeOf43 hst.sv2 h8695 h8696) (wsr (.int .u64 x8693) 6 z z z (by kernel_rfl) (fun w hst => x_load z isAgg43 (hst.ol2 hi8697 (by rintro _ rfl; rfl))) (wsr (Pt b7059 0) 8 z z z (by kernel_rfl) (fun w hst => x_load z isAgg24 (hst.bc7 z)) (wsr (Pt b7059 0) 9 z z z (by kernel_rfl) (fun w hst => z) (wsr (Pt b7059 1) 10 z z z (by kernel_rfl) (fun w hst => x_field z underlying49 z sizeOf28 z) (wsr (v7062) 11 z z z (by kernel_rfl) (fun w hst => x_load z isAgg28 (hst.bc0 z)) (wsr (.int .i64 x8688) 12 z z z (by kernel_rfl) (fun w hst => z) ?_))))))
 obtain ⟨x8698, hx8699, hm⟩ := bind_some hm
 obtain ⟨h8700, h8701, hi8702⟩ := geto_some hx8699
 refine wsr (.pointer (some (eAddr v7062 (x8688.toNat * 1 + 0)))) 13 z z z (by kernel_rfl) (fun w hst => x_index z z underlying28 sizeOf43 hst.sv2 h8700 h8701) (wsr (.int .u64 x8698) 14 z z z (by kernel_rfl) (fun w hst => x_load z isAgg43 (hst.ol2 hi8702 (by rintro _ rfl; rfl))) ?_)
 refine ws_e1 7 (by kernel_rfl) ?_
 refine nxe [15, 16, 17] (by kernel_rfl) z z ?_
 clear hst
 intro w hst
 obtain ⟨t8703, ht8704, hm⟩ := bind_some hm
 refine wec call31 [U6 x8693] z z ?_
 refine (math_bits_OnesCount64_ref hst.to0 ht8704).mono ?_
 rintro _ w8705 ⟨rfl, hst⟩
 refine ⟨_, z, ?_⟩
 replace hst := hst.of0
 refine ws_next (pend' := [(14, U6 x8698), (13, .pointer (some (eAddr v7062 (x8688.toNat * 1 + 0)))), (12, I6 x8688), (11, v7062), (10, Pt b7059 1), (9, Pt b7059 0), (8, Pt b7059 0)]) hst (by kernel_rfl) (pkr z z (fun w hst => x_load z isAgg43 (hst.ol2 hi8702 (by rintro _ rfl; rfl))) (pkr z z (fun w hst => x_index z z underlying28 sizeOf43 hst.sv2 h8700 h8701) (pkr z z (fun w hst => z) (pkr z z (fun w hst => x_load z isAgg28 (hst.bc0 z)) (pkr z z (fun w hst => x_field z underlying49 z sizeOf28 z) (pkr z z (fun w hst => z) (pkr z z (fun w hst => x_load z isAgg24 (hst.bc7 z)) pk_nil))))))) ?_
 refine ws_e1 15 (by kernel_rfl) ?_
 refine nxe [16, 17] (by kernel_rfl) z z ?_
 clear hst
 intro w hst
 obtain ⟨t8708, ht8709, hm⟩ := bind_some hm
 refine wec call31 [U6 x8698] z z ?_
 refine (math_bits_OnesCount64_ref hst.to0 ht8709).mono ?_
 rintro _ w8710 ⟨rfl, hst⟩
 refine ⟨_, z, ?_⟩
 replace hst := hst.of0
 refine ws_next (pend' := []) hst (by kernel_rfl) pk_nil ?_
 refine ws_e1 16 (by kernel_rfl) ?_
 refine nxe [17] (by kernel_rfl) z z ?_
 clear hst
 intro w hst
 obtain ⟨t8713, ht8714, hm⟩ := bind_some hm
 refine wec call30 [I6 t8703, I6 t8708] z z ?_
 refine (cmp_Compare_int_ref hst.to0 ht8714).mono ?_
 rintro _ w8715 ⟨rfl, hst⟩
 refine ⟨_, z, ?_⟩
 replace hst := hst.of0
 refine ws_next (pend' := []) hst (by kernel_rfl) pk_nil ?_
 refine wsr (.int .i64 t8713) 17 z z z (by kernel_rfl) (fun w hst => z) ?_
 refine ws_nil ?_
 intro w hst
 refine tn (wp_ret ?_)
 refine post_ret (vs := [I6 t8713]) results29 (rvs_cons (rv_tmp z) rvs_nil) ?_
 replace hst := hst.pull6.pull6.pull6.pull6.pull6.pull6.pull6.pull7.keep8
 obtain rfl := some_inj hm
 exact ⟨t8713, z, z, hst⟩
}
 clear hst
 rintro _ w8722 ⟨z8718, rfl, rfl, hst⟩
 refine ⟨_, z, ?_⟩
 try dsimp only at hm
 refine ws_next (pend' := []) hst (by kernel_rfl) pk_nil ?_
 refine ws_q (v := .bool (decide (z8718 < (0:Int)))) 15 [16] (by kernel_rfl) z z (yi_run ((wanted_eq z z z (cvb hc8682)).trans z) (fun w hst => z)) (wsr (.bool (decide (z8718 < (0:Int)))) 16 z z z (by kernel_rfl) (fun w hst => x_pick_t hc8682 z z) ?_)
 refine ws_nil ?_
 intro w hst
 refine tn ?_
 refine bsplit (decide (z8718 < (0:Int))) (fun hc8723 => ?_) (fun hc8723 => ?_)
 {
 replace hm := bif_t hc8723 hm
 refine wp_ift (cvb hc8723) ?_
 refine wp_skip (tn (wp_seq (wp_block ?_)))
 refine wp_region_St hst 18 [0, 1, 2, 3, 4, 5, 6, 7, 8, 9, 10, 11, 12, 13, 14, 15, 16, 17] [0, 0, 0, 0, 8, 0, 0, 64, 224, 480, 0, 0, 3072, 7168, 16355, 32739, 65535, 131071] [] z (by kernel_rfl) (by kernel_rfl) Try.mixed (by kernel_rfl) ?_
 refine wsr (v7070) 0 z z z (by kernel_rfl) (fun w hst => z) (wsr (.int .i64 z8672) 1 z z z (by kernel_rfl) (fun w hst => z) (wsr (v7070) 2 z z z (by kernel_rfl) (fun w hst => z) (wsr (.int .i64 z8672) 3 z z z (by kernel_rfl) (fun w hst => z) (wsr (.int .i64 (i64.wrap (z8672 - (1:Int)))) 4 z z z (by kernel_rfl) (fun w hst => z) (wsr (v7070) 5 z z z (by kernel_rfl) (fun w hst => z) (wsr (.int .i64 z8672) 6 z z z (by kernel_rfl) (fun w hst => z) (wsr (.int .i64 (i64.wrap (z8672 - (1:Int)))) 7 z z z (by kernel_rfl) (fun w hst => z) (wsr (.pointer (some (eAddr v7070 ((i64.wrap (z8672 - (1:Int))).toNat * 1 + 0)))) 8 z z z (by kernel_rfl) (fun w hst => x_index z z underlying41 sizeOf3 hst.sv7 h8690 h8691) (wsr (.int .i64 x8688) 9 z z z (by kernel_rfl) (fun w hst => x_load z isAgg3 (hst.ol7 hi8692 (by rintro _ rfl; rfl))) (wsr (v7070) 10 z z z (by kernel_rfl) (fun w hst => z) (wsr (.int .i64 z8672) 11 z z z (by kernel_rfl) (fun w hst => z) (wsr (.pointer (some (eAddr v7070 (z8672.toNat * 1 + 0)))) 12 z z z (by kernel_rfl) (fun w hst => x_index z z underlying41 sizeOf3 hst.sv7 h8685 h8686) ?_))))))))))))
 refine wsr (.int .i64 x8683) 13 z z z (by kernel_rfl) (fun w hst => x_load z isAgg3 (hst.ol7 hi8687 (by rintro _ rfl; rfl))) (wsr (.pointer (some (eAddr v7070 (z8672.toNat * 1 + 0)))) 14 z z z (by kernel_rfl) (fun w hst => x_index z z underlying41 sizeOf3 hst.sv7 h8685 h8686) ?_)
 refine ws_e1 15 (by kernel_rfl) ?_
 refine nxe [16, 17] (by kernel_rfl) z z ?_
 clear hst
 intro w hst
 replace hst := hst.pull7
 obtain ⟨w8724, hr8725, hst⟩ := hst.own_store (P := prog) (t := 3) (y := x8688) hi8687 0 (.int .i64 x8688) sizeOf3 (Nat.le_of_ble_eq_true z) (oC z oN) (by rintro _ rfl; rfl)
 have hi8726 := set_get hi8687 x8688
 have h8727 := set_lt h8686 z8672.toNat x8688
 refine we_unit z (x_unit hr8725) ?_
 refine ws_next (pend' := [(4, I6 (i64.wrap (z8672 - (1:Int)))), (3, I6 z8672), (2, v7070)]) hst (by kernel_rfl) (pkr z z (fun w hst => z) (pkr z z (fun w hst => z) (pkr z z (fun w hst => z) pk_nil))) ?_
 obtain ⟨x8728, hx8729, hm⟩ := bind_some hm
 obtain ⟨h8730, h8731, hi8732⟩ := geto_some hx8729
 refine wsr (.pointer (some (eAddr v7070 ((i64.wrap (z8672 - (1:Int))).toNat * 1 + 0)))) 16 z z z (by kernel_rfl) (fun w hst => x_index z z underlying41 sizeOf3 hst.sv0 h8730 h8731) ?_
 refine ws_e1 17 (by kernel_rfl) ?_
 refine nxe [] (by kernel_rfl) z z ?_
 clear hst
 intro w hst
 obtain ⟨w8733, hr8734, hst⟩ := hst.own_store (P := prog) (t := 3) (y := x8683) hi8732 0 (.int .i64 x8683) sizeOf3 (Nat.le_of_ble_eq_true z) (oC z oN) (by rintro _ rfl; rfl)
 have hi8735 := set_get hi8732 x8683
 have h8736 := set_lt h8731 (i64.wrap (z8672 - (1:Int))).toNat x8683
 refine we_unit z (x_unit hr8734) ?_
 refine ws_next (pend' := []) hst (by kernel_rfl) pk_nil ?_
 refine ws_nil ?_
 intro w hst
 refine blk_n (tn (wrl ?_))
 refine wv (.int .i64 z8672) z z z (wv (.int .i64 (i64.wrap (z8672 - (1:Int)))) z z z (wv (.int .i64 (i64.wrap (z8672 - (1:Int)))) z z z (wl_nil (tn ?_))))
 replace hst := hst.pull1.pull1.pull7.pull7.pull7.pull7.pull7.pull7.keep8
 obtain rfl := some_inj hm
 exact ⟨_, Nat.lt_succ_self _, (i64.wrap (z8672 - (1:Int))), ((z8673.set z8672.toNat x8688).set (i64.wrap (z8672 - (1:Int))).toNat x8683), _, hx8680, (fu 0 v7070 z (fu 1 (.int .i64 z8179) z (fu 2 (.int .i64 z8180) z (fu 3 (.func (.func 29) #[] #[Pt b5398 0]) z (fu 8 (.int .i64 z8549) z (fu 9 (.int .i64 (i64.wrap (z8672 - (1:Int)))) z z)))))), hst⟩
}
 {
 replace hm := bif_f hc8723 hm
 refine wp_iff (cvb hc8723) ?_
 refine wp_exit (then_x (then_x ?_))
 replace hm := inr_up hm hx8680
 refine blk_x (blk_n (tn (wrl ?_)))
 refine wv (.int .i64 z8549) z z z (wv (.int .i64 (i64.wrap (z8549 + (1:Int)))) z z z (wv (.int .i64 (i64.wrap (z8549 + (1:Int)))) z z z (wl_nil (tn ?_))))
 replace hst := hst.pull7.pull7.pull7.pull7.pull7.pull7.pull7.keep8
 obtain rfl := some_inj hm
 exact ⟨_, Nat.lt_succ_self _, (i64.wrap (z8549 + (1:Int))), z8673, _, hx8557, (fu 0 v7070 z (fu 1 (.int .i64 z8179) z (fu 2 (.int .i64 z8180) z (fu 3 (.func (.func 29) #[] #[Pt b5398 0]) z (fu 8 (.int .i64 (i64.wrap (z8549 + (1:Int)))) z z))))), hst⟩
}
}
 {
 replace hm := bif_f hc8682 hm
 refine ws_q (v := undef) 4 [5, 6, 7, 8, 9, 10, 11, 12, 13, 14, 15, 16] (by kernel_rfl) z z (yi_off ((wanted_eq z z z (cvb hc8682)).trans z)) (ws_q (v := undef) 5 [6, 7, 8, 9, 10, 11, 12, 13, 14, 15, 16] (by kernel_rfl) z z (yi_off ((wanted_eq z z z (cvb hc8682)).trans z)) (ws_q (v := undef) 6 [7, 8, 9, 10, 11, 12, 13, 14, 15, 16] (by kernel_rfl) z z (yi_off ((wanted_eq z z z (cvb hc8682)).trans z)) (ws_q (v := undef) 7 [8, 9, 10, 11, 12, 13, 14, 15, 16] (by kernel_rfl) z z (yi_off ((wanted_eq z z z (cvb hc8682)).trans z)) (ws_q (v := undef) 8 [9, 10, 11, 12, 13, 14, 15, 16] (by kernel_rfl) z z (yi_off ((wanted_eq z z z (cvb hc8682)).trans z)) (ws_q (v := undef) 9 [10, 11, 12, 13, 14, 15, 16] (by kernel_rfl) z z (yi_off ((wanted_eq z z z (cvb hc8682)).trans z)) (ws_q (v := undef) 10 [11, 12, 13, 14, 15, 16] (by kernel_rfl) z z (yi_off ((wanted_eq z z z (cvb hc8682)).trans z)) (ws_q (v := undef) 11 [12, 13, 14, 15, 16] (by kernel_rfl) z z (yi_off ((wanted_eq z z z (cvb hc8682)).trans z)) (ws_q (v := undef) 12 [13, 14, 15, 16] (by kernel_rfl) z z (yi_off ((wanted_eq z z z (cvb hc8682)).trans z)) (ws_q (v := undef) 13 [14, 15, 16] (by kernel_rfl) z z (yi_off ((wanted_eq z z z (cvb hc8682)).trans z)) (ws_q (v := undef) 14 [15, 16] (by kernel_rfl) z z (yi_off ((wanted_eq z z z (cvb hc8682)).trans z)) (ws_q (v := undef) 15 [16] (by kernel_rfl) z z (yi_off ((wanted_eq z z z (cvb hc8682)).trans z)) (wsr (.bool false) 16 z z z (by kernel_rfl) (fun w hst => x_pick_f hc8682 z z) ?_))))))))))))
 refine ws_nil ?_
 intro w hst
 refine tn ?_
 refine wp_iff z ?_
 refine wp_exit (then_x (then_x ?_))
 replace hm := inr_up hm hx8680
 refine blk_x (blk_n (tn (wrl ?_)))
 refine wv (.int .i64 z8549) z z z (wv (.int .i64 (i64.wrap (z8549 + (1:Int)))) z z z (wv (.int .i64 (i64.wrap (z8549 + (1:Int)))) z z z (wl_nil (tn ?_))))
 replace hst := hst.pull7.pull7.pull7.pull7.pull7.pull7.pull7.pull7.keep8
 obtain rfl := some_inj hm
 exact ⟨_, Nat.lt_succ_self _, (i64.wrap (z8549 + (1:Int))), z8673, _, hx8557, (fu 0 v7070 z (fu 1 (.int .i64 z8179) z (fu 2 (.int .i64 z8180) z (fu 3 (.func (.func 29) #[] #[Pt b5398 0]) z (fu 8 (.int .i64 (i64.wrap (z8549 + (1:Int)))) z z))))), hst⟩
}
}
 {
 replace hm := bif_f hc8559 hm
 refine wp_iff (cvb hc8559) ?_
 refine wp_exit (then_x (then_x ?_))
 replace hm := inr_up hm hx8557
 refine blk_x ?_
 refine post_end (vs := []) results39 rvs_nil ?_
 replace hst := hst.pull6.pull6.pull6.pull6.pull6.pull6.pull6.pull7.keep8
 obtain rfl := some_inj hm
 exact ⟨z8550, z, z, hst⟩
}
}
 clear hst
 rintro _ w8741 ⟨z8737, rfl, rfl, hst⟩
 refine ⟨_, z, ?_⟩
 try dsimp only at hm
 refine wl_nil (tn (wp_seq (wrl (wv (.int .i64 z8180) z z z (wv (.int .i64 z8180) z z z (wl_nil (tn (wrl (wv (.int .i64 z8180) z z z (wv (.int .i64 (20:Int)) z z z (wv (.int .i64 (i64.wrap (z8180 + (20:Int)))) z z z (wv (.int .i64 (i64.wrap (z8180 + (20:Int)))) z z z (wl_nil (blk_n (tn ?_)))))))))))))))
 replace hst := hst.pull7.pull7.pull7.pull7.pull7.pull7.pull7.keep8
 obtain rfl := some_inj hm
 exact ⟨_, Nat.lt_succ_self _, z8180, (i64.wrap (z8180 + (20:Int))), z8737, _, hx8188, (fu 0 v7070 z (fu 1 (.int .i64 ((z7051.all).length : Int)) z (fu 2 (.func (.func 29) #[] #[Pt b5398 0]) z (fu 6 (.int .i64 (20:Int)) z (fu 7 (.int .i64 z8180) z (fu 8 (.int .i64 (i64.wrap (z8180 + (20:Int)))) z z)))))), hst⟩
}
 {
 replace hm := bif_f hc8190 hm
 refine wp_iff (cvb hc8190) ?_
 refine wp_exit (then_x (then_x ?_))
 replace hm := inr_up hm hx8188
 refine blk_x (tn ?_)
 replace hst := hst.pull5.pull5.pull5.pull5.pull5.pull5.pull7.pull7.keep8
 obtain rfl := some_inj hm
 exact ⟨z8181, z8179, _, hx8747, (fu 0 v7070 z (fu 1 (.int .i64 ((z7051.all).length : Int)) z (fu 2 (.func (.func 29) #[] #[Pt b5398 0]) z (fu 6 (.int .i64 (20:Int)) z (fu 7 (.int .i64 z8179) z z))))), hst⟩
}
}
 {
 clear hst
 rintro _ w8748 ⟨z8742, z8743, σ8744, hm, rfl, hst⟩
 dsimp only [label_New_j9] at hm
 refine wp_seq (wrl (wv (v7070) z z z (wv (.int .i64 z8743) z z z (wv (.int .i64 ((z7051.all).length : Int)) z z z (wv (.func (.func 29) #[] #[Pt b5398 0]) z z z ?_)))))
 obtain ⟨y9297, hq9298, hm⟩ := bind_some hm
 refine wl_call z z (x_callv call39 (caps := []) z (vs := [v7070, I6 z8743, I6 ((z7051.all).length : Int), .func (.func 29) #[] #[Pt b5398 0]]) z) ?_
 refine Calls.mono (show Calls prog 39 #[v7070, I6 z8743, I6 ((z7051.all).length : Int), .func (.func 29) #[] #[Pt b5398 0]] _ (fun e w' => ∃ (z9295 : (List Int)), z9295 = y9297 ∧ e = .returned (.tuple #[]) ∧ St w0 w' I7052 [cells b5398 [Pt b7059 0], cells b7059 [v7060, v7062, v7064, v7066, v7068, v7070], ownS (tyInt .u64) v7060 z7051.up, ownS (tyInt .u64) v7062 z7051.down, ownS (tySl (tyInt .i64)) v7064 z7051.join, ownS (tySl (tyInt .i64)) v7066 z7051.meet, ownS (tyInt .i64) v7068 z7051.rank, ownS (tyInt .i64) v7070 z9295] R) from ?_) ?_
 {
 clear hm; have hm := hq9298
 refine calls_start (args := [v7070, I6 z8743, I6 ((z7051.all).length : Int), .func (.func 29) #[] #[Pt b5398 0]]) func39 z ntmps39 (Nat.le_of_ble_eq_true z) ?_
 refine wp_seq (wrl (wv (.int .i64 z8743) z z z (wv (.int .i64 (i64.wrap (z8743 + (1:Int)))) z z z (wv (.int .i64 (i64.wrap (z8743 + (1:Int)))) z z z (wl_nil (tn (wp_block ?_)))))))
 obtain ⟨n9110, hm⟩ := loopO_some hm
 refine wp_loop_n (fun n a w => ∃ (z9107 : Int) (z9108 : (List Int)) (σ9109 : Nat → Value), loopN (label_New_l13 z7051 z8743) n (z9107, z9108) = some y9297 ∧ a = Fr 53 (upd (upd (upd (upd (upd σ9109 0 (v7070)) 1 (.int .i64 z8743)) 2 (.int .i64 ((z7051.all).length : Int))) 3 (.func (.func 29) #[] #[Pt b5398 0])) 8 (.int .i64 z9107)) ∧ St w0 w I7052 [ownS (tyInt .i64) v7070 z9108, cells b5398 [Pt b7059 0], cells b7059 [v7060, v7062, v7064, v7066, v7068, v7070], ownS (tyInt .u64) v7060 z7051.up, ownS (tyInt .u64) v7062 z7051.down, ownS (tySl (tyInt .i64)) v7064 z7051.join, ownS (tySl (tyInt .i64)) v7066 z7051.meet, ownS (tyInt .i64) v7068 z7051.rank] R) n9110 ⟨(i64.wrap (z8743 + (1:Int))), z8742, _, hm, (fu 0 v7070 z (fu 1 (.int .i64 z8743) z (fu 2 (.int .i64 ((z7051.all).length : Int)) z (fu 3 (.func (.func 29) #[] #[Pt b5398 0]) z (fu 8 (.int .i64 (i64.wrap (z8743 + (1:Int)))) z z))))), hst⟩ ?_
 rintro n9116 _ w9111 ⟨z9107, z9108, σ9109, hm, rfl, hst⟩
 obtain ⟨n9113, y9114, rfl, hm, hx9115⟩ := loopN_some hm
 dsimp only [label_New_l13] at hm
 refine wp_seq (wp_seq (wrl (wv (.int .i64 z9107) z z z (wv (.int .i64 ((z7051.all).length : Int)) z z z (wv (.bool (decide (z9107 < ((z7051.all).length : Int)))) z z z (wl_nil (tn ?_)))))))
 refine bsplit (decide (z9107 < ((z7051.all).length : Int))) (fun hc9117 => ?_) (fun hc9117 => ?_)
 {
 replace hm := bif_t hc9117 hm
 refine wp_ift (cvb hc9117) ?_
 refine wp_skip (tn (wp_seq (wp_block (wp_seq (wrl ?_)))))
 refine wv (.int .i64 z9107) z z z (wv (.int .i64 z9107) z z z (wl_nil (tn (wp_block ?_))))
 obtain ⟨n9233, hm⟩ := loopO_some hm
 refine wp_loop_n (fun n a w => ∃ (z9230 : Int) (z9231 : (List Int)) (σ9232 : Nat → Value), loopN (label_New_l14 z8743 z7051 z9107) n (z9230, z9231) = some y9114 ∧ a = Fr 53 (upd (upd (upd (upd (upd (upd σ9232 0 (v7070)) 1 (.int .i64 z8743)) 2 (.int .i64 ((z7051.all).length : Int))) 3 (.func (.func 29) #[] #[Pt b5398 0])) 8 (.int .i64 z9107)) 9 (.int .i64 z9230)) ∧ St w0 w I7052 [ownS (tyInt .i64) v7070 z9231, cells b5398 [Pt b7059 0], cells b7059 [v7060, v7062, v7064, v7066, v7068, v7070], ownS (tyInt .u64) v7060 z7051.up, ownS (tyInt .u64) v7062 z7051.down, ownS (tySl (tyInt .i64)) v7064 z7051.join, ownS (tySl (tyInt .i64)) v7066 z7051.meet, ownS (tyInt .i64) v7068 z7051.rank] R) n9233 ⟨z9107, z9108, _, hm, (fu 0 v7070 z (fu 1 (.int .i64 z8743) z (fu 2 (.int .i64 ((z7051.all).length : Int)) z (fu 3 (.func (.func 29) #[] #[Pt b5398 0]) z (fu 8 (.int .i64 z9107) z (fu 9 (.int .i64 z9107) z z)))))), hst⟩ ?_
 rintro n9239 _ w9234 ⟨z9230, z9231, σ9232, hm, rfl, hst⟩
 obtain ⟨n9236, y9237, rfl, hm, hx9238⟩ := loopN_some hm
 dsimp only [label_New_l14] at hm
 refine wp_seq (wp_seq ?_)
 refine wp_region_St hst 17 [0, 1, 2, 3, 4, 5, 6, 7, 8, 9, 10, 11, 12, 13, 14, 15, 16] [0, 0, 3, 7, 15, 15, 15, 111, 239, 15, 15, 1039, 3599, 7695, 16383, 32767, 65535] [] z (by kernel_rfl) (by kernel_rfl) Try.mixed (by kernel_rfl) ?_
 refine wsr (.int .i64 z9230) 0 z z z (by kernel_rfl) (fun w hst => z) (wsr (.int .i64 z8743) 1 z z z (by kernel_rfl) (fun w hst => z) (wsr (.bool (decide (z9230 > z8743))) 2 z z z (by kernel_rfl) (fun w hst => z) (wsr (.bool (decide (z9230 > z8743))) 3 z z z (by kernel_rfl) (fun w hst => z) ?_)))
 refine bsplit (decide (z9230 > z8743)) (fun hc9240 => ?_) (fun hc9240 => ?_)
 {
 replace hm := bif_t hc9240 hm
 refine ws_q (v := .func (.func 29) #[] #[Pt b5398 0]) 4 [5, 6, 7, 8, 9, 10, 11, 12, 13, 14, 15, 16] (by kernel_rfl) z z (yi_run ((wanted_eq z z z (cvb hc9240)).trans z) (fun w hst => z)) (ws_q (v := v7070) 5 [6, 7, 8, 9, 10, 11, 12, 13, 14, 15, 16] (by kernel_rfl) z z (yi_run ((wanted_eq z z z (cvb hc9240)).trans z) (fun w hst => z)) (ws_q (v := .int .i64 z9230) 6 [7, 8, 9, 10, 11, 12, 13, 14, 15, 16] (by kernel_rfl) z z (yi_run ((wanted_eq z z z (cvb hc9240)).trans z) (fun w hst => z)) ?_))
 obtain ⟨x9241, hx9242, hm⟩ := bind_some hm
 obtain ⟨h9243, h9244, hi9245⟩ := geto_some hx9242
 refine ws_q (v := .pointer (some (eAddr v7070 (z9230.toNat * 1 + 0)))) 7 [8, 9, 10, 11, 12, 13, 14, 15, 16] (by kernel_rfl) z z (yi_run ((wanted_eq z z z (cvb hc9240)).trans z) (fun w hst => x_index z z underlying41 sizeOf3 hst.sv0 h9243 h9244)) (ws_q (v := .int .i64 x9241) 8 [9, 10, 11, 12, 13, 14, 15, 16] (by kernel_rfl) z z (yi_run ((wanted_eq z z z (cvb hc9240)).trans z) (fun w hst => x_load z isAgg3 (hst.ol0 hi9245 (by rintro _ rfl; rfl)))) (ws_q (v := v7070) 9 [10, 11, 12, 13, 14, 15, 16] (by kernel_rfl) z z (yi_run ((wanted_eq z z z (cvb hc9240)).trans z) (fun w hst => z)) (ws_q (v := .int .i64 z9230) 10 [11, 12, 13, 14, 15, 16] (by kernel_rfl) z z (yi_run ((wanted_eq z z z (cvb hc9240)).trans z) (fun w hst => z)) (ws_q (v := .int .i64 (i64.wrap (z9230 - (1:Int)))) 11 [12, 13, 14, 15, 16] (by kernel_rfl) z z (yi_run ((wanted_eq z z z (cvb hc9240)).trans z) (fun w hst => z)) ?_))))
 obtain ⟨x9246, hx9247, hm⟩ := bind_some hm
 obtain ⟨h9248, h9249, hi9250⟩ := geto_some hx9247
 refine ws_q (v := .pointer (some (eAddr v7070 ((i64.wrap (z9230 - (1:Int))).toNat * 1 + 0)))) 12 [13, 14, 15, 16] (by kernel_rfl) z z (yi_run ((wanted_eq z z z (cvb hc9240)).trans z) (fun w hst => x_index z z underlying41 sizeOf3 hst.sv0 h9248 h9249)) (ws_q (v := .int .i64 x9246) 13 [14, 15, 16] (by kernel_rfl) z z (yi_run ((wanted_eq z z z (cvb hc9240)).trans z) (fun w hst => x_load z isAgg3 (hst.ol0 hi9250 (by rintro _ rfl; rfl)))) ?_)
 refine ws_e1 14 (by kernel_rfl) ?_
 refine nxe [15, 16] (by kernel_rfl) z ((wanted_eq z z z (cvb hc9240)).trans z) ?_
 clear hst
 intro w hst
 obtain ⟨y9278, hq9279, hm⟩ := bind_some hm
 refine we_call z (x_callv call29 (caps := [Pt b5398 0]) z (vs := [I6 x9241, I6 x9246]) z) ?_
 refine Calls.mono (show Calls prog 29 #[I6 x9241, I6 x9246, Pt b5398 0] _ (fun e w' => ∃ (z9276 : Int), z9276 = y9278 ∧ e = .returned (.int .i64 z9276) ∧ St w0 w' I7052 [cells b5398 [Pt b7059 0], cells b7059 [v7060, v7062, v7064, v7066, v7068, v7070], ownS (tyInt .u64) v7060 z7051.up, ownS (tyInt .u64) v7062 z7051.down, ownS (tySl (tyInt .i64)) v7064 z7051.join, ownS (tySl (tyInt .i64)) v7066 z7051.meet, ownS (tyInt .i64) v7068 z7051.rank, ownS (tyInt .i64) v7070 z9231] R) from ?_) ?_
 {
 clear hm; have hm := hq9279
 refine calls_start (args := [I6 x9241, I6 x9246, Pt b5398 0]) func29 z ntmps29 (Nat.le_of_ble_eq_true z) ?_
 refine wp_seq (wrl (wv (.int .i64 (0:Int)) z z z (wl_nil (tn (wp_seq ?_)))))
 refine wp_region_St hst 18 [0, 1, 2, 3, 4, 5, 6, 7, 8, 9, 10, 11, 12, 13, 14, 15, 16, 17] [0, 1, 3, 7, 0, 31, 63, 127, 0, 256, 768, 1792, 0, 7936, 16128, 32767, 65535, 131071] [] z (by kernel_rfl) (by kernel_rfl) Try.mixed (by kernel_rfl) ?_
 refine wsr (Pt b7059 0) 0 z z z (by kernel_rfl) (fun w hst => x_load z isAgg24 (hst.bc1 z)) (wsr (Pt b7059 0) 1 z z z (by kernel_rfl) (fun w hst => z) (wsr (Pt b7059 1) 2 z z z (by kernel_rfl) (fun w hst => x_field z underlying49 z sizeOf28 z) (wsr (v7062) 3 z z z (by kernel_rfl) (fun w hst => x_load z isAgg28 (hst.bc2 z)) (wsr (.int .i64 x9241) 4 z z z (by kernel_rfl) (fun w hst => z) ?_))))
 obtain ⟨x9251, hx9252, hm⟩ := bind_some hm
 obtain ⟨h9253, h9254, hi9255⟩ := geto_some hx9252
 refine wsr (.pointer (some (eAddr v7062 (x9241.toNat * 1 + 0)))) 5 z z z (by kernel_rfl) (fun w hst => x_index z z underlying28 sizeOf43 hst.sv4 h9253 h9254) (wsr (.int .u64 x9251) 6 z z z (by kernel_rfl) (fun w hst => x_load z isAgg43 (hst.ol4 hi9255 (by rintro _ rfl; rfl))) (wsr (Pt b7059 0) 8 z z z (by kernel_rfl) (fun w hst => x_load z isAgg24 (hst.bc1 z)) (wsr (Pt b7059 0) 9 z z z (by kernel_rfl) (fun w hst => z) (wsr (Pt b7059 1) 10 z z z (by kernel_rfl) (fun w hst => x_field z underlying49 z sizeOf28 z) (wsr (v7062) 11 z z z (by kernel_rfl) (fun w hst => x_load z isAgg28 (hst.bc2 z)) (wsr (.int .i64 x9246) 12 z z z (by kernel_rfl) (fun w hst => z) ?_))))))
 obtain ⟨x9256, hx9257, hm⟩ := bind_some hm
 obtain ⟨h9258, h9259, hi9260⟩ := geto_some hx9257
 refine wsr (.pointer (some (eAddr v7062 (x9246.toNat * 1 + 0)))) 13 z z z (by kernel_rfl) (fun w hst => x_index z z underlying28 sizeOf43 hst.sv4 h9258 h9259) (wsr (.int .u64 x9256) 14 z z z (by kernel_rfl) (fun w hst => x_load z isAgg43 (hst.ol4 hi9260 (by rintro _ rfl; rfl))) ?_)
 refine ws_e1 7 (by kernel_rfl) ?_
 refine nxe [15, 16, 17] (by kernel_rfl) z z ?_
 clear hst
 intro w hst
 obtain ⟨t9261, ht9262, hm⟩ := bind_some hm
 refine wec call31 [U6 x9251] z z ?_
 refine (math_bits_OnesCount64_ref hst.to0 ht9262).mono ?_
 rintro _ w9263 ⟨rfl, hst⟩
 refine ⟨_, z, ?_⟩
 replace hst := hst.of0
 refine ws_next (pend' := [(14, U6 x9256), (13, .pointer (some (eAddr v7062 (x9246.toNat * 1 + 0)))), (12, I6 x9246), (11, v7062), (10, Pt b7059 1), (9, Pt b7059 0), (8, Pt b7059 0)]) hst (by kernel_rfl) (pkr z z (fun w hst => x_load z isAgg43 (hst.ol4 hi9260 (by rintro _ rfl; rfl))) (pkr z z (fun w hst => x_index z z underlying28 sizeOf43 hst.sv4 h9258 h9259) (pkr z z (fun w hst => z) (pkr z z (fun w hst => x_load z isAgg28 (hst.bc2 z)) (pkr z z (fun w hst => x_field z underlying49 z sizeOf28 z) (pkr z z (fun w hst => z) (pkr z z (fun w hst => x_load z isAgg24 (hst.bc1 z)) pk_nil))))))) ?_
 refine ws_e1 15 (by kernel_rfl) ?_
 refine nxe [16, 17] (by kernel_rfl) z z ?_
 clear hst
 intro w hst
 obtain ⟨t9266, ht9267, hm⟩ := bind_some hm
 refine wec call31 [U6 x9256] z z ?_
 refine (math_bits_OnesCount64_ref hst.to0 ht9267).mono ?_
 rintro _ w9268 ⟨rfl, hst⟩
 refine ⟨_, z, ?_⟩
 replace hst := hst.of0
 refine ws_next (pend' := []) hst (by kernel_rfl) pk_nil ?_
 refine ws_e1 16 (by kernel_rfl) ?_
 refine nxe [17] (by kernel_rfl) z z ?_
 clear hst
 intro w hst
 obtain ⟨t9271, ht9272, hm⟩ := bind_some hm
 refine wec call30 [I6 t9261, I6 t9266] z z ?_
 refine (cmp_Compare_int_ref hst.to0 ht9272).mono ?_
 rintro _ w9273 ⟨rfl, hst⟩
 refine ⟨_, z, ?_⟩
 replace hst := hst.of0
 refine ws_next (pend' := []) hst (by kernel_rfl) pk_nil ?_
 refine wsr (.int .i64 t9271) 17 z z z (by kernel_rfl) (fun w hst => z) ?_
 refine ws_nil ?_
 intro w hst
 refine tn (wp_ret ?_)
 refine post_ret (vs := [I6 t9271]) results29 (rvs_cons (rv_tmp z) rvs_nil) ?_
 replace hst := hst.pull7.pull7.pull7.pull7.pull7.pull7.pull7.keep8
 obtain rfl := some_inj hm
 exact ⟨t9271, z, z, hst⟩
}
 clear hst
 rintro _ w9280 ⟨z9276, rfl, rfl, hst⟩
 refine ⟨_, z, ?_⟩
 try dsimp only at hm
 refine ws_next (pend' := []) hst (by kernel_rfl) pk_nil ?_
 refine ws_q (v := .bool (decide (z9276 < (0:Int)))) 15 [16] (by kernel_rfl) z z (yi_run ((wanted_eq z z z (cvb hc9240)).trans z) (fun w hst => z)) (wsr (.bool (decide (z9276 < (0:Int)))) 16 z z z (by kernel_rfl) (fun w hst => x_pick_t hc9240 z z) ?_)
 refine ws_nil ?_
 intro w hst
 refine tn ?_
 refine bsplit (decide (z9276 < (0:Int))) (fun hc9281 => ?_) (fun hc9281 => ?_)
 {
 replace hm := bif_t hc9281 hm
 refine wp_ift (cvb hc9281) ?_
 refine wp_skip (tn (wp_seq (wp_block ?_)))
 refine wp_region_St hst 18 [0, 1, 2, 3, 4, 5, 6, 7, 8, 9, 10, 11, 12, 13, 14, 15, 16, 17] [0, 0, 0, 0, 8, 0, 0, 64, 224, 480, 0, 0, 3072, 7168, 16355, 32739, 65535, 131071] [] z (by kernel_rfl) (by kernel_rfl) Try.mixed (by kernel_rfl) ?_
 refine wsr (v7070) 0 z z z (by kernel_rfl) (fun w hst => z) (wsr (.int .i64 z9230) 1 z z z (by kernel_rfl) (fun w hst => z) (wsr (v7070) 2 z z z (by kernel_rfl) (fun w hst => z) (wsr (.int .i64 z9230) 3 z z z (by kernel_rfl) (fun w hst => z) (wsr (.int .i64 (i64.wrap (z9230 - (1:Int)))) 4 z z z (by kernel_rfl) (fun w hst => z) (wsr (v7070) 5 z z z (by kernel_rfl) (fun w hst => z) (wsr (.int .i64 z9230) 6 z z z (by kernel_rfl) (fun w hst => z) (wsr (.int .i64 (i64.wrap (z9230 - (1:Int)))) 7 z z z (by kernel_rfl) (fun w hst => z) (wsr (.pointer (some (eAddr v7070 ((i64.wrap (z9230 - (1:Int))).toNat * 1 + 0)))) 8 z z z (by kernel_rfl) (fun w hst => x_index z z underlying41 sizeOf3 hst.sv7 h9248 h9249) (wsr (.int .i64 x9246) 9 z z z (by kernel_rfl) (fun w hst => x_load z isAgg3 (hst.ol7 hi9250 (by rintro _ rfl; rfl))) (wsr (v7070) 10 z z z (by kernel_rfl) (fun w hst => z) (wsr (.int .i64 z9230) 11 z z z (by kernel_rfl) (fun w hst => z) (wsr (.pointer (some (eAddr v7070 (z9230.toNat * 1 + 0)))) 12 z z z (by kernel_rfl) (fun w hst => x_index z z underlying41 sizeOf3 hst.sv7 h9243 h9244) ?_))))))))))))
 refine wsr (.int .i64 x9241) 13 z z z (by kernel_rfl) (fun w hst => x_load z isAgg3 (hst.ol7 hi9245 (by rintro _ rfl; rfl))) (wsr (.pointer (some (eAddr v7070 (z9230.toNat * 1 + 0)))) 14 z z z (by kernel_rfl) (fun w hst => x_index z z underlying41 sizeOf3 hst.sv7 h9243 h9244) ?_)
 refine ws_e1 15 (by kernel_rfl) ?_
 refine nxe [16, 17] (by kernel_rfl) z z ?_
 clear hst
 intro w hst
 replace hst := hst.pull7
 obtain ⟨w9282, hr9283, hst⟩ := hst.own_store (P := prog) (t := 3) (y := x9246) hi9245 0 (.int .i64 x9246) sizeOf3 (Nat.le_of_ble_eq_true z) (oC z oN) (by rintro _ rfl; rfl)
 have hi9284 := set_get hi9245 x9246
 have h9285 := set_lt h9244 z9230.toNat x9246
 refine we_unit z (x_unit hr9283) ?_
 refine ws_next (pend' := [(4, I6 (i64.wrap (z9230 - (1:Int)))), (3, I6 z9230), (2, v7070)]) hst (by kernel_rfl) (pkr z z (fun w hst => z) (pkr z z (fun w hst => z) (pkr z z (fun w hst => z) pk_nil))) ?_
 obtain ⟨x9286, hx9287, hm⟩ := bind_some hm
 obtain ⟨h9288, h9289, hi9290⟩ := geto_some hx9287
 refine wsr (.pointer (some (eAddr v7070 ((i64.wrap (z9230 - (1:Int))).toNat * 1 + 0)))) 16 z z z (by kernel_rfl) (fun w hst => x_index z z underlying41 sizeOf3 hst.sv0 h9288 h9289) ?_
 refine ws_e1 17 (by kernel_rfl) ?_
 refine nxe [] (by kernel_rfl) z z ?_
 clear hst
 intro w hst
 obtain ⟨w9291, hr9292, hst⟩ := hst.own_store (P := prog) (t := 3) (y := x9241) hi9290 0 (.int .i64 x9241) sizeOf3 (Nat.le_of_ble_eq_true z) (oC z oN) (by rintro _ rfl; rfl)
 have hi9293 := set_get hi9290 x9241
 have h9294 := set_lt h9289 (i64.wrap (z9230 - (1:Int))).toNat x9241
 refine we_unit z (x_unit hr9292) ?_
 refine ws_next (pend' := []) hst (by kernel_rfl) pk_nil ?_
 refine ws_nil ?_
 intro w hst
 refine blk_n (tn (wrl ?_))
 refine wv (.int .i64 z9230) z z z (wv (.int .i64 (i64.wrap (z9230 - (1:Int)))) z z z (wv (.int .i64 (i64.wrap (z9230 - (1:Int)))) z z z (wl_nil (tn ?_))))
 replace hst := hst.pull7.pull7.pull7.pull7.pull7.pull7.pull7.pull7.keep8
 obtain rfl := some_inj hm
 exact ⟨_, Nat.lt_succ_self _, (i64.wrap (z9230 - (1:Int))), ((z9231.set z9230.toNat x9246).set (i64.wrap (z9230 - (1:Int))).toNat x9241), _, hx9238, (fu 0 v7070 z (fu 1 (.int .i64 z8743) z (fu 2 (.int .i64 ((z7051.all).length : Int)) z (fu 3 (.func (.func 29) #[] #[Pt b5398 0]) z (fu 8 (.int .i64 z9107) z (fu 9 (.int .i64 (i64.wrap (z9230 - (1:Int)))) z z)))))), hst⟩
}
 {
 replace hm := bif_f hc9281 hm
 refine wp_iff (cvb hc9281) ?_
 refine wp_exit (then_x (then_x ?_))
 replace hm := inr_up hm hx9238
 refine blk_x (blk_n (tn (wrl ?_)))
 refine wv (.int .i64 z9107) z z z (wv (.int .i64 (i64.wrap (z9107 + (1:Int)))) z z z (wv (.int .i64 (i64.wrap (z9107 + (1:Int)))) z z z (wl_nil (tn ?_))))
 replace hst := hst.pull6.pull6.pull6.pull6.pull6.pull6.pull6.pull7.keep8
 obtain rfl := some_inj hm
 exact ⟨_, Nat.lt_succ_self _, (i64.wrap (z9107 + (1:Int))), z9231, _, hx9115, (fu 0 v7070 z (fu 1 (.int .i64 z8743) z (fu 2 (.int .i64 ((z7051.all).length : Int)) z (fu 3 (.func (.func 29) #[] #[Pt b5398 0]) z (fu 8 (.int .i64 (i64.wrap (z9107 + (1:Int)))) z z))))), hst⟩
}
}
 {
 replace hm := bif_f hc9240 hm
 refine ws_q (v := undef) 4 [5, 6, 7, 8, 9, 10, 11, 12, 13, 14, 15, 16] (by kernel_rfl) z z (yi_off ((wanted_eq z z z (cvb hc9240)).trans z)) (ws_q (v := undef) 5 [6, 7, 8, 9, 10, 11, 12, 13, 14, 15, 16] (by kernel_rfl) z z (yi_off ((wanted_eq z z z (cvb hc9240)).trans z)) (ws_q (v := undef) 6 [7, 8, 9, 10, 11, 12, 13, 14, 15, 16] (by kernel_rfl) z z (yi_off ((wanted_eq z z z (cvb hc9240)).trans z)) (ws_q (v := undef) 7 [8, 9, 10, 11, 12, 13, 14, 15, 16] (by kernel_rfl) z z (yi_off ((wanted_eq z z z (cvb hc9240)).trans z)) (ws_q (v := undef) 8 [9, 10, 11, 12, 13, 14, 15, 16] (by kernel_rfl) z z (yi_off ((wanted_eq z z z (cvb hc9240)).trans z)) (ws_q (v := undef) 9 [10, 11, 12, 13, 14, 15, 16] (by kernel_rfl) z z (yi_off ((wanted_eq z z z (cvb hc9240)).trans z)) (ws_q (v := undef) 10 [11, 12, 13, 14, 15, 16] (by kernel_rfl) z z (yi_off ((wanted_eq z z z (cvb hc9240)).trans z)) (ws_q (v := undef) 11 [12, 13, 14, 15, 16] (by kernel_rfl) z z (yi_off ((wanted_eq z z z (cvb hc9240)).trans z)) (ws_q (v := undef) 12 [13, 14, 15, 16] (by kernel_rfl) z z (yi_off ((wanted_eq z z z (cvb hc9240)).trans z)) (ws_q (v := undef) 13 [14, 15, 16] (by kernel_rfl) z z (yi_off ((wanted_eq z z z (cvb hc9240)).trans z)) (ws_q (v := undef) 14 [15, 16] (by kernel_rfl) z z (yi_off ((wanted_eq z z z (cvb hc9240)).trans z)) (ws_q (v := undef) 15 [16] (by kernel_rfl) z z (yi_off ((wanted_eq z z z (cvb hc9240)).trans z)) (wsr (.bool false) 16 z z z (by kernel_rfl) (fun w hst => x_pick_f hc9240 z z) ?_))))))))))))
 refine ws_nil ?_
 intro w hst
 refine tn ?_
 refine wp_iff z ?_
 refine wp_exit (then_x (then_x ?_))
 replace hm := inr_up hm hx9238
 refine blk_x (blk_n (tn (wrl ?_)))
 refine wv (.int .i64 z9107) z z z (wv (.int .i64 (i64.wrap (z9107 + (1:Int)))) z z z (wv (.int .i64 (i64.wrap (z9107 + (1:Int)))) z z z (wl_nil (tn ?_))))
 replace hst := hst.pull7.pull7.pull7.pull7.pull7.pull7.pull7.pull7.keep8
 obtain rfl := some_inj hm
 exact ⟨_, Nat.lt_succ_self _, (i64.wrap (z9107 + (1:Int))), z9231, _, hx9115, (fu 0 v7070 z (fu 1 (.int .i64 z8743) z (fu 2 (.int .i64 ((z7051.all).length : Int)) z (fu 3 (.func (.func 29) #[] #[Pt b5398 0]) z (fu 8 (.int .i64 (i64.wrap (z9107 + (1:Int)))) z z))))), hst⟩
}
}
 {
 replace hm := bif_f hc9117 hm
 refine wp_iff (cvb hc9117) ?_
 refine wp_exit (then_x (then_x ?_))
 replace hm := inr_up hm hx9115
 refine blk_x ?_
 refine post_end (vs := []) results39 rvs_nil ?_
 replace hst := hst.pull7.pull7.pull7.pull7.pull7.pull7.pull7.keep8
 obtain rfl := some_inj hm
 exact ⟨z9108, z, z, hst⟩
}
}
 clear hst
 rintro _ w9299 ⟨z9295, rfl, rfl, hst⟩
 refine ⟨_, z, ?_⟩
 try dsimp only at hm
 refine wl_nil (tn (wp_block ?_))
 obtain ⟨n9337, hm⟩ := loopO_some hm
 refine wp_loop_n (fun n a w => ∃ (z9335 : Int) (σ9336 : Nat → Value), loopN (label_New_l15 z7051 z9295) n z9335 = some y9363 ∧ a = Fr 63 (upd (upd (upd (upd σ9336 0 (v7070)) 1 (.int .i64 ((z7051.all).length : Int))) 2 (.func (.func 29) #[] #[Pt b5398 0])) 6 (.int .i64 z9335)) ∧ St w0 w I7052 [cells b5398 [Pt b7059 0], cells b7059 [v7060, v7062, v7064, v7066, v7068, v7070], ownS (tyInt .u64) v7060 z7051.up, ownS (tyInt .u64) v7062 z7051.down, ownS (tySl (tyInt .i64)) v7064 z7051.join, ownS (tySl (tyInt .i64)) v7066 z7051.meet, ownS (tyInt .i64) v7068 z7051.rank, ownS (tyInt .i64) v7070 z9295] R) n9337 ⟨(20:Int), _, hm, (fu 0 v7070 z (fu 1 (.int .i64 ((z7051.all).length : Int)) z (fu 2 (.func (.func 29) #[] #[Pt b5398 0]) z (fu 6 (.int .i64 (20:Int)) z z)))), hst⟩ ?_
 rintro n9343 _ w9338 ⟨z9335, σ9336, hm, rfl, hst⟩
 obtain ⟨n9340, y9341, rfl, hm, hx9342⟩ := loopN_some hm
 dsimp only [label_New_l15] at hm
 refine wp_seq (wp_seq (wrl (wv (.int .i64 z9335) z z z (wv (.int .i64 ((z7051.all).length : Int)) z z z (wv (.bool (decide (z9335 < ((z7051.all).length : Int)))) z z z (wl_nil (tn ?_)))))))
 refine bsplit (decide (z9335 < ((z7051.all).length : Int))) (fun hc9344 => ?_) (fun hc9344 => ?_)
 {
 replace hm := bif_t hc9344 hm
 refine wp_ift (cvb hc9344) ?_
 refine wp_skip (tn (wp_block (wp_seq (wrl ?_))))
 refine wv (.int .i64 z9335) z z z (wv (.int .i64 (i64.wrap ((2:Int) * z9335))) z z z (wv (.int .i64 (0:Int)) z z z (wv (.int .i64 (i64.wrap ((2:Int) * z9335))) z z z (wl_nil (tn ?_)))))
 obtain ⟨y9357, hm, hx9358⟩ := bind_some hm
 refine wp_cut (fun a w => ∃ (σ9355 : Nat → Value), (label_New_j16 z9335 z7051) () = some y9341 ∧ a = Fr 63 (upd (upd (upd (upd (upd σ9355 0 (v7070)) 1 (.int .i64 ((z7051.all).length : Int))) 2 (.func (.func 29) #[] #[Pt b5398 0])) 6 (.int .i64 z9335)) 7 (.int .i64 (0:Int))) ∧ St w0 w I7052 [ownS (tyInt .i64) v7070 z9295, cells b5398 [Pt b7059 0], cells b7059 [v7060, v7062, v7064, v7066, v7068, v7070], ownS (tyInt .u64) v7060 z7051.up, ownS (tyInt .u64) v7062 z7051.down, ownS (tySl (tyInt .i64)) v7064 z7051.join, ownS (tySl (tyInt .i64)) v7066 z7051.meet, ownS (tyInt .i64) v7068 z7051.rank] R) ?_ ?_
 {
 refine wp_block ?_
 obtain ⟨n9347, hm⟩ := loopO_some hm
 refine wp_loop_n (fun n a w => ∃ (σ9346 : Nat → Value), loopN (label_New_l17 z9335 z7051) n () = some y9357 ∧ a = Fr 63 (upd (upd (upd (upd (upd (upd σ9346 0 (v7070)) 1 (.int .i64 ((z7051.all).length : Int))) 2 (.func (.func 29) #[] #[Pt b5398 0])) 6 (.int .i64 z9335)) 7 (.int .i64 (0:Int))) 8 (.int .i64 (i64.wrap ((2:Int) * z9335)))) ∧ St w0 w I7052 [cells b5398 [Pt b7059 0], cells b7059 [v7060, v7062, v7064, v7066, v7068, v7070], ownS (tyInt .u64) v7060 z7051.up, ownS (tyInt .u64) v7062 z7051.down, ownS (tySl (tyInt .i64)) v7064 z7051.join, ownS (tySl (tyInt .i64)) v7066 z7051.meet, ownS (tyInt .i64) v7068 z7051.rank, ownS (tyInt .i64) v7070 z9295] R) n9347 ⟨_, hm, (fu 0 v7070 z (fu 1 (.int .i64 ((z7051.all).length : Int)) z (fu 2 (.func (.func 29) #[] #[Pt b5398 0]) z (fu 6 (.int .i64 z9335) z (fu 7 (.int .i64 (0:Int)) z (fu 8 (.int .i64 (i64.wrap ((2:Int) * z9335))) z z)))))), hst⟩ ?_
 rintro n9353 _ w9348 ⟨σ9346, hm, rfl, hst⟩
 obtain ⟨n9350, y9351, rfl, hm, hx9352⟩ := loopN_some hm
 dsimp only [label_New_l17] at hm
 refine wp_seq (wp_seq (wrl (wv (.int .i64 (i64.wrap ((2:Int) * z9335))) z z z (wv (.int .i64 ((z7051.all).length : Int)) z z z (wv (.bool (decide ((i64.wrap ((2:Int) * z9335)) ≤ ((z7051.all).length : Int)))) z z z (wl_nil (tn ?_)))))))
 refine bsplit (decide ((i64.wrap ((2:Int) * z9335)) ≤ ((z7051.all).length : Int))) (fun hc9354 => ?_) (fun hc9354 => ?_)
 {
 replace hm := bif_t hc9354 hm
 refine wp_ift (cvb hc9354) ?_
 refine wp_skip (tn (wp_block (wp_seq (wrl ?_))))
 refine wv (v7070) z z z (wv (.int .i64 (0:Int)) z z z (wv (.int .i64 (0:Int)) z z z (wv (.int .i64 z9335) z z z (wv (.int .i64 (i64.wrap ((0:Int) + z9335))) z z z (wv (.int .i64 (i64.wrap ((2:Int) * z9335))) z z z (wv (.func (.func 29) #[] #[Pt b5398 0]) z z z ?_))))))
 cases hm
}
 {
 replace hm := bif_f hc9354 hm
 refine wp_iff (cvb hc9354) ?_
 refine wp_exit (then_x (then_x ?_))
 replace hm := inr_up hm hx9352
 refine blk_x (tn ?_)
 replace hst := hst.pull6.pull6.pull6.pull6.pull6.pull6.pull6.pull7.keep8
 obtain rfl := some_inj hm
 exact ⟨_, hx9358, (fu 0 v7070 z (fu 1 (.int .i64 ((z7051.all).length : Int)) z (fu 2 (.func (.func 29) #[] #[Pt b5398 0]) z (fu 6 (.int .i64 z9335) z (fu 7 (.int .i64 (0:Int)) z z))))), hst⟩
}
}
 {
 clear hst
 rintro _ w9359 ⟨σ9355, hm, rfl, hst⟩
 dsimp only [label_New_j16] at hm
 refine wp_seq (wp_seq (wrl (wv (.int .i64 (0:Int)) z z z (wv (.int .i64 z9335) z z z (wv (.int .i64 (i64.wrap ((0:Int) + z9335))) z z z (wv (.int .i64 (i64.wrap ((0:Int) + z9335))) z z z (wl_nil (tn (wp_seq (wrl (wv (.int .i64 (i64.wrap ((0:Int) + z9335))) z z z (wv (.int .i64 ((z7051.all).length : Int)) z z z (wv (.bool (decide ((i64.wrap ((0:Int) + z9335)) < ((z7051.all).length : Int)))) z z z (wl_nil (tn ?_)))))))))))))))
 refine bsplit (decide ((i64.wrap ((0:Int) + z9335)) < ((z7051.all).length : Int))) (fun hc9360 => ?_) (fun hc9360 => ?_)
 {
 replace hm := bif_t hc9360 hm
 refine wp_ift (cvb hc9360) ?_
 refine wrl (wv (v7070) z z z (wv (.int .i64 (0:Int)) z z z (wv (.int .i64 (i64.wrap ((0:Int) + z9335))) z z z (wv (.int .i64 ((z7051.all).length : Int)) z z z (wv (.func (.func 29) #[] #[Pt b5398 0]) z z z ?_)))))
 cases hm
}
 {
 replace hm := bif_f hc9360 hm
 refine wp_iff (cvb hc9360) ?_
 refine wp_skip (tn (wrl ?_))
 refine wv (.int .i64 z9335) z z z (wv (.int .i64 (i64.wrap (z9335 * (2:Int)))) z z z (wv (.int .i64 (i64.wrap (z9335 * (2:Int)))) z z z (wl_nil (blk_n (tn ?_)))))
 replace hst := hst.pull7.pull7.pull7.pull7.pull7.pull7.pull7.keep8
 obtain rfl := some_inj hm
 exact ⟨_, Nat.lt_succ_self _, (i64.wrap (z9335 * (2:Int))), _, hx9342, (fu 0 v7070 z (fu 1 (.int .i64 ((z7051.all).length : Int)) z (fu 2 (.func (.func 29) #[] #[Pt b5398 0]) z (fu 6 (.int .i64 (i64.wrap (z9335 * (2:Int)))) z z)))), hst⟩
}
}
}
 {
 replace hm := bif_f hc9344 hm
 refine wp_iff (cvb hc9344) ?_
 refine wp_exit (then_x (then_x ?_))
 replace hm := inr_up hm hx9342
 refine blk_x ?_
 refine post_end (vs := []) results37 rvs_nil ?_
 replace hst := hst.pull7.pull7.pull7.pull7.pull7.pull7.pull7.pull7.keep8
 obtain rfl := some_inj hm
 exact ⟨z9295, z, z, hst⟩
}
}
}
 clear hst
 rintro _ w9365 ⟨z9361, rfl, rfl, hst⟩
 refine ⟨_, z, ?_⟩
 try dsimp only at hm
 refine wl_nil ?_
 refine post_end (vs := []) results28 rvs_nil ?_
 replace hst := hst.pull7.pull7.pull7.pull7.pull7.pull7.pull7.pull7.keep8
 obtain rfl := some_inj hm
 exact ⟨z9361, z, z, hst⟩
}
 clear hst
 rintro _ w9370 ⟨z9366, rfl, rfl, hst⟩
 refine ⟨_, z, ?_⟩
 try dsimp only at hm
 refine wl_nil (tn (wp_seq (wp_seq (wrl (wv (Pt b7059 0) z z (x_load z isAgg24 (hst.bc0 z)) (wv (Pt b7059 0) z z z (wv (Pt b7059 5) z z (x_field z underlying49 z sizeOf41 z) (wv (v7070) z z (x_load z isAgg41 (hst.bc1 z)) (wv (.int .i64 ((z9366).length : Int)) z z (x_len z underlying41 hst.sv7) (wv (.int .i64 (0:Int)) z z z (wl_nil (tn (wp_block ?_)))))))))))))
 obtain ⟨n9406, hm⟩ := loopO_some hm
 refine wp_loop_n (fun n a w => ∃ (z9403 : Int) (z9404 : (List Int)) (σ9405 : Nat → Value), loopN (label_New_l18 z9366 z7051) n (z9403, z9404) = some r ∧ a = Fr 192 (upd (upd (upd (upd σ9405 5 (Pt b5398 0)) 176 (v7070)) 177 (.int .i64 ((z9366).length : Int))) 178 (.int .i64 z9403)) ∧ St w0 w I7052 [cells b5398 [Pt b7059 0], cells b7059 [v7060, v7062, v7064, v7066, v7068, v7070], ownS (tyInt .u64) v7060 z7051.up, ownS (tyInt .u64) v7062 z7051.down, ownS (tySl (tyInt .i64)) v7064 z7051.join, ownS (tySl (tyInt .i64)) v7066 z7051.meet, ownS (tyInt .i64) v7068 z9404, ownS (tyInt .i64) v7070 z9366] R) n9406 ⟨(0:Int), z7051.rank, _, hm, (fu 5 (Pt b5398 0) z (fu 176 v7070 z (fu 177 (.int .i64 ((z9366).length : Int)) z (fu 178 (.int .i64 (0:Int)) z z)))), hst⟩ ?_
 rintro n9412 _ w9407 ⟨z9403, z9404, σ9405, hm, rfl, hst⟩
 obtain ⟨n9409, y9410, rfl, hm, hx9411⟩ := loopN_some hm
 dsimp only [label_New_l18] at hm
 refine wp_seq (wrl (wv (.bool (decide (z9403 < ((z9366).length : Int)))) z z z (wl_nil (tn (wp_seq ?_)))))
 refine bsplit (decide (z9403 < ((z9366).length : Int))) (fun hc9413 => ?_) (fun hc9413 => ?_)
 {
 replace hm := bif_t hc9413 hm
 refine wp_ift (cvb hc9413) ?_
 refine wp_skip (tn (wp_seq (wp_block (wp_seq (wrl ?_)))))
 refine wv (.int .i64 z9403) z z z ?_
 obtain ⟨x9414, hx9415, hm⟩ := bind_some hm
 obtain ⟨h9416, h9417, hi9418⟩ := geto_some hx9415
 refine wv (.pointer (some (eAddr v7070 (z9403.toNat * 1 + 0)))) z z (x_index z z underlying41 sizeOf3 hst.sv7 h9416 h9417) (wv (.int .i64 x9414) z z (x_load z isAgg3 (hst.ol7 hi9418 (by rintro _ rfl; rfl))) (wv (.int .i64 z9403) z z z (wv (.int .i64 x9414) z z z (wl_nil (tn (wrl (wv (Pt b7059 0) z z (x_load z isAgg24 (hst.bc0 z)) (wv (Pt b7059 0) z z z (wv (Pt b7059 4) z z (x_field z underlying49 z sizeOf41 z) (wv (v7068) z z (x_load z isAgg41 (hst.bc1 z)) (wv (.int .i64 x9414) z z z (wv (.int .i64 z9403) z z z ?_))))))))))))
 obtain ⟨x9419, hx9420, hm⟩ := bind_some hm
 obtain ⟨h9421, h9422, hi9423⟩ := geto_some hx9420
 refine wv (.pointer (some (eAddr v7068 (x9414.toNat * 1 + 0)))) z z (x_index z z underlying41 sizeOf3 hst.sv6 h9421 h9422) ?_
 replace hst := hst.pull6
 obtain ⟨w9424, hr9425, hst⟩ := hst.own_store (P := prog) (t := 3) (y := z9403) hi9423 0 (.int .i64 z9403) sizeOf3 (Nat.le_of_ble_eq_true z) (oC z oN) (by rintro _ rfl; rfl)
 have hi9426 := set_get hi9423 z9403
 have h9427 := set_lt h9422 x9414.toNat z9403
 refine wl_unit z z (x_unit hr9425) ?_
 refine wl_nil (blk_n (tn (wrl (wv (.int .i64 (i64.wrap (z9403 + (1:Int)))) z z z (wv (.int .i64 (i64.wrap (z9403 + (1:Int)))) z z z (wl_nil (tn ?_)))))))
 replace hst := hst.pull7.pull1.pull7.pull7.pull7.pull7.pull7.pull7.keep8
 obtain rfl := some_inj hm
 exact ⟨_, Nat.lt_succ_self _, (i64.wrap (z9403 + (1:Int))), (z9404.set x9414.toNat z9403), _, hx9411, (fu 5 (Pt b5398 0) z (fu 176 v7070 z (fu 177 (.int .i64 ((z9366).length : Int)) z (fu 178 (.int .i64 (i64.wrap (z9403 + (1:Int)))) z z)))), hst⟩
}
 {
 replace hm := bif_f hc9413 hm
 refine wp_iff (cvb hc9413) ?_
 refine wp_exit (then_x (then_x ?_))
 replace hm := inr_up hm hx9411
 refine blk_x (tn (wp_seq (wrl ?_)))
 refine wv (Pt b7059 0) z z (x_load z isAgg24 (hst.bc0 z)) (wv (Pt b7059 0) z z z (wv (.int .i64 (0:Int)) z z z (wl_nil (tn (wp_ret ?_)))))
 replace hst := hst.pull7.pull7.pull7.pull7.pull7.pull7.pull7
 replace hst := at_label_Lattice_close (pv := Pt b7059 0) (x := ({ up := z7051.up, down := z7051.down, join := z7051.join, meet := z7051.meet, rank := z9404, all := z9366 } : label_Lattice)) hst z
 replace hst := objO_some hst
 obtain rfl := some_inj hm
 refine post_ret (vs := [Pt b7059 0, Zi]) results10 (rvs_cons (rv_tmp z) (rvs_cons (rv_tmp z) rvs_nil)) ?_
 exact ⟨_, Pt b7059 0, z, hI0, hst.keep1⟩
}
}
}
}
}
}
}
}

end Go.Proofs.Ytddhkbholbcebaa
