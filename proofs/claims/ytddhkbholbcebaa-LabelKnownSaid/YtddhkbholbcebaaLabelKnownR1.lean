/- The Go functions refine their models, part 1. -/
import Derived.Test.YtddhkbholbcebaaLabelKnownR0
set_option linter.unusedVariables false
set_option linter.unusedSimpArgs false
set_option maxRecDepth 100000
set_option maxHeartbeats 4000000
namespace Go.Proofs.Ytddhkbholbcebaa
open Go Go.V
open _root_.Go.Proofs.Try IntKind
attribute [local irreducible] wpList Code.wp wpQuiet Calls bodyPost Oper.wp wpS Nx PendOK YieldsIn
theorem label_New_ref {w0 w : World} {I : HL} {R : SP} {a0 : (List Int)} {r0_0 : Value} (f0_0 : Rd (tyInt .u64) R I r0_0 a0) (hst : St w0 w I [] R) {r : (Option label_Lattice × Int)} (hm : label_New a0 = some r) :
  Calls prog 10 #[r0_0] w fun e w' => ∃ (I' : HL) (q0 : Value), e = .returned (.tuple #[q0, I6 r.2]) ∧ I.le I' ∧ St w0 w' I' [objO at_label_Lattice q0 r.1] R := by {
 unfold label_New at hm
 refine calls_start (args := [r0_0]) func10 z ntmps10 (Nat.le_of_ble_eq_true z) ?_
 have hI0 := HL.le.refl I
 refine wp_seq (wrl (wv (.pointer none) z z z (wv (.int .i64 (0:Int)) z z z (wl_nil (tn (wp_seq (wrl (wv (r0_0) z z z (wv (.int .i64 ((a0).length : Int)) z z (x_len z underlying28 (rd_sliceV f0_0)) (wv (.int .i64 ((a0).length : Int)) z z z (wl_nil (tn (wp_seq (wp_seq (wrl (wv (.int .i64 ((a0).length : Int)) z z z (wv (.bool (decide (((a0).length : Int) < (1:Int)))) z z z (wv (.bool (decide (((a0).length : Int) < (1:Int)))) z z z ?_))))))))))))))))))
 refine bsplit (decide (((a0).length : Int) < (1:Int))) (fun hc4718 => ?_) (fun hc4718 => ?_)
 {
 replace hm := bif_t hc4718 hm
 refine wo hc4718 z z z z z z (wo hc4718 z z z z z z (wv (.bool true) z z (x_pick_t hc4718 z z) (wl_nil (tn ?_))))
 refine wp_ift z ?_
 refine wp_seq (wrl (wv (.pointer none) z z z (wv (.int .i64 (1:Int)) z z z (wl_nil (tn (wp_ret (then_r ?_)))))))
 replace hst := hst.objO_nil at_label_Lattice
 obtain rfl := some_inj hm
 refine post_ret (vs := [.pointer none, I6 (1:Int)]) results10 (rvs_cons (rv_tmp z) (rvs_cons (rv_tmp z) rvs_nil)) ?_
 exact ⟨_, .pointer none, z, hI0, hst.keep1⟩
}
 {
 replace hm := bif_f hc4718 hm
 refine wv (.int .i64 ((a0).length : Int)) ((wanted_eq z z z (cvb hc4718)).trans z) z z (wv (.bool (decide (((a0).length : Int) > (16:Int)))) ((wanted_eq z z z (cvb hc4718)).trans z) z z (wv (.bool (decide (((a0).length : Int) > (16:Int)))) z z (x_pick_f hc4718 z z) (wl_nil (tn ?_))))
 refine bsplit (decide (((a0).length : Int) > (16:Int))) (fun hc4720 => ?_) (fun hc4720 => ?_)
 {
 replace hm := bif_t hc4720 hm
 refine wp_ift (cvb hc4720) ?_
 refine wp_seq (wrl (wv (.pointer none) z z z (wv (.int .i64 (1:Int)) z z z (wl_nil (tn (wp_ret (then_r ?_)))))))
 replace hst := hst.objO_nil at_label_Lattice
 obtain rfl := some_inj hm
 refine post_ret (vs := [.pointer none, I6 (1:Int)]) results10 (rvs_cons (rv_tmp z) (rvs_cons (rv_tmp z) rvs_nil)) ?_
 exact ⟨_, .pointer none, z, hI0, hst.keep1⟩
}
 {
 replace hm := bif_f hc4720 hm
 refine wp_iff (cvb hc4720) ?_
 refine wp_skip (tn (wp_seq ?_))
 obtain ⟨y5405, hm, hx5406⟩ := bind_some hm
 refine wp_mid (fun a w => ∃ (z5402 : label_Lattice) (b5399 : Nat) (v5401 : Value) (σ5403 : Nat → Value), (label_New_j0 a0) z5402 = some r ∧ a = Fr 192 (upd (upd (upd σ5403 0 (r0_0)) 4 (.int .i64 ((a0).length : Int))) 5 (Pt b5399 0)) ∧ St w0 w I [cells b5399 [v5401], at_label_Lattice v5401 z5402] R) ?_ ?_
 {
 refine wp_region_St hst 10 [0, 1, 2, 3, 4, 5, 6, 7, 8, 9] [0, 1, 0, 4, 0, 16, 63, 127, 0, 511] [] z (by kernel_rfl) (by kernel_rfl) Try.mixed (by kernel_rfl) ?_
 refine wsr (r0_0) 0 z z z (by kernel_rfl) (fun w hst => z) (wsr (.int .i64 ((a0).length : Int)) 2 z z z (by kernel_rfl) (fun w hst => z) (wsr (.int .i64 ((a0).length : Int)) 4 z z z (by kernel_rfl) (fun w hst => z) ?_))
 obtain ⟨t4722, ht4723, hm⟩ := bind_some hm
 obtain ⟨hg4724, hm⟩ := gd_some hm
 obtain ⟨hg4725, hm⟩ := gd_some hm
 refine ws_e4 1 3 5 8 (by kernel_rfl) ?_ ?_ ?_ ?_
 {
 refine nxe [3, 5, 6, 7, 8, 9] (by kernel_rfl) z z ?_
 clear hst
 intro w hst
 refine wec call25 [r0_0] z z ?_
 refine (slices_Clone_uint64_uint64_ref (f0_0.mono (rd_weak _)) hst.to0 ht4723).mono ?_
 rintro _ w4726 ⟨v4729, rfl, hst⟩
 refine ⟨_, z, ?_⟩
 replace hst := hst.of1
 refine ws_next (pend' := [(4, I6 ((a0).length : Int)), (2, I6 ((a0).length : Int))]) hst (by kernel_rfl) (pkr z z (fun w hst => z) (pkr z z (fun w hst => z) pk_nil)) ?_
 refine ws_e3 3 5 8 (by kernel_rfl) ?_ ?_ ?_
 {
 refine nxe [5, 6, 7, 8, 9] (by kernel_rfl) z z ?_
 clear hst
 intro w hst
 obtain ⟨v4731, w4732, hr4733, hst⟩ := run_mk (k := .i64) (k' := .i64) (zm := (0:Int)) elem_28 hst hg4724 (by decide) z
 refine we_run (v := v4731) (w' := w4732) z (x_make z z hr4733) ?_
 refine ws_next (pend' := [(4, I6 ((a0).length : Int))]) hst (by kernel_rfl) (pkr z z (fun w hst => z) pk_nil) ?_
 refine ws_e2 5 8 (by kernel_rfl) ?_ ?_
 {
 refine nxe [6, 7, 8, 9] (by kernel_rfl) z z ?_
 clear hst
 intro w hst
 obtain ⟨v4735, w4736, hr4737, hst⟩ := run_mk (k := .i64) (k' := .i64) (zm := (0:Int)) elem_41 hst hg4725 (by decide) z
 refine we_run (v := v4735) (w' := w4736) z (x_make z z hr4737) ?_
 refine ws_next (pend' := []) hst (by kernel_rfl) pk_nil ?_
 refine wsr (.agg #[v4729, v4731, Zs, Zs, v4735, Zs]) 6 rfl rfl rfl (by kernel_rfl) (fun w hst => by obtain ⟨_, _, hv_, _⟩ := hst.sv0; rw [hv_]; obtain ⟨_, _, hv_, _⟩ := hst.sv1; rw [hv_]; obtain ⟨_, _, hv_, _⟩ := hst.sv2; rw [hv_]; kernel_rfl) ?_
 refine ws_e2 7 8 (by kernel_rfl) ?_ ?_
 {
 refine nxe [8, 9] (by kernel_rfl) z z ?_
 clear hst
 intro w hst
 obtain ⟨b4745, w4746, ew4747, eb4748, hst⟩ := hst.box [v4729, v4731, Zs, Zs, v4735, Zs] 49
 refine we_run (v := Pt b4745 0) (w' := w4746) z (x_al (by kernel_rfl) ew4747 eb4748) ?_
 refine ws_next (pend' := []) hst (by kernel_rfl) pk_nil ?_
 refine ws_e1 8 (by kernel_rfl) ?_
 refine nxe [9] (by kernel_rfl) z z ?_
 clear hst
 intro w hst
 obtain ⟨b4750, w4751, ew4752, eb4753, hst⟩ := hst.box [.pointer none] 24
 refine we_run (v := Pt b4750 0) (w' := w4751) z (x_al (by kernel_rfl) ew4752 eb4753) ?_
 refine ws_next (pend' := []) hst (by kernel_rfl) pk_nil ?_
 refine ws_e1 9 (by kernel_rfl) ?_
 refine nxe [] (by kernel_rfl) z z ?_
 clear hst
 intro w hst
 obtain ⟨w4755, hr4756, hst⟩ := hst.by_ [Pt b4745 0] 0 (Pt b4745 0) sizeOf24 z (oC z oN) (by kernel_rfl)
 refine we_unit z (x_unit hr4756) ?_
 refine ws_next (pend' := []) hst (by kernel_rfl) pk_nil ?_
 refine ws_nil ?_
 intro w hst
 refine ⟨z, ?_⟩
 replace hst := hst.own_nil (tySl (tyInt .i64))
 replace hst := hst.own_nil (tySl (tyInt .i64))
 replace hst := hst.own_nil (tyInt .i64)
 replace hst := hst.pull5.pull2.pull3.pull6.pull7.pull7
 replace hst := at_label_Lattice_close (pv := Pt b4745 0) (x := ({ up := t4722, down := (List.replicate (Int.toNat ((a0).length : Int)) (0:Int)), join := [], meet := [], rank := (List.replicate (Int.toNat ((a0).length : Int)) (0:Int)), all := [] } : label_Lattice)) hst z
 replace hst := hst.pull1.keep2
 obtain rfl := some_inj hm
 exact ⟨({ up := t4722, down := (List.replicate (Int.toNat ((a0).length : Int)) (0:Int)), join := [], meet := [], rank := (List.replicate (Int.toNat ((a0).length : Int)) (0:Int)), all := [] } : label_Lattice), b4750, (Pt b4745 0), _, hx5406, (fu 0 r0_0 z (fu 4 (.int .i64 ((a0).length : Int)) z (fu 5 (Pt b4750 0) z z))), hst⟩
}
 {
 refine nxe [7, 9] (by kernel_rfl) z z ?_
 clear hst
 intro w hst
 obtain ⟨b4757, w4758, ew4759, eb4760, hst⟩ := hst.box [.pointer none] 24
 refine we_run (v := Pt b4757 0) (w' := w4758) z (x_al (by kernel_rfl) ew4759 eb4760) ?_
 refine ws_next (pend' := [(6, .agg #[v4729, v4731, Zs, Zs, v4735, Zs])]) hst (by kernel_rfl) (pkr rfl rfl (fun w hst => by obtain ⟨_, _, hv_, _⟩ := hst.sv1; rw [hv_]; obtain ⟨_, _, hv_, _⟩ := hst.sv2; rw [hv_]; obtain ⟨_, _, hv_, _⟩ := hst.sv3; rw [hv_]; kernel_rfl) pk_nil) ?_
 refine ws_e1 7 (by kernel_rfl) ?_
 refine nxe [9] (by kernel_rfl) z z ?_
 clear hst
 intro w hst
 obtain ⟨b4762, w4763, ew4764, eb4765, hst⟩ := hst.box [v4729, v4731, Zs, Zs, v4735, Zs] 49
 refine we_run (v := Pt b4762 0) (w' := w4763) z (x_al (by kernel_rfl) ew4764 eb4765) ?_
 refine ws_next (pend' := []) hst (by kernel_rfl) pk_nil ?_
 refine ws_e1 9 (by kernel_rfl) ?_
 refine nxe [] (by kernel_rfl) z z ?_
 clear hst
 intro w hst
 replace hst := hst.pull1
 obtain ⟨w4767, hr4768, hst⟩ := hst.by_ [Pt b4762 0] 0 (Pt b4762 0) sizeOf24 z (oC z oN) (by kernel_rfl)
 refine we_unit z (x_unit hr4768) ?_
 refine ws_next (pend' := []) hst (by kernel_rfl) pk_nil ?_
 refine ws_nil ?_
 intro w hst
 refine ⟨z, ?_⟩
 replace hst := hst.own_nil (tySl (tyInt .i64))
 replace hst := hst.own_nil (tySl (tyInt .i64))
 replace hst := hst.own_nil (tyInt .i64)
 replace hst := hst.pull5.pull2.pull3.pull6.pull7.pull7
 replace hst := at_label_Lattice_close (pv := Pt b4762 0) (x := ({ up := t4722, down := (List.replicate (Int.toNat ((a0).length : Int)) (0:Int)), join := [], meet := [], rank := (List.replicate (Int.toNat ((a0).length : Int)) (0:Int)), all := [] } : label_Lattice)) hst z
 replace hst := hst.pull1.keep2
 obtain rfl := some_inj hm
 exact ⟨({ up := t4722, down := (List.replicate (Int.toNat ((a0).length : Int)) (0:Int)), join := [], meet := [], rank := (List.replicate (Int.toNat ((a0).length : Int)) (0:Int)), all := [] } : label_Lattice), b4757, (Pt b4762 0), _, hx5406, (fu 0 r0_0 z (fu 4 (.int .i64 ((a0).length : Int)) z (fu 5 (Pt b4757 0) z z))), hst⟩
}
}
 {
 refine nxe [5, 6, 7, 9] (by kernel_rfl) z z ?_
 clear hst
 intro w hst
 obtain ⟨b4769, w4770, ew4771, eb4772, hst⟩ := hst.box [.pointer none] 24
 refine we_run (v := Pt b4769 0) (w' := w4770) z (x_al (by kernel_rfl) ew4771 eb4772) ?_
 refine ws_next (pend' := [(4, I6 ((a0).length : Int))]) hst (by kernel_rfl) (pkr z z (fun w hst => z) pk_nil) ?_
 refine ws_e1 5 (by kernel_rfl) ?_
 refine nxe [6, 7, 9] (by kernel_rfl) z z ?_
 clear hst
 intro w hst
 obtain ⟨v4774, w4775, hr4776, hst⟩ := run_mk (k := .i64) (k' := .i64) (zm := (0:Int)) elem_41 hst hg4725 (by decide) z
 refine we_run (v := v4774) (w' := w4775) z (x_make z z hr4776) ?_
 refine ws_next (pend' := []) hst (by kernel_rfl) pk_nil ?_
 refine wsr (.agg #[v4729, v4731, Zs, Zs, v4774, Zs]) 6 rfl rfl rfl (by kernel_rfl) (fun w hst => by obtain ⟨_, _, hv_, _⟩ := hst.sv0; rw [hv_]; obtain ⟨_, _, hv_, _⟩ := hst.sv2; rw [hv_]; obtain ⟨_, _, hv_, _⟩ := hst.sv3; rw [hv_]; kernel_rfl) ?_
 refine ws_e1 7 (by kernel_rfl) ?_
 refine nxe [9] (by kernel_rfl) z z ?_
 clear hst
 intro w hst
 obtain ⟨b4784, w4785, ew4786, eb4787, hst⟩ := hst.box [v4729, v4731, Zs, Zs, v4774, Zs] 49
 refine we_run (v := Pt b4784 0) (w' := w4785) z (x_al (by kernel_rfl) ew4786 eb4787) ?_
 refine ws_next (pend' := []) hst (by kernel_rfl) pk_nil ?_
 refine ws_e1 9 (by kernel_rfl) ?_
 refine nxe [] (by kernel_rfl) z z ?_
 clear hst
 intro w hst
 replace hst := hst.pull2
 obtain ⟨w4789, hr4790, hst⟩ := hst.by_ [Pt b4784 0] 0 (Pt b4784 0) sizeOf24 z (oC z oN) (by kernel_rfl)
 refine we_unit z (x_unit hr4790) ?_
 refine ws_next (pend' := []) hst (by kernel_rfl) pk_nil ?_
 refine ws_nil ?_
 intro w hst
 refine ⟨z, ?_⟩
 replace hst := hst.own_nil (tySl (tyInt .i64))
 replace hst := hst.own_nil (tySl (tyInt .i64))
 replace hst := hst.own_nil (tyInt .i64)
 replace hst := hst.pull5.pull2.pull3.pull6.pull7.pull7
 replace hst := at_label_Lattice_close (pv := Pt b4784 0) (x := ({ up := t4722, down := (List.replicate (Int.toNat ((a0).length : Int)) (0:Int)), join := [], meet := [], rank := (List.replicate (Int.toNat ((a0).length : Int)) (0:Int)), all := [] } : label_Lattice)) hst z
 replace hst := hst.pull1.keep2
 obtain rfl := some_inj hm
 exact ⟨({ up := t4722, down := (List.replicate (Int.toNat ((a0).length : Int)) (0:Int)), join := [], meet := [], rank := (List.replicate (Int.toNat ((a0).length : Int)) (0:Int)), all := [] } : label_Lattice), b4769, (Pt b4784 0), _, hx5406, (fu 0 r0_0 z (fu 4 (.int .i64 ((a0).length : Int)) z (fu 5 (Pt b4769 0) z z))), hst⟩
}
}
 {
 refine nxe [3, 6, 7, 8, 9] (by kernel_rfl) z z ?_
 clear hst
 intro w hst
 obtain ⟨v4791, w4792, hr4793, hst⟩ := run_mk (k := .i64) (k' := .i64) (zm := (0:Int)) elem_41 hst hg4725 (by decide) z
 refine we_run (v := v4791) (w' := w4792) z (x_make z z hr4793) ?_
 refine ws_next (pend' := [(2, I6 ((a0).length : Int))]) hst (by kernel_rfl) (pkr z z (fun w hst => z) pk_nil) ?_
 refine ws_e2 3 8 (by kernel_rfl) ?_ ?_
 {
 refine nxe [6, 7, 8, 9] (by kernel_rfl) z z ?_
 clear hst
 intro w hst
 obtain ⟨v4795, w4796, hr4797, hst⟩ := run_mk (k := .i64) (k' := .i64) (zm := (0:Int)) elem_28 hst hg4724 (by decide) z
 refine we_run (v := v4795) (w' := w4796) z (x_make z z hr4797) ?_
 refine ws_next (pend' := []) hst (by kernel_rfl) pk_nil ?_
 refine wsr (.agg #[v4729, v4795, Zs, Zs, v4791, Zs]) 6 rfl rfl rfl (by kernel_rfl) (fun w hst => by obtain ⟨_, _, hv_, _⟩ := hst.sv1; rw [hv_]; obtain ⟨_, _, hv_, _⟩ := hst.sv0; rw [hv_]; obtain ⟨_, _, hv_, _⟩ := hst.sv2; rw [hv_]; kernel_rfl) ?_
 refine ws_e2 7 8 (by kernel_rfl) ?_ ?_
 {
 refine nxe [8, 9] (by kernel_rfl) z z ?_
 clear hst
 intro w hst
 obtain ⟨b4805, w4806, ew4807, eb4808, hst⟩ := hst.box [v4729, v4795, Zs, Zs, v4791, Zs] 49
 refine we_run (v := Pt b4805 0) (w' := w4806) z (x_al (by kernel_rfl) ew4807 eb4808) ?_
 refine ws_next (pend' := []) hst (by kernel_rfl) pk_nil ?_
 refine ws_e1 8 (by kernel_rfl) ?_
 refine nxe [9] (by kernel_rfl) z z ?_
 clear hst
 intro w hst
 obtain ⟨b4810, w4811, ew4812, eb4813, hst⟩ := hst.box [.pointer none] 24
 refine we_run (v := Pt b4810 0) (w' := w4811) z (x_al (by kernel_rfl) ew4812 eb4813) ?_
 refine ws_next (pend' := []) hst (by kernel_rfl) pk_nil ?_
 refine ws_e1 9 (by kernel_rfl) ?_
 refine nxe [] (by kernel_rfl) z z ?_
 clear hst
 intro w hst
 obtain ⟨w4815, hr4816, hst⟩ := hst.by_ [Pt b4805 0] 0 (Pt b4805 0) sizeOf24 z (oC z oN) (by kernel_rfl)
 refine we_unit z (x_unit hr4816) ?_
 refine ws_next (pend' := []) hst (by kernel_rfl) pk_nil ?_
 refine ws_nil ?_
 intro w hst
 refine ⟨z, ?_⟩
 replace hst := hst.own_nil (tySl (tyInt .i64))
 replace hst := hst.own_nil (tySl (tyInt .i64))
 replace hst := hst.own_nil (tyInt .i64)
 replace hst := hst.pull6.pull2.pull3.pull6.pull7.pull7
 replace hst := at_label_Lattice_close (pv := Pt b4805 0) (x := ({ up := t4722, down := (List.replicate (Int.toNat ((a0).length : Int)) (0:Int)), join := [], meet := [], rank := (List.replicate (Int.toNat ((a0).length : Int)) (0:Int)), all := [] } : label_Lattice)) hst z
 replace hst := hst.pull1.keep2
 obtain rfl := some_inj hm
 exact ⟨({ up := t4722, down := (List.replicate (Int.toNat ((a0).length : Int)) (0:Int)), join := [], meet := [], rank := (List.replicate (Int.toNat ((a0).length : Int)) (0:Int)), all := [] } : label_Lattice), b4810, (Pt b4805 0), _, hx5406, (fu 0 r0_0 z (fu 4 (.int .i64 ((a0).length : Int)) z (fu 5 (Pt b4810 0) z z))), hst⟩
}
 {
 refine nxe [7, 9] (by kernel_rfl) z z ?_
 clear hst
 intro w hst
 obtain ⟨b4817, w4818, ew4819, eb4820, hst⟩ := hst.box [.pointer none] 24
 refine we_run (v := Pt b4817 0) (w' := w4818) z (x_al (by kernel_rfl) ew4819 eb4820) ?_
 refine ws_next (pend' := [(6, .agg #[v4729, v4795, Zs, Zs, v4791, Zs])]) hst (by kernel_rfl) (pkr rfl rfl (fun w hst => by obtain ⟨_, _, hv_, _⟩ := hst.sv2; rw [hv_]; obtain ⟨_, _, hv_, _⟩ := hst.sv1; rw [hv_]; obtain ⟨_, _, hv_, _⟩ := hst.sv3; rw [hv_]; kernel_rfl) pk_nil) ?_
 refine ws_e1 7 (by kernel_rfl) ?_
 refine nxe [9] (by kernel_rfl) z z ?_
 clear hst
 intro w hst
 obtain ⟨b4822, w4823, ew4824, eb4825, hst⟩ := hst.box [v4729, v4795, Zs, Zs, v4791, Zs] 49
 refine we_run (v := Pt b4822 0) (w' := w4823) z (x_al (by kernel_rfl) ew4824 eb4825) ?_
 refine ws_next (pend' := []) hst (by kernel_rfl) pk_nil ?_
 refine ws_e1 9 (by kernel_rfl) ?_
 refine nxe [] (by kernel_rfl) z z ?_
 clear hst
 intro w hst
 replace hst := hst.pull1
 obtain ⟨w4827, hr4828, hst⟩ := hst.by_ [Pt b4822 0] 0 (Pt b4822 0) sizeOf24 z (oC z oN) (by kernel_rfl)
 refine we_unit z (x_unit hr4828) ?_
 refine ws_next (pend' := []) hst (by kernel_rfl) pk_nil ?_
 refine ws_nil ?_
 intro w hst
 refine ⟨z, ?_⟩
 replace hst := hst.own_nil (tySl (tyInt .i64))
 replace hst := hst.own_nil (tySl (tyInt .i64))
 replace hst := hst.own_nil (tyInt .i64)
 replace hst := hst.pull6.pull2.pull3.pull6.pull7.pull7
 replace hst := at_label_Lattice_close (pv := Pt b4822 0) (x := ({ up := t4722, down := (List.replicate (Int.toNat ((a0).length : Int)) (0:Int)), join := [], meet := [], rank := (List.replicate (Int.toNat ((a0).length : Int)) (0:Int)), all := [] } : label_Lattice)) hst z
 replace hst := hst.pull1.keep2
 obtain rfl := some_inj hm
 exact ⟨({ up := t4722, down := (List.replicate (Int.toNat ((a0).length : Int)) (0:Int)), join := [], meet := [], rank := (List.replicate (Int.toNat ((a0).length : Int)) (0:Int)), all := [] } : label_Lattice), b4817, (Pt b4822 0), _, hx5406, (fu 0 r0_0 z (fu 4 (.int .i64 ((a0).length : Int)) z (fu 5 (Pt b4817 0) z z))), hst⟩
}
}
 {
 refine nxe [3, 6, 7, 9] (by kernel_rfl) z z ?_
 clear hst
 intro w hst
 obtain ⟨b4829, w4830, ew4831, eb4832, hst⟩ := hst.box [.pointer none] 24
 refine we_run (v := Pt b4829 0) (w' := w4830) z (x_al (by kernel_rfl) ew4831 eb4832) ?_
 refine ws_next (pend' := [(2, I6 ((a0).length : Int))]) hst (by kernel_rfl) (pkr z z (fun w hst => z) pk_nil) ?_
 refine ws_e1 3 (by kernel_rfl) ?_
 refine nxe [6, 7, 9] (by kernel_rfl) z z ?_
 clear hst
 intro w hst
 obtain ⟨v4834, w4835, hr4836, hst⟩ := run_mk (k := .i64) (k' := .i64) (zm := (0:Int)) elem_28 hst hg4724 (by decide) z
 refine we_run (v := v4834) (w' := w4835) z (x_make z z hr4836) ?_
 refine ws_next (pend' := []) hst (by kernel_rfl) pk_nil ?_
 refine wsr (.agg #[v4729, v4834, Zs, Zs, v4791, Zs]) 6 rfl rfl rfl (by kernel_rfl) (fun w hst => by obtain ⟨_, _, hv_, _⟩ := hst.sv2; rw [hv_]; obtain ⟨_, _, hv_, _⟩ := hst.sv0; rw [hv_]; obtain ⟨_, _, hv_, _⟩ := hst.sv3; rw [hv_]; kernel_rfl) ?_
 refine ws_e1 7 (by kernel_rfl) ?_
 refine nxe [9] (by kernel_rfl) z z ?_
 clear hst
 intro w hst
 obtain ⟨b4844, w4845, ew4846, eb4847, hst⟩ := hst.box [v4729, v4834, Zs, Zs, v4791, Zs] 49
 refine we_run (v := Pt b4844 0) (w' := w4845) z (x_al (by kernel_rfl) ew4846 eb4847) ?_
 refine ws_next (pend' := []) hst (by kernel_rfl) pk_nil ?_
 refine ws_e1 9 (by kernel_rfl) ?_
 refine nxe [] (by kernel_rfl) z z ?_
 clear hst
 intro w hst
 replace hst := hst.pull2
 obtain ⟨w4849, hr4850, hst⟩ := hst.by_ [Pt b4844 0] 0 (Pt b4844 0) sizeOf24 z (oC z oN) (by kernel_rfl)
 refine we_unit z (x_unit hr4850) ?_
 refine ws_next (pend' := []) hst (by kernel_rfl) pk_nil ?_
 refine ws_nil ?_
 intro w hst
 refine ⟨z, ?_⟩
 replace hst := hst.own_nil (tySl (tyInt .i64))
 replace hst := hst.own_nil (tySl (tyInt .i64))
 replace hst := hst.own_nil (tyInt .i64)
 replace hst := hst.pull6.pull2.pull3.pull6.pull7.pull7
 replace hst := at_label_Lattice_close (pv := Pt b4844 0) (x := ({ up := t4722, down := (List.replicate (Int.toNat ((a0).length : Int)) (0:Int)), join := [], meet := [], rank := (List.replicate (Int.toNat ((a0).length : Int)) (0:Int)), all := [] } : label_Lattice)) hst z
 replace hst := hst.pull1.keep2
 obtain rfl := some_inj hm
 exact ⟨({ up := t4722, down := (List.replicate (Int.toNat ((a0).length : Int)) (0:Int)), join := [], meet := [], rank := (List.replicate (Int.toNat ((a0).length : Int)) (0:Int)), all := [] } : label_Lattice), b4829, (Pt b4844 0), _, hx5406, (fu 0 r0_0 z (fu 4 (.int .i64 ((a0).length : Int)) z (fu 5 (Pt b4829 0) z z))), hst⟩
}
}
 {
 refine nxe [3, 5, 6, 7, 9] (by kernel_rfl) z z ?_
 clear hst
 intro w hst
 obtain ⟨b4851, w4852, ew4853, eb4854, hst⟩ := hst.box [.pointer none] 24
 refine we_run (v := Pt b4851 0) (w' := w4852) z (x_al (by kernel_rfl) ew4853 eb4854) ?_
 refine ws_next (pend' := [(4, I6 ((a0).length : Int)), (2, I6 ((a0).length : Int))]) hst (by kernel_rfl) (pkr z z (fun w hst => z) (pkr z z (fun w hst => z) pk_nil)) ?_
 refine ws_e2 3 5 (by kernel_rfl) ?_ ?_
 {
 refine nxe [5, 6, 7, 9] (by kernel_rfl) z z ?_
 clear hst
 intro w hst
 obtain ⟨v4856, w4857, hr4858, hst⟩ := run_mk (k := .i64) (k' := .i64) (zm := (0:Int)) elem_28 hst hg4724 (by decide) z
 refine we_run (v := v4856) (w' := w4857) z (x_make z z hr4858) ?_
 refine ws_next (pend' := [(4, I6 ((a0).length : Int))]) hst (by kernel_rfl) (pkr z z (fun w hst => z) pk_nil) ?_
 refine ws_e1 5 (by kernel_rfl) ?_
 refine nxe [6, 7, 9] (by kernel_rfl) z z ?_
 clear hst
 intro w hst
 obtain ⟨v4860, w4861, hr4862, hst⟩ := run_mk (k := .i64) (k' := .i64) (zm := (0:Int)) elem_41 hst hg4725 (by decide) z
 refine we_run (v := v4860) (w' := w4861) z (x_make z z hr4862) ?_
 refine ws_next (pend' := []) hst (by kernel_rfl) pk_nil ?_
 refine wsr (.agg #[v4729, v4856, Zs, Zs, v4860, Zs]) 6 rfl rfl rfl (by kernel_rfl) (fun w hst => by obtain ⟨_, _, hv_, _⟩ := hst.sv0; rw [hv_]; obtain ⟨_, _, hv_, _⟩ := hst.sv1; rw [hv_]; obtain ⟨_, _, hv_, _⟩ := hst.sv3; rw [hv_]; kernel_rfl) ?_
 refine ws_e1 7 (by kernel_rfl) ?_
 refine nxe [9] (by kernel_rfl) z z ?_
 clear hst
 intro w hst
 obtain ⟨b4870, w4871, ew4872, eb4873, hst⟩ := hst.box [v4729, v4856, Zs, Zs, v4860, Zs] 49
 refine we_run (v := Pt b4870 0) (w' := w4871) z (x_al (by kernel_rfl) ew4872 eb4873) ?_
 refine ws_next (pend' := []) hst (by kernel_rfl) pk_nil ?_
 refine ws_e1 9 (by kernel_rfl) ?_
 refine nxe [] (by kernel_rfl) z z ?_
 clear hst
 intro w hst
 replace hst := hst.pull3
 obtain ⟨w4875, hr4876, hst⟩ := hst.by_ [Pt b4870 0] 0 (Pt b4870 0) sizeOf24 z (oC z oN) (by kernel_rfl)
 refine we_unit z (x_unit hr4876) ?_
 refine ws_next (pend' := []) hst (by kernel_rfl) pk_nil ?_
 refine ws_nil ?_
 intro w hst
 refine ⟨z, ?_⟩
 replace hst := hst.own_nil (tySl (tyInt .i64))
 replace hst := hst.own_nil (tySl (tyInt .i64))
 replace hst := hst.own_nil (tyInt .i64)
 replace hst := hst.pull5.pull2.pull3.pull6.pull7.pull7
 replace hst := at_label_Lattice_close (pv := Pt b4870 0) (x := ({ up := t4722, down := (List.replicate (Int.toNat ((a0).length : Int)) (0:Int)), join := [], meet := [], rank := (List.replicate (Int.toNat ((a0).length : Int)) (0:Int)), all := [] } : label_Lattice)) hst z
 replace hst := hst.pull1.keep2
 obtain rfl := some_inj hm
 exact ⟨({ up := t4722, down := (List.replicate (Int.toNat ((a0).length : Int)) (0:Int)), join := [], meet := [], rank := (List.replicate (Int.toNat ((a0).length : Int)) (0:Int)), all := [] } : label_Lattice), b4851, (Pt b4870 0), _, hx5406, (fu 0 r0_0 z (fu 4 (.int .i64 ((a0).length : Int)) z (fu 5 (Pt b4851 0) z z))), hst⟩
}
 {
 refine nxe [3, 6, 7, 9] (by kernel_rfl) z z ?_
 clear hst
 intro w hst
 obtain ⟨v4877, w4878, hr4879, hst⟩ := run_mk (k := .i64) (k' := .i64) (zm := (0:Int)) elem_41 hst hg4725 (by decide) z
 refine we_run (v := v4877) (w' := w4878) z (x_make z z hr4879) ?_
 refine ws_next (pend' := [(2, I6 ((a0).length : Int))]) hst (by kernel_rfl) (pkr z z (fun w hst => z) pk_nil) ?_
 refine ws_e1 3 (by kernel_rfl) ?_
 refine nxe [6, 7, 9] (by kernel_rfl) z z ?_
 clear hst
 intro w hst
 obtain ⟨v4881, w4882, hr4883, hst⟩ := run_mk (k := .i64) (k' := .i64) (zm := (0:Int)) elem_28 hst hg4724 (by decide) z
 refine we_run (v := v4881) (w' := w4882) z (x_make z z hr4883) ?_
 refine ws_next (pend' := []) hst (by kernel_rfl) pk_nil ?_
 refine wsr (.agg #[v4729, v4881, Zs, Zs, v4877, Zs]) 6 rfl rfl rfl (by kernel_rfl) (fun w hst => by obtain ⟨_, _, hv_, _⟩ := hst.sv1; rw [hv_]; obtain ⟨_, _, hv_, _⟩ := hst.sv0; rw [hv_]; obtain ⟨_, _, hv_, _⟩ := hst.sv3; rw [hv_]; kernel_rfl) ?_
 refine ws_e1 7 (by kernel_rfl) ?_
 refine nxe [9] (by kernel_rfl) z z ?_
 clear hst
 intro w hst
 obtain ⟨b4891, w4892, ew4893, eb4894, hst⟩ := hst.box [v4729, v4881, Zs, Zs, v4877, Zs] 49
 refine we_run (v := Pt b4891 0) (w' := w4892) z (x_al (by kernel_rfl) ew4893 eb4894) ?_
 refine ws_next (pend' := []) hst (by kernel_rfl) pk_nil ?_
 refine ws_e1 9 (by kernel_rfl) ?_
 refine nxe [] (by kernel_rfl) z z ?_
 clear hst
 intro w hst
 replace hst := hst.pull3
 obtain ⟨w4896, hr4897, hst⟩ := hst.by_ [Pt b4891 0] 0 (Pt b4891 0) sizeOf24 z (oC z oN) (by kernel_rfl)
 refine we_unit z (x_unit hr4897) ?_
 refine ws_next (pend' := []) hst (by kernel_rfl) pk_nil ?_
 refine ws_nil ?_
 intro w hst
 refine ⟨z, ?_⟩
 replace hst := hst.own_nil (tySl (tyInt .i64))
 replace hst := hst.own_nil (tySl (tyInt .i64))
 replace hst := hst.own_nil (tyInt .i64)
 replace hst := hst.pull6.pull2.pull3.pull6.pull7.pull7
 replace hst := at_label_Lattice_close (pv := Pt b4891 0) (x := ({ up := t4722, down := (List.replicate (Int.toNat ((a0).length : Int)) (0:Int)), join := [], meet := [], rank := (List.replicate (Int.toNat ((a0).length : Int)) (0:Int)), all := [] } : label_Lattice)) hst z
 replace hst := hst.pull1.keep2
 obtain rfl := some_inj hm
 exact ⟨({ up := t4722, down := (List.replicate (Int.toNat ((a0).length : Int)) (0:Int)), join := [], meet := [], rank := (List.replicate (Int.toNat ((a0).length : Int)) (0:Int)), all := [] } : label_Lattice), b4851, (Pt b4891 0), _, hx5406, (fu 0 r0_0 z (fu 4 (.int .i64 ((a0).length : Int)) z (fu 5 (Pt b4851 0) z z))), hst⟩
}
}
}
 {
 refine nxe [1, 5, 6, 7, 8, 9] (by kernel_rfl) z z ?_
 clear hst
 intro w hst
 obtain ⟨v4898, w4899, hr4900, hst⟩ := run_mk (k := .i64) (k' := .i64) (zm := (0:Int)) elem_28 hst hg4724 (by decide) z
 refine we_run (v := v4898) (w' := w4899) z (x_make z z hr4900) ?_
 refine ws_next (pend' := [(4, I6 ((a0).length : Int)), (0, r0_0)]) hst (by kernel_rfl) (pkr z z (fun w hst => z) (pkr z z (fun w hst => z) pk_nil)) ?_
 refine ws_e3 1 5 8 (by kernel_rfl) ?_ ?_ ?_
 {
 refine nxe [5, 6, 7, 8, 9] (by kernel_rfl) z z ?_
 clear hst
 intro w hst
 refine wec call25 [r0_0] z z ?_
 refine (slices_Clone_uint64_uint64_ref (f0_0.mono (rd_weak _)) hst.to0 ht4723).mono ?_
 rintro _ w4902 ⟨v4905, rfl, hst⟩
 refine ⟨_, z, ?_⟩
 replace hst := hst.of1
 refine ws_next (pend' := [(4, I6 ((a0).length : Int))]) hst (by kernel_rfl) (pkr z z (fun w hst => z) pk_nil) ?_
 refine ws_e2 5 8 (by kernel_rfl) ?_ ?_
 {
 refine nxe [6, 7, 8, 9] (by kernel_rfl) z z ?_
 clear hst
 intro w hst
 obtain ⟨v4907, w4908, hr4909, hst⟩ := run_mk (k := .i64) (k' := .i64) (zm := (0:Int)) elem_41 hst hg4725 (by decide) z
 refine we_run (v := v4907) (w' := w4908) z (x_make z z hr4909) ?_
 refine ws_next (pend' := []) hst (by kernel_rfl) pk_nil ?_
 refine wsr (.agg #[v4905, v4898, Zs, Zs, v4907, Zs]) 6 rfl rfl rfl (by kernel_rfl) (fun w hst => by obtain ⟨_, _, hv_, _⟩ := hst.sv0; rw [hv_]; obtain ⟨_, _, hv_, _⟩ := hst.sv2; rw [hv_]; obtain ⟨_, _, hv_, _⟩ := hst.sv1; rw [hv_]; kernel_rfl) ?_
 refine ws_e2 7 8 (by kernel_rfl) ?_ ?_
 {
 refine nxe [8, 9] (by kernel_rfl) z z ?_
 clear hst
 intro w hst
 obtain ⟨b4917, w4918, ew4919, eb4920, hst⟩ := hst.box [v4905, v4898, Zs, Zs, v4907, Zs] 49
 refine we_run (v := Pt b4917 0) (w' := w4918) z (x_al (by kernel_rfl) ew4919 eb4920) ?_
 refine ws_next (pend' := []) hst (by kernel_rfl) pk_nil ?_
 refine ws_e1 8 (by kernel_rfl) ?_
 refine nxe [9] (by kernel_rfl) z z ?_
 clear hst
 intro w hst
 obtain ⟨b4922, w4923, ew4924, eb4925, hst⟩ := hst.box [.pointer none] 24
 refine we_run (v := Pt b4922 0) (w' := w4923) z (x_al (by kernel_rfl) ew4924 eb4925) ?_
 refine ws_next (pend' := []) hst (by kernel_rfl) pk_nil ?_
 refine ws_e1 9 (by kernel_rfl) ?_
 refine nxe [] (by kernel_rfl) z z ?_
 clear hst
 intro w hst
 obtain ⟨w4927, hr4928, hst⟩ := hst.by_ [Pt b4917 0] 0 (Pt b4917 0) sizeOf24 z (oC z oN) (by kernel_rfl)
 refine we_unit z (x_unit hr4928) ?_
 refine ws_next (pend' := []) hst (by kernel_rfl) pk_nil ?_
 refine ws_nil ?_
 intro w hst
 refine ⟨z, ?_⟩
 replace hst := hst.own_nil (tySl (tyInt .i64))
 replace hst := hst.own_nil (tySl (tyInt .i64))
 replace hst := hst.own_nil (tyInt .i64)
 replace hst := hst.pull5.pull2.pull3.pull7.pull7.pull7
 replace hst := at_label_Lattice_close (pv := Pt b4917 0) (x := ({ up := t4722, down := (List.replicate (Int.toNat ((a0).length : Int)) (0:Int)), join := [], meet := [], rank := (List.replicate (Int.toNat ((a0).length : Int)) (0:Int)), all := [] } : label_Lattice)) hst z
 replace hst := hst.pull1.keep2
 obtain rfl := some_inj hm
 exact ⟨({ up := t4722, down := (List.replicate (Int.toNat ((a0).length : Int)) (0:Int)), join := [], meet := [], rank := (List.replicate (Int.toNat ((a0).length : Int)) (0:Int)), all := [] } : label_Lattice), b4922, (Pt b4917 0), _, hx5406, (fu 0 r0_0 z (fu 4 (.int .i64 ((a0).length : Int)) z (fu 5 (Pt b4922 0) z z))), hst⟩
}
 {
 refine nxe [7, 9] (by kernel_rfl) z z ?_
 clear hst
 intro w hst
 obtain ⟨b4929, w4930, ew4931, eb4932, hst⟩ := hst.box [.pointer none] 24
 refine we_run (v := Pt b4929 0) (w' := w4930) z (x_al (by kernel_rfl) ew4931 eb4932) ?_
 refine ws_next (pend' := [(6, .agg #[v4905, v4898, Zs, Zs, v4907, Zs])]) hst (by kernel_rfl) (pkr rfl rfl (fun w hst => by obtain ⟨_, _, hv_, _⟩ := hst.sv1; rw [hv_]; obtain ⟨_, _, hv_, _⟩ := hst.sv3; rw [hv_]; obtain ⟨_, _, hv_, _⟩ := hst.sv2; rw [hv_]; kernel_rfl) pk_nil) ?_
 refine ws_e1 7 (by kernel_rfl) ?_
 refine nxe [9] (by kernel_rfl) z z ?_
 clear hst
 intro w hst
 obtain ⟨b4934, w4935, ew4936, eb4937, hst⟩ := hst.box [v4905, v4898, Zs, Zs, v4907, Zs] 49
 refine we_run (v := Pt b4934 0) (w' := w4935) z (x_al (by kernel_rfl) ew4936 eb4937) ?_
 refine ws_next (pend' := []) hst (by kernel_rfl) pk_nil ?_
 refine ws_e1 9 (by kernel_rfl) ?_
 refine nxe [] (by kernel_rfl) z z ?_
 clear hst
 intro w hst
 replace hst := hst.pull1
 obtain ⟨w4939, hr4940, hst⟩ := hst.by_ [Pt b4934 0] 0 (Pt b4934 0) sizeOf24 z (oC z oN) (by kernel_rfl)
 refine we_unit z (x_unit hr4940) ?_
 refine ws_next (pend' := []) hst (by kernel_rfl) pk_nil ?_
 refine ws_nil ?_
 intro w hst
 refine ⟨z, ?_⟩
 replace hst := hst.own_nil (tySl (tyInt .i64))
 replace hst := hst.own_nil (tySl (tyInt .i64))
 replace hst := hst.own_nil (tyInt .i64)
 replace hst := hst.pull5.pull2.pull3.pull7.pull7.pull7
 replace hst := at_label_Lattice_close (pv := Pt b4934 0) (x := ({ up := t4722, down := (List.replicate (Int.toNat ((a0).length : Int)) (0:Int)), join := [], meet := [], rank := (List.replicate (Int.toNat ((a0).length : Int)) (0:Int)), all := [] } : label_Lattice)) hst z
 replace hst := hst.pull1.keep2
 obtain rfl := some_inj hm
 exact ⟨({ up := t4722, down := (List.replicate (Int.toNat ((a0).length : Int)) (0:Int)), join := [], meet := [], rank := (List.replicate (Int.toNat ((a0).length : Int)) (0:Int)), all := [] } : label_Lattice), b4929, (Pt b4934 0), _, hx5406, (fu 0 r0_0 z (fu 4 (.int .i64 ((a0).length : Int)) z (fu 5 (Pt b4929 0) z z))), hst⟩
}
}
 {
 refine nxe [5, 6, 7, 9] (by kernel_rfl) z z ?_
 clear hst
 intro w hst
 obtain ⟨b4941, w4942, ew4943, eb4944, hst⟩ := hst.box [.pointer none] 24
 refine we_run (v := Pt b4941 0) (w' := w4942) z (x_al (by kernel_rfl) ew4943 eb4944) ?_
 refine ws_next (pend' := [(4, I6 ((a0).length : Int))]) hst (by kernel_rfl) (pkr z z (fun w hst => z) pk_nil) ?_
 refine ws_e1 5 (by kernel_rfl) ?_
 refine nxe [6, 7, 9] (by kernel_rfl) z z ?_
 clear hst
 intro w hst
 obtain ⟨v4946, w4947, hr4948, hst⟩ := run_mk (k := .i64) (k' := .i64) (zm := (0:Int)) elem_41 hst hg4725 (by decide) z
 refine we_run (v := v4946) (w' := w4947) z (x_make z z hr4948) ?_
 refine ws_next (pend' := []) hst (by kernel_rfl) pk_nil ?_
 refine wsr (.agg #[v4905, v4898, Zs, Zs, v4946, Zs]) 6 rfl rfl rfl (by kernel_rfl) (fun w hst => by obtain ⟨_, _, hv_, _⟩ := hst.sv0; rw [hv_]; obtain ⟨_, _, hv_, _⟩ := hst.sv3; rw [hv_]; obtain ⟨_, _, hv_, _⟩ := hst.sv2; rw [hv_]; kernel_rfl) ?_
 refine ws_e1 7 (by kernel_rfl) ?_
 refine nxe [9] (by kernel_rfl) z z ?_
 clear hst
 intro w hst
 obtain ⟨b4956, w4957, ew4958, eb4959, hst⟩ := hst.box [v4905, v4898, Zs, Zs, v4946, Zs] 49
 refine we_run (v := Pt b4956 0) (w' := w4957) z (x_al (by kernel_rfl) ew4958 eb4959) ?_
 refine ws_next (pend' := []) hst (by kernel_rfl) pk_nil ?_
 refine ws_e1 9 (by kernel_rfl) ?_
 refine nxe [] (by kernel_rfl) z z ?_
 clear hst
 intro w hst
 replace hst := hst.pull2
 obtain ⟨w4961, hr4962, hst⟩ := hst.by_ [Pt b4956 0] 0 (Pt b4956 0) sizeOf24 z (oC z oN) (by kernel_rfl)
 refine we_unit z (x_unit hr4962) ?_
 refine ws_next (pend' := []) hst (by kernel_rfl) pk_nil ?_
 refine ws_nil ?_
 intro w hst
 refine ⟨z, ?_⟩
 replace hst := hst.own_nil (tySl (tyInt .i64))
 replace hst := hst.own_nil (tySl (tyInt .i64))
 replace hst := hst.own_nil (tyInt .i64)
 replace hst := hst.pull5.pull2.pull3.pull7.pull7.pull7
 replace hst := at_label_Lattice_close (pv := Pt b4956 0) (x := ({ up := t4722, down := (List.replicate (Int.toNat ((a0).length : Int)) (0:Int)), join := [], meet := [], rank := (List.replicate (Int.toNat ((a0).length : Int)) (0:Int)), all := [] } : label_Lattice)) hst z
 replace hst := hst.pull1.keep2
 obtain rfl := some_inj hm
 exact ⟨({ up := t4722, down := (List.replicate (Int.toNat ((a0).length : Int)) (0:Int)), join := [], meet := [], rank := (List.replicate (Int.toNat ((a0).length : Int)) (0:Int)), all := [] } : label_Lattice), b4941, (Pt b4956 0), _, hx5406, (fu 0 r0_0 z (fu 4 (.int .i64 ((a0).length : Int)) z (fu 5 (Pt b4941 0) z z))), hst⟩
}
}
 {
 refine nxe [1, 6, 7, 8, 9] (by kernel_rfl) z z ?_
 clear hst
 intro w hst
 obtain ⟨v4963, w4964, hr4965, hst⟩ := run_mk (k := .i64) (k' := .i64) (zm := (0:Int)) elem_41 hst hg4725 (by decide) z
 refine we_run (v := v4963) (w' := w4964) z (x_make z z hr4965) ?_
 refine ws_next (pend' := [(0, r0_0)]) hst (by kernel_rfl) (pkr z z (fun w hst => z) pk_nil) ?_
 refine ws_e2 1 8 (by kernel_rfl) ?_ ?_
 {
 refine nxe [6, 7, 8, 9] (by kernel_rfl) z z ?_
 clear hst
 intro w hst
 refine wec call25 [r0_0] z z ?_
 refine (slices_Clone_uint64_uint64_ref (f0_0.mono (rd_weak _)) hst.to0 ht4723).mono ?_
 rintro _ w4967 ⟨v4970, rfl, hst⟩
 refine ⟨_, z, ?_⟩
 replace hst := hst.of1
 refine ws_next (pend' := []) hst (by kernel_rfl) pk_nil ?_
 refine wsr (.agg #[v4970, v4898, Zs, Zs, v4963, Zs]) 6 rfl rfl rfl (by kernel_rfl) (fun w hst => by obtain ⟨_, _, hv_, _⟩ := hst.sv1; rw [hv_]; obtain ⟨_, _, hv_, _⟩ := hst.sv2; rw [hv_]; obtain ⟨_, _, hv_, _⟩ := hst.sv0; rw [hv_]; kernel_rfl) ?_
 refine ws_e2 7 8 (by kernel_rfl) ?_ ?_
 {
 refine nxe [8, 9] (by kernel_rfl) z z ?_
 clear hst
 intro w hst
 obtain ⟨b4978, w4979, ew4980, eb4981, hst⟩ := hst.box [v4970, v4898, Zs, Zs, v4963, Zs] 49
 refine we_run (v := Pt b4978 0) (w' := w4979) z (x_al (by kernel_rfl) ew4980 eb4981) ?_
 refine ws_next (pend' := []) hst (by kernel_rfl) pk_nil ?_
 refine ws_e1 8 (by kernel_rfl) ?_
 refine nxe [9] (by kernel_rfl) z z ?_
 clear hst
 intro w hst
 obtain ⟨b4983, w4984, ew4985, eb4986, hst⟩ := hst.box [.pointer none] 24
 refine we_run (v := Pt b4983 0) (w' := w4984) z (x_al (by kernel_rfl) ew4985 eb4986) ?_
 refine ws_next (pend' := []) hst (by kernel_rfl) pk_nil ?_
 refine ws_e1 9 (by kernel_rfl) ?_
 refine nxe [] (by kernel_rfl) z z ?_
 clear hst
 intro w hst
 obtain ⟨w4988, hr4989, hst⟩ := hst.by_ [Pt b4978 0] 0 (Pt b4978 0) sizeOf24 z (oC z oN) (by kernel_rfl)
 refine we_unit z (x_unit hr4989) ?_
 refine ws_next (pend' := []) hst (by kernel_rfl) pk_nil ?_
 refine ws_nil ?_
 intro w hst
 refine ⟨z, ?_⟩
 replace hst := hst.own_nil (tySl (tyInt .i64))
 replace hst := hst.own_nil (tySl (tyInt .i64))
 replace hst := hst.own_nil (tyInt .i64)
 replace hst := hst.pull6.pull2.pull3.pull7.pull7.pull7
 replace hst := at_label_Lattice_close (pv := Pt b4978 0) (x := ({ up := t4722, down := (List.replicate (Int.toNat ((a0).length : Int)) (0:Int)), join := [], meet := [], rank := (List.replicate (Int.toNat ((a0).length : Int)) (0:Int)), all := [] } : label_Lattice)) hst z
 replace hst := hst.pull1.keep2
 obtain rfl := some_inj hm
 exact ⟨({ up := t4722, down := (List.replicate (Int.toNat ((a0).length : Int)) (0:Int)), join := [], meet := [], rank := (List.replicate (Int.toNat ((a0).length : Int)) (0:Int)), all := [] } : label_Lattice), b4983, (Pt b4978 0), _, hx5406, (fu 0 r0_0 z (fu 4 (.int .i64 ((a0).length : Int)) z (fu 5 (Pt b4983 0) z z))), hst⟩
}
 {
 refine nxe [7, 9] (by kernel_rfl) z z ?_
 clear hst
 intro w hst
 obtain ⟨b4990, w4991, ew4992, eb4993, hst⟩ := hst.box [.pointer none] 24
 refine we_run (v := Pt b4990 0) (w' := w4991) z (x_al (by kernel_rfl) ew4992 eb4993) ?_
 refine ws_next (pend' := [(6, .agg #[v4970, v4898, Zs, Zs, v4963, Zs])]) hst (by kernel_rfl) (pkr rfl rfl (fun w hst => by obtain ⟨_, _, hv_, _⟩ := hst.sv2; rw [hv_]; obtain ⟨_, _, hv_, _⟩ := hst.sv3; rw [hv_]; obtain ⟨_, _, hv_, _⟩ := hst.sv1; rw [hv_]; kernel_rfl) pk_nil) ?_
 refine ws_e1 7 (by kernel_rfl) ?_
 refine nxe [9] (by kernel_rfl) z z ?_
 clear hst
 intro w hst
 obtain ⟨b4995, w4996, ew4997, eb4998, hst⟩ := hst.box [v4970, v4898, Zs, Zs, v4963, Zs] 49
 refine we_run (v := Pt b4995 0) (w' := w4996) z (x_al (by kernel_rfl) ew4997 eb4998) ?_
 refine ws_next (pend' := []) hst (by kernel_rfl) pk_nil ?_
 refine ws_e1 9 (by kernel_rfl) ?_
 refine nxe [] (by kernel_rfl) z z ?_
 clear hst
 intro w hst
 replace hst := hst.pull1
 obtain ⟨w5000, hr5001, hst⟩ := hst.by_ [Pt b4995 0] 0 (Pt b4995 0) sizeOf24 z (oC z oN) (by kernel_rfl)
 refine we_unit z (x_unit hr5001) ?_
 refine ws_next (pend' := []) hst (by kernel_rfl) pk_nil ?_
 refine ws_nil ?_
 intro w hst
 refine ⟨z, ?_⟩
 replace hst := hst.own_nil (tySl (tyInt .i64))
 replace hst := hst.own_nil (tySl (tyInt .i64))
 replace hst := hst.own_nil (tyInt .i64)
 replace hst := hst.pull6.pull2.pull3.pull7.pull7.pull7
 replace hst := at_label_Lattice_close (pv := Pt b4995 0) (x := ({ up := t4722, down := (List.replicate (Int.toNat ((a0).length : Int)) (0:Int)), join := [], meet := [], rank := (List.replicate (Int.toNat ((a0).length : Int)) (0:Int)), all := [] } : label_Lattice)) hst z
 replace hst := hst.pull1.keep2
 obtain rfl := some_inj hm
 exact ⟨({ up := t4722, down := (List.replicate (Int.toNat ((a0).length : Int)) (0:Int)), join := [], meet := [], rank := (List.replicate (Int.toNat ((a0).length : Int)) (0:Int)), all := [] } : label_Lattice), b4990, (Pt b4995 0), _, hx5406, (fu 0 r0_0 z (fu 4 (.int .i64 ((a0).length : Int)) z (fu 5 (Pt b4990 0) z z))), hst⟩
}
}
 {
 refine nxe [1, 6, 7, 9] (by kernel_rfl) z z ?_
 clear hst
 intro w hst
 obtain ⟨b5002, w5003, ew5004, eb5005, hst⟩ := hst.box [.pointer none] 24
 refine we_run (v := Pt b5002 0) (w' := w5003) z (x_al (by kernel_rfl) ew5004 eb5005) ?_
 refine ws_next (pend' := [(0, r0_0)]) hst (by kernel_rfl) (pkr z z (fun w hst => z) pk_nil) ?_
 refine ws_e1 1 (by kernel_rfl) ?_
 refine nxe [6, 7, 9] (by kernel_rfl) z z ?_
 clear hst
 intro w hst
 refine wec call25 [r0_0] z z ?_
 refine (slices_Clone_uint64_uint64_ref (f0_0.mono (rd_weak _)) hst.to0 ht4723).mono ?_
 rintro _ w5007 ⟨v5010, rfl, hst⟩
 refine ⟨_, z, ?_⟩
 replace hst := hst.of1
 refine ws_next (pend' := []) hst (by kernel_rfl) pk_nil ?_
 refine wsr (.agg #[v5010, v4898, Zs, Zs, v4963, Zs]) 6 rfl rfl rfl (by kernel_rfl) (fun w hst => by obtain ⟨_, _, hv_, _⟩ := hst.sv2; rw [hv_]; obtain ⟨_, _, hv_, _⟩ := hst.sv3; rw [hv_]; obtain ⟨_, _, hv_, _⟩ := hst.sv0; rw [hv_]; kernel_rfl) ?_
 refine ws_e1 7 (by kernel_rfl) ?_
 refine nxe [9] (by kernel_rfl) z z ?_
 clear hst
 intro w hst
 obtain ⟨b5018, w5019, ew5020, eb5021, hst⟩ := hst.box [v5010, v4898, Zs, Zs, v4963, Zs] 49
 refine we_run (v := Pt b5018 0) (w' := w5019) z (x_al (by kernel_rfl) ew5020 eb5021) ?_
 refine ws_next (pend' := []) hst (by kernel_rfl) pk_nil ?_
 refine ws_e1 9 (by kernel_rfl) ?_
 refine nxe [] (by kernel_rfl) z z ?_
 clear hst
 intro w hst
 replace hst := hst.pull2
 obtain ⟨w5023, hr5024, hst⟩ := hst.by_ [Pt b5018 0] 0 (Pt b5018 0) sizeOf24 z (oC z oN) (by kernel_rfl)
 refine we_unit z (x_unit hr5024) ?_
 refine ws_next (pend' := []) hst (by kernel_rfl) pk_nil ?_
 refine ws_nil ?_
 intro w hst
 refine ⟨z, ?_⟩
 replace hst := hst.own_nil (tySl (tyInt .i64))
 replace hst := hst.own_nil (tySl (tyInt .i64))
 replace hst := hst.own_nil (tyInt .i64)
 replace hst := hst.pull6.pull2.pull3.pull7.pull7.pull7
 replace hst := at_label_Lattice_close (pv := Pt b5018 0) (x := ({ up := t4722, down := (List.replicate (Int.toNat ((a0).length : Int)) (0:Int)), join := [], meet := [], rank := (List.replicate (Int.toNat ((a0).length : Int)) (0:Int)), all := [] } : label_Lattice)) hst z
 replace hst := hst.pull1.keep2
 obtain rfl := some_inj hm
 exact ⟨({ up := t4722, down := (List.replicate (Int.toNat ((a0).length : Int)) (0:Int)), join := [], meet := [], rank := (List.replicate (Int.toNat ((a0).length : Int)) (0:Int)), all := [] } : label_Lattice), b5002, (Pt b5018 0), _, hx5406, (fu 0 r0_0 z (fu 4 (.int .i64 ((a0).length : Int)) z (fu 5 (Pt b5002 0) z z))), hst⟩
}
}
 {
 refine nxe [1, 5, 6, 7, 9] (by kernel_rfl) z z ?_
 clear hst
 intro w hst
 obtain ⟨b5025, w5026, ew5027, eb5028, hst⟩ := hst.box [.pointer none] 24
 refine we_run (v := Pt b5025 0) (w' := w5026) z (x_al (by kernel_rfl) ew5027 eb5028) ?_
 refine ws_next (pend' := [(4, I6 ((a0).length : Int)), (0, r0_0)]) hst (by kernel_rfl) (pkr z z (fun w hst => z) (pkr z z (fun w hst => z) pk_nil)) ?_
 refine ws_e2 1 5 (by kernel_rfl) ?_ ?_
 {
 refine nxe [5, 6, 7, 9] (by kernel_rfl) z z ?_
 clear hst
 intro w hst
 refine wec call25 [r0_0] z z ?_
 refine (slices_Clone_uint64_uint64_ref (f0_0.mono (rd_weak _)) hst.to0 ht4723).mono ?_
 rintro _ w5030 ⟨v5033, rfl, hst⟩
 refine ⟨_, z, ?_⟩
 replace hst := hst.of1
 refine ws_next (pend' := [(4, I6 ((a0).length : Int))]) hst (by kernel_rfl) (pkr z z (fun w hst => z) pk_nil) ?_
 refine ws_e1 5 (by kernel_rfl) ?_
 refine nxe [6, 7, 9] (by kernel_rfl) z z ?_
 clear hst
 intro w hst
 obtain ⟨v5035, w5036, hr5037, hst⟩ := run_mk (k := .i64) (k' := .i64) (zm := (0:Int)) elem_41 hst hg4725 (by decide) z
 refine we_run (v := v5035) (w' := w5036) z (x_make z z hr5037) ?_
 refine ws_next (pend' := []) hst (by kernel_rfl) pk_nil ?_
 refine wsr (.agg #[v5033, v4898, Zs, Zs, v5035, Zs]) 6 rfl rfl rfl (by kernel_rfl) (fun w hst => by obtain ⟨_, _, hv_, _⟩ := hst.sv0; rw [hv_]; obtain ⟨_, _, hv_, _⟩ := hst.sv3; rw [hv_]; obtain ⟨_, _, hv_, _⟩ := hst.sv1; rw [hv_]; kernel_rfl) ?_
 refine ws_e1 7 (by kernel_rfl) ?_
 refine nxe [9] (by kernel_rfl) z z ?_
 clear hst
 intro w hst
 obtain ⟨b5045, w5046, ew5047, eb5048, hst⟩ := hst.box [v5033, v4898, Zs, Zs, v5035, Zs] 49
 refine we_run (v := Pt b5045 0) (w' := w5046) z (x_al (by kernel_rfl) ew5047 eb5048) ?_
 refine ws_next (pend' := []) hst (by kernel_rfl) pk_nil ?_
 refine ws_e1 9 (by kernel_rfl) ?_
 refine nxe [] (by kernel_rfl) z z ?_
 clear hst
 intro w hst
 replace hst := hst.pull3
 obtain ⟨w5050, hr5051, hst⟩ := hst.by_ [Pt b5045 0] 0 (Pt b5045 0) sizeOf24 z (oC z oN) (by kernel_rfl)
 refine we_unit z (x_unit hr5051) ?_
 refine ws_next (pend' := []) hst (by kernel_rfl) pk_nil ?_
 refine ws_nil ?_
 intro w hst
 refine ⟨z, ?_⟩
 replace hst := hst.own_nil (tySl (tyInt .i64))
 replace hst := hst.own_nil (tySl (tyInt .i64))
 replace hst := hst.own_nil (tyInt .i64)
 replace hst := hst.pull5.pull2.pull3.pull7.pull7.pull7
 replace hst := at_label_Lattice_close (pv := Pt b5045 0) (x := ({ up := t4722, down := (List.replicate (Int.toNat ((a0).length : Int)) (0:Int)), join := [], meet := [], rank := (List.replicate (Int.toNat ((a0).length : Int)) (0:Int)), all := [] } : label_Lattice)) hst z
 replace hst := hst.pull1.keep2
 obtain rfl := some_inj hm
 exact ⟨({ up := t4722, down := (List.replicate (Int.toNat ((a0).length : Int)) (0:Int)), join := [], meet := [], rank := (List.replicate (Int.toNat ((a0).length : Int)) (0:Int)), all := [] } : label_Lattice), b5025, (Pt b5045 0), _, hx5406, (fu 0 r0_0 z (fu 4 (.int .i64 ((a0).length : Int)) z (fu 5 (Pt b5025 0) z z))), hst⟩
}
 {
 refine nxe [1, 6, 7, 9] (by kernel_rfl) z z ?_
 clear hst
 intro w hst
 obtain ⟨v5052, w5053, hr5054, hst⟩ := run_mk (k := .i64) (k' := .i64) (zm := (0:Int)) elem_41 hst hg4725 (by decide) z
 refine we_run (v := v5052) (w' := w5053) z (x_make z z hr5054) ?_
 refine ws_next (pend' := [(0, r0_0)]) hst (by kernel_rfl) (pkr z z (fun w hst => z) pk_nil) ?_
 refine ws_e1 1 (by kernel_rfl) ?_
 refine nxe [6, 7, 9] (by kernel_rfl) z z ?_
 clear hst
 intro w hst
 refine wec call25 [r0_0] z z ?_
 refine (slices_Clone_uint64_uint64_ref (f0_0.mono (rd_weak _)) hst.to0 ht4723).mono ?_
 rintro _ w5056 ⟨v5059, rfl, hst⟩
 refine ⟨_, z, ?_⟩
 replace hst := hst.of1
 refine ws_next (pend' := []) hst (by kernel_rfl) pk_nil ?_
 refine wsr (.agg #[v5059, v4898, Zs, Zs, v5052, Zs]) 6 rfl rfl rfl (by kernel_rfl) (fun w hst => by obtain ⟨_, _, hv_, _⟩ := hst.sv1; rw [hv_]; obtain ⟨_, _, hv_, _⟩ := hst.sv3; rw [hv_]; obtain ⟨_, _, hv_, _⟩ := hst.sv0; rw [hv_]; kernel_rfl) ?_
 refine ws_e1 7 (by kernel_rfl) ?_
 refine nxe [9] (by kernel_rfl) z z ?_
 clear hst
 intro w hst
 obtain ⟨b5067, w5068, ew5069, eb5070, hst⟩ := hst.box [v5059, v4898, Zs, Zs, v5052, Zs] 49
 refine we_run (v := Pt b5067 0) (w' := w5068) z (x_al (by kernel_rfl) ew5069 eb5070) ?_
 refine ws_next (pend' := []) hst (by kernel_rfl) pk_nil ?_
 refine ws_e1 9 (by kernel_rfl) ?_
 refine nxe [] (by kernel_rfl) z z ?_
 clear hst
 intro w hst
 replace hst := hst.pull3
 obtain ⟨w5072, hr5073, hst⟩ := hst.by_ [Pt b5067 0] 0 (Pt b5067 0) sizeOf24 z (oC z oN) (by kernel_rfl)
 refine we_unit z (x_unit hr5073) ?_
 refine ws_next (pend' := []) hst (by kernel_rfl) pk_nil ?_
 refine ws_nil ?_
 intro w hst
 refine ⟨z, ?_⟩
 replace hst := hst.own_nil (tySl (tyInt .i64))
 replace hst := hst.own_nil (tySl (tyInt .i64))
 replace hst := hst.own_nil (tyInt .i64)
 replace hst := hst.pull6.pull2.pull3.pull7.pull7.pull7
 replace hst := at_label_Lattice_close (pv := Pt b5067 0) (x := ({ up := t4722, down := (List.replicate (Int.toNat ((a0).length : Int)) (0:Int)), join := [], meet := [], rank := (List.replicate (Int.toNat ((a0).length : Int)) (0:Int)), all := [] } : label_Lattice)) hst z
 replace hst := hst.pull1.keep2
 obtain rfl := some_inj hm
 exact ⟨({ up := t4722, down := (List.replicate (Int.toNat ((a0).length : Int)) (0:Int)), join := [], meet := [], rank := (List.replicate (Int.toNat ((a0).length : Int)) (0:Int)), all := [] } : label_Lattice), b5025, (Pt b5067 0), _, hx5406, (fu 0 r0_0 z (fu 4 (.int .i64 ((a0).length : Int)) z (fu 5 (Pt b5025 0) z z))), hst⟩
}
}
}
 {
 refine nxe [1, 3, 6, 7, 8, 9] (by kernel_rfl) z z ?_
 clear hst
 intro w hst
 obtain ⟨v5074, w5075, hr5076, hst⟩ := run_mk (k := .i64) (k' := .i64) (zm := (0:Int)) elem_41 hst hg4725 (by decide) z
 refine we_run (v := v5074) (w' := w5075) z (x_make z z hr5076) ?_
 refine ws_next (pend' := [(2, I6 ((a0).length : Int)), (0, r0_0)]) hst (by kernel_rfl) (pkr z z (fun w hst => z) (pkr z z (fun w hst => z) pk_nil)) ?_
 refine ws_e3 1 3 8 (by kernel_rfl) ?_ ?_ ?_
 {
 refine nxe [3, 6, 7, 8, 9] (by kernel_rfl) z z ?_
 clear hst
 intro w hst
 refine wec call25 [r0_0] z z ?_
 refine (slices_Clone_uint64_uint64_ref (f0_0.mono (rd_weak _)) hst.to0 ht4723).mono ?_
 rintro _ w5078 ⟨v5081, rfl, hst⟩
 refine ⟨_, z, ?_⟩
 replace hst := hst.of1
 refine ws_next (pend' := [(2, I6 ((a0).length : Int))]) hst (by kernel_rfl) (pkr z z (fun w hst => z) pk_nil) ?_
 refine ws_e2 3 8 (by kernel_rfl) ?_ ?_
 {
 refine nxe [6, 7, 8, 9] (by kernel_rfl) z z ?_
 clear hst
 intro w hst
 obtain ⟨v5083, w5084, hr5085, hst⟩ := run_mk (k := .i64) (k' := .i64) (zm := (0:Int)) elem_28 hst hg4724 (by decide) z
 refine we_run (v := v5083) (w' := w5084) z (x_make z z hr5085) ?_
 refine ws_next (pend' := []) hst (by kernel_rfl) pk_nil ?_
 refine wsr (.agg #[v5081, v5083, Zs, Zs, v5074, Zs]) 6 rfl rfl rfl (by kernel_rfl) (fun w hst => by obtain ⟨_, _, hv_, _⟩ := hst.sv2; rw [hv_]; obtain ⟨_, _, hv_, _⟩ := hst.sv0; rw [hv_]; obtain ⟨_, _, hv_, _⟩ := hst.sv1; rw [hv_]; kernel_rfl) ?_
 refine ws_e2 7 8 (by kernel_rfl) ?_ ?_
 {
 refine nxe [8, 9] (by kernel_rfl) z z ?_
 clear hst
 intro w hst
 obtain ⟨b5093, w5094, ew5095, eb5096, hst⟩ := hst.box [v5081, v5083, Zs, Zs, v5074, Zs] 49
 refine we_run (v := Pt b5093 0) (w' := w5094) z (x_al (by kernel_rfl) ew5095 eb5096) ?_
 refine ws_next (pend' := []) hst (by kernel_rfl) pk_nil ?_
 refine ws_e1 8 (by kernel_rfl) ?_
 refine nxe [9] (by kernel_rfl) z z ?_
 clear hst
 intro w hst
 obtain ⟨b5098, w5099, ew5100, eb5101, hst⟩ := hst.box [.pointer none] 24
 refine we_run (v := Pt b5098 0) (w' := w5099) z (x_al (by kernel_rfl) ew5100 eb5101) ?_
 refine ws_next (pend' := []) hst (by kernel_rfl) pk_nil ?_
 refine ws_e1 9 (by kernel_rfl) ?_
 refine nxe [] (by kernel_rfl) z z ?_
 clear hst
 intro w hst
 obtain ⟨w5103, hr5104, hst⟩ := hst.by_ [Pt b5093 0] 0 (Pt b5093 0) sizeOf24 z (oC z oN) (by kernel_rfl)
 refine we_unit z (x_unit hr5104) ?_
 refine ws_next (pend' := []) hst (by kernel_rfl) pk_nil ?_
 refine ws_nil ?_
 intro w hst
 refine ⟨z, ?_⟩
 replace hst := hst.own_nil (tySl (tyInt .i64))
 replace hst := hst.own_nil (tySl (tyInt .i64))
 replace hst := hst.own_nil (tyInt .i64)
 replace hst := hst.pull7.pull2.pull3.pull6.pull7.pull7
 replace hst := at_label_Lattice_close (pv := Pt b5093 0) (x := ({ up := t4722, down := (List.replicate (Int.toNat ((a0).length : Int)) (0:Int)), join := [], meet := [], rank := (List.replicate (Int.toNat ((a0).length : Int)) (0:Int)), all := [] } : label_Lattice)) hst z
 replace hst := hst.pull1.keep2
 obtain rfl := some_inj hm
 exact ⟨({ up := t4722, down := (List.replicate (Int.toNat ((a0).length : Int)) (0:Int)), join := [], meet := [], rank := (List.replicate (Int.toNat ((a0).length : Int)) (0:Int)), all := [] } : label_Lattice), b5098, (Pt b5093 0), _, hx5406, (fu 0 r0_0 z (fu 4 (.int .i64 ((a0).length : Int)) z (fu 5 (Pt b5098 0) z z))), hst⟩
}
 {
 refine nxe [7, 9] (by kernel_rfl) z z ?_
 clear hst
 intro w hst
 obtain ⟨b5105, w5106, ew5107, eb5108, hst⟩ := hst.box [.pointer none] 24
 refine we_run (v := Pt b5105 0) (w' := w5106) z (x_al (by kernel_rfl) ew5107 eb5108) ?_
 refine ws_next (pend' := [(6, .agg #[v5081, v5083, Zs, Zs, v5074, Zs])]) hst (by kernel_rfl) (pkr rfl rfl (fun w hst => by obtain ⟨_, _, hv_, _⟩ := hst.sv3; rw [hv_]; obtain ⟨_, _, hv_, _⟩ := hst.sv1; rw [hv_]; obtain ⟨_, _, hv_, _⟩ := hst.sv2; rw [hv_]; kernel_rfl) pk_nil) ?_
 refine ws_e1 7 (by kernel_rfl) ?_
 refine nxe [9] (by kernel_rfl) z z ?_
 clear hst
 intro w hst
 obtain ⟨b5110, w5111, ew5112, eb5113, hst⟩ := hst.box [v5081, v5083, Zs, Zs, v5074, Zs] 49
 refine we_run (v := Pt b5110 0) (w' := w5111) z (x_al (by kernel_rfl) ew5112 eb5113) ?_
 refine ws_next (pend' := []) hst (by kernel_rfl) pk_nil ?_
 refine ws_e1 9 (by kernel_rfl) ?_
 refine nxe [] (by kernel_rfl) z z ?_
 clear hst
 intro w hst
 replace hst := hst.pull1
 obtain ⟨w5115, hr5116, hst⟩ := hst.by_ [Pt b5110 0] 0 (Pt b5110 0) sizeOf24 z (oC z oN) (by kernel_rfl)
 refine we_unit z (x_unit hr5116) ?_
 refine ws_next (pend' := []) hst (by kernel_rfl) pk_nil ?_
 refine ws_nil ?_
 intro w hst
 refine ⟨z, ?_⟩
 replace hst := hst.own_nil (tySl (tyInt .i64))
 replace hst := hst.own_nil (tySl (tyInt .i64))
 replace hst := hst.own_nil (tyInt .i64)
 replace hst := hst.pull7.pull2.pull3.pull6.pull7.pull7
 replace hst := at_label_Lattice_close (pv := Pt b5110 0) (x := ({ up := t4722, down := (List.replicate (Int.toNat ((a0).length : Int)) (0:Int)), join := [], meet := [], rank := (List.replicate (Int.toNat ((a0).length : Int)) (0:Int)), all := [] } : label_Lattice)) hst z
 replace hst := hst.pull1.keep2
 obtain rfl := some_inj hm
 exact ⟨({ up := t4722, down := (List.replicate (Int.toNat ((a0).length : Int)) (0:Int)), join := [], meet := [], rank := (List.replicate (Int.toNat ((a0).length : Int)) (0:Int)), all := [] } : label_Lattice), b5105, (Pt b5110 0), _, hx5406, (fu 0 r0_0 z (fu 4 (.int .i64 ((a0).length : Int)) z (fu 5 (Pt b5105 0) z z))), hst⟩
}
}
 {
 refine nxe [3, 6, 7, 9] (by kernel_rfl) z z ?_
 clear hst
 intro w hst
 obtain ⟨b5117, w5118, ew5119, eb5120, hst⟩ := hst.box [.pointer none] 24
 refine we_run (v := Pt b5117 0) (w' := w5118) z (x_al (by kernel_rfl) ew5119 eb5120) ?_
 refine ws_next (pend' := [(2, I6 ((a0).length : Int))]) hst (by kernel_rfl) (pkr z z (fun w hst => z) pk_nil) ?_
 refine ws_e1 3 (by kernel_rfl) ?_
 refine nxe [6, 7, 9] (by kernel_rfl) z z ?_
 clear hst
 intro w hst
 obtain ⟨v5122, w5123, hr5124, hst⟩ := run_mk (k := .i64) (k' := .i64) (zm := (0:Int)) elem_28 hst hg4724 (by decide) z
 refine we_run (v := v5122) (w' := w5123) z (x_make z z hr5124) ?_
 refine ws_next (pend' := []) hst (by kernel_rfl) pk_nil ?_
 refine wsr (.agg #[v5081, v5122, Zs, Zs, v5074, Zs]) 6 rfl rfl rfl (by kernel_rfl) (fun w hst => by obtain ⟨_, _, hv_, _⟩ := hst.sv3; rw [hv_]; obtain ⟨_, _, hv_, _⟩ := hst.sv0; rw [hv_]; obtain ⟨_, _, hv_, _⟩ := hst.sv2; rw [hv_]; kernel_rfl) ?_
 refine ws_e1 7 (by kernel_rfl) ?_
 refine nxe [9] (by kernel_rfl) z z ?_
 clear hst
 intro w hst
 obtain ⟨b5132, w5133, ew5134, eb5135, hst⟩ := hst.box [v5081, v5122, Zs, Zs, v5074, Zs] 49
 refine we_run (v := Pt b5132 0) (w' := w5133) z (x_al (by kernel_rfl) ew5134 eb5135) ?_
 refine ws_next (pend' := []) hst (by kernel_rfl) pk_nil ?_
 refine ws_e1 9 (by kernel_rfl) ?_
 refine nxe [] (by kernel_rfl) z z ?_
 clear hst
 intro w hst
 replace hst := hst.pull2
 obtain ⟨w5137, hr5138, hst⟩ := hst.by_ [Pt b5132 0] 0 (Pt b5132 0) sizeOf24 z (oC z oN) (by kernel_rfl)
 refine we_unit z (x_unit hr5138) ?_
 refine ws_next (pend' := []) hst (by kernel_rfl) pk_nil ?_
 refine ws_nil ?_
 intro w hst
 refine ⟨z, ?_⟩
 replace hst := hst.own_nil (tySl (tyInt .i64))
 replace hst := hst.own_nil (tySl (tyInt .i64))
 replace hst := hst.own_nil (tyInt .i64)
 replace hst := hst.pull7.pull2.pull3.pull6.pull7.pull7
 replace hst := at_label_Lattice_close (pv := Pt b5132 0) (x := ({ up := t4722, down := (List.replicate (Int.toNat ((a0).length : Int)) (0:Int)), join := [], meet := [], rank := (List.replicate (Int.toNat ((a0).length : Int)) (0:Int)), all := [] } : label_Lattice)) hst z
 replace hst := hst.pull1.keep2
 obtain rfl := some_inj hm
 exact ⟨({ up := t4722, down := (List.replicate (Int.toNat ((a0).length : Int)) (0:Int)), join := [], meet := [], rank := (List.replicate (Int.toNat ((a0).length : Int)) (0:Int)), all := [] } : label_Lattice), b5117, (Pt b5132 0), _, hx5406, (fu 0 r0_0 z (fu 4 (.int .i64 ((a0).length : Int)) z (fu 5 (Pt b5117 0) z z))), hst⟩
}
}
 {
 refine nxe [1, 6, 7, 8, 9] (by kernel_rfl) z z ?_
 clear hst
 intro w hst
 obtain ⟨v5139, w5140, hr5141, hst⟩ := run_mk (k := .i64) (k' := .i64) (zm := (0:Int)) elem_28 hst hg4724 (by decide) z
 refine we_run (v := v5139) (w' := w5140) z (x_make z z hr5141) ?_
 refine ws_next (pend' := [(0, r0_0)]) hst (by kernel_rfl) (pkr z z (fun w hst => z) pk_nil) ?_
 refine ws_e2 1 8 (by kernel_rfl) ?_ ?_
 {
 refine nxe [6, 7, 8, 9] (by kernel_rfl) z z ?_
 clear hst
 intro w hst
 refine wec call25 [r0_0] z z ?_
 refine (slices_Clone_uint64_uint64_ref (f0_0.mono (rd_weak _)) hst.to0 ht4723).mono ?_
 rintro _ w5143 ⟨v5146, rfl, hst⟩
 refine ⟨_, z, ?_⟩
 replace hst := hst.of1
 refine ws_next (pend' := []) hst (by kernel_rfl) pk_nil ?_
 refine wsr (.agg #[v5146, v5139, Zs, Zs, v5074, Zs]) 6 rfl rfl rfl (by kernel_rfl) (fun w hst => by obtain ⟨_, _, hv_, _⟩ := hst.sv2; rw [hv_]; obtain ⟨_, _, hv_, _⟩ := hst.sv1; rw [hv_]; obtain ⟨_, _, hv_, _⟩ := hst.sv0; rw [hv_]; kernel_rfl) ?_
 refine ws_e2 7 8 (by kernel_rfl) ?_ ?_
 {
 refine nxe [8, 9] (by kernel_rfl) z z ?_
 clear hst
 intro w hst
 obtain ⟨b5154, w5155, ew5156, eb5157, hst⟩ := hst.box [v5146, v5139, Zs, Zs, v5074, Zs] 49
 refine we_run (v := Pt b5154 0) (w' := w5155) z (x_al (by kernel_rfl) ew5156 eb5157) ?_
 refine ws_next (pend' := []) hst (by kernel_rfl) pk_nil ?_
 refine ws_e1 8 (by kernel_rfl) ?_
 refine nxe [9] (by kernel_rfl) z z ?_
 clear hst
 intro w hst
 obtain ⟨b5159, w5160, ew5161, eb5162, hst⟩ := hst.box [.pointer none] 24
 refine we_run (v := Pt b5159 0) (w' := w5160) z (x_al (by kernel_rfl) ew5161 eb5162) ?_
 refine ws_next (pend' := []) hst (by kernel_rfl) pk_nil ?_
 refine ws_e1 9 (by kernel_rfl) ?_
 refine nxe [] (by kernel_rfl) z z ?_
 clear hst
 intro w hst
 obtain ⟨w5164, hr5165, hst⟩ := hst.by_ [Pt b5154 0] 0 (Pt b5154 0) sizeOf24 z (oC z oN) (by kernel_rfl)
 refine we_unit z (x_unit hr5165) ?_
 refine ws_next (pend' := []) hst (by kernel_rfl) pk_nil ?_
 refine ws_nil ?_
 intro w hst
 refine ⟨z, ?_⟩
 replace hst := hst.own_nil (tySl (tyInt .i64))
 replace hst := hst.own_nil (tySl (tyInt .i64))
 replace hst := hst.own_nil (tyInt .i64)
 replace hst := hst.pull7.pull2.pull3.pull7.pull7.pull7
 replace hst := at_label_Lattice_close (pv := Pt b5154 0) (x := ({ up := t4722, down := (List.replicate (Int.toNat ((a0).length : Int)) (0:Int)), join := [], meet := [], rank := (List.replicate (Int.toNat ((a0).length : Int)) (0:Int)), all := [] } : label_Lattice)) hst z
 replace hst := hst.pull1.keep2
 obtain rfl := some_inj hm
 exact ⟨({ up := t4722, down := (List.replicate (Int.toNat ((a0).length : Int)) (0:Int)), join := [], meet := [], rank := (List.replicate (Int.toNat ((a0).length : Int)) (0:Int)), all := [] } : label_Lattice), b5159, (Pt b5154 0), _, hx5406, (fu 0 r0_0 z (fu 4 (.int .i64 ((a0).length : Int)) z (fu 5 (Pt b5159 0) z z))), hst⟩
}
 {
 refine nxe [7, 9] (by kernel_rfl) z z ?_
 clear hst
 intro w hst
 obtain ⟨b5166, w5167, ew5168, eb5169, hst⟩ := hst.box [.pointer none] 24
 refine we_run (v := Pt b5166 0) (w' := w5167) z (x_al (by kernel_rfl) ew5168 eb5169) ?_
 refine ws_next (pend' := [(6, .agg #[v5146, v5139, Zs, Zs, v5074, Zs])]) hst (by kernel_rfl) (pkr rfl rfl (fun w hst => by obtain ⟨_, _, hv_, _⟩ := hst.sv3; rw [hv_]; obtain ⟨_, _, hv_, _⟩ := hst.sv2; rw [hv_]; obtain ⟨_, _, hv_, _⟩ := hst.sv1; rw [hv_]; kernel_rfl) pk_nil) ?_
 refine ws_e1 7 (by kernel_rfl) ?_
 refine nxe [9] (by kernel_rfl) z z ?_
 clear hst
 intro w hst
 obtain ⟨b5171, w5172, ew5173, eb5174, hst⟩ := hst.box [v5146, v5139, Zs, Zs, v5074, Zs] 49
 refine we_run (v := Pt b5171 0) (w' := w5172) z (x_al (by kernel_rfl) ew5173 eb5174) ?_
 refine ws_next (pend' := []) hst (by kernel_rfl) pk_nil ?_
 refine ws_e1 9 (by kernel_rfl) ?_
 refine nxe [] (by kernel_rfl) z z ?_
 clear hst
 intro w hst
 replace hst := hst.pull1
 obtain ⟨w5176, hr5177, hst⟩ := hst.by_ [Pt b5171 0] 0 (Pt b5171 0) sizeOf24 z (oC z oN) (by kernel_rfl)
 refine we_unit z (x_unit hr5177) ?_
 refine ws_next (pend' := []) hst (by kernel_rfl) pk_nil ?_
 refine ws_nil ?_
 intro w hst
 refine ⟨z, ?_⟩
 replace hst := hst.own_nil (tySl (tyInt .i64))
 replace hst := hst.own_nil (tySl (tyInt .i64))
 replace hst := hst.own_nil (tyInt .i64)
 replace hst := hst.pull7.pull2.pull3.pull7.pull7.pull7
 replace hst := at_label_Lattice_close (pv := Pt b5171 0) (x := ({ up := t4722, down := (List.replicate (Int.toNat ((a0).length : Int)) (0:Int)), join := [], meet := [], rank := (List.replicate (Int.toNat ((a0).length : Int)) (0:Int)), all := [] } : label_Lattice)) hst z
 replace hst := hst.pull1.keep2
 obtain rfl := some_inj hm
 exact ⟨({ up := t4722, down := (List.replicate (Int.toNat ((a0).length : Int)) (0:Int)), join := [], meet := [], rank := (List.replicate (Int.toNat ((a0).length : Int)) (0:Int)), all := [] } : label_Lattice), b5166, (Pt b5171 0), _, hx5406, (fu 0 r0_0 z (fu 4 (.int .i64 ((a0).length : Int)) z (fu 5 (Pt b5166 0) z z))), hst⟩
}
}
 {
 refine nxe [1, 6, 7, 9] (by kernel_rfl) z z ?_
 clear hst
 intro w hst
 obtain ⟨b5178, w5179, ew5180, eb5181, hst⟩ := hst.box [.pointer none] 24
 refine we_run (v := Pt b5178 0) (w' := w5179) z (x_al (by kernel_rfl) ew5180 eb5181) ?_
 refine ws_next (pend' := [(0, r0_0)]) hst (by kernel_rfl) (pkr z z (fun w hst => z) pk_nil) ?_
 refine ws_e1 1 (by kernel_rfl) ?_
 refine nxe [6, 7, 9] (by kernel_rfl) z z ?_
 clear hst
 intro w hst
 refine wec call25 [r0_0] z z ?_
 refine (slices_Clone_uint64_uint64_ref (f0_0.mono (rd_weak _)) hst.to0 ht4723).mono ?_
 rintro _ w5183 ⟨v5186, rfl, hst⟩
 refine ⟨_, z, ?_⟩
 replace hst := hst.of1
 refine ws_next (pend' := []) hst (by kernel_rfl) pk_nil ?_
 refine wsr (.agg #[v5186, v5139, Zs, Zs, v5074, Zs]) 6 rfl rfl rfl (by kernel_rfl) (fun w hst => by obtain ⟨_, _, hv_, _⟩ := hst.sv3; rw [hv_]; obtain ⟨_, _, hv_, _⟩ := hst.sv2; rw [hv_]; obtain ⟨_, _, hv_, _⟩ := hst.sv0; rw [hv_]; kernel_rfl) ?_
 refine ws_e1 7 (by kernel_rfl) ?_
 refine nxe [9] (by kernel_rfl) z z ?_
 clear hst
 intro w hst
 obtain ⟨b5194, w5195, ew5196, eb5197, hst⟩ := hst.box [v5186, v5139, Zs, Zs, v5074, Zs] 49
 refine we_run (v := Pt b5194 0) (w' := w5195) z (x_al (by kernel_rfl) ew5196 eb5197) ?_
 refine ws_next (pend' := []) hst (by kernel_rfl) pk_nil ?_
 refine ws_e1 9 (by kernel_rfl) ?_
 refine nxe [] (by kernel_rfl) z z ?_
 clear hst
 intro w hst
 replace hst := hst.pull2
 obtain ⟨w5199, hr5200, hst⟩ := hst.by_ [Pt b5194 0] 0 (Pt b5194 0) sizeOf24 z (oC z oN) (by kernel_rfl)
 refine we_unit z (x_unit hr5200) ?_
 refine ws_next (pend' := []) hst (by kernel_rfl) pk_nil ?_
 refine ws_nil ?_
 intro w hst
 refine ⟨z, ?_⟩
 replace hst := hst.own_nil (tySl (tyInt .i64))
 replace hst := hst.own_nil (tySl (tyInt .i64))
 replace hst := hst.own_nil (tyInt .i64)
 replace hst := hst.pull7.pull2.pull3.pull7.pull7.pull7
 replace hst := at_label_Lattice_close (pv := Pt b5194 0) (x := ({ up := t4722, down := (List.replicate (Int.toNat ((a0).length : Int)) (0:Int)), join := [], meet := [], rank := (List.replicate (Int.toNat ((a0).length : Int)) (0:Int)), all := [] } : label_Lattice)) hst z
 replace hst := hst.pull1.keep2
 obtain rfl := some_inj hm
 exact ⟨({ up := t4722, down := (List.replicate (Int.toNat ((a0).length : Int)) (0:Int)), join := [], meet := [], rank := (List.replicate (Int.toNat ((a0).length : Int)) (0:Int)), all := [] } : label_Lattice), b5178, (Pt b5194 0), _, hx5406, (fu 0 r0_0 z (fu 4 (.int .i64 ((a0).length : Int)) z (fu 5 (Pt b5178 0) z z))), hst⟩
}
}
 {
 refine nxe [1, 3, 6, 7, 9] (by kernel_rfl) z z ?_
 clear hst
 intro w hst
 obtain ⟨b5201, w5202, ew5203, eb5204, hst⟩ := hst.box [.pointer none] 24
 refine we_run (v := Pt b5201 0) (w' := w5202) z (x_al (by kernel_rfl) ew5203 eb5204) ?_
 refine ws_next (pend' := [(2, I6 ((a0).length : Int)), (0, r0_0)]) hst (by kernel_rfl) (pkr z z (fun w hst => z) (pkr z z (fun w hst => z) pk_nil)) ?_
 refine ws_e2 1 3 (by kernel_rfl) ?_ ?_
 {
 refine nxe [3, 6, 7, 9] (by kernel_rfl) z z ?_
 clear hst
 intro w hst
 refine wec call25 [r0_0] z z ?_
 refine (slices_Clone_uint64_uint64_ref (f0_0.mono (rd_weak _)) hst.to0 ht4723).mono ?_
 rintro _ w5206 ⟨v5209, rfl, hst⟩
 refine ⟨_, z, ?_⟩
 replace hst := hst.of1
 refine ws_next (pend' := [(2, I6 ((a0).length : Int))]) hst (by kernel_rfl) (pkr z z (fun w hst => z) pk_nil) ?_
 refine ws_e1 3 (by kernel_rfl) ?_
 refine nxe [6, 7, 9] (by kernel_rfl) z z ?_
 clear hst
 intro w hst
 obtain ⟨v5211, w5212, hr5213, hst⟩ := run_mk (k := .i64) (k' := .i64) (zm := (0:Int)) elem_28 hst hg4724 (by decide) z
 refine we_run (v := v5211) (w' := w5212) z (x_make z z hr5213) ?_
 refine ws_next (pend' := []) hst (by kernel_rfl) pk_nil ?_
 refine wsr (.agg #[v5209, v5211, Zs, Zs, v5074, Zs]) 6 rfl rfl rfl (by kernel_rfl) (fun w hst => by obtain ⟨_, _, hv_, _⟩ := hst.sv3; rw [hv_]; obtain ⟨_, _, hv_, _⟩ := hst.sv0; rw [hv_]; obtain ⟨_, _, hv_, _⟩ := hst.sv1; rw [hv_]; kernel_rfl) ?_
 refine ws_e1 7 (by kernel_rfl) ?_
 refine nxe [9] (by kernel_rfl) z z ?_
 clear hst
 intro w hst
 obtain ⟨b5221, w5222, ew5223, eb5224, hst⟩ := hst.box [v5209, v5211, Zs, Zs, v5074, Zs] 49
 refine we_run (v := Pt b5221 0) (w' := w5222) z (x_al (by kernel_rfl) ew5223 eb5224) ?_
 refine ws_next (pend' := []) hst (by kernel_rfl) pk_nil ?_
 refine ws_e1 9 (by kernel_rfl) ?_
 refine nxe [] (by kernel_rfl) z z ?_
 clear hst
 intro w hst
 replace hst := hst.pull3
 obtain ⟨w5226, hr5227, hst⟩ := hst.by_ [Pt b5221 0] 0 (Pt b5221 0) sizeOf24 z (oC z oN) (by kernel_rfl)
 refine we_unit z (x_unit hr5227) ?_
 refine ws_next (pend' := []) hst (by kernel_rfl) pk_nil ?_
 refine ws_nil ?_
 intro w hst
 refine ⟨z, ?_⟩
 replace hst := hst.own_nil (tySl (tyInt .i64))
 replace hst := hst.own_nil (tySl (tyInt .i64))
 replace hst := hst.own_nil (tyInt .i64)
 replace hst := hst.pull7.pull2.pull3.pull6.pull7.pull7
 replace hst := at_label_Lattice_close (pv := Pt b5221 0) (x := ({ up := t4722, down := (List.replicate (Int.toNat ((a0).length : Int)) (0:Int)), join := [], meet := [], rank := (List.replicate (Int.toNat ((a0).length : Int)) (0:Int)), all := [] } : label_Lattice)) hst z
 replace hst := hst.pull1.keep2
 obtain rfl := some_inj hm
 exact ⟨({ up := t4722, down := (List.replicate (Int.toNat ((a0).length : Int)) (0:Int)), join := [], meet := [], rank := (List.replicate (Int.toNat ((a0).length : Int)) (0:Int)), all := [] } : label_Lattice), b5201, (Pt b5221 0), _, hx5406, (fu 0 r0_0 z (fu 4 (.int .i64 ((a0).length : Int)) z (fu 5 (Pt b5201 0) z z))), hst⟩
}
 {
 refine nxe [1, 6, 7, 9] (by kernel_rfl) z z ?_
 clear hst
 intro w hst
 obtain ⟨v5228, w5229, hr5230, hst⟩ := run_mk (k := .i64) (k' := .i64) (zm := (0:Int)) elem_28 hst hg4724 (by decide) z
 refine we_run (v := v5228) (w' := w5229) z (x_make z z hr5230) ?_
 refine ws_next (pend' := [(0, r0_0)]) hst (by kernel_rfl) (pkr z z (fun w hst => z) pk_nil) ?_
 refine ws_e1 1 (by kernel_rfl) ?_
 refine nxe [6, 7, 9] (by kernel_rfl) z z ?_
 clear hst
 intro w hst
 refine wec call25 [r0_0] z z ?_
 refine (slices_Clone_uint64_uint64_ref (f0_0.mono (rd_weak _)) hst.to0 ht4723).mono ?_
 rintro _ w5232 ⟨v5235, rfl, hst⟩
 refine ⟨_, z, ?_⟩
 replace hst := hst.of1
 refine ws_next (pend' := []) hst (by kernel_rfl) pk_nil ?_
 refine wsr (.agg #[v5235, v5228, Zs, Zs, v5074, Zs]) 6 rfl rfl rfl (by kernel_rfl) (fun w hst => by obtain ⟨_, _, hv_, _⟩ := hst.sv3; rw [hv_]; obtain ⟨_, _, hv_, _⟩ := hst.sv1; rw [hv_]; obtain ⟨_, _, hv_, _⟩ := hst.sv0; rw [hv_]; kernel_rfl) ?_
 refine ws_e1 7 (by kernel_rfl) ?_
 refine nxe [9] (by kernel_rfl) z z ?_
 clear hst
 intro w hst
 obtain ⟨b5243, w5244, ew5245, eb5246, hst⟩ := hst.box [v5235, v5228, Zs, Zs, v5074, Zs] 49
 refine we_run (v := Pt b5243 0) (w' := w5244) z (x_al (by kernel_rfl) ew5245 eb5246) ?_
 refine ws_next (pend' := []) hst (by kernel_rfl) pk_nil ?_
 refine ws_e1 9 (by kernel_rfl) ?_
 refine nxe [] (by kernel_rfl) z z ?_
 clear hst
 intro w hst
 replace hst := hst.pull3
 obtain ⟨w5248, hr5249, hst⟩ := hst.by_ [Pt b5243 0] 0 (Pt b5243 0) sizeOf24 z (oC z oN) (by kernel_rfl)
 refine we_unit z (x_unit hr5249) ?_
 refine ws_next (pend' := []) hst (by kernel_rfl) pk_nil ?_
 refine ws_nil ?_
 intro w hst
 refine ⟨z, ?_⟩
 replace hst := hst.own_nil (tySl (tyInt .i64))
 replace hst := hst.own_nil (tySl (tyInt .i64))
 replace hst := hst.own_nil (tyInt .i64)
 replace hst := hst.pull7.pull2.pull3.pull7.pull7.pull7
 replace hst := at_label_Lattice_close (pv := Pt b5243 0) (x := ({ up := t4722, down := (List.replicate (Int.toNat ((a0).length : Int)) (0:Int)), join := [], meet := [], rank := (List.replicate (Int.toNat ((a0).length : Int)) (0:Int)), all := [] } : label_Lattice)) hst z
 replace hst := hst.pull1.keep2
 obtain rfl := some_inj hm
 exact ⟨({ up := t4722, down := (List.replicate (Int.toNat ((a0).length : Int)) (0:Int)), join := [], meet := [], rank := (List.replicate (Int.toNat ((a0).length : Int)) (0:Int)), all := [] } : label_Lattice), b5201, (Pt b5243 0), _, hx5406, (fu 0 r0_0 z (fu 4 (.int .i64 ((a0).length : Int)) z (fu 5 (Pt b5201 0) z z))), hst⟩
}
}
}
 {
 refine nxe [1, 3, 5, 6, 7, 9] (by kernel_rfl) z z ?_
 clear hst
 intro w hst
 obtain ⟨b5250, w5251, ew5252, eb5253, hst⟩ := hst.box [.pointer none] 24
 refine we_run (v := Pt b5250 0) (w' := w5251) z (x_al (by kernel_rfl) ew5252 eb5253) ?_
 refine ws_next (pend' := [(4, I6 ((a0).length : Int)), (2, I6 ((a0).length : Int)), (0, r0_0)]) hst (by kernel_rfl) (pkr z z (fun w hst => z) (pkr z z (fun w hst => z) (pkr z z (fun w hst => z) pk_nil))) ?_
 refine ws_e3 1 3 5 (by kernel_rfl) ?_ ?_ ?_
 {
 refine nxe [3, 5, 6, 7, 9] (by kernel_rfl) z z ?_
 clear hst
 intro w hst
 refine wec call25 [r0_0] z z ?_
 refine (slices_Clone_uint64_uint64_ref (f0_0.mono (rd_weak _)) hst.to0 ht4723).mono ?_
 rintro _ w5255 ⟨v5258, rfl, hst⟩
 refine ⟨_, z, ?_⟩
 replace hst := hst.of1
 refine ws_next (pend' := [(4, I6 ((a0).length : Int)), (2, I6 ((a0).length : Int))]) hst (by kernel_rfl) (pkr z z (fun w hst => z) (pkr z z (fun w hst => z) pk_nil)) ?_
 refine ws_e2 3 5 (by kernel_rfl) ?_ ?_
 {
 refine nxe [5, 6, 7, 9] (by kernel_rfl) z z ?_
 clear hst
 intro w hst
 obtain ⟨v5260, w5261, hr5262, hst⟩ := run_mk (k := .i64) (k' := .i64) (zm := (0:Int)) elem_28 hst hg4724 (by decide) z
 refine we_run (v := v5260) (w' := w5261) z (x_make z z hr5262) ?_
 refine ws_next (pend' := [(4, I6 ((a0).length : Int))]) hst (by kernel_rfl) (pkr z z (fun w hst => z) pk_nil) ?_
 refine ws_e1 5 (by kernel_rfl) ?_
 refine nxe [6, 7, 9] (by kernel_rfl) z z ?_
 clear hst
 intro w hst
 obtain ⟨v5264, w5265, hr5266, hst⟩ := run_mk (k := .i64) (k' := .i64) (zm := (0:Int)) elem_41 hst hg4725 (by decide) z
 refine we_run (v := v5264) (w' := w5265) z (x_make z z hr5266) ?_
 refine ws_next (pend' := []) hst (by kernel_rfl) pk_nil ?_
 refine wsr (.agg #[v5258, v5260, Zs, Zs, v5264, Zs]) 6 rfl rfl rfl (by kernel_rfl) (fun w hst => by obtain ⟨_, _, hv_, _⟩ := hst.sv0; rw [hv_]; obtain ⟨_, _, hv_, _⟩ := hst.sv1; rw [hv_]; obtain ⟨_, _, hv_, _⟩ := hst.sv2; rw [hv_]; kernel_rfl) ?_
 refine ws_e1 7 (by kernel_rfl) ?_
 refine nxe [9] (by kernel_rfl) z z ?_
 clear hst
 intro w hst
 obtain ⟨b5274, w5275, ew5276, eb5277, hst⟩ := hst.box [v5258, v5260, Zs, Zs, v5264, Zs] 49
 refine we_run (v := Pt b5274 0) (w' := w5275) z (x_al (by kernel_rfl) ew5276 eb5277) ?_
 refine ws_next (pend' := []) hst (by kernel_rfl) pk_nil ?_
 refine ws_e1 9 (by kernel_rfl) ?_
 refine nxe [] (by kernel_rfl) z z ?_
 clear hst
 intro w hst
 replace hst := hst.pull4
 obtain ⟨w5279, hr5280, hst⟩ := hst.by_ [Pt b5274 0] 0 (Pt b5274 0) sizeOf24 z (oC z oN) (by kernel_rfl)
 refine we_unit z (x_unit hr5280) ?_
 refine ws_next (pend' := []) hst (by kernel_rfl) pk_nil ?_
 refine ws_nil ?_
 intro w hst
 refine ⟨z, ?_⟩
 replace hst := hst.own_nil (tySl (tyInt .i64))
 replace hst := hst.own_nil (tySl (tyInt .i64))
 replace hst := hst.own_nil (tyInt .i64)
 replace hst := hst.pull5.pull2.pull3.pull6.pull7.pull7
 replace hst := at_label_Lattice_close (pv := Pt b5274 0) (x := ({ up := t4722, down := (List.replicate (Int.toNat ((a0).length : Int)) (0:Int)), join := [], meet := [], rank := (List.replicate (Int.toNat ((a0).length : Int)) (0:Int)), all := [] } : label_Lattice)) hst z
 replace hst := hst.pull1.keep2
 obtain rfl := some_inj hm
 exact ⟨({ up := t4722, down := (List.replicate (Int.toNat ((a0).length : Int)) (0:Int)), join := [], meet := [], rank := (List.replicate (Int.toNat ((a0).length : Int)) (0:Int)), all := [] } : label_Lattice), b5250, (Pt b5274 0), _, hx5406, (fu 0 r0_0 z (fu 4 (.int .i64 ((a0).length : Int)) z (fu 5 (Pt b5250 0) z z))), hst⟩
}
 {
 refine nxe [3, 6, 7, 9] (by kernel_rfl) z z ?_
 clear hst
 intro w hst
 obtain ⟨v5281, w5282, hr5283, hst⟩ := run_mk (k := .i64) (k' := .i64) (zm := (0:Int)) elem_41 hst hg4725 (by decide) z
 refine we_run (v := v5281) (w' := w5282) z (x_make z z hr5283) ?_
 refine ws_next (pend' := [(2, I6 ((a0).length : Int))]) hst (by kernel_rfl) (pkr z z (fun w hst => z) pk_nil) ?_
 refine ws_e1 3 (by kernel_rfl) ?_
 refine nxe [6, 7, 9] (by kernel_rfl) z z ?_
 clear hst
 intro w hst
 obtain ⟨v5285, w5286, hr5287, hst⟩ := run_mk (k := .i64) (k' := .i64) (zm := (0:Int)) elem_28 hst hg4724 (by decide) z
 refine we_run (v := v5285) (w' := w5286) z (x_make z z hr5287) ?_
 refine ws_next (pend' := []) hst (by kernel_rfl) pk_nil ?_
 refine wsr (.agg #[v5258, v5285, Zs, Zs, v5281, Zs]) 6 rfl rfl rfl (by kernel_rfl) (fun w hst => by obtain ⟨_, _, hv_, _⟩ := hst.sv1; rw [hv_]; obtain ⟨_, _, hv_, _⟩ := hst.sv0; rw [hv_]; obtain ⟨_, _, hv_, _⟩ := hst.sv2; rw [hv_]; kernel_rfl) ?_
 refine ws_e1 7 (by kernel_rfl) ?_
 refine nxe [9] (by kernel_rfl) z z ?_
 clear hst
 intro w hst
 obtain ⟨b5295, w5296, ew5297, eb5298, hst⟩ := hst.box [v5258, v5285, Zs, Zs, v5281, Zs] 49
 refine we_run (v := Pt b5295 0) (w' := w5296) z (x_al (by kernel_rfl) ew5297 eb5298) ?_
 refine ws_next (pend' := []) hst (by kernel_rfl) pk_nil ?_
 refine ws_e1 9 (by kernel_rfl) ?_
 refine nxe [] (by kernel_rfl) z z ?_
 clear hst
 intro w hst
 replace hst := hst.pull4
 obtain ⟨w5300, hr5301, hst⟩ := hst.by_ [Pt b5295 0] 0 (Pt b5295 0) sizeOf24 z (oC z oN) (by kernel_rfl)
 refine we_unit z (x_unit hr5301) ?_
 refine ws_next (pend' := []) hst (by kernel_rfl) pk_nil ?_
 refine ws_nil ?_
 intro w hst
 refine ⟨z, ?_⟩
 replace hst := hst.own_nil (tySl (tyInt .i64))
 replace hst := hst.own_nil (tySl (tyInt .i64))
 replace hst := hst.own_nil (tyInt .i64)
 replace hst := hst.pull6.pull2.pull3.pull6.pull7.pull7
 replace hst := at_label_Lattice_close (pv := Pt b5295 0) (x := ({ up := t4722, down := (List.replicate (Int.toNat ((a0).length : Int)) (0:Int)), join := [], meet := [], rank := (List.replicate (Int.toNat ((a0).length : Int)) (0:Int)), all := [] } : label_Lattice)) hst z
 replace hst := hst.pull1.keep2
 obtain rfl := some_inj hm
 exact ⟨({ up := t4722, down := (List.replicate (Int.toNat ((a0).length : Int)) (0:Int)), join := [], meet := [], rank := (List.replicate (Int.toNat ((a0).length : Int)) (0:Int)), all := [] } : label_Lattice), b5250, (Pt b5295 0), _, hx5406, (fu 0 r0_0 z (fu 4 (.int .i64 ((a0).length : Int)) z (fu 5 (Pt b5250 0) z z))), hst⟩
}
}
 {
 refine nxe [1, 5, 6, 7, 9] (by kernel_rfl) z z ?_
 clear hst
 intro w hst
 obtain ⟨v5302, w5303, hr5304, hst⟩ := run_mk (k := .i64) (k' := .i64) (zm := (0:Int)) elem_28 hst hg4724 (by decide) z
 refine we_run (v := v5302) (w' := w5303) z (x_make z z hr5304) ?_
 refine ws_next (pend' := [(4, I6 ((a0).length : Int)), (0, r0_0)]) hst (by kernel_rfl) (pkr z z (fun w hst => z) (pkr z z (fun w hst => z) pk_nil)) ?_
 refine ws_e2 1 5 (by kernel_rfl) ?_ ?_
 {
 refine nxe [5, 6, 7, 9] (by kernel_rfl) z z ?_
 clear hst
 intro w hst
 refine wec call25 [r0_0] z z ?_
 refine (slices_Clone_uint64_uint64_ref (f0_0.mono (rd_weak _)) hst.to0 ht4723).mono ?_
 rintro _ w5306 ⟨v5309, rfl, hst⟩
 refine ⟨_, z, ?_⟩
 replace hst := hst.of1
 refine ws_next (pend' := [(4, I6 ((a0).length : Int))]) hst (by kernel_rfl) (pkr z z (fun w hst => z) pk_nil) ?_
 refine ws_e1 5 (by kernel_rfl) ?_
 refine nxe [6, 7, 9] (by kernel_rfl) z z ?_
 clear hst
 intro w hst
 obtain ⟨v5311, w5312, hr5313, hst⟩ := run_mk (k := .i64) (k' := .i64) (zm := (0:Int)) elem_41 hst hg4725 (by decide) z
 refine we_run (v := v5311) (w' := w5312) z (x_make z z hr5313) ?_
 refine ws_next (pend' := []) hst (by kernel_rfl) pk_nil ?_
 refine wsr (.agg #[v5309, v5302, Zs, Zs, v5311, Zs]) 6 rfl rfl rfl (by kernel_rfl) (fun w hst => by obtain ⟨_, _, hv_, _⟩ := hst.sv0; rw [hv_]; obtain ⟨_, _, hv_, _⟩ := hst.sv2; rw [hv_]; obtain ⟨_, _, hv_, _⟩ := hst.sv1; rw [hv_]; kernel_rfl) ?_
 refine ws_e1 7 (by kernel_rfl) ?_
 refine nxe [9] (by kernel_rfl) z z ?_
 clear hst
 intro w hst
 obtain ⟨b5321, w5322, ew5323, eb5324, hst⟩ := hst.box [v5309, v5302, Zs, Zs, v5311, Zs] 49
 refine we_run (v := Pt b5321 0) (w' := w5322) z (x_al (by kernel_rfl) ew5323 eb5324) ?_
 refine ws_next (pend' := []) hst (by kernel_rfl) pk_nil ?_
 refine ws_e1 9 (by kernel_rfl) ?_
 refine nxe [] (by kernel_rfl) z z ?_
 clear hst
 intro w hst
 replace hst := hst.pull4
 obtain ⟨w5326, hr5327, hst⟩ := hst.by_ [Pt b5321 0] 0 (Pt b5321 0) sizeOf24 z (oC z oN) (by kernel_rfl)
 refine we_unit z (x_unit hr5327) ?_
 refine ws_next (pend' := []) hst (by kernel_rfl) pk_nil ?_
 refine ws_nil ?_
 intro w hst
 refine ⟨z, ?_⟩
 replace hst := hst.own_nil (tySl (tyInt .i64))
 replace hst := hst.own_nil (tySl (tyInt .i64))
 replace hst := hst.own_nil (tyInt .i64)
 replace hst := hst.pull5.pull2.pull3.pull7.pull7.pull7
 replace hst := at_label_Lattice_close (pv := Pt b5321 0) (x := ({ up := t4722, down := (List.replicate (Int.toNat ((a0).length : Int)) (0:Int)), join := [], meet := [], rank := (List.replicate (Int.toNat ((a0).length : Int)) (0:Int)), all := [] } : label_Lattice)) hst z
 replace hst := hst.pull1.keep2
 obtain rfl := some_inj hm
 exact ⟨({ up := t4722, down := (List.replicate (Int.toNat ((a0).length : Int)) (0:Int)), join := [], meet := [], rank := (List.replicate (Int.toNat ((a0).length : Int)) (0:Int)), all := [] } : label_Lattice), b5250, (Pt b5321 0), _, hx5406, (fu 0 r0_0 z (fu 4 (.int .i64 ((a0).length : Int)) z (fu 5 (Pt b5250 0) z z))), hst⟩
}
 {
 refine nxe [1, 6, 7, 9] (by kernel_rfl) z z ?_
 clear hst
 intro w hst
 obtain ⟨v5328, w5329, hr5330, hst⟩ := run_mk (k := .i64) (k' := .i64) (zm := (0:Int)) elem_41 hst hg4725 (by decide) z
 refine we_run (v := v5328) (w' := w5329) z (x_make z z hr5330) ?_
 refine ws_next (pend' := [(0, r0_0)]) hst (by kernel_rfl) (pkr z z (fun w hst => z) pk_nil) ?_
 refine ws_e1 1 (by kernel_rfl) ?_
 refine nxe [6, 7, 9] (by kernel_rfl) z z ?_
 clear hst
 intro w hst
 refine wec call25 [r0_0] z z ?_
 refine (slices_Clone_uint64_uint64_ref (f0_0.mono (rd_weak _)) hst.to0 ht4723).mono ?_
 rintro _ w5332 ⟨v5335, rfl, hst⟩
 refine ⟨_, z, ?_⟩
 replace hst := hst.of1
 refine ws_next (pend' := []) hst (by kernel_rfl) pk_nil ?_
 refine wsr (.agg #[v5335, v5302, Zs, Zs, v5328, Zs]) 6 rfl rfl rfl (by kernel_rfl) (fun w hst => by obtain ⟨_, _, hv_, _⟩ := hst.sv1; rw [hv_]; obtain ⟨_, _, hv_, _⟩ := hst.sv2; rw [hv_]; obtain ⟨_, _, hv_, _⟩ := hst.sv0; rw [hv_]; kernel_rfl) ?_
 refine ws_e1 7 (by kernel_rfl) ?_
 refine nxe [9] (by kernel_rfl) z z ?_
 clear hst
 intro w hst
 obtain ⟨b5343, w5344, ew5345, eb5346, hst⟩ := hst.box [v5335, v5302, Zs, Zs, v5328, Zs] 49
 refine we_run (v := Pt b5343 0) (w' := w5344) z (x_al (by kernel_rfl) ew5345 eb5346) ?_
 refine ws_next (pend' := []) hst (by kernel_rfl) pk_nil ?_
 refine ws_e1 9 (by kernel_rfl) ?_
 refine nxe [] (by kernel_rfl) z z ?_
 clear hst
 intro w hst
 replace hst := hst.pull4
 obtain ⟨w5348, hr5349, hst⟩ := hst.by_ [Pt b5343 0] 0 (Pt b5343 0) sizeOf24 z (oC z oN) (by kernel_rfl)
 refine we_unit z (x_unit hr5349) ?_
 refine ws_next (pend' := []) hst (by kernel_rfl) pk_nil ?_
 refine ws_nil ?_
 intro w hst
 refine ⟨z, ?_⟩
 replace hst := hst.own_nil (tySl (tyInt .i64))
 replace hst := hst.own_nil (tySl (tyInt .i64))
 replace hst := hst.own_nil (tyInt .i64)
 replace hst := hst.pull6.pull2.pull3.pull7.pull7.pull7
 replace hst := at_label_Lattice_close (pv := Pt b5343 0) (x := ({ up := t4722, down := (List.replicate (Int.toNat ((a0).length : Int)) (0:Int)), join := [], meet := [], rank := (List.replicate (Int.toNat ((a0).length : Int)) (0:Int)), all := [] } : label_Lattice)) hst z
 replace hst := hst.pull1.keep2
 obtain rfl := some_inj hm
 exact ⟨({ up := t4722, down := (List.replicate (Int.toNat ((a0).length : Int)) (0:Int)), join := [], meet := [], rank := (List.replicate (Int.toNat ((a0).length : Int)) (0:Int)), all := [] } : label_Lattice), b5250, (Pt b5343 0), _, hx5406, (fu 0 r0_0 z (fu 4 (.int .i64 ((a0).length : Int)) z (fu 5 (Pt b5250 0) z z))), hst⟩
}
}
 {
 refine nxe [1, 3, 6, 7, 9] (by kernel_rfl) z z ?_
 clear hst
 intro w hst
 obtain ⟨v5350, w5351, hr5352, hst⟩ := run_mk (k := .i64) (k' := .i64) (zm := (0:Int)) elem_41 hst hg4725 (by decide) z
 refine we_run (v := v5350) (w' := w5351) z (x_make z z hr5352) ?_
 refine ws_next (pend' := [(2, I6 ((a0).length : Int)), (0, r0_0)]) hst (by kernel_rfl) (pkr z z (fun w hst => z) (pkr z z (fun w hst => z) pk_nil)) ?_
 refine ws_e2 1 3 (by kernel_rfl) ?_ ?_
 {
 refine nxe [3, 6, 7, 9] (by kernel_rfl) z z ?_
 clear hst
 intro w hst
 refine wec call25 [r0_0] z z ?_
 refine (slices_Clone_uint64_uint64_ref (f0_0.mono (rd_weak _)) hst.to0 ht4723).mono ?_
 rintro _ w5354 ⟨v5357, rfl, hst⟩
 refine ⟨_, z, ?_⟩
 replace hst := hst.of1
 refine ws_next (pend' := [(2, I6 ((a0).length : Int))]) hst (by kernel_rfl) (pkr z z (fun w hst => z) pk_nil) ?_
 refine ws_e1 3 (by kernel_rfl) ?_
 refine nxe [6, 7, 9] (by kernel_rfl) z z ?_
 clear hst
 intro w hst
 obtain ⟨v5359, w5360, hr5361, hst⟩ := run_mk (k := .i64) (k' := .i64) (zm := (0:Int)) elem_28 hst hg4724 (by decide) z
 refine we_run (v := v5359) (w' := w5360) z (x_make z z hr5361) ?_
 refine ws_next (pend' := []) hst (by kernel_rfl) pk_nil ?_
 refine wsr (.agg #[v5357, v5359, Zs, Zs, v5350, Zs]) 6 rfl rfl rfl (by kernel_rfl) (fun w hst => by obtain ⟨_, _, hv_, _⟩ := hst.sv2; rw [hv_]; obtain ⟨_, _, hv_, _⟩ := hst.sv0; rw [hv_]; obtain ⟨_, _, hv_, _⟩ := hst.sv1; rw [hv_]; kernel_rfl) ?_
 refine ws_e1 7 (by kernel_rfl) ?_
 refine nxe [9] (by kernel_rfl) z z ?_
 clear hst
 intro w hst
 obtain ⟨b5369, w5370, ew5371, eb5372, hst⟩ := hst.box [v5357, v5359, Zs, Zs, v5350, Zs] 49
 refine we_run (v := Pt b5369 0) (w' := w5370) z (x_al (by kernel_rfl) ew5371 eb5372) ?_
 refine ws_next (pend' := []) hst (by kernel_rfl) pk_nil ?_
 refine ws_e1 9 (by kernel_rfl) ?_
 refine nxe [] (by kernel_rfl) z z ?_
 clear hst
 intro w hst
 replace hst := hst.pull4
 obtain ⟨w5374, hr5375, hst⟩ := hst.by_ [Pt b5369 0] 0 (Pt b5369 0) sizeOf24 z (oC z oN) (by kernel_rfl)
 refine we_unit z (x_unit hr5375) ?_
 refine ws_next (pend' := []) hst (by kernel_rfl) pk_nil ?_
 refine ws_nil ?_
 intro w hst
 refine ⟨z, ?_⟩
 replace hst := hst.own_nil (tySl (tyInt .i64))
 replace hst := hst.own_nil (tySl (tyInt .i64))
 replace hst := hst.own_nil (tyInt .i64)
 replace hst := hst.pull7.pull2.pull3.pull6.pull7.pull7
 replace hst := at_label_Lattice_close (pv := Pt b5369 0) (x := ({ up := t4722, down := (List.replicate (Int.toNat ((a0).length : Int)) (0:Int)), join := [], meet := [], rank := (List.replicate (Int.toNat ((a0).length : Int)) (0:Int)), all := [] } : label_Lattice)) hst z
 replace hst := hst.pull1.keep2
 obtain rfl := some_inj hm
 exact ⟨({ up := t4722, down := (List.replicate (Int.toNat ((a0).length : Int)) (0:Int)), join := [], meet := [], rank := (List.replicate (Int.toNat ((a0).length : Int)) (0:Int)), all := [] } : label_Lattice), b5250, (Pt b5369 0), _, hx5406, (fu 0 r0_0 z (fu 4 (.int .i64 ((a0).length : Int)) z (fu 5 (Pt b5250 0) z z))), hst⟩
}
 {
 refine nxe [1, 6, 7, 9] (by kernel_rfl) z z ?_
 clear hst
 intro w hst
 obtain ⟨v5376, w5377, hr5378, hst⟩ := run_mk (k := .i64) (k' := .i64) (zm := (0:Int)) elem_28 hst hg4724 (by decide) z
 refine we_run (v := v5376) (w' := w5377) z (x_make z z hr5378) ?_
 refine ws_next (pend' := [(0, r0_0)]) hst (by kernel_rfl) (pkr z z (fun w hst => z) pk_nil) ?_
 refine ws_e1 1 (by kernel_rfl) ?_
 refine nxe [6, 7, 9] (by kernel_rfl) z z ?_
 clear hst
 intro w hst
 refine wec call25 [r0_0] z z ?_
 refine (slices_Clone_uint64_uint64_ref (f0_0.mono (rd_weak _)) hst.to0 ht4723).mono ?_
 rintro _ w5380 ⟨v5383, rfl, hst⟩
 refine ⟨_, z, ?_⟩
 replace hst := hst.of1
 refine ws_next (pend' := []) hst (by kernel_rfl) pk_nil ?_
 refine wsr (.agg #[v5383, v5376, Zs, Zs, v5350, Zs]) 6 rfl rfl rfl (by kernel_rfl) (fun w hst => by obtain ⟨_, _, hv_, _⟩ := hst.sv2; rw [hv_]; obtain ⟨_, _, hv_, _⟩ := hst.sv1; rw [hv_]; obtain ⟨_, _, hv_, _⟩ := hst.sv0; rw [hv_]; kernel_rfl) ?_
 refine ws_e1 7 (by kernel_rfl) ?_
 refine nxe [9] (by kernel_rfl) z z ?_
 clear hst
 intro w hst
 obtain ⟨b5391, w5392, ew5393, eb5394, hst⟩ := hst.box [v5383, v5376, Zs, Zs, v5350, Zs] 49
 refine we_run (v := Pt b5391 0) (w' := w5392) z (x_al (by kernel_rfl) ew5393 eb5394) ?_
 refine ws_next (pend' := []) hst (by kernel_rfl) pk_nil ?_
 refine ws_e1 9 (by kernel_rfl) ?_
 refine nxe [] (by kernel_rfl) z z ?_
 clear hst
 intro w hst
 replace hst := hst.pull4
 obtain ⟨w5396, hr5397, hst⟩ := hst.by_ [Pt b5391 0] 0 (Pt b5391 0) sizeOf24 z (oC z oN) (by kernel_rfl)
 refine we_unit z (x_unit hr5397) ?_
 refine ws_next (pend' := []) hst (by kernel_rfl) pk_nil ?_
 refine ws_nil ?_
 intro w hst
 refine ⟨z, ?_⟩
 replace hst := hst.own_nil (tySl (tyInt .i64))
 replace hst := hst.own_nil (tySl (tyInt .i64))
 replace hst := hst.own_nil (tyInt .i64)
 replace hst := hst.pull7.pull2.pull3.pull7.pull7.pull7
 replace hst := at_label_Lattice_close (pv := Pt b5391 0) (x := ({ up := t4722, down := (List.replicate (Int.toNat ((a0).length : Int)) (0:Int)), join := [], meet := [], rank := (List.replicate (Int.toNat ((a0).length : Int)) (0:Int)), all := [] } : label_Lattice)) hst z
 replace hst := hst.pull1.keep2
 obtain rfl := some_inj hm
 exact ⟨({ up := t4722, down := (List.replicate (Int.toNat ((a0).length : Int)) (0:Int)), join := [], meet := [], rank := (List.replicate (Int.toNat ((a0).length : Int)) (0:Int)), all := [] } : label_Lattice), b5250, (Pt b5391 0), _, hx5406, (fu 0 r0_0 z (fu 4 (.int .i64 ((a0).length : Int)) z (fu 5 (Pt b5250 0) z z))), hst⟩
}
}
}
}
 {
 clear hst
 rintro _ w5407 ⟨z5402, b5399, v5401, σ5403, hm, rfl, hst⟩
 dsimp only [label_New_j0] at hm
 refine tn (wp_seq (wp_seq (wrl (wv (v5401) z z (x_load z isAgg24 (hst.bc0 z)) ?_))))
 replace hst := hst.pull1
 replace hst := objO_some hst
 obtain ⟨t5408, ht5409, hm⟩ := bind_some hm
 refine wc call26 [v5401] z z z ?_
 refine (label_Lattice_orders_ref hst.to1 ht5409).mono ?_
 rintro _ w5410 ⟨rfl, hst⟩
 refine ⟨_, z, ?_⟩
 replace hst := hst.of1
 replace hst := objO_get hst
 refine wv (.bool (!t5408)) z z z (wl_nil (tn ?_))
 refine bsplit (!t5408) (fun hc5413 => ?_) (fun hc5413 => ?_)
 {
 replace hm := bif_t hc5413 hm
 refine wp_ift (cvb hc5413) ?_
 refine wp_seq (wrl (wv (.pointer none) z z z (wv (.int .i64 (15:Int)) z z z (wl_nil (tn (wp_ret (then_r ?_)))))))
 replace hst := hst.objO_nil at_label_Lattice
 obtain rfl := some_inj hm
 refine post_ret (vs := [.pointer none, I6 (15:Int)]) results10 (rvs_cons (rv_tmp z) (rvs_cons (rv_tmp z) rvs_nil)) ?_
 exact ⟨_, .pointer none, z, hI0, hst.keep1⟩
}
 {
 replace hm := bif_f hc5413 hm
 refine wp_iff (cvb hc5413) ?_
 refine wp_skip (tn ?_)
 obtain ⟨y5711, hm, hx5712⟩ := bind_some hm
 refine wp_cut (fun a w => ∃ (z5708 : label_Lattice) (σ5709 : Nat → Value), (label_New_j1 a0) z5708 = some r ∧ a = Fr 192 (upd (upd σ5709 4 (.int .i64 ((a0).length : Int))) 5 (Pt b5399 0)) ∧ St w0 w I [cells b5399 [v5401], at_label_Lattice v5401 z5708] R) ?_ ?_
 {
 refine wp_seq (wrl (wv (r0_0) z z z (wv (.int .i64 ((a0).length : Int)) z z (x_len z underlying28 (rd_sliceV f0_0)) (wv (.int .i64 (0:Int)) z z z (wl_nil (tn (wp_block ?_)))))))
 obtain ⟨n5606, hm⟩ := loopO_some hm
 refine wp_loop_n (fun n a w => ∃ (z5603 : label_Lattice) (z5604 : Int) (σ5605 : Nat → Value), loopN (label_New_l2 a0) n (z5603, z5604) = some y5711 ∧ a = Fr 192 (upd (upd (upd (upd (upd σ5605 4 (.int .i64 ((a0).length : Int))) 5 (Pt b5399 0)) 38 (r0_0)) 39 (.int .i64 ((a0).length : Int))) 40 (.int .i64 z5604)) ∧ St w0 w I [at_label_Lattice v5401 z5603, cells b5399 [v5401]] R) n5606 ⟨z5402, (0:Int), _, hm, (fu 4 (.int .i64 ((a0).length : Int)) z (fu 5 (Pt b5399 0) z (fu 38 r0_0 z (fu 39 (.int .i64 ((a0).length : Int)) z (fu 40 (.int .i64 (0:Int)) z z))))), hst⟩ ?_
 rintro n5612 _ w5607 ⟨z5603, z5604, σ5605, hm, rfl, hst⟩
 obtain ⟨n5609, y5610, rfl, hm, hx5611⟩ := loopN_some hm
 dsimp only [label_New_l2] at hm
 refine wp_seq (wrl (wv (.bool (decide (z5604 < ((a0).length : Int)))) z z z (wl_nil (tn (wp_seq ?_)))))
 refine bsplit (decide (z5604 < ((a0).length : Int))) (fun hc5613 => ?_) (fun hc5613 => ?_)
 {
 replace hm := bif_t hc5613 hm
 refine wp_ift (cvb hc5613) ?_
 refine wp_skip (tn (wp_seq (wp_block (wp_seq (wrl ?_)))))
 refine wv (.int .i64 z5604) z z z ?_
 obtain ⟨x5614, hx5615, hm⟩ := bind_some hm
 obtain ⟨h5616, h5617, hi5618⟩ := geto_some hx5615
 refine wv (.pointer (some (eAddr r0_0 (z5604.toNat * 1 + 0)))) z z (x_index z z underlying28 sizeOf43 (rd_sliceV f0_0) h5616 h5617) (wv (.int .u64 x5614) z z (x_load z isAgg43 (rd_load f0_0 (HL.le.refl _) hst hi5618 (by rintro _ rfl; rfl))) (wv (.int .i64 z5604) z z z (wv (.int .u64 x5614) z z z (wl_nil (tn (wp_seq (wrl (wv (.int .i64 ((a0).length : Int)) z z z (wv (.int .i64 (0:Int)) z z z (wl_nil (tn (wp_block ?_))))))))))))
 obtain ⟨n5675, hm⟩ := loopO_some hm
 refine wp_loop_n (fun n a w => ∃ (z5672 : label_Lattice) (z5673 : Int) (σ5674 : Nat → Value), loopN (label_New_l3 a0 x5614 z5604) n (z5672, z5673) = some y5610 ∧ a = Fr 192 (upd (upd (upd (upd (upd (upd (upd (upd (upd σ5674 4 (.int .i64 ((a0).length : Int))) 5 (Pt b5399 0)) 6 (.int .i64 z5604)) 7 (.int .u64 x5614)) 38 (r0_0)) 39 (.int .i64 ((a0).length : Int))) 40 (.int .i64 z5604)) 45 (.int .i64 ((a0).length : Int))) 46 (.int .i64 z5673)) ∧ St w0 w I [at_label_Lattice v5401 z5672, cells b5399 [v5401]] R) n5675 ⟨z5603, (0:Int), _, hm, (fu 4 (.int .i64 ((a0).length : Int)) z (fu 5 (Pt b5399 0) z (fu 6 (.int .i64 z5604) z (fu 7 (.int .u64 x5614) z (fu 38 r0_0 z (fu 39 (.int .i64 ((a0).length : Int)) z (fu 40 (.int .i64 z5604) z (fu 45 (.int .i64 ((a0).length : Int)) z (fu 46 (.int .i64 (0:Int)) z z))))))))), hst⟩ ?_
 rintro n5681 _ w5676 ⟨z5672, z5673, σ5674, hm, rfl, hst⟩
 obtain ⟨n5678, y5679, rfl, hm, hx5680⟩ := loopN_some hm
 dsimp only [label_New_l3] at hm
 refine wp_seq (wrl (wv (.bool (decide (z5673 < ((a0).length : Int)))) z z z (wl_nil (tn (wp_seq ?_)))))
 refine bsplit (decide (z5673 < ((a0).length : Int))) (fun hc5682 => ?_) (fun hc5682 => ?_)
 {
 replace hm := bif_t hc5682 hm
 refine wp_ift (cvb hc5682) ?_
 refine wp_skip (tn (wp_seq (wp_block (wp_seq (wrl ?_)))))
 refine wv (.int .i64 z5673) z z z (wv (.int .i64 z5673) z z z (wl_nil (tn (wp_seq (wrl (wv (.int .u64 x5614) z z z (wv (.int .i64 z5673) z z z ?_)))))))
 obtain ⟨hg5683, hm⟩ := gd_some hm
 refine wv (.int .u64 (iShr .u64 x5614 z5673)) z z (x_shr (of_decide_eq_true hg5683) z z) (wv (.int .u64 (bAnd .u64 (iShr .u64 x5614 z5673) (1:Int))) z z z (wv (.bool ((bAnd .u64 (iShr .u64 x5614 z5673) (1:Int)) == (1:Int))) z z z (wl_nil (tn ?_))))
 refine bsplit ((bAnd .u64 (iShr .u64 x5614 z5673) (1:Int)) == (1:Int)) (fun hc5684 => ?_) (fun hc5684 => ?_)
 {
 replace hm := bif_t hc5684 hm
 refine wp_ift (cvb hc5684) ?_
 obtain ⟨b5685, v5686, v5688, v5690, v5692, v5694, v5696, rfl, hst'⟩ := at_label_Lattice_open hst
 clear hst
 have hst := hst'
 clear hst'
 refine wp_region_St hst 12 [0, 1, 2, 3, 4, 5, 6, 7, 8, 9, 10, 11] [0, 1, 3, 7, 0, 31, 63, 0, 128, 511, 1023, 2047] [] z (by kernel_rfl) (by kernel_rfl) Try.mixed (by kernel_rfl) ?_
 refine wsr (Pt b5685 0) 0 z z z (by kernel_rfl) (fun w hst => x_load z isAgg24 (hst.bc7 z)) (wsr (Pt b5685 0) 1 z z z (by kernel_rfl) (fun w hst => z) (wsr (Pt b5685 1) 2 z z z (by kernel_rfl) (fun w hst => x_field z underlying49 z sizeOf28 z) (wsr (v5688) 3 z z z (by kernel_rfl) (fun w hst => x_load z isAgg28 (hst.bc0 z)) (wsr (.int .i64 z5673) 4 z z z (by kernel_rfl) (fun w hst => z) ?_))))
 obtain ⟨x5698, hx5699, hm⟩ := bind_some hm
 obtain ⟨h5700, h5701, hi5702⟩ := geto_some hx5699
 refine wsr (.pointer (some (eAddr v5688 (z5673.toNat * 1 + 0)))) 5 z z z (by kernel_rfl) (fun w hst => x_index z z underlying28 sizeOf43 hst.sv2 h5700 h5701) (wsr (.int .u64 x5698) 6 z z z (by kernel_rfl) (fun w hst => x_load z isAgg43 (hst.ol2 hi5702 (by rintro _ rfl; rfl))) (wsr (.int .i64 z5604) 7 z z z (by kernel_rfl) (fun w hst => z) ?_))
 obtain ⟨hg5703, hm⟩ := gd_some hm
 refine wsr (.int .u64 (iShl .u64 (1:Int) z5604)) 8 z z z (by kernel_rfl) (fun w hst => x_shl (of_decide_eq_true hg5703) z z) (wsr (.int .u64 (bOr .u64 x5698 (iShl .u64 (1:Int) z5604))) 9 z z z (by kernel_rfl) (fun w hst => z) (wsr (.pointer (some (eAddr v5688 (z5673.toNat * 1 + 0)))) 10 z z z (by kernel_rfl) (fun w hst => x_index z z underlying28 sizeOf43 hst.sv2 h5700 h5701) ?_))
 refine ws_e1 11 (by kernel_rfl) ?_
 refine nxe [] (by kernel_rfl) z z ?_
 clear hst
 intro w hst
 replace hst := hst.pull2
 obtain ⟨w5704, hr5705, hst⟩ := hst.own_store (P := prog) (t := 43) (y := (bOr .u64 x5698 (iShl .u64 (1:Int) z5604))) hi5702 0 (.int .u64 (bOr .u64 x5698 (iShl .u64 (1:Int) z5604))) sizeOf43 (Nat.le_of_ble_eq_true z) (oC z oN) (by rintro _ rfl; rfl)
 have hi5706 := set_get hi5702 (bOr .u64 x5698 (iShl .u64 (1:Int) z5604))
 have h5707 := set_lt h5701 z5673.toNat (bOr .u64 x5698 (iShl .u64 (1:Int) z5604))
 refine we_unit z (x_unit hr5705) ?_
 refine ws_next (pend' := []) hst (by kernel_rfl) pk_nil ?_
 refine ws_nil ?_
 intro w hst
 refine blk_n (tn (wrl ?_))
 refine wv (.int .i64 (i64.wrap (z5673 + (1:Int)))) z z z (wv (.int .i64 (i64.wrap (z5673 + (1:Int)))) z z z (wl_nil (tn ?_)))
 replace hst := hst.pull6.pull6.pull6.pull6.pull4.pull6.pull6
 replace hst := at_label_Lattice_close (pv := Pt b5685 0) (x := ({ up := z5672.up, down := (z5672.down.set z5673.toNat (bOr .u64 x5698 (iShl .u64 (1:Int) z5604))), join := z5672.join, meet := z5672.meet, rank := z5672.rank, all := z5672.all } : label_Lattice)) hst z
 replace hst := hst.pull1.pull1.keep2
 obtain rfl := some_inj hm
 exact ⟨_, Nat.lt_succ_self _, ({ up := z5672.up, down := (z5672.down.set z5673.toNat (bOr .u64 x5698 (iShl .u64 (1:Int) z5604))), join := z5672.join, meet := z5672.meet, rank := z5672.rank, all := z5672.all } : label_Lattice), (i64.wrap (z5673 + (1:Int))), _, hx5680, (fu 4 (.int .i64 ((a0).length : Int)) z (fu 5 (Pt b5399 0) z (fu 6 (.int .i64 z5604) z (fu 7 (.int .u64 x5614) z (fu 38 r0_0 z (fu 39 (.int .i64 ((a0).length : Int)) z (fu 40 (.int .i64 z5604) z (fu 45 (.int .i64 ((a0).length : Int)) z (fu 46 (.int .i64 (i64.wrap (z5673 + (1:Int)))) z z))))))))), hst⟩
}
 {
 replace hm := bif_f hc5684 hm
 refine wp_iff (cvb hc5684) ?_
 refine wp_skip (blk_n (tn (wrl ?_)))
 refine wv (.int .i64 (i64.wrap (z5673 + (1:Int)))) z z z (wv (.int .i64 (i64.wrap (z5673 + (1:Int)))) z z z (wl_nil (tn ?_)))
 replace hst := hst.pull1.pull1.keep2
 obtain rfl := some_inj hm
 exact ⟨_, Nat.lt_succ_self _, z5672, (i64.wrap (z5673 + (1:Int))), _, hx5680, (fu 4 (.int .i64 ((a0).length : Int)) z (fu 5 (Pt b5399 0) z (fu 6 (.int .i64 z5604) z (fu 7 (.int .u64 x5614) z (fu 38 r0_0 z (fu 39 (.int .i64 ((a0).length : Int)) z (fu 40 (.int .i64 z5604) z (fu 45 (.int .i64 ((a0).length : Int)) z (fu 46 (.int .i64 (i64.wrap (z5673 + (1:Int)))) z z))))))))), hst⟩
}
}
 {
 replace hm := bif_f hc5682 hm
 refine wp_iff (cvb hc5682) ?_
 refine wp_exit (then_x (then_x ?_))
 replace hm := inr_up hm hx5680
 refine blk_x (blk_n (tn (wrl ?_)))
 refine wv (.int .i64 (i64.wrap (z5604 + (1:Int)))) z z z (wv (.int .i64 (i64.wrap (z5604 + (1:Int)))) z z z (wl_nil (tn ?_)))
 replace hst := hst.pull1.pull1.keep2
 obtain rfl := some_inj hm
 exact ⟨_, Nat.lt_succ_self _, z5672, (i64.wrap (z5604 + (1:Int))), _, hx5611, (fu 4 (.int .i64 ((a0).length : Int)) z (fu 5 (Pt b5399 0) z (fu 38 r0_0 z (fu 39 (.int .i64 ((a0).length : Int)) z (fu 40 (.int .i64 (i64.wrap (z5604 + (1:Int)))) z z))))), hst⟩
}
}
 {
 replace hm := bif_f hc5613 hm
 refine wp_iff (cvb hc5613) ?_
 refine wp_exit (then_x (then_x ?_))
 replace hm := inr_up hm hx5611
 refine blk_x (tn ?_)
 replace hst := hst.pull1.keep2
 obtain rfl := some_inj hm
 exact ⟨z5603, _, hx5712, (fu 4 (.int .i64 ((a0).length : Int)) z (fu 5 (Pt b5399 0) z z)), hst⟩
}
}
 {
 clear hst
 rintro _ w5713 ⟨z5708, σ5709, hm, rfl, hst⟩
 dsimp only [label_New_j1] at hm
 obtain ⟨y7056, hm, hx7057⟩ := joinO_some hm
 refine wp_cut (fun a w => ∃ (I7053 : HL) (z7052 : label_Lattice) (σ7054 : Nat → Value), (label_New_j4) z7052 = some r ∧ a = Fr 192 (upd σ7054 5 (Pt b5399 0)) ∧ I.le I7053 ∧ St w0 w I7053 [cells b5399 [v5401], at_label_Lattice v5401 z7052] R) ?_ ?_
 {
 have hL7058 := HL.le.refl I
 refine wp_seq (wrl (wv (.int .i64 ((a0).length : Int)) z z z (wv (.int .i64 (0:Int)) z z z (wl_nil (tn (wp_block ?_))))))
 obtain ⟨n6596, hm⟩ := loopO_some hm
 refine wp_loop_n (fun n a w => ∃ (I6594 : HL) (z6592 : label_Lattice) (z6593 : Int) (σ6595 : Nat → Value), loopN (label_New_l5 a0) n (z6592, z6593) = some y7056 ∧ a = Fr 192 (upd (upd (upd (upd σ6595 4 (.int .i64 ((a0).length : Int))) 5 (Pt b5399 0)) 67 (.int .i64 ((a0).length : Int))) 68 (.int .i64 z6593)) ∧ I.le I6594 ∧ St w0 w I6594 [cells b5399 [v5401], at_label_Lattice v5401 z6592] R) n6596 ⟨_, z5708, (0:Int), _, hm, (fu 4 (.int .i64 ((a0).length : Int)) z (fu 5 (Pt b5399 0) z (fu 67 (.int .i64 ((a0).length : Int)) z (fu 68 (.int .i64 (0:Int)) z z)))), (HL.le.refl _), hst⟩ ?_
 rintro n6602 _ w6597 ⟨I6594, z6592, z6593, σ6595, hm, rfl, hL6598, hst⟩
 obtain ⟨n6599, y6600, rfl, hm, hx6601⟩ := loopN_some hm
 dsimp only [label_New_l5] at hm
 replace f0_0 := f0_0.mono (rd_le hL6598)
 replace hI0 := hI0.trans hL6598
 replace hL7058 := hL7058.trans hL6598
 refine wp_seq (wrl (wv (.bool (decide (z6593 < ((a0).length : Int)))) z z z (wl_nil (tn (wp_seq ?_)))))
 refine bsplit (decide (z6593 < ((a0).length : Int))) (fun hc6603 => ?_) (fun hc6603 => ?_)
 {
 replace hm := bif_t hc6603 hm
 refine wp_ift (cvb hc6603) ?_
 refine wp_skip (tn (wp_seq (wp_block (wp_seq (wrl ?_)))))
 refine wv (.int .i64 z6593) z z z (wv (.int .i64 z6593) z z z (wl_nil (tn (wp_seq (wrl (wv ((.slice none 0 0)) z z z (wv ((.slice none 0 0)) z z z (wl_nil (tn ?_)))))))))
 obtain ⟨y6916, hm, hx6917⟩ := joinO_some hm
 refine wp_cut (fun a w => ∃ (z6910 : (List Int)) (z6913 : (List Int)) (v6909 : Value) (v6912 : Value) (σ6914 : Nat → Value), (label_New_j6 z6592 z6593) (z6910, z6913) = some y6600 ∧ a = Fr 192 (upd (upd (upd (upd (upd (upd (upd σ6914 4 (.int .i64 ((a0).length : Int))) 5 (Pt b5399 0)) 9 (.int .i64 z6593)) 10 (v6909)) 11 (v6912)) 67 (.int .i64 ((a0).length : Int))) 68 (.int .i64 z6593)) ∧ St w0 w I6594 [cells b5399 [v5401], at_label_Lattice v5401 z6592, ownS (tyInt .i64) v6909 z6910, ownS (tyInt .i64) v6912 z6913] R) ?_ ?_
 {
 refine wp_seq (wrl (wv (.int .i64 ((a0).length : Int)) z z z (wv (.int .i64 (0:Int)) z z z (wl_nil (tn (wp_block ?_))))))
 replace hst := hst.own_nil (tyInt .i64)
 replace hst := hst.own_nil (tyInt .i64)
 obtain ⟨n6831, hm⟩ := loopO_some hm
 refine wp_loop_n (fun n a w => ∃ (z6823 : (List Int)) (z6826 : (List Int)) (z6829 : Int) (v6824 : Value) (v6827 : Value) (σ6830 : Nat → Value), loopN (label_New_l7 a0 z6592 z6593) n (z6823, z6826, z6829) = some y6916 ∧ a = Fr 192 (upd (upd (upd (upd (upd (upd (upd (upd (upd σ6830 4 (.int .i64 ((a0).length : Int))) 5 (Pt b5399 0)) 9 (.int .i64 z6593)) 10 (v6824)) 11 (v6827)) 67 (.int .i64 ((a0).length : Int))) 68 (.int .i64 z6593)) 71 (.int .i64 ((a0).length : Int))) 72 (.int .i64 z6829)) ∧ St w0 w I6594 [ownS (tyInt .i64) v6827 z6826, ownS (tyInt .i64) v6824 z6823, cells b5399 [v5401], at_label_Lattice v5401 z6592] R) n6831 ⟨[], [], (0:Int), Zs, Zs, _, hm, (fu 4 (.int .i64 ((a0).length : Int)) z (fu 5 (Pt b5399 0) z (fu 9 (.int .i64 z6593) z (fu 10 (.slice none 0 0) z (fu 11 (.slice none 0 0) z (fu 67 (.int .i64 ((a0).length : Int)) z (fu 68 (.int .i64 z6593) z (fu 71 (.int .i64 ((a0).length : Int)) z (fu 72 (.int .i64 (0:Int)) z z))))))))), hst⟩ ?_
 rintro n6837 _ w6832 ⟨z6823, z6826, z6829, v6824, v6827, σ6830, hm, rfl, hst⟩
 obtain ⟨n6834, y6835, rfl, hm, hx6836⟩ := loopN_some hm
 dsimp only [label_New_l7] at hm
 refine wp_seq (wrl (wv (.bool (decide (z6829 < ((a0).length : Int)))) z z z (wl_nil (tn (wp_seq ?_)))))
 refine bsplit (decide (z6829 < ((a0).length : Int))) (fun hc6838 => ?_) (fun hc6838 => ?_)
 {
 replace hm := bif_t hc6838 hm
 refine wp_ift (cvb hc6838) ?_
 refine wp_skip (tn (wp_seq (wp_block (wp_seq (wrl ?_)))))
 refine wv (.int .i64 z6829) z z z (wv (.int .i64 z6829) z z z (wl_nil (tn (wp_seq ?_))))
 replace hst := hst.pull3
 obtain ⟨b6839, v6840, v6842, v6844, v6846, v6848, v6850, rfl, hst'⟩ := at_label_Lattice_open hst
 clear hst
 have hst := hst'
 clear hst'
 refine wp_region_St hst 25 [0, 1, 2, 3, 4, 5, 6, 7, 8, 9, 10, 11, 12, 13, 14, 15, 16, 17, 18, 19, 20, 21, 22, 23, 24] [0, 1, 3, 7, 0, 31, 63, 0, 128, 384, 896, 0, 3968, 8064, 16383, 0, 32768, 98304, 229376, 524287, 1048575, 2097151, 2097151, 4194303, 16777215] [] z (by kernel_rfl) (by kernel_rfl) Try.mixed (by kernel_rfl) ?_
 refine wsr (Pt b6839 0) 0 z z z (by kernel_rfl) (fun w hst => x_load z isAgg24 (hst.bc9 z)) (wsr (Pt b6839 0) 1 z z z (by kernel_rfl) (fun w hst => z) (wsr (Pt b6839 0) 2 z z z (by kernel_rfl) (fun w hst => x_field z underlying49 z sizeOf28 z) (wsr (v6840) 3 z z z (by kernel_rfl) (fun w hst => x_load z isAgg28 (hst.bc0 z)) (wsr (.int .i64 z6593) 4 z z z (by kernel_rfl) (fun w hst => z) ?_))))
 obtain ⟨x6852, hx6853, hm⟩ := bind_some hm
 obtain ⟨h6854, h6855, hi6856⟩ := geto_some hx6853
 refine wsr (.pointer (some (eAddr v6840 (z6593.toNat * 1 + 0)))) 5 z z z (by kernel_rfl) (fun w hst => x_index z z underlying28 sizeOf43 hst.sv1 h6854 h6855) (wsr (.int .u64 x6852) 6 z z z (by kernel_rfl) (fun w hst => x_load z isAgg43 (hst.ol1 hi6856 (by rintro _ rfl; rfl))) (wsr (Pt b6839 0) 7 z z z (by kernel_rfl) (fun w hst => x_load z isAgg24 (hst.bc9 z)) (wsr (Pt b6839 0) 8 z z z (by kernel_rfl) (fun w hst => z) (wsr (Pt b6839 0) 9 z z z (by kernel_rfl) (fun w hst => x_field z underlying49 z sizeOf28 z) (wsr (v6840) 10 z z z (by kernel_rfl) (fun w hst => x_load z isAgg28 (hst.bc0 z)) (wsr (.int .i64 z6829) 11 z z z (by kernel_rfl) (fun w hst => z) ?_))))))
 obtain ⟨x6857, hx6858, hm⟩ := bind_some hm
 obtain ⟨h6859, h6860, hi6861⟩ := geto_some hx6858
 refine wsr (.pointer (some (eAddr v6840 (z6829.toNat * 1 + 0)))) 12 z z z (by kernel_rfl) (fun w hst => x_index z z underlying28 sizeOf43 hst.sv1 h6859 h6860) (wsr (.int .u64 x6857) 13 z z z (by kernel_rfl) (fun w hst => x_load z isAgg43 (hst.ol1 hi6861 (by rintro _ rfl; rfl))) (wsr (.int .u64 (bAnd .u64 x6852 x6857)) 14 z z z (by kernel_rfl) (fun w hst => z) (wsr (Pt b6839 0) 15 z z z (by kernel_rfl) (fun w hst => x_load z isAgg24 (hst.bc9 z)) (wsr (Pt b6839 0) 16 z z z (by kernel_rfl) (fun w hst => z) (wsr (Pt b6839 0) 17 z z z (by kernel_rfl) (fun w hst => x_field z underlying49 z sizeOf28 z) (wsr (v6840) 18 z z z (by kernel_rfl) (fun w hst => x_load z isAgg28 (hst.bc0 z)) ?_))))))
 refine ws_e1 19 (by kernel_rfl) ?_
 refine nxe [20, 21, 22, 23, 24] (by kernel_rfl) z z ?_
 clear hst
 intro w hst
 replace hst := hst.pull1
 obtain ⟨css6862, hq6863, hst⟩ := hst.own_open
 obtain ⟨t6864, ht6865, hm⟩ := bind_some hm
 refine wec call27 [U6 (bAnd .u64 x6852 x6857), v6840] z z ?_
 refine (label_least_ref (hst.rdrow0 hq6863) hst.to0 ht6865).mono ?_
 rintro _ w6866 ⟨rfl, hst⟩
 refine ⟨_, z, ?_⟩
 replace hst := hst.of0.own_close hq6863
 refine ws_next (pend' := []) hst (by kernel_rfl) pk_nil ?_
 refine wsr (.tuple #[I6 t6864.1, .bool t6864.2]) 20 z z z (by kernel_rfl) (fun w hst => z) (wsr (.int .i64 t6864.1) 21 z z z (by kernel_rfl) (fun w hst => z) (wsr (.bool t6864.2) 22 z z z (by kernel_rfl) (fun w hst => z) (wsr (.int .i64 t6864.1) 23 z z z (by kernel_rfl) (fun w hst => z) (wsr (.bool t6864.2) 24 z z z (by kernel_rfl) (fun w hst => z) ?_))))
 refine ws_nil ?_
 intro w hst
 refine tn (wp_seq ?_)
 refine wp_region_St hst 25 [0, 1, 2, 3, 4, 5, 6, 7, 8, 9, 10, 11, 12, 13, 14, 15, 16, 17, 18, 19, 20, 21, 22, 23, 24] [0, 1, 3, 7, 0, 31, 63, 0, 128, 384, 896, 0, 3968, 8064, 16383, 0, 32768, 98304, 229376, 524287, 1048575, 2097151, 2097151, 4194303, 16777215] [] z (by kernel_rfl) (by kernel_rfl) Try.mixed (by kernel_rfl) ?_
 refine wsr (Pt b6839 0) 0 z z z (by kernel_rfl) (fun w hst => x_load z isAgg24 (hst.bc9 z)) (wsr (Pt b6839 0) 1 z z z (by kernel_rfl) (fun w hst => z) (wsr (Pt b6839 1) 2 z z z (by kernel_rfl) (fun w hst => x_field z underlying49 z sizeOf28 z) (wsr (v6842) 3 z z z (by kernel_rfl) (fun w hst => x_load z isAgg28 (hst.bc1 z)) (wsr (.int .i64 z6593) 4 z z z (by kernel_rfl) (fun w hst => z) ?_))))
 obtain ⟨x6869, hx6870, hm⟩ := bind_some hm
 obtain ⟨h6871, h6872, hi6873⟩ := geto_some hx6870
 refine wsr (.pointer (some (eAddr v6842 (z6593.toNat * 1 + 0)))) 5 z z z (by kernel_rfl) (fun w hst => x_index z z underlying28 sizeOf43 hst.sv2 h6871 h6872) (wsr (.int .u64 x6869) 6 z z z (by kernel_rfl) (fun w hst => x_load z isAgg43 (hst.ol2 hi6873 (by rintro _ rfl; rfl))) (wsr (Pt b6839 0) 7 z z z (by kernel_rfl) (fun w hst => x_load z isAgg24 (hst.bc9 z)) (wsr (Pt b6839 0) 8 z z z (by kernel_rfl) (fun w hst => z) (wsr (Pt b6839 1) 9 z z z (by kernel_rfl) (fun w hst => x_field z underlying49 z sizeOf28 z) (wsr (v6842) 10 z z z (by kernel_rfl) (fun w hst => x_load z isAgg28 (hst.bc1 z)) (wsr (.int .i64 z6829) 11 z z z (by kernel_rfl) (fun w hst => z) ?_))))))
 obtain ⟨x6874, hx6875, hm⟩ := bind_some hm
 obtain ⟨h6876, h6877, hi6878⟩ := geto_some hx6875
 refine wsr (.pointer (some (eAddr v6842 (z6829.toNat * 1 + 0)))) 12 z z z (by kernel_rfl) (fun w hst => x_index z z underlying28 sizeOf43 hst.sv2 h6876 h6877) (wsr (.int .u64 x6874) 13 z z z (by kernel_rfl) (fun w hst => x_load z isAgg43 (hst.ol2 hi6878 (by rintro _ rfl; rfl))) (wsr (.int .u64 (bAnd .u64 x6869 x6874)) 14 z z z (by kernel_rfl) (fun w hst => z) (wsr (Pt b6839 0) 15 z z z (by kernel_rfl) (fun w hst => x_load z isAgg24 (hst.bc9 z)) (wsr (Pt b6839 0) 16 z z z (by kernel_rfl) (fun w hst => z) (wsr (Pt b6839 1) 17 z z z (by kernel_rfl) (fun w hst => x_field z underlying49 z sizeOf28 z) (wsr (v6842) 18 z z z (by kernel_rfl) (fun w hst => x_load z isAgg28 (hst.bc1 z)) ?_))))))
 refine ws_e1 19 (by kernel_rfl) ?_
 refine nxe [20, 21, 22, 23, 24] (by kernel_rfl) z z ?_
 clear hst
 intro w hst
 replace hst := hst.pull2
 obtain ⟨css6879, hq6880, hst⟩ := hst.own_open
 obtain ⟨t6881, ht6882, hm⟩ := bind_some hm
 refine wec call27 [U6 (bAnd .u64 x6869 x6874), v6842] z z ?_
 refine (label_least_ref (hst.rdrow0 hq6880) hst.to0 ht6882).mono ?_
 rintro _ w6883 ⟨rfl, hst⟩
 refine ⟨_, z, ?_⟩
 replace hst := hst.of0.own_close hq6880
 refine ws_next (pend' := []) hst (by kernel_rfl) pk_nil ?_
 refine wsr (.tuple #[I6 t6881.1, .bool t6881.2]) 20 z z z (by kernel_rfl) (fun w hst => z) (wsr (.int .i64 t6881.1) 21 z z z (by kernel_rfl) (fun w hst => z) (wsr (.bool t6881.2) 22 z z z (by kernel_rfl) (fun w hst => z) (wsr (.int .i64 t6881.1) 23 z z z (by kernel_rfl) (fun w hst => z) (wsr (.bool t6881.2) 24 z z z (by kernel_rfl) (fun w hst => z) ?_))))
 refine ws_nil ?_
 intro w hst
 refine tn (wp_seq (wp_seq (wrl (wv (.bool t6864.2) z z z (wv (.bool (!t6864.2)) z z z (wv (.bool (!t6864.2)) z z z ?_))))))
 refine bsplit (!t6864.2) (fun hc6886 => ?_) (fun hc6886 => ?_)
 {
 replace hm := bif_t hc6886 hm
 refine wo hc6886 z z z z z z (wo hc6886 z z z z z z (wv (.bool true) z z (x_pick_t hc6886 z z) (wl_nil (tn ?_))))
 refine wp_ift z ?_
 refine wp_seq (wrl (wv (.pointer none) z z z (wv (.int .i64 (15:Int)) z z z (wl_nil (tn (wp_ret (then_r (blk_r (then_r (then_r ?_))))))))))
 replace hm := inr_up hm hx6836
 refine blk_r (then_r ?_)
 replace hm := inr_up hm hx6917
 refine blk_r (then_r (then_r ?_))
 replace hm := inr_up hm hx6601
 refine blk_r (then_r ?_)
 replace hm := inr_up hm hx7057
 replace hst := hst.objO_nil at_label_Lattice
 obtain rfl := some_inj hm
 refine post_ret (vs := [.pointer none, I6 (15:Int)]) results10 (rvs_cons (rv_tmp z) (rvs_cons (rv_tmp z) rvs_nil)) ?_
 exact ⟨_, .pointer none, z, hI0, hst.keep1⟩
}
 {
 replace hm := bif_f hc6886 hm
 refine wv (.bool t6881.2) ((wanted_eq z z z (cvb hc6886)).trans z) z z (wv (.bool (!t6881.2)) ((wanted_eq z z z (cvb hc6886)).trans z) z z (wv (.bool (!t6881.2)) z z (x_pick_f hc6886 z z) (wl_nil (tn ?_))))
 refine bsplit (!t6881.2) (fun hc6888 => ?_) (fun hc6888 => ?_)
 {
 replace hm := bif_t hc6888 hm
 refine wp_ift (cvb hc6888) ?_
 refine wp_seq (wrl (wv (.pointer none) z z z (wv (.int .i64 (15:Int)) z z z (wl_nil (tn (wp_ret (then_r (blk_r (then_r (then_r ?_))))))))))
 replace hm := inr_up hm hx6836
 refine blk_r (then_r ?_)
 replace hm := inr_up hm hx6917
 refine blk_r (then_r (then_r ?_))
 replace hm := inr_up hm hx6601
 refine blk_r (then_r ?_)
 replace hm := inr_up hm hx7057
 replace hst := hst.objO_nil at_label_Lattice
 obtain rfl := some_inj hm
 refine post_ret (vs := [.pointer none, I6 (15:Int)]) results10 (rvs_cons (rv_tmp z) (rvs_cons (rv_tmp z) rvs_nil)) ?_
 exact ⟨_, .pointer none, z, hI0, hst.keep1⟩
}
 {
 replace hm := bif_f hc6888 hm
 refine wp_iff (cvb hc6888) ?_
 refine wp_skip (tn (wrl ?_))
 refine wv (v6824) z z z (wv (.int .i64 t6864.1) z z z ?_)
 obtain ⟨b6890, w6891, ew6892, eb6893, hst⟩ := hst.lits (E := (tyInt .i64)) (xs := [t6864.1]) [[I6 t6864.1]] 3 1 z (Reps.cons z Reps.nil)
 refine wl_run (v := (.slice (some ⟨b6890, 0, none⟩) 1 1)) (w' := w6891) z z (x_als (by kernel_rfl) ew6892 eb6893) ?_
 obtain ⟨hg6895, hm⟩ := gd_some hm
 replace hst := hst.pull9
 obtain ⟨v6896, w6897, hr6898, hst⟩ := run_append elem_41 underlying41 hst hst.src1 (room_of hg6895 z) 41
 refine wl_run (v := v6896) (w' := w6897) z z (x_append z z hr6898) ?_
 refine wv (v6827) z z z (wv (.int .i64 t6881.1) z z z ?_)
 obtain ⟨b6900, w6901, ew6902, eb6903, hst⟩ := hst.lits (E := (tyInt .i64)) (xs := [t6881.1]) [[I6 t6881.1]] 3 1 z (Reps.cons z Reps.nil)
 refine wl_run (v := (.slice (some ⟨b6900, 0, none⟩) 1 1)) (w' := w6901) z z (x_als (by kernel_rfl) ew6902 eb6903) ?_
 obtain ⟨hg6905, hm⟩ := gd_some hm
 replace hst := hst.pull10
 obtain ⟨v6906, w6907, hr6908, hst⟩ := run_append elem_41 underlying41 hst hst.src1 (room_of hg6905 z) 41
 refine wl_run (v := v6906) (w' := w6907) z z (x_append z z hr6908) ?_
 refine wv (v6896) z z z (wv (v6906) z z z (wl_nil (blk_n (tn (wrl (wv (.int .i64 (i64.wrap (z6829 + (1:Int)))) z z z (wv (.int .i64 (i64.wrap (z6829 + (1:Int)))) z z z (wl_nil (tn ?_)))))))))
 replace hst := hst.pull10.pull10.pull10.pull10.pull8.pull9.pull10
 replace hst := at_label_Lattice_close (pv := Pt b6839 0) (x := z6592) hst z
 replace hst := hst.pull5.pull4.pull3.keep4
 obtain rfl := some_inj hm
 exact ⟨_, Nat.lt_succ_self _, (z6823 ++ ([t6864.1])), (z6826 ++ ([t6881.1])), (i64.wrap (z6829 + (1:Int))), v6896, v6906, _, hx6836, (fu 4 (.int .i64 ((a0).length : Int)) z (fu 5 (Pt b5399 0) z (fu 9 (.int .i64 z6593) z (fu 10 v6896 z (fu 11 v6906 z (fu 67 (.int .i64 ((a0).length : Int)) z (fu 68 (.int .i64 z6593) z (fu 71 (.int .i64 ((a0).length : Int)) z (fu 72 (.int .i64 (i64.wrap (z6829 + (1:Int)))) z z))))))))), hst⟩
}
}
}
 {
 replace hm := bif_f hc6838 hm
 refine wp_iff (cvb hc6838) ?_
 refine wp_exit (then_x (then_x ?_))
 replace hm := inr_up hm hx6836
 refine blk_x (tn ?_)
 replace hst := hst.pull1.pull3.pull3.keep4
 obtain rfl := some_inj hm
 exact ⟨z6823, z6826, v6824, v6827, _, hx6917, (fu 4 (.int .i64 ((a0).length : Int)) z (fu 5 (Pt b5399 0) z (fu 9 (.int .i64 z6593) z (fu 10 v6824 z (fu 11 v6827 z (fu 67 (.int .i64 ((a0).length : Int)) z (fu 68 (.int .i64 z6593) z z))))))), hst⟩
}
}
 {
 clear hst
 rintro _ w6918 ⟨z6910, z6913, v6909, v6912, σ6914, hm, rfl, hst⟩
 dsimp only [label_New_j6] at hm
 refine wp_seq ?_
 replace hst := hst.pull1
 obtain ⟨b6919, v6920, v6922, v6924, v6926, v6928, v6930, rfl, hst'⟩ := at_label_Lattice_open hst
 clear hst
 have hst := hst'
 clear hst'
 obtain ⟨y7022, hm, hx7023⟩ := bind_some hm
 refine wp_mid (fun a w => ∃ (I7019 : HL) (σ7020 : Nat → Value), (label_New_j8 z6592 z6910 z6913 z6593) () = some y6600 ∧ a = Fr 192 (upd (upd (upd (upd (upd σ7020 4 (.int .i64 ((a0).length : Int))) 5 (Pt b5399 0)) 9 (.int .i64 z6593)) 67 (.int .i64 ((a0).length : Int))) 68 (.int .i64 z6593)) ∧ I6594.le I7019 ∧ St w0 w I7019 [cells b5399 [Pt b6919 0], at_label_Lattice (Pt b6919 0) ({ up := z6592.up, down := z6592.down, join := (z6592.join ++ ([z6910])), meet := (z6592.meet ++ ([z6913])), rank := z6592.rank, all := z6592.all } : label_Lattice)] R) ?_ ?_
 {
 have hL7024 := HL.le.refl I6594
 refine wp_region_St hst 22 [0, 1, 2, 3, 4, 5, 6, 7, 8, 9, 10, 11, 12, 13, 14, 15, 16, 17, 18, 19, 20, 21] [0, 0, 0, 4, 12, 28, 0, 64, 252, 0, 512, 1536, 3584, 0, 8192, 32764, 65533, 131069, 262141, 524287, 1048575, 2097151] [] z (by kernel_rfl) (by kernel_rfl) Try.mixed (by kernel_rfl) ?_
 refine wsr (Pt b6919 0) 0 z z z (by kernel_rfl) (fun w hst => x_load z isAgg24 (hst.bc7 z)) (wsr (Pt b6919 0) 1 z z z (by kernel_rfl) (fun w hst => x_load z isAgg24 (hst.bc7 z)) (wsr (Pt b6919 0) 2 z z z (by kernel_rfl) (fun w hst => x_load z isAgg24 (hst.bc7 z)) (wsr (Pt b6919 0) 3 z z z (by kernel_rfl) (fun w hst => z) (wsr (Pt b6919 2) 4 z z z (by kernel_rfl) (fun w hst => x_field z underlying49 z sizeOf47 z) (wsr (v6924) 5 z z z (by kernel_rfl) (fun w hst => x_load z isAgg47 (hst.bc0 z)) (wsr (v6909) 6 z z z (by kernel_rfl) (fun w hst => z) (wsr (Pt b6919 0) 9 z z z (by kernel_rfl) (fun w hst => x_load z isAgg24 (hst.bc7 z)) (wsr (Pt b6919 0) 10 z z z (by kernel_rfl) (fun w hst => z) (wsr (Pt b6919 3) 11 z z z (by kernel_rfl) (fun w hst => x_field z underlying49 z sizeOf47 z) (wsr (v6926) 12 z z z (by kernel_rfl) (fun w hst => x_load z isAgg47 (hst.bc0 z)) (wsr (v6912) 13 z z z (by kernel_rfl) (fun w hst => z) ?_)))))))))))
 refine ws_e2 7 14 (by kernel_rfl) ?_ ?_
 {
 refine nxe [8, 14, 15, 16, 17, 18, 19, 20, 21] (by kernel_rfl) z z ?_
 clear hst
 intro w hst
 replace hst := hst.pull8
 obtain ⟨I6933, hI6934, f6935, hst⟩ := hst.own_fix
 replace f0_0 := f0_0.mono (rd_le hI6934)
 replace hI0 := hI0.trans hI6934
 replace hL7058 := hL7058.trans hI6934
 replace hL6598 := hL6598.trans hI6934
 replace hL7024 := hL7024.trans hI6934
 obtain ⟨b6936, w6937, ew6938, eb6939, hst⟩ := hst.lits (E := (tySl (tyInt .i64))) (xs := [z6910]) [[v6909]] 41 1 z (Reps.cons ⟨_, z, f6935, one_of_sliceV (ro_sliceV f6935)⟩ Reps.nil)
 refine we_run (v := (.slice (some ⟨b6936, 0, none⟩) 1 1)) (w' := w6937) z (x_als (by obtain ⟨_, _, hv_, _⟩ := (ro_sliceV f6935); rw [hv_]; kernel_rfl) ew6938 eb6939) ?_
 refine ws_next (pend' := [(13, v6912), (12, v6926), (11, Pt b6919 3), (10, Pt b6919 0), (9, Pt b6919 0), (5, v6924), (4, Pt b6919 2), (3, Pt b6919 0), (2, Pt b6919 0), (1, Pt b6919 0), (0, Pt b6919 0)]) hst (by kernel_rfl) (pkr z z (fun w hst => z) (pkr z z (fun w hst => x_load z isAgg47 (hst.bc1 z)) (pkr z z (fun w hst => x_field z underlying49 z sizeOf47 z) (pkr z z (fun w hst => z) (pkr z z (fun w hst => x_load z isAgg24 (hst.bc8 z)) (pkr z z (fun w hst => x_load z isAgg47 (hst.bc1 z)) (pkr z z (fun w hst => x_field z underlying49 z sizeOf47 z) (pkr z z (fun w hst => z) (pkr z z (fun w hst => x_load z isAgg24 (hst.bc8 z)) (pkr z z (fun w hst => x_load z isAgg24 (hst.bc8 z)) (pkr z z (fun w hst => x_load z isAgg24 (hst.bc8 z)) pk_nil))))))))))) ?_
 refine ws_e2 8 14 (by kernel_rfl) ?_ ?_
 {
 refine nxe [14, 15, 16, 17, 18, 19, 20, 21] (by kernel_rfl) z z ?_
 clear hst
 intro w hst
 obtain ⟨hg6941, hm⟩ := gd_some hm
 replace hst := hst.pull4
 obtain ⟨v6942, w6943, hr6944, hst⟩ := run_append elem_47 underlying47 hst hst.src1 (room_of hg6941 z) 47
 refine we_run (v := v6942) (w' := w6943) z (x_append z z hr6944) ?_
 refine ws_next (pend' := [(13, v6912), (12, v6926), (11, Pt b6919 3), (10, Pt b6919 0), (9, Pt b6919 0), (1, Pt b6919 0), (0, Pt b6919 0)]) hst (by kernel_rfl) (pkr z z (fun w hst => z) (pkr z z (fun w hst => x_load z isAgg47 (hst.bc2 z)) (pkr z z (fun w hst => x_field z underlying49 z sizeOf47 z) (pkr z z (fun w hst => z) (pkr z z (fun w hst => x_load z isAgg24 (hst.bc8 z)) (pkr z z (fun w hst => x_load z isAgg24 (hst.bc8 z)) (pkr z z (fun w hst => x_load z isAgg24 (hst.bc8 z)) pk_nil))))))) ?_
 refine ws_e1 14 (by kernel_rfl) ?_
 refine nxe [15, 16, 17, 18, 19, 20, 21] (by kernel_rfl) z z ?_
 clear hst
 intro w hst
 replace hst := hst.pull9
 obtain ⟨I6947, hI6948, f6949, hst⟩ := hst.own_fix
 replace f0_0 := f0_0.mono (rd_le hI6948)
 replace f6935 := f6935.mono (ro_le hI6948)
 replace hI0 := hI0.trans hI6948
 replace hL7058 := hL7058.trans hI6948
 replace hL6598 := hL6598.trans hI6948
 replace hL7024 := hL7024.trans hI6948
 obtain ⟨b6950, w6951, ew6952, eb6953, hst⟩ := hst.lits (E := (tySl (tyInt .i64))) (xs := [z6913]) [[v6912]] 41 1 z (Reps.cons ⟨_, z, f6949, one_of_sliceV (ro_sliceV f6949)⟩ Reps.nil)
 refine we_run (v := (.slice (some ⟨b6950, 0, none⟩) 1 1)) (w' := w6951) z (x_als (by obtain ⟨_, _, hv_, _⟩ := (ro_sliceV f6949); rw [hv_]; kernel_rfl) ew6952 eb6953) ?_
 refine ws_next (pend' := [(12, v6926), (11, Pt b6919 3), (10, Pt b6919 0), (9, Pt b6919 0), (1, Pt b6919 0), (0, Pt b6919 0)]) hst (by kernel_rfl) (pkr z z (fun w hst => x_load z isAgg47 (hst.bc3 z)) (pkr z z (fun w hst => x_field z underlying49 z sizeOf47 z) (pkr z z (fun w hst => z) (pkr z z (fun w hst => x_load z isAgg24 (hst.bc9 z)) (pkr z z (fun w hst => x_load z isAgg24 (hst.bc9 z)) (pkr z z (fun w hst => x_load z isAgg24 (hst.bc9 z)) pk_nil)))))) ?_
 refine ws_e1 15 (by kernel_rfl) ?_
 refine nxe [16, 17, 18, 19, 20, 21] (by kernel_rfl) z z ?_
 clear hst
 intro w hst
 obtain ⟨hg6955, hm⟩ := gd_some hm
 replace hst := hst.pull6
 obtain ⟨v6956, w6957, hr6958, hst⟩ := run_append elem_47 underlying47 hst hst.src1 (room_of hg6955 z) 47
 refine we_run (v := v6956) (w' := w6957) z (x_append z z hr6958) ?_
 refine ws_next (pend' := [(1, Pt b6919 0), (0, Pt b6919 0)]) hst (by kernel_rfl) (pkr z z (fun w hst => x_load z isAgg24 (hst.bc9 z)) (pkr z z (fun w hst => x_load z isAgg24 (hst.bc9 z)) pk_nil)) ?_
 refine wsr (Pt b6919 0) 16 z z z (by kernel_rfl) (fun w hst => z) (wsr (Pt b6919 2) 17 z z z (by kernel_rfl) (fun w hst => x_field z underlying49 z sizeOf47 z) ?_)
 refine ws_e1 18 (by kernel_rfl) ?_
 refine nxe [19, 20, 21] (by kernel_rfl) z z ?_
 clear hst
 intro w hst
 replace hst := hst.pull4
 obtain ⟨w6960, hr6961, hst⟩ := hst.boxStore1 (P := prog) (t := 47) (cs' := [v6920, v6922, v6942, v6926, v6928, v6930]) 2 v6942 (one_of_sliceV hst.sv3) sizeOf47 z z
 refine we_unit z (x_unit hr6961) ?_
 refine ws_next (pend' := [(1, Pt b6919 0)]) hst (by kernel_rfl) (pkr z z (fun w hst => x_load z isAgg24 (hst.bc9 z)) pk_nil) ?_
 refine wsr (Pt b6919 0) 19 z z z (by kernel_rfl) (fun w hst => z) (wsr (Pt b6919 3) 20 z z z (by kernel_rfl) (fun w hst => x_field z underlying49 z sizeOf47 z) ?_)
 refine ws_e1 21 (by kernel_rfl) ?_
 refine nxe [] (by kernel_rfl) z z ?_
 clear hst
 intro w hst
 obtain ⟨w6962, hr6963, hst⟩ := hst.boxStore1 (P := prog) (t := 47) (cs' := [v6920, v6922, v6942, v6956, v6928, v6930]) 3 v6956 (one_of_sliceV hst.sv1) sizeOf47 z z
 refine we_unit z (x_unit hr6963) ?_
 refine ws_next (pend' := []) hst (by kernel_rfl) pk_nil ?_
 refine ws_nil ?_
 intro w hst
 refine ⟨z, ?_⟩
 replace hst := hst.pull8.pull8.pull3.pull5.pull8.pull8.pull6
 replace hst := at_label_Lattice_close (pv := Pt b6919 0) (x := ({ up := z6592.up, down := z6592.down, join := (z6592.join ++ ([z6910])), meet := (z6592.meet ++ ([z6913])), rank := z6592.rank, all := z6592.all } : label_Lattice)) hst z
 replace hst := hst.pull3.keep2
 obtain rfl := some_inj hm
 exact ⟨_, _, hx7023, (fu 4 (.int .i64 ((a0).length : Int)) z (fu 5 (Pt b5399 0) z (fu 9 (.int .i64 z6593) z (fu 67 (.int .i64 ((a0).length : Int)) z (fu 68 (.int .i64 z6593) z z))))), hL7024, hst⟩
}
 {
 refine nxe [8, 15, 16, 17, 18, 19, 20, 21] (by kernel_rfl) z z ?_
 clear hst
 intro w hst
 replace hst := hst.pull9
 obtain ⟨I6965, hI6966, f6967, hst⟩ := hst.own_fix
 replace f0_0 := f0_0.mono (rd_le hI6966)
 replace f6935 := f6935.mono (ro_le hI6966)
 replace hI0 := hI0.trans hI6966
 replace hL7058 := hL7058.trans hI6966
 replace hL6598 := hL6598.trans hI6966
 replace hL7024 := hL7024.trans hI6966
 obtain ⟨b6968, w6969, ew6970, eb6971, hst⟩ := hst.lits (E := (tySl (tyInt .i64))) (xs := [z6913]) [[v6912]] 41 1 z (Reps.cons ⟨_, z, f6967, one_of_sliceV (ro_sliceV f6967)⟩ Reps.nil)
 refine we_run (v := (.slice (some ⟨b6968, 0, none⟩) 1 1)) (w' := w6969) z (x_als (by obtain ⟨_, _, hv_, _⟩ := (ro_sliceV f6967); rw [hv_]; kernel_rfl) ew6970 eb6971) ?_
 refine ws_next (pend' := [(12, v6926), (11, Pt b6919 3), (10, Pt b6919 0), (9, Pt b6919 0), (5, v6924), (4, Pt b6919 2), (3, Pt b6919 0), (2, Pt b6919 0), (1, Pt b6919 0), (0, Pt b6919 0)]) hst (by kernel_rfl) (pkr z z (fun w hst => x_load z isAgg47 (hst.bc2 z)) (pkr z z (fun w hst => x_field z underlying49 z sizeOf47 z) (pkr z z (fun w hst => z) (pkr z z (fun w hst => x_load z isAgg24 (hst.bc9 z)) (pkr z z (fun w hst => x_load z isAgg47 (hst.bc2 z)) (pkr z z (fun w hst => x_field z underlying49 z sizeOf47 z) (pkr z z (fun w hst => z) (pkr z z (fun w hst => x_load z isAgg24 (hst.bc9 z)) (pkr z z (fun w hst => x_load z isAgg24 (hst.bc9 z)) (pkr z z (fun w hst => x_load z isAgg24 (hst.bc9 z)) pk_nil)))))))))) ?_
 refine ws_e1 8 (by kernel_rfl) ?_
 refine nxe [15, 16, 17, 18, 19, 20, 21] (by kernel_rfl) z z ?_
 clear hst
 intro w hst
 obtain ⟨hg6973, hm⟩ := gd_some hm
 replace hst := hst.pull5
 obtain ⟨v6974, w6975, hr6976, hst⟩ := run_append elem_47 underlying47 hst hst.src2 (room_of hg6973 z) 47
 refine we_run (v := v6974) (w' := w6975) z (x_append z z hr6976) ?_
 refine ws_next (pend' := [(12, v6926), (11, Pt b6919 3), (10, Pt b6919 0), (9, Pt b6919 0), (1, Pt b6919 0), (0, Pt b6919 0)]) hst (by kernel_rfl) (pkr z z (fun w hst => x_load z isAgg47 (hst.bc3 z)) (pkr z z (fun w hst => x_field z underlying49 z sizeOf47 z) (pkr z z (fun w hst => z) (pkr z z (fun w hst => x_load z isAgg24 (hst.bc9 z)) (pkr z z (fun w hst => x_load z isAgg24 (hst.bc9 z)) (pkr z z (fun w hst => x_load z isAgg24 (hst.bc9 z)) pk_nil)))))) ?_
 refine ws_e1 15 (by kernel_rfl) ?_
 refine nxe [16, 17, 18, 19, 20, 21] (by kernel_rfl) z z ?_
 clear hst
 intro w hst
 obtain ⟨hg6978, hm⟩ := gd_some hm
 replace hst := hst.pull6
 obtain ⟨v6979, w6980, hr6981, hst⟩ := run_append elem_47 underlying47 hst hst.src2 (room_of hg6978 z) 47
 refine we_run (v := v6979) (w' := w6980) z (x_append z z hr6981) ?_
 refine ws_next (pend' := [(1, Pt b6919 0), (0, Pt b6919 0)]) hst (by kernel_rfl) (pkr z z (fun w hst => x_load z isAgg24 (hst.bc9 z)) (pkr z z (fun w hst => x_load z isAgg24 (hst.bc9 z)) pk_nil)) ?_
 refine wsr (Pt b6919 0) 16 z z z (by kernel_rfl) (fun w hst => z) (wsr (Pt b6919 2) 17 z z z (by kernel_rfl) (fun w hst => x_field z underlying49 z sizeOf47 z) ?_)
 refine ws_e1 18 (by kernel_rfl) ?_
 refine nxe [19, 20, 21] (by kernel_rfl) z z ?_
 clear hst
 intro w hst
 replace hst := hst.pull4
 obtain ⟨w6983, hr6984, hst⟩ := hst.boxStore1 (P := prog) (t := 47) (cs' := [v6920, v6922, v6974, v6926, v6928, v6930]) 2 v6974 (one_of_sliceV hst.sv2) sizeOf47 z z
 refine we_unit z (x_unit hr6984) ?_
 refine ws_next (pend' := [(1, Pt b6919 0)]) hst (by kernel_rfl) (pkr z z (fun w hst => x_load z isAgg24 (hst.bc9 z)) pk_nil) ?_
 refine wsr (Pt b6919 0) 19 z z z (by kernel_rfl) (fun w hst => z) (wsr (Pt b6919 3) 20 z z z (by kernel_rfl) (fun w hst => x_field z underlying49 z sizeOf47 z) ?_)
 refine ws_e1 21 (by kernel_rfl) ?_
 refine nxe [] (by kernel_rfl) z z ?_
 clear hst
 intro w hst
 obtain ⟨w6985, hr6986, hst⟩ := hst.boxStore1 (P := prog) (t := 47) (cs' := [v6920, v6922, v6974, v6979, v6928, v6930]) 3 v6979 (one_of_sliceV hst.sv1) sizeOf47 z z
 refine we_unit z (x_unit hr6986) ?_
 refine ws_next (pend' := []) hst (by kernel_rfl) pk_nil ?_
 refine ws_nil ?_
 intro w hst
 refine ⟨z, ?_⟩
 replace hst := hst.pull8.pull8.pull3.pull4.pull8.pull8.pull6
 replace hst := at_label_Lattice_close (pv := Pt b6919 0) (x := ({ up := z6592.up, down := z6592.down, join := (z6592.join ++ ([z6910])), meet := (z6592.meet ++ ([z6913])), rank := z6592.rank, all := z6592.all } : label_Lattice)) hst z
 replace hst := hst.pull3.keep2
 obtain rfl := some_inj hm
 exact ⟨_, _, hx7023, (fu 4 (.int .i64 ((a0).length : Int)) z (fu 5 (Pt b5399 0) z (fu 9 (.int .i64 z6593) z (fu 67 (.int .i64 ((a0).length : Int)) z (fu 68 (.int .i64 z6593) z z))))), hL7024, hst⟩
}
}
 {
 refine nxe [7, 8, 15, 16, 17, 18, 19, 20, 21] (by kernel_rfl) z z ?_
 clear hst
 intro w hst
 replace hst := hst.pull9
 obtain ⟨I6988, hI6989, f6990, hst⟩ := hst.own_fix
 replace f0_0 := f0_0.mono (rd_le hI6989)
 replace hI0 := hI0.trans hI6989
 replace hL7058 := hL7058.trans hI6989
 replace hL6598 := hL6598.trans hI6989
 replace hL7024 := hL7024.trans hI6989
 obtain ⟨b6991, w6992, ew6993, eb6994, hst⟩ := hst.lits (E := (tySl (tyInt .i64))) (xs := [z6913]) [[v6912]] 41 1 z (Reps.cons ⟨_, z, f6990, one_of_sliceV (ro_sliceV f6990)⟩ Reps.nil)
 refine we_run (v := (.slice (some ⟨b6991, 0, none⟩) 1 1)) (w' := w6992) z (x_als (by obtain ⟨_, _, hv_, _⟩ := (ro_sliceV f6990); rw [hv_]; kernel_rfl) ew6993 eb6994) ?_
 refine ws_next (pend' := [(12, v6926), (11, Pt b6919 3), (10, Pt b6919 0), (9, Pt b6919 0), (6, v6909), (5, v6924), (4, Pt b6919 2), (3, Pt b6919 0), (2, Pt b6919 0), (1, Pt b6919 0), (0, Pt b6919 0)]) hst (by kernel_rfl) (pkr z z (fun w hst => x_load z isAgg47 (hst.bc1 z)) (pkr z z (fun w hst => x_field z underlying49 z sizeOf47 z) (pkr z z (fun w hst => z) (pkr z z (fun w hst => x_load z isAgg24 (hst.bc8 z)) (pkr z z (fun w hst => z) (pkr z z (fun w hst => x_load z isAgg47 (hst.bc1 z)) (pkr z z (fun w hst => x_field z underlying49 z sizeOf47 z) (pkr z z (fun w hst => z) (pkr z z (fun w hst => x_load z isAgg24 (hst.bc8 z)) (pkr z z (fun w hst => x_load z isAgg24 (hst.bc8 z)) (pkr z z (fun w hst => x_load z isAgg24 (hst.bc8 z)) pk_nil))))))))))) ?_
 refine ws_e1 7 (by kernel_rfl) ?_
 refine nxe [8, 15, 16, 17, 18, 19, 20, 21] (by kernel_rfl) z z ?_
 clear hst
 intro w hst
 replace hst := hst.pull9
 obtain ⟨I6997, hI6998, f6999, hst⟩ := hst.own_fix
 replace f0_0 := f0_0.mono (rd_le hI6998)
 replace f6990 := f6990.mono (ro_le hI6998)
 replace hI0 := hI0.trans hI6998
 replace hL7058 := hL7058.trans hI6998
 replace hL6598 := hL6598.trans hI6998
 replace hL7024 := hL7024.trans hI6998
 obtain ⟨b7000, w7001, ew7002, eb7003, hst⟩ := hst.lits (E := (tySl (tyInt .i64))) (xs := [z6910]) [[v6909]] 41 1 z (Reps.cons ⟨_, z, f6999, one_of_sliceV (ro_sliceV f6999)⟩ Reps.nil)
 refine we_run (v := (.slice (some ⟨b7000, 0, none⟩) 1 1)) (w' := w7001) z (x_als (by obtain ⟨_, _, hv_, _⟩ := (ro_sliceV f6999); rw [hv_]; kernel_rfl) ew7002 eb7003) ?_
 refine ws_next (pend' := [(12, v6926), (11, Pt b6919 3), (10, Pt b6919 0), (9, Pt b6919 0), (5, v6924), (4, Pt b6919 2), (3, Pt b6919 0), (2, Pt b6919 0), (1, Pt b6919 0), (0, Pt b6919 0)]) hst (by kernel_rfl) (pkr z z (fun w hst => x_load z isAgg47 (hst.bc2 z)) (pkr z z (fun w hst => x_field z underlying49 z sizeOf47 z) (pkr z z (fun w hst => z) (pkr z z (fun w hst => x_load z isAgg24 (hst.bc9 z)) (pkr z z (fun w hst => x_load z isAgg47 (hst.bc2 z)) (pkr z z (fun w hst => x_field z underlying49 z sizeOf47 z) (pkr z z (fun w hst => z) (pkr z z (fun w hst => x_load z isAgg24 (hst.bc9 z)) (pkr z z (fun w hst => x_load z isAgg24 (hst.bc9 z)) (pkr z z (fun w hst => x_load z isAgg24 (hst.bc9 z)) pk_nil)))))))))) ?_
 refine ws_e1 8 (by kernel_rfl) ?_
 refine nxe [15, 16, 17, 18, 19, 20, 21] (by kernel_rfl) z z ?_
 clear hst
 intro w hst
 obtain ⟨hg7005, hm⟩ := gd_some hm
 replace hst := hst.pull5
 obtain ⟨v7006, w7007, hr7008, hst⟩ := run_append elem_47 underlying47 hst hst.src1 (room_of hg7005 z) 47
 refine we_run (v := v7006) (w' := w7007) z (x_append z z hr7008) ?_
 refine ws_next (pend' := [(12, v6926), (11, Pt b6919 3), (10, Pt b6919 0), (9, Pt b6919 0), (1, Pt b6919 0), (0, Pt b6919 0)]) hst (by kernel_rfl) (pkr z z (fun w hst => x_load z isAgg47 (hst.bc3 z)) (pkr z z (fun w hst => x_field z underlying49 z sizeOf47 z) (pkr z z (fun w hst => z) (pkr z z (fun w hst => x_load z isAgg24 (hst.bc9 z)) (pkr z z (fun w hst => x_load z isAgg24 (hst.bc9 z)) (pkr z z (fun w hst => x_load z isAgg24 (hst.bc9 z)) pk_nil)))))) ?_
 refine ws_e1 15 (by kernel_rfl) ?_
 refine nxe [16, 17, 18, 19, 20, 21] (by kernel_rfl) z z ?_
 clear hst
 intro w hst
 obtain ⟨hg7010, hm⟩ := gd_some hm
 replace hst := hst.pull6
 obtain ⟨v7011, w7012, hr7013, hst⟩ := run_append elem_47 underlying47 hst hst.src3 (room_of hg7010 z) 47
 refine we_run (v := v7011) (w' := w7012) z (x_append z z hr7013) ?_
 refine ws_next (pend' := [(1, Pt b6919 0), (0, Pt b6919 0)]) hst (by kernel_rfl) (pkr z z (fun w hst => x_load z isAgg24 (hst.bc9 z)) (pkr z z (fun w hst => x_load z isAgg24 (hst.bc9 z)) pk_nil)) ?_
 refine wsr (Pt b6919 0) 16 z z z (by kernel_rfl) (fun w hst => z) (wsr (Pt b6919 2) 17 z z z (by kernel_rfl) (fun w hst => x_field z underlying49 z sizeOf47 z) ?_)
 refine ws_e1 18 (by kernel_rfl) ?_
 refine nxe [19, 20, 21] (by kernel_rfl) z z ?_
 clear hst
 intro w hst
 replace hst := hst.pull4
 obtain ⟨w7015, hr7016, hst⟩ := hst.boxStore1 (P := prog) (t := 47) (cs' := [v6920, v6922, v7006, v6926, v6928, v6930]) 2 v7006 (one_of_sliceV hst.sv2) sizeOf47 z z
 refine we_unit z (x_unit hr7016) ?_
 refine ws_next (pend' := [(1, Pt b6919 0)]) hst (by kernel_rfl) (pkr z z (fun w hst => x_load z isAgg24 (hst.bc9 z)) pk_nil) ?_
 refine wsr (Pt b6919 0) 19 z z z (by kernel_rfl) (fun w hst => z) (wsr (Pt b6919 3) 20 z z z (by kernel_rfl) (fun w hst => x_field z underlying49 z sizeOf47 z) ?_)
 refine ws_e1 21 (by kernel_rfl) ?_
 refine nxe [] (by kernel_rfl) z z ?_
 clear hst
 intro w hst
 obtain ⟨w7017, hr7018, hst⟩ := hst.boxStore1 (P := prog) (t := 47) (cs' := [v6920, v6922, v7006, v7011, v6928, v6930]) 3 v7011 (one_of_sliceV hst.sv1) sizeOf47 z z
 refine we_unit z (x_unit hr7018) ?_
 refine ws_next (pend' := []) hst (by kernel_rfl) pk_nil ?_
 refine ws_nil ?_
 intro w hst
 refine ⟨z, ?_⟩
 replace hst := hst.pull8.pull8.pull3.pull4.pull8.pull8.pull6
 replace hst := at_label_Lattice_close (pv := Pt b6919 0) (x := ({ up := z6592.up, down := z6592.down, join := (z6592.join ++ ([z6910])), meet := (z6592.meet ++ ([z6913])), rank := z6592.rank, all := z6592.all } : label_Lattice)) hst z
 replace hst := hst.pull3.keep2
 obtain rfl := some_inj hm
 exact ⟨_, _, hx7023, (fu 4 (.int .i64 ((a0).length : Int)) z (fu 5 (Pt b5399 0) z (fu 9 (.int .i64 z6593) z (fu 67 (.int .i64 ((a0).length : Int)) z (fu 68 (.int .i64 z6593) z z))))), hL7024, hst⟩
}
}
 {
 clear hst
 rintro _ w7025 ⟨I7019, σ7020, hm, rfl, hL7021, hst⟩
 dsimp only [label_New_j8] at hm
 replace f0_0 := f0_0.mono (rd_le hL7021)
 replace hI0 := hI0.trans hL7021
 replace hL7058 := hL7058.trans hL7021
 replace hL6598 := hL6598.trans hL7021
 refine tn ?_
 replace hst := hst.pull1
 obtain ⟨b7026, v7027, v7029, v7031, v7033, v7035, v7037, e7039, hst'⟩ := at_label_Lattice_open hst
 clear hst
 have e7039 := ptr_inj e7039
 subst e7039
 have hst := hst'
 clear hst'
 refine wp_region_St hst 11 [0, 1, 2, 3, 4, 5, 6, 7, 8, 9, 10] [0, 0, 2, 6, 14, 0, 32, 126, 255, 511, 1023] [] z (by kernel_rfl) (by kernel_rfl) Try.mixed (by kernel_rfl) ?_
 refine wsr (Pt b6919 0) 0 z z z (by kernel_rfl) (fun w hst => x_load z isAgg24 (hst.bc7 z)) (wsr (Pt b6919 0) 1 z z z (by kernel_rfl) (fun w hst => x_load z isAgg24 (hst.bc7 z)) (wsr (Pt b6919 0) 2 z z z (by kernel_rfl) (fun w hst => z) (wsr (Pt b6919 5) 3 z z z (by kernel_rfl) (fun w hst => x_field z underlying49 z sizeOf41 z) (wsr (v7037) 4 z z z (by kernel_rfl) (fun w hst => x_load z isAgg41 (hst.bc0 z)) (wsr (.int .i64 z6593) 5 z z z (by kernel_rfl) (fun w hst => z) ?_)))))
 refine ws_e1 6 (by kernel_rfl) ?_
 refine nxe [7, 8, 9, 10] (by kernel_rfl) z z ?_
 clear hst
 intro w hst
 obtain ⟨b7040, w7041, ew7042, eb7043, hst⟩ := hst.lits (E := (tyInt .i64)) (xs := [z6593]) [[I6 z6593]] 3 1 z (Reps.cons z Reps.nil)
 refine we_run (v := (.slice (some ⟨b7040, 0, none⟩) 1 1)) (w' := w7041) z (x_als (by kernel_rfl) ew7042 eb7043) ?_
 refine ws_next (pend' := [(4, v7037), (3, Pt b6919 5), (2, Pt b6919 0), (1, Pt b6919 0), (0, Pt b6919 0)]) hst (by kernel_rfl) (pkr z z (fun w hst => x_load z isAgg41 (hst.bc1 z)) (pkr z z (fun w hst => x_field z underlying49 z sizeOf41 z) (pkr z z (fun w hst => z) (pkr z z (fun w hst => x_load z isAgg24 (hst.bc8 z)) (pkr z z (fun w hst => x_load z isAgg24 (hst.bc8 z)) pk_nil))))) ?_
 refine ws_e1 7 (by kernel_rfl) ?_
 refine nxe [8, 9, 10] (by kernel_rfl) z z ?_
 clear hst
 intro w hst
 obtain ⟨hg7045, hm⟩ := gd_some hm
 replace hst := hst.pull7
 obtain ⟨v7046, w7047, hr7048, hst⟩ := run_append elem_41 underlying41 hst hst.src1 (room_of hg7045 z) 41
 refine we_run (v := v7046) (w' := w7047) z (x_append z z hr7048) ?_
 refine ws_next (pend' := [(0, Pt b6919 0)]) hst (by kernel_rfl) (pkr z z (fun w hst => x_load z isAgg24 (hst.bc8 z)) pk_nil) ?_
 refine wsr (Pt b6919 0) 8 z z z (by kernel_rfl) (fun w hst => z) (wsr (Pt b6919 5) 9 z z z (by kernel_rfl) (fun w hst => x_field z underlying49 z sizeOf41 z) ?_)
 refine ws_e1 10 (by kernel_rfl) ?_
 refine nxe [] (by kernel_rfl) z z ?_
 clear hst
 intro w hst
 replace hst := hst.pull2
 obtain ⟨w7050, hr7051, hst⟩ := hst.boxStore1 (P := prog) (t := 41) (cs' := [v7027, v7029, v7031, v7033, v7035, v7046]) 5 v7046 (one_of_sliceV hst.sv1) sizeOf41 z z
 refine we_unit z (x_unit hr7051) ?_
 refine ws_next (pend' := []) hst (by kernel_rfl) pk_nil ?_
 refine ws_nil ?_
 intro w hst
 refine blk_n (tn (wrl ?_))
 refine wv (.int .i64 (i64.wrap (z6593 + (1:Int)))) z z z (wv (.int .i64 (i64.wrap (z6593 + (1:Int)))) z z z (wl_nil (tn ?_)))
 replace hst := hst.pull1.pull7.pull7.pull7.pull7.pull7.pull6
 replace hst := at_label_Lattice_close (pv := Pt b6919 0) (x := ({ up := ({ up := z6592.up, down := z6592.down, join := (z6592.join ++ ([z6910])), meet := (z6592.meet ++ ([z6913])), rank := z6592.rank, all := z6592.all } : label_Lattice).up, down := ({ up := z6592.up, down := z6592.down, join := (z6592.join ++ ([z6910])), meet := (z6592.meet ++ ([z6913])), rank := z6592.rank, all := z6592.all } : label_Lattice).down, join := ({ up := z6592.up, down := z6592.down, join := (z6592.join ++ ([z6910])), meet := (z6592.meet ++ ([z6913])), rank := z6592.rank, all := z6592.all } : label_Lattice).join, meet := ({ up := z6592.up, down := z6592.down, join := (z6592.join ++ ([z6910])), meet := (z6592.meet ++ ([z6913])), rank := z6592.rank, all := z6592.all } : label_Lattice).meet, rank := ({ up := z6592.up, down := z6592.down, join := (z6592.join ++ ([z6910])), meet := (z6592.meet ++ ([z6913])), rank := z6592.rank, all := z6592.all } : label_Lattice).rank, all := ((({ up := z6592.up, down := z6592.down, join := (z6592.join ++ ([z6910])), meet := (z6592.meet ++ ([z6913])), rank := z6592.rank, all := z6592.all } : label_Lattice).all) ++ ([z6593])) } : label_Lattice)) hst z
 replace hst := hst.pull2.keep2
 obtain rfl := some_inj hm
 exact ⟨_, Nat.lt_succ_self _, _, ({ up := ({ up := z6592.up, down := z6592.down, join := (z6592.join ++ ([z6910])), meet := (z6592.meet ++ ([z6913])), rank := z6592.rank, all := z6592.all } : label_Lattice).up, down := ({ up := z6592.up, down := z6592.down, join := (z6592.join ++ ([z6910])), meet := (z6592.meet ++ ([z6913])), rank := z6592.rank, all := z6592.all } : label_Lattice).down, join := ({ up := z6592.up, down := z6592.down, join := (z6592.join ++ ([z6910])), meet := (z6592.meet ++ ([z6913])), rank := z6592.rank, all := z6592.all } : label_Lattice).join, meet := ({ up := z6592.up, down := z6592.down, join := (z6592.join ++ ([z6910])), meet := (z6592.meet ++ ([z6913])), rank := z6592.rank, all := z6592.all } : label_Lattice).meet, rank := ({ up := z6592.up, down := z6592.down, join := (z6592.join ++ ([z6910])), meet := (z6592.meet ++ ([z6913])), rank := z6592.rank, all := z6592.all } : label_Lattice).rank, all := ((({ up := z6592.up, down := z6592.down, join := (z6592.join ++ ([z6910])), meet := (z6592.meet ++ ([z6913])), rank := z6592.rank, all := z6592.all } : label_Lattice).all) ++ ([z6593])) } : label_Lattice), (i64.wrap (z6593 + (1:Int))), _, hx6601, (fu 4 (.int .i64 ((a0).length : Int)) z (fu 5 (Pt b5399 0) z (fu 67 (.int .i64 ((a0).length : Int)) z (fu 68 (.int .i64 (i64.wrap (z6593 + (1:Int)))) z z)))), hL6598, hst⟩
}
}
}
 {
 replace hm := bif_f hc6603 hm
 refine wp_iff (cvb hc6603) ?_
 refine wp_exit (then_x (then_x ?_))
 replace hm := inr_up hm hx6601
 refine blk_x (tn ?_)
 replace hst := hst.pull1.pull1.keep2
 obtain rfl := some_inj hm
 exact ⟨_, z6592, _, hx7057, (fu 5 (Pt b5399 0) z z), hL7058, hst⟩
}
}
 {
 clear hst
 rintro _ w7059 ⟨I7053, z7052, σ7054, hm, rfl, hL7055, hst⟩
 dsimp only [label_New_j4] at hm
 replace f0_0 := f0_0.mono (rd_le hL7055)
 replace hI0 := hI0.trans hL7055
 refine wp_seq (wrl (wv (v5401) z z (x_load z isAgg24 (hst.bc0 z)) ?_))
 replace hst := hst.pull1
 obtain ⟨b7060, v7061, v7063, v7065, v7067, v7069, v7071, rfl, hst'⟩ := at_label_Lattice_open hst
 clear hst
 have hst := hst'
 clear hst'
 refine wv (Pt b7060 0) z z z (wv (Pt b7060 5) z z (x_field z underlying49 z sizeOf41 z) (wv (v7071) z z (x_load z isAgg41 (hst.bc0 z)) (wv (.func (.func 29) #[] #[Pt b5399 0]) z z (by kernel_rfl) ?_)))
 obtain ⟨y9369, hq9370, hm⟩ := bind_some hm
 refine wl_call z z (x_callv call28 (caps := []) z (vs := [v7071, .func (.func 29) #[] #[Pt b5399 0]]) z) ?_
 refine Calls.mono (show Calls prog 28 #[v7071, .func (.func 29) #[] #[Pt b5399 0]] _ (fun e w' => ∃ (z9367 : (List Int)), z9367 = y9369 ∧ e = .returned (.tuple #[]) ∧ St w0 w' I7053 [cells b5399 [Pt b7060 0], cells b7060 [v7061, v7063, v7065, v7067, v7069, v7071], ownS (tyInt .u64) v7061 z7052.up, ownS (tyInt .u64) v7063 z7052.down, ownS (tySl (tyInt .i64)) v7065 z7052.join, ownS (tySl (tyInt .i64)) v7067 z7052.meet, ownS (tyInt .i64) v7069 z7052.rank, ownS (tyInt .i64) v7071 z9367] R) from ?_) ?_
 {
 clear hm; have hm := hq9370
 refine calls_start (args := [v7071, .func (.func 29) #[] #[Pt b5399 0]]) func28 z ntmps28 (Nat.le_of_ble_eq_true z) ?_
 refine wrl (wv (v7071) z z z (wv (v7071) z z z (wv (.int .i64 ((z7052.all).length : Int)) z z (x_len z underlying41 hst.sv6) (wv (.func (.func 29) #[] #[Pt b5399 0]) z z z ?_))))
 obtain ⟨y9364, hq9365, hm⟩ := bind_some hm
 refine wl_call z z (x_callv call37 (caps := []) z (vs := [v7071, I6 ((z7052.all).length : Int), .func (.func 29) #[] #[Pt b5399 0]]) z) ?_
 refine Calls.mono (show Calls prog 37 #[v7071, I6 ((z7052.all).length : Int), .func (.func 29) #[] #[Pt b5399 0]] _ (fun e w' => ∃ (z9362 : (List Int)), z9362 = y9364 ∧ e = .returned (.tuple #[]) ∧ St w0 w' I7053 [cells b5399 [Pt b7060 0], cells b7060 [v7061, v7063, v7065, v7067, v7069, v7071], ownS (tyInt .u64) v7061 z7052.up, ownS (tyInt .u64) v7063 z7052.down, ownS (tySl (tyInt .i64)) v7065 z7052.join, ownS (tySl (tyInt .i64)) v7067 z7052.meet, ownS (tyInt .i64) v7069 z7052.rank, ownS (tyInt .i64) v7071 z9362] R) from ?_) ?_
 {
 clear hm; have hm := hq9365
 refine calls_start (args := [v7071, I6 ((z7052.all).length : Int), .func (.func 29) #[] #[Pt b5399 0]]) func37 z ntmps37 (Nat.le_of_ble_eq_true z) ?_
 refine wp_seq (wrl (wv (.int .i64 (20:Int)) z z z (wl_nil (tn (wp_seq (wrl (wv (.int .i64 (20:Int)) z z z (wv (.int .i64 (0:Int)) z z z (wv (.int .i64 (20:Int)) z z z (wl_nil (tn ?_)))))))))))
 obtain ⟨y8747, hm, hx8748⟩ := bind_some hm
 refine wp_cut (fun a w => ∃ (z8743 : (List Int)) (z8744 : Int) (σ8745 : Nat → Value), (label_New_j9 z7052) (z8743, z8744) = some y9364 ∧ a = Fr 63 (upd (upd (upd (upd (upd σ8745 0 (v7071)) 1 (.int .i64 ((z7052.all).length : Int))) 2 (.func (.func 29) #[] #[Pt b5399 0])) 6 (.int .i64 (20:Int))) 7 (.int .i64 z8744)) ∧ St w0 w I7053 [ownS (tyInt .i64) v7071 z8743, cells b5399 [Pt b7060 0], cells b7060 [v7061, v7063, v7065, v7067, v7069, v7071], ownS (tyInt .u64) v7061 z7052.up, ownS (tyInt .u64) v7063 z7052.down, ownS (tySl (tyInt .i64)) v7065 z7052.join, ownS (tySl (tyInt .i64)) v7067 z7052.meet, ownS (tyInt .i64) v7069 z7052.rank] R) ?_ ?_
 {
 refine wp_block ?_
 obtain ⟨n8184, hm⟩ := loopO_some hm
 refine wp_loop_n (fun n a w => ∃ (z8180 : Int) (z8181 : Int) (z8182 : (List Int)) (σ8183 : Nat → Value), loopN (label_New_l10 z7052) n (z8180, z8181, z8182) = some y8747 ∧ a = Fr 63 (upd (upd (upd (upd (upd (upd σ8183 0 (v7071)) 1 (.int .i64 ((z7052.all).length : Int))) 2 (.func (.func 29) #[] #[Pt b5399 0])) 6 (.int .i64 (20:Int))) 7 (.int .i64 z8180)) 8 (.int .i64 z8181)) ∧ St w0 w I7053 [cells b7060 [v7061, v7063, v7065, v7067, v7069, v7071], ownS (tyInt .u64) v7061 z7052.up, ownS (tyInt .u64) v7063 z7052.down, ownS (tySl (tyInt .i64)) v7065 z7052.join, ownS (tySl (tyInt .i64)) v7067 z7052.meet, ownS (tyInt .i64) v7069 z7052.rank, ownS (tyInt .i64) v7071 z8182, cells b5399 [Pt b7060 0]] R) n8184 ⟨(0:Int), (20:Int), z7052.all, _, hm, (fu 0 v7071 z (fu 1 (.int .i64 ((z7052.all).length : Int)) z (fu 2 (.func (.func 29) #[] #[Pt b5399 0]) z (fu 6 (.int .i64 (20:Int)) z (fu 7 (.int .i64 (0:Int)) z (fu 8 (.int .i64 (20:Int)) z z)))))), hst⟩ ?_
 rintro n8190 _ w8185 ⟨z8180, z8181, z8182, σ8183, hm, rfl, hst⟩
 obtain ⟨n8187, y8188, rfl, hm, hx8189⟩ := loopN_some hm
 dsimp only [label_New_l10] at hm
 refine wp_seq (wp_seq (wrl (wv (.int .i64 z8181) z z z (wv (.int .i64 ((z7052.all).length : Int)) z z z (wv (.bool (decide (z8181 ≤ ((z7052.all).length : Int)))) z z z (wl_nil (tn ?_)))))))
 refine bsplit (decide (z8181 ≤ ((z7052.all).length : Int))) (fun hc8191 => ?_) (fun hc8191 => ?_)
 {
 replace hm := bif_t hc8191 hm
 refine wp_ift (cvb hc8191) ?_
 refine wp_skip (tn (wp_block (wp_seq (wrl ?_))))
 refine wv (v7071) z z z (wv (.int .i64 z8180) z z z (wv (.int .i64 z8181) z z z (wv (.func (.func 29) #[] #[Pt b5399 0]) z z z ?_)))
 obtain ⟨y8740, hq8741, hm⟩ := bind_some hm
 refine wl_call z z (x_callv call39 (caps := []) z (vs := [v7071, I6 z8180, I6 z8181, .func (.func 29) #[] #[Pt b5399 0]]) z) ?_
 refine Calls.mono (show Calls prog 39 #[v7071, I6 z8180, I6 z8181, .func (.func 29) #[] #[Pt b5399 0]] _ (fun e w' => ∃ (z8738 : (List Int)), z8738 = y8740 ∧ e = .returned (.tuple #[]) ∧ St w0 w' I7053 [cells b5399 [Pt b7060 0], cells b7060 [v7061, v7063, v7065, v7067, v7069, v7071], ownS (tyInt .u64) v7061 z7052.up, ownS (tyInt .u64) v7063 z7052.down, ownS (tySl (tyInt .i64)) v7065 z7052.join, ownS (tySl (tyInt .i64)) v7067 z7052.meet, ownS (tyInt .i64) v7069 z7052.rank, ownS (tyInt .i64) v7071 z8738] R) from ?_) ?_
 {
 clear hm; have hm := hq8741
 refine calls_start (args := [v7071, I6 z8180, I6 z8181, .func (.func 29) #[] #[Pt b5399 0]]) func39 z ntmps39 (Nat.le_of_ble_eq_true z) ?_
 refine wp_seq (wrl (wv (.int .i64 z8180) z z z (wv (.int .i64 (i64.wrap (z8180 + (1:Int)))) z z z (wv (.int .i64 (i64.wrap (z8180 + (1:Int)))) z z z (wl_nil (tn (wp_block ?_)))))))
 obtain ⟨n8553, hm⟩ := loopO_some hm
 refine wp_loop_n (fun n a w => ∃ (z8550 : Int) (z8551 : (List Int)) (σ8552 : Nat → Value), loopN (label_New_l11 z8181 z8180 z7052) n (z8550, z8551) = some y8740 ∧ a = Fr 53 (upd (upd (upd (upd (upd σ8552 0 (v7071)) 1 (.int .i64 z8180)) 2 (.int .i64 z8181)) 3 (.func (.func 29) #[] #[Pt b5399 0])) 8 (.int .i64 z8550)) ∧ St w0 w I7053 [cells b7060 [v7061, v7063, v7065, v7067, v7069, v7071], ownS (tyInt .u64) v7061 z7052.up, ownS (tyInt .u64) v7063 z7052.down, ownS (tySl (tyInt .i64)) v7065 z7052.join, ownS (tySl (tyInt .i64)) v7067 z7052.meet, ownS (tyInt .i64) v7069 z7052.rank, ownS (tyInt .i64) v7071 z8551, cells b5399 [Pt b7060 0]] R) n8553 ⟨(i64.wrap (z8180 + (1:Int))), z8182, _, hm, (fu 0 v7071 z (fu 1 (.int .i64 z8180) z (fu 2 (.int .i64 z8181) z (fu 3 (.func (.func 29) #[] #[Pt b5399 0]) z (fu 8 (.int .i64 (i64.wrap (z8180 + (1:Int)))) z z))))), hst⟩ ?_
 rintro n8559 _ w8554 ⟨z8550, z8551, σ8552, hm, rfl, hst⟩
 obtain ⟨n8556, y8557, rfl, hm, hx8558⟩ := loopN_some hm
 dsimp only [label_New_l11] at hm
 refine wp_seq (wp_seq (wrl (wv (.int .i64 z8550) z z z (wv (.int .i64 z8181) z z z (wv (.bool (decide (z8550 < z8181))) z z z (wl_nil (tn ?_)))))))
 refine bsplit (decide (z8550 < z8181)) (fun hc8560 => ?_) (fun hc8560 => ?_)
 {
 replace hm := bif_t hc8560 hm
 refine wp_ift (cvb hc8560) ?_
 refine wp_skip (tn (wp_seq (wp_block (wp_seq (wrl ?_)))))
 refine wv (.int .i64 z8550) z z z (wv (.int .i64 z8550) z z z (wl_nil (tn (wp_block ?_))))
 obtain ⟨n8676, hm⟩ := loopO_some hm
 refine wp_loop_n (fun n a w => ∃ (z8673 : Int) (z8674 : (List Int)) (σ8675 : Nat → Value), loopN (label_New_l12 z8180 z7052 z8550) n (z8673, z8674) = some y8557 ∧ a = Fr 53 (upd (upd (upd (upd (upd (upd σ8675 0 (v7071)) 1 (.int .i64 z8180)) 2 (.int .i64 z8181)) 3 (.func (.func 29) #[] #[Pt b5399 0])) 8 (.int .i64 z8550)) 9 (.int .i64 z8673)) ∧ St w0 w I7053 [cells b7060 [v7061, v7063, v7065, v7067, v7069, v7071], ownS (tyInt .u64) v7061 z7052.up, ownS (tyInt .u64) v7063 z7052.down, ownS (tySl (tyInt .i64)) v7065 z7052.join, ownS (tySl (tyInt .i64)) v7067 z7052.meet, ownS (tyInt .i64) v7069 z7052.rank, ownS (tyInt .i64) v7071 z8674, cells b5399 [Pt b7060 0]] R) n8676 ⟨z8550, z8551, _, hm, (fu 0 v7071 z (fu 1 (.int .i64 z8180) z (fu 2 (.int .i64 z8181) z (fu 3 (.func (.func 29) #[] #[Pt b5399 0]) z (fu 8 (.int .i64 z8550) z (fu 9 (.int .i64 z8550) z z)))))), hst⟩ ?_
 rintro n8682 _ w8677 ⟨z8673, z8674, σ8675, hm, rfl, hst⟩
 obtain ⟨n8679, y8680, rfl, hm, hx8681⟩ := loopN_some hm
 dsimp only [label_New_l12] at hm
 refine wp_seq (wp_seq ?_)
 refine wp_region_St hst 17 [0, 1, 2, 3, 4, 5, 6, 7, 8, 9, 10, 11, 12, 13, 14, 15, 16] [0, 0, 3, 7, 15, 15, 15, 111, 239, 15, 15, 1039, 3599, 7695, 16383, 32767, 65535] [] z (by kernel_rfl) (by kernel_rfl) Try.mixed (by kernel_rfl) ?_
 refine wsr (.int .i64 z8673) 0 z z z (by kernel_rfl) (fun w hst => z) (wsr (.int .i64 z8180) 1 z z z (by kernel_rfl) (fun w hst => z) (wsr (.bool (decide (z8673 > z8180))) 2 z z z (by kernel_rfl) (fun w hst => z) (wsr (.bool (decide (z8673 > z8180))) 3 z z z (by kernel_rfl) (fun w hst => z) ?_)))
 refine bsplit (decide (z8673 > z8180)) (fun hc8683 => ?_) (fun hc8683 => ?_)
 {
 replace hm := bif_t hc8683 hm
 refine ws_q (v := .func (.func 29) #[] #[Pt b5399 0]) 4 [5, 6, 7, 8, 9, 10, 11, 12, 13, 14, 15, 16] (by kernel_rfl) z z (yi_run ((wanted_eq z z z (cvb hc8683)).trans z) (fun w hst => z)) (ws_q (v := v7071) 5 [6, 7, 8, 9, 10, 11, 12, 13, 14, 15, 16] (by kernel_rfl) z z (yi_run ((wanted_eq z z z (cvb hc8683)).trans z) (fun w hst => z)) (ws_q (v := .int .i64 z8673) 6 [7, 8, 9, 10, 11, 12, 13, 14, 15, 16] (by kernel_rfl) z z (yi_run ((wanted_eq z z z (cvb hc8683)).trans z) (fun w hst => z)) ?_))
 obtain ⟨x8684, hx8685, hm⟩ := bind_some hm
 obtain ⟨h8686, h8687, hi8688⟩ := geto_some hx8685
 refine ws_q (v := .pointer (some (eAddr v7071 (z8673.toNat * 1 + 0)))) 7 [8, 9, 10, 11, 12, 13, 14, 15, 16] (by kernel_rfl) z z (yi_run ((wanted_eq z z z (cvb hc8683)).trans z) (fun w hst => x_index z z underlying41 sizeOf3 hst.sv6 h8686 h8687)) (ws_q (v := .int .i64 x8684) 8 [9, 10, 11, 12, 13, 14, 15, 16] (by kernel_rfl) z z (yi_run ((wanted_eq z z z (cvb hc8683)).trans z) (fun w hst => x_load z isAgg3 (hst.ol6 hi8688 (by rintro _ rfl; rfl)))) (ws_q (v := v7071) 9 [10, 11, 12, 13, 14, 15, 16] (by kernel_rfl) z z (yi_run ((wanted_eq z z z (cvb hc8683)).trans z) (fun w hst => z)) (ws_q (v := .int .i64 z8673) 10 [11, 12, 13, 14, 15, 16] (by kernel_rfl) z z (yi_run ((wanted_eq z z z (cvb hc8683)).trans z) (fun w hst => z)) (ws_q (v := .int .i64 (i64.wrap (z8673 - (1:Int)))) 11 [12, 13, 14, 15, 16] (by kernel_rfl) z z (yi_run ((wanted_eq z z z (cvb hc8683)).trans z) (fun w hst => z)) ?_))))
 obtain ⟨x8689, hx8690, hm⟩ := bind_some hm
 obtain ⟨h8691, h8692, hi8693⟩ := geto_some hx8690
 refine ws_q (v := .pointer (some (eAddr v7071 ((i64.wrap (z8673 - (1:Int))).toNat * 1 + 0)))) 12 [13, 14, 15, 16] (by kernel_rfl) z z (yi_run ((wanted_eq z z z (cvb hc8683)).trans z) (fun w hst => x_index z z underlying41 sizeOf3 hst.sv6 h8691 h8692)) (ws_q (v := .int .i64 x8689) 13 [14, 15, 16] (by kernel_rfl) z z (yi_run ((wanted_eq z z z (cvb hc8683)).trans z) (fun w hst => x_load z isAgg3 (hst.ol6 hi8693 (by rintro _ rfl; rfl)))) ?_)
 refine ws_e1 14 (by kernel_rfl) ?_
 refine nxe [15, 16] (by kernel_rfl) z ((wanted_eq z z z (cvb hc8683)).trans z) ?_
 clear hst
 intro w hst
 obtain ⟨y8721, hq8722, hm⟩ := bind_some hm
 refine we_call z (x_callv call29 (caps := [Pt b5399 0]) z (vs := [I6 x8684, I6 x8689]) z) ?_
 refine Calls.mono (show Calls prog 29 #[I6 x8684, I6 x8689, Pt b5399 0] _ (fun e w' => ∃ (z8719 : Int), z8719 = y8721 ∧ e = .returned (.int .i64 z8719) ∧ St w0 w' I7053 [cells b5399 [Pt b7060 0], cells b7060 [v7061, v7063, v7065, v7067, v7069, v7071], ownS (tyInt .u64) v7061 z7052.up, ownS (tyInt .u64) v7063 z7052.down, ownS (tySl (tyInt .i64)) v7065 z7052.join, ownS (tySl (tyInt .i64)) v7067 z7052.meet, ownS (tyInt .i64) v7069 z7052.rank, ownS (tyInt .i64) v7071 z8674] R) from ?_) ?_
 {
 clear hm; have hm := hq8722
 refine calls_start (args := [I6 x8684, I6 x8689, Pt b5399 0]) func29 z ntmps29 (Nat.le_of_ble_eq_true z) ?_
 refine wp_seq (wrl (wv (.int .i64 (0:Int)) z z z (wl_nil (tn (wp_seq ?_)))))
 refine wp_region_St hst 18 [0, 1, 2, 3, 4, 5, 6, 7, 8, 9, 10, 11, 12, 13, 14, 15, 16, 17] [0, 1, 3, 7, 0, 31, 63, 127, 0, 256, 768, 1792, 0, 7936, 16128, 32767, 65535, 131071] [] z (by kernel_rfl) (by kernel_rfl) Try.mixed (by kernel_rfl) ?_
 refine wsr (Pt b7060 0) 0 z z z (by kernel_rfl) (fun w hst => x_load z isAgg24 (hst.bc7 z)) (wsr (Pt b7060 0) 1 z z z (by kernel_rfl) (fun w hst => z) (wsr (Pt b7060 1) 2 z z z (by kernel_rfl) (fun w hst => x_field z underlying49 z sizeOf28 z) (wsr (v7063) 3 z z z (by kernel_rfl) (fun w hst => x_load z isAgg28 (hst.bc0 z)) (wsr (.int .i64 x8684) 4 z z z (by kernel_rfl) (fun w hst => z) ?_))))
 obtain ⟨x8694, hx8695, hm⟩ := bind_some hm
 obtain ⟨h8696, h8697, hi8698⟩ := geto_some hx8695
 refine wsr (.pointer (some (eAddr v7063 (x8684.toNat * 1 + 0)))) 5 z z z (by kernel_rfl) (fun w hst => x_index z z underlying28 sizeOf43 hst.sv2 h8696 h8697) (wsr (.int .u64 x8694) 6 z z z (by kernel_rfl) (fun w hst => x_load z isAgg43 (hst.ol2 hi8698 (by rintro _ rfl; rfl))) (wsr (Pt b7060 0) 8 z z z (by kernel_rfl) (fun w hst => x_load z isAgg24 (hst.bc7 z)) (wsr (Pt b7060 0) 9 z z z (by kernel_rfl) (fun w hst => z) (wsr (Pt b7060 1) 10 z z z (by kernel_rfl) (fun w hst => x_field z underlying49 z sizeOf28 z) (wsr (v7063) 11 z z z (by kernel_rfl) (fun w hst => x_load z isAgg28 (hst.bc0 z)) (wsr (.int .i64 x8689) 12 z z z (by kernel_rfl) (fun w hst => z) ?_))))))
 obtain ⟨x8699, hx8700, hm⟩ := bind_some hm
 obtain ⟨h8701, h8702, hi8703⟩ := geto_some hx8700
 refine wsr (.pointer (some (eAddr v7063 (x8689.toNat * 1 + 0)))) 13 z z z (by kernel_rfl) (fun w hst => x_index z z underlying28 sizeOf43 hst.sv2 h8701 h8702) (wsr (.int .u64 x8699) 14 z z z (by kernel_rfl) (fun w hst => x_load z isAgg43 (hst.ol2 hi8703 (by rintro _ rfl; rfl))) ?_)
 refine ws_e1 7 (by kernel_rfl) ?_
 refine nxe [15, 16, 17] (by kernel_rfl) z z ?_
 clear hst
 intro w hst
 obtain ⟨t8704, ht8705, hm⟩ := bind_some hm
 refine wec call31 [U6 x8694] z z ?_
 refine (math_bits_OnesCount64_ref hst.to0 ht8705).mono ?_
 rintro _ w8706 ⟨rfl, hst⟩
 refine ⟨_, z, ?_⟩
 replace hst := hst.of0
 refine ws_next (pend' := [(14, U6 x8699), (13, .pointer (some (eAddr v7063 (x8689.toNat * 1 + 0)))), (12, I6 x8689), (11, v7063), (10, Pt b7060 1), (9, Pt b7060 0), (8, Pt b7060 0)]) hst (by kernel_rfl) (pkr z z (fun w hst => x_load z isAgg43 (hst.ol2 hi8703 (by rintro _ rfl; rfl))) (pkr z z (fun w hst => x_index z z underlying28 sizeOf43 hst.sv2 h8701 h8702) (pkr z z (fun w hst => z) (pkr z z (fun w hst => x_load z isAgg28 (hst.bc0 z)) (pkr z z (fun w hst => x_field z underlying49 z sizeOf28 z) (pkr z z (fun w hst => z) (pkr z z (fun w hst => x_load z isAgg24 (hst.bc7 z)) pk_nil))))))) ?_
 refine ws_e1 15 (by kernel_rfl) ?_
 refine nxe [16, 17] (by kernel_rfl) z z ?_
 clear hst
 intro w hst
 obtain ⟨t8709, ht8710, hm⟩ := bind_some hm
 refine wec call31 [U6 x8699] z z ?_
 refine (math_bits_OnesCount64_ref hst.to0 ht8710).mono ?_
 rintro _ w8711 ⟨rfl, hst⟩
 refine ⟨_, z, ?_⟩
 replace hst := hst.of0
 refine ws_next (pend' := []) hst (by kernel_rfl) pk_nil ?_
 refine ws_e1 16 (by kernel_rfl) ?_
 refine nxe [17] (by kernel_rfl) z z ?_
 clear hst
 intro w hst
 obtain ⟨t8714, ht8715, hm⟩ := bind_some hm
 refine wec call30 [I6 t8704, I6 t8709] z z ?_
 refine (cmp_Compare_int_ref hst.to0 ht8715).mono ?_
 rintro _ w8716 ⟨rfl, hst⟩
 refine ⟨_, z, ?_⟩
 replace hst := hst.of0
 refine ws_next (pend' := []) hst (by kernel_rfl) pk_nil ?_
 refine wsr (.int .i64 t8714) 17 z z z (by kernel_rfl) (fun w hst => z) ?_
 refine ws_nil ?_
 intro w hst
 refine tn (wp_ret ?_)
 refine post_ret (vs := [I6 t8714]) results29 (rvs_cons (rv_tmp z) rvs_nil) ?_
 replace hst := hst.pull6.pull6.pull6.pull6.pull6.pull6.pull6.pull7.keep8
 obtain rfl := some_inj hm
 exact ⟨t8714, z, z, hst⟩
}
 clear hst
 rintro _ w8723 ⟨z8719, rfl, rfl, hst⟩
 refine ⟨_, z, ?_⟩
 try dsimp only at hm
 refine ws_next (pend' := []) hst (by kernel_rfl) pk_nil ?_
 refine ws_q (v := .bool (decide (z8719 < (0:Int)))) 15 [16] (by kernel_rfl) z z (yi_run ((wanted_eq z z z (cvb hc8683)).trans z) (fun w hst => z)) (wsr (.bool (decide (z8719 < (0:Int)))) 16 z z z (by kernel_rfl) (fun w hst => x_pick_t hc8683 z z) ?_)
 refine ws_nil ?_
 intro w hst
 refine tn ?_
 refine bsplit (decide (z8719 < (0:Int))) (fun hc8724 => ?_) (fun hc8724 => ?_)
 {
 replace hm := bif_t hc8724 hm
 refine wp_ift (cvb hc8724) ?_
 refine wp_skip (tn (wp_seq (wp_block ?_)))
 refine wp_region_St hst 18 [0, 1, 2, 3, 4, 5, 6, 7, 8, 9, 10, 11, 12, 13, 14, 15, 16, 17] [0, 0, 0, 0, 8, 0, 0, 64, 224, 480, 0, 0, 3072, 7168, 16355, 32739, 65535, 131071] [] z (by kernel_rfl) (by kernel_rfl) Try.mixed (by kernel_rfl) ?_
 refine wsr (v7071) 0 z z z (by kernel_rfl) (fun w hst => z) (wsr (.int .i64 z8673) 1 z z z (by kernel_rfl) (fun w hst => z) (wsr (v7071) 2 z z z (by kernel_rfl) (fun w hst => z) (wsr (.int .i64 z8673) 3 z z z (by kernel_rfl) (fun w hst => z) (wsr (.int .i64 (i64.wrap (z8673 - (1:Int)))) 4 z z z (by kernel_rfl) (fun w hst => z) (wsr (v7071) 5 z z z (by kernel_rfl) (fun w hst => z) (wsr (.int .i64 z8673) 6 z z z (by kernel_rfl) (fun w hst => z) (wsr (.int .i64 (i64.wrap (z8673 - (1:Int)))) 7 z z z (by kernel_rfl) (fun w hst => z) (wsr (.pointer (some (eAddr v7071 ((i64.wrap (z8673 - (1:Int))).toNat * 1 + 0)))) 8 z z z (by kernel_rfl) (fun w hst => x_index z z underlying41 sizeOf3 hst.sv7 h8691 h8692) (wsr (.int .i64 x8689) 9 z z z (by kernel_rfl) (fun w hst => x_load z isAgg3 (hst.ol7 hi8693 (by rintro _ rfl; rfl))) (wsr (v7071) 10 z z z (by kernel_rfl) (fun w hst => z) (wsr (.int .i64 z8673) 11 z z z (by kernel_rfl) (fun w hst => z) (wsr (.pointer (some (eAddr v7071 (z8673.toNat * 1 + 0)))) 12 z z z (by kernel_rfl) (fun w hst => x_index z z underlying41 sizeOf3 hst.sv7 h8686 h8687) ?_))))))))))))
 refine wsr (.int .i64 x8684) 13 z z z (by kernel_rfl) (fun w hst => x_load z isAgg3 (hst.ol7 hi8688 (by rintro _ rfl; rfl))) (wsr (.pointer (some (eAddr v7071 (z8673.toNat * 1 + 0)))) 14 z z z (by kernel_rfl) (fun w hst => x_index z z underlying41 sizeOf3 hst.sv7 h8686 h8687) ?_)
 refine ws_e1 15 (by kernel_rfl) ?_
 refine nxe [16, 17] (by kernel_rfl) z z ?_
 clear hst
 intro w hst
 replace hst := hst.pull7
 obtain ⟨w8725, hr8726, hst⟩ := hst.own_store (P := prog) (t := 3) (y := x8689) hi8688 0 (.int .i64 x8689) sizeOf3 (Nat.le_of_ble_eq_true z) (oC z oN) (by rintro _ rfl; rfl)
 have hi8727 := set_get hi8688 x8689
 have h8728 := set_lt h8687 z8673.toNat x8689
 refine we_unit z (x_unit hr8726) ?_
 refine ws_next (pend' := [(4, I6 (i64.wrap (z8673 - (1:Int)))), (3, I6 z8673), (2, v7071)]) hst (by kernel_rfl) (pkr z z (fun w hst => z) (pkr z z (fun w hst => z) (pkr z z (fun w hst => z) pk_nil))) ?_
 obtain ⟨x8729, hx8730, hm⟩ := bind_some hm
 obtain ⟨h8731, h8732, hi8733⟩ := geto_some hx8730
 refine wsr (.pointer (some (eAddr v7071 ((i64.wrap (z8673 - (1:Int))).toNat * 1 + 0)))) 16 z z z (by kernel_rfl) (fun w hst => x_index z z underlying41 sizeOf3 hst.sv0 h8731 h8732) ?_
 refine ws_e1 17 (by kernel_rfl) ?_
 refine nxe [] (by kernel_rfl) z z ?_
 clear hst
 intro w hst
 obtain ⟨w8734, hr8735, hst⟩ := hst.own_store (P := prog) (t := 3) (y := x8684) hi8733 0 (.int .i64 x8684) sizeOf3 (Nat.le_of_ble_eq_true z) (oC z oN) (by rintro _ rfl; rfl)
 have hi8736 := set_get hi8733 x8684
 have h8737 := set_lt h8732 (i64.wrap (z8673 - (1:Int))).toNat x8684
 refine we_unit z (x_unit hr8735) ?_
 refine ws_next (pend' := []) hst (by kernel_rfl) pk_nil ?_
 refine ws_nil ?_
 intro w hst
 refine blk_n (tn (wrl ?_))
 refine wv (.int .i64 z8673) z z z (wv (.int .i64 (i64.wrap (z8673 - (1:Int)))) z z z (wv (.int .i64 (i64.wrap (z8673 - (1:Int)))) z z z (wl_nil (tn ?_))))
 replace hst := hst.pull1.pull1.pull7.pull7.pull7.pull7.pull7.pull7.keep8
 obtain rfl := some_inj hm
 exact ⟨_, Nat.lt_succ_self _, (i64.wrap (z8673 - (1:Int))), ((z8674.set z8673.toNat x8689).set (i64.wrap (z8673 - (1:Int))).toNat x8684), _, hx8681, (fu 0 v7071 z (fu 1 (.int .i64 z8180) z (fu 2 (.int .i64 z8181) z (fu 3 (.func (.func 29) #[] #[Pt b5399 0]) z (fu 8 (.int .i64 z8550) z (fu 9 (.int .i64 (i64.wrap (z8673 - (1:Int)))) z z)))))), hst⟩
}
 {
 replace hm := bif_f hc8724 hm
 refine wp_iff (cvb hc8724) ?_
 refine wp_exit (then_x (then_x ?_))
 replace hm := inr_up hm hx8681
 refine blk_x (blk_n (tn (wrl ?_)))
 refine wv (.int .i64 z8550) z z z (wv (.int .i64 (i64.wrap (z8550 + (1:Int)))) z z z (wv (.int .i64 (i64.wrap (z8550 + (1:Int)))) z z z (wl_nil (tn ?_))))
 replace hst := hst.pull7.pull7.pull7.pull7.pull7.pull7.pull7.keep8
 obtain rfl := some_inj hm
 exact ⟨_, Nat.lt_succ_self _, (i64.wrap (z8550 + (1:Int))), z8674, _, hx8558, (fu 0 v7071 z (fu 1 (.int .i64 z8180) z (fu 2 (.int .i64 z8181) z (fu 3 (.func (.func 29) #[] #[Pt b5399 0]) z (fu 8 (.int .i64 (i64.wrap (z8550 + (1:Int)))) z z))))), hst⟩
}
}
 {
 replace hm := bif_f hc8683 hm
 refine ws_q (v := undef) 4 [5, 6, 7, 8, 9, 10, 11, 12, 13, 14, 15, 16] (by kernel_rfl) z z (yi_off ((wanted_eq z z z (cvb hc8683)).trans z)) (ws_q (v := undef) 5 [6, 7, 8, 9, 10, 11, 12, 13, 14, 15, 16] (by kernel_rfl) z z (yi_off ((wanted_eq z z z (cvb hc8683)).trans z)) (ws_q (v := undef) 6 [7, 8, 9, 10, 11, 12, 13, 14, 15, 16] (by kernel_rfl) z z (yi_off ((wanted_eq z z z (cvb hc8683)).trans z)) (ws_q (v := undef) 7 [8, 9, 10, 11, 12, 13, 14, 15, 16] (by kernel_rfl) z z (yi_off ((wanted_eq z z z (cvb hc8683)).trans z)) (ws_q (v := undef) 8 [9, 10, 11, 12, 13, 14, 15, 16] (by kernel_rfl) z z (yi_off ((wanted_eq z z z (cvb hc8683)).trans z)) (ws_q (v := undef) 9 [10, 11, 12, 13, 14, 15, 16] (by kernel_rfl) z z (yi_off ((wanted_eq z z z (cvb hc8683)).trans z)) (ws_q (v := undef) 10 [11, 12, 13, 14, 15, 16] (by kernel_rfl) z z (yi_off ((wanted_eq z z z (cvb hc8683)).trans z)) (ws_q (v := undef) 11 [12, 13, 14, 15, 16] (by kernel_rfl) z z (yi_off ((wanted_eq z z z (cvb hc8683)).trans z)) (ws_q (v := undef) 12 [13, 14, 15, 16] (by kernel_rfl) z z (yi_off ((wanted_eq z z z (cvb hc8683)).trans z)) (ws_q (v := undef) 13 [14, 15, 16] (by kernel_rfl) z z (yi_off ((wanted_eq z z z (cvb hc8683)).trans z)) (ws_q (v := undef) 14 [15, 16] (by kernel_rfl) z z (yi_off ((wanted_eq z z z (cvb hc8683)).trans z)) (ws_q (v := undef) 15 [16] (by kernel_rfl) z z (yi_off ((wanted_eq z z z (cvb hc8683)).trans z)) (wsr (.bool false) 16 z z z (by kernel_rfl) (fun w hst => x_pick_f hc8683 z z) ?_))))))))))))
 refine ws_nil ?_
 intro w hst
 refine tn ?_
 refine wp_iff z ?_
 refine wp_exit (then_x (then_x ?_))
 replace hm := inr_up hm hx8681
 refine blk_x (blk_n (tn (wrl ?_)))
 refine wv (.int .i64 z8550) z z z (wv (.int .i64 (i64.wrap (z8550 + (1:Int)))) z z z (wv (.int .i64 (i64.wrap (z8550 + (1:Int)))) z z z (wl_nil (tn ?_))))
 replace hst := hst.pull7.pull7.pull7.pull7.pull7.pull7.pull7.pull7.keep8
 obtain rfl := some_inj hm
 exact ⟨_, Nat.lt_succ_self _, (i64.wrap (z8550 + (1:Int))), z8674, _, hx8558, (fu 0 v7071 z (fu 1 (.int .i64 z8180) z (fu 2 (.int .i64 z8181) z (fu 3 (.func (.func 29) #[] #[Pt b5399 0]) z (fu 8 (.int .i64 (i64.wrap (z8550 + (1:Int)))) z z))))), hst⟩
}
}
 {
 replace hm := bif_f hc8560 hm
 refine wp_iff (cvb hc8560) ?_
 refine wp_exit (then_x (then_x ?_))
 replace hm := inr_up hm hx8558
 refine blk_x ?_
 refine post_end (vs := []) results39 rvs_nil ?_
 replace hst := hst.pull6.pull6.pull6.pull6.pull6.pull6.pull6.pull7.keep8
 obtain rfl := some_inj hm
 exact ⟨z8551, z, z, hst⟩
}
}
 clear hst
 rintro _ w8742 ⟨z8738, rfl, rfl, hst⟩
 refine ⟨_, z, ?_⟩
 try dsimp only at hm
 refine wl_nil (tn (wp_seq (wrl (wv (.int .i64 z8181) z z z (wv (.int .i64 z8181) z z z (wl_nil (tn (wrl (wv (.int .i64 z8181) z z z (wv (.int .i64 (20:Int)) z z z (wv (.int .i64 (i64.wrap (z8181 + (20:Int)))) z z z (wv (.int .i64 (i64.wrap (z8181 + (20:Int)))) z z z (wl_nil (blk_n (tn ?_)))))))))))))))
 replace hst := hst.pull7.pull7.pull7.pull7.pull7.pull7.pull7.keep8
 obtain rfl := some_inj hm
 exact ⟨_, Nat.lt_succ_self _, z8181, (i64.wrap (z8181 + (20:Int))), z8738, _, hx8189, (fu 0 v7071 z (fu 1 (.int .i64 ((z7052.all).length : Int)) z (fu 2 (.func (.func 29) #[] #[Pt b5399 0]) z (fu 6 (.int .i64 (20:Int)) z (fu 7 (.int .i64 z8181) z (fu 8 (.int .i64 (i64.wrap (z8181 + (20:Int)))) z z)))))), hst⟩
}
 {
 replace hm := bif_f hc8191 hm
 refine wp_iff (cvb hc8191) ?_
 refine wp_exit (then_x (then_x ?_))
 replace hm := inr_up hm hx8189
 refine blk_x (tn ?_)
 replace hst := hst.pull5.pull5.pull5.pull5.pull5.pull5.pull7.pull7.keep8
 obtain rfl := some_inj hm
 exact ⟨z8182, z8180, _, hx8748, (fu 0 v7071 z (fu 1 (.int .i64 ((z7052.all).length : Int)) z (fu 2 (.func (.func 29) #[] #[Pt b5399 0]) z (fu 6 (.int .i64 (20:Int)) z (fu 7 (.int .i64 z8180) z z))))), hst⟩
}
}
 {
 clear hst
 rintro _ w8749 ⟨z8743, z8744, σ8745, hm, rfl, hst⟩
 dsimp only [label_New_j9] at hm
 refine wp_seq (wrl (wv (v7071) z z z (wv (.int .i64 z8744) z z z (wv (.int .i64 ((z7052.all).length : Int)) z z z (wv (.func (.func 29) #[] #[Pt b5399 0]) z z z ?_)))))
 obtain ⟨y9298, hq9299, hm⟩ := bind_some hm
 refine wl_call z z (x_callv call39 (caps := []) z (vs := [v7071, I6 z8744, I6 ((z7052.all).length : Int), .func (.func 29) #[] #[Pt b5399 0]]) z) ?_
 refine Calls.mono (show Calls prog 39 #[v7071, I6 z8744, I6 ((z7052.all).length : Int), .func (.func 29) #[] #[Pt b5399 0]] _ (fun e w' => ∃ (z9296 : (List Int)), z9296 = y9298 ∧ e = .returned (.tuple #[]) ∧ St w0 w' I7053 [cells b5399 [Pt b7060 0], cells b7060 [v7061, v7063, v7065, v7067, v7069, v7071], ownS (tyInt .u64) v7061 z7052.up, ownS (tyInt .u64) v7063 z7052.down, ownS (tySl (tyInt .i64)) v7065 z7052.join, ownS (tySl (tyInt .i64)) v7067 z7052.meet, ownS (tyInt .i64) v7069 z7052.rank, ownS (tyInt .i64) v7071 z9296] R) from ?_) ?_
 {
 clear hm; have hm := hq9299
 refine calls_start (args := [v7071, I6 z8744, I6 ((z7052.all).length : Int), .func (.func 29) #[] #[Pt b5399 0]]) func39 z ntmps39 (Nat.le_of_ble_eq_true z) ?_
 refine wp_seq (wrl (wv (.int .i64 z8744) z z z (wv (.int .i64 (i64.wrap (z8744 + (1:Int)))) z z z (wv (.int .i64 (i64.wrap (z8744 + (1:Int)))) z z z (wl_nil (tn (wp_block ?_)))))))
 obtain ⟨n9111, hm⟩ := loopO_some hm
 refine wp_loop_n (fun n a w => ∃ (z9108 : Int) (z9109 : (List Int)) (σ9110 : Nat → Value), loopN (label_New_l13 z7052 z8744) n (z9108, z9109) = some y9298 ∧ a = Fr 53 (upd (upd (upd (upd (upd σ9110 0 (v7071)) 1 (.int .i64 z8744)) 2 (.int .i64 ((z7052.all).length : Int))) 3 (.func (.func 29) #[] #[Pt b5399 0])) 8 (.int .i64 z9108)) ∧ St w0 w I7053 [ownS (tyInt .i64) v7071 z9109, cells b5399 [Pt b7060 0], cells b7060 [v7061, v7063, v7065, v7067, v7069, v7071], ownS (tyInt .u64) v7061 z7052.up, ownS (tyInt .u64) v7063 z7052.down, ownS (tySl (tyInt .i64)) v7065 z7052.join, ownS (tySl (tyInt .i64)) v7067 z7052.meet, ownS (tyInt .i64) v7069 z7052.rank] R) n9111 ⟨(i64.wrap (z8744 + (1:Int))), z8743, _, hm, (fu 0 v7071 z (fu 1 (.int .i64 z8744) z (fu 2 (.int .i64 ((z7052.all).length : Int)) z (fu 3 (.func (.func 29) #[] #[Pt b5399 0]) z (fu 8 (.int .i64 (i64.wrap (z8744 + (1:Int)))) z z))))), hst⟩ ?_
 rintro n9117 _ w9112 ⟨z9108, z9109, σ9110, hm, rfl, hst⟩
 obtain ⟨n9114, y9115, rfl, hm, hx9116⟩ := loopN_some hm
 dsimp only [label_New_l13] at hm
 refine wp_seq (wp_seq (wrl (wv (.int .i64 z9108) z z z (wv (.int .i64 ((z7052.all).length : Int)) z z z (wv (.bool (decide (z9108 < ((z7052.all).length : Int)))) z z z (wl_nil (tn ?_)))))))
 refine bsplit (decide (z9108 < ((z7052.all).length : Int))) (fun hc9118 => ?_) (fun hc9118 => ?_)
 {
 replace hm := bif_t hc9118 hm
 refine wp_ift (cvb hc9118) ?_
 refine wp_skip (tn (wp_seq (wp_block (wp_seq (wrl ?_)))))
 refine wv (.int .i64 z9108) z z z (wv (.int .i64 z9108) z z z (wl_nil (tn (wp_block ?_))))
 obtain ⟨n9234, hm⟩ := loopO_some hm
 refine wp_loop_n (fun n a w => ∃ (z9231 : Int) (z9232 : (List Int)) (σ9233 : Nat → Value), loopN (label_New_l14 z8744 z7052 z9108) n (z9231, z9232) = some y9115 ∧ a = Fr 53 (upd (upd (upd (upd (upd (upd σ9233 0 (v7071)) 1 (.int .i64 z8744)) 2 (.int .i64 ((z7052.all).length : Int))) 3 (.func (.func 29) #[] #[Pt b5399 0])) 8 (.int .i64 z9108)) 9 (.int .i64 z9231)) ∧ St w0 w I7053 [ownS (tyInt .i64) v7071 z9232, cells b5399 [Pt b7060 0], cells b7060 [v7061, v7063, v7065, v7067, v7069, v7071], ownS (tyInt .u64) v7061 z7052.up, ownS (tyInt .u64) v7063 z7052.down, ownS (tySl (tyInt .i64)) v7065 z7052.join, ownS (tySl (tyInt .i64)) v7067 z7052.meet, ownS (tyInt .i64) v7069 z7052.rank] R) n9234 ⟨z9108, z9109, _, hm, (fu 0 v7071 z (fu 1 (.int .i64 z8744) z (fu 2 (.int .i64 ((z7052.all).length : Int)) z (fu 3 (.func (.func 29) #[] #[Pt b5399 0]) z (fu 8 (.int .i64 z9108) z (fu 9 (.int .i64 z9108) z z)))))), hst⟩ ?_
 rintro n9240 _ w9235 ⟨z9231, z9232, σ9233, hm, rfl, hst⟩
 obtain ⟨n9237, y9238, rfl, hm, hx9239⟩ := loopN_some hm
 dsimp only [label_New_l14] at hm
 refine wp_seq (wp_seq ?_)
 refine wp_region_St hst 17 [0, 1, 2, 3, 4, 5, 6, 7, 8, 9, 10, 11, 12, 13, 14, 15, 16] [0, 0, 3, 7, 15, 15, 15, 111, 239, 15, 15, 1039, 3599, 7695, 16383, 32767, 65535] [] z (by kernel_rfl) (by kernel_rfl) Try.mixed (by kernel_rfl) ?_
 refine wsr (.int .i64 z9231) 0 z z z (by kernel_rfl) (fun w hst => z) (wsr (.int .i64 z8744) 1 z z z (by kernel_rfl) (fun w hst => z) (wsr (.bool (decide (z9231 > z8744))) 2 z z z (by kernel_rfl) (fun w hst => z) (wsr (.bool (decide (z9231 > z8744))) 3 z z z (by kernel_rfl) (fun w hst => z) ?_)))
 refine bsplit (decide (z9231 > z8744)) (fun hc9241 => ?_) (fun hc9241 => ?_)
 {
 replace hm := bif_t hc9241 hm
 refine ws_q (v := .func (.func 29) #[] #[Pt b5399 0]) 4 [5, 6, 7, 8, 9, 10, 11, 12, 13, 14, 15, 16] (by kernel_rfl) z z (yi_run ((wanted_eq z z z (cvb hc9241)).trans z) (fun w hst => z)) (ws_q (v := v7071) 5 [6, 7, 8, 9, 10, 11, 12, 13, 14, 15, 16] (by kernel_rfl) z z (yi_run ((wanted_eq z z z (cvb hc9241)).trans z) (fun w hst => z)) (ws_q (v := .int .i64 z9231) 6 [7, 8, 9, 10, 11, 12, 13, 14, 15, 16] (by kernel_rfl) z z (yi_run ((wanted_eq z z z (cvb hc9241)).trans z) (fun w hst => z)) ?_))
 obtain ⟨x9242, hx9243, hm⟩ := bind_some hm
 obtain ⟨h9244, h9245, hi9246⟩ := geto_some hx9243
 refine ws_q (v := .pointer (some (eAddr v7071 (z9231.toNat * 1 + 0)))) 7 [8, 9, 10, 11, 12, 13, 14, 15, 16] (by kernel_rfl) z z (yi_run ((wanted_eq z z z (cvb hc9241)).trans z) (fun w hst => x_index z z underlying41 sizeOf3 hst.sv0 h9244 h9245)) (ws_q (v := .int .i64 x9242) 8 [9, 10, 11, 12, 13, 14, 15, 16] (by kernel_rfl) z z (yi_run ((wanted_eq z z z (cvb hc9241)).trans z) (fun w hst => x_load z isAgg3 (hst.ol0 hi9246 (by rintro _ rfl; rfl)))) (ws_q (v := v7071) 9 [10, 11, 12, 13, 14, 15, 16] (by kernel_rfl) z z (yi_run ((wanted_eq z z z (cvb hc9241)).trans z) (fun w hst => z)) (ws_q (v := .int .i64 z9231) 10 [11, 12, 13, 14, 15, 16] (by kernel_rfl) z z (yi_run ((wanted_eq z z z (cvb hc9241)).trans z) (fun w hst => z)) (ws_q (v := .int .i64 (i64.wrap (z9231 - (1:Int)))) 11 [12, 13, 14, 15, 16] (by kernel_rfl) z z (yi_run ((wanted_eq z z z (cvb hc9241)).trans z) (fun w hst => z)) ?_))))
 obtain ⟨x9247, hx9248, hm⟩ := bind_some hm
 obtain ⟨h9249, h9250, hi9251⟩ := geto_some hx9248
 refine ws_q (v := .pointer (some (eAddr v7071 ((i64.wrap (z9231 - (1:Int))).toNat * 1 + 0)))) 12 [13, 14, 15, 16] (by kernel_rfl) z z (yi_run ((wanted_eq z z z (cvb hc9241)).trans z) (fun w hst => x_index z z underlying41 sizeOf3 hst.sv0 h9249 h9250)) (ws_q (v := .int .i64 x9247) 13 [14, 15, 16] (by kernel_rfl) z z (yi_run ((wanted_eq z z z (cvb hc9241)).trans z) (fun w hst => x_load z isAgg3 (hst.ol0 hi9251 (by rintro _ rfl; rfl)))) ?_)
 refine ws_e1 14 (by kernel_rfl) ?_
 refine nxe [15, 16] (by kernel_rfl) z ((wanted_eq z z z (cvb hc9241)).trans z) ?_
 clear hst
 intro w hst
 obtain ⟨y9279, hq9280, hm⟩ := bind_some hm
 refine we_call z (x_callv call29 (caps := [Pt b5399 0]) z (vs := [I6 x9242, I6 x9247]) z) ?_
 refine Calls.mono (show Calls prog 29 #[I6 x9242, I6 x9247, Pt b5399 0] _ (fun e w' => ∃ (z9277 : Int), z9277 = y9279 ∧ e = .returned (.int .i64 z9277) ∧ St w0 w' I7053 [cells b5399 [Pt b7060 0], cells b7060 [v7061, v7063, v7065, v7067, v7069, v7071], ownS (tyInt .u64) v7061 z7052.up, ownS (tyInt .u64) v7063 z7052.down, ownS (tySl (tyInt .i64)) v7065 z7052.join, ownS (tySl (tyInt .i64)) v7067 z7052.meet, ownS (tyInt .i64) v7069 z7052.rank, ownS (tyInt .i64) v7071 z9232] R) from ?_) ?_
 {
 clear hm; have hm := hq9280
 refine calls_start (args := [I6 x9242, I6 x9247, Pt b5399 0]) func29 z ntmps29 (Nat.le_of_ble_eq_true z) ?_
 refine wp_seq (wrl (wv (.int .i64 (0:Int)) z z z (wl_nil (tn (wp_seq ?_)))))
 refine wp_region_St hst 18 [0, 1, 2, 3, 4, 5, 6, 7, 8, 9, 10, 11, 12, 13, 14, 15, 16, 17] [0, 1, 3, 7, 0, 31, 63, 127, 0, 256, 768, 1792, 0, 7936, 16128, 32767, 65535, 131071] [] z (by kernel_rfl) (by kernel_rfl) Try.mixed (by kernel_rfl) ?_
 refine wsr (Pt b7060 0) 0 z z z (by kernel_rfl) (fun w hst => x_load z isAgg24 (hst.bc1 z)) (wsr (Pt b7060 0) 1 z z z (by kernel_rfl) (fun w hst => z) (wsr (Pt b7060 1) 2 z z z (by kernel_rfl) (fun w hst => x_field z underlying49 z sizeOf28 z) (wsr (v7063) 3 z z z (by kernel_rfl) (fun w hst => x_load z isAgg28 (hst.bc2 z)) (wsr (.int .i64 x9242) 4 z z z (by kernel_rfl) (fun w hst => z) ?_))))
 obtain ⟨x9252, hx9253, hm⟩ := bind_some hm
 obtain ⟨h9254, h9255, hi9256⟩ := geto_some hx9253
 refine wsr (.pointer (some (eAddr v7063 (x9242.toNat * 1 + 0)))) 5 z z z (by kernel_rfl) (fun w hst => x_index z z underlying28 sizeOf43 hst.sv4 h9254 h9255) (wsr (.int .u64 x9252) 6 z z z (by kernel_rfl) (fun w hst => x_load z isAgg43 (hst.ol4 hi9256 (by rintro _ rfl; rfl))) (wsr (Pt b7060 0) 8 z z z (by kernel_rfl) (fun w hst => x_load z isAgg24 (hst.bc1 z)) (wsr (Pt b7060 0) 9 z z z (by kernel_rfl) (fun w hst => z) (wsr (Pt b7060 1) 10 z z z (by kernel_rfl) (fun w hst => x_field z underlying49 z sizeOf28 z) (wsr (v7063) 11 z z z (by kernel_rfl) (fun w hst => x_load z isAgg28 (hst.bc2 z)) (wsr (.int .i64 x9247) 12 z z z (by kernel_rfl) (fun w hst => z) ?_))))))
 obtain ⟨x9257, hx9258, hm⟩ := bind_some hm
 obtain ⟨h9259, h9260, hi9261⟩ := geto_some hx9258
 refine wsr (.pointer (some (eAddr v7063 (x9247.toNat * 1 + 0)))) 13 z z z (by kernel_rfl) (fun w hst => x_index z z underlying28 sizeOf43 hst.sv4 h9259 h9260) (wsr (.int .u64 x9257) 14 z z z (by kernel_rfl) (fun w hst => x_load z isAgg43 (hst.ol4 hi9261 (by rintro _ rfl; rfl))) ?_)
 refine ws_e1 7 (by kernel_rfl) ?_
 refine nxe [15, 16, 17] (by kernel_rfl) z z ?_
 clear hst
 intro w hst
 obtain ⟨t9262, ht9263, hm⟩ := bind_some hm
 refine wec call31 [U6 x9252] z z ?_
 refine (math_bits_OnesCount64_ref hst.to0 ht9263).mono ?_
 rintro _ w9264 ⟨rfl, hst⟩
 refine ⟨_, z, ?_⟩
 replace hst := hst.of0
 refine ws_next (pend' := [(14, U6 x9257), (13, .pointer (some (eAddr v7063 (x9247.toNat * 1 + 0)))), (12, I6 x9247), (11, v7063), (10, Pt b7060 1), (9, Pt b7060 0), (8, Pt b7060 0)]) hst (by kernel_rfl) (pkr z z (fun w hst => x_load z isAgg43 (hst.ol4 hi9261 (by rintro _ rfl; rfl))) (pkr z z (fun w hst => x_index z z underlying28 sizeOf43 hst.sv4 h9259 h9260) (pkr z z (fun w hst => z) (pkr z z (fun w hst => x_load z isAgg28 (hst.bc2 z)) (pkr z z (fun w hst => x_field z underlying49 z sizeOf28 z) (pkr z z (fun w hst => z) (pkr z z (fun w hst => x_load z isAgg24 (hst.bc1 z)) pk_nil))))))) ?_
 refine ws_e1 15 (by kernel_rfl) ?_
 refine nxe [16, 17] (by kernel_rfl) z z ?_
 clear hst
 intro w hst
 obtain ⟨t9267, ht9268, hm⟩ := bind_some hm
 refine wec call31 [U6 x9257] z z ?_
 refine (math_bits_OnesCount64_ref hst.to0 ht9268).mono ?_
 rintro _ w9269 ⟨rfl, hst⟩
 refine ⟨_, z, ?_⟩
 replace hst := hst.of0
 refine ws_next (pend' := []) hst (by kernel_rfl) pk_nil ?_
 refine ws_e1 16 (by kernel_rfl) ?_
 refine nxe [17] (by kernel_rfl) z z ?_
 clear hst
 intro w hst
 obtain ⟨t9272, ht9273, hm⟩ := bind_some hm
 refine wec call30 [I6 t9262, I6 t9267] z z ?_
 refine (cmp_Compare_int_ref hst.to0 ht9273).mono ?_
 rintro _ w9274 ⟨rfl, hst⟩
 refine ⟨_, z, ?_⟩
 replace hst := hst.of0
 refine ws_next (pend' := []) hst (by kernel_rfl) pk_nil ?_
 refine wsr (.int .i64 t9272) 17 z z z (by kernel_rfl) (fun w hst => z) ?_
 refine ws_nil ?_
 intro w hst
 refine tn (wp_ret ?_)
 refine post_ret (vs := [I6 t9272]) results29 (rvs_cons (rv_tmp z) rvs_nil) ?_
 replace hst := hst.pull7.pull7.pull7.pull7.pull7.pull7.pull7.keep8
 obtain rfl := some_inj hm
 exact ⟨t9272, z, z, hst⟩
}
 clear hst
 rintro _ w9281 ⟨z9277, rfl, rfl, hst⟩
 refine ⟨_, z, ?_⟩
 try dsimp only at hm
 refine ws_next (pend' := []) hst (by kernel_rfl) pk_nil ?_
 refine ws_q (v := .bool (decide (z9277 < (0:Int)))) 15 [16] (by kernel_rfl) z z (yi_run ((wanted_eq z z z (cvb hc9241)).trans z) (fun w hst => z)) (wsr (.bool (decide (z9277 < (0:Int)))) 16 z z z (by kernel_rfl) (fun w hst => x_pick_t hc9241 z z) ?_)
 refine ws_nil ?_
 intro w hst
 refine tn ?_
 refine bsplit (decide (z9277 < (0:Int))) (fun hc9282 => ?_) (fun hc9282 => ?_)
 {
 replace hm := bif_t hc9282 hm
 refine wp_ift (cvb hc9282) ?_
 refine wp_skip (tn (wp_seq (wp_block ?_)))
 refine wp_region_St hst 18 [0, 1, 2, 3, 4, 5, 6, 7, 8, 9, 10, 11, 12, 13, 14, 15, 16, 17] [0, 0, 0, 0, 8, 0, 0, 64, 224, 480, 0, 0, 3072, 7168, 16355, 32739, 65535, 131071] [] z (by kernel_rfl) (by kernel_rfl) Try.mixed (by kernel_rfl) ?_
 refine wsr (v7071) 0 z z z (by kernel_rfl) (fun w hst => z) (wsr (.int .i64 z9231) 1 z z z (by kernel_rfl) (fun w hst => z) (wsr (v7071) 2 z z z (by kernel_rfl) (fun w hst => z) (wsr (.int .i64 z9231) 3 z z z (by kernel_rfl) (fun w hst => z) (wsr (.int .i64 (i64.wrap (z9231 - (1:Int)))) 4 z z z (by kernel_rfl) (fun w hst => z) (wsr (v7071) 5 z z z (by kernel_rfl) (fun w hst => z) (wsr (.int .i64 z9231) 6 z z z (by kernel_rfl) (fun w hst => z) (wsr (.int .i64 (i64.wrap (z9231 - (1:Int)))) 7 z z z (by kernel_rfl) (fun w hst => z) (wsr (.pointer (some (eAddr v7071 ((i64.wrap (z9231 - (1:Int))).toNat * 1 + 0)))) 8 z z z (by kernel_rfl) (fun w hst => x_index z z underlying41 sizeOf3 hst.sv7 h9249 h9250) (wsr (.int .i64 x9247) 9 z z z (by kernel_rfl) (fun w hst => x_load z isAgg3 (hst.ol7 hi9251 (by rintro _ rfl; rfl))) (wsr (v7071) 10 z z z (by kernel_rfl) (fun w hst => z) (wsr (.int .i64 z9231) 11 z z z (by kernel_rfl) (fun w hst => z) (wsr (.pointer (some (eAddr v7071 (z9231.toNat * 1 + 0)))) 12 z z z (by kernel_rfl) (fun w hst => x_index z z underlying41 sizeOf3 hst.sv7 h9244 h9245) ?_))))))))))))
 refine wsr (.int .i64 x9242) 13 z z z (by kernel_rfl) (fun w hst => x_load z isAgg3 (hst.ol7 hi9246 (by rintro _ rfl; rfl))) (wsr (.pointer (some (eAddr v7071 (z9231.toNat * 1 + 0)))) 14 z z z (by kernel_rfl) (fun w hst => x_index z z underlying41 sizeOf3 hst.sv7 h9244 h9245) ?_)
 refine ws_e1 15 (by kernel_rfl) ?_
 refine nxe [16, 17] (by kernel_rfl) z z ?_
 clear hst
 intro w hst
 replace hst := hst.pull7
 obtain ⟨w9283, hr9284, hst⟩ := hst.own_store (P := prog) (t := 3) (y := x9247) hi9246 0 (.int .i64 x9247) sizeOf3 (Nat.le_of_ble_eq_true z) (oC z oN) (by rintro _ rfl; rfl)
 have hi9285 := set_get hi9246 x9247
 have h9286 := set_lt h9245 z9231.toNat x9247
 refine we_unit z (x_unit hr9284) ?_
 refine ws_next (pend' := [(4, I6 (i64.wrap (z9231 - (1:Int)))), (3, I6 z9231), (2, v7071)]) hst (by kernel_rfl) (pkr z z (fun w hst => z) (pkr z z (fun w hst => z) (pkr z z (fun w hst => z) pk_nil))) ?_
 obtain ⟨x9287, hx9288, hm⟩ := bind_some hm
 obtain ⟨h9289, h9290, hi9291⟩ := geto_some hx9288
 refine wsr (.pointer (some (eAddr v7071 ((i64.wrap (z9231 - (1:Int))).toNat * 1 + 0)))) 16 z z z (by kernel_rfl) (fun w hst => x_index z z underlying41 sizeOf3 hst.sv0 h9289 h9290) ?_
 refine ws_e1 17 (by kernel_rfl) ?_
 refine nxe [] (by kernel_rfl) z z ?_
 clear hst
 intro w hst
 obtain ⟨w9292, hr9293, hst⟩ := hst.own_store (P := prog) (t := 3) (y := x9242) hi9291 0 (.int .i64 x9242) sizeOf3 (Nat.le_of_ble_eq_true z) (oC z oN) (by rintro _ rfl; rfl)
 have hi9294 := set_get hi9291 x9242
 have h9295 := set_lt h9290 (i64.wrap (z9231 - (1:Int))).toNat x9242
 refine we_unit z (x_unit hr9293) ?_
 refine ws_next (pend' := []) hst (by kernel_rfl) pk_nil ?_
 refine ws_nil ?_
 intro w hst
 refine blk_n (tn (wrl ?_))
 refine wv (.int .i64 z9231) z z z (wv (.int .i64 (i64.wrap (z9231 - (1:Int)))) z z z (wv (.int .i64 (i64.wrap (z9231 - (1:Int)))) z z z (wl_nil (tn ?_))))
 replace hst := hst.pull7.pull7.pull7.pull7.pull7.pull7.pull7.pull7.keep8
 obtain rfl := some_inj hm
 exact ⟨_, Nat.lt_succ_self _, (i64.wrap (z9231 - (1:Int))), ((z9232.set z9231.toNat x9247).set (i64.wrap (z9231 - (1:Int))).toNat x9242), _, hx9239, (fu 0 v7071 z (fu 1 (.int .i64 z8744) z (fu 2 (.int .i64 ((z7052.all).length : Int)) z (fu 3 (.func (.func 29) #[] #[Pt b5399 0]) z (fu 8 (.int .i64 z9108) z (fu 9 (.int .i64 (i64.wrap (z9231 - (1:Int)))) z z)))))), hst⟩
}
 {
 replace hm := bif_f hc9282 hm
 refine wp_iff (cvb hc9282) ?_
 refine wp_exit (then_x (then_x ?_))
 replace hm := inr_up hm hx9239
 refine blk_x (blk_n (tn (wrl ?_)))
 refine wv (.int .i64 z9108) z z z (wv (.int .i64 (i64.wrap (z9108 + (1:Int)))) z z z (wv (.int .i64 (i64.wrap (z9108 + (1:Int)))) z z z (wl_nil (tn ?_))))
 replace hst := hst.pull6.pull6.pull6.pull6.pull6.pull6.pull6.pull7.keep8
 obtain rfl := some_inj hm
 exact ⟨_, Nat.lt_succ_self _, (i64.wrap (z9108 + (1:Int))), z9232, _, hx9116, (fu 0 v7071 z (fu 1 (.int .i64 z8744) z (fu 2 (.int .i64 ((z7052.all).length : Int)) z (fu 3 (.func (.func 29) #[] #[Pt b5399 0]) z (fu 8 (.int .i64 (i64.wrap (z9108 + (1:Int)))) z z))))), hst⟩
}
}
 {
 replace hm := bif_f hc9241 hm
 refine ws_q (v := undef) 4 [5, 6, 7, 8, 9, 10, 11, 12, 13, 14, 15, 16] (by kernel_rfl) z z (yi_off ((wanted_eq z z z (cvb hc9241)).trans z)) (ws_q (v := undef) 5 [6, 7, 8, 9, 10, 11, 12, 13, 14, 15, 16] (by kernel_rfl) z z (yi_off ((wanted_eq z z z (cvb hc9241)).trans z)) (ws_q (v := undef) 6 [7, 8, 9, 10, 11, 12, 13, 14, 15, 16] (by kernel_rfl) z z (yi_off ((wanted_eq z z z (cvb hc9241)).trans z)) (ws_q (v := undef) 7 [8, 9, 10, 11, 12, 13, 14, 15, 16] (by kernel_rfl) z z (yi_off ((wanted_eq z z z (cvb hc9241)).trans z)) (ws_q (v := undef) 8 [9, 10, 11, 12, 13, 14, 15, 16] (by kernel_rfl) z z (yi_off ((wanted_eq z z z (cvb hc9241)).trans z)) (ws_q (v := undef) 9 [10, 11, 12, 13, 14, 15, 16] (by kernel_rfl) z z (yi_off ((wanted_eq z z z (cvb hc9241)).trans z)) (ws_q (v := undef) 10 [11, 12, 13, 14, 15, 16] (by kernel_rfl) z z (yi_off ((wanted_eq z z z (cvb hc9241)).trans z)) (ws_q (v := undef) 11 [12, 13, 14, 15, 16] (by kernel_rfl) z z (yi_off ((wanted_eq z z z (cvb hc9241)).trans z)) (ws_q (v := undef) 12 [13, 14, 15, 16] (by kernel_rfl) z z (yi_off ((wanted_eq z z z (cvb hc9241)).trans z)) (ws_q (v := undef) 13 [14, 15, 16] (by kernel_rfl) z z (yi_off ((wanted_eq z z z (cvb hc9241)).trans z)) (ws_q (v := undef) 14 [15, 16] (by kernel_rfl) z z (yi_off ((wanted_eq z z z (cvb hc9241)).trans z)) (ws_q (v := undef) 15 [16] (by kernel_rfl) z z (yi_off ((wanted_eq z z z (cvb hc9241)).trans z)) (wsr (.bool false) 16 z z z (by kernel_rfl) (fun w hst => x_pick_f hc9241 z z) ?_))))))))))))
 refine ws_nil ?_
 intro w hst
 refine tn ?_
 refine wp_iff z ?_
 refine wp_exit (then_x (then_x ?_))
 replace hm := inr_up hm hx9239
 refine blk_x (blk_n (tn (wrl ?_)))
 refine wv (.int .i64 z9108) z z z (wv (.int .i64 (i64.wrap (z9108 + (1:Int)))) z z z (wv (.int .i64 (i64.wrap (z9108 + (1:Int)))) z z z (wl_nil (tn ?_))))
 replace hst := hst.pull7.pull7.pull7.pull7.pull7.pull7.pull7.pull7.keep8
 obtain rfl := some_inj hm
 exact ⟨_, Nat.lt_succ_self _, (i64.wrap (z9108 + (1:Int))), z9232, _, hx9116, (fu 0 v7071 z (fu 1 (.int .i64 z8744) z (fu 2 (.int .i64 ((z7052.all).length : Int)) z (fu 3 (.func (.func 29) #[] #[Pt b5399 0]) z (fu 8 (.int .i64 (i64.wrap (z9108 + (1:Int)))) z z))))), hst⟩
}
}
 {
 replace hm := bif_f hc9118 hm
 refine wp_iff (cvb hc9118) ?_
 refine wp_exit (then_x (then_x ?_))
 replace hm := inr_up hm hx9116
 refine blk_x ?_
 refine post_end (vs := []) results39 rvs_nil ?_
 replace hst := hst.pull7.pull7.pull7.pull7.pull7.pull7.pull7.keep8
 obtain rfl := some_inj hm
 exact ⟨z9109, z, z, hst⟩
}
}
 clear hst
 rintro _ w9300 ⟨z9296, rfl, rfl, hst⟩
 refine ⟨_, z, ?_⟩
 try dsimp only at hm
 refine wl_nil (tn (wp_block ?_))
 obtain ⟨n9338, hm⟩ := loopO_some hm
 refine wp_loop_n (fun n a w => ∃ (z9336 : Int) (σ9337 : Nat → Value), loopN (label_New_l15 z7052 z9296) n z9336 = some y9364 ∧ a = Fr 63 (upd (upd (upd (upd σ9337 0 (v7071)) 1 (.int .i64 ((z7052.all).length : Int))) 2 (.func (.func 29) #[] #[Pt b5399 0])) 6 (.int .i64 z9336)) ∧ St w0 w I7053 [cells b5399 [Pt b7060 0], cells b7060 [v7061, v7063, v7065, v7067, v7069, v7071], ownS (tyInt .u64) v7061 z7052.up, ownS (tyInt .u64) v7063 z7052.down, ownS (tySl (tyInt .i64)) v7065 z7052.join, ownS (tySl (tyInt .i64)) v7067 z7052.meet, ownS (tyInt .i64) v7069 z7052.rank, ownS (tyInt .i64) v7071 z9296] R) n9338 ⟨(20:Int), _, hm, (fu 0 v7071 z (fu 1 (.int .i64 ((z7052.all).length : Int)) z (fu 2 (.func (.func 29) #[] #[Pt b5399 0]) z (fu 6 (.int .i64 (20:Int)) z z)))), hst⟩ ?_
 rintro n9344 _ w9339 ⟨z9336, σ9337, hm, rfl, hst⟩
 obtain ⟨n9341, y9342, rfl, hm, hx9343⟩ := loopN_some hm
 dsimp only [label_New_l15] at hm
 refine wp_seq (wp_seq (wrl (wv (.int .i64 z9336) z z z (wv (.int .i64 ((z7052.all).length : Int)) z z z (wv (.bool (decide (z9336 < ((z7052.all).length : Int)))) z z z (wl_nil (tn ?_)))))))
 refine bsplit (decide (z9336 < ((z7052.all).length : Int))) (fun hc9345 => ?_) (fun hc9345 => ?_)
 {
 replace hm := bif_t hc9345 hm
 refine wp_ift (cvb hc9345) ?_
 refine wp_skip (tn (wp_block (wp_seq (wrl ?_))))
 refine wv (.int .i64 z9336) z z z (wv (.int .i64 (i64.wrap ((2:Int) * z9336))) z z z (wv (.int .i64 (0:Int)) z z z (wv (.int .i64 (i64.wrap ((2:Int) * z9336))) z z z (wl_nil (tn ?_)))))
 obtain ⟨y9358, hm, hx9359⟩ := bind_some hm
 refine wp_cut (fun a w => ∃ (σ9356 : Nat → Value), (label_New_j16 z9336 z7052) () = some y9342 ∧ a = Fr 63 (upd (upd (upd (upd (upd σ9356 0 (v7071)) 1 (.int .i64 ((z7052.all).length : Int))) 2 (.func (.func 29) #[] #[Pt b5399 0])) 6 (.int .i64 z9336)) 7 (.int .i64 (0:Int))) ∧ St w0 w I7053 [ownS (tyInt .i64) v7071 z9296, cells b5399 [Pt b7060 0], cells b7060 [v7061, v7063, v7065, v7067, v7069, v7071], ownS (tyInt .u64) v7061 z7052.up, ownS (tyInt .u64) v7063 z7052.down, ownS (tySl (tyInt .i64)) v7065 z7052.join, ownS (tySl (tyInt .i64)) v7067 z7052.meet, ownS (tyInt .i64) v7069 z7052.rank] R) ?_ ?_
 {
 refine wp_block ?_
 obtain ⟨n9348, hm⟩ := loopO_some hm
 refine wp_loop_n (fun n a w => ∃ (σ9347 : Nat → Value), loopN (label_New_l17 z9336 z7052) n () = some y9358 ∧ a = Fr 63 (upd (upd (upd (upd (upd (upd σ9347 0 (v7071)) 1 (.int .i64 ((z7052.all).length : Int))) 2 (.func (.func 29) #[] #[Pt b5399 0])) 6 (.int .i64 z9336)) 7 (.int .i64 (0:Int))) 8 (.int .i64 (i64.wrap ((2:Int) * z9336)))) ∧ St w0 w I7053 [cells b5399 [Pt b7060 0], cells b7060 [v7061, v7063, v7065, v7067, v7069, v7071], ownS (tyInt .u64) v7061 z7052.up, ownS (tyInt .u64) v7063 z7052.down, ownS (tySl (tyInt .i64)) v7065 z7052.join, ownS (tySl (tyInt .i64)) v7067 z7052.meet, ownS (tyInt .i64) v7069 z7052.rank, ownS (tyInt .i64) v7071 z9296] R) n9348 ⟨_, hm, (fu 0 v7071 z (fu 1 (.int .i64 ((z7052.all).length : Int)) z (fu 2 (.func (.func 29) #[] #[Pt b5399 0]) z (fu 6 (.int .i64 z9336) z (fu 7 (.int .i64 (0:Int)) z (fu 8 (.int .i64 (i64.wrap ((2:Int) * z9336))) z z)))))), hst⟩ ?_
 rintro n9354 _ w9349 ⟨σ9347, hm, rfl, hst⟩
 obtain ⟨n9351, y9352, rfl, hm, hx9353⟩ := loopN_some hm
 dsimp only [label_New_l17] at hm
 refine wp_seq (wp_seq (wrl (wv (.int .i64 (i64.wrap ((2:Int) * z9336))) z z z (wv (.int .i64 ((z7052.all).length : Int)) z z z (wv (.bool (decide ((i64.wrap ((2:Int) * z9336)) ≤ ((z7052.all).length : Int)))) z z z (wl_nil (tn ?_)))))))
 refine bsplit (decide ((i64.wrap ((2:Int) * z9336)) ≤ ((z7052.all).length : Int))) (fun hc9355 => ?_) (fun hc9355 => ?_)
 {
 replace hm := bif_t hc9355 hm
 refine wp_ift (cvb hc9355) ?_
 refine wp_skip (tn (wp_block (wp_seq (wrl ?_))))
 refine wv (v7071) z z z (wv (.int .i64 (0:Int)) z z z (wv (.int .i64 (0:Int)) z z z (wv (.int .i64 z9336) z z z (wv (.int .i64 (i64.wrap ((0:Int) + z9336))) z z z (wv (.int .i64 (i64.wrap ((2:Int) * z9336))) z z z (wv (.func (.func 29) #[] #[Pt b5399 0]) z z z ?_))))))
 cases hm
}
 {
 replace hm := bif_f hc9355 hm
 refine wp_iff (cvb hc9355) ?_
 refine wp_exit (then_x (then_x ?_))
 replace hm := inr_up hm hx9353
 refine blk_x (tn ?_)
 replace hst := hst.pull6.pull6.pull6.pull6.pull6.pull6.pull6.pull7.keep8
 obtain rfl := some_inj hm
 exact ⟨_, hx9359, (fu 0 v7071 z (fu 1 (.int .i64 ((z7052.all).length : Int)) z (fu 2 (.func (.func 29) #[] #[Pt b5399 0]) z (fu 6 (.int .i64 z9336) z (fu 7 (.int .i64 (0:Int)) z z))))), hst⟩
}
}
 {
 clear hst
 rintro _ w9360 ⟨σ9356, hm, rfl, hst⟩
 dsimp only [label_New_j16] at hm
 refine wp_seq (wp_seq (wrl (wv (.int .i64 (0:Int)) z z z (wv (.int .i64 z9336) z z z (wv (.int .i64 (i64.wrap ((0:Int) + z9336))) z z z (wv (.int .i64 (i64.wrap ((0:Int) + z9336))) z z z (wl_nil (tn (wp_seq (wrl (wv (.int .i64 (i64.wrap ((0:Int) + z9336))) z z z (wv (.int .i64 ((z7052.all).length : Int)) z z z (wv (.bool (decide ((i64.wrap ((0:Int) + z9336)) < ((z7052.all).length : Int)))) z z z (wl_nil (tn ?_)))))))))))))))
 refine bsplit (decide ((i64.wrap ((0:Int) + z9336)) < ((z7052.all).length : Int))) (fun hc9361 => ?_) (fun hc9361 => ?_)
 {
 replace hm := bif_t hc9361 hm
 refine wp_ift (cvb hc9361) ?_
 refine wrl (wv (v7071) z z z (wv (.int .i64 (0:Int)) z z z (wv (.int .i64 (i64.wrap ((0:Int) + z9336))) z z z (wv (.int .i64 ((z7052.all).length : Int)) z z z (wv (.func (.func 29) #[] #[Pt b5399 0]) z z z ?_)))))
 cases hm
}
 {
 replace hm := bif_f hc9361 hm
 refine wp_iff (cvb hc9361) ?_
 refine wp_skip (tn (wrl ?_))
 refine wv (.int .i64 z9336) z z z (wv (.int .i64 (i64.wrap (z9336 * (2:Int)))) z z z (wv (.int .i64 (i64.wrap (z9336 * (2:Int)))) z z z (wl_nil (blk_n (tn ?_)))))
 replace hst := hst.pull7.pull7.pull7.pull7.pull7.pull7.pull7.keep8
 obtain rfl := some_inj hm
 exact ⟨_, Nat.lt_succ_self _, (i64.wrap (z9336 * (2:Int))), _, hx9343, (fu 0 v7071 z (fu 1 (.int .i64 ((z7052.all).length : Int)) z (fu 2 (.func (.func 29) #[] #[Pt b5399 0]) z (fu 6 (.int .i64 (i64.wrap (z9336 * (2:Int)))) z z)))), hst⟩
}
}
}
 {
 replace hm := bif_f hc9345 hm
 refine wp_iff (cvb hc9345) ?_
 refine wp_exit (then_x (then_x ?_))
 replace hm := inr_up hm hx9343
 refine blk_x ?_
 refine post_end (vs := []) results37 rvs_nil ?_
 replace hst := hst.pull7.pull7.pull7.pull7.pull7.pull7.pull7.pull7.keep8
 obtain rfl := some_inj hm
 exact ⟨z9296, z, z, hst⟩
}
}
}
 clear hst
 rintro _ w9366 ⟨z9362, rfl, rfl, hst⟩
 refine ⟨_, z, ?_⟩
 try dsimp only at hm
 refine wl_nil ?_
 refine post_end (vs := []) results28 rvs_nil ?_
 replace hst := hst.pull7.pull7.pull7.pull7.pull7.pull7.pull7.pull7.keep8
 obtain rfl := some_inj hm
 exact ⟨z9362, z, z, hst⟩
}
 clear hst
 rintro _ w9371 ⟨z9367, rfl, rfl, hst⟩
 refine ⟨_, z, ?_⟩
 try dsimp only at hm
 refine wl_nil (tn (wp_seq (wp_seq (wrl (wv (Pt b7060 0) z z (x_load z isAgg24 (hst.bc0 z)) (wv (Pt b7060 0) z z z (wv (Pt b7060 5) z z (x_field z underlying49 z sizeOf41 z) (wv (v7071) z z (x_load z isAgg41 (hst.bc1 z)) (wv (.int .i64 ((z9367).length : Int)) z z (x_len z underlying41 hst.sv7) (wv (.int .i64 (0:Int)) z z z (wl_nil (tn (wp_block ?_)))))))))))))
 obtain ⟨n9407, hm⟩ := loopO_some hm
 refine wp_loop_n (fun n a w => ∃ (z9404 : Int) (z9405 : (List Int)) (σ9406 : Nat → Value), loopN (label_New_l18 z9367 z7052) n (z9404, z9405) = some r ∧ a = Fr 192 (upd (upd (upd (upd σ9406 5 (Pt b5399 0)) 176 (v7071)) 177 (.int .i64 ((z9367).length : Int))) 178 (.int .i64 z9404)) ∧ St w0 w I7053 [cells b5399 [Pt b7060 0], cells b7060 [v7061, v7063, v7065, v7067, v7069, v7071], ownS (tyInt .u64) v7061 z7052.up, ownS (tyInt .u64) v7063 z7052.down, ownS (tySl (tyInt .i64)) v7065 z7052.join, ownS (tySl (tyInt .i64)) v7067 z7052.meet, ownS (tyInt .i64) v7069 z9405, ownS (tyInt .i64) v7071 z9367] R) n9407 ⟨(0:Int), z7052.rank, _, hm, (fu 5 (Pt b5399 0) z (fu 176 v7071 z (fu 177 (.int .i64 ((z9367).length : Int)) z (fu 178 (.int .i64 (0:Int)) z z)))), hst⟩ ?_
 rintro n9413 _ w9408 ⟨z9404, z9405, σ9406, hm, rfl, hst⟩
 obtain ⟨n9410, y9411, rfl, hm, hx9412⟩ := loopN_some hm
 dsimp only [label_New_l18] at hm
 refine wp_seq (wrl (wv (.bool (decide (z9404 < ((z9367).length : Int)))) z z z (wl_nil (tn (wp_seq ?_)))))
 refine bsplit (decide (z9404 < ((z9367).length : Int))) (fun hc9414 => ?_) (fun hc9414 => ?_)
 {
 replace hm := bif_t hc9414 hm
 refine wp_ift (cvb hc9414) ?_
 refine wp_skip (tn (wp_seq (wp_block (wp_seq (wrl ?_)))))
 refine wv (.int .i64 z9404) z z z ?_
 obtain ⟨x9415, hx9416, hm⟩ := bind_some hm
 obtain ⟨h9417, h9418, hi9419⟩ := geto_some hx9416
 refine wv (.pointer (some (eAddr v7071 (z9404.toNat * 1 + 0)))) z z (x_index z z underlying41 sizeOf3 hst.sv7 h9417 h9418) (wv (.int .i64 x9415) z z (x_load z isAgg3 (hst.ol7 hi9419 (by rintro _ rfl; rfl))) (wv (.int .i64 z9404) z z z (wv (.int .i64 x9415) z z z (wl_nil (tn (wrl (wv (Pt b7060 0) z z (x_load z isAgg24 (hst.bc0 z)) (wv (Pt b7060 0) z z z (wv (Pt b7060 4) z z (x_field z underlying49 z sizeOf41 z) (wv (v7069) z z (x_load z isAgg41 (hst.bc1 z)) (wv (.int .i64 x9415) z z z (wv (.int .i64 z9404) z z z ?_))))))))))))
 obtain ⟨x9420, hx9421, hm⟩ := bind_some hm
 obtain ⟨h9422, h9423, hi9424⟩ := geto_some hx9421
 refine wv (.pointer (some (eAddr v7069 (x9415.toNat * 1 + 0)))) z z (x_index z z underlying41 sizeOf3 hst.sv6 h9422 h9423) ?_
 replace hst := hst.pull6
 obtain ⟨w9425, hr9426, hst⟩ := hst.own_store (P := prog) (t := 3) (y := z9404) hi9424 0 (.int .i64 z9404) sizeOf3 (Nat.le_of_ble_eq_true z) (oC z oN) (by rintro _ rfl; rfl)
 have hi9427 := set_get hi9424 z9404
 have h9428 := set_lt h9423 x9415.toNat z9404
 refine wl_unit z z (x_unit hr9426) ?_
 refine wl_nil (blk_n (tn (wrl (wv (.int .i64 (i64.wrap (z9404 + (1:Int)))) z z z (wv (.int .i64 (i64.wrap (z9404 + (1:Int)))) z z z (wl_nil (tn ?_)))))))
 replace hst := hst.pull7.pull1.pull7.pull7.pull7.pull7.pull7.pull7.keep8
 obtain rfl := some_inj hm
 exact ⟨_, Nat.lt_succ_self _, (i64.wrap (z9404 + (1:Int))), (z9405.set x9415.toNat z9404), _, hx9412, (fu 5 (Pt b5399 0) z (fu 176 v7071 z (fu 177 (.int .i64 ((z9367).length : Int)) z (fu 178 (.int .i64 (i64.wrap (z9404 + (1:Int)))) z z)))), hst⟩
}
 {
 replace hm := bif_f hc9414 hm
 refine wp_iff (cvb hc9414) ?_
 refine wp_exit (then_x (then_x ?_))
 replace hm := inr_up hm hx9412
 refine blk_x (tn (wp_seq (wrl ?_)))
 refine wv (Pt b7060 0) z z (x_load z isAgg24 (hst.bc0 z)) (wv (Pt b7060 0) z z z (wv (.int .i64 (0:Int)) z z z (wl_nil (tn (wp_ret ?_)))))
 replace hst := hst.pull7.pull7.pull7.pull7.pull7.pull7.pull7
 replace hst := at_label_Lattice_close (pv := Pt b7060 0) (x := ({ up := z7052.up, down := z7052.down, join := z7052.join, meet := z7052.meet, rank := z9405, all := z9367 } : label_Lattice)) hst z
 replace hst := objO_some hst
 obtain rfl := some_inj hm
 refine post_ret (vs := [Pt b7060 0, Zi]) results10 (rvs_cons (rv_tmp z) (rvs_cons (rv_tmp z) rvs_nil)) ?_
 exact ⟨_, Pt b7060 0, z, hI0, hst.keep1⟩
}
}
}
}
}
}
}
}

end Go.Proofs.Ytddhkbholbcebaa
