/- The Go functions refine their models, part 0. -/
import Derived.Test.YtkjkbfaaigmmcaaConfigShardsT
set_option linter.unusedVariables false
set_option linter.unusedSimpArgs false
set_option maxRecDepth 100000
set_option maxHeartbeats 4000000
namespace Go.Proofs.Ytkjkbfaaigmmcaa
open Go Go.V
open _root_.Go.Proofs.Try IntKind
attribute [local irreducible] wpList Code.wp wpQuiet Calls bodyPost Oper.wp wpS Nx PendOK YieldsIn
theorem ref03_Lattices_ref {w0 w : World} {I : HL} {R : SP} {a0 : Int}  (hst : St w0 w I [] R) {r : ((List Int))} (hm : ref03_Lattices a0 = some r) :
  Calls prog 36 #[U1 a0] w fun e w' => ∃ (q0_0 : Value), e = .returned (q0_0) ∧ St w0 w' I [ownS (tyInt .u64) q0_0 r] R := by {
 unfold ref03_Lattices at hm
 refine calls_start (args := [U1 a0]) func36 z ntmps36 (Nat.le_of_ble_eq_true z) ?_
 refine wp_seq (wrl (wv ((.slice none 0 0)) z z z (wl_nil (tn (wp_seq (wp_seq (wrl (wv (.int .u8 a0) z z z (wv (.int .u8 (Int.tmod a0 (5:Int))) z z (x_rem (by decide) z z) (wl_nil (tn (wp_block (wp_seq (wrl (wv (.bool ((Int.tmod a0 (5:Int)) == (0:Int))) z z z (wv (.bool ((Int.tmod a0 (5:Int)) == (0:Int))) z z z (wl_nil (tn ?_))))))))))))))))))
 refine bsplit ((Int.tmod a0 (5:Int)) == (0:Int)) (fun hc198 => ?_) (fun hc198 => ?_)
 {
 replace hm := bif_t hc198 hm
 refine wp_ift (cvb hc198) ?_
 refine wp_seq (wrl ?_)
 obtain ⟨b199, w200, ew201, eb202, hst⟩ := hst.lits (E := (tyInt .u64)) (xs := [(3:Int), (2:Int)]) [[U6 (3:Int)], [U6 (2:Int)]] 22 2 z (Reps.cons z (Reps.cons z Reps.nil))
 refine wl_run (v := (.slice (some ⟨b199, 0, none⟩) 2 2)) (w' := w200) z z (x_als (by kernel_rfl) ew201 eb202) ?_
 refine wv ((.slice (some ⟨b199, 0, none⟩) 2 2)) z z z (wl_nil (tn (wp_ret (blk_r (then_r ?_)))))
 obtain rfl := some_inj hm
 refine post_ret (vs := [(.slice (some ⟨b199, 0, none⟩) 2 2)]) results36 (rvs_cons (rv_tmp z) rvs_nil) ?_
 exact ⟨(.slice (some ⟨b199, 0, none⟩) 2 2), z, hst.keep1⟩
}
 {
 replace hm := bif_f hc198 hm
 refine wp_iff (cvb hc198) ?_
 refine wp_seq (wrl (wv (.bool ((Int.tmod a0 (5:Int)) == (1:Int))) z z z (wv (.bool ((Int.tmod a0 (5:Int)) == (1:Int))) z z z (wl_nil (tn ?_)))))
 refine bsplit ((Int.tmod a0 (5:Int)) == (1:Int)) (fun hc204 => ?_) (fun hc204 => ?_)
 {
 replace hm := bif_t hc204 hm
 refine wp_ift (cvb hc204) ?_
 refine wp_seq (wrl ?_)
 obtain ⟨b205, w206, ew207, eb208, hst⟩ := hst.lits (E := (tyInt .u64)) (xs := [(1:Int)]) [[U6 (1:Int)]] 22 1 z (Reps.cons z Reps.nil)
 refine wl_run (v := (.slice (some ⟨b205, 0, none⟩) 1 1)) (w' := w206) z z (x_als (by kernel_rfl) ew207 eb208) ?_
 refine wv ((.slice (some ⟨b205, 0, none⟩) 1 1)) z z z (wl_nil (tn (wp_ret (blk_r (then_r ?_)))))
 obtain rfl := some_inj hm
 refine post_ret (vs := [(.slice (some ⟨b205, 0, none⟩) 1 1)]) results36 (rvs_cons (rv_tmp z) rvs_nil) ?_
 exact ⟨(.slice (some ⟨b205, 0, none⟩) 1 1), z, hst.keep1⟩
}
 {
 replace hm := bif_f hc204 hm
 refine wp_iff (cvb hc204) ?_
 refine wp_seq (wrl (wv (.bool ((Int.tmod a0 (5:Int)) == (2:Int))) z z z (wv (.bool ((Int.tmod a0 (5:Int)) == (2:Int))) z z z (wl_nil (tn ?_)))))
 refine bsplit ((Int.tmod a0 (5:Int)) == (2:Int)) (fun hc210 => ?_) (fun hc210 => ?_)
 {
 replace hm := bif_t hc210 hm
 refine wp_ift (cvb hc210) ?_
 refine wp_seq (wrl ?_)
 obtain ⟨b211, w212, ew213, eb214, hst⟩ := hst.lits (E := (tyInt .u64)) (xs := [(1:Int), (3:Int), (7:Int)]) [[U6 (1:Int)], [U6 (3:Int)], [U6 (7:Int)]] 22 3 z (Reps.cons z (Reps.cons z (Reps.cons z Reps.nil)))
 refine wl_run (v := (.slice (some ⟨b211, 0, none⟩) 3 3)) (w' := w212) z z (x_als (by kernel_rfl) ew213 eb214) ?_
 refine wv ((.slice (some ⟨b211, 0, none⟩) 3 3)) z z z (wl_nil (tn (wp_ret (blk_r (then_r ?_)))))
 obtain rfl := some_inj hm
 refine post_ret (vs := [(.slice (some ⟨b211, 0, none⟩) 3 3)]) results36 (rvs_cons (rv_tmp z) rvs_nil) ?_
 exact ⟨(.slice (some ⟨b211, 0, none⟩) 3 3), z, hst.keep1⟩
}
 {
 replace hm := bif_f hc210 hm
 refine wp_iff (cvb hc210) ?_
 refine wp_seq (wrl (wv (.bool ((Int.tmod a0 (5:Int)) == (3:Int))) z z z (wv (.bool ((Int.tmod a0 (5:Int)) == (3:Int))) z z z (wl_nil (tn ?_)))))
 refine bsplit ((Int.tmod a0 (5:Int)) == (3:Int)) (fun hc216 => ?_) (fun hc216 => ?_)
 {
 replace hm := bif_t hc216 hm
 refine wp_ift (cvb hc216) ?_
 refine wp_seq (wrl ?_)
 obtain ⟨b217, w218, ew219, eb220, hst⟩ := hst.lits (E := (tyInt .u64)) (xs := [(15:Int), (10:Int), (12:Int), (8:Int)]) [[U6 (15:Int)], [U6 (10:Int)], [U6 (12:Int)], [U6 (8:Int)]] 22 4 z (Reps.cons z (Reps.cons z (Reps.cons z (Reps.cons z Reps.nil))))
 refine wl_run (v := (.slice (some ⟨b217, 0, none⟩) 4 4)) (w' := w218) z z (x_als (by kernel_rfl) ew219 eb220) ?_
 refine wv ((.slice (some ⟨b217, 0, none⟩) 4 4)) z z z (wl_nil (tn (wp_ret (blk_r (then_r ?_)))))
 obtain rfl := some_inj hm
 refine post_ret (vs := [(.slice (some ⟨b217, 0, none⟩) 4 4)]) results36 (rvs_cons (rv_tmp z) rvs_nil) ?_
 exact ⟨(.slice (some ⟨b217, 0, none⟩) 4 4), z, hst.keep1⟩
}
 {
 replace hm := bif_f hc216 hm
 refine wp_iff (cvb hc216) ?_
 refine wp_skip (blk_n (tn (wp_seq (wrl ?_))))
 refine wv ((.slice none 0 0)) z z z (wl_nil (tn (wp_seq (wp_seq (wrl (wv (.int .i64 (0:Int)) z z z (wl_nil (tn (wp_block ?_)))))))))
 replace hst := hst.own_nil (tyInt .u64)
 obtain ⟨n341, hm⟩ := loopO_some hm
 refine wp_loop_n (fun n a w => ∃ (z336 : (List Int)) (z339 : Int) (v337 : Value) (σ340 : Nat → Value), loopN (ref03_Lattices_l0) n (z336, z339) = some r ∧ a = Fr 43 (upd (upd σ340 3 (v337)) 4 (.int .i64 z339)) ∧ St w0 w I [ownS (tyInt .u64) v337 z336] R) n341 ⟨[], (0:Int), Zs, _, hm, (fu 3 (.slice none 0 0) z (fu 4 (.int .i64 (0:Int)) z z)), hst⟩ ?_
 rintro n347 _ w342 ⟨z336, z339, v337, σ340, hm, rfl, hst⟩
 obtain ⟨n344, y345, rfl, hm, hx346⟩ := loopN_some hm
 dsimp only [ref03_Lattices_l0] at hm
 refine wp_seq (wp_seq (wrl (wv (.int .i64 z339) z z z (wv (.bool (decide (z339 < (8:Int)))) z z z (wl_nil (tn ?_))))))
 refine bsplit (decide (z339 < (8:Int))) (fun hc348 => ?_) (fun hc348 => ?_)
 {
 replace hm := bif_t hc348 hm
 refine wp_ift (cvb hc348) ?_
 refine wp_skip (tn (wp_seq (wp_block (wp_seq (wrl ?_)))))
 refine wv (.int .u64 (0:Int)) z z z (wl_nil (tn ?_))
 obtain ⟨y372, hm, hx373⟩ := bind_some hm
 refine wp_cut (fun a w => ∃ (z369 : Int) (σ370 : Nat → Value), (ref03_Lattices_j1 z336 z339) z369 = some y345 ∧ a = Fr 43 (upd (upd (upd σ370 3 (v337)) 4 (.int .i64 z339)) 5 (.int .u64 z369)) ∧ St w0 w I [ownS (tyInt .u64) v337 z336] R) ?_ ?_
 {
 refine wp_seq (wrl (wv (.int .i64 (0:Int)) z z z (wl_nil (tn (wp_block ?_)))))
 obtain ⟨n359, hm⟩ := loopO_some hm
 refine wp_loop_n (fun n a w => ∃ (z356 : Int) (z357 : Int) (σ358 : Nat → Value), loopN (ref03_Lattices_l2 z339) n (z356, z357) = some y372 ∧ a = Fr 43 (upd (upd (upd (upd σ358 3 (v337)) 4 (.int .i64 z339)) 5 (.int .u64 z356)) 6 (.int .i64 z357)) ∧ St w0 w I [ownS (tyInt .u64) v337 z336] R) n359 ⟨(0:Int), (0:Int), _, hm, (fu 3 v337 z (fu 4 (.int .i64 z339) z (fu 5 (.int .u64 (0:Int)) z (fu 6 (.int .i64 (0:Int)) z z)))), hst⟩ ?_
 rintro n365 _ w360 ⟨z356, z357, σ358, hm, rfl, hst⟩
 obtain ⟨n362, y363, rfl, hm, hx364⟩ := loopN_some hm
 dsimp only [ref03_Lattices_l2] at hm
 refine wp_seq (wp_seq (wrl (wv (.int .i64 z357) z z z (wv (.bool (decide (z357 < (8:Int)))) z z z (wl_nil (tn ?_))))))
 refine bsplit (decide (z357 < (8:Int))) (fun hc366 => ?_) (fun hc366 => ?_)
 {
 replace hm := bif_t hc366 hm
 refine wp_ift (cvb hc366) ?_
 refine wp_skip (tn (wp_seq (wp_block (wp_seq (wrl ?_)))))
 refine wv (.int .i64 z339) z z z (wv (.int .i64 z357) z z z (wv (.int .i64 (bAnd .i64 z339 z357)) z z z (wv (.int .i64 z339) z z z (wv (.bool ((bAnd .i64 z339 z357) == z339)) z z z (wl_nil (tn ?_))))))
 refine bsplit ((bAnd .i64 z339 z357) == z339) (fun hc367 => ?_) (fun hc367 => ?_)
 {
 replace hm := bif_t hc367 hm
 refine wp_ift (cvb hc367) ?_
 refine wrl (wv (.int .u64 z356) z z z (wv (.int .i64 z357) z z z ?_))
 obtain ⟨hg368, hm⟩ := gd_some hm
 refine wv (.int .u64 (iShl .u64 (1:Int) z357)) z z (x_shl (of_decide_eq_true hg368) z z) (wv (.int .u64 (bOr .u64 z356 (iShl .u64 (1:Int) z357))) z z z (wv (.int .u64 (bOr .u64 z356 (iShl .u64 (1:Int) z357))) z z z (wl_nil (blk_n (tn (wrl (wv (.int .i64 z357) z z z (wv (.int .i64 (i64.wrap (z357 + (1:Int)))) z z z (wv (.int .i64 (i64.wrap (z357 + (1:Int)))) z z z (wl_nil (tn ?_)))))))))))
 replace hst := hst.keep1
 obtain rfl := some_inj hm
 exact ⟨_, Nat.lt_succ_self _, (bOr .u64 z356 (iShl .u64 (1:Int) z357)), (i64.wrap (z357 + (1:Int))), _, hx364, (fu 3 v337 z (fu 4 (.int .i64 z339) z (fu 5 (.int .u64 (bOr .u64 z356 (iShl .u64 (1:Int) z357))) z (fu 6 (.int .i64 (i64.wrap (z357 + (1:Int)))) z z)))), hst⟩
}
 {
 replace hm := bif_f hc367 hm
 refine wp_iff (cvb hc367) ?_
 refine wp_skip (blk_n (tn (wrl ?_)))
 refine wv (.int .i64 z357) z z z (wv (.int .i64 (i64.wrap (z357 + (1:Int)))) z z z (wv (.int .i64 (i64.wrap (z357 + (1:Int)))) z z z (wl_nil (tn ?_))))
 replace hst := hst.keep1
 obtain rfl := some_inj hm
 exact ⟨_, Nat.lt_succ_self _, z356, (i64.wrap (z357 + (1:Int))), _, hx364, (fu 3 v337 z (fu 4 (.int .i64 z339) z (fu 5 (.int .u64 z356) z (fu 6 (.int .i64 (i64.wrap (z357 + (1:Int)))) z z)))), hst⟩
}
}
 {
 replace hm := bif_f hc366 hm
 refine wp_iff (cvb hc366) ?_
 refine wp_exit (then_x (then_x ?_))
 replace hm := inr_up hm hx364
 refine blk_x (tn ?_)
 replace hst := hst.keep1
 obtain rfl := some_inj hm
 exact ⟨z356, _, hx373, (fu 3 v337 z (fu 4 (.int .i64 z339) z (fu 5 (.int .u64 z356) z z))), hst⟩
}
}
 {
 clear hst
 rintro _ w374 ⟨z369, σ370, hm, rfl, hst⟩
 dsimp only [ref03_Lattices_j1] at hm
 refine wrl (wv (v337) z z z (wv (.int .u64 z369) z z z ?_))
 obtain ⟨b375, w376, ew377, eb378, hst⟩ := hst.lits (E := (tyInt .u64)) (xs := [z369]) [[U6 z369]] 22 1 z (Reps.cons z Reps.nil)
 refine wl_run (v := (.slice (some ⟨b375, 0, none⟩) 1 1)) (w' := w376) z z (x_als (by kernel_rfl) ew377 eb378) ?_
 obtain ⟨hg380, hm⟩ := gd_some hm
 replace hst := hst.pull1
 obtain ⟨v381, w382, hr383, hst⟩ := run_append elem_25 underlying25 hst hst.src1 (room_of hg380 z) 25
 refine wl_run (v := v381) (w' := w382) z z (x_append z z hr383) ?_
 refine wv (v381) z z z (wl_nil (blk_n (tn (wrl (wv (.int .i64 z339) z z z (wv (.int .i64 (i64.wrap (z339 + (1:Int)))) z z z (wv (.int .i64 (i64.wrap (z339 + (1:Int)))) z z z (wl_nil (tn ?_)))))))))
 replace hst := hst.keep1
 obtain rfl := some_inj hm
 exact ⟨_, Nat.lt_succ_self _, (z336 ++ ([z369])), (i64.wrap (z339 + (1:Int))), v381, _, hx346, (fu 3 v381 z (fu 4 (.int .i64 (i64.wrap (z339 + (1:Int)))) z z)), hst⟩
}
}
 {
 replace hm := bif_f hc348 hm
 refine wp_iff (cvb hc348) ?_
 refine wp_exit (then_x (then_x ?_))
 replace hm := inr_up hm hx346
 refine blk_x (tn (wp_seq (wrl ?_)))
 refine wv (v337) z z z (wv (v337) z z z (wl_nil (tn (wp_ret ?_))))
 obtain rfl := some_inj hm
 refine post_ret (vs := [v337]) results36 (rvs_cons (rv_tmp z) rvs_nil) ?_
 exact ⟨v337, z, hst.keep1⟩
}
}
}
}
}
}

theorem ref04_Small_ref {w0 w : World} {I : HL} {R : SP} {a0 : Int}  (hst : St w0 w I [] R) {r : (api_Config)} (hm : ref04_Small a0 = some r) :
  Calls prog 13 #[U1 a0] w fun e w' => ∃ (q0_0 : Value) (q0_1 : Value), e = .returned (.agg #[q0_0, I6 r.Nodes, q0_1, I6 r.Frame, I6 r.Depth, I6 r.Quota, I6 r.Wide, I6 r.Beat, I6 r.Elect]) ∧ St w0 w' I [ownS (tyInt .u64) q0_0 r.Up, ownS tyF64 q0_1 r.Cuts] R := by {
 unfold ref04_Small at hm
 refine calls_start (args := [U1 a0]) func13 z ntmps13 (Nat.le_of_ble_eq_true z) ?_
 refine wp_seq (wrl ?_)
 obtain ⟨b59, w60, ew61, eb62, hst⟩ := hst.box [Zs, Zi, Zs, Zi, Zi, Zi, Zi, Zi, Zi] 28
 refine wl_run (v := Pt b59 0) (w' := w60) z z (x_al (by kernel_rfl) ew61 eb62) ?_
 refine wl_nil (tn (wp_seq (wrl (wv (.int .u8 a0) z z z ?_))))
 obtain ⟨t64, ht65, hm⟩ := bind_some hm
 refine wc call36 [U1 a0] z z z ?_
 refine (ref03_Lattices_ref hst.to0 ht65).mono ?_
 rintro _ w66 ⟨v69, rfl, hst⟩
 refine ⟨_, z, ?_⟩
 replace hst := hst.of1
 refine wv (.int .u8 a0) z z z (wv (.int .u8 (u8.wrap (Int.tdiv a0 (5:Int)))) z z (x_quo (by decide) z z) (wv (.int .i64 (i64.wrap (u8.wrap (Int.tdiv a0 (5:Int))))) z z (by kernel_rfl) (wv (.int .i64 (Int.tmod (i64.wrap (u8.wrap (Int.tdiv a0 (5:Int)))) (3:Int))) z z (x_rem (by decide) z z) (wv (.int .i64 (i64.wrap ((1:Int) + (Int.tmod (i64.wrap (u8.wrap (Int.tdiv a0 (5:Int)))) (3:Int))))) z z z (wv (.agg #[v69, I6 (i64.wrap ((1:Int) + (Int.tmod (i64.wrap (u8.wrap (Int.tdiv a0 (5:Int)))) (3:Int)))), Zs, I6 (128:Int), I6 (512:Int), I6 (1048576:Int), I6 (8:Int), I6 (2:Int), I6 (4:Int)]) z z (by obtain ⟨_, _, hv_, _⟩ := hst.sv0; rw [hv_]; kernel_rfl) ?_)))))
 obtain ⟨b75, w76, ew77, eb78, hst⟩ := hst.box [Zs, Zi, Zs, Zi, Zi, Zi, Zi, Zi, Zi] 28
 refine wl_run (v := Pt b75 0) (w' := w76) z z (x_al (by kernel_rfl) ew77 eb78) ?_
 obtain ⟨w80, hr81, hst⟩ := hst.bx [v69, I6 (i64.wrap ((1:Int) + (Int.tmod (i64.wrap (u8.wrap (Int.tdiv a0 (5:Int)))) (3:Int)))), Zs, I6 (128:Int), I6 (512:Int), I6 (1048576:Int), I6 (8:Int), I6 (2:Int), I6 (4:Int)] sizeOf28 z (oC (one_of_sliceV hst.sv1) (oC z (oC z (oC z (oC z (oC z (oC z (oC z (oC z oN))))))))) (by kernel_rfl)
 refine wl_unit z z (x_unit hr81) ?_
 refine wl_nil (tn ?_)
 obtain ⟨y97, hm, hx98⟩ := bind_some hm
 refine wp_cut (fun a w => ∃ (z94 : (List Int)) (v93 : Value) (σ95 : Nat → Value), (ref04_Small_j0 a0) z94 = some r ∧ a = Fr 24 (upd (upd (upd σ95 0 (.int .u8 a0)) 2 (Pt b59 0)) 3 (Pt b75 0)) ∧ St w0 w I [cells b59 [Zs, Zi, Zs, Zi, Zi, Zi, Zi, Zi, Zi], cells b75 [v93, I6 (i64.wrap ((1:Int) + (Int.tmod (i64.wrap (u8.wrap (Int.tdiv a0 (5:Int)))) (3:Int)))), Zs, I6 (128:Int), I6 (512:Int), I6 (1048576:Int), I6 (8:Int), I6 (2:Int), I6 (4:Int)], ownS (tyInt .u64) v93 z94] R) ?_ ?_
 {
 refine wp_seq (wrl (wv (.int .u8 a0) z z z (wv (.int .u8 (Int.tmod a0 (5:Int))) z z (x_rem (by decide) z z) (wv (.bool ((Int.tmod a0 (5:Int)) == (4:Int))) z z z (wl_nil (tn ?_))))))
 refine bsplit ((Int.tmod a0 (5:Int)) == (4:Int)) (fun hc82 => ?_) (fun hc82 => ?_)
 {
 replace hm := bif_t hc82 hm
 refine wp_ift (cvb hc82) ?_
 refine wrl ?_
 obtain ⟨t83, ht84, hm⟩ := bind_some hm
 refine wc call36 [Zb] z z z ?_
 refine (ref03_Lattices_ref hst.to0 ht84).mono ?_
 rintro _ w85 ⟨v88, rfl, hst⟩
 refine ⟨_, z, ?_⟩
 replace hst := hst.of1
 refine wv (Pt b75 0) z z (x_field z underlying28 z sizeOf25 z) ?_
 replace hst := hst.pull1
 obtain ⟨w90, hr91, hst⟩ := hst.boxStore1 (P := prog) (t := 25) (cs' := [v88, I6 (i64.wrap ((1:Int) + (Int.tmod (i64.wrap (u8.wrap (Int.tdiv a0 (5:Int)))) (3:Int)))), Zs, I6 (128:Int), I6 (512:Int), I6 (1048576:Int), I6 (8:Int), I6 (2:Int), I6 (4:Int)]) 0 v88 (one_of_sliceV hst.sv1) sizeOf25 z z
 refine wl_unit z z (x_unit hr91) ?_
 refine wl_nil (tn ?_)
 replace hst := hst.pull1.pull1.pull3.keep3
 obtain rfl := some_inj hm
 exact ⟨t83, v88, _, hx98, (fu 0 (.int .u8 a0) z (fu 2 (Pt b59 0) z (fu 3 (Pt b75 0) z z))), hst⟩
}
 {
 replace hm := bif_f hc82 hm
 refine wp_iff (cvb hc82) ?_
 refine wp_skip (tn ?_)
 replace hst := hst.pull1.pull1.pull2.keep3
 obtain rfl := some_inj hm
 exact ⟨t64, v69, _, hx98, (fu 0 (.int .u8 a0) z (fu 2 (Pt b59 0) z (fu 3 (Pt b75 0) z z))), hst⟩
}
}
 {
 clear hst
 rintro _ w99 ⟨z94, v93, σ95, hm, rfl, hst⟩
 dsimp only [ref04_Small_j0] at hm
 refine wp_seq (wp_seq (wrl (wv (.int .u8 a0) z z z (wv (.int .u8 (u8.wrap (Int.tdiv a0 (16:Int)))) z z (x_quo (by decide) z z) (wv (.int .u8 (Int.tmod (u8.wrap (Int.tdiv a0 (16:Int))) (2:Int))) z z (x_rem (by decide) z z) (wv (.bool ((Int.tmod (u8.wrap (Int.tdiv a0 (16:Int))) (2:Int)) == (1:Int))) z z z (wl_nil (tn ?_))))))))
 refine bsplit ((Int.tmod (u8.wrap (Int.tdiv a0 (16:Int))) (2:Int)) == (1:Int)) (fun hc100 => ?_) (fun hc100 => ?_)
 {
 replace hm := bif_t hc100 hm
 refine wp_ift (cvb hc100) ?_
 refine wrl ?_
 obtain ⟨b101, w102, ew103, eb104, hst⟩ := hst.lits (E := tyF64) (xs := [(0:Nat)]) [[Zf]] 36 1 z (Reps.cons z Reps.nil)
 refine wl_run (v := (.slice (some ⟨b101, 0, none⟩) 1 1)) (w' := w102) z z (x_als (by kernel_rfl) ew103 eb104) ?_
 refine wv (Pt b75 2) z z (x_field z underlying28 z sizeOf26 z) ?_
 replace hst := hst.pull2
 obtain ⟨w106, hr107, hst⟩ := hst.by_ [v93, I6 (i64.wrap ((1:Int) + (Int.tmod (i64.wrap (u8.wrap (Int.tdiv a0 (5:Int)))) (3:Int)))), (.slice (some ⟨b101, 0, none⟩) 1 1), I6 (128:Int), I6 (512:Int), I6 (1048576:Int), I6 (8:Int), I6 (2:Int), I6 (4:Int)] 2 ((.slice (some ⟨b101, 0, none⟩) 1 1)) sizeOf26 z (oC (one_of_sliceV hst.sv1) oN) (by kernel_rfl)
 refine wl_unit z z (x_unit hr107) ?_
 refine wl_nil (tn (wp_seq (wrl (wv (.agg #[v93, I6 (i64.wrap ((1:Int) + (Int.tmod (i64.wrap (u8.wrap (Int.tdiv a0 (5:Int)))) (3:Int)))), (.slice (some ⟨b101, 0, none⟩) 1 1), I6 (128:Int), I6 (512:Int), I6 (1048576:Int), I6 (8:Int), I6 (2:Int), I6 (4:Int)]) z z (x_loadN (cs := [v93, I6 (i64.wrap ((1:Int) + (Int.tmod (i64.wrap (u8.wrap (Int.tdiv a0 (5:Int)))) (3:Int)))), (.slice (some ⟨b101, 0, none⟩) 1 1), I6 (128:Int), I6 (512:Int), I6 (1048576:Int), I6 (8:Int), I6 (2:Int), I6 (4:Int)]) z isAgg28 sizeOf28 (hst.bcs0 0 z)) ?_))))
 replace hst := hst.pull2
 obtain ⟨w108, hr109, hst⟩ := hst.bx [v93, I6 (i64.wrap ((1:Int) + (Int.tmod (i64.wrap (u8.wrap (Int.tdiv a0 (5:Int)))) (3:Int)))), (.slice (some ⟨b101, 0, none⟩) 1 1), I6 (128:Int), I6 (512:Int), I6 (1048576:Int), I6 (8:Int), I6 (2:Int), I6 (4:Int)] sizeOf28 z (oC (one_of_sliceV hst.sv3) (oC z (oC (one_of_sliceV hst.sv2) (oC z (oC z (oC z (oC z (oC z (oC z oN))))))))) (by kernel_rfl)
 refine wl_unit z z (x_unit hr109) ?_
 refine wl_nil (tn (wp_ret ?_))
 obtain rfl := some_inj hm
 refine post_ret (vs := [.agg #[v93, I6 (i64.wrap ((1:Int) + (Int.tmod (i64.wrap (u8.wrap (Int.tdiv a0 (5:Int)))) (3:Int)))), (.slice (some ⟨b101, 0, none⟩) 1 1), I6 (128:Int), I6 (512:Int), I6 (1048576:Int), I6 (8:Int), I6 (2:Int), I6 (4:Int)]]) results13 (rvs_cons (rv_cell (cs := [v93, I6 (i64.wrap ((1:Int) + (Int.tmod (i64.wrap (u8.wrap (Int.tdiv a0 (5:Int)))) (3:Int)))), (.slice (some ⟨b101, 0, none⟩) 1 1), I6 (128:Int), I6 (512:Int), I6 (1048576:Int), I6 (8:Int), I6 (2:Int), I6 (4:Int)]) z isAgg28 sizeOf28 (hst.bcs0 0 z)) rvs_nil) ?_
 replace hst := hst.pull2.pull3
 exact ⟨v93, (.slice (some ⟨b101, 0, none⟩) 1 1), z, hst.keep2⟩
}
 {
 replace hm := bif_f hc100 hm
 refine wp_iff (cvb hc100) ?_
 refine wp_skip (tn (wp_seq (wrl ?_)))
 refine wv (.agg #[v93, I6 (i64.wrap ((1:Int) + (Int.tmod (i64.wrap (u8.wrap (Int.tdiv a0 (5:Int)))) (3:Int)))), Zs, I6 (128:Int), I6 (512:Int), I6 (1048576:Int), I6 (8:Int), I6 (2:Int), I6 (4:Int)]) z z (x_loadN (cs := [v93, I6 (i64.wrap ((1:Int) + (Int.tmod (i64.wrap (u8.wrap (Int.tdiv a0 (5:Int)))) (3:Int)))), Zs, I6 (128:Int), I6 (512:Int), I6 (1048576:Int), I6 (8:Int), I6 (2:Int), I6 (4:Int)]) z isAgg28 sizeOf28 (hst.bcs1 0 z)) ?_
 obtain ⟨w110, hr111, hst⟩ := hst.bx [v93, I6 (i64.wrap ((1:Int) + (Int.tmod (i64.wrap (u8.wrap (Int.tdiv a0 (5:Int)))) (3:Int)))), Zs, I6 (128:Int), I6 (512:Int), I6 (1048576:Int), I6 (8:Int), I6 (2:Int), I6 (4:Int)] sizeOf28 z (oC (one_of_sliceV hst.sv2) (oC z (oC z (oC z (oC z (oC z (oC z (oC z (oC z oN))))))))) (by kernel_rfl)
 refine wl_unit z z (x_unit hr111) ?_
 refine wl_nil (tn (wp_ret ?_))
 replace hst := hst.own_nil tyF64
 obtain rfl := some_inj hm
 refine post_ret (vs := [.agg #[v93, I6 (i64.wrap ((1:Int) + (Int.tmod (i64.wrap (u8.wrap (Int.tdiv a0 (5:Int)))) (3:Int)))), Zs, I6 (128:Int), I6 (512:Int), I6 (1048576:Int), I6 (8:Int), I6 (2:Int), I6 (4:Int)]]) results13 (rvs_cons (rv_cell (cs := [v93, I6 (i64.wrap ((1:Int) + (Int.tmod (i64.wrap (u8.wrap (Int.tdiv a0 (5:Int)))) (3:Int)))), Zs, I6 (128:Int), I6 (512:Int), I6 (1048576:Int), I6 (8:Int), I6 (2:Int), I6 (4:Int)]) z isAgg28 sizeOf28 (hst.bcs1 0 z)) rvs_nil) ?_
 replace hst := hst.pull3
 exact ⟨v93, Zs, z, hst.keep2⟩
}
}
}

theorem math_IsNaN_ref {w0 w : World} {I : HL} {R : SP} {a0 : Nat}  (hst : St w0 w I [] R) {r : (Bool)} (hm : math_IsNaN a0 = some r) :
  Calls prog 58 #[F6 a0] w fun e w' => e = .returned (.bool r) ∧ St w0 w' I [] R := by {
 unfold math_IsNaN at hm
 refine calls_start (args := [F6 a0]) func58 z ntmps58 (Nat.le_of_ble_eq_true z) ?_
 refine wp_seq (wrl (wv (.bool false) z z z (wl_nil (tn (wp_seq (wrl (wv (.float .f64 a0) z z z (wv (.float .f64 a0) z z z (wv (.bool (fNe a0 a0)) z z z (wv (.bool (fNe a0 a0)) z z z (wl_nil (tn (wp_ret ?_)))))))))))))
 obtain rfl := some_inj hm
 refine post_ret (vs := [.bool (fNe a0 a0)]) results58 (rvs_cons (rv_tmp z) rvs_nil) ?_
 exact ⟨z, hst.keep0⟩
}

theorem number_Rank_ref {w0 w : World} {I : HL} {R : SP} {a0 : Nat}  (hst : St w0 w I [] R) {r : (Int)} (hm : number_Rank a0 = some r) :
  Calls prog 53 #[F6 a0] w fun e w' => e = .returned (.int .u64 r) ∧ St w0 w' I [] R := by {
 unfold number_Rank at hm
 refine calls_start (args := [F6 a0]) func53 z ntmps53 (Nat.le_of_ble_eq_true z) ?_
 refine wp_seq (wrl (wv (.int .u64 (0:Int)) z z z (wl_nil (tn (wp_seq (wp_seq (wrl (wv (.float .f64 a0) z z z ?_))))))))
 obtain ⟨t46, ht47, hm⟩ := bind_some hm
 refine wc call58 [F6 a0] z z z ?_
 refine (math_IsNaN_ref hst.to0 ht47).mono ?_
 rintro _ w48 ⟨rfl, hst⟩
 refine ⟨_, z, ?_⟩
 replace hst := hst.of0
 refine wl_nil (tn ?_)
 refine bsplit t46 (fun hc51 => ?_) (fun hc51 => ?_)
 {
 replace hm := bif_t hc51 hm
 refine wp_ift (cvb hc51) ?_
 refine wp_seq (wrl (wv (.int .u64 (18446744073709551615:Int)) z z z (wl_nil (tn (wp_ret (then_r ?_))))))
 obtain rfl := some_inj hm
 refine post_ret (vs := [U6 (18446744073709551615:Int)]) results53 (rvs_cons (rv_tmp z) rvs_nil) ?_
 exact ⟨z, hst.keep0⟩
}
 {
 replace hm := bif_f hc51 hm
 refine wp_iff (cvb hc51) ?_
 refine wp_skip (tn (wp_seq (wrl ?_)))
 refine wv (.float .f64 a0) z z z (wv (.int .u64 (Int.ofNat a0)) z z (by kernel_rfl) (wv (.int .u64 (Int.ofNat a0)) z z z (wl_nil (tn (wp_seq (wp_seq (wrl (wv (.int .u64 (Int.ofNat a0)) z z z (wv (.int .u64 (iShr .u64 (Int.ofNat a0) (63:Int))) z z (x_shr (by decide) z z) (wv (.bool ((iShr .u64 (Int.ofNat a0) (63:Int)) == (1:Int))) z z z (wl_nil (tn ?_))))))))))))
 refine bsplit ((iShr .u64 (Int.ofNat a0) (63:Int)) == (1:Int)) (fun hc52 => ?_) (fun hc52 => ?_)
 {
 replace hm := bif_t hc52 hm
 refine wp_ift (cvb hc52) ?_
 refine wp_seq (wrl (wv (.int .u64 (Int.ofNat a0)) z z z (wv (.int .u64 (bXor .u64 ((18446744073709551615):Int) (Int.ofNat a0))) z z (by kernel_rfl) (wv (.int .u64 (bXor .u64 ((18446744073709551615):Int) (Int.ofNat a0))) z z z (wl_nil (tn (wp_ret (then_r ?_))))))))
 obtain rfl := some_inj hm
 refine post_ret (vs := [U6 (bXor .u64 ((18446744073709551615):Int) (Int.ofNat a0))]) results53 (rvs_cons (rv_tmp z) rvs_nil) ?_
 exact ⟨z, hst.keep0⟩
}
 {
 replace hm := bif_f hc52 hm
 refine wp_iff (cvb hc52) ?_
 refine wp_skip (tn (wp_seq (wrl ?_)))
 refine wv (.int .u64 (Int.ofNat a0)) z z z (wv (.int .u64 (bOr .u64 (Int.ofNat a0) (9223372036854775808:Int))) z z z (wv (.int .u64 (bOr .u64 (Int.ofNat a0) (9223372036854775808:Int))) z z z (wl_nil (tn (wp_ret ?_)))))
 obtain rfl := some_inj hm
 refine post_ret (vs := [U6 (bOr .u64 (Int.ofNat a0) (9223372036854775808:Int))]) results53 (rvs_cons (rv_tmp z) rvs_nil) ?_
 exact ⟨z, hst.keep0⟩
}
}
}

theorem number_Less_ref {w0 w : World} {I : HL} {R : SP} {a0 : Nat} {a1 : Nat}  (hst : St w0 w I [] R) {r : (Bool)} (hm : number_Less a0 a1 = some r) :
  Calls prog 39 #[F6 a0, F6 a1] w fun e w' => e = .returned (.bool r) ∧ St w0 w' I [] R := by {
 unfold number_Less at hm
 refine calls_start (args := [F6 a0, F6 a1]) func39 z ntmps39 (Nat.le_of_ble_eq_true z) ?_
 refine wp_seq (wrl (wv (.bool false) z z z (wl_nil (tn (wp_seq (wrl (wv (.float .f64 a0) z z z ?_)))))))
 obtain ⟨t49, ht50, hm⟩ := bind_some hm
 refine wc call53 [F6 a0] z z z ?_
 refine (number_Rank_ref hst.to0 ht50).mono ?_
 rintro _ w51 ⟨rfl, hst⟩
 refine ⟨_, z, ?_⟩
 replace hst := hst.of0
 refine wv (.float .f64 a1) z z z ?_
 obtain ⟨t54, ht55, hm⟩ := bind_some hm
 refine wc call53 [F6 a1] z z z ?_
 refine (number_Rank_ref hst.to0 ht55).mono ?_
 rintro _ w56 ⟨rfl, hst⟩
 refine ⟨_, z, ?_⟩
 replace hst := hst.of0
 refine wv (.bool (decide (t49 < t54))) z z z (wv (.bool (decide (t49 < t54))) z z z (wl_nil (tn (wp_ret ?_))))
 obtain rfl := some_inj hm
 refine post_ret (vs := [.bool (decide (t49 < t54))]) results39 (rvs_cons (rv_tmp z) rvs_nil) ?_
 exact ⟨z, hst.keep0⟩
}

theorem number_Rising_ref {w0 w : World} {I : HL} {R : SP} {a0 : (List Nat)} {r0_0 : Value} (f0_0 : Rd tyF64 R I r0_0 a0) (hst : St w0 w I [] R) {r : (Bool)} (hm : number_Rising a0 = some r) :
  Calls prog 33 #[r0_0] w fun e w' => e = .returned (.bool r) ∧ St w0 w' I [] R := by {
 unfold number_Rising at hm
 refine calls_start (args := [r0_0]) func33 z ntmps33 (Nat.le_of_ble_eq_true z) ?_
 refine wp_seq (wrl (wv (.bool false) z z z (wl_nil (tn (wp_seq (wp_seq (wrl (wv (.int .i64 (1:Int)) z z z (wl_nil (tn (wp_block ?_)))))))))))
 obtain ⟨n137, hm⟩ := loopO_some hm
 refine wp_loop_n (fun n a w => ∃ (z135 : Int) (σ136 : Nat → Value), loopN (number_Rising_l0 a0) n z135 = some r ∧ a = Fr 21 (upd (upd σ136 0 (r0_0)) 3 (.int .i64 z135)) ∧ St w0 w I [] R) n137 ⟨(1:Int), _, hm, (fu 0 r0_0 z (fu 3 (.int .i64 (1:Int)) z z)), hst⟩ ?_
 rintro n143 _ w138 ⟨z135, σ136, hm, rfl, hst⟩
 obtain ⟨n140, y141, rfl, hm, hx142⟩ := loopN_some hm
 dsimp only [number_Rising_l0] at hm
 refine wp_seq (wp_seq (wrl (wv (.int .i64 z135) z z z (wv (r0_0) z z z (wv (.int .i64 ((a0).length : Int)) z z (x_len z underlying26 (rd_sliceV f0_0)) (wv (.bool (decide (z135 < ((a0).length : Int)))) z z z (wl_nil (tn ?_))))))))
 refine bsplit (decide (z135 < ((a0).length : Int))) (fun hc144 => ?_) (fun hc144 => ?_)
 {
 replace hm := bif_t hc144 hm
 refine wp_ift (cvb hc144) ?_
 refine wp_skip (tn (wp_seq (wp_block (wp_seq ?_))))
 refine wp_region_St hst 11 [0, 1, 2, 3, 4, 5, 6, 7, 8, 9, 10] [0, 0, 2, 7, 15, 0, 0, 96, 224, 511, 1023] [] z (by kernel_rfl) (by kernel_rfl) Try.mixed (by kernel_rfl) ?_
 refine wsr (r0_0) 0 z z z (by kernel_rfl) (fun w hst => z) (wsr (.int .i64 z135) 1 z z z (by kernel_rfl) (fun w hst => z) (wsr (.int .i64 (i64.wrap (z135 - (1:Int)))) 2 z z z (by kernel_rfl) (fun w hst => z) ?_))
 obtain ⟨x145, hx146, hm⟩ := bind_some hm
 obtain ⟨h147, h148, hi149⟩ := geto_some hx146
 refine wsr (.pointer (some (eAddr r0_0 ((i64.wrap (z135 - (1:Int))).toNat * 1 + 0)))) 3 z z z (by kernel_rfl) (fun w hst => x_index z z underlying26 sizeOf36 (rd_sliceV f0_0) h147 h148) (wsr (.float .f64 x145) 4 z z z (by kernel_rfl) (fun w hst => x_load z isAgg36 (rd_load f0_0 (HL.le.refl _) hst hi149 (by rintro _ rfl; rfl))) (wsr (r0_0) 5 z z z (by kernel_rfl) (fun w hst => z) (wsr (.int .i64 z135) 6 z z z (by kernel_rfl) (fun w hst => z) ?_)))
 obtain ⟨x150, hx151, hm⟩ := bind_some hm
 obtain ⟨h152, h153, hi154⟩ := geto_some hx151
 refine wsr (.pointer (some (eAddr r0_0 (z135.toNat * 1 + 0)))) 7 z z z (by kernel_rfl) (fun w hst => x_index z z underlying26 sizeOf36 (rd_sliceV f0_0) h152 h153) (wsr (.float .f64 x150) 8 z z z (by kernel_rfl) (fun w hst => x_load z isAgg36 (rd_load f0_0 (HL.le.refl _) hst hi154 (by rintro _ rfl; rfl))) ?_)
 refine ws_e1 9 (by kernel_rfl) ?_
 refine nxe [10] (by kernel_rfl) z z ?_
 clear hst
 intro w hst
 obtain ⟨t155, ht156, hm⟩ := bind_some hm
 refine wec call39 [F6 x145, F6 x150] z z ?_
 refine (number_Less_ref hst.to0 ht156).mono ?_
 rintro _ w157 ⟨rfl, hst⟩
 refine ⟨_, z, ?_⟩
 replace hst := hst.of0
 refine ws_next (pend' := []) hst (by kernel_rfl) pk_nil ?_
 refine wsr (.bool (!t155)) 10 z z z (by kernel_rfl) (fun w hst => z) ?_
 refine ws_nil ?_
 intro w hst
 refine tn ?_
 refine bsplit (!t155) (fun hc160 => ?_) (fun hc160 => ?_)
 {
 replace hm := bif_t hc160 hm
 refine wp_ift (cvb hc160) ?_
 refine wp_seq (wrl (wv (.bool false) z z z (wl_nil (tn (wp_ret (blk_r (then_r (then_r ?_))))))))
 replace hm := inr_up hm hx142
 refine blk_r (then_r ?_)
 obtain rfl := some_inj hm
 refine post_ret (vs := [.bool false]) results33 (rvs_cons (rv_tmp z) rvs_nil) ?_
 exact ⟨z, hst.keep0⟩
}
 {
 replace hm := bif_f hc160 hm
 refine wp_iff (cvb hc160) ?_
 refine wp_skip (blk_n (tn (wrl ?_)))
 refine wv (.int .i64 z135) z z z (wv (.int .i64 (i64.wrap (z135 + (1:Int)))) z z z (wv (.int .i64 (i64.wrap (z135 + (1:Int)))) z z z (wl_nil (tn ?_))))
 replace hst := hst.keep0
 obtain rfl := some_inj hm
 exact ⟨_, Nat.lt_succ_self _, (i64.wrap (z135 + (1:Int))), _, hx142, (fu 0 r0_0 z (fu 3 (.int .i64 (i64.wrap (z135 + (1:Int)))) z z)), hst⟩
}
}
 {
 replace hm := bif_f hc144 hm
 refine wp_iff (cvb hc144) ?_
 refine wp_exit (then_x (then_x ?_))
 replace hm := inr_up hm hx142
 refine blk_x (tn (wp_seq (wrl ?_)))
 refine wv (.bool true) z z z (wl_nil (tn (wp_ret ?_)))
 obtain rfl := some_inj hm
 refine post_ret (vs := [.bool true]) results33 (rvs_cons (rv_tmp z) rvs_nil) ?_
 exact ⟨z, hst.keep0⟩
}
}

theorem slices_Clone_uint64_uint64_ref {w0 w : World} {I : HL} {R : SP} {a0 : (List Int)} {r0_0 : Value} (f0_0 : Rd (tyInt .u64) R I r0_0 a0) (hst : St w0 w I [] R) {r : (List Int)} (hm : slices_Clone_uint64_uint64 a0 = some r) :
  Calls prog 44 #[r0_0] w fun e w' => ∃ (q0_0 : Value), e = .returned (q0_0) ∧ St w0 w' I [ownS (tyInt .u64) q0_0 r] R := by {
 unfold slices_Clone_uint64_uint64 at hm
 obtain ⟨hg, hm⟩ := gd_some hm
 obtain rfl := some_inj hm
 have hsv := rd_sliceV f0_0
 refine calls_start (args := [r0_0]) func44 z ntmps44 (Nat.le_of_ble_eq_true z) ?_
 refine wp_seq (wrl (wv ((.slice none 0 0)) z z z (wl_nil (tn (wp_seq (wp_seq (wrl (wv (r0_0) z z z (wv (.bool (isNil r0_0)) z z (x_slnil z hsv z underlying25) (wl_nil (tn ?_)))))))))))
 refine bsplit (isNil r0_0) (fun hc75 => ?_) (fun hc75 => ?_)
 {
 refine wp_ift (cvb hc75) ?_
 refine wp_seq (wrl (wv ((.slice none 0 0)) z z z (wl_nil (tn (wp_ret (then_r ?_))))))
 refine post_ret (vs := [Zs]) results44 (rvs_cons (rv_tmp z) rvs_nil) ?_
 obtain rfl := List.eq_nil_of_length_eq_zero (isNil_len hsv hc75)
 exact ⟨_, z, (hst.own_nil (tyInt .u64)).keep1⟩
}
 {
 refine wp_iff (cvb hc75) ?_
 refine wp_skip (tn (wp_seq (wrl ?_)))
 obtain ⟨b, w1, ew, eb, hst⟩ := hst.lits (E := (tyInt .u64)) (xs := []) [] 22 0 z Reps.nil
 refine wl_run (v := (.slice (some ⟨b, 0, none⟩) 0 0)) (w' := w1) z z (x_als (by kernel_rfl) ew eb) ?_
 refine wv (r0_0) z z z ?_
 obtain ⟨v2, w2, hr, hst⟩ := run_append elem_25 underlying25 hst (Src.of_rd hst f0_0 flat_int) (room_of hg z) 25
 refine wl_run (v := v2) (w' := w2) z z (x_append z z hr) ?_
 refine wv (v2) z z z (wl_nil (tn (wp_ret ?_)))
 refine post_ret (vs := [v2]) results44 (rvs_cons (rv_tmp z) rvs_nil) ?_
 rw [List.nil_append] at hst
 exact ⟨_, z, hst.keep1⟩
}
}

theorem label_Lattice_orders_ref {w0 w : World} {I : HL} {R : SP} {a0 : (Option label_Lattice)} {p0 : Value}  (hst : St w0 w I [objO at_label_Lattice p0 a0] R) {r : (Bool)} (hm : label_Lattice_orders a0 = some r) :
  Calls prog 45 #[p0] w fun e w' => e = .returned (.bool r) ∧ St w0 w' I [objO at_label_Lattice p0 a0] R := by {
 rcases a0 with _ | o0
 {
 obtain ⟨rfl, hst'⟩ := objO_none hst
 clear hst
 have hst := hst'
 clear hst'
 dsimp only [label_Lattice_orders] at hm
 refine calls_start (args := [.pointer none]) func45 z ntmps45 (Nat.le_of_ble_eq_true z) ?_
 refine wp_seq (wrl (wv (.bool false) z z z (wl_nil (tn (wp_seq (wrl (wv (.pointer none) z z z ?_)))))))
 cases hm
}
 {
 replace hst := objO_get hst
 dsimp only [label_Lattice_orders] at hm
 refine calls_start (args := [p0]) func45 z ntmps45 (Nat.le_of_ble_eq_true z) ?_
 refine wp_seq (wrl (wv (.bool false) z z z (wl_nil (tn (wp_seq (wrl (wv (p0) z z z ?_)))))))
 obtain ⟨b940, v941, v943, v945, v947, v949, v951, rfl, hst'⟩ := at_label_Lattice_open hst
 clear hst
 have hst := hst'
 clear hst'
 refine wv (Pt b940 0) z z z (wv (Pt b940 0) z z (x_field z underlying73 z sizeOf25 z) (wv (v941) z z (x_load z isAgg25 (hst.bc0 z)) (wv (.int .i64 ((o0.up).length : Int)) z z (x_len z underlying25 hst.sv1) (wv (.int .i64 ((o0.up).length : Int)) z z z (wl_nil (tn (wp_seq (wp_seq (wrl (wv (Pt b940 0) z z z (wv (Pt b940 0) z z z (wv (Pt b940 0) z z (x_field z underlying73 z sizeOf25 z) (wv (v941) z z (x_load z isAgg25 (hst.bc0 z)) (wv (.int .i64 ((o0.up).length : Int)) z z (x_len z underlying25 hst.sv1) (wv (.int .i64 (0:Int)) z z z (wl_nil (tn (wp_block ?_))))))))))))))))))
 obtain ⟨n1055, hm⟩ := loopO_some hm
 refine wp_loop_n (fun n a w => ∃ (z1053 : Int) (σ1054 : Nat → Value), loopN (label_Lattice_orders_l0 o0) n z1053 = some r ∧ a = Fr 74 (upd (upd (upd (upd (upd σ1054 0 (Pt b940 0)) 3 (.int .i64 ((o0.up).length : Int))) 15 (v941)) 16 (.int .i64 ((o0.up).length : Int))) 17 (.int .i64 z1053)) ∧ St w0 w I [cells b940 [v941, v943, v945, v947, v949, v951], ownS (tyInt .u64) v941 o0.up, ownS (tyInt .u64) v943 o0.down, ownS (tySl (tyInt .i64)) v945 o0.join, ownS (tySl (tyInt .i64)) v947 o0.meet, ownS (tyInt .i64) v949 o0.rank, ownS (tyInt .i64) v951 o0.all] R) n1055 ⟨(0:Int), _, hm, (fu 0 (Pt b940 0) z (fu 3 (.int .i64 ((o0.up).length : Int)) z (fu 15 v941 z (fu 16 (.int .i64 ((o0.up).length : Int)) z (fu 17 (.int .i64 (0:Int)) z z))))), hst⟩ ?_
 rintro n1061 _ w1056 ⟨z1053, σ1054, hm, rfl, hst⟩
 obtain ⟨n1058, y1059, rfl, hm, hx1060⟩ := loopN_some hm
 dsimp only [label_Lattice_orders_l0] at hm
 refine wp_seq (wrl (wv (.bool (decide (z1053 < ((o0.up).length : Int)))) z z z (wl_nil (tn (wp_seq ?_)))))
 refine bsplit (decide (z1053 < ((o0.up).length : Int))) (fun hc1062 => ?_) (fun hc1062 => ?_)
 {
 replace hm := bif_t hc1062 hm
 refine wp_ift (cvb hc1062) ?_
 refine wp_skip (tn (wp_seq (wp_block (wp_seq (wrl ?_)))))
 refine wv (.int .i64 z1053) z z z ?_
 obtain ⟨x1063, hx1064, hm⟩ := bind_some hm
 obtain ⟨h1065, h1066, hi1067⟩ := geto_some hx1064
 refine wv (.pointer (some (eAddr v941 (z1053.toNat * 1 + 0)))) z z (x_index z z underlying25 sizeOf22 hst.sv1 h1065 h1066) (wv (.int .u64 x1063) z z (x_load z isAgg22 (hst.ol1 hi1067 (by rintro _ rfl; rfl))) (wv (.int .i64 z1053) z z z (wv (.int .u64 x1063) z z z (wl_nil (tn (wp_seq (wp_seq (wrl (wv (.int .u64 x1063) z z z (wv (.int .i64 ((o0.up).length : Int)) z z z ?_))))))))))
 obtain ⟨hg1068, hm⟩ := gd_some hm
 refine wv (.int .u64 (iShr .u64 x1063 ((o0.up).length : Int))) z z (x_shr (of_decide_eq_true hg1068) z z) (wv (.bool ((iShr .u64 x1063 ((o0.up).length : Int)) != (0:Int))) z z z (wv (.bool ((iShr .u64 x1063 ((o0.up).length : Int)) != (0:Int))) z z z ?_))
 refine bsplit ((iShr .u64 x1063 ((o0.up).length : Int)) != (0:Int)) (fun hc1069 => ?_) (fun hc1069 => ?_)
 {
 replace hm := bif_t hc1069 hm
 refine wo hc1069 z z z z z z (wo hc1069 z z z z z z (wo hc1069 z z z z z z (wo hc1069 z z z z z z (wo hc1069 z z z z z z (wv (.bool true) z z (x_pick_t hc1069 z z) (wl_nil (tn ?_)))))))
 refine wp_ift z ?_
 refine wp_seq (wrl (wv (.bool false) z z z (wl_nil (tn (wp_ret (then_r (blk_r (then_r (then_r ?_)))))))))
 replace hm := inr_up hm hx1060
 refine blk_r (then_r ?_)
 replace hst := hst.pull6.pull6.pull6.pull6.pull6.pull6.pull6
 replace hst := at_label_Lattice_close (pv := Pt b940 0) (x := o0) hst z
 replace hst := objO_some hst
 obtain rfl := some_inj hm
 refine post_ret (vs := [.bool false]) results45 (rvs_cons (rv_tmp z) rvs_nil) ?_
 exact ⟨z, hst.keep1⟩
}
 {
 replace hm := bif_f hc1069 hm
 refine wv (.int .u64 x1063) ((wanted_eq z z z (cvb hc1069)).trans z) z z (wv (.int .i64 z1053) ((wanted_eq z z z (cvb hc1069)).trans z) z z ?_)
 obtain ⟨hg1070, hm⟩ := gd_some hm
 refine wv (.int .u64 (iShr .u64 x1063 z1053)) ((wanted_eq z z z (cvb hc1069)).trans z) z (x_shr (of_decide_eq_true hg1070) z z) (wv (.int .u64 (bAnd .u64 (iShr .u64 x1063 z1053) (1:Int))) ((wanted_eq z z z (cvb hc1069)).trans z) z z (wv (.bool ((bAnd .u64 (iShr .u64 x1063 z1053) (1:Int)) == (0:Int))) ((wanted_eq z z z (cvb hc1069)).trans z) z z (wv (.bool ((bAnd .u64 (iShr .u64 x1063 z1053) (1:Int)) == (0:Int))) z z (x_pick_f hc1069 z z) (wl_nil (tn ?_)))))
 refine bsplit ((bAnd .u64 (iShr .u64 x1063 z1053) (1:Int)) == (0:Int)) (fun hc1071 => ?_) (fun hc1071 => ?_)
 {
 replace hm := bif_t hc1071 hm
 refine wp_ift (cvb hc1071) ?_
 refine wp_seq (wrl (wv (.bool false) z z z (wl_nil (tn (wp_ret (then_r (blk_r (then_r (then_r ?_)))))))))
 replace hm := inr_up hm hx1060
 refine blk_r (then_r ?_)
 replace hst := hst.pull6.pull6.pull6.pull6.pull6.pull6.pull6
 replace hst := at_label_Lattice_close (pv := Pt b940 0) (x := o0) hst z
 replace hst := objO_some hst
 obtain rfl := some_inj hm
 refine post_ret (vs := [.bool false]) results45 (rvs_cons (rv_tmp z) rvs_nil) ?_
 exact ⟨z, hst.keep1⟩
}
 {
 replace hm := bif_f hc1071 hm
 refine wp_iff (cvb hc1071) ?_
 refine wp_skip (tn (wp_seq (wrl ?_)))
 refine wv (.int .i64 ((o0.up).length : Int)) z z z (wv (.int .i64 (0:Int)) z z z (wl_nil (tn (wp_block ?_))))
 obtain ⟨n1098, hm⟩ := loopO_some hm
 refine wp_loop_n (fun n a w => ∃ (z1096 : Int) (σ1097 : Nat → Value), loopN (label_Lattice_orders_l1 o0 x1063 z1053) n z1096 = some y1059 ∧ a = Fr 74 (upd (upd (upd (upd (upd (upd (upd (upd (upd σ1097 0 (Pt b940 0)) 3 (.int .i64 ((o0.up).length : Int))) 4 (.int .i64 z1053)) 5 (.int .u64 x1063)) 15 (v941)) 16 (.int .i64 ((o0.up).length : Int))) 17 (.int .i64 z1053)) 33 (.int .i64 ((o0.up).length : Int))) 34 (.int .i64 z1096)) ∧ St w0 w I [cells b940 [v941, v943, v945, v947, v949, v951], ownS (tyInt .u64) v941 o0.up, ownS (tyInt .u64) v943 o0.down, ownS (tySl (tyInt .i64)) v945 o0.join, ownS (tySl (tyInt .i64)) v947 o0.meet, ownS (tyInt .i64) v949 o0.rank, ownS (tyInt .i64) v951 o0.all] R) n1098 ⟨(0:Int), _, hm, (fu 0 (Pt b940 0) z (fu 3 (.int .i64 ((o0.up).length : Int)) z (fu 4 (.int .i64 z1053) z (fu 5 (.int .u64 x1063) z (fu 15 v941 z (fu 16 (.int .i64 ((o0.up).length : Int)) z (fu 17 (.int .i64 z1053) z (fu 33 (.int .i64 ((o0.up).length : Int)) z (fu 34 (.int .i64 (0:Int)) z z))))))))), hst⟩ ?_
 rintro n1104 _ w1099 ⟨z1096, σ1097, hm, rfl, hst⟩
 obtain ⟨n1101, y1102, rfl, hm, hx1103⟩ := loopN_some hm
 dsimp only [label_Lattice_orders_l1] at hm
 refine wp_seq (wrl (wv (.bool (decide (z1096 < ((o0.up).length : Int)))) z z z (wl_nil (tn (wp_seq ?_)))))
 refine bsplit (decide (z1096 < ((o0.up).length : Int))) (fun hc1105 => ?_) (fun hc1105 => ?_)
 {
 replace hm := bif_t hc1105 hm
 refine wp_ift (cvb hc1105) ?_
 refine wp_skip (tn (wp_seq (wp_block (wp_seq (wrl ?_)))))
 refine wv (.int .i64 z1096) z z z (wv (.int .i64 z1096) z z z (wl_nil (tn (wp_seq (wrl (wv (.int .u64 x1063) z z z (wv (.int .i64 z1096) z z z ?_)))))))
 obtain ⟨hg1106, hm⟩ := gd_some hm
 refine wv (.int .u64 (iShr .u64 x1063 z1096)) z z (x_shr (of_decide_eq_true hg1106) z z) (wv (.int .u64 (bAnd .u64 (iShr .u64 x1063 z1096) (1:Int))) z z z (wv (.bool ((bAnd .u64 (iShr .u64 x1063 z1096) (1:Int)) == (1:Int))) z z z (wv (.bool ((bAnd .u64 (iShr .u64 x1063 z1096) (1:Int)) == (1:Int))) z z z ?_)))
 refine bsplit ((bAnd .u64 (iShr .u64 x1063 z1096) (1:Int)) == (1:Int)) (fun hc1107 => ?_) (fun hc1107 => ?_)
 {
 replace hm := bif_t hc1107 hm
 refine wv (Pt b940 0) ((wanted_eq z z z (cvb hc1107)).trans z) z z (wv (Pt b940 0) ((wanted_eq z z z (cvb hc1107)).trans z) z z (wv (Pt b940 0) ((wanted_eq z z z (cvb hc1107)).trans z) z (x_field z underlying73 z sizeOf25 z) (wv (v941) ((wanted_eq z z z (cvb hc1107)).trans z) z (x_load z isAgg25 (hst.bc0 z)) (wv (.int .i64 z1096) ((wanted_eq z z z (cvb hc1107)).trans z) z z ?_))))
 obtain ⟨x1108, hx1109, hm⟩ := bind_some hm
 obtain ⟨h1110, h1111, hi1112⟩ := geto_some hx1109
 refine wv (.pointer (some (eAddr v941 (z1096.toNat * 1 + 0)))) ((wanted_eq z z z (cvb hc1107)).trans z) z (x_index z z underlying25 sizeOf22 hst.sv1 h1110 h1111) (wv (.int .u64 x1108) ((wanted_eq z z z (cvb hc1107)).trans z) z (x_load z isAgg22 (hst.ol1 hi1112 (by rintro _ rfl; rfl))) (wv (.int .u64 x1063) ((wanted_eq z z z (cvb hc1107)).trans z) z z (wv (.int .u64 (bAndNot .u64 x1108 x1063)) ((wanted_eq z z z (cvb hc1107)).trans z) z z (wv (.bool ((bAndNot .u64 x1108 x1063) != (0:Int))) ((wanted_eq z z z (cvb hc1107)).trans z) z z (wv (.bool ((bAndNot .u64 x1108 x1063) != (0:Int))) ((wanted_eq z z z (cvb hc1107)).trans z) z z ?_)))))
 refine bsplit ((bAndNot .u64 x1108 x1063) != (0:Int)) (fun hc1113 => ?_) (fun hc1113 => ?_)
 {
 replace hm := bif_t hc1113 hm
 refine wo hc1113 z z z z z z (wo hc1113 z z z z z z (wo hc1113 z z z z z z (wo hc1113 z z z z z z (wl_off (wanted_undef z z z z) z (wl_off (wanted_undef z z z z) z (wl_off (wanted_undef z z z z) z (wl_off (wanted_undef z z z z) z (wl_off (wanted_undef z z z z) z (wl_off (wanted_undef z z z z) z (wl_off (wanted_undef z z z z) z (wl_off (wanted_undef z z z z) z (wl_off (wanted_undef z z z z) z ?_))))))))))))
 refine wl_off (wanted_undef z z z z) z (wl_off (wanted_undef z z z z) z (wo hc1113 z z z z z z (wv (.bool true) ((wanted_eq z z z (cvb hc1107)).trans z) z (x_pick_t hc1113 z z) (wv (.bool true) z z (x_pick_t hc1107 z z) (wl_nil (tn ?_))))))
 refine wp_ift z ?_
 refine wp_seq (wrl (wv (.bool false) z z z (wl_nil (tn (wp_ret (blk_r (then_r (then_r ?_))))))))
 replace hm := inr_up hm hx1103
 refine blk_r (blk_r (then_r (then_r ?_)))
 replace hm := inr_up hm hx1060
 refine blk_r (then_r ?_)
 replace hst := hst.pull6.pull6.pull6.pull6.pull6.pull6.pull6
 replace hst := at_label_Lattice_close (pv := Pt b940 0) (x := o0) hst z
 replace hst := objO_some hst
 obtain rfl := some_inj hm
 refine post_ret (vs := [.bool false]) results45 (rvs_cons (rv_tmp z) rvs_nil) ?_
 exact ⟨z, hst.keep1⟩
}
 {
 replace hm := bif_f hc1113 hm
 refine wv (.int .i64 z1053) ((wanted_eq z z z (cvb hc1113)).trans z) z z (wv (.int .i64 z1096) ((wanted_eq z z z (cvb hc1113)).trans z) z z (wv (.bool (z1053 != z1096)) ((wanted_eq z z z (cvb hc1113)).trans z) z z (wv (.bool (z1053 != z1096)) ((wanted_eq z z z (cvb hc1113)).trans z) z z ?_)))
 refine bsplit (z1053 != z1096) (fun hc1114 => ?_) (fun hc1114 => ?_)
 {
 replace hm := bif_t hc1114 hm
 refine wv (Pt b940 0) ((wanted_eq z z z (cvb hc1114)).trans z) z z (wv (Pt b940 0) ((wanted_eq z z z (cvb hc1114)).trans z) z z (wv (Pt b940 0) ((wanted_eq z z z (cvb hc1114)).trans z) z (x_field z underlying73 z sizeOf25 z) (wv (v941) ((wanted_eq z z z (cvb hc1114)).trans z) z (x_load z isAgg25 (hst.bc0 z)) (wv (.int .i64 z1096) ((wanted_eq z z z (cvb hc1114)).trans z) z z (wv (.pointer (some (eAddr v941 (z1096.toNat * 1 + 0)))) ((wanted_eq z z z (cvb hc1114)).trans z) z (x_index z z underlying25 sizeOf22 hst.sv1 h1110 h1111) (wv (.int .u64 x1108) ((wanted_eq z z z (cvb hc1114)).trans z) z (x_load z isAgg22 (hst.ol1 hi1112 (by rintro _ rfl; rfl))) (wv (.int .i64 z1053) ((wanted_eq z z z (cvb hc1114)).trans z) z z ?_)))))))
 obtain ⟨hg1115, hm⟩ := gd_some hm
 refine wv (.int .u64 (iShr .u64 x1108 z1053)) ((wanted_eq z z z (cvb hc1114)).trans z) z (x_shr (of_decide_eq_true hg1115) z z) (wv (.int .u64 (bAnd .u64 (iShr .u64 x1108 z1053) (1:Int))) ((wanted_eq z z z (cvb hc1114)).trans z) z z (wv (.bool ((bAnd .u64 (iShr .u64 x1108 z1053) (1:Int)) == (1:Int))) ((wanted_eq z z z (cvb hc1114)).trans z) z z (wv (.bool ((bAnd .u64 (iShr .u64 x1108 z1053) (1:Int)) == (1:Int))) ((wanted_eq z z z (cvb hc1113)).trans z) z (x_pick_t hc1114 z z) (wv (.bool ((bAnd .u64 (iShr .u64 x1108 z1053) (1:Int)) == (1:Int))) ((wanted_eq z z z (cvb hc1107)).trans z) z (x_pick_f hc1113 z z) (wv (.bool ((bAnd .u64 (iShr .u64 x1108 z1053) (1:Int)) == (1:Int))) z z (x_pick_t hc1107 z z) (wl_nil (tn ?_)))))))
 refine bsplit ((bAnd .u64 (iShr .u64 x1108 z1053) (1:Int)) == (1:Int)) (fun hc1116 => ?_) (fun hc1116 => ?_)
 {
 replace hm := bif_t hc1116 hm
 refine wp_ift (cvb hc1116) ?_
 refine wp_seq (wrl (wv (.bool false) z z z (wl_nil (tn (wp_ret (blk_r (then_r (then_r ?_))))))))
 replace hm := inr_up hm hx1103
 refine blk_r (blk_r (then_r (then_r ?_)))
 replace hm := inr_up hm hx1060
 refine blk_r (then_r ?_)
 replace hst := hst.pull6.pull6.pull6.pull6.pull6.pull6.pull6
 replace hst := at_label_Lattice_close (pv := Pt b940 0) (x := o0) hst z
 replace hst := objO_some hst
 obtain rfl := some_inj hm
 refine post_ret (vs := [.bool false]) results45 (rvs_cons (rv_tmp z) rvs_nil) ?_
 exact ⟨z, hst.keep1⟩
}
 {
 replace hm := bif_f hc1116 hm
 refine wp_iff (cvb hc1116) ?_
 refine wp_skip (blk_n (tn (wrl ?_)))
 refine wv (.int .i64 (i64.wrap (z1096 + (1:Int)))) z z z (wv (.int .i64 (i64.wrap (z1096 + (1:Int)))) z z z (wl_nil (tn ?_)))
 replace hst := hst.pull6.pull6.pull6.pull6.pull6.pull6.pull6.keep7
 obtain rfl := some_inj hm
 exact ⟨_, Nat.lt_succ_self _, (i64.wrap (z1096 + (1:Int))), _, hx1103, (fu 0 (Pt b940 0) z (fu 3 (.int .i64 ((o0.up).length : Int)) z (fu 4 (.int .i64 z1053) z (fu 5 (.int .u64 x1063) z (fu 15 v941 z (fu 16 (.int .i64 ((o0.up).length : Int)) z (fu 17 (.int .i64 z1053) z (fu 33 (.int .i64 ((o0.up).length : Int)) z (fu 34 (.int .i64 (i64.wrap (z1096 + (1:Int)))) z z))))))))), hst⟩
}
}
 {
 replace hm := bif_f hc1114 hm
 refine wo hc1114 z z z z z z (wo hc1114 z z z z z z (wo hc1114 z z z z z z (wo hc1114 z z z z z z (wo hc1114 z z z z z z (wo hc1114 z z z z z z (wo hc1114 z z z z z z (wo hc1114 z z z z z z (wo hc1114 z z z z z z (wo hc1114 z z z z z z (wo hc1114 z z z z z z (wv (.bool false) ((wanted_eq z z z (cvb hc1113)).trans z) z (x_pick_f hc1114 z z) (wv (.bool false) ((wanted_eq z z z (cvb hc1107)).trans z) z (x_pick_f hc1113 z z) ?_))))))))))))
 refine wv (.bool false) z z (x_pick_t hc1107 z z) (wl_nil (tn ?_))
 refine wp_iff z ?_
 refine wp_skip (blk_n (tn (wrl ?_)))
 refine wv (.int .i64 (i64.wrap (z1096 + (1:Int)))) z z z (wv (.int .i64 (i64.wrap (z1096 + (1:Int)))) z z z (wl_nil (tn ?_)))
 replace hst := hst.pull6.pull6.pull6.pull6.pull6.pull6.pull6.keep7
 obtain rfl := some_inj hm
 exact ⟨_, Nat.lt_succ_self _, (i64.wrap (z1096 + (1:Int))), _, hx1103, (fu 0 (Pt b940 0) z (fu 3 (.int .i64 ((o0.up).length : Int)) z (fu 4 (.int .i64 z1053) z (fu 5 (.int .u64 x1063) z (fu 15 v941 z (fu 16 (.int .i64 ((o0.up).length : Int)) z (fu 17 (.int .i64 z1053) z (fu 33 (.int .i64 ((o0.up).length : Int)) z (fu 34 (.int .i64 (i64.wrap (z1096 + (1:Int)))) z z))))))))), hst⟩
}
}
}
 {
 replace hm := bif_f hc1107 hm
 refine wo hc1107 z z z z z z (wo hc1107 z z z z z z (wo hc1107 z z z z z z (wo hc1107 z z z z z z (wo hc1107 z z z z z z (wo hc1107 z z z z z z (wo hc1107 z z z z z z (wo hc1107 z z z z z z (wo hc1107 z z z z z z (wo hc1107 z z z z z z (wo hc1107 z z z z z z (wl_off (wanted_undef z z z z) z (wl_off (wanted_undef z z z z) z ?_))))))))))))
 refine wl_off (wanted_undef z z z z) z (wl_off (wanted_undef z z z z) z (wl_off (wanted_undef z z z z) z (wl_off (wanted_undef z z z z) z (wl_off (wanted_undef z z z z) z (wl_off (wanted_undef z z z z) z (wl_off (wanted_undef z z z z) z (wl_off (wanted_undef z z z z) z (wl_off (wanted_undef z z z z) z (wl_off (wanted_undef z z z z) z (wl_off (wanted_undef z z z z) z (wl_off (wanted_undef z z z z) z (wl_off (wanted_undef z z z z) z ?_))))))))))))
 refine wl_off (wanted_undef z z z z) z (wo hc1107 z z z z z z (wv (.bool false) z z (x_pick_f hc1107 z z) (wl_nil (tn ?_))))
 refine wp_iff z ?_
 refine wp_skip (blk_n (tn (wrl ?_)))
 refine wv (.int .i64 (i64.wrap (z1096 + (1:Int)))) z z z (wv (.int .i64 (i64.wrap (z1096 + (1:Int)))) z z z (wl_nil (tn ?_)))
 replace hst := hst.pull6.pull6.pull6.pull6.pull6.pull6.pull6.keep7
 obtain rfl := some_inj hm
 exact ⟨_, Nat.lt_succ_self _, (i64.wrap (z1096 + (1:Int))), _, hx1103, (fu 0 (Pt b940 0) z (fu 3 (.int .i64 ((o0.up).length : Int)) z (fu 4 (.int .i64 z1053) z (fu 5 (.int .u64 x1063) z (fu 15 v941 z (fu 16 (.int .i64 ((o0.up).length : Int)) z (fu 17 (.int .i64 z1053) z (fu 33 (.int .i64 ((o0.up).length : Int)) z (fu 34 (.int .i64 (i64.wrap (z1096 + (1:Int)))) z z))))))))), hst⟩
}
}
 {
 replace hm := bif_f hc1105 hm
 refine wp_iff (cvb hc1105) ?_
 refine wp_exit (then_x (then_x ?_))
 replace hm := inr_up hm hx1103
 refine blk_x (blk_n (tn (wrl ?_)))
 refine wv (.int .i64 (i64.wrap (z1053 + (1:Int)))) z z z (wv (.int .i64 (i64.wrap (z1053 + (1:Int)))) z z z (wl_nil (tn ?_)))
 replace hst := hst.pull6.pull6.pull6.pull6.pull6.pull6.pull6.keep7
 obtain rfl := some_inj hm
 exact ⟨_, Nat.lt_succ_self _, (i64.wrap (z1053 + (1:Int))), _, hx1060, (fu 0 (Pt b940 0) z (fu 3 (.int .i64 ((o0.up).length : Int)) z (fu 15 v941 z (fu 16 (.int .i64 ((o0.up).length : Int)) z (fu 17 (.int .i64 (i64.wrap (z1053 + (1:Int)))) z z))))), hst⟩
}
}
}
}
 {
 replace hm := bif_f hc1062 hm
 refine wp_iff (cvb hc1062) ?_
 refine wp_exit (then_x (then_x ?_))
 replace hm := inr_up hm hx1060
 refine blk_x (tn (wp_seq (wrl ?_)))
 refine wv (.bool true) z z z (wl_nil (tn (wp_ret ?_)))
 replace hst := hst.pull6.pull6.pull6.pull6.pull6.pull6.pull6
 replace hst := at_label_Lattice_close (pv := Pt b940 0) (x := o0) hst z
 replace hst := objO_some hst
 obtain rfl := some_inj hm
 refine post_ret (vs := [.bool true]) results45 (rvs_cons (rv_tmp z) rvs_nil) ?_
 exact ⟨z, hst.keep1⟩
}
}
}

theorem label_least_ref {w0 w : World} {I : HL} {R : SP} {a0 : Int} {a1 : (List Int)} {r1_0 : Value} (f1_0 : Rd (tyInt .u64) R I r1_0 a1) (hst : St w0 w I [] R) {r : (Int × Bool)} (hm : label_least a0 a1 = some r) :
  Calls prog 46 #[U6 a0, r1_0] w fun e w' => e = .returned (.tuple #[I6 r.1, .bool r.2]) ∧ St w0 w' I [] R := by {
 unfold label_least at hm
 refine calls_start (args := [U6 a0, r1_0]) func46 z ntmps46 (Nat.le_of_ble_eq_true z) ?_
 refine wp_seq (wrl (wv (.int .i64 (0:Int)) z z z (wv (.bool false) z z z (wl_nil (tn (wp_seq (wp_seq (wrl (wv (r1_0) z z z (wv (.int .i64 ((a1).length : Int)) z z (x_len z underlying25 (rd_sliceV f1_0)) (wv (.int .i64 (0:Int)) z z z (wl_nil (tn (wp_block ?_))))))))))))))
 obtain ⟨n1127, hm⟩ := loopO_some hm
 refine wp_loop_n (fun n a w => ∃ (z1125 : Int) (σ1126 : Nat → Value), loopN (label_least_l0 a1 a0) n z1125 = some r ∧ a = Fr 28 (upd (upd (upd (upd σ1126 0 (.int .u64 a0)) 1 (r1_0)) 8 (.int .i64 ((a1).length : Int))) 9 (.int .i64 z1125)) ∧ St w0 w I [] R) n1127 ⟨(0:Int), _, hm, (fu 0 (.int .u64 a0) z (fu 1 r1_0 z (fu 8 (.int .i64 ((a1).length : Int)) z (fu 9 (.int .i64 (0:Int)) z z)))), hst⟩ ?_
 rintro n1133 _ w1128 ⟨z1125, σ1126, hm, rfl, hst⟩
 obtain ⟨n1130, y1131, rfl, hm, hx1132⟩ := loopN_some hm
 dsimp only [label_least_l0] at hm
 refine wp_seq (wrl (wv (.bool (decide (z1125 < ((a1).length : Int)))) z z z (wl_nil (tn (wp_seq ?_)))))
 refine bsplit (decide (z1125 < ((a1).length : Int))) (fun hc1134 => ?_) (fun hc1134 => ?_)
 {
 replace hm := bif_t hc1134 hm
 refine wp_ift (cvb hc1134) ?_
 refine wp_skip (tn (wp_seq (wp_block (wp_seq (wrl ?_)))))
 refine wv (.int .i64 z1125) z z z (wv (.int .i64 z1125) z z z (wl_nil (tn (wp_seq (wrl (wv (.int .u64 a0) z z z (wv (.int .i64 z1125) z z z ?_)))))))
 obtain ⟨hg1135, hm⟩ := gd_some hm
 refine wv (.int .u64 (iShr .u64 a0 z1125)) z z (x_shr (of_decide_eq_true hg1135) z z) (wv (.int .u64 (bAnd .u64 (iShr .u64 a0 z1125) (1:Int))) z z z (wv (.bool ((bAnd .u64 (iShr .u64 a0 z1125) (1:Int)) == (1:Int))) z z z (wv (.bool ((bAnd .u64 (iShr .u64 a0 z1125) (1:Int)) == (1:Int))) z z z ?_)))
 refine bsplit ((bAnd .u64 (iShr .u64 a0 z1125) (1:Int)) == (1:Int)) (fun hc1136 => ?_) (fun hc1136 => ?_)
 {
 replace hm := bif_t hc1136 hm
 refine wv (.int .u64 a0) ((wanted_eq z z z (cvb hc1136)).trans z) z z (wv (r1_0) ((wanted_eq z z z (cvb hc1136)).trans z) z z (wv (.int .i64 z1125) ((wanted_eq z z z (cvb hc1136)).trans z) z z ?_))
 obtain ⟨x1137, hx1138, hm⟩ := bind_some hm
 obtain ⟨h1139, h1140, hi1141⟩ := geto_some hx1138
 refine wv (.pointer (some (eAddr r1_0 (z1125.toNat * 1 + 0)))) ((wanted_eq z z z (cvb hc1136)).trans z) z (x_index z z underlying25 sizeOf22 (rd_sliceV f1_0) h1139 h1140) (wv (.int .u64 x1137) ((wanted_eq z z z (cvb hc1136)).trans z) z (x_load z isAgg22 (rd_load f1_0 (HL.le.refl _) hst hi1141 (by rintro _ rfl; rfl))) (wv (.int .u64 (bAndNot .u64 a0 x1137)) ((wanted_eq z z z (cvb hc1136)).trans z) z z (wv (.bool ((bAndNot .u64 a0 x1137) == (0:Int))) ((wanted_eq z z z (cvb hc1136)).trans z) z z (wv (.bool ((bAndNot .u64 a0 x1137) == (0:Int))) z z (x_pick_t hc1136 z z) (wl_nil (tn ?_))))))
 refine bsplit ((bAndNot .u64 a0 x1137) == (0:Int)) (fun hc1142 => ?_) (fun hc1142 => ?_)
 {
 replace hm := bif_t hc1142 hm
 refine wp_ift (cvb hc1142) ?_
 refine wp_seq (wrl (wv (.int .i64 z1125) z z z (wv (.int .i64 z1125) z z z (wv (.bool true) z z z (wl_nil (tn (wp_ret (blk_r (then_r (then_r ?_))))))))))
 replace hm := inr_up hm hx1132
 refine blk_r (then_r ?_)
 obtain rfl := some_inj hm
 refine post_ret (vs := [I6 z1125, .bool true]) results46 (rvs_cons (rv_tmp z) (rvs_cons (rv_tmp z) rvs_nil)) ?_
 exact ⟨z, hst.keep0⟩
}
 {
 replace hm := bif_f hc1142 hm
 refine wp_iff (cvb hc1142) ?_
 refine wp_skip (blk_n (tn (wrl ?_)))
 refine wv (.int .i64 (i64.wrap (z1125 + (1:Int)))) z z z (wv (.int .i64 (i64.wrap (z1125 + (1:Int)))) z z z (wl_nil (tn ?_)))
 replace hst := hst.keep0
 obtain rfl := some_inj hm
 exact ⟨_, Nat.lt_succ_self _, (i64.wrap (z1125 + (1:Int))), _, hx1132, (fu 0 (.int .u64 a0) z (fu 1 r1_0 z (fu 8 (.int .i64 ((a1).length : Int)) z (fu 9 (.int .i64 (i64.wrap (z1125 + (1:Int)))) z z)))), hst⟩
}
}
 {
 replace hm := bif_f hc1136 hm
 refine wo hc1136 z z z z z z (wo hc1136 z z z z z z (wo hc1136 z z z z z z (wo hc1136 z z z z z z (wo hc1136 z z z z z z (wo hc1136 z z z z z z (wo hc1136 z z z z z z (wv (.bool false) z z (x_pick_f hc1136 z z) (wl_nil (tn ?_)))))))))
 refine wp_iff z ?_
 refine wp_skip (blk_n (tn (wrl ?_)))
 refine wv (.int .i64 (i64.wrap (z1125 + (1:Int)))) z z z (wv (.int .i64 (i64.wrap (z1125 + (1:Int)))) z z z (wl_nil (tn ?_)))
 replace hst := hst.keep0
 obtain rfl := some_inj hm
 exact ⟨_, Nat.lt_succ_self _, (i64.wrap (z1125 + (1:Int))), _, hx1132, (fu 0 (.int .u64 a0) z (fu 1 r1_0 z (fu 8 (.int .i64 ((a1).length : Int)) z (fu 9 (.int .i64 (i64.wrap (z1125 + (1:Int)))) z z)))), hst⟩
}
}
 {
 replace hm := bif_f hc1134 hm
 refine wp_iff (cvb hc1134) ?_
 refine wp_exit (then_x (then_x ?_))
 replace hm := inr_up hm hx1132
 refine blk_x (tn (wp_seq (wrl ?_)))
 refine wv (.int .i64 (0:Int)) z z z (wv (.bool false) z z z (wl_nil (tn (wp_ret ?_))))
 obtain rfl := some_inj hm
 refine post_ret (vs := [Zi, .bool false]) results46 (rvs_cons (rv_tmp z) (rvs_cons (rv_tmp z) rvs_nil)) ?_
 exact ⟨z, hst.keep0⟩
}
}

theorem math_bits_OnesCount64_ref {w0 w : World} {I : HL} {R : SP} {a0 : Int}  (hst : St w0 w I [] R) {r : (Int)} (hm : math_bits_OnesCount64 a0 = some r) :
  Calls prog 32 #[U6 a0] w fun e w' => e = .returned (.int .i64 r) ∧ St w0 w' I [] R := by {
 unfold math_bits_OnesCount64 at hm
 refine calls_start (args := [U6 a0]) func32 z ntmps32 (Nat.le_of_ble_eq_true z) ?_
 refine wp_seq (wrl (wv (.int .i64 (0:Int)) z z z (wl_nil (tn (wp_seq (wrl (wv (.int .u64 a0) z z z (wv (.int .u64 (iShr .u64 a0 (1:Int))) z z (x_shr (by decide) z z) (wv (.int .u64 (bAnd .u64 (iShr .u64 a0 (1:Int)) (6148914691236517205:Int))) z z z (wv (.int .u64 a0) z z z (wv (.int .u64 (bAnd .u64 a0 (6148914691236517205:Int))) z z z (wv (.int .u64 (u64.wrap ((bAnd .u64 (iShr .u64 a0 (1:Int)) (6148914691236517205:Int)) + (bAnd .u64 a0 (6148914691236517205:Int))))) z z z (wv (.int .u64 (u64.wrap ((bAnd .u64 (iShr .u64 a0 (1:Int)) (6148914691236517205:Int)) + (bAnd .u64 a0 (6148914691236517205:Int))))) z z z (wl_nil (tn (wp_seq (wrl (wv (.int .u64 (u64.wrap ((bAnd .u64 (iShr .u64 a0 (1:Int)) (6148914691236517205:Int)) + (bAnd .u64 a0 (6148914691236517205:Int))))) z z z (wv (.int .u64 (iShr .u64 (u64.wrap ((bAnd .u64 (iShr .u64 a0 (1:Int)) (6148914691236517205:Int)) + (bAnd .u64 a0 (6148914691236517205:Int)))) (2:Int))) z z (x_shr (by decide) z z) ?_)))))))))))))))))))
 refine wv (.int .u64 (bAnd .u64 (iShr .u64 (u64.wrap ((bAnd .u64 (iShr .u64 a0 (1:Int)) (6148914691236517205:Int)) + (bAnd .u64 a0 (6148914691236517205:Int)))) (2:Int)) (3689348814741910323:Int))) z z z (wv (.int .u64 (u64.wrap ((bAnd .u64 (iShr .u64 a0 (1:Int)) (6148914691236517205:Int)) + (bAnd .u64 a0 (6148914691236517205:Int))))) z z z (wv (.int .u64 (bAnd .u64 (u64.wrap ((bAnd .u64 (iShr .u64 a0 (1:Int)) (6148914691236517205:Int)) + (bAnd .u64 a0 (6148914691236517205:Int)))) (3689348814741910323:Int))) z z z (wv (.int .u64 (u64.wrap ((bAnd .u64 (iShr .u64 (u64.wrap ((bAnd .u64 (iShr .u64 a0 (1:Int)) (6148914691236517205:Int)) + (bAnd .u64 a0 (6148914691236517205:Int)))) (2:Int)) (3689348814741910323:Int)) + (bAnd .u64 (u64.wrap ((bAnd .u64 (iShr .u64 a0 (1:Int)) (6148914691236517205:Int)) + (bAnd .u64 a0 (6148914691236517205:Int)))) (3689348814741910323:Int))))) z z z (wv (.int .u64 (u64.wrap ((bAnd .u64 (iShr .u64 (u64.wrap ((bAnd .u64 (iShr .u64 a0 (1:Int)) (6148914691236517205:Int)) + (bAnd .u64 a0 (6148914691236517205:Int)))) (2:Int)) (3689348814741910323:Int)) + (bAnd .u64 (u64.wrap ((bAnd .u64 (iShr .u64 a0 (1:Int)) (6148914691236517205:Int)) + (bAnd .u64 a0 (6148914691236517205:Int)))) (3689348814741910323:Int))))) z z z (wl_nil (tn (wp_seq (wrl (wv (.int .u64 (u64.wrap ((bAnd .u64 (iShr .u64 (u64.wrap ((bAnd .u64 (iShr .u64 a0 (1:Int)) (6148914691236517205:Int)) + (bAnd .u64 a0 (6148914691236517205:Int)))) (2:Int)) (3689348814741910323:Int)) + (bAnd .u64 (u64.wrap ((bAnd .u64 (iShr .u64 a0 (1:Int)) (6148914691236517205:Int)) + (bAnd .u64 a0 (6148914691236517205:Int)))) (3689348814741910323:Int))))) z z z (wv (.int .u64 (iShr .u64 (u64.wrap ((bAnd .u64 (iShr .u64 (u64.wrap ((bAnd .u64 (iShr .u64 a0 (1:Int)) (6148914691236517205:Int)) + (bAnd .u64 a0 (6148914691236517205:Int)))) (2:Int)) (3689348814741910323:Int)) + (bAnd .u64 (u64.wrap ((bAnd .u64 (iShr .u64 a0 (1:Int)) (6148914691236517205:Int)) + (bAnd .u64 a0 (6148914691236517205:Int)))) (3689348814741910323:Int)))) (4:Int))) z z (x_shr (by decide) z z) (wv (.int .u64 (u64.wrap ((bAnd .u64 (iShr .u64 (u64.wrap ((bAnd .u64 (iShr .u64 a0 (1:Int)) (6148914691236517205:Int)) + (bAnd .u64 a0 (6148914691236517205:Int)))) (2:Int)) (3689348814741910323:Int)) + (bAnd .u64 (u64.wrap ((bAnd .u64 (iShr .u64 a0 (1:Int)) (6148914691236517205:Int)) + (bAnd .u64 a0 (6148914691236517205:Int)))) (3689348814741910323:Int))))) z z z (wv (.int .u64 (u64.wrap ((iShr .u64 (u64.wrap ((bAnd .u64 (iShr .u64 (u64.wrap ((bAnd .u64 (iShr .u64 a0 (1:Int)) (6148914691236517205:Int)) + (bAnd .u64 a0 (6148914691236517205:Int)))) (2:Int)) (3689348814741910323:Int)) + (bAnd .u64 (u64.wrap ((bAnd .u64 (iShr .u64 a0 (1:Int)) (6148914691236517205:Int)) + (bAnd .u64 a0 (6148914691236517205:Int)))) (3689348814741910323:Int)))) (4:Int)) + (u64.wrap ((bAnd .u64 (iShr .u64 (u64.wrap ((bAnd .u64 (iShr .u64 a0 (1:Int)) (6148914691236517205:Int)) + (bAnd .u64 a0 (6148914691236517205:Int)))) (2:Int)) (3689348814741910323:Int)) + (bAnd .u64 (u64.wrap ((bAnd .u64 (iShr .u64 a0 (1:Int)) (6148914691236517205:Int)) + (bAnd .u64 a0 (6148914691236517205:Int)))) (3689348814741910323:Int))))))) z z z (wv (.int .u64 (bAnd .u64 (u64.wrap ((iShr .u64 (u64.wrap ((bAnd .u64 (iShr .u64 (u64.wrap ((bAnd .u64 (iShr .u64 a0 (1:Int)) (6148914691236517205:Int)) + (bAnd .u64 a0 (6148914691236517205:Int)))) (2:Int)) (3689348814741910323:Int)) + (bAnd .u64 (u64.wrap ((bAnd .u64 (iShr .u64 a0 (1:Int)) (6148914691236517205:Int)) + (bAnd .u64 a0 (6148914691236517205:Int)))) (3689348814741910323:Int)))) (4:Int)) + (u64.wrap ((bAnd .u64 (iShr .u64 (u64.wrap ((bAnd .u64 (iShr .u64 a0 (1:Int)) (6148914691236517205:Int)) + (bAnd .u64 a0 (6148914691236517205:Int)))) (2:Int)) (3689348814741910323:Int)) + (bAnd .u64 (u64.wrap ((bAnd .u64 (iShr .u64 a0 (1:Int)) (6148914691236517205:Int)) + (bAnd .u64 a0 (6148914691236517205:Int)))) (3689348814741910323:Int)))))) (1085102592571150095:Int))) z z z (wv (.int .u64 (bAnd .u64 (u64.wrap ((iShr .u64 (u64.wrap ((bAnd .u64 (iShr .u64 (u64.wrap ((bAnd .u64 (iShr .u64 a0 (1:Int)) (6148914691236517205:Int)) + (bAnd .u64 a0 (6148914691236517205:Int)))) (2:Int)) (3689348814741910323:Int)) + (bAnd .u64 (u64.wrap ((bAnd .u64 (iShr .u64 a0 (1:Int)) (6148914691236517205:Int)) + (bAnd .u64 a0 (6148914691236517205:Int)))) (3689348814741910323:Int)))) (4:Int)) + (u64.wrap ((bAnd .u64 (iShr .u64 (u64.wrap ((bAnd .u64 (iShr .u64 a0 (1:Int)) (6148914691236517205:Int)) + (bAnd .u64 a0 (6148914691236517205:Int)))) (2:Int)) (3689348814741910323:Int)) + (bAnd .u64 (u64.wrap ((bAnd .u64 (iShr .u64 a0 (1:Int)) (6148914691236517205:Int)) + (bAnd .u64 a0 (6148914691236517205:Int)))) (3689348814741910323:Int)))))) (1085102592571150095:Int))) z z z (wl_nil (tn (wp_seq (wrl ?_))))))))))))))))))
 refine wv (.int .u64 (bAnd .u64 (u64.wrap ((iShr .u64 (u64.wrap ((bAnd .u64 (iShr .u64 (u64.wrap ((bAnd .u64 (iShr .u64 a0 (1:Int)) (6148914691236517205:Int)) + (bAnd .u64 a0 (6148914691236517205:Int)))) (2:Int)) (3689348814741910323:Int)) + (bAnd .u64 (u64.wrap ((bAnd .u64 (iShr .u64 a0 (1:Int)) (6148914691236517205:Int)) + (bAnd .u64 a0 (6148914691236517205:Int)))) (3689348814741910323:Int)))) (4:Int)) + (u64.wrap ((bAnd .u64 (iShr .u64 (u64.wrap ((bAnd .u64 (iShr .u64 a0 (1:Int)) (6148914691236517205:Int)) + (bAnd .u64 a0 (6148914691236517205:Int)))) (2:Int)) (3689348814741910323:Int)) + (bAnd .u64 (u64.wrap ((bAnd .u64 (iShr .u64 a0 (1:Int)) (6148914691236517205:Int)) + (bAnd .u64 a0 (6148914691236517205:Int)))) (3689348814741910323:Int)))))) (1085102592571150095:Int))) z z z (wv (.int .u64 (bAnd .u64 (u64.wrap ((iShr .u64 (u64.wrap ((bAnd .u64 (iShr .u64 (u64.wrap ((bAnd .u64 (iShr .u64 a0 (1:Int)) (6148914691236517205:Int)) + (bAnd .u64 a0 (6148914691236517205:Int)))) (2:Int)) (3689348814741910323:Int)) + (bAnd .u64 (u64.wrap ((bAnd .u64 (iShr .u64 a0 (1:Int)) (6148914691236517205:Int)) + (bAnd .u64 a0 (6148914691236517205:Int)))) (3689348814741910323:Int)))) (4:Int)) + (u64.wrap ((bAnd .u64 (iShr .u64 (u64.wrap ((bAnd .u64 (iShr .u64 a0 (1:Int)) (6148914691236517205:Int)) + (bAnd .u64 a0 (6148914691236517205:Int)))) (2:Int)) (3689348814741910323:Int)) + (bAnd .u64 (u64.wrap ((bAnd .u64 (iShr .u64 a0 (1:Int)) (6148914691236517205:Int)) + (bAnd .u64 a0 (6148914691236517205:Int)))) (3689348814741910323:Int)))))) (1085102592571150095:Int))) z z z (wv (.int .u64 (iShr .u64 (bAnd .u64 (u64.wrap ((iShr .u64 (u64.wrap ((bAnd .u64 (iShr .u64 (u64.wrap ((bAnd .u64 (iShr .u64 a0 (1:Int)) (6148914691236517205:Int)) + (bAnd .u64 a0 (6148914691236517205:Int)))) (2:Int)) (3689348814741910323:Int)) + (bAnd .u64 (u64.wrap ((bAnd .u64 (iShr .u64 a0 (1:Int)) (6148914691236517205:Int)) + (bAnd .u64 a0 (6148914691236517205:Int)))) (3689348814741910323:Int)))) (4:Int)) + (u64.wrap ((bAnd .u64 (iShr .u64 (u64.wrap ((bAnd .u64 (iShr .u64 a0 (1:Int)) (6148914691236517205:Int)) + (bAnd .u64 a0 (6148914691236517205:Int)))) (2:Int)) (3689348814741910323:Int)) + (bAnd .u64 (u64.wrap ((bAnd .u64 (iShr .u64 a0 (1:Int)) (6148914691236517205:Int)) + (bAnd .u64 a0 (6148914691236517205:Int)))) (3689348814741910323:Int)))))) (1085102592571150095:Int)) (8:Int))) z z (x_shr (by decide) z z) (wv (.int .u64 (u64.wrap ((bAnd .u64 (u64.wrap ((iShr .u64 (u64.wrap ((bAnd .u64 (iShr .u64 (u64.wrap ((bAnd .u64 (iShr .u64 a0 (1:Int)) (6148914691236517205:Int)) + (bAnd .u64 a0 (6148914691236517205:Int)))) (2:Int)) (3689348814741910323:Int)) + (bAnd .u64 (u64.wrap ((bAnd .u64 (iShr .u64 a0 (1:Int)) (6148914691236517205:Int)) + (bAnd .u64 a0 (6148914691236517205:Int)))) (3689348814741910323:Int)))) (4:Int)) + (u64.wrap ((bAnd .u64 (iShr .u64 (u64.wrap ((bAnd .u64 (iShr .u64 a0 (1:Int)) (6148914691236517205:Int)) + (bAnd .u64 a0 (6148914691236517205:Int)))) (2:Int)) (3689348814741910323:Int)) + (bAnd .u64 (u64.wrap ((bAnd .u64 (iShr .u64 a0 (1:Int)) (6148914691236517205:Int)) + (bAnd .u64 a0 (6148914691236517205:Int)))) (3689348814741910323:Int)))))) (1085102592571150095:Int)) + (iShr .u64 (bAnd .u64 (u64.wrap ((iShr .u64 (u64.wrap ((bAnd .u64 (iShr .u64 (u64.wrap ((bAnd .u64 (iShr .u64 a0 (1:Int)) (6148914691236517205:Int)) + (bAnd .u64 a0 (6148914691236517205:Int)))) (2:Int)) (3689348814741910323:Int)) + (bAnd .u64 (u64.wrap ((bAnd .u64 (iShr .u64 a0 (1:Int)) (6148914691236517205:Int)) + (bAnd .u64 a0 (6148914691236517205:Int)))) (3689348814741910323:Int)))) (4:Int)) + (u64.wrap ((bAnd .u64 (iShr .u64 (u64.wrap ((bAnd .u64 (iShr .u64 a0 (1:Int)) (6148914691236517205:Int)) + (bAnd .u64 a0 (6148914691236517205:Int)))) (2:Int)) (3689348814741910323:Int)) + (bAnd .u64 (u64.wrap ((bAnd .u64 (iShr .u64 a0 (1:Int)) (6148914691236517205:Int)) + (bAnd .u64 a0 (6148914691236517205:Int)))) (3689348814741910323:Int)))))) (1085102592571150095:Int)) (8:Int))))) z z z (wv (.int .u64 (u64.wrap ((bAnd .u64 (u64.wrap ((iShr .u64 (u64.wrap ((bAnd .u64 (iShr .u64 (u64.wrap ((bAnd .u64 (iShr .u64 a0 (1:Int)) (6148914691236517205:Int)) + (bAnd .u64 a0 (6148914691236517205:Int)))) (2:Int)) (3689348814741910323:Int)) + (bAnd .u64 (u64.wrap ((bAnd .u64 (iShr .u64 a0 (1:Int)) (6148914691236517205:Int)) + (bAnd .u64 a0 (6148914691236517205:Int)))) (3689348814741910323:Int)))) (4:Int)) + (u64.wrap ((bAnd .u64 (iShr .u64 (u64.wrap ((bAnd .u64 (iShr .u64 a0 (1:Int)) (6148914691236517205:Int)) + (bAnd .u64 a0 (6148914691236517205:Int)))) (2:Int)) (3689348814741910323:Int)) + (bAnd .u64 (u64.wrap ((bAnd .u64 (iShr .u64 a0 (1:Int)) (6148914691236517205:Int)) + (bAnd .u64 a0 (6148914691236517205:Int)))) (3689348814741910323:Int)))))) (1085102592571150095:Int)) + (iShr .u64 (bAnd .u64 (u64.wrap ((iShr .u64 (u64.wrap ((bAnd .u64 (iShr .u64 (u64.wrap ((bAnd .u64 (iShr .u64 a0 (1:Int)) (6148914691236517205:Int)) + (bAnd .u64 a0 (6148914691236517205:Int)))) (2:Int)) (3689348814741910323:Int)) + (bAnd .u64 (u64.wrap ((bAnd .u64 (iShr .u64 a0 (1:Int)) (6148914691236517205:Int)) + (bAnd .u64 a0 (6148914691236517205:Int)))) (3689348814741910323:Int)))) (4:Int)) + (u64.wrap ((bAnd .u64 (iShr .u64 (u64.wrap ((bAnd .u64 (iShr .u64 a0 (1:Int)) (6148914691236517205:Int)) + (bAnd .u64 a0 (6148914691236517205:Int)))) (2:Int)) (3689348814741910323:Int)) + (bAnd .u64 (u64.wrap ((bAnd .u64 (iShr .u64 a0 (1:Int)) (6148914691236517205:Int)) + (bAnd .u64 a0 (6148914691236517205:Int)))) (3689348814741910323:Int)))))) (1085102592571150095:Int)) (8:Int))))) z z z (wl_nil (tn (wp_seq (wrl (wv (.int .u64 (u64.wrap ((bAnd .u64 (u64.wrap ((iShr .u64 (u64.wrap ((bAnd .u64 (iShr .u64 (u64.wrap ((bAnd .u64 (iShr .u64 a0 (1:Int)) (6148914691236517205:Int)) + (bAnd .u64 a0 (6148914691236517205:Int)))) (2:Int)) (3689348814741910323:Int)) + (bAnd .u64 (u64.wrap ((bAnd .u64 (iShr .u64 a0 (1:Int)) (6148914691236517205:Int)) + (bAnd .u64 a0 (6148914691236517205:Int)))) (3689348814741910323:Int)))) (4:Int)) + (u64.wrap ((bAnd .u64 (iShr .u64 (u64.wrap ((bAnd .u64 (iShr .u64 a0 (1:Int)) (6148914691236517205:Int)) + (bAnd .u64 a0 (6148914691236517205:Int)))) (2:Int)) (3689348814741910323:Int)) + (bAnd .u64 (u64.wrap ((bAnd .u64 (iShr .u64 a0 (1:Int)) (6148914691236517205:Int)) + (bAnd .u64 a0 (6148914691236517205:Int)))) (3689348814741910323:Int)))))) (1085102592571150095:Int)) + (iShr .u64 (bAnd .u64 (u64.wrap ((iShr .u64 (u64.wrap ((bAnd .u64 (iShr .u64 (u64.wrap ((bAnd .u64 (iShr .u64 a0 (1:Int)) (6148914691236517205:Int)) + (bAnd .u64 a0 (6148914691236517205:Int)))) (2:Int)) (3689348814741910323:Int)) + (bAnd .u64 (u64.wrap ((bAnd .u64 (iShr .u64 a0 (1:Int)) (6148914691236517205:Int)) + (bAnd .u64 a0 (6148914691236517205:Int)))) (3689348814741910323:Int)))) (4:Int)) + (u64.wrap ((bAnd .u64 (iShr .u64 (u64.wrap ((bAnd .u64 (iShr .u64 a0 (1:Int)) (6148914691236517205:Int)) + (bAnd .u64 a0 (6148914691236517205:Int)))) (2:Int)) (3689348814741910323:Int)) + (bAnd .u64 (u64.wrap ((bAnd .u64 (iShr .u64 a0 (1:Int)) (6148914691236517205:Int)) + (bAnd .u64 a0 (6148914691236517205:Int)))) (3689348814741910323:Int)))))) (1085102592571150095:Int)) (8:Int))))) z z z (wv (.int .u64 (u64.wrap ((bAnd .u64 (u64.wrap ((iShr .u64 (u64.wrap ((bAnd .u64 (iShr .u64 (u64.wrap ((bAnd .u64 (iShr .u64 a0 (1:Int)) (6148914691236517205:Int)) + (bAnd .u64 a0 (6148914691236517205:Int)))) (2:Int)) (3689348814741910323:Int)) + (bAnd .u64 (u64.wrap ((bAnd .u64 (iShr .u64 a0 (1:Int)) (6148914691236517205:Int)) + (bAnd .u64 a0 (6148914691236517205:Int)))) (3689348814741910323:Int)))) (4:Int)) + (u64.wrap ((bAnd .u64 (iShr .u64 (u64.wrap ((bAnd .u64 (iShr .u64 a0 (1:Int)) (6148914691236517205:Int)) + (bAnd .u64 a0 (6148914691236517205:Int)))) (2:Int)) (3689348814741910323:Int)) + (bAnd .u64 (u64.wrap ((bAnd .u64 (iShr .u64 a0 (1:Int)) (6148914691236517205:Int)) + (bAnd .u64 a0 (6148914691236517205:Int)))) (3689348814741910323:Int)))))) (1085102592571150095:Int)) + (iShr .u64 (bAnd .u64 (u64.wrap ((iShr .u64 (u64.wrap ((bAnd .u64 (iShr .u64 (u64.wrap ((bAnd .u64 (iShr .u64 a0 (1:Int)) (6148914691236517205:Int)) + (bAnd .u64 a0 (6148914691236517205:Int)))) (2:Int)) (3689348814741910323:Int)) + (bAnd .u64 (u64.wrap ((bAnd .u64 (iShr .u64 a0 (1:Int)) (6148914691236517205:Int)) + (bAnd .u64 a0 (6148914691236517205:Int)))) (3689348814741910323:Int)))) (4:Int)) + (u64.wrap ((bAnd .u64 (iShr .u64 (u64.wrap ((bAnd .u64 (iShr .u64 a0 (1:Int)) (6148914691236517205:Int)) + (bAnd .u64 a0 (6148914691236517205:Int)))) (2:Int)) (3689348814741910323:Int)) + (bAnd .u64 (u64.wrap ((bAnd .u64 (iShr .u64 a0 (1:Int)) (6148914691236517205:Int)) + (bAnd .u64 a0 (6148914691236517205:Int)))) (3689348814741910323:Int)))))) (1085102592571150095:Int)) (8:Int))))) z z z (wv (.int .u64 (iShr .u64 (u64.wrap ((bAnd .u64 (u64.wrap ((iShr .u64 (u64.wrap ((bAnd .u64 (iShr .u64 (u64.wrap ((bAnd .u64 (iShr .u64 a0 (1:Int)) (6148914691236517205:Int)) + (bAnd .u64 a0 (6148914691236517205:Int)))) (2:Int)) (3689348814741910323:Int)) + (bAnd .u64 (u64.wrap ((bAnd .u64 (iShr .u64 a0 (1:Int)) (6148914691236517205:Int)) + (bAnd .u64 a0 (6148914691236517205:Int)))) (3689348814741910323:Int)))) (4:Int)) + (u64.wrap ((bAnd .u64 (iShr .u64 (u64.wrap ((bAnd .u64 (iShr .u64 a0 (1:Int)) (6148914691236517205:Int)) + (bAnd .u64 a0 (6148914691236517205:Int)))) (2:Int)) (3689348814741910323:Int)) + (bAnd .u64 (u64.wrap ((bAnd .u64 (iShr .u64 a0 (1:Int)) (6148914691236517205:Int)) + (bAnd .u64 a0 (6148914691236517205:Int)))) (3689348814741910323:Int)))))) (1085102592571150095:Int)) + (iShr .u64 (bAnd .u64 (u64.wrap ((iShr .u64 (u64.wrap ((bAnd .u64 (iShr .u64 (u64.wrap ((bAnd .u64 (iShr .u64 a0 (1:Int)) (6148914691236517205:Int)) + (bAnd .u64 a0 (6148914691236517205:Int)))) (2:Int)) (3689348814741910323:Int)) + (bAnd .u64 (u64.wrap ((bAnd .u64 (iShr .u64 a0 (1:Int)) (6148914691236517205:Int)) + (bAnd .u64 a0 (6148914691236517205:Int)))) (3689348814741910323:Int)))) (4:Int)) + (u64.wrap ((bAnd .u64 (iShr .u64 (u64.wrap ((bAnd .u64 (iShr .u64 a0 (1:Int)) (6148914691236517205:Int)) + (bAnd .u64 a0 (6148914691236517205:Int)))) (2:Int)) (3689348814741910323:Int)) + (bAnd .u64 (u64.wrap ((bAnd .u64 (iShr .u64 a0 (1:Int)) (6148914691236517205:Int)) + (bAnd .u64 a0 (6148914691236517205:Int)))) (3689348814741910323:Int)))))) (1085102592571150095:Int)) (8:Int)))) (16:Int))) z z (x_shr (by decide) z z) (wv (.int .u64 (u64.wrap ((u64.wrap ((bAnd .u64 (u64.wrap ((iShr .u64 (u64.wrap ((bAnd .u64 (iShr .u64 (u64.wrap ((bAnd .u64 (iShr .u64 a0 (1:Int)) (6148914691236517205:Int)) + (bAnd .u64 a0 (6148914691236517205:Int)))) (2:Int)) (3689348814741910323:Int)) + (bAnd .u64 (u64.wrap ((bAnd .u64 (iShr .u64 a0 (1:Int)) (6148914691236517205:Int)) + (bAnd .u64 a0 (6148914691236517205:Int)))) (3689348814741910323:Int)))) (4:Int)) + (u64.wrap ((bAnd .u64 (iShr .u64 (u64.wrap ((bAnd .u64 (iShr .u64 a0 (1:Int)) (6148914691236517205:Int)) + (bAnd .u64 a0 (6148914691236517205:Int)))) (2:Int)) (3689348814741910323:Int)) + (bAnd .u64 (u64.wrap ((bAnd .u64 (iShr .u64 a0 (1:Int)) (6148914691236517205:Int)) + (bAnd .u64 a0 (6148914691236517205:Int)))) (3689348814741910323:Int)))))) (1085102592571150095:Int)) + (iShr .u64 (bAnd .u64 (u64.wrap ((iShr .u64 (u64.wrap ((bAnd .u64 (iShr .u64 (u64.wrap ((bAnd .u64 (iShr .u64 a0 (1:Int)) (6148914691236517205:Int)) + (bAnd .u64 a0 (6148914691236517205:Int)))) (2:Int)) (3689348814741910323:Int)) + (bAnd .u64 (u64.wrap ((bAnd .u64 (iShr .u64 a0 (1:Int)) (6148914691236517205:Int)) + (bAnd .u64 a0 (6148914691236517205:Int)))) (3689348814741910323:Int)))) (4:Int)) + (u64.wrap ((bAnd .u64 (iShr .u64 (u64.wrap ((bAnd .u64 (iShr .u64 a0 (1:Int)) (6148914691236517205:Int)) + (bAnd .u64 a0 (6148914691236517205:Int)))) (2:Int)) (3689348814741910323:Int)) + (bAnd .u64 (u64.wrap ((bAnd .u64 (iShr .u64 a0 (1:Int)) (6148914691236517205:Int)) + (bAnd .u64 a0 (6148914691236517205:Int)))) (3689348814741910323:Int)))))) (1085102592571150095:Int)) (8:Int)))) + (iShr .u64 (u64.wrap ((bAnd .u64 (u64.wrap ((iShr .u64 (u64.wrap ((bAnd .u64 (iShr .u64 (u64.wrap ((bAnd .u64 (iShr .u64 a0 (1:Int)) (6148914691236517205:Int)) + (bAnd .u64 a0 (6148914691236517205:Int)))) (2:Int)) (3689348814741910323:Int)) + (bAnd .u64 (u64.wrap ((bAnd .u64 (iShr .u64 a0 (1:Int)) (6148914691236517205:Int)) + (bAnd .u64 a0 (6148914691236517205:Int)))) (3689348814741910323:Int)))) (4:Int)) + (u64.wrap ((bAnd .u64 (iShr .u64 (u64.wrap ((bAnd .u64 (iShr .u64 a0 (1:Int)) (6148914691236517205:Int)) + (bAnd .u64 a0 (6148914691236517205:Int)))) (2:Int)) (3689348814741910323:Int)) + (bAnd .u64 (u64.wrap ((bAnd .u64 (iShr .u64 a0 (1:Int)) (6148914691236517205:Int)) + (bAnd .u64 a0 (6148914691236517205:Int)))) (3689348814741910323:Int)))))) (1085102592571150095:Int)) + (iShr .u64 (bAnd .u64 (u64.wrap ((iShr .u64 (u64.wrap ((bAnd .u64 (iShr .u64 (u64.wrap ((bAnd .u64 (iShr .u64 a0 (1:Int)) (6148914691236517205:Int)) + (bAnd .u64 a0 (6148914691236517205:Int)))) (2:Int)) (3689348814741910323:Int)) + (bAnd .u64 (u64.wrap ((bAnd .u64 (iShr .u64 a0 (1:Int)) (6148914691236517205:Int)) + (bAnd .u64 a0 (6148914691236517205:Int)))) (3689348814741910323:Int)))) (4:Int)) + (u64.wrap ((bAnd .u64 (iShr .u64 (u64.wrap ((bAnd .u64 (iShr .u64 a0 (1:Int)) (6148914691236517205:Int)) + (bAnd .u64 a0 (6148914691236517205:Int)))) (2:Int)) (3689348814741910323:Int)) + (bAnd .u64 (u64.wrap ((bAnd .u64 (iShr .u64 a0 (1:Int)) (6148914691236517205:Int)) + (bAnd .u64 a0 (6148914691236517205:Int)))) (3689348814741910323:Int)))))) (1085102592571150095:Int)) (8:Int)))) (16:Int))))) z z z (wv (.int .u64 (u64.wrap ((u64.wrap ((bAnd .u64 (u64.wrap ((iShr .u64 (u64.wrap ((bAnd .u64 (iShr .u64 (u64.wrap ((bAnd .u64 (iShr .u64 a0 (1:Int)) (6148914691236517205:Int)) + (bAnd .u64 a0 (6148914691236517205:Int)))) (2:Int)) (3689348814741910323:Int)) + (bAnd .u64 (u64.wrap ((bAnd .u64 (iShr .u64 a0 (1:Int)) (6148914691236517205:Int)) + (bAnd .u64 a0 (6148914691236517205:Int)))) (3689348814741910323:Int)))) (4:Int)) + (u64.wrap ((bAnd .u64 (iShr .u64 (u64.wrap ((bAnd .u64 (iShr .u64 a0 (1:Int)) (6148914691236517205:Int)) + (bAnd .u64 a0 (6148914691236517205:Int)))) (2:Int)) (3689348814741910323:Int)) + (bAnd .u64 (u64.wrap ((bAnd .u64 (iShr .u64 a0 (1:Int)) (6148914691236517205:Int)) + (bAnd .u64 a0 (6148914691236517205:Int)))) (3689348814741910323:Int)))))) (1085102592571150095:Int)) + (iShr .u64 (bAnd .u64 (u64.wrap ((iShr .u64 (u64.wrap ((bAnd .u64 (iShr .u64 (u64.wrap ((bAnd .u64 (iShr .u64 a0 (1:Int)) (6148914691236517205:Int)) + (bAnd .u64 a0 (6148914691236517205:Int)))) (2:Int)) (3689348814741910323:Int)) + (bAnd .u64 (u64.wrap ((bAnd .u64 (iShr .u64 a0 (1:Int)) (6148914691236517205:Int)) + (bAnd .u64 a0 (6148914691236517205:Int)))) (3689348814741910323:Int)))) (4:Int)) + (u64.wrap ((bAnd .u64 (iShr .u64 (u64.wrap ((bAnd .u64 (iShr .u64 a0 (1:Int)) (6148914691236517205:Int)) + (bAnd .u64 a0 (6148914691236517205:Int)))) (2:Int)) (3689348814741910323:Int)) + (bAnd .u64 (u64.wrap ((bAnd .u64 (iShr .u64 a0 (1:Int)) (6148914691236517205:Int)) + (bAnd .u64 a0 (6148914691236517205:Int)))) (3689348814741910323:Int)))))) (1085102592571150095:Int)) (8:Int)))) + (iShr .u64 (u64.wrap ((bAnd .u64 (u64.wrap ((iShr .u64 (u64.wrap ((bAnd .u64 (iShr .u64 (u64.wrap ((bAnd .u64 (iShr .u64 a0 (1:Int)) (6148914691236517205:Int)) + (bAnd .u64 a0 (6148914691236517205:Int)))) (2:Int)) (3689348814741910323:Int)) + (bAnd .u64 (u64.wrap ((bAnd .u64 (iShr .u64 a0 (1:Int)) (6148914691236517205:Int)) + (bAnd .u64 a0 (6148914691236517205:Int)))) (3689348814741910323:Int)))) (4:Int)) + (u64.wrap ((bAnd .u64 (iShr .u64 (u64.wrap ((bAnd .u64 (iShr .u64 a0 (1:Int)) (6148914691236517205:Int)) + (bAnd .u64 a0 (6148914691236517205:Int)))) (2:Int)) (3689348814741910323:Int)) + (bAnd .u64 (u64.wrap ((bAnd .u64 (iShr .u64 a0 (1:Int)) (6148914691236517205:Int)) + (bAnd .u64 a0 (6148914691236517205:Int)))) (3689348814741910323:Int)))))) (1085102592571150095:Int)) + (iShr .u64 (bAnd .u64 (u64.wrap ((iShr .u64 (u64.wrap ((bAnd .u64 (iShr .u64 (u64.wrap ((bAnd .u64 (iShr .u64 a0 (1:Int)) (6148914691236517205:Int)) + (bAnd .u64 a0 (6148914691236517205:Int)))) (2:Int)) (3689348814741910323:Int)) + (bAnd .u64 (u64.wrap ((bAnd .u64 (iShr .u64 a0 (1:Int)) (6148914691236517205:Int)) + (bAnd .u64 a0 (6148914691236517205:Int)))) (3689348814741910323:Int)))) (4:Int)) + (u64.wrap ((bAnd .u64 (iShr .u64 (u64.wrap ((bAnd .u64 (iShr .u64 a0 (1:Int)) (6148914691236517205:Int)) + (bAnd .u64 a0 (6148914691236517205:Int)))) (2:Int)) (3689348814741910323:Int)) + (bAnd .u64 (u64.wrap ((bAnd .u64 (iShr .u64 a0 (1:Int)) (6148914691236517205:Int)) + (bAnd .u64 a0 (6148914691236517205:Int)))) (3689348814741910323:Int)))))) (1085102592571150095:Int)) (8:Int)))) (16:Int))))) z z z (wl_nil (tn (wp_seq (wrl (wv (.int .u64 (u64.wrap ((u64.wrap ((bAnd .u64 (u64.wrap ((iShr .u64 (u64.wrap ((bAnd .u64 (iShr .u64 (u64.wrap ((bAnd .u64 (iShr .u64 a0 (1:Int)) (6148914691236517205:Int)) + (bAnd .u64 a0 (6148914691236517205:Int)))) (2:Int)) (3689348814741910323:Int)) + (bAnd .u64 (u64.wrap ((bAnd .u64 (iShr .u64 a0 (1:Int)) (6148914691236517205:Int)) + (bAnd .u64 a0 (6148914691236517205:Int)))) (3689348814741910323:Int)))) (4:Int)) + (u64.wrap ((bAnd .u64 (iShr .u64 (u64.wrap ((bAnd .u64 (iShr .u64 a0 (1:Int)) (6148914691236517205:Int)) + (bAnd .u64 a0 (6148914691236517205:Int)))) (2:Int)) (3689348814741910323:Int)) + (bAnd .u64 (u64.wrap ((bAnd .u64 (iShr .u64 a0 (1:Int)) (6148914691236517205:Int)) + (bAnd .u64 a0 (6148914691236517205:Int)))) (3689348814741910323:Int)))))) (1085102592571150095:Int)) + (iShr .u64 (bAnd .u64 (u64.wrap ((iShr .u64 (u64.wrap ((bAnd .u64 (iShr .u64 (u64.wrap ((bAnd .u64 (iShr .u64 a0 (1:Int)) (6148914691236517205:Int)) + (bAnd .u64 a0 (6148914691236517205:Int)))) (2:Int)) (3689348814741910323:Int)) + (bAnd .u64 (u64.wrap ((bAnd .u64 (iShr .u64 a0 (1:Int)) (6148914691236517205:Int)) + (bAnd .u64 a0 (6148914691236517205:Int)))) (3689348814741910323:Int)))) (4:Int)) + (u64.wrap ((bAnd .u64 (iShr .u64 (u64.wrap ((bAnd .u64 (iShr .u64 a0 (1:Int)) (6148914691236517205:Int)) + (bAnd .u64 a0 (6148914691236517205:Int)))) (2:Int)) (3689348814741910323:Int)) + (bAnd .u64 (u64.wrap ((bAnd .u64 (iShr .u64 a0 (1:Int)) (6148914691236517205:Int)) + (bAnd .u64 a0 (6148914691236517205:Int)))) (3689348814741910323:Int)))))) (1085102592571150095:Int)) (8:Int)))) + (iShr .u64 (u64.wrap ((bAnd .u64 (u64.wrap ((iShr .u64 (u64.wrap ((bAnd .u64 (iShr .u64 (u64.wrap ((bAnd .u64 (iShr .u64 a0 (1:Int)) (6148914691236517205:Int)) + (bAnd .u64 a0 (6148914691236517205:Int)))) (2:Int)) (3689348814741910323:Int)) + (bAnd .u64 (u64.wrap ((bAnd .u64 (iShr .u64 a0 (1:Int)) (6148914691236517205:Int)) + (bAnd .u64 a0 (6148914691236517205:Int)))) (3689348814741910323:Int)))) (4:Int)) + (u64.wrap ((bAnd .u64 (iShr .u64 (u64.wrap ((bAnd .u64 (iShr .u64 a0 (1:Int)) (6148914691236517205:Int)) + (bAnd .u64 a0 (6148914691236517205:Int)))) (2:Int)) (3689348814741910323:Int)) + (bAnd .u64 (u64.wrap ((bAnd .u64 (iShr .u64 a0 (1:Int)) (6148914691236517205:Int)) + (bAnd .u64 a0 (6148914691236517205:Int)))) (3689348814741910323:Int)))))) (1085102592571150095:Int)) + (iShr .u64 (bAnd .u64 (u64.wrap ((iShr .u64 (u64.wrap ((bAnd .u64 (iShr .u64 (u64.wrap ((bAnd .u64 (iShr .u64 a0 (1:Int)) (6148914691236517205:Int)) + (bAnd .u64 a0 (6148914691236517205:Int)))) (2:Int)) (3689348814741910323:Int)) + (bAnd .u64 (u64.wrap ((bAnd .u64 (iShr .u64 a0 (1:Int)) (6148914691236517205:Int)) + (bAnd .u64 a0 (6148914691236517205:Int)))) (3689348814741910323:Int)))) (4:Int)) + (u64.wrap ((bAnd .u64 (iShr .u64 (u64.wrap ((bAnd .u64 (iShr .u64 a0 (1:Int)) (6148914691236517205:Int)) + (bAnd .u64 a0 (6148914691236517205:Int)))) (2:Int)) (3689348814741910323:Int)) + (bAnd .u64 (u64.wrap ((bAnd .u64 (iShr .u64 a0 (1:Int)) (6148914691236517205:Int)) + (bAnd .u64 a0 (6148914691236517205:Int)))) (3689348814741910323:Int)))))) (1085102592571150095:Int)) (8:Int)))) (16:Int))))) z z z ?_))))))))))))))))))
 refine wv (.int .u64 (u64.wrap ((u64.wrap ((bAnd .u64 (u64.wrap ((iShr .u64 (u64.wrap ((bAnd .u64 (iShr .u64 (u64.wrap ((bAnd .u64 (iShr .u64 a0 (1:Int)) (6148914691236517205:Int)) + (bAnd .u64 a0 (6148914691236517205:Int)))) (2:Int)) (3689348814741910323:Int)) + (bAnd .u64 (u64.wrap ((bAnd .u64 (iShr .u64 a0 (1:Int)) (6148914691236517205:Int)) + (bAnd .u64 a0 (6148914691236517205:Int)))) (3689348814741910323:Int)))) (4:Int)) + (u64.wrap ((bAnd .u64 (iShr .u64 (u64.wrap ((bAnd .u64 (iShr .u64 a0 (1:Int)) (6148914691236517205:Int)) + (bAnd .u64 a0 (6148914691236517205:Int)))) (2:Int)) (3689348814741910323:Int)) + (bAnd .u64 (u64.wrap ((bAnd .u64 (iShr .u64 a0 (1:Int)) (6148914691236517205:Int)) + (bAnd .u64 a0 (6148914691236517205:Int)))) (3689348814741910323:Int)))))) (1085102592571150095:Int)) + (iShr .u64 (bAnd .u64 (u64.wrap ((iShr .u64 (u64.wrap ((bAnd .u64 (iShr .u64 (u64.wrap ((bAnd .u64 (iShr .u64 a0 (1:Int)) (6148914691236517205:Int)) + (bAnd .u64 a0 (6148914691236517205:Int)))) (2:Int)) (3689348814741910323:Int)) + (bAnd .u64 (u64.wrap ((bAnd .u64 (iShr .u64 a0 (1:Int)) (6148914691236517205:Int)) + (bAnd .u64 a0 (6148914691236517205:Int)))) (3689348814741910323:Int)))) (4:Int)) + (u64.wrap ((bAnd .u64 (iShr .u64 (u64.wrap ((bAnd .u64 (iShr .u64 a0 (1:Int)) (6148914691236517205:Int)) + (bAnd .u64 a0 (6148914691236517205:Int)))) (2:Int)) (3689348814741910323:Int)) + (bAnd .u64 (u64.wrap ((bAnd .u64 (iShr .u64 a0 (1:Int)) (6148914691236517205:Int)) + (bAnd .u64 a0 (6148914691236517205:Int)))) (3689348814741910323:Int)))))) (1085102592571150095:Int)) (8:Int)))) + (iShr .u64 (u64.wrap ((bAnd .u64 (u64.wrap ((iShr .u64 (u64.wrap ((bAnd .u64 (iShr .u64 (u64.wrap ((bAnd .u64 (iShr .u64 a0 (1:Int)) (6148914691236517205:Int)) + (bAnd .u64 a0 (6148914691236517205:Int)))) (2:Int)) (3689348814741910323:Int)) + (bAnd .u64 (u64.wrap ((bAnd .u64 (iShr .u64 a0 (1:Int)) (6148914691236517205:Int)) + (bAnd .u64 a0 (6148914691236517205:Int)))) (3689348814741910323:Int)))) (4:Int)) + (u64.wrap ((bAnd .u64 (iShr .u64 (u64.wrap ((bAnd .u64 (iShr .u64 a0 (1:Int)) (6148914691236517205:Int)) + (bAnd .u64 a0 (6148914691236517205:Int)))) (2:Int)) (3689348814741910323:Int)) + (bAnd .u64 (u64.wrap ((bAnd .u64 (iShr .u64 a0 (1:Int)) (6148914691236517205:Int)) + (bAnd .u64 a0 (6148914691236517205:Int)))) (3689348814741910323:Int)))))) (1085102592571150095:Int)) + (iShr .u64 (bAnd .u64 (u64.wrap ((iShr .u64 (u64.wrap ((bAnd .u64 (iShr .u64 (u64.wrap ((bAnd .u64 (iShr .u64 a0 (1:Int)) (6148914691236517205:Int)) + (bAnd .u64 a0 (6148914691236517205:Int)))) (2:Int)) (3689348814741910323:Int)) + (bAnd .u64 (u64.wrap ((bAnd .u64 (iShr .u64 a0 (1:Int)) (6148914691236517205:Int)) + (bAnd .u64 a0 (6148914691236517205:Int)))) (3689348814741910323:Int)))) (4:Int)) + (u64.wrap ((bAnd .u64 (iShr .u64 (u64.wrap ((bAnd .u64 (iShr .u64 a0 (1:Int)) (6148914691236517205:Int)) + (bAnd .u64 a0 (6148914691236517205:Int)))) (2:Int)) (3689348814741910323:Int)) + (bAnd .u64 (u64.wrap ((bAnd .u64 (iShr .u64 a0 (1:Int)) (6148914691236517205:Int)) + (bAnd .u64 a0 (6148914691236517205:Int)))) (3689348814741910323:Int)))))) (1085102592571150095:Int)) (8:Int)))) (16:Int))))) z z z (wv (.int .u64 (iShr .u64 (u64.wrap ((u64.wrap ((bAnd .u64 (u64.wrap ((iShr .u64 (u64.wrap ((bAnd .u64 (iShr .u64 (u64.wrap ((bAnd .u64 (iShr .u64 a0 (1:Int)) (6148914691236517205:Int)) + (bAnd .u64 a0 (6148914691236517205:Int)))) (2:Int)) (3689348814741910323:Int)) + (bAnd .u64 (u64.wrap ((bAnd .u64 (iShr .u64 a0 (1:Int)) (6148914691236517205:Int)) + (bAnd .u64 a0 (6148914691236517205:Int)))) (3689348814741910323:Int)))) (4:Int)) + (u64.wrap ((bAnd .u64 (iShr .u64 (u64.wrap ((bAnd .u64 (iShr .u64 a0 (1:Int)) (6148914691236517205:Int)) + (bAnd .u64 a0 (6148914691236517205:Int)))) (2:Int)) (3689348814741910323:Int)) + (bAnd .u64 (u64.wrap ((bAnd .u64 (iShr .u64 a0 (1:Int)) (6148914691236517205:Int)) + (bAnd .u64 a0 (6148914691236517205:Int)))) (3689348814741910323:Int)))))) (1085102592571150095:Int)) + (iShr .u64 (bAnd .u64 (u64.wrap ((iShr .u64 (u64.wrap ((bAnd .u64 (iShr .u64 (u64.wrap ((bAnd .u64 (iShr .u64 a0 (1:Int)) (6148914691236517205:Int)) + (bAnd .u64 a0 (6148914691236517205:Int)))) (2:Int)) (3689348814741910323:Int)) + (bAnd .u64 (u64.wrap ((bAnd .u64 (iShr .u64 a0 (1:Int)) (6148914691236517205:Int)) + (bAnd .u64 a0 (6148914691236517205:Int)))) (3689348814741910323:Int)))) (4:Int)) + (u64.wrap ((bAnd .u64 (iShr .u64 (u64.wrap ((bAnd .u64 (iShr .u64 a0 (1:Int)) (6148914691236517205:Int)) + (bAnd .u64 a0 (6148914691236517205:Int)))) (2:Int)) (3689348814741910323:Int)) + (bAnd .u64 (u64.wrap ((bAnd .u64 (iShr .u64 a0 (1:Int)) (6148914691236517205:Int)) + (bAnd .u64 a0 (6148914691236517205:Int)))) (3689348814741910323:Int)))))) (1085102592571150095:Int)) (8:Int)))) + (iShr .u64 (u64.wrap ((bAnd .u64 (u64.wrap ((iShr .u64 (u64.wrap ((bAnd .u64 (iShr .u64 (u64.wrap ((bAnd .u64 (iShr .u64 a0 (1:Int)) (6148914691236517205:Int)) + (bAnd .u64 a0 (6148914691236517205:Int)))) (2:Int)) (3689348814741910323:Int)) + (bAnd .u64 (u64.wrap ((bAnd .u64 (iShr .u64 a0 (1:Int)) (6148914691236517205:Int)) + (bAnd .u64 a0 (6148914691236517205:Int)))) (3689348814741910323:Int)))) (4:Int)) + (u64.wrap ((bAnd .u64 (iShr .u64 (u64.wrap ((bAnd .u64 (iShr .u64 a0 (1:Int)) (6148914691236517205:Int)) + (bAnd .u64 a0 (6148914691236517205:Int)))) (2:Int)) (3689348814741910323:Int)) + (bAnd .u64 (u64.wrap ((bAnd .u64 (iShr .u64 a0 (1:Int)) (6148914691236517205:Int)) + (bAnd .u64 a0 (6148914691236517205:Int)))) (3689348814741910323:Int)))))) (1085102592571150095:Int)) + (iShr .u64 (bAnd .u64 (u64.wrap ((iShr .u64 (u64.wrap ((bAnd .u64 (iShr .u64 (u64.wrap ((bAnd .u64 (iShr .u64 a0 (1:Int)) (6148914691236517205:Int)) + (bAnd .u64 a0 (6148914691236517205:Int)))) (2:Int)) (3689348814741910323:Int)) + (bAnd .u64 (u64.wrap ((bAnd .u64 (iShr .u64 a0 (1:Int)) (6148914691236517205:Int)) + (bAnd .u64 a0 (6148914691236517205:Int)))) (3689348814741910323:Int)))) (4:Int)) + (u64.wrap ((bAnd .u64 (iShr .u64 (u64.wrap ((bAnd .u64 (iShr .u64 a0 (1:Int)) (6148914691236517205:Int)) + (bAnd .u64 a0 (6148914691236517205:Int)))) (2:Int)) (3689348814741910323:Int)) + (bAnd .u64 (u64.wrap ((bAnd .u64 (iShr .u64 a0 (1:Int)) (6148914691236517205:Int)) + (bAnd .u64 a0 (6148914691236517205:Int)))) (3689348814741910323:Int)))))) (1085102592571150095:Int)) (8:Int)))) (16:Int)))) (32:Int))) z z (x_shr (by decide) z z) (wv (.int .u64 (u64.wrap ((u64.wrap ((u64.wrap ((bAnd .u64 (u64.wrap ((iShr .u64 (u64.wrap ((bAnd .u64 (iShr .u64 (u64.wrap ((bAnd .u64 (iShr .u64 a0 (1:Int)) (6148914691236517205:Int)) + (bAnd .u64 a0 (6148914691236517205:Int)))) (2:Int)) (3689348814741910323:Int)) + (bAnd .u64 (u64.wrap ((bAnd .u64 (iShr .u64 a0 (1:Int)) (6148914691236517205:Int)) + (bAnd .u64 a0 (6148914691236517205:Int)))) (3689348814741910323:Int)))) (4:Int)) + (u64.wrap ((bAnd .u64 (iShr .u64 (u64.wrap ((bAnd .u64 (iShr .u64 a0 (1:Int)) (6148914691236517205:Int)) + (bAnd .u64 a0 (6148914691236517205:Int)))) (2:Int)) (3689348814741910323:Int)) + (bAnd .u64 (u64.wrap ((bAnd .u64 (iShr .u64 a0 (1:Int)) (6148914691236517205:Int)) + (bAnd .u64 a0 (6148914691236517205:Int)))) (3689348814741910323:Int)))))) (1085102592571150095:Int)) + (iShr .u64 (bAnd .u64 (u64.wrap ((iShr .u64 (u64.wrap ((bAnd .u64 (iShr .u64 (u64.wrap ((bAnd .u64 (iShr .u64 a0 (1:Int)) (6148914691236517205:Int)) + (bAnd .u64 a0 (6148914691236517205:Int)))) (2:Int)) (3689348814741910323:Int)) + (bAnd .u64 (u64.wrap ((bAnd .u64 (iShr .u64 a0 (1:Int)) (6148914691236517205:Int)) + (bAnd .u64 a0 (6148914691236517205:Int)))) (3689348814741910323:Int)))) (4:Int)) + (u64.wrap ((bAnd .u64 (iShr .u64 (u64.wrap ((bAnd .u64 (iShr .u64 a0 (1:Int)) (6148914691236517205:Int)) + (bAnd .u64 a0 (6148914691236517205:Int)))) (2:Int)) (3689348814741910323:Int)) + (bAnd .u64 (u64.wrap ((bAnd .u64 (iShr .u64 a0 (1:Int)) (6148914691236517205:Int)) + (bAnd .u64 a0 (6148914691236517205:Int)))) (3689348814741910323:Int)))))) (1085102592571150095:Int)) (8:Int)))) + (iShr .u64 (u64.wrap ((bAnd .u64 (u64.wrap ((iShr .u64 (u64.wrap ((bAnd .u64 (iShr .u64 (u64.wrap ((bAnd .u64 (iShr .u64 a0 (1:Int)) (6148914691236517205:Int)) + (bAnd .u64 a0 (6148914691236517205:Int)))) (2:Int)) (3689348814741910323:Int)) + (bAnd .u64 (u64.wrap ((bAnd .u64 (iShr .u64 a0 (1:Int)) (6148914691236517205:Int)) + (bAnd .u64 a0 (6148914691236517205:Int)))) (3689348814741910323:Int)))) (4:Int)) + (u64.wrap ((bAnd .u64 (iShr .u64 (u64.wrap ((bAnd .u64 (iShr .u64 a0 (1:Int)) (6148914691236517205:Int)) + (bAnd .u64 a0 (6148914691236517205:Int)))) (2:Int)) (3689348814741910323:Int)) + (bAnd .u64 (u64.wrap ((bAnd .u64 (iShr .u64 a0 (1:Int)) (6148914691236517205:Int)) + (bAnd .u64 a0 (6148914691236517205:Int)))) (3689348814741910323:Int)))))) (1085102592571150095:Int)) + (iShr .u64 (bAnd .u64 (u64.wrap ((iShr .u64 (u64.wrap ((bAnd .u64 (iShr .u64 (u64.wrap ((bAnd .u64 (iShr .u64 a0 (1:Int)) (6148914691236517205:Int)) + (bAnd .u64 a0 (6148914691236517205:Int)))) (2:Int)) (3689348814741910323:Int)) + (bAnd .u64 (u64.wrap ((bAnd .u64 (iShr .u64 a0 (1:Int)) (6148914691236517205:Int)) + (bAnd .u64 a0 (6148914691236517205:Int)))) (3689348814741910323:Int)))) (4:Int)) + (u64.wrap ((bAnd .u64 (iShr .u64 (u64.wrap ((bAnd .u64 (iShr .u64 a0 (1:Int)) (6148914691236517205:Int)) + (bAnd .u64 a0 (6148914691236517205:Int)))) (2:Int)) (3689348814741910323:Int)) + (bAnd .u64 (u64.wrap ((bAnd .u64 (iShr .u64 a0 (1:Int)) (6148914691236517205:Int)) + (bAnd .u64 a0 (6148914691236517205:Int)))) (3689348814741910323:Int)))))) (1085102592571150095:Int)) (8:Int)))) (16:Int)))) + (iShr .u64 (u64.wrap ((u64.wrap ((bAnd .u64 (u64.wrap ((iShr .u64 (u64.wrap ((bAnd .u64 (iShr .u64 (u64.wrap ((bAnd .u64 (iShr .u64 a0 (1:Int)) (6148914691236517205:Int)) + (bAnd .u64 a0 (6148914691236517205:Int)))) (2:Int)) (3689348814741910323:Int)) + (bAnd .u64 (u64.wrap ((bAnd .u64 (iShr .u64 a0 (1:Int)) (6148914691236517205:Int)) + (bAnd .u64 a0 (6148914691236517205:Int)))) (3689348814741910323:Int)))) (4:Int)) + (u64.wrap ((bAnd .u64 (iShr .u64 (u64.wrap ((bAnd .u64 (iShr .u64 a0 (1:Int)) (6148914691236517205:Int)) + (bAnd .u64 a0 (6148914691236517205:Int)))) (2:Int)) (3689348814741910323:Int)) + (bAnd .u64 (u64.wrap ((bAnd .u64 (iShr .u64 a0 (1:Int)) (6148914691236517205:Int)) + (bAnd .u64 a0 (6148914691236517205:Int)))) (3689348814741910323:Int)))))) (1085102592571150095:Int)) + (iShr .u64 (bAnd .u64 (u64.wrap ((iShr .u64 (u64.wrap ((bAnd .u64 (iShr .u64 (u64.wrap ((bAnd .u64 (iShr .u64 a0 (1:Int)) (6148914691236517205:Int)) + (bAnd .u64 a0 (6148914691236517205:Int)))) (2:Int)) (3689348814741910323:Int)) + (bAnd .u64 (u64.wrap ((bAnd .u64 (iShr .u64 a0 (1:Int)) (6148914691236517205:Int)) + (bAnd .u64 a0 (6148914691236517205:Int)))) (3689348814741910323:Int)))) (4:Int)) + (u64.wrap ((bAnd .u64 (iShr .u64 (u64.wrap ((bAnd .u64 (iShr .u64 a0 (1:Int)) (6148914691236517205:Int)) + (bAnd .u64 a0 (6148914691236517205:Int)))) (2:Int)) (3689348814741910323:Int)) + (bAnd .u64 (u64.wrap ((bAnd .u64 (iShr .u64 a0 (1:Int)) (6148914691236517205:Int)) + (bAnd .u64 a0 (6148914691236517205:Int)))) (3689348814741910323:Int)))))) (1085102592571150095:Int)) (8:Int)))) + (iShr .u64 (u64.wrap ((bAnd .u64 (u64.wrap ((iShr .u64 (u64.wrap ((bAnd .u64 (iShr .u64 (u64.wrap ((bAnd .u64 (iShr .u64 a0 (1:Int)) (6148914691236517205:Int)) + (bAnd .u64 a0 (6148914691236517205:Int)))) (2:Int)) (3689348814741910323:Int)) + (bAnd .u64 (u64.wrap ((bAnd .u64 (iShr .u64 a0 (1:Int)) (6148914691236517205:Int)) + (bAnd .u64 a0 (6148914691236517205:Int)))) (3689348814741910323:Int)))) (4:Int)) + (u64.wrap ((bAnd .u64 (iShr .u64 (u64.wrap ((bAnd .u64 (iShr .u64 a0 (1:Int)) (6148914691236517205:Int)) + (bAnd .u64 a0 (6148914691236517205:Int)))) (2:Int)) (3689348814741910323:Int)) + (bAnd .u64 (u64.wrap ((bAnd .u64 (iShr .u64 a0 (1:Int)) (6148914691236517205:Int)) + (bAnd .u64 a0 (6148914691236517205:Int)))) (3689348814741910323:Int)))))) (1085102592571150095:Int)) + (iShr .u64 (bAnd .u64 (u64.wrap ((iShr .u64 (u64.wrap ((bAnd .u64 (iShr .u64 (u64.wrap ((bAnd .u64 (iShr .u64 a0 (1:Int)) (6148914691236517205:Int)) + (bAnd .u64 a0 (6148914691236517205:Int)))) (2:Int)) (3689348814741910323:Int)) + (bAnd .u64 (u64.wrap ((bAnd .u64 (iShr .u64 a0 (1:Int)) (6148914691236517205:Int)) + (bAnd .u64 a0 (6148914691236517205:Int)))) (3689348814741910323:Int)))) (4:Int)) + (u64.wrap ((bAnd .u64 (iShr .u64 (u64.wrap ((bAnd .u64 (iShr .u64 a0 (1:Int)) (6148914691236517205:Int)) + (bAnd .u64 a0 (6148914691236517205:Int)))) (2:Int)) (3689348814741910323:Int)) + (bAnd .u64 (u64.wrap ((bAnd .u64 (iShr .u64 a0 (1:Int)) (6148914691236517205:Int)) + (bAnd .u64 a0 (6148914691236517205:Int)))) (3689348814741910323:Int)))))) (1085102592571150095:Int)) (8:Int)))) (16:Int)))) (32:Int))))) z z z (wv (.int .u64 (u64.wrap ((u64.wrap ((u64.wrap ((bAnd .u64 (u64.wrap ((iShr .u64 (u64.wrap ((bAnd .u64 (iShr .u64 (u64.wrap ((bAnd .u64 (iShr .u64 a0 (1:Int)) (6148914691236517205:Int)) + (bAnd .u64 a0 (6148914691236517205:Int)))) (2:Int)) (3689348814741910323:Int)) + (bAnd .u64 (u64.wrap ((bAnd .u64 (iShr .u64 a0 (1:Int)) (6148914691236517205:Int)) + (bAnd .u64 a0 (6148914691236517205:Int)))) (3689348814741910323:Int)))) (4:Int)) + (u64.wrap ((bAnd .u64 (iShr .u64 (u64.wrap ((bAnd .u64 (iShr .u64 a0 (1:Int)) (6148914691236517205:Int)) + (bAnd .u64 a0 (6148914691236517205:Int)))) (2:Int)) (3689348814741910323:Int)) + (bAnd .u64 (u64.wrap ((bAnd .u64 (iShr .u64 a0 (1:Int)) (6148914691236517205:Int)) + (bAnd .u64 a0 (6148914691236517205:Int)))) (3689348814741910323:Int)))))) (1085102592571150095:Int)) + (iShr .u64 (bAnd .u64 (u64.wrap ((iShr .u64 (u64.wrap ((bAnd .u64 (iShr .u64 (u64.wrap ((bAnd .u64 (iShr .u64 a0 (1:Int)) (6148914691236517205:Int)) + (bAnd .u64 a0 (6148914691236517205:Int)))) (2:Int)) (3689348814741910323:Int)) + (bAnd .u64 (u64.wrap ((bAnd .u64 (iShr .u64 a0 (1:Int)) (6148914691236517205:Int)) + (bAnd .u64 a0 (6148914691236517205:Int)))) (3689348814741910323:Int)))) (4:Int)) + (u64.wrap ((bAnd .u64 (iShr .u64 (u64.wrap ((bAnd .u64 (iShr .u64 a0 (1:Int)) (6148914691236517205:Int)) + (bAnd .u64 a0 (6148914691236517205:Int)))) (2:Int)) (3689348814741910323:Int)) + (bAnd .u64 (u64.wrap ((bAnd .u64 (iShr .u64 a0 (1:Int)) (6148914691236517205:Int)) + (bAnd .u64 a0 (6148914691236517205:Int)))) (3689348814741910323:Int)))))) (1085102592571150095:Int)) (8:Int)))) + (iShr .u64 (u64.wrap ((bAnd .u64 (u64.wrap ((iShr .u64 (u64.wrap ((bAnd .u64 (iShr .u64 (u64.wrap ((bAnd .u64 (iShr .u64 a0 (1:Int)) (6148914691236517205:Int)) + (bAnd .u64 a0 (6148914691236517205:Int)))) (2:Int)) (3689348814741910323:Int)) + (bAnd .u64 (u64.wrap ((bAnd .u64 (iShr .u64 a0 (1:Int)) (6148914691236517205:Int)) + (bAnd .u64 a0 (6148914691236517205:Int)))) (3689348814741910323:Int)))) (4:Int)) + (u64.wrap ((bAnd .u64 (iShr .u64 (u64.wrap ((bAnd .u64 (iShr .u64 a0 (1:Int)) (6148914691236517205:Int)) + (bAnd .u64 a0 (6148914691236517205:Int)))) (2:Int)) (3689348814741910323:Int)) + (bAnd .u64 (u64.wrap ((bAnd .u64 (iShr .u64 a0 (1:Int)) (6148914691236517205:Int)) + (bAnd .u64 a0 (6148914691236517205:Int)))) (3689348814741910323:Int)))))) (1085102592571150095:Int)) + (iShr .u64 (bAnd .u64 (u64.wrap ((iShr .u64 (u64.wrap ((bAnd .u64 (iShr .u64 (u64.wrap ((bAnd .u64 (iShr .u64 a0 (1:Int)) (6148914691236517205:Int)) + (bAnd .u64 a0 (6148914691236517205:Int)))) (2:Int)) (3689348814741910323:Int)) + (bAnd .u64 (u64.wrap ((bAnd .u64 (iShr .u64 a0 (1:Int)) (6148914691236517205:Int)) + (bAnd .u64 a0 (6148914691236517205:Int)))) (3689348814741910323:Int)))) (4:Int)) + (u64.wrap ((bAnd .u64 (iShr .u64 (u64.wrap ((bAnd .u64 (iShr .u64 a0 (1:Int)) (6148914691236517205:Int)) + (bAnd .u64 a0 (6148914691236517205:Int)))) (2:Int)) (3689348814741910323:Int)) + (bAnd .u64 (u64.wrap ((bAnd .u64 (iShr .u64 a0 (1:Int)) (6148914691236517205:Int)) + (bAnd .u64 a0 (6148914691236517205:Int)))) (3689348814741910323:Int)))))) (1085102592571150095:Int)) (8:Int)))) (16:Int)))) + (iShr .u64 (u64.wrap ((u64.wrap ((bAnd .u64 (u64.wrap ((iShr .u64 (u64.wrap ((bAnd .u64 (iShr .u64 (u64.wrap ((bAnd .u64 (iShr .u64 a0 (1:Int)) (6148914691236517205:Int)) + (bAnd .u64 a0 (6148914691236517205:Int)))) (2:Int)) (3689348814741910323:Int)) + (bAnd .u64 (u64.wrap ((bAnd .u64 (iShr .u64 a0 (1:Int)) (6148914691236517205:Int)) + (bAnd .u64 a0 (6148914691236517205:Int)))) (3689348814741910323:Int)))) (4:Int)) + (u64.wrap ((bAnd .u64 (iShr .u64 (u64.wrap ((bAnd .u64 (iShr .u64 a0 (1:Int)) (6148914691236517205:Int)) + (bAnd .u64 a0 (6148914691236517205:Int)))) (2:Int)) (3689348814741910323:Int)) + (bAnd .u64 (u64.wrap ((bAnd .u64 (iShr .u64 a0 (1:Int)) (6148914691236517205:Int)) + (bAnd .u64 a0 (6148914691236517205:Int)))) (3689348814741910323:Int)))))) (1085102592571150095:Int)) + (iShr .u64 (bAnd .u64 (u64.wrap ((iShr .u64 (u64.wrap ((bAnd .u64 (iShr .u64 (u64.wrap ((bAnd .u64 (iShr .u64 a0 (1:Int)) (6148914691236517205:Int)) + (bAnd .u64 a0 (6148914691236517205:Int)))) (2:Int)) (3689348814741910323:Int)) + (bAnd .u64 (u64.wrap ((bAnd .u64 (iShr .u64 a0 (1:Int)) (6148914691236517205:Int)) + (bAnd .u64 a0 (6148914691236517205:Int)))) (3689348814741910323:Int)))) (4:Int)) + (u64.wrap ((bAnd .u64 (iShr .u64 (u64.wrap ((bAnd .u64 (iShr .u64 a0 (1:Int)) (6148914691236517205:Int)) + (bAnd .u64 a0 (6148914691236517205:Int)))) (2:Int)) (3689348814741910323:Int)) + (bAnd .u64 (u64.wrap ((bAnd .u64 (iShr .u64 a0 (1:Int)) (6148914691236517205:Int)) + (bAnd .u64 a0 (6148914691236517205:Int)))) (3689348814741910323:Int)))))) (1085102592571150095:Int)) (8:Int)))) + (iShr .u64 (u64.wrap ((bAnd .u64 (u64.wrap ((iShr .u64 (u64.wrap ((bAnd .u64 (iShr .u64 (u64.wrap ((bAnd .u64 (iShr .u64 a0 (1:Int)) (6148914691236517205:Int)) + (bAnd .u64 a0 (6148914691236517205:Int)))) (2:Int)) (3689348814741910323:Int)) + (bAnd .u64 (u64.wrap ((bAnd .u64 (iShr .u64 a0 (1:Int)) (6148914691236517205:Int)) + (bAnd .u64 a0 (6148914691236517205:Int)))) (3689348814741910323:Int)))) (4:Int)) + (u64.wrap ((bAnd .u64 (iShr .u64 (u64.wrap ((bAnd .u64 (iShr .u64 a0 (1:Int)) (6148914691236517205:Int)) + (bAnd .u64 a0 (6148914691236517205:Int)))) (2:Int)) (3689348814741910323:Int)) + (bAnd .u64 (u64.wrap ((bAnd .u64 (iShr .u64 a0 (1:Int)) (6148914691236517205:Int)) + (bAnd .u64 a0 (6148914691236517205:Int)))) (3689348814741910323:Int)))))) (1085102592571150095:Int)) + (iShr .u64 (bAnd .u64 (u64.wrap ((iShr .u64 (u64.wrap ((bAnd .u64 (iShr .u64 (u64.wrap ((bAnd .u64 (iShr .u64 a0 (1:Int)) (6148914691236517205:Int)) + (bAnd .u64 a0 (6148914691236517205:Int)))) (2:Int)) (3689348814741910323:Int)) + (bAnd .u64 (u64.wrap ((bAnd .u64 (iShr .u64 a0 (1:Int)) (6148914691236517205:Int)) + (bAnd .u64 a0 (6148914691236517205:Int)))) (3689348814741910323:Int)))) (4:Int)) + (u64.wrap ((bAnd .u64 (iShr .u64 (u64.wrap ((bAnd .u64 (iShr .u64 a0 (1:Int)) (6148914691236517205:Int)) + (bAnd .u64 a0 (6148914691236517205:Int)))) (2:Int)) (3689348814741910323:Int)) + (bAnd .u64 (u64.wrap ((bAnd .u64 (iShr .u64 a0 (1:Int)) (6148914691236517205:Int)) + (bAnd .u64 a0 (6148914691236517205:Int)))) (3689348814741910323:Int)))))) (1085102592571150095:Int)) (8:Int)))) (16:Int)))) (32:Int))))) z z z (wl_nil (tn (wp_seq (wrl (wv (.int .u64 (u64.wrap ((u64.wrap ((u64.wrap ((bAnd .u64 (u64.wrap ((iShr .u64 (u64.wrap ((bAnd .u64 (iShr .u64 (u64.wrap ((bAnd .u64 (iShr .u64 a0 (1:Int)) (6148914691236517205:Int)) + (bAnd .u64 a0 (6148914691236517205:Int)))) (2:Int)) (3689348814741910323:Int)) + (bAnd .u64 (u64.wrap ((bAnd .u64 (iShr .u64 a0 (1:Int)) (6148914691236517205:Int)) + (bAnd .u64 a0 (6148914691236517205:Int)))) (3689348814741910323:Int)))) (4:Int)) + (u64.wrap ((bAnd .u64 (iShr .u64 (u64.wrap ((bAnd .u64 (iShr .u64 a0 (1:Int)) (6148914691236517205:Int)) + (bAnd .u64 a0 (6148914691236517205:Int)))) (2:Int)) (3689348814741910323:Int)) + (bAnd .u64 (u64.wrap ((bAnd .u64 (iShr .u64 a0 (1:Int)) (6148914691236517205:Int)) + (bAnd .u64 a0 (6148914691236517205:Int)))) (3689348814741910323:Int)))))) (1085102592571150095:Int)) + (iShr .u64 (bAnd .u64 (u64.wrap ((iShr .u64 (u64.wrap ((bAnd .u64 (iShr .u64 (u64.wrap ((bAnd .u64 (iShr .u64 a0 (1:Int)) (6148914691236517205:Int)) + (bAnd .u64 a0 (6148914691236517205:Int)))) (2:Int)) (3689348814741910323:Int)) + (bAnd .u64 (u64.wrap ((bAnd .u64 (iShr .u64 a0 (1:Int)) (6148914691236517205:Int)) + (bAnd .u64 a0 (6148914691236517205:Int)))) (3689348814741910323:Int)))) (4:Int)) + (u64.wrap ((bAnd .u64 (iShr .u64 (u64.wrap ((bAnd .u64 (iShr .u64 a0 (1:Int)) (6148914691236517205:Int)) + (bAnd .u64 a0 (6148914691236517205:Int)))) (2:Int)) (3689348814741910323:Int)) + (bAnd .u64 (u64.wrap ((bAnd .u64 (iShr .u64 a0 (1:Int)) (6148914691236517205:Int)) + (bAnd .u64 a0 (6148914691236517205:Int)))) (3689348814741910323:Int)))))) (1085102592571150095:Int)) (8:Int)))) + (iShr .u64 (u64.wrap ((bAnd .u64 (u64.wrap ((iShr .u64 (u64.wrap ((bAnd .u64 (iShr .u64 (u64.wrap ((bAnd .u64 (iShr .u64 a0 (1:Int)) (6148914691236517205:Int)) + (bAnd .u64 a0 (6148914691236517205:Int)))) (2:Int)) (3689348814741910323:Int)) + (bAnd .u64 (u64.wrap ((bAnd .u64 (iShr .u64 a0 (1:Int)) (6148914691236517205:Int)) + (bAnd .u64 a0 (6148914691236517205:Int)))) (3689348814741910323:Int)))) (4:Int)) + (u64.wrap ((bAnd .u64 (iShr .u64 (u64.wrap ((bAnd .u64 (iShr .u64 a0 (1:Int)) (6148914691236517205:Int)) + (bAnd .u64 a0 (6148914691236517205:Int)))) (2:Int)) (3689348814741910323:Int)) + (bAnd .u64 (u64.wrap ((bAnd .u64 (iShr .u64 a0 (1:Int)) (6148914691236517205:Int)) + (bAnd .u64 a0 (6148914691236517205:Int)))) (3689348814741910323:Int)))))) (1085102592571150095:Int)) + (iShr .u64 (bAnd .u64 (u64.wrap ((iShr .u64 (u64.wrap ((bAnd .u64 (iShr .u64 (u64.wrap ((bAnd .u64 (iShr .u64 a0 (1:Int)) (6148914691236517205:Int)) + (bAnd .u64 a0 (6148914691236517205:Int)))) (2:Int)) (3689348814741910323:Int)) + (bAnd .u64 (u64.wrap ((bAnd .u64 (iShr .u64 a0 (1:Int)) (6148914691236517205:Int)) + (bAnd .u64 a0 (6148914691236517205:Int)))) (3689348814741910323:Int)))) (4:Int)) + (u64.wrap ((bAnd .u64 (iShr .u64 (u64.wrap ((bAnd .u64 (iShr .u64 a0 (1:Int)) (6148914691236517205:Int)) + (bAnd .u64 a0 (6148914691236517205:Int)))) (2:Int)) (3689348814741910323:Int)) + (bAnd .u64 (u64.wrap ((bAnd .u64 (iShr .u64 a0 (1:Int)) (6148914691236517205:Int)) + (bAnd .u64 a0 (6148914691236517205:Int)))) (3689348814741910323:Int)))))) (1085102592571150095:Int)) (8:Int)))) (16:Int)))) + (iShr .u64 (u64.wrap ((u64.wrap ((bAnd .u64 (u64.wrap ((iShr .u64 (u64.wrap ((bAnd .u64 (iShr .u64 (u64.wrap ((bAnd .u64 (iShr .u64 a0 (1:Int)) (6148914691236517205:Int)) + (bAnd .u64 a0 (6148914691236517205:Int)))) (2:Int)) (3689348814741910323:Int)) + (bAnd .u64 (u64.wrap ((bAnd .u64 (iShr .u64 a0 (1:Int)) (6148914691236517205:Int)) + (bAnd .u64 a0 (6148914691236517205:Int)))) (3689348814741910323:Int)))) (4:Int)) + (u64.wrap ((bAnd .u64 (iShr .u64 (u64.wrap ((bAnd .u64 (iShr .u64 a0 (1:Int)) (6148914691236517205:Int)) + (bAnd .u64 a0 (6148914691236517205:Int)))) (2:Int)) (3689348814741910323:Int)) + (bAnd .u64 (u64.wrap ((bAnd .u64 (iShr .u64 a0 (1:Int)) (6148914691236517205:Int)) + (bAnd .u64 a0 (6148914691236517205:Int)))) (3689348814741910323:Int)))))) (1085102592571150095:Int)) + (iShr .u64 (bAnd .u64 (u64.wrap ((iShr .u64 (u64.wrap ((bAnd .u64 (iShr .u64 (u64.wrap ((bAnd .u64 (iShr .u64 a0 (1:Int)) (6148914691236517205:Int)) + (bAnd .u64 a0 (6148914691236517205:Int)))) (2:Int)) (3689348814741910323:Int)) + (bAnd .u64 (u64.wrap ((bAnd .u64 (iShr .u64 a0 (1:Int)) (6148914691236517205:Int)) + (bAnd .u64 a0 (6148914691236517205:Int)))) (3689348814741910323:Int)))) (4:Int)) + (u64.wrap ((bAnd .u64 (iShr .u64 (u64.wrap ((bAnd .u64 (iShr .u64 a0 (1:Int)) (6148914691236517205:Int)) + (bAnd .u64 a0 (6148914691236517205:Int)))) (2:Int)) (3689348814741910323:Int)) + (bAnd .u64 (u64.wrap ((bAnd .u64 (iShr .u64 a0 (1:Int)) (6148914691236517205:Int)) + (bAnd .u64 a0 (6148914691236517205:Int)))) (3689348814741910323:Int)))))) (1085102592571150095:Int)) (8:Int)))) + (iShr .u64 (u64.wrap ((bAnd .u64 (u64.wrap ((iShr .u64 (u64.wrap ((bAnd .u64 (iShr .u64 (u64.wrap ((bAnd .u64 (iShr .u64 a0 (1:Int)) (6148914691236517205:Int)) + (bAnd .u64 a0 (6148914691236517205:Int)))) (2:Int)) (3689348814741910323:Int)) + (bAnd .u64 (u64.wrap ((bAnd .u64 (iShr .u64 a0 (1:Int)) (6148914691236517205:Int)) + (bAnd .u64 a0 (6148914691236517205:Int)))) (3689348814741910323:Int)))) (4:Int)) + (u64.wrap ((bAnd .u64 (iShr .u64 (u64.wrap ((bAnd .u64 (iShr .u64 a0 (1:Int)) (6148914691236517205:Int)) + (bAnd .u64 a0 (6148914691236517205:Int)))) (2:Int)) (3689348814741910323:Int)) + (bAnd .u64 (u64.wrap ((bAnd .u64 (iShr .u64 a0 (1:Int)) (6148914691236517205:Int)) + (bAnd .u64 a0 (6148914691236517205:Int)))) (3689348814741910323:Int)))))) (1085102592571150095:Int)) + (iShr .u64 (bAnd .u64 (u64.wrap ((iShr .u64 (u64.wrap ((bAnd .u64 (iShr .u64 (u64.wrap ((bAnd .u64 (iShr .u64 a0 (1:Int)) (6148914691236517205:Int)) + (bAnd .u64 a0 (6148914691236517205:Int)))) (2:Int)) (3689348814741910323:Int)) + (bAnd .u64 (u64.wrap ((bAnd .u64 (iShr .u64 a0 (1:Int)) (6148914691236517205:Int)) + (bAnd .u64 a0 (6148914691236517205:Int)))) (3689348814741910323:Int)))) (4:Int)) + (u64.wrap ((bAnd .u64 (iShr .u64 (u64.wrap ((bAnd .u64 (iShr .u64 a0 (1:Int)) (6148914691236517205:Int)) + (bAnd .u64 a0 (6148914691236517205:Int)))) (2:Int)) (3689348814741910323:Int)) + (bAnd .u64 (u64.wrap ((bAnd .u64 (iShr .u64 a0 (1:Int)) (6148914691236517205:Int)) + (bAnd .u64 a0 (6148914691236517205:Int)))) (3689348814741910323:Int)))))) (1085102592571150095:Int)) (8:Int)))) (16:Int)))) (32:Int))))) z z z (wv (.int .i64 (i64.wrap (u64.wrap ((u64.wrap ((u64.wrap ((bAnd .u64 (u64.wrap ((iShr .u64 (u64.wrap ((bAnd .u64 (iShr .u64 (u64.wrap ((bAnd .u64 (iShr .u64 a0 (1:Int)) (6148914691236517205:Int)) + (bAnd .u64 a0 (6148914691236517205:Int)))) (2:Int)) (3689348814741910323:Int)) + (bAnd .u64 (u64.wrap ((bAnd .u64 (iShr .u64 a0 (1:Int)) (6148914691236517205:Int)) + (bAnd .u64 a0 (6148914691236517205:Int)))) (3689348814741910323:Int)))) (4:Int)) + (u64.wrap ((bAnd .u64 (iShr .u64 (u64.wrap ((bAnd .u64 (iShr .u64 a0 (1:Int)) (6148914691236517205:Int)) + (bAnd .u64 a0 (6148914691236517205:Int)))) (2:Int)) (3689348814741910323:Int)) + (bAnd .u64 (u64.wrap ((bAnd .u64 (iShr .u64 a0 (1:Int)) (6148914691236517205:Int)) + (bAnd .u64 a0 (6148914691236517205:Int)))) (3689348814741910323:Int)))))) (1085102592571150095:Int)) + (iShr .u64 (bAnd .u64 (u64.wrap ((iShr .u64 (u64.wrap ((bAnd .u64 (iShr .u64 (u64.wrap ((bAnd .u64 (iShr .u64 a0 (1:Int)) (6148914691236517205:Int)) + (bAnd .u64 a0 (6148914691236517205:Int)))) (2:Int)) (3689348814741910323:Int)) + (bAnd .u64 (u64.wrap ((bAnd .u64 (iShr .u64 a0 (1:Int)) (6148914691236517205:Int)) + (bAnd .u64 a0 (6148914691236517205:Int)))) (3689348814741910323:Int)))) (4:Int)) + (u64.wrap ((bAnd .u64 (iShr .u64 (u64.wrap ((bAnd .u64 (iShr .u64 a0 (1:Int)) (6148914691236517205:Int)) + (bAnd .u64 a0 (6148914691236517205:Int)))) (2:Int)) (3689348814741910323:Int)) + (bAnd .u64 (u64.wrap ((bAnd .u64 (iShr .u64 a0 (1:Int)) (6148914691236517205:Int)) + (bAnd .u64 a0 (6148914691236517205:Int)))) (3689348814741910323:Int)))))) (1085102592571150095:Int)) (8:Int)))) + (iShr .u64 (u64.wrap ((bAnd .u64 (u64.wrap ((iShr .u64 (u64.wrap ((bAnd .u64 (iShr .u64 (u64.wrap ((bAnd .u64 (iShr .u64 a0 (1:Int)) (6148914691236517205:Int)) + (bAnd .u64 a0 (6148914691236517205:Int)))) (2:Int)) (3689348814741910323:Int)) + (bAnd .u64 (u64.wrap ((bAnd .u64 (iShr .u64 a0 (1:Int)) (6148914691236517205:Int)) + (bAnd .u64 a0 (6148914691236517205:Int)))) (3689348814741910323:Int)))) (4:Int)) + (u64.wrap ((bAnd .u64 (iShr .u64 (u64.wrap ((bAnd .u64 (iShr .u64 a0 (1:Int)) (6148914691236517205:Int)) + (bAnd .u64 a0 (6148914691236517205:Int)))) (2:Int)) (3689348814741910323:Int)) + (bAnd .u64 (u64.wrap ((bAnd .u64 (iShr .u64 a0 (1:Int)) (6148914691236517205:Int)) + (bAnd .u64 a0 (6148914691236517205:Int)))) (3689348814741910323:Int)))))) (1085102592571150095:Int)) + (iShr .u64 (bAnd .u64 (u64.wrap ((iShr .u64 (u64.wrap ((bAnd .u64 (iShr .u64 (u64.wrap ((bAnd .u64 (iShr .u64 a0 (1:Int)) (6148914691236517205:Int)) + (bAnd .u64 a0 (6148914691236517205:Int)))) (2:Int)) (3689348814741910323:Int)) + (bAnd .u64 (u64.wrap ((bAnd .u64 (iShr .u64 a0 (1:Int)) (6148914691236517205:Int)) + (bAnd .u64 a0 (6148914691236517205:Int)))) (3689348814741910323:Int)))) (4:Int)) + (u64.wrap ((bAnd .u64 (iShr .u64 (u64.wrap ((bAnd .u64 (iShr .u64 a0 (1:Int)) (6148914691236517205:Int)) + (bAnd .u64 a0 (6148914691236517205:Int)))) (2:Int)) (3689348814741910323:Int)) + (bAnd .u64 (u64.wrap ((bAnd .u64 (iShr .u64 a0 (1:Int)) (6148914691236517205:Int)) + (bAnd .u64 a0 (6148914691236517205:Int)))) (3689348814741910323:Int)))))) (1085102592571150095:Int)) (8:Int)))) (16:Int)))) + (iShr .u64 (u64.wrap ((u64.wrap ((bAnd .u64 (u64.wrap ((iShr .u64 (u64.wrap ((bAnd .u64 (iShr .u64 (u64.wrap ((bAnd .u64 (iShr .u64 a0 (1:Int)) (6148914691236517205:Int)) + (bAnd .u64 a0 (6148914691236517205:Int)))) (2:Int)) (3689348814741910323:Int)) + (bAnd .u64 (u64.wrap ((bAnd .u64 (iShr .u64 a0 (1:Int)) (6148914691236517205:Int)) + (bAnd .u64 a0 (6148914691236517205:Int)))) (3689348814741910323:Int)))) (4:Int)) + (u64.wrap ((bAnd .u64 (iShr .u64 (u64.wrap ((bAnd .u64 (iShr .u64 a0 (1:Int)) (6148914691236517205:Int)) + (bAnd .u64 a0 (6148914691236517205:Int)))) (2:Int)) (3689348814741910323:Int)) + (bAnd .u64 (u64.wrap ((bAnd .u64 (iShr .u64 a0 (1:Int)) (6148914691236517205:Int)) + (bAnd .u64 a0 (6148914691236517205:Int)))) (3689348814741910323:Int)))))) (1085102592571150095:Int)) + (iShr .u64 (bAnd .u64 (u64.wrap ((iShr .u64 (u64.wrap ((bAnd .u64 (iShr .u64 (u64.wrap ((bAnd .u64 (iShr .u64 a0 (1:Int)) (6148914691236517205:Int)) + (bAnd .u64 a0 (6148914691236517205:Int)))) (2:Int)) (3689348814741910323:Int)) + (bAnd .u64 (u64.wrap ((bAnd .u64 (iShr .u64 a0 (1:Int)) (6148914691236517205:Int)) + (bAnd .u64 a0 (6148914691236517205:Int)))) (3689348814741910323:Int)))) (4:Int)) + (u64.wrap ((bAnd .u64 (iShr .u64 (u64.wrap ((bAnd .u64 (iShr .u64 a0 (1:Int)) (6148914691236517205:Int)) + (bAnd .u64 a0 (6148914691236517205:Int)))) (2:Int)) (3689348814741910323:Int)) + (bAnd .u64 (u64.wrap ((bAnd .u64 (iShr .u64 a0 (1:Int)) (6148914691236517205:Int)) + (bAnd .u64 a0 (6148914691236517205:Int)))) (3689348814741910323:Int)))))) (1085102592571150095:Int)) (8:Int)))) + (iShr .u64 (u64.wrap ((bAnd .u64 (u64.wrap ((iShr .u64 (u64.wrap ((bAnd .u64 (iShr .u64 (u64.wrap ((bAnd .u64 (iShr .u64 a0 (1:Int)) (6148914691236517205:Int)) + (bAnd .u64 a0 (6148914691236517205:Int)))) (2:Int)) (3689348814741910323:Int)) + (bAnd .u64 (u64.wrap ((bAnd .u64 (iShr .u64 a0 (1:Int)) (6148914691236517205:Int)) + (bAnd .u64 a0 (6148914691236517205:Int)))) (3689348814741910323:Int)))) (4:Int)) + (u64.wrap ((bAnd .u64 (iShr .u64 (u64.wrap ((bAnd .u64 (iShr .u64 a0 (1:Int)) (6148914691236517205:Int)) + (bAnd .u64 a0 (6148914691236517205:Int)))) (2:Int)) (3689348814741910323:Int)) + (bAnd .u64 (u64.wrap ((bAnd .u64 (iShr .u64 a0 (1:Int)) (6148914691236517205:Int)) + (bAnd .u64 a0 (6148914691236517205:Int)))) (3689348814741910323:Int)))))) (1085102592571150095:Int)) + (iShr .u64 (bAnd .u64 (u64.wrap ((iShr .u64 (u64.wrap ((bAnd .u64 (iShr .u64 (u64.wrap ((bAnd .u64 (iShr .u64 a0 (1:Int)) (6148914691236517205:Int)) + (bAnd .u64 a0 (6148914691236517205:Int)))) (2:Int)) (3689348814741910323:Int)) + (bAnd .u64 (u64.wrap ((bAnd .u64 (iShr .u64 a0 (1:Int)) (6148914691236517205:Int)) + (bAnd .u64 a0 (6148914691236517205:Int)))) (3689348814741910323:Int)))) (4:Int)) + (u64.wrap ((bAnd .u64 (iShr .u64 (u64.wrap ((bAnd .u64 (iShr .u64 a0 (1:Int)) (6148914691236517205:Int)) + (bAnd .u64 a0 (6148914691236517205:Int)))) (2:Int)) (3689348814741910323:Int)) + (bAnd .u64 (u64.wrap ((bAnd .u64 (iShr .u64 a0 (1:Int)) (6148914691236517205:Int)) + (bAnd .u64 a0 (6148914691236517205:Int)))) (3689348814741910323:Int)))))) (1085102592571150095:Int)) (8:Int)))) (16:Int)))) (32:Int)))))) z z (by kernel_rfl) (wv (.int .i64 (bAnd .i64 (i64.wrap (u64.wrap ((u64.wrap ((u64.wrap ((bAnd .u64 (u64.wrap ((iShr .u64 (u64.wrap ((bAnd .u64 (iShr .u64 (u64.wrap ((bAnd .u64 (iShr .u64 a0 (1:Int)) (6148914691236517205:Int)) + (bAnd .u64 a0 (6148914691236517205:Int)))) (2:Int)) (3689348814741910323:Int)) + (bAnd .u64 (u64.wrap ((bAnd .u64 (iShr .u64 a0 (1:Int)) (6148914691236517205:Int)) + (bAnd .u64 a0 (6148914691236517205:Int)))) (3689348814741910323:Int)))) (4:Int)) + (u64.wrap ((bAnd .u64 (iShr .u64 (u64.wrap ((bAnd .u64 (iShr .u64 a0 (1:Int)) (6148914691236517205:Int)) + (bAnd .u64 a0 (6148914691236517205:Int)))) (2:Int)) (3689348814741910323:Int)) + (bAnd .u64 (u64.wrap ((bAnd .u64 (iShr .u64 a0 (1:Int)) (6148914691236517205:Int)) + (bAnd .u64 a0 (6148914691236517205:Int)))) (3689348814741910323:Int)))))) (1085102592571150095:Int)) + (iShr .u64 (bAnd .u64 (u64.wrap ((iShr .u64 (u64.wrap ((bAnd .u64 (iShr .u64 (u64.wrap ((bAnd .u64 (iShr .u64 a0 (1:Int)) (6148914691236517205:Int)) + (bAnd .u64 a0 (6148914691236517205:Int)))) (2:Int)) (3689348814741910323:Int)) + (bAnd .u64 (u64.wrap ((bAnd .u64 (iShr .u64 a0 (1:Int)) (6148914691236517205:Int)) + (bAnd .u64 a0 (6148914691236517205:Int)))) (3689348814741910323:Int)))) (4:Int)) + (u64.wrap ((bAnd .u64 (iShr .u64 (u64.wrap ((bAnd .u64 (iShr .u64 a0 (1:Int)) (6148914691236517205:Int)) + (bAnd .u64 a0 (6148914691236517205:Int)))) (2:Int)) (3689348814741910323:Int)) + (bAnd .u64 (u64.wrap ((bAnd .u64 (iShr .u64 a0 (1:Int)) (6148914691236517205:Int)) + (bAnd .u64 a0 (6148914691236517205:Int)))) (3689348814741910323:Int)))))) (1085102592571150095:Int)) (8:Int)))) + (iShr .u64 (u64.wrap ((bAnd .u64 (u64.wrap ((iShr .u64 (u64.wrap ((bAnd .u64 (iShr .u64 (u64.wrap ((bAnd .u64 (iShr .u64 a0 (1:Int)) (6148914691236517205:Int)) + (bAnd .u64 a0 (6148914691236517205:Int)))) (2:Int)) (3689348814741910323:Int)) + (bAnd .u64 (u64.wrap ((bAnd .u64 (iShr .u64 a0 (1:Int)) (6148914691236517205:Int)) + (bAnd .u64 a0 (6148914691236517205:Int)))) (3689348814741910323:Int)))) (4:Int)) + (u64.wrap ((bAnd .u64 (iShr .u64 (u64.wrap ((bAnd .u64 (iShr .u64 a0 (1:Int)) (6148914691236517205:Int)) + (bAnd .u64 a0 (6148914691236517205:Int)))) (2:Int)) (3689348814741910323:Int)) + (bAnd .u64 (u64.wrap ((bAnd .u64 (iShr .u64 a0 (1:Int)) (6148914691236517205:Int)) + (bAnd .u64 a0 (6148914691236517205:Int)))) (3689348814741910323:Int)))))) (1085102592571150095:Int)) + (iShr .u64 (bAnd .u64 (u64.wrap ((iShr .u64 (u64.wrap ((bAnd .u64 (iShr .u64 (u64.wrap ((bAnd .u64 (iShr .u64 a0 (1:Int)) (6148914691236517205:Int)) + (bAnd .u64 a0 (6148914691236517205:Int)))) (2:Int)) (3689348814741910323:Int)) + (bAnd .u64 (u64.wrap ((bAnd .u64 (iShr .u64 a0 (1:Int)) (6148914691236517205:Int)) + (bAnd .u64 a0 (6148914691236517205:Int)))) (3689348814741910323:Int)))) (4:Int)) + (u64.wrap ((bAnd .u64 (iShr .u64 (u64.wrap ((bAnd .u64 (iShr .u64 a0 (1:Int)) (6148914691236517205:Int)) + (bAnd .u64 a0 (6148914691236517205:Int)))) (2:Int)) (3689348814741910323:Int)) + (bAnd .u64 (u64.wrap ((bAnd .u64 (iShr .u64 a0 (1:Int)) (6148914691236517205:Int)) + (bAnd .u64 a0 (6148914691236517205:Int)))) (3689348814741910323:Int)))))) (1085102592571150095:Int)) (8:Int)))) (16:Int)))) + (iShr .u64 (u64.wrap ((u64.wrap ((bAnd .u64 (u64.wrap ((iShr .u64 (u64.wrap ((bAnd .u64 (iShr .u64 (u64.wrap ((bAnd .u64 (iShr .u64 a0 (1:Int)) (6148914691236517205:Int)) + (bAnd .u64 a0 (6148914691236517205:Int)))) (2:Int)) (3689348814741910323:Int)) + (bAnd .u64 (u64.wrap ((bAnd .u64 (iShr .u64 a0 (1:Int)) (6148914691236517205:Int)) + (bAnd .u64 a0 (6148914691236517205:Int)))) (3689348814741910323:Int)))) (4:Int)) + (u64.wrap ((bAnd .u64 (iShr .u64 (u64.wrap ((bAnd .u64 (iShr .u64 a0 (1:Int)) (6148914691236517205:Int)) + (bAnd .u64 a0 (6148914691236517205:Int)))) (2:Int)) (3689348814741910323:Int)) + (bAnd .u64 (u64.wrap ((bAnd .u64 (iShr .u64 a0 (1:Int)) (6148914691236517205:Int)) + (bAnd .u64 a0 (6148914691236517205:Int)))) (3689348814741910323:Int)))))) (1085102592571150095:Int)) + (iShr .u64 (bAnd .u64 (u64.wrap ((iShr .u64 (u64.wrap ((bAnd .u64 (iShr .u64 (u64.wrap ((bAnd .u64 (iShr .u64 a0 (1:Int)) (6148914691236517205:Int)) + (bAnd .u64 a0 (6148914691236517205:Int)))) (2:Int)) (3689348814741910323:Int)) + (bAnd .u64 (u64.wrap ((bAnd .u64 (iShr .u64 a0 (1:Int)) (6148914691236517205:Int)) + (bAnd .u64 a0 (6148914691236517205:Int)))) (3689348814741910323:Int)))) (4:Int)) + (u64.wrap ((bAnd .u64 (iShr .u64 (u64.wrap ((bAnd .u64 (iShr .u64 a0 (1:Int)) (6148914691236517205:Int)) + (bAnd .u64 a0 (6148914691236517205:Int)))) (2:Int)) (3689348814741910323:Int)) + (bAnd .u64 (u64.wrap ((bAnd .u64 (iShr .u64 a0 (1:Int)) (6148914691236517205:Int)) + (bAnd .u64 a0 (6148914691236517205:Int)))) (3689348814741910323:Int)))))) (1085102592571150095:Int)) (8:Int)))) + (iShr .u64 (u64.wrap ((bAnd .u64 (u64.wrap ((iShr .u64 (u64.wrap ((bAnd .u64 (iShr .u64 (u64.wrap ((bAnd .u64 (iShr .u64 a0 (1:Int)) (6148914691236517205:Int)) + (bAnd .u64 a0 (6148914691236517205:Int)))) (2:Int)) (3689348814741910323:Int)) + (bAnd .u64 (u64.wrap ((bAnd .u64 (iShr .u64 a0 (1:Int)) (6148914691236517205:Int)) + (bAnd .u64 a0 (6148914691236517205:Int)))) (3689348814741910323:Int)))) (4:Int)) + (u64.wrap ((bAnd .u64 (iShr .u64 (u64.wrap ((bAnd .u64 (iShr .u64 a0 (1:Int)) (6148914691236517205:Int)) + (bAnd .u64 a0 (6148914691236517205:Int)))) (2:Int)) (3689348814741910323:Int)) + (bAnd .u64 (u64.wrap ((bAnd .u64 (iShr .u64 a0 (1:Int)) (6148914691236517205:Int)) + (bAnd .u64 a0 (6148914691236517205:Int)))) (3689348814741910323:Int)))))) (1085102592571150095:Int)) + (iShr .u64 (bAnd .u64 (u64.wrap ((iShr .u64 (u64.wrap ((bAnd .u64 (iShr .u64 (u64.wrap ((bAnd .u64 (iShr .u64 a0 (1:Int)) (6148914691236517205:Int)) + (bAnd .u64 a0 (6148914691236517205:Int)))) (2:Int)) (3689348814741910323:Int)) + (bAnd .u64 (u64.wrap ((bAnd .u64 (iShr .u64 a0 (1:Int)) (6148914691236517205:Int)) + (bAnd .u64 a0 (6148914691236517205:Int)))) (3689348814741910323:Int)))) (4:Int)) + (u64.wrap ((bAnd .u64 (iShr .u64 (u64.wrap ((bAnd .u64 (iShr .u64 a0 (1:Int)) (6148914691236517205:Int)) + (bAnd .u64 a0 (6148914691236517205:Int)))) (2:Int)) (3689348814741910323:Int)) + (bAnd .u64 (u64.wrap ((bAnd .u64 (iShr .u64 a0 (1:Int)) (6148914691236517205:Int)) + (bAnd .u64 a0 (6148914691236517205:Int)))) (3689348814741910323:Int)))))) (1085102592571150095:Int)) (8:Int)))) (16:Int)))) (32:Int))))) (127:Int))) z z z (wv (.int .i64 (bAnd .i64 (i64.wrap (u64.wrap ((u64.wrap ((u64.wrap ((bAnd .u64 (u64.wrap ((iShr .u64 (u64.wrap ((bAnd .u64 (iShr .u64 (u64.wrap ((bAnd .u64 (iShr .u64 a0 (1:Int)) (6148914691236517205:Int)) + (bAnd .u64 a0 (6148914691236517205:Int)))) (2:Int)) (3689348814741910323:Int)) + (bAnd .u64 (u64.wrap ((bAnd .u64 (iShr .u64 a0 (1:Int)) (6148914691236517205:Int)) + (bAnd .u64 a0 (6148914691236517205:Int)))) (3689348814741910323:Int)))) (4:Int)) + (u64.wrap ((bAnd .u64 (iShr .u64 (u64.wrap ((bAnd .u64 (iShr .u64 a0 (1:Int)) (6148914691236517205:Int)) + (bAnd .u64 a0 (6148914691236517205:Int)))) (2:Int)) (3689348814741910323:Int)) + (bAnd .u64 (u64.wrap ((bAnd .u64 (iShr .u64 a0 (1:Int)) (6148914691236517205:Int)) + (bAnd .u64 a0 (6148914691236517205:Int)))) (3689348814741910323:Int)))))) (1085102592571150095:Int)) + (iShr .u64 (bAnd .u64 (u64.wrap ((iShr .u64 (u64.wrap ((bAnd .u64 (iShr .u64 (u64.wrap ((bAnd .u64 (iShr .u64 a0 (1:Int)) (6148914691236517205:Int)) + (bAnd .u64 a0 (6148914691236517205:Int)))) (2:Int)) (3689348814741910323:Int)) + (bAnd .u64 (u64.wrap ((bAnd .u64 (iShr .u64 a0 (1:Int)) (6148914691236517205:Int)) + (bAnd .u64 a0 (6148914691236517205:Int)))) (3689348814741910323:Int)))) (4:Int)) + (u64.wrap ((bAnd .u64 (iShr .u64 (u64.wrap ((bAnd .u64 (iShr .u64 a0 (1:Int)) (6148914691236517205:Int)) + (bAnd .u64 a0 (6148914691236517205:Int)))) (2:Int)) (3689348814741910323:Int)) + (bAnd .u64 (u64.wrap ((bAnd .u64 (iShr .u64 a0 (1:Int)) (6148914691236517205:Int)) + (bAnd .u64 a0 (6148914691236517205:Int)))) (3689348814741910323:Int)))))) (1085102592571150095:Int)) (8:Int)))) + (iShr .u64 (u64.wrap ((bAnd .u64 (u64.wrap ((iShr .u64 (u64.wrap ((bAnd .u64 (iShr .u64 (u64.wrap ((bAnd .u64 (iShr .u64 a0 (1:Int)) (6148914691236517205:Int)) + (bAnd .u64 a0 (6148914691236517205:Int)))) (2:Int)) (3689348814741910323:Int)) + (bAnd .u64 (u64.wrap ((bAnd .u64 (iShr .u64 a0 (1:Int)) (6148914691236517205:Int)) + (bAnd .u64 a0 (6148914691236517205:Int)))) (3689348814741910323:Int)))) (4:Int)) + (u64.wrap ((bAnd .u64 (iShr .u64 (u64.wrap ((bAnd .u64 (iShr .u64 a0 (1:Int)) (6148914691236517205:Int)) + (bAnd .u64 a0 (6148914691236517205:Int)))) (2:Int)) (3689348814741910323:Int)) + (bAnd .u64 (u64.wrap ((bAnd .u64 (iShr .u64 a0 (1:Int)) (6148914691236517205:Int)) + (bAnd .u64 a0 (6148914691236517205:Int)))) (3689348814741910323:Int)))))) (1085102592571150095:Int)) + (iShr .u64 (bAnd .u64 (u64.wrap ((iShr .u64 (u64.wrap ((bAnd .u64 (iShr .u64 (u64.wrap ((bAnd .u64 (iShr .u64 a0 (1:Int)) (6148914691236517205:Int)) + (bAnd .u64 a0 (6148914691236517205:Int)))) (2:Int)) (3689348814741910323:Int)) + (bAnd .u64 (u64.wrap ((bAnd .u64 (iShr .u64 a0 (1:Int)) (6148914691236517205:Int)) + (bAnd .u64 a0 (6148914691236517205:Int)))) (3689348814741910323:Int)))) (4:Int)) + (u64.wrap ((bAnd .u64 (iShr .u64 (u64.wrap ((bAnd .u64 (iShr .u64 a0 (1:Int)) (6148914691236517205:Int)) + (bAnd .u64 a0 (6148914691236517205:Int)))) (2:Int)) (3689348814741910323:Int)) + (bAnd .u64 (u64.wrap ((bAnd .u64 (iShr .u64 a0 (1:Int)) (6148914691236517205:Int)) + (bAnd .u64 a0 (6148914691236517205:Int)))) (3689348814741910323:Int)))))) (1085102592571150095:Int)) (8:Int)))) (16:Int)))) + (iShr .u64 (u64.wrap ((u64.wrap ((bAnd .u64 (u64.wrap ((iShr .u64 (u64.wrap ((bAnd .u64 (iShr .u64 (u64.wrap ((bAnd .u64 (iShr .u64 a0 (1:Int)) (6148914691236517205:Int)) + (bAnd .u64 a0 (6148914691236517205:Int)))) (2:Int)) (3689348814741910323:Int)) + (bAnd .u64 (u64.wrap ((bAnd .u64 (iShr .u64 a0 (1:Int)) (6148914691236517205:Int)) + (bAnd .u64 a0 (6148914691236517205:Int)))) (3689348814741910323:Int)))) (4:Int)) + (u64.wrap ((bAnd .u64 (iShr .u64 (u64.wrap ((bAnd .u64 (iShr .u64 a0 (1:Int)) (6148914691236517205:Int)) + (bAnd .u64 a0 (6148914691236517205:Int)))) (2:Int)) (3689348814741910323:Int)) + (bAnd .u64 (u64.wrap ((bAnd .u64 (iShr .u64 a0 (1:Int)) (6148914691236517205:Int)) + (bAnd .u64 a0 (6148914691236517205:Int)))) (3689348814741910323:Int)))))) (1085102592571150095:Int)) + (iShr .u64 (bAnd .u64 (u64.wrap ((iShr .u64 (u64.wrap ((bAnd .u64 (iShr .u64 (u64.wrap ((bAnd .u64 (iShr .u64 a0 (1:Int)) (6148914691236517205:Int)) + (bAnd .u64 a0 (6148914691236517205:Int)))) (2:Int)) (3689348814741910323:Int)) + (bAnd .u64 (u64.wrap ((bAnd .u64 (iShr .u64 a0 (1:Int)) (6148914691236517205:Int)) + (bAnd .u64 a0 (6148914691236517205:Int)))) (3689348814741910323:Int)))) (4:Int)) + (u64.wrap ((bAnd .u64 (iShr .u64 (u64.wrap ((bAnd .u64 (iShr .u64 a0 (1:Int)) (6148914691236517205:Int)) + (bAnd .u64 a0 (6148914691236517205:Int)))) (2:Int)) (3689348814741910323:Int)) + (bAnd .u64 (u64.wrap ((bAnd .u64 (iShr .u64 a0 (1:Int)) (6148914691236517205:Int)) + (bAnd .u64 a0 (6148914691236517205:Int)))) (3689348814741910323:Int)))))) (1085102592571150095:Int)) (8:Int)))) + (iShr .u64 (u64.wrap ((bAnd .u64 (u64.wrap ((iShr .u64 (u64.wrap ((bAnd .u64 (iShr .u64 (u64.wrap ((bAnd .u64 (iShr .u64 a0 (1:Int)) (6148914691236517205:Int)) + (bAnd .u64 a0 (6148914691236517205:Int)))) (2:Int)) (3689348814741910323:Int)) + (bAnd .u64 (u64.wrap ((bAnd .u64 (iShr .u64 a0 (1:Int)) (6148914691236517205:Int)) + (bAnd .u64 a0 (6148914691236517205:Int)))) (3689348814741910323:Int)))) (4:Int)) + (u64.wrap ((bAnd .u64 (iShr .u64 (u64.wrap ((bAnd .u64 (iShr .u64 a0 (1:Int)) (6148914691236517205:Int)) + (bAnd .u64 a0 (6148914691236517205:Int)))) (2:Int)) (3689348814741910323:Int)) + (bAnd .u64 (u64.wrap ((bAnd .u64 (iShr .u64 a0 (1:Int)) (6148914691236517205:Int)) + (bAnd .u64 a0 (6148914691236517205:Int)))) (3689348814741910323:Int)))))) (1085102592571150095:Int)) + (iShr .u64 (bAnd .u64 (u64.wrap ((iShr .u64 (u64.wrap ((bAnd .u64 (iShr .u64 (u64.wrap ((bAnd .u64 (iShr .u64 a0 (1:Int)) (6148914691236517205:Int)) + (bAnd .u64 a0 (6148914691236517205:Int)))) (2:Int)) (3689348814741910323:Int)) + (bAnd .u64 (u64.wrap ((bAnd .u64 (iShr .u64 a0 (1:Int)) (6148914691236517205:Int)) + (bAnd .u64 a0 (6148914691236517205:Int)))) (3689348814741910323:Int)))) (4:Int)) + (u64.wrap ((bAnd .u64 (iShr .u64 (u64.wrap ((bAnd .u64 (iShr .u64 a0 (1:Int)) (6148914691236517205:Int)) + (bAnd .u64 a0 (6148914691236517205:Int)))) (2:Int)) (3689348814741910323:Int)) + (bAnd .u64 (u64.wrap ((bAnd .u64 (iShr .u64 a0 (1:Int)) (6148914691236517205:Int)) + (bAnd .u64 a0 (6148914691236517205:Int)))) (3689348814741910323:Int)))))) (1085102592571150095:Int)) (8:Int)))) (16:Int)))) (32:Int))))) (127:Int))) z z z (wl_nil (tn (wp_ret ?_))))))))))))))
 obtain rfl := some_inj hm
 refine post_ret (vs := [I6 (bAnd .i64 (i64.wrap (u64.wrap ((u64.wrap ((u64.wrap ((bAnd .u64 (u64.wrap ((iShr .u64 (u64.wrap ((bAnd .u64 (iShr .u64 (u64.wrap ((bAnd .u64 (iShr .u64 a0 (1:Int)) (6148914691236517205:Int)) + (bAnd .u64 a0 (6148914691236517205:Int)))) (2:Int)) (3689348814741910323:Int)) + (bAnd .u64 (u64.wrap ((bAnd .u64 (iShr .u64 a0 (1:Int)) (6148914691236517205:Int)) + (bAnd .u64 a0 (6148914691236517205:Int)))) (3689348814741910323:Int)))) (4:Int)) + (u64.wrap ((bAnd .u64 (iShr .u64 (u64.wrap ((bAnd .u64 (iShr .u64 a0 (1:Int)) (6148914691236517205:Int)) + (bAnd .u64 a0 (6148914691236517205:Int)))) (2:Int)) (3689348814741910323:Int)) + (bAnd .u64 (u64.wrap ((bAnd .u64 (iShr .u64 a0 (1:Int)) (6148914691236517205:Int)) + (bAnd .u64 a0 (6148914691236517205:Int)))) (3689348814741910323:Int)))))) (1085102592571150095:Int)) + (iShr .u64 (bAnd .u64 (u64.wrap ((iShr .u64 (u64.wrap ((bAnd .u64 (iShr .u64 (u64.wrap ((bAnd .u64 (iShr .u64 a0 (1:Int)) (6148914691236517205:Int)) + (bAnd .u64 a0 (6148914691236517205:Int)))) (2:Int)) (3689348814741910323:Int)) + (bAnd .u64 (u64.wrap ((bAnd .u64 (iShr .u64 a0 (1:Int)) (6148914691236517205:Int)) + (bAnd .u64 a0 (6148914691236517205:Int)))) (3689348814741910323:Int)))) (4:Int)) + (u64.wrap ((bAnd .u64 (iShr .u64 (u64.wrap ((bAnd .u64 (iShr .u64 a0 (1:Int)) (6148914691236517205:Int)) + (bAnd .u64 a0 (6148914691236517205:Int)))) (2:Int)) (3689348814741910323:Int)) + (bAnd .u64 (u64.wrap ((bAnd .u64 (iShr .u64 a0 (1:Int)) (6148914691236517205:Int)) + (bAnd .u64 a0 (6148914691236517205:Int)))) (3689348814741910323:Int)))))) (1085102592571150095:Int)) (8:Int)))) + (iShr .u64 (u64.wrap ((bAnd .u64 (u64.wrap ((iShr .u64 (u64.wrap ((bAnd .u64 (iShr .u64 (u64.wrap ((bAnd .u64 (iShr .u64 a0 (1:Int)) (6148914691236517205:Int)) + (bAnd .u64 a0 (6148914691236517205:Int)))) (2:Int)) (3689348814741910323:Int)) + (bAnd .u64 (u64.wrap ((bAnd .u64 (iShr .u64 a0 (1:Int)) (6148914691236517205:Int)) + (bAnd .u64 a0 (6148914691236517205:Int)))) (3689348814741910323:Int)))) (4:Int)) + (u64.wrap ((bAnd .u64 (iShr .u64 (u64.wrap ((bAnd .u64 (iShr .u64 a0 (1:Int)) (6148914691236517205:Int)) + (bAnd .u64 a0 (6148914691236517205:Int)))) (2:Int)) (3689348814741910323:Int)) + (bAnd .u64 (u64.wrap ((bAnd .u64 (iShr .u64 a0 (1:Int)) (6148914691236517205:Int)) + (bAnd .u64 a0 (6148914691236517205:Int)))) (3689348814741910323:Int)))))) (1085102592571150095:Int)) + (iShr .u64 (bAnd .u64 (u64.wrap ((iShr .u64 (u64.wrap ((bAnd .u64 (iShr .u64 (u64.wrap ((bAnd .u64 (iShr .u64 a0 (1:Int)) (6148914691236517205:Int)) + (bAnd .u64 a0 (6148914691236517205:Int)))) (2:Int)) (3689348814741910323:Int)) + (bAnd .u64 (u64.wrap ((bAnd .u64 (iShr .u64 a0 (1:Int)) (6148914691236517205:Int)) + (bAnd .u64 a0 (6148914691236517205:Int)))) (3689348814741910323:Int)))) (4:Int)) + (u64.wrap ((bAnd .u64 (iShr .u64 (u64.wrap ((bAnd .u64 (iShr .u64 a0 (1:Int)) (6148914691236517205:Int)) + (bAnd .u64 a0 (6148914691236517205:Int)))) (2:Int)) (3689348814741910323:Int)) + (bAnd .u64 (u64.wrap ((bAnd .u64 (iShr .u64 a0 (1:Int)) (6148914691236517205:Int)) + (bAnd .u64 a0 (6148914691236517205:Int)))) (3689348814741910323:Int)))))) (1085102592571150095:Int)) (8:Int)))) (16:Int)))) + (iShr .u64 (u64.wrap ((u64.wrap ((bAnd .u64 (u64.wrap ((iShr .u64 (u64.wrap ((bAnd .u64 (iShr .u64 (u64.wrap ((bAnd .u64 (iShr .u64 a0 (1:Int)) (6148914691236517205:Int)) + (bAnd .u64 a0 (6148914691236517205:Int)))) (2:Int)) (3689348814741910323:Int)) + (bAnd .u64 (u64.wrap ((bAnd .u64 (iShr .u64 a0 (1:Int)) (6148914691236517205:Int)) + (bAnd .u64 a0 (6148914691236517205:Int)))) (3689348814741910323:Int)))) (4:Int)) + (u64.wrap ((bAnd .u64 (iShr .u64 (u64.wrap ((bAnd .u64 (iShr .u64 a0 (1:Int)) (6148914691236517205:Int)) + (bAnd .u64 a0 (6148914691236517205:Int)))) (2:Int)) (3689348814741910323:Int)) + (bAnd .u64 (u64.wrap ((bAnd .u64 (iShr .u64 a0 (1:Int)) (6148914691236517205:Int)) + (bAnd .u64 a0 (6148914691236517205:Int)))) (3689348814741910323:Int)))))) (1085102592571150095:Int)) + (iShr .u64 (bAnd .u64 (u64.wrap ((iShr .u64 (u64.wrap ((bAnd .u64 (iShr .u64 (u64.wrap ((bAnd .u64 (iShr .u64 a0 (1:Int)) (6148914691236517205:Int)) + (bAnd .u64 a0 (6148914691236517205:Int)))) (2:Int)) (3689348814741910323:Int)) + (bAnd .u64 (u64.wrap ((bAnd .u64 (iShr .u64 a0 (1:Int)) (6148914691236517205:Int)) + (bAnd .u64 a0 (6148914691236517205:Int)))) (3689348814741910323:Int)))) (4:Int)) + (u64.wrap ((bAnd .u64 (iShr .u64 (u64.wrap ((bAnd .u64 (iShr .u64 a0 (1:Int)) (6148914691236517205:Int)) + (bAnd .u64 a0 (6148914691236517205:Int)))) (2:Int)) (3689348814741910323:Int)) + (bAnd .u64 (u64.wrap ((bAnd .u64 (iShr .u64 a0 (1:Int)) (6148914691236517205:Int)) + (bAnd .u64 a0 (6148914691236517205:Int)))) (3689348814741910323:Int)))))) (1085102592571150095:Int)) (8:Int)))) + (iShr .u64 (u64.wrap ((bAnd .u64 (u64.wrap ((iShr .u64 (u64.wrap ((bAnd .u64 (iShr .u64 (u64.wrap ((bAnd .u64 (iShr .u64 a0 (1:Int)) (6148914691236517205:Int)) + (bAnd .u64 a0 (6148914691236517205:Int)))) (2:Int)) (3689348814741910323:Int)) + (bAnd .u64 (u64.wrap ((bAnd .u64 (iShr .u64 a0 (1:Int)) (6148914691236517205:Int)) + (bAnd .u64 a0 (6148914691236517205:Int)))) (3689348814741910323:Int)))) (4:Int)) + (u64.wrap ((bAnd .u64 (iShr .u64 (u64.wrap ((bAnd .u64 (iShr .u64 a0 (1:Int)) (6148914691236517205:Int)) + (bAnd .u64 a0 (6148914691236517205:Int)))) (2:Int)) (3689348814741910323:Int)) + (bAnd .u64 (u64.wrap ((bAnd .u64 (iShr .u64 a0 (1:Int)) (6148914691236517205:Int)) + (bAnd .u64 a0 (6148914691236517205:Int)))) (3689348814741910323:Int)))))) (1085102592571150095:Int)) + (iShr .u64 (bAnd .u64 (u64.wrap ((iShr .u64 (u64.wrap ((bAnd .u64 (iShr .u64 (u64.wrap ((bAnd .u64 (iShr .u64 a0 (1:Int)) (6148914691236517205:Int)) + (bAnd .u64 a0 (6148914691236517205:Int)))) (2:Int)) (3689348814741910323:Int)) + (bAnd .u64 (u64.wrap ((bAnd .u64 (iShr .u64 a0 (1:Int)) (6148914691236517205:Int)) + (bAnd .u64 a0 (6148914691236517205:Int)))) (3689348814741910323:Int)))) (4:Int)) + (u64.wrap ((bAnd .u64 (iShr .u64 (u64.wrap ((bAnd .u64 (iShr .u64 a0 (1:Int)) (6148914691236517205:Int)) + (bAnd .u64 a0 (6148914691236517205:Int)))) (2:Int)) (3689348814741910323:Int)) + (bAnd .u64 (u64.wrap ((bAnd .u64 (iShr .u64 a0 (1:Int)) (6148914691236517205:Int)) + (bAnd .u64 a0 (6148914691236517205:Int)))) (3689348814741910323:Int)))))) (1085102592571150095:Int)) (8:Int)))) (16:Int)))) (32:Int))))) (127:Int))]) results32 (rvs_cons (rv_tmp z) rvs_nil) ?_
 exact ⟨z, hst.keep0⟩
}

theorem cmp_isNaN_int_ref {w0 w : World} {I : HL} {R : SP} {a0 : Int}  (hst : St w0 w I [] R) {r : (Bool)} (hm : cmp_isNaN_int a0 = some r) :
  Calls prog 57 #[I6 a0] w fun e w' => e = .returned (.bool r) ∧ St w0 w' I [] R := by {
 unfold cmp_isNaN_int at hm
 refine calls_start (args := [I6 a0]) func57 z ntmps57 (Nat.le_of_ble_eq_true z) ?_
 refine wp_seq (wrl (wv (.bool false) z z z (wl_nil (tn (wp_seq (wrl (wv (.int .i64 a0) z z z (wv (.int .i64 a0) z z z (wv (.bool (a0 != a0)) z z z (wv (.bool (a0 != a0)) z z z (wl_nil (tn (wp_ret ?_)))))))))))))
 obtain rfl := some_inj hm
 refine post_ret (vs := [.bool (a0 != a0)]) results57 (rvs_cons (rv_tmp z) rvs_nil) ?_
 exact ⟨z, hst.keep0⟩
}

theorem cmp_Compare_int_ref {w0 w : World} {I : HL} {R : SP} {a0 : Int} {a1 : Int}  (hst : St w0 w I [] R) {r : (Int)} (hm : cmp_Compare_int a0 a1 = some r) :
  Calls prog 49 #[I6 a0, I6 a1] w fun e w' => e = .returned (.int .i64 r) ∧ St w0 w' I [] R := by {
 unfold cmp_Compare_int at hm
 refine calls_start (args := [I6 a0, I6 a1]) func49 z ntmps49 (Nat.le_of_ble_eq_true z) ?_
 refine wp_seq (wrl (wv (.int .i64 (0:Int)) z z z (wl_nil (tn (wp_seq (wrl (wv (.int .i64 a0) z z z ?_)))))))
 obtain ⟨t2453, ht2454, hm⟩ := bind_some hm
 refine wc call57 [I6 a0] z z z ?_
 refine (cmp_isNaN_int_ref hst.to0 ht2454).mono ?_
 rintro _ w2455 ⟨rfl, hst⟩
 refine ⟨_, z, ?_⟩
 replace hst := hst.of0
 refine wv (.bool t2453) z z z (wl_nil (tn (wp_seq (wrl (wv (.int .i64 a1) z z z ?_)))))
 obtain ⟨t2458, ht2459, hm⟩ := bind_some hm
 refine wc call57 [I6 a1] z z z ?_
 refine (cmp_isNaN_int_ref hst.to0 ht2459).mono ?_
 rintro _ w2460 ⟨rfl, hst⟩
 refine ⟨_, z, ?_⟩
 replace hst := hst.of0
 refine wv (.bool t2458) z z z (wl_nil (tn (wp_seq (wp_seq (wrl (wv (.bool t2453) z z z (wl_nil (tn ?_))))))))
 refine bsplit t2453 (fun hc2463 => ?_) (fun hc2463 => ?_)
 {
 replace hm := bif_t hc2463 hm
 refine wp_ift (cvb hc2463) ?_
 refine wp_seq (wp_seq (wrl (wv (.bool t2458) z z z (wl_nil (tn ?_)))))
 refine bsplit t2458 (fun hc2464 => ?_) (fun hc2464 => ?_)
 {
 replace hm := bif_t hc2464 hm
 refine wp_ift (cvb hc2464) ?_
 refine wp_seq (wrl (wv (.int .i64 (0:Int)) z z z (wl_nil (tn (wp_ret (then_r (then_r ?_)))))))
 obtain rfl := some_inj hm
 refine post_ret (vs := [Zi]) results49 (rvs_cons (rv_tmp z) rvs_nil) ?_
 exact ⟨z, hst.keep0⟩
}
 {
 replace hm := bif_f hc2464 hm
 refine wp_iff (cvb hc2464) ?_
 refine wp_skip (tn (wp_seq (wrl ?_)))
 refine wv (.int .i64 ((-1):Int)) z z z (wl_nil (tn (wp_ret (then_r ?_))))
 obtain rfl := some_inj hm
 refine post_ret (vs := [I6 ((-1):Int)]) results49 (rvs_cons (rv_tmp z) rvs_nil) ?_
 exact ⟨z, hst.keep0⟩
}
}
 {
 replace hm := bif_f hc2463 hm
 refine wp_iff (cvb hc2463) ?_
 refine wp_skip (tn (wp_seq (wp_seq (wrl ?_))))
 refine wv (.bool t2458) z z z (wl_nil (tn ?_))
 refine bsplit t2458 (fun hc2465 => ?_) (fun hc2465 => ?_)
 {
 replace hm := bif_t hc2465 hm
 refine wp_ift (cvb hc2465) ?_
 refine wp_seq (wrl (wv (.int .i64 (1:Int)) z z z (wl_nil (tn (wp_ret (then_r ?_))))))
 obtain rfl := some_inj hm
 refine post_ret (vs := [I6 (1:Int)]) results49 (rvs_cons (rv_tmp z) rvs_nil) ?_
 exact ⟨z, hst.keep0⟩
}
 {
 replace hm := bif_f hc2465 hm
 refine wp_iff (cvb hc2465) ?_
 refine wp_skip (tn (wp_seq (wp_seq (wrl ?_))))
 refine wv (.int .i64 a0) z z z (wv (.int .i64 a1) z z z (wv (.bool (decide (a0 < a1))) z z z (wl_nil (tn ?_))))
 refine bsplit (decide (a0 < a1)) (fun hc2466 => ?_) (fun hc2466 => ?_)
 {
 replace hm := bif_t hc2466 hm
 refine wp_ift (cvb hc2466) ?_
 refine wp_seq (wrl (wv (.int .i64 ((-1):Int)) z z z (wl_nil (tn (wp_ret (then_r ?_))))))
 obtain rfl := some_inj hm
 refine post_ret (vs := [I6 ((-1):Int)]) results49 (rvs_cons (rv_tmp z) rvs_nil) ?_
 exact ⟨z, hst.keep0⟩
}
 {
 replace hm := bif_f hc2466 hm
 refine wp_iff (cvb hc2466) ?_
 refine wp_skip (tn (wp_seq (wp_seq (wrl ?_))))
 refine wv (.int .i64 a0) z z z (wv (.int .i64 a1) z z z (wv (.bool (decide (a0 > a1))) z z z (wl_nil (tn ?_))))
 refine bsplit (decide (a0 > a1)) (fun hc2467 => ?_) (fun hc2467 => ?_)
 {
 replace hm := bif_t hc2467 hm
 refine wp_ift (cvb hc2467) ?_
 refine wp_seq (wrl (wv (.int .i64 (1:Int)) z z z (wl_nil (tn (wp_ret (then_r ?_))))))
 obtain rfl := some_inj hm
 refine post_ret (vs := [I6 (1:Int)]) results49 (rvs_cons (rv_tmp z) rvs_nil) ?_
 exact ⟨z, hst.keep0⟩
}
 {
 replace hm := bif_f hc2467 hm
 refine wp_iff (cvb hc2467) ?_
 refine wp_skip (tn (wp_seq (wrl ?_)))
 refine wv (.int .i64 (0:Int)) z z z (wl_nil (tn (wp_ret ?_)))
 obtain rfl := some_inj hm
 refine post_ret (vs := [Zi]) results49 (rvs_cons (rv_tmp z) rvs_nil) ?_
 exact ⟨z, hst.keep0⟩
}
}
}
}
}

end Go.Proofs.Ytkjkbfaaigmmcaa
