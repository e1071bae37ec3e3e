/- The Go functions refine their models, part 0. -/
import Derived.Test.YtkjkbfaaigmmcaaConfigChecksT
set_option linter.unusedVariables false
set_option linter.unusedSimpArgs false
set_option maxRecDepth 100000
set_option maxHeartbeats 4000000
namespace Go.Proofs.Ytkjkbfaaigmmcaa
open Go Go.V
open _root_.Go.Proofs.Try IntKind
attribute [local irreducible] wpList Code.wp wpQuiet Calls bodyPost Oper.wp wpS Nx PendOK YieldsIn
theorem ref03_Lattices_ref {w0 w : World} {I : HL} {R : SP} {a0 : Int}  (hst : St w0 w I [] R) {r : ((List Int))} (hm : ref03_Lattices a0 = some r) :
  Calls prog 36 #[U1 a0] w fun e w' => ∃ (q0_0 : Value), e = .returned (q0_0) ∧ St w0 w' I [ownS (tyInt .u64) q0_0 r] R := by {
 unfold ref03_Lattices at hm
 refine calls_start (args := [U1 a0]) func36 z ntmps36 (Nat.le_of_ble_eq_true z) ?_
 refine wp_seq (wrl (wv ((.slice none 0 0)) z z z (wl_nil (tn (wp_seq (wp_seq (wrl (wv (.int .u8 a0) z z z (wv (.int .u8 (Int.tmod a0 (5:Int))) z z (x_rem (by decide) z z) (wl_nil (tn (wp_block (wp_seq (wrl (wv (.bool ((Int.tmod a0 (5:Int)) == (0:Int))) z z z (wv (.bool ((Int.tmod a0 (5:Int)) == (0:Int))) z z z (wl_nil (tn ?_))))))))))))))))))
 refine bsplit ((Int.tmod a0 (5:Int)) == (0:Int)) (fun hc204 => ?_) (fun hc204 => ?_)
 {
 replace hm := bif_t hc204 hm
 refine wp_ift (cvb hc204) ?_
 refine wp_seq (wrl ?_)
 obtain ⟨b205, w206, ew207, eb208, hst⟩ := hst.lits (E := (tyInt .u64)) (xs := [(3:Int), (2:Int)]) [[U6 (3:Int)], [U6 (2:Int)]] 22 2 z (Reps.cons z (Reps.cons z Reps.nil))
 refine wl_run (v := (.slice (some ⟨b205, 0, none⟩) 2 2)) (w' := w206) z z (x_als (by kernel_rfl) ew207 eb208) ?_
 refine wv ((.slice (some ⟨b205, 0, none⟩) 2 2)) z z z (wl_nil (tn (wp_ret (blk_r (then_r ?_)))))
 obtain rfl := some_inj hm
 refine post_ret (vs := [(.slice (some ⟨b205, 0, none⟩) 2 2)]) results36 (rvs_cons (rv_tmp z) rvs_nil) ?_
 exact ⟨(.slice (some ⟨b205, 0, none⟩) 2 2), z, hst.keep1⟩
}
 {
 replace hm := bif_f hc204 hm
 refine wp_iff (cvb hc204) ?_
 refine wp_seq (wrl (wv (.bool ((Int.tmod a0 (5:Int)) == (1:Int))) z z z (wv (.bool ((Int.tmod a0 (5:Int)) == (1:Int))) z z z (wl_nil (tn ?_)))))
 refine bsplit ((Int.tmod a0 (5:Int)) == (1:Int)) (fun hc210 => ?_) (fun hc210 => ?_)
 {
 replace hm := bif_t hc210 hm
 refine wp_ift (cvb hc210) ?_
 refine wp_seq (wrl ?_)
 obtain ⟨b211, w212, ew213, eb214, hst⟩ := hst.lits (E := (tyInt .u64)) (xs := [(1:Int)]) [[U6 (1:Int)]] 22 1 z (Reps.cons z Reps.nil)
 refine wl_run (v := (.slice (some ⟨b211, 0, none⟩) 1 1)) (w' := w212) z z (x_als (by kernel_rfl) ew213 eb214) ?_
 refine wv ((.slice (some ⟨b211, 0, none⟩) 1 1)) z z z (wl_nil (tn (wp_ret (blk_r (then_r ?_)))))
 obtain rfl := some_inj hm
 refine post_ret (vs := [(.slice (some ⟨b211, 0, none⟩) 1 1)]) results36 (rvs_cons (rv_tmp z) rvs_nil) ?_
 exact ⟨(.slice (some ⟨b211, 0, none⟩) 1 1), z, hst.keep1⟩
}
 {
 replace hm := bif_f hc210 hm
 refine wp_iff (cvb hc210) ?_
 refine wp_seq (wrl (wv (.bool ((Int.tmod a0 (5:Int)) == (2:Int))) z z z (wv (.bool ((Int.tmod a0 (5:Int)) == (2:Int))) z z z (wl_nil (tn ?_)))))
 refine bsplit ((Int.tmod a0 (5:Int)) == (2:Int)) (fun hc216 => ?_) (fun hc216 => ?_)
 {
 replace hm := bif_t hc216 hm
 refine wp_ift (cvb hc216) ?_
 refine wp_seq (wrl ?_)
 obtain ⟨b217, w218, ew219, eb220, hst⟩ := hst.lits (E := (tyInt .u64)) (xs := [(1:Int), (3:Int), (7:Int)]) [[U6 (1:Int)], [U6 (3:Int)], [U6 (7:Int)]] 22 3 z (Reps.cons z (Reps.cons z (Reps.cons z Reps.nil)))
 refine wl_run (v := (.slice (some ⟨b217, 0, none⟩) 3 3)) (w' := w218) z z (x_als (by kernel_rfl) ew219 eb220) ?_
 refine wv ((.slice (some ⟨b217, 0, none⟩) 3 3)) z z z (wl_nil (tn (wp_ret (blk_r (then_r ?_)))))
 obtain rfl := some_inj hm
 refine post_ret (vs := [(.slice (some ⟨b217, 0, none⟩) 3 3)]) results36 (rvs_cons (rv_tmp z) rvs_nil) ?_
 exact ⟨(.slice (some ⟨b217, 0, none⟩) 3 3), z, hst.keep1⟩
}
 {
 replace hm := bif_f hc216 hm
 refine wp_iff (cvb hc216) ?_
 refine wp_seq (wrl (wv (.bool ((Int.tmod a0 (5:Int)) == (3:Int))) z z z (wv (.bool ((Int.tmod a0 (5:Int)) == (3:Int))) z z z (wl_nil (tn ?_)))))
 refine bsplit ((Int.tmod a0 (5:Int)) == (3:Int)) (fun hc222 => ?_) (fun hc222 => ?_)
 {
 replace hm := bif_t hc222 hm
 refine wp_ift (cvb hc222) ?_
 refine wp_seq (wrl ?_)
 obtain ⟨b223, w224, ew225, eb226, hst⟩ := hst.lits (E := (tyInt .u64)) (xs := [(15:Int), (10:Int), (12:Int), (8:Int)]) [[U6 (15:Int)], [U6 (10:Int)], [U6 (12:Int)], [U6 (8:Int)]] 22 4 z (Reps.cons z (Reps.cons z (Reps.cons z (Reps.cons z Reps.nil))))
 refine wl_run (v := (.slice (some ⟨b223, 0, none⟩) 4 4)) (w' := w224) z z (x_als (by kernel_rfl) ew225 eb226) ?_
 refine wv ((.slice (some ⟨b223, 0, none⟩) 4 4)) z z z (wl_nil (tn (wp_ret (blk_r (then_r ?_)))))
 obtain rfl := some_inj hm
 refine post_ret (vs := [(.slice (some ⟨b223, 0, none⟩) 4 4)]) results36 (rvs_cons (rv_tmp z) rvs_nil) ?_
 exact ⟨(.slice (some ⟨b223, 0, none⟩) 4 4), z, hst.keep1⟩
}
 {
 replace hm := bif_f hc222 hm
 refine wp_iff (cvb hc222) ?_
 refine wp_skip (blk_n (tn (wp_seq (wrl ?_))))
 refine wv ((.slice none 0 0)) z z z (wl_nil (tn (wp_seq (wp_seq (wrl (wv (.int .i64 (0:Int)) z z z (wl_nil (tn (wp_block ?_)))))))))
 replace hst := hst.own_nil (tyInt .u64)
 obtain ⟨n347, hm⟩ := loopO_some hm
 refine wp_loop_n (fun n a w => ∃ (z342 : (List Int)) (z345 : Int) (v343 : Value) (σ346 : Nat → Value), loopN (ref03_Lattices_l0) n (z342, z345) = some r ∧ a = Fr 43 (upd (upd σ346 3 (v343)) 4 (.int .i64 z345)) ∧ St w0 w I [ownS (tyInt .u64) v343 z342] R) n347 ⟨[], (0:Int), Zs, _, hm, (fu 3 (.slice none 0 0) z (fu 4 (.int .i64 (0:Int)) z z)), hst⟩ ?_
 rintro n353 _ w348 ⟨z342, z345, v343, σ346, hm, rfl, hst⟩
 obtain ⟨n350, y351, rfl, hm, hx352⟩ := loopN_some hm
 dsimp only [ref03_Lattices_l0] at hm
 refine wp_seq (wp_seq (wrl (wv (.int .i64 z345) z z z (wv (.bool (decide (z345 < (8:Int)))) z z z (wl_nil (tn ?_))))))
 refine bsplit (decide (z345 < (8:Int))) (fun hc354 => ?_) (fun hc354 => ?_)
 {
 replace hm := bif_t hc354 hm
 refine wp_ift (cvb hc354) ?_
 refine wp_skip (tn (wp_seq (wp_block (wp_seq (wrl ?_)))))
 refine wv (.int .u64 (0:Int)) z z z (wl_nil (tn ?_))
 obtain ⟨y378, hm, hx379⟩ := bind_some hm
 refine wp_cut (fun a w => ∃ (z375 : Int) (σ376 : Nat → Value), (ref03_Lattices_j1 z342 z345) z375 = some y351 ∧ a = Fr 43 (upd (upd (upd σ376 3 (v343)) 4 (.int .i64 z345)) 5 (.int .u64 z375)) ∧ St w0 w I [ownS (tyInt .u64) v343 z342] R) ?_ ?_
 {
 refine wp_seq (wrl (wv (.int .i64 (0:Int)) z z z (wl_nil (tn (wp_block ?_)))))
 obtain ⟨n365, hm⟩ := loopO_some hm
 refine wp_loop_n (fun n a w => ∃ (z362 : Int) (z363 : Int) (σ364 : Nat → Value), loopN (ref03_Lattices_l2 z345) n (z362, z363) = some y378 ∧ a = Fr 43 (upd (upd (upd (upd σ364 3 (v343)) 4 (.int .i64 z345)) 5 (.int .u64 z362)) 6 (.int .i64 z363)) ∧ St w0 w I [ownS (tyInt .u64) v343 z342] R) n365 ⟨(0:Int), (0:Int), _, hm, (fu 3 v343 z (fu 4 (.int .i64 z345) z (fu 5 (.int .u64 (0:Int)) z (fu 6 (.int .i64 (0:Int)) z z)))), hst⟩ ?_
 rintro n371 _ w366 ⟨z362, z363, σ364, hm, rfl, hst⟩
 obtain ⟨n368, y369, rfl, hm, hx370⟩ := loopN_some hm
 dsimp only [ref03_Lattices_l2] at hm
 refine wp_seq (wp_seq (wrl (wv (.int .i64 z363) z z z (wv (.bool (decide (z363 < (8:Int)))) z z z (wl_nil (tn ?_))))))
 refine bsplit (decide (z363 < (8:Int))) (fun hc372 => ?_) (fun hc372 => ?_)
 {
 replace hm := bif_t hc372 hm
 refine wp_ift (cvb hc372) ?_
 refine wp_skip (tn (wp_seq (wp_block (wp_seq (wrl ?_)))))
 refine wv (.int .i64 z345) z z z (wv (.int .i64 z363) z z z (wv (.int .i64 (bAnd .i64 z345 z363)) z z z (wv (.int .i64 z345) z z z (wv (.bool ((bAnd .i64 z345 z363) == z345)) z z z (wl_nil (tn ?_))))))
 refine bsplit ((bAnd .i64 z345 z363) == z345) (fun hc373 => ?_) (fun hc373 => ?_)
 {
 replace hm := bif_t hc373 hm
 refine wp_ift (cvb hc373) ?_
 refine wrl (wv (.int .u64 z362) z z z (wv (.int .i64 z363) z z z ?_))
 obtain ⟨hg374, hm⟩ := gd_some hm
 refine wv (.int .u64 (iShl .u64 (1:Int) z363)) z z (x_shl (of_decide_eq_true hg374) z z) (wv (.int .u64 (bOr .u64 z362 (iShl .u64 (1:Int) z363))) z z z (wv (.int .u64 (bOr .u64 z362 (iShl .u64 (1:Int) z363))) z z z (wl_nil (blk_n (tn (wrl (wv (.int .i64 z363) z z z (wv (.int .i64 (i64.wrap (z363 + (1:Int)))) z z z (wv (.int .i64 (i64.wrap (z363 + (1:Int)))) z z z (wl_nil (tn ?_)))))))))))
 replace hst := hst.keep1
 obtain rfl := some_inj hm
 exact ⟨_, Nat.lt_succ_self _, (bOr .u64 z362 (iShl .u64 (1:Int) z363)), (i64.wrap (z363 + (1:Int))), _, hx370, (fu 3 v343 z (fu 4 (.int .i64 z345) z (fu 5 (.int .u64 (bOr .u64 z362 (iShl .u64 (1:Int) z363))) z (fu 6 (.int .i64 (i64.wrap (z363 + (1:Int)))) z z)))), hst⟩
}
 {
 replace hm := bif_f hc373 hm
 refine wp_iff (cvb hc373) ?_
 refine wp_skip (blk_n (tn (wrl ?_)))
 refine wv (.int .i64 z363) z z z (wv (.int .i64 (i64.wrap (z363 + (1:Int)))) z z z (wv (.int .i64 (i64.wrap (z363 + (1:Int)))) z z z (wl_nil (tn ?_))))
 replace hst := hst.keep1
 obtain rfl := some_inj hm
 exact ⟨_, Nat.lt_succ_self _, z362, (i64.wrap (z363 + (1:Int))), _, hx370, (fu 3 v343 z (fu 4 (.int .i64 z345) z (fu 5 (.int .u64 z362) z (fu 6 (.int .i64 (i64.wrap (z363 + (1:Int)))) z z)))), hst⟩
}
}
 {
 replace hm := bif_f hc372 hm
 refine wp_iff (cvb hc372) ?_
 refine wp_exit (then_x (then_x ?_))
 replace hm := inr_up hm hx370
 refine blk_x (tn ?_)
 replace hst := hst.keep1
 obtain rfl := some_inj hm
 exact ⟨z362, _, hx379, (fu 3 v343 z (fu 4 (.int .i64 z345) z (fu 5 (.int .u64 z362) z z))), hst⟩
}
}
 {
 clear hst
 rintro _ w380 ⟨z375, σ376, hm, rfl, hst⟩
 dsimp only [ref03_Lattices_j1] at hm
 refine wrl (wv (v343) z z z (wv (.int .u64 z375) z z z ?_))
 obtain ⟨b381, w382, ew383, eb384, hst⟩ := hst.lits (E := (tyInt .u64)) (xs := [z375]) [[U6 z375]] 22 1 z (Reps.cons z Reps.nil)
 refine wl_run (v := (.slice (some ⟨b381, 0, none⟩) 1 1)) (w' := w382) z z (x_als (by kernel_rfl) ew383 eb384) ?_
 obtain ⟨hg386, hm⟩ := gd_some hm
 replace hst := hst.pull1
 obtain ⟨v387, w388, hr389, hst⟩ := run_append elem_25 underlying25 hst hst.src1 (room_of hg386 z) 25
 refine wl_run (v := v387) (w' := w388) z z (x_append z z hr389) ?_
 refine wv (v387) z z z (wl_nil (blk_n (tn (wrl (wv (.int .i64 z345) z z z (wv (.int .i64 (i64.wrap (z345 + (1:Int)))) z z z (wv (.int .i64 (i64.wrap (z345 + (1:Int)))) z z z (wl_nil (tn ?_)))))))))
 replace hst := hst.keep1
 obtain rfl := some_inj hm
 exact ⟨_, Nat.lt_succ_self _, (z342 ++ ([z375])), (i64.wrap (z345 + (1:Int))), v387, _, hx352, (fu 3 v387 z (fu 4 (.int .i64 (i64.wrap (z345 + (1:Int)))) z z)), hst⟩
}
}
 {
 replace hm := bif_f hc354 hm
 refine wp_iff (cvb hc354) ?_
 refine wp_exit (then_x (then_x ?_))
 replace hm := inr_up hm hx352
 refine blk_x (tn (wp_seq (wrl ?_)))
 refine wv (v343) z z z (wv (v343) z z z (wl_nil (tn (wp_ret ?_))))
 obtain rfl := some_inj hm
 refine post_ret (vs := [v343]) results36 (rvs_cons (rv_tmp z) rvs_nil) ?_
 exact ⟨v343, z, hst.keep1⟩
}
}
}
}
}
}

theorem ref04_Small_ref {w0 w : World} {I : HL} {R : SP} {a0 : Int}  (hst : St w0 w I [] R) {r : (api_Config)} (hm : ref04_Small a0 = some r) :
  Calls prog 13 #[U1 a0] w fun e w' => ∃ (q0_0 : Value) (q0_1 : Value), e = .returned (.agg #[q0_0, I6 r.Nodes, q0_1, I6 r.Frame, I6 r.Depth, I6 r.Quota, I6 r.Wide, I6 r.Beat, I6 r.Elect]) ∧ St w0 w' I [ownS (tyInt .u64) q0_0 r.Up, ownS tyF64 q0_1 r.Cuts] R := by {
 unfold ref04_Small at hm
 refine calls_start (args := [U1 a0]) func13 z ntmps13 (Nat.le_of_ble_eq_true z) ?_
 refine wp_seq (wrl ?_)
 obtain ⟨b65, w66, ew67, eb68, hst⟩ := hst.box [Zs, Zi, Zs, Zi, Zi, Zi, Zi, Zi, Zi] 28
 refine wl_run (v := Pt b65 0) (w' := w66) z z (x_al (by kernel_rfl) ew67 eb68) ?_
 refine wl_nil (tn (wp_seq (wrl (wv (.int .u8 a0) z z z ?_))))
 obtain ⟨t70, ht71, hm⟩ := bind_some hm
 refine wc call36 [U1 a0] z z z ?_
 refine (ref03_Lattices_ref hst.to0 ht71).mono ?_
 rintro _ w72 ⟨v75, rfl, hst⟩
 refine ⟨_, z, ?_⟩
 replace hst := hst.of1
 refine wv (.int .u8 a0) z z z (wv (.int .u8 (u8.wrap (Int.tdiv a0 (5:Int)))) z z (x_quo (by decide) z z) (wv (.int .i64 (i64.wrap (u8.wrap (Int.tdiv a0 (5:Int))))) z z (by kernel_rfl) (wv (.int .i64 (Int.tmod (i64.wrap (u8.wrap (Int.tdiv a0 (5:Int)))) (3:Int))) z z (x_rem (by decide) z z) (wv (.int .i64 (i64.wrap ((1:Int) + (Int.tmod (i64.wrap (u8.wrap (Int.tdiv a0 (5:Int)))) (3:Int))))) z z z (wv (.agg #[v75, I6 (i64.wrap ((1:Int) + (Int.tmod (i64.wrap (u8.wrap (Int.tdiv a0 (5:Int)))) (3:Int)))), Zs, I6 (128:Int), I6 (512:Int), I6 (1048576:Int), I6 (8:Int), I6 (2:Int), I6 (4:Int)]) z z (by obtain ⟨_, _, hv_, _⟩ := hst.sv0; rw [hv_]; kernel_rfl) ?_)))))
 obtain ⟨b81, w82, ew83, eb84, hst⟩ := hst.box [Zs, Zi, Zs, Zi, Zi, Zi, Zi, Zi, Zi] 28
 refine wl_run (v := Pt b81 0) (w' := w82) z z (x_al (by kernel_rfl) ew83 eb84) ?_
 obtain ⟨w86, hr87, hst⟩ := hst.bx [v75, I6 (i64.wrap ((1:Int) + (Int.tmod (i64.wrap (u8.wrap (Int.tdiv a0 (5:Int)))) (3:Int)))), Zs, I6 (128:Int), I6 (512:Int), I6 (1048576:Int), I6 (8:Int), I6 (2:Int), I6 (4:Int)] sizeOf28 z (oC (one_of_sliceV hst.sv1) (oC z (oC z (oC z (oC z (oC z (oC z (oC z (oC z oN))))))))) (by kernel_rfl)
 refine wl_unit z z (x_unit hr87) ?_
 refine wl_nil (tn ?_)
 obtain ⟨y103, hm, hx104⟩ := bind_some hm
 refine wp_cut (fun a w => ∃ (z100 : (List Int)) (v99 : Value) (σ101 : Nat → Value), (ref04_Small_j0 a0) z100 = some r ∧ a = Fr 24 (upd (upd (upd σ101 0 (.int .u8 a0)) 2 (Pt b65 0)) 3 (Pt b81 0)) ∧ St w0 w I [cells b65 [Zs, Zi, Zs, Zi, Zi, Zi, Zi, Zi, Zi], cells b81 [v99, I6 (i64.wrap ((1:Int) + (Int.tmod (i64.wrap (u8.wrap (Int.tdiv a0 (5:Int)))) (3:Int)))), Zs, I6 (128:Int), I6 (512:Int), I6 (1048576:Int), I6 (8:Int), I6 (2:Int), I6 (4:Int)], ownS (tyInt .u64) v99 z100] R) ?_ ?_
 {
 refine wp_seq (wrl (wv (.int .u8 a0) z z z (wv (.int .u8 (Int.tmod a0 (5:Int))) z z (x_rem (by decide) z z) (wv (.bool ((Int.tmod a0 (5:Int)) == (4:Int))) z z z (wl_nil (tn ?_))))))
 refine bsplit ((Int.tmod a0 (5:Int)) == (4:Int)) (fun hc88 => ?_) (fun hc88 => ?_)
 {
 replace hm := bif_t hc88 hm
 refine wp_ift (cvb hc88) ?_
 refine wrl ?_
 obtain ⟨t89, ht90, hm⟩ := bind_some hm
 refine wc call36 [Zb] z z z ?_
 refine (ref03_Lattices_ref hst.to0 ht90).mono ?_
 rintro _ w91 ⟨v94, rfl, hst⟩
 refine ⟨_, z, ?_⟩
 replace hst := hst.of1
 refine wv (Pt b81 0) z z (x_field z underlying28 z sizeOf25 z) ?_
 replace hst := hst.pull1
 obtain ⟨w96, hr97, hst⟩ := hst.boxStore1 (P := prog) (t := 25) (cs' := [v94, I6 (i64.wrap ((1:Int) + (Int.tmod (i64.wrap (u8.wrap (Int.tdiv a0 (5:Int)))) (3:Int)))), Zs, I6 (128:Int), I6 (512:Int), I6 (1048576:Int), I6 (8:Int), I6 (2:Int), I6 (4:Int)]) 0 v94 (one_of_sliceV hst.sv1) sizeOf25 z z
 refine wl_unit z z (x_unit hr97) ?_
 refine wl_nil (tn ?_)
 replace hst := hst.pull1.pull1.pull3.keep3
 obtain rfl := some_inj hm
 exact ⟨t89, v94, _, hx104, (fu 0 (.int .u8 a0) z (fu 2 (Pt b65 0) z (fu 3 (Pt b81 0) z z))), hst⟩
}
 {
 replace hm := bif_f hc88 hm
 refine wp_iff (cvb hc88) ?_
 refine wp_skip (tn ?_)
 replace hst := hst.pull1.pull1.pull2.keep3
 obtain rfl := some_inj hm
 exact ⟨t70, v75, _, hx104, (fu 0 (.int .u8 a0) z (fu 2 (Pt b65 0) z (fu 3 (Pt b81 0) z z))), hst⟩
}
}
 {
 clear hst
 rintro _ w105 ⟨z100, v99, σ101, hm, rfl, hst⟩
 dsimp only [ref04_Small_j0] at hm
 refine wp_seq (wp_seq (wrl (wv (.int .u8 a0) z z z (wv (.int .u8 (u8.wrap (Int.tdiv a0 (16:Int)))) z z (x_quo (by decide) z z) (wv (.int .u8 (Int.tmod (u8.wrap (Int.tdiv a0 (16:Int))) (2:Int))) z z (x_rem (by decide) z z) (wv (.bool ((Int.tmod (u8.wrap (Int.tdiv a0 (16:Int))) (2:Int)) == (1:Int))) z z z (wl_nil (tn ?_))))))))
 refine bsplit ((Int.tmod (u8.wrap (Int.tdiv a0 (16:Int))) (2:Int)) == (1:Int)) (fun hc106 => ?_) (fun hc106 => ?_)
 {
 replace hm := bif_t hc106 hm
 refine wp_ift (cvb hc106) ?_
 refine wrl ?_
 obtain ⟨b107, w108, ew109, eb110, hst⟩ := hst.lits (E := tyF64) (xs := [(0:Nat)]) [[Zf]] 36 1 z (Reps.cons z Reps.nil)
 refine wl_run (v := (.slice (some ⟨b107, 0, none⟩) 1 1)) (w' := w108) z z (x_als (by kernel_rfl) ew109 eb110) ?_
 refine wv (Pt b81 2) z z (x_field z underlying28 z sizeOf26 z) ?_
 replace hst := hst.pull2
 obtain ⟨w112, hr113, hst⟩ := hst.by_ [v99, I6 (i64.wrap ((1:Int) + (Int.tmod (i64.wrap (u8.wrap (Int.tdiv a0 (5:Int)))) (3:Int)))), (.slice (some ⟨b107, 0, none⟩) 1 1), I6 (128:Int), I6 (512:Int), I6 (1048576:Int), I6 (8:Int), I6 (2:Int), I6 (4:Int)] 2 ((.slice (some ⟨b107, 0, none⟩) 1 1)) sizeOf26 z (oC (one_of_sliceV hst.sv1) oN) (by kernel_rfl)
 refine wl_unit z z (x_unit hr113) ?_
 refine wl_nil (tn (wp_seq (wrl (wv (.agg #[v99, I6 (i64.wrap ((1:Int) + (Int.tmod (i64.wrap (u8.wrap (Int.tdiv a0 (5:Int)))) (3:Int)))), (.slice (some ⟨b107, 0, none⟩) 1 1), I6 (128:Int), I6 (512:Int), I6 (1048576:Int), I6 (8:Int), I6 (2:Int), I6 (4:Int)]) z z (x_loadN (cs := [v99, I6 (i64.wrap ((1:Int) + (Int.tmod (i64.wrap (u8.wrap (Int.tdiv a0 (5:Int)))) (3:Int)))), (.slice (some ⟨b107, 0, none⟩) 1 1), I6 (128:Int), I6 (512:Int), I6 (1048576:Int), I6 (8:Int), I6 (2:Int), I6 (4:Int)]) z isAgg28 sizeOf28 (hst.bcs0 0 z)) ?_))))
 replace hst := hst.pull2
 obtain ⟨w114, hr115, hst⟩ := hst.bx [v99, I6 (i64.wrap ((1:Int) + (Int.tmod (i64.wrap (u8.wrap (Int.tdiv a0 (5:Int)))) (3:Int)))), (.slice (some ⟨b107, 0, none⟩) 1 1), I6 (128:Int), I6 (512:Int), I6 (1048576:Int), I6 (8:Int), I6 (2:Int), I6 (4:Int)] sizeOf28 z (oC (one_of_sliceV hst.sv3) (oC z (oC (one_of_sliceV hst.sv2) (oC z (oC z (oC z (oC z (oC z (oC z oN))))))))) (by kernel_rfl)
 refine wl_unit z z (x_unit hr115) ?_
 refine wl_nil (tn (wp_ret ?_))
 obtain rfl := some_inj hm
 refine post_ret (vs := [.agg #[v99, I6 (i64.wrap ((1:Int) + (Int.tmod (i64.wrap (u8.wrap (Int.tdiv a0 (5:Int)))) (3:Int)))), (.slice (some ⟨b107, 0, none⟩) 1 1), I6 (128:Int), I6 (512:Int), I6 (1048576:Int), I6 (8:Int), I6 (2:Int), I6 (4:Int)]]) results13 (rvs_cons (rv_cell (cs := [v99, I6 (i64.wrap ((1:Int) + (Int.tmod (i64.wrap (u8.wrap (Int.tdiv a0 (5:Int)))) (3:Int)))), (.slice (some ⟨b107, 0, none⟩) 1 1), I6 (128:Int), I6 (512:Int), I6 (1048576:Int), I6 (8:Int), I6 (2:Int), I6 (4:Int)]) z isAgg28 sizeOf28 (hst.bcs0 0 z)) rvs_nil) ?_
 replace hst := hst.pull2.pull3
 exact ⟨v99, (.slice (some ⟨b107, 0, none⟩) 1 1), z, hst.keep2⟩
}
 {
 replace hm := bif_f hc106 hm
 refine wp_iff (cvb hc106) ?_
 refine wp_skip (tn (wp_seq (wrl ?_)))
 refine wv (.agg #[v99, I6 (i64.wrap ((1:Int) + (Int.tmod (i64.wrap (u8.wrap (Int.tdiv a0 (5:Int)))) (3:Int)))), Zs, I6 (128:Int), I6 (512:Int), I6 (1048576:Int), I6 (8:Int), I6 (2:Int), I6 (4:Int)]) z z (x_loadN (cs := [v99, I6 (i64.wrap ((1:Int) + (Int.tmod (i64.wrap (u8.wrap (Int.tdiv a0 (5:Int)))) (3:Int)))), Zs, I6 (128:Int), I6 (512:Int), I6 (1048576:Int), I6 (8:Int), I6 (2:Int), I6 (4:Int)]) z isAgg28 sizeOf28 (hst.bcs1 0 z)) ?_
 obtain ⟨w116, hr117, hst⟩ := hst.bx [v99, I6 (i64.wrap ((1:Int) + (Int.tmod (i64.wrap (u8.wrap (Int.tdiv a0 (5:Int)))) (3:Int)))), Zs, I6 (128:Int), I6 (512:Int), I6 (1048576:Int), I6 (8:Int), I6 (2:Int), I6 (4:Int)] sizeOf28 z (oC (one_of_sliceV hst.sv2) (oC z (oC z (oC z (oC z (oC z (oC z (oC z (oC z oN))))))))) (by kernel_rfl)
 refine wl_unit z z (x_unit hr117) ?_
 refine wl_nil (tn (wp_ret ?_))
 replace hst := hst.own_nil tyF64
 obtain rfl := some_inj hm
 refine post_ret (vs := [.agg #[v99, I6 (i64.wrap ((1:Int) + (Int.tmod (i64.wrap (u8.wrap (Int.tdiv a0 (5:Int)))) (3:Int)))), Zs, I6 (128:Int), I6 (512:Int), I6 (1048576:Int), I6 (8:Int), I6 (2:Int), I6 (4:Int)]]) results13 (rvs_cons (rv_cell (cs := [v99, I6 (i64.wrap ((1:Int) + (Int.tmod (i64.wrap (u8.wrap (Int.tdiv a0 (5:Int)))) (3:Int)))), Zs, I6 (128:Int), I6 (512:Int), I6 (1048576:Int), I6 (8:Int), I6 (2:Int), I6 (4:Int)]) z isAgg28 sizeOf28 (hst.bcs1 0 z)) rvs_nil) ?_
 replace hst := hst.pull3
 exact ⟨v99, Zs, z, hst.keep2⟩
}
}
}

theorem math_IsNaN_ref {w0 w : World} {I : HL} {R : SP} {a0 : Nat}  (hst : St w0 w I [] R) {r : (Bool)} (hm : math_IsNaN a0 = some r) :
  Calls prog 58 #[F6 a0] w fun e w' => e = .returned (.bool r) ∧ St w0 w' I [] R := by {
 unfold math_IsNaN at hm
 refine calls_start (args := [F6 a0]) func58 z ntmps58 (Nat.le_of_ble_eq_true z) ?_
 refine wp_seq (wrl (wv (.bool false) z z z (wl_nil (tn (wp_seq (wrl (wv (.float .f64 a0) z z z (wv (.float .f64 a0) z z z (wv (.bool (fNe a0 a0)) z z z (wv (.bool (fNe a0 a0)) z z z (wl_nil (tn (wp_ret ?_)))))))))))))
 obtain rfl := some_inj hm
 refine post_ret (vs := [.bool (fNe a0 a0)]) results58 (rvs_cons (rv_tmp z) rvs_nil) ?_
 exact ⟨z, hst.keep0⟩
}

theorem number_Rank_ref {w0 w : World} {I : HL} {R : SP} {a0 : Nat}  (hst : St w0 w I [] R) {r : (Int)} (hm : number_Rank a0 = some r) :
  Calls prog 53 #[F6 a0] w fun e w' => e = .returned (.int .u64 r) ∧ St w0 w' I [] R := by {
 unfold number_Rank at hm
 refine calls_start (args := [F6 a0]) func53 z ntmps53 (Nat.le_of_ble_eq_true z) ?_
 refine wp_seq (wrl (wv (.int .u64 (0:Int)) z z z (wl_nil (tn (wp_seq (wp_seq (wrl (wv (.float .f64 a0) z z z ?_))))))))
 obtain ⟨t52, ht53, hm⟩ := bind_some hm
 refine wc call58 [F6 a0] z z z ?_
 refine (math_IsNaN_ref hst.to0 ht53).mono ?_
 rintro _ w54 ⟨rfl, hst⟩
 refine ⟨_, z, ?_⟩
 replace hst := hst.of0
 refine wl_nil (tn ?_)
 refine bsplit t52 (fun hc57 => ?_) (fun hc57 => ?_)
 {
 replace hm := bif_t hc57 hm
 refine wp_ift (cvb hc57) ?_
 refine wp_seq (wrl (wv (.int .u64 (18446744073709551615:Int)) z z z (wl_nil (tn (wp_ret (then_r ?_))))))
 obtain rfl := some_inj hm
 refine post_ret (vs := [U6 (18446744073709551615:Int)]) results53 (rvs_cons (rv_tmp z) rvs_nil) ?_
 exact ⟨z, hst.keep0⟩
}
 {
 replace hm := bif_f hc57 hm
 refine wp_iff (cvb hc57) ?_
 refine wp_skip (tn (wp_seq (wrl ?_)))
 refine wv (.float .f64 a0) z z z (wv (.int .u64 (Int.ofNat a0)) z z (by kernel_rfl) (wv (.int .u64 (Int.ofNat a0)) z z z (wl_nil (tn (wp_seq (wp_seq (wrl (wv (.int .u64 (Int.ofNat a0)) z z z (wv (.int .u64 (iShr .u64 (Int.ofNat a0) (63:Int))) z z (x_shr (by decide) z z) (wv (.bool ((iShr .u64 (Int.ofNat a0) (63:Int)) == (1:Int))) z z z (wl_nil (tn ?_))))))))))))
 refine bsplit ((iShr .u64 (Int.ofNat a0) (63:Int)) == (1:Int)) (fun hc58 => ?_) (fun hc58 => ?_)
 {
 replace hm := bif_t hc58 hm
 refine wp_ift (cvb hc58) ?_
 refine wp_seq (wrl (wv (.int .u64 (Int.ofNat a0)) z z z (wv (.int .u64 (bXor .u64 ((18446744073709551615):Int) (Int.ofNat a0))) z z (by kernel_rfl) (wv (.int .u64 (bXor .u64 ((18446744073709551615):Int) (Int.ofNat a0))) z z z (wl_nil (tn (wp_ret (then_r ?_))))))))
 obtain rfl := some_inj hm
 refine post_ret (vs := [U6 (bXor .u64 ((18446744073709551615):Int) (Int.ofNat a0))]) results53 (rvs_cons (rv_tmp z) rvs_nil) ?_
 exact ⟨z, hst.keep0⟩
}
 {
 replace hm := bif_f hc58 hm
 refine wp_iff (cvb hc58) ?_
 refine wp_skip (tn (wp_seq (wrl ?_)))
 refine wv (.int .u64 (Int.ofNat a0)) z z z (wv (.int .u64 (bOr .u64 (Int.ofNat a0) (9223372036854775808:Int))) z z z (wv (.int .u64 (bOr .u64 (Int.ofNat a0) (9223372036854775808:Int))) z z z (wl_nil (tn (wp_ret ?_)))))
 obtain rfl := some_inj hm
 refine post_ret (vs := [U6 (bOr .u64 (Int.ofNat a0) (9223372036854775808:Int))]) results53 (rvs_cons (rv_tmp z) rvs_nil) ?_
 exact ⟨z, hst.keep0⟩
}
}
}

theorem number_Less_ref {w0 w : World} {I : HL} {R : SP} {a0 : Nat} {a1 : Nat}  (hst : St w0 w I [] R) {r : (Bool)} (hm : number_Less a0 a1 = some r) :
  Calls prog 39 #[F6 a0, F6 a1] w fun e w' => e = .returned (.bool r) ∧ St w0 w' I [] R := by {
 unfold number_Less at hm
 refine calls_start (args := [F6 a0, F6 a1]) func39 z ntmps39 (Nat.le_of_ble_eq_true z) ?_
 refine wp_seq (wrl (wv (.bool false) z z z (wl_nil (tn (wp_seq (wrl (wv (.float .f64 a0) z z z ?_)))))))
 obtain ⟨t55, ht56, hm⟩ := bind_some hm
 refine wc call53 [F6 a0] z z z ?_
 refine (number_Rank_ref hst.to0 ht56).mono ?_
 rintro _ w57 ⟨rfl, hst⟩
 refine ⟨_, z, ?_⟩
 replace hst := hst.of0
 refine wv (.float .f64 a1) z z z ?_
 obtain ⟨t60, ht61, hm⟩ := bind_some hm
 refine wc call53 [F6 a1] z z z ?_
 refine (number_Rank_ref hst.to0 ht61).mono ?_
 rintro _ w62 ⟨rfl, hst⟩
 refine ⟨_, z, ?_⟩
 replace hst := hst.of0
 refine wv (.bool (decide (t55 < t60))) z z z (wv (.bool (decide (t55 < t60))) z z z (wl_nil (tn (wp_ret ?_))))
 obtain rfl := some_inj hm
 refine post_ret (vs := [.bool (decide (t55 < t60))]) results39 (rvs_cons (rv_tmp z) rvs_nil) ?_
 exact ⟨z, hst.keep0⟩
}

theorem number_Rising_ref {w0 w : World} {I : HL} {R : SP} {a0 : (List Nat)} {r0_0 : Value} (f0_0 : Rd tyF64 R I r0_0 a0) (hst : St w0 w I [] R) {r : (Bool)} (hm : number_Rising a0 = some r) :
  Calls prog 33 #[r0_0] w fun e w' => e = .returned (.bool r) ∧ St w0 w' I [] R := by {
 unfold number_Rising at hm
 refine calls_start (args := [r0_0]) func33 z ntmps33 (Nat.le_of_ble_eq_true z) ?_
 refine wp_seq (wrl (wv (.bool false) z z z (wl_nil (tn (wp_seq (wp_seq (wrl (wv (.int .i64 (1:Int)) z z z (wl_nil (tn (wp_block ?_)))))))))))
 obtain ⟨n143, hm⟩ := loopO_some hm
 refine wp_loop_n (fun n a w => ∃ (z141 : Int) (σ142 : Nat → Value), loopN (number_Rising_l0 a0) n z141 = some r ∧ a = Fr 21 (upd (upd σ142 0 (r0_0)) 3 (.int .i64 z141)) ∧ St w0 w I [] R) n143 ⟨(1:Int), _, hm, (fu 0 r0_0 z (fu 3 (.int .i64 (1:Int)) z z)), hst⟩ ?_
 rintro n149 _ w144 ⟨z141, σ142, hm, rfl, hst⟩
 obtain ⟨n146, y147, rfl, hm, hx148⟩ := loopN_some hm
 dsimp only [number_Rising_l0] at hm
 refine wp_seq (wp_seq (wrl (wv (.int .i64 z141) z z z (wv (r0_0) z z z (wv (.int .i64 ((a0).length : Int)) z z (x_len z underlying26 (rd_sliceV f0_0)) (wv (.bool (decide (z141 < ((a0).length : Int)))) z z z (wl_nil (tn ?_))))))))
 refine bsplit (decide (z141 < ((a0).length : Int))) (fun hc150 => ?_) (fun hc150 => ?_)
 {
 replace hm := bif_t hc150 hm
 refine wp_ift (cvb hc150) ?_
 refine wp_skip (tn (wp_seq (wp_block (wp_seq ?_))))
 refine wp_region_St hst 11 [0, 1, 2, 3, 4, 5, 6, 7, 8, 9, 10] [0, 0, 2, 7, 15, 0, 0, 96, 224, 511, 1023] [] z (by kernel_rfl) (by kernel_rfl) Try.mixed (by kernel_rfl) ?_
 refine wsr (r0_0) 0 z z z (by kernel_rfl) (fun w hst => z) (wsr (.int .i64 z141) 1 z z z (by kernel_rfl) (fun w hst => z) (wsr (.int .i64 (i64.wrap (z141 - (1:Int)))) 2 z z z (by kernel_rfl) (fun w hst => z) ?_))
 obtain ⟨x151, hx152, hm⟩ := bind_some hm
 obtain ⟨h153, h154, hi155⟩ := geto_some hx152
 refine wsr (.pointer (some (eAddr r0_0 ((i64.wrap (z141 - (1:Int))).toNat * 1 + 0)))) 3 z z z (by kernel_rfl) (fun w hst => x_index z z underlying26 sizeOf36 (rd_sliceV f0_0) h153 h154) (wsr (.float .f64 x151) 4 z z z (by kernel_rfl) (fun w hst => x_load z isAgg36 (rd_load f0_0 (HL.le.refl _) hst hi155 (by rintro _ rfl; rfl))) (wsr (r0_0) 5 z z z (by kernel_rfl) (fun w hst => z) (wsr (.int .i64 z141) 6 z z z (by kernel_rfl) (fun w hst => z) ?_)))
 obtain ⟨x156, hx157, hm⟩ := bind_some hm
 obtain ⟨h158, h159, hi160⟩ := geto_some hx157
 refine wsr (.pointer (some (eAddr r0_0 (z141.toNat * 1 + 0)))) 7 z z z (by kernel_rfl) (fun w hst => x_index z z underlying26 sizeOf36 (rd_sliceV f0_0) h158 h159) (wsr (.float .f64 x156) 8 z z z (by kernel_rfl) (fun w hst => x_load z isAgg36 (rd_load f0_0 (HL.le.refl _) hst hi160 (by rintro _ rfl; rfl))) ?_)
 refine ws_e1 9 (by kernel_rfl) ?_
 refine nxe [10] (by kernel_rfl) z z ?_
 clear hst
 intro w hst
 obtain ⟨t161, ht162, hm⟩ := bind_some hm
 refine wec call39 [F6 x151, F6 x156] z z ?_
 refine (number_Less_ref hst.to0 ht162).mono ?_
 rintro _ w163 ⟨rfl, hst⟩
 refine ⟨_, z, ?_⟩
 replace hst := hst.of0
 refine ws_next (pend' := []) hst (by kernel_rfl) pk_nil ?_
 refine wsr (.bool (!t161)) 10 z z z (by kernel_rfl) (fun w hst => z) ?_
 refine ws_nil ?_
 intro w hst
 refine tn ?_
 refine bsplit (!t161) (fun hc166 => ?_) (fun hc166 => ?_)
 {
 replace hm := bif_t hc166 hm
 refine wp_ift (cvb hc166) ?_
 refine wp_seq (wrl (wv (.bool false) z z z (wl_nil (tn (wp_ret (blk_r (then_r (then_r ?_))))))))
 replace hm := inr_up hm hx148
 refine blk_r (then_r ?_)
 obtain rfl := some_inj hm
 refine post_ret (vs := [.bool false]) results33 (rvs_cons (rv_tmp z) rvs_nil) ?_
 exact ⟨z, hst.keep0⟩
}
 {
 replace hm := bif_f hc166 hm
 refine wp_iff (cvb hc166) ?_
 refine wp_skip (blk_n (tn (wrl ?_)))
 refine wv (.int .i64 z141) z z z (wv (.int .i64 (i64.wrap (z141 + (1:Int)))) z z z (wv (.int .i64 (i64.wrap (z141 + (1:Int)))) z z z (wl_nil (tn ?_))))
 replace hst := hst.keep0
 obtain rfl := some_inj hm
 exact ⟨_, Nat.lt_succ_self _, (i64.wrap (z141 + (1:Int))), _, hx148, (fu 0 r0_0 z (fu 3 (.int .i64 (i64.wrap (z141 + (1:Int)))) z z)), hst⟩
}
}
 {
 replace hm := bif_f hc150 hm
 refine wp_iff (cvb hc150) ?_
 refine wp_exit (then_x (then_x ?_))
 replace hm := inr_up hm hx148
 refine blk_x (tn (wp_seq (wrl ?_)))
 refine wv (.bool true) z z z (wl_nil (tn (wp_ret ?_)))
 obtain rfl := some_inj hm
 refine post_ret (vs := [.bool true]) results33 (rvs_cons (rv_tmp z) rvs_nil) ?_
 exact ⟨z, hst.keep0⟩
}
}

theorem slices_Clone_uint64_uint64_ref {w0 w : World} {I : HL} {R : SP} {a0 : (List Int)} {r0_0 : Value} (f0_0 : Rd (tyInt .u64) R I r0_0 a0) (hst : St w0 w I [] R) {r : (List Int)} (hm : slices_Clone_uint64_uint64 a0 = some r) :
  Calls prog 44 #[r0_0] w fun e w' => ∃ (q0_0 : Value), e = .returned (q0_0) ∧ St w0 w' I [ownS (tyInt .u64) q0_0 r] R := by {
 unfold slices_Clone_uint64_uint64 at hm
 obtain ⟨hg, hm⟩ := gd_some hm
 obtain rfl := some_inj hm
 have hsv := rd_sliceV f0_0
 refine calls_start (args := [r0_0]) func44 z ntmps44 (Nat.le_of_ble_eq_true z) ?_
 refine wp_seq (wrl (wv ((.slice none 0 0)) z z z (wl_nil (tn (wp_seq (wp_seq (wrl (wv (r0_0) z z z (wv (.bool (isNil r0_0)) z z (x_slnil z hsv z underlying25) (wl_nil (tn ?_)))))))))))
 refine bsplit (isNil r0_0) (fun hc81 => ?_) (fun hc81 => ?_)
 {
 refine wp_ift (cvb hc81) ?_
 refine wp_seq (wrl (wv ((.slice none 0 0)) z z z (wl_nil (tn (wp_ret (then_r ?_))))))
 refine post_ret (vs := [Zs]) results44 (rvs_cons (rv_tmp z) rvs_nil) ?_
 obtain rfl := List.eq_nil_of_length_eq_zero (isNil_len hsv hc81)
 exact ⟨_, z, (hst.own_nil (tyInt .u64)).keep1⟩
}
 {
 refine wp_iff (cvb hc81) ?_
 refine wp_skip (tn (wp_seq (wrl ?_)))
 obtain ⟨b, w1, ew, eb, hst⟩ := hst.lits (E := (tyInt .u64)) (xs := []) [] 22 0 z Reps.nil
 refine wl_run (v := (.slice (some ⟨b, 0, none⟩) 0 0)) (w' := w1) z z (x_als (by kernel_rfl) ew eb) ?_
 refine wv (r0_0) z z z ?_
 obtain ⟨v2, w2, hr, hst⟩ := run_append elem_25 underlying25 hst (Src.of_rd hst f0_0 flat_int) (room_of hg z) 25
 refine wl_run (v := v2) (w' := w2) z z (x_append z z hr) ?_
 refine wv (v2) z z z (wl_nil (tn (wp_ret ?_)))
 refine post_ret (vs := [v2]) results44 (rvs_cons (rv_tmp z) rvs_nil) ?_
 rw [List.nil_append] at hst
 exact ⟨_, z, hst.keep1⟩
}
}

theorem label_Lattice_orders_ref {w0 w : World} {I : HL} {R : SP} {a0 : (Option label_Lattice)} {p0 : Value}  (hst : St w0 w I [objO at_label_Lattice p0 a0] R) {r : (Bool)} (hm : label_Lattice_orders a0 = some r) :
  Calls prog 45 #[p0] w fun e w' => e = .returned (.bool r) ∧ St w0 w' I [objO at_label_Lattice p0 a0] R := by {
 rcases a0 with _ | o0
 {
 obtain ⟨rfl, hst'⟩ := objO_none hst
 clear hst
 have hst := hst'
 clear hst'
 dsimp only [label_Lattice_orders] at hm
 refine calls_start (args := [.pointer none]) func45 z ntmps45 (Nat.le_of_ble_eq_true z) ?_
 refine wp_seq (wrl (wv (.bool false) z z z (wl_nil (tn (wp_seq (wrl (wv (.pointer none) z z z ?_)))))))
 cases hm
}
 {
 replace hst := objO_get hst
 dsimp only [label_Lattice_orders] at hm
 refine calls_start (args := [p0]) func45 z ntmps45 (Nat.le_of_ble_eq_true z) ?_
 refine wp_seq (wrl (wv (.bool false) z z z (wl_nil (tn (wp_seq (wrl (wv (p0) z z z ?_)))))))
 obtain ⟨b946, v947, v949, v951, v953, v955, v957, rfl, hst'⟩ := at_label_Lattice_open hst
 clear hst
 have hst := hst'
 clear hst'
 refine wv (Pt b946 0) z z z (wv (Pt b946 0) z z (x_field z underlying73 z sizeOf25 z) (wv (v947) z z (x_load z isAgg25 (hst.bc0 z)) (wv (.int .i64 ((o0.up).length : Int)) z z (x_len z underlying25 hst.sv1) (wv (.int .i64 ((o0.up).length : Int)) z z z (wl_nil (tn (wp_seq (wp_seq (wrl (wv (Pt b946 0) z z z (wv (Pt b946 0) z z z (wv (Pt b946 0) z z (x_field z underlying73 z sizeOf25 z) (wv (v947) z z (x_load z isAgg25 (hst.bc0 z)) (wv (.int .i64 ((o0.up).length : Int)) z z (x_len z underlying25 hst.sv1) (wv (.int .i64 (0:Int)) z z z (wl_nil (tn (wp_block ?_))))))))))))))))))
 obtain ⟨n1061, hm⟩ := loopO_some hm
 refine wp_loop_n (fun n a w => ∃ (z1059 : Int) (σ1060 : Nat → Value), loopN (label_Lattice_orders_l0 o0) n z1059 = some r ∧ a = Fr 74 (upd (upd (upd (upd (upd σ1060 0 (Pt b946 0)) 3 (.int .i64 ((o0.up).length : Int))) 15 (v947)) 16 (.int .i64 ((o0.up).length : Int))) 17 (.int .i64 z1059)) ∧ St w0 w I [cells b946 [v947, v949, v951, v953, v955, v957], ownS (tyInt .u64) v947 o0.up, ownS (tyInt .u64) v949 o0.down, ownS (tySl (tyInt .i64)) v951 o0.join, ownS (tySl (tyInt .i64)) v953 o0.meet, ownS (tyInt .i64) v955 o0.rank, ownS (tyInt .i64) v957 o0.all] R) n1061 ⟨(0:Int), _, hm, (fu 0 (Pt b946 0) z (fu 3 (.int .i64 ((o0.up).length : Int)) z (fu 15 v947 z (fu 16 (.int .i64 ((o0.up).length : Int)) z (fu 17 (.int .i64 (0:Int)) z z))))), hst⟩ ?_
 rintro n1067 _ w1062 ⟨z1059, σ1060, hm, rfl, hst⟩
 obtain ⟨n1064, y1065, rfl, hm, hx1066⟩ := loopN_some hm
 dsimp only [label_Lattice_orders_l0] at hm
 refine wp_seq (wrl (wv (.bool (decide (z1059 < ((o0.up).length : Int)))) z z z (wl_nil (tn (wp_seq ?_)))))
 refine bsplit (decide (z1059 < ((o0.up).length : Int))) (fun hc1068 => ?_) (fun hc1068 => ?_)
 {
 replace hm := bif_t hc1068 hm
 refine wp_ift (cvb hc1068) ?_
 refine wp_skip (tn (wp_seq (wp_block (wp_seq (wrl ?_)))))
 refine wv (.int .i64 z1059) z z z ?_
 obtain ⟨x1069, hx1070, hm⟩ := bind_some hm
 obtain ⟨h1071, h1072, hi1073⟩ := geto_some hx1070
 refine wv (.pointer (some (eAddr v947 (z1059.toNat * 1 + 0)))) z z (x_index z z underlying25 sizeOf22 hst.sv1 h1071 h1072) (wv (.int .u64 x1069) z z (x_load z isAgg22 (hst.ol1 hi1073 (by rintro _ rfl; rfl))) (wv (.int .i64 z1059) z z z (wv (.int .u64 x1069) z z z (wl_nil (tn (wp_seq (wp_seq (wrl (wv (.int .u64 x1069) z z z (wv (.int .i64 ((o0.up).length : Int)) z z z ?_))))))))))
 obtain ⟨hg1074, hm⟩ := gd_some hm
 refine wv (.int .u64 (iShr .u64 x1069 ((o0.up).length : Int))) z z (x_shr (of_decide_eq_true hg1074) z z) (wv (.bool ((iShr .u64 x1069 ((o0.up).length : Int)) != (0:Int))) z z z (wv (.bool ((iShr .u64 x1069 ((o0.up).length : Int)) != (0:Int))) z z z ?_))
 refine bsplit ((iShr .u64 x1069 ((o0.up).length : Int)) != (0:Int)) (fun hc1075 => ?_) (fun hc1075 => ?_)
 {
 replace hm := bif_t hc1075 hm
 refine wo hc1075 z z z z z z (wo hc1075 z z z z z z (wo hc1075 z z z z z z (wo hc1075 z z z z z z (wo hc1075 z z z z z z (wv (.bool true) z z (x_pick_t hc1075 z z) (wl_nil (tn ?_)))))))
 refine wp_ift z ?_
 refine wp_seq (wrl (wv (.bool false) z z z (wl_nil (tn (wp_ret (then_r (blk_r (then_r (then_r ?_)))))))))
 replace hm := inr_up hm hx1066
 refine blk_r (then_r ?_)
 replace hst := hst.pull6.pull6.pull6.pull6.pull6.pull6.pull6
 replace hst := at_label_Lattice_close (pv := Pt b946 0) (x := o0) hst z
 replace hst := objO_some hst
 obtain rfl := some_inj hm
 refine post_ret (vs := [.bool false]) results45 (rvs_cons (rv_tmp z) rvs_nil) ?_
 exact ⟨z, hst.keep1⟩
}
 {
 replace hm := bif_f hc1075 hm
 refine wv (.int .u64 x1069) ((wanted_eq z z z (cvb hc1075)).trans z) z z (wv (.int .i64 z1059) ((wanted_eq z z z (cvb hc1075)).trans z) z z ?_)
 obtain ⟨hg1076, hm⟩ := gd_some hm
 refine wv (.int .u64 (iShr .u64 x1069 z1059)) ((wanted_eq z z z (cvb hc1075)).trans z) z (x_shr (of_decide_eq_true hg1076) z z) (wv (.int .u64 (bAnd .u64 (iShr .u64 x1069 z1059) (1:Int))) ((wanted_eq z z z (cvb hc1075)).trans z) z z (wv (.bool ((bAnd .u64 (iShr .u64 x1069 z1059) (1:Int)) == (0:Int))) ((wanted_eq z z z (cvb hc1075)).trans z) z z (wv (.bool ((bAnd .u64 (iShr .u64 x1069 z1059) (1:Int)) == (0:Int))) z z (x_pick_f hc1075 z z) (wl_nil (tn ?_)))))
 refine bsplit ((bAnd .u64 (iShr .u64 x1069 z1059) (1:Int)) == (0:Int)) (fun hc1077 => ?_) (fun hc1077 => ?_)
 {
 replace hm := bif_t hc1077 hm
 refine wp_ift (cvb hc1077) ?_
 refine wp_seq (wrl (wv (.bool false) z z z (wl_nil (tn (wp_ret (then_r (blk_r (then_r (then_r ?_)))))))))
 replace hm := inr_up hm hx1066
 refine blk_r (then_r ?_)
 replace hst := hst.pull6.pull6.pull6.pull6.pull6.pull6.pull6
 replace hst := at_label_Lattice_close (pv := Pt b946 0) (x := o0) hst z
 replace hst := objO_some hst
 obtain rfl := some_inj hm
 refine post_ret (vs := [.bool false]) results45 (rvs_cons (rv_tmp z) rvs_nil) ?_
 exact ⟨z, hst.keep1⟩
}
 {
 replace hm := bif_f hc1077 hm
 refine wp_iff (cvb hc1077) ?_
 refine wp_skip (tn (wp_seq (wrl ?_)))
 refine wv (.int .i64 ((o0.up).length : Int)) z z z (wv (.int .i64 (0:Int)) z z z (wl_nil (tn (wp_block ?_))))
 obtain ⟨n1104, hm⟩ := loopO_some hm
 refine wp_loop_n (fun n a w => ∃ (z1102 : Int) (σ1103 : Nat → Value), loopN (label_Lattice_orders_l1 o0 x1069 z1059) n z1102 = some y1065 ∧ a = Fr 74 (upd (upd (upd (upd (upd (upd (upd (upd (upd σ1103 0 (Pt b946 0)) 3 (.int .i64 ((o0.up).length : Int))) 4 (.int .i64 z1059)) 5 (.int .u64 x1069)) 15 (v947)) 16 (.int .i64 ((o0.up).length : Int))) 17 (.int .i64 z1059)) 33 (.int .i64 ((o0.up).length : Int))) 34 (.int .i64 z1102)) ∧ St w0 w I [cells b946 [v947, v949, v951, v953, v955, v957], ownS (tyInt .u64) v947 o0.up, ownS (tyInt .u64) v949 o0.down, ownS (tySl (tyInt .i64)) v951 o0.join, ownS (tySl (tyInt .i64)) v953 o0.meet, ownS (tyInt .i64) v955 o0.rank, ownS (tyInt .i64) v957 o0.all] R) n1104 ⟨(0:Int), _, hm, (fu 0 (Pt b946 0) z (fu 3 (.int .i64 ((o0.up).length : Int)) z (fu 4 (.int .i64 z1059) z (fu 5 (.int .u64 x1069) z (fu 15 v947 z (fu 16 (.int .i64 ((o0.up).length : Int)) z (fu 17 (.int .i64 z1059) z (fu 33 (.int .i64 ((o0.up).length : Int)) z (fu 34 (.int .i64 (0:Int)) z z))))))))), hst⟩ ?_
 rintro n1110 _ w1105 ⟨z1102, σ1103, hm, rfl, hst⟩
 obtain ⟨n1107, y1108, rfl, hm, hx1109⟩ := loopN_some hm
 dsimp only [label_Lattice_orders_l1] at hm
 refine wp_seq (wrl (wv (.bool (decide (z1102 < ((o0.up).length : Int)))) z z z (wl_nil (tn (wp_seq ?_)))))
 refine bsplit (decide (z1102 < ((o0.up).length : Int))) (fun hc1111 => ?_) (fun hc1111 => ?_)
 {
 replace hm := bif_t hc1111 hm
 refine wp_ift (cvb hc1111) ?_
 refine wp_skip (tn (wp_seq (wp_block (wp_seq (wrl ?_)))))
 refine wv (.int .i64 z1102) z z z (wv (.int .i64 z1102) z z z (wl_nil (tn (wp_seq (wrl (wv (.int .u64 x1069) z z z (wv (.int .i64 z1102) z z z ?_)))))))
 obtain ⟨hg1112, hm⟩ := gd_some hm
 refine wv (.int .u64 (iShr .u64 x1069 z1102)) z z (x_shr (of_decide_eq_true hg1112) z z) (wv (.int .u64 (bAnd .u64 (iShr .u64 x1069 z1102) (1:Int))) z z z (wv (.bool ((bAnd .u64 (iShr .u64 x1069 z1102) (1:Int)) == (1:Int))) z z z (wv (.bool ((bAnd .u64 (iShr .u64 x1069 z1102) (1:Int)) == (1:Int))) z z z ?_)))
 refine bsplit ((bAnd .u64 (iShr .u64 x1069 z1102) (1:Int)) == (1:Int)) (fun hc1113 => ?_) (fun hc1113 => ?_)
 {
 replace hm := bif_t hc1113 hm
 refine wv (Pt b946 0) ((wanted_eq z z z (cvb hc1113)).trans z) z z (wv (Pt b946 0) ((wanted_eq z z z (cvb hc1113)).trans z) z z (wv (Pt b946 0) ((wanted_eq z z z (cvb hc1113)).trans z) z (x_field z underlying73 z sizeOf25 z) (wv (v947) ((wanted_eq z z z (cvb hc1113)).trans z) z (x_load z isAgg25 (hst.bc0 z)) (wv (.int .i64 z1102) ((wanted_eq z z z (cvb hc1113)).trans z) z z ?_))))
 obtain ⟨x1114, hx1115, hm⟩ := bind_some hm
 obtain ⟨h1116, h1117, hi1118⟩ := geto_some hx1115
 refine wv (.pointer (some (eAddr v947 (z1102.toNat * 1 + 0)))) ((wanted_eq z z z (cvb hc1113)).trans z) z (x_index z z underlying25 sizeOf22 hst.sv1 h1116 h1117) (wv (.int .u64 x1114) ((wanted_eq z z z (cvb hc1113)).trans z) z (x_load z isAgg22 (hst.ol1 hi1118 (by rintro _ rfl; rfl))) (wv (.int .u64 x1069) ((wanted_eq z z z (cvb hc1113)).trans z) z z (wv (.int .u64 (bAndNot .u64 x1114 x1069)) ((wanted_eq z z z (cvb hc1113)).trans z) z z (wv (.bool ((bAndNot .u64 x1114 x1069) != (0:Int))) ((wanted_eq z z z (cvb hc1113)).trans z) z z (wv (.bool ((bAndNot .u64 x1114 x1069) != (0:Int))) ((wanted_eq z z z (cvb hc1113)).trans z) z z ?_)))))
 refine bsplit ((bAndNot .u64 x1114 x1069) != (0:Int)) (fun hc1119 => ?_) (fun hc1119 => ?_)
 {
 replace hm := bif_t hc1119 hm
 refine wo hc1119 z z z z z z (wo hc1119 z z z z z z (wo hc1119 z z z z z z (wo hc1119 z z z z z z (wl_off (wanted_undef z z z z) z (wl_off (wanted_undef z z z z) z (wl_off (wanted_undef z z z z) z (wl_off (wanted_undef z z z z) z (wl_off (wanted_undef z z z z) z (wl_off (wanted_undef z z z z) z (wl_off (wanted_undef z z z z) z (wl_off (wanted_undef z z z z) z (wl_off (wanted_undef z z z z) z ?_))))))))))))
 refine wl_off (wanted_undef z z z z) z (wl_off (wanted_undef z z z z) z (wo hc1119 z z z z z z (wv (.bool true) ((wanted_eq z z z (cvb hc1113)).trans z) z (x_pick_t hc1119 z z) (wv (.bool true) z z (x_pick_t hc1113 z z) (wl_nil (tn ?_))))))
 refine wp_ift z ?_
 refine wp_seq (wrl (wv (.bool false) z z z (wl_nil (tn (wp_ret (blk_r (then_r (then_r ?_))))))))
 replace hm := inr_up hm hx1109
 refine blk_r (blk_r (then_r (then_r ?_)))
 replace hm := inr_up hm hx1066
 refine blk_r (then_r ?_)
 replace hst := hst.pull6.pull6.pull6.pull6.pull6.pull6.pull6
 replace hst := at_label_Lattice_close (pv := Pt b946 0) (x := o0) hst z
 replace hst := objO_some hst
 obtain rfl := some_inj hm
 refine post_ret (vs := [.bool false]) results45 (rvs_cons (rv_tmp z) rvs_nil) ?_
 exact ⟨z, hst.keep1⟩
}
 {
 replace hm := bif_f hc1119 hm
 refine wv (.int .i64 z1059) ((wanted_eq z z z (cvb hc1119)).trans z) z z (wv (.int .i64 z1102) ((wanted_eq z z z (cvb hc1119)).trans z) z z (wv (.bool (z1059 != z1102)) ((wanted_eq z z z (cvb hc1119)).trans z) z z (wv (.bool (z1059 != z1102)) ((wanted_eq z z z (cvb hc1119)).trans z) z z ?_)))
 refine bsplit (z1059 != z1102) (fun hc1120 => ?_) (fun hc1120 => ?_)
 {
 replace hm := bif_t hc1120 hm
 refine wv (Pt b946 0) ((wanted_eq z z z (cvb hc1120)).trans z) z z (wv (Pt b946 0) ((wanted_eq z z z (cvb hc1120)).trans z) z z (wv (Pt b946 0) ((wanted_eq z z z (cvb hc1120)).trans z) z (x_field z underlying73 z sizeOf25 z) (wv (v947) ((wanted_eq z z z (cvb hc1120)).trans z) z (x_load z isAgg25 (hst.bc0 z)) (wv (.int .i64 z1102) ((wanted_eq z z z (cvb hc1120)).trans z) z z (wv (.pointer (some (eAddr v947 (z1102.toNat * 1 + 0)))) ((wanted_eq z z z (cvb hc1120)).trans z) z (x_index z z underlying25 sizeOf22 hst.sv1 h1116 h1117) (wv (.int .u64 x1114) ((wanted_eq z z z (cvb hc1120)).trans z) z (x_load z isAgg22 (hst.ol1 hi1118 (by rintro _ rfl; rfl))) (wv (.int .i64 z1059) ((wanted_eq z z z (cvb hc1120)).trans z) z z ?_)))))))
 obtain ⟨hg1121, hm⟩ := gd_some hm
 refine wv (.int .u64 (iShr .u64 x1114 z1059)) ((wanted_eq z z z (cvb hc1120)).trans z) z (x_shr (of_decide_eq_true hg1121) z z) (wv (.int .u64 (bAnd .u64 (iShr .u64 x1114 z1059) (1:Int))) ((wanted_eq z z z (cvb hc1120)).trans z) z z (wv (.bool ((bAnd .u64 (iShr .u64 x1114 z1059) (1:Int)) == (1:Int))) ((wanted_eq z z z (cvb hc1120)).trans z) z z (wv (.bool ((bAnd .u64 (iShr .u64 x1114 z1059) (1:Int)) == (1:Int))) ((wanted_eq z z z (cvb hc1119)).trans z) z (x_pick_t hc1120 z z) (wv (.bool ((bAnd .u64 (iShr .u64 x1114 z1059) (1:Int)) == (1:Int))) ((wanted_eq z z z (cvb hc1113)).trans z) z (x_pick_f hc1119 z z) (wv (.bool ((bAnd .u64 (iShr .u64 x1114 z1059) (1:Int)) == (1:Int))) z z (x_pick_t hc1113 z z) (wl_nil (tn ?_)))))))
 refine bsplit ((bAnd .u64 (iShr .u64 x1114 z1059) (1:Int)) == (1:Int)) (fun hc1122 => ?_) (fun hc1122 => ?_)
 {
 replace hm := bif_t hc1122 hm
 refine wp_ift (cvb hc1122) ?_
 refine wp_seq (wrl (wv (.bool false) z z z (wl_nil (tn (wp_ret (blk_r (then_r (then_r ?_))))))))
 replace hm := inr_up hm hx1109
 refine blk_r (blk_r (then_r (then_r ?_)))
 replace hm := inr_up hm hx1066
 refine blk_r (then_r ?_)
 replace hst := hst.pull6.pull6.pull6.pull6.pull6.pull6.pull6
 replace hst := at_label_Lattice_close (pv := Pt b946 0) (x := o0) hst z
 replace hst := objO_some hst
 obtain rfl := some_inj hm
 refine post_ret (vs := [.bool false]) results45 (rvs_cons (rv_tmp z) rvs_nil) ?_
 exact ⟨z, hst.keep1⟩
}
 {
 replace hm := bif_f hc1122 hm
 refine wp_iff (cvb hc1122) ?_
 refine wp_skip (blk_n (tn (wrl ?_)))
 refine wv (.int .i64 (i64.wrap (z1102 + (1:Int)))) z z z (wv (.int .i64 (i64.wrap (z1102 + (1:Int)))) z z z (wl_nil (tn ?_)))
 replace hst := hst.pull6.pull6.pull6.pull6.pull6.pull6.pull6.keep7
 obtain rfl := some_inj hm
 exact ⟨_, Nat.lt_succ_self _, (i64.wrap (z1102 + (1:Int))), _, hx1109, (fu 0 (Pt b946 0) z (fu 3 (.int .i64 ((o0.up).length : Int)) z (fu 4 (.int .i64 z1059) z (fu 5 (.int .u64 x1069) z (fu 15 v947 z (fu 16 (.int .i64 ((o0.up).length : Int)) z (fu 17 (.int .i64 z1059) z (fu 33 (.int .i64 ((o0.up).length : Int)) z (fu 34 (.int .i64 (i64.wrap (z1102 + (1:Int)))) z z))))))))), hst⟩
}
}
 {
 replace hm := bif_f hc1120 hm
 refine wo hc1120 z z z z z z (wo hc1120 z z z z z z (wo hc1120 z z z z z z (wo hc1120 z z z z z z (wo hc1120 z z z z z z (wo hc1120 z z z z z z (wo hc1120 z z z z z z (wo hc1120 z z z z z z (wo hc1120 z z z z z z (wo hc1120 z z z z z z (wo hc1120 z z z z z z (wv (.bool false) ((wanted_eq z z z (cvb hc1119)).trans z) z (x_pick_f hc1120 z z) (wv (.bool false) ((wanted_eq z z z (cvb hc1113)).trans z) z (x_pick_f hc1119 z z) ?_))))))))))))
 refine wv (.bool false) z z (x_pick_t hc1113 z z) (wl_nil (tn ?_))
 refine wp_iff z ?_
 refine wp_skip (blk_n (tn (wrl ?_)))
 refine wv (.int .i64 (i64.wrap (z1102 + (1:Int)))) z z z (wv (.int .i64 (i64.wrap (z1102 + (1:Int)))) z z z (wl_nil (tn ?_)))
 replace hst := hst.pull6.pull6.pull6.pull6.pull6.pull6.pull6.keep7
 obtain rfl := some_inj hm
 exact ⟨_, Nat.lt_succ_self _, (i64.wrap (z1102 + (1:Int))), _, hx1109, (fu 0 (Pt b946 0) z (fu 3 (.int .i64 ((o0.up).length : Int)) z (fu 4 (.int .i64 z1059) z (fu 5 (.int .u64 x1069) z (fu 15 v947 z (fu 16 (.int .i64 ((o0.up).length : Int)) z (fu 17 (.int .i64 z1059) z (fu 33 (.int .i64 ((o0.up).length : Int)) z (fu 34 (.int .i64 (i64.wrap (z1102 + (1:Int)))) z z))))))))), hst⟩
}
}
}
 {
 replace hm := bif_f hc1113 hm
 refine wo hc1113 z z z z z z (wo hc1113 z z z z z z (wo hc1113 z z z z z z (wo hc1113 z z z z z z (wo hc1113 z z z z z z (wo hc1113 z z z z z z (wo hc1113 z z z z z z (wo hc1113 z z z z z z (wo hc1113 z z z z z z (wo hc1113 z z z z z z (wo hc1113 z z z z z z (wl_off (wanted_undef z z z z) z (wl_off (wanted_undef z z z z) z ?_))))))))))))
 refine wl_off (wanted_undef z z z z) z (wl_off (wanted_undef z z z z) z (wl_off (wanted_undef z z z z) z (wl_off (wanted_undef z z z z) z (wl_off (wanted_undef z z z z) z (wl_off (wanted_undef z z z z) z (wl_off (wanted_undef z z z z) z (wl_off (wanted_undef z z z z) z (wl_off (wanted_undef z z z z) z (wl_off (wanted_undef z z z z) z (wl_off (wanted_undef z z z z) z (wl_off (wanted_undef z z z z) z (wl_off (wanted_undef z z z z) z ?_))))))))))))
 refine wl_off (wanted_undef z z z z) z (wo hc1113 z z z z z z (wv (.bool false) z z (x_pick_f hc1113 z z) (wl_nil (tn ?_))))
 refine wp_iff z ?_
 refine wp_skip (blk_n (tn (wrl ?_)))
 refine wv (.int .i64 (i64.wrap (z1102 + (1:Int)))) z z z (wv (.int .i64 (i64.wrap (z1102 + (1:Int)))) z z z (wl_nil (tn ?_)))
 replace hst := hst.pull6.pull6.pull6.pull6.pull6.pull6.pull6.keep7
 obtain rfl := some_inj hm
 exact ⟨_, Nat.lt_succ_self _, (i64.wrap (z1102 + (1:Int))), _, hx1109, (fu 0 (Pt b946 0) z (fu 3 (.int .i64 ((o0.up).length : Int)) z (fu 4 (.int .i64 z1059) z (fu 5 (.int .u64 x1069) z (fu 15 v947 z (fu 16 (.int .i64 ((o0.up).length : Int)) z (fu 17 (.int .i64 z1059) z (fu 33 (.int .i64 ((o0.up).length : Int)) z (fu 34 (.int .i64 (i64.wrap (z1102 + (1:Int)))) z z))))))))), hst⟩
}
}
 {
 replace hm := bif_f hc1111 hm
 refine wp_iff (cvb hc1111) ?_
 refine wp_exit (then_x (then_x ?_))
 replace hm := inr_up hm hx1109
 refine blk_x (blk_n (tn (wrl ?_)))
 refine wv (.int .i64 (i64.wrap (z1059 + (1:Int)))) z z z (wv (.int .i64 (i64.wrap (z1059 + (1:Int)))) z z z (wl_nil (tn ?_)))
 replace hst := hst.pull6.pull6.pull6.pull6.pull6.pull6.pull6.keep7
 obtain rfl := some_inj hm
 exact ⟨_, Nat.lt_succ_self _, (i64.wrap (z1059 + (1:Int))), _, hx1066, (fu 0 (Pt b946 0) z (fu 3 (.int .i64 ((o0.up).length : Int)) z (fu 15 v947 z (fu 16 (.int .i64 ((o0.up).length : Int)) z (fu 17 (.int .i64 (i64.wrap (z1059 + (1:Int)))) z z))))), hst⟩
}
}
}
}
 {
 replace hm := bif_f hc1068 hm
 refine wp_iff (cvb hc1068) ?_
 refine wp_exit (then_x (then_x ?_))
 replace hm := inr_up hm hx1066
 refine blk_x (tn (wp_seq (wrl ?_)))
 refine wv (.bool true) z z z (wl_nil (tn (wp_ret ?_)))
 replace hst := hst.pull6.pull6.pull6.pull6.pull6.pull6.pull6
 replace hst := at_label_Lattice_close (pv := Pt b946 0) (x := o0) hst z
 replace hst := objO_some hst
 obtain rfl := some_inj hm
 refine post_ret (vs := [.bool true]) results45 (rvs_cons (rv_tmp z) rvs_nil) ?_
 exact ⟨z, hst.keep1⟩
}
}
}

theorem label_least_ref {w0 w : World} {I : HL} {R : SP} {a0 : Int} {a1 : (List Int)} {r1_0 : Value} (f1_0 : Rd (tyInt .u64) R I r1_0 a1) (hst : St w0 w I [] R) {r : (Int × Bool)} (hm : label_least a0 a1 = some r) :
  Calls prog 46 #[U6 a0, r1_0] w fun e w' => e = .returned (.tuple #[I6 r.1, .bool r.2]) ∧ St w0 w' I [] R := by {
 unfold label_least at hm
 refine calls_start (args := [U6 a0, r1_0]) func46 z ntmps46 (Nat.le_of_ble_eq_true z) ?_
 refine wp_seq (wrl (wv (.int .i64 (0:Int)) z z z (wv (.bool false) z z z (wl_nil (tn (wp_seq (wp_seq (wrl (wv (r1_0) z z z (wv (.int .i64 ((a1).length : Int)) z z (x_len z underlying25 (rd_sliceV f1_0)) (wv (.int .i64 (0:Int)) z z z (wl_nil (tn (wp_block ?_))))))))))))))
 obtain ⟨n1133, hm⟩ := loopO_some hm
 refine wp_loop_n (fun n a w => ∃ (z1131 : Int) (σ1132 : Nat → Value), loopN (label_least_l0 a1 a0) n z1131 = some r ∧ a = Fr 28 (upd (upd (upd (upd σ1132 0 (.int .u64 a0)) 1 (r1_0)) 8 (.int .i64 ((a1).length : Int))) 9 (.int .i64 z1131)) ∧ St w0 w I [] R) n1133 ⟨(0:Int), _, hm, (fu 0 (.int .u64 a0) z (fu 1 r1_0 z (fu 8 (.int .i64 ((a1).length : Int)) z (fu 9 (.int .i64 (0:Int)) z z)))), hst⟩ ?_
 rintro n1139 _ w1134 ⟨z1131, σ1132, hm, rfl, hst⟩
 obtain ⟨n1136, y1137, rfl, hm, hx1138⟩ := loopN_some hm
 dsimp only [label_least_l0] at hm
 refine wp_seq (wrl (wv (.bool (decide (z1131 < ((a1).length : Int)))) z z z (wl_nil (tn (wp_seq ?_)))))
 refine bsplit (decide (z1131 < ((a1).length : Int))) (fun hc1140 => ?_) (fun hc1140 => ?_)
 {
 replace hm := bif_t hc1140 hm
 refine wp_ift (cvb hc1140) ?_
 refine wp_skip (tn (wp_seq (wp_block (wp_seq (wrl ?_)))))
 refine wv (.int .i64 z1131) z z z (wv (.int .i64 z1131) z z z (wl_nil (tn (wp_seq (wrl (wv (.int .u64 a0) z z z (wv (.int .i64 z1131) z z z ?_)))))))
 obtain ⟨hg1141, hm⟩ := gd_some hm
 refine wv (.int .u64 (iShr .u64 a0 z1131)) z z (x_shr (of_decide_eq_true hg1141) z z) (wv (.int .u64 (bAnd .u64 (iShr .u64 a0 z1131) (1:Int))) z z z (wv (.bool ((bAnd .u64 (iShr .u64 a0 z1131) (1:Int)) == (1:Int))) z z z (wv (.bool ((bAnd .u64 (iShr .u64 a0 z1131) (1:Int)) == (1:Int))) z z z ?_)))
 refine bsplit ((bAnd .u64 (iShr .u64 a0 z1131) (1:Int)) == (1:Int)) (fun hc1142 => ?_) (fun hc1142 => ?_)
 {
 replace hm := bif_t hc1142 hm
 refine wv (.int .u64 a0) ((wanted_eq z z z (cvb hc1142)).trans z) z z (wv (r1_0) ((wanted_eq z z z (cvb hc1142)).trans z) z z (wv (.int .i64 z1131) ((wanted_eq z z z (cvb hc1142)).trans z) z z ?_))
 obtain ⟨x1143, hx1144, hm⟩ := bind_some hm
 obtain ⟨h1145, h1146, hi1147⟩ := geto_some hx1144
 refine wv (.pointer (some (eAddr r1_0 (z1131.toNat * 1 + 0)))) ((wanted_eq z z z (cvb hc1142)).trans z) z (x_index z z underlying25 sizeOf22 (rd_sliceV f1_0) h1145 h1146) (wv (.int .u64 x1143) ((wanted_eq z z z (cvb hc1142)).trans z) z (x_load z isAgg22 (rd_load f1_0 (HL.le.refl _) hst hi1147 (by rintro _ rfl; rfl))) (wv (.int .u64 (bAndNot .u64 a0 x1143)) ((wanted_eq z z z (cvb hc1142)).trans z) z z (wv (.bool ((bAndNot .u64 a0 x1143) == (0:Int))) ((wanted_eq z z z (cvb hc1142)).trans z) z z (wv (.bool ((bAndNot .u64 a0 x1143) == (0:Int))) z z (x_pick_t hc1142 z z) (wl_nil (tn ?_))))))
 refine bsplit ((bAndNot .u64 a0 x1143) == (0:Int)) (fun hc1148 => ?_) (fun hc1148 => ?_)
 {
 replace hm := bif_t hc1148 hm
 refine wp_ift (cvb hc1148) ?_
 refine wp_seq (wrl (wv (.int .i64 z1131) z z z (wv (.int .i64 z1131) z z z (wv (.bool true) z z z (wl_nil (tn (wp_ret (blk_r (then_r (then_r ?_))))))))))
 replace hm := inr_up hm hx1138
 refine blk_r (then_r ?_)
 obtain rfl := some_inj hm
 refine post_ret (vs := [I6 z1131, .bool true]) results46 (rvs_cons (rv_tmp z) (rvs_cons (rv_tmp z) rvs_nil)) ?_
 exact ⟨z, hst.keep0⟩
}
 {
 replace hm := bif_f hc1148 hm
 refine wp_iff (cvb hc1148) ?_
 refine wp_skip (blk_n (tn (wrl ?_)))
 refine wv (.int .i64 (i64.wrap (z1131 + (1:Int)))) z z z (wv (.int .i64 (i64.wrap (z1131 + (1:Int)))) z z z (wl_nil (tn ?_)))
 replace hst := hst.keep0
 obtain rfl := some_inj hm
 exact ⟨_, Nat.lt_succ_self _, (i64.wrap (z1131 + (1:Int))), _, hx1138, (fu 0 (.int .u64 a0) z (fu 1 r1_0 z (fu 8 (.int .i64 ((a1).length : Int)) z (fu 9 (.int .i64 (i64.wrap (z1131 + (1:Int)))) z z)))), hst⟩
}
}
 {
 replace hm := bif_f hc1142 hm
 refine wo hc1142 z z z z z z (wo hc1142 z z z z z z (wo hc1142 z z z z z z (wo hc1142 z z z z z z (wo hc1142 z z z z z z (wo hc1142 z z z z z z (wo hc1142 z z z z z z (wv (.bool false) z z (x_pick_f hc1142 z z) (wl_nil (tn ?_)))))))))
 refine wp_iff z ?_
 refine wp_skip (blk_n (tn (wrl ?_)))
 refine wv (.int .i64 (i64.wrap (z1131 + (1:Int)))) z z z (wv (.int .i64 (i64.wrap (z1131 + (1:Int)))) z z z (wl_nil (tn ?_)))
 replace hst := hst.keep0
 obtain rfl := some_inj hm
 exact ⟨_, Nat.lt_succ_self _, (i64.wrap (z1131 + (1:Int))), _, hx1138, (fu 0 (.int .u64 a0) z (fu 1 r1_0 z (fu 8 (.int .i64 ((a1).length : Int)) z (fu 9 (.int .i64 (i64.wrap (z1131 + (1:Int)))) z z)))), hst⟩
}
}
 {
 replace hm := bif_f hc1140 hm
 refine wp_iff (cvb hc1140) ?_
 refine wp_exit (then_x (then_x ?_))
 replace hm := inr_up hm hx1138
 refine blk_x (tn (wp_seq (wrl ?_)))
 refine wv (.int .i64 (0:Int)) z z z (wv (.bool false) z z z (wl_nil (tn (wp_ret ?_))))
 obtain rfl := some_inj hm
 refine post_ret (vs := [Zi, .bool false]) results46 (rvs_cons (rv_tmp z) (rvs_cons (rv_tmp z) rvs_nil)) ?_
 exact ⟨z, hst.keep0⟩
}
}

theorem math_bits_OnesCount64_ref {w0 w : World} {I : HL} {R : SP} {a0 : Int}  (hst : St w0 w I [] R) {r : (Int)} (hm : math_bits_OnesCount64 a0 = some r) :
  Calls prog 32 #[U6 a0] w fun e w' => e = .returned (.int .i64 r) ∧ St w0 w' I [] R := by {
 unfold math_bits_OnesCount64 at hm
 refine calls_start (args := [U6 a0]) func32 z ntmps32 (Nat.le_of_ble_eq_true z) ?_
 refine wp_seq (wrl (wv (.int .i64 (0:Int)) z z z (wl_nil (tn (wp_seq (wrl (wv (.int .u64 a0) z z z (wv (.int .u64 (iShr .u64 a0 (1:Int))) z z (x_shr (by decide) z z) (wv (.int .u64 (bAnd .u64 (iShr .u64 a0 (1:Int)) (6148914691236517205:Int))) z z z (wv (.int .u64 a0) z z z (wv (.int .u64 (bAnd .u64 a0 (6148914691236517205:Int))) z z z (wv (.int .u64 (u64.wrap ((bAnd .u64 (iShr .u64 a0 (1:Int)) (6148914691236517205:Int)) + (bAnd .u64 a0 (6148914691236517205:Int))))) z z z (wv (.int .u64 (u64.wrap ((bAnd .u64 (iShr .u64 a0 (1:Int)) (6148914691236517205:Int)) + (bAnd .u64 a0 (6148914691236517205:Int))))) z z z (wl_nil (tn (wp_seq (wrl (wv (.int .u64 (u64.wrap ((bAnd .u64 (iShr .u64 a0 (1:Int)) (6148914691236517205:Int)) + (bAnd .u64 a0 (6148914691236517205:Int))))) z z z (wv (.int .u64 (iShr .u64 (u64.wrap ((bAnd .u64 (iShr .u64 a0 (1:Int)) (6148914691236517205:Int)) + (bAnd .u64 a0 (6148914691236517205:Int)))) (2:Int))) z z (x_shr (by decide) z z) ?_)))))))))))))))))))
 refine wv (.int .u64 (bAnd .u64 (iShr .u64 (u64.wrap ((bAnd .u64 (iShr .u64 a0 (1:Int)) (6148914691236517205:Int)) + (bAnd .u64 a0 (6148914691236517205:Int)))) (2:Int)) (3689348814741910323:Int))) z z z (wv (.int .u64 (u64.wrap ((bAnd .u64 (iShr .u64 a0 (1:Int)) (6148914691236517205:Int)) + (bAnd .u64 a0 (6148914691236517205:Int))))) z z z (wv (.int .u64 (bAnd .u64 (u64.wrap ((bAnd .u64 (iShr .u64 a0 (1:Int)) (6148914691236517205:Int)) + (bAnd .u64 a0 (6148914691236517205:Int)))) (3689348814741910323:Int))) z z z (wv (.int .u64 (u64.wrap ((bAnd .u64 (iShr .u64 (u64.wrap ((bAnd .u64 (iShr .u64 a0 (1:Int)) (6148914691236517205:Int)) + (bAnd .u64 a0 (6148914691236517205:Int)))) (2:Int)) (3689348814741910323:Int)) + (bAnd .u64 (u64.wrap ((bAnd .u64 (iShr .u64 a0 (1:Int)) (6148914691236517205:Int)) + (bAnd .u64 a0 (6148914691236517205:Int)))) (3689348814741910323:Int))))) z z z (wv (.int .u64 (u64.wrap ((bAnd .u64 (iShr .u64 (u64.wrap ((bAnd .u64 (iShr .u64 a0 (1:Int)) (6148914691236517205:Int)) + (bAnd .u64 a0 (6148914691236517205:Int)))) (2:Int)) (3689348814741910323:Int)) + (bAnd .u64 (u64.wrap ((bAnd .u64 (iShr .u64 a0 (1:Int)) (6148914691236517205:Int)) + (bAnd .u64 a0 (6148914691236517205:Int)))) (3689348814741910323:Int))))) z z z (wl_nil (tn (wp_seq (wrl (wv (.int .u64 (u64.wrap ((bAnd .u64 (iShr .u64 (u64.wrap ((bAnd .u64 (iShr .u64 a0 (1:Int)) (6148914691236517205:Int)) + (bAnd .u64 a0 (6148914691236517205:Int)))) (2:Int)) (3689348814741910323:Int)) + (bAnd .u64 (u64.wrap ((bAnd .u64 (iShr .u64 a0 (1:Int)) (6148914691236517205:Int)) + (bAnd .u64 a0 (6148914691236517205:Int)))) (3689348814741910323:Int))))) z z z (wv (.int .u64 (iShr .u64 (u64.wrap ((bAnd .u64 (iShr .u64 (u64.wrap ((bAnd .u64 (iShr .u64 a0 (1:Int)) (6148914691236517205:Int)) + (bAnd .u64 a0 (6148914691236517205:Int)))) (2:Int)) (3689348814741910323:Int)) + (bAnd .u64 (u64.wrap ((bAnd .u64 (iShr .u64 a0 (1:Int)) (6148914691236517205:Int)) + (bAnd .u64 a0 (6148914691236517205:Int)))) (3689348814741910323:Int)))) (4:Int))) z z (x_shr (by decide) z z) (wv (.int .u64 (u64.wrap ((bAnd .u64 (iShr .u64 (u64.wrap ((bAnd .u64 (iShr .u64 a0 (1:Int)) (6148914691236517205:Int)) + (bAnd .u64 a0 (6148914691236517205:Int)))) (2:Int)) (3689348814741910323:Int)) + (bAnd .u64 (u64.wrap ((bAnd .u64 (iShr .u64 a0 (1:Int)) (6148914691236517205:Int)) + (bAnd .u64 a0 (6148914691236517205:Int)))) (3689348814741910323:Int))))) z z z (wv (.int .u64 (u64.wrap ((iShr .u64 (u64.wrap ((bAnd .u64 (iShr .u64 (u64.wrap ((bAnd .u64 (iShr .u64 a0 (1:Int)) (6148914691236517205:Int)) + (bAnd .u64 a0 (6148914691236517205:Int)))) (2:Int)) (3689348814741910323:Int)) + (bAnd .u64 (u64.wrap ((bAnd .u64 (iShr .u64 a0 (1:Int)) (6148914691236517205:Int)) + (bAnd .u64 a0 (6148914691236517205:Int)))) (3689348814741910323:Int)))) (4:Int)) + (u64.wrap ((bAnd .u64 (iShr .u64 (u64.wrap ((bAnd .u64 (iShr .u64 a0 (1:Int)) (6148914691236517205:Int)) + (bAnd .u64 a0 (6148914691236517205:Int)))) (2:Int)) (3689348814741910323:Int)) + (bAnd .u64 (u64.wrap ((bAnd .u64 (iShr .u64 a0 (1:Int)) (6148914691236517205:Int)) + (bAnd .u64 a0 (6148914691236517205:Int)))) (3689348814741910323:Int))))))) z z z (wv (.int .u64 (bAnd .u64 (u64.wrap ((iShr .u64 (u64.wrap ((bAnd .u64 (iShr .u64 (u64.wrap ((bAnd .u64 (iShr .u64 a0 (1:Int)) (6148914691236517205:Int)) + (bAnd .u64 a0 (6148914691236517205:Int)))) (2:Int)) (3689348814741910323:Int)) + (bAnd .u64 (u64.wrap ((bAnd .u64 (iShr .u64 a0 (1:Int)) (6148914691236517205:Int)) + (bAnd .u64 a0 (6148914691236517205:Int)))) (3689348814741910323:Int)))) (4:Int)) + (u64.wrap ((bAnd .u64 (iShr .u64 (u64.wrap ((bAnd .u64 (iShr .u64 a0 (1:Int)) (6148914691236517205:Int)) + (bAnd .u64 a0 (6148914691236517205:Int)))) (2:Int)) (3689348814741910323:Int)) + (bAnd .u64 (u64.wrap ((bAnd .u64 (iShr .u64 a0 (1:Int)) (6148914691236517205:Int)) + (bAnd .u64 a0 (6148914691236517205:Int)))) (3689348814741910323:Int)))))) (1085102592571150095:Int))) z z z (wv (.int .u64 (bAnd .u64 (u64.wrap ((iShr .u64 (u64.wrap ((bAnd .u64 (iShr .u64 (u64.wrap ((bAnd .u64 (iShr .u64 a0 (1:Int)) (6148914691236517205:Int)) + (bAnd .u64 a0 (6148914691236517205:Int)))) (2:Int)) (3689348814741910323:Int)) + (bAnd .u64 (u64.wrap ((bAnd .u64 (iShr .u64 a0 (1:Int)) (6148914691236517205:Int)) + (bAnd .u64 a0 (6148914691236517205:Int)))) (3689348814741910323:Int)))) (4:Int)) + (u64.wrap ((bAnd .u64 (iShr .u64 (u64.wrap ((bAnd .u64 (iShr .u64 a0 (1:Int)) (6148914691236517205:Int)) + (bAnd .u64 a0 (6148914691236517205:Int)))) (2:Int)) (3689348814741910323:Int)) + (bAnd .u64 (u64.wrap ((bAnd .u64 (iShr .u64 a0 (1:Int)) (6148914691236517205:Int)) + (bAnd .u64 a0 (6148914691236517205:Int)))) (3689348814741910323:Int)))))) (1085102592571150095:Int))) z z z (wl_nil (tn (wp_seq (wrl ?_))))))))))))))))))
 refine wv (.int .u64 (bAnd .u64 (u64.wrap ((iShr .u64 (u64.wrap ((bAnd .u64 (iShr .u64 (u64.wrap ((bAnd .u64 (iShr .u64 a0 (1:Int)) (6148914691236517205:Int)) + (bAnd .u64 a0 (6148914691236517205:Int)))) (2:Int)) (3689348814741910323:Int)) + (bAnd .u64 (u64.wrap ((bAnd .u64 (iShr .u64 a0 (1:Int)) (6148914691236517205:Int)) + (bAnd .u64 a0 (6148914691236517205:Int)))) (3689348814741910323:Int)))) (4:Int)) + (u64.wrap ((bAnd .u64 (iShr .u64 (u64.wrap ((bAnd .u64 (iShr .u64 a0 (1:Int)) (6148914691236517205:Int)) + (bAnd .u64 a0 (6148914691236517205:Int)))) (2:Int)) (3689348814741910323:Int)) + (bAnd .u64 (u64.wrap ((bAnd .u64 (iShr .u64 a0 (1:Int)) (6148914691236517205:Int)) + (bAnd .u64 a0 (6148914691236517205:Int)))) (3689348814741910323:Int)))))) (1085102592571150095:Int))) z z z (wv (.int .u64 (bAnd .u64 (u64.wrap ((iShr .u64 (u64.wrap ((bAnd .u64 (iShr .u64 (u64.wrap ((bAnd .u64 (iShr .u64 a0 (1:Int)) (6148914691236517205:Int)) + (bAnd .u64 a0 (6148914691236517205:Int)))) (2:Int)) (3689348814741910323:Int)) + (bAnd .u64 (u64.wrap ((bAnd .u64 (iShr .u64 a0 (1:Int)) (6148914691236517205:Int)) + (bAnd .u64 a0 (6148914691236517205:Int)))) (3689348814741910323:Int)))) (4:Int)) + (u64.wrap ((bAnd .u64 (iShr .u64 (u64.wrap ((bAnd .u64 (iShr .u64 a0 (1:Int)) (6148914691236517205:Int)) + (bAnd .u64 a0 (6148914691236517205:Int)))) (2:Int)) (3689348814741910323:Int)) + (bAnd .u64 (u64.wrap ((bAnd .u64 (iShr .u64 a0 (1:Int)) (6148914691236517205:Int)) + (bAnd .u64 a0 (6148914691236517205:Int)))) (3689348814741910323:Int)))))) (1085102592571150095:Int))) z z z (wv (.int .u64 (iShr .u64 (bAnd .u64 (u64.wrap ((iShr .u64 (u64.wrap ((bAnd .u64 (iShr .u64 (u64.wrap ((bAnd .u64 (iShr .u64 a0 (1:Int)) (6148914691236517205:Int)) + (bAnd .u64 a0 (6148914691236517205:Int)))) (2:Int)) (3689348814741910323:Int)) + (bAnd .u64 (u64.wrap ((bAnd .u64 (iShr .u64 a0 (1:Int)) (6148914691236517205:Int)) + (bAnd .u64 a0 (6148914691236517205:Int)))) (3689348814741910323:Int)))) (4:Int)) + (u64.wrap ((bAnd .u64 (iShr .u64 (u64.wrap ((bAnd .u64 (iShr .u64 a0 (1:Int)) (6148914691236517205:Int)) + (bAnd .u64 a0 (6148914691236517205:Int)))) (2:Int)) (3689348814741910323:Int)) + (bAnd .u64 (u64.wrap ((bAnd .u64 (iShr .u64 a0 (1:Int)) (6148914691236517205:Int)) + (bAnd .u64 a0 (6148914691236517205:Int)))) (3689348814741910323:Int)))))) (1085102592571150095:Int)) (8:Int))) z z (x_shr (by decide) z z) (wv (.int .u64 (u64.wrap ((bAnd .u64 (u64.wrap ((iShr .u64 (u64.wrap ((bAnd .u64 (iShr .u64 (u64.wrap ((bAnd .u64 (iShr .u64 a0 (1:Int)) (6148914691236517205:Int)) + (bAnd .u64 a0 (6148914691236517205:Int)))) (2:Int)) (3689348814741910323:Int)) + (bAnd .u64 (u64.wrap ((bAnd .u64 (iShr .u64 a0 (1:Int)) (6148914691236517205:Int)) + (bAnd .u64 a0 (6148914691236517205:Int)))) (3689348814741910323:Int)))) (4:Int)) + (u64.wrap ((bAnd .u64 (iShr .u64 (u64.wrap ((bAnd .u64 (iShr .u64 a0 (1:Int)) (6148914691236517205:Int)) + (bAnd .u64 a0 (6148914691236517205:Int)))) (2:Int)) (3689348814741910323:Int)) + (bAnd .u64 (u64.wrap ((bAnd .u64 (iShr .u64 a0 (1:Int)) (6148914691236517205:Int)) + (bAnd .u64 a0 (6148914691236517205:Int)))) (3689348814741910323:Int)))))) (1085102592571150095:Int)) + (iShr .u64 (bAnd .u64 (u64.wrap ((iShr .u64 (u64.wrap ((bAnd .u64 (iShr .u64 (u64.wrap ((bAnd .u64 (iShr .u64 a0 (1:Int)) (6148914691236517205:Int)) + (bAnd .u64 a0 (6148914691236517205:Int)))) (2:Int)) (3689348814741910323:Int)) + (bAnd .u64 (u64.wrap ((bAnd .u64 (iShr .u64 a0 (1:Int)) (6148914691236517205:Int)) + (bAnd .u64 a0 (6148914691236517205:Int)))) (3689348814741910323:Int)))) (4:Int)) + (u64.wrap ((bAnd .u64 (iShr .u64 (u64.wrap ((bAnd .u64 (iShr .u64 a0 (1:Int)) (6148914691236517205:Int)) + (bAnd .u64 a0 (6148914691236517205:Int)))) (2:Int)) (3689348814741910323:Int)) + (bAnd .u64 (u64.wrap ((bAnd .u64 (iShr .u64 a0 (1:Int)) (6148914691236517205:Int)) + (bAnd .u64 a0 (6148914691236517205:Int)))) (3689348814741910323:Int)))))) (1085102592571150095:Int)) (8:Int))))) z z z (wv (.int .u64 (u64.wrap ((bAnd .u64 (u64.wrap ((iShr .u64 (u64.wrap ((bAnd .u64 (iShr .u64 (u64.wrap ((bAnd .u64 (iShr .u64 a0 (1:Int)) (6148914691236517205:Int)) + (bAnd .u64 a0 (6148914691236517205:Int)))) (2:Int)) (3689348814741910323:Int)) + (bAnd .u64 (u64.wrap ((bAnd .u64 (iShr .u64 a0 (1:Int)) (6148914691236517205:Int)) + (bAnd .u64 a0 (6148914691236517205:Int)))) (3689348814741910323:Int)))) (4:Int)) + (u64.wrap ((bAnd .u64 (iShr .u64 (u64.wrap ((bAnd .u64 (iShr .u64 a0 (1:Int)) (6148914691236517205:Int)) + (bAnd .u64 a0 (6148914691236517205:Int)))) (2:Int)) (3689348814741910323:Int)) + (bAnd .u64 (u64.wrap ((bAnd .u64 (iShr .u64 a0 (1:Int)) (6148914691236517205:Int)) + (bAnd .u64 a0 (6148914691236517205:Int)))) (3689348814741910323:Int)))))) (1085102592571150095:Int)) + (iShr .u64 (bAnd .u64 (u64.wrap ((iShr .u64 (u64.wrap ((bAnd .u64 (iShr .u64 (u64.wrap ((bAnd .u64 (iShr .u64 a0 (1:Int)) (6148914691236517205:Int)) + (bAnd .u64 a0 (6148914691236517205:Int)))) (2:Int)) (3689348814741910323:Int)) + (bAnd .u64 (u64.wrap ((bAnd .u64 (iShr .u64 a0 (1:Int)) (6148914691236517205:Int)) + (bAnd .u64 a0 (6148914691236517205:Int)))) (3689348814741910323:Int)))) (4:Int)) + (u64.wrap ((bAnd .u64 (iShr .u64 (u64.wrap ((bAnd .u64 (iShr .u64 a0 (1:Int)) (6148914691236517205:Int)) + (bAnd .u64 a0 (6148914691236517205:Int)))) (2:Int)) (3689348814741910323:Int)) + (bAnd .u64 (u64.wrap ((bAnd .u64 (iShr .u64 a0 (1:Int)) (6148914691236517205:Int)) + (bAnd .u64 a0 (6148914691236517205:Int)))) (3689348814741910323:Int)))))) (1085102592571150095:Int)) (8:Int))))) z z z (wl_nil (tn (wp_seq (wrl (wv (.int .u64 (u64.wrap ((bAnd .u64 (u64.wrap ((iShr .u64 (u64.wrap ((bAnd .u64 (iShr .u64 (u64.wrap ((bAnd .u64 (iShr .u64 a0 (1:Int)) (6148914691236517205:Int)) + (bAnd .u64 a0 (6148914691236517205:Int)))) (2:Int)) (3689348814741910323:Int)) + (bAnd .u64 (u64.wrap ((bAnd .u64 (iShr .u64 a0 (1:Int)) (6148914691236517205:Int)) + (bAnd .u64 a0 (6148914691236517205:Int)))) (3689348814741910323:Int)))) (4:Int)) + (u64.wrap ((bAnd .u64 (iShr .u64 (u64.wrap ((bAnd .u64 (iShr .u64 a0 (1:Int)) (6148914691236517205:Int)) + (bAnd .u64 a0 (6148914691236517205:Int)))) (2:Int)) (3689348814741910323:Int)) + (bAnd .u64 (u64.wrap ((bAnd .u64 (iShr .u64 a0 (1:Int)) (6148914691236517205:Int)) + (bAnd .u64 a0 (6148914691236517205:Int)))) (3689348814741910323:Int)))))) (1085102592571150095:Int)) + (iShr .u64 (bAnd .u64 (u64.wrap ((iShr .u64 (u64.wrap ((bAnd .u64 (iShr .u64 (u64.wrap ((bAnd .u64 (iShr .u64 a0 (1:Int)) (6148914691236517205:Int)) + (bAnd .u64 a0 (6148914691236517205:Int)))) (2:Int)) (3689348814741910323:Int)) + (bAnd .u64 (u64.wrap ((bAnd .u64 (iShr .u64 a0 (1:Int)) (6148914691236517205:Int)) + (bAnd .u64 a0 (6148914691236517205:Int)))) (3689348814741910323:Int)))) (4:Int)) + (u64.wrap ((bAnd .u64 (iShr .u64 (u64.wrap ((bAnd .u64 (iShr .u64 a0 (1:Int)) (6148914691236517205:Int)) + (bAnd .u64 a0 (6148914691236517205:Int)))) (2:Int)) (3689348814741910323:Int)) + (bAnd .u64 (u64.wrap ((bAnd .u64 (iShr .u64 a0 (1:Int)) (6148914691236517205:Int)) + (bAnd .u64 a0 (6148914691236517205:Int)))) (3689348814741910323:Int)))))) (1085102592571150095:Int)) (8:Int))))) z z z (wv (.int .u64 (u64.wrap ((bAnd .u64 (u64.wrap ((iShr .u64 (u64.wrap ((bAnd .u64 (iShr .u64 (u64.wrap ((bAnd .u64 (iShr .u64 a0 (1:Int)) (6148914691236517205:Int)) + (bAnd .u64 a0 (6148914691236517205:Int)))) (2:Int)) (3689348814741910323:Int)) + (bAnd .u64 (u64.wrap ((bAnd .u64 (iShr .u64 a0 (1:Int)) (6148914691236517205:Int)) + (bAnd .u64 a0 (6148914691236517205:Int)))) (3689348814741910323:Int)))) (4:Int)) + (u64.wrap ((bAnd .u64 (iShr .u64 (u64.wrap ((bAnd .u64 (iShr .u64 a0 (1:Int)) (6148914691236517205:Int)) + (bAnd .u64 a0 (6148914691236517205:Int)))) (2:Int)) (3689348814741910323:Int)) + (bAnd .u64 (u64.wrap ((bAnd .u64 (iShr .u64 a0 (1:Int)) (6148914691236517205:Int)) + (bAnd .u64 a0 (6148914691236517205:Int)))) (3689348814741910323:Int)))))) (1085102592571150095:Int)) + (iShr .u64 (bAnd .u64 (u64.wrap ((iShr .u64 (u64.wrap ((bAnd .u64 (iShr .u64 (u64.wrap ((bAnd .u64 (iShr .u64 a0 (1:Int)) (6148914691236517205:Int)) + (bAnd .u64 a0 (6148914691236517205:Int)))) (2:Int)) (3689348814741910323:Int)) + (bAnd .u64 (u64.wrap ((bAnd .u64 (iShr .u64 a0 (1:Int)) (6148914691236517205:Int)) + (bAnd .u64 a0 (6148914691236517205:Int)))) (3689348814741910323:Int)))) (4:Int)) + (u64.wrap ((bAnd .u64 (iShr .u64 (u64.wrap ((bAnd .u64 (iShr .u64 a0 (1:Int)) (6148914691236517205:Int)) + (bAnd .u64 a0 (6148914691236517205:Int)))) (2:Int)) (3689348814741910323:Int)) + (bAnd .u64 (u64.wrap ((bAnd .u64 (iShr .u64 a0 (1:Int)) (6148914691236517205:Int)) + (bAnd .u64 a0 (6148914691236517205:Int)))) (3689348814741910323:Int)))))) (1085102592571150095:Int)) (8:Int))))) z z z (wv (.int .u64 (iShr .u64 (u64.wrap ((bAnd .u64 (u64.wrap ((iShr .u64 (u64.wrap ((bAnd .u64 (iShr .u64 (u64.wrap ((bAnd .u64 (iShr .u64 a0 (1:Int)) (6148914691236517205:Int)) + (bAnd .u64 a0 (6148914691236517205:Int)))) (2:Int)) (3689348814741910323:Int)) + (bAnd .u64 (u64.wrap ((bAnd .u64 (iShr .u64 a0 (1:Int)) (6148914691236517205:Int)) + (bAnd .u64 a0 (6148914691236517205:Int)))) (3689348814741910323:Int)))) (4:Int)) + (u64.wrap ((bAnd .u64 (iShr .u64 (u64.wrap ((bAnd .u64 (iShr .u64 a0 (1:Int)) (6148914691236517205:Int)) + (bAnd .u64 a0 (6148914691236517205:Int)))) (2:Int)) (3689348814741910323:Int)) + (bAnd .u64 (u64.wrap ((bAnd .u64 (iShr .u64 a0 (1:Int)) (6148914691236517205:Int)) + (bAnd .u64 a0 (6148914691236517205:Int)))) (3689348814741910323:Int)))))) (1085102592571150095:Int)) + (iShr .u64 (bAnd .u64 (u64.wrap ((iShr .u64 (u64.wrap ((bAnd .u64 (iShr .u64 (u64.wrap ((bAnd .u64 (iShr .u64 a0 (1:Int)) (6148914691236517205:Int)) + (bAnd .u64 a0 (6148914691236517205:Int)))) (2:Int)) (3689348814741910323:Int)) + (bAnd .u64 (u64.wrap ((bAnd .u64 (iShr .u64 a0 (1:Int)) (6148914691236517205:Int)) + (bAnd .u64 a0 (6148914691236517205:Int)))) (3689348814741910323:Int)))) (4:Int)) + (u64.wrap ((bAnd .u64 (iShr .u64 (u64.wrap ((bAnd .u64 (iShr .u64 a0 (1:Int)) (6148914691236517205:Int)) + (bAnd .u64 a0 (6148914691236517205:Int)))) (2:Int)) (3689348814741910323:Int)) + (bAnd .u64 (u64.wrap ((bAnd .u64 (iShr .u64 a0 (1:Int)) (6148914691236517205:Int)) + (bAnd .u64 a0 (6148914691236517205:Int)))) (3689348814741910323:Int)))))) (1085102592571150095:Int)) (8:Int)))) (16:Int))) z z (x_shr (by decide) z z) (wv (.int .u64 (u64.wrap ((u64.wrap ((bAnd .u64 (u64.wrap ((iShr .u64 (u64.wrap ((bAnd .u64 (iShr .u64 (u64.wrap ((bAnd .u64 (iShr .u64 a0 (1:Int)) (6148914691236517205:Int)) + (bAnd .u64 a0 (6148914691236517205:Int)))) (2:Int)) (3689348814741910323:Int)) + (bAnd .u64 (u64.wrap ((bAnd .u64 (iShr .u64 a0 (1:Int)) (6148914691236517205:Int)) + (bAnd .u64 a0 (6148914691236517205:Int)))) (3689348814741910323:Int)))) (4:Int)) + (u64.wrap ((bAnd .u64 (iShr .u64 (u64.wrap ((bAnd .u64 (iShr .u64 a0 (1:Int)) (6148914691236517205:Int)) + (bAnd .u64 a0 (6148914691236517205:Int)))) (2:Int)) (3689348814741910323:Int)) + (bAnd .u64 (u64.wrap ((bAnd .u64 (iShr .u64 a0 (1:Int)) (6148914691236517205:Int)) + (bAnd .u64 a0 (6148914691236517205:Int)))) (3689348814741910323:Int)))))) (1085102592571150095:Int)) + (iShr .u64 (bAnd .u64 (u64.wrap ((iShr .u64 (u64.wrap ((bAnd .u64 (iShr .u64 (u64.wrap ((bAnd .u64 (iShr .u64 a0 (1:Int)) (6148914691236517205:Int)) + (bAnd .u64 a0 (6148914691236517205:Int)))) (2:Int)) (3689348814741910323:Int)) + (bAnd .u64 (u64.wrap ((bAnd .u64 (iShr .u64 a0 (1:Int)) (6148914691236517205:Int)) + (bAnd .u64 a0 (6148914691236517205:Int)))) (3689348814741910323:Int)))) (4:Int)) + (u64.wrap ((bAnd .u64 (iShr .u64 (u64.wrap ((bAnd .u64 (iShr .u64 a0 (1:Int)) (6148914691236517205:Int)) + (bAnd .u64 a0 (6148914691236517205:Int)))) (2:Int)) (3689348814741910323:Int)) + (bAnd .u64 (u64.wrap ((bAnd .u64 (iShr .u64 a0 (1:Int)) (6148914691236517205:Int)) + (bAnd .u64 a0 (6148914691236517205:Int)))) (3689348814741910323:Int)))))) (1085102592571150095:Int)) (8:Int)))) + (iShr .u64 (u64.wrap ((bAnd .u64 (u64.wrap ((iShr .u64 (u64.wrap ((bAnd .u64 (iShr .u64 (u64.wrap ((bAnd .u64 (iShr .u64 a0 (1:Int)) (6148914691236517205:Int)) + (bAnd .u64 a0 (6148914691236517205:Int)))) (2:Int)) (3689348814741910323:Int)) + (bAnd .u64 (u64.wrap ((bAnd .u64 (iShr .u64 a0 (1:Int)) (6148914691236517205:Int)) + (bAnd .u64 a0 (6148914691236517205:Int)))) (3689348814741910323:Int)))) (4:Int)) + (u64.wrap ((bAnd .u64 (iShr .u64 (u64.wrap ((bAnd .u64 (iShr .u64 a0 (1:Int)) (6148914691236517205:Int)) + (bAnd .u64 a0 (6148914691236517205:Int)))) (2:Int)) (3689348814741910323:Int)) + (bAnd .u64 (u64.wrap ((bAnd .u64 (iShr .u64 a0 (1:Int)) (6148914691236517205:Int)) + (bAnd .u64 a0 (6148914691236517205:Int)))) (3689348814741910323:Int)))))) (1085102592571150095:Int)) + (iShr .u64 (bAnd .u64 (u64.wrap ((iShr .u64 (u64.wrap ((bAnd .u64 (iShr .u64 (u64.wrap ((bAnd .u64 (iShr .u64 a0 (1:Int)) (6148914691236517205:Int)) + (bAnd .u64 a0 (6148914691236517205:Int)))) (2:Int)) (3689348814741910323:Int)) + (bAnd .u64 (u64.wrap ((bAnd .u64 (iShr .u64 a0 (1:Int)) (6148914691236517205:Int)) + (bAnd .u64 a0 (6148914691236517205:Int)))) (3689348814741910323:Int)))) (4:Int)) + (u64.wrap ((bAnd .u64 (iShr .u64 (u64.wrap ((bAnd .u64 (iShr .u64 a0 (1:Int)) (6148914691236517205:Int)) + (bAnd .u64 a0 (6148914691236517205:Int)))) (2:Int)) (3689348814741910323:Int)) + (bAnd .u64 (u64.wrap ((bAnd .u64 (iShr .u64 a0 (1:Int)) (6148914691236517205:Int)) + (bAnd .u64 a0 (6148914691236517205:Int)))) (3689348814741910323:Int)))))) (1085102592571150095:Int)) (8:Int)))) (16:Int))))) z z z (wv (.int .u64 (u64.wrap ((u64.wrap ((bAnd .u64 (u64.wrap ((iShr .u64 (u64.wrap ((bAnd .u64 (iShr .u64 (u64.wrap ((bAnd .u64 (iShr .u64 a0 (1:Int)) (6148914691236517205:Int)) + (bAnd .u64 a0 (6148914691236517205:Int)))) (2:Int)) (3689348814741910323:Int)) + (bAnd .u64 (u64.wrap ((bAnd .u64 (iShr .u64 a0 (1:Int)) (6148914691236517205:Int)) + (bAnd .u64 a0 (6148914691236517205:Int)))) (3689348814741910323:Int)))) (4:Int)) + (u64.wrap ((bAnd .u64 (iShr .u64 (u64.wrap ((bAnd .u64 (iShr .u64 a0 (1:Int)) (6148914691236517205:Int)) + (bAnd .u64 a0 (6148914691236517205:Int)))) (2:Int)) (3689348814741910323:Int)) + (bAnd .u64 (u64.wrap ((bAnd .u64 (iShr .u64 a0 (1:Int)) (6148914691236517205:Int)) + (bAnd .u64 a0 (6148914691236517205:Int)))) (3689348814741910323:Int)))))) (1085102592571150095:Int)) + (iShr .u64 (bAnd .u64 (u64.wrap ((iShr .u64 (u64.wrap ((bAnd .u64 (iShr .u64 (u64.wrap ((bAnd .u64 (iShr .u64 a0 (1:Int)) (6148914691236517205:Int)) + (bAnd .u64 a0 (6148914691236517205:Int)))) (2:Int)) (3689348814741910323:Int)) + (bAnd .u64 (u64.wrap ((bAnd .u64 (iShr .u64 a0 (1:Int)) (6148914691236517205:Int)) + (bAnd .u64 a0 (6148914691236517205:Int)))) (3689348814741910323:Int)))) (4:Int)) + (u64.wrap ((bAnd .u64 (iShr .u64 (u64.wrap ((bAnd .u64 (iShr .u64 a0 (1:Int)) (6148914691236517205:Int)) + (bAnd .u64 a0 (6148914691236517205:Int)))) (2:Int)) (3689348814741910323:Int)) + (bAnd .u64 (u64.wrap ((bAnd .u64 (iShr .u64 a0 (1:Int)) (6148914691236517205:Int)) + (bAnd .u64 a0 (6148914691236517205:Int)))) (3689348814741910323:Int)))))) (1085102592571150095:Int)) (8:Int)))) + (iShr .u64 (u64.wrap ((bAnd .u64 (u64.wrap ((iShr .u64 (u64.wrap ((bAnd .u64 (iShr .u64 (u64.wrap ((bAnd .u64 (iShr .u64 a0 (1:Int)) (6148914691236517205:Int)) + (bAnd .u64 a0 (6148914691236517205:Int)))) (2:Int)) (3689348814741910323:Int)) + (bAnd .u64 (u64.wrap ((bAnd .u64 (iShr .u64 a0 (1:Int)) (6148914691236517205:Int)) + (bAnd .u64 a0 (6148914691236517205:Int)))) (3689348814741910323:Int)))) (4:Int)) + (u64.wrap ((bAnd .u64 (iShr .u64 (u64.wrap ((bAnd .u64 (iShr .u64 a0 (1:Int)) (6148914691236517205:Int)) + (bAnd .u64 a0 (6148914691236517205:Int)))) (2:Int)) (3689348814741910323:Int)) + (bAnd .u64 (u64.wrap ((bAnd .u64 (iShr .u64 a0 (1:Int)) (6148914691236517205:Int)) + (bAnd .u64 a0 (6148914691236517205:Int)))) (3689348814741910323:Int)))))) (1085102592571150095:Int)) + (iShr .u64 (bAnd .u64 (u64.wrap ((iShr .u64 (u64.wrap ((bAnd .u64 (iShr .u64 (u64.wrap ((bAnd .u64 (iShr .u64 a0 (1:Int)) (6148914691236517205:Int)) + (bAnd .u64 a0 (6148914691236517205:Int)))) (2:Int)) (3689348814741910323:Int)) + (bAnd .u64 (u64.wrap ((bAnd .u64 (iShr .u64 a0 (1:Int)) (6148914691236517205:Int)) + (bAnd .u64 a0 (6148914691236517205:Int)))) (3689348814741910323:Int)))) (4:Int)) + (u64.wrap ((bAnd .u64 (iShr .u64 (u64.wrap ((bAnd .u64 (iShr .u64 a0 (1:Int)) (6148914691236517205:Int)) + (bAnd .u64 a0 (6148914691236517205:Int)))) (2:Int)) (3689348814741910323:Int)) + (bAnd .u64 (u64.wrap ((bAnd .u64 (iShr .u64 a0 (1:Int)) (6148914691236517205:Int)) + (bAnd .u64 a0 (6148914691236517205:Int)))) (3689348814741910323:Int)))))) (1085102592571150095:Int)) (8:Int)))) (16:Int))))) z z z (wl_nil (tn (wp_seq (wrl (wv (.int .u64 (u64.wrap ((u64.wrap ((bAnd .u64 (u64.wrap ((iShr .u64 (u64.wrap ((bAnd .u64 (iShr .u64 (u64.wrap ((bAnd .u64 (iShr .u64 a0 (1:Int)) (6148914691236517205:Int)) + (bAnd .u64 a0 (6148914691236517205:Int)))) (2:Int)) (3689348814741910323:Int)) + (bAnd .u64 (u64.wrap ((bAnd .u64 (iShr .u64 a0 (1:Int)) (6148914691236517205:Int)) + (bAnd .u64 a0 (6148914691236517205:Int)))) (3689348814741910323:Int)))) (4:Int)) + (u64.wrap ((bAnd .u64 (iShr .u64 (u64.wrap ((bAnd .u64 (iShr .u64 a0 (1:Int)) (6148914691236517205:Int)) + (bAnd .u64 a0 (6148914691236517205:Int)))) (2:Int)) (3689348814741910323:Int)) + (bAnd .u64 (u64.wrap ((bAnd .u64 (iShr .u64 a0 (1:Int)) (6148914691236517205:Int)) + (bAnd .u64 a0 (6148914691236517205:Int)))) (3689348814741910323:Int)))))) (1085102592571150095:Int)) + (iShr .u64 (bAnd .u64 (u64.wrap ((iShr .u64 (u64.wrap ((bAnd .u64 (iShr .u64 (u64.wrap ((bAnd .u64 (iShr .u64 a0 (1:Int)) (6148914691236517205:Int)) + (bAnd .u64 a0 (6148914691236517205:Int)))) (2:Int)) (3689348814741910323:Int)) + (bAnd .u64 (u64.wrap ((bAnd .u64 (iShr .u64 a0 (1:Int)) (6148914691236517205:Int)) + (bAnd .u64 a0 (6148914691236517205:Int)))) (3689348814741910323:Int)))) (4:Int)) + (u64.wrap ((bAnd .u64 (iShr .u64 (u64.wrap ((bAnd .u64 (iShr .u64 a0 (1:Int)) (6148914691236517205:Int)) + (bAnd .u64 a0 (6148914691236517205:Int)))) (2:Int)) (3689348814741910323:Int)) + (bAnd .u64 (u64.wrap ((bAnd .u64 (iShr .u64 a0 (1:Int)) (6148914691236517205:Int)) + (bAnd .u64 a0 (6148914691236517205:Int)))) (3689348814741910323:Int)))))) (1085102592571150095:Int)) (8:Int)))) + (iShr .u64 (u64.wrap ((bAnd .u64 (u64.wrap ((iShr .u64 (u64.wrap ((bAnd .u64 (iShr .u64 (u64.wrap ((bAnd .u64 (iShr .u64 a0 (1:Int)) (6148914691236517205:Int)) + (bAnd .u64 a0 (6148914691236517205:Int)))) (2:Int)) (3689348814741910323:Int)) + (bAnd .u64 (u64.wrap ((bAnd .u64 (iShr .u64 a0 (1:Int)) (6148914691236517205:Int)) + (bAnd .u64 a0 (6148914691236517205:Int)))) (3689348814741910323:Int)))) (4:Int)) + (u64.wrap ((bAnd .u64 (iShr .u64 (u64.wrap ((bAnd .u64 (iShr .u64 a0 (1:Int)) (6148914691236517205:Int)) + (bAnd .u64 a0 (6148914691236517205:Int)))) (2:Int)) (3689348814741910323:Int)) + (bAnd .u64 (u64.wrap ((bAnd .u64 (iShr .u64 a0 (1:Int)) (6148914691236517205:Int)) + (bAnd .u64 a0 (6148914691236517205:Int)))) (3689348814741910323:Int)))))) (1085102592571150095:Int)) + (iShr .u64 (bAnd .u64 (u64.wrap ((iShr .u64 (u64.wrap ((bAnd .u64 (iShr .u64 (u64.wrap ((bAnd .u64 (iShr .u64 a0 (1:Int)) (6148914691236517205:Int)) + (bAnd .u64 a0 (6148914691236517205:Int)))) (2:Int)) (3689348814741910323:Int)) + (bAnd .u64 (u64.wrap ((bAnd .u64 (iShr .u64 a0 (1:Int)) (6148914691236517205:Int)) + (bAnd .u64 a0 (6148914691236517205:Int)))) (3689348814741910323:Int)))) (4:Int)) + (u64.wrap ((bAnd .u64 (iShr .u64 (u64.wrap ((bAnd .u64 (iShr .u64 a0 (1:Int)) (6148914691236517205:Int)) + (bAnd .u64 a0 (6148914691236517205:Int)))) (2:Int)) (3689348814741910323:Int)) + (bAnd .u64 (u64.wrap ((bAnd .u64 (iShr .u64 a0 (1:Int)) (6148914691236517205:Int)) + (bAnd .u64 a0 (6148914691236517205:Int)))) (3689348814741910323:Int)))))) (1085102592571150095:Int)) (8:Int)))) (16:Int))))) z z z ?_))))))))))))))))))
 refine wv (.int .u64 (u64.wrap ((u64.wrap ((bAnd .u64 (u64.wrap ((iShr .u64 (u64.wrap ((bAnd .u64 (iShr .u64 (u64.wrap ((bAnd .u64 (iShr .u64 a0 (1:Int)) (6148914691236517205:Int)) + (bAnd .u64 a0 (6148914691236517205:Int)))) (2:Int)) (3689348814741910323:Int)) + (bAnd .u64 (u64.wrap ((bAnd .u64 (iShr .u64 a0 (1:Int)) (6148914691236517205:Int)) + (bAnd .u64 a0 (6148914691236517205:Int)))) (3689348814741910323:Int)))) (4:Int)) + (u64.wrap ((bAnd .u64 (iShr .u64 (u64.wrap ((bAnd .u64 (iShr .u64 a0 (1:Int)) (6148914691236517205:Int)) + (bAnd .u64 a0 (6148914691236517205:Int)))) (2:Int)) (3689348814741910323:Int)) + (bAnd .u64 (u64.wrap ((bAnd .u64 (iShr .u64 a0 (1:Int)) (6148914691236517205:Int)) + (bAnd .u64 a0 (6148914691236517205:Int)))) (3689348814741910323:Int)))))) (1085102592571150095:Int)) + (iShr .u64 (bAnd .u64 (u64.wrap ((iShr .u64 (u64.wrap ((bAnd .u64 (iShr .u64 (u64.wrap ((bAnd .u64 (iShr .u64 a0 (1:Int)) (6148914691236517205:Int)) + (bAnd .u64 a0 (6148914691236517205:Int)))) (2:Int)) (3689348814741910323:Int)) + (bAnd .u64 (u64.wrap ((bAnd .u64 (iShr .u64 a0 (1:Int)) (6148914691236517205:Int)) + (bAnd .u64 a0 (6148914691236517205:Int)))) (3689348814741910323:Int)))) (4:Int)) + (u64.wrap ((bAnd .u64 (iShr .u64 (u64.wrap ((bAnd .u64 (iShr .u64 a0 (1:Int)) (6148914691236517205:Int)) + (bAnd .u64 a0 (6148914691236517205:Int)))) (2:Int)) (3689348814741910323:Int)) + (bAnd .u64 (u64.wrap ((bAnd .u64 (iShr .u64 a0 (1:Int)) (6148914691236517205:Int)) + (bAnd .u64 a0 (6148914691236517205:Int)))) (3689348814741910323:Int)))))) (1085102592571150095:Int)) (8:Int)))) + (iShr .u64 (u64.wrap ((bAnd .u64 (u64.wrap ((iShr .u64 (u64.wrap ((bAnd .u64 (iShr .u64 (u64.wrap ((bAnd .u64 (iShr .u64 a0 (1:Int)) (6148914691236517205:Int)) + (bAnd .u64 a0 (6148914691236517205:Int)))) (2:Int)) (3689348814741910323:Int)) + (bAnd .u64 (u64.wrap ((bAnd .u64 (iShr .u64 a0 (1:Int)) (6148914691236517205:Int)) + (bAnd .u64 a0 (6148914691236517205:Int)))) (3689348814741910323:Int)))) (4:Int)) + (u64.wrap ((bAnd .u64 (iShr .u64 (u64.wrap ((bAnd .u64 (iShr .u64 a0 (1:Int)) (6148914691236517205:Int)) + (bAnd .u64 a0 (6148914691236517205:Int)))) (2:Int)) (3689348814741910323:Int)) + (bAnd .u64 (u64.wrap ((bAnd .u64 (iShr .u64 a0 (1:Int)) (6148914691236517205:Int)) + (bAnd .u64 a0 (6148914691236517205:Int)))) (3689348814741910323:Int)))))) (1085102592571150095:Int)) + (iShr .u64 (bAnd .u64 (u64.wrap ((iShr .u64 (u64.wrap ((bAnd .u64 (iShr .u64 (u64.wrap ((bAnd .u64 (iShr .u64 a0 (1:Int)) (6148914691236517205:Int)) + (bAnd .u64 a0 (6148914691236517205:Int)))) (2:Int)) (3689348814741910323:Int)) + (bAnd .u64 (u64.wrap ((bAnd .u64 (iShr .u64 a0 (1:Int)) (6148914691236517205:Int)) + (bAnd .u64 a0 (6148914691236517205:Int)))) (3689348814741910323:Int)))) (4:Int)) + (u64.wrap ((bAnd .u64 (iShr .u64 (u64.wrap ((bAnd .u64 (iShr .u64 a0 (1:Int)) (6148914691236517205:Int)) + (bAnd .u64 a0 (6148914691236517205:Int)))) (2:Int)) (3689348814741910323:Int)) + (bAnd .u64 (u64.wrap ((bAnd .u64 (iShr .u64 a0 (1:Int)) (6148914691236517205:Int)) + (bAnd .u64 a0 (6148914691236517205:Int)))) (3689348814741910323:Int)))))) (1085102592571150095:Int)) (8:Int)))) (16:Int))))) z z z (wv (.int .u64 (iShr .u64 (u64.wrap ((u64.wrap ((bAnd .u64 (u64.wrap ((iShr .u64 (u64.wrap ((bAnd .u64 (iShr .u64 (u64.wrap ((bAnd .u64 (iShr .u64 a0 (1:Int)) (6148914691236517205:Int)) + (bAnd .u64 a0 (6148914691236517205:Int)))) (2:Int)) (3689348814741910323:Int)) + (bAnd .u64 (u64.wrap ((bAnd .u64 (iShr .u64 a0 (1:Int)) (6148914691236517205:Int)) + (bAnd .u64 a0 (6148914691236517205:Int)))) (3689348814741910323:Int)))) (4:Int)) + (u64.wrap ((bAnd .u64 (iShr .u64 (u64.wrap ((bAnd .u64 (iShr .u64 a0 (1:Int)) (6148914691236517205:Int)) + (bAnd .u64 a0 (6148914691236517205:Int)))) (2:Int)) (3689348814741910323:Int)) + (bAnd .u64 (u64.wrap ((bAnd .u64 (iShr .u64 a0 (1:Int)) (6148914691236517205:Int)) + (bAnd .u64 a0 (6148914691236517205:Int)))) (3689348814741910323:Int)))))) (1085102592571150095:Int)) + (iShr .u64 (bAnd .u64 (u64.wrap ((iShr .u64 (u64.wrap ((bAnd .u64 (iShr .u64 (u64.wrap ((bAnd .u64 (iShr .u64 a0 (1:Int)) (6148914691236517205:Int)) + (bAnd .u64 a0 (6148914691236517205:Int)))) (2:Int)) (3689348814741910323:Int)) + (bAnd .u64 (u64.wrap ((bAnd .u64 (iShr .u64 a0 (1:Int)) (6148914691236517205:Int)) + (bAnd .u64 a0 (6148914691236517205:Int)))) (3689348814741910323:Int)))) (4:Int)) + (u64.wrap ((bAnd .u64 (iShr .u64 (u64.wrap ((bAnd .u64 (iShr .u64 a0 (1:Int)) (6148914691236517205:Int)) + (bAnd .u64 a0 (6148914691236517205:Int)))) (2:Int)) (3689348814741910323:Int)) + (bAnd .u64 (u64.wrap ((bAnd .u64 (iShr .u64 a0 (1:Int)) (6148914691236517205:Int)) + (bAnd .u64 a0 (6148914691236517205:Int)))) (3689348814741910323:Int)))))) (1085102592571150095:Int)) (8:Int)))) + (iShr .u64 (u64.wrap ((bAnd .u64 (u64.wrap ((iShr .u64 (u64.wrap ((bAnd .u64 (iShr .u64 (u64.wrap ((bAnd .u64 (iShr .u64 a0 (1:Int)) (6148914691236517205:Int)) + (bAnd .u64 a0 (6148914691236517205:Int)))) (2:Int)) (3689348814741910323:Int)) + (bAnd .u64 (u64.wrap ((bAnd .u64 (iShr .u64 a0 (1:Int)) (6148914691236517205:Int)) + (bAnd .u64 a0 (6148914691236517205:Int)))) (3689348814741910323:Int)))) (4:Int)) + (u64.wrap ((bAnd .u64 (iShr .u64 (u64.wrap ((bAnd .u64 (iShr .u64 a0 (1:Int)) (6148914691236517205:Int)) + (bAnd .u64 a0 (6148914691236517205:Int)))) (2:Int)) (3689348814741910323:Int)) + (bAnd .u64 (u64.wrap ((bAnd .u64 (iShr .u64 a0 (1:Int)) (6148914691236517205:Int)) + (bAnd .u64 a0 (6148914691236517205:Int)))) (3689348814741910323:Int)))))) (1085102592571150095:Int)) + (iShr .u64 (bAnd .u64 (u64.wrap ((iShr .u64 (u64.wrap ((bAnd .u64 (iShr .u64 (u64.wrap ((bAnd .u64 (iShr .u64 a0 (1:Int)) (6148914691236517205:Int)) + (bAnd .u64 a0 (6148914691236517205:Int)))) (2:Int)) (3689348814741910323:Int)) + (bAnd .u64 (u64.wrap ((bAnd .u64 (iShr .u64 a0 (1:Int)) (6148914691236517205:Int)) + (bAnd .u64 a0 (6148914691236517205:Int)))) (3689348814741910323:Int)))) (4:Int)) + (u64.wrap ((bAnd .u64 (iShr .u64 (u64.wrap ((bAnd .u64 (iShr .u64 a0 (1:Int)) (6148914691236517205:Int)) + (bAnd .u64 a0 (6148914691236517205:Int)))) (2:Int)) (3689348814741910323:Int)) + (bAnd .u64 (u64.wrap ((bAnd .u64 (iShr .u64 a0 (1:Int)) (6148914691236517205:Int)) + (bAnd .u64 a0 (6148914691236517205:Int)))) (3689348814741910323:Int)))))) (1085102592571150095:Int)) (8:Int)))) (16:Int)))) (32:Int))) z z (x_shr (by decide) z z) (wv (.int .u64 (u64.wrap ((u64.wrap ((u64.wrap ((bAnd .u64 (u64.wrap ((iShr .u64 (u64.wrap ((bAnd .u64 (iShr .u64 (u64.wrap ((bAnd .u64 (iShr .u64 a0 (1:Int)) (6148914691236517205:Int)) + (bAnd .u64 a0 (6148914691236517205:Int)))) (2:Int)) (3689348814741910323:Int)) + (bAnd .u64 (u64.wrap ((bAnd .u64 (iShr .u64 a0 (1:Int)) (6148914691236517205:Int)) + (bAnd .u64 a0 (6148914691236517205:Int)))) (3689348814741910323:Int)))) (4:Int)) + (u64.wrap ((bAnd .u64 (iShr .u64 (u64.wrap ((bAnd .u64 (iShr .u64 a0 (1:Int)) (6148914691236517205:Int)) + (bAnd .u64 a0 (6148914691236517205:Int)))) (2:Int)) (3689348814741910323:Int)) + (bAnd .u64 (u64.wrap ((bAnd .u64 (iShr .u64 a0 (1:Int)) (6148914691236517205:Int)) + (bAnd .u64 a0 (6148914691236517205:Int)))) (3689348814741910323:Int)))))) (1085102592571150095:Int)) + (iShr .u64 (bAnd .u64 (u64.wrap ((iShr .u64 (u64.wrap ((bAnd .u64 (iShr .u64 (u64.wrap ((bAnd .u64 (iShr .u64 a0 (1:Int)) (6148914691236517205:Int)) + (bAnd .u64 a0 (6148914691236517205:Int)))) (2:Int)) (3689348814741910323:Int)) + (bAnd .u64 (u64.wrap ((bAnd .u64 (iShr .u64 a0 (1:Int)) (6148914691236517205:Int)) + (bAnd .u64 a0 (6148914691236517205:Int)))) (3689348814741910323:Int)))) (4:Int)) + (u64.wrap ((bAnd .u64 (iShr .u64 (u64.wrap ((bAnd .u64 (iShr .u64 a0 (1:Int)) (6148914691236517205:Int)) + (bAnd .u64 a0 (6148914691236517205:Int)))) (2:Int)) (3689348814741910323:Int)) + (bAnd .u64 (u64.wrap ((bAnd .u64 (iShr .u64 a0 (1:Int)) (6148914691236517205:Int)) + (bAnd .u64 a0 (6148914691236517205:Int)))) (3689348814741910323:Int)))))) (1085102592571150095:Int)) (8:Int)))) + (iShr .u64 (u64.wrap ((bAnd .u64 (u64.wrap ((iShr .u64 (u64.wrap ((bAnd .u64 (iShr .u64 (u64.wrap ((bAnd .u64 (iShr .u64 a0 (1:Int)) (6148914691236517205:Int)) + (bAnd .u64 a0 (6148914691236517205:Int)))) (2:Int)) (3689348814741910323:Int)) + (bAnd .u64 (u64.wrap ((bAnd .u64 (iShr .u64 a0 (1:Int)) (6148914691236517205:Int)) + (bAnd .u64 a0 (6148914691236517205:Int)))) (3689348814741910323:Int)))) (4:Int)) + (u64.wrap ((bAnd .u64 (iShr .u64 (u64.wrap ((bAnd .u64 (iShr .u64 a0 (1:Int)) (6148914691236517205:Int)) + (bAnd .u64 a0 (6148914691236517205:Int)))) (2:Int)) (3689348814741910323:Int)) + (bAnd .u64 (u64.wrap ((bAnd .u64 (iShr .u64 a0 (1:Int)) (6148914691236517205:Int)) + (bAnd .u64 a0 (6148914691236517205:Int)))) (3689348814741910323:Int)))))) (1085102592571150095:Int)) + (iShr .u64 (bAnd .u64 (u64.wrap ((iShr .u64 (u64.wrap ((bAnd .u64 (iShr .u64 (u64.wrap ((bAnd .u64 (iShr .u64 a0 (1:Int)) (6148914691236517205:Int)) + (bAnd .u64 a0 (6148914691236517205:Int)))) (2:Int)) (3689348814741910323:Int)) + (bAnd .u64 (u64.wrap ((bAnd .u64 (iShr .u64 a0 (1:Int)) (6148914691236517205:Int)) + (bAnd .u64 a0 (6148914691236517205:Int)))) (3689348814741910323:Int)))) (4:Int)) + (u64.wrap ((bAnd .u64 (iShr .u64 (u64.wrap ((bAnd .u64 (iShr .u64 a0 (1:Int)) (6148914691236517205:Int)) + (bAnd .u64 a0 (6148914691236517205:Int)))) (2:Int)) (3689348814741910323:Int)) + (bAnd .u64 (u64.wrap ((bAnd .u64 (iShr .u64 a0 (1:Int)) (6148914691236517205:Int)) + (bAnd .u64 a0 (6148914691236517205:Int)))) (3689348814741910323:Int)))))) (1085102592571150095:Int)) (8:Int)))) (16:Int)))) + (iShr .u64 (u64.wrap ((u64.wrap ((bAnd .u64 (u64.wrap ((iShr .u64 (u64.wrap ((bAnd .u64 (iShr .u64 (u64.wrap ((bAnd .u64 (iShr .u64 a0 (1:Int)) (6148914691236517205:Int)) + (bAnd .u64 a0 (6148914691236517205:Int)))) (2:Int)) (3689348814741910323:Int)) + (bAnd .u64 (u64.wrap ((bAnd .u64 (iShr .u64 a0 (1:Int)) (6148914691236517205:Int)) + (bAnd .u64 a0 (6148914691236517205:Int)))) (3689348814741910323:Int)))) (4:Int)) + (u64.wrap ((bAnd .u64 (iShr .u64 (u64.wrap ((bAnd .u64 (iShr .u64 a0 (1:Int)) (6148914691236517205:Int)) + (bAnd .u64 a0 (6148914691236517205:Int)))) (2:Int)) (3689348814741910323:Int)) + (bAnd .u64 (u64.wrap ((bAnd .u64 (iShr .u64 a0 (1:Int)) (6148914691236517205:Int)) + (bAnd .u64 a0 (6148914691236517205:Int)))) (3689348814741910323:Int)))))) (1085102592571150095:Int)) + (iShr .u64 (bAnd .u64 (u64.wrap ((iShr .u64 (u64.wrap ((bAnd .u64 (iShr .u64 (u64.wrap ((bAnd .u64 (iShr .u64 a0 (1:Int)) (6148914691236517205:Int)) + (bAnd .u64 a0 (6148914691236517205:Int)))) (2:Int)) (3689348814741910323:Int)) + (bAnd .u64 (u64.wrap ((bAnd .u64 (iShr .u64 a0 (1:Int)) (6148914691236517205:Int)) + (bAnd .u64 a0 (6148914691236517205:Int)))) (3689348814741910323:Int)))) (4:Int)) + (u64.wrap ((bAnd .u64 (iShr .u64 (u64.wrap ((bAnd .u64 (iShr .u64 a0 (1:Int)) (6148914691236517205:Int)) + (bAnd .u64 a0 (6148914691236517205:Int)))) (2:Int)) (3689348814741910323:Int)) + (bAnd .u64 (u64.wrap ((bAnd .u64 (iShr .u64 a0 (1:Int)) (6148914691236517205:Int)) + (bAnd .u64 a0 (6148914691236517205:Int)))) (3689348814741910323:Int)))))) (1085102592571150095:Int)) (8:Int)))) + (iShr .u64 (u64.wrap ((bAnd .u64 (u64.wrap ((iShr .u64 (u64.wrap ((bAnd .u64 (iShr .u64 (u64.wrap ((bAnd .u64 (iShr .u64 a0 (1:Int)) (6148914691236517205:Int)) + (bAnd .u64 a0 (6148914691236517205:Int)))) (2:Int)) (3689348814741910323:Int)) + (bAnd .u64 (u64.wrap ((bAnd .u64 (iShr .u64 a0 (1:Int)) (6148914691236517205:Int)) + (bAnd .u64 a0 (6148914691236517205:Int)))) (3689348814741910323:Int)))) (4:Int)) + (u64.wrap ((bAnd .u64 (iShr .u64 (u64.wrap ((bAnd .u64 (iShr .u64 a0 (1:Int)) (6148914691236517205:Int)) + (bAnd .u64 a0 (6148914691236517205:Int)))) (2:Int)) (3689348814741910323:Int)) + (bAnd .u64 (u64.wrap ((bAnd .u64 (iShr .u64 a0 (1:Int)) (6148914691236517205:Int)) + (bAnd .u64 a0 (6148914691236517205:Int)))) (3689348814741910323:Int)))))) (1085102592571150095:Int)) + (iShr .u64 (bAnd .u64 (u64.wrap ((iShr .u64 (u64.wrap ((bAnd .u64 (iShr .u64 (u64.wrap ((bAnd .u64 (iShr .u64 a0 (1:Int)) (6148914691236517205:Int)) + (bAnd .u64 a0 (6148914691236517205:Int)))) (2:Int)) (3689348814741910323:Int)) + (bAnd .u64 (u64.wrap ((bAnd .u64 (iShr .u64 a0 (1:Int)) (6148914691236517205:Int)) + (bAnd .u64 a0 (6148914691236517205:Int)))) (3689348814741910323:Int)))) (4:Int)) + (u64.wrap ((bAnd .u64 (iShr .u64 (u64.wrap ((bAnd .u64 (iShr .u64 a0 (1:Int)) (6148914691236517205:Int)) + (bAnd .u64 a0 (6148914691236517205:Int)))) (2:Int)) (3689348814741910323:Int)) + (bAnd .u64 (u64.wrap ((bAnd .u64 (iShr .u64 a0 (1:Int)) (6148914691236517205:Int)) + (bAnd .u64 a0 (6148914691236517205:Int)))) (3689348814741910323:Int)))))) (1085102592571150095:Int)) (8:Int)))) (16:Int)))) (32:Int))))) z z z (wv (.int .u64 (u64.wrap ((u64.wrap ((u64.wrap ((bAnd .u64 (u64.wrap ((iShr .u64 (u64.wrap ((bAnd .u64 (iShr .u64 (u64.wrap ((bAnd .u64 (iShr .u64 a0 (1:Int)) (6148914691236517205:Int)) + (bAnd .u64 a0 (6148914691236517205:Int)))) (2:Int)) (3689348814741910323:Int)) + (bAnd .u64 (u64.wrap ((bAnd .u64 (iShr .u64 a0 (1:Int)) (6148914691236517205:Int)) + (bAnd .u64 a0 (6148914691236517205:Int)))) (3689348814741910323:Int)))) (4:Int)) + (u64.wrap ((bAnd .u64 (iShr .u64 (u64.wrap ((bAnd .u64 (iShr .u64 a0 (1:Int)) (6148914691236517205:Int)) + (bAnd .u64 a0 (6148914691236517205:Int)))) (2:Int)) (3689348814741910323:Int)) + (bAnd .u64 (u64.wrap ((bAnd .u64 (iShr .u64 a0 (1:Int)) (6148914691236517205:Int)) + (bAnd .u64 a0 (6148914691236517205:Int)))) (3689348814741910323:Int)))))) (1085102592571150095:Int)) + (iShr .u64 (bAnd .u64 (u64.wrap ((iShr .u64 (u64.wrap ((bAnd .u64 (iShr .u64 (u64.wrap ((bAnd .u64 (iShr .u64 a0 (1:Int)) (6148914691236517205:Int)) + (bAnd .u64 a0 (6148914691236517205:Int)))) (2:Int)) (3689348814741910323:Int)) + (bAnd .u64 (u64.wrap ((bAnd .u64 (iShr .u64 a0 (1:Int)) (6148914691236517205:Int)) + (bAnd .u64 a0 (6148914691236517205:Int)))) (3689348814741910323:Int)))) (4:Int)) + (u64.wrap ((bAnd .u64 (iShr .u64 (u64.wrap ((bAnd .u64 (iShr .u64 a0 (1:Int)) (6148914691236517205:Int)) + (bAnd .u64 a0 (6148914691236517205:Int)))) (2:Int)) (3689348814741910323:Int)) + (bAnd .u64 (u64.wrap ((bAnd .u64 (iShr .u64 a0 (1:Int)) (6148914691236517205:Int)) + (bAnd .u64 a0 (6148914691236517205:Int)))) (3689348814741910323:Int)))))) (1085102592571150095:Int)) (8:Int)))) + (iShr .u64 (u64.wrap ((bAnd .u64 (u64.wrap ((iShr .u64 (u64.wrap ((bAnd .u64 (iShr .u64 (u64.wrap ((bAnd .u64 (iShr .u64 a0 (1:Int)) (6148914691236517205:Int)) + (bAnd .u64 a0 (6148914691236517205:Int)))) (2:Int)) (3689348814741910323:Int)) + (bAnd .u64 (u64.wrap ((bAnd .u64 (iShr .u64 a0 (1:Int)) (6148914691236517205:Int)) + (bAnd .u64 a0 (6148914691236517205:Int)))) (3689348814741910323:Int)))) (4:Int)) + (u64.wrap ((bAnd .u64 (iShr .u64 (u64.wrap ((bAnd .u64 (iShr .u64 a0 (1:Int)) (6148914691236517205:Int)) + (bAnd .u64 a0 (6148914691236517205:Int)))) (2:Int)) (3689348814741910323:Int)) + (bAnd .u64 (u64.wrap ((bAnd .u64 (iShr .u64 a0 (1:Int)) (6148914691236517205:Int)) + (bAnd .u64 a0 (6148914691236517205:Int)))) (3689348814741910323:Int)))))) (1085102592571150095:Int)) + (iShr .u64 (bAnd .u64 (u64.wrap ((iShr .u64 (u64.wrap ((bAnd .u64 (iShr .u64 (u64.wrap ((bAnd .u64 (iShr .u64 a0 (1:Int)) (6148914691236517205:Int)) + (bAnd .u64 a0 (6148914691236517205:Int)))) (2:Int)) (3689348814741910323:Int)) + (bAnd .u64 (u64.wrap ((bAnd .u64 (iShr .u64 a0 (1:Int)) (6148914691236517205:Int)) + (bAnd .u64 a0 (6148914691236517205:Int)))) (3689348814741910323:Int)))) (4:Int)) + (u64.wrap ((bAnd .u64 (iShr .u64 (u64.wrap ((bAnd .u64 (iShr .u64 a0 (1:Int)) (6148914691236517205:Int)) + (bAnd .u64 a0 (6148914691236517205:Int)))) (2:Int)) (3689348814741910323:Int)) + (bAnd .u64 (u64.wrap ((bAnd .u64 (iShr .u64 a0 (1:Int)) (6148914691236517205:Int)) + (bAnd .u64 a0 (6148914691236517205:Int)))) (3689348814741910323:Int)))))) (1085102592571150095:Int)) (8:Int)))) (16:Int)))) + (iShr .u64 (u64.wrap ((u64.wrap ((bAnd .u64 (u64.wrap ((iShr .u64 (u64.wrap ((bAnd .u64 (iShr .u64 (u64.wrap ((bAnd .u64 (iShr .u64 a0 (1:Int)) (6148914691236517205:Int)) + (bAnd .u64 a0 (6148914691236517205:Int)))) (2:Int)) (3689348814741910323:Int)) + (bAnd .u64 (u64.wrap ((bAnd .u64 (iShr .u64 a0 (1:Int)) (6148914691236517205:Int)) + (bAnd .u64 a0 (6148914691236517205:Int)))) (3689348814741910323:Int)))) (4:Int)) + (u64.wrap ((bAnd .u64 (iShr .u64 (u64.wrap ((bAnd .u64 (iShr .u64 a0 (1:Int)) (6148914691236517205:Int)) + (bAnd .u64 a0 (6148914691236517205:Int)))) (2:Int)) (3689348814741910323:Int)) + (bAnd .u64 (u64.wrap ((bAnd .u64 (iShr .u64 a0 (1:Int)) (6148914691236517205:Int)) + (bAnd .u64 a0 (6148914691236517205:Int)))) (3689348814741910323:Int)))))) (1085102592571150095:Int)) + (iShr .u64 (bAnd .u64 (u64.wrap ((iShr .u64 (u64.wrap ((bAnd .u64 (iShr .u64 (u64.wrap ((bAnd .u64 (iShr .u64 a0 (1:Int)) (6148914691236517205:Int)) + (bAnd .u64 a0 (6148914691236517205:Int)))) (2:Int)) (3689348814741910323:Int)) + (bAnd .u64 (u64.wrap ((bAnd .u64 (iShr .u64 a0 (1:Int)) (6148914691236517205:Int)) + (bAnd .u64 a0 (6148914691236517205:Int)))) (3689348814741910323:Int)))) (4:Int)) + (u64.wrap ((bAnd .u64 (iShr .u64 (u64.wrap ((bAnd .u64 (iShr .u64 a0 (1:Int)) (6148914691236517205:Int)) + (bAnd .u64 a0 (6148914691236517205:Int)))) (2:Int)) (3689348814741910323:Int)) + (bAnd .u64 (u64.wrap ((bAnd .u64 (iShr .u64 a0 (1:Int)) (6148914691236517205:Int)) + (bAnd .u64 a0 (6148914691236517205:Int)))) (3689348814741910323:Int)))))) (1085102592571150095:Int)) (8:Int)))) + (iShr .u64 (u64.wrap ((bAnd .u64 (u64.wrap ((iShr .u64 (u64.wrap ((bAnd .u64 (iShr .u64 (u64.wrap ((bAnd .u64 (iShr .u64 a0 (1:Int)) (6148914691236517205:Int)) + (bAnd .u64 a0 (6148914691236517205:Int)))) (2:Int)) (3689348814741910323:Int)) + (bAnd .u64 (u64.wrap ((bAnd .u64 (iShr .u64 a0 (1:Int)) (6148914691236517205:Int)) + (bAnd .u64 a0 (6148914691236517205:Int)))) (3689348814741910323:Int)))) (4:Int)) + (u64.wrap ((bAnd .u64 (iShr .u64 (u64.wrap ((bAnd .u64 (iShr .u64 a0 (1:Int)) (6148914691236517205:Int)) + (bAnd .u64 a0 (6148914691236517205:Int)))) (2:Int)) (3689348814741910323:Int)) + (bAnd .u64 (u64.wrap ((bAnd .u64 (iShr .u64 a0 (1:Int)) (6148914691236517205:Int)) + (bAnd .u64 a0 (6148914691236517205:Int)))) (3689348814741910323:Int)))))) (1085102592571150095:Int)) + (iShr .u64 (bAnd .u64 (u64.wrap ((iShr .u64 (u64.wrap ((bAnd .u64 (iShr .u64 (u64.wrap ((bAnd .u64 (iShr .u64 a0 (1:Int)) (6148914691236517205:Int)) + (bAnd .u64 a0 (6148914691236517205:Int)))) (2:Int)) (3689348814741910323:Int)) + (bAnd .u64 (u64.wrap ((bAnd .u64 (iShr .u64 a0 (1:Int)) (6148914691236517205:Int)) + (bAnd .u64 a0 (6148914691236517205:Int)))) (3689348814741910323:Int)))) (4:Int)) + (u64.wrap ((bAnd .u64 (iShr .u64 (u64.wrap ((bAnd .u64 (iShr .u64 a0 (1:Int)) (6148914691236517205:Int)) + (bAnd .u64 a0 (6148914691236517205:Int)))) (2:Int)) (3689348814741910323:Int)) + (bAnd .u64 (u64.wrap ((bAnd .u64 (iShr .u64 a0 (1:Int)) (6148914691236517205:Int)) + (bAnd .u64 a0 (6148914691236517205:Int)))) (3689348814741910323:Int)))))) (1085102592571150095:Int)) (8:Int)))) (16:Int)))) (32:Int))))) z z z (wl_nil (tn (wp_seq (wrl (wv (.int .u64 (u64.wrap ((u64.wrap ((u64.wrap ((bAnd .u64 (u64.wrap ((iShr .u64 (u64.wrap ((bAnd .u64 (iShr .u64 (u64.wrap ((bAnd .u64 (iShr .u64 a0 (1:Int)) (6148914691236517205:Int)) + (bAnd .u64 a0 (6148914691236517205:Int)))) (2:Int)) (3689348814741910323:Int)) + (bAnd .u64 (u64.wrap ((bAnd .u64 (iShr .u64 a0 (1:Int)) (6148914691236517205:Int)) + (bAnd .u64 a0 (6148914691236517205:Int)))) (3689348814741910323:Int)))) (4:Int)) + (u64.wrap ((bAnd .u64 (iShr .u64 (u64.wrap ((bAnd .u64 (iShr .u64 a0 (1:Int)) (6148914691236517205:Int)) + (bAnd .u64 a0 (6148914691236517205:Int)))) (2:Int)) (3689348814741910323:Int)) + (bAnd .u64 (u64.wrap ((bAnd .u64 (iShr .u64 a0 (1:Int)) (6148914691236517205:Int)) + (bAnd .u64 a0 (6148914691236517205:Int)))) (3689348814741910323:Int)))))) (1085102592571150095:Int)) + (iShr .u64 (bAnd .u64 (u64.wrap ((iShr .u64 (u64.wrap ((bAnd .u64 (iShr .u64 (u64.wrap ((bAnd .u64 (iShr .u64 a0 (1:Int)) (6148914691236517205:Int)) + (bAnd .u64 a0 (6148914691236517205:Int)))) (2:Int)) (3689348814741910323:Int)) + (bAnd .u64 (u64.wrap ((bAnd .u64 (iShr .u64 a0 (1:Int)) (6148914691236517205:Int)) + (bAnd .u64 a0 (6148914691236517205:Int)))) (3689348814741910323:Int)))) (4:Int)) + (u64.wrap ((bAnd .u64 (iShr .u64 (u64.wrap ((bAnd .u64 (iShr .u64 a0 (1:Int)) (6148914691236517205:Int)) + (bAnd .u64 a0 (6148914691236517205:Int)))) (2:Int)) (3689348814741910323:Int)) + (bAnd .u64 (u64.wrap ((bAnd .u64 (iShr .u64 a0 (1:Int)) (6148914691236517205:Int)) + (bAnd .u64 a0 (6148914691236517205:Int)))) (3689348814741910323:Int)))))) (1085102592571150095:Int)) (8:Int)))) + (iShr .u64 (u64.wrap ((bAnd .u64 (u64.wrap ((iShr .u64 (u64.wrap ((bAnd .u64 (iShr .u64 (u64.wrap ((bAnd .u64 (iShr .u64 a0 (1:Int)) (6148914691236517205:Int)) + (bAnd .u64 a0 (6148914691236517205:Int)))) (2:Int)) (3689348814741910323:Int)) + (bAnd .u64 (u64.wrap ((bAnd .u64 (iShr .u64 a0 (1:Int)) (6148914691236517205:Int)) + (bAnd .u64 a0 (6148914691236517205:Int)))) (3689348814741910323:Int)))) (4:Int)) + (u64.wrap ((bAnd .u64 (iShr .u64 (u64.wrap ((bAnd .u64 (iShr .u64 a0 (1:Int)) (6148914691236517205:Int)) + (bAnd .u64 a0 (6148914691236517205:Int)))) (2:Int)) (3689348814741910323:Int)) + (bAnd .u64 (u64.wrap ((bAnd .u64 (iShr .u64 a0 (1:Int)) (6148914691236517205:Int)) + (bAnd .u64 a0 (6148914691236517205:Int)))) (3689348814741910323:Int)))))) (1085102592571150095:Int)) + (iShr .u64 (bAnd .u64 (u64.wrap ((iShr .u64 (u64.wrap ((bAnd .u64 (iShr .u64 (u64.wrap ((bAnd .u64 (iShr .u64 a0 (1:Int)) (6148914691236517205:Int)) + (bAnd .u64 a0 (6148914691236517205:Int)))) (2:Int)) (3689348814741910323:Int)) + (bAnd .u64 (u64.wrap ((bAnd .u64 (iShr .u64 a0 (1:Int)) (6148914691236517205:Int)) + (bAnd .u64 a0 (6148914691236517205:Int)))) (3689348814741910323:Int)))) (4:Int)) + (u64.wrap ((bAnd .u64 (iShr .u64 (u64.wrap ((bAnd .u64 (iShr .u64 a0 (1:Int)) (6148914691236517205:Int)) + (bAnd .u64 a0 (6148914691236517205:Int)))) (2:Int)) (3689348814741910323:Int)) + (bAnd .u64 (u64.wrap ((bAnd .u64 (iShr .u64 a0 (1:Int)) (6148914691236517205:Int)) + (bAnd .u64 a0 (6148914691236517205:Int)))) (3689348814741910323:Int)))))) (1085102592571150095:Int)) (8:Int)))) (16:Int)))) + (iShr .u64 (u64.wrap ((u64.wrap ((bAnd .u64 (u64.wrap ((iShr .u64 (u64.wrap ((bAnd .u64 (iShr .u64 (u64.wrap ((bAnd .u64 (iShr .u64 a0 (1:Int)) (6148914691236517205:Int)) + (bAnd .u64 a0 (6148914691236517205:Int)))) (2:Int)) (3689348814741910323:Int)) + (bAnd .u64 (u64.wrap ((bAnd .u64 (iShr .u64 a0 (1:Int)) (6148914691236517205:Int)) + (bAnd .u64 a0 (6148914691236517205:Int)))) (3689348814741910323:Int)))) (4:Int)) + (u64.wrap ((bAnd .u64 (iShr .u64 (u64.wrap ((bAnd .u64 (iShr .u64 a0 (1:Int)) (6148914691236517205:Int)) + (bAnd .u64 a0 (6148914691236517205:Int)))) (2:Int)) (3689348814741910323:Int)) + (bAnd .u64 (u64.wrap ((bAnd .u64 (iShr .u64 a0 (1:Int)) (6148914691236517205:Int)) + (bAnd .u64 a0 (6148914691236517205:Int)))) (3689348814741910323:Int)))))) (1085102592571150095:Int)) + (iShr .u64 (bAnd .u64 (u64.wrap ((iShr .u64 (u64.wrap ((bAnd .u64 (iShr .u64 (u64.wrap ((bAnd .u64 (iShr .u64 a0 (1:Int)) (6148914691236517205:Int)) + (bAnd .u64 a0 (6148914691236517205:Int)))) (2:Int)) (3689348814741910323:Int)) + (bAnd .u64 (u64.wrap ((bAnd .u64 (iShr .u64 a0 (1:Int)) (6148914691236517205:Int)) + (bAnd .u64 a0 (6148914691236517205:Int)))) (3689348814741910323:Int)))) (4:Int)) + (u64.wrap ((bAnd .u64 (iShr .u64 (u64.wrap ((bAnd .u64 (iShr .u64 a0 (1:Int)) (6148914691236517205:Int)) + (bAnd .u64 a0 (6148914691236517205:Int)))) (2:Int)) (3689348814741910323:Int)) + (bAnd .u64 (u64.wrap ((bAnd .u64 (iShr .u64 a0 (1:Int)) (6148914691236517205:Int)) + (bAnd .u64 a0 (6148914691236517205:Int)))) (3689348814741910323:Int)))))) (1085102592571150095:Int)) (8:Int)))) + (iShr .u64 (u64.wrap ((bAnd .u64 (u64.wrap ((iShr .u64 (u64.wrap ((bAnd .u64 (iShr .u64 (u64.wrap ((bAnd .u64 (iShr .u64 a0 (1:Int)) (6148914691236517205:Int)) + (bAnd .u64 a0 (6148914691236517205:Int)))) (2:Int)) (3689348814741910323:Int)) + (bAnd .u64 (u64.wrap ((bAnd .u64 (iShr .u64 a0 (1:Int)) (6148914691236517205:Int)) + (bAnd .u64 a0 (6148914691236517205:Int)))) (3689348814741910323:Int)))) (4:Int)) + (u64.wrap ((bAnd .u64 (iShr .u64 (u64.wrap ((bAnd .u64 (iShr .u64 a0 (1:Int)) (6148914691236517205:Int)) + (bAnd .u64 a0 (6148914691236517205:Int)))) (2:Int)) (3689348814741910323:Int)) + (bAnd .u64 (u64.wrap ((bAnd .u64 (iShr .u64 a0 (1:Int)) (6148914691236517205:Int)) + (bAnd .u64 a0 (6148914691236517205:Int)))) (3689348814741910323:Int)))))) (1085102592571150095:Int)) + (iShr .u64 (bAnd .u64 (u64.wrap ((iShr .u64 (u64.wrap ((bAnd .u64 (iShr .u64 (u64.wrap ((bAnd .u64 (iShr .u64 a0 (1:Int)) (6148914691236517205:Int)) + (bAnd .u64 a0 (6148914691236517205:Int)))) (2:Int)) (3689348814741910323:Int)) + (bAnd .u64 (u64.wrap ((bAnd .u64 (iShr .u64 a0 (1:Int)) (6148914691236517205:Int)) + (bAnd .u64 a0 (6148914691236517205:Int)))) (3689348814741910323:Int)))) (4:Int)) + (u64.wrap ((bAnd .u64 (iShr .u64 (u64.wrap ((bAnd .u64 (iShr .u64 a0 (1:Int)) (6148914691236517205:Int)) + (bAnd .u64 a0 (6148914691236517205:Int)))) (2:Int)) (3689348814741910323:Int)) + (bAnd .u64 (u64.wrap ((bAnd .u64 (iShr .u64 a0 (1:Int)) (6148914691236517205:Int)) + (bAnd .u64 a0 (6148914691236517205:Int)))) (3689348814741910323:Int)))))) (1085102592571150095:Int)) (8:Int)))) (16:Int)))) (32:Int))))) z z z (wv (.int .i64 (i64.wrap (u64.wrap ((u64.wrap ((u64.wrap ((bAnd .u64 (u64.wrap ((iShr .u64 (u64.wrap ((bAnd .u64 (iShr .u64 (u64.wrap ((bAnd .u64 (iShr .u64 a0 (1:Int)) (6148914691236517205:Int)) + (bAnd .u64 a0 (6148914691236517205:Int)))) (2:Int)) (3689348814741910323:Int)) + (bAnd .u64 (u64.wrap ((bAnd .u64 (iShr .u64 a0 (1:Int)) (6148914691236517205:Int)) + (bAnd .u64 a0 (6148914691236517205:Int)))) (3689348814741910323:Int)))) (4:Int)) + (u64.wrap ((bAnd .u64 (iShr .u64 (u64.wrap ((bAnd .u64 (iShr .u64 a0 (1:Int)) (6148914691236517205:Int)) + (bAnd .u64 a0 (6148914691236517205:Int)))) (2:Int)) (3689348814741910323:Int)) + (bAnd .u64 (u64.wrap ((bAnd .u64 (iShr .u64 a0 (1:Int)) (6148914691236517205:Int)) + (bAnd .u64 a0 (6148914691236517205:Int)))) (3689348814741910323:Int)))))) (1085102592571150095:Int)) + (iShr .u64 (bAnd .u64 (u64.wrap ((iShr .u64 (u64.wrap ((bAnd .u64 (iShr .u64 (u64.wrap ((bAnd .u64 (iShr .u64 a0 (1:Int)) (6148914691236517205:Int)) + (bAnd .u64 a0 (6148914691236517205:Int)))) (2:Int)) (3689348814741910323:Int)) + (bAnd .u64 (u64.wrap ((bAnd .u64 (iShr .u64 a0 (1:Int)) (6148914691236517205:Int)) + (bAnd .u64 a0 (6148914691236517205:Int)))) (3689348814741910323:Int)))) (4:Int)) + (u64.wrap ((bAnd .u64 (iShr .u64 (u64.wrap ((bAnd .u64 (iShr .u64 a0 (1:Int)) (6148914691236517205:Int)) + (bAnd .u64 a0 (6148914691236517205:Int)))) (2:Int)) (3689348814741910323:Int)) + (bAnd .u64 (u64.wrap ((bAnd .u64 (iShr .u64 a0 (1:Int)) (6148914691236517205:Int)) + (bAnd .u64 a0 (6148914691236517205:Int)))) (3689348814741910323:Int)))))) (1085102592571150095:Int)) (8:Int)))) + (iShr .u64 (u64.wrap ((bAnd .u64 (u64.wrap ((iShr .u64 (u64.wrap ((bAnd .u64 (iShr .u64 (u64.wrap ((bAnd .u64 (iShr .u64 a0 (1:Int)) (6148914691236517205:Int)) + (bAnd .u64 a0 (6148914691236517205:Int)))) (2:Int)) (3689348814741910323:Int)) + (bAnd .u64 (u64.wrap ((bAnd .u64 (iShr .u64 a0 (1:Int)) (6148914691236517205:Int)) + (bAnd .u64 a0 (6148914691236517205:Int)))) (3689348814741910323:Int)))) (4:Int)) + (u64.wrap ((bAnd .u64 (iShr .u64 (u64.wrap ((bAnd .u64 (iShr .u64 a0 (1:Int)) (6148914691236517205:Int)) + (bAnd .u64 a0 (6148914691236517205:Int)))) (2:Int)) (3689348814741910323:Int)) + (bAnd .u64 (u64.wrap ((bAnd .u64 (iShr .u64 a0 (1:Int)) (6148914691236517205:Int)) + (bAnd .u64 a0 (6148914691236517205:Int)))) (3689348814741910323:Int)))))) (1085102592571150095:Int)) + (iShr .u64 (bAnd .u64 (u64.wrap ((iShr .u64 (u64.wrap ((bAnd .u64 (iShr .u64 (u64.wrap ((bAnd .u64 (iShr .u64 a0 (1:Int)) (6148914691236517205:Int)) + (bAnd .u64 a0 (6148914691236517205:Int)))) (2:Int)) (3689348814741910323:Int)) + (bAnd .u64 (u64.wrap ((bAnd .u64 (iShr .u64 a0 (1:Int)) (6148914691236517205:Int)) + (bAnd .u64 a0 (6148914691236517205:Int)))) (3689348814741910323:Int)))) (4:Int)) + (u64.wrap ((bAnd .u64 (iShr .u64 (u64.wrap ((bAnd .u64 (iShr .u64 a0 (1:Int)) (6148914691236517205:Int)) + (bAnd .u64 a0 (6148914691236517205:Int)))) (2:Int)) (3689348814741910323:Int)) + (bAnd .u64 (u64.wrap ((bAnd .u64 (iShr .u64 a0 (1:Int)) (6148914691236517205:Int)) + (bAnd .u64 a0 (6148914691236517205:Int)))) (3689348814741910323:Int)))))) (1085102592571150095:Int)) (8:Int)))) (16:Int)))) + (iShr .u64 (u64.wrap ((u64.wrap ((bAnd .u64 (u64.wrap ((iShr .u64 (u64.wrap ((bAnd .u64 (iShr .u64 (u64.wrap ((bAnd .u64 (iShr .u64 a0 (1:Int)) (6148914691236517205:Int)) + (bAnd .u64 a0 (6148914691236517205:Int)))) (2:Int)) (3689348814741910323:Int)) + (bAnd .u64 (u64.wrap ((bAnd .u64 (iShr .u64 a0 (1:Int)) (6148914691236517205:Int)) + (bAnd .u64 a0 (6148914691236517205:Int)))) (3689348814741910323:Int)))) (4:Int)) + (u64.wrap ((bAnd .u64 (iShr .u64 (u64.wrap ((bAnd .u64 (iShr .u64 a0 (1:Int)) (6148914691236517205:Int)) + (bAnd .u64 a0 (6148914691236517205:Int)))) (2:Int)) (3689348814741910323:Int)) + (bAnd .u64 (u64.wrap ((bAnd .u64 (iShr .u64 a0 (1:Int)) (6148914691236517205:Int)) + (bAnd .u64 a0 (6148914691236517205:Int)))) (3689348814741910323:Int)))))) (1085102592571150095:Int)) + (iShr .u64 (bAnd .u64 (u64.wrap ((iShr .u64 (u64.wrap ((bAnd .u64 (iShr .u64 (u64.wrap ((bAnd .u64 (iShr .u64 a0 (1:Int)) (6148914691236517205:Int)) + (bAnd .u64 a0 (6148914691236517205:Int)))) (2:Int)) (3689348814741910323:Int)) + (bAnd .u64 (u64.wrap ((bAnd .u64 (iShr .u64 a0 (1:Int)) (6148914691236517205:Int)) + (bAnd .u64 a0 (6148914691236517205:Int)))) (3689348814741910323:Int)))) (4:Int)) + (u64.wrap ((bAnd .u64 (iShr .u64 (u64.wrap ((bAnd .u64 (iShr .u64 a0 (1:Int)) (6148914691236517205:Int)) + (bAnd .u64 a0 (6148914691236517205:Int)))) (2:Int)) (3689348814741910323:Int)) + (bAnd .u64 (u64.wrap ((bAnd .u64 (iShr .u64 a0 (1:Int)) (6148914691236517205:Int)) + (bAnd .u64 a0 (6148914691236517205:Int)))) (3689348814741910323:Int)))))) (1085102592571150095:Int)) (8:Int)))) + (iShr .u64 (u64.wrap ((bAnd .u64 (u64.wrap ((iShr .u64 (u64.wrap ((bAnd .u64 (iShr .u64 (u64.wrap ((bAnd .u64 (iShr .u64 a0 (1:Int)) (6148914691236517205:Int)) + (bAnd .u64 a0 (6148914691236517205:Int)))) (2:Int)) (3689348814741910323:Int)) + (bAnd .u64 (u64.wrap ((bAnd .u64 (iShr .u64 a0 (1:Int)) (6148914691236517205:Int)) + (bAnd .u64 a0 (6148914691236517205:Int)))) (3689348814741910323:Int)))) (4:Int)) + (u64.wrap ((bAnd .u64 (iShr .u64 (u64.wrap ((bAnd .u64 (iShr .u64 a0 (1:Int)) (6148914691236517205:Int)) + (bAnd .u64 a0 (6148914691236517205:Int)))) (2:Int)) (3689348814741910323:Int)) + (bAnd .u64 (u64.wrap ((bAnd .u64 (iShr .u64 a0 (1:Int)) (6148914691236517205:Int)) + (bAnd .u64 a0 (6148914691236517205:Int)))) (3689348814741910323:Int)))))) (1085102592571150095:Int)) + (iShr .u64 (bAnd .u64 (u64.wrap ((iShr .u64 (u64.wrap ((bAnd .u64 (iShr .u64 (u64.wrap ((bAnd .u64 (iShr .u64 a0 (1:Int)) (6148914691236517205:Int)) + (bAnd .u64 a0 (6148914691236517205:Int)))) (2:Int)) (3689348814741910323:Int)) + (bAnd .u64 (u64.wrap ((bAnd .u64 (iShr .u64 a0 (1:Int)) (6148914691236517205:Int)) + (bAnd .u64 a0 (6148914691236517205:Int)))) (3689348814741910323:Int)))) (4:Int)) + (u64.wrap ((bAnd .u64 (iShr .u64 (u64.wrap ((bAnd .u64 (iShr .u64 a0 (1:Int)) (6148914691236517205:Int)) + (bAnd .u64 a0 (6148914691236517205:Int)))) (2:Int)) (3689348814741910323:Int)) + (bAnd .u64 (u64.wrap ((bAnd .u64 (iShr .u64 a0 (1:Int)) (6148914691236517205:Int)) + (bAnd .u64 a0 (6148914691236517205:Int)))) (3689348814741910323:Int)))))) (1085102592571150095:Int)) (8:Int)))) (16:Int)))) (32:Int)))))) z z (by kernel_rfl) (wv (.int .i64 (bAnd .i64 (i64.wrap (u64.wrap ((u64.wrap ((u64.wrap ((bAnd .u64 (u64.wrap ((iShr .u64 (u64.wrap ((bAnd .u64 (iShr .u64 (u64.wrap ((bAnd .u64 (iShr .u64 a0 (1:Int)) (6148914691236517205:Int)) + (bAnd .u64 a0 (6148914691236517205:Int)))) (2:Int)) (3689348814741910323:Int)) + (bAnd .u64 (u64.wrap ((bAnd .u64 (iShr .u64 a0 (1:Int)) (6148914691236517205:Int)) + (bAnd .u64 a0 (6148914691236517205:Int)))) (3689348814741910323:Int)))) (4:Int)) + (u64.wrap ((bAnd .u64 (iShr .u64 (u64.wrap ((bAnd .u64 (iShr .u64 a0 (1:Int)) (6148914691236517205:Int)) + (bAnd .u64 a0 (6148914691236517205:Int)))) (2:Int)) (3689348814741910323:Int)) + (bAnd .u64 (u64.wrap ((bAnd .u64 (iShr .u64 a0 (1:Int)) (6148914691236517205:Int)) + (bAnd .u64 a0 (6148914691236517205:Int)))) (3689348814741910323:Int)))))) (1085102592571150095:Int)) + (iShr .u64 (bAnd .u64 (u64.wrap ((iShr .u64 (u64.wrap ((bAnd .u64 (iShr .u64 (u64.wrap ((bAnd .u64 (iShr .u64 a0 (1:Int)) (6148914691236517205:Int)) + (bAnd .u64 a0 (6148914691236517205:Int)))) (2:Int)) (3689348814741910323:Int)) + (bAnd .u64 (u64.wrap ((bAnd .u64 (iShr .u64 a0 (1:Int)) (6148914691236517205:Int)) + (bAnd .u64 a0 (6148914691236517205:Int)))) (3689348814741910323:Int)))) (4:Int)) + (u64.wrap ((bAnd .u64 (iShr .u64 (u64.wrap ((bAnd .u64 (iShr .u64 a0 (1:Int)) (6148914691236517205:Int)) + (bAnd .u64 a0 (6148914691236517205:Int)))) (2:Int)) (3689348814741910323:Int)) + (bAnd .u64 (u64.wrap ((bAnd .u64 (iShr .u64 a0 (1:Int)) (6148914691236517205:Int)) + (bAnd .u64 a0 (6148914691236517205:Int)))) (3689348814741910323:Int)))))) (1085102592571150095:Int)) (8:Int)))) + (iShr .u64 (u64.wrap ((bAnd .u64 (u64.wrap ((iShr .u64 (u64.wrap ((bAnd .u64 (iShr .u64 (u64.wrap ((bAnd .u64 (iShr .u64 a0 (1:Int)) (6148914691236517205:Int)) + (bAnd .u64 a0 (6148914691236517205:Int)))) (2:Int)) (3689348814741910323:Int)) + (bAnd .u64 (u64.wrap ((bAnd .u64 (iShr .u64 a0 (1:Int)) (6148914691236517205:Int)) + (bAnd .u64 a0 (6148914691236517205:Int)))) (3689348814741910323:Int)))) (4:Int)) + (u64.wrap ((bAnd .u64 (iShr .u64 (u64.wrap ((bAnd .u64 (iShr .u64 a0 (1:Int)) (6148914691236517205:Int)) + (bAnd .u64 a0 (6148914691236517205:Int)))) (2:Int)) (3689348814741910323:Int)) + (bAnd .u64 (u64.wrap ((bAnd .u64 (iShr .u64 a0 (1:Int)) (6148914691236517205:Int)) + (bAnd .u64 a0 (6148914691236517205:Int)))) (3689348814741910323:Int)))))) (1085102592571150095:Int)) + (iShr .u64 (bAnd .u64 (u64.wrap ((iShr .u64 (u64.wrap ((bAnd .u64 (iShr .u64 (u64.wrap ((bAnd .u64 (iShr .u64 a0 (1:Int)) (6148914691236517205:Int)) + (bAnd .u64 a0 (6148914691236517205:Int)))) (2:Int)) (3689348814741910323:Int)) + (bAnd .u64 (u64.wrap ((bAnd .u64 (iShr .u64 a0 (1:Int)) (6148914691236517205:Int)) + (bAnd .u64 a0 (6148914691236517205:Int)))) (3689348814741910323:Int)))) (4:Int)) + (u64.wrap ((bAnd .u64 (iShr .u64 (u64.wrap ((bAnd .u64 (iShr .u64 a0 (1:Int)) (6148914691236517205:Int)) + (bAnd .u64 a0 (6148914691236517205:Int)))) (2:Int)) (3689348814741910323:Int)) + (bAnd .u64 (u64.wrap ((bAnd .u64 (iShr .u64 a0 (1:Int)) (6148914691236517205:Int)) + (bAnd .u64 a0 (6148914691236517205:Int)))) (3689348814741910323:Int)))))) (1085102592571150095:Int)) (8:Int)))) (16:Int)))) + (iShr .u64 (u64.wrap ((u64.wrap ((bAnd .u64 (u64.wrap ((iShr .u64 (u64.wrap ((bAnd .u64 (iShr .u64 (u64.wrap ((bAnd .u64 (iShr .u64 a0 (1:Int)) (6148914691236517205:Int)) + (bAnd .u64 a0 (6148914691236517205:Int)))) (2:Int)) (3689348814741910323:Int)) + (bAnd .u64 (u64.wrap ((bAnd .u64 (iShr .u64 a0 (1:Int)) (6148914691236517205:Int)) + (bAnd .u64 a0 (6148914691236517205:Int)))) (3689348814741910323:Int)))) (4:Int)) + (u64.wrap ((bAnd .u64 (iShr .u64 (u64.wrap ((bAnd .u64 (iShr .u64 a0 (1:Int)) (6148914691236517205:Int)) + (bAnd .u64 a0 (6148914691236517205:Int)))) (2:Int)) (3689348814741910323:Int)) + (bAnd .u64 (u64.wrap ((bAnd .u64 (iShr .u64 a0 (1:Int)) (6148914691236517205:Int)) + (bAnd .u64 a0 (6148914691236517205:Int)))) (3689348814741910323:Int)))))) (1085102592571150095:Int)) + (iShr .u64 (bAnd .u64 (u64.wrap ((iShr .u64 (u64.wrap ((bAnd .u64 (iShr .u64 (u64.wrap ((bAnd .u64 (iShr .u64 a0 (1:Int)) (6148914691236517205:Int)) + (bAnd .u64 a0 (6148914691236517205:Int)))) (2:Int)) (3689348814741910323:Int)) + (bAnd .u64 (u64.wrap ((bAnd .u64 (iShr .u64 a0 (1:Int)) (6148914691236517205:Int)) + (bAnd .u64 a0 (6148914691236517205:Int)))) (3689348814741910323:Int)))) (4:Int)) + (u64.wrap ((bAnd .u64 (iShr .u64 (u64.wrap ((bAnd .u64 (iShr .u64 a0 (1:Int)) (6148914691236517205:Int)) + (bAnd .u64 a0 (6148914691236517205:Int)))) (2:Int)) (3689348814741910323:Int)) + (bAnd .u64 (u64.wrap ((bAnd .u64 (iShr .u64 a0 (1:Int)) (6148914691236517205:Int)) + (bAnd .u64 a0 (6148914691236517205:Int)))) (3689348814741910323:Int)))))) (1085102592571150095:Int)) (8:Int)))) + (iShr .u64 (u64.wrap ((bAnd .u64 (u64.wrap ((iShr .u64 (u64.wrap ((bAnd .u64 (iShr .u64 (u64.wrap ((bAnd .u64 (iShr .u64 a0 (1:Int)) (6148914691236517205:Int)) + (bAnd .u64 a0 (6148914691236517205:Int)))) (2:Int)) (3689348814741910323:Int)) + (bAnd .u64 (u64.wrap ((bAnd .u64 (iShr .u64 a0 (1:Int)) (6148914691236517205:Int)) + (bAnd .u64 a0 (6148914691236517205:Int)))) (3689348814741910323:Int)))) (4:Int)) + (u64.wrap ((bAnd .u64 (iShr .u64 (u64.wrap ((bAnd .u64 (iShr .u64 a0 (1:Int)) (6148914691236517205:Int)) + (bAnd .u64 a0 (6148914691236517205:Int)))) (2:Int)) (3689348814741910323:Int)) + (bAnd .u64 (u64.wrap ((bAnd .u64 (iShr .u64 a0 (1:Int)) (6148914691236517205:Int)) + (bAnd .u64 a0 (6148914691236517205:Int)))) (3689348814741910323:Int)))))) (1085102592571150095:Int)) + (iShr .u64 (bAnd .u64 (u64.wrap ((iShr .u64 (u64.wrap ((bAnd .u64 (iShr .u64 (u64.wrap ((bAnd .u64 (iShr .u64 a0 (1:Int)) (6148914691236517205:Int)) + (bAnd .u64 a0 (6148914691236517205:Int)))) (2:Int)) (3689348814741910323:Int)) + (bAnd .u64 (u64.wrap ((bAnd .u64 (iShr .u64 a0 (1:Int)) (6148914691236517205:Int)) + (bAnd .u64 a0 (6148914691236517205:Int)))) (3689348814741910323:Int)))) (4:Int)) + (u64.wrap ((bAnd .u64 (iShr .u64 (u64.wrap ((bAnd .u64 (iShr .u64 a0 (1:Int)) (6148914691236517205:Int)) + (bAnd .u64 a0 (6148914691236517205:Int)))) (2:Int)) (3689348814741910323:Int)) + (bAnd .u64 (u64.wrap ((bAnd .u64 (iShr .u64 a0 (1:Int)) (6148914691236517205:Int)) + (bAnd .u64 a0 (6148914691236517205:Int)))) (3689348814741910323:Int)))))) (1085102592571150095:Int)) (8:Int)))) (16:Int)))) (32:Int))))) (127:Int))) z z z (wv (.int .i64 (bAnd .i64 (i64.wrap (u64.wrap ((u64.wrap ((u64.wrap ((bAnd .u64 (u64.wrap ((iShr .u64 (u64.wrap ((bAnd .u64 (iShr .u64 (u64.wrap ((bAnd .u64 (iShr .u64 a0 (1:Int)) (6148914691236517205:Int)) + (bAnd .u64 a0 (6148914691236517205:Int)))) (2:Int)) (3689348814741910323:Int)) + (bAnd .u64 (u64.wrap ((bAnd .u64 (iShr .u64 a0 (1:Int)) (6148914691236517205:Int)) + (bAnd .u64 a0 (6148914691236517205:Int)))) (3689348814741910323:Int)))) (4:Int)) + (u64.wrap ((bAnd .u64 (iShr .u64 (u64.wrap ((bAnd .u64 (iShr .u64 a0 (1:Int)) (6148914691236517205:Int)) + (bAnd .u64 a0 (6148914691236517205:Int)))) (2:Int)) (3689348814741910323:Int)) + (bAnd .u64 (u64.wrap ((bAnd .u64 (iShr .u64 a0 (1:Int)) (6148914691236517205:Int)) + (bAnd .u64 a0 (6148914691236517205:Int)))) (3689348814741910323:Int)))))) (1085102592571150095:Int)) + (iShr .u64 (bAnd .u64 (u64.wrap ((iShr .u64 (u64.wrap ((bAnd .u64 (iShr .u64 (u64.wrap ((bAnd .u64 (iShr .u64 a0 (1:Int)) (6148914691236517205:Int)) + (bAnd .u64 a0 (6148914691236517205:Int)))) (2:Int)) (3689348814741910323:Int)) + (bAnd .u64 (u64.wrap ((bAnd .u64 (iShr .u64 a0 (1:Int)) (6148914691236517205:Int)) + (bAnd .u64 a0 (6148914691236517205:Int)))) (3689348814741910323:Int)))) (4:Int)) + (u64.wrap ((bAnd .u64 (iShr .u64 (u64.wrap ((bAnd .u64 (iShr .u64 a0 (1:Int)) (6148914691236517205:Int)) + (bAnd .u64 a0 (6148914691236517205:Int)))) (2:Int)) (3689348814741910323:Int)) + (bAnd .u64 (u64.wrap ((bAnd .u64 (iShr .u64 a0 (1:Int)) (6148914691236517205:Int)) + (bAnd .u64 a0 (6148914691236517205:Int)))) (3689348814741910323:Int)))))) (1085102592571150095:Int)) (8:Int)))) + (iShr .u64 (u64.wrap ((bAnd .u64 (u64.wrap ((iShr .u64 (u64.wrap ((bAnd .u64 (iShr .u64 (u64.wrap ((bAnd .u64 (iShr .u64 a0 (1:Int)) (6148914691236517205:Int)) + (bAnd .u64 a0 (6148914691236517205:Int)))) (2:Int)) (3689348814741910323:Int)) + (bAnd .u64 (u64.wrap ((bAnd .u64 (iShr .u64 a0 (1:Int)) (6148914691236517205:Int)) + (bAnd .u64 a0 (6148914691236517205:Int)))) (3689348814741910323:Int)))) (4:Int)) + (u64.wrap ((bAnd .u64 (iShr .u64 (u64.wrap ((bAnd .u64 (iShr .u64 a0 (1:Int)) (6148914691236517205:Int)) + (bAnd .u64 a0 (6148914691236517205:Int)))) (2:Int)) (3689348814741910323:Int)) + (bAnd .u64 (u64.wrap ((bAnd .u64 (iShr .u64 a0 (1:Int)) (6148914691236517205:Int)) + (bAnd .u64 a0 (6148914691236517205:Int)))) (3689348814741910323:Int)))))) (1085102592571150095:Int)) + (iShr .u64 (bAnd .u64 (u64.wrap ((iShr .u64 (u64.wrap ((bAnd .u64 (iShr .u64 (u64.wrap ((bAnd .u64 (iShr .u64 a0 (1:Int)) (6148914691236517205:Int)) + (bAnd .u64 a0 (6148914691236517205:Int)))) (2:Int)) (3689348814741910323:Int)) + (bAnd .u64 (u64.wrap ((bAnd .u64 (iShr .u64 a0 (1:Int)) (6148914691236517205:Int)) + (bAnd .u64 a0 (6148914691236517205:Int)))) (3689348814741910323:Int)))) (4:Int)) + (u64.wrap ((bAnd .u64 (iShr .u64 (u64.wrap ((bAnd .u64 (iShr .u64 a0 (1:Int)) (6148914691236517205:Int)) + (bAnd .u64 a0 (6148914691236517205:Int)))) (2:Int)) (3689348814741910323:Int)) + (bAnd .u64 (u64.wrap ((bAnd .u64 (iShr .u64 a0 (1:Int)) (6148914691236517205:Int)) + (bAnd .u64 a0 (6148914691236517205:Int)))) (3689348814741910323:Int)))))) (1085102592571150095:Int)) (8:Int)))) (16:Int)))) + (iShr .u64 (u64.wrap ((u64.wrap ((bAnd .u64 (u64.wrap ((iShr .u64 (u64.wrap ((bAnd .u64 (iShr .u64 (u64.wrap ((bAnd .u64 (iShr .u64 a0 (1:Int)) (6148914691236517205:Int)) + (bAnd .u64 a0 (6148914691236517205:Int)))) (2:Int)) (3689348814741910323:Int)) + (bAnd .u64 (u64.wrap ((bAnd .u64 (iShr .u64 a0 (1:Int)) (6148914691236517205:Int)) + (bAnd .u64 a0 (6148914691236517205:Int)))) (3689348814741910323:Int)))) (4:Int)) + (u64.wrap ((bAnd .u64 (iShr .u64 (u64.wrap ((bAnd .u64 (iShr .u64 a0 (1:Int)) (6148914691236517205:Int)) + (bAnd .u64 a0 (6148914691236517205:Int)))) (2:Int)) (3689348814741910323:Int)) + (bAnd .u64 (u64.wrap ((bAnd .u64 (iShr .u64 a0 (1:Int)) (6148914691236517205:Int)) + (bAnd .u64 a0 (6148914691236517205:Int)))) (3689348814741910323:Int)))))) (1085102592571150095:Int)) + (iShr .u64 (bAnd .u64 (u64.wrap ((iShr .u64 (u64.wrap ((bAnd .u64 (iShr .u64 (u64.wrap ((bAnd .u64 (iShr .u64 a0 (1:Int)) (6148914691236517205:Int)) + (bAnd .u64 a0 (6148914691236517205:Int)))) (2:Int)) (3689348814741910323:Int)) + (bAnd .u64 (u64.wrap ((bAnd .u64 (iShr .u64 a0 (1:Int)) (6148914691236517205:Int)) + (bAnd .u64 a0 (6148914691236517205:Int)))) (3689348814741910323:Int)))) (4:Int)) + (u64.wrap ((bAnd .u64 (iShr .u64 (u64.wrap ((bAnd .u64 (iShr .u64 a0 (1:Int)) (6148914691236517205:Int)) + (bAnd .u64 a0 (6148914691236517205:Int)))) (2:Int)) (3689348814741910323:Int)) + (bAnd .u64 (u64.wrap ((bAnd .u64 (iShr .u64 a0 (1:Int)) (6148914691236517205:Int)) + (bAnd .u64 a0 (6148914691236517205:Int)))) (3689348814741910323:Int)))))) (1085102592571150095:Int)) (8:Int)))) + (iShr .u64 (u64.wrap ((bAnd .u64 (u64.wrap ((iShr .u64 (u64.wrap ((bAnd .u64 (iShr .u64 (u64.wrap ((bAnd .u64 (iShr .u64 a0 (1:Int)) (6148914691236517205:Int)) + (bAnd .u64 a0 (6148914691236517205:Int)))) (2:Int)) (3689348814741910323:Int)) + (bAnd .u64 (u64.wrap ((bAnd .u64 (iShr .u64 a0 (1:Int)) (6148914691236517205:Int)) + (bAnd .u64 a0 (6148914691236517205:Int)))) (3689348814741910323:Int)))) (4:Int)) + (u64.wrap ((bAnd .u64 (iShr .u64 (u64.wrap ((bAnd .u64 (iShr .u64 a0 (1:Int)) (6148914691236517205:Int)) + (bAnd .u64 a0 (6148914691236517205:Int)))) (2:Int)) (3689348814741910323:Int)) + (bAnd .u64 (u64.wrap ((bAnd .u64 (iShr .u64 a0 (1:Int)) (6148914691236517205:Int)) + (bAnd .u64 a0 (6148914691236517205:Int)))) (3689348814741910323:Int)))))) (1085102592571150095:Int)) + (iShr .u64 (bAnd .u64 (u64.wrap ((iShr .u64 (u64.wrap ((bAnd .u64 (iShr .u64 (u64.wrap ((bAnd .u64 (iShr .u64 a0 (1:Int)) (6148914691236517205:Int)) + (bAnd .u64 a0 (6148914691236517205:Int)))) (2:Int)) (3689348814741910323:Int)) + (bAnd .u64 (u64.wrap ((bAnd .u64 (iShr .u64 a0 (1:Int)) (6148914691236517205:Int)) + (bAnd .u64 a0 (6148914691236517205:Int)))) (3689348814741910323:Int)))) (4:Int)) + (u64.wrap ((bAnd .u64 (iShr .u64 (u64.wrap ((bAnd .u64 (iShr .u64 a0 (1:Int)) (6148914691236517205:Int)) + (bAnd .u64 a0 (6148914691236517205:Int)))) (2:Int)) (3689348814741910323:Int)) + (bAnd .u64 (u64.wrap ((bAnd .u64 (iShr .u64 a0 (1:Int)) (6148914691236517205:Int)) + (bAnd .u64 a0 (6148914691236517205:Int)))) (3689348814741910323:Int)))))) (1085102592571150095:Int)) (8:Int)))) (16:Int)))) (32:Int))))) (127:Int))) z z z (wl_nil (tn (wp_ret ?_))))))))))))))
 obtain rfl := some_inj hm
 refine post_ret (vs := [I6 (bAnd .i64 (i64.wrap (u64.wrap ((u64.wrap ((u64.wrap ((bAnd .u64 (u64.wrap ((iShr .u64 (u64.wrap ((bAnd .u64 (iShr .u64 (u64.wrap ((bAnd .u64 (iShr .u64 a0 (1:Int)) (6148914691236517205:Int)) + (bAnd .u64 a0 (6148914691236517205:Int)))) (2:Int)) (3689348814741910323:Int)) + (bAnd .u64 (u64.wrap ((bAnd .u64 (iShr .u64 a0 (1:Int)) (6148914691236517205:Int)) + (bAnd .u64 a0 (6148914691236517205:Int)))) (3689348814741910323:Int)))) (4:Int)) + (u64.wrap ((bAnd .u64 (iShr .u64 (u64.wrap ((bAnd .u64 (iShr .u64 a0 (1:Int)) (6148914691236517205:Int)) + (bAnd .u64 a0 (6148914691236517205:Int)))) (2:Int)) (3689348814741910323:Int)) + (bAnd .u64 (u64.wrap ((bAnd .u64 (iShr .u64 a0 (1:Int)) (6148914691236517205:Int)) + (bAnd .u64 a0 (6148914691236517205:Int)))) (3689348814741910323:Int)))))) (1085102592571150095:Int)) + (iShr .u64 (bAnd .u64 (u64.wrap ((iShr .u64 (u64.wrap ((bAnd .u64 (iShr .u64 (u64.wrap ((bAnd .u64 (iShr .u64 a0 (1:Int)) (6148914691236517205:Int)) + (bAnd .u64 a0 (6148914691236517205:Int)))) (2:Int)) (3689348814741910323:Int)) + (bAnd .u64 (u64.wrap ((bAnd .u64 (iShr .u64 a0 (1:Int)) (6148914691236517205:Int)) + (bAnd .u64 a0 (6148914691236517205:Int)))) (3689348814741910323:Int)))) (4:Int)) + (u64.wrap ((bAnd .u64 (iShr .u64 (u64.wrap ((bAnd .u64 (iShr .u64 a0 (1:Int)) (6148914691236517205:Int)) + (bAnd .u64 a0 (6148914691236517205:Int)))) (2:Int)) (3689348814741910323:Int)) + (bAnd .u64 (u64.wrap ((bAnd .u64 (iShr .u64 a0 (1:Int)) (6148914691236517205:Int)) + (bAnd .u64 a0 (6148914691236517205:Int)))) (3689348814741910323:Int)))))) (1085102592571150095:Int)) (8:Int)))) + (iShr .u64 (u64.wrap ((bAnd .u64 (u64.wrap ((iShr .u64 (u64.wrap ((bAnd .u64 (iShr .u64 (u64.wrap ((bAnd .u64 (iShr .u64 a0 (1:Int)) (6148914691236517205:Int)) + (bAnd .u64 a0 (6148914691236517205:Int)))) (2:Int)) (3689348814741910323:Int)) + (bAnd .u64 (u64.wrap ((bAnd .u64 (iShr .u64 a0 (1:Int)) (6148914691236517205:Int)) + (bAnd .u64 a0 (6148914691236517205:Int)))) (3689348814741910323:Int)))) (4:Int)) + (u64.wrap ((bAnd .u64 (iShr .u64 (u64.wrap ((bAnd .u64 (iShr .u64 a0 (1:Int)) (6148914691236517205:Int)) + (bAnd .u64 a0 (6148914691236517205:Int)))) (2:Int)) (3689348814741910323:Int)) + (bAnd .u64 (u64.wrap ((bAnd .u64 (iShr .u64 a0 (1:Int)) (6148914691236517205:Int)) + (bAnd .u64 a0 (6148914691236517205:Int)))) (3689348814741910323:Int)))))) (1085102592571150095:Int)) + (iShr .u64 (bAnd .u64 (u64.wrap ((iShr .u64 (u64.wrap ((bAnd .u64 (iShr .u64 (u64.wrap ((bAnd .u64 (iShr .u64 a0 (1:Int)) (6148914691236517205:Int)) + (bAnd .u64 a0 (6148914691236517205:Int)))) (2:Int)) (3689348814741910323:Int)) + (bAnd .u64 (u64.wrap ((bAnd .u64 (iShr .u64 a0 (1:Int)) (6148914691236517205:Int)) + (bAnd .u64 a0 (6148914691236517205:Int)))) (3689348814741910323:Int)))) (4:Int)) + (u64.wrap ((bAnd .u64 (iShr .u64 (u64.wrap ((bAnd .u64 (iShr .u64 a0 (1:Int)) (6148914691236517205:Int)) + (bAnd .u64 a0 (6148914691236517205:Int)))) (2:Int)) (3689348814741910323:Int)) + (bAnd .u64 (u64.wrap ((bAnd .u64 (iShr .u64 a0 (1:Int)) (6148914691236517205:Int)) + (bAnd .u64 a0 (6148914691236517205:Int)))) (3689348814741910323:Int)))))) (1085102592571150095:Int)) (8:Int)))) (16:Int)))) + (iShr .u64 (u64.wrap ((u64.wrap ((bAnd .u64 (u64.wrap ((iShr .u64 (u64.wrap ((bAnd .u64 (iShr .u64 (u64.wrap ((bAnd .u64 (iShr .u64 a0 (1:Int)) (6148914691236517205:Int)) + (bAnd .u64 a0 (6148914691236517205:Int)))) (2:Int)) (3689348814741910323:Int)) + (bAnd .u64 (u64.wrap ((bAnd .u64 (iShr .u64 a0 (1:Int)) (6148914691236517205:Int)) + (bAnd .u64 a0 (6148914691236517205:Int)))) (3689348814741910323:Int)))) (4:Int)) + (u64.wrap ((bAnd .u64 (iShr .u64 (u64.wrap ((bAnd .u64 (iShr .u64 a0 (1:Int)) (6148914691236517205:Int)) + (bAnd .u64 a0 (6148914691236517205:Int)))) (2:Int)) (3689348814741910323:Int)) + (bAnd .u64 (u64.wrap ((bAnd .u64 (iShr .u64 a0 (1:Int)) (6148914691236517205:Int)) + (bAnd .u64 a0 (6148914691236517205:Int)))) (3689348814741910323:Int)))))) (1085102592571150095:Int)) + (iShr .u64 (bAnd .u64 (u64.wrap ((iShr .u64 (u64.wrap ((bAnd .u64 (iShr .u64 (u64.wrap ((bAnd .u64 (iShr .u64 a0 (1:Int)) (6148914691236517205:Int)) + (bAnd .u64 a0 (6148914691236517205:Int)))) (2:Int)) (3689348814741910323:Int)) + (bAnd .u64 (u64.wrap ((bAnd .u64 (iShr .u64 a0 (1:Int)) (6148914691236517205:Int)) + (bAnd .u64 a0 (6148914691236517205:Int)))) (3689348814741910323:Int)))) (4:Int)) + (u64.wrap ((bAnd .u64 (iShr .u64 (u64.wrap ((bAnd .u64 (iShr .u64 a0 (1:Int)) (6148914691236517205:Int)) + (bAnd .u64 a0 (6148914691236517205:Int)))) (2:Int)) (3689348814741910323:Int)) + (bAnd .u64 (u64.wrap ((bAnd .u64 (iShr .u64 a0 (1:Int)) (6148914691236517205:Int)) + (bAnd .u64 a0 (6148914691236517205:Int)))) (3689348814741910323:Int)))))) (1085102592571150095:Int)) (8:Int)))) + (iShr .u64 (u64.wrap ((bAnd .u64 (u64.wrap ((iShr .u64 (u64.wrap ((bAnd .u64 (iShr .u64 (u64.wrap ((bAnd .u64 (iShr .u64 a0 (1:Int)) (6148914691236517205:Int)) + (bAnd .u64 a0 (6148914691236517205:Int)))) (2:Int)) (3689348814741910323:Int)) + (bAnd .u64 (u64.wrap ((bAnd .u64 (iShr .u64 a0 (1:Int)) (6148914691236517205:Int)) + (bAnd .u64 a0 (6148914691236517205:Int)))) (3689348814741910323:Int)))) (4:Int)) + (u64.wrap ((bAnd .u64 (iShr .u64 (u64.wrap ((bAnd .u64 (iShr .u64 a0 (1:Int)) (6148914691236517205:Int)) + (bAnd .u64 a0 (6148914691236517205:Int)))) (2:Int)) (3689348814741910323:Int)) + (bAnd .u64 (u64.wrap ((bAnd .u64 (iShr .u64 a0 (1:Int)) (6148914691236517205:Int)) + (bAnd .u64 a0 (6148914691236517205:Int)))) (3689348814741910323:Int)))))) (1085102592571150095:Int)) + (iShr .u64 (bAnd .u64 (u64.wrap ((iShr .u64 (u64.wrap ((bAnd .u64 (iShr .u64 (u64.wrap ((bAnd .u64 (iShr .u64 a0 (1:Int)) (6148914691236517205:Int)) + (bAnd .u64 a0 (6148914691236517205:Int)))) (2:Int)) (3689348814741910323:Int)) + (bAnd .u64 (u64.wrap ((bAnd .u64 (iShr .u64 a0 (1:Int)) (6148914691236517205:Int)) + (bAnd .u64 a0 (6148914691236517205:Int)))) (3689348814741910323:Int)))) (4:Int)) + (u64.wrap ((bAnd .u64 (iShr .u64 (u64.wrap ((bAnd .u64 (iShr .u64 a0 (1:Int)) (6148914691236517205:Int)) + (bAnd .u64 a0 (6148914691236517205:Int)))) (2:Int)) (3689348814741910323:Int)) + (bAnd .u64 (u64.wrap ((bAnd .u64 (iShr .u64 a0 (1:Int)) (6148914691236517205:Int)) + (bAnd .u64 a0 (6148914691236517205:Int)))) (3689348814741910323:Int)))))) (1085102592571150095:Int)) (8:Int)))) (16:Int)))) (32:Int))))) (127:Int))]) results32 (rvs_cons (rv_tmp z) rvs_nil) ?_
 exact ⟨z, hst.keep0⟩
}

theorem cmp_isNaN_int_ref {w0 w : World} {I : HL} {R : SP} {a0 : Int}  (hst : St w0 w I [] R) {r : (Bool)} (hm : cmp_isNaN_int a0 = some r) :
  Calls prog 57 #[I6 a0] w fun e w' => e = .returned (.bool r) ∧ St w0 w' I [] R := by {
 unfold cmp_isNaN_int at hm
 refine calls_start (args := [I6 a0]) func57 z ntmps57 (Nat.le_of_ble_eq_true z) ?_
 refine wp_seq (wrl (wv (.bool false) z z z (wl_nil (tn (wp_seq (wrl (wv (.int .i64 a0) z z z (wv (.int .i64 a0) z z z (wv (.bool (a0 != a0)) z z z (wv (.bool (a0 != a0)) z z z (wl_nil (tn (wp_ret ?_)))))))))))))
 obtain rfl := some_inj hm
 refine post_ret (vs := [.bool (a0 != a0)]) results57 (rvs_cons (rv_tmp z) rvs_nil) ?_
 exact ⟨z, hst.keep0⟩
}

theorem cmp_Compare_int_ref {w0 w : World} {I : HL} {R : SP} {a0 : Int} {a1 : Int}  (hst : St w0 w I [] R) {r : (Int)} (hm : cmp_Compare_int a0 a1 = some r) :
  Calls prog 49 #[I6 a0, I6 a1] w fun e w' => e = .returned (.int .i64 r) ∧ St w0 w' I [] R := by {
 unfold cmp_Compare_int at hm
 refine calls_start (args := [I6 a0, I6 a1]) func49 z ntmps49 (Nat.le_of_ble_eq_true z) ?_
 refine wp_seq (wrl (wv (.int .i64 (0:Int)) z z z (wl_nil (tn (wp_seq (wrl (wv (.int .i64 a0) z z z ?_)))))))
 obtain ⟨t2459, ht2460, hm⟩ := bind_some hm
 refine wc call57 [I6 a0] z z z ?_
 refine (cmp_isNaN_int_ref hst.to0 ht2460).mono ?_
 rintro _ w2461 ⟨rfl, hst⟩
 refine ⟨_, z, ?_⟩
 replace hst := hst.of0
 refine wv (.bool t2459) z z z (wl_nil (tn (wp_seq (wrl (wv (.int .i64 a1) z z z ?_)))))
 obtain ⟨t2464, ht2465, hm⟩ := bind_some hm
 refine wc call57 [I6 a1] z z z ?_
 refine (cmp_isNaN_int_ref hst.to0 ht2465).mono ?_
 rintro _ w2466 ⟨rfl, hst⟩
 refine ⟨_, z, ?_⟩
 replace hst := hst.of0
 refine wv (.bool t2464) z z z (wl_nil (tn (wp_seq (wp_seq (wrl (wv (.bool t2459) z z z (wl_nil (tn ?_))))))))
 refine bsplit t2459 (fun hc2469 => ?_) (fun hc2469 => ?_)
 {
 replace hm := bif_t hc2469 hm
 refine wp_ift (cvb hc2469) ?_
 refine wp_seq (wp_seq (wrl (wv (.bool t2464) z z z (wl_nil (tn ?_)))))
 refine bsplit t2464 (fun hc2470 => ?_) (fun hc2470 => ?_)
 {
 replace hm := bif_t hc2470 hm
 refine wp_ift (cvb hc2470) ?_
 refine wp_seq (wrl (wv (.int .i64 (0:Int)) z z z (wl_nil (tn (wp_ret (then_r (then_r ?_)))))))
 obtain rfl := some_inj hm
 refine post_ret (vs := [Zi]) results49 (rvs_cons (rv_tmp z) rvs_nil) ?_
 exact ⟨z, hst.keep0⟩
}
 {
 replace hm := bif_f hc2470 hm
 refine wp_iff (cvb hc2470) ?_
 refine wp_skip (tn (wp_seq (wrl ?_)))
 refine wv (.int .i64 ((-1):Int)) z z z (wl_nil (tn (wp_ret (then_r ?_))))
 obtain rfl := some_inj hm
 refine post_ret (vs := [I6 ((-1):Int)]) results49 (rvs_cons (rv_tmp z) rvs_nil) ?_
 exact ⟨z, hst.keep0⟩
}
}
 {
 replace hm := bif_f hc2469 hm
 refine wp_iff (cvb hc2469) ?_
 refine wp_skip (tn (wp_seq (wp_seq (wrl ?_))))
 refine wv (.bool t2464) z z z (wl_nil (tn ?_))
 refine bsplit t2464 (fun hc2471 => ?_) (fun hc2471 => ?_)
 {
 replace hm := bif_t hc2471 hm
 refine wp_ift (cvb hc2471) ?_
 refine wp_seq (wrl (wv (.int .i64 (1:Int)) z z z (wl_nil (tn (wp_ret (then_r ?_))))))
 obtain rfl := some_inj hm
 refine post_ret (vs := [I6 (1:Int)]) results49 (rvs_cons (rv_tmp z) rvs_nil) ?_
 exact ⟨z, hst.keep0⟩
}
 {
 replace hm := bif_f hc2471 hm
 refine wp_iff (cvb hc2471) ?_
 refine wp_skip (tn (wp_seq (wp_seq (wrl ?_))))
 refine wv (.int .i64 a0) z z z (wv (.int .i64 a1) z z z (wv (.bool (decide (a0 < a1))) z z z (wl_nil (tn ?_))))
 refine bsplit (decide (a0 < a1)) (fun hc2472 => ?_) (fun hc2472 => ?_)
 {
 replace hm := bif_t hc2472 hm
 refine wp_ift (cvb hc2472) ?_
 refine wp_seq (wrl (wv (.int .i64 ((-1):Int)) z z z (wl_nil (tn (wp_ret (then_r ?_))))))
 obtain rfl := some_inj hm
 refine post_ret (vs := [I6 ((-1):Int)]) results49 (rvs_cons (rv_tmp z) rvs_nil) ?_
 exact ⟨z, hst.keep0⟩
}
 {
 replace hm := bif_f hc2472 hm
 refine wp_iff (cvb hc2472) ?_
 refine wp_skip (tn (wp_seq (wp_seq (wrl ?_))))
 refine wv (.int .i64 a0) z z z (wv (.int .i64 a1) z z z (wv (.bool (decide (a0 > a1))) z z z (wl_nil (tn ?_))))
 refine bsplit (decide (a0 > a1)) (fun hc2473 => ?_) (fun hc2473 => ?_)
 {
 replace hm := bif_t hc2473 hm
 refine wp_ift (cvb hc2473) ?_
 refine wp_seq (wrl (wv (.int .i64 (1:Int)) z z z (wl_nil (tn (wp_ret (then_r ?_))))))
 obtain rfl := some_inj hm
 refine post_ret (vs := [I6 (1:Int)]) results49 (rvs_cons (rv_tmp z) rvs_nil) ?_
 exact ⟨z, hst.keep0⟩
}
 {
 replace hm := bif_f hc2473 hm
 refine wp_iff (cvb hc2473) ?_
 refine wp_skip (tn (wp_seq (wrl ?_)))
 refine wv (.int .i64 (0:Int)) z z z (wl_nil (tn (wp_ret ?_)))
 obtain rfl := some_inj hm
 refine post_ret (vs := [Zi]) results49 (rvs_cons (rv_tmp z) rvs_nil) ?_
 exact ⟨z, hst.keep0⟩
}
}
}
}
}

end Go.Proofs.Ytkjkbfaaigmmcaa
