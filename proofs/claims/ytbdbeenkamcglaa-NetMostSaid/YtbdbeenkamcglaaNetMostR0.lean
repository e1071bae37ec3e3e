/- The Go functions refine their models, part 0. -/
import Derived.Test.YtbdbeenkamcglaaNetMostT
set_option linter.unusedVariables false
set_option linter.unusedSimpArgs false
set_option maxRecDepth 100000
set_option maxHeartbeats 4000000
namespace Go.Proofs.Ytbdbeenkamcglaa
open Go Go.V
open _root_.Go.Proofs.Try IntKind
attribute [local irreducible] wpList Code.wp wpQuiet Calls bodyPost Oper.wp wpS Nx PendOK YieldsIn
theorem ref03_Lattices_ref {w0 w : World} {I : HL} {R : SP} {a0 : Int}  (hst : St w0 w I [] R) {r : ((List Int))} (hm : ref03_Lattices a0 = some r) :
  Calls prog 18 #[U1 a0] w fun e w' => ∃ (q0_0 : Value), e = .returned (q0_0) ∧ St w0 w' I [ownS (tyInt .u64) q0_0 r] R := by {
 unfold ref03_Lattices at hm
 refine calls_start (args := [U1 a0]) func18 z ntmps18 (Nat.le_of_ble_eq_true z) ?_
 refine wp_seq (wrl (wv ((.slice none 0 0)) z z z (wl_nil (tn (wp_seq (wp_seq (wrl (wv (.int .u8 a0) z z z (wv (.int .u8 (Int.tmod a0 (5:Int))) z z (x_rem (by decide) z z) (wl_nil (tn (wp_block (wp_seq (wrl (wv (.bool ((Int.tmod a0 (5:Int)) == (0:Int))) z z z (wv (.bool ((Int.tmod a0 (5:Int)) == (0:Int))) z z z (wl_nil (tn ?_))))))))))))))))))
 refine bsplit ((Int.tmod a0 (5:Int)) == (0:Int)) (fun hc197 => ?_) (fun hc197 => ?_)
 {
 replace hm := bif_t hc197 hm
 refine wp_ift (cvb hc197) ?_
 refine wp_seq (wrl ?_)
 obtain ⟨b198, w199, ew200, eb201, hst⟩ := hst.lits (E := (tyInt .u64)) (xs := [(3:Int), (2:Int)]) [[U6 (3:Int)], [U6 (2:Int)]] 66 2 z (Reps.cons z (Reps.cons z Reps.nil))
 refine wl_run (v := (.slice (some ⟨b198, 0, none⟩) 2 2)) (w' := w199) z z (x_als (by kernel_rfl) ew200 eb201) ?_
 refine wv ((.slice (some ⟨b198, 0, none⟩) 2 2)) z z z (wl_nil (tn (wp_ret (blk_r (then_r ?_)))))
 obtain rfl := some_inj hm
 refine post_ret (vs := [(.slice (some ⟨b198, 0, none⟩) 2 2)]) results18 (rvs_cons (rv_tmp z) rvs_nil) ?_
 exact ⟨(.slice (some ⟨b198, 0, none⟩) 2 2), z, hst.keep1⟩
}
 {
 replace hm := bif_f hc197 hm
 refine wp_iff (cvb hc197) ?_
 refine wp_seq (wrl (wv (.bool ((Int.tmod a0 (5:Int)) == (1:Int))) z z z (wv (.bool ((Int.tmod a0 (5:Int)) == (1:Int))) z z z (wl_nil (tn ?_)))))
 refine bsplit ((Int.tmod a0 (5:Int)) == (1:Int)) (fun hc203 => ?_) (fun hc203 => ?_)
 {
 replace hm := bif_t hc203 hm
 refine wp_ift (cvb hc203) ?_
 refine wp_seq (wrl ?_)
 obtain ⟨b204, w205, ew206, eb207, hst⟩ := hst.lits (E := (tyInt .u64)) (xs := [(1:Int)]) [[U6 (1:Int)]] 66 1 z (Reps.cons z Reps.nil)
 refine wl_run (v := (.slice (some ⟨b204, 0, none⟩) 1 1)) (w' := w205) z z (x_als (by kernel_rfl) ew206 eb207) ?_
 refine wv ((.slice (some ⟨b204, 0, none⟩) 1 1)) z z z (wl_nil (tn (wp_ret (blk_r (then_r ?_)))))
 obtain rfl := some_inj hm
 refine post_ret (vs := [(.slice (some ⟨b204, 0, none⟩) 1 1)]) results18 (rvs_cons (rv_tmp z) rvs_nil) ?_
 exact ⟨(.slice (some ⟨b204, 0, none⟩) 1 1), z, hst.keep1⟩
}
 {
 replace hm := bif_f hc203 hm
 refine wp_iff (cvb hc203) ?_
 refine wp_seq (wrl (wv (.bool ((Int.tmod a0 (5:Int)) == (2:Int))) z z z (wv (.bool ((Int.tmod a0 (5:Int)) == (2:Int))) z z z (wl_nil (tn ?_)))))
 refine bsplit ((Int.tmod a0 (5:Int)) == (2:Int)) (fun hc209 => ?_) (fun hc209 => ?_)
 {
 replace hm := bif_t hc209 hm
 refine wp_ift (cvb hc209) ?_
 refine wp_seq (wrl ?_)
 obtain ⟨b210, w211, ew212, eb213, hst⟩ := hst.lits (E := (tyInt .u64)) (xs := [(1:Int), (3:Int), (7:Int)]) [[U6 (1:Int)], [U6 (3:Int)], [U6 (7:Int)]] 66 3 z (Reps.cons z (Reps.cons z (Reps.cons z Reps.nil)))
 refine wl_run (v := (.slice (some ⟨b210, 0, none⟩) 3 3)) (w' := w211) z z (x_als (by kernel_rfl) ew212 eb213) ?_
 refine wv ((.slice (some ⟨b210, 0, none⟩) 3 3)) z z z (wl_nil (tn (wp_ret (blk_r (then_r ?_)))))
 obtain rfl := some_inj hm
 refine post_ret (vs := [(.slice (some ⟨b210, 0, none⟩) 3 3)]) results18 (rvs_cons (rv_tmp z) rvs_nil) ?_
 exact ⟨(.slice (some ⟨b210, 0, none⟩) 3 3), z, hst.keep1⟩
}
 {
 replace hm := bif_f hc209 hm
 refine wp_iff (cvb hc209) ?_
 refine wp_seq (wrl (wv (.bool ((Int.tmod a0 (5:Int)) == (3:Int))) z z z (wv (.bool ((Int.tmod a0 (5:Int)) == (3:Int))) z z z (wl_nil (tn ?_)))))
 refine bsplit ((Int.tmod a0 (5:Int)) == (3:Int)) (fun hc215 => ?_) (fun hc215 => ?_)
 {
 replace hm := bif_t hc215 hm
 refine wp_ift (cvb hc215) ?_
 refine wp_seq (wrl ?_)
 obtain ⟨b216, w217, ew218, eb219, hst⟩ := hst.lits (E := (tyInt .u64)) (xs := [(15:Int), (10:Int), (12:Int), (8:Int)]) [[U6 (15:Int)], [U6 (10:Int)], [U6 (12:Int)], [U6 (8:Int)]] 66 4 z (Reps.cons z (Reps.cons z (Reps.cons z (Reps.cons z Reps.nil))))
 refine wl_run (v := (.slice (some ⟨b216, 0, none⟩) 4 4)) (w' := w217) z z (x_als (by kernel_rfl) ew218 eb219) ?_
 refine wv ((.slice (some ⟨b216, 0, none⟩) 4 4)) z z z (wl_nil (tn (wp_ret (blk_r (then_r ?_)))))
 obtain rfl := some_inj hm
 refine post_ret (vs := [(.slice (some ⟨b216, 0, none⟩) 4 4)]) results18 (rvs_cons (rv_tmp z) rvs_nil) ?_
 exact ⟨(.slice (some ⟨b216, 0, none⟩) 4 4), z, hst.keep1⟩
}
 {
 replace hm := bif_f hc215 hm
 refine wp_iff (cvb hc215) ?_
 refine wp_skip (blk_n (tn (wp_seq (wrl ?_))))
 refine wv ((.slice none 0 0)) z z z (wl_nil (tn (wp_seq (wp_seq (wrl (wv (.int .i64 (0:Int)) z z z (wl_nil (tn (wp_block ?_)))))))))
 replace hst := hst.own_nil (tyInt .u64)
 obtain ⟨n340, hm⟩ := loopO_some hm
 refine wp_loop_n (fun n a w => ∃ (z335 : (List Int)) (z338 : Int) (v336 : Value) (σ339 : Nat → Value), loopN (ref03_Lattices_l0) n (z335, z338) = some r ∧ a = Fr 43 (upd (upd σ339 3 (v336)) 4 (.int .i64 z338)) ∧ St w0 w I [ownS (tyInt .u64) v336 z335] R) n340 ⟨[], (0:Int), Zs, _, hm, (fu 3 (.slice none 0 0) z (fu 4 (.int .i64 (0:Int)) z z)), hst⟩ ?_
 rintro n346 _ w341 ⟨z335, z338, v336, σ339, hm, rfl, hst⟩
 obtain ⟨n343, y344, rfl, hm, hx345⟩ := loopN_some hm
 dsimp only [ref03_Lattices_l0] at hm
 refine wp_seq (wp_seq (wrl (wv (.int .i64 z338) z z z (wv (.bool (decide (z338 < (8:Int)))) z z z (wl_nil (tn ?_))))))
 refine bsplit (decide (z338 < (8:Int))) (fun hc347 => ?_) (fun hc347 => ?_)
 {
 replace hm := bif_t hc347 hm
 refine wp_ift (cvb hc347) ?_
 refine wp_skip (tn (wp_seq (wp_block (wp_seq (wrl ?_)))))
 refine wv (.int .u64 (0:Int)) z z z (wl_nil (tn ?_))
 obtain ⟨y371, hm, hx372⟩ := bind_some hm
 refine wp_cut (fun a w => ∃ (z368 : Int) (σ369 : Nat → Value), (ref03_Lattices_j1 z335 z338) z368 = some y344 ∧ a = Fr 43 (upd (upd (upd σ369 3 (v336)) 4 (.int .i64 z338)) 5 (.int .u64 z368)) ∧ St w0 w I [ownS (tyInt .u64) v336 z335] R) ?_ ?_
 {
 refine wp_seq (wrl (wv (.int .i64 (0:Int)) z z z (wl_nil (tn (wp_block ?_)))))
 obtain ⟨n358, hm⟩ := loopO_some hm
 refine wp_loop_n (fun n a w => ∃ (z355 : Int) (z356 : Int) (σ357 : Nat → Value), loopN (ref03_Lattices_l2 z338) n (z355, z356) = some y371 ∧ a = Fr 43 (upd (upd (upd (upd σ357 3 (v336)) 4 (.int .i64 z338)) 5 (.int .u64 z355)) 6 (.int .i64 z356)) ∧ St w0 w I [ownS (tyInt .u64) v336 z335] R) n358 ⟨(0:Int), (0:Int), _, hm, (fu 3 v336 z (fu 4 (.int .i64 z338) z (fu 5 (.int .u64 (0:Int)) z (fu 6 (.int .i64 (0:Int)) z z)))), hst⟩ ?_
 rintro n364 _ w359 ⟨z355, z356, σ357, hm, rfl, hst⟩
 obtain ⟨n361, y362, rfl, hm, hx363⟩ := loopN_some hm
 dsimp only [ref03_Lattices_l2] at hm
 refine wp_seq (wp_seq (wrl (wv (.int .i64 z356) z z z (wv (.bool (decide (z356 < (8:Int)))) z z z (wl_nil (tn ?_))))))
 refine bsplit (decide (z356 < (8:Int))) (fun hc365 => ?_) (fun hc365 => ?_)
 {
 replace hm := bif_t hc365 hm
 refine wp_ift (cvb hc365) ?_
 refine wp_skip (tn (wp_seq (wp_block (wp_seq (wrl ?_)))))
 refine wv (.int .i64 z338) z z z (wv (.int .i64 z356) z z z (wv (.int .i64 (bAnd .i64 z338 z356)) z z z (wv (.int .i64 z338) z z z (wv (.bool ((bAnd .i64 z338 z356) == z338)) z z z (wl_nil (tn ?_))))))
 refine bsplit ((bAnd .i64 z338 z356) == z338) (fun hc366 => ?_) (fun hc366 => ?_)
 {
 replace hm := bif_t hc366 hm
 refine wp_ift (cvb hc366) ?_
 refine wrl (wv (.int .u64 z355) z z z (wv (.int .i64 z356) z z z ?_))
 obtain ⟨hg367, hm⟩ := gd_some hm
 refine wv (.int .u64 (iShl .u64 (1:Int) z356)) z z (x_shl (of_decide_eq_true hg367) z z) (wv (.int .u64 (bOr .u64 z355 (iShl .u64 (1:Int) z356))) z z z (wv (.int .u64 (bOr .u64 z355 (iShl .u64 (1:Int) z356))) z z z (wl_nil (blk_n (tn (wrl (wv (.int .i64 z356) z z z (wv (.int .i64 (i64.wrap (z356 + (1:Int)))) z z z (wv (.int .i64 (i64.wrap (z356 + (1:Int)))) z z z (wl_nil (tn ?_)))))))))))
 replace hst := hst.keep1
 obtain rfl := some_inj hm
 exact ⟨_, Nat.lt_succ_self _, (bOr .u64 z355 (iShl .u64 (1:Int) z356)), (i64.wrap (z356 + (1:Int))), _, hx363, (fu 3 v336 z (fu 4 (.int .i64 z338) z (fu 5 (.int .u64 (bOr .u64 z355 (iShl .u64 (1:Int) z356))) z (fu 6 (.int .i64 (i64.wrap (z356 + (1:Int)))) z z)))), hst⟩
}
 {
 replace hm := bif_f hc366 hm
 refine wp_iff (cvb hc366) ?_
 refine wp_skip (blk_n (tn (wrl ?_)))
 refine wv (.int .i64 z356) z z z (wv (.int .i64 (i64.wrap (z356 + (1:Int)))) z z z (wv (.int .i64 (i64.wrap (z356 + (1:Int)))) z z z (wl_nil (tn ?_))))
 replace hst := hst.keep1
 obtain rfl := some_inj hm
 exact ⟨_, Nat.lt_succ_self _, z355, (i64.wrap (z356 + (1:Int))), _, hx363, (fu 3 v336 z (fu 4 (.int .i64 z338) z (fu 5 (.int .u64 z355) z (fu 6 (.int .i64 (i64.wrap (z356 + (1:Int)))) z z)))), hst⟩
}
}
 {
 replace hm := bif_f hc365 hm
 refine wp_iff (cvb hc365) ?_
 refine wp_exit (then_x (then_x ?_))
 replace hm := inr_up hm hx363
 refine blk_x (tn ?_)
 replace hst := hst.keep1
 obtain rfl := some_inj hm
 exact ⟨z355, _, hx372, (fu 3 v336 z (fu 4 (.int .i64 z338) z (fu 5 (.int .u64 z355) z z))), hst⟩
}
}
 {
 clear hst
 rintro _ w373 ⟨z368, σ369, hm, rfl, hst⟩
 dsimp only [ref03_Lattices_j1] at hm
 refine wrl (wv (v336) z z z (wv (.int .u64 z368) z z z ?_))
 obtain ⟨b374, w375, ew376, eb377, hst⟩ := hst.lits (E := (tyInt .u64)) (xs := [z368]) [[U6 z368]] 66 1 z (Reps.cons z Reps.nil)
 refine wl_run (v := (.slice (some ⟨b374, 0, none⟩) 1 1)) (w' := w375) z z (x_als (by kernel_rfl) ew376 eb377) ?_
 obtain ⟨hg379, hm⟩ := gd_some hm
 replace hst := hst.pull1
 obtain ⟨v380, w381, hr382, hst⟩ := run_append elem_40 underlying40 hst hst.src1 (room_of hg379 z) 40
 refine wl_run (v := v380) (w' := w381) z z (x_append z z hr382) ?_
 refine wv (v380) z z z (wl_nil (blk_n (tn (wrl (wv (.int .i64 z338) z z z (wv (.int .i64 (i64.wrap (z338 + (1:Int)))) z z z (wv (.int .i64 (i64.wrap (z338 + (1:Int)))) z z z (wl_nil (tn ?_)))))))))
 replace hst := hst.keep1
 obtain rfl := some_inj hm
 exact ⟨_, Nat.lt_succ_self _, (z335 ++ ([z368])), (i64.wrap (z338 + (1:Int))), v380, _, hx345, (fu 3 v380 z (fu 4 (.int .i64 (i64.wrap (z338 + (1:Int)))) z z)), hst⟩
}
}
 {
 replace hm := bif_f hc347 hm
 refine wp_iff (cvb hc347) ?_
 refine wp_exit (then_x (then_x ?_))
 replace hm := inr_up hm hx345
 refine blk_x (tn (wp_seq (wrl ?_)))
 refine wv (v336) z z z (wv (v336) z z z (wl_nil (tn (wp_ret ?_))))
 obtain rfl := some_inj hm
 refine post_ret (vs := [v336]) results18 (rvs_cons (rv_tmp z) rvs_nil) ?_
 exact ⟨v336, z, hst.keep1⟩
}
}
}
}
}
}

theorem ref04_Small_ref {w0 w : World} {I : HL} {R : SP} {a0 : Int}  (hst : St w0 w I [] R) {r : (api_Config)} (hm : ref04_Small a0 = some r) :
  Calls prog 11 #[U1 a0] w fun e w' => ∃ (q0_0 : Value) (q0_1 : Value), e = .returned (.agg #[q0_0, I6 r.Nodes, q0_1, I6 r.Frame, I6 r.Depth, I6 r.Quota, I6 r.Wide, I6 r.Beat, I6 r.Elect]) ∧ St w0 w' I [ownS (tyInt .u64) q0_0 r.Up, ownS tyF64 q0_1 r.Cuts] R := by {
 unfold ref04_Small at hm
 refine calls_start (args := [U1 a0]) func11 z ntmps11 (Nat.le_of_ble_eq_true z) ?_
 refine wp_seq (wrl ?_)
 obtain ⟨b58, w59, ew60, eb61, hst⟩ := hst.box [Zs, Zi, Zs, Zi, Zi, Zi, Zi, Zi, Zi] 43
 refine wl_run (v := Pt b58 0) (w' := w59) z z (x_al (by kernel_rfl) ew60 eb61) ?_
 refine wl_nil (tn (wp_seq (wrl (wv (.int .u8 a0) z z z ?_))))
 obtain ⟨t63, ht64, hm⟩ := bind_some hm
 refine wc call18 [U1 a0] z z z ?_
 refine (ref03_Lattices_ref hst.to0 ht64).mono ?_
 rintro _ w65 ⟨v68, rfl, hst⟩
 refine ⟨_, z, ?_⟩
 replace hst := hst.of1
 refine wv (.int .u8 a0) z z z (wv (.int .u8 (u8.wrap (Int.tdiv a0 (5:Int)))) z z (x_quo (by decide) z z) (wv (.int .i64 (i64.wrap (u8.wrap (Int.tdiv a0 (5:Int))))) z z (by kernel_rfl) (wv (.int .i64 (Int.tmod (i64.wrap (u8.wrap (Int.tdiv a0 (5:Int)))) (3:Int))) z z (x_rem (by decide) z z) (wv (.int .i64 (i64.wrap ((1:Int) + (Int.tmod (i64.wrap (u8.wrap (Int.tdiv a0 (5:Int)))) (3:Int))))) z z z (wv (.agg #[v68, I6 (i64.wrap ((1:Int) + (Int.tmod (i64.wrap (u8.wrap (Int.tdiv a0 (5:Int)))) (3:Int)))), Zs, I6 (128:Int), I6 (512:Int), I6 (1048576:Int), I6 (8:Int), I6 (2:Int), I6 (4:Int)]) z z (by obtain ⟨_, _, hv_, _⟩ := hst.sv0; rw [hv_]; kernel_rfl) ?_)))))
 obtain ⟨b74, w75, ew76, eb77, hst⟩ := hst.box [Zs, Zi, Zs, Zi, Zi, Zi, Zi, Zi, Zi] 43
 refine wl_run (v := Pt b74 0) (w' := w75) z z (x_al (by kernel_rfl) ew76 eb77) ?_
 obtain ⟨w79, hr80, hst⟩ := hst.bx [v68, I6 (i64.wrap ((1:Int) + (Int.tmod (i64.wrap (u8.wrap (Int.tdiv a0 (5:Int)))) (3:Int)))), Zs, I6 (128:Int), I6 (512:Int), I6 (1048576:Int), I6 (8:Int), I6 (2:Int), I6 (4:Int)] sizeOf43 z (oC (one_of_sliceV hst.sv1) (oC z (oC z (oC z (oC z (oC z (oC z (oC z (oC z oN))))))))) (by kernel_rfl)
 refine wl_unit z z (x_unit hr80) ?_
 refine wl_nil (tn ?_)
 obtain ⟨y96, hm, hx97⟩ := bind_some hm
 refine wp_cut (fun a w => ∃ (z93 : (List Int)) (v92 : Value) (σ94 : Nat → Value), (ref04_Small_j0 a0) z93 = some r ∧ a = Fr 24 (upd (upd (upd σ94 0 (.int .u8 a0)) 2 (Pt b58 0)) 3 (Pt b74 0)) ∧ St w0 w I [cells b58 [Zs, Zi, Zs, Zi, Zi, Zi, Zi, Zi, Zi], cells b74 [v92, I6 (i64.wrap ((1:Int) + (Int.tmod (i64.wrap (u8.wrap (Int.tdiv a0 (5:Int)))) (3:Int)))), Zs, I6 (128:Int), I6 (512:Int), I6 (1048576:Int), I6 (8:Int), I6 (2:Int), I6 (4:Int)], ownS (tyInt .u64) v92 z93] R) ?_ ?_
 {
 refine wp_seq (wrl (wv (.int .u8 a0) z z z (wv (.int .u8 (Int.tmod a0 (5:Int))) z z (x_rem (by decide) z z) (wv (.bool ((Int.tmod a0 (5:Int)) == (4:Int))) z z z (wl_nil (tn ?_))))))
 refine bsplit ((Int.tmod a0 (5:Int)) == (4:Int)) (fun hc81 => ?_) (fun hc81 => ?_)
 {
 replace hm := bif_t hc81 hm
 refine wp_ift (cvb hc81) ?_
 refine wrl ?_
 obtain ⟨t82, ht83, hm⟩ := bind_some hm
 refine wc call18 [Zb] z z z ?_
 refine (ref03_Lattices_ref hst.to0 ht83).mono ?_
 rintro _ w84 ⟨v87, rfl, hst⟩
 refine ⟨_, z, ?_⟩
 replace hst := hst.of1
 refine wv (Pt b74 0) z z (x_field z underlying43 z sizeOf40 z) ?_
 replace hst := hst.pull1
 obtain ⟨w89, hr90, hst⟩ := hst.boxStore1 (P := prog) (t := 40) (cs' := [v87, I6 (i64.wrap ((1:Int) + (Int.tmod (i64.wrap (u8.wrap (Int.tdiv a0 (5:Int)))) (3:Int)))), Zs, I6 (128:Int), I6 (512:Int), I6 (1048576:Int), I6 (8:Int), I6 (2:Int), I6 (4:Int)]) 0 v87 (one_of_sliceV hst.sv1) sizeOf40 z z
 refine wl_unit z z (x_unit hr90) ?_
 refine wl_nil (tn ?_)
 replace hst := hst.pull1.pull1.pull3.keep3
 obtain rfl := some_inj hm
 exact ⟨t82, v87, _, hx97, (fu 0 (.int .u8 a0) z (fu 2 (Pt b58 0) z (fu 3 (Pt b74 0) z z))), hst⟩
}
 {
 replace hm := bif_f hc81 hm
 refine wp_iff (cvb hc81) ?_
 refine wp_skip (tn ?_)
 replace hst := hst.pull1.pull1.pull2.keep3
 obtain rfl := some_inj hm
 exact ⟨t63, v68, _, hx97, (fu 0 (.int .u8 a0) z (fu 2 (Pt b58 0) z (fu 3 (Pt b74 0) z z))), hst⟩
}
}
 {
 clear hst
 rintro _ w98 ⟨z93, v92, σ94, hm, rfl, hst⟩
 dsimp only [ref04_Small_j0] at hm
 refine wp_seq (wp_seq (wrl (wv (.int .u8 a0) z z z (wv (.int .u8 (u8.wrap (Int.tdiv a0 (16:Int)))) z z (x_quo (by decide) z z) (wv (.int .u8 (Int.tmod (u8.wrap (Int.tdiv a0 (16:Int))) (2:Int))) z z (x_rem (by decide) z z) (wv (.bool ((Int.tmod (u8.wrap (Int.tdiv a0 (16:Int))) (2:Int)) == (1:Int))) z z z (wl_nil (tn ?_))))))))
 refine bsplit ((Int.tmod (u8.wrap (Int.tdiv a0 (16:Int))) (2:Int)) == (1:Int)) (fun hc99 => ?_) (fun hc99 => ?_)
 {
 replace hm := bif_t hc99 hm
 refine wp_ift (cvb hc99) ?_
 refine wrl ?_
 obtain ⟨b100, w101, ew102, eb103, hst⟩ := hst.lits (E := tyF64) (xs := [(0:Nat)]) [[Zf]] 57 1 z (Reps.cons z Reps.nil)
 refine wl_run (v := (.slice (some ⟨b100, 0, none⟩) 1 1)) (w' := w101) z z (x_als (by kernel_rfl) ew102 eb103) ?_
 refine wv (Pt b74 2) z z (x_field z underlying43 z sizeOf41 z) ?_
 replace hst := hst.pull2
 obtain ⟨w105, hr106, hst⟩ := hst.by_ [v92, I6 (i64.wrap ((1:Int) + (Int.tmod (i64.wrap (u8.wrap (Int.tdiv a0 (5:Int)))) (3:Int)))), (.slice (some ⟨b100, 0, none⟩) 1 1), I6 (128:Int), I6 (512:Int), I6 (1048576:Int), I6 (8:Int), I6 (2:Int), I6 (4:Int)] 2 ((.slice (some ⟨b100, 0, none⟩) 1 1)) sizeOf41 z (oC (one_of_sliceV hst.sv1) oN) (by kernel_rfl)
 refine wl_unit z z (x_unit hr106) ?_
 refine wl_nil (tn (wp_seq (wrl (wv (.agg #[v92, I6 (i64.wrap ((1:Int) + (Int.tmod (i64.wrap (u8.wrap (Int.tdiv a0 (5:Int)))) (3:Int)))), (.slice (some ⟨b100, 0, none⟩) 1 1), I6 (128:Int), I6 (512:Int), I6 (1048576:Int), I6 (8:Int), I6 (2:Int), I6 (4:Int)]) z z (x_loadN (cs := [v92, I6 (i64.wrap ((1:Int) + (Int.tmod (i64.wrap (u8.wrap (Int.tdiv a0 (5:Int)))) (3:Int)))), (.slice (some ⟨b100, 0, none⟩) 1 1), I6 (128:Int), I6 (512:Int), I6 (1048576:Int), I6 (8:Int), I6 (2:Int), I6 (4:Int)]) z isAgg43 sizeOf43 (hst.bcs0 0 z)) ?_))))
 replace hst := hst.pull2
 obtain ⟨w107, hr108, hst⟩ := hst.bx [v92, I6 (i64.wrap ((1:Int) + (Int.tmod (i64.wrap (u8.wrap (Int.tdiv a0 (5:Int)))) (3:Int)))), (.slice (some ⟨b100, 0, none⟩) 1 1), I6 (128:Int), I6 (512:Int), I6 (1048576:Int), I6 (8:Int), I6 (2:Int), I6 (4:Int)] sizeOf43 z (oC (one_of_sliceV hst.sv3) (oC z (oC (one_of_sliceV hst.sv2) (oC z (oC z (oC z (oC z (oC z (oC z oN))))))))) (by kernel_rfl)
 refine wl_unit z z (x_unit hr108) ?_
 refine wl_nil (tn (wp_ret ?_))
 obtain rfl := some_inj hm
 refine post_ret (vs := [.agg #[v92, I6 (i64.wrap ((1:Int) + (Int.tmod (i64.wrap (u8.wrap (Int.tdiv a0 (5:Int)))) (3:Int)))), (.slice (some ⟨b100, 0, none⟩) 1 1), I6 (128:Int), I6 (512:Int), I6 (1048576:Int), I6 (8:Int), I6 (2:Int), I6 (4:Int)]]) results11 (rvs_cons (rv_cell (cs := [v92, I6 (i64.wrap ((1:Int) + (Int.tmod (i64.wrap (u8.wrap (Int.tdiv a0 (5:Int)))) (3:Int)))), (.slice (some ⟨b100, 0, none⟩) 1 1), I6 (128:Int), I6 (512:Int), I6 (1048576:Int), I6 (8:Int), I6 (2:Int), I6 (4:Int)]) z isAgg43 sizeOf43 (hst.bcs0 0 z)) rvs_nil) ?_
 replace hst := hst.pull2.pull3
 exact ⟨v92, (.slice (some ⟨b100, 0, none⟩) 1 1), z, hst.keep2⟩
}
 {
 replace hm := bif_f hc99 hm
 refine wp_iff (cvb hc99) ?_
 refine wp_skip (tn (wp_seq (wrl ?_)))
 refine wv (.agg #[v92, I6 (i64.wrap ((1:Int) + (Int.tmod (i64.wrap (u8.wrap (Int.tdiv a0 (5:Int)))) (3:Int)))), Zs, I6 (128:Int), I6 (512:Int), I6 (1048576:Int), I6 (8:Int), I6 (2:Int), I6 (4:Int)]) z z (x_loadN (cs := [v92, I6 (i64.wrap ((1:Int) + (Int.tmod (i64.wrap (u8.wrap (Int.tdiv a0 (5:Int)))) (3:Int)))), Zs, I6 (128:Int), I6 (512:Int), I6 (1048576:Int), I6 (8:Int), I6 (2:Int), I6 (4:Int)]) z isAgg43 sizeOf43 (hst.bcs1 0 z)) ?_
 obtain ⟨w109, hr110, hst⟩ := hst.bx [v92, I6 (i64.wrap ((1:Int) + (Int.tmod (i64.wrap (u8.wrap (Int.tdiv a0 (5:Int)))) (3:Int)))), Zs, I6 (128:Int), I6 (512:Int), I6 (1048576:Int), I6 (8:Int), I6 (2:Int), I6 (4:Int)] sizeOf43 z (oC (one_of_sliceV hst.sv2) (oC z (oC z (oC z (oC z (oC z (oC z (oC z (oC z oN))))))))) (by kernel_rfl)
 refine wl_unit z z (x_unit hr110) ?_
 refine wl_nil (tn (wp_ret ?_))
 replace hst := hst.own_nil tyF64
 obtain rfl := some_inj hm
 refine post_ret (vs := [.agg #[v92, I6 (i64.wrap ((1:Int) + (Int.tmod (i64.wrap (u8.wrap (Int.tdiv a0 (5:Int)))) (3:Int)))), Zs, I6 (128:Int), I6 (512:Int), I6 (1048576:Int), I6 (8:Int), I6 (2:Int), I6 (4:Int)]]) results11 (rvs_cons (rv_cell (cs := [v92, I6 (i64.wrap ((1:Int) + (Int.tmod (i64.wrap (u8.wrap (Int.tdiv a0 (5:Int)))) (3:Int)))), Zs, I6 (128:Int), I6 (512:Int), I6 (1048576:Int), I6 (8:Int), I6 (2:Int), I6 (4:Int)]) z isAgg43 sizeOf43 (hst.bcs1 0 z)) rvs_nil) ?_
 replace hst := hst.pull3
 exact ⟨v92, Zs, z, hst.keep2⟩
}
}
}

theorem math_IsNaN_ref {w0 w : World} {I : HL} {R : SP} {a0 : Nat}  (hst : St w0 w I [] R) {r : (Bool)} (hm : math_IsNaN a0 = some r) :
  Calls prog 39 #[F6 a0] w fun e w' => e = .returned (.bool r) ∧ St w0 w' I [] R := by {
 unfold math_IsNaN at hm
 refine calls_start (args := [F6 a0]) func39 z ntmps39 (Nat.le_of_ble_eq_true z) ?_
 refine wp_seq (wrl (wv (.bool false) z z z (wl_nil (tn (wp_seq (wrl (wv (.float .f64 a0) z z z (wv (.float .f64 a0) z z z (wv (.bool (fNe a0 a0)) z z z (wv (.bool (fNe a0 a0)) z z z (wl_nil (tn (wp_ret ?_)))))))))))))
 obtain rfl := some_inj hm
 refine post_ret (vs := [.bool (fNe a0 a0)]) results39 (rvs_cons (rv_tmp z) rvs_nil) ?_
 exact ⟨z, hst.keep0⟩
}

theorem number_Rank_ref {w0 w : World} {I : HL} {R : SP} {a0 : Nat}  (hst : St w0 w I [] R) {r : (Int)} (hm : number_Rank a0 = some r) :
  Calls prog 35 #[F6 a0] w fun e w' => e = .returned (.int .u64 r) ∧ St w0 w' I [] R := by {
 unfold number_Rank at hm
 refine calls_start (args := [F6 a0]) func35 z ntmps35 (Nat.le_of_ble_eq_true z) ?_
 refine wp_seq (wrl (wv (.int .u64 (0:Int)) z z z (wl_nil (tn (wp_seq (wp_seq (wrl (wv (.float .f64 a0) z z z ?_))))))))
 obtain ⟨t40, ht41, hm⟩ := bind_some hm
 refine wc call39 [F6 a0] z z z ?_
 refine (math_IsNaN_ref hst.to0 ht41).mono ?_
 rintro _ w42 ⟨rfl, hst⟩
 refine ⟨_, z, ?_⟩
 replace hst := hst.of0
 refine wl_nil (tn ?_)
 refine bsplit t40 (fun hc45 => ?_) (fun hc45 => ?_)
 {
 replace hm := bif_t hc45 hm
 refine wp_ift (cvb hc45) ?_
 refine wp_seq (wrl (wv (.int .u64 (18446744073709551615:Int)) z z z (wl_nil (tn (wp_ret (then_r ?_))))))
 obtain rfl := some_inj hm
 refine post_ret (vs := [U6 (18446744073709551615:Int)]) results35 (rvs_cons (rv_tmp z) rvs_nil) ?_
 exact ⟨z, hst.keep0⟩
}
 {
 replace hm := bif_f hc45 hm
 refine wp_iff (cvb hc45) ?_
 refine wp_skip (tn (wp_seq (wrl ?_)))
 refine wv (.float .f64 a0) z z z (wv (.int .u64 (Int.ofNat a0)) z z (by kernel_rfl) (wv (.int .u64 (Int.ofNat a0)) z z z (wl_nil (tn (wp_seq (wp_seq (wrl (wv (.int .u64 (Int.ofNat a0)) z z z (wv (.int .u64 (iShr .u64 (Int.ofNat a0) (63:Int))) z z (x_shr (by decide) z z) (wv (.bool ((iShr .u64 (Int.ofNat a0) (63:Int)) == (1:Int))) z z z (wl_nil (tn ?_))))))))))))
 refine bsplit ((iShr .u64 (Int.ofNat a0) (63:Int)) == (1:Int)) (fun hc46 => ?_) (fun hc46 => ?_)
 {
 replace hm := bif_t hc46 hm
 refine wp_ift (cvb hc46) ?_
 refine wp_seq (wrl (wv (.int .u64 (Int.ofNat a0)) z z z (wv (.int .u64 (bXor .u64 ((18446744073709551615):Int) (Int.ofNat a0))) z z (by kernel_rfl) (wv (.int .u64 (bXor .u64 ((18446744073709551615):Int) (Int.ofNat a0))) z z z (wl_nil (tn (wp_ret (then_r ?_))))))))
 obtain rfl := some_inj hm
 refine post_ret (vs := [U6 (bXor .u64 ((18446744073709551615):Int) (Int.ofNat a0))]) results35 (rvs_cons (rv_tmp z) rvs_nil) ?_
 exact ⟨z, hst.keep0⟩
}
 {
 replace hm := bif_f hc46 hm
 refine wp_iff (cvb hc46) ?_
 refine wp_skip (tn (wp_seq (wrl ?_)))
 refine wv (.int .u64 (Int.ofNat a0)) z z z (wv (.int .u64 (bOr .u64 (Int.ofNat a0) (9223372036854775808:Int))) z z z (wv (.int .u64 (bOr .u64 (Int.ofNat a0) (9223372036854775808:Int))) z z z (wl_nil (tn (wp_ret ?_)))))
 obtain rfl := some_inj hm
 refine post_ret (vs := [U6 (bOr .u64 (Int.ofNat a0) (9223372036854775808:Int))]) results35 (rvs_cons (rv_tmp z) rvs_nil) ?_
 exact ⟨z, hst.keep0⟩
}
}
}

theorem number_Less_ref {w0 w : World} {I : HL} {R : SP} {a0 : Nat} {a1 : Nat}  (hst : St w0 w I [] R) {r : (Bool)} (hm : number_Less a0 a1 = some r) :
  Calls prog 23 #[F6 a0, F6 a1] w fun e w' => e = .returned (.bool r) ∧ St w0 w' I [] R := by {
 unfold number_Less at hm
 refine calls_start (args := [F6 a0, F6 a1]) func23 z ntmps23 (Nat.le_of_ble_eq_true z) ?_
 refine wp_seq (wrl (wv (.bool false) z z z (wl_nil (tn (wp_seq (wrl (wv (.float .f64 a0) z z z ?_)))))))
 obtain ⟨t43, ht44, hm⟩ := bind_some hm
 refine wc call35 [F6 a0] z z z ?_
 refine (number_Rank_ref hst.to0 ht44).mono ?_
 rintro _ w45 ⟨rfl, hst⟩
 refine ⟨_, z, ?_⟩
 replace hst := hst.of0
 refine wv (.float .f64 a1) z z z ?_
 obtain ⟨t48, ht49, hm⟩ := bind_some hm
 refine wc call35 [F6 a1] z z z ?_
 refine (number_Rank_ref hst.to0 ht49).mono ?_
 rintro _ w50 ⟨rfl, hst⟩
 refine ⟨_, z, ?_⟩
 replace hst := hst.of0
 refine wv (.bool (decide (t43 < t48))) z z z (wv (.bool (decide (t43 < t48))) z z z (wl_nil (tn (wp_ret ?_))))
 obtain rfl := some_inj hm
 refine post_ret (vs := [.bool (decide (t43 < t48))]) results23 (rvs_cons (rv_tmp z) rvs_nil) ?_
 exact ⟨z, hst.keep0⟩
}

theorem number_Rising_ref {w0 w : World} {I : HL} {R : SP} {a0 : (List Nat)} {r0_0 : Value} (f0_0 : Rd tyF64 R I r0_0 a0) (hst : St w0 w I [] R) {r : (Bool)} (hm : number_Rising a0 = some r) :
  Calls prog 19 #[r0_0] w fun e w' => e = .returned (.bool r) ∧ St w0 w' I [] R := by {
 unfold number_Rising at hm
 refine calls_start (args := [r0_0]) func19 z ntmps19 (Nat.le_of_ble_eq_true z) ?_
 refine wp_seq (wrl (wv (.bool false) z z z (wl_nil (tn (wp_seq (wp_seq (wrl (wv (.int .i64 (1:Int)) z z z (wl_nil (tn (wp_block ?_)))))))))))
 obtain ⟨n131, hm⟩ := loopO_some hm
 refine wp_loop_n (fun n a w => ∃ (z129 : Int) (σ130 : Nat → Value), loopN (number_Rising_l0 a0) n z129 = some r ∧ a = Fr 21 (upd (upd σ130 0 (r0_0)) 3 (.int .i64 z129)) ∧ St w0 w I [] R) n131 ⟨(1:Int), _, hm, (fu 0 r0_0 z (fu 3 (.int .i64 (1:Int)) z z)), hst⟩ ?_
 rintro n137 _ w132 ⟨z129, σ130, hm, rfl, hst⟩
 obtain ⟨n134, y135, rfl, hm, hx136⟩ := loopN_some hm
 dsimp only [number_Rising_l0] at hm
 refine wp_seq (wp_seq (wrl (wv (.int .i64 z129) z z z (wv (r0_0) z z z (wv (.int .i64 ((a0).length : Int)) z z (x_len z underlying41 (rd_sliceV f0_0)) (wv (.bool (decide (z129 < ((a0).length : Int)))) z z z (wl_nil (tn ?_))))))))
 refine bsplit (decide (z129 < ((a0).length : Int))) (fun hc138 => ?_) (fun hc138 => ?_)
 {
 replace hm := bif_t hc138 hm
 refine wp_ift (cvb hc138) ?_
 refine wp_skip (tn (wp_seq (wp_block (wp_seq ?_))))
 refine wp_region_St hst 11 [0, 1, 2, 3, 4, 5, 6, 7, 8, 9, 10] [0, 0, 2, 7, 15, 0, 0, 96, 224, 511, 1023] [] z (by kernel_rfl) (by kernel_rfl) Try.mixed (by kernel_rfl) ?_
 refine wsr (r0_0) 0 z z z (by kernel_rfl) (fun w hst => z) (wsr (.int .i64 z129) 1 z z z (by kernel_rfl) (fun w hst => z) (wsr (.int .i64 (i64.wrap (z129 - (1:Int)))) 2 z z z (by kernel_rfl) (fun w hst => z) ?_))
 obtain ⟨x139, hx140, hm⟩ := bind_some hm
 obtain ⟨h141, h142, hi143⟩ := geto_some hx140
 refine wsr (.pointer (some (eAddr r0_0 ((i64.wrap (z129 - (1:Int))).toNat * 1 + 0)))) 3 z z z (by kernel_rfl) (fun w hst => x_index z z underlying41 sizeOf57 (rd_sliceV f0_0) h141 h142) (wsr (.float .f64 x139) 4 z z z (by kernel_rfl) (fun w hst => x_load z isAgg57 (rd_load f0_0 (HL.le.refl _) hst hi143 (by rintro _ rfl; rfl))) (wsr (r0_0) 5 z z z (by kernel_rfl) (fun w hst => z) (wsr (.int .i64 z129) 6 z z z (by kernel_rfl) (fun w hst => z) ?_)))
 obtain ⟨x144, hx145, hm⟩ := bind_some hm
 obtain ⟨h146, h147, hi148⟩ := geto_some hx145
 refine wsr (.pointer (some (eAddr r0_0 (z129.toNat * 1 + 0)))) 7 z z z (by kernel_rfl) (fun w hst => x_index z z underlying41 sizeOf57 (rd_sliceV f0_0) h146 h147) (wsr (.float .f64 x144) 8 z z z (by kernel_rfl) (fun w hst => x_load z isAgg57 (rd_load f0_0 (HL.le.refl _) hst hi148 (by rintro _ rfl; rfl))) ?_)
 refine ws_e1 9 (by kernel_rfl) ?_
 refine nxe [10] (by kernel_rfl) z z ?_
 clear hst
 intro w hst
 obtain ⟨t149, ht150, hm⟩ := bind_some hm
 refine wec call23 [F6 x139, F6 x144] z z ?_
 refine (number_Less_ref hst.to0 ht150).mono ?_
 rintro _ w151 ⟨rfl, hst⟩
 refine ⟨_, z, ?_⟩
 replace hst := hst.of0
 refine ws_next (pend' := []) hst (by kernel_rfl) pk_nil ?_
 refine wsr (.bool (!t149)) 10 z z z (by kernel_rfl) (fun w hst => z) ?_
 refine ws_nil ?_
 intro w hst
 refine tn ?_
 refine bsplit (!t149) (fun hc154 => ?_) (fun hc154 => ?_)
 {
 replace hm := bif_t hc154 hm
 refine wp_ift (cvb hc154) ?_
 refine wp_seq (wrl (wv (.bool false) z z z (wl_nil (tn (wp_ret (blk_r (then_r (then_r ?_))))))))
 replace hm := inr_up hm hx136
 refine blk_r (then_r ?_)
 obtain rfl := some_inj hm
 refine post_ret (vs := [.bool false]) results19 (rvs_cons (rv_tmp z) rvs_nil) ?_
 exact ⟨z, hst.keep0⟩
}
 {
 replace hm := bif_f hc154 hm
 refine wp_iff (cvb hc154) ?_
 refine wp_skip (blk_n (tn (wrl ?_)))
 refine wv (.int .i64 z129) z z z (wv (.int .i64 (i64.wrap (z129 + (1:Int)))) z z z (wv (.int .i64 (i64.wrap (z129 + (1:Int)))) z z z (wl_nil (tn ?_))))
 replace hst := hst.keep0
 obtain rfl := some_inj hm
 exact ⟨_, Nat.lt_succ_self _, (i64.wrap (z129 + (1:Int))), _, hx136, (fu 0 r0_0 z (fu 3 (.int .i64 (i64.wrap (z129 + (1:Int)))) z z)), hst⟩
}
}
 {
 replace hm := bif_f hc138 hm
 refine wp_iff (cvb hc138) ?_
 refine wp_exit (then_x (then_x ?_))
 replace hm := inr_up hm hx136
 refine blk_x (tn (wp_seq (wrl ?_)))
 refine wv (.bool true) z z z (wl_nil (tn (wp_ret ?_)))
 obtain rfl := some_inj hm
 refine post_ret (vs := [.bool true]) results19 (rvs_cons (rv_tmp z) rvs_nil) ?_
 exact ⟨z, hst.keep0⟩
}
}

theorem slices_Clone_uint64_uint64_ref {w0 w : World} {I : HL} {R : SP} {a0 : (List Int)} {r0_0 : Value} (f0_0 : Rd (tyInt .u64) R I r0_0 a0) (hst : St w0 w I [] R) {r : (List Int)} (hm : slices_Clone_uint64_uint64 a0 = some r) :
  Calls prog 24 #[r0_0] w fun e w' => ∃ (q0_0 : Value), e = .returned (q0_0) ∧ St w0 w' I [ownS (tyInt .u64) q0_0 r] R := by {
 unfold slices_Clone_uint64_uint64 at hm
 obtain ⟨hg, hm⟩ := gd_some hm
 obtain rfl := some_inj hm
 have hsv := rd_sliceV f0_0
 refine calls_start (args := [r0_0]) func24 z ntmps24 (Nat.le_of_ble_eq_true z) ?_
 refine wp_seq (wrl (wv ((.slice none 0 0)) z z z (wl_nil (tn (wp_seq (wp_seq (wrl (wv (r0_0) z z z (wv (.bool (isNil r0_0)) z z (x_slnil z hsv z underlying40) (wl_nil (tn ?_)))))))))))
 refine bsplit (isNil r0_0) (fun hc69 => ?_) (fun hc69 => ?_)
 {
 refine wp_ift (cvb hc69) ?_
 refine wp_seq (wrl (wv ((.slice none 0 0)) z z z (wl_nil (tn (wp_ret (then_r ?_))))))
 refine post_ret (vs := [Zs]) results24 (rvs_cons (rv_tmp z) rvs_nil) ?_
 obtain rfl := List.eq_nil_of_length_eq_zero (isNil_len hsv hc69)
 exact ⟨_, z, (hst.own_nil (tyInt .u64)).keep1⟩
}
 {
 refine wp_iff (cvb hc69) ?_
 refine wp_skip (tn (wp_seq (wrl ?_)))
 obtain ⟨b, w1, ew, eb, hst⟩ := hst.lits (E := (tyInt .u64)) (xs := []) [] 66 0 z Reps.nil
 refine wl_run (v := (.slice (some ⟨b, 0, none⟩) 0 0)) (w' := w1) z z (x_als (by kernel_rfl) ew eb) ?_
 refine wv (r0_0) z z z ?_
 obtain ⟨v2, w2, hr, hst⟩ := run_append elem_40 underlying40 hst (Src.of_rd hst f0_0 flat_int) (room_of hg z) 40
 refine wl_run (v := v2) (w' := w2) z z (x_append z z hr) ?_
 refine wv (v2) z z z (wl_nil (tn (wp_ret ?_)))
 refine post_ret (vs := [v2]) results24 (rvs_cons (rv_tmp z) rvs_nil) ?_
 rw [List.nil_append] at hst
 exact ⟨_, z, hst.keep1⟩
}
}

theorem label_Lattice_orders_ref {w0 w : World} {I : HL} {R : SP} {a0 : (Option label_Lattice)} {p0 : Value}  (hst : St w0 w I [objO at_label_Lattice p0 a0] R) {r : (Bool)} (hm : label_Lattice_orders a0 = some r) :
  Calls prog 25 #[p0] w fun e w' => e = .returned (.bool r) ∧ St w0 w' I [objO at_label_Lattice p0 a0] R := by {
 rcases a0 with _ | o0
 {
 obtain ⟨rfl, hst'⟩ := objO_none hst
 clear hst
 have hst := hst'
 clear hst'
 dsimp only [label_Lattice_orders] at hm
 refine calls_start (args := [.pointer none]) func25 z ntmps25 (Nat.le_of_ble_eq_true z) ?_
 refine wp_seq (wrl (wv (.bool false) z z z (wl_nil (tn (wp_seq (wrl (wv (.pointer none) z z z ?_)))))))
 cases hm
}
 {
 replace hst := objO_get hst
 dsimp only [label_Lattice_orders] at hm
 refine calls_start (args := [p0]) func25 z ntmps25 (Nat.le_of_ble_eq_true z) ?_
 refine wp_seq (wrl (wv (.bool false) z z z (wl_nil (tn (wp_seq (wrl (wv (p0) z z z ?_)))))))
 obtain ⟨b934, v935, v937, v939, v941, v943, v945, rfl, hst'⟩ := at_label_Lattice_open hst
 clear hst
 have hst := hst'
 clear hst'
 refine wv (Pt b934 0) z z z (wv (Pt b934 0) z z (x_field z underlying72 z sizeOf40 z) (wv (v935) z z (x_load z isAgg40 (hst.bc0 z)) (wv (.int .i64 ((o0.up).length : Int)) z z (x_len z underlying40 hst.sv1) (wv (.int .i64 ((o0.up).length : Int)) z z z (wl_nil (tn (wp_seq (wp_seq (wrl (wv (Pt b934 0) z z z (wv (Pt b934 0) z z z (wv (Pt b934 0) z z (x_field z underlying72 z sizeOf40 z) (wv (v935) z z (x_load z isAgg40 (hst.bc0 z)) (wv (.int .i64 ((o0.up).length : Int)) z z (x_len z underlying40 hst.sv1) (wv (.int .i64 (0:Int)) z z z (wl_nil (tn (wp_block ?_))))))))))))))))))
 obtain ⟨n1049, hm⟩ := loopO_some hm
 refine wp_loop_n (fun n a w => ∃ (z1047 : Int) (σ1048 : Nat → Value), loopN (label_Lattice_orders_l0 o0) n z1047 = some r ∧ a = Fr 74 (upd (upd (upd (upd (upd σ1048 0 (Pt b934 0)) 3 (.int .i64 ((o0.up).length : Int))) 15 (v935)) 16 (.int .i64 ((o0.up).length : Int))) 17 (.int .i64 z1047)) ∧ St w0 w I [cells b934 [v935, v937, v939, v941, v943, v945], ownS (tyInt .u64) v935 o0.up, ownS (tyInt .u64) v937 o0.down, ownS (tySl (tyInt .i64)) v939 o0.join, ownS (tySl (tyInt .i64)) v941 o0.meet, ownS (tyInt .i64) v943 o0.rank, ownS (tyInt .i64) v945 o0.all] R) n1049 ⟨(0:Int), _, hm, (fu 0 (Pt b934 0) z (fu 3 (.int .i64 ((o0.up).length : Int)) z (fu 15 v935 z (fu 16 (.int .i64 ((o0.up).length : Int)) z (fu 17 (.int .i64 (0:Int)) z z))))), hst⟩ ?_
 rintro n1055 _ w1050 ⟨z1047, σ1048, hm, rfl, hst⟩
 obtain ⟨n1052, y1053, rfl, hm, hx1054⟩ := loopN_some hm
 dsimp only [label_Lattice_orders_l0] at hm
 refine wp_seq (wrl (wv (.bool (decide (z1047 < ((o0.up).length : Int)))) z z z (wl_nil (tn (wp_seq ?_)))))
 refine bsplit (decide (z1047 < ((o0.up).length : Int))) (fun hc1056 => ?_) (fun hc1056 => ?_)
 {
 replace hm := bif_t hc1056 hm
 refine wp_ift (cvb hc1056) ?_
 refine wp_skip (tn (wp_seq (wp_block (wp_seq (wrl ?_)))))
 refine wv (.int .i64 z1047) z z z ?_
 obtain ⟨x1057, hx1058, hm⟩ := bind_some hm
 obtain ⟨h1059, h1060, hi1061⟩ := geto_some hx1058
 refine wv (.pointer (some (eAddr v935 (z1047.toNat * 1 + 0)))) z z (x_index z z underlying40 sizeOf66 hst.sv1 h1059 h1060) (wv (.int .u64 x1057) z z (x_load z isAgg66 (hst.ol1 hi1061 (by rintro _ rfl; rfl))) (wv (.int .i64 z1047) z z z (wv (.int .u64 x1057) z z z (wl_nil (tn (wp_seq (wp_seq (wrl (wv (.int .u64 x1057) z z z (wv (.int .i64 ((o0.up).length : Int)) z z z ?_))))))))))
 obtain ⟨hg1062, hm⟩ := gd_some hm
 refine wv (.int .u64 (iShr .u64 x1057 ((o0.up).length : Int))) z z (x_shr (of_decide_eq_true hg1062) z z) (wv (.bool ((iShr .u64 x1057 ((o0.up).length : Int)) != (0:Int))) z z z (wv (.bool ((iShr .u64 x1057 ((o0.up).length : Int)) != (0:Int))) z z z ?_))
 refine bsplit ((iShr .u64 x1057 ((o0.up).length : Int)) != (0:Int)) (fun hc1063 => ?_) (fun hc1063 => ?_)
 {
 replace hm := bif_t hc1063 hm
 refine wo hc1063 z z z z z z (wo hc1063 z z z z z z (wo hc1063 z z z z z z (wo hc1063 z z z z z z (wo hc1063 z z z z z z (wv (.bool true) z z (x_pick_t hc1063 z z) (wl_nil (tn ?_)))))))
 refine wp_ift z ?_
 refine wp_seq (wrl (wv (.bool false) z z z (wl_nil (tn (wp_ret (then_r (blk_r (then_r (then_r ?_)))))))))
 replace hm := inr_up hm hx1054
 refine blk_r (then_r ?_)
 replace hst := hst.pull6.pull6.pull6.pull6.pull6.pull6.pull6
 replace hst := at_label_Lattice_close (pv := Pt b934 0) (x := o0) hst z
 replace hst := objO_some hst
 obtain rfl := some_inj hm
 refine post_ret (vs := [.bool false]) results25 (rvs_cons (rv_tmp z) rvs_nil) ?_
 exact ⟨z, hst.keep1⟩
}
 {
 replace hm := bif_f hc1063 hm
 refine wv (.int .u64 x1057) ((wanted_eq z z z (cvb hc1063)).trans z) z z (wv (.int .i64 z1047) ((wanted_eq z z z (cvb hc1063)).trans z) z z ?_)
 obtain ⟨hg1064, hm⟩ := gd_some hm
 refine wv (.int .u64 (iShr .u64 x1057 z1047)) ((wanted_eq z z z (cvb hc1063)).trans z) z (x_shr (of_decide_eq_true hg1064) z z) (wv (.int .u64 (bAnd .u64 (iShr .u64 x1057 z1047) (1:Int))) ((wanted_eq z z z (cvb hc1063)).trans z) z z (wv (.bool ((bAnd .u64 (iShr .u64 x1057 z1047) (1:Int)) == (0:Int))) ((wanted_eq z z z (cvb hc1063)).trans z) z z (wv (.bool ((bAnd .u64 (iShr .u64 x1057 z1047) (1:Int)) == (0:Int))) z z (x_pick_f hc1063 z z) (wl_nil (tn ?_)))))
 refine bsplit ((bAnd .u64 (iShr .u64 x1057 z1047) (1:Int)) == (0:Int)) (fun hc1065 => ?_) (fun hc1065 => ?_)
 {
 replace hm := bif_t hc1065 hm
 refine wp_ift (cvb hc1065) ?_
 refine wp_seq (wrl (wv (.bool false) z z z (wl_nil (tn (wp_ret (then_r (blk_r (then_r (then_r ?_)))))))))
 replace hm := inr_up hm hx1054
 refine blk_r (then_r ?_)
 replace hst := hst.pull6.pull6.pull6.pull6.pull6.pull6.pull6
 replace hst := at_label_Lattice_close (pv := Pt b934 0) (x := o0) hst z
 replace hst := objO_some hst
 obtain rfl := some_inj hm
 refine post_ret (vs := [.bool false]) results25 (rvs_cons (rv_tmp z) rvs_nil) ?_
 exact ⟨z, hst.keep1⟩
}
 {
 replace hm := bif_f hc1065 hm
 refine wp_iff (cvb hc1065) ?_
 refine wp_skip (tn (wp_seq (wrl ?_)))
 refine wv (.int .i64 ((o0.up).length : Int)) z z z (wv (.int .i64 (0:Int)) z z z (wl_nil (tn (wp_block ?_))))
 obtain ⟨n1092, hm⟩ := loopO_some hm
 refine wp_loop_n (fun n a w => ∃ (z1090 : Int) (σ1091 : Nat → Value), loopN (label_Lattice_orders_l1 o0 x1057 z1047) n z1090 = some y1053 ∧ a = Fr 74 (upd (upd (upd (upd (upd (upd (upd (upd (upd σ1091 0 (Pt b934 0)) 3 (.int .i64 ((o0.up).length : Int))) 4 (.int .i64 z1047)) 5 (.int .u64 x1057)) 15 (v935)) 16 (.int .i64 ((o0.up).length : Int))) 17 (.int .i64 z1047)) 33 (.int .i64 ((o0.up).length : Int))) 34 (.int .i64 z1090)) ∧ St w0 w I [cells b934 [v935, v937, v939, v941, v943, v945], ownS (tyInt .u64) v935 o0.up, ownS (tyInt .u64) v937 o0.down, ownS (tySl (tyInt .i64)) v939 o0.join, ownS (tySl (tyInt .i64)) v941 o0.meet, ownS (tyInt .i64) v943 o0.rank, ownS (tyInt .i64) v945 o0.all] R) n1092 ⟨(0:Int), _, hm, (fu 0 (Pt b934 0) z (fu 3 (.int .i64 ((o0.up).length : Int)) z (fu 4 (.int .i64 z1047) z (fu 5 (.int .u64 x1057) z (fu 15 v935 z (fu 16 (.int .i64 ((o0.up).length : Int)) z (fu 17 (.int .i64 z1047) z (fu 33 (.int .i64 ((o0.up).length : Int)) z (fu 34 (.int .i64 (0:Int)) z z))))))))), hst⟩ ?_
 rintro n1098 _ w1093 ⟨z1090, σ1091, hm, rfl, hst⟩
 obtain ⟨n1095, y1096, rfl, hm, hx1097⟩ := loopN_some hm
 dsimp only [label_Lattice_orders_l1] at hm
 refine wp_seq (wrl (wv (.bool (decide (z1090 < ((o0.up).length : Int)))) z z z (wl_nil (tn (wp_seq ?_)))))
 refine bsplit (decide (z1090 < ((o0.up).length : Int))) (fun hc1099 => ?_) (fun hc1099 => ?_)
 {
 replace hm := bif_t hc1099 hm
 refine wp_ift (cvb hc1099) ?_
 refine wp_skip (tn (wp_seq (wp_block (wp_seq (wrl ?_)))))
 refine wv (.int .i64 z1090) z z z (wv (.int .i64 z1090) z z z (wl_nil (tn (wp_seq (wrl (wv (.int .u64 x1057) z z z (wv (.int .i64 z1090) z z z ?_)))))))
 obtain ⟨hg1100, hm⟩ := gd_some hm
 refine wv (.int .u64 (iShr .u64 x1057 z1090)) z z (x_shr (of_decide_eq_true hg1100) z z) (wv (.int .u64 (bAnd .u64 (iShr .u64 x1057 z1090) (1:Int))) z z z (wv (.bool ((bAnd .u64 (iShr .u64 x1057 z1090) (1:Int)) == (1:Int))) z z z (wv (.bool ((bAnd .u64 (iShr .u64 x1057 z1090) (1:Int)) == (1:Int))) z z z ?_)))
 refine bsplit ((bAnd .u64 (iShr .u64 x1057 z1090) (1:Int)) == (1:Int)) (fun hc1101 => ?_) (fun hc1101 => ?_)
 {
 replace hm := bif_t hc1101 hm
 refine wv (Pt b934 0) ((wanted_eq z z z (cvb hc1101)).trans z) z z (wv (Pt b934 0) ((wanted_eq z z z (cvb hc1101)).trans z) z z (wv (Pt b934 0) ((wanted_eq z z z (cvb hc1101)).trans z) z (x_field z underlying72 z sizeOf40 z) (wv (v935) ((wanted_eq z z z (cvb hc1101)).trans z) z (x_load z isAgg40 (hst.bc0 z)) (wv (.int .i64 z1090) ((wanted_eq z z z (cvb hc1101)).trans z) z z ?_))))
 obtain ⟨x1102, hx1103, hm⟩ := bind_some hm
 obtain ⟨h1104, h1105, hi1106⟩ := geto_some hx1103
 refine wv (.pointer (some (eAddr v935 (z1090.toNat * 1 + 0)))) ((wanted_eq z z z (cvb hc1101)).trans z) z (x_index z z underlying40 sizeOf66 hst.sv1 h1104 h1105) (wv (.int .u64 x1102) ((wanted_eq z z z (cvb hc1101)).trans z) z (x_load z isAgg66 (hst.ol1 hi1106 (by rintro _ rfl; rfl))) (wv (.int .u64 x1057) ((wanted_eq z z z (cvb hc1101)).trans z) z z (wv (.int .u64 (bAndNot .u64 x1102 x1057)) ((wanted_eq z z z (cvb hc1101)).trans z) z z (wv (.bool ((bAndNot .u64 x1102 x1057) != (0:Int))) ((wanted_eq z z z (cvb hc1101)).trans z) z z (wv (.bool ((bAndNot .u64 x1102 x1057) != (0:Int))) ((wanted_eq z z z (cvb hc1101)).trans z) z z ?_)))))
 refine bsplit ((bAndNot .u64 x1102 x1057) != (0:Int)) (fun hc1107 => ?_) (fun hc1107 => ?_)
 {
 replace hm := bif_t hc1107 hm
 refine wo hc1107 z z z z z z (wo hc1107 z z z z z z (wo hc1107 z z z z z z (wo hc1107 z z z z z z (wl_off (wanted_undef z z z z) z (wl_off (wanted_undef z z z z) z (wl_off (wanted_undef z z z z) z (wl_off (wanted_undef z z z z) z (wl_off (wanted_undef z z z z) z (wl_off (wanted_undef z z z z) z (wl_off (wanted_undef z z z z) z (wl_off (wanted_undef z z z z) z (wl_off (wanted_undef z z z z) z ?_))))))))))))
 refine wl_off (wanted_undef z z z z) z (wl_off (wanted_undef z z z z) z (wo hc1107 z z z z z z (wv (.bool true) ((wanted_eq z z z (cvb hc1101)).trans z) z (x_pick_t hc1107 z z) (wv (.bool true) z z (x_pick_t hc1101 z z) (wl_nil (tn ?_))))))
 refine wp_ift z ?_
 refine wp_seq (wrl (wv (.bool false) z z z (wl_nil (tn (wp_ret (blk_r (then_r (then_r ?_))))))))
 replace hm := inr_up hm hx1097
 refine blk_r (blk_r (then_r (then_r ?_)))
 replace hm := inr_up hm hx1054
 refine blk_r (then_r ?_)
 replace hst := hst.pull6.pull6.pull6.pull6.pull6.pull6.pull6
 replace hst := at_label_Lattice_close (pv := Pt b934 0) (x := o0) hst z
 replace hst := objO_some hst
 obtain rfl := some_inj hm
 refine post_ret (vs := [.bool false]) results25 (rvs_cons (rv_tmp z) rvs_nil) ?_
 exact ⟨z, hst.keep1⟩
}
 {
 replace hm := bif_f hc1107 hm
 refine wv (.int .i64 z1047) ((wanted_eq z z z (cvb hc1107)).trans z) z z (wv (.int .i64 z1090) ((wanted_eq z z z (cvb hc1107)).trans z) z z (wv (.bool (z1047 != z1090)) ((wanted_eq z z z (cvb hc1107)).trans z) z z (wv (.bool (z1047 != z1090)) ((wanted_eq z z z (cvb hc1107)).trans z) z z ?_)))
 refine bsplit (z1047 != z1090) (fun hc1108 => ?_) (fun hc1108 => ?_)
 {
 replace hm := bif_t hc1108 hm
 refine wv (Pt b934 0) ((wanted_eq z z z (cvb hc1108)).trans z) z z (wv (Pt b934 0) ((wanted_eq z z z (cvb hc1108)).trans z) z z (wv (Pt b934 0) ((wanted_eq z z z (cvb hc1108)).trans z) z (x_field z underlying72 z sizeOf40 z) (wv (v935) ((wanted_eq z z z (cvb hc1108)).trans z) z (x_load z isAgg40 (hst.bc0 z)) (wv (.int .i64 z1090) ((wanted_eq z z z (cvb hc1108)).trans z) z z (wv (.pointer (some (eAddr v935 (z1090.toNat * 1 + 0)))) ((wanted_eq z z z (cvb hc1108)).trans z) z (x_index z z underlying40 sizeOf66 hst.sv1 h1104 h1105) (wv (.int .u64 x1102) ((wanted_eq z z z (cvb hc1108)).trans z) z (x_load z isAgg66 (hst.ol1 hi1106 (by rintro _ rfl; rfl))) (wv (.int .i64 z1047) ((wanted_eq z z z (cvb hc1108)).trans z) z z ?_)))))))
 obtain ⟨hg1109, hm⟩ := gd_some hm
 refine wv (.int .u64 (iShr .u64 x1102 z1047)) ((wanted_eq z z z (cvb hc1108)).trans z) z (x_shr (of_decide_eq_true hg1109) z z) (wv (.int .u64 (bAnd .u64 (iShr .u64 x1102 z1047) (1:Int))) ((wanted_eq z z z (cvb hc1108)).trans z) z z (wv (.bool ((bAnd .u64 (iShr .u64 x1102 z1047) (1:Int)) == (1:Int))) ((wanted_eq z z z (cvb hc1108)).trans z) z z (wv (.bool ((bAnd .u64 (iShr .u64 x1102 z1047) (1:Int)) == (1:Int))) ((wanted_eq z z z (cvb hc1107)).trans z) z (x_pick_t hc1108 z z) (wv (.bool ((bAnd .u64 (iShr .u64 x1102 z1047) (1:Int)) == (1:Int))) ((wanted_eq z z z (cvb hc1101)).trans z) z (x_pick_f hc1107 z z) (wv (.bool ((bAnd .u64 (iShr .u64 x1102 z1047) (1:Int)) == (1:Int))) z z (x_pick_t hc1101 z z) (wl_nil (tn ?_)))))))
 refine bsplit ((bAnd .u64 (iShr .u64 x1102 z1047) (1:Int)) == (1:Int)) (fun hc1110 => ?_) (fun hc1110 => ?_)
 {
 replace hm := bif_t hc1110 hm
 refine wp_ift (cvb hc1110) ?_
 refine wp_seq (wrl (wv (.bool false) z z z (wl_nil (tn (wp_ret (blk_r (then_r (then_r ?_))))))))
 replace hm := inr_up hm hx1097
 refine blk_r (blk_r (then_r (then_r ?_)))
 replace hm := inr_up hm hx1054
 refine blk_r (then_r ?_)
 replace hst := hst.pull6.pull6.pull6.pull6.pull6.pull6.pull6
 replace hst := at_label_Lattice_close (pv := Pt b934 0) (x := o0) hst z
 replace hst := objO_some hst
 obtain rfl := some_inj hm
 refine post_ret (vs := [.bool false]) results25 (rvs_cons (rv_tmp z) rvs_nil) ?_
 exact ⟨z, hst.keep1⟩
}
 {
 replace hm := bif_f hc1110 hm
 refine wp_iff (cvb hc1110) ?_
 refine wp_skip (blk_n (tn (wrl ?_)))
 refine wv (.int .i64 (i64.wrap (z1090 + (1:Int)))) z z z (wv (.int .i64 (i64.wrap (z1090 + (1:Int)))) z z z (wl_nil (tn ?_)))
 replace hst := hst.pull6.pull6.pull6.pull6.pull6.pull6.pull6.keep7
 obtain rfl := some_inj hm
 exact ⟨_, Nat.lt_succ_self _, (i64.wrap (z1090 + (1:Int))), _, hx1097, (fu 0 (Pt b934 0) z (fu 3 (.int .i64 ((o0.up).length : Int)) z (fu 4 (.int .i64 z1047) z (fu 5 (.int .u64 x1057) z (fu 15 v935 z (fu 16 (.int .i64 ((o0.up).length : Int)) z (fu 17 (.int .i64 z1047) z (fu 33 (.int .i64 ((o0.up).length : Int)) z (fu 34 (.int .i64 (i64.wrap (z1090 + (1:Int)))) z z))))))))), hst⟩
}
}
 {
 replace hm := bif_f hc1108 hm
 refine wo hc1108 z z z z z z (wo hc1108 z z z z z z (wo hc1108 z z z z z z (wo hc1108 z z z z z z (wo hc1108 z z z z z z (wo hc1108 z z z z z z (wo hc1108 z z z z z z (wo hc1108 z z z z z z (wo hc1108 z z z z z z (wo hc1108 z z z z z z (wo hc1108 z z z z z z (wv (.bool false) ((wanted_eq z z z (cvb hc1107)).trans z) z (x_pick_f hc1108 z z) (wv (.bool false) ((wanted_eq z z z (cvb hc1101)).trans z) z (x_pick_f hc1107 z z) ?_))))))))))))
 refine wv (.bool false) z z (x_pick_t hc1101 z z) (wl_nil (tn ?_))
 refine wp_iff z ?_
 refine wp_skip (blk_n (tn (wrl ?_)))
 refine wv (.int .i64 (i64.wrap (z1090 + (1:Int)))) z z z (wv (.int .i64 (i64.wrap (z1090 + (1:Int)))) z z z (wl_nil (tn ?_)))
 replace hst := hst.pull6.pull6.pull6.pull6.pull6.pull6.pull6.keep7
 obtain rfl := some_inj hm
 exact ⟨_, Nat.lt_succ_self _, (i64.wrap (z1090 + (1:Int))), _, hx1097, (fu 0 (Pt b934 0) z (fu 3 (.int .i64 ((o0.up).length : Int)) z (fu 4 (.int .i64 z1047) z (fu 5 (.int .u64 x1057) z (fu 15 v935 z (fu 16 (.int .i64 ((o0.up).length : Int)) z (fu 17 (.int .i64 z1047) z (fu 33 (.int .i64 ((o0.up).length : Int)) z (fu 34 (.int .i64 (i64.wrap (z1090 + (1:Int)))) z z))))))))), hst⟩
}
}
}
 {
 replace hm := bif_f hc1101 hm
 refine wo hc1101 z z z z z z (wo hc1101 z z z z z z (wo hc1101 z z z z z z (wo hc1101 z z z z z z (wo hc1101 z z z z z z (wo hc1101 z z z z z z (wo hc1101 z z z z z z (wo hc1101 z z z z z z (wo hc1101 z z z z z z (wo hc1101 z z z z z z (wo hc1101 z z z z z z (wl_off (wanted_undef z z z z) z (wl_off (wanted_undef z z z z) z ?_))))))))))))
 refine wl_off (wanted_undef z z z z) z (wl_off (wanted_undef z z z z) z (wl_off (wanted_undef z z z z) z (wl_off (wanted_undef z z z z) z (wl_off (wanted_undef z z z z) z (wl_off (wanted_undef z z z z) z (wl_off (wanted_undef z z z z) z (wl_off (wanted_undef z z z z) z (wl_off (wanted_undef z z z z) z (wl_off (wanted_undef z z z z) z (wl_off (wanted_undef z z z z) z (wl_off (wanted_undef z z z z) z (wl_off (wanted_undef z z z z) z ?_))))))))))))
 refine wl_off (wanted_undef z z z z) z (wo hc1101 z z z z z z (wv (.bool false) z z (x_pick_f hc1101 z z) (wl_nil (tn ?_))))
 refine wp_iff z ?_
 refine wp_skip (blk_n (tn (wrl ?_)))
 refine wv (.int .i64 (i64.wrap (z1090 + (1:Int)))) z z z (wv (.int .i64 (i64.wrap (z1090 + (1:Int)))) z z z (wl_nil (tn ?_)))
 replace hst := hst.pull6.pull6.pull6.pull6.pull6.pull6.pull6.keep7
 obtain rfl := some_inj hm
 exact ⟨_, Nat.lt_succ_self _, (i64.wrap (z1090 + (1:Int))), _, hx1097, (fu 0 (Pt b934 0) z (fu 3 (.int .i64 ((o0.up).length : Int)) z (fu 4 (.int .i64 z1047) z (fu 5 (.int .u64 x1057) z (fu 15 v935 z (fu 16 (.int .i64 ((o0.up).length : Int)) z (fu 17 (.int .i64 z1047) z (fu 33 (.int .i64 ((o0.up).length : Int)) z (fu 34 (.int .i64 (i64.wrap (z1090 + (1:Int)))) z z))))))))), hst⟩
}
}
 {
 replace hm := bif_f hc1099 hm
 refine wp_iff (cvb hc1099) ?_
 refine wp_exit (then_x (then_x ?_))
 replace hm := inr_up hm hx1097
 refine blk_x (blk_n (tn (wrl ?_)))
 refine wv (.int .i64 (i64.wrap (z1047 + (1:Int)))) z z z (wv (.int .i64 (i64.wrap (z1047 + (1:Int)))) z z z (wl_nil (tn ?_)))
 replace hst := hst.pull6.pull6.pull6.pull6.pull6.pull6.pull6.keep7
 obtain rfl := some_inj hm
 exact ⟨_, Nat.lt_succ_self _, (i64.wrap (z1047 + (1:Int))), _, hx1054, (fu 0 (Pt b934 0) z (fu 3 (.int .i64 ((o0.up).length : Int)) z (fu 15 v935 z (fu 16 (.int .i64 ((o0.up).length : Int)) z (fu 17 (.int .i64 (i64.wrap (z1047 + (1:Int)))) z z))))), hst⟩
}
}
}
}
 {
 replace hm := bif_f hc1056 hm
 refine wp_iff (cvb hc1056) ?_
 refine wp_exit (then_x (then_x ?_))
 replace hm := inr_up hm hx1054
 refine blk_x (tn (wp_seq (wrl ?_)))
 refine wv (.bool true) z z z (wl_nil (tn (wp_ret ?_)))
 replace hst := hst.pull6.pull6.pull6.pull6.pull6.pull6.pull6
 replace hst := at_label_Lattice_close (pv := Pt b934 0) (x := o0) hst z
 replace hst := objO_some hst
 obtain rfl := some_inj hm
 refine post_ret (vs := [.bool true]) results25 (rvs_cons (rv_tmp z) rvs_nil) ?_
 exact ⟨z, hst.keep1⟩
}
}
}

theorem label_least_ref {w0 w : World} {I : HL} {R : SP} {a0 : Int} {a1 : (List Int)} {r1_0 : Value} (f1_0 : Rd (tyInt .u64) R I r1_0 a1) (hst : St w0 w I [] R) {r : (Int × Bool)} (hm : label_least a0 a1 = some r) :
  Calls prog 26 #[U6 a0, r1_0] w fun e w' => e = .returned (.tuple #[I6 r.1, .bool r.2]) ∧ St w0 w' I [] R := by {
 unfold label_least at hm
 refine calls_start (args := [U6 a0, r1_0]) func26 z ntmps26 (Nat.le_of_ble_eq_true z) ?_
 refine wp_seq (wrl (wv (.int .i64 (0:Int)) z z z (wv (.bool false) z z z (wl_nil (tn (wp_seq (wp_seq (wrl (wv (r1_0) z z z (wv (.int .i64 ((a1).length : Int)) z z (x_len z underlying40 (rd_sliceV f1_0)) (wv (.int .i64 (0:Int)) z z z (wl_nil (tn (wp_block ?_))))))))))))))
 obtain ⟨n1121, hm⟩ := loopO_some hm
 refine wp_loop_n (fun n a w => ∃ (z1119 : Int) (σ1120 : Nat → Value), loopN (label_least_l0 a1 a0) n z1119 = some r ∧ a = Fr 28 (upd (upd (upd (upd σ1120 0 (.int .u64 a0)) 1 (r1_0)) 8 (.int .i64 ((a1).length : Int))) 9 (.int .i64 z1119)) ∧ St w0 w I [] R) n1121 ⟨(0:Int), _, hm, (fu 0 (.int .u64 a0) z (fu 1 r1_0 z (fu 8 (.int .i64 ((a1).length : Int)) z (fu 9 (.int .i64 (0:Int)) z z)))), hst⟩ ?_
 rintro n1127 _ w1122 ⟨z1119, σ1120, hm, rfl, hst⟩
 obtain ⟨n1124, y1125, rfl, hm, hx1126⟩ := loopN_some hm
 dsimp only [label_least_l0] at hm
 refine wp_seq (wrl (wv (.bool (decide (z1119 < ((a1).length : Int)))) z z z (wl_nil (tn (wp_seq ?_)))))
 refine bsplit (decide (z1119 < ((a1).length : Int))) (fun hc1128 => ?_) (fun hc1128 => ?_)
 {
 replace hm := bif_t hc1128 hm
 refine wp_ift (cvb hc1128) ?_
 refine wp_skip (tn (wp_seq (wp_block (wp_seq (wrl ?_)))))
 refine wv (.int .i64 z1119) z z z (wv (.int .i64 z1119) z z z (wl_nil (tn (wp_seq (wrl (wv (.int .u64 a0) z z z (wv (.int .i64 z1119) z z z ?_)))))))
 obtain ⟨hg1129, hm⟩ := gd_some hm
 refine wv (.int .u64 (iShr .u64 a0 z1119)) z z (x_shr (of_decide_eq_true hg1129) z z) (wv (.int .u64 (bAnd .u64 (iShr .u64 a0 z1119) (1:Int))) z z z (wv (.bool ((bAnd .u64 (iShr .u64 a0 z1119) (1:Int)) == (1:Int))) z z z (wv (.bool ((bAnd .u64 (iShr .u64 a0 z1119) (1:Int)) == (1:Int))) z z z ?_)))
 refine bsplit ((bAnd .u64 (iShr .u64 a0 z1119) (1:Int)) == (1:Int)) (fun hc1130 => ?_) (fun hc1130 => ?_)
 {
 replace hm := bif_t hc1130 hm
 refine wv (.int .u64 a0) ((wanted_eq z z z (cvb hc1130)).trans z) z z (wv (r1_0) ((wanted_eq z z z (cvb hc1130)).trans z) z z (wv (.int .i64 z1119) ((wanted_eq z z z (cvb hc1130)).trans z) z z ?_))
 obtain ⟨x1131, hx1132, hm⟩ := bind_some hm
 obtain ⟨h1133, h1134, hi1135⟩ := geto_some hx1132
 refine wv (.pointer (some (eAddr r1_0 (z1119.toNat * 1 + 0)))) ((wanted_eq z z z (cvb hc1130)).trans z) z (x_index z z underlying40 sizeOf66 (rd_sliceV f1_0) h1133 h1134) (wv (.int .u64 x1131) ((wanted_eq z z z (cvb hc1130)).trans z) z (x_load z isAgg66 (rd_load f1_0 (HL.le.refl _) hst hi1135 (by rintro _ rfl; rfl))) (wv (.int .u64 (bAndNot .u64 a0 x1131)) ((wanted_eq z z z (cvb hc1130)).trans z) z z (wv (.bool ((bAndNot .u64 a0 x1131) == (0:Int))) ((wanted_eq z z z (cvb hc1130)).trans z) z z (wv (.bool ((bAndNot .u64 a0 x1131) == (0:Int))) z z (x_pick_t hc1130 z z) (wl_nil (tn ?_))))))
 refine bsplit ((bAndNot .u64 a0 x1131) == (0:Int)) (fun hc1136 => ?_) (fun hc1136 => ?_)
 {
 replace hm := bif_t hc1136 hm
 refine wp_ift (cvb hc1136) ?_
 refine wp_seq (wrl (wv (.int .i64 z1119) z z z (wv (.int .i64 z1119) z z z (wv (.bool true) z z z (wl_nil (tn (wp_ret (blk_r (then_r (then_r ?_))))))))))
 replace hm := inr_up hm hx1126
 refine blk_r (then_r ?_)
 obtain rfl := some_inj hm
 refine post_ret (vs := [I6 z1119, .bool true]) results26 (rvs_cons (rv_tmp z) (rvs_cons (rv_tmp z) rvs_nil)) ?_
 exact ⟨z, hst.keep0⟩
}
 {
 replace hm := bif_f hc1136 hm
 refine wp_iff (cvb hc1136) ?_
 refine wp_skip (blk_n (tn (wrl ?_)))
 refine wv (.int .i64 (i64.wrap (z1119 + (1:Int)))) z z z (wv (.int .i64 (i64.wrap (z1119 + (1:Int)))) z z z (wl_nil (tn ?_)))
 replace hst := hst.keep0
 obtain rfl := some_inj hm
 exact ⟨_, Nat.lt_succ_self _, (i64.wrap (z1119 + (1:Int))), _, hx1126, (fu 0 (.int .u64 a0) z (fu 1 r1_0 z (fu 8 (.int .i64 ((a1).length : Int)) z (fu 9 (.int .i64 (i64.wrap (z1119 + (1:Int)))) z z)))), hst⟩
}
}
 {
 replace hm := bif_f hc1130 hm
 refine wo hc1130 z z z z z z (wo hc1130 z z z z z z (wo hc1130 z z z z z z (wo hc1130 z z z z z z (wo hc1130 z z z z z z (wo hc1130 z z z z z z (wo hc1130 z z z z z z (wv (.bool false) z z (x_pick_f hc1130 z z) (wl_nil (tn ?_)))))))))
 refine wp_iff z ?_
 refine wp_skip (blk_n (tn (wrl ?_)))
 refine wv (.int .i64 (i64.wrap (z1119 + (1:Int)))) z z z (wv (.int .i64 (i64.wrap (z1119 + (1:Int)))) z z z (wl_nil (tn ?_)))
 replace hst := hst.keep0
 obtain rfl := some_inj hm
 exact ⟨_, Nat.lt_succ_self _, (i64.wrap (z1119 + (1:Int))), _, hx1126, (fu 0 (.int .u64 a0) z (fu 1 r1_0 z (fu 8 (.int .i64 ((a1).length : Int)) z (fu 9 (.int .i64 (i64.wrap (z1119 + (1:Int)))) z z)))), hst⟩
}
}
 {
 replace hm := bif_f hc1128 hm
 refine wp_iff (cvb hc1128) ?_
 refine wp_exit (then_x (then_x ?_))
 replace hm := inr_up hm hx1126
 refine blk_x (tn (wp_seq (wrl ?_)))
 refine wv (.int .i64 (0:Int)) z z z (wv (.bool false) z z z (wl_nil (tn (wp_ret ?_))))
 obtain rfl := some_inj hm
 refine post_ret (vs := [Zi, .bool false]) results26 (rvs_cons (rv_tmp z) (rvs_cons (rv_tmp z) rvs_nil)) ?_
 exact ⟨z, hst.keep0⟩
}
}

theorem math_bits_OnesCount64_ref {w0 w : World} {I : HL} {R : SP} {a0 : Int}  (hst : St w0 w I [] R) {r : (Int)} (hm : math_bits_OnesCount64 a0 = some r) :
  Calls prog 30 #[U6 a0] w fun e w' => e = .returned (.int .i64 r) ∧ St w0 w' I [] R := by {
 unfold math_bits_OnesCount64 at hm
 refine calls_start (args := [U6 a0]) func30 z ntmps30 (Nat.le_of_ble_eq_true z) ?_
 refine wp_seq (wrl (wv (.int .i64 (0:Int)) z z z (wl_nil (tn (wp_seq (wrl (wv (.int .u64 a0) z z z (wv (.int .u64 (iShr .u64 a0 (1:Int))) z z (x_shr (by decide) z z) (wv (.int .u64 (bAnd .u64 (iShr .u64 a0 (1:Int)) (6148914691236517205:Int))) z z z (wv (.int .u64 a0) z z z (wv (.int .u64 (bAnd .u64 a0 (6148914691236517205:Int))) z z z (wv (.int .u64 (u64.wrap ((bAnd .u64 (iShr .u64 a0 (1:Int)) (6148914691236517205:Int)) + (bAnd .u64 a0 (6148914691236517205:Int))))) z z z (wv (.int .u64 (u64.wrap ((bAnd .u64 (iShr .u64 a0 (1:Int)) (6148914691236517205:Int)) + (bAnd .u64 a0 (6148914691236517205:Int))))) z z z (wl_nil (tn (wp_seq (wrl (wv (.int .u64 (u64.wrap ((bAnd .u64 (iShr .u64 a0 (1:Int)) (6148914691236517205:Int)) + (bAnd .u64 a0 (6148914691236517205:Int))))) z z z (wv (.int .u64 (iShr .u64 (u64.wrap ((bAnd .u64 (iShr .u64 a0 (1:Int)) (6148914691236517205:Int)) + (bAnd .u64 a0 (6148914691236517205:Int)))) (2:Int))) z z (x_shr (by decide) z z) ?_)))))))))))))))))))
 refine wv (.int .u64 (bAnd .u64 (iShr .u64 (u64.wrap ((bAnd .u64 (iShr .u64 a0 (1:Int)) (6148914691236517205:Int)) + (bAnd .u64 a0 (6148914691236517205:Int)))) (2:Int)) (3689348814741910323:Int))) z z z (wv (.int .u64 (u64.wrap ((bAnd .u64 (iShr .u64 a0 (1:Int)) (6148914691236517205:Int)) + (bAnd .u64 a0 (6148914691236517205:Int))))) z z z (wv (.int .u64 (bAnd .u64 (u64.wrap ((bAnd .u64 (iShr .u64 a0 (1:Int)) (6148914691236517205:Int)) + (bAnd .u64 a0 (6148914691236517205:Int)))) (3689348814741910323:Int))) z z z (wv (.int .u64 (u64.wrap ((bAnd .u64 (iShr .u64 (u64.wrap ((bAnd .u64 (iShr .u64 a0 (1:Int)) (6148914691236517205:Int)) + (bAnd .u64 a0 (6148914691236517205:Int)))) (2:Int)) (3689348814741910323:Int)) + (bAnd .u64 (u64.wrap ((bAnd .u64 (iShr .u64 a0 (1:Int)) (6148914691236517205:Int)) + (bAnd .u64 a0 (6148914691236517205:Int)))) (3689348814741910323:Int))))) z z z (wv (.int .u64 (u64.wrap ((bAnd .u64 (iShr .u64 (u64.wrap ((bAnd .u64 (iShr .u64 a0 (1:Int)) (6148914691236517205:Int)) + (bAnd .u64 a0 (6148914691236517205:Int)))) (2:Int)) (3689348814741910323:Int)) + (bAnd .u64 (u64.wrap ((bAnd .u64 (iShr .u64 a0 (1:Int)) (6148914691236517205:Int)) + (bAnd .u64 a0 (6148914691236517205:Int)))) (3689348814741910323:Int))))) z z z (wl_nil (tn (wp_seq (wrl (wv (.int .u64 (u64.wrap ((bAnd .u64 (iShr .u64 (u64.wrap ((bAnd .u64 (iShr .u64 a0 (1:Int)) (6148914691236517205:Int)) + (bAnd .u64 a0 (6148914691236517205:Int)))) (2:Int)) (3689348814741910323:Int)) + (bAnd .u64 (u64.wrap ((bAnd .u64 (iShr .u64 a0 (1:Int)) (6148914691236517205:Int)) + (bAnd .u64 a0 (6148914691236517205:Int)))) (3689348814741910323:Int))))) z z z (wv (.int .u64 (iShr .u64 (u64.wrap ((bAnd .u64 (iShr .u64 (u64.wrap ((bAnd .u64 (iShr .u64 a0 (1:Int)) (6148914691236517205:Int)) + (bAnd .u64 a0 (6148914691236517205:Int)))) (2:Int)) (3689348814741910323:Int)) + (bAnd .u64 (u64.wrap ((bAnd .u64 (iShr .u64 a0 (1:Int)) (6148914691236517205:Int)) + (bAnd .u64 a0 (6148914691236517205:Int)))) (3689348814741910323:Int)))) (4:Int))) z z (x_shr (by decide) z z) (wv (.int .u64 (u64.wrap ((bAnd .u64 (iShr .u64 (u64.wrap ((bAnd .u64 (iShr .u64 a0 (1:Int)) (6148914691236517205:Int)) + (bAnd .u64 a0 (6148914691236517205:Int)))) (2:Int)) (3689348814741910323:Int)) + (bAnd .u64 (u64.wrap ((bAnd .u64 (iShr .u64 a0 (1:Int)) (6148914691236517205:Int)) + (bAnd .u64 a0 (6148914691236517205:Int)))) (3689348814741910323:Int))))) z z z (wv (.int .u64 (u64.wrap ((iShr .u64 (u64.wrap ((bAnd .u64 (iShr .u64 (u64.wrap ((bAnd .u64 (iShr .u64 a0 (1:Int)) (6148914691236517205:Int)) + (bAnd .u64 a0 (6148914691236517205:Int)))) (2:Int)) (3689348814741910323:Int)) + (bAnd .u64 (u64.wrap ((bAnd .u64 (iShr .u64 a0 (1:Int)) (6148914691236517205:Int)) + (bAnd .u64 a0 (6148914691236517205:Int)))) (3689348814741910323:Int)))) (4:Int)) + (u64.wrap ((bAnd .u64 (iShr .u64 (u64.wrap ((bAnd .u64 (iShr .u64 a0 (1:Int)) (6148914691236517205:Int)) + (bAnd .u64 a0 (6148914691236517205:Int)))) (2:Int)) (3689348814741910323:Int)) + (bAnd .u64 (u64.wrap ((bAnd .u64 (iShr .u64 a0 (1:Int)) (6148914691236517205:Int)) + (bAnd .u64 a0 (6148914691236517205:Int)))) (3689348814741910323:Int))))))) z z z (wv (.int .u64 (bAnd .u64 (u64.wrap ((iShr .u64 (u64.wrap ((bAnd .u64 (iShr .u64 (u64.wrap ((bAnd .u64 (iShr .u64 a0 (1:Int)) (6148914691236517205:Int)) + (bAnd .u64 a0 (6148914691236517205:Int)))) (2:Int)) (3689348814741910323:Int)) + (bAnd .u64 (u64.wrap ((bAnd .u64 (iShr .u64 a0 (1:Int)) (6148914691236517205:Int)) + (bAnd .u64 a0 (6148914691236517205:Int)))) (3689348814741910323:Int)))) (4:Int)) + (u64.wrap ((bAnd .u64 (iShr .u64 (u64.wrap ((bAnd .u64 (iShr .u64 a0 (1:Int)) (6148914691236517205:Int)) + (bAnd .u64 a0 (6148914691236517205:Int)))) (2:Int)) (3689348814741910323:Int)) + (bAnd .u64 (u64.wrap ((bAnd .u64 (iShr .u64 a0 (1:Int)) (6148914691236517205:Int)) + (bAnd .u64 a0 (6148914691236517205:Int)))) (3689348814741910323:Int)))))) (1085102592571150095:Int))) z z z (wv (.int .u64 (bAnd .u64 (u64.wrap ((iShr .u64 (u64.wrap ((bAnd .u64 (iShr .u64 (u64.wrap ((bAnd .u64 (iShr .u64 a0 (1:Int)) (6148914691236517205:Int)) + (bAnd .u64 a0 (6148914691236517205:Int)))) (2:Int)) (3689348814741910323:Int)) + (bAnd .u64 (u64.wrap ((bAnd .u64 (iShr .u64 a0 (1:Int)) (6148914691236517205:Int)) + (bAnd .u64 a0 (6148914691236517205:Int)))) (3689348814741910323:Int)))) (4:Int)) + (u64.wrap ((bAnd .u64 (iShr .u64 (u64.wrap ((bAnd .u64 (iShr .u64 a0 (1:Int)) (6148914691236517205:Int)) + (bAnd .u64 a0 (6148914691236517205:Int)))) (2:Int)) (3689348814741910323:Int)) + (bAnd .u64 (u64.wrap ((bAnd .u64 (iShr .u64 a0 (1:Int)) (6148914691236517205:Int)) + (bAnd .u64 a0 (6148914691236517205:Int)))) (3689348814741910323:Int)))))) (1085102592571150095:Int))) z z z (wl_nil (tn (wp_seq (wrl ?_))))))))))))))))))
 refine wv (.int .u64 (bAnd .u64 (u64.wrap ((iShr .u64 (u64.wrap ((bAnd .u64 (iShr .u64 (u64.wrap ((bAnd .u64 (iShr .u64 a0 (1:Int)) (6148914691236517205:Int)) + (bAnd .u64 a0 (6148914691236517205:Int)))) (2:Int)) (3689348814741910323:Int)) + (bAnd .u64 (u64.wrap ((bAnd .u64 (iShr .u64 a0 (1:Int)) (6148914691236517205:Int)) + (bAnd .u64 a0 (6148914691236517205:Int)))) (3689348814741910323:Int)))) (4:Int)) + (u64.wrap ((bAnd .u64 (iShr .u64 (u64.wrap ((bAnd .u64 (iShr .u64 a0 (1:Int)) (6148914691236517205:Int)) + (bAnd .u64 a0 (6148914691236517205:Int)))) (2:Int)) (3689348814741910323:Int)) + (bAnd .u64 (u64.wrap ((bAnd .u64 (iShr .u64 a0 (1:Int)) (6148914691236517205:Int)) + (bAnd .u64 a0 (6148914691236517205:Int)))) (3689348814741910323:Int)))))) (1085102592571150095:Int))) z z z (wv (.int .u64 (bAnd .u64 (u64.wrap ((iShr .u64 (u64.wrap ((bAnd .u64 (iShr .u64 (u64.wrap ((bAnd .u64 (iShr .u64 a0 (1:Int)) (6148914691236517205:Int)) + (bAnd .u64 a0 (6148914691236517205:Int)))) (2:Int)) (3689348814741910323:Int)) + (bAnd .u64 (u64.wrap ((bAnd .u64 (iShr .u64 a0 (1:Int)) (6148914691236517205:Int)) + (bAnd .u64 a0 (6148914691236517205:Int)))) (3689348814741910323:Int)))) (4:Int)) + (u64.wrap ((bAnd .u64 (iShr .u64 (u64.wrap ((bAnd .u64 (iShr .u64 a0 (1:Int)) (6148914691236517205:Int)) + (bAnd .u64 a0 (6148914691236517205:Int)))) (2:Int)) (3689348814741910323:Int)) + (bAnd .u64 (u64.wrap ((bAnd .u64 (iShr .u64 a0 (1:Int)) (6148914691236517205:Int)) + (bAnd .u64 a0 (6148914691236517205:Int)))) (3689348814741910323:Int)))))) (1085102592571150095:Int))) z z z (wv (.int .u64 (iShr .u64 (bAnd .u64 (u64.wrap ((iShr .u64 (u64.wrap ((bAnd .u64 (iShr .u64 (u64.wrap ((bAnd .u64 (iShr .u64 a0 (1:Int)) (6148914691236517205:Int)) + (bAnd .u64 a0 (6148914691236517205:Int)))) (2:Int)) (3689348814741910323:Int)) + (bAnd .u64 (u64.wrap ((bAnd .u64 (iShr .u64 a0 (1:Int)) (6148914691236517205:Int)) + (bAnd .u64 a0 (6148914691236517205:Int)))) (3689348814741910323:Int)))) (4:Int)) + (u64.wrap ((bAnd .u64 (iShr .u64 (u64.wrap ((bAnd .u64 (iShr .u64 a0 (1:Int)) (6148914691236517205:Int)) + (bAnd .u64 a0 (6148914691236517205:Int)))) (2:Int)) (3689348814741910323:Int)) + (bAnd .u64 (u64.wrap ((bAnd .u64 (iShr .u64 a0 (1:Int)) (6148914691236517205:Int)) + (bAnd .u64 a0 (6148914691236517205:Int)))) (3689348814741910323:Int)))))) (1085102592571150095:Int)) (8:Int))) z z (x_shr (by decide) z z) (wv (.int .u64 (u64.wrap ((bAnd .u64 (u64.wrap ((iShr .u64 (u64.wrap ((bAnd .u64 (iShr .u64 (u64.wrap ((bAnd .u64 (iShr .u64 a0 (1:Int)) (6148914691236517205:Int)) + (bAnd .u64 a0 (6148914691236517205:Int)))) (2:Int)) (3689348814741910323:Int)) + (bAnd .u64 (u64.wrap ((bAnd .u64 (iShr .u64 a0 (1:Int)) (6148914691236517205:Int)) + (bAnd .u64 a0 (6148914691236517205:Int)))) (3689348814741910323:Int)))) (4:Int)) + (u64.wrap ((bAnd .u64 (iShr .u64 (u64.wrap ((bAnd .u64 (iShr .u64 a0 (1:Int)) (6148914691236517205:Int)) + (bAnd .u64 a0 (6148914691236517205:Int)))) (2:Int)) (3689348814741910323:Int)) + (bAnd .u64 (u64.wrap ((bAnd .u64 (iShr .u64 a0 (1:Int)) (6148914691236517205:Int)) + (bAnd .u64 a0 (6148914691236517205:Int)))) (3689348814741910323:Int)))))) (1085102592571150095:Int)) + (iShr .u64 (bAnd .u64 (u64.wrap ((iShr .u64 (u64.wrap ((bAnd .u64 (iShr .u64 (u64.wrap ((bAnd .u64 (iShr .u64 a0 (1:Int)) (6148914691236517205:Int)) + (bAnd .u64 a0 (6148914691236517205:Int)))) (2:Int)) (3689348814741910323:Int)) + (bAnd .u64 (u64.wrap ((bAnd .u64 (iShr .u64 a0 (1:Int)) (6148914691236517205:Int)) + (bAnd .u64 a0 (6148914691236517205:Int)))) (3689348814741910323:Int)))) (4:Int)) + (u64.wrap ((bAnd .u64 (iShr .u64 (u64.wrap ((bAnd .u64 (iShr .u64 a0 (1:Int)) (6148914691236517205:Int)) + (bAnd .u64 a0 (6148914691236517205:Int)))) (2:Int)) (3689348814741910323:Int)) + (bAnd .u64 (u64.wrap ((bAnd .u64 (iShr .u64 a0 (1:Int)) (6148914691236517205:Int)) + (bAnd .u64 a0 (6148914691236517205:Int)))) (3689348814741910323:Int)))))) (1085102592571150095:Int)) (8:Int))))) z z z (wv (.int .u64 (u64.wrap ((bAnd .u64 (u64.wrap ((iShr .u64 (u64.wrap ((bAnd .u64 (iShr .u64 (u64.wrap ((bAnd .u64 (iShr .u64 a0 (1:Int)) (6148914691236517205:Int)) + (bAnd .u64 a0 (6148914691236517205:Int)))) (2:Int)) (3689348814741910323:Int)) + (bAnd .u64 (u64.wrap ((bAnd .u64 (iShr .u64 a0 (1:Int)) (6148914691236517205:Int)) + (bAnd .u64 a0 (6148914691236517205:Int)))) (3689348814741910323:Int)))) (4:Int)) + (u64.wrap ((bAnd .u64 (iShr .u64 (u64.wrap ((bAnd .u64 (iShr .u64 a0 (1:Int)) (6148914691236517205:Int)) + (bAnd .u64 a0 (6148914691236517205:Int)))) (2:Int)) (3689348814741910323:Int)) + (bAnd .u64 (u64.wrap ((bAnd .u64 (iShr .u64 a0 (1:Int)) (6148914691236517205:Int)) + (bAnd .u64 a0 (6148914691236517205:Int)))) (3689348814741910323:Int)))))) (1085102592571150095:Int)) + (iShr .u64 (bAnd .u64 (u64.wrap ((iShr .u64 (u64.wrap ((bAnd .u64 (iShr .u64 (u64.wrap ((bAnd .u64 (iShr .u64 a0 (1:Int)) (6148914691236517205:Int)) + (bAnd .u64 a0 (6148914691236517205:Int)))) (2:Int)) (3689348814741910323:Int)) + (bAnd .u64 (u64.wrap ((bAnd .u64 (iShr .u64 a0 (1:Int)) (6148914691236517205:Int)) + (bAnd .u64 a0 (6148914691236517205:Int)))) (3689348814741910323:Int)))) (4:Int)) + (u64.wrap ((bAnd .u64 (iShr .u64 (u64.wrap ((bAnd .u64 (iShr .u64 a0 (1:Int)) (6148914691236517205:Int)) + (bAnd .u64 a0 (6148914691236517205:Int)))) (2:Int)) (3689348814741910323:Int)) + (bAnd .u64 (u64.wrap ((bAnd .u64 (iShr .u64 a0 (1:Int)) (6148914691236517205:Int)) + (bAnd .u64 a0 (6148914691236517205:Int)))) (3689348814741910323:Int)))))) (1085102592571150095:Int)) (8:Int))))) z z z (wl_nil (tn (wp_seq (wrl (wv (.int .u64 (u64.wrap ((bAnd .u64 (u64.wrap ((iShr .u64 (u64.wrap ((bAnd .u64 (iShr .u64 (u64.wrap ((bAnd .u64 (iShr .u64 a0 (1:Int)) (6148914691236517205:Int)) + (bAnd .u64 a0 (6148914691236517205:Int)))) (2:Int)) (3689348814741910323:Int)) + (bAnd .u64 (u64.wrap ((bAnd .u64 (iShr .u64 a0 (1:Int)) (6148914691236517205:Int)) + (bAnd .u64 a0 (6148914691236517205:Int)))) (3689348814741910323:Int)))) (4:Int)) + (u64.wrap ((bAnd .u64 (iShr .u64 (u64.wrap ((bAnd .u64 (iShr .u64 a0 (1:Int)) (6148914691236517205:Int)) + (bAnd .u64 a0 (6148914691236517205:Int)))) (2:Int)) (3689348814741910323:Int)) + (bAnd .u64 (u64.wrap ((bAnd .u64 (iShr .u64 a0 (1:Int)) (6148914691236517205:Int)) + (bAnd .u64 a0 (6148914691236517205:Int)))) (3689348814741910323:Int)))))) (1085102592571150095:Int)) + (iShr .u64 (bAnd .u64 (u64.wrap ((iShr .u64 (u64.wrap ((bAnd .u64 (iShr .u64 (u64.wrap ((bAnd .u64 (iShr .u64 a0 (1:Int)) (6148914691236517205:Int)) + (bAnd .u64 a0 (6148914691236517205:Int)))) (2:Int)) (3689348814741910323:Int)) + (bAnd .u64 (u64.wrap ((bAnd .u64 (iShr .u64 a0 (1:Int)) (6148914691236517205:Int)) + (bAnd .u64 a0 (6148914691236517205:Int)))) (3689348814741910323:Int)))) (4:Int)) + (u64.wrap ((bAnd .u64 (iShr .u64 (u64.wrap ((bAnd .u64 (iShr .u64 a0 (1:Int)) (6148914691236517205:Int)) + (bAnd .u64 a0 (6148914691236517205:Int)))) (2:Int)) (3689348814741910323:Int)) + (bAnd .u64 (u64.wrap ((bAnd .u64 (iShr .u64 a0 (1:Int)) (6148914691236517205:Int)) + (bAnd .u64 a0 (6148914691236517205:Int)))) (3689348814741910323:Int)))))) (1085102592571150095:Int)) (8:Int))))) z z z (wv (.int .u64 (u64.wrap ((bAnd .u64 (u64.wrap ((iShr .u64 (u64.wrap ((bAnd .u64 (iShr .u64 (u64.wrap ((bAnd .u64 (iShr .u64 a0 (1:Int)) (6148914691236517205:Int)) + (bAnd .u64 a0 (6148914691236517205:Int)))) (2:Int)) (3689348814741910323:Int)) + (bAnd .u64 (u64.wrap ((bAnd .u64 (iShr .u64 a0 (1:Int)) (6148914691236517205:Int)) + (bAnd .u64 a0 (6148914691236517205:Int)))) (3689348814741910323:Int)))) (4:Int)) + (u64.wrap ((bAnd .u64 (iShr .u64 (u64.wrap ((bAnd .u64 (iShr .u64 a0 (1:Int)) (6148914691236517205:Int)) + (bAnd .u64 a0 (6148914691236517205:Int)))) (2:Int)) (3689348814741910323:Int)) + (bAnd .u64 (u64.wrap ((bAnd .u64 (iShr .u64 a0 (1:Int)) (6148914691236517205:Int)) + (bAnd .u64 a0 (6148914691236517205:Int)))) (3689348814741910323:Int)))))) (1085102592571150095:Int)) + (iShr .u64 (bAnd .u64 (u64.wrap ((iShr .u64 (u64.wrap ((bAnd .u64 (iShr .u64 (u64.wrap ((bAnd .u64 (iShr .u64 a0 (1:Int)) (6148914691236517205:Int)) + (bAnd .u64 a0 (6148914691236517205:Int)))) (2:Int)) (3689348814741910323:Int)) + (bAnd .u64 (u64.wrap ((bAnd .u64 (iShr .u64 a0 (1:Int)) (6148914691236517205:Int)) + (bAnd .u64 a0 (6148914691236517205:Int)))) (3689348814741910323:Int)))) (4:Int)) + (u64.wrap ((bAnd .u64 (iShr .u64 (u64.wrap ((bAnd .u64 (iShr .u64 a0 (1:Int)) (6148914691236517205:Int)) + (bAnd .u64 a0 (6148914691236517205:Int)))) (2:Int)) (3689348814741910323:Int)) + (bAnd .u64 (u64.wrap ((bAnd .u64 (iShr .u64 a0 (1:Int)) (6148914691236517205:Int)) + (bAnd .u64 a0 (6148914691236517205:Int)))) (3689348814741910323:Int)))))) (1085102592571150095:Int)) (8:Int))))) z z z (wv (.int .u64 (iShr .u64 (u64.wrap ((bAnd .u64 (u64.wrap ((iShr .u64 (u64.wrap ((bAnd .u64 (iShr .u64 (u64.wrap ((bAnd .u64 (iShr .u64 a0 (1:Int)) (6148914691236517205:Int)) + (bAnd .u64 a0 (6148914691236517205:Int)))) (2:Int)) (3689348814741910323:Int)) + (bAnd .u64 (u64.wrap ((bAnd .u64 (iShr .u64 a0 (1:Int)) (6148914691236517205:Int)) + (bAnd .u64 a0 (6148914691236517205:Int)))) (3689348814741910323:Int)))) (4:Int)) + (u64.wrap ((bAnd .u64 (iShr .u64 (u64.wrap ((bAnd .u64 (iShr .u64 a0 (1:Int)) (6148914691236517205:Int)) + (bAnd .u64 a0 (6148914691236517205:Int)))) (2:Int)) (3689348814741910323:Int)) + (bAnd .u64 (u64.wrap ((bAnd .u64 (iShr .u64 a0 (1:Int)) (6148914691236517205:Int)) + (bAnd .u64 a0 (6148914691236517205:Int)))) (3689348814741910323:Int)))))) (1085102592571150095:Int)) + (iShr .u64 (bAnd .u64 (u64.wrap ((iShr .u64 (u64.wrap ((bAnd .u64 (iShr .u64 (u64.wrap ((bAnd .u64 (iShr .u64 a0 (1:Int)) (6148914691236517205:Int)) + (bAnd .u64 a0 (6148914691236517205:Int)))) (2:Int)) (3689348814741910323:Int)) + (bAnd .u64 (u64.wrap ((bAnd .u64 (iShr .u64 a0 (1:Int)) (6148914691236517205:Int)) + (bAnd .u64 a0 (6148914691236517205:Int)))) (3689348814741910323:Int)))) (4:Int)) + (u64.wrap ((bAnd .u64 (iShr .u64 (u64.wrap ((bAnd .u64 (iShr .u64 a0 (1:Int)) (6148914691236517205:Int)) + (bAnd .u64 a0 (6148914691236517205:Int)))) (2:Int)) (3689348814741910323:Int)) + (bAnd .u64 (u64.wrap ((bAnd .u64 (iShr .u64 a0 (1:Int)) (6148914691236517205:Int)) + (bAnd .u64 a0 (6148914691236517205:Int)))) (3689348814741910323:Int)))))) (1085102592571150095:Int)) (8:Int)))) (16:Int))) z z (x_shr (by decide) z z) (wv (.int .u64 (u64.wrap ((u64.wrap ((bAnd .u64 (u64.wrap ((iShr .u64 (u64.wrap ((bAnd .u64 (iShr .u64 (u64.wrap ((bAnd .u64 (iShr .u64 a0 (1:Int)) (6148914691236517205:Int)) + (bAnd .u64 a0 (6148914691236517205:Int)))) (2:Int)) (3689348814741910323:Int)) + (bAnd .u64 (u64.wrap ((bAnd .u64 (iShr .u64 a0 (1:Int)) (6148914691236517205:Int)) + (bAnd .u64 a0 (6148914691236517205:Int)))) (3689348814741910323:Int)))) (4:Int)) + (u64.wrap ((bAnd .u64 (iShr .u64 (u64.wrap ((bAnd .u64 (iShr .u64 a0 (1:Int)) (6148914691236517205:Int)) + (bAnd .u64 a0 (6148914691236517205:Int)))) (2:Int)) (3689348814741910323:Int)) + (bAnd .u64 (u64.wrap ((bAnd .u64 (iShr .u64 a0 (1:Int)) (6148914691236517205:Int)) + (bAnd .u64 a0 (6148914691236517205:Int)))) (3689348814741910323:Int)))))) (1085102592571150095:Int)) + (iShr .u64 (bAnd .u64 (u64.wrap ((iShr .u64 (u64.wrap ((bAnd .u64 (iShr .u64 (u64.wrap ((bAnd .u64 (iShr .u64 a0 (1:Int)) (6148914691236517205:Int)) + (bAnd .u64 a0 (6148914691236517205:Int)))) (2:Int)) (3689348814741910323:Int)) + (bAnd .u64 (u64.wrap ((bAnd .u64 (iShr .u64 a0 (1:Int)) (6148914691236517205:Int)) + (bAnd .u64 a0 (6148914691236517205:Int)))) (3689348814741910323:Int)))) (4:Int)) + (u64.wrap ((bAnd .u64 (iShr .u64 (u64.wrap ((bAnd .u64 (iShr .u64 a0 (1:Int)) (6148914691236517205:Int)) + (bAnd .u64 a0 (6148914691236517205:Int)))) (2:Int)) (3689348814741910323:Int)) + (bAnd .u64 (u64.wrap ((bAnd .u64 (iShr .u64 a0 (1:Int)) (6148914691236517205:Int)) + (bAnd .u64 a0 (6148914691236517205:Int)))) (3689348814741910323:Int)))))) (1085102592571150095:Int)) (8:Int)))) + (iShr .u64 (u64.wrap ((bAnd .u64 (u64.wrap ((iShr .u64 (u64.wrap ((bAnd .u64 (iShr .u64 (u64.wrap ((bAnd .u64 (iShr .u64 a0 (1:Int)) (6148914691236517205:Int)) + (bAnd .u64 a0 (6148914691236517205:Int)))) (2:Int)) (3689348814741910323:Int)) + (bAnd .u64 (u64.wrap ((bAnd .u64 (iShr .u64 a0 (1:Int)) (6148914691236517205:Int)) + (bAnd .u64 a0 (6148914691236517205:Int)))) (3689348814741910323:Int)))) (4:Int)) + (u64.wrap ((bAnd .u64 (iShr .u64 (u64.wrap ((bAnd .u64 (iShr .u64 a0 (1:Int)) (6148914691236517205:Int)) + (bAnd .u64 a0 (6148914691236517205:Int)))) (2:Int)) (3689348814741910323:Int)) + (bAnd .u64 (u64.wrap ((bAnd .u64 (iShr .u64 a0 (1:Int)) (6148914691236517205:Int)) + (bAnd .u64 a0 (6148914691236517205:Int)))) (3689348814741910323:Int)))))) (1085102592571150095:Int)) + (iShr .u64 (bAnd .u64 (u64.wrap ((iShr .u64 (u64.wrap ((bAnd .u64 (iShr .u64 (u64.wrap ((bAnd .u64 (iShr .u64 a0 (1:Int)) (6148914691236517205:Int)) + (bAnd .u64 a0 (6148914691236517205:Int)))) (2:Int)) (3689348814741910323:Int)) + (bAnd .u64 (u64.wrap ((bAnd .u64 (iShr .u64 a0 (1:Int)) (6148914691236517205:Int)) + (bAnd .u64 a0 (6148914691236517205:Int)))) (3689348814741910323:Int)))) (4:Int)) + (u64.wrap ((bAnd .u64 (iShr .u64 (u64.wrap ((bAnd .u64 (iShr .u64 a0 (1:Int)) (6148914691236517205:Int)) + (bAnd .u64 a0 (6148914691236517205:Int)))) (2:Int)) (3689348814741910323:Int)) + (bAnd .u64 (u64.wrap ((bAnd .u64 (iShr .u64 a0 (1:Int)) (6148914691236517205:Int)) + (bAnd .u64 a0 (6148914691236517205:Int)))) (3689348814741910323:Int)))))) (1085102592571150095:Int)) (8:Int)))) (16:Int))))) z z z (wv (.int .u64 (u64.wrap ((u64.wrap ((bAnd .u64 (u64.wrap ((iShr .u64 (u64.wrap ((bAnd .u64 (iShr .u64 (u64.wrap ((bAnd .u64 (iShr .u64 a0 (1:Int)) (6148914691236517205:Int)) + (bAnd .u64 a0 (6148914691236517205:Int)))) (2:Int)) (3689348814741910323:Int)) + (bAnd .u64 (u64.wrap ((bAnd .u64 (iShr .u64 a0 (1:Int)) (6148914691236517205:Int)) + (bAnd .u64 a0 (6148914691236517205:Int)))) (3689348814741910323:Int)))) (4:Int)) + (u64.wrap ((bAnd .u64 (iShr .u64 (u64.wrap ((bAnd .u64 (iShr .u64 a0 (1:Int)) (6148914691236517205:Int)) + (bAnd .u64 a0 (6148914691236517205:Int)))) (2:Int)) (3689348814741910323:Int)) + (bAnd .u64 (u64.wrap ((bAnd .u64 (iShr .u64 a0 (1:Int)) (6148914691236517205:Int)) + (bAnd .u64 a0 (6148914691236517205:Int)))) (3689348814741910323:Int)))))) (1085102592571150095:Int)) + (iShr .u64 (bAnd .u64 (u64.wrap ((iShr .u64 (u64.wrap ((bAnd .u64 (iShr .u64 (u64.wrap ((bAnd .u64 (iShr .u64 a0 (1:Int)) (6148914691236517205:Int)) + (bAnd .u64 a0 (6148914691236517205:Int)))) (2:Int)) (3689348814741910323:Int)) + (bAnd .u64 (u64.wrap ((bAnd .u64 (iShr .u64 a0 (1:Int)) (6148914691236517205:Int)) + (bAnd .u64 a0 (6148914691236517205:Int)))) (3689348814741910323:Int)))) (4:Int)) + (u64.wrap ((bAnd .u64 (iShr .u64 (u64.wrap ((bAnd .u64 (iShr .u64 a0 (1:Int)) (6148914691236517205:Int)) + (bAnd .u64 a0 (6148914691236517205:Int)))) (2:Int)) (3689348814741910323:Int)) + (bAnd .u64 (u64.wrap ((bAnd .u64 (iShr .u64 a0 (1:Int)) (6148914691236517205:Int)) + (bAnd .u64 a0 (6148914691236517205:Int)))) (3689348814741910323:Int)))))) (1085102592571150095:Int)) (8:Int)))) + (iShr .u64 (u64.wrap ((bAnd .u64 (u64.wrap ((iShr .u64 (u64.wrap ((bAnd .u64 (iShr .u64 (u64.wrap ((bAnd .u64 (iShr .u64 a0 (1:Int)) (6148914691236517205:Int)) + (bAnd .u64 a0 (6148914691236517205:Int)))) (2:Int)) (3689348814741910323:Int)) + (bAnd .u64 (u64.wrap ((bAnd .u64 (iShr .u64 a0 (1:Int)) (6148914691236517205:Int)) + (bAnd .u64 a0 (6148914691236517205:Int)))) (3689348814741910323:Int)))) (4:Int)) + (u64.wrap ((bAnd .u64 (iShr .u64 (u64.wrap ((bAnd .u64 (iShr .u64 a0 (1:Int)) (6148914691236517205:Int)) + (bAnd .u64 a0 (6148914691236517205:Int)))) (2:Int)) (3689348814741910323:Int)) + (bAnd .u64 (u64.wrap ((bAnd .u64 (iShr .u64 a0 (1:Int)) (6148914691236517205:Int)) + (bAnd .u64 a0 (6148914691236517205:Int)))) (3689348814741910323:Int)))))) (1085102592571150095:Int)) + (iShr .u64 (bAnd .u64 (u64.wrap ((iShr .u64 (u64.wrap ((bAnd .u64 (iShr .u64 (u64.wrap ((bAnd .u64 (iShr .u64 a0 (1:Int)) (6148914691236517205:Int)) + (bAnd .u64 a0 (6148914691236517205:Int)))) (2:Int)) (3689348814741910323:Int)) + (bAnd .u64 (u64.wrap ((bAnd .u64 (iShr .u64 a0 (1:Int)) (6148914691236517205:Int)) + (bAnd .u64 a0 (6148914691236517205:Int)))) (3689348814741910323:Int)))) (4:Int)) + (u64.wrap ((bAnd .u64 (iShr .u64 (u64.wrap ((bAnd .u64 (iShr .u64 a0 (1:Int)) (6148914691236517205:Int)) + (bAnd .u64 a0 (6148914691236517205:Int)))) (2:Int)) (3689348814741910323:Int)) + (bAnd .u64 (u64.wrap ((bAnd .u64 (iShr .u64 a0 (1:Int)) (6148914691236517205:Int)) + (bAnd .u64 a0 (6148914691236517205:Int)))) (3689348814741910323:Int)))))) (1085102592571150095:Int)) (8:Int)))) (16:Int))))) z z z (wl_nil (tn (wp_seq (wrl (wv (.int .u64 (u64.wrap ((u64.wrap ((bAnd .u64 (u64.wrap ((iShr .u64 (u64.wrap ((bAnd .u64 (iShr .u64 (u64.wrap ((bAnd .u64 (iShr .u64 a0 (1:Int)) (6148914691236517205:Int)) + (bAnd .u64 a0 (6148914691236517205:Int)))) (2:Int)) (3689348814741910323:Int)) + (bAnd .u64 (u64.wrap ((bAnd .u64 (iShr .u64 a0 (1:Int)) (6148914691236517205:Int)) + (bAnd .u64 a0 (6148914691236517205:Int)))) (3689348814741910323:Int)))) (4:Int)) + (u64.wrap ((bAnd .u64 (iShr .u64 (u64.wrap ((bAnd .u64 (iShr .u64 a0 (1:Int)) (6148914691236517205:Int)) + (bAnd .u64 a0 (6148914691236517205:Int)))) (2:Int)) (3689348814741910323:Int)) + (bAnd .u64 (u64.wrap ((bAnd .u64 (iShr .u64 a0 (1:Int)) (6148914691236517205:Int)) + (bAnd .u64 a0 (6148914691236517205:Int)))) (3689348814741910323:Int)))))) (1085102592571150095:Int)) + (iShr .u64 (bAnd .u64 (u64.wrap ((iShr .u64 (u64.wrap ((bAnd .u64 (iShr .u64 (u64.wrap ((bAnd .u64 (iShr .u64 a0 (1:Int)) (6148914691236517205:Int)) + (bAnd .u64 a0 (6148914691236517205:Int)))) (2:Int)) (3689348814741910323:Int)) + (bAnd .u64 (u64.wrap ((bAnd .u64 (iShr .u64 a0 (1:Int)) (6148914691236517205:Int)) + (bAnd .u64 a0 (6148914691236517205:Int)))) (3689348814741910323:Int)))) (4:Int)) + (u64.wrap ((bAnd .u64 (iShr .u64 (u64.wrap ((bAnd .u64 (iShr .u64 a0 (1:Int)) (6148914691236517205:Int)) + (bAnd .u64 a0 (6148914691236517205:Int)))) (2:Int)) (3689348814741910323:Int)) + (bAnd .u64 (u64.wrap ((bAnd .u64 (iShr .u64 a0 (1:Int)) (6148914691236517205:Int)) + (bAnd .u64 a0 (6148914691236517205:Int)))) (3689348814741910323:Int)))))) (1085102592571150095:Int)) (8:Int)))) + (iShr .u64 (u64.wrap ((bAnd .u64 (u64.wrap ((iShr .u64 (u64.wrap ((bAnd .u64 (iShr .u64 (u64.wrap ((bAnd .u64 (iShr .u64 a0 (1:Int)) (6148914691236517205:Int)) + (bAnd .u64 a0 (6148914691236517205:Int)))) (2:Int)) (3689348814741910323:Int)) + (bAnd .u64 (u64.wrap ((bAnd .u64 (iShr .u64 a0 (1:Int)) (6148914691236517205:Int)) + (bAnd .u64 a0 (6148914691236517205:Int)))) (3689348814741910323:Int)))) (4:Int)) + (u64.wrap ((bAnd .u64 (iShr .u64 (u64.wrap ((bAnd .u64 (iShr .u64 a0 (1:Int)) (6148914691236517205:Int)) + (bAnd .u64 a0 (6148914691236517205:Int)))) (2:Int)) (3689348814741910323:Int)) + (bAnd .u64 (u64.wrap ((bAnd .u64 (iShr .u64 a0 (1:Int)) (6148914691236517205:Int)) + (bAnd .u64 a0 (6148914691236517205:Int)))) (3689348814741910323:Int)))))) (1085102592571150095:Int)) + (iShr .u64 (bAnd .u64 (u64.wrap ((iShr .u64 (u64.wrap ((bAnd .u64 (iShr .u64 (u64.wrap ((bAnd .u64 (iShr .u64 a0 (1:Int)) (6148914691236517205:Int)) + (bAnd .u64 a0 (6148914691236517205:Int)))) (2:Int)) (3689348814741910323:Int)) + (bAnd .u64 (u64.wrap ((bAnd .u64 (iShr .u64 a0 (1:Int)) (6148914691236517205:Int)) + (bAnd .u64 a0 (6148914691236517205:Int)))) (3689348814741910323:Int)))) (4:Int)) + (u64.wrap ((bAnd .u64 (iShr .u64 (u64.wrap ((bAnd .u64 (iShr .u64 a0 (1:Int)) (6148914691236517205:Int)) + (bAnd .u64 a0 (6148914691236517205:Int)))) (2:Int)) (3689348814741910323:Int)) + (bAnd .u64 (u64.wrap ((bAnd .u64 (iShr .u64 a0 (1:Int)) (6148914691236517205:Int)) + (bAnd .u64 a0 (6148914691236517205:Int)))) (3689348814741910323:Int)))))) (1085102592571150095:Int)) (8:Int)))) (16:Int))))) z z z ?_))))))))))))))))))
 refine wv (.int .u64 (u64.wrap ((u64.wrap ((bAnd .u64 (u64.wrap ((iShr .u64 (u64.wrap ((bAnd .u64 (iShr .u64 (u64.wrap ((bAnd .u64 (iShr .u64 a0 (1:Int)) (6148914691236517205:Int)) + (bAnd .u64 a0 (6148914691236517205:Int)))) (2:Int)) (3689348814741910323:Int)) + (bAnd .u64 (u64.wrap ((bAnd .u64 (iShr .u64 a0 (1:Int)) (6148914691236517205:Int)) + (bAnd .u64 a0 (6148914691236517205:Int)))) (3689348814741910323:Int)))) (4:Int)) + (u64.wrap ((bAnd .u64 (iShr .u64 (u64.wrap ((bAnd .u64 (iShr .u64 a0 (1:Int)) (6148914691236517205:Int)) + (bAnd .u64 a0 (6148914691236517205:Int)))) (2:Int)) (3689348814741910323:Int)) + (bAnd .u64 (u64.wrap ((bAnd .u64 (iShr .u64 a0 (1:Int)) (6148914691236517205:Int)) + (bAnd .u64 a0 (6148914691236517205:Int)))) (3689348814741910323:Int)))))) (1085102592571150095:Int)) + (iShr .u64 (bAnd .u64 (u64.wrap ((iShr .u64 (u64.wrap ((bAnd .u64 (iShr .u64 (u64.wrap ((bAnd .u64 (iShr .u64 a0 (1:Int)) (6148914691236517205:Int)) + (bAnd .u64 a0 (6148914691236517205:Int)))) (2:Int)) (3689348814741910323:Int)) + (bAnd .u64 (u64.wrap ((bAnd .u64 (iShr .u64 a0 (1:Int)) (6148914691236517205:Int)) + (bAnd .u64 a0 (6148914691236517205:Int)))) (3689348814741910323:Int)))) (4:Int)) + (u64.wrap ((bAnd .u64 (iShr .u64 (u64.wrap ((bAnd .u64 (iShr .u64 a0 (1:Int)) (6148914691236517205:Int)) + (bAnd .u64 a0 (6148914691236517205:Int)))) (2:Int)) (3689348814741910323:Int)) + (bAnd .u64 (u64.wrap ((bAnd .u64 (iShr .u64 a0 (1:Int)) (6148914691236517205:Int)) + (bAnd .u64 a0 (6148914691236517205:Int)))) (3689348814741910323:Int)))))) (1085102592571150095:Int)) (8:Int)))) + (iShr .u64 (u64.wrap ((bAnd .u64 (u64.wrap ((iShr .u64 (u64.wrap ((bAnd .u64 (iShr .u64 (u64.wrap ((bAnd .u64 (iShr .u64 a0 (1:Int)) (6148914691236517205:Int)) + (bAnd .u64 a0 (6148914691236517205:Int)))) (2:Int)) (3689348814741910323:Int)) + (bAnd .u64 (u64.wrap ((bAnd .u64 (iShr .u64 a0 (1:Int)) (6148914691236517205:Int)) + (bAnd .u64 a0 (6148914691236517205:Int)))) (3689348814741910323:Int)))) (4:Int)) + (u64.wrap ((bAnd .u64 (iShr .u64 (u64.wrap ((bAnd .u64 (iShr .u64 a0 (1:Int)) (6148914691236517205:Int)) + (bAnd .u64 a0 (6148914691236517205:Int)))) (2:Int)) (3689348814741910323:Int)) + (bAnd .u64 (u64.wrap ((bAnd .u64 (iShr .u64 a0 (1:Int)) (6148914691236517205:Int)) + (bAnd .u64 a0 (6148914691236517205:Int)))) (3689348814741910323:Int)))))) (1085102592571150095:Int)) + (iShr .u64 (bAnd .u64 (u64.wrap ((iShr .u64 (u64.wrap ((bAnd .u64 (iShr .u64 (u64.wrap ((bAnd .u64 (iShr .u64 a0 (1:Int)) (6148914691236517205:Int)) + (bAnd .u64 a0 (6148914691236517205:Int)))) (2:Int)) (3689348814741910323:Int)) + (bAnd .u64 (u64.wrap ((bAnd .u64 (iShr .u64 a0 (1:Int)) (6148914691236517205:Int)) + (bAnd .u64 a0 (6148914691236517205:Int)))) (3689348814741910323:Int)))) (4:Int)) + (u64.wrap ((bAnd .u64 (iShr .u64 (u64.wrap ((bAnd .u64 (iShr .u64 a0 (1:Int)) (6148914691236517205:Int)) + (bAnd .u64 a0 (6148914691236517205:Int)))) (2:Int)) (3689348814741910323:Int)) + (bAnd .u64 (u64.wrap ((bAnd .u64 (iShr .u64 a0 (1:Int)) (6148914691236517205:Int)) + (bAnd .u64 a0 (6148914691236517205:Int)))) (3689348814741910323:Int)))))) (1085102592571150095:Int)) (8:Int)))) (16:Int))))) z z z (wv (.int .u64 (iShr .u64 (u64.wrap ((u64.wrap ((bAnd .u64 (u64.wrap ((iShr .u64 (u64.wrap ((bAnd .u64 (iShr .u64 (u64.wrap ((bAnd .u64 (iShr .u64 a0 (1:Int)) (6148914691236517205:Int)) + (bAnd .u64 a0 (6148914691236517205:Int)))) (2:Int)) (3689348814741910323:Int)) + (bAnd .u64 (u64.wrap ((bAnd .u64 (iShr .u64 a0 (1:Int)) (6148914691236517205:Int)) + (bAnd .u64 a0 (6148914691236517205:Int)))) (3689348814741910323:Int)))) (4:Int)) + (u64.wrap ((bAnd .u64 (iShr .u64 (u64.wrap ((bAnd .u64 (iShr .u64 a0 (1:Int)) (6148914691236517205:Int)) + (bAnd .u64 a0 (6148914691236517205:Int)))) (2:Int)) (3689348814741910323:Int)) + (bAnd .u64 (u64.wrap ((bAnd .u64 (iShr .u64 a0 (1:Int)) (6148914691236517205:Int)) + (bAnd .u64 a0 (6148914691236517205:Int)))) (3689348814741910323:Int)))))) (1085102592571150095:Int)) + (iShr .u64 (bAnd .u64 (u64.wrap ((iShr .u64 (u64.wrap ((bAnd .u64 (iShr .u64 (u64.wrap ((bAnd .u64 (iShr .u64 a0 (1:Int)) (6148914691236517205:Int)) + (bAnd .u64 a0 (6148914691236517205:Int)))) (2:Int)) (3689348814741910323:Int)) + (bAnd .u64 (u64.wrap ((bAnd .u64 (iShr .u64 a0 (1:Int)) (6148914691236517205:Int)) + (bAnd .u64 a0 (6148914691236517205:Int)))) (3689348814741910323:Int)))) (4:Int)) + (u64.wrap ((bAnd .u64 (iShr .u64 (u64.wrap ((bAnd .u64 (iShr .u64 a0 (1:Int)) (6148914691236517205:Int)) + (bAnd .u64 a0 (6148914691236517205:Int)))) (2:Int)) (3689348814741910323:Int)) + (bAnd .u64 (u64.wrap ((bAnd .u64 (iShr .u64 a0 (1:Int)) (6148914691236517205:Int)) + (bAnd .u64 a0 (6148914691236517205:Int)))) (3689348814741910323:Int)))))) (1085102592571150095:Int)) (8:Int)))) + (iShr .u64 (u64.wrap ((bAnd .u64 (u64.wrap ((iShr .u64 (u64.wrap ((bAnd .u64 (iShr .u64 (u64.wrap ((bAnd .u64 (iShr .u64 a0 (1:Int)) (6148914691236517205:Int)) + (bAnd .u64 a0 (6148914691236517205:Int)))) (2:Int)) (3689348814741910323:Int)) + (bAnd .u64 (u64.wrap ((bAnd .u64 (iShr .u64 a0 (1:Int)) (6148914691236517205:Int)) + (bAnd .u64 a0 (6148914691236517205:Int)))) (3689348814741910323:Int)))) (4:Int)) + (u64.wrap ((bAnd .u64 (iShr .u64 (u64.wrap ((bAnd .u64 (iShr .u64 a0 (1:Int)) (6148914691236517205:Int)) + (bAnd .u64 a0 (6148914691236517205:Int)))) (2:Int)) (3689348814741910323:Int)) + (bAnd .u64 (u64.wrap ((bAnd .u64 (iShr .u64 a0 (1:Int)) (6148914691236517205:Int)) + (bAnd .u64 a0 (6148914691236517205:Int)))) (3689348814741910323:Int)))))) (1085102592571150095:Int)) + (iShr .u64 (bAnd .u64 (u64.wrap ((iShr .u64 (u64.wrap ((bAnd .u64 (iShr .u64 (u64.wrap ((bAnd .u64 (iShr .u64 a0 (1:Int)) (6148914691236517205:Int)) + (bAnd .u64 a0 (6148914691236517205:Int)))) (2:Int)) (3689348814741910323:Int)) + (bAnd .u64 (u64.wrap ((bAnd .u64 (iShr .u64 a0 (1:Int)) (6148914691236517205:Int)) + (bAnd .u64 a0 (6148914691236517205:Int)))) (3689348814741910323:Int)))) (4:Int)) + (u64.wrap ((bAnd .u64 (iShr .u64 (u64.wrap ((bAnd .u64 (iShr .u64 a0 (1:Int)) (6148914691236517205:Int)) + (bAnd .u64 a0 (6148914691236517205:Int)))) (2:Int)) (3689348814741910323:Int)) + (bAnd .u64 (u64.wrap ((bAnd .u64 (iShr .u64 a0 (1:Int)) (6148914691236517205:Int)) + (bAnd .u64 a0 (6148914691236517205:Int)))) (3689348814741910323:Int)))))) (1085102592571150095:Int)) (8:Int)))) (16:Int)))) (32:Int))) z z (x_shr (by decide) z z) (wv (.int .u64 (u64.wrap ((u64.wrap ((u64.wrap ((bAnd .u64 (u64.wrap ((iShr .u64 (u64.wrap ((bAnd .u64 (iShr .u64 (u64.wrap ((bAnd .u64 (iShr .u64 a0 (1:Int)) (6148914691236517205:Int)) + (bAnd .u64 a0 (6148914691236517205:Int)))) (2:Int)) (3689348814741910323:Int)) + (bAnd .u64 (u64.wrap ((bAnd .u64 (iShr .u64 a0 (1:Int)) (6148914691236517205:Int)) + (bAnd .u64 a0 (6148914691236517205:Int)))) (3689348814741910323:Int)))) (4:Int)) + (u64.wrap ((bAnd .u64 (iShr .u64 (u64.wrap ((bAnd .u64 (iShr .u64 a0 (1:Int)) (6148914691236517205:Int)) + (bAnd .u64 a0 (6148914691236517205:Int)))) (2:Int)) (3689348814741910323:Int)) + (bAnd .u64 (u64.wrap ((bAnd .u64 (iShr .u64 a0 (1:Int)) (6148914691236517205:Int)) + (bAnd .u64 a0 (6148914691236517205:Int)))) (3689348814741910323:Int)))))) (1085102592571150095:Int)) + (iShr .u64 (bAnd .u64 (u64.wrap ((iShr .u64 (u64.wrap ((bAnd .u64 (iShr .u64 (u64.wrap ((bAnd .u64 (iShr .u64 a0 (1:Int)) (6148914691236517205:Int)) + (bAnd .u64 a0 (6148914691236517205:Int)))) (2:Int)) (3689348814741910323:Int)) + (bAnd .u64 (u64.wrap ((bAnd .u64 (iShr .u64 a0 (1:Int)) (6148914691236517205:Int)) + (bAnd .u64 a0 (6148914691236517205:Int)))) (3689348814741910323:Int)))) (4:Int)) + (u64.wrap ((bAnd .u64 (iShr .u64 (u64.wrap ((bAnd .u64 (iShr .u64 a0 (1:Int)) (6148914691236517205:Int)) + (bAnd .u64 a0 (6148914691236517205:Int)))) (2:Int)) (3689348814741910323:Int)) + (bAnd .u64 (u64.wrap ((bAnd .u64 (iShr .u64 a0 (1:Int)) (6148914691236517205:Int)) + (bAnd .u64 a0 (6148914691236517205:Int)))) (3689348814741910323:Int)))))) (1085102592571150095:Int)) (8:Int)))) + (iShr .u64 (u64.wrap ((bAnd .u64 (u64.wrap ((iShr .u64 (u64.wrap ((bAnd .u64 (iShr .u64 (u64.wrap ((bAnd .u64 (iShr .u64 a0 (1:Int)) (6148914691236517205:Int)) + (bAnd .u64 a0 (6148914691236517205:Int)))) (2:Int)) (3689348814741910323:Int)) + (bAnd .u64 (u64.wrap ((bAnd .u64 (iShr .u64 a0 (1:Int)) (6148914691236517205:Int)) + (bAnd .u64 a0 (6148914691236517205:Int)))) (3689348814741910323:Int)))) (4:Int)) + (u64.wrap ((bAnd .u64 (iShr .u64 (u64.wrap ((bAnd .u64 (iShr .u64 a0 (1:Int)) (6148914691236517205:Int)) + (bAnd .u64 a0 (6148914691236517205:Int)))) (2:Int)) (3689348814741910323:Int)) + (bAnd .u64 (u64.wrap ((bAnd .u64 (iShr .u64 a0 (1:Int)) (6148914691236517205:Int)) + (bAnd .u64 a0 (6148914691236517205:Int)))) (3689348814741910323:Int)))))) (1085102592571150095:Int)) + (iShr .u64 (bAnd .u64 (u64.wrap ((iShr .u64 (u64.wrap ((bAnd .u64 (iShr .u64 (u64.wrap ((bAnd .u64 (iShr .u64 a0 (1:Int)) (6148914691236517205:Int)) + (bAnd .u64 a0 (6148914691236517205:Int)))) (2:Int)) (3689348814741910323:Int)) + (bAnd .u64 (u64.wrap ((bAnd .u64 (iShr .u64 a0 (1:Int)) (6148914691236517205:Int)) + (bAnd .u64 a0 (6148914691236517205:Int)))) (3689348814741910323:Int)))) (4:Int)) + (u64.wrap ((bAnd .u64 (iShr .u64 (u64.wrap ((bAnd .u64 (iShr .u64 a0 (1:Int)) (6148914691236517205:Int)) + (bAnd .u64 a0 (6148914691236517205:Int)))) (2:Int)) (3689348814741910323:Int)) + (bAnd .u64 (u64.wrap ((bAnd .u64 (iShr .u64 a0 (1:Int)) (6148914691236517205:Int)) + (bAnd .u64 a0 (6148914691236517205:Int)))) (3689348814741910323:Int)))))) (1085102592571150095:Int)) (8:Int)))) (16:Int)))) + (iShr .u64 (u64.wrap ((u64.wrap ((bAnd .u64 (u64.wrap ((iShr .u64 (u64.wrap ((bAnd .u64 (iShr .u64 (u64.wrap ((bAnd .u64 (iShr .u64 a0 (1:Int)) (6148914691236517205:Int)) + (bAnd .u64 a0 (6148914691236517205:Int)))) (2:Int)) (3689348814741910323:Int)) + (bAnd .u64 (u64.wrap ((bAnd .u64 (iShr .u64 a0 (1:Int)) (6148914691236517205:Int)) + (bAnd .u64 a0 (6148914691236517205:Int)))) (3689348814741910323:Int)))) (4:Int)) + (u64.wrap ((bAnd .u64 (iShr .u64 (u64.wrap ((bAnd .u64 (iShr .u64 a0 (1:Int)) (6148914691236517205:Int)) + (bAnd .u64 a0 (6148914691236517205:Int)))) (2:Int)) (3689348814741910323:Int)) + (bAnd .u64 (u64.wrap ((bAnd .u64 (iShr .u64 a0 (1:Int)) (6148914691236517205:Int)) + (bAnd .u64 a0 (6148914691236517205:Int)))) (3689348814741910323:Int)))))) (1085102592571150095:Int)) + (iShr .u64 (bAnd .u64 (u64.wrap ((iShr .u64 (u64.wrap ((bAnd .u64 (iShr .u64 (u64.wrap ((bAnd .u64 (iShr .u64 a0 (1:Int)) (6148914691236517205:Int)) + (bAnd .u64 a0 (6148914691236517205:Int)))) (2:Int)) (3689348814741910323:Int)) + (bAnd .u64 (u64.wrap ((bAnd .u64 (iShr .u64 a0 (1:Int)) (6148914691236517205:Int)) + (bAnd .u64 a0 (6148914691236517205:Int)))) (3689348814741910323:Int)))) (4:Int)) + (u64.wrap ((bAnd .u64 (iShr .u64 (u64.wrap ((bAnd .u64 (iShr .u64 a0 (1:Int)) (6148914691236517205:Int)) + (bAnd .u64 a0 (6148914691236517205:Int)))) (2:Int)) (3689348814741910323:Int)) + (bAnd .u64 (u64.wrap ((bAnd .u64 (iShr .u64 a0 (1:Int)) (6148914691236517205:Int)) + (bAnd .u64 a0 (6148914691236517205:Int)))) (3689348814741910323:Int)))))) (1085102592571150095:Int)) (8:Int)))) + (iShr .u64 (u64.wrap ((bAnd .u64 (u64.wrap ((iShr .u64 (u64.wrap ((bAnd .u64 (iShr .u64 (u64.wrap ((bAnd .u64 (iShr .u64 a0 (1:Int)) (6148914691236517205:Int)) + (bAnd .u64 a0 (6148914691236517205:Int)))) (2:Int)) (3689348814741910323:Int)) + (bAnd .u64 (u64.wrap ((bAnd .u64 (iShr .u64 a0 (1:Int)) (6148914691236517205:Int)) + (bAnd .u64 a0 (6148914691236517205:Int)))) (3689348814741910323:Int)))) (4:Int)) + (u64.wrap ((bAnd .u64 (iShr .u64 (u64.wrap ((bAnd .u64 (iShr .u64 a0 (1:Int)) (6148914691236517205:Int)) + (bAnd .u64 a0 (6148914691236517205:Int)))) (2:Int)) (3689348814741910323:Int)) + (bAnd .u64 (u64.wrap ((bAnd .u64 (iShr .u64 a0 (1:Int)) (6148914691236517205:Int)) + (bAnd .u64 a0 (6148914691236517205:Int)))) (3689348814741910323:Int)))))) (1085102592571150095:Int)) + (iShr .u64 (bAnd .u64 (u64.wrap ((iShr .u64 (u64.wrap ((bAnd .u64 (iShr .u64 (u64.wrap ((bAnd .u64 (iShr .u64 a0 (1:Int)) (6148914691236517205:Int)) + (bAnd .u64 a0 (6148914691236517205:Int)))) (2:Int)) (3689348814741910323:Int)) + (bAnd .u64 (u64.wrap ((bAnd .u64 (iShr .u64 a0 (1:Int)) (6148914691236517205:Int)) + (bAnd .u64 a0 (6148914691236517205:Int)))) (3689348814741910323:Int)))) (4:Int)) + (u64.wrap ((bAnd .u64 (iShr .u64 (u64.wrap ((bAnd .u64 (iShr .u64 a0 (1:Int)) (6148914691236517205:Int)) + (bAnd .u64 a0 (6148914691236517205:Int)))) (2:Int)) (3689348814741910323:Int)) + (bAnd .u64 (u64.wrap ((bAnd .u64 (iShr .u64 a0 (1:Int)) (6148914691236517205:Int)) + (bAnd .u64 a0 (6148914691236517205:Int)))) (3689348814741910323:Int)))))) (1085102592571150095:Int)) (8:Int)))) (16:Int)))) (32:Int))))) z z z (wv (.int .u64 (u64.wrap ((u64.wrap ((u64.wrap ((bAnd .u64 (u64.wrap ((iShr .u64 (u64.wrap ((bAnd .u64 (iShr .u64 (u64.wrap ((bAnd .u64 (iShr .u64 a0 (1:Int)) (6148914691236517205:Int)) + (bAnd .u64 a0 (6148914691236517205:Int)))) (2:Int)) (3689348814741910323:Int)) + (bAnd .u64 (u64.wrap ((bAnd .u64 (iShr .u64 a0 (1:Int)) (6148914691236517205:Int)) + (bAnd .u64 a0 (6148914691236517205:Int)))) (3689348814741910323:Int)))) (4:Int)) + (u64.wrap ((bAnd .u64 (iShr .u64 (u64.wrap ((bAnd .u64 (iShr .u64 a0 (1:Int)) (6148914691236517205:Int)) + (bAnd .u64 a0 (6148914691236517205:Int)))) (2:Int)) (3689348814741910323:Int)) + (bAnd .u64 (u64.wrap ((bAnd .u64 (iShr .u64 a0 (1:Int)) (6148914691236517205:Int)) + (bAnd .u64 a0 (6148914691236517205:Int)))) (3689348814741910323:Int)))))) (1085102592571150095:Int)) + (iShr .u64 (bAnd .u64 (u64.wrap ((iShr .u64 (u64.wrap ((bAnd .u64 (iShr .u64 (u64.wrap ((bAnd .u64 (iShr .u64 a0 (1:Int)) (6148914691236517205:Int)) + (bAnd .u64 a0 (6148914691236517205:Int)))) (2:Int)) (3689348814741910323:Int)) + (bAnd .u64 (u64.wrap ((bAnd .u64 (iShr .u64 a0 (1:Int)) (6148914691236517205:Int)) + (bAnd .u64 a0 (6148914691236517205:Int)))) (3689348814741910323:Int)))) (4:Int)) + (u64.wrap ((bAnd .u64 (iShr .u64 (u64.wrap ((bAnd .u64 (iShr .u64 a0 (1:Int)) (6148914691236517205:Int)) + (bAnd .u64 a0 (6148914691236517205:Int)))) (2:Int)) (3689348814741910323:Int)) + (bAnd .u64 (u64.wrap ((bAnd .u64 (iShr .u64 a0 (1:Int)) (6148914691236517205:Int)) + (bAnd .u64 a0 (6148914691236517205:Int)))) (3689348814741910323:Int)))))) (1085102592571150095:Int)) (8:Int)))) + (iShr .u64 (u64.wrap ((bAnd .u64 (u64.wrap ((iShr .u64 (u64.wrap ((bAnd .u64 (iShr .u64 (u64.wrap ((bAnd .u64 (iShr .u64 a0 (1:Int)) (6148914691236517205:Int)) + (bAnd .u64 a0 (6148914691236517205:Int)))) (2:Int)) (3689348814741910323:Int)) + (bAnd .u64 (u64.wrap ((bAnd .u64 (iShr .u64 a0 (1:Int)) (6148914691236517205:Int)) + (bAnd .u64 a0 (6148914691236517205:Int)))) (3689348814741910323:Int)))) (4:Int)) + (u64.wrap ((bAnd .u64 (iShr .u64 (u64.wrap ((bAnd .u64 (iShr .u64 a0 (1:Int)) (6148914691236517205:Int)) + (bAnd .u64 a0 (6148914691236517205:Int)))) (2:Int)) (3689348814741910323:Int)) + (bAnd .u64 (u64.wrap ((bAnd .u64 (iShr .u64 a0 (1:Int)) (6148914691236517205:Int)) + (bAnd .u64 a0 (6148914691236517205:Int)))) (3689348814741910323:Int)))))) (1085102592571150095:Int)) + (iShr .u64 (bAnd .u64 (u64.wrap ((iShr .u64 (u64.wrap ((bAnd .u64 (iShr .u64 (u64.wrap ((bAnd .u64 (iShr .u64 a0 (1:Int)) (6148914691236517205:Int)) + (bAnd .u64 a0 (6148914691236517205:Int)))) (2:Int)) (3689348814741910323:Int)) + (bAnd .u64 (u64.wrap ((bAnd .u64 (iShr .u64 a0 (1:Int)) (6148914691236517205:Int)) + (bAnd .u64 a0 (6148914691236517205:Int)))) (3689348814741910323:Int)))) (4:Int)) + (u64.wrap ((bAnd .u64 (iShr .u64 (u64.wrap ((bAnd .u64 (iShr .u64 a0 (1:Int)) (6148914691236517205:Int)) + (bAnd .u64 a0 (6148914691236517205:Int)))) (2:Int)) (3689348814741910323:Int)) + (bAnd .u64 (u64.wrap ((bAnd .u64 (iShr .u64 a0 (1:Int)) (6148914691236517205:Int)) + (bAnd .u64 a0 (6148914691236517205:Int)))) (3689348814741910323:Int)))))) (1085102592571150095:Int)) (8:Int)))) (16:Int)))) + (iShr .u64 (u64.wrap ((u64.wrap ((bAnd .u64 (u64.wrap ((iShr .u64 (u64.wrap ((bAnd .u64 (iShr .u64 (u64.wrap ((bAnd .u64 (iShr .u64 a0 (1:Int)) (6148914691236517205:Int)) + (bAnd .u64 a0 (6148914691236517205:Int)))) (2:Int)) (3689348814741910323:Int)) + (bAnd .u64 (u64.wrap ((bAnd .u64 (iShr .u64 a0 (1:Int)) (6148914691236517205:Int)) + (bAnd .u64 a0 (6148914691236517205:Int)))) (3689348814741910323:Int)))) (4:Int)) + (u64.wrap ((bAnd .u64 (iShr .u64 (u64.wrap ((bAnd .u64 (iShr .u64 a0 (1:Int)) (6148914691236517205:Int)) + (bAnd .u64 a0 (6148914691236517205:Int)))) (2:Int)) (3689348814741910323:Int)) + (bAnd .u64 (u64.wrap ((bAnd .u64 (iShr .u64 a0 (1:Int)) (6148914691236517205:Int)) + (bAnd .u64 a0 (6148914691236517205:Int)))) (3689348814741910323:Int)))))) (1085102592571150095:Int)) + (iShr .u64 (bAnd .u64 (u64.wrap ((iShr .u64 (u64.wrap ((bAnd .u64 (iShr .u64 (u64.wrap ((bAnd .u64 (iShr .u64 a0 (1:Int)) (6148914691236517205:Int)) + (bAnd .u64 a0 (6148914691236517205:Int)))) (2:Int)) (3689348814741910323:Int)) + (bAnd .u64 (u64.wrap ((bAnd .u64 (iShr .u64 a0 (1:Int)) (6148914691236517205:Int)) + (bAnd .u64 a0 (6148914691236517205:Int)))) (3689348814741910323:Int)))) (4:Int)) + (u64.wrap ((bAnd .u64 (iShr .u64 (u64.wrap ((bAnd .u64 (iShr .u64 a0 (1:Int)) (6148914691236517205:Int)) + (bAnd .u64 a0 (6148914691236517205:Int)))) (2:Int)) (3689348814741910323:Int)) + (bAnd .u64 (u64.wrap ((bAnd .u64 (iShr .u64 a0 (1:Int)) (6148914691236517205:Int)) + (bAnd .u64 a0 (6148914691236517205:Int)))) (3689348814741910323:Int)))))) (1085102592571150095:Int)) (8:Int)))) + (iShr .u64 (u64.wrap ((bAnd .u64 (u64.wrap ((iShr .u64 (u64.wrap ((bAnd .u64 (iShr .u64 (u64.wrap ((bAnd .u64 (iShr .u64 a0 (1:Int)) (6148914691236517205:Int)) + (bAnd .u64 a0 (6148914691236517205:Int)))) (2:Int)) (3689348814741910323:Int)) + (bAnd .u64 (u64.wrap ((bAnd .u64 (iShr .u64 a0 (1:Int)) (6148914691236517205:Int)) + (bAnd .u64 a0 (6148914691236517205:Int)))) (3689348814741910323:Int)))) (4:Int)) + (u64.wrap ((bAnd .u64 (iShr .u64 (u64.wrap ((bAnd .u64 (iShr .u64 a0 (1:Int)) (6148914691236517205:Int)) + (bAnd .u64 a0 (6148914691236517205:Int)))) (2:Int)) (3689348814741910323:Int)) + (bAnd .u64 (u64.wrap ((bAnd .u64 (iShr .u64 a0 (1:Int)) (6148914691236517205:Int)) + (bAnd .u64 a0 (6148914691236517205:Int)))) (3689348814741910323:Int)))))) (1085102592571150095:Int)) + (iShr .u64 (bAnd .u64 (u64.wrap ((iShr .u64 (u64.wrap ((bAnd .u64 (iShr .u64 (u64.wrap ((bAnd .u64 (iShr .u64 a0 (1:Int)) (6148914691236517205:Int)) + (bAnd .u64 a0 (6148914691236517205:Int)))) (2:Int)) (3689348814741910323:Int)) + (bAnd .u64 (u64.wrap ((bAnd .u64 (iShr .u64 a0 (1:Int)) (6148914691236517205:Int)) + (bAnd .u64 a0 (6148914691236517205:Int)))) (3689348814741910323:Int)))) (4:Int)) + (u64.wrap ((bAnd .u64 (iShr .u64 (u64.wrap ((bAnd .u64 (iShr .u64 a0 (1:Int)) (6148914691236517205:Int)) + (bAnd .u64 a0 (6148914691236517205:Int)))) (2:Int)) (3689348814741910323:Int)) + (bAnd .u64 (u64.wrap ((bAnd .u64 (iShr .u64 a0 (1:Int)) (6148914691236517205:Int)) + (bAnd .u64 a0 (6148914691236517205:Int)))) (3689348814741910323:Int)))))) (1085102592571150095:Int)) (8:Int)))) (16:Int)))) (32:Int))))) z z z (wl_nil (tn (wp_seq (wrl (wv (.int .u64 (u64.wrap ((u64.wrap ((u64.wrap ((bAnd .u64 (u64.wrap ((iShr .u64 (u64.wrap ((bAnd .u64 (iShr .u64 (u64.wrap ((bAnd .u64 (iShr .u64 a0 (1:Int)) (6148914691236517205:Int)) + (bAnd .u64 a0 (6148914691236517205:Int)))) (2:Int)) (3689348814741910323:Int)) + (bAnd .u64 (u64.wrap ((bAnd .u64 (iShr .u64 a0 (1:Int)) (6148914691236517205:Int)) + (bAnd .u64 a0 (6148914691236517205:Int)))) (3689348814741910323:Int)))) (4:Int)) + (u64.wrap ((bAnd .u64 (iShr .u64 (u64.wrap ((bAnd .u64 (iShr .u64 a0 (1:Int)) (6148914691236517205:Int)) + (bAnd .u64 a0 (6148914691236517205:Int)))) (2:Int)) (3689348814741910323:Int)) + (bAnd .u64 (u64.wrap ((bAnd .u64 (iShr .u64 a0 (1:Int)) (6148914691236517205:Int)) + (bAnd .u64 a0 (6148914691236517205:Int)))) (3689348814741910323:Int)))))) (1085102592571150095:Int)) + (iShr .u64 (bAnd .u64 (u64.wrap ((iShr .u64 (u64.wrap ((bAnd .u64 (iShr .u64 (u64.wrap ((bAnd .u64 (iShr .u64 a0 (1:Int)) (6148914691236517205:Int)) + (bAnd .u64 a0 (6148914691236517205:Int)))) (2:Int)) (3689348814741910323:Int)) + (bAnd .u64 (u64.wrap ((bAnd .u64 (iShr .u64 a0 (1:Int)) (6148914691236517205:Int)) + (bAnd .u64 a0 (6148914691236517205:Int)))) (3689348814741910323:Int)))) (4:Int)) + (u64.wrap ((bAnd .u64 (iShr .u64 (u64.wrap ((bAnd .u64 (iShr .u64 a0 (1:Int)) (6148914691236517205:Int)) + (bAnd .u64 a0 (6148914691236517205:Int)))) (2:Int)) (3689348814741910323:Int)) + (bAnd .u64 (u64.wrap ((bAnd .u64 (iShr .u64 a0 (1:Int)) (6148914691236517205:Int)) + (bAnd .u64 a0 (6148914691236517205:Int)))) (3689348814741910323:Int)))))) (1085102592571150095:Int)) (8:Int)))) + (iShr .u64 (u64.wrap ((bAnd .u64 (u64.wrap ((iShr .u64 (u64.wrap ((bAnd .u64 (iShr .u64 (u64.wrap ((bAnd .u64 (iShr .u64 a0 (1:Int)) (6148914691236517205:Int)) + (bAnd .u64 a0 (6148914691236517205:Int)))) (2:Int)) (3689348814741910323:Int)) + (bAnd .u64 (u64.wrap ((bAnd .u64 (iShr .u64 a0 (1:Int)) (6148914691236517205:Int)) + (bAnd .u64 a0 (6148914691236517205:Int)))) (3689348814741910323:Int)))) (4:Int)) + (u64.wrap ((bAnd .u64 (iShr .u64 (u64.wrap ((bAnd .u64 (iShr .u64 a0 (1:Int)) (6148914691236517205:Int)) + (bAnd .u64 a0 (6148914691236517205:Int)))) (2:Int)) (3689348814741910323:Int)) + (bAnd .u64 (u64.wrap ((bAnd .u64 (iShr .u64 a0 (1:Int)) (6148914691236517205:Int)) + (bAnd .u64 a0 (6148914691236517205:Int)))) (3689348814741910323:Int)))))) (1085102592571150095:Int)) + (iShr .u64 (bAnd .u64 (u64.wrap ((iShr .u64 (u64.wrap ((bAnd .u64 (iShr .u64 (u64.wrap ((bAnd .u64 (iShr .u64 a0 (1:Int)) (6148914691236517205:Int)) + (bAnd .u64 a0 (6148914691236517205:Int)))) (2:Int)) (3689348814741910323:Int)) + (bAnd .u64 (u64.wrap ((bAnd .u64 (iShr .u64 a0 (1:Int)) (6148914691236517205:Int)) + (bAnd .u64 a0 (6148914691236517205:Int)))) (3689348814741910323:Int)))) (4:Int)) + (u64.wrap ((bAnd .u64 (iShr .u64 (u64.wrap ((bAnd .u64 (iShr .u64 a0 (1:Int)) (6148914691236517205:Int)) + (bAnd .u64 a0 (6148914691236517205:Int)))) (2:Int)) (3689348814741910323:Int)) + (bAnd .u64 (u64.wrap ((bAnd .u64 (iShr .u64 a0 (1:Int)) (6148914691236517205:Int)) + (bAnd .u64 a0 (6148914691236517205:Int)))) (3689348814741910323:Int)))))) (1085102592571150095:Int)) (8:Int)))) (16:Int)))) + (iShr .u64 (u64.wrap ((u64.wrap ((bAnd .u64 (u64.wrap ((iShr .u64 (u64.wrap ((bAnd .u64 (iShr .u64 (u64.wrap ((bAnd .u64 (iShr .u64 a0 (1:Int)) (6148914691236517205:Int)) + (bAnd .u64 a0 (6148914691236517205:Int)))) (2:Int)) (3689348814741910323:Int)) + (bAnd .u64 (u64.wrap ((bAnd .u64 (iShr .u64 a0 (1:Int)) (6148914691236517205:Int)) + (bAnd .u64 a0 (6148914691236517205:Int)))) (3689348814741910323:Int)))) (4:Int)) + (u64.wrap ((bAnd .u64 (iShr .u64 (u64.wrap ((bAnd .u64 (iShr .u64 a0 (1:Int)) (6148914691236517205:Int)) + (bAnd .u64 a0 (6148914691236517205:Int)))) (2:Int)) (3689348814741910323:Int)) + (bAnd .u64 (u64.wrap ((bAnd .u64 (iShr .u64 a0 (1:Int)) (6148914691236517205:Int)) + (bAnd .u64 a0 (6148914691236517205:Int)))) (3689348814741910323:Int)))))) (1085102592571150095:Int)) + (iShr .u64 (bAnd .u64 (u64.wrap ((iShr .u64 (u64.wrap ((bAnd .u64 (iShr .u64 (u64.wrap ((bAnd .u64 (iShr .u64 a0 (1:Int)) (6148914691236517205:Int)) + (bAnd .u64 a0 (6148914691236517205:Int)))) (2:Int)) (3689348814741910323:Int)) + (bAnd .u64 (u64.wrap ((bAnd .u64 (iShr .u64 a0 (1:Int)) (6148914691236517205:Int)) + (bAnd .u64 a0 (6148914691236517205:Int)))) (3689348814741910323:Int)))) (4:Int)) + (u64.wrap ((bAnd .u64 (iShr .u64 (u64.wrap ((bAnd .u64 (iShr .u64 a0 (1:Int)) (6148914691236517205:Int)) + (bAnd .u64 a0 (6148914691236517205:Int)))) (2:Int)) (3689348814741910323:Int)) + (bAnd .u64 (u64.wrap ((bAnd .u64 (iShr .u64 a0 (1:Int)) (6148914691236517205:Int)) + (bAnd .u64 a0 (6148914691236517205:Int)))) (3689348814741910323:Int)))))) (1085102592571150095:Int)) (8:Int)))) + (iShr .u64 (u64.wrap ((bAnd .u64 (u64.wrap ((iShr .u64 (u64.wrap ((bAnd .u64 (iShr .u64 (u64.wrap ((bAnd .u64 (iShr .u64 a0 (1:Int)) (6148914691236517205:Int)) + (bAnd .u64 a0 (6148914691236517205:Int)))) (2:Int)) (3689348814741910323:Int)) + (bAnd .u64 (u64.wrap ((bAnd .u64 (iShr .u64 a0 (1:Int)) (6148914691236517205:Int)) + (bAnd .u64 a0 (6148914691236517205:Int)))) (3689348814741910323:Int)))) (4:Int)) + (u64.wrap ((bAnd .u64 (iShr .u64 (u64.wrap ((bAnd .u64 (iShr .u64 a0 (1:Int)) (6148914691236517205:Int)) + (bAnd .u64 a0 (6148914691236517205:Int)))) (2:Int)) (3689348814741910323:Int)) + (bAnd .u64 (u64.wrap ((bAnd .u64 (iShr .u64 a0 (1:Int)) (6148914691236517205:Int)) + (bAnd .u64 a0 (6148914691236517205:Int)))) (3689348814741910323:Int)))))) (1085102592571150095:Int)) + (iShr .u64 (bAnd .u64 (u64.wrap ((iShr .u64 (u64.wrap ((bAnd .u64 (iShr .u64 (u64.wrap ((bAnd .u64 (iShr .u64 a0 (1:Int)) (6148914691236517205:Int)) + (bAnd .u64 a0 (6148914691236517205:Int)))) (2:Int)) (3689348814741910323:Int)) + (bAnd .u64 (u64.wrap ((bAnd .u64 (iShr .u64 a0 (1:Int)) (6148914691236517205:Int)) + (bAnd .u64 a0 (6148914691236517205:Int)))) (3689348814741910323:Int)))) (4:Int)) + (u64.wrap ((bAnd .u64 (iShr .u64 (u64.wrap ((bAnd .u64 (iShr .u64 a0 (1:Int)) (6148914691236517205:Int)) + (bAnd .u64 a0 (6148914691236517205:Int)))) (2:Int)) (3689348814741910323:Int)) + (bAnd .u64 (u64.wrap ((bAnd .u64 (iShr .u64 a0 (1:Int)) (6148914691236517205:Int)) + (bAnd .u64 a0 (6148914691236517205:Int)))) (3689348814741910323:Int)))))) (1085102592571150095:Int)) (8:Int)))) (16:Int)))) (32:Int))))) z z z (wv (.int .i64 (i64.wrap (u64.wrap ((u64.wrap ((u64.wrap ((bAnd .u64 (u64.wrap ((iShr .u64 (u64.wrap ((bAnd .u64 (iShr .u64 (u64.wrap ((bAnd .u64 (iShr .u64 a0 (1:Int)) (6148914691236517205:Int)) + (bAnd .u64 a0 (6148914691236517205:Int)))) (2:Int)) (3689348814741910323:Int)) + (bAnd .u64 (u64.wrap ((bAnd .u64 (iShr .u64 a0 (1:Int)) (6148914691236517205:Int)) + (bAnd .u64 a0 (6148914691236517205:Int)))) (3689348814741910323:Int)))) (4:Int)) + (u64.wrap ((bAnd .u64 (iShr .u64 (u64.wrap ((bAnd .u64 (iShr .u64 a0 (1:Int)) (6148914691236517205:Int)) + (bAnd .u64 a0 (6148914691236517205:Int)))) (2:Int)) (3689348814741910323:Int)) + (bAnd .u64 (u64.wrap ((bAnd .u64 (iShr .u64 a0 (1:Int)) (6148914691236517205:Int)) + (bAnd .u64 a0 (6148914691236517205:Int)))) (3689348814741910323:Int)))))) (1085102592571150095:Int)) + (iShr .u64 (bAnd .u64 (u64.wrap ((iShr .u64 (u64.wrap ((bAnd .u64 (iShr .u64 (u64.wrap ((bAnd .u64 (iShr .u64 a0 (1:Int)) (6148914691236517205:Int)) + (bAnd .u64 a0 (6148914691236517205:Int)))) (2:Int)) (3689348814741910323:Int)) + (bAnd .u64 (u64.wrap ((bAnd .u64 (iShr .u64 a0 (1:Int)) (6148914691236517205:Int)) + (bAnd .u64 a0 (6148914691236517205:Int)))) (3689348814741910323:Int)))) (4:Int)) + (u64.wrap ((bAnd .u64 (iShr .u64 (u64.wrap ((bAnd .u64 (iShr .u64 a0 (1:Int)) (6148914691236517205:Int)) + (bAnd .u64 a0 (6148914691236517205:Int)))) (2:Int)) (3689348814741910323:Int)) + (bAnd .u64 (u64.wrap ((bAnd .u64 (iShr .u64 a0 (1:Int)) (6148914691236517205:Int)) + (bAnd .u64 a0 (6148914691236517205:Int)))) (3689348814741910323:Int)))))) (1085102592571150095:Int)) (8:Int)))) + (iShr .u64 (u64.wrap ((bAnd .u64 (u64.wrap ((iShr .u64 (u64.wrap ((bAnd .u64 (iShr .u64 (u64.wrap ((bAnd .u64 (iShr .u64 a0 (1:Int)) (6148914691236517205:Int)) + (bAnd .u64 a0 (6148914691236517205:Int)))) (2:Int)) (3689348814741910323:Int)) + (bAnd .u64 (u64.wrap ((bAnd .u64 (iShr .u64 a0 (1:Int)) (6148914691236517205:Int)) + (bAnd .u64 a0 (6148914691236517205:Int)))) (3689348814741910323:Int)))) (4:Int)) + (u64.wrap ((bAnd .u64 (iShr .u64 (u64.wrap ((bAnd .u64 (iShr .u64 a0 (1:Int)) (6148914691236517205:Int)) + (bAnd .u64 a0 (6148914691236517205:Int)))) (2:Int)) (3689348814741910323:Int)) + (bAnd .u64 (u64.wrap ((bAnd .u64 (iShr .u64 a0 (1:Int)) (6148914691236517205:Int)) + (bAnd .u64 a0 (6148914691236517205:Int)))) (3689348814741910323:Int)))))) (1085102592571150095:Int)) + (iShr .u64 (bAnd .u64 (u64.wrap ((iShr .u64 (u64.wrap ((bAnd .u64 (iShr .u64 (u64.wrap ((bAnd .u64 (iShr .u64 a0 (1:Int)) (6148914691236517205:Int)) + (bAnd .u64 a0 (6148914691236517205:Int)))) (2:Int)) (3689348814741910323:Int)) + (bAnd .u64 (u64.wrap ((bAnd .u64 (iShr .u64 a0 (1:Int)) (6148914691236517205:Int)) + (bAnd .u64 a0 (6148914691236517205:Int)))) (3689348814741910323:Int)))) (4:Int)) + (u64.wrap ((bAnd .u64 (iShr .u64 (u64.wrap ((bAnd .u64 (iShr .u64 a0 (1:Int)) (6148914691236517205:Int)) + (bAnd .u64 a0 (6148914691236517205:Int)))) (2:Int)) (3689348814741910323:Int)) + (bAnd .u64 (u64.wrap ((bAnd .u64 (iShr .u64 a0 (1:Int)) (6148914691236517205:Int)) + (bAnd .u64 a0 (6148914691236517205:Int)))) (3689348814741910323:Int)))))) (1085102592571150095:Int)) (8:Int)))) (16:Int)))) + (iShr .u64 (u64.wrap ((u64.wrap ((bAnd .u64 (u64.wrap ((iShr .u64 (u64.wrap ((bAnd .u64 (iShr .u64 (u64.wrap ((bAnd .u64 (iShr .u64 a0 (1:Int)) (6148914691236517205:Int)) + (bAnd .u64 a0 (6148914691236517205:Int)))) (2:Int)) (3689348814741910323:Int)) + (bAnd .u64 (u64.wrap ((bAnd .u64 (iShr .u64 a0 (1:Int)) (6148914691236517205:Int)) + (bAnd .u64 a0 (6148914691236517205:Int)))) (3689348814741910323:Int)))) (4:Int)) + (u64.wrap ((bAnd .u64 (iShr .u64 (u64.wrap ((bAnd .u64 (iShr .u64 a0 (1:Int)) (6148914691236517205:Int)) + (bAnd .u64 a0 (6148914691236517205:Int)))) (2:Int)) (3689348814741910323:Int)) + (bAnd .u64 (u64.wrap ((bAnd .u64 (iShr .u64 a0 (1:Int)) (6148914691236517205:Int)) + (bAnd .u64 a0 (6148914691236517205:Int)))) (3689348814741910323:Int)))))) (1085102592571150095:Int)) + (iShr .u64 (bAnd .u64 (u64.wrap ((iShr .u64 (u64.wrap ((bAnd .u64 (iShr .u64 (u64.wrap ((bAnd .u64 (iShr .u64 a0 (1:Int)) (6148914691236517205:Int)) + (bAnd .u64 a0 (6148914691236517205:Int)))) (2:Int)) (3689348814741910323:Int)) + (bAnd .u64 (u64.wrap ((bAnd .u64 (iShr .u64 a0 (1:Int)) (6148914691236517205:Int)) + (bAnd .u64 a0 (6148914691236517205:Int)))) (3689348814741910323:Int)))) (4:Int)) + (u64.wrap ((bAnd .u64 (iShr .u64 (u64.wrap ((bAnd .u64 (iShr .u64 a0 (1:Int)) (6148914691236517205:Int)) + (bAnd .u64 a0 (6148914691236517205:Int)))) (2:Int)) (3689348814741910323:Int)) + (bAnd .u64 (u64.wrap ((bAnd .u64 (iShr .u64 a0 (1:Int)) (6148914691236517205:Int)) + (bAnd .u64 a0 (6148914691236517205:Int)))) (3689348814741910323:Int)))))) (1085102592571150095:Int)) (8:Int)))) + (iShr .u64 (u64.wrap ((bAnd .u64 (u64.wrap ((iShr .u64 (u64.wrap ((bAnd .u64 (iShr .u64 (u64.wrap ((bAnd .u64 (iShr .u64 a0 (1:Int)) (6148914691236517205:Int)) + (bAnd .u64 a0 (6148914691236517205:Int)))) (2:Int)) (3689348814741910323:Int)) + (bAnd .u64 (u64.wrap ((bAnd .u64 (iShr .u64 a0 (1:Int)) (6148914691236517205:Int)) + (bAnd .u64 a0 (6148914691236517205:Int)))) (3689348814741910323:Int)))) (4:Int)) + (u64.wrap ((bAnd .u64 (iShr .u64 (u64.wrap ((bAnd .u64 (iShr .u64 a0 (1:Int)) (6148914691236517205:Int)) + (bAnd .u64 a0 (6148914691236517205:Int)))) (2:Int)) (3689348814741910323:Int)) + (bAnd .u64 (u64.wrap ((bAnd .u64 (iShr .u64 a0 (1:Int)) (6148914691236517205:Int)) + (bAnd .u64 a0 (6148914691236517205:Int)))) (3689348814741910323:Int)))))) (1085102592571150095:Int)) + (iShr .u64 (bAnd .u64 (u64.wrap ((iShr .u64 (u64.wrap ((bAnd .u64 (iShr .u64 (u64.wrap ((bAnd .u64 (iShr .u64 a0 (1:Int)) (6148914691236517205:Int)) + (bAnd .u64 a0 (6148914691236517205:Int)))) (2:Int)) (3689348814741910323:Int)) + (bAnd .u64 (u64.wrap ((bAnd .u64 (iShr .u64 a0 (1:Int)) (6148914691236517205:Int)) + (bAnd .u64 a0 (6148914691236517205:Int)))) (3689348814741910323:Int)))) (4:Int)) + (u64.wrap ((bAnd .u64 (iShr .u64 (u64.wrap ((bAnd .u64 (iShr .u64 a0 (1:Int)) (6148914691236517205:Int)) + (bAnd .u64 a0 (6148914691236517205:Int)))) (2:Int)) (3689348814741910323:Int)) + (bAnd .u64 (u64.wrap ((bAnd .u64 (iShr .u64 a0 (1:Int)) (6148914691236517205:Int)) + (bAnd .u64 a0 (6148914691236517205:Int)))) (3689348814741910323:Int)))))) (1085102592571150095:Int)) (8:Int)))) (16:Int)))) (32:Int)))))) z z (by kernel_rfl) (wv (.int .i64 (bAnd .i64 (i64.wrap (u64.wrap ((u64.wrap ((u64.wrap ((bAnd .u64 (u64.wrap ((iShr .u64 (u64.wrap ((bAnd .u64 (iShr .u64 (u64.wrap ((bAnd .u64 (iShr .u64 a0 (1:Int)) (6148914691236517205:Int)) + (bAnd .u64 a0 (6148914691236517205:Int)))) (2:Int)) (3689348814741910323:Int)) + (bAnd .u64 (u64.wrap ((bAnd .u64 (iShr .u64 a0 (1:Int)) (6148914691236517205:Int)) + (bAnd .u64 a0 (6148914691236517205:Int)))) (3689348814741910323:Int)))) (4:Int)) + (u64.wrap ((bAnd .u64 (iShr .u64 (u64.wrap ((bAnd .u64 (iShr .u64 a0 (1:Int)) (6148914691236517205:Int)) + (bAnd .u64 a0 (6148914691236517205:Int)))) (2:Int)) (3689348814741910323:Int)) + (bAnd .u64 (u64.wrap ((bAnd .u64 (iShr .u64 a0 (1:Int)) (6148914691236517205:Int)) + (bAnd .u64 a0 (6148914691236517205:Int)))) (3689348814741910323:Int)))))) (1085102592571150095:Int)) + (iShr .u64 (bAnd .u64 (u64.wrap ((iShr .u64 (u64.wrap ((bAnd .u64 (iShr .u64 (u64.wrap ((bAnd .u64 (iShr .u64 a0 (1:Int)) (6148914691236517205:Int)) + (bAnd .u64 a0 (6148914691236517205:Int)))) (2:Int)) (3689348814741910323:Int)) + (bAnd .u64 (u64.wrap ((bAnd .u64 (iShr .u64 a0 (1:Int)) (6148914691236517205:Int)) + (bAnd .u64 a0 (6148914691236517205:Int)))) (3689348814741910323:Int)))) (4:Int)) + (u64.wrap ((bAnd .u64 (iShr .u64 (u64.wrap ((bAnd .u64 (iShr .u64 a0 (1:Int)) (6148914691236517205:Int)) + (bAnd .u64 a0 (6148914691236517205:Int)))) (2:Int)) (3689348814741910323:Int)) + (bAnd .u64 (u64.wrap ((bAnd .u64 (iShr .u64 a0 (1:Int)) (6148914691236517205:Int)) + (bAnd .u64 a0 (6148914691236517205:Int)))) (3689348814741910323:Int)))))) (1085102592571150095:Int)) (8:Int)))) + (iShr .u64 (u64.wrap ((bAnd .u64 (u64.wrap ((iShr .u64 (u64.wrap ((bAnd .u64 (iShr .u64 (u64.wrap ((bAnd .u64 (iShr .u64 a0 (1:Int)) (6148914691236517205:Int)) + (bAnd .u64 a0 (6148914691236517205:Int)))) (2:Int)) (3689348814741910323:Int)) + (bAnd .u64 (u64.wrap ((bAnd .u64 (iShr .u64 a0 (1:Int)) (6148914691236517205:Int)) + (bAnd .u64 a0 (6148914691236517205:Int)))) (3689348814741910323:Int)))) (4:Int)) + (u64.wrap ((bAnd .u64 (iShr .u64 (u64.wrap ((bAnd .u64 (iShr .u64 a0 (1:Int)) (6148914691236517205:Int)) + (bAnd .u64 a0 (6148914691236517205:Int)))) (2:Int)) (3689348814741910323:Int)) + (bAnd .u64 (u64.wrap ((bAnd .u64 (iShr .u64 a0 (1:Int)) (6148914691236517205:Int)) + (bAnd .u64 a0 (6148914691236517205:Int)))) (3689348814741910323:Int)))))) (1085102592571150095:Int)) + (iShr .u64 (bAnd .u64 (u64.wrap ((iShr .u64 (u64.wrap ((bAnd .u64 (iShr .u64 (u64.wrap ((bAnd .u64 (iShr .u64 a0 (1:Int)) (6148914691236517205:Int)) + (bAnd .u64 a0 (6148914691236517205:Int)))) (2:Int)) (3689348814741910323:Int)) + (bAnd .u64 (u64.wrap ((bAnd .u64 (iShr .u64 a0 (1:Int)) (6148914691236517205:Int)) + (bAnd .u64 a0 (6148914691236517205:Int)))) (3689348814741910323:Int)))) (4:Int)) + (u64.wrap ((bAnd .u64 (iShr .u64 (u64.wrap ((bAnd .u64 (iShr .u64 a0 (1:Int)) (6148914691236517205:Int)) + (bAnd .u64 a0 (6148914691236517205:Int)))) (2:Int)) (3689348814741910323:Int)) + (bAnd .u64 (u64.wrap ((bAnd .u64 (iShr .u64 a0 (1:Int)) (6148914691236517205:Int)) + (bAnd .u64 a0 (6148914691236517205:Int)))) (3689348814741910323:Int)))))) (1085102592571150095:Int)) (8:Int)))) (16:Int)))) + (iShr .u64 (u64.wrap ((u64.wrap ((bAnd .u64 (u64.wrap ((iShr .u64 (u64.wrap ((bAnd .u64 (iShr .u64 (u64.wrap ((bAnd .u64 (iShr .u64 a0 (1:Int)) (6148914691236517205:Int)) + (bAnd .u64 a0 (6148914691236517205:Int)))) (2:Int)) (3689348814741910323:Int)) + (bAnd .u64 (u64.wrap ((bAnd .u64 (iShr .u64 a0 (1:Int)) (6148914691236517205:Int)) + (bAnd .u64 a0 (6148914691236517205:Int)))) (3689348814741910323:Int)))) (4:Int)) + (u64.wrap ((bAnd .u64 (iShr .u64 (u64.wrap ((bAnd .u64 (iShr .u64 a0 (1:Int)) (6148914691236517205:Int)) + (bAnd .u64 a0 (6148914691236517205:Int)))) (2:Int)) (3689348814741910323:Int)) + (bAnd .u64 (u64.wrap ((bAnd .u64 (iShr .u64 a0 (1:Int)) (6148914691236517205:Int)) + (bAnd .u64 a0 (6148914691236517205:Int)))) (3689348814741910323:Int)))))) (1085102592571150095:Int)) + (iShr .u64 (bAnd .u64 (u64.wrap ((iShr .u64 (u64.wrap ((bAnd .u64 (iShr .u64 (u64.wrap ((bAnd .u64 (iShr .u64 a0 (1:Int)) (6148914691236517205:Int)) + (bAnd .u64 a0 (6148914691236517205:Int)))) (2:Int)) (3689348814741910323:Int)) + (bAnd .u64 (u64.wrap ((bAnd .u64 (iShr .u64 a0 (1:Int)) (6148914691236517205:Int)) + (bAnd .u64 a0 (6148914691236517205:Int)))) (3689348814741910323:Int)))) (4:Int)) + (u64.wrap ((bAnd .u64 (iShr .u64 (u64.wrap ((bAnd .u64 (iShr .u64 a0 (1:Int)) (6148914691236517205:Int)) + (bAnd .u64 a0 (6148914691236517205:Int)))) (2:Int)) (3689348814741910323:Int)) + (bAnd .u64 (u64.wrap ((bAnd .u64 (iShr .u64 a0 (1:Int)) (6148914691236517205:Int)) + (bAnd .u64 a0 (6148914691236517205:Int)))) (3689348814741910323:Int)))))) (1085102592571150095:Int)) (8:Int)))) + (iShr .u64 (u64.wrap ((bAnd .u64 (u64.wrap ((iShr .u64 (u64.wrap ((bAnd .u64 (iShr .u64 (u64.wrap ((bAnd .u64 (iShr .u64 a0 (1:Int)) (6148914691236517205:Int)) + (bAnd .u64 a0 (6148914691236517205:Int)))) (2:Int)) (3689348814741910323:Int)) + (bAnd .u64 (u64.wrap ((bAnd .u64 (iShr .u64 a0 (1:Int)) (6148914691236517205:Int)) + (bAnd .u64 a0 (6148914691236517205:Int)))) (3689348814741910323:Int)))) (4:Int)) + (u64.wrap ((bAnd .u64 (iShr .u64 (u64.wrap ((bAnd .u64 (iShr .u64 a0 (1:Int)) (6148914691236517205:Int)) + (bAnd .u64 a0 (6148914691236517205:Int)))) (2:Int)) (3689348814741910323:Int)) + (bAnd .u64 (u64.wrap ((bAnd .u64 (iShr .u64 a0 (1:Int)) (6148914691236517205:Int)) + (bAnd .u64 a0 (6148914691236517205:Int)))) (3689348814741910323:Int)))))) (1085102592571150095:Int)) + (iShr .u64 (bAnd .u64 (u64.wrap ((iShr .u64 (u64.wrap ((bAnd .u64 (iShr .u64 (u64.wrap ((bAnd .u64 (iShr .u64 a0 (1:Int)) (6148914691236517205:Int)) + (bAnd .u64 a0 (6148914691236517205:Int)))) (2:Int)) (3689348814741910323:Int)) + (bAnd .u64 (u64.wrap ((bAnd .u64 (iShr .u64 a0 (1:Int)) (6148914691236517205:Int)) + (bAnd .u64 a0 (6148914691236517205:Int)))) (3689348814741910323:Int)))) (4:Int)) + (u64.wrap ((bAnd .u64 (iShr .u64 (u64.wrap ((bAnd .u64 (iShr .u64 a0 (1:Int)) (6148914691236517205:Int)) + (bAnd .u64 a0 (6148914691236517205:Int)))) (2:Int)) (3689348814741910323:Int)) + (bAnd .u64 (u64.wrap ((bAnd .u64 (iShr .u64 a0 (1:Int)) (6148914691236517205:Int)) + (bAnd .u64 a0 (6148914691236517205:Int)))) (3689348814741910323:Int)))))) (1085102592571150095:Int)) (8:Int)))) (16:Int)))) (32:Int))))) (127:Int))) z z z (wv (.int .i64 (bAnd .i64 (i64.wrap (u64.wrap ((u64.wrap ((u64.wrap ((bAnd .u64 (u64.wrap ((iShr .u64 (u64.wrap ((bAnd .u64 (iShr .u64 (u64.wrap ((bAnd .u64 (iShr .u64 a0 (1:Int)) (6148914691236517205:Int)) + (bAnd .u64 a0 (6148914691236517205:Int)))) (2:Int)) (3689348814741910323:Int)) + (bAnd .u64 (u64.wrap ((bAnd .u64 (iShr .u64 a0 (1:Int)) (6148914691236517205:Int)) + (bAnd .u64 a0 (6148914691236517205:Int)))) (3689348814741910323:Int)))) (4:Int)) + (u64.wrap ((bAnd .u64 (iShr .u64 (u64.wrap ((bAnd .u64 (iShr .u64 a0 (1:Int)) (6148914691236517205:Int)) + (bAnd .u64 a0 (6148914691236517205:Int)))) (2:Int)) (3689348814741910323:Int)) + (bAnd .u64 (u64.wrap ((bAnd .u64 (iShr .u64 a0 (1:Int)) (6148914691236517205:Int)) + (bAnd .u64 a0 (6148914691236517205:Int)))) (3689348814741910323:Int)))))) (1085102592571150095:Int)) + (iShr .u64 (bAnd .u64 (u64.wrap ((iShr .u64 (u64.wrap ((bAnd .u64 (iShr .u64 (u64.wrap ((bAnd .u64 (iShr .u64 a0 (1:Int)) (6148914691236517205:Int)) + (bAnd .u64 a0 (6148914691236517205:Int)))) (2:Int)) (3689348814741910323:Int)) + (bAnd .u64 (u64.wrap ((bAnd .u64 (iShr .u64 a0 (1:Int)) (6148914691236517205:Int)) + (bAnd .u64 a0 (6148914691236517205:Int)))) (3689348814741910323:Int)))) (4:Int)) + (u64.wrap ((bAnd .u64 (iShr .u64 (u64.wrap ((bAnd .u64 (iShr .u64 a0 (1:Int)) (6148914691236517205:Int)) + (bAnd .u64 a0 (6148914691236517205:Int)))) (2:Int)) (3689348814741910323:Int)) + (bAnd .u64 (u64.wrap ((bAnd .u64 (iShr .u64 a0 (1:Int)) (6148914691236517205:Int)) + (bAnd .u64 a0 (6148914691236517205:Int)))) (3689348814741910323:Int)))))) (1085102592571150095:Int)) (8:Int)))) + (iShr .u64 (u64.wrap ((bAnd .u64 (u64.wrap ((iShr .u64 (u64.wrap ((bAnd .u64 (iShr .u64 (u64.wrap ((bAnd .u64 (iShr .u64 a0 (1:Int)) (6148914691236517205:Int)) + (bAnd .u64 a0 (6148914691236517205:Int)))) (2:Int)) (3689348814741910323:Int)) + (bAnd .u64 (u64.wrap ((bAnd .u64 (iShr .u64 a0 (1:Int)) (6148914691236517205:Int)) + (bAnd .u64 a0 (6148914691236517205:Int)))) (3689348814741910323:Int)))) (4:Int)) + (u64.wrap ((bAnd .u64 (iShr .u64 (u64.wrap ((bAnd .u64 (iShr .u64 a0 (1:Int)) (6148914691236517205:Int)) + (bAnd .u64 a0 (6148914691236517205:Int)))) (2:Int)) (3689348814741910323:Int)) + (bAnd .u64 (u64.wrap ((bAnd .u64 (iShr .u64 a0 (1:Int)) (6148914691236517205:Int)) + (bAnd .u64 a0 (6148914691236517205:Int)))) (3689348814741910323:Int)))))) (1085102592571150095:Int)) + (iShr .u64 (bAnd .u64 (u64.wrap ((iShr .u64 (u64.wrap ((bAnd .u64 (iShr .u64 (u64.wrap ((bAnd .u64 (iShr .u64 a0 (1:Int)) (6148914691236517205:Int)) + (bAnd .u64 a0 (6148914691236517205:Int)))) (2:Int)) (3689348814741910323:Int)) + (bAnd .u64 (u64.wrap ((bAnd .u64 (iShr .u64 a0 (1:Int)) (6148914691236517205:Int)) + (bAnd .u64 a0 (6148914691236517205:Int)))) (3689348814741910323:Int)))) (4:Int)) + (u64.wrap ((bAnd .u64 (iShr .u64 (u64.wrap ((bAnd .u64 (iShr .u64 a0 (1:Int)) (6148914691236517205:Int)) + (bAnd .u64 a0 (6148914691236517205:Int)))) (2:Int)) (3689348814741910323:Int)) + (bAnd .u64 (u64.wrap ((bAnd .u64 (iShr .u64 a0 (1:Int)) (6148914691236517205:Int)) + (bAnd .u64 a0 (6148914691236517205:Int)))) (3689348814741910323:Int)))))) (1085102592571150095:Int)) (8:Int)))) (16:Int)))) + (iShr .u64 (u64.wrap ((u64.wrap ((bAnd .u64 (u64.wrap ((iShr .u64 (u64.wrap ((bAnd .u64 (iShr .u64 (u64.wrap ((bAnd .u64 (iShr .u64 a0 (1:Int)) (6148914691236517205:Int)) + (bAnd .u64 a0 (6148914691236517205:Int)))) (2:Int)) (3689348814741910323:Int)) + (bAnd .u64 (u64.wrap ((bAnd .u64 (iShr .u64 a0 (1:Int)) (6148914691236517205:Int)) + (bAnd .u64 a0 (6148914691236517205:Int)))) (3689348814741910323:Int)))) (4:Int)) + (u64.wrap ((bAnd .u64 (iShr .u64 (u64.wrap ((bAnd .u64 (iShr .u64 a0 (1:Int)) (6148914691236517205:Int)) + (bAnd .u64 a0 (6148914691236517205:Int)))) (2:Int)) (3689348814741910323:Int)) + (bAnd .u64 (u64.wrap ((bAnd .u64 (iShr .u64 a0 (1:Int)) (6148914691236517205:Int)) + (bAnd .u64 a0 (6148914691236517205:Int)))) (3689348814741910323:Int)))))) (1085102592571150095:Int)) + (iShr .u64 (bAnd .u64 (u64.wrap ((iShr .u64 (u64.wrap ((bAnd .u64 (iShr .u64 (u64.wrap ((bAnd .u64 (iShr .u64 a0 (1:Int)) (6148914691236517205:Int)) + (bAnd .u64 a0 (6148914691236517205:Int)))) (2:Int)) (3689348814741910323:Int)) + (bAnd .u64 (u64.wrap ((bAnd .u64 (iShr .u64 a0 (1:Int)) (6148914691236517205:Int)) + (bAnd .u64 a0 (6148914691236517205:Int)))) (3689348814741910323:Int)))) (4:Int)) + (u64.wrap ((bAnd .u64 (iShr .u64 (u64.wrap ((bAnd .u64 (iShr .u64 a0 (1:Int)) (6148914691236517205:Int)) + (bAnd .u64 a0 (6148914691236517205:Int)))) (2:Int)) (3689348814741910323:Int)) + (bAnd .u64 (u64.wrap ((bAnd .u64 (iShr .u64 a0 (1:Int)) (6148914691236517205:Int)) + (bAnd .u64 a0 (6148914691236517205:Int)))) (3689348814741910323:Int)))))) (1085102592571150095:Int)) (8:Int)))) + (iShr .u64 (u64.wrap ((bAnd .u64 (u64.wrap ((iShr .u64 (u64.wrap ((bAnd .u64 (iShr .u64 (u64.wrap ((bAnd .u64 (iShr .u64 a0 (1:Int)) (6148914691236517205:Int)) + (bAnd .u64 a0 (6148914691236517205:Int)))) (2:Int)) (3689348814741910323:Int)) + (bAnd .u64 (u64.wrap ((bAnd .u64 (iShr .u64 a0 (1:Int)) (6148914691236517205:Int)) + (bAnd .u64 a0 (6148914691236517205:Int)))) (3689348814741910323:Int)))) (4:Int)) + (u64.wrap ((bAnd .u64 (iShr .u64 (u64.wrap ((bAnd .u64 (iShr .u64 a0 (1:Int)) (6148914691236517205:Int)) + (bAnd .u64 a0 (6148914691236517205:Int)))) (2:Int)) (3689348814741910323:Int)) + (bAnd .u64 (u64.wrap ((bAnd .u64 (iShr .u64 a0 (1:Int)) (6148914691236517205:Int)) + (bAnd .u64 a0 (6148914691236517205:Int)))) (3689348814741910323:Int)))))) (1085102592571150095:Int)) + (iShr .u64 (bAnd .u64 (u64.wrap ((iShr .u64 (u64.wrap ((bAnd .u64 (iShr .u64 (u64.wrap ((bAnd .u64 (iShr .u64 a0 (1:Int)) (6148914691236517205:Int)) + (bAnd .u64 a0 (6148914691236517205:Int)))) (2:Int)) (3689348814741910323:Int)) + (bAnd .u64 (u64.wrap ((bAnd .u64 (iShr .u64 a0 (1:Int)) (6148914691236517205:Int)) + (bAnd .u64 a0 (6148914691236517205:Int)))) (3689348814741910323:Int)))) (4:Int)) + (u64.wrap ((bAnd .u64 (iShr .u64 (u64.wrap ((bAnd .u64 (iShr .u64 a0 (1:Int)) (6148914691236517205:Int)) + (bAnd .u64 a0 (6148914691236517205:Int)))) (2:Int)) (3689348814741910323:Int)) + (bAnd .u64 (u64.wrap ((bAnd .u64 (iShr .u64 a0 (1:Int)) (6148914691236517205:Int)) + (bAnd .u64 a0 (6148914691236517205:Int)))) (3689348814741910323:Int)))))) (1085102592571150095:Int)) (8:Int)))) (16:Int)))) (32:Int))))) (127:Int))) z z z (wl_nil (tn (wp_ret ?_))))))))))))))
 obtain rfl := some_inj hm
 refine post_ret (vs := [I6 (bAnd .i64 (i64.wrap (u64.wrap ((u64.wrap ((u64.wrap ((bAnd .u64 (u64.wrap ((iShr .u64 (u64.wrap ((bAnd .u64 (iShr .u64 (u64.wrap ((bAnd .u64 (iShr .u64 a0 (1:Int)) (6148914691236517205:Int)) + (bAnd .u64 a0 (6148914691236517205:Int)))) (2:Int)) (3689348814741910323:Int)) + (bAnd .u64 (u64.wrap ((bAnd .u64 (iShr .u64 a0 (1:Int)) (6148914691236517205:Int)) + (bAnd .u64 a0 (6148914691236517205:Int)))) (3689348814741910323:Int)))) (4:Int)) + (u64.wrap ((bAnd .u64 (iShr .u64 (u64.wrap ((bAnd .u64 (iShr .u64 a0 (1:Int)) (6148914691236517205:Int)) + (bAnd .u64 a0 (6148914691236517205:Int)))) (2:Int)) (3689348814741910323:Int)) + (bAnd .u64 (u64.wrap ((bAnd .u64 (iShr .u64 a0 (1:Int)) (6148914691236517205:Int)) + (bAnd .u64 a0 (6148914691236517205:Int)))) (3689348814741910323:Int)))))) (1085102592571150095:Int)) + (iShr .u64 (bAnd .u64 (u64.wrap ((iShr .u64 (u64.wrap ((bAnd .u64 (iShr .u64 (u64.wrap ((bAnd .u64 (iShr .u64 a0 (1:Int)) (6148914691236517205:Int)) + (bAnd .u64 a0 (6148914691236517205:Int)))) (2:Int)) (3689348814741910323:Int)) + (bAnd .u64 (u64.wrap ((bAnd .u64 (iShr .u64 a0 (1:Int)) (6148914691236517205:Int)) + (bAnd .u64 a0 (6148914691236517205:Int)))) (3689348814741910323:Int)))) (4:Int)) + (u64.wrap ((bAnd .u64 (iShr .u64 (u64.wrap ((bAnd .u64 (iShr .u64 a0 (1:Int)) (6148914691236517205:Int)) + (bAnd .u64 a0 (6148914691236517205:Int)))) (2:Int)) (3689348814741910323:Int)) + (bAnd .u64 (u64.wrap ((bAnd .u64 (iShr .u64 a0 (1:Int)) (6148914691236517205:Int)) + (bAnd .u64 a0 (6148914691236517205:Int)))) (3689348814741910323:Int)))))) (1085102592571150095:Int)) (8:Int)))) + (iShr .u64 (u64.wrap ((bAnd .u64 (u64.wrap ((iShr .u64 (u64.wrap ((bAnd .u64 (iShr .u64 (u64.wrap ((bAnd .u64 (iShr .u64 a0 (1:Int)) (6148914691236517205:Int)) + (bAnd .u64 a0 (6148914691236517205:Int)))) (2:Int)) (3689348814741910323:Int)) + (bAnd .u64 (u64.wrap ((bAnd .u64 (iShr .u64 a0 (1:Int)) (6148914691236517205:Int)) + (bAnd .u64 a0 (6148914691236517205:Int)))) (3689348814741910323:Int)))) (4:Int)) + (u64.wrap ((bAnd .u64 (iShr .u64 (u64.wrap ((bAnd .u64 (iShr .u64 a0 (1:Int)) (6148914691236517205:Int)) + (bAnd .u64 a0 (6148914691236517205:Int)))) (2:Int)) (3689348814741910323:Int)) + (bAnd .u64 (u64.wrap ((bAnd .u64 (iShr .u64 a0 (1:Int)) (6148914691236517205:Int)) + (bAnd .u64 a0 (6148914691236517205:Int)))) (3689348814741910323:Int)))))) (1085102592571150095:Int)) + (iShr .u64 (bAnd .u64 (u64.wrap ((iShr .u64 (u64.wrap ((bAnd .u64 (iShr .u64 (u64.wrap ((bAnd .u64 (iShr .u64 a0 (1:Int)) (6148914691236517205:Int)) + (bAnd .u64 a0 (6148914691236517205:Int)))) (2:Int)) (3689348814741910323:Int)) + (bAnd .u64 (u64.wrap ((bAnd .u64 (iShr .u64 a0 (1:Int)) (6148914691236517205:Int)) + (bAnd .u64 a0 (6148914691236517205:Int)))) (3689348814741910323:Int)))) (4:Int)) + (u64.wrap ((bAnd .u64 (iShr .u64 (u64.wrap ((bAnd .u64 (iShr .u64 a0 (1:Int)) (6148914691236517205:Int)) + (bAnd .u64 a0 (6148914691236517205:Int)))) (2:Int)) (3689348814741910323:Int)) + (bAnd .u64 (u64.wrap ((bAnd .u64 (iShr .u64 a0 (1:Int)) (6148914691236517205:Int)) + (bAnd .u64 a0 (6148914691236517205:Int)))) (3689348814741910323:Int)))))) (1085102592571150095:Int)) (8:Int)))) (16:Int)))) + (iShr .u64 (u64.wrap ((u64.wrap ((bAnd .u64 (u64.wrap ((iShr .u64 (u64.wrap ((bAnd .u64 (iShr .u64 (u64.wrap ((bAnd .u64 (iShr .u64 a0 (1:Int)) (6148914691236517205:Int)) + (bAnd .u64 a0 (6148914691236517205:Int)))) (2:Int)) (3689348814741910323:Int)) + (bAnd .u64 (u64.wrap ((bAnd .u64 (iShr .u64 a0 (1:Int)) (6148914691236517205:Int)) + (bAnd .u64 a0 (6148914691236517205:Int)))) (3689348814741910323:Int)))) (4:Int)) + (u64.wrap ((bAnd .u64 (iShr .u64 (u64.wrap ((bAnd .u64 (iShr .u64 a0 (1:Int)) (6148914691236517205:Int)) + (bAnd .u64 a0 (6148914691236517205:Int)))) (2:Int)) (3689348814741910323:Int)) + (bAnd .u64 (u64.wrap ((bAnd .u64 (iShr .u64 a0 (1:Int)) (6148914691236517205:Int)) + (bAnd .u64 a0 (6148914691236517205:Int)))) (3689348814741910323:Int)))))) (1085102592571150095:Int)) + (iShr .u64 (bAnd .u64 (u64.wrap ((iShr .u64 (u64.wrap ((bAnd .u64 (iShr .u64 (u64.wrap ((bAnd .u64 (iShr .u64 a0 (1:Int)) (6148914691236517205:Int)) + (bAnd .u64 a0 (6148914691236517205:Int)))) (2:Int)) (3689348814741910323:Int)) + (bAnd .u64 (u64.wrap ((bAnd .u64 (iShr .u64 a0 (1:Int)) (6148914691236517205:Int)) + (bAnd .u64 a0 (6148914691236517205:Int)))) (3689348814741910323:Int)))) (4:Int)) + (u64.wrap ((bAnd .u64 (iShr .u64 (u64.wrap ((bAnd .u64 (iShr .u64 a0 (1:Int)) (6148914691236517205:Int)) + (bAnd .u64 a0 (6148914691236517205:Int)))) (2:Int)) (3689348814741910323:Int)) + (bAnd .u64 (u64.wrap ((bAnd .u64 (iShr .u64 a0 (1:Int)) (6148914691236517205:Int)) + (bAnd .u64 a0 (6148914691236517205:Int)))) (3689348814741910323:Int)))))) (1085102592571150095:Int)) (8:Int)))) + (iShr .u64 (u64.wrap ((bAnd .u64 (u64.wrap ((iShr .u64 (u64.wrap ((bAnd .u64 (iShr .u64 (u64.wrap ((bAnd .u64 (iShr .u64 a0 (1:Int)) (6148914691236517205:Int)) + (bAnd .u64 a0 (6148914691236517205:Int)))) (2:Int)) (3689348814741910323:Int)) + (bAnd .u64 (u64.wrap ((bAnd .u64 (iShr .u64 a0 (1:Int)) (6148914691236517205:Int)) + (bAnd .u64 a0 (6148914691236517205:Int)))) (3689348814741910323:Int)))) (4:Int)) + (u64.wrap ((bAnd .u64 (iShr .u64 (u64.wrap ((bAnd .u64 (iShr .u64 a0 (1:Int)) (6148914691236517205:Int)) + (bAnd .u64 a0 (6148914691236517205:Int)))) (2:Int)) (3689348814741910323:Int)) + (bAnd .u64 (u64.wrap ((bAnd .u64 (iShr .u64 a0 (1:Int)) (6148914691236517205:Int)) + (bAnd .u64 a0 (6148914691236517205:Int)))) (3689348814741910323:Int)))))) (1085102592571150095:Int)) + (iShr .u64 (bAnd .u64 (u64.wrap ((iShr .u64 (u64.wrap ((bAnd .u64 (iShr .u64 (u64.wrap ((bAnd .u64 (iShr .u64 a0 (1:Int)) (6148914691236517205:Int)) + (bAnd .u64 a0 (6148914691236517205:Int)))) (2:Int)) (3689348814741910323:Int)) + (bAnd .u64 (u64.wrap ((bAnd .u64 (iShr .u64 a0 (1:Int)) (6148914691236517205:Int)) + (bAnd .u64 a0 (6148914691236517205:Int)))) (3689348814741910323:Int)))) (4:Int)) + (u64.wrap ((bAnd .u64 (iShr .u64 (u64.wrap ((bAnd .u64 (iShr .u64 a0 (1:Int)) (6148914691236517205:Int)) + (bAnd .u64 a0 (6148914691236517205:Int)))) (2:Int)) (3689348814741910323:Int)) + (bAnd .u64 (u64.wrap ((bAnd .u64 (iShr .u64 a0 (1:Int)) (6148914691236517205:Int)) + (bAnd .u64 a0 (6148914691236517205:Int)))) (3689348814741910323:Int)))))) (1085102592571150095:Int)) (8:Int)))) (16:Int)))) (32:Int))))) (127:Int))]) results30 (rvs_cons (rv_tmp z) rvs_nil) ?_
 exact ⟨z, hst.keep0⟩
}

theorem cmp_isNaN_int_ref {w0 w : World} {I : HL} {R : SP} {a0 : Int}  (hst : St w0 w I [] R) {r : (Bool)} (hm : cmp_isNaN_int a0 = some r) :
  Calls prog 37 #[I6 a0] w fun e w' => e = .returned (.bool r) ∧ St w0 w' I [] R := by {
 unfold cmp_isNaN_int at hm
 refine calls_start (args := [I6 a0]) func37 z ntmps37 (Nat.le_of_ble_eq_true z) ?_
 refine wp_seq (wrl (wv (.bool false) z z z (wl_nil (tn (wp_seq (wrl (wv (.int .i64 a0) z z z (wv (.int .i64 a0) z z z (wv (.bool (a0 != a0)) z z z (wv (.bool (a0 != a0)) z z z (wl_nil (tn (wp_ret ?_)))))))))))))
 obtain rfl := some_inj hm
 refine post_ret (vs := [.bool (a0 != a0)]) results37 (rvs_cons (rv_tmp z) rvs_nil) ?_
 exact ⟨z, hst.keep0⟩
}

theorem cmp_Compare_int_ref {w0 w : World} {I : HL} {R : SP} {a0 : Int} {a1 : Int}  (hst : St w0 w I [] R) {r : (Int)} (hm : cmp_Compare_int a0 a1 = some r) :
  Calls prog 29 #[I6 a0, I6 a1] w fun e w' => e = .returned (.int .i64 r) ∧ St w0 w' I [] R := by {
 unfold cmp_Compare_int at hm
 refine calls_start (args := [I6 a0, I6 a1]) func29 z ntmps29 (Nat.le_of_ble_eq_true z) ?_
 refine wp_seq (wrl (wv (.int .i64 (0:Int)) z z z (wl_nil (tn (wp_seq (wrl (wv (.int .i64 a0) z z z ?_)))))))
 obtain ⟨t2447, ht2448, hm⟩ := bind_some hm
 refine wc call37 [I6 a0] z z z ?_
 refine (cmp_isNaN_int_ref hst.to0 ht2448).mono ?_
 rintro _ w2449 ⟨rfl, hst⟩
 refine ⟨_, z, ?_⟩
 replace hst := hst.of0
 refine wv (.bool t2447) z z z (wl_nil (tn (wp_seq (wrl (wv (.int .i64 a1) z z z ?_)))))
 obtain ⟨t2452, ht2453, hm⟩ := bind_some hm
 refine wc call37 [I6 a1] z z z ?_
 refine (cmp_isNaN_int_ref hst.to0 ht2453).mono ?_
 rintro _ w2454 ⟨rfl, hst⟩
 refine ⟨_, z, ?_⟩
 replace hst := hst.of0
 refine wv (.bool t2452) z z z (wl_nil (tn (wp_seq (wp_seq (wrl (wv (.bool t2447) z z z (wl_nil (tn ?_))))))))
 refine bsplit t2447 (fun hc2457 => ?_) (fun hc2457 => ?_)
 {
 replace hm := bif_t hc2457 hm
 refine wp_ift (cvb hc2457) ?_
 refine wp_seq (wp_seq (wrl (wv (.bool t2452) z z z (wl_nil (tn ?_)))))
 refine bsplit t2452 (fun hc2458 => ?_) (fun hc2458 => ?_)
 {
 replace hm := bif_t hc2458 hm
 refine wp_ift (cvb hc2458) ?_
 refine wp_seq (wrl (wv (.int .i64 (0:Int)) z z z (wl_nil (tn (wp_ret (then_r (then_r ?_)))))))
 obtain rfl := some_inj hm
 refine post_ret (vs := [Zi]) results29 (rvs_cons (rv_tmp z) rvs_nil) ?_
 exact ⟨z, hst.keep0⟩
}
 {
 replace hm := bif_f hc2458 hm
 refine wp_iff (cvb hc2458) ?_
 refine wp_skip (tn (wp_seq (wrl ?_)))
 refine wv (.int .i64 ((-1):Int)) z z z (wl_nil (tn (wp_ret (then_r ?_))))
 obtain rfl := some_inj hm
 refine post_ret (vs := [I6 ((-1):Int)]) results29 (rvs_cons (rv_tmp z) rvs_nil) ?_
 exact ⟨z, hst.keep0⟩
}
}
 {
 replace hm := bif_f hc2457 hm
 refine wp_iff (cvb hc2457) ?_
 refine wp_skip (tn (wp_seq (wp_seq (wrl ?_))))
 refine wv (.bool t2452) z z z (wl_nil (tn ?_))
 refine bsplit t2452 (fun hc2459 => ?_) (fun hc2459 => ?_)
 {
 replace hm := bif_t hc2459 hm
 refine wp_ift (cvb hc2459) ?_
 refine wp_seq (wrl (wv (.int .i64 (1:Int)) z z z (wl_nil (tn (wp_ret (then_r ?_))))))
 obtain rfl := some_inj hm
 refine post_ret (vs := [I6 (1:Int)]) results29 (rvs_cons (rv_tmp z) rvs_nil) ?_
 exact ⟨z, hst.keep0⟩
}
 {
 replace hm := bif_f hc2459 hm
 refine wp_iff (cvb hc2459) ?_
 refine wp_skip (tn (wp_seq (wp_seq (wrl ?_))))
 refine wv (.int .i64 a0) z z z (wv (.int .i64 a1) z z z (wv (.bool (decide (a0 < a1))) z z z (wl_nil (tn ?_))))
 refine bsplit (decide (a0 < a1)) (fun hc2460 => ?_) (fun hc2460 => ?_)
 {
 replace hm := bif_t hc2460 hm
 refine wp_ift (cvb hc2460) ?_
 refine wp_seq (wrl (wv (.int .i64 ((-1):Int)) z z z (wl_nil (tn (wp_ret (then_r ?_))))))
 obtain rfl := some_inj hm
 refine post_ret (vs := [I6 ((-1):Int)]) results29 (rvs_cons (rv_tmp z) rvs_nil) ?_
 exact ⟨z, hst.keep0⟩
}
 {
 replace hm := bif_f hc2460 hm
 refine wp_iff (cvb hc2460) ?_
 refine wp_skip (tn (wp_seq (wp_seq (wrl ?_))))
 refine wv (.int .i64 a0) z z z (wv (.int .i64 a1) z z z (wv (.bool (decide (a0 > a1))) z z z (wl_nil (tn ?_))))
 refine bsplit (decide (a0 > a1)) (fun hc2461 => ?_) (fun hc2461 => ?_)
 {
 replace hm := bif_t hc2461 hm
 refine wp_ift (cvb hc2461) ?_
 refine wp_seq (wrl (wv (.int .i64 (1:Int)) z z z (wl_nil (tn (wp_ret (then_r ?_))))))
 obtain rfl := some_inj hm
 refine post_ret (vs := [I6 (1:Int)]) results29 (rvs_cons (rv_tmp z) rvs_nil) ?_
 exact ⟨z, hst.keep0⟩
}
 {
 replace hm := bif_f hc2461 hm
 refine wp_iff (cvb hc2461) ?_
 refine wp_skip (tn (wp_seq (wrl ?_)))
 refine wv (.int .i64 (0:Int)) z z z (wl_nil (tn (wp_ret ?_)))
 obtain rfl := some_inj hm
 refine post_ret (vs := [Zi]) results29 (rvs_cons (rv_tmp z) rvs_nil) ?_
 exact ⟨z, hst.keep0⟩
}
}
}
}
}

end Go.Proofs.Ytbdbeenkamcglaa
