/- The Go functions refine their models, part 0. -/
import Derived.Test.YtkjkbfaaigmmcaaConfigMostT
set_option linter.unusedVariables false
set_option linter.unusedSimpArgs false
set_option maxRecDepth 100000
set_option maxHeartbeats 4000000
namespace Go.Proofs.Ytkjkbfaaigmmcaa
open Go Go.V
open _root_.Go.Proofs.Try IntKind
attribute [local irreducible] wpList Code.wp wpQuiet Calls bodyPost Oper.wp wpS Nx PendOK YieldsIn
theorem ref03_Lattices_ref {w0 w : World} {I : HL} {R : SP} {a0 : Int}  (hst : St w0 w I [] R) {r : ((List Int))} (hm : ref03_Lattices a0 = some r) :
  Calls prog 36 #[U1 a0] w fun e w' => ∃ (q0_0 : Value), e = .returned (q0_0) ∧ St w0 w' I [ownS (tyInt .u64) q0_0 r] R := by {
 unfold ref03_Lattices at hm
 refine calls_start (args := [U1 a0]) func36 z ntmps36 (Nat.le_of_ble_eq_true z) ?_
 refine wp_seq (wrl (wv ((.slice none 0 0)) z z z (wl_nil (tn (wp_seq (wp_seq (wrl (wv (.int .u8 a0) z z z (wv (.int .u8 (Int.tmod a0 (5:Int))) z z (x_rem (by decide) z z) (wl_nil (tn (wp_block (wp_seq (wrl (wv (.bool ((Int.tmod a0 (5:Int)) == (0:Int))) z z z (wv (.bool ((Int.tmod a0 (5:Int)) == (0:Int))) z z z (wl_nil (tn ?_))))))))))))))))))
 refine bsplit ((Int.tmod a0 (5:Int)) == (0:Int)) (fun hc231 => ?_) (fun hc231 => ?_)
 {
 replace hm := bif_t hc231 hm
 refine wp_ift (cvb hc231) ?_
 refine wp_seq (wrl ?_)
 obtain ⟨b232, w233, ew234, eb235, hst⟩ := hst.lits (E := (tyInt .u64)) (xs := [(3:Int), (2:Int)]) [[U6 (3:Int)], [U6 (2:Int)]] 22 2 z (Reps.cons z (Reps.cons z Reps.nil))
 refine wl_run (v := (.slice (some ⟨b232, 0, none⟩) 2 2)) (w' := w233) z z (x_als (by kernel_rfl) ew234 eb235) ?_
 refine wv ((.slice (some ⟨b232, 0, none⟩) 2 2)) z z z (wl_nil (tn (wp_ret (blk_r (then_r ?_)))))
 obtain rfl := some_inj hm
 refine post_ret (vs := [(.slice (some ⟨b232, 0, none⟩) 2 2)]) results36 (rvs_cons (rv_tmp z) rvs_nil) ?_
 exact ⟨(.slice (some ⟨b232, 0, none⟩) 2 2), z, hst.keep1⟩
}
 {
 replace hm := bif_f hc231 hm
 refine wp_iff (cvb hc231) ?_
 refine wp_seq (wrl (wv (.bool ((Int.tmod a0 (5:Int)) == (1:Int))) z z z (wv (.bool ((Int.tmod a0 (5:Int)) == (1:Int))) z z z (wl_nil (tn ?_)))))
 refine bsplit ((Int.tmod a0 (5:Int)) == (1:Int)) (fun hc237 => ?_) (fun hc237 => ?_)
 {
 replace hm := bif_t hc237 hm
 refine wp_ift (cvb hc237) ?_
 refine wp_seq (wrl ?_)
 obtain ⟨b238, w239, ew240, eb241, hst⟩ := hst.lits (E := (tyInt .u64)) (xs := [(1:Int)]) [[U6 (1:Int)]] 22 1 z (Reps.cons z Reps.nil)
 refine wl_run (v := (.slice (some ⟨b238, 0, none⟩) 1 1)) (w' := w239) z z (x_als (by kernel_rfl) ew240 eb241) ?_
 refine wv ((.slice (some ⟨b238, 0, none⟩) 1 1)) z z z (wl_nil (tn (wp_ret (blk_r (then_r ?_)))))
 obtain rfl := some_inj hm
 refine post_ret (vs := [(.slice (some ⟨b238, 0, none⟩) 1 1)]) results36 (rvs_cons (rv_tmp z) rvs_nil) ?_
 exact ⟨(.slice (some ⟨b238, 0, none⟩) 1 1), z, hst.keep1⟩
}
 {
 replace hm := bif_f hc237 hm
 refine wp_iff (cvb hc237) ?_
 refine wp_seq (wrl (wv (.bool ((Int.tmod a0 (5:Int)) == (2:Int))) z z z (wv (.bool ((Int.tmod a0 (5:Int)) == (2:Int))) z z z (wl_nil (tn ?_)))))
 refine bsplit ((Int.tmod a0 (5:Int)) == (2:Int)) (fun hc243 => ?_) (fun hc243 => ?_)
 {
 replace hm := bif_t hc243 hm
 refine wp_ift (cvb hc243) ?_
 refine wp_seq (wrl ?_)
 obtain ⟨b244, w245, ew246, eb247, hst⟩ := hst.lits (E := (tyInt .u64)) (xs := [(1:Int), (3:Int), (7:Int)]) [[U6 (1:Int)], [U6 (3:Int)], [U6 (7:Int)]] 22 3 z (Reps.cons z (Reps.cons z (Reps.cons z Reps.nil)))
 refine wl_run (v := (.slice (some ⟨b244, 0, none⟩) 3 3)) (w' := w245) z z (x_als (by kernel_rfl) ew246 eb247) ?_
 refine wv ((.slice (some ⟨b244, 0, none⟩) 3 3)) z z z (wl_nil (tn (wp_ret (blk_r (then_r ?_)))))
 obtain rfl := some_inj hm
 refine post_ret (vs := [(.slice (some ⟨b244, 0, none⟩) 3 3)]) results36 (rvs_cons (rv_tmp z) rvs_nil) ?_
 exact ⟨(.slice (some ⟨b244, 0, none⟩) 3 3), z, hst.keep1⟩
}
 {
 replace hm := bif_f hc243 hm
 refine wp_iff (cvb hc243) ?_
 refine wp_seq (wrl (wv (.bool ((Int.tmod a0 (5:Int)) == (3:Int))) z z z (wv (.bool ((Int.tmod a0 (5:Int)) == (3:Int))) z z z (wl_nil (tn ?_)))))
 refine bsplit ((Int.tmod a0 (5:Int)) == (3:Int)) (fun hc249 => ?_) (fun hc249 => ?_)
 {
 replace hm := bif_t hc249 hm
 refine wp_ift (cvb hc249) ?_
 refine wp_seq (wrl ?_)
 obtain ⟨b250, w251, ew252, eb253, hst⟩ := hst.lits (E := (tyInt .u64)) (xs := [(15:Int), (10:Int), (12:Int), (8:Int)]) [[U6 (15:Int)], [U6 (10:Int)], [U6 (12:Int)], [U6 (8:Int)]] 22 4 z (Reps.cons z (Reps.cons z (Reps.cons z (Reps.cons z Reps.nil))))
 refine wl_run (v := (.slice (some ⟨b250, 0, none⟩) 4 4)) (w' := w251) z z (x_als (by kernel_rfl) ew252 eb253) ?_
 refine wv ((.slice (some ⟨b250, 0, none⟩) 4 4)) z z z (wl_nil (tn (wp_ret (blk_r (then_r ?_)))))
 obtain rfl := some_inj hm
 refine post_ret (vs := [(.slice (some ⟨b250, 0, none⟩) 4 4)]) results36 (rvs_cons (rv_tmp z) rvs_nil) ?_
 exact ⟨(.slice (some ⟨b250, 0, none⟩) 4 4), z, hst.keep1⟩
}
 {
 replace hm := bif_f hc249 hm
 refine wp_iff (cvb hc249) ?_
 refine wp_skip (blk_n (tn (wp_seq (wrl ?_))))
 refine wv ((.slice none 0 0)) z z z (wl_nil (tn (wp_seq (wp_seq (wrl (wv (.int .i64 (0:Int)) z z z (wl_nil (tn (wp_block ?_)))))))))
 replace hst := hst.own_nil (tyInt .u64)
 obtain ⟨n374, hm⟩ := loopO_some hm
 refine wp_loop_n (fun n a w => ∃ (z369 : (List Int)) (z372 : Int) (v370 : Value) (σ373 : Nat → Value), loopN (ref03_Lattices_l0) n (z369, z372) = some r ∧ a = Fr 43 (upd (upd σ373 3 (v370)) 4 (.int .i64 z372)) ∧ St w0 w I [ownS (tyInt .u64) v370 z369] R) n374 ⟨[], (0:Int), Zs, _, hm, (fu 3 (.slice none 0 0) z (fu 4 (.int .i64 (0:Int)) z z)), hst⟩ ?_
 rintro n380 _ w375 ⟨z369, z372, v370, σ373, hm, rfl, hst⟩
 obtain ⟨n377, y378, rfl, hm, hx379⟩ := loopN_some hm
 dsimp only [ref03_Lattices_l0] at hm
 refine wp_seq (wp_seq (wrl (wv (.int .i64 z372) z z z (wv (.bool (decide (z372 < (8:Int)))) z z z (wl_nil (tn ?_))))))
 refine bsplit (decide (z372 < (8:Int))) (fun hc381 => ?_) (fun hc381 => ?_)
 {
 replace hm := bif_t hc381 hm
 refine wp_ift (cvb hc381) ?_
 refine wp_skip (tn (wp_seq (wp_block (wp_seq (wrl ?_)))))
 refine wv (.int .u64 (0:Int)) z z z (wl_nil (tn ?_))
 obtain ⟨y405, hm, hx406⟩ := bind_some hm
 refine wp_cut (fun a w => ∃ (z402 : Int) (σ403 : Nat → Value), (ref03_Lattices_j1 z369 z372) z402 = some y378 ∧ a = Fr 43 (upd (upd (upd σ403 3 (v370)) 4 (.int .i64 z372)) 5 (.int .u64 z402)) ∧ St w0 w I [ownS (tyInt .u64) v370 z369] R) ?_ ?_
 {
 refine wp_seq (wrl (wv (.int .i64 (0:Int)) z z z (wl_nil (tn (wp_block ?_)))))
 obtain ⟨n392, hm⟩ := loopO_some hm
 refine wp_loop_n (fun n a w => ∃ (z389 : Int) (z390 : Int) (σ391 : Nat → Value), loopN (ref03_Lattices_l2 z372) n (z389, z390) = some y405 ∧ a = Fr 43 (upd (upd (upd (upd σ391 3 (v370)) 4 (.int .i64 z372)) 5 (.int .u64 z389)) 6 (.int .i64 z390)) ∧ St w0 w I [ownS (tyInt .u64) v370 z369] R) n392 ⟨(0:Int), (0:Int), _, hm, (fu 3 v370 z (fu 4 (.int .i64 z372) z (fu 5 (.int .u64 (0:Int)) z (fu 6 (.int .i64 (0:Int)) z z)))), hst⟩ ?_
 rintro n398 _ w393 ⟨z389, z390, σ391, hm, rfl, hst⟩
 obtain ⟨n395, y396, rfl, hm, hx397⟩ := loopN_some hm
 dsimp only [ref03_Lattices_l2] at hm
 refine wp_seq (wp_seq (wrl (wv (.int .i64 z390) z z z (wv (.bool (decide (z390 < (8:Int)))) z z z (wl_nil (tn ?_))))))
 refine bsplit (decide (z390 < (8:Int))) (fun hc399 => ?_) (fun hc399 => ?_)
 {
 replace hm := bif_t hc399 hm
 refine wp_ift (cvb hc399) ?_
 refine wp_skip (tn (wp_seq (wp_block (wp_seq (wrl ?_)))))
 refine wv (.int .i64 z372) z z z (wv (.int .i64 z390) z z z (wv (.int .i64 (bAnd .i64 z372 z390)) z z z (wv (.int .i64 z372) z z z (wv (.bool ((bAnd .i64 z372 z390) == z372)) z z z (wl_nil (tn ?_))))))
 refine bsplit ((bAnd .i64 z372 z390) == z372) (fun hc400 => ?_) (fun hc400 => ?_)
 {
 replace hm := bif_t hc400 hm
 refine wp_ift (cvb hc400) ?_
 refine wrl (wv (.int .u64 z389) z z z (wv (.int .i64 z390) z z z ?_))
 obtain ⟨hg401, hm⟩ := gd_some hm
 refine wv (.int .u64 (iShl .u64 (1:Int) z390)) z z (x_shl (of_decide_eq_true hg401) z z) (wv (.int .u64 (bOr .u64 z389 (iShl .u64 (1:Int) z390))) z z z (wv (.int .u64 (bOr .u64 z389 (iShl .u64 (1:Int) z390))) z z z (wl_nil (blk_n (tn (wrl (wv (.int .i64 z390) z z z (wv (.int .i64 (i64.wrap (z390 + (1:Int)))) z z z (wv (.int .i64 (i64.wrap (z390 + (1:Int)))) z z z (wl_nil (tn ?_)))))))))))
 replace hst := hst.keep1
 obtain rfl := some_inj hm
 exact ⟨_, Nat.lt_succ_self _, (bOr .u64 z389 (iShl .u64 (1:Int) z390)), (i64.wrap (z390 + (1:Int))), _, hx397, (fu 3 v370 z (fu 4 (.int .i64 z372) z (fu 5 (.int .u64 (bOr .u64 z389 (iShl .u64 (1:Int) z390))) z (fu 6 (.int .i64 (i64.wrap (z390 + (1:Int)))) z z)))), hst⟩
}
 {
 replace hm := bif_f hc400 hm
 refine wp_iff (cvb hc400) ?_
 refine wp_skip (blk_n (tn (wrl ?_)))
 refine wv (.int .i64 z390) z z z (wv (.int .i64 (i64.wrap (z390 + (1:Int)))) z z z (wv (.int .i64 (i64.wrap (z390 + (1:Int)))) z z z (wl_nil (tn ?_))))
 replace hst := hst.keep1
 obtain rfl := some_inj hm
 exact ⟨_, Nat.lt_succ_self _, z389, (i64.wrap (z390 + (1:Int))), _, hx397, (fu 3 v370 z (fu 4 (.int .i64 z372) z (fu 5 (.int .u64 z389) z (fu 6 (.int .i64 (i64.wrap (z390 + (1:Int)))) z z)))), hst⟩
}
}
 {
 replace hm := bif_f hc399 hm
 refine wp_iff (cvb hc399) ?_
 refine wp_exit (then_x (then_x ?_))
 replace hm := inr_up hm hx397
 refine blk_x (tn ?_)
 replace hst := hst.keep1
 obtain rfl := some_inj hm
 exact ⟨z389, _, hx406, (fu 3 v370 z (fu 4 (.int .i64 z372) z (fu 5 (.int .u64 z389) z z))), hst⟩
}
}
 {
 clear hst
 rintro _ w407 ⟨z402, σ403, hm, rfl, hst⟩
 dsimp only [ref03_Lattices_j1] at hm
 refine wrl (wv (v370) z z z (wv (.int .u64 z402) z z z ?_))
 obtain ⟨b408, w409, ew410, eb411, hst⟩ := hst.lits (E := (tyInt .u64)) (xs := [z402]) [[U6 z402]] 22 1 z (Reps.cons z Reps.nil)
 refine wl_run (v := (.slice (some ⟨b408, 0, none⟩) 1 1)) (w' := w409) z z (x_als (by kernel_rfl) ew410 eb411) ?_
 obtain ⟨hg413, hm⟩ := gd_some hm
 replace hst := hst.pull1
 obtain ⟨v414, w415, hr416, hst⟩ := run_append elem_25 underlying25 hst hst.src1 (room_of hg413 z) 25
 refine wl_run (v := v414) (w' := w415) z z (x_append z z hr416) ?_
 refine wv (v414) z z z (wl_nil (blk_n (tn (wrl (wv (.int .i64 z372) z z z (wv (.int .i64 (i64.wrap (z372 + (1:Int)))) z z z (wv (.int .i64 (i64.wrap (z372 + (1:Int)))) z z z (wl_nil (tn ?_)))))))))
 replace hst := hst.keep1
 obtain rfl := some_inj hm
 exact ⟨_, Nat.lt_succ_self _, (z369 ++ ([z402])), (i64.wrap (z372 + (1:Int))), v414, _, hx379, (fu 3 v414 z (fu 4 (.int .i64 (i64.wrap (z372 + (1:Int)))) z z)), hst⟩
}
}
 {
 replace hm := bif_f hc381 hm
 refine wp_iff (cvb hc381) ?_
 refine wp_exit (then_x (then_x ?_))
 replace hm := inr_up hm hx379
 refine blk_x (tn (wp_seq (wrl ?_)))
 refine wv (v370) z z z (wv (v370) z z z (wl_nil (tn (wp_ret ?_))))
 obtain rfl := some_inj hm
 refine post_ret (vs := [v370]) results36 (rvs_cons (rv_tmp z) rvs_nil) ?_
 exact ⟨v370, z, hst.keep1⟩
}
}
}
}
}
}

theorem ref04_Small_ref {w0 w : World} {I : HL} {R : SP} {a0 : Int}  (hst : St w0 w I [] R) {r : (api_Config)} (hm : ref04_Small a0 = some r) :
  Calls prog 13 #[U1 a0] w fun e w' => ∃ (q0_0 : Value) (q0_1 : Value), e = .returned (.agg #[q0_0, I6 r.Nodes, q0_1, I6 r.Frame, I6 r.Depth, I6 r.Quota, I6 r.Wide, I6 r.Beat, I6 r.Elect]) ∧ St w0 w' I [ownS (tyInt .u64) q0_0 r.Up, ownS tyF64 q0_1 r.Cuts] R := by {
 unfold ref04_Small at hm
 refine calls_start (args := [U1 a0]) func13 z ntmps13 (Nat.le_of_ble_eq_true z) ?_
 refine wp_seq (wrl ?_)
 obtain ⟨b92, w93, ew94, eb95, hst⟩ := hst.box [Zs, Zi, Zs, Zi, Zi, Zi, Zi, Zi, Zi] 28
 refine wl_run (v := Pt b92 0) (w' := w93) z z (x_al (by kernel_rfl) ew94 eb95) ?_
 refine wl_nil (tn (wp_seq (wrl (wv (.int .u8 a0) z z z ?_))))
 obtain ⟨t97, ht98, hm⟩ := bind_some hm
 refine wc call36 [U1 a0] z z z ?_
 refine (ref03_Lattices_ref hst.to0 ht98).mono ?_
 rintro _ w99 ⟨v102, rfl, hst⟩
 refine ⟨_, z, ?_⟩
 replace hst := hst.of1
 refine wv (.int .u8 a0) z z z (wv (.int .u8 (u8.wrap (Int.tdiv a0 (5:Int)))) z z (x_quo (by decide) z z) (wv (.int .i64 (i64.wrap (u8.wrap (Int.tdiv a0 (5:Int))))) z z (by kernel_rfl) (wv (.int .i64 (Int.tmod (i64.wrap (u8.wrap (Int.tdiv a0 (5:Int)))) (3:Int))) z z (x_rem (by decide) z z) (wv (.int .i64 (i64.wrap ((1:Int) + (Int.tmod (i64.wrap (u8.wrap (Int.tdiv a0 (5:Int)))) (3:Int))))) z z z (wv (.agg #[v102, I6 (i64.wrap ((1:Int) + (Int.tmod (i64.wrap (u8.wrap (Int.tdiv a0 (5:Int)))) (3:Int)))), Zs, I6 (128:Int), I6 (512:Int), I6 (1048576:Int), I6 (8:Int), I6 (2:Int), I6 (4:Int)]) z z (by obtain ⟨_, _, hv_, _⟩ := hst.sv0; rw [hv_]; kernel_rfl) ?_)))))
 obtain ⟨b108, w109, ew110, eb111, hst⟩ := hst.box [Zs, Zi, Zs, Zi, Zi, Zi, Zi, Zi, Zi] 28
 refine wl_run (v := Pt b108 0) (w' := w109) z z (x_al (by kernel_rfl) ew110 eb111) ?_
 obtain ⟨w113, hr114, hst⟩ := hst.bx [v102, I6 (i64.wrap ((1:Int) + (Int.tmod (i64.wrap (u8.wrap (Int.tdiv a0 (5:Int)))) (3:Int)))), Zs, I6 (128:Int), I6 (512:Int), I6 (1048576:Int), I6 (8:Int), I6 (2:Int), I6 (4:Int)] sizeOf28 z (oC (one_of_sliceV hst.sv1) (oC z (oC z (oC z (oC z (oC z (oC z (oC z (oC z oN))))))))) (by kernel_rfl)
 refine wl_unit z z (x_unit hr114) ?_
 refine wl_nil (tn ?_)
 obtain ⟨y130, hm, hx131⟩ := bind_some hm
 refine wp_cut (fun a w => ∃ (z127 : (List Int)) (v126 : Value) (σ128 : Nat → Value), (ref04_Small_j0 a0) z127 = some r ∧ a = Fr 24 (upd (upd (upd σ128 0 (.int .u8 a0)) 2 (Pt b92 0)) 3 (Pt b108 0)) ∧ St w0 w I [cells b92 [Zs, Zi, Zs, Zi, Zi, Zi, Zi, Zi, Zi], cells b108 [v126, I6 (i64.wrap ((1:Int) + (Int.tmod (i64.wrap (u8.wrap (Int.tdiv a0 (5:Int)))) (3:Int)))), Zs, I6 (128:Int), I6 (512:Int), I6 (1048576:Int), I6 (8:Int), I6 (2:Int), I6 (4:Int)], ownS (tyInt .u64) v126 z127] R) ?_ ?_
 {
 refine wp_seq (wrl (wv (.int .u8 a0) z z z (wv (.int .u8 (Int.tmod a0 (5:Int))) z z (x_rem (by decide) z z) (wv (.bool ((Int.tmod a0 (5:Int)) == (4:Int))) z z z (wl_nil (tn ?_))))))
 refine bsplit ((Int.tmod a0 (5:Int)) == (4:Int)) (fun hc115 => ?_) (fun hc115 => ?_)
 {
 replace hm := bif_t hc115 hm
 refine wp_ift (cvb hc115) ?_
 refine wrl ?_
 obtain ⟨t116, ht117, hm⟩ := bind_some hm
 refine wc call36 [Zb] z z z ?_
 refine (ref03_Lattices_ref hst.to0 ht117).mono ?_
 rintro _ w118 ⟨v121, rfl, hst⟩
 refine ⟨_, z, ?_⟩
 replace hst := hst.of1
 refine wv (Pt b108 0) z z (x_field z underlying28 z sizeOf25 z) ?_
 replace hst := hst.pull1
 obtain ⟨w123, hr124, hst⟩ := hst.boxStore1 (P := prog) (t := 25) (cs' := [v121, I6 (i64.wrap ((1:Int) + (Int.tmod (i64.wrap (u8.wrap (Int.tdiv a0 (5:Int)))) (3:Int)))), Zs, I6 (128:Int), I6 (512:Int), I6 (1048576:Int), I6 (8:Int), I6 (2:Int), I6 (4:Int)]) 0 v121 (one_of_sliceV hst.sv1) sizeOf25 z z
 refine wl_unit z z (x_unit hr124) ?_
 refine wl_nil (tn ?_)
 replace hst := hst.pull1.pull1.pull3.keep3
 obtain rfl := some_inj hm
 exact ⟨t116, v121, _, hx131, (fu 0 (.int .u8 a0) z (fu 2 (Pt b92 0) z (fu 3 (Pt b108 0) z z))), hst⟩
}
 {
 replace hm := bif_f hc115 hm
 refine wp_iff (cvb hc115) ?_
 refine wp_skip (tn ?_)
 replace hst := hst.pull1.pull1.pull2.keep3
 obtain rfl := some_inj hm
 exact ⟨t97, v102, _, hx131, (fu 0 (.int .u8 a0) z (fu 2 (Pt b92 0) z (fu 3 (Pt b108 0) z z))), hst⟩
}
}
 {
 clear hst
 rintro _ w132 ⟨z127, v126, σ128, hm, rfl, hst⟩
 dsimp only [ref04_Small_j0] at hm
 refine wp_seq (wp_seq (wrl (wv (.int .u8 a0) z z z (wv (.int .u8 (u8.wrap (Int.tdiv a0 (16:Int)))) z z (x_quo (by decide) z z) (wv (.int .u8 (Int.tmod (u8.wrap (Int.tdiv a0 (16:Int))) (2:Int))) z z (x_rem (by decide) z z) (wv (.bool ((Int.tmod (u8.wrap (Int.tdiv a0 (16:Int))) (2:Int)) == (1:Int))) z z z (wl_nil (tn ?_))))))))
 refine bsplit ((Int.tmod (u8.wrap (Int.tdiv a0 (16:Int))) (2:Int)) == (1:Int)) (fun hc133 => ?_) (fun hc133 => ?_)
 {
 replace hm := bif_t hc133 hm
 refine wp_ift (cvb hc133) ?_
 refine wrl ?_
 obtain ⟨b134, w135, ew136, eb137, hst⟩ := hst.lits (E := tyF64) (xs := [(0:Nat)]) [[Zf]] 36 1 z (Reps.cons z Reps.nil)
 refine wl_run (v := (.slice (some ⟨b134, 0, none⟩) 1 1)) (w' := w135) z z (x_als (by kernel_rfl) ew136 eb137) ?_
 refine wv (Pt b108 2) z z (x_field z underlying28 z sizeOf26 z) ?_
 replace hst := hst.pull2
 obtain ⟨w139, hr140, hst⟩ := hst.by_ [v126, I6 (i64.wrap ((1:Int) + (Int.tmod (i64.wrap (u8.wrap (Int.tdiv a0 (5:Int)))) (3:Int)))), (.slice (some ⟨b134, 0, none⟩) 1 1), I6 (128:Int), I6 (512:Int), I6 (1048576:Int), I6 (8:Int), I6 (2:Int), I6 (4:Int)] 2 ((.slice (some ⟨b134, 0, none⟩) 1 1)) sizeOf26 z (oC (one_of_sliceV hst.sv1) oN) (by kernel_rfl)
 refine wl_unit z z (x_unit hr140) ?_
 refine wl_nil (tn (wp_seq (wrl (wv (.agg #[v126, I6 (i64.wrap ((1:Int) + (Int.tmod (i64.wrap (u8.wrap (Int.tdiv a0 (5:Int)))) (3:Int)))), (.slice (some ⟨b134, 0, none⟩) 1 1), I6 (128:Int), I6 (512:Int), I6 (1048576:Int), I6 (8:Int), I6 (2:Int), I6 (4:Int)]) z z (x_loadN (cs := [v126, I6 (i64.wrap ((1:Int) + (Int.tmod (i64.wrap (u8.wrap (Int.tdiv a0 (5:Int)))) (3:Int)))), (.slice (some ⟨b134, 0, none⟩) 1 1), I6 (128:Int), I6 (512:Int), I6 (1048576:Int), I6 (8:Int), I6 (2:Int), I6 (4:Int)]) z isAgg28 sizeOf28 (hst.bcs0 0 z)) ?_))))
 replace hst := hst.pull2
 obtain ⟨w141, hr142, hst⟩ := hst.bx [v126, I6 (i64.wrap ((1:Int) + (Int.tmod (i64.wrap (u8.wrap (Int.tdiv a0 (5:Int)))) (3:Int)))), (.slice (some ⟨b134, 0, none⟩) 1 1), I6 (128:Int), I6 (512:Int), I6 (1048576:Int), I6 (8:Int), I6 (2:Int), I6 (4:Int)] sizeOf28 z (oC (one_of_sliceV hst.sv3) (oC z (oC (one_of_sliceV hst.sv2) (oC z (oC z (oC z (oC z (oC z (oC z oN))))))))) (by kernel_rfl)
 refine wl_unit z z (x_unit hr142) ?_
 refine wl_nil (tn (wp_ret ?_))
 obtain rfl := some_inj hm
 refine post_ret (vs := [.agg #[v126, I6 (i64.wrap ((1:Int) + (Int.tmod (i64.wrap (u8.wrap (Int.tdiv a0 (5:Int)))) (3:Int)))), (.slice (some ⟨b134, 0, none⟩) 1 1), I6 (128:Int), I6 (512:Int), I6 (1048576:Int), I6 (8:Int), I6 (2:Int), I6 (4:Int)]]) results13 (rvs_cons (rv_cell (cs := [v126, I6 (i64.wrap ((1:Int) + (Int.tmod (i64.wrap (u8.wrap (Int.tdiv a0 (5:Int)))) (3:Int)))), (.slice (some ⟨b134, 0, none⟩) 1 1), I6 (128:Int), I6 (512:Int), I6 (1048576:Int), I6 (8:Int), I6 (2:Int), I6 (4:Int)]) z isAgg28 sizeOf28 (hst.bcs0 0 z)) rvs_nil) ?_
 replace hst := hst.pull2.pull3
 exact ⟨v126, (.slice (some ⟨b134, 0, none⟩) 1 1), z, hst.keep2⟩
}
 {
 replace hm := bif_f hc133 hm
 refine wp_iff (cvb hc133) ?_
 refine wp_skip (tn (wp_seq (wrl ?_)))
 refine wv (.agg #[v126, I6 (i64.wrap ((1:Int) + (Int.tmod (i64.wrap (u8.wrap (Int.tdiv a0 (5:Int)))) (3:Int)))), Zs, I6 (128:Int), I6 (512:Int), I6 (1048576:Int), I6 (8:Int), I6 (2:Int), I6 (4:Int)]) z z (x_loadN (cs := [v126, I6 (i64.wrap ((1:Int) + (Int.tmod (i64.wrap (u8.wrap (Int.tdiv a0 (5:Int)))) (3:Int)))), Zs, I6 (128:Int), I6 (512:Int), I6 (1048576:Int), I6 (8:Int), I6 (2:Int), I6 (4:Int)]) z isAgg28 sizeOf28 (hst.bcs1 0 z)) ?_
 obtain ⟨w143, hr144, hst⟩ := hst.bx [v126, I6 (i64.wrap ((1:Int) + (Int.tmod (i64.wrap (u8.wrap (Int.tdiv a0 (5:Int)))) (3:Int)))), Zs, I6 (128:Int), I6 (512:Int), I6 (1048576:Int), I6 (8:Int), I6 (2:Int), I6 (4:Int)] sizeOf28 z (oC (one_of_sliceV hst.sv2) (oC z (oC z (oC z (oC z (oC z (oC z (oC z (oC z oN))))))))) (by kernel_rfl)
 refine wl_unit z z (x_unit hr144) ?_
 refine wl_nil (tn (wp_ret ?_))
 replace hst := hst.own_nil tyF64
 obtain rfl := some_inj hm
 refine post_ret (vs := [.agg #[v126, I6 (i64.wrap ((1:Int) + (Int.tmod (i64.wrap (u8.wrap (Int.tdiv a0 (5:Int)))) (3:Int)))), Zs, I6 (128:Int), I6 (512:Int), I6 (1048576:Int), I6 (8:Int), I6 (2:Int), I6 (4:Int)]]) results13 (rvs_cons (rv_cell (cs := [v126, I6 (i64.wrap ((1:Int) + (Int.tmod (i64.wrap (u8.wrap (Int.tdiv a0 (5:Int)))) (3:Int)))), Zs, I6 (128:Int), I6 (512:Int), I6 (1048576:Int), I6 (8:Int), I6 (2:Int), I6 (4:Int)]) z isAgg28 sizeOf28 (hst.bcs1 0 z)) rvs_nil) ?_
 replace hst := hst.pull3
 exact ⟨v126, Zs, z, hst.keep2⟩
}
}
}

theorem math_IsNaN_ref {w0 w : World} {I : HL} {R : SP} {a0 : Nat}  (hst : St w0 w I [] R) {r : (Bool)} (hm : math_IsNaN a0 = some r) :
  Calls prog 58 #[F6 a0] w fun e w' => e = .returned (.bool r) ∧ St w0 w' I [] R := by {
 unfold math_IsNaN at hm
 refine calls_start (args := [F6 a0]) func58 z ntmps58 (Nat.le_of_ble_eq_true z) ?_
 refine wp_seq (wrl (wv (.bool false) z z z (wl_nil (tn (wp_seq (wrl (wv (.float .f64 a0) z z z (wv (.float .f64 a0) z z z (wv (.bool (fNe a0 a0)) z z z (wv (.bool (fNe a0 a0)) z z z (wl_nil (tn (wp_ret ?_)))))))))))))
 obtain rfl := some_inj hm
 refine post_ret (vs := [.bool (fNe a0 a0)]) results58 (rvs_cons (rv_tmp z) rvs_nil) ?_
 exact ⟨z, hst.keep0⟩
}

theorem number_Rank_ref {w0 w : World} {I : HL} {R : SP} {a0 : Nat}  (hst : St w0 w I [] R) {r : (Int)} (hm : number_Rank a0 = some r) :
  Calls prog 53 #[F6 a0] w fun e w' => e = .returned (.int .u64 r) ∧ St w0 w' I [] R := by {
 unfold number_Rank at hm
 refine calls_start (args := [F6 a0]) func53 z ntmps53 (Nat.le_of_ble_eq_true z) ?_
 refine wp_seq (wrl (wv (.int .u64 (0:Int)) z z z (wl_nil (tn (wp_seq (wp_seq (wrl (wv (.float .f64 a0) z z z ?_))))))))
 obtain ⟨t79, ht80, hm⟩ := bind_some hm
 refine wc call58 [F6 a0] z z z ?_
 refine (math_IsNaN_ref hst.to0 ht80).mono ?_
 rintro _ w81 ⟨rfl, hst⟩
 refine ⟨_, z, ?_⟩
 replace hst := hst.of0
 refine wl_nil (tn ?_)
 refine bsplit t79 (fun hc84 => ?_) (fun hc84 => ?_)
 {
 replace hm := bif_t hc84 hm
 refine wp_ift (cvb hc84) ?_
 refine wp_seq (wrl (wv (.int .u64 (18446744073709551615:Int)) z z z (wl_nil (tn (wp_ret (then_r ?_))))))
 obtain rfl := some_inj hm
 refine post_ret (vs := [U6 (18446744073709551615:Int)]) results53 (rvs_cons (rv_tmp z) rvs_nil) ?_
 exact ⟨z, hst.keep0⟩
}
 {
 replace hm := bif_f hc84 hm
 refine wp_iff (cvb hc84) ?_
 refine wp_skip (tn (wp_seq (wrl ?_)))
 refine wv (.float .f64 a0) z z z (wv (.int .u64 (Int.ofNat a0)) z z (by kernel_rfl) (wv (.int .u64 (Int.ofNat a0)) z z z (wl_nil (tn (wp_seq (wp_seq (wrl (wv (.int .u64 (Int.ofNat a0)) z z z (wv (.int .u64 (iShr .u64 (Int.ofNat a0) (63:Int))) z z (x_shr (by decide) z z) (wv (.bool ((iShr .u64 (Int.ofNat a0) (63:Int)) == (1:Int))) z z z (wl_nil (tn ?_))))))))))))
 refine bsplit ((iShr .u64 (Int.ofNat a0) (63:Int)) == (1:Int)) (fun hc85 => ?_) (fun hc85 => ?_)
 {
 replace hm := bif_t hc85 hm
 refine wp_ift (cvb hc85) ?_
 refine wp_seq (wrl (wv (.int .u64 (Int.ofNat a0)) z z z (wv (.int .u64 (bXor .u64 ((18446744073709551615):Int) (Int.ofNat a0))) z z (by kernel_rfl) (wv (.int .u64 (bXor .u64 ((18446744073709551615):Int) (Int.ofNat a0))) z z z (wl_nil (tn (wp_ret (then_r ?_))))))))
 obtain rfl := some_inj hm
 refine post_ret (vs := [U6 (bXor .u64 ((18446744073709551615):Int) (Int.ofNat a0))]) results53 (rvs_cons (rv_tmp z) rvs_nil) ?_
 exact ⟨z, hst.keep0⟩
}
 {
 replace hm := bif_f hc85 hm
 refine wp_iff (cvb hc85) ?_
 refine wp_skip (tn (wp_seq (wrl ?_)))
 refine wv (.int .u64 (Int.ofNat a0)) z z z (wv (.int .u64 (bOr .u64 (Int.ofNat a0) (9223372036854775808:Int))) z z z (wv (.int .u64 (bOr .u64 (Int.ofNat a0) (9223372036854775808:Int))) z z z (wl_nil (tn (wp_ret ?_)))))
 obtain rfl := some_inj hm
 refine post_ret (vs := [U6 (bOr .u64 (Int.ofNat a0) (9223372036854775808:Int))]) results53 (rvs_cons (rv_tmp z) rvs_nil) ?_
 exact ⟨z, hst.keep0⟩
}
}
}

theorem number_Less_ref {w0 w : World} {I : HL} {R : SP} {a0 : Nat} {a1 : Nat}  (hst : St w0 w I [] R) {r : (Bool)} (hm : number_Less a0 a1 = some r) :
  Calls prog 39 #[F6 a0, F6 a1] w fun e w' => e = .returned (.bool r) ∧ St w0 w' I [] R := by {
 unfold number_Less at hm
 refine calls_start (args := [F6 a0, F6 a1]) func39 z ntmps39 (Nat.le_of_ble_eq_true z) ?_
 refine wp_seq (wrl (wv (.bool false) z z z (wl_nil (tn (wp_seq (wrl (wv (.float .f64 a0) z z z ?_)))))))
 obtain ⟨t82, ht83, hm⟩ := bind_some hm
 refine wc call53 [F6 a0] z z z ?_
 refine (number_Rank_ref hst.to0 ht83).mono ?_
 rintro _ w84 ⟨rfl, hst⟩
 refine ⟨_, z, ?_⟩
 replace hst := hst.of0
 refine wv (.float .f64 a1) z z z ?_
 obtain ⟨t87, ht88, hm⟩ := bind_some hm
 refine wc call53 [F6 a1] z z z ?_
 refine (number_Rank_ref hst.to0 ht88).mono ?_
 rintro _ w89 ⟨rfl, hst⟩
 refine ⟨_, z, ?_⟩
 replace hst := hst.of0
 refine wv (.bool (decide (t82 < t87))) z z z (wv (.bool (decide (t82 < t87))) z z z (wl_nil (tn (wp_ret ?_))))
 obtain rfl := some_inj hm
 refine post_ret (vs := [.bool (decide (t82 < t87))]) results39 (rvs_cons (rv_tmp z) rvs_nil) ?_
 exact ⟨z, hst.keep0⟩
}

theorem number_Rising_ref {w0 w : World} {I : HL} {R : SP} {a0 : (List Nat)} {r0_0 : Value} (f0_0 : Rd tyF64 R I r0_0 a0) (hst : St w0 w I [] R) {r : (Bool)} (hm : number_Rising a0 = some r) :
  Calls prog 33 #[r0_0] w fun e w' => e = .returned (.bool r) ∧ St w0 w' I [] R := by {
 unfold number_Rising at hm
 refine calls_start (args := [r0_0]) func33 z ntmps33 (Nat.le_of_ble_eq_true z) ?_
 refine wp_seq (wrl (wv (.bool false) z z z (wl_nil (tn (wp_seq (wp_seq (wrl (wv (.int .i64 (1:Int)) z z z (wl_nil (tn (wp_block ?_)))))))))))
 obtain ⟨n170, hm⟩ := loopO_some hm
 refine wp_loop_n (fun n a w => ∃ (z168 : Int) (σ169 : Nat → Value), loopN (number_Rising_l0 a0) n z168 = some r ∧ a = Fr 21 (upd (upd σ169 0 (r0_0)) 3 (.int .i64 z168)) ∧ St w0 w I [] R) n170 ⟨(1:Int), _, hm, (fu 0 r0_0 z (fu 3 (.int .i64 (1:Int)) z z)), hst⟩ ?_
 rintro n176 _ w171 ⟨z168, σ169, hm, rfl, hst⟩
 obtain ⟨n173, y174, rfl, hm, hx175⟩ := loopN_some hm
 dsimp only [number_Rising_l0] at hm
 refine wp_seq (wp_seq (wrl (wv (.int .i64 z168) z z z (wv (r0_0) z z z (wv (.int .i64 ((a0).length : Int)) z z (x_len z underlying26 (rd_sliceV f0_0)) (wv (.bool (decide (z168 < ((a0).length : Int)))) z z z (wl_nil (tn ?_))))))))
 refine bsplit (decide (z168 < ((a0).length : Int))) (fun hc177 => ?_) (fun hc177 => ?_)
 {
 replace hm := bif_t hc177 hm
 refine wp_ift (cvb hc177) ?_
 refine wp_skip (tn (wp_seq (wp_block (wp_seq ?_))))
 refine wp_region_St hst 11 [0, 1, 2, 3, 4, 5, 6, 7, 8, 9, 10] [0, 0, 2, 7, 15, 0, 0, 96, 224, 511, 1023] [] z (by kernel_rfl) (by kernel_rfl) Try.mixed (by kernel_rfl) ?_
 refine wsr (r0_0) 0 z z z (by kernel_rfl) (fun w hst => z) (wsr (.int .i64 z168) 1 z z z (by kernel_rfl) (fun w hst => z) (wsr (.int .i64 (i64.wrap (z168 - (1:Int)))) 2 z z z (by kernel_rfl) (fun w hst => z) ?_))
 obtain ⟨x178, hx179, hm⟩ := bind_some hm
 obtain ⟨h180, h181, hi182⟩ := geto_some hx179
 refine wsr (.pointer (some (eAddr r0_0 ((i64.wrap (z168 - (1:Int))).toNat * 1 + 0)))) 3 z z z (by kernel_rfl) (fun w hst => x_index z z underlying26 sizeOf36 (rd_sliceV f0_0) h180 h181) (wsr (.float .f64 x178) 4 z z z (by kernel_rfl) (fun w hst => x_load z isAgg36 (rd_load f0_0 (HL.le.refl _) hst hi182 (by rintro _ rfl; rfl))) (wsr (r0_0) 5 z z z (by kernel_rfl) (fun w hst => z) (wsr (.int .i64 z168) 6 z z z (by kernel_rfl) (fun w hst => z) ?_)))
 obtain ⟨x183, hx184, hm⟩ := bind_some hm
 obtain ⟨h185, h186, hi187⟩ := geto_some hx184
 refine wsr (.pointer (some (eAddr r0_0 (z168.toNat * 1 + 0)))) 7 z z z (by kernel_rfl) (fun w hst => x_index z z underlying26 sizeOf36 (rd_sliceV f0_0) h185 h186) (wsr (.float .f64 x183) 8 z z z (by kernel_rfl) (fun w hst => x_load z isAgg36 (rd_load f0_0 (HL.le.refl _) hst hi187 (by rintro _ rfl; rfl))) ?_)
 refine ws_e1 9 (by kernel_rfl) ?_
 refine nxe [10] (by kernel_rfl) z z ?_
 clear hst
 intro w hst
 obtain ⟨t188, ht189, hm⟩ := bind_some hm
 refine wec call39 [F6 x178, F6 x183] z z ?_
 refine (number_Less_ref hst.to0 ht189).mono ?_
 rintro _ w190 ⟨rfl, hst⟩
 refine ⟨_, z, ?_⟩
 replace hst := hst.of0
 refine ws_next (pend' := []) hst (by kernel_rfl) pk_nil ?_
 refine wsr (.bool (!t188)) 10 z z z (by kernel_rfl) (fun w hst => z) ?_
 refine ws_nil ?_
 intro w hst
 refine tn ?_
 refine bsplit (!t188) (fun hc193 => ?_) (fun hc193 => ?_)
 {
 replace hm := bif_t hc193 hm
 refine wp_ift (cvb hc193) ?_
 refine wp_seq (wrl (wv (.bool false) z z z (wl_nil (tn (wp_ret (blk_r (then_r (then_r ?_))))))))
 replace hm := inr_up hm hx175
 refine blk_r (then_r ?_)
 obtain rfl := some_inj hm
 refine post_ret (vs := [.bool false]) results33 (rvs_cons (rv_tmp z) rvs_nil) ?_
 exact ⟨z, hst.keep0⟩
}
 {
 replace hm := bif_f hc193 hm
 refine wp_iff (cvb hc193) ?_
 refine wp_skip (blk_n (tn (wrl ?_)))
 refine wv (.int .i64 z168) z z z (wv (.int .i64 (i64.wrap (z168 + (1:Int)))) z z z (wv (.int .i64 (i64.wrap (z168 + (1:Int)))) z z z (wl_nil (tn ?_))))
 replace hst := hst.keep0
 obtain rfl := some_inj hm
 exact ⟨_, Nat.lt_succ_self _, (i64.wrap (z168 + (1:Int))), _, hx175, (fu 0 r0_0 z (fu 3 (.int .i64 (i64.wrap (z168 + (1:Int)))) z z)), hst⟩
}
}
 {
 replace hm := bif_f hc177 hm
 refine wp_iff (cvb hc177) ?_
 refine wp_exit (then_x (then_x ?_))
 replace hm := inr_up hm hx175
 refine blk_x (tn (wp_seq (wrl ?_)))
 refine wv (.bool true) z z z (wl_nil (tn (wp_ret ?_)))
 obtain rfl := some_inj hm
 refine post_ret (vs := [.bool true]) results33 (rvs_cons (rv_tmp z) rvs_nil) ?_
 exact ⟨z, hst.keep0⟩
}
}

theorem slices_Clone_uint64_uint64_ref {w0 w : World} {I : HL} {R : SP} {a0 : (List Int)} {r0_0 : Value} (f0_0 : Rd (tyInt .u64) R I r0_0 a0) (hst : St w0 w I [] R) {r : (List Int)} (hm : slices_Clone_uint64_uint64 a0 = some r) :
  Calls prog 44 #[r0_0] w fun e w' => ∃ (q0_0 : Value), e = .returned (q0_0) ∧ St w0 w' I [ownS (tyInt .u64) q0_0 r] R := by {
 unfold slices_Clone_uint64_uint64 at hm
 obtain ⟨hg, hm⟩ := gd_some hm
 obtain rfl := some_inj hm
 have hsv := rd_sliceV f0_0
 refine calls_start (args := [r0_0]) func44 z ntmps44 (Nat.le_of_ble_eq_true z) ?_
 refine wp_seq (wrl (wv ((.slice none 0 0)) z z z (wl_nil (tn (wp_seq (wp_seq (wrl (wv (r0_0) z z z (wv (.bool (isNil r0_0)) z z (x_slnil z hsv z underlying25) (wl_nil (tn ?_)))))))))))
 refine bsplit (isNil r0_0) (fun hc108 => ?_) (fun hc108 => ?_)
 {
 refine wp_ift (cvb hc108) ?_
 refine wp_seq (wrl (wv ((.slice none 0 0)) z z z (wl_nil (tn (wp_ret (then_r ?_))))))
 refine post_ret (vs := [Zs]) results44 (rvs_cons (rv_tmp z) rvs_nil) ?_
 obtain rfl := List.eq_nil_of_length_eq_zero (isNil_len hsv hc108)
 exact ⟨_, z, (hst.own_nil (tyInt .u64)).keep1⟩
}
 {
 refine wp_iff (cvb hc108) ?_
 refine wp_skip (tn (wp_seq (wrl ?_)))
 obtain ⟨b, w1, ew, eb, hst⟩ := hst.lits (E := (tyInt .u64)) (xs := []) [] 22 0 z Reps.nil
 refine wl_run (v := (.slice (some ⟨b, 0, none⟩) 0 0)) (w' := w1) z z (x_als (by kernel_rfl) ew eb) ?_
 refine wv (r0_0) z z z ?_
 obtain ⟨v2, w2, hr, hst⟩ := run_append elem_25 underlying25 hst (Src.of_rd hst f0_0 flat_int) (room_of hg z) 25
 refine wl_run (v := v2) (w' := w2) z z (x_append z z hr) ?_
 refine wv (v2) z z z (wl_nil (tn (wp_ret ?_)))
 refine post_ret (vs := [v2]) results44 (rvs_cons (rv_tmp z) rvs_nil) ?_
 rw [List.nil_append] at hst
 exact ⟨_, z, hst.keep1⟩
}
}

theorem label_Lattice_orders_ref {w0 w : World} {I : HL} {R : SP} {a0 : (Option label_Lattice)} {p0 : Value}  (hst : St w0 w I [objO at_label_Lattice p0 a0] R) {r : (Bool)} (hm : label_Lattice_orders a0 = some r) :
  Calls prog 45 #[p0] w fun e w' => e = .returned (.bool r) ∧ St w0 w' I [objO at_label_Lattice p0 a0] R := by {
 rcases a0 with _ | o0
 {
 obtain ⟨rfl, hst'⟩ := objO_none hst
 clear hst
 have hst := hst'
 clear hst'
 dsimp only [label_Lattice_orders] at hm
 refine calls_start (args := [.pointer none]) func45 z ntmps45 (Nat.le_of_ble_eq_true z) ?_
 refine wp_seq (wrl (wv (.bool false) z z z (wl_nil (tn (wp_seq (wrl (wv (.pointer none) z z z ?_)))))))
 cases hm
}
 {
 replace hst := objO_get hst
 dsimp only [label_Lattice_orders] at hm
 refine calls_start (args := [p0]) func45 z ntmps45 (Nat.le_of_ble_eq_true z) ?_
 refine wp_seq (wrl (wv (.bool false) z z z (wl_nil (tn (wp_seq (wrl (wv (p0) z z z ?_)))))))
 obtain ⟨b973, v974, v976, v978, v980, v982, v984, rfl, hst'⟩ := at_label_Lattice_open hst
 clear hst
 have hst := hst'
 clear hst'
 refine wv (Pt b973 0) z z z (wv (Pt b973 0) z z (x_field z underlying73 z sizeOf25 z) (wv (v974) z z (x_load z isAgg25 (hst.bc0 z)) (wv (.int .i64 ((o0.up).length : Int)) z z (x_len z underlying25 hst.sv1) (wv (.int .i64 ((o0.up).length : Int)) z z z (wl_nil (tn (wp_seq (wp_seq (wrl (wv (Pt b973 0) z z z (wv (Pt b973 0) z z z (wv (Pt b973 0) z z (x_field z underlying73 z sizeOf25 z) (wv (v974) z z (x_load z isAgg25 (hst.bc0 z)) (wv (.int .i64 ((o0.up).length : Int)) z z (x_len z underlying25 hst.sv1) (wv (.int .i64 (0:Int)) z z z (wl_nil (tn (wp_block ?_))))))))))))))))))
 obtain ⟨n1088, hm⟩ := loopO_some hm
 refine wp_loop_n (fun n a w => ∃ (z1086 : Int) (σ1087 : Nat → Value), loopN (label_Lattice_orders_l0 o0) n z1086 = some r ∧ a = Fr 74 (upd (upd (upd (upd (upd σ1087 0 (Pt b973 0)) 3 (.int .i64 ((o0.up).length : Int))) 15 (v974)) 16 (.int .i64 ((o0.up).length : Int))) 17 (.int .i64 z1086)) ∧ St w0 w I [cells b973 [v974, v976, v978, v980, v982, v984], ownS (tyInt .u64) v974 o0.up, ownS (tyInt .u64) v976 o0.down, ownS (tySl (tyInt .i64)) v978 o0.join, ownS (tySl (tyInt .i64)) v980 o0.meet, ownS (tyInt .i64) v982 o0.rank, ownS (tyInt .i64) v984 o0.all] R) n1088 ⟨(0:Int), _, hm, (fu 0 (Pt b973 0) z (fu 3 (.int .i64 ((o0.up).length : Int)) z (fu 15 v974 z (fu 16 (.int .i64 ((o0.up).length : Int)) z (fu 17 (.int .i64 (0:Int)) z z))))), hst⟩ ?_
 rintro n1094 _ w1089 ⟨z1086, σ1087, hm, rfl, hst⟩
 obtain ⟨n1091, y1092, rfl, hm, hx1093⟩ := loopN_some hm
 dsimp only [label_Lattice_orders_l0] at hm
 refine wp_seq (wrl (wv (.bool (decide (z1086 < ((o0.up).length : Int)))) z z z (wl_nil (tn (wp_seq ?_)))))
 refine bsplit (decide (z1086 < ((o0.up).length : Int))) (fun hc1095 => ?_) (fun hc1095 => ?_)
 {
 replace hm := bif_t hc1095 hm
 refine wp_ift (cvb hc1095) ?_
 refine wp_skip (tn (wp_seq (wp_block (wp_seq (wrl ?_)))))
 refine wv (.int .i64 z1086) z z z ?_
 obtain ⟨x1096, hx1097, hm⟩ := bind_some hm
 obtain ⟨h1098, h1099, hi1100⟩ := geto_some hx1097
 refine wv (.pointer (some (eAddr v974 (z1086.toNat * 1 + 0)))) z z (x_index z z underlying25 sizeOf22 hst.sv1 h1098 h1099) (wv (.int .u64 x1096) z z (x_load z isAgg22 (hst.ol1 hi1100 (by rintro _ rfl; rfl))) (wv (.int .i64 z1086) z z z (wv (.int .u64 x1096) z z z (wl_nil (tn (wp_seq (wp_seq (wrl (wv (.int .u64 x1096) z z z (wv (.int .i64 ((o0.up).length : Int)) z z z ?_))))))))))
 obtain ⟨hg1101, hm⟩ := gd_some hm
 refine wv (.int .u64 (iShr .u64 x1096 ((o0.up).length : Int))) z z (x_shr (of_decide_eq_true hg1101) z z) (wv (.bool ((iShr .u64 x1096 ((o0.up).length : Int)) != (0:Int))) z z z (wv (.bool ((iShr .u64 x1096 ((o0.up).length : Int)) != (0:Int))) z z z ?_))
 refine bsplit ((iShr .u64 x1096 ((o0.up).length : Int)) != (0:Int)) (fun hc1102 => ?_) (fun hc1102 => ?_)
 {
 replace hm := bif_t hc1102 hm
 refine wo hc1102 z z z z z z (wo hc1102 z z z z z z (wo hc1102 z z z z z z (wo hc1102 z z z z z z (wo hc1102 z z z z z z (wv (.bool true) z z (x_pick_t hc1102 z z) (wl_nil (tn ?_)))))))
 refine wp_ift z ?_
 refine wp_seq (wrl (wv (.bool false) z z z (wl_nil (tn (wp_ret (then_r (blk_r (then_r (then_r ?_)))))))))
 replace hm := inr_up hm hx1093
 refine blk_r (then_r ?_)
 replace hst := hst.pull6.pull6.pull6.pull6.pull6.pull6.pull6
 replace hst := at_label_Lattice_close (pv := Pt b973 0) (x := o0) hst z
 replace hst := objO_some hst
 obtain rfl := some_inj hm
 refine post_ret (vs := [.bool false]) results45 (rvs_cons (rv_tmp z) rvs_nil) ?_
 exact ⟨z, hst.keep1⟩
}
 {
 replace hm := bif_f hc1102 hm
 refine wv (.int .u64 x1096) ((wanted_eq z z z (cvb hc1102)).trans z) z z (wv (.int .i64 z1086) ((wanted_eq z z z (cvb hc1102)).trans z) z z ?_)
 obtain ⟨hg1103, hm⟩ := gd_some hm
 refine wv (.int .u64 (iShr .u64 x1096 z1086)) ((wanted_eq z z z (cvb hc1102)).trans z) z (x_shr (of_decide_eq_true hg1103) z z) (wv (.int .u64 (bAnd .u64 (iShr .u64 x1096 z1086) (1:Int))) ((wanted_eq z z z (cvb hc1102)).trans z) z z (wv (.bool ((bAnd .u64 (iShr .u64 x1096 z1086) (1:Int)) == (0:Int))) ((wanted_eq z z z (cvb hc1102)).trans z) z z (wv (.bool ((bAnd .u64 (iShr .u64 x1096 z1086) (1:Int)) == (0:Int))) z z (x_pick_f hc1102 z z) (wl_nil (tn ?_)))))
 refine bsplit ((bAnd .u64 (iShr .u64 x1096 z1086) (1:Int)) == (0:Int)) (fun hc1104 => ?_) (fun hc1104 => ?_)
 {
 replace hm := bif_t hc1104 hm
 refine wp_ift (cvb hc1104) ?_
 refine wp_seq (wrl (wv (.bool false) z z z (wl_nil (tn (wp_ret (then_r (blk_r (then_r (then_r ?_)))))))))
 replace hm := inr_up hm hx1093
 refine blk_r (then_r ?_)
 replace hst := hst.pull6.pull6.pull6.pull6.pull6.pull6.pull6
 replace hst := at_label_Lattice_close (pv := Pt b973 0) (x := o0) hst z
 replace hst := objO_some hst
 obtain rfl := some_inj hm
 refine post_ret (vs := [.bool false]) results45 (rvs_cons (rv_tmp z) rvs_nil) ?_
 exact ⟨z, hst.keep1⟩
}
 {
 replace hm := bif_f hc1104 hm
 refine wp_iff (cvb hc1104) ?_
 refine wp_skip (tn (wp_seq (wrl ?_)))
 refine wv (.int .i64 ((o0.up).length : Int)) z z z (wv (.int .i64 (0:Int)) z z z (wl_nil (tn (wp_block ?_))))
 obtain ⟨n1131, hm⟩ := loopO_some hm
 refine wp_loop_n (fun n a w => ∃ (z1129 : Int) (σ1130 : Nat → Value), loopN (label_Lattice_orders_l1 o0 x1096 z1086) n z1129 = some y1092 ∧ a = Fr 74 (upd (upd (upd (upd (upd (upd (upd (upd (upd σ1130 0 (Pt b973 0)) 3 (.int .i64 ((o0.up).length : Int))) 4 (.int .i64 z1086)) 5 (.int .u64 x1096)) 15 (v974)) 16 (.int .i64 ((o0.up).length : Int))) 17 (.int .i64 z1086)) 33 (.int .i64 ((o0.up).length : Int))) 34 (.int .i64 z1129)) ∧ St w0 w I [cells b973 [v974, v976, v978, v980, v982, v984], ownS (tyInt .u64) v974 o0.up, ownS (tyInt .u64) v976 o0.down, ownS (tySl (tyInt .i64)) v978 o0.join, ownS (tySl (tyInt .i64)) v980 o0.meet, ownS (tyInt .i64) v982 o0.rank, ownS (tyInt .i64) v984 o0.all] R) n1131 ⟨(0:Int), _, hm, (fu 0 (Pt b973 0) z (fu 3 (.int .i64 ((o0.up).length : Int)) z (fu 4 (.int .i64 z1086) z (fu 5 (.int .u64 x1096) z (fu 15 v974 z (fu 16 (.int .i64 ((o0.up).length : Int)) z (fu 17 (.int .i64 z1086) z (fu 33 (.int .i64 ((o0.up).length : Int)) z (fu 34 (.int .i64 (0:Int)) z z))))))))), hst⟩ ?_
 rintro n1137 _ w1132 ⟨z1129, σ1130, hm, rfl, hst⟩
 obtain ⟨n1134, y1135, rfl, hm, hx1136⟩ := loopN_some hm
 dsimp only [label_Lattice_orders_l1] at hm
 refine wp_seq (wrl (wv (.bool (decide (z1129 < ((o0.up).length : Int)))) z z z (wl_nil (tn (wp_seq ?_)))))
 refine bsplit (decide (z1129 < ((o0.up).length : Int))) (fun hc1138 => ?_) (fun hc1138 => ?_)
 {
 replace hm := bif_t hc1138 hm
 refine wp_ift (cvb hc1138) ?_
 refine wp_skip (tn (wp_seq (wp_block (wp_seq (wrl ?_)))))
 refine wv (.int .i64 z1129) z z z (wv (.int .i64 z1129) z z z (wl_nil (tn (wp_seq (wrl (wv (.int .u64 x1096) z z z (wv (.int .i64 z1129) z z z ?_)))))))
 obtain ⟨hg1139, hm⟩ := gd_some hm
 refine wv (.int .u64 (iShr .u64 x1096 z1129)) z z (x_shr (of_decide_eq_true hg1139) z z) (wv (.int .u64 (bAnd .u64 (iShr .u64 x1096 z1129) (1:Int))) z z z (wv (.bool ((bAnd .u64 (iShr .u64 x1096 z1129) (1:Int)) == (1:Int))) z z z (wv (.bool ((bAnd .u64 (iShr .u64 x1096 z1129) (1:Int)) == (1:Int))) z z z ?_)))
 refine bsplit ((bAnd .u64 (iShr .u64 x1096 z1129) (1:Int)) == (1:Int)) (fun hc1140 => ?_) (fun hc1140 => ?_)
 {
 replace hm := bif_t hc1140 hm
 refine wv (Pt b973 0) ((wanted_eq z z z (cvb hc1140)).trans z) z z (wv (Pt b973 0) ((wanted_eq z z z (cvb hc1140)).trans z) z z (wv (Pt b973 0) ((wanted_eq z z z (cvb hc1140)).trans z) z (x_field z underlying73 z sizeOf25 z) (wv (v974) ((wanted_eq z z z (cvb hc1140)).trans z) z (x_load z isAgg25 (hst.bc0 z)) (wv (.int .i64 z1129) ((wanted_eq z z z (cvb hc1140)).trans z) z z ?_))))
 obtain ⟨x1141, hx1142, hm⟩ := bind_some hm
 obtain ⟨h1143, h1144, hi1145⟩ := geto_some hx1142
 refine wv (.pointer (some (eAddr v974 (z1129.toNat * 1 + 0)))) ((wanted_eq z z z (cvb hc1140)).trans z) z (x_index z z underlying25 sizeOf22 hst.sv1 h1143 h1144) (wv (.int .u64 x1141) ((wanted_eq z z z (cvb hc1140)).trans z) z (x_load z isAgg22 (hst.ol1 hi1145 (by rintro _ rfl; rfl))) (wv (.int .u64 x1096) ((wanted_eq z z z (cvb hc1140)).trans z) z z (wv (.int .u64 (bAndNot .u64 x1141 x1096)) ((wanted_eq z z z (cvb hc1140)).trans z) z z (wv (.bool ((bAndNot .u64 x1141 x1096) != (0:Int))) ((wanted_eq z z z (cvb hc1140)).trans z) z z (wv (.bool ((bAndNot .u64 x1141 x1096) != (0:Int))) ((wanted_eq z z z (cvb hc1140)).trans z) z z ?_)))))
 refine bsplit ((bAndNot .u64 x1141 x1096) != (0:Int)) (fun hc1146 => ?_) (fun hc1146 => ?_)
 {
 replace hm := bif_t hc1146 hm
 refine wo hc1146 z z z z z z (wo hc1146 z z z z z z (wo hc1146 z z z z z z (wo hc1146 z z z z z z (wl_off (wanted_undef z z z z) z (wl_off (wanted_undef z z z z) z (wl_off (wanted_undef z z z z) z (wl_off (wanted_undef z z z z) z (wl_off (wanted_undef z z z z) z (wl_off (wanted_undef z z z z) z (wl_off (wanted_undef z z z z) z (wl_off (wanted_undef z z z z) z (wl_off (wanted_undef z z z z) z ?_))))))))))))
 refine wl_off (wanted_undef z z z z) z (wl_off (wanted_undef z z z z) z (wo hc1146 z z z z z z (wv (.bool true) ((wanted_eq z z z (cvb hc1140)).trans z) z (x_pick_t hc1146 z z) (wv (.bool true) z z (x_pick_t hc1140 z z) (wl_nil (tn ?_))))))
 refine wp_ift z ?_
 refine wp_seq (wrl (wv (.bool false) z z z (wl_nil (tn (wp_ret (blk_r (then_r (then_r ?_))))))))
 replace hm := inr_up hm hx1136
 refine blk_r (blk_r (then_r (then_r ?_)))
 replace hm := inr_up hm hx1093
 refine blk_r (then_r ?_)
 replace hst := hst.pull6.pull6.pull6.pull6.pull6.pull6.pull6
 replace hst := at_label_Lattice_close (pv := Pt b973 0) (x := o0) hst z
 replace hst := objO_some hst
 obtain rfl := some_inj hm
 refine post_ret (vs := [.bool false]) results45 (rvs_cons (rv_tmp z) rvs_nil) ?_
 exact ⟨z, hst.keep1⟩
}
 {
 replace hm := bif_f hc1146 hm
 refine wv (.int .i64 z1086) ((wanted_eq z z z (cvb hc1146)).trans z) z z (wv (.int .i64 z1129) ((wanted_eq z z z (cvb hc1146)).trans z) z z (wv (.bool (z1086 != z1129)) ((wanted_eq z z z (cvb hc1146)).trans z) z z (wv (.bool (z1086 != z1129)) ((wanted_eq z z z (cvb hc1146)).trans z) z z ?_)))
 refine bsplit (z1086 != z1129) (fun hc1147 => ?_) (fun hc1147 => ?_)
 {
 replace hm := bif_t hc1147 hm
 refine wv (Pt b973 0) ((wanted_eq z z z (cvb hc1147)).trans z) z z (wv (Pt b973 0) ((wanted_eq z z z (cvb hc1147)).trans z) z z (wv (Pt b973 0) ((wanted_eq z z z (cvb hc1147)).trans z) z (x_field z underlying73 z sizeOf25 z) (wv (v974) ((wanted_eq z z z (cvb hc1147)).trans z) z (x_load z isAgg25 (hst.bc0 z)) (wv (.int .i64 z1129) ((wanted_eq z z z (cvb hc1147)).trans z) z z (wv (.pointer (some (eAddr v974 (z1129.toNat * 1 + 0)))) ((wanted_eq z z z (cvb hc1147)).trans z) z (x_index z z underlying25 sizeOf22 hst.sv1 h1143 h1144) (wv (.int .u64 x1141) ((wanted_eq z z z (cvb hc1147)).trans z) z (x_load z isAgg22 (hst.ol1 hi1145 (by rintro _ rfl; rfl))) (wv (.int .i64 z1086) ((wanted_eq z z z (cvb hc1147)).trans z) z z ?_)))))))
 obtain ⟨hg1148, hm⟩ := gd_some hm
 refine wv (.int .u64 (iShr .u64 x1141 z1086)) ((wanted_eq z z z (cvb hc1147)).trans z) z (x_shr (of_decide_eq_true hg1148) z z) (wv (.int .u64 (bAnd .u64 (iShr .u64 x1141 z1086) (1:Int))) ((wanted_eq z z z (cvb hc1147)).trans z) z z (wv (.bool ((bAnd .u64 (iShr .u64 x1141 z1086) (1:Int)) == (1:Int))) ((wanted_eq z z z (cvb hc1147)).trans z) z z (wv (.bool ((bAnd .u64 (iShr .u64 x1141 z1086) (1:Int)) == (1:Int))) ((wanted_eq z z z (cvb hc1146)).trans z) z (x_pick_t hc1147 z z) (wv (.bool ((bAnd .u64 (iShr .u64 x1141 z1086) (1:Int)) == (1:Int))) ((wanted_eq z z z (cvb hc1140)).trans z) z (x_pick_f hc1146 z z) (wv (.bool ((bAnd .u64 (iShr .u64 x1141 z1086) (1:Int)) == (1:Int))) z z (x_pick_t hc1140 z z) (wl_nil (tn ?_)))))))
 refine bsplit ((bAnd .u64 (iShr .u64 x1141 z1086) (1:Int)) == (1:Int)) (fun hc1149 => ?_) (fun hc1149 => ?_)
 {
 replace hm := bif_t hc1149 hm
 refine wp_ift (cvb hc1149) ?_
 refine wp_seq (wrl (wv (.bool false) z z z (wl_nil (tn (wp_ret (blk_r (then_r (then_r ?_))))))))
 replace hm := inr_up hm hx1136
 refine blk_r (blk_r (then_r (then_r ?_)))
 replace hm := inr_up hm hx1093
 refine blk_r (then_r ?_)
 replace hst := hst.pull6.pull6.pull6.pull6.pull6.pull6.pull6
 replace hst := at_label_Lattice_close (pv := Pt b973 0) (x := o0) hst z
 replace hst := objO_some hst
 obtain rfl := some_inj hm
 refine post_ret (vs := [.bool false]) results45 (rvs_cons (rv_tmp z) rvs_nil) ?_
 exact ⟨z, hst.keep1⟩
}
 {
 replace hm := bif_f hc1149 hm
 refine wp_iff (cvb hc1149) ?_
 refine wp_skip (blk_n (tn (wrl ?_)))
 refine wv (.int .i64 (i64.wrap (z1129 + (1:Int)))) z z z (wv (.int .i64 (i64.wrap (z1129 + (1:Int)))) z z z (wl_nil (tn ?_)))
 replace hst := hst.pull6.pull6.pull6.pull6.pull6.pull6.pull6.keep7
 obtain rfl := some_inj hm
 exact ⟨_, Nat.lt_succ_self _, (i64.wrap (z1129 + (1:Int))), _, hx1136, (fu 0 (Pt b973 0) z (fu 3 (.int .i64 ((o0.up).length : Int)) z (fu 4 (.int .i64 z1086) z (fu 5 (.int .u64 x1096) z (fu 15 v974 z (fu 16 (.int .i64 ((o0.up).length : Int)) z (fu 17 (.int .i64 z1086) z (fu 33 (.int .i64 ((o0.up).length : Int)) z (fu 34 (.int .i64 (i64.wrap (z1129 + (1:Int)))) z z))))))))), hst⟩
}
}
 {
 replace hm := bif_f hc1147 hm
 refine wo hc1147 z z z z z z (wo hc1147 z z z z z z (wo hc1147 z z z z z z (wo hc1147 z z z z z z (wo hc1147 z z z z z z (wo hc1147 z z z z z z (wo hc1147 z z z z z z (wo hc1147 z z z z z z (wo hc1147 z z z z z z (wo hc1147 z z z z z z (wo hc1147 z z z z z z (wv (.bool false) ((wanted_eq z z z (cvb hc1146)).trans z) z (x_pick_f hc1147 z z) (wv (.bool false) ((wanted_eq z z z (cvb hc1140)).trans z) z (x_pick_f hc1146 z z) ?_))))))))))))
 refine wv (.bool false) z z (x_pick_t hc1140 z z) (wl_nil (tn ?_))
 refine wp_iff z ?_
 refine wp_skip (blk_n (tn (wrl ?_)))
 refine wv (.int .i64 (i64.wrap (z1129 + (1:Int)))) z z z (wv (.int .i64 (i64.wrap (z1129 + (1:Int)))) z z z (wl_nil (tn ?_)))
 replace hst := hst.pull6.pull6.pull6.pull6.pull6.pull6.pull6.keep7
 obtain rfl := some_inj hm
 exact ⟨_, Nat.lt_succ_self _, (i64.wrap (z1129 + (1:Int))), _, hx1136, (fu 0 (Pt b973 0) z (fu 3 (.int .i64 ((o0.up).length : Int)) z (fu 4 (.int .i64 z1086) z (fu 5 (.int .u64 x1096) z (fu 15 v974 z (fu 16 (.int .i64 ((o0.up).length : Int)) z (fu 17 (.int .i64 z1086) z (fu 33 (.int .i64 ((o0.up).length : Int)) z (fu 34 (.int .i64 (i64.wrap (z1129 + (1:Int)))) z z))))))))), hst⟩
}
}
}
 {
 replace hm := bif_f hc1140 hm
 refine wo hc1140 z z z z z z (wo hc1140 z z z z z z (wo hc1140 z z z z z z (wo hc1140 z z z z z z (wo hc1140 z z z z z z (wo hc1140 z z z z z z (wo hc1140 z z z z z z (wo hc1140 z z z z z z (wo hc1140 z z z z z z (wo hc1140 z z z z z z (wo hc1140 z z z z z z (wl_off (wanted_undef z z z z) z (wl_off (wanted_undef z z z z) z ?_))))))))))))
 refine wl_off (wanted_undef z z z z) z (wl_off (wanted_undef z z z z) z (wl_off (wanted_undef z z z z) z (wl_off (wanted_undef z z z z) z (wl_off (wanted_undef z z z z) z (wl_off (wanted_undef z z z z) z (wl_off (wanted_undef z z z z) z (wl_off (wanted_undef z z z z) z (wl_off (wanted_undef z z z z) z (wl_off (wanted_undef z z z z) z (wl_off (wanted_undef z z z z) z (wl_off (wanted_undef z z z z) z (wl_off (wanted_undef z z z z) z ?_))))))))))))
 refine wl_off (wanted_undef z z z z) z (wo hc1140 z z z z z z (wv (.bool false) z z (x_pick_f hc1140 z z) (wl_nil (tn ?_))))
 refine wp_iff z ?_
 refine wp_skip (blk_n (tn (wrl ?_)))
 refine wv (.int .i64 (i64.wrap (z1129 + (1:Int)))) z z z (wv (.int .i64 (i64.wrap (z1129 + (1:Int)))) z z z (wl_nil (tn ?_)))
 replace hst := hst.pull6.pull6.pull6.pull6.pull6.pull6.pull6.keep7
 obtain rfl := some_inj hm
 exact ⟨_, Nat.lt_succ_self _, (i64.wrap (z1129 + (1:Int))), _, hx1136, (fu 0 (Pt b973 0) z (fu 3 (.int .i64 ((o0.up).length : Int)) z (fu 4 (.int .i64 z1086) z (fu 5 (.int .u64 x1096) z (fu 15 v974 z (fu 16 (.int .i64 ((o0.up).length : Int)) z (fu 17 (.int .i64 z1086) z (fu 33 (.int .i64 ((o0.up).length : Int)) z (fu 34 (.int .i64 (i64.wrap (z1129 + (1:Int)))) z z))))))))), hst⟩
}
}
 {
 replace hm := bif_f hc1138 hm
 refine wp_iff (cvb hc1138) ?_
 refine wp_exit (then_x (then_x ?_))
 replace hm := inr_up hm hx1136
 refine blk_x (blk_n (tn (wrl ?_)))
 refine wv (.int .i64 (i64.wrap (z1086 + (1:Int)))) z z z (wv (.int .i64 (i64.wrap (z1086 + (1:Int)))) z z z (wl_nil (tn ?_)))
 replace hst := hst.pull6.pull6.pull6.pull6.pull6.pull6.pull6.keep7
 obtain rfl := some_inj hm
 exact ⟨_, Nat.lt_succ_self _, (i64.wrap (z1086 + (1:Int))), _, hx1093, (fu 0 (Pt b973 0) z (fu 3 (.int .i64 ((o0.up).length : Int)) z (fu 15 v974 z (fu 16 (.int .i64 ((o0.up).length : Int)) z (fu 17 (.int .i64 (i64.wrap (z1086 + (1:Int)))) z z))))), hst⟩
}
}
}
}
 {
 replace hm := bif_f hc1095 hm
 refine wp_iff (cvb hc1095) ?_
 refine wp_exit (then_x (then_x ?_))
 replace hm := inr_up hm hx1093
 refine blk_x (tn (wp_seq (wrl ?_)))
 refine wv (.bool true) z z z (wl_nil (tn (wp_ret ?_)))
 replace hst := hst.pull6.pull6.pull6.pull6.pull6.pull6.pull6
 replace hst := at_label_Lattice_close (pv := Pt b973 0) (x := o0) hst z
 replace hst := objO_some hst
 obtain rfl := some_inj hm
 refine post_ret (vs := [.bool true]) results45 (rvs_cons (rv_tmp z) rvs_nil) ?_
 exact ⟨z, hst.keep1⟩
}
}
}

theorem label_least_ref {w0 w : World} {I : HL} {R : SP} {a0 : Int} {a1 : (List Int)} {r1_0 : Value} (f1_0 : Rd (tyInt .u64) R I r1_0 a1) (hst : St w0 w I [] R) {r : (Int × Bool)} (hm : label_least a0 a1 = some r) :
  Calls prog 46 #[U6 a0, r1_0] w fun e w' => e = .returned (.tuple #[I6 r.1, .bool r.2]) ∧ St w0 w' I [] R := by {
 unfold label_least at hm
 refine calls_start (args := [U6 a0, r1_0]) func46 z ntmps46 (Nat.le_of_ble_eq_true z) ?_
 refine wp_seq (wrl (wv (.int .i64 (0:Int)) z z z (wv (.bool false) z z z (wl_nil (tn (wp_seq (wp_seq (wrl (wv (r1_0) z z z (wv (.int .i64 ((a1).length : Int)) z z (x_len z underlying25 (rd_sliceV f1_0)) (wv (.int .i64 (0:Int)) z z z (wl_nil (tn (wp_block ?_))))))))))))))
 obtain ⟨n1160, hm⟩ := loopO_some hm
 refine wp_loop_n (fun n a w => ∃ (z1158 : Int) (σ1159 : Nat → Value), loopN (label_least_l0 a1 a0) n z1158 = some r ∧ a = Fr 28 (upd (upd (upd (upd σ1159 0 (.int .u64 a0)) 1 (r1_0)) 8 (.int .i64 ((a1).length : Int))) 9 (.int .i64 z1158)) ∧ St w0 w I [] R) n1160 ⟨(0:Int), _, hm, (fu 0 (.int .u64 a0) z (fu 1 r1_0 z (fu 8 (.int .i64 ((a1).length : Int)) z (fu 9 (.int .i64 (0:Int)) z z)))), hst⟩ ?_
 rintro n1166 _ w1161 ⟨z1158, σ1159, hm, rfl, hst⟩
 obtain ⟨n1163, y1164, rfl, hm, hx1165⟩ := loopN_some hm
 dsimp only [label_least_l0] at hm
 refine wp_seq (wrl (wv (.bool (decide (z1158 < ((a1).length : Int)))) z z z (wl_nil (tn (wp_seq ?_)))))
 refine bsplit (decide (z1158 < ((a1).length : Int))) (fun hc1167 => ?_) (fun hc1167 => ?_)
 {
 replace hm := bif_t hc1167 hm
 refine wp_ift (cvb hc1167) ?_
 refine wp_skip (tn (wp_seq (wp_block (wp_seq (wrl ?_)))))
 refine wv (.int .i64 z1158) z z z (wv (.int .i64 z1158) z z z (wl_nil (tn (wp_seq (wrl (wv (.int .u64 a0) z z z (wv (.int .i64 z1158) z z z ?_)))))))
 obtain ⟨hg1168, hm⟩ := gd_some hm
 refine wv (.int .u64 (iShr .u64 a0 z1158)) z z (x_shr (of_decide_eq_true hg1168) z z) (wv (.int .u64 (bAnd .u64 (iShr .u64 a0 z1158) (1:Int))) z z z (wv (.bool ((bAnd .u64 (iShr .u64 a0 z1158) (1:Int)) == (1:Int))) z z z (wv (.bool ((bAnd .u64 (iShr .u64 a0 z1158) (1:Int)) == (1:Int))) z z z ?_)))
 refine bsplit ((bAnd .u64 (iShr .u64 a0 z1158) (1:Int)) == (1:Int)) (fun hc1169 => ?_) (fun hc1169 => ?_)
 {
 replace hm := bif_t hc1169 hm
 refine wv (.int .u64 a0) ((wanted_eq z z z (cvb hc1169)).trans z) z z (wv (r1_0) ((wanted_eq z z z (cvb hc1169)).trans z) z z (wv (.int .i64 z1158) ((wanted_eq z z z (cvb hc1169)).trans z) z z ?_))
 obtain ⟨x1170, hx1171, hm⟩ := bind_some hm
 obtain ⟨h1172, h1173, hi1174⟩ := geto_some hx1171
 refine wv (.pointer (some (eAddr r1_0 (z1158.toNat * 1 + 0)))) ((wanted_eq z z z (cvb hc1169)).trans z) z (x_index z z underlying25 sizeOf22 (rd_sliceV f1_0) h1172 h1173) (wv (.int .u64 x1170) ((wanted_eq z z z (cvb hc1169)).trans z) z (x_load z isAgg22 (rd_load f1_0 (HL.le.refl _) hst hi1174 (by rintro _ rfl; rfl))) (wv (.int .u64 (bAndNot .u64 a0 x1170)) ((wanted_eq z z z (cvb hc1169)).trans z) z z (wv (.bool ((bAndNot .u64 a0 x1170) == (0:Int))) ((wanted_eq z z z (cvb hc1169)).trans z) z z (wv (.bool ((bAndNot .u64 a0 x1170) == (0:Int))) z z (x_pick_t hc1169 z z) (wl_nil (tn ?_))))))
 refine bsplit ((bAndNot .u64 a0 x1170) == (0:Int)) (fun hc1175 => ?_) (fun hc1175 => ?_)
 {
 replace hm := bif_t hc1175 hm
 refine wp_ift (cvb hc1175) ?_
 refine wp_seq (wrl (wv (.int .i64 z1158) z z z (wv (.int .i64 z1158) z z z (wv (.bool true) z z z (wl_nil (tn (wp_ret (blk_r (then_r (then_r ?_))))))))))
 replace hm := inr_up hm hx1165
 refine blk_r (then_r ?_)
 obtain rfl := some_inj hm
 refine post_ret (vs := [I6 z1158, .bool true]) results46 (rvs_cons (rv_tmp z) (rvs_cons (rv_tmp z) rvs_nil)) ?_
 exact ⟨z, hst.keep0⟩
}
 {
 replace hm := bif_f hc1175 hm
 refine wp_iff (cvb hc1175) ?_
 refine wp_skip (blk_n (tn (wrl ?_)))
 refine wv (.int .i64 (i64.wrap (z1158 + (1:Int)))) z z z (wv (.int .i64 (i64.wrap (z1158 + (1:Int)))) z z z (wl_nil (tn ?_)))
 replace hst := hst.keep0
 obtain rfl := some_inj hm
 exact ⟨_, Nat.lt_succ_self _, (i64.wrap (z1158 + (1:Int))), _, hx1165, (fu 0 (.int .u64 a0) z (fu 1 r1_0 z (fu 8 (.int .i64 ((a1).length : Int)) z (fu 9 (.int .i64 (i64.wrap (z1158 + (1:Int)))) z z)))), hst⟩
}
}
 {
 replace hm := bif_f hc1169 hm
 refine wo hc1169 z z z z z z (wo hc1169 z z z z z z (wo hc1169 z z z z z z (wo hc1169 z z z z z z (wo hc1169 z z z z z z (wo hc1169 z z z z z z (wo hc1169 z z z z z z (wv (.bool false) z z (x_pick_f hc1169 z z) (wl_nil (tn ?_)))))))))
 refine wp_iff z ?_
 refine wp_skip (blk_n (tn (wrl ?_)))
 refine wv (.int .i64 (i64.wrap (z1158 + (1:Int)))) z z z (wv (.int .i64 (i64.wrap (z1158 + (1:Int)))) z z z (wl_nil (tn ?_)))
 replace hst := hst.keep0
 obtain rfl := some_inj hm
 exact ⟨_, Nat.lt_succ_self _, (i64.wrap (z1158 + (1:Int))), _, hx1165, (fu 0 (.int .u64 a0) z (fu 1 r1_0 z (fu 8 (.int .i64 ((a1).length : Int)) z (fu 9 (.int .i64 (i64.wrap (z1158 + (1:Int)))) z z)))), hst⟩
}
}
 {
 replace hm := bif_f hc1167 hm
 refine wp_iff (cvb hc1167) ?_
 refine wp_exit (then_x (then_x ?_))
 replace hm := inr_up hm hx1165
 refine blk_x (tn (wp_seq (wrl ?_)))
 refine wv (.int .i64 (0:Int)) z z z (wv (.bool false) z z z (wl_nil (tn (wp_ret ?_))))
 obtain rfl := some_inj hm
 refine post_ret (vs := [Zi, .bool false]) results46 (rvs_cons (rv_tmp z) (rvs_cons (rv_tmp z) rvs_nil)) ?_
 exact ⟨z, hst.keep0⟩
}
}

theorem math_bits_OnesCount64_ref {w0 w : World} {I : HL} {R : SP} {a0 : Int}  (hst : St w0 w I [] R) {r : (Int)} (hm : math_bits_OnesCount64 a0 = some r) :
  Calls prog 32 #[U6 a0] w fun e w' => e = .returned (.int .i64 r) ∧ St w0 w' I [] R := by {
 unfold math_bits_OnesCount64 at hm
 refine calls_start (args := [U6 a0]) func32 z ntmps32 (Nat.le_of_ble_eq_true z) ?_
 refine wp_seq (wrl (wv (.int .i64 (0:Int)) z z z (wl_nil (tn (wp_seq (wrl (wv (.int .u64 a0) z z z (wv (.int .u64 (iShr .u64 a0 (1:Int))) z z (x_shr (by decide) z z) (wv (.int .u64 (bAnd .u64 (iShr .u64 a0 (1:Int)) (6148914691236517205:Int))) z z z (wv (.int .u64 a0) z z z (wv (.int .u64 (bAnd .u64 a0 (6148914691236517205:Int))) z z z (wv (.int .u64 (u64.wrap ((bAnd .u64 (iShr .u64 a0 (1:Int)) (6148914691236517205:Int)) + (bAnd .u64 a0 (6148914691236517205:Int))))) z z z (wv (.int .u64 (u64.wrap ((bAnd .u64 (iShr .u64 a0 (1:Int)) (6148914691236517205:Int)) + (bAnd .u64 a0 (6148914691236517205:Int))))) z z z (wl_nil (tn (wp_seq (wrl (wv (.int .u64 (u64.wrap ((bAnd .u64 (iShr .u64 a0 (1:Int)) (6148914691236517205:Int)) + (bAnd .u64 a0 (6148914691236517205:Int))))) z z z (wv (.int .u64 (iShr .u64 (u64.wrap ((bAnd .u64 (iShr .u64 a0 (1:Int)) (6148914691236517205:Int)) + (bAnd .u64 a0 (6148914691236517205:Int)))) (2:Int))) z z (x_shr (by decide) z z) ?_)))))))))))))))))))
 refine wv (.int .u64 (bAnd .u64 (iShr .u64 (u64.wrap ((bAnd .u64 (iShr .u64 a0 (1:Int)) (6148914691236517205:Int)) + (bAnd .u64 a0 (6148914691236517205:Int)))) (2:Int)) (3689348814741910323:Int))) z z z (wv (.int .u64 (u64.wrap ((bAnd .u64 (iShr .u64 a0 (1:Int)) (6148914691236517205:Int)) + (bAnd .u64 a0 (6148914691236517205:Int))))) z z z (wv (.int .u64 (bAnd .u64 (u64.wrap ((bAnd .u64 (iShr .u64 a0 (1:Int)) (6148914691236517205:Int)) + (bAnd .u64 a0 (6148914691236517205:Int)))) (3689348814741910323:Int))) z z z (wv (.int .u64 (u64.wrap ((bAnd .u64 (iShr .u64 (u64.wrap ((bAnd .u64 (iShr .u64 a0 (1:Int)) (6148914691236517205:Int)) + (bAnd .u64 a0 (6148914691236517205:Int)))) (2:Int)) (3689348814741910323:Int)) + (bAnd .u64 (u64.wrap ((bAnd .u64 (iShr .u64 a0 (1:Int)) (6148914691236517205:Int)) + (bAnd .u64 a0 (6148914691236517205:Int)))) (3689348814741910323:Int))))) z z z (wv (.int .u64 (u64.wrap ((bAnd .u64 (iShr .u64 (u64.wrap ((bAnd .u64 (iShr .u64 a0 (1:Int)) (6148914691236517205:Int)) + (bAnd .u64 a0 (6148914691236517205:Int)))) (2:Int)) (3689348814741910323:Int)) + (bAnd .u64 (u64.wrap ((bAnd .u64 (iShr .u64 a0 (1:Int)) (6148914691236517205:Int)) + (bAnd .u64 a0 (6148914691236517205:Int)))) (3689348814741910323:Int))))) z z z (wl_nil (tn (wp_seq (wrl (wv (.int .u64 (u64.wrap ((bAnd .u64 (iShr .u64 (u64.wrap ((bAnd .u64 (iShr .u64 a0 (1:Int)) (6148914691236517205:Int)) + (bAnd .u64 a0 (6148914691236517205:Int)))) (2:Int)) (3689348814741910323:Int)) + (bAnd .u64 (u64.wrap ((bAnd .u64 (iShr .u64 a0 (1:Int)) (6148914691236517205:Int)) + (bAnd .u64 a0 (6148914691236517205:Int)))) (3689348814741910323:Int))))) z z z (wv (.int .u64 (iShr .u64 (u64.wrap ((bAnd .u64 (iShr .u64 (u64.wrap ((bAnd .u64 (iShr .u64 a0 (1:Int)) (6148914691236517205:Int)) + (bAnd .u64 a0 (6148914691236517205:Int)))) (2:Int)) (3689348814741910323:Int)) + (bAnd .u64 (u64.wrap ((bAnd .u64 (iShr .u64 a0 (1:Int)) (6148914691236517205:Int)) + (bAnd .u64 a0 (6148914691236517205:Int)))) (3689348814741910323:Int)))) (4:Int))) z z (x_shr (by decide) z z) (wv (.int .u64 (u64.wrap ((bAnd .u64 (iShr .u64 (u64.wrap ((bAnd .u64 (iShr .u64 a0 (1:Int)) (6148914691236517205:Int)) + (bAnd .u64 a0 (6148914691236517205:Int)))) (2:Int)) (3689348814741910323:Int)) + (bAnd .u64 (u64.wrap ((bAnd .u64 (iShr .u64 a0 (1:Int)) (6148914691236517205:Int)) + (bAnd .u64 a0 (6148914691236517205:Int)))) (3689348814741910323:Int))))) z z z (wv (.int .u64 (u64.wrap ((iShr .u64 (u64.wrap ((bAnd .u64 (iShr .u64 (u64.wrap ((bAnd .u64 (iShr .u64 a0 (1:Int)) (6148914691236517205:Int)) + (bAnd .u64 a0 (6148914691236517205:Int)))) (2:Int)) (3689348814741910323:Int)) + (bAnd .u64 (u64.wrap ((bAnd .u64 (iShr .u64 a0 (1:Int)) (6148914691236517205:Int)) + (bAnd .u64 a0 (6148914691236517205:Int)))) (3689348814741910323:Int)))) (4:Int)) + (u64.wrap ((bAnd .u64 (iShr .u64 (u64.wrap ((bAnd .u64 (iShr .u64 a0 (1:Int)) (6148914691236517205:Int)) + (bAnd .u64 a0 (6148914691236517205:Int)))) (2:Int)) (3689348814741910323:Int)) + (bAnd .u64 (u64.wrap ((bAnd .u64 (iShr .u64 a0 (1:Int)) (6148914691236517205:Int)) + (bAnd .u64 a0 (6148914691236517205:Int)))) (3689348814741910323:Int))))))) z z z (wv (.int .u64 (bAnd .u64 (u64.wrap ((iShr .u64 (u64.wrap ((bAnd .u64 (iShr .u64 (u64.wrap ((bAnd .u64 (iShr .u64 a0 (1:Int)) (6148914691236517205:Int)) + (bAnd .u64 a0 (6148914691236517205:Int)))) (2:Int)) (3689348814741910323:Int)) + (bAnd .u64 (u64.wrap ((bAnd .u64 (iShr .u64 a0 (1:Int)) (6148914691236517205:Int)) + (bAnd .u64 a0 (6148914691236517205:Int)))) (3689348814741910323:Int)))) (4:Int)) + (u64.wrap ((bAnd .u64 (iShr .u64 (u64.wrap ((bAnd .u64 (iShr .u64 a0 (1:Int)) (6148914691236517205:Int)) + (bAnd .u64 a0 (6148914691236517205:Int)))) (2:Int)) (3689348814741910323:Int)) + (bAnd .u64 (u64.wrap ((bAnd .u64 (iShr .u64 a0 (1:Int)) (6148914691236517205:Int)) + (bAnd .u64 a0 (6148914691236517205:Int)))) (3689348814741910323:Int)))))) (1085102592571150095:Int))) z z z (wv (.int .u64 (bAnd .u64 (u64.wrap ((iShr .u64 (u64.wrap ((bAnd .u64 (iShr .u64 (u64.wrap ((bAnd .u64 (iShr .u64 a0 (1:Int)) (6148914691236517205:Int)) + (bAnd .u64 a0 (6148914691236517205:Int)))) (2:Int)) (3689348814741910323:Int)) + (bAnd .u64 (u64.wrap ((bAnd .u64 (iShr .u64 a0 (1:Int)) (6148914691236517205:Int)) + (bAnd .u64 a0 (6148914691236517205:Int)))) (3689348814741910323:Int)))) (4:Int)) + (u64.wrap ((bAnd .u64 (iShr .u64 (u64.wrap ((bAnd .u64 (iShr .u64 a0 (1:Int)) (6148914691236517205:Int)) + (bAnd .u64 a0 (6148914691236517205:Int)))) (2:Int)) (3689348814741910323:Int)) + (bAnd .u64 (u64.wrap ((bAnd .u64 (iShr .u64 a0 (1:Int)) (6148914691236517205:Int)) + (bAnd .u64 a0 (6148914691236517205:Int)))) (3689348814741910323:Int)))))) (1085102592571150095:Int))) z z z (wl_nil (tn (wp_seq (wrl ?_))))))))))))))))))
 refine wv (.int .u64 (bAnd .u64 (u64.wrap ((iShr .u64 (u64.wrap ((bAnd .u64 (iShr .u64 (u64.wrap ((bAnd .u64 (iShr .u64 a0 (1:Int)) (6148914691236517205:Int)) + (bAnd .u64 a0 (6148914691236517205:Int)))) (2:Int)) (3689348814741910323:Int)) + (bAnd .u64 (u64.wrap ((bAnd .u64 (iShr .u64 a0 (1:Int)) (6148914691236517205:Int)) + (bAnd .u64 a0 (6148914691236517205:Int)))) (3689348814741910323:Int)))) (4:Int)) + (u64.wrap ((bAnd .u64 (iShr .u64 (u64.wrap ((bAnd .u64 (iShr .u64 a0 (1:Int)) (6148914691236517205:Int)) + (bAnd .u64 a0 (6148914691236517205:Int)))) (2:Int)) (3689348814741910323:Int)) + (bAnd .u64 (u64.wrap ((bAnd .u64 (iShr .u64 a0 (1:Int)) (6148914691236517205:Int)) + (bAnd .u64 a0 (6148914691236517205:Int)))) (3689348814741910323:Int)))))) (1085102592571150095:Int))) z z z (wv (.int .u64 (bAnd .u64 (u64.wrap ((iShr .u64 (u64.wrap ((bAnd .u64 (iShr .u64 (u64.wrap ((bAnd .u64 (iShr .u64 a0 (1:Int)) (6148914691236517205:Int)) + (bAnd .u64 a0 (6148914691236517205:Int)))) (2:Int)) (3689348814741910323:Int)) + (bAnd .u64 (u64.wrap ((bAnd .u64 (iShr .u64 a0 (1:Int)) (6148914691236517205:Int)) + (bAnd .u64 a0 (6148914691236517205:Int)))) (3689348814741910323:Int)))) (4:Int)) + (u64.wrap ((bAnd .u64 (iShr .u64 (u64.wrap ((bAnd .u64 (iShr .u64 a0 (1:Int)) (6148914691236517205:Int)) + (bAnd .u64 a0 (6148914691236517205:Int)))) (2:Int)) (3689348814741910323:Int)) + (bAnd .u64 (u64.wrap ((bAnd .u64 (iShr .u64 a0 (1:Int)) (6148914691236517205:Int)) + (bAnd .u64 a0 (6148914691236517205:Int)))) (3689348814741910323:Int)))))) (1085102592571150095:Int))) z z z (wv (.int .u64 (iShr .u64 (bAnd .u64 (u64.wrap ((iShr .u64 (u64.wrap ((bAnd .u64 (iShr .u64 (u64.wrap ((bAnd .u64 (iShr .u64 a0 (1:Int)) (6148914691236517205:Int)) + (bAnd .u64 a0 (6148914691236517205:Int)))) (2:Int)) (3689348814741910323:Int)) + (bAnd .u64 (u64.wrap ((bAnd .u64 (iShr .u64 a0 (1:Int)) (6148914691236517205:Int)) + (bAnd .u64 a0 (6148914691236517205:Int)))) (3689348814741910323:Int)))) (4:Int)) + (u64.wrap ((bAnd .u64 (iShr .u64 (u64.wrap ((bAnd .u64 (iShr .u64 a0 (1:Int)) (6148914691236517205:Int)) + (bAnd .u64 a0 (6148914691236517205:Int)))) (2:Int)) (3689348814741910323:Int)) + (bAnd .u64 (u64.wrap ((bAnd .u64 (iShr .u64 a0 (1:Int)) (6148914691236517205:Int)) + (bAnd .u64 a0 (6148914691236517205:Int)))) (3689348814741910323:Int)))))) (1085102592571150095:Int)) (8:Int))) z z (x_shr (by decide) z z) (wv (.int .u64 (u64.wrap ((bAnd .u64 (u64.wrap ((iShr .u64 (u64.wrap ((bAnd .u64 (iShr .u64 (u64.wrap ((bAnd .u64 (iShr .u64 a0 (1:Int)) (6148914691236517205:Int)) + (bAnd .u64 a0 (6148914691236517205:Int)))) (2:Int)) (3689348814741910323:Int)) + (bAnd .u64 (u64.wrap ((bAnd .u64 (iShr .u64 a0 (1:Int)) (6148914691236517205:Int)) + (bAnd .u64 a0 (6148914691236517205:Int)))) (3689348814741910323:Int)))) (4:Int)) + (u64.wrap ((bAnd .u64 (iShr .u64 (u64.wrap ((bAnd .u64 (iShr .u64 a0 (1:Int)) (6148914691236517205:Int)) + (bAnd .u64 a0 (6148914691236517205:Int)))) (2:Int)) (3689348814741910323:Int)) + (bAnd .u64 (u64.wrap ((bAnd .u64 (iShr .u64 a0 (1:Int)) (6148914691236517205:Int)) + (bAnd .u64 a0 (6148914691236517205:Int)))) (3689348814741910323:Int)))))) (1085102592571150095:Int)) + (iShr .u64 (bAnd .u64 (u64.wrap ((iShr .u64 (u64.wrap ((bAnd .u64 (iShr .u64 (u64.wrap ((bAnd .u64 (iShr .u64 a0 (1:Int)) (6148914691236517205:Int)) + (bAnd .u64 a0 (6148914691236517205:Int)))) (2:Int)) (3689348814741910323:Int)) + (bAnd .u64 (u64.wrap ((bAnd .u64 (iShr .u64 a0 (1:Int)) (6148914691236517205:Int)) + (bAnd .u64 a0 (6148914691236517205:Int)))) (3689348814741910323:Int)))) (4:Int)) + (u64.wrap ((bAnd .u64 (iShr .u64 (u64.wrap ((bAnd .u64 (iShr .u64 a0 (1:Int)) (6148914691236517205:Int)) + (bAnd .u64 a0 (6148914691236517205:Int)))) (2:Int)) (3689348814741910323:Int)) + (bAnd .u64 (u64.wrap ((bAnd .u64 (iShr .u64 a0 (1:Int)) (6148914691236517205:Int)) + (bAnd .u64 a0 (6148914691236517205:Int)))) (3689348814741910323:Int)))))) (1085102592571150095:Int)) (8:Int))))) z z z (wv (.int .u64 (u64.wrap ((bAnd .u64 (u64.wrap ((iShr .u64 (u64.wrap ((bAnd .u64 (iShr .u64 (u64.wrap ((bAnd .u64 (iShr .u64 a0 (1:Int)) (6148914691236517205:Int)) + (bAnd .u64 a0 (6148914691236517205:Int)))) (2:Int)) (3689348814741910323:Int)) + (bAnd .u64 (u64.wrap ((bAnd .u64 (iShr .u64 a0 (1:Int)) (6148914691236517205:Int)) + (bAnd .u64 a0 (6148914691236517205:Int)))) (3689348814741910323:Int)))) (4:Int)) + (u64.wrap ((bAnd .u64 (iShr .u64 (u64.wrap ((bAnd .u64 (iShr .u64 a0 (1:Int)) (6148914691236517205:Int)) + (bAnd .u64 a0 (6148914691236517205:Int)))) (2:Int)) (3689348814741910323:Int)) + (bAnd .u64 (u64.wrap ((bAnd .u64 (iShr .u64 a0 (1:Int)) (6148914691236517205:Int)) + (bAnd .u64 a0 (6148914691236517205:Int)))) (3689348814741910323:Int)))))) (1085102592571150095:Int)) + (iShr .u64 (bAnd .u64 (u64.wrap ((iShr .u64 (u64.wrap ((bAnd .u64 (iShr .u64 (u64.wrap ((bAnd .u64 (iShr .u64 a0 (1:Int)) (6148914691236517205:Int)) + (bAnd .u64 a0 (6148914691236517205:Int)))) (2:Int)) (3689348814741910323:Int)) + (bAnd .u64 (u64.wrap ((bAnd .u64 (iShr .u64 a0 (1:Int)) (6148914691236517205:Int)) + (bAnd .u64 a0 (6148914691236517205:Int)))) (3689348814741910323:Int)))) (4:Int)) + (u64.wrap ((bAnd .u64 (iShr .u64 (u64.wrap ((bAnd .u64 (iShr .u64 a0 (1:Int)) (6148914691236517205:Int)) + (bAnd .u64 a0 (6148914691236517205:Int)))) (2:Int)) (3689348814741910323:Int)) + (bAnd .u64 (u64.wrap ((bAnd .u64 (iShr .u64 a0 (1:Int)) (6148914691236517205:Int)) + (bAnd .u64 a0 (6148914691236517205:Int)))) (3689348814741910323:Int)))))) (1085102592571150095:Int)) (8:Int))))) z z z (wl_nil (tn (wp_seq (wrl (wv (.int .u64 (u64.wrap ((bAnd .u64 (u64.wrap ((iShr .u64 (u64.wrap ((bAnd .u64 (iShr .u64 (u64.wrap ((bAnd .u64 (iShr .u64 a0 (1:Int)) (6148914691236517205:Int)) + (bAnd .u64 a0 (6148914691236517205:Int)))) (2:Int)) (3689348814741910323:Int)) + (bAnd .u64 (u64.wrap ((bAnd .u64 (iShr .u64 a0 (1:Int)) (6148914691236517205:Int)) + (bAnd .u64 a0 (6148914691236517205:Int)))) (3689348814741910323:Int)))) (4:Int)) + (u64.wrap ((bAnd .u64 (iShr .u64 (u64.wrap ((bAnd .u64 (iShr .u64 a0 (1:Int)) (6148914691236517205:Int)) + (bAnd .u64 a0 (6148914691236517205:Int)))) (2:Int)) (3689348814741910323:Int)) + (bAnd .u64 (u64.wrap ((bAnd .u64 (iShr .u64 a0 (1:Int)) (6148914691236517205:Int)) + (bAnd .u64 a0 (6148914691236517205:Int)))) (3689348814741910323:Int)))))) (1085102592571150095:Int)) + (iShr .u64 (bAnd .u64 (u64.wrap ((iShr .u64 (u64.wrap ((bAnd .u64 (iShr .u64 (u64.wrap ((bAnd .u64 (iShr .u64 a0 (1:Int)) (6148914691236517205:Int)) + (bAnd .u64 a0 (6148914691236517205:Int)))) (2:Int)) (3689348814741910323:Int)) + (bAnd .u64 (u64.wrap ((bAnd .u64 (iShr .u64 a0 (1:Int)) (6148914691236517205:Int)) + (bAnd .u64 a0 (6148914691236517205:Int)))) (3689348814741910323:Int)))) (4:Int)) + (u64.wrap ((bAnd .u64 (iShr .u64 (u64.wrap ((bAnd .u64 (iShr .u64 a0 (1:Int)) (6148914691236517205:Int)) + (bAnd .u64 a0 (6148914691236517205:Int)))) (2:Int)) (3689348814741910323:Int)) + (bAnd .u64 (u64.wrap ((bAnd .u64 (iShr .u64 a0 (1:Int)) (6148914691236517205:Int)) + (bAnd .u64 a0 (6148914691236517205:Int)))) (3689348814741910323:Int)))))) (1085102592571150095:Int)) (8:Int))))) z z z (wv (.int .u64 (u64.wrap ((bAnd .u64 (u64.wrap ((iShr .u64 (u64.wrap ((bAnd .u64 (iShr .u64 (u64.wrap ((bAnd .u64 (iShr .u64 a0 (1:Int)) (6148914691236517205:Int)) + (bAnd .u64 a0 (6148914691236517205:Int)))) (2:Int)) (3689348814741910323:Int)) + (bAnd .u64 (u64.wrap ((bAnd .u64 (iShr .u64 a0 (1:Int)) (6148914691236517205:Int)) + (bAnd .u64 a0 (6148914691236517205:Int)))) (3689348814741910323:Int)))) (4:Int)) + (u64.wrap ((bAnd .u64 (iShr .u64 (u64.wrap ((bAnd .u64 (iShr .u64 a0 (1:Int)) (6148914691236517205:Int)) + (bAnd .u64 a0 (6148914691236517205:Int)))) (2:Int)) (3689348814741910323:Int)) + (bAnd .u64 (u64.wrap ((bAnd .u64 (iShr .u64 a0 (1:Int)) (6148914691236517205:Int)) + (bAnd .u64 a0 (6148914691236517205:Int)))) (3689348814741910323:Int)))))) (1085102592571150095:Int)) + (iShr .u64 (bAnd .u64 (u64.wrap ((iShr .u64 (u64.wrap ((bAnd .u64 (iShr .u64 (u64.wrap ((bAnd .u64 (iShr .u64 a0 (1:Int)) (6148914691236517205:Int)) + (bAnd .u64 a0 (6148914691236517205:Int)))) (2:Int)) (3689348814741910323:Int)) + (bAnd .u64 (u64.wrap ((bAnd .u64 (iShr .u64 a0 (1:Int)) (6148914691236517205:Int)) + (bAnd .u64 a0 (6148914691236517205:Int)))) (3689348814741910323:Int)))) (4:Int)) + (u64.wrap ((bAnd .u64 (iShr .u64 (u64.wrap ((bAnd .u64 (iShr .u64 a0 (1:Int)) (6148914691236517205:Int)) + (bAnd .u64 a0 (6148914691236517205:Int)))) (2:Int)) (3689348814741910323:Int)) + (bAnd .u64 (u64.wrap ((bAnd .u64 (iShr .u64 a0 (1:Int)) (6148914691236517205:Int)) + (bAnd .u64 a0 (6148914691236517205:Int)))) (3689348814741910323:Int)))))) (1085102592571150095:Int)) (8:Int))))) z z z (wv (.int .u64 (iShr .u64 (u64.wrap ((bAnd .u64 (u64.wrap ((iShr .u64 (u64.wrap ((bAnd .u64 (iShr .u64 (u64.wrap ((bAnd .u64 (iShr .u64 a0 (1:Int)) (6148914691236517205:Int)) + (bAnd .u64 a0 (6148914691236517205:Int)))) (2:Int)) (3689348814741910323:Int)) + (bAnd .u64 (u64.wrap ((bAnd .u64 (iShr .u64 a0 (1:Int)) (6148914691236517205:Int)) + (bAnd .u64 a0 (6148914691236517205:Int)))) (3689348814741910323:Int)))) (4:Int)) + (u64.wrap ((bAnd .u64 (iShr .u64 (u64.wrap ((bAnd .u64 (iShr .u64 a0 (1:Int)) (6148914691236517205:Int)) + (bAnd .u64 a0 (6148914691236517205:Int)))) (2:Int)) (3689348814741910323:Int)) + (bAnd .u64 (u64.wrap ((bAnd .u64 (iShr .u64 a0 (1:Int)) (6148914691236517205:Int)) + (bAnd .u64 a0 (6148914691236517205:Int)))) (3689348814741910323:Int)))))) (1085102592571150095:Int)) + (iShr .u64 (bAnd .u64 (u64.wrap ((iShr .u64 (u64.wrap ((bAnd .u64 (iShr .u64 (u64.wrap ((bAnd .u64 (iShr .u64 a0 (1:Int)) (6148914691236517205:Int)) + (bAnd .u64 a0 (6148914691236517205:Int)))) (2:Int)) (3689348814741910323:Int)) + (bAnd .u64 (u64.wrap ((bAnd .u64 (iShr .u64 a0 (1:Int)) (6148914691236517205:Int)) + (bAnd .u64 a0 (6148914691236517205:Int)))) (3689348814741910323:Int)))) (4:Int)) + (u64.wrap ((bAnd .u64 (iShr .u64 (u64.wrap ((bAnd .u64 (iShr .u64 a0 (1:Int)) (6148914691236517205:Int)) + (bAnd .u64 a0 (6148914691236517205:Int)))) (2:Int)) (3689348814741910323:Int)) + (bAnd .u64 (u64.wrap ((bAnd .u64 (iShr .u64 a0 (1:Int)) (6148914691236517205:Int)) + (bAnd .u64 a0 (6148914691236517205:Int)))) (3689348814741910323:Int)))))) (1085102592571150095:Int)) (8:Int)))) (16:Int))) z z (x_shr (by decide) z z) (wv (.int .u64 (u64.wrap ((u64.wrap ((bAnd .u64 (u64.wrap ((iShr .u64 (u64.wrap ((bAnd .u64 (iShr .u64 (u64.wrap ((bAnd .u64 (iShr .u64 a0 (1:Int)) (6148914691236517205:Int)) + (bAnd .u64 a0 (6148914691236517205:Int)))) (2:Int)) (3689348814741910323:Int)) + (bAnd .u64 (u64.wrap ((bAnd .u64 (iShr .u64 a0 (1:Int)) (6148914691236517205:Int)) + (bAnd .u64 a0 (6148914691236517205:Int)))) (3689348814741910323:Int)))) (4:Int)) + (u64.wrap ((bAnd .u64 (iShr .u64 (u64.wrap ((bAnd .u64 (iShr .u64 a0 (1:Int)) (6148914691236517205:Int)) + (bAnd .u64 a0 (6148914691236517205:Int)))) (2:Int)) (3689348814741910323:Int)) + (bAnd .u64 (u64.wrap ((bAnd .u64 (iShr .u64 a0 (1:Int)) (6148914691236517205:Int)) + (bAnd .u64 a0 (6148914691236517205:Int)))) (3689348814741910323:Int)))))) (1085102592571150095:Int)) + (iShr .u64 (bAnd .u64 (u64.wrap ((iShr .u64 (u64.wrap ((bAnd .u64 (iShr .u64 (u64.wrap ((bAnd .u64 (iShr .u64 a0 (1:Int)) (6148914691236517205:Int)) + (bAnd .u64 a0 (6148914691236517205:Int)))) (2:Int)) (3689348814741910323:Int)) + (bAnd .u64 (u64.wrap ((bAnd .u64 (iShr .u64 a0 (1:Int)) (6148914691236517205:Int)) + (bAnd .u64 a0 (6148914691236517205:Int)))) (3689348814741910323:Int)))) (4:Int)) + (u64.wrap ((bAnd .u64 (iShr .u64 (u64.wrap ((bAnd .u64 (iShr .u64 a0 (1:Int)) (6148914691236517205:Int)) + (bAnd .u64 a0 (6148914691236517205:Int)))) (2:Int)) (3689348814741910323:Int)) + (bAnd .u64 (u64.wrap ((bAnd .u64 (iShr .u64 a0 (1:Int)) (6148914691236517205:Int)) + (bAnd .u64 a0 (6148914691236517205:Int)))) (3689348814741910323:Int)))))) (1085102592571150095:Int)) (8:Int)))) + (iShr .u64 (u64.wrap ((bAnd .u64 (u64.wrap ((iShr .u64 (u64.wrap ((bAnd .u64 (iShr .u64 (u64.wrap ((bAnd .u64 (iShr .u64 a0 (1:Int)) (6148914691236517205:Int)) + (bAnd .u64 a0 (6148914691236517205:Int)))) (2:Int)) (3689348814741910323:Int)) + (bAnd .u64 (u64.wrap ((bAnd .u64 (iShr .u64 a0 (1:Int)) (6148914691236517205:Int)) + (bAnd .u64 a0 (6148914691236517205:Int)))) (3689348814741910323:Int)))) (4:Int)) + (u64.wrap ((bAnd .u64 (iShr .u64 (u64.wrap ((bAnd .u64 (iShr .u64 a0 (1:Int)) (6148914691236517205:Int)) + (bAnd .u64 a0 (6148914691236517205:Int)))) (2:Int)) (3689348814741910323:Int)) + (bAnd .u64 (u64.wrap ((bAnd .u64 (iShr .u64 a0 (1:Int)) (6148914691236517205:Int)) + (bAnd .u64 a0 (6148914691236517205:Int)))) (3689348814741910323:Int)))))) (1085102592571150095:Int)) + (iShr .u64 (bAnd .u64 (u64.wrap ((iShr .u64 (u64.wrap ((bAnd .u64 (iShr .u64 (u64.wrap ((bAnd .u64 (iShr .u64 a0 (1:Int)) (6148914691236517205:Int)) + (bAnd .u64 a0 (6148914691236517205:Int)))) (2:Int)) (3689348814741910323:Int)) + (bAnd .u64 (u64.wrap ((bAnd .u64 (iShr .u64 a0 (1:Int)) (6148914691236517205:Int)) + (bAnd .u64 a0 (6148914691236517205:Int)))) (3689348814741910323:Int)))) (4:Int)) + (u64.wrap ((bAnd .u64 (iShr .u64 (u64.wrap ((bAnd .u64 (iShr .u64 a0 (1:Int)) (6148914691236517205:Int)) + (bAnd .u64 a0 (6148914691236517205:Int)))) (2:Int)) (3689348814741910323:Int)) + (bAnd .u64 (u64.wrap ((bAnd .u64 (iShr .u64 a0 (1:Int)) (6148914691236517205:Int)) + (bAnd .u64 a0 (6148914691236517205:Int)))) (3689348814741910323:Int)))))) (1085102592571150095:Int)) (8:Int)))) (16:Int))))) z z z (wv (.int .u64 (u64.wrap ((u64.wrap ((bAnd .u64 (u64.wrap ((iShr .u64 (u64.wrap ((bAnd .u64 (iShr .u64 (u64.wrap ((bAnd .u64 (iShr .u64 a0 (1:Int)) (6148914691236517205:Int)) + (bAnd .u64 a0 (6148914691236517205:Int)))) (2:Int)) (3689348814741910323:Int)) + (bAnd .u64 (u64.wrap ((bAnd .u64 (iShr .u64 a0 (1:Int)) (6148914691236517205:Int)) + (bAnd .u64 a0 (6148914691236517205:Int)))) (3689348814741910323:Int)))) (4:Int)) + (u64.wrap ((bAnd .u64 (iShr .u64 (u64.wrap ((bAnd .u64 (iShr .u64 a0 (1:Int)) (6148914691236517205:Int)) + (bAnd .u64 a0 (6148914691236517205:Int)))) (2:Int)) (3689348814741910323:Int)) + (bAnd .u64 (u64.wrap ((bAnd .u64 (iShr .u64 a0 (1:Int)) (6148914691236517205:Int)) + (bAnd .u64 a0 (6148914691236517205:Int)))) (3689348814741910323:Int)))))) (1085102592571150095:Int)) + (iShr .u64 (bAnd .u64 (u64.wrap ((iShr .u64 (u64.wrap ((bAnd .u64 (iShr .u64 (u64.wrap ((bAnd .u64 (iShr .u64 a0 (1:Int)) (6148914691236517205:Int)) + (bAnd .u64 a0 (6148914691236517205:Int)))) (2:Int)) (3689348814741910323:Int)) + (bAnd .u64 (u64.wrap ((bAnd .u64 (iShr .u64 a0 (1:Int)) (6148914691236517205:Int)) + (bAnd .u64 a0 (6148914691236517205:Int)))) (3689348814741910323:Int)))) (4:Int)) + (u64.wrap ((bAnd .u64 (iShr .u64 (u64.wrap ((bAnd .u64 (iShr .u64 a0 (1:Int)) (6148914691236517205:Int)) + (bAnd .u64 a0 (6148914691236517205:Int)))) (2:Int)) (3689348814741910323:Int)) + (bAnd .u64 (u64.wrap ((bAnd .u64 (iShr .u64 a0 (1:Int)) (6148914691236517205:Int)) + (bAnd .u64 a0 (6148914691236517205:Int)))) (3689348814741910323:Int)))))) (1085102592571150095:Int)) (8:Int)))) + (iShr .u64 (u64.wrap ((bAnd .u64 (u64.wrap ((iShr .u64 (u64.wrap ((bAnd .u64 (iShr .u64 (u64.wrap ((bAnd .u64 (iShr .u64 a0 (1:Int)) (6148914691236517205:Int)) + (bAnd .u64 a0 (6148914691236517205:Int)))) (2:Int)) (3689348814741910323:Int)) + (bAnd .u64 (u64.wrap ((bAnd .u64 (iShr .u64 a0 (1:Int)) (6148914691236517205:Int)) + (bAnd .u64 a0 (6148914691236517205:Int)))) (3689348814741910323:Int)))) (4:Int)) + (u64.wrap ((bAnd .u64 (iShr .u64 (u64.wrap ((bAnd .u64 (iShr .u64 a0 (1:Int)) (6148914691236517205:Int)) + (bAnd .u64 a0 (6148914691236517205:Int)))) (2:Int)) (3689348814741910323:Int)) + (bAnd .u64 (u64.wrap ((bAnd .u64 (iShr .u64 a0 (1:Int)) (6148914691236517205:Int)) + (bAnd .u64 a0 (6148914691236517205:Int)))) (3689348814741910323:Int)))))) (1085102592571150095:Int)) + (iShr .u64 (bAnd .u64 (u64.wrap ((iShr .u64 (u64.wrap ((bAnd .u64 (iShr .u64 (u64.wrap ((bAnd .u64 (iShr .u64 a0 (1:Int)) (6148914691236517205:Int)) + (bAnd .u64 a0 (6148914691236517205:Int)))) (2:Int)) (3689348814741910323:Int)) + (bAnd .u64 (u64.wrap ((bAnd .u64 (iShr .u64 a0 (1:Int)) (6148914691236517205:Int)) + (bAnd .u64 a0 (6148914691236517205:Int)))) (3689348814741910323:Int)))) (4:Int)) + (u64.wrap ((bAnd .u64 (iShr .u64 (u64.wrap ((bAnd .u64 (iShr .u64 a0 (1:Int)) (6148914691236517205:Int)) + (bAnd .u64 a0 (6148914691236517205:Int)))) (2:Int)) (3689348814741910323:Int)) + (bAnd .u64 (u64.wrap ((bAnd .u64 (iShr .u64 a0 (1:Int)) (6148914691236517205:Int)) + (bAnd .u64 a0 (6148914691236517205:Int)))) (3689348814741910323:Int)))))) (1085102592571150095:Int)) (8:Int)))) (16:Int))))) z z z (wl_nil (tn (wp_seq (wrl (wv (.int .u64 (u64.wrap ((u64.wrap ((bAnd .u64 (u64.wrap ((iShr .u64 (u64.wrap ((bAnd .u64 (iShr .u64 (u64.wrap ((bAnd .u64 (iShr .u64 a0 (1:Int)) (6148914691236517205:Int)) + (bAnd .u64 a0 (6148914691236517205:Int)))) (2:Int)) (3689348814741910323:Int)) + (bAnd .u64 (u64.wrap ((bAnd .u64 (iShr .u64 a0 (1:Int)) (6148914691236517205:Int)) + (bAnd .u64 a0 (6148914691236517205:Int)))) (3689348814741910323:Int)))) (4:Int)) + (u64.wrap ((bAnd .u64 (iShr .u64 (u64.wrap ((bAnd .u64 (iShr .u64 a0 (1:Int)) (6148914691236517205:Int)) + (bAnd .u64 a0 (6148914691236517205:Int)))) (2:Int)) (3689348814741910323:Int)) + (bAnd .u64 (u64.wrap ((bAnd .u64 (iShr .u64 a0 (1:Int)) (6148914691236517205:Int)) + (bAnd .u64 a0 (6148914691236517205:Int)))) (3689348814741910323:Int)))))) (1085102592571150095:Int)) + (iShr .u64 (bAnd .u64 (u64.wrap ((iShr .u64 (u64.wrap ((bAnd .u64 (iShr .u64 (u64.wrap ((bAnd .u64 (iShr .u64 a0 (1:Int)) (6148914691236517205:Int)) + (bAnd .u64 a0 (6148914691236517205:Int)))) (2:Int)) (3689348814741910323:Int)) + (bAnd .u64 (u64.wrap ((bAnd .u64 (iShr .u64 a0 (1:Int)) (6148914691236517205:Int)) + (bAnd .u64 a0 (6148914691236517205:Int)))) (3689348814741910323:Int)))) (4:Int)) + (u64.wrap ((bAnd .u64 (iShr .u64 (u64.wrap ((bAnd .u64 (iShr .u64 a0 (1:Int)) (6148914691236517205:Int)) + (bAnd .u64 a0 (6148914691236517205:Int)))) (2:Int)) (3689348814741910323:Int)) + (bAnd .u64 (u64.wrap ((bAnd .u64 (iShr .u64 a0 (1:Int)) (6148914691236517205:Int)) + (bAnd .u64 a0 (6148914691236517205:Int)))) (3689348814741910323:Int)))))) (1085102592571150095:Int)) (8:Int)))) + (iShr .u64 (u64.wrap ((bAnd .u64 (u64.wrap ((iShr .u64 (u64.wrap ((bAnd .u64 (iShr .u64 (u64.wrap ((bAnd .u64 (iShr .u64 a0 (1:Int)) (6148914691236517205:Int)) + (bAnd .u64 a0 (6148914691236517205:Int)))) (2:Int)) (3689348814741910323:Int)) + (bAnd .u64 (u64.wrap ((bAnd .u64 (iShr .u64 a0 (1:Int)) (6148914691236517205:Int)) + (bAnd .u64 a0 (6148914691236517205:Int)))) (3689348814741910323:Int)))) (4:Int)) + (u64.wrap ((bAnd .u64 (iShr .u64 (u64.wrap ((bAnd .u64 (iShr .u64 a0 (1:Int)) (6148914691236517205:Int)) + (bAnd .u64 a0 (6148914691236517205:Int)))) (2:Int)) (3689348814741910323:Int)) + (bAnd .u64 (u64.wrap ((bAnd .u64 (iShr .u64 a0 (1:Int)) (6148914691236517205:Int)) + (bAnd .u64 a0 (6148914691236517205:Int)))) (3689348814741910323:Int)))))) (1085102592571150095:Int)) + (iShr .u64 (bAnd .u64 (u64.wrap ((iShr .u64 (u64.wrap ((bAnd .u64 (iShr .u64 (u64.wrap ((bAnd .u64 (iShr .u64 a0 (1:Int)) (6148914691236517205:Int)) + (bAnd .u64 a0 (6148914691236517205:Int)))) (2:Int)) (3689348814741910323:Int)) + (bAnd .u64 (u64.wrap ((bAnd .u64 (iShr .u64 a0 (1:Int)) (6148914691236517205:Int)) + (bAnd .u64 a0 (6148914691236517205:Int)))) (3689348814741910323:Int)))) (4:Int)) + (u64.wrap ((bAnd .u64 (iShr .u64 (u64.wrap ((bAnd .u64 (iShr .u64 a0 (1:Int)) (6148914691236517205:Int)) + (bAnd .u64 a0 (6148914691236517205:Int)))) (2:Int)) (3689348814741910323:Int)) + (bAnd .u64 (u64.wrap ((bAnd .u64 (iShr .u64 a0 (1:Int)) (6148914691236517205:Int)) + (bAnd .u64 a0 (6148914691236517205:Int)))) (3689348814741910323:Int)))))) (1085102592571150095:Int)) (8:Int)))) (16:Int))))) z z z ?_))))))))))))))))))
 refine wv (.int .u64 (u64.wrap ((u64.wrap ((bAnd .u64 (u64.wrap ((iShr .u64 (u64.wrap ((bAnd .u64 (iShr .u64 (u64.wrap ((bAnd .u64 (iShr .u64 a0 (1:Int)) (6148914691236517205:Int)) + (bAnd .u64 a0 (6148914691236517205:Int)))) (2:Int)) (3689348814741910323:Int)) + (bAnd .u64 (u64.wrap ((bAnd .u64 (iShr .u64 a0 (1:Int)) (6148914691236517205:Int)) + (bAnd .u64 a0 (6148914691236517205:Int)))) (3689348814741910323:Int)))) (4:Int)) + (u64.wrap ((bAnd .u64 (iShr .u64 (u64.wrap ((bAnd .u64 (iShr .u64 a0 (1:Int)) (6148914691236517205:Int)) + (bAnd .u64 a0 (6148914691236517205:Int)))) (2:Int)) (3689348814741910323:Int)) + (bAnd .u64 (u64.wrap ((bAnd .u64 (iShr .u64 a0 (1:Int)) (6148914691236517205:Int)) + (bAnd .u64 a0 (6148914691236517205:Int)))) (3689348814741910323:Int)))))) (1085102592571150095:Int)) + (iShr .u64 (bAnd .u64 (u64.wrap ((iShr .u64 (u64.wrap ((bAnd .u64 (iShr .u64 (u64.wrap ((bAnd .u64 (iShr .u64 a0 (1:Int)) (6148914691236517205:Int)) + (bAnd .u64 a0 (6148914691236517205:Int)))) (2:Int)) (3689348814741910323:Int)) + (bAnd .u64 (u64.wrap ((bAnd .u64 (iShr .u64 a0 (1:Int)) (6148914691236517205:Int)) + (bAnd .u64 a0 (6148914691236517205:Int)))) (3689348814741910323:Int)))) (4:Int)) + (u64.wrap ((bAnd .u64 (iShr .u64 (u64.wrap ((bAnd .u64 (iShr .u64 a0 (1:Int)) (6148914691236517205:Int)) + (bAnd .u64 a0 (6148914691236517205:Int)))) (2:Int)) (3689348814741910323:Int)) + (bAnd .u64 (u64.wrap ((bAnd .u64 (iShr .u64 a0 (1:Int)) (6148914691236517205:Int)) + (bAnd .u64 a0 (6148914691236517205:Int)))) (3689348814741910323:Int)))))) (1085102592571150095:Int)) (8:Int)))) + (iShr .u64 (u64.wrap ((bAnd .u64 (u64.wrap ((iShr .u64 (u64.wrap ((bAnd .u64 (iShr .u64 (u64.wrap ((bAnd .u64 (iShr .u64 a0 (1:Int)) (6148914691236517205:Int)) + (bAnd .u64 a0 (6148914691236517205:Int)))) (2:Int)) (3689348814741910323:Int)) + (bAnd .u64 (u64.wrap ((bAnd .u64 (iShr .u64 a0 (1:Int)) (6148914691236517205:Int)) + (bAnd .u64 a0 (6148914691236517205:Int)))) (3689348814741910323:Int)))) (4:Int)) + (u64.wrap ((bAnd .u64 (iShr .u64 (u64.wrap ((bAnd .u64 (iShr .u64 a0 (1:Int)) (6148914691236517205:Int)) + (bAnd .u64 a0 (6148914691236517205:Int)))) (2:Int)) (3689348814741910323:Int)) + (bAnd .u64 (u64.wrap ((bAnd .u64 (iShr .u64 a0 (1:Int)) (6148914691236517205:Int)) + (bAnd .u64 a0 (6148914691236517205:Int)))) (3689348814741910323:Int)))))) (1085102592571150095:Int)) + (iShr .u64 (bAnd .u64 (u64.wrap ((iShr .u64 (u64.wrap ((bAnd .u64 (iShr .u64 (u64.wrap ((bAnd .u64 (iShr .u64 a0 (1:Int)) (6148914691236517205:Int)) + (bAnd .u64 a0 (6148914691236517205:Int)))) (2:Int)) (3689348814741910323:Int)) + (bAnd .u64 (u64.wrap ((bAnd .u64 (iShr .u64 a0 (1:Int)) (6148914691236517205:Int)) + (bAnd .u64 a0 (6148914691236517205:Int)))) (3689348814741910323:Int)))) (4:Int)) + (u64.wrap ((bAnd .u64 (iShr .u64 (u64.wrap ((bAnd .u64 (iShr .u64 a0 (1:Int)) (6148914691236517205:Int)) + (bAnd .u64 a0 (6148914691236517205:Int)))) (2:Int)) (3689348814741910323:Int)) + (bAnd .u64 (u64.wrap ((bAnd .u64 (iShr .u64 a0 (1:Int)) (6148914691236517205:Int)) + (bAnd .u64 a0 (6148914691236517205:Int)))) (3689348814741910323:Int)))))) (1085102592571150095:Int)) (8:Int)))) (16:Int))))) z z z (wv (.int .u64 (iShr .u64 (u64.wrap ((u64.wrap ((bAnd .u64 (u64.wrap ((iShr .u64 (u64.wrap ((bAnd .u64 (iShr .u64 (u64.wrap ((bAnd .u64 (iShr .u64 a0 (1:Int)) (6148914691236517205:Int)) + (bAnd .u64 a0 (6148914691236517205:Int)))) (2:Int)) (3689348814741910323:Int)) + (bAnd .u64 (u64.wrap ((bAnd .u64 (iShr .u64 a0 (1:Int)) (6148914691236517205:Int)) + (bAnd .u64 a0 (6148914691236517205:Int)))) (3689348814741910323:Int)))) (4:Int)) + (u64.wrap ((bAnd .u64 (iShr .u64 (u64.wrap ((bAnd .u64 (iShr .u64 a0 (1:Int)) (6148914691236517205:Int)) + (bAnd .u64 a0 (6148914691236517205:Int)))) (2:Int)) (3689348814741910323:Int)) + (bAnd .u64 (u64.wrap ((bAnd .u64 (iShr .u64 a0 (1:Int)) (6148914691236517205:Int)) + (bAnd .u64 a0 (6148914691236517205:Int)))) (3689348814741910323:Int)))))) (1085102592571150095:Int)) + (iShr .u64 (bAnd .u64 (u64.wrap ((iShr .u64 (u64.wrap ((bAnd .u64 (iShr .u64 (u64.wrap ((bAnd .u64 (iShr .u64 a0 (1:Int)) (6148914691236517205:Int)) + (bAnd .u64 a0 (6148914691236517205:Int)))) (2:Int)) (3689348814741910323:Int)) + (bAnd .u64 (u64.wrap ((bAnd .u64 (iShr .u64 a0 (1:Int)) (6148914691236517205:Int)) + (bAnd .u64 a0 (6148914691236517205:Int)))) (3689348814741910323:Int)))) (4:Int)) + (u64.wrap ((bAnd .u64 (iShr .u64 (u64.wrap ((bAnd .u64 (iShr .u64 a0 (1:Int)) (6148914691236517205:Int)) + (bAnd .u64 a0 (6148914691236517205:Int)))) (2:Int)) (3689348814741910323:Int)) + (bAnd .u64 (u64.wrap ((bAnd .u64 (iShr .u64 a0 (1:Int)) (6148914691236517205:Int)) + (bAnd .u64 a0 (6148914691236517205:Int)))) (3689348814741910323:Int)))))) (1085102592571150095:Int)) (8:Int)))) + (iShr .u64 (u64.wrap ((bAnd .u64 (u64.wrap ((iShr .u64 (u64.wrap ((bAnd .u64 (iShr .u64 (u64.wrap ((bAnd .u64 (iShr .u64 a0 (1:Int)) (6148914691236517205:Int)) + (bAnd .u64 a0 (6148914691236517205:Int)))) (2:Int)) (3689348814741910323:Int)) + (bAnd .u64 (u64.wrap ((bAnd .u64 (iShr .u64 a0 (1:Int)) (6148914691236517205:Int)) + (bAnd .u64 a0 (6148914691236517205:Int)))) (3689348814741910323:Int)))) (4:Int)) + (u64.wrap ((bAnd .u64 (iShr .u64 (u64.wrap ((bAnd .u64 (iShr .u64 a0 (1:Int)) (6148914691236517205:Int)) + (bAnd .u64 a0 (6148914691236517205:Int)))) (2:Int)) (3689348814741910323:Int)) + (bAnd .u64 (u64.wrap ((bAnd .u64 (iShr .u64 a0 (1:Int)) (6148914691236517205:Int)) + (bAnd .u64 a0 (6148914691236517205:Int)))) (3689348814741910323:Int)))))) (1085102592571150095:Int)) + (iShr .u64 (bAnd .u64 (u64.wrap ((iShr .u64 (u64.wrap ((bAnd .u64 (iShr .u64 (u64.wrap ((bAnd .u64 (iShr .u64 a0 (1:Int)) (6148914691236517205:Int)) + (bAnd .u64 a0 (6148914691236517205:Int)))) (2:Int)) (3689348814741910323:Int)) + (bAnd .u64 (u64.wrap ((bAnd .u64 (iShr .u64 a0 (1:Int)) (6148914691236517205:Int)) + (bAnd .u64 a0 (6148914691236517205:Int)))) (3689348814741910323:Int)))) (4:Int)) + (u64.wrap ((bAnd .u64 (iShr .u64 (u64.wrap ((bAnd .u64 (iShr .u64 a0 (1:Int)) (6148914691236517205:Int)) + (bAnd .u64 a0 (6148914691236517205:Int)))) (2:Int)) (3689348814741910323:Int)) + (bAnd .u64 (u64.wrap ((bAnd .u64 (iShr .u64 a0 (1:Int)) (6148914691236517205:Int)) + (bAnd .u64 a0 (6148914691236517205:Int)))) (3689348814741910323:Int)))))) (1085102592571150095:Int)) (8:Int)))) (16:Int)))) (32:Int))) z z (x_shr (by decide) z z) (wv (.int .u64 (u64.wrap ((u64.wrap ((u64.wrap ((bAnd .u64 (u64.wrap ((iShr .u64 (u64.wrap ((bAnd .u64 (iShr .u64 (u64.wrap ((bAnd .u64 (iShr .u64 a0 (1:Int)) (6148914691236517205:Int)) + (bAnd .u64 a0 (6148914691236517205:Int)))) (2:Int)) (3689348814741910323:Int)) + (bAnd .u64 (u64.wrap ((bAnd .u64 (iShr .u64 a0 (1:Int)) (6148914691236517205:Int)) + (bAnd .u64 a0 (6148914691236517205:Int)))) (3689348814741910323:Int)))) (4:Int)) + (u64.wrap ((bAnd .u64 (iShr .u64 (u64.wrap ((bAnd .u64 (iShr .u64 a0 (1:Int)) (6148914691236517205:Int)) + (bAnd .u64 a0 (6148914691236517205:Int)))) (2:Int)) (3689348814741910323:Int)) + (bAnd .u64 (u64.wrap ((bAnd .u64 (iShr .u64 a0 (1:Int)) (6148914691236517205:Int)) + (bAnd .u64 a0 (6148914691236517205:Int)))) (3689348814741910323:Int)))))) (1085102592571150095:Int)) + (iShr .u64 (bAnd .u64 (u64.wrap ((iShr .u64 (u64.wrap ((bAnd .u64 (iShr .u64 (u64.wrap ((bAnd .u64 (iShr .u64 a0 (1:Int)) (6148914691236517205:Int)) + (bAnd .u64 a0 (6148914691236517205:Int)))) (2:Int)) (3689348814741910323:Int)) + (bAnd .u64 (u64.wrap ((bAnd .u64 (iShr .u64 a0 (1:Int)) (6148914691236517205:Int)) + (bAnd .u64 a0 (6148914691236517205:Int)))) (3689348814741910323:Int)))) (4:Int)) + (u64.wrap ((bAnd .u64 (iShr .u64 (u64.wrap ((bAnd .u64 (iShr .u64 a0 (1:Int)) (6148914691236517205:Int)) + (bAnd .u64 a0 (6148914691236517205:Int)))) (2:Int)) (3689348814741910323:Int)) + (bAnd .u64 (u64.wrap ((bAnd .u64 (iShr .u64 a0 (1:Int)) (6148914691236517205:Int)) + (bAnd .u64 a0 (6148914691236517205:Int)))) (3689348814741910323:Int)))))) (1085102592571150095:Int)) (8:Int)))) + (iShr .u64 (u64.wrap ((bAnd .u64 (u64.wrap ((iShr .u64 (u64.wrap ((bAnd .u64 (iShr .u64 (u64.wrap ((bAnd .u64 (iShr .u64 a0 (1:Int)) (6148914691236517205:Int)) + (bAnd .u64 a0 (6148914691236517205:Int)))) (2:Int)) (3689348814741910323:Int)) + (bAnd .u64 (u64.wrap ((bAnd .u64 (iShr .u64 a0 (1:Int)) (6148914691236517205:Int)) + (bAnd .u64 a0 (6148914691236517205:Int)))) (3689348814741910323:Int)))) (4:Int)) + (u64.wrap ((bAnd .u64 (iShr .u64 (u64.wrap ((bAnd .u64 (iShr .u64 a0 (1:Int)) (6148914691236517205:Int)) + (bAnd .u64 a0 (6148914691236517205:Int)))) (2:Int)) (3689348814741910323:Int)) + (bAnd .u64 (u64.wrap ((bAnd .u64 (iShr .u64 a0 (1:Int)) (6148914691236517205:Int)) + (bAnd .u64 a0 (6148914691236517205:Int)))) (3689348814741910323:Int)))))) (1085102592571150095:Int)) + (iShr .u64 (bAnd .u64 (u64.wrap ((iShr .u64 (u64.wrap ((bAnd .u64 (iShr .u64 (u64.wrap ((bAnd .u64 (iShr .u64 a0 (1:Int)) (6148914691236517205:Int)) + (bAnd .u64 a0 (6148914691236517205:Int)))) (2:Int)) (3689348814741910323:Int)) + (bAnd .u64 (u64.wrap ((bAnd .u64 (iShr .u64 a0 (1:Int)) (6148914691236517205:Int)) + (bAnd .u64 a0 (6148914691236517205:Int)))) (3689348814741910323:Int)))) (4:Int)) + (u64.wrap ((bAnd .u64 (iShr .u64 (u64.wrap ((bAnd .u64 (iShr .u64 a0 (1:Int)) (6148914691236517205:Int)) + (bAnd .u64 a0 (6148914691236517205:Int)))) (2:Int)) (3689348814741910323:Int)) + (bAnd .u64 (u64.wrap ((bAnd .u64 (iShr .u64 a0 (1:Int)) (6148914691236517205:Int)) + (bAnd .u64 a0 (6148914691236517205:Int)))) (3689348814741910323:Int)))))) (1085102592571150095:Int)) (8:Int)))) (16:Int)))) + (iShr .u64 (u64.wrap ((u64.wrap ((bAnd .u64 (u64.wrap ((iShr .u64 (u64.wrap ((bAnd .u64 (iShr .u64 (u64.wrap ((bAnd .u64 (iShr .u64 a0 (1:Int)) (6148914691236517205:Int)) + (bAnd .u64 a0 (6148914691236517205:Int)))) (2:Int)) (3689348814741910323:Int)) + (bAnd .u64 (u64.wrap ((bAnd .u64 (iShr .u64 a0 (1:Int)) (6148914691236517205:Int)) + (bAnd .u64 a0 (6148914691236517205:Int)))) (3689348814741910323:Int)))) (4:Int)) + (u64.wrap ((bAnd .u64 (iShr .u64 (u64.wrap ((bAnd .u64 (iShr .u64 a0 (1:Int)) (6148914691236517205:Int)) + (bAnd .u64 a0 (6148914691236517205:Int)))) (2:Int)) (3689348814741910323:Int)) + (bAnd .u64 (u64.wrap ((bAnd .u64 (iShr .u64 a0 (1:Int)) (6148914691236517205:Int)) + (bAnd .u64 a0 (6148914691236517205:Int)))) (3689348814741910323:Int)))))) (1085102592571150095:Int)) + (iShr .u64 (bAnd .u64 (u64.wrap ((iShr .u64 (u64.wrap ((bAnd .u64 (iShr .u64 (u64.wrap ((bAnd .u64 (iShr .u64 a0 (1:Int)) (6148914691236517205:Int)) + (bAnd .u64 a0 (6148914691236517205:Int)))) (2:Int)) (3689348814741910323:Int)) + (bAnd .u64 (u64.wrap ((bAnd .u64 (iShr .u64 a0 (1:Int)) (6148914691236517205:Int)) + (bAnd .u64 a0 (6148914691236517205:Int)))) (3689348814741910323:Int)))) (4:Int)) + (u64.wrap ((bAnd .u64 (iShr .u64 (u64.wrap ((bAnd .u64 (iShr .u64 a0 (1:Int)) (6148914691236517205:Int)) + (bAnd .u64 a0 (6148914691236517205:Int)))) (2:Int)) (3689348814741910323:Int)) + (bAnd .u64 (u64.wrap ((bAnd .u64 (iShr .u64 a0 (1:Int)) (6148914691236517205:Int)) + (bAnd .u64 a0 (6148914691236517205:Int)))) (3689348814741910323:Int)))))) (1085102592571150095:Int)) (8:Int)))) + (iShr .u64 (u64.wrap ((bAnd .u64 (u64.wrap ((iShr .u64 (u64.wrap ((bAnd .u64 (iShr .u64 (u64.wrap ((bAnd .u64 (iShr .u64 a0 (1:Int)) (6148914691236517205:Int)) + (bAnd .u64 a0 (6148914691236517205:Int)))) (2:Int)) (3689348814741910323:Int)) + (bAnd .u64 (u64.wrap ((bAnd .u64 (iShr .u64 a0 (1:Int)) (6148914691236517205:Int)) + (bAnd .u64 a0 (6148914691236517205:Int)))) (3689348814741910323:Int)))) (4:Int)) + (u64.wrap ((bAnd .u64 (iShr .u64 (u64.wrap ((bAnd .u64 (iShr .u64 a0 (1:Int)) (6148914691236517205:Int)) + (bAnd .u64 a0 (6148914691236517205:Int)))) (2:Int)) (3689348814741910323:Int)) + (bAnd .u64 (u64.wrap ((bAnd .u64 (iShr .u64 a0 (1:Int)) (6148914691236517205:Int)) + (bAnd .u64 a0 (6148914691236517205:Int)))) (3689348814741910323:Int)))))) (1085102592571150095:Int)) + (iShr .u64 (bAnd .u64 (u64.wrap ((iShr .u64 (u64.wrap ((bAnd .u64 (iShr .u64 (u64.wrap ((bAnd .u64 (iShr .u64 a0 (1:Int)) (6148914691236517205:Int)) + (bAnd .u64 a0 (6148914691236517205:Int)))) (2:Int)) (3689348814741910323:Int)) + (bAnd .u64 (u64.wrap ((bAnd .u64 (iShr .u64 a0 (1:Int)) (6148914691236517205:Int)) + (bAnd .u64 a0 (6148914691236517205:Int)))) (3689348814741910323:Int)))) (4:Int)) + (u64.wrap ((bAnd .u64 (iShr .u64 (u64.wrap ((bAnd .u64 (iShr .u64 a0 (1:Int)) (6148914691236517205:Int)) + (bAnd .u64 a0 (6148914691236517205:Int)))) (2:Int)) (3689348814741910323:Int)) + (bAnd .u64 (u64.wrap ((bAnd .u64 (iShr .u64 a0 (1:Int)) (6148914691236517205:Int)) + (bAnd .u64 a0 (6148914691236517205:Int)))) (3689348814741910323:Int)))))) (1085102592571150095:Int)) (8:Int)))) (16:Int)))) (32:Int))))) z z z (wv (.int .u64 (u64.wrap ((u64.wrap ((u64.wrap ((bAnd .u64 (u64.wrap ((iShr .u64 (u64.wrap ((bAnd .u64 (iShr .u64 (u64.wrap ((bAnd .u64 (iShr .u64 a0 (1:Int)) (6148914691236517205:Int)) + (bAnd .u64 a0 (6148914691236517205:Int)))) (2:Int)) (3689348814741910323:Int)) + (bAnd .u64 (u64.wrap ((bAnd .u64 (iShr .u64 a0 (1:Int)) (6148914691236517205:Int)) + (bAnd .u64 a0 (6148914691236517205:Int)))) (3689348814741910323:Int)))) (4:Int)) + (u64.wrap ((bAnd .u64 (iShr .u64 (u64.wrap ((bAnd .u64 (iShr .u64 a0 (1:Int)) (6148914691236517205:Int)) + (bAnd .u64 a0 (6148914691236517205:Int)))) (2:Int)) (3689348814741910323:Int)) + (bAnd .u64 (u64.wrap ((bAnd .u64 (iShr .u64 a0 (1:Int)) (6148914691236517205:Int)) + (bAnd .u64 a0 (6148914691236517205:Int)))) (3689348814741910323:Int)))))) (1085102592571150095:Int)) + (iShr .u64 (bAnd .u64 (u64.wrap ((iShr .u64 (u64.wrap ((bAnd .u64 (iShr .u64 (u64.wrap ((bAnd .u64 (iShr .u64 a0 (1:Int)) (6148914691236517205:Int)) + (bAnd .u64 a0 (6148914691236517205:Int)))) (2:Int)) (3689348814741910323:Int)) + (bAnd .u64 (u64.wrap ((bAnd .u64 (iShr .u64 a0 (1:Int)) (6148914691236517205:Int)) + (bAnd .u64 a0 (6148914691236517205:Int)))) (3689348814741910323:Int)))) (4:Int)) + (u64.wrap ((bAnd .u64 (iShr .u64 (u64.wrap ((bAnd .u64 (iShr .u64 a0 (1:Int)) (6148914691236517205:Int)) + (bAnd .u64 a0 (6148914691236517205:Int)))) (2:Int)) (3689348814741910323:Int)) + (bAnd .u64 (u64.wrap ((bAnd .u64 (iShr .u64 a0 (1:Int)) (6148914691236517205:Int)) + (bAnd .u64 a0 (6148914691236517205:Int)))) (3689348814741910323:Int)))))) (1085102592571150095:Int)) (8:Int)))) + (iShr .u64 (u64.wrap ((bAnd .u64 (u64.wrap ((iShr .u64 (u64.wrap ((bAnd .u64 (iShr .u64 (u64.wrap ((bAnd .u64 (iShr .u64 a0 (1:Int)) (6148914691236517205:Int)) + (bAnd .u64 a0 (6148914691236517205:Int)))) (2:Int)) (3689348814741910323:Int)) + (bAnd .u64 (u64.wrap ((bAnd .u64 (iShr .u64 a0 (1:Int)) (6148914691236517205:Int)) + (bAnd .u64 a0 (6148914691236517205:Int)))) (3689348814741910323:Int)))) (4:Int)) + (u64.wrap ((bAnd .u64 (iShr .u64 (u64.wrap ((bAnd .u64 (iShr .u64 a0 (1:Int)) (6148914691236517205:Int)) + (bAnd .u64 a0 (6148914691236517205:Int)))) (2:Int)) (3689348814741910323:Int)) + (bAnd .u64 (u64.wrap ((bAnd .u64 (iShr .u64 a0 (1:Int)) (6148914691236517205:Int)) + (bAnd .u64 a0 (6148914691236517205:Int)))) (3689348814741910323:Int)))))) (1085102592571150095:Int)) + (iShr .u64 (bAnd .u64 (u64.wrap ((iShr .u64 (u64.wrap ((bAnd .u64 (iShr .u64 (u64.wrap ((bAnd .u64 (iShr .u64 a0 (1:Int)) (6148914691236517205:Int)) + (bAnd .u64 a0 (6148914691236517205:Int)))) (2:Int)) (3689348814741910323:Int)) + (bAnd .u64 (u64.wrap ((bAnd .u64 (iShr .u64 a0 (1:Int)) (6148914691236517205:Int)) + (bAnd .u64 a0 (6148914691236517205:Int)))) (3689348814741910323:Int)))) (4:Int)) + (u64.wrap ((bAnd .u64 (iShr .u64 (u64.wrap ((bAnd .u64 (iShr .u64 a0 (1:Int)) (6148914691236517205:Int)) + (bAnd .u64 a0 (6148914691236517205:Int)))) (2:Int)) (3689348814741910323:Int)) + (bAnd .u64 (u64.wrap ((bAnd .u64 (iShr .u64 a0 (1:Int)) (6148914691236517205:Int)) + (bAnd .u64 a0 (6148914691236517205:Int)))) (3689348814741910323:Int)))))) (1085102592571150095:Int)) (8:Int)))) (16:Int)))) + (iShr .u64 (u64.wrap ((u64.wrap ((bAnd .u64 (u64.wrap ((iShr .u64 (u64.wrap ((bAnd .u64 (iShr .u64 (u64.wrap ((bAnd .u64 (iShr .u64 a0 (1:Int)) (6148914691236517205:Int)) + (bAnd .u64 a0 (6148914691236517205:Int)))) (2:Int)) (3689348814741910323:Int)) + (bAnd .u64 (u64.wrap ((bAnd .u64 (iShr .u64 a0 (1:Int)) (6148914691236517205:Int)) + (bAnd .u64 a0 (6148914691236517205:Int)))) (3689348814741910323:Int)))) (4:Int)) + (u64.wrap ((bAnd .u64 (iShr .u64 (u64.wrap ((bAnd .u64 (iShr .u64 a0 (1:Int)) (6148914691236517205:Int)) + (bAnd .u64 a0 (6148914691236517205:Int)))) (2:Int)) (3689348814741910323:Int)) + (bAnd .u64 (u64.wrap ((bAnd .u64 (iShr .u64 a0 (1:Int)) (6148914691236517205:Int)) + (bAnd .u64 a0 (6148914691236517205:Int)))) (3689348814741910323:Int)))))) (1085102592571150095:Int)) + (iShr .u64 (bAnd .u64 (u64.wrap ((iShr .u64 (u64.wrap ((bAnd .u64 (iShr .u64 (u64.wrap ((bAnd .u64 (iShr .u64 a0 (1:Int)) (6148914691236517205:Int)) + (bAnd .u64 a0 (6148914691236517205:Int)))) (2:Int)) (3689348814741910323:Int)) + (bAnd .u64 (u64.wrap ((bAnd .u64 (iShr .u64 a0 (1:Int)) (6148914691236517205:Int)) + (bAnd .u64 a0 (6148914691236517205:Int)))) (3689348814741910323:Int)))) (4:Int)) + (u64.wrap ((bAnd .u64 (iShr .u64 (u64.wrap ((bAnd .u64 (iShr .u64 a0 (1:Int)) (6148914691236517205:Int)) + (bAnd .u64 a0 (6148914691236517205:Int)))) (2:Int)) (3689348814741910323:Int)) + (bAnd .u64 (u64.wrap ((bAnd .u64 (iShr .u64 a0 (1:Int)) (6148914691236517205:Int)) + (bAnd .u64 a0 (6148914691236517205:Int)))) (3689348814741910323:Int)))))) (1085102592571150095:Int)) (8:Int)))) + (iShr .u64 (u64.wrap ((bAnd .u64 (u64.wrap ((iShr .u64 (u64.wrap ((bAnd .u64 (iShr .u64 (u64.wrap ((bAnd .u64 (iShr .u64 a0 (1:Int)) (6148914691236517205:Int)) + (bAnd .u64 a0 (6148914691236517205:Int)))) (2:Int)) (3689348814741910323:Int)) + (bAnd .u64 (u64.wrap ((bAnd .u64 (iShr .u64 a0 (1:Int)) (6148914691236517205:Int)) + (bAnd .u64 a0 (6148914691236517205:Int)))) (3689348814741910323:Int)))) (4:Int)) + (u64.wrap ((bAnd .u64 (iShr .u64 (u64.wrap ((bAnd .u64 (iShr .u64 a0 (1:Int)) (6148914691236517205:Int)) + (bAnd .u64 a0 (6148914691236517205:Int)))) (2:Int)) (3689348814741910323:Int)) + (bAnd .u64 (u64.wrap ((bAnd .u64 (iShr .u64 a0 (1:Int)) (6148914691236517205:Int)) + (bAnd .u64 a0 (6148914691236517205:Int)))) (3689348814741910323:Int)))))) (1085102592571150095:Int)) + (iShr .u64 (bAnd .u64 (u64.wrap ((iShr .u64 (u64.wrap ((bAnd .u64 (iShr .u64 (u64.wrap ((bAnd .u64 (iShr .u64 a0 (1:Int)) (6148914691236517205:Int)) + (bAnd .u64 a0 (6148914691236517205:Int)))) (2:Int)) (3689348814741910323:Int)) + (bAnd .u64 (u64.wrap ((bAnd .u64 (iShr .u64 a0 (1:Int)) (6148914691236517205:Int)) + (bAnd .u64 a0 (6148914691236517205:Int)))) (3689348814741910323:Int)))) (4:Int)) + (u64.wrap ((bAnd .u64 (iShr .u64 (u64.wrap ((bAnd .u64 (iShr .u64 a0 (1:Int)) (6148914691236517205:Int)) + (bAnd .u64 a0 (6148914691236517205:Int)))) (2:Int)) (3689348814741910323:Int)) + (bAnd .u64 (u64.wrap ((bAnd .u64 (iShr .u64 a0 (1:Int)) (6148914691236517205:Int)) + (bAnd .u64 a0 (6148914691236517205:Int)))) (3689348814741910323:Int)))))) (1085102592571150095:Int)) (8:Int)))) (16:Int)))) (32:Int))))) z z z (wl_nil (tn (wp_seq (wrl (wv (.int .u64 (u64.wrap ((u64.wrap ((u64.wrap ((bAnd .u64 (u64.wrap ((iShr .u64 (u64.wrap ((bAnd .u64 (iShr .u64 (u64.wrap ((bAnd .u64 (iShr .u64 a0 (1:Int)) (6148914691236517205:Int)) + (bAnd .u64 a0 (6148914691236517205:Int)))) (2:Int)) (3689348814741910323:Int)) + (bAnd .u64 (u64.wrap ((bAnd .u64 (iShr .u64 a0 (1:Int)) (6148914691236517205:Int)) + (bAnd .u64 a0 (6148914691236517205:Int)))) (3689348814741910323:Int)))) (4:Int)) + (u64.wrap ((bAnd .u64 (iShr .u64 (u64.wrap ((bAnd .u64 (iShr .u64 a0 (1:Int)) (6148914691236517205:Int)) + (bAnd .u64 a0 (6148914691236517205:Int)))) (2:Int)) (3689348814741910323:Int)) + (bAnd .u64 (u64.wrap ((bAnd .u64 (iShr .u64 a0 (1:Int)) (6148914691236517205:Int)) + (bAnd .u64 a0 (6148914691236517205:Int)))) (3689348814741910323:Int)))))) (1085102592571150095:Int)) + (iShr .u64 (bAnd .u64 (u64.wrap ((iShr .u64 (u64.wrap ((bAnd .u64 (iShr .u64 (u64.wrap ((bAnd .u64 (iShr .u64 a0 (1:Int)) (6148914691236517205:Int)) + (bAnd .u64 a0 (6148914691236517205:Int)))) (2:Int)) (3689348814741910323:Int)) + (bAnd .u64 (u64.wrap ((bAnd .u64 (iShr .u64 a0 (1:Int)) (6148914691236517205:Int)) + (bAnd .u64 a0 (6148914691236517205:Int)))) (3689348814741910323:Int)))) (4:Int)) + (u64.wrap ((bAnd .u64 (iShr .u64 (u64.wrap ((bAnd .u64 (iShr .u64 a0 (1:Int)) (6148914691236517205:Int)) + (bAnd .u64 a0 (6148914691236517205:Int)))) (2:Int)) (3689348814741910323:Int)) + (bAnd .u64 (u64.wrap ((bAnd .u64 (iShr .u64 a0 (1:Int)) (6148914691236517205:Int)) + (bAnd .u64 a0 (6148914691236517205:Int)))) (3689348814741910323:Int)))))) (1085102592571150095:Int)) (8:Int)))) + (iShr .u64 (u64.wrap ((bAnd .u64 (u64.wrap ((iShr .u64 (u64.wrap ((bAnd .u64 (iShr .u64 (u64.wrap ((bAnd .u64 (iShr .u64 a0 (1:Int)) (6148914691236517205:Int)) + (bAnd .u64 a0 (6148914691236517205:Int)))) (2:Int)) (3689348814741910323:Int)) + (bAnd .u64 (u64.wrap ((bAnd .u64 (iShr .u64 a0 (1:Int)) (6148914691236517205:Int)) + (bAnd .u64 a0 (6148914691236517205:Int)))) (3689348814741910323:Int)))) (4:Int)) + (u64.wrap ((bAnd .u64 (iShr .u64 (u64.wrap ((bAnd .u64 (iShr .u64 a0 (1:Int)) (6148914691236517205:Int)) + (bAnd .u64 a0 (6148914691236517205:Int)))) (2:Int)) (3689348814741910323:Int)) + (bAnd .u64 (u64.wrap ((bAnd .u64 (iShr .u64 a0 (1:Int)) (6148914691236517205:Int)) + (bAnd .u64 a0 (6148914691236517205:Int)))) (3689348814741910323:Int)))))) (1085102592571150095:Int)) + (iShr .u64 (bAnd .u64 (u64.wrap ((iShr .u64 (u64.wrap ((bAnd .u64 (iShr .u64 (u64.wrap ((bAnd .u64 (iShr .u64 a0 (1:Int)) (6148914691236517205:Int)) + (bAnd .u64 a0 (6148914691236517205:Int)))) (2:Int)) (3689348814741910323:Int)) + (bAnd .u64 (u64.wrap ((bAnd .u64 (iShr .u64 a0 (1:Int)) (6148914691236517205:Int)) + (bAnd .u64 a0 (6148914691236517205:Int)))) (3689348814741910323:Int)))) (4:Int)) + (u64.wrap ((bAnd .u64 (iShr .u64 (u64.wrap ((bAnd .u64 (iShr .u64 a0 (1:Int)) (6148914691236517205:Int)) + (bAnd .u64 a0 (6148914691236517205:Int)))) (2:Int)) (3689348814741910323:Int)) + (bAnd .u64 (u64.wrap ((bAnd .u64 (iShr .u64 a0 (1:Int)) (6148914691236517205:Int)) + (bAnd .u64 a0 (6148914691236517205:Int)))) (3689348814741910323:Int)))))) (1085102592571150095:Int)) (8:Int)))) (16:Int)))) + (iShr .u64 (u64.wrap ((u64.wrap ((bAnd .u64 (u64.wrap ((iShr .u64 (u64.wrap ((bAnd .u64 (iShr .u64 (u64.wrap ((bAnd .u64 (iShr .u64 a0 (1:Int)) (6148914691236517205:Int)) + (bAnd .u64 a0 (6148914691236517205:Int)))) (2:Int)) (3689348814741910323:Int)) + (bAnd .u64 (u64.wrap ((bAnd .u64 (iShr .u64 a0 (1:Int)) (6148914691236517205:Int)) + (bAnd .u64 a0 (6148914691236517205:Int)))) (3689348814741910323:Int)))) (4:Int)) + (u64.wrap ((bAnd .u64 (iShr .u64 (u64.wrap ((bAnd .u64 (iShr .u64 a0 (1:Int)) (6148914691236517205:Int)) + (bAnd .u64 a0 (6148914691236517205:Int)))) (2:Int)) (3689348814741910323:Int)) + (bAnd .u64 (u64.wrap ((bAnd .u64 (iShr .u64 a0 (1:Int)) (6148914691236517205:Int)) + (bAnd .u64 a0 (6148914691236517205:Int)))) (3689348814741910323:Int)))))) (1085102592571150095:Int)) + (iShr .u64 (bAnd .u64 (u64.wrap ((iShr .u64 (u64.wrap ((bAnd .u64 (iShr .u64 (u64.wrap ((bAnd .u64 (iShr .u64 a0 (1:Int)) (6148914691236517205:Int)) + (bAnd .u64 a0 (6148914691236517205:Int)))) (2:Int)) (3689348814741910323:Int)) + (bAnd .u64 (u64.wrap ((bAnd .u64 (iShr .u64 a0 (1:Int)) (6148914691236517205:Int)) + (bAnd .u64 a0 (6148914691236517205:Int)))) (3689348814741910323:Int)))) (4:Int)) + (u64.wrap ((bAnd .u64 (iShr .u64 (u64.wrap ((bAnd .u64 (iShr .u64 a0 (1:Int)) (6148914691236517205:Int)) + (bAnd .u64 a0 (6148914691236517205:Int)))) (2:Int)) (3689348814741910323:Int)) + (bAnd .u64 (u64.wrap ((bAnd .u64 (iShr .u64 a0 (1:Int)) (6148914691236517205:Int)) + (bAnd .u64 a0 (6148914691236517205:Int)))) (3689348814741910323:Int)))))) (1085102592571150095:Int)) (8:Int)))) + (iShr .u64 (u64.wrap ((bAnd .u64 (u64.wrap ((iShr .u64 (u64.wrap ((bAnd .u64 (iShr .u64 (u64.wrap ((bAnd .u64 (iShr .u64 a0 (1:Int)) (6148914691236517205:Int)) + (bAnd .u64 a0 (6148914691236517205:Int)))) (2:Int)) (3689348814741910323:Int)) + (bAnd .u64 (u64.wrap ((bAnd .u64 (iShr .u64 a0 (1:Int)) (6148914691236517205:Int)) + (bAnd .u64 a0 (6148914691236517205:Int)))) (3689348814741910323:Int)))) (4:Int)) + (u64.wrap ((bAnd .u64 (iShr .u64 (u64.wrap ((bAnd .u64 (iShr .u64 a0 (1:Int)) (6148914691236517205:Int)) + (bAnd .u64 a0 (6148914691236517205:Int)))) (2:Int)) (3689348814741910323:Int)) + (bAnd .u64 (u64.wrap ((bAnd .u64 (iShr .u64 a0 (1:Int)) (6148914691236517205:Int)) + (bAnd .u64 a0 (6148914691236517205:Int)))) (3689348814741910323:Int)))))) (1085102592571150095:Int)) + (iShr .u64 (bAnd .u64 (u64.wrap ((iShr .u64 (u64.wrap ((bAnd .u64 (iShr .u64 (u64.wrap ((bAnd .u64 (iShr .u64 a0 (1:Int)) (6148914691236517205:Int)) + (bAnd .u64 a0 (6148914691236517205:Int)))) (2:Int)) (3689348814741910323:Int)) + (bAnd .u64 (u64.wrap ((bAnd .u64 (iShr .u64 a0 (1:Int)) (6148914691236517205:Int)) + (bAnd .u64 a0 (6148914691236517205:Int)))) (3689348814741910323:Int)))) (4:Int)) + (u64.wrap ((bAnd .u64 (iShr .u64 (u64.wrap ((bAnd .u64 (iShr .u64 a0 (1:Int)) (6148914691236517205:Int)) + (bAnd .u64 a0 (6148914691236517205:Int)))) (2:Int)) (3689348814741910323:Int)) + (bAnd .u64 (u64.wrap ((bAnd .u64 (iShr .u64 a0 (1:Int)) (6148914691236517205:Int)) + (bAnd .u64 a0 (6148914691236517205:Int)))) (3689348814741910323:Int)))))) (1085102592571150095:Int)) (8:Int)))) (16:Int)))) (32:Int))))) z z z (wv (.int .i64 (i64.wrap (u64.wrap ((u64.wrap ((u64.wrap ((bAnd .u64 (u64.wrap ((iShr .u64 (u64.wrap ((bAnd .u64 (iShr .u64 (u64.wrap ((bAnd .u64 (iShr .u64 a0 (1:Int)) (6148914691236517205:Int)) + (bAnd .u64 a0 (6148914691236517205:Int)))) (2:Int)) (3689348814741910323:Int)) + (bAnd .u64 (u64.wrap ((bAnd .u64 (iShr .u64 a0 (1:Int)) (6148914691236517205:Int)) + (bAnd .u64 a0 (6148914691236517205:Int)))) (3689348814741910323:Int)))) (4:Int)) + (u64.wrap ((bAnd .u64 (iShr .u64 (u64.wrap ((bAnd .u64 (iShr .u64 a0 (1:Int)) (6148914691236517205:Int)) + (bAnd .u64 a0 (6148914691236517205:Int)))) (2:Int)) (3689348814741910323:Int)) + (bAnd .u64 (u64.wrap ((bAnd .u64 (iShr .u64 a0 (1:Int)) (6148914691236517205:Int)) + (bAnd .u64 a0 (6148914691236517205:Int)))) (3689348814741910323:Int)))))) (1085102592571150095:Int)) + (iShr .u64 (bAnd .u64 (u64.wrap ((iShr .u64 (u64.wrap ((bAnd .u64 (iShr .u64 (u64.wrap ((bAnd .u64 (iShr .u64 a0 (1:Int)) (6148914691236517205:Int)) + (bAnd .u64 a0 (6148914691236517205:Int)))) (2:Int)) (3689348814741910323:Int)) + (bAnd .u64 (u64.wrap ((bAnd .u64 (iShr .u64 a0 (1:Int)) (6148914691236517205:Int)) + (bAnd .u64 a0 (6148914691236517205:Int)))) (3689348814741910323:Int)))) (4:Int)) + (u64.wrap ((bAnd .u64 (iShr .u64 (u64.wrap ((bAnd .u64 (iShr .u64 a0 (1:Int)) (6148914691236517205:Int)) + (bAnd .u64 a0 (6148914691236517205:Int)))) (2:Int)) (3689348814741910323:Int)) + (bAnd .u64 (u64.wrap ((bAnd .u64 (iShr .u64 a0 (1:Int)) (6148914691236517205:Int)) + (bAnd .u64 a0 (6148914691236517205:Int)))) (3689348814741910323:Int)))))) (1085102592571150095:Int)) (8:Int)))) + (iShr .u64 (u64.wrap ((bAnd .u64 (u64.wrap ((iShr .u64 (u64.wrap ((bAnd .u64 (iShr .u64 (u64.wrap ((bAnd .u64 (iShr .u64 a0 (1:Int)) (6148914691236517205:Int)) + (bAnd .u64 a0 (6148914691236517205:Int)))) (2:Int)) (3689348814741910323:Int)) + (bAnd .u64 (u64.wrap ((bAnd .u64 (iShr .u64 a0 (1:Int)) (6148914691236517205:Int)) + (bAnd .u64 a0 (6148914691236517205:Int)))) (3689348814741910323:Int)))) (4:Int)) + (u64.wrap ((bAnd .u64 (iShr .u64 (u64.wrap ((bAnd .u64 (iShr .u64 a0 (1:Int)) (6148914691236517205:Int)) + (bAnd .u64 a0 (6148914691236517205:Int)))) (2:Int)) (3689348814741910323:Int)) + (bAnd .u64 (u64.wrap ((bAnd .u64 (iShr .u64 a0 (1:Int)) (6148914691236517205:Int)) + (bAnd .u64 a0 (6148914691236517205:Int)))) (3689348814741910323:Int)))))) (1085102592571150095:Int)) + (iShr .u64 (bAnd .u64 (u64.wrap ((iShr .u64 (u64.wrap ((bAnd .u64 (iShr .u64 (u64.wrap ((bAnd .u64 (iShr .u64 a0 (1:Int)) (6148914691236517205:Int)) + (bAnd .u64 a0 (6148914691236517205:Int)))) (2:Int)) (3689348814741910323:Int)) + (bAnd .u64 (u64.wrap ((bAnd .u64 (iShr .u64 a0 (1:Int)) (6148914691236517205:Int)) + (bAnd .u64 a0 (6148914691236517205:Int)))) (3689348814741910323:Int)))) (4:Int)) + (u64.wrap ((bAnd .u64 (iShr .u64 (u64.wrap ((bAnd .u64 (iShr .u64 a0 (1:Int)) (6148914691236517205:Int)) + (bAnd .u64 a0 (6148914691236517205:Int)))) (2:Int)) (3689348814741910323:Int)) + (bAnd .u64 (u64.wrap ((bAnd .u64 (iShr .u64 a0 (1:Int)) (6148914691236517205:Int)) + (bAnd .u64 a0 (6148914691236517205:Int)))) (3689348814741910323:Int)))))) (1085102592571150095:Int)) (8:Int)))) (16:Int)))) + (iShr .u64 (u64.wrap ((u64.wrap ((bAnd .u64 (u64.wrap ((iShr .u64 (u64.wrap ((bAnd .u64 (iShr .u64 (u64.wrap ((bAnd .u64 (iShr .u64 a0 (1:Int)) (6148914691236517205:Int)) + (bAnd .u64 a0 (6148914691236517205:Int)))) (2:Int)) (3689348814741910323:Int)) + (bAnd .u64 (u64.wrap ((bAnd .u64 (iShr .u64 a0 (1:Int)) (6148914691236517205:Int)) + (bAnd .u64 a0 (6148914691236517205:Int)))) (3689348814741910323:Int)))) (4:Int)) + (u64.wrap ((bAnd .u64 (iShr .u64 (u64.wrap ((bAnd .u64 (iShr .u64 a0 (1:Int)) (6148914691236517205:Int)) + (bAnd .u64 a0 (6148914691236517205:Int)))) (2:Int)) (3689348814741910323:Int)) + (bAnd .u64 (u64.wrap ((bAnd .u64 (iShr .u64 a0 (1:Int)) (6148914691236517205:Int)) + (bAnd .u64 a0 (6148914691236517205:Int)))) (3689348814741910323:Int)))))) (1085102592571150095:Int)) + (iShr .u64 (bAnd .u64 (u64.wrap ((iShr .u64 (u64.wrap ((bAnd .u64 (iShr .u64 (u64.wrap ((bAnd .u64 (iShr .u64 a0 (1:Int)) (6148914691236517205:Int)) + (bAnd .u64 a0 (6148914691236517205:Int)))) (2:Int)) (3689348814741910323:Int)) + (bAnd .u64 (u64.wrap ((bAnd .u64 (iShr .u64 a0 (1:Int)) (6148914691236517205:Int)) + (bAnd .u64 a0 (6148914691236517205:Int)))) (3689348814741910323:Int)))) (4:Int)) + (u64.wrap ((bAnd .u64 (iShr .u64 (u64.wrap ((bAnd .u64 (iShr .u64 a0 (1:Int)) (6148914691236517205:Int)) + (bAnd .u64 a0 (6148914691236517205:Int)))) (2:Int)) (3689348814741910323:Int)) + (bAnd .u64 (u64.wrap ((bAnd .u64 (iShr .u64 a0 (1:Int)) (6148914691236517205:Int)) + (bAnd .u64 a0 (6148914691236517205:Int)))) (3689348814741910323:Int)))))) (1085102592571150095:Int)) (8:Int)))) + (iShr .u64 (u64.wrap ((bAnd .u64 (u64.wrap ((iShr .u64 (u64.wrap ((bAnd .u64 (iShr .u64 (u64.wrap ((bAnd .u64 (iShr .u64 a0 (1:Int)) (6148914691236517205:Int)) + (bAnd .u64 a0 (6148914691236517205:Int)))) (2:Int)) (3689348814741910323:Int)) + (bAnd .u64 (u64.wrap ((bAnd .u64 (iShr .u64 a0 (1:Int)) (6148914691236517205:Int)) + (bAnd .u64 a0 (6148914691236517205:Int)))) (3689348814741910323:Int)))) (4:Int)) + (u64.wrap ((bAnd .u64 (iShr .u64 (u64.wrap ((bAnd .u64 (iShr .u64 a0 (1:Int)) (6148914691236517205:Int)) + (bAnd .u64 a0 (6148914691236517205:Int)))) (2:Int)) (3689348814741910323:Int)) + (bAnd .u64 (u64.wrap ((bAnd .u64 (iShr .u64 a0 (1:Int)) (6148914691236517205:Int)) + (bAnd .u64 a0 (6148914691236517205:Int)))) (3689348814741910323:Int)))))) (1085102592571150095:Int)) + (iShr .u64 (bAnd .u64 (u64.wrap ((iShr .u64 (u64.wrap ((bAnd .u64 (iShr .u64 (u64.wrap ((bAnd .u64 (iShr .u64 a0 (1:Int)) (6148914691236517205:Int)) + (bAnd .u64 a0 (6148914691236517205:Int)))) (2:Int)) (3689348814741910323:Int)) + (bAnd .u64 (u64.wrap ((bAnd .u64 (iShr .u64 a0 (1:Int)) (6148914691236517205:Int)) + (bAnd .u64 a0 (6148914691236517205:Int)))) (3689348814741910323:Int)))) (4:Int)) + (u64.wrap ((bAnd .u64 (iShr .u64 (u64.wrap ((bAnd .u64 (iShr .u64 a0 (1:Int)) (6148914691236517205:Int)) + (bAnd .u64 a0 (6148914691236517205:Int)))) (2:Int)) (3689348814741910323:Int)) + (bAnd .u64 (u64.wrap ((bAnd .u64 (iShr .u64 a0 (1:Int)) (6148914691236517205:Int)) + (bAnd .u64 a0 (6148914691236517205:Int)))) (3689348814741910323:Int)))))) (1085102592571150095:Int)) (8:Int)))) (16:Int)))) (32:Int)))))) z z (by kernel_rfl) (wv (.int .i64 (bAnd .i64 (i64.wrap (u64.wrap ((u64.wrap ((u64.wrap ((bAnd .u64 (u64.wrap ((iShr .u64 (u64.wrap ((bAnd .u64 (iShr .u64 (u64.wrap ((bAnd .u64 (iShr .u64 a0 (1:Int)) (6148914691236517205:Int)) + (bAnd .u64 a0 (6148914691236517205:Int)))) (2:Int)) (3689348814741910323:Int)) + (bAnd .u64 (u64.wrap ((bAnd .u64 (iShr .u64 a0 (1:Int)) (6148914691236517205:Int)) + (bAnd .u64 a0 (6148914691236517205:Int)))) (3689348814741910323:Int)))) (4:Int)) + (u64.wrap ((bAnd .u64 (iShr .u64 (u64.wrap ((bAnd .u64 (iShr .u64 a0 (1:Int)) (6148914691236517205:Int)) + (bAnd .u64 a0 (6148914691236517205:Int)))) (2:Int)) (3689348814741910323:Int)) + (bAnd .u64 (u64.wrap ((bAnd .u64 (iShr .u64 a0 (1:Int)) (6148914691236517205:Int)) + (bAnd .u64 a0 (6148914691236517205:Int)))) (3689348814741910323:Int)))))) (1085102592571150095:Int)) + (iShr .u64 (bAnd .u64 (u64.wrap ((iShr .u64 (u64.wrap ((bAnd .u64 (iShr .u64 (u64.wrap ((bAnd .u64 (iShr .u64 a0 (1:Int)) (6148914691236517205:Int)) + (bAnd .u64 a0 (6148914691236517205:Int)))) (2:Int)) (3689348814741910323:Int)) + (bAnd .u64 (u64.wrap ((bAnd .u64 (iShr .u64 a0 (1:Int)) (6148914691236517205:Int)) + (bAnd .u64 a0 (6148914691236517205:Int)))) (3689348814741910323:Int)))) (4:Int)) + (u64.wrap ((bAnd .u64 (iShr .u64 (u64.wrap ((bAnd .u64 (iShr .u64 a0 (1:Int)) (6148914691236517205:Int)) + (bAnd .u64 a0 (6148914691236517205:Int)))) (2:Int)) (3689348814741910323:Int)) + (bAnd .u64 (u64.wrap ((bAnd .u64 (iShr .u64 a0 (1:Int)) (6148914691236517205:Int)) + (bAnd .u64 a0 (6148914691236517205:Int)))) (3689348814741910323:Int)))))) (1085102592571150095:Int)) (8:Int)))) + (iShr .u64 (u64.wrap ((bAnd .u64 (u64.wrap ((iShr .u64 (u64.wrap ((bAnd .u64 (iShr .u64 (u64.wrap ((bAnd .u64 (iShr .u64 a0 (1:Int)) (6148914691236517205:Int)) + (bAnd .u64 a0 (6148914691236517205:Int)))) (2:Int)) (3689348814741910323:Int)) + (bAnd .u64 (u64.wrap ((bAnd .u64 (iShr .u64 a0 (1:Int)) (6148914691236517205:Int)) + (bAnd .u64 a0 (6148914691236517205:Int)))) (3689348814741910323:Int)))) (4:Int)) + (u64.wrap ((bAnd .u64 (iShr .u64 (u64.wrap ((bAnd .u64 (iShr .u64 a0 (1:Int)) (6148914691236517205:Int)) + (bAnd .u64 a0 (6148914691236517205:Int)))) (2:Int)) (3689348814741910323:Int)) + (bAnd .u64 (u64.wrap ((bAnd .u64 (iShr .u64 a0 (1:Int)) (6148914691236517205:Int)) + (bAnd .u64 a0 (6148914691236517205:Int)))) (3689348814741910323:Int)))))) (1085102592571150095:Int)) + (iShr .u64 (bAnd .u64 (u64.wrap ((iShr .u64 (u64.wrap ((bAnd .u64 (iShr .u64 (u64.wrap ((bAnd .u64 (iShr .u64 a0 (1:Int)) (6148914691236517205:Int)) + (bAnd .u64 a0 (6148914691236517205:Int)))) (2:Int)) (3689348814741910323:Int)) + (bAnd .u64 (u64.wrap ((bAnd .u64 (iShr .u64 a0 (1:Int)) (6148914691236517205:Int)) + (bAnd .u64 a0 (6148914691236517205:Int)))) (3689348814741910323:Int)))) (4:Int)) + (u64.wrap ((bAnd .u64 (iShr .u64 (u64.wrap ((bAnd .u64 (iShr .u64 a0 (1:Int)) (6148914691236517205:Int)) + (bAnd .u64 a0 (6148914691236517205:Int)))) (2:Int)) (3689348814741910323:Int)) + (bAnd .u64 (u64.wrap ((bAnd .u64 (iShr .u64 a0 (1:Int)) (6148914691236517205:Int)) + (bAnd .u64 a0 (6148914691236517205:Int)))) (3689348814741910323:Int)))))) (1085102592571150095:Int)) (8:Int)))) (16:Int)))) + (iShr .u64 (u64.wrap ((u64.wrap ((bAnd .u64 (u64.wrap ((iShr .u64 (u64.wrap ((bAnd .u64 (iShr .u64 (u64.wrap ((bAnd .u64 (iShr .u64 a0 (1:Int)) (6148914691236517205:Int)) + (bAnd .u64 a0 (6148914691236517205:Int)))) (2:Int)) (3689348814741910323:Int)) + (bAnd .u64 (u64.wrap ((bAnd .u64 (iShr .u64 a0 (1:Int)) (6148914691236517205:Int)) + (bAnd .u64 a0 (6148914691236517205:Int)))) (3689348814741910323:Int)))) (4:Int)) + (u64.wrap ((bAnd .u64 (iShr .u64 (u64.wrap ((bAnd .u64 (iShr .u64 a0 (1:Int)) (6148914691236517205:Int)) + (bAnd .u64 a0 (6148914691236517205:Int)))) (2:Int)) (3689348814741910323:Int)) + (bAnd .u64 (u64.wrap ((bAnd .u64 (iShr .u64 a0 (1:Int)) (6148914691236517205:Int)) + (bAnd .u64 a0 (6148914691236517205:Int)))) (3689348814741910323:Int)))))) (1085102592571150095:Int)) + (iShr .u64 (bAnd .u64 (u64.wrap ((iShr .u64 (u64.wrap ((bAnd .u64 (iShr .u64 (u64.wrap ((bAnd .u64 (iShr .u64 a0 (1:Int)) (6148914691236517205:Int)) + (bAnd .u64 a0 (6148914691236517205:Int)))) (2:Int)) (3689348814741910323:Int)) + (bAnd .u64 (u64.wrap ((bAnd .u64 (iShr .u64 a0 (1:Int)) (6148914691236517205:Int)) + (bAnd .u64 a0 (6148914691236517205:Int)))) (3689348814741910323:Int)))) (4:Int)) + (u64.wrap ((bAnd .u64 (iShr .u64 (u64.wrap ((bAnd .u64 (iShr .u64 a0 (1:Int)) (6148914691236517205:Int)) + (bAnd .u64 a0 (6148914691236517205:Int)))) (2:Int)) (3689348814741910323:Int)) + (bAnd .u64 (u64.wrap ((bAnd .u64 (iShr .u64 a0 (1:Int)) (6148914691236517205:Int)) + (bAnd .u64 a0 (6148914691236517205:Int)))) (3689348814741910323:Int)))))) (1085102592571150095:Int)) (8:Int)))) + (iShr .u64 (u64.wrap ((bAnd .u64 (u64.wrap ((iShr .u64 (u64.wrap ((bAnd .u64 (iShr .u64 (u64.wrap ((bAnd .u64 (iShr .u64 a0 (1:Int)) (6148914691236517205:Int)) + (bAnd .u64 a0 (6148914691236517205:Int)))) (2:Int)) (3689348814741910323:Int)) + (bAnd .u64 (u64.wrap ((bAnd .u64 (iShr .u64 a0 (1:Int)) (6148914691236517205:Int)) + (bAnd .u64 a0 (6148914691236517205:Int)))) (3689348814741910323:Int)))) (4:Int)) + (u64.wrap ((bAnd .u64 (iShr .u64 (u64.wrap ((bAnd .u64 (iShr .u64 a0 (1:Int)) (6148914691236517205:Int)) + (bAnd .u64 a0 (6148914691236517205:Int)))) (2:Int)) (3689348814741910323:Int)) + (bAnd .u64 (u64.wrap ((bAnd .u64 (iShr .u64 a0 (1:Int)) (6148914691236517205:Int)) + (bAnd .u64 a0 (6148914691236517205:Int)))) (3689348814741910323:Int)))))) (1085102592571150095:Int)) + (iShr .u64 (bAnd .u64 (u64.wrap ((iShr .u64 (u64.wrap ((bAnd .u64 (iShr .u64 (u64.wrap ((bAnd .u64 (iShr .u64 a0 (1:Int)) (6148914691236517205:Int)) + (bAnd .u64 a0 (6148914691236517205:Int)))) (2:Int)) (3689348814741910323:Int)) + (bAnd .u64 (u64.wrap ((bAnd .u64 (iShr .u64 a0 (1:Int)) (6148914691236517205:Int)) + (bAnd .u64 a0 (6148914691236517205:Int)))) (3689348814741910323:Int)))) (4:Int)) + (u64.wrap ((bAnd .u64 (iShr .u64 (u64.wrap ((bAnd .u64 (iShr .u64 a0 (1:Int)) (6148914691236517205:Int)) + (bAnd .u64 a0 (6148914691236517205:Int)))) (2:Int)) (3689348814741910323:Int)) + (bAnd .u64 (u64.wrap ((bAnd .u64 (iShr .u64 a0 (1:Int)) (6148914691236517205:Int)) + (bAnd .u64 a0 (6148914691236517205:Int)))) (3689348814741910323:Int)))))) (1085102592571150095:Int)) (8:Int)))) (16:Int)))) (32:Int))))) (127:Int))) z z z (wv (.int .i64 (bAnd .i64 (i64.wrap (u64.wrap ((u64.wrap ((u64.wrap ((bAnd .u64 (u64.wrap ((iShr .u64 (u64.wrap ((bAnd .u64 (iShr .u64 (u64.wrap ((bAnd .u64 (iShr .u64 a0 (1:Int)) (6148914691236517205:Int)) + (bAnd .u64 a0 (6148914691236517205:Int)))) (2:Int)) (3689348814741910323:Int)) + (bAnd .u64 (u64.wrap ((bAnd .u64 (iShr .u64 a0 (1:Int)) (6148914691236517205:Int)) + (bAnd .u64 a0 (6148914691236517205:Int)))) (3689348814741910323:Int)))) (4:Int)) + (u64.wrap ((bAnd .u64 (iShr .u64 (u64.wrap ((bAnd .u64 (iShr .u64 a0 (1:Int)) (6148914691236517205:Int)) + (bAnd .u64 a0 (6148914691236517205:Int)))) (2:Int)) (3689348814741910323:Int)) + (bAnd .u64 (u64.wrap ((bAnd .u64 (iShr .u64 a0 (1:Int)) (6148914691236517205:Int)) + (bAnd .u64 a0 (6148914691236517205:Int)))) (3689348814741910323:Int)))))) (1085102592571150095:Int)) + (iShr .u64 (bAnd .u64 (u64.wrap ((iShr .u64 (u64.wrap ((bAnd .u64 (iShr .u64 (u64.wrap ((bAnd .u64 (iShr .u64 a0 (1:Int)) (6148914691236517205:Int)) + (bAnd .u64 a0 (6148914691236517205:Int)))) (2:Int)) (3689348814741910323:Int)) + (bAnd .u64 (u64.wrap ((bAnd .u64 (iShr .u64 a0 (1:Int)) (6148914691236517205:Int)) + (bAnd .u64 a0 (6148914691236517205:Int)))) (3689348814741910323:Int)))) (4:Int)) + (u64.wrap ((bAnd .u64 (iShr .u64 (u64.wrap ((bAnd .u64 (iShr .u64 a0 (1:Int)) (6148914691236517205:Int)) + (bAnd .u64 a0 (6148914691236517205:Int)))) (2:Int)) (3689348814741910323:Int)) + (bAnd .u64 (u64.wrap ((bAnd .u64 (iShr .u64 a0 (1:Int)) (6148914691236517205:Int)) + (bAnd .u64 a0 (6148914691236517205:Int)))) (3689348814741910323:Int)))))) (1085102592571150095:Int)) (8:Int)))) + (iShr .u64 (u64.wrap ((bAnd .u64 (u64.wrap ((iShr .u64 (u64.wrap ((bAnd .u64 (iShr .u64 (u64.wrap ((bAnd .u64 (iShr .u64 a0 (1:Int)) (6148914691236517205:Int)) + (bAnd .u64 a0 (6148914691236517205:Int)))) (2:Int)) (3689348814741910323:Int)) + (bAnd .u64 (u64.wrap ((bAnd .u64 (iShr .u64 a0 (1:Int)) (6148914691236517205:Int)) + (bAnd .u64 a0 (6148914691236517205:Int)))) (3689348814741910323:Int)))) (4:Int)) + (u64.wrap ((bAnd .u64 (iShr .u64 (u64.wrap ((bAnd .u64 (iShr .u64 a0 (1:Int)) (6148914691236517205:Int)) + (bAnd .u64 a0 (6148914691236517205:Int)))) (2:Int)) (3689348814741910323:Int)) + (bAnd .u64 (u64.wrap ((bAnd .u64 (iShr .u64 a0 (1:Int)) (6148914691236517205:Int)) + (bAnd .u64 a0 (6148914691236517205:Int)))) (3689348814741910323:Int)))))) (1085102592571150095:Int)) + (iShr .u64 (bAnd .u64 (u64.wrap ((iShr .u64 (u64.wrap ((bAnd .u64 (iShr .u64 (u64.wrap ((bAnd .u64 (iShr .u64 a0 (1:Int)) (6148914691236517205:Int)) + (bAnd .u64 a0 (6148914691236517205:Int)))) (2:Int)) (3689348814741910323:Int)) + (bAnd .u64 (u64.wrap ((bAnd .u64 (iShr .u64 a0 (1:Int)) (6148914691236517205:Int)) + (bAnd .u64 a0 (6148914691236517205:Int)))) (3689348814741910323:Int)))) (4:Int)) + (u64.wrap ((bAnd .u64 (iShr .u64 (u64.wrap ((bAnd .u64 (iShr .u64 a0 (1:Int)) (6148914691236517205:Int)) + (bAnd .u64 a0 (6148914691236517205:Int)))) (2:Int)) (3689348814741910323:Int)) + (bAnd .u64 (u64.wrap ((bAnd .u64 (iShr .u64 a0 (1:Int)) (6148914691236517205:Int)) + (bAnd .u64 a0 (6148914691236517205:Int)))) (3689348814741910323:Int)))))) (1085102592571150095:Int)) (8:Int)))) (16:Int)))) + (iShr .u64 (u64.wrap ((u64.wrap ((bAnd .u64 (u64.wrap ((iShr .u64 (u64.wrap ((bAnd .u64 (iShr .u64 (u64.wrap ((bAnd .u64 (iShr .u64 a0 (1:Int)) (6148914691236517205:Int)) + (bAnd .u64 a0 (6148914691236517205:Int)))) (2:Int)) (3689348814741910323:Int)) + (bAnd .u64 (u64.wrap ((bAnd .u64 (iShr .u64 a0 (1:Int)) (6148914691236517205:Int)) + (bAnd .u64 a0 (6148914691236517205:Int)))) (3689348814741910323:Int)))) (4:Int)) + (u64.wrap ((bAnd .u64 (iShr .u64 (u64.wrap ((bAnd .u64 (iShr .u64 a0 (1:Int)) (6148914691236517205:Int)) + (bAnd .u64 a0 (6148914691236517205:Int)))) (2:Int)) (3689348814741910323:Int)) + (bAnd .u64 (u64.wrap ((bAnd .u64 (iShr .u64 a0 (1:Int)) (6148914691236517205:Int)) + (bAnd .u64 a0 (6148914691236517205:Int)))) (3689348814741910323:Int)))))) (1085102592571150095:Int)) + (iShr .u64 (bAnd .u64 (u64.wrap ((iShr .u64 (u64.wrap ((bAnd .u64 (iShr .u64 (u64.wrap ((bAnd .u64 (iShr .u64 a0 (1:Int)) (6148914691236517205:Int)) + (bAnd .u64 a0 (6148914691236517205:Int)))) (2:Int)) (3689348814741910323:Int)) + (bAnd .u64 (u64.wrap ((bAnd .u64 (iShr .u64 a0 (1:Int)) (6148914691236517205:Int)) + (bAnd .u64 a0 (6148914691236517205:Int)))) (3689348814741910323:Int)))) (4:Int)) + (u64.wrap ((bAnd .u64 (iShr .u64 (u64.wrap ((bAnd .u64 (iShr .u64 a0 (1:Int)) (6148914691236517205:Int)) + (bAnd .u64 a0 (6148914691236517205:Int)))) (2:Int)) (3689348814741910323:Int)) + (bAnd .u64 (u64.wrap ((bAnd .u64 (iShr .u64 a0 (1:Int)) (6148914691236517205:Int)) + (bAnd .u64 a0 (6148914691236517205:Int)))) (3689348814741910323:Int)))))) (1085102592571150095:Int)) (8:Int)))) + (iShr .u64 (u64.wrap ((bAnd .u64 (u64.wrap ((iShr .u64 (u64.wrap ((bAnd .u64 (iShr .u64 (u64.wrap ((bAnd .u64 (iShr .u64 a0 (1:Int)) (6148914691236517205:Int)) + (bAnd .u64 a0 (6148914691236517205:Int)))) (2:Int)) (3689348814741910323:Int)) + (bAnd .u64 (u64.wrap ((bAnd .u64 (iShr .u64 a0 (1:Int)) (6148914691236517205:Int)) + (bAnd .u64 a0 (6148914691236517205:Int)))) (3689348814741910323:Int)))) (4:Int)) + (u64.wrap ((bAnd .u64 (iShr .u64 (u64.wrap ((bAnd .u64 (iShr .u64 a0 (1:Int)) (6148914691236517205:Int)) + (bAnd .u64 a0 (6148914691236517205:Int)))) (2:Int)) (3689348814741910323:Int)) + (bAnd .u64 (u64.wrap ((bAnd .u64 (iShr .u64 a0 (1:Int)) (6148914691236517205:Int)) + (bAnd .u64 a0 (6148914691236517205:Int)))) (3689348814741910323:Int)))))) (1085102592571150095:Int)) + (iShr .u64 (bAnd .u64 (u64.wrap ((iShr .u64 (u64.wrap ((bAnd .u64 (iShr .u64 (u64.wrap ((bAnd .u64 (iShr .u64 a0 (1:Int)) (6148914691236517205:Int)) + (bAnd .u64 a0 (6148914691236517205:Int)))) (2:Int)) (3689348814741910323:Int)) + (bAnd .u64 (u64.wrap ((bAnd .u64 (iShr .u64 a0 (1:Int)) (6148914691236517205:Int)) + (bAnd .u64 a0 (6148914691236517205:Int)))) (3689348814741910323:Int)))) (4:Int)) + (u64.wrap ((bAnd .u64 (iShr .u64 (u64.wrap ((bAnd .u64 (iShr .u64 a0 (1:Int)) (6148914691236517205:Int)) + (bAnd .u64 a0 (6148914691236517205:Int)))) (2:Int)) (3689348814741910323:Int)) + (bAnd .u64 (u64.wrap ((bAnd .u64 (iShr .u64 a0 (1:Int)) (6148914691236517205:Int)) + (bAnd .u64 a0 (6148914691236517205:Int)))) (3689348814741910323:Int)))))) (1085102592571150095:Int)) (8:Int)))) (16:Int)))) (32:Int))))) (127:Int))) z z z (wl_nil (tn (wp_ret ?_))))))))))))))
 obtain rfl := some_inj hm
 refine post_ret (vs := [I6 (bAnd .i64 (i64.wrap (u64.wrap ((u64.wrap ((u64.wrap ((bAnd .u64 (u64.wrap ((iShr .u64 (u64.wrap ((bAnd .u64 (iShr .u64 (u64.wrap ((bAnd .u64 (iShr .u64 a0 (1:Int)) (6148914691236517205:Int)) + (bAnd .u64 a0 (6148914691236517205:Int)))) (2:Int)) (3689348814741910323:Int)) + (bAnd .u64 (u64.wrap ((bAnd .u64 (iShr .u64 a0 (1:Int)) (6148914691236517205:Int)) + (bAnd .u64 a0 (6148914691236517205:Int)))) (3689348814741910323:Int)))) (4:Int)) + (u64.wrap ((bAnd .u64 (iShr .u64 (u64.wrap ((bAnd .u64 (iShr .u64 a0 (1:Int)) (6148914691236517205:Int)) + (bAnd .u64 a0 (6148914691236517205:Int)))) (2:Int)) (3689348814741910323:Int)) + (bAnd .u64 (u64.wrap ((bAnd .u64 (iShr .u64 a0 (1:Int)) (6148914691236517205:Int)) + (bAnd .u64 a0 (6148914691236517205:Int)))) (3689348814741910323:Int)))))) (1085102592571150095:Int)) + (iShr .u64 (bAnd .u64 (u64.wrap ((iShr .u64 (u64.wrap ((bAnd .u64 (iShr .u64 (u64.wrap ((bAnd .u64 (iShr .u64 a0 (1:Int)) (6148914691236517205:Int)) + (bAnd .u64 a0 (6148914691236517205:Int)))) (2:Int)) (3689348814741910323:Int)) + (bAnd .u64 (u64.wrap ((bAnd .u64 (iShr .u64 a0 (1:Int)) (6148914691236517205:Int)) + (bAnd .u64 a0 (6148914691236517205:Int)))) (3689348814741910323:Int)))) (4:Int)) + (u64.wrap ((bAnd .u64 (iShr .u64 (u64.wrap ((bAnd .u64 (iShr .u64 a0 (1:Int)) (6148914691236517205:Int)) + (bAnd .u64 a0 (6148914691236517205:Int)))) (2:Int)) (3689348814741910323:Int)) + (bAnd .u64 (u64.wrap ((bAnd .u64 (iShr .u64 a0 (1:Int)) (6148914691236517205:Int)) + (bAnd .u64 a0 (6148914691236517205:Int)))) (3689348814741910323:Int)))))) (1085102592571150095:Int)) (8:Int)))) + (iShr .u64 (u64.wrap ((bAnd .u64 (u64.wrap ((iShr .u64 (u64.wrap ((bAnd .u64 (iShr .u64 (u64.wrap ((bAnd .u64 (iShr .u64 a0 (1:Int)) (6148914691236517205:Int)) + (bAnd .u64 a0 (6148914691236517205:Int)))) (2:Int)) (3689348814741910323:Int)) + (bAnd .u64 (u64.wrap ((bAnd .u64 (iShr .u64 a0 (1:Int)) (6148914691236517205:Int)) + (bAnd .u64 a0 (6148914691236517205:Int)))) (3689348814741910323:Int)))) (4:Int)) + (u64.wrap ((bAnd .u64 (iShr .u64 (u64.wrap ((bAnd .u64 (iShr .u64 a0 (1:Int)) (6148914691236517205:Int)) + (bAnd .u64 a0 (6148914691236517205:Int)))) (2:Int)) (3689348814741910323:Int)) + (bAnd .u64 (u64.wrap ((bAnd .u64 (iShr .u64 a0 (1:Int)) (6148914691236517205:Int)) + (bAnd .u64 a0 (6148914691236517205:Int)))) (3689348814741910323:Int)))))) (1085102592571150095:Int)) + (iShr .u64 (bAnd .u64 (u64.wrap ((iShr .u64 (u64.wrap ((bAnd .u64 (iShr .u64 (u64.wrap ((bAnd .u64 (iShr .u64 a0 (1:Int)) (6148914691236517205:Int)) + (bAnd .u64 a0 (6148914691236517205:Int)))) (2:Int)) (3689348814741910323:Int)) + (bAnd .u64 (u64.wrap ((bAnd .u64 (iShr .u64 a0 (1:Int)) (6148914691236517205:Int)) + (bAnd .u64 a0 (6148914691236517205:Int)))) (3689348814741910323:Int)))) (4:Int)) + (u64.wrap ((bAnd .u64 (iShr .u64 (u64.wrap ((bAnd .u64 (iShr .u64 a0 (1:Int)) (6148914691236517205:Int)) + (bAnd .u64 a0 (6148914691236517205:Int)))) (2:Int)) (3689348814741910323:Int)) + (bAnd .u64 (u64.wrap ((bAnd .u64 (iShr .u64 a0 (1:Int)) (6148914691236517205:Int)) + (bAnd .u64 a0 (6148914691236517205:Int)))) (3689348814741910323:Int)))))) (1085102592571150095:Int)) (8:Int)))) (16:Int)))) + (iShr .u64 (u64.wrap ((u64.wrap ((bAnd .u64 (u64.wrap ((iShr .u64 (u64.wrap ((bAnd .u64 (iShr .u64 (u64.wrap ((bAnd .u64 (iShr .u64 a0 (1:Int)) (6148914691236517205:Int)) + (bAnd .u64 a0 (6148914691236517205:Int)))) (2:Int)) (3689348814741910323:Int)) + (bAnd .u64 (u64.wrap ((bAnd .u64 (iShr .u64 a0 (1:Int)) (6148914691236517205:Int)) + (bAnd .u64 a0 (6148914691236517205:Int)))) (3689348814741910323:Int)))) (4:Int)) + (u64.wrap ((bAnd .u64 (iShr .u64 (u64.wrap ((bAnd .u64 (iShr .u64 a0 (1:Int)) (6148914691236517205:Int)) + (bAnd .u64 a0 (6148914691236517205:Int)))) (2:Int)) (3689348814741910323:Int)) + (bAnd .u64 (u64.wrap ((bAnd .u64 (iShr .u64 a0 (1:Int)) (6148914691236517205:Int)) + (bAnd .u64 a0 (6148914691236517205:Int)))) (3689348814741910323:Int)))))) (1085102592571150095:Int)) + (iShr .u64 (bAnd .u64 (u64.wrap ((iShr .u64 (u64.wrap ((bAnd .u64 (iShr .u64 (u64.wrap ((bAnd .u64 (iShr .u64 a0 (1:Int)) (6148914691236517205:Int)) + (bAnd .u64 a0 (6148914691236517205:Int)))) (2:Int)) (3689348814741910323:Int)) + (bAnd .u64 (u64.wrap ((bAnd .u64 (iShr .u64 a0 (1:Int)) (6148914691236517205:Int)) + (bAnd .u64 a0 (6148914691236517205:Int)))) (3689348814741910323:Int)))) (4:Int)) + (u64.wrap ((bAnd .u64 (iShr .u64 (u64.wrap ((bAnd .u64 (iShr .u64 a0 (1:Int)) (6148914691236517205:Int)) + (bAnd .u64 a0 (6148914691236517205:Int)))) (2:Int)) (3689348814741910323:Int)) + (bAnd .u64 (u64.wrap ((bAnd .u64 (iShr .u64 a0 (1:Int)) (6148914691236517205:Int)) + (bAnd .u64 a0 (6148914691236517205:Int)))) (3689348814741910323:Int)))))) (1085102592571150095:Int)) (8:Int)))) + (iShr .u64 (u64.wrap ((bAnd .u64 (u64.wrap ((iShr .u64 (u64.wrap ((bAnd .u64 (iShr .u64 (u64.wrap ((bAnd .u64 (iShr .u64 a0 (1:Int)) (6148914691236517205:Int)) + (bAnd .u64 a0 (6148914691236517205:Int)))) (2:Int)) (3689348814741910323:Int)) + (bAnd .u64 (u64.wrap ((bAnd .u64 (iShr .u64 a0 (1:Int)) (6148914691236517205:Int)) + (bAnd .u64 a0 (6148914691236517205:Int)))) (3689348814741910323:Int)))) (4:Int)) + (u64.wrap ((bAnd .u64 (iShr .u64 (u64.wrap ((bAnd .u64 (iShr .u64 a0 (1:Int)) (6148914691236517205:Int)) + (bAnd .u64 a0 (6148914691236517205:Int)))) (2:Int)) (3689348814741910323:Int)) + (bAnd .u64 (u64.wrap ((bAnd .u64 (iShr .u64 a0 (1:Int)) (6148914691236517205:Int)) + (bAnd .u64 a0 (6148914691236517205:Int)))) (3689348814741910323:Int)))))) (1085102592571150095:Int)) + (iShr .u64 (bAnd .u64 (u64.wrap ((iShr .u64 (u64.wrap ((bAnd .u64 (iShr .u64 (u64.wrap ((bAnd .u64 (iShr .u64 a0 (1:Int)) (6148914691236517205:Int)) + (bAnd .u64 a0 (6148914691236517205:Int)))) (2:Int)) (3689348814741910323:Int)) + (bAnd .u64 (u64.wrap ((bAnd .u64 (iShr .u64 a0 (1:Int)) (6148914691236517205:Int)) + (bAnd .u64 a0 (6148914691236517205:Int)))) (3689348814741910323:Int)))) (4:Int)) + (u64.wrap ((bAnd .u64 (iShr .u64 (u64.wrap ((bAnd .u64 (iShr .u64 a0 (1:Int)) (6148914691236517205:Int)) + (bAnd .u64 a0 (6148914691236517205:Int)))) (2:Int)) (3689348814741910323:Int)) + (bAnd .u64 (u64.wrap ((bAnd .u64 (iShr .u64 a0 (1:Int)) (6148914691236517205:Int)) + (bAnd .u64 a0 (6148914691236517205:Int)))) (3689348814741910323:Int)))))) (1085102592571150095:Int)) (8:Int)))) (16:Int)))) (32:Int))))) (127:Int))]) results32 (rvs_cons (rv_tmp z) rvs_nil) ?_
 exact ⟨z, hst.keep0⟩
}

theorem cmp_isNaN_int_ref {w0 w : World} {I : HL} {R : SP} {a0 : Int}  (hst : St w0 w I [] R) {r : (Bool)} (hm : cmp_isNaN_int a0 = some r) :
  Calls prog 57 #[I6 a0] w fun e w' => e = .returned (.bool r) ∧ St w0 w' I [] R := by {
 unfold cmp_isNaN_int at hm
 refine calls_start (args := [I6 a0]) func57 z ntmps57 (Nat.le_of_ble_eq_true z) ?_
 refine wp_seq (wrl (wv (.bool false) z z z (wl_nil (tn (wp_seq (wrl (wv (.int .i64 a0) z z z (wv (.int .i64 a0) z z z (wv (.bool (a0 != a0)) z z z (wv (.bool (a0 != a0)) z z z (wl_nil (tn (wp_ret ?_)))))))))))))
 obtain rfl := some_inj hm
 refine post_ret (vs := [.bool (a0 != a0)]) results57 (rvs_cons (rv_tmp z) rvs_nil) ?_
 exact ⟨z, hst.keep0⟩
}

theorem cmp_Compare_int_ref {w0 w : World} {I : HL} {R : SP} {a0 : Int} {a1 : Int}  (hst : St w0 w I [] R) {r : (Int)} (hm : cmp_Compare_int a0 a1 = some r) :
  Calls prog 49 #[I6 a0, I6 a1] w fun e w' => e = .returned (.int .i64 r) ∧ St w0 w' I [] R := by {
 unfold cmp_Compare_int at hm
 refine calls_start (args := [I6 a0, I6 a1]) func49 z ntmps49 (Nat.le_of_ble_eq_true z) ?_
 refine wp_seq (wrl (wv (.int .i64 (0:Int)) z z z (wl_nil (tn (wp_seq (wrl (wv (.int .i64 a0) z z z ?_)))))))
 obtain ⟨t2486, ht2487, hm⟩ := bind_some hm
 refine wc call57 [I6 a0] z z z ?_
 refine (cmp_isNaN_int_ref hst.to0 ht2487).mono ?_
 rintro _ w2488 ⟨rfl, hst⟩
 refine ⟨_, z, ?_⟩
 replace hst := hst.of0
 refine wv (.bool t2486) z z z (wl_nil (tn (wp_seq (wrl (wv (.int .i64 a1) z z z ?_)))))
 obtain ⟨t2491, ht2492, hm⟩ := bind_some hm
 refine wc call57 [I6 a1] z z z ?_
 refine (cmp_isNaN_int_ref hst.to0 ht2492).mono ?_
 rintro _ w2493 ⟨rfl, hst⟩
 refine ⟨_, z, ?_⟩
 replace hst := hst.of0
 refine wv (.bool t2491) z z z (wl_nil (tn (wp_seq (wp_seq (wrl (wv (.bool t2486) z z z (wl_nil (tn ?_))))))))
 refine bsplit t2486 (fun hc2496 => ?_) (fun hc2496 => ?_)
 {
 replace hm := bif_t hc2496 hm
 refine wp_ift (cvb hc2496) ?_
 refine wp_seq (wp_seq (wrl (wv (.bool t2491) z z z (wl_nil (tn ?_)))))
 refine bsplit t2491 (fun hc2497 => ?_) (fun hc2497 => ?_)
 {
 replace hm := bif_t hc2497 hm
 refine wp_ift (cvb hc2497) ?_
 refine wp_seq (wrl (wv (.int .i64 (0:Int)) z z z (wl_nil (tn (wp_ret (then_r (then_r ?_)))))))
 obtain rfl := some_inj hm
 refine post_ret (vs := [Zi]) results49 (rvs_cons (rv_tmp z) rvs_nil) ?_
 exact ⟨z, hst.keep0⟩
}
 {
 replace hm := bif_f hc2497 hm
 refine wp_iff (cvb hc2497) ?_
 refine wp_skip (tn (wp_seq (wrl ?_)))
 refine wv (.int .i64 ((-1):Int)) z z z (wl_nil (tn (wp_ret (then_r ?_))))
 obtain rfl := some_inj hm
 refine post_ret (vs := [I6 ((-1):Int)]) results49 (rvs_cons (rv_tmp z) rvs_nil) ?_
 exact ⟨z, hst.keep0⟩
}
}
 {
 replace hm := bif_f hc2496 hm
 refine wp_iff (cvb hc2496) ?_
 refine wp_skip (tn (wp_seq (wp_seq (wrl ?_))))
 refine wv (.bool t2491) z z z (wl_nil (tn ?_))
 refine bsplit t2491 (fun hc2498 => ?_) (fun hc2498 => ?_)
 {
 replace hm := bif_t hc2498 hm
 refine wp_ift (cvb hc2498) ?_
 refine wp_seq (wrl (wv (.int .i64 (1:Int)) z z z (wl_nil (tn (wp_ret (then_r ?_))))))
 obtain rfl := some_inj hm
 refine post_ret (vs := [I6 (1:Int)]) results49 (rvs_cons (rv_tmp z) rvs_nil) ?_
 exact ⟨z, hst.keep0⟩
}
 {
 replace hm := bif_f hc2498 hm
 refine wp_iff (cvb hc2498) ?_
 refine wp_skip (tn (wp_seq (wp_seq (wrl ?_))))
 refine wv (.int .i64 a0) z z z (wv (.int .i64 a1) z z z (wv (.bool (decide (a0 < a1))) z z z (wl_nil (tn ?_))))
 refine bsplit (decide (a0 < a1)) (fun hc2499 => ?_) (fun hc2499 => ?_)
 {
 replace hm := bif_t hc2499 hm
 refine wp_ift (cvb hc2499) ?_
 refine wp_seq (wrl (wv (.int .i64 ((-1):Int)) z z z (wl_nil (tn (wp_ret (then_r ?_))))))
 obtain rfl := some_inj hm
 refine post_ret (vs := [I6 ((-1):Int)]) results49 (rvs_cons (rv_tmp z) rvs_nil) ?_
 exact ⟨z, hst.keep0⟩
}
 {
 replace hm := bif_f hc2499 hm
 refine wp_iff (cvb hc2499) ?_
 refine wp_skip (tn (wp_seq (wp_seq (wrl ?_))))
 refine wv (.int .i64 a0) z z z (wv (.int .i64 a1) z z z (wv (.bool (decide (a0 > a1))) z z z (wl_nil (tn ?_))))
 refine bsplit (decide (a0 > a1)) (fun hc2500 => ?_) (fun hc2500 => ?_)
 {
 replace hm := bif_t hc2500 hm
 refine wp_ift (cvb hc2500) ?_
 refine wp_seq (wrl (wv (.int .i64 (1:Int)) z z z (wl_nil (tn (wp_ret (then_r ?_))))))
 obtain rfl := some_inj hm
 refine post_ret (vs := [I6 (1:Int)]) results49 (rvs_cons (rv_tmp z) rvs_nil) ?_
 exact ⟨z, hst.keep0⟩
}
 {
 replace hm := bif_f hc2500 hm
 refine wp_iff (cvb hc2500) ?_
 refine wp_skip (tn (wp_seq (wrl ?_)))
 refine wv (.int .i64 (0:Int)) z z z (wl_nil (tn (wp_ret ?_)))
 obtain rfl := some_inj hm
 refine post_ret (vs := [Zi]) results49 (rvs_cons (rv_tmp z) rvs_nil) ?_
 exact ⟨z, hst.keep0⟩
}
}
}
}
}

end Go.Proofs.Ytkjkbfaaigmmcaa
