/- The Go functions refine their models, part 0. -/
import Derived.Test.YtddhkbholbcebaaLabelKnownT
set_option linter.unusedVariables false
set_option linter.unusedSimpArgs false
set_option maxRecDepth 100000
set_option maxHeartbeats 4000000
namespace Go.Proofs.Ytddhkbholbcebaa
open Go Go.V
open _root_.Go.Proofs.Try IntKind
attribute [local irreducible] wpList Code.wp wpQuiet Calls bodyPost Oper.wp wpS Nx PendOK YieldsIn
theorem ref03_Lattices_ref {w0 w : World} {I : HL} {R : SP} {a0 : Int}  (hst : St w0 w I [] R) {r : ((List Int))} (hm : ref03_Lattices a0 = some r) :
  Calls prog 21 #[U1 a0] w fun e w' => ∃ (q0_0 : Value), e = .returned (q0_0) ∧ St w0 w' I [ownS (tyInt .u64) q0_0 r] R := by {
 unfold ref03_Lattices at hm
 refine calls_start (args := [U1 a0]) func21 z ntmps21 (Nat.le_of_ble_eq_true z) ?_
 refine wp_seq (wrl (wv ((.slice none 0 0)) z z z (wl_nil (tn (wp_seq (wp_seq (wrl (wv (.int .u8 a0) z z z (wv (.int .u8 (Int.tmod a0 (5:Int))) z z (x_rem (by decide) z z) (wl_nil (tn (wp_block (wp_seq (wrl (wv (.bool ((Int.tmod a0 (5:Int)) == (0:Int))) z z z (wv (.bool ((Int.tmod a0 (5:Int)) == (0:Int))) z z z (wl_nil (tn ?_))))))))))))))))))
 refine bsplit ((Int.tmod a0 (5:Int)) == (0:Int)) (fun hc190 => ?_) (fun hc190 => ?_)
 {
 replace hm := bif_t hc190 hm
 refine wp_ift (cvb hc190) ?_
 refine wp_seq (wrl ?_)
 obtain ⟨b191, w192, ew193, eb194, hst⟩ := hst.lits (E := (tyInt .u64)) (xs := [(3:Int), (2:Int)]) [[U6 (3:Int)], [U6 (2:Int)]] 43 2 z (Reps.cons z (Reps.cons z Reps.nil))
 refine wl_run (v := (.slice (some ⟨b191, 0, none⟩) 2 2)) (w' := w192) z z (x_als (by kernel_rfl) ew193 eb194) ?_
 refine wv ((.slice (some ⟨b191, 0, none⟩) 2 2)) z z z (wl_nil (tn (wp_ret (blk_r (then_r ?_)))))
 obtain rfl := some_inj hm
 refine post_ret (vs := [(.slice (some ⟨b191, 0, none⟩) 2 2)]) results21 (rvs_cons (rv_tmp z) rvs_nil) ?_
 exact ⟨(.slice (some ⟨b191, 0, none⟩) 2 2), z, hst.keep1⟩
}
 {
 replace hm := bif_f hc190 hm
 refine wp_iff (cvb hc190) ?_
 refine wp_seq (wrl (wv (.bool ((Int.tmod a0 (5:Int)) == (1:Int))) z z z (wv (.bool ((Int.tmod a0 (5:Int)) == (1:Int))) z z z (wl_nil (tn ?_)))))
 refine bsplit ((Int.tmod a0 (5:Int)) == (1:Int)) (fun hc196 => ?_) (fun hc196 => ?_)
 {
 replace hm := bif_t hc196 hm
 refine wp_ift (cvb hc196) ?_
 refine wp_seq (wrl ?_)
 obtain ⟨b197, w198, ew199, eb200, hst⟩ := hst.lits (E := (tyInt .u64)) (xs := [(1:Int)]) [[U6 (1:Int)]] 43 1 z (Reps.cons z Reps.nil)
 refine wl_run (v := (.slice (some ⟨b197, 0, none⟩) 1 1)) (w' := w198) z z (x_als (by kernel_rfl) ew199 eb200) ?_
 refine wv ((.slice (some ⟨b197, 0, none⟩) 1 1)) z z z (wl_nil (tn (wp_ret (blk_r (then_r ?_)))))
 obtain rfl := some_inj hm
 refine post_ret (vs := [(.slice (some ⟨b197, 0, none⟩) 1 1)]) results21 (rvs_cons (rv_tmp z) rvs_nil) ?_
 exact ⟨(.slice (some ⟨b197, 0, none⟩) 1 1), z, hst.keep1⟩
}
 {
 replace hm := bif_f hc196 hm
 refine wp_iff (cvb hc196) ?_
 refine wp_seq (wrl (wv (.bool ((Int.tmod a0 (5:Int)) == (2:Int))) z z z (wv (.bool ((Int.tmod a0 (5:Int)) == (2:Int))) z z z (wl_nil (tn ?_)))))
 refine bsplit ((Int.tmod a0 (5:Int)) == (2:Int)) (fun hc202 => ?_) (fun hc202 => ?_)
 {
 replace hm := bif_t hc202 hm
 refine wp_ift (cvb hc202) ?_
 refine wp_seq (wrl ?_)
 obtain ⟨b203, w204, ew205, eb206, hst⟩ := hst.lits (E := (tyInt .u64)) (xs := [(1:Int), (3:Int), (7:Int)]) [[U6 (1:Int)], [U6 (3:Int)], [U6 (7:Int)]] 43 3 z (Reps.cons z (Reps.cons z (Reps.cons z Reps.nil)))
 refine wl_run (v := (.slice (some ⟨b203, 0, none⟩) 3 3)) (w' := w204) z z (x_als (by kernel_rfl) ew205 eb206) ?_
 refine wv ((.slice (some ⟨b203, 0, none⟩) 3 3)) z z z (wl_nil (tn (wp_ret (blk_r (then_r ?_)))))
 obtain rfl := some_inj hm
 refine post_ret (vs := [(.slice (some ⟨b203, 0, none⟩) 3 3)]) results21 (rvs_cons (rv_tmp z) rvs_nil) ?_
 exact ⟨(.slice (some ⟨b203, 0, none⟩) 3 3), z, hst.keep1⟩
}
 {
 replace hm := bif_f hc202 hm
 refine wp_iff (cvb hc202) ?_
 refine wp_seq (wrl (wv (.bool ((Int.tmod a0 (5:Int)) == (3:Int))) z z z (wv (.bool ((Int.tmod a0 (5:Int)) == (3:Int))) z z z (wl_nil (tn ?_)))))
 refine bsplit ((Int.tmod a0 (5:Int)) == (3:Int)) (fun hc208 => ?_) (fun hc208 => ?_)
 {
 replace hm := bif_t hc208 hm
 refine wp_ift (cvb hc208) ?_
 refine wp_seq (wrl ?_)
 obtain ⟨b209, w210, ew211, eb212, hst⟩ := hst.lits (E := (tyInt .u64)) (xs := [(15:Int), (10:Int), (12:Int), (8:Int)]) [[U6 (15:Int)], [U6 (10:Int)], [U6 (12:Int)], [U6 (8:Int)]] 43 4 z (Reps.cons z (Reps.cons z (Reps.cons z (Reps.cons z Reps.nil))))
 refine wl_run (v := (.slice (some ⟨b209, 0, none⟩) 4 4)) (w' := w210) z z (x_als (by kernel_rfl) ew211 eb212) ?_
 refine wv ((.slice (some ⟨b209, 0, none⟩) 4 4)) z z z (wl_nil (tn (wp_ret (blk_r (then_r ?_)))))
 obtain rfl := some_inj hm
 refine post_ret (vs := [(.slice (some ⟨b209, 0, none⟩) 4 4)]) results21 (rvs_cons (rv_tmp z) rvs_nil) ?_
 exact ⟨(.slice (some ⟨b209, 0, none⟩) 4 4), z, hst.keep1⟩
}
 {
 replace hm := bif_f hc208 hm
 refine wp_iff (cvb hc208) ?_
 refine wp_skip (blk_n (tn (wp_seq (wrl ?_))))
 refine wv ((.slice none 0 0)) z z z (wl_nil (tn (wp_seq (wp_seq (wrl (wv (.int .i64 (0:Int)) z z z (wl_nil (tn (wp_block ?_)))))))))
 replace hst := hst.own_nil (tyInt .u64)
 obtain ⟨n333, hm⟩ := loopO_some hm
 refine wp_loop_n (fun n a w => ∃ (z328 : (List Int)) (z331 : Int) (v329 : Value) (σ332 : Nat → Value), loopN (ref03_Lattices_l0) n (z328, z331) = some r ∧ a = Fr 43 (upd (upd σ332 3 (v329)) 4 (.int .i64 z331)) ∧ St w0 w I [ownS (tyInt .u64) v329 z328] R) n333 ⟨[], (0:Int), Zs, _, hm, (fu 3 (.slice none 0 0) z (fu 4 (.int .i64 (0:Int)) z z)), hst⟩ ?_
 rintro n339 _ w334 ⟨z328, z331, v329, σ332, hm, rfl, hst⟩
 obtain ⟨n336, y337, rfl, hm, hx338⟩ := loopN_some hm
 dsimp only [ref03_Lattices_l0] at hm
 refine wp_seq (wp_seq (wrl (wv (.int .i64 z331) z z z (wv (.bool (decide (z331 < (8:Int)))) z z z (wl_nil (tn ?_))))))
 refine bsplit (decide (z331 < (8:Int))) (fun hc340 => ?_) (fun hc340 => ?_)
 {
 replace hm := bif_t hc340 hm
 refine wp_ift (cvb hc340) ?_
 refine wp_skip (tn (wp_seq (wp_block (wp_seq (wrl ?_)))))
 refine wv (.int .u64 (0:Int)) z z z (wl_nil (tn ?_))
 obtain ⟨y364, hm, hx365⟩ := bind_some hm
 refine wp_cut (fun a w => ∃ (z361 : Int) (σ362 : Nat → Value), (ref03_Lattices_j1 z328 z331) z361 = some y337 ∧ a = Fr 43 (upd (upd (upd σ362 3 (v329)) 4 (.int .i64 z331)) 5 (.int .u64 z361)) ∧ St w0 w I [ownS (tyInt .u64) v329 z328] R) ?_ ?_
 {
 refine wp_seq (wrl (wv (.int .i64 (0:Int)) z z z (wl_nil (tn (wp_block ?_)))))
 obtain ⟨n351, hm⟩ := loopO_some hm
 refine wp_loop_n (fun n a w => ∃ (z348 : Int) (z349 : Int) (σ350 : Nat → Value), loopN (ref03_Lattices_l2 z331) n (z348, z349) = some y364 ∧ a = Fr 43 (upd (upd (upd (upd σ350 3 (v329)) 4 (.int .i64 z331)) 5 (.int .u64 z348)) 6 (.int .i64 z349)) ∧ St w0 w I [ownS (tyInt .u64) v329 z328] R) n351 ⟨(0:Int), (0:Int), _, hm, (fu 3 v329 z (fu 4 (.int .i64 z331) z (fu 5 (.int .u64 (0:Int)) z (fu 6 (.int .i64 (0:Int)) z z)))), hst⟩ ?_
 rintro n357 _ w352 ⟨z348, z349, σ350, hm, rfl, hst⟩
 obtain ⟨n354, y355, rfl, hm, hx356⟩ := loopN_some hm
 dsimp only [ref03_Lattices_l2] at hm
 refine wp_seq (wp_seq (wrl (wv (.int .i64 z349) z z z (wv (.bool (decide (z349 < (8:Int)))) z z z (wl_nil (tn ?_))))))
 refine bsplit (decide (z349 < (8:Int))) (fun hc358 => ?_) (fun hc358 => ?_)
 {
 replace hm := bif_t hc358 hm
 refine wp_ift (cvb hc358) ?_
 refine wp_skip (tn (wp_seq (wp_block (wp_seq (wrl ?_)))))
 refine wv (.int .i64 z331) z z z (wv (.int .i64 z349) z z z (wv (.int .i64 (bAnd .i64 z331 z349)) z z z (wv (.int .i64 z331) z z z (wv (.bool ((bAnd .i64 z331 z349) == z331)) z z z (wl_nil (tn ?_))))))
 refine bsplit ((bAnd .i64 z331 z349) == z331) (fun hc359 => ?_) (fun hc359 => ?_)
 {
 replace hm := bif_t hc359 hm
 refine wp_ift (cvb hc359) ?_
 refine wrl (wv (.int .u64 z348) z z z (wv (.int .i64 z349) z z z ?_))
 obtain ⟨hg360, hm⟩ := gd_some hm
 refine wv (.int .u64 (iShl .u64 (1:Int) z349)) z z (x_shl (of_decide_eq_true hg360) z z) (wv (.int .u64 (bOr .u64 z348 (iShl .u64 (1:Int) z349))) z z z (wv (.int .u64 (bOr .u64 z348 (iShl .u64 (1:Int) z349))) z z z (wl_nil (blk_n (tn (wrl (wv (.int .i64 z349) z z z (wv (.int .i64 (i64.wrap (z349 + (1:Int)))) z z z (wv (.int .i64 (i64.wrap (z349 + (1:Int)))) z z z (wl_nil (tn ?_)))))))))))
 replace hst := hst.keep1
 obtain rfl := some_inj hm
 exact ⟨_, Nat.lt_succ_self _, (bOr .u64 z348 (iShl .u64 (1:Int) z349)), (i64.wrap (z349 + (1:Int))), _, hx356, (fu 3 v329 z (fu 4 (.int .i64 z331) z (fu 5 (.int .u64 (bOr .u64 z348 (iShl .u64 (1:Int) z349))) z (fu 6 (.int .i64 (i64.wrap (z349 + (1:Int)))) z z)))), hst⟩
}
 {
 replace hm := bif_f hc359 hm
 refine wp_iff (cvb hc359) ?_
 refine wp_skip (blk_n (tn (wrl ?_)))
 refine wv (.int .i64 z349) z z z (wv (.int .i64 (i64.wrap (z349 + (1:Int)))) z z z (wv (.int .i64 (i64.wrap (z349 + (1:Int)))) z z z (wl_nil (tn ?_))))
 replace hst := hst.keep1
 obtain rfl := some_inj hm
 exact ⟨_, Nat.lt_succ_self _, z348, (i64.wrap (z349 + (1:Int))), _, hx356, (fu 3 v329 z (fu 4 (.int .i64 z331) z (fu 5 (.int .u64 z348) z (fu 6 (.int .i64 (i64.wrap (z349 + (1:Int)))) z z)))), hst⟩
}
}
 {
 replace hm := bif_f hc358 hm
 refine wp_iff (cvb hc358) ?_
 refine wp_exit (then_x (then_x ?_))
 replace hm := inr_up hm hx356
 refine blk_x (tn ?_)
 replace hst := hst.keep1
 obtain rfl := some_inj hm
 exact ⟨z348, _, hx365, (fu 3 v329 z (fu 4 (.int .i64 z331) z (fu 5 (.int .u64 z348) z z))), hst⟩
}
}
 {
 clear hst
 rintro _ w366 ⟨z361, σ362, hm, rfl, hst⟩
 dsimp only [ref03_Lattices_j1] at hm
 refine wrl (wv (v329) z z z (wv (.int .u64 z361) z z z ?_))
 obtain ⟨b367, w368, ew369, eb370, hst⟩ := hst.lits (E := (tyInt .u64)) (xs := [z361]) [[U6 z361]] 43 1 z (Reps.cons z Reps.nil)
 refine wl_run (v := (.slice (some ⟨b367, 0, none⟩) 1 1)) (w' := w368) z z (x_als (by kernel_rfl) ew369 eb370) ?_
 obtain ⟨hg372, hm⟩ := gd_some hm
 replace hst := hst.pull1
 obtain ⟨v373, w374, hr375, hst⟩ := run_append elem_28 underlying28 hst hst.src1 (room_of hg372 z) 28
 refine wl_run (v := v373) (w' := w374) z z (x_append z z hr375) ?_
 refine wv (v373) z z z (wl_nil (blk_n (tn (wrl (wv (.int .i64 z331) z z z (wv (.int .i64 (i64.wrap (z331 + (1:Int)))) z z z (wv (.int .i64 (i64.wrap (z331 + (1:Int)))) z z z (wl_nil (tn ?_)))))))))
 replace hst := hst.keep1
 obtain rfl := some_inj hm
 exact ⟨_, Nat.lt_succ_self _, (z328 ++ ([z361])), (i64.wrap (z331 + (1:Int))), v373, _, hx338, (fu 3 v373 z (fu 4 (.int .i64 (i64.wrap (z331 + (1:Int)))) z z)), hst⟩
}
}
 {
 replace hm := bif_f hc340 hm
 refine wp_iff (cvb hc340) ?_
 refine wp_exit (then_x (then_x ?_))
 replace hm := inr_up hm hx338
 refine blk_x (tn (wp_seq (wrl ?_)))
 refine wv (v329) z z z (wv (v329) z z z (wl_nil (tn (wp_ret ?_))))
 obtain rfl := some_inj hm
 refine post_ret (vs := [v329]) results21 (rvs_cons (rv_tmp z) rvs_nil) ?_
 exact ⟨v329, z, hst.keep1⟩
}
}
}
}
}
}

theorem slices_Clone_uint64_uint64_ref {w0 w : World} {I : HL} {R : SP} {a0 : (List Int)} {r0_0 : Value} (f0_0 : Rd (tyInt .u64) R I r0_0 a0) (hst : St w0 w I [] R) {r : (List Int)} (hm : slices_Clone_uint64_uint64 a0 = some r) :
  Calls prog 25 #[r0_0] w fun e w' => ∃ (q0_0 : Value), e = .returned (q0_0) ∧ St w0 w' I [ownS (tyInt .u64) q0_0 r] R := by {
 unfold slices_Clone_uint64_uint64 at hm
 obtain ⟨hg, hm⟩ := gd_some hm
 obtain rfl := some_inj hm
 have hsv := rd_sliceV f0_0
 refine calls_start (args := [r0_0]) func25 z ntmps25 (Nat.le_of_ble_eq_true z) ?_
 refine wp_seq (wrl (wv ((.slice none 0 0)) z z z (wl_nil (tn (wp_seq (wp_seq (wrl (wv (r0_0) z z z (wv (.bool (isNil r0_0)) z z (x_slnil z hsv z underlying28) (wl_nil (tn ?_)))))))))))
 refine bsplit (isNil r0_0) (fun hc11 => ?_) (fun hc11 => ?_)
 {
 refine wp_ift (cvb hc11) ?_
 refine wp_seq (wrl (wv ((.slice none 0 0)) z z z (wl_nil (tn (wp_ret (then_r ?_))))))
 refine post_ret (vs := [Zs]) results25 (rvs_cons (rv_tmp z) rvs_nil) ?_
 obtain rfl := List.eq_nil_of_length_eq_zero (isNil_len hsv hc11)
 exact ⟨_, z, (hst.own_nil (tyInt .u64)).keep1⟩
}
 {
 refine wp_iff (cvb hc11) ?_
 refine wp_skip (tn (wp_seq (wrl ?_)))
 obtain ⟨b, w1, ew, eb, hst⟩ := hst.lits (E := (tyInt .u64)) (xs := []) [] 43 0 z Reps.nil
 refine wl_run (v := (.slice (some ⟨b, 0, none⟩) 0 0)) (w' := w1) z z (x_als (by kernel_rfl) ew eb) ?_
 refine wv (r0_0) z z z ?_
 obtain ⟨v2, w2, hr, hst⟩ := run_append elem_28 underlying28 hst (Src.of_rd hst f0_0 flat_int) (room_of hg z) 28
 refine wl_run (v := v2) (w' := w2) z z (x_append z z hr) ?_
 refine wv (v2) z z z (wl_nil (tn (wp_ret ?_)))
 refine post_ret (vs := [v2]) results25 (rvs_cons (rv_tmp z) rvs_nil) ?_
 rw [List.nil_append] at hst
 exact ⟨_, z, hst.keep1⟩
}
}

theorem label_Lattice_orders_ref {w0 w : World} {I : HL} {R : SP} {a0 : (Option label_Lattice)} {p0 : Value}  (hst : St w0 w I [objO at_label_Lattice p0 a0] R) {r : (Bool)} (hm : label_Lattice_orders a0 = some r) :
  Calls prog 26 #[p0] w fun e w' => e = .returned (.bool r) ∧ St w0 w' I [objO at_label_Lattice p0 a0] R := by {
 rcases a0 with _ | o0
 {
 obtain ⟨rfl, hst'⟩ := objO_none hst
 clear hst
 have hst := hst'
 clear hst'
 dsimp only [label_Lattice_orders] at hm
 refine calls_start (args := [.pointer none]) func26 z ntmps26 (Nat.le_of_ble_eq_true z) ?_
 refine wp_seq (wrl (wv (.bool false) z z z (wl_nil (tn (wp_seq (wrl (wv (.pointer none) z z z ?_)))))))
 cases hm
}
 {
 replace hst := objO_get hst
 dsimp only [label_Lattice_orders] at hm
 refine calls_start (args := [p0]) func26 z ntmps26 (Nat.le_of_ble_eq_true z) ?_
 refine wp_seq (wrl (wv (.bool false) z z z (wl_nil (tn (wp_seq (wrl (wv (p0) z z z ?_)))))))
 obtain ⟨b876, v877, v879, v881, v883, v885, v887, rfl, hst'⟩ := at_label_Lattice_open hst
 clear hst
 have hst := hst'
 clear hst'
 refine wv (Pt b876 0) z z z (wv (Pt b876 0) z z (x_field z underlying49 z sizeOf28 z) (wv (v877) z z (x_load z isAgg28 (hst.bc0 z)) (wv (.int .i64 ((o0.up).length : Int)) z z (x_len z underlying28 hst.sv1) (wv (.int .i64 ((o0.up).length : Int)) z z z (wl_nil (tn (wp_seq (wp_seq (wrl (wv (Pt b876 0) z z z (wv (Pt b876 0) z z z (wv (Pt b876 0) z z (x_field z underlying49 z sizeOf28 z) (wv (v877) z z (x_load z isAgg28 (hst.bc0 z)) (wv (.int .i64 ((o0.up).length : Int)) z z (x_len z underlying28 hst.sv1) (wv (.int .i64 (0:Int)) z z z (wl_nil (tn (wp_block ?_))))))))))))))))))
 obtain ⟨n991, hm⟩ := loopO_some hm
 refine wp_loop_n (fun n a w => ∃ (z989 : Int) (σ990 : Nat → Value), loopN (label_Lattice_orders_l0 o0) n z989 = some r ∧ a = Fr 74 (upd (upd (upd (upd (upd σ990 0 (Pt b876 0)) 3 (.int .i64 ((o0.up).length : Int))) 15 (v877)) 16 (.int .i64 ((o0.up).length : Int))) 17 (.int .i64 z989)) ∧ St w0 w I [cells b876 [v877, v879, v881, v883, v885, v887], ownS (tyInt .u64) v877 o0.up, ownS (tyInt .u64) v879 o0.down, ownS (tySl (tyInt .i64)) v881 o0.join, ownS (tySl (tyInt .i64)) v883 o0.meet, ownS (tyInt .i64) v885 o0.rank, ownS (tyInt .i64) v887 o0.all] R) n991 ⟨(0:Int), _, hm, (fu 0 (Pt b876 0) z (fu 3 (.int .i64 ((o0.up).length : Int)) z (fu 15 v877 z (fu 16 (.int .i64 ((o0.up).length : Int)) z (fu 17 (.int .i64 (0:Int)) z z))))), hst⟩ ?_
 rintro n997 _ w992 ⟨z989, σ990, hm, rfl, hst⟩
 obtain ⟨n994, y995, rfl, hm, hx996⟩ := loopN_some hm
 dsimp only [label_Lattice_orders_l0] at hm
 refine wp_seq (wrl (wv (.bool (decide (z989 < ((o0.up).length : Int)))) z z z (wl_nil (tn (wp_seq ?_)))))
 refine bsplit (decide (z989 < ((o0.up).length : Int))) (fun hc998 => ?_) (fun hc998 => ?_)
 {
 replace hm := bif_t hc998 hm
 refine wp_ift (cvb hc998) ?_
 refine wp_skip (tn (wp_seq (wp_block (wp_seq (wrl ?_)))))
 refine wv (.int .i64 z989) z z z ?_
 obtain ⟨x999, hx1000, hm⟩ := bind_some hm
 obtain ⟨h1001, h1002, hi1003⟩ := geto_some hx1000
 refine wv (.pointer (some (eAddr v877 (z989.toNat * 1 + 0)))) z z (x_index z z underlying28 sizeOf43 hst.sv1 h1001 h1002) (wv (.int .u64 x999) z z (x_load z isAgg43 (hst.ol1 hi1003 (by rintro _ rfl; rfl))) (wv (.int .i64 z989) z z z (wv (.int .u64 x999) z z z (wl_nil (tn (wp_seq (wp_seq (wrl (wv (.int .u64 x999) z z z (wv (.int .i64 ((o0.up).length : Int)) z z z ?_))))))))))
 obtain ⟨hg1004, hm⟩ := gd_some hm
 refine wv (.int .u64 (iShr .u64 x999 ((o0.up).length : Int))) z z (x_shr (of_decide_eq_true hg1004) z z) (wv (.bool ((iShr .u64 x999 ((o0.up).length : Int)) != (0:Int))) z z z (wv (.bool ((iShr .u64 x999 ((o0.up).length : Int)) != (0:Int))) z z z ?_))
 refine bsplit ((iShr .u64 x999 ((o0.up).length : Int)) != (0:Int)) (fun hc1005 => ?_) (fun hc1005 => ?_)
 {
 replace hm := bif_t hc1005 hm
 refine wo hc1005 z z z z z z (wo hc1005 z z z z z z (wo hc1005 z z z z z z (wo hc1005 z z z z z z (wo hc1005 z z z z z z (wv (.bool true) z z (x_pick_t hc1005 z z) (wl_nil (tn ?_)))))))
 refine wp_ift z ?_
 refine wp_seq (wrl (wv (.bool false) z z z (wl_nil (tn (wp_ret (then_r (blk_r (then_r (then_r ?_)))))))))
 replace hm := inr_up hm hx996
 refine blk_r (then_r ?_)
 replace hst := hst.pull6.pull6.pull6.pull6.pull6.pull6.pull6
 replace hst := at_label_Lattice_close (pv := Pt b876 0) (x := o0) hst z
 replace hst := objO_some hst
 obtain rfl := some_inj hm
 refine post_ret (vs := [.bool false]) results26 (rvs_cons (rv_tmp z) rvs_nil) ?_
 exact ⟨z, hst.keep1⟩
}
 {
 replace hm := bif_f hc1005 hm
 refine wv (.int .u64 x999) ((wanted_eq z z z (cvb hc1005)).trans z) z z (wv (.int .i64 z989) ((wanted_eq z z z (cvb hc1005)).trans z) z z ?_)
 obtain ⟨hg1006, hm⟩ := gd_some hm
 refine wv (.int .u64 (iShr .u64 x999 z989)) ((wanted_eq z z z (cvb hc1005)).trans z) z (x_shr (of_decide_eq_true hg1006) z z) (wv (.int .u64 (bAnd .u64 (iShr .u64 x999 z989) (1:Int))) ((wanted_eq z z z (cvb hc1005)).trans z) z z (wv (.bool ((bAnd .u64 (iShr .u64 x999 z989) (1:Int)) == (0:Int))) ((wanted_eq z z z (cvb hc1005)).trans z) z z (wv (.bool ((bAnd .u64 (iShr .u64 x999 z989) (1:Int)) == (0:Int))) z z (x_pick_f hc1005 z z) (wl_nil (tn ?_)))))
 refine bsplit ((bAnd .u64 (iShr .u64 x999 z989) (1:Int)) == (0:Int)) (fun hc1007 => ?_) (fun hc1007 => ?_)
 {
 replace hm := bif_t hc1007 hm
 refine wp_ift (cvb hc1007) ?_
 refine wp_seq (wrl (wv (.bool false) z z z (wl_nil (tn (wp_ret (then_r (blk_r (then_r (then_r ?_)))))))))
 replace hm := inr_up hm hx996
 refine blk_r (then_r ?_)
 replace hst := hst.pull6.pull6.pull6.pull6.pull6.pull6.pull6
 replace hst := at_label_Lattice_close (pv := Pt b876 0) (x := o0) hst z
 replace hst := objO_some hst
 obtain rfl := some_inj hm
 refine post_ret (vs := [.bool false]) results26 (rvs_cons (rv_tmp z) rvs_nil) ?_
 exact ⟨z, hst.keep1⟩
}
 {
 replace hm := bif_f hc1007 hm
 refine wp_iff (cvb hc1007) ?_
 refine wp_skip (tn (wp_seq (wrl ?_)))
 refine wv (.int .i64 ((o0.up).length : Int)) z z z (wv (.int .i64 (0:Int)) z z z (wl_nil (tn (wp_block ?_))))
 obtain ⟨n1034, hm⟩ := loopO_some hm
 refine wp_loop_n (fun n a w => ∃ (z1032 : Int) (σ1033 : Nat → Value), loopN (label_Lattice_orders_l1 o0 x999 z989) n z1032 = some y995 ∧ a = Fr 74 (upd (upd (upd (upd (upd (upd (upd (upd (upd σ1033 0 (Pt b876 0)) 3 (.int .i64 ((o0.up).length : Int))) 4 (.int .i64 z989)) 5 (.int .u64 x999)) 15 (v877)) 16 (.int .i64 ((o0.up).length : Int))) 17 (.int .i64 z989)) 33 (.int .i64 ((o0.up).length : Int))) 34 (.int .i64 z1032)) ∧ St w0 w I [cells b876 [v877, v879, v881, v883, v885, v887], ownS (tyInt .u64) v877 o0.up, ownS (tyInt .u64) v879 o0.down, ownS (tySl (tyInt .i64)) v881 o0.join, ownS (tySl (tyInt .i64)) v883 o0.meet, ownS (tyInt .i64) v885 o0.rank, ownS (tyInt .i64) v887 o0.all] R) n1034 ⟨(0:Int), _, hm, (fu 0 (Pt b876 0) z (fu 3 (.int .i64 ((o0.up).length : Int)) z (fu 4 (.int .i64 z989) z (fu 5 (.int .u64 x999) z (fu 15 v877 z (fu 16 (.int .i64 ((o0.up).length : Int)) z (fu 17 (.int .i64 z989) z (fu 33 (.int .i64 ((o0.up).length : Int)) z (fu 34 (.int .i64 (0:Int)) z z))))))))), hst⟩ ?_
 rintro n1040 _ w1035 ⟨z1032, σ1033, hm, rfl, hst⟩
 obtain ⟨n1037, y1038, rfl, hm, hx1039⟩ := loopN_some hm
 dsimp only [label_Lattice_orders_l1] at hm
 refine wp_seq (wrl (wv (.bool (decide (z1032 < ((o0.up).length : Int)))) z z z (wl_nil (tn (wp_seq ?_)))))
 refine bsplit (decide (z1032 < ((o0.up).length : Int))) (fun hc1041 => ?_) (fun hc1041 => ?_)
 {
 replace hm := bif_t hc1041 hm
 refine wp_ift (cvb hc1041) ?_
 refine wp_skip (tn (wp_seq (wp_block (wp_seq (wrl ?_)))))
 refine wv (.int .i64 z1032) z z z (wv (.int .i64 z1032) z z z (wl_nil (tn (wp_seq (wrl (wv (.int .u64 x999) z z z (wv (.int .i64 z1032) z z z ?_)))))))
 obtain ⟨hg1042, hm⟩ := gd_some hm
 refine wv (.int .u64 (iShr .u64 x999 z1032)) z z (x_shr (of_decide_eq_true hg1042) z z) (wv (.int .u64 (bAnd .u64 (iShr .u64 x999 z1032) (1:Int))) z z z (wv (.bool ((bAnd .u64 (iShr .u64 x999 z1032) (1:Int)) == (1:Int))) z z z (wv (.bool ((bAnd .u64 (iShr .u64 x999 z1032) (1:Int)) == (1:Int))) z z z ?_)))
 refine bsplit ((bAnd .u64 (iShr .u64 x999 z1032) (1:Int)) == (1:Int)) (fun hc1043 => ?_) (fun hc1043 => ?_)
 {
 replace hm := bif_t hc1043 hm
 refine wv (Pt b876 0) ((wanted_eq z z z (cvb hc1043)).trans z) z z (wv (Pt b876 0) ((wanted_eq z z z (cvb hc1043)).trans z) z z (wv (Pt b876 0) ((wanted_eq z z z (cvb hc1043)).trans z) z (x_field z underlying49 z sizeOf28 z) (wv (v877) ((wanted_eq z z z (cvb hc1043)).trans z) z (x_load z isAgg28 (hst.bc0 z)) (wv (.int .i64 z1032) ((wanted_eq z z z (cvb hc1043)).trans z) z z ?_))))
 obtain ⟨x1044, hx1045, hm⟩ := bind_some hm
 obtain ⟨h1046, h1047, hi1048⟩ := geto_some hx1045
 refine wv (.pointer (some (eAddr v877 (z1032.toNat * 1 + 0)))) ((wanted_eq z z z (cvb hc1043)).trans z) z (x_index z z underlying28 sizeOf43 hst.sv1 h1046 h1047) (wv (.int .u64 x1044) ((wanted_eq z z z (cvb hc1043)).trans z) z (x_load z isAgg43 (hst.ol1 hi1048 (by rintro _ rfl; rfl))) (wv (.int .u64 x999) ((wanted_eq z z z (cvb hc1043)).trans z) z z (wv (.int .u64 (bAndNot .u64 x1044 x999)) ((wanted_eq z z z (cvb hc1043)).trans z) z z (wv (.bool ((bAndNot .u64 x1044 x999) != (0:Int))) ((wanted_eq z z z (cvb hc1043)).trans z) z z (wv (.bool ((bAndNot .u64 x1044 x999) != (0:Int))) ((wanted_eq z z z (cvb hc1043)).trans z) z z ?_)))))
 refine bsplit ((bAndNot .u64 x1044 x999) != (0:Int)) (fun hc1049 => ?_) (fun hc1049 => ?_)
 {
 replace hm := bif_t hc1049 hm
 refine wo hc1049 z z z z z z (wo hc1049 z z z z z z (wo hc1049 z z z z z z (wo hc1049 z z z z z z (wl_off (wanted_undef z z z z) z (wl_off (wanted_undef z z z z) z (wl_off (wanted_undef z z z z) z (wl_off (wanted_undef z z z z) z (wl_off (wanted_undef z z z z) z (wl_off (wanted_undef z z z z) z (wl_off (wanted_undef z z z z) z (wl_off (wanted_undef z z z z) z (wl_off (wanted_undef z z z z) z ?_))))))))))))
 refine wl_off (wanted_undef z z z z) z (wl_off (wanted_undef z z z z) z (wo hc1049 z z z z z z (wv (.bool true) ((wanted_eq z z z (cvb hc1043)).trans z) z (x_pick_t hc1049 z z) (wv (.bool true) z z (x_pick_t hc1043 z z) (wl_nil (tn ?_))))))
 refine wp_ift z ?_
 refine wp_seq (wrl (wv (.bool false) z z z (wl_nil (tn (wp_ret (blk_r (then_r (then_r ?_))))))))
 replace hm := inr_up hm hx1039
 refine blk_r (blk_r (then_r (then_r ?_)))
 replace hm := inr_up hm hx996
 refine blk_r (then_r ?_)
 replace hst := hst.pull6.pull6.pull6.pull6.pull6.pull6.pull6
 replace hst := at_label_Lattice_close (pv := Pt b876 0) (x := o0) hst z
 replace hst := objO_some hst
 obtain rfl := some_inj hm
 refine post_ret (vs := [.bool false]) results26 (rvs_cons (rv_tmp z) rvs_nil) ?_
 exact ⟨z, hst.keep1⟩
}
 {
 replace hm := bif_f hc1049 hm
 refine wv (.int .i64 z989) ((wanted_eq z z z (cvb hc1049)).trans z) z z (wv (.int .i64 z1032) ((wanted_eq z z z (cvb hc1049)).trans z) z z (wv (.bool (z989 != z1032)) ((wanted_eq z z z (cvb hc1049)).trans z) z z (wv (.bool (z989 != z1032)) ((wanted_eq z z z (cvb hc1049)).trans z) z z ?_)))
 refine bsplit (z989 != z1032) (fun hc1050 => ?_) (fun hc1050 => ?_)
 {
 replace hm := bif_t hc1050 hm
 refine wv (Pt b876 0) ((wanted_eq z z z (cvb hc1050)).trans z) z z (wv (Pt b876 0) ((wanted_eq z z z (cvb hc1050)).trans z) z z (wv (Pt b876 0) ((wanted_eq z z z (cvb hc1050)).trans z) z (x_field z underlying49 z sizeOf28 z) (wv (v877) ((wanted_eq z z z (cvb hc1050)).trans z) z (x_load z isAgg28 (hst.bc0 z)) (wv (.int .i64 z1032) ((wanted_eq z z z (cvb hc1050)).trans z) z z (wv (.pointer (some (eAddr v877 (z1032.toNat * 1 + 0)))) ((wanted_eq z z z (cvb hc1050)).trans z) z (x_index z z underlying28 sizeOf43 hst.sv1 h1046 h1047) (wv (.int .u64 x1044) ((wanted_eq z z z (cvb hc1050)).trans z) z (x_load z isAgg43 (hst.ol1 hi1048 (by rintro _ rfl; rfl))) (wv (.int .i64 z989) ((wanted_eq z z z (cvb hc1050)).trans z) z z ?_)))))))
 obtain ⟨hg1051, hm⟩ := gd_some hm
 refine wv (.int .u64 (iShr .u64 x1044 z989)) ((wanted_eq z z z (cvb hc1050)).trans z) z (x_shr (of_decide_eq_true hg1051) z z) (wv (.int .u64 (bAnd .u64 (iShr .u64 x1044 z989) (1:Int))) ((wanted_eq z z z (cvb hc1050)).trans z) z z (wv (.bool ((bAnd .u64 (iShr .u64 x1044 z989) (1:Int)) == (1:Int))) ((wanted_eq z z z (cvb hc1050)).trans z) z z (wv (.bool ((bAnd .u64 (iShr .u64 x1044 z989) (1:Int)) == (1:Int))) ((wanted_eq z z z (cvb hc1049)).trans z) z (x_pick_t hc1050 z z) (wv (.bool ((bAnd .u64 (iShr .u64 x1044 z989) (1:Int)) == (1:Int))) ((wanted_eq z z z (cvb hc1043)).trans z) z (x_pick_f hc1049 z z) (wv (.bool ((bAnd .u64 (iShr .u64 x1044 z989) (1:Int)) == (1:Int))) z z (x_pick_t hc1043 z z) (wl_nil (tn ?_)))))))
 refine bsplit ((bAnd .u64 (iShr .u64 x1044 z989) (1:Int)) == (1:Int)) (fun hc1052 => ?_) (fun hc1052 => ?_)
 {
 replace hm := bif_t hc1052 hm
 refine wp_ift (cvb hc1052) ?_
 refine wp_seq (wrl (wv (.bool false) z z z (wl_nil (tn (wp_ret (blk_r (then_r (then_r ?_))))))))
 replace hm := inr_up hm hx1039
 refine blk_r (blk_r (then_r (then_r ?_)))
 replace hm := inr_up hm hx996
 refine blk_r (then_r ?_)
 replace hst := hst.pull6.pull6.pull6.pull6.pull6.pull6.pull6
 replace hst := at_label_Lattice_close (pv := Pt b876 0) (x := o0) hst z
 replace hst := objO_some hst
 obtain rfl := some_inj hm
 refine post_ret (vs := [.bool false]) results26 (rvs_cons (rv_tmp z) rvs_nil) ?_
 exact ⟨z, hst.keep1⟩
}
 {
 replace hm := bif_f hc1052 hm
 refine wp_iff (cvb hc1052) ?_
 refine wp_skip (blk_n (tn (wrl ?_)))
 refine wv (.int .i64 (i64.wrap (z1032 + (1:Int)))) z z z (wv (.int .i64 (i64.wrap (z1032 + (1:Int)))) z z z (wl_nil (tn ?_)))
 replace hst := hst.pull6.pull6.pull6.pull6.pull6.pull6.pull6.keep7
 obtain rfl := some_inj hm
 exact ⟨_, Nat.lt_succ_self _, (i64.wrap (z1032 + (1:Int))), _, hx1039, (fu 0 (Pt b876 0) z (fu 3 (.int .i64 ((o0.up).length : Int)) z (fu 4 (.int .i64 z989) z (fu 5 (.int .u64 x999) z (fu 15 v877 z (fu 16 (.int .i64 ((o0.up).length : Int)) z (fu 17 (.int .i64 z989) z (fu 33 (.int .i64 ((o0.up).length : Int)) z (fu 34 (.int .i64 (i64.wrap (z1032 + (1:Int)))) z z))))))))), hst⟩
}
}
 {
 replace hm := bif_f hc1050 hm
 refine wo hc1050 z z z z z z (wo hc1050 z z z z z z (wo hc1050 z z z z z z (wo hc1050 z z z z z z (wo hc1050 z z z z z z (wo hc1050 z z z z z z (wo hc1050 z z z z z z (wo hc1050 z z z z z z (wo hc1050 z z z z z z (wo hc1050 z z z z z z (wo hc1050 z z z z z z (wv (.bool false) ((wanted_eq z z z (cvb hc1049)).trans z) z (x_pick_f hc1050 z z) (wv (.bool false) ((wanted_eq z z z (cvb hc1043)).trans z) z (x_pick_f hc1049 z z) ?_))))))))))))
 refine wv (.bool false) z z (x_pick_t hc1043 z z) (wl_nil (tn ?_))
 refine wp_iff z ?_
 refine wp_skip (blk_n (tn (wrl ?_)))
 refine wv (.int .i64 (i64.wrap (z1032 + (1:Int)))) z z z (wv (.int .i64 (i64.wrap (z1032 + (1:Int)))) z z z (wl_nil (tn ?_)))
 replace hst := hst.pull6.pull6.pull6.pull6.pull6.pull6.pull6.keep7
 obtain rfl := some_inj hm
 exact ⟨_, Nat.lt_succ_self _, (i64.wrap (z1032 + (1:Int))), _, hx1039, (fu 0 (Pt b876 0) z (fu 3 (.int .i64 ((o0.up).length : Int)) z (fu 4 (.int .i64 z989) z (fu 5 (.int .u64 x999) z (fu 15 v877 z (fu 16 (.int .i64 ((o0.up).length : Int)) z (fu 17 (.int .i64 z989) z (fu 33 (.int .i64 ((o0.up).length : Int)) z (fu 34 (.int .i64 (i64.wrap (z1032 + (1:Int)))) z z))))))))), hst⟩
}
}
}
 {
 replace hm := bif_f hc1043 hm
 refine wo hc1043 z z z z z z (wo hc1043 z z z z z z (wo hc1043 z z z z z z (wo hc1043 z z z z z z (wo hc1043 z z z z z z (wo hc1043 z z z z z z (wo hc1043 z z z z z z (wo hc1043 z z z z z z (wo hc1043 z z z z z z (wo hc1043 z z z z z z (wo hc1043 z z z z z z (wl_off (wanted_undef z z z z) z (wl_off (wanted_undef z z z z) z ?_))))))))))))
 refine wl_off (wanted_undef z z z z) z (wl_off (wanted_undef z z z z) z (wl_off (wanted_undef z z z z) z (wl_off (wanted_undef z z z z) z (wl_off (wanted_undef z z z z) z (wl_off (wanted_undef z z z z) z (wl_off (wanted_undef z z z z) z (wl_off (wanted_undef z z z z) z (wl_off (wanted_undef z z z z) z (wl_off (wanted_undef z z z z) z (wl_off (wanted_undef z z z z) z (wl_off (wanted_undef z z z z) z (wl_off (wanted_undef z z z z) z ?_))))))))))))
 refine wl_off (wanted_undef z z z z) z (wo hc1043 z z z z z z (wv (.bool false) z z (x_pick_f hc1043 z z) (wl_nil (tn ?_))))
 refine wp_iff z ?_
 refine wp_skip (blk_n (tn (wrl ?_)))
 refine wv (.int .i64 (i64.wrap (z1032 + (1:Int)))) z z z (wv (.int .i64 (i64.wrap (z1032 + (1:Int)))) z z z (wl_nil (tn ?_)))
 replace hst := hst.pull6.pull6.pull6.pull6.pull6.pull6.pull6.keep7
 obtain rfl := some_inj hm
 exact ⟨_, Nat.lt_succ_self _, (i64.wrap (z1032 + (1:Int))), _, hx1039, (fu 0 (Pt b876 0) z (fu 3 (.int .i64 ((o0.up).length : Int)) z (fu 4 (.int .i64 z989) z (fu 5 (.int .u64 x999) z (fu 15 v877 z (fu 16 (.int .i64 ((o0.up).length : Int)) z (fu 17 (.int .i64 z989) z (fu 33 (.int .i64 ((o0.up).length : Int)) z (fu 34 (.int .i64 (i64.wrap (z1032 + (1:Int)))) z z))))))))), hst⟩
}
}
 {
 replace hm := bif_f hc1041 hm
 refine wp_iff (cvb hc1041) ?_
 refine wp_exit (then_x (then_x ?_))
 replace hm := inr_up hm hx1039
 refine blk_x (blk_n (tn (wrl ?_)))
 refine wv (.int .i64 (i64.wrap (z989 + (1:Int)))) z z z (wv (.int .i64 (i64.wrap (z989 + (1:Int)))) z z z (wl_nil (tn ?_)))
 replace hst := hst.pull6.pull6.pull6.pull6.pull6.pull6.pull6.keep7
 obtain rfl := some_inj hm
 exact ⟨_, Nat.lt_succ_self _, (i64.wrap (z989 + (1:Int))), _, hx996, (fu 0 (Pt b876 0) z (fu 3 (.int .i64 ((o0.up).length : Int)) z (fu 15 v877 z (fu 16 (.int .i64 ((o0.up).length : Int)) z (fu 17 (.int .i64 (i64.wrap (z989 + (1:Int)))) z z))))), hst⟩
}
}
}
}
 {
 replace hm := bif_f hc998 hm
 refine wp_iff (cvb hc998) ?_
 refine wp_exit (then_x (then_x ?_))
 replace hm := inr_up hm hx996
 refine blk_x (tn (wp_seq (wrl ?_)))
 refine wv (.bool true) z z z (wl_nil (tn (wp_ret ?_)))
 replace hst := hst.pull6.pull6.pull6.pull6.pull6.pull6.pull6
 replace hst := at_label_Lattice_close (pv := Pt b876 0) (x := o0) hst z
 replace hst := objO_some hst
 obtain rfl := some_inj hm
 refine post_ret (vs := [.bool true]) results26 (rvs_cons (rv_tmp z) rvs_nil) ?_
 exact ⟨z, hst.keep1⟩
}
}
}

theorem label_least_ref {w0 w : World} {I : HL} {R : SP} {a0 : Int} {a1 : (List Int)} {r1_0 : Value} (f1_0 : Rd (tyInt .u64) R I r1_0 a1) (hst : St w0 w I [] R) {r : (Int × Bool)} (hm : label_least a0 a1 = some r) :
  Calls prog 27 #[U6 a0, r1_0] w fun e w' => e = .returned (.tuple #[I6 r.1, .bool r.2]) ∧ St w0 w' I [] R := by {
 unfold label_least at hm
 refine calls_start (args := [U6 a0, r1_0]) func27 z ntmps27 (Nat.le_of_ble_eq_true z) ?_
 refine wp_seq (wrl (wv (.int .i64 (0:Int)) z z z (wv (.bool false) z z z (wl_nil (tn (wp_seq (wp_seq (wrl (wv (r1_0) z z z (wv (.int .i64 ((a1).length : Int)) z z (x_len z underlying28 (rd_sliceV f1_0)) (wv (.int .i64 (0:Int)) z z z (wl_nil (tn (wp_block ?_))))))))))))))
 obtain ⟨n1063, hm⟩ := loopO_some hm
 refine wp_loop_n (fun n a w => ∃ (z1061 : Int) (σ1062 : Nat → Value), loopN (label_least_l0 a1 a0) n z1061 = some r ∧ a = Fr 28 (upd (upd (upd (upd σ1062 0 (.int .u64 a0)) 1 (r1_0)) 8 (.int .i64 ((a1).length : Int))) 9 (.int .i64 z1061)) ∧ St w0 w I [] R) n1063 ⟨(0:Int), _, hm, (fu 0 (.int .u64 a0) z (fu 1 r1_0 z (fu 8 (.int .i64 ((a1).length : Int)) z (fu 9 (.int .i64 (0:Int)) z z)))), hst⟩ ?_
 rintro n1069 _ w1064 ⟨z1061, σ1062, hm, rfl, hst⟩
 obtain ⟨n1066, y1067, rfl, hm, hx1068⟩ := loopN_some hm
 dsimp only [label_least_l0] at hm
 refine wp_seq (wrl (wv (.bool (decide (z1061 < ((a1).length : Int)))) z z z (wl_nil (tn (wp_seq ?_)))))
 refine bsplit (decide (z1061 < ((a1).length : Int))) (fun hc1070 => ?_) (fun hc1070 => ?_)
 {
 replace hm := bif_t hc1070 hm
 refine wp_ift (cvb hc1070) ?_
 refine wp_skip (tn (wp_seq (wp_block (wp_seq (wrl ?_)))))
 refine wv (.int .i64 z1061) z z z (wv (.int .i64 z1061) z z z (wl_nil (tn (wp_seq (wrl (wv (.int .u64 a0) z z z (wv (.int .i64 z1061) z z z ?_)))))))
 obtain ⟨hg1071, hm⟩ := gd_some hm
 refine wv (.int .u64 (iShr .u64 a0 z1061)) z z (x_shr (of_decide_eq_true hg1071) z z) (wv (.int .u64 (bAnd .u64 (iShr .u64 a0 z1061) (1:Int))) z z z (wv (.bool ((bAnd .u64 (iShr .u64 a0 z1061) (1:Int)) == (1:Int))) z z z (wv (.bool ((bAnd .u64 (iShr .u64 a0 z1061) (1:Int)) == (1:Int))) z z z ?_)))
 refine bsplit ((bAnd .u64 (iShr .u64 a0 z1061) (1:Int)) == (1:Int)) (fun hc1072 => ?_) (fun hc1072 => ?_)
 {
 replace hm := bif_t hc1072 hm
 refine wv (.int .u64 a0) ((wanted_eq z z z (cvb hc1072)).trans z) z z (wv (r1_0) ((wanted_eq z z z (cvb hc1072)).trans z) z z (wv (.int .i64 z1061) ((wanted_eq z z z (cvb hc1072)).trans z) z z ?_))
 obtain ⟨x1073, hx1074, hm⟩ := bind_some hm
 obtain ⟨h1075, h1076, hi1077⟩ := geto_some hx1074
 refine wv (.pointer (some (eAddr r1_0 (z1061.toNat * 1 + 0)))) ((wanted_eq z z z (cvb hc1072)).trans z) z (x_index z z underlying28 sizeOf43 (rd_sliceV f1_0) h1075 h1076) (wv (.int .u64 x1073) ((wanted_eq z z z (cvb hc1072)).trans z) z (x_load z isAgg43 (rd_load f1_0 (HL.le.refl _) hst hi1077 (by rintro _ rfl; rfl))) (wv (.int .u64 (bAndNot .u64 a0 x1073)) ((wanted_eq z z z (cvb hc1072)).trans z) z z (wv (.bool ((bAndNot .u64 a0 x1073) == (0:Int))) ((wanted_eq z z z (cvb hc1072)).trans z) z z (wv (.bool ((bAndNot .u64 a0 x1073) == (0:Int))) z z (x_pick_t hc1072 z z) (wl_nil (tn ?_))))))
 refine bsplit ((bAndNot .u64 a0 x1073) == (0:Int)) (fun hc1078 => ?_) (fun hc1078 => ?_)
 {
 replace hm := bif_t hc1078 hm
 refine wp_ift (cvb hc1078) ?_
 refine wp_seq (wrl (wv (.int .i64 z1061) z z z (wv (.int .i64 z1061) z z z (wv (.bool true) z z z (wl_nil (tn (wp_ret (blk_r (then_r (then_r ?_))))))))))
 replace hm := inr_up hm hx1068
 refine blk_r (then_r ?_)
 obtain rfl := some_inj hm
 refine post_ret (vs := [I6 z1061, .bool true]) results27 (rvs_cons (rv_tmp z) (rvs_cons (rv_tmp z) rvs_nil)) ?_
 exact ⟨z, hst.keep0⟩
}
 {
 replace hm := bif_f hc1078 hm
 refine wp_iff (cvb hc1078) ?_
 refine wp_skip (blk_n (tn (wrl ?_)))
 refine wv (.int .i64 (i64.wrap (z1061 + (1:Int)))) z z z (wv (.int .i64 (i64.wrap (z1061 + (1:Int)))) z z z (wl_nil (tn ?_)))
 replace hst := hst.keep0
 obtain rfl := some_inj hm
 exact ⟨_, Nat.lt_succ_self _, (i64.wrap (z1061 + (1:Int))), _, hx1068, (fu 0 (.int .u64 a0) z (fu 1 r1_0 z (fu 8 (.int .i64 ((a1).length : Int)) z (fu 9 (.int .i64 (i64.wrap (z1061 + (1:Int)))) z z)))), hst⟩
}
}
 {
 replace hm := bif_f hc1072 hm
 refine wo hc1072 z z z z z z (wo hc1072 z z z z z z (wo hc1072 z z z z z z (wo hc1072 z z z z z z (wo hc1072 z z z z z z (wo hc1072 z z z z z z (wo hc1072 z z z z z z (wv (.bool false) z z (x_pick_f hc1072 z z) (wl_nil (tn ?_)))))))))
 refine wp_iff z ?_
 refine wp_skip (blk_n (tn (wrl ?_)))
 refine wv (.int .i64 (i64.wrap (z1061 + (1:Int)))) z z z (wv (.int .i64 (i64.wrap (z1061 + (1:Int)))) z z z (wl_nil (tn ?_)))
 replace hst := hst.keep0
 obtain rfl := some_inj hm
 exact ⟨_, Nat.lt_succ_self _, (i64.wrap (z1061 + (1:Int))), _, hx1068, (fu 0 (.int .u64 a0) z (fu 1 r1_0 z (fu 8 (.int .i64 ((a1).length : Int)) z (fu 9 (.int .i64 (i64.wrap (z1061 + (1:Int)))) z z)))), hst⟩
}
}
 {
 replace hm := bif_f hc1070 hm
 refine wp_iff (cvb hc1070) ?_
 refine wp_exit (then_x (then_x ?_))
 replace hm := inr_up hm hx1068
 refine blk_x (tn (wp_seq (wrl ?_)))
 refine wv (.int .i64 (0:Int)) z z z (wv (.bool false) z z z (wl_nil (tn (wp_ret ?_))))
 obtain rfl := some_inj hm
 refine post_ret (vs := [Zi, .bool false]) results27 (rvs_cons (rv_tmp z) (rvs_cons (rv_tmp z) rvs_nil)) ?_
 exact ⟨z, hst.keep0⟩
}
}

theorem math_bits_OnesCount64_ref {w0 w : World} {I : HL} {R : SP} {a0 : Int}  (hst : St w0 w I [] R) {r : (Int)} (hm : math_bits_OnesCount64 a0 = some r) :
  Calls prog 31 #[U6 a0] w fun e w' => e = .returned (.int .i64 r) ∧ St w0 w' I [] R := by {
 unfold math_bits_OnesCount64 at hm
 refine calls_start (args := [U6 a0]) func31 z ntmps31 (Nat.le_of_ble_eq_true z) ?_
 refine wp_seq (wrl (wv (.int .i64 (0:Int)) z z z (wl_nil (tn (wp_seq (wrl (wv (.int .u64 a0) z z z (wv (.int .u64 (iShr .u64 a0 (1:Int))) z z (x_shr (by decide) z z) (wv (.int .u64 (bAnd .u64 (iShr .u64 a0 (1:Int)) (6148914691236517205:Int))) z z z (wv (.int .u64 a0) z z z (wv (.int .u64 (bAnd .u64 a0 (6148914691236517205:Int))) z z z (wv (.int .u64 (u64.wrap ((bAnd .u64 (iShr .u64 a0 (1:Int)) (6148914691236517205:Int)) + (bAnd .u64 a0 (6148914691236517205:Int))))) z z z (wv (.int .u64 (u64.wrap ((bAnd .u64 (iShr .u64 a0 (1:Int)) (6148914691236517205:Int)) + (bAnd .u64 a0 (6148914691236517205:Int))))) z z z (wl_nil (tn (wp_seq (wrl (wv (.int .u64 (u64.wrap ((bAnd .u64 (iShr .u64 a0 (1:Int)) (6148914691236517205:Int)) + (bAnd .u64 a0 (6148914691236517205:Int))))) z z z (wv (.int .u64 (iShr .u64 (u64.wrap ((bAnd .u64 (iShr .u64 a0 (1:Int)) (6148914691236517205:Int)) + (bAnd .u64 a0 (6148914691236517205:Int)))) (2:Int))) z z (x_shr (by decide) z z) ?_)))))))))))))))))))
 refine wv (.int .u64 (bAnd .u64 (iShr .u64 (u64.wrap ((bAnd .u64 (iShr .u64 a0 (1:Int)) (6148914691236517205:Int)) + (bAnd .u64 a0 (6148914691236517205:Int)))) (2:Int)) (3689348814741910323:Int))) z z z (wv (.int .u64 (u64.wrap ((bAnd .u64 (iShr .u64 a0 (1:Int)) (6148914691236517205:Int)) + (bAnd .u64 a0 (6148914691236517205:Int))))) z z z (wv (.int .u64 (bAnd .u64 (u64.wrap ((bAnd .u64 (iShr .u64 a0 (1:Int)) (6148914691236517205:Int)) + (bAnd .u64 a0 (6148914691236517205:Int)))) (3689348814741910323:Int))) z z z (wv (.int .u64 (u64.wrap ((bAnd .u64 (iShr .u64 (u64.wrap ((bAnd .u64 (iShr .u64 a0 (1:Int)) (6148914691236517205:Int)) + (bAnd .u64 a0 (6148914691236517205:Int)))) (2:Int)) (3689348814741910323:Int)) + (bAnd .u64 (u64.wrap ((bAnd .u64 (iShr .u64 a0 (1:Int)) (6148914691236517205:Int)) + (bAnd .u64 a0 (6148914691236517205:Int)))) (3689348814741910323:Int))))) z z z (wv (.int .u64 (u64.wrap ((bAnd .u64 (iShr .u64 (u64.wrap ((bAnd .u64 (iShr .u64 a0 (1:Int)) (6148914691236517205:Int)) + (bAnd .u64 a0 (6148914691236517205:Int)))) (2:Int)) (3689348814741910323:Int)) + (bAnd .u64 (u64.wrap ((bAnd .u64 (iShr .u64 a0 (1:Int)) (6148914691236517205:Int)) + (bAnd .u64 a0 (6148914691236517205:Int)))) (3689348814741910323:Int))))) z z z (wl_nil (tn (wp_seq (wrl (wv (.int .u64 (u64.wrap ((bAnd .u64 (iShr .u64 (u64.wrap ((bAnd .u64 (iShr .u64 a0 (1:Int)) (6148914691236517205:Int)) + (bAnd .u64 a0 (6148914691236517205:Int)))) (2:Int)) (3689348814741910323:Int)) + (bAnd .u64 (u64.wrap ((bAnd .u64 (iShr .u64 a0 (1:Int)) (6148914691236517205:Int)) + (bAnd .u64 a0 (6148914691236517205:Int)))) (3689348814741910323:Int))))) z z z (wv (.int .u64 (iShr .u64 (u64.wrap ((bAnd .u64 (iShr .u64 (u64.wrap ((bAnd .u64 (iShr .u64 a0 (1:Int)) (6148914691236517205:Int)) + (bAnd .u64 a0 (6148914691236517205:Int)))) (2:Int)) (3689348814741910323:Int)) + (bAnd .u64 (u64.wrap ((bAnd .u64 (iShr .u64 a0 (1:Int)) (6148914691236517205:Int)) + (bAnd .u64 a0 (6148914691236517205:Int)))) (3689348814741910323:Int)))) (4:Int))) z z (x_shr (by decide) z z) (wv (.int .u64 (u64.wrap ((bAnd .u64 (iShr .u64 (u64.wrap ((bAnd .u64 (iShr .u64 a0 (1:Int)) (6148914691236517205:Int)) + (bAnd .u64 a0 (6148914691236517205:Int)))) (2:Int)) (3689348814741910323:Int)) + (bAnd .u64 (u64.wrap ((bAnd .u64 (iShr .u64 a0 (1:Int)) (6148914691236517205:Int)) + (bAnd .u64 a0 (6148914691236517205:Int)))) (3689348814741910323:Int))))) z z z (wv (.int .u64 (u64.wrap ((iShr .u64 (u64.wrap ((bAnd .u64 (iShr .u64 (u64.wrap ((bAnd .u64 (iShr .u64 a0 (1:Int)) (6148914691236517205:Int)) + (bAnd .u64 a0 (6148914691236517205:Int)))) (2:Int)) (3689348814741910323:Int)) + (bAnd .u64 (u64.wrap ((bAnd .u64 (iShr .u64 a0 (1:Int)) (6148914691236517205:Int)) + (bAnd .u64 a0 (6148914691236517205:Int)))) (3689348814741910323:Int)))) (4:Int)) + (u64.wrap ((bAnd .u64 (iShr .u64 (u64.wrap ((bAnd .u64 (iShr .u64 a0 (1:Int)) (6148914691236517205:Int)) + (bAnd .u64 a0 (6148914691236517205:Int)))) (2:Int)) (3689348814741910323:Int)) + (bAnd .u64 (u64.wrap ((bAnd .u64 (iShr .u64 a0 (1:Int)) (6148914691236517205:Int)) + (bAnd .u64 a0 (6148914691236517205:Int)))) (3689348814741910323:Int))))))) z z z (wv (.int .u64 (bAnd .u64 (u64.wrap ((iShr .u64 (u64.wrap ((bAnd .u64 (iShr .u64 (u64.wrap ((bAnd .u64 (iShr .u64 a0 (1:Int)) (6148914691236517205:Int)) + (bAnd .u64 a0 (6148914691236517205:Int)))) (2:Int)) (3689348814741910323:Int)) + (bAnd .u64 (u64.wrap ((bAnd .u64 (iShr .u64 a0 (1:Int)) (6148914691236517205:Int)) + (bAnd .u64 a0 (6148914691236517205:Int)))) (3689348814741910323:Int)))) (4:Int)) + (u64.wrap ((bAnd .u64 (iShr .u64 (u64.wrap ((bAnd .u64 (iShr .u64 a0 (1:Int)) (6148914691236517205:Int)) + (bAnd .u64 a0 (6148914691236517205:Int)))) (2:Int)) (3689348814741910323:Int)) + (bAnd .u64 (u64.wrap ((bAnd .u64 (iShr .u64 a0 (1:Int)) (6148914691236517205:Int)) + (bAnd .u64 a0 (6148914691236517205:Int)))) (3689348814741910323:Int)))))) (1085102592571150095:Int))) z z z (wv (.int .u64 (bAnd .u64 (u64.wrap ((iShr .u64 (u64.wrap ((bAnd .u64 (iShr .u64 (u64.wrap ((bAnd .u64 (iShr .u64 a0 (1:Int)) (6148914691236517205:Int)) + (bAnd .u64 a0 (6148914691236517205:Int)))) (2:Int)) (3689348814741910323:Int)) + (bAnd .u64 (u64.wrap ((bAnd .u64 (iShr .u64 a0 (1:Int)) (6148914691236517205:Int)) + (bAnd .u64 a0 (6148914691236517205:Int)))) (3689348814741910323:Int)))) (4:Int)) + (u64.wrap ((bAnd .u64 (iShr .u64 (u64.wrap ((bAnd .u64 (iShr .u64 a0 (1:Int)) (6148914691236517205:Int)) + (bAnd .u64 a0 (6148914691236517205:Int)))) (2:Int)) (3689348814741910323:Int)) + (bAnd .u64 (u64.wrap ((bAnd .u64 (iShr .u64 a0 (1:Int)) (6148914691236517205:Int)) + (bAnd .u64 a0 (6148914691236517205:Int)))) (3689348814741910323:Int)))))) (1085102592571150095:Int))) z z z (wl_nil (tn (wp_seq (wrl ?_))))))))))))))))))
 refine wv (.int .u64 (bAnd .u64 (u64.wrap ((iShr .u64 (u64.wrap ((bAnd .u64 (iShr .u64 (u64.wrap ((bAnd .u64 (iShr .u64 a0 (1:Int)) (6148914691236517205:Int)) + (bAnd .u64 a0 (6148914691236517205:Int)))) (2:Int)) (3689348814741910323:Int)) + (bAnd .u64 (u64.wrap ((bAnd .u64 (iShr .u64 a0 (1:Int)) (6148914691236517205:Int)) + (bAnd .u64 a0 (6148914691236517205:Int)))) (3689348814741910323:Int)))) (4:Int)) + (u64.wrap ((bAnd .u64 (iShr .u64 (u64.wrap ((bAnd .u64 (iShr .u64 a0 (1:Int)) (6148914691236517205:Int)) + (bAnd .u64 a0 (6148914691236517205:Int)))) (2:Int)) (3689348814741910323:Int)) + (bAnd .u64 (u64.wrap ((bAnd .u64 (iShr .u64 a0 (1:Int)) (6148914691236517205:Int)) + (bAnd .u64 a0 (6148914691236517205:Int)))) (3689348814741910323:Int)))))) (1085102592571150095:Int))) z z z (wv (.int .u64 (bAnd .u64 (u64.wrap ((iShr .u64 (u64.wrap ((bAnd .u64 (iShr .u64 (u64.wrap ((bAnd .u64 (iShr .u64 a0 (1:Int)) (6148914691236517205:Int)) + (bAnd .u64 a0 (6148914691236517205:Int)))) (2:Int)) (3689348814741910323:Int)) + (bAnd .u64 (u64.wrap ((bAnd .u64 (iShr .u64 a0 (1:Int)) (6148914691236517205:Int)) + (bAnd .u64 a0 (6148914691236517205:Int)))) (3689348814741910323:Int)))) (4:Int)) + (u64.wrap ((bAnd .u64 (iShr .u64 (u64.wrap ((bAnd .u64 (iShr .u64 a0 (1:Int)) (6148914691236517205:Int)) + (bAnd .u64 a0 (6148914691236517205:Int)))) (2:Int)) (3689348814741910323:Int)) + (bAnd .u64 (u64.wrap ((bAnd .u64 (iShr .u64 a0 (1:Int)) (6148914691236517205:Int)) + (bAnd .u64 a0 (6148914691236517205:Int)))) (3689348814741910323:Int)))))) (1085102592571150095:Int))) z z z (wv (.int .u64 (iShr .u64 (bAnd .u64 (u64.wrap ((iShr .u64 (u64.wrap ((bAnd .u64 (iShr .u64 (u64.wrap ((bAnd .u64 (iShr .u64 a0 (1:Int)) (6148914691236517205:Int)) + (bAnd .u64 a0 (6148914691236517205:Int)))) (2:Int)) (3689348814741910323:Int)) + (bAnd .u64 (u64.wrap ((bAnd .u64 (iShr .u64 a0 (1:Int)) (6148914691236517205:Int)) + (bAnd .u64 a0 (6148914691236517205:Int)))) (3689348814741910323:Int)))) (4:Int)) + (u64.wrap ((bAnd .u64 (iShr .u64 (u64.wrap ((bAnd .u64 (iShr .u64 a0 (1:Int)) (6148914691236517205:Int)) + (bAnd .u64 a0 (6148914691236517205:Int)))) (2:Int)) (3689348814741910323:Int)) + (bAnd .u64 (u64.wrap ((bAnd .u64 (iShr .u64 a0 (1:Int)) (6148914691236517205:Int)) + (bAnd .u64 a0 (6148914691236517205:Int)))) (3689348814741910323:Int)))))) (1085102592571150095:Int)) (8:Int))) z z (x_shr (by decide) z z) (wv (.int .u64 (u64.wrap ((bAnd .u64 (u64.wrap ((iShr .u64 (u64.wrap ((bAnd .u64 (iShr .u64 (u64.wrap ((bAnd .u64 (iShr .u64 a0 (1:Int)) (6148914691236517205:Int)) + (bAnd .u64 a0 (6148914691236517205:Int)))) (2:Int)) (3689348814741910323:Int)) + (bAnd .u64 (u64.wrap ((bAnd .u64 (iShr .u64 a0 (1:Int)) (6148914691236517205:Int)) + (bAnd .u64 a0 (6148914691236517205:Int)))) (3689348814741910323:Int)))) (4:Int)) + (u64.wrap ((bAnd .u64 (iShr .u64 (u64.wrap ((bAnd .u64 (iShr .u64 a0 (1:Int)) (6148914691236517205:Int)) + (bAnd .u64 a0 (6148914691236517205:Int)))) (2:Int)) (3689348814741910323:Int)) + (bAnd .u64 (u64.wrap ((bAnd .u64 (iShr .u64 a0 (1:Int)) (6148914691236517205:Int)) + (bAnd .u64 a0 (6148914691236517205:Int)))) (3689348814741910323:Int)))))) (1085102592571150095:Int)) + (iShr .u64 (bAnd .u64 (u64.wrap ((iShr .u64 (u64.wrap ((bAnd .u64 (iShr .u64 (u64.wrap ((bAnd .u64 (iShr .u64 a0 (1:Int)) (6148914691236517205:Int)) + (bAnd .u64 a0 (6148914691236517205:Int)))) (2:Int)) (3689348814741910323:Int)) + (bAnd .u64 (u64.wrap ((bAnd .u64 (iShr .u64 a0 (1:Int)) (6148914691236517205:Int)) + (bAnd .u64 a0 (6148914691236517205:Int)))) (3689348814741910323:Int)))) (4:Int)) + (u64.wrap ((bAnd .u64 (iShr .u64 (u64.wrap ((bAnd .u64 (iShr .u64 a0 (1:Int)) (6148914691236517205:Int)) + (bAnd .u64 a0 (6148914691236517205:Int)))) (2:Int)) (3689348814741910323:Int)) + (bAnd .u64 (u64.wrap ((bAnd .u64 (iShr .u64 a0 (1:Int)) (6148914691236517205:Int)) + (bAnd .u64 a0 (6148914691236517205:Int)))) (3689348814741910323:Int)))))) (1085102592571150095:Int)) (8:Int))))) z z z (wv (.int .u64 (u64.wrap ((bAnd .u64 (u64.wrap ((iShr .u64 (u64.wrap ((bAnd .u64 (iShr .u64 (u64.wrap ((bAnd .u64 (iShr .u64 a0 (1:Int)) (6148914691236517205:Int)) + (bAnd .u64 a0 (6148914691236517205:Int)))) (2:Int)) (3689348814741910323:Int)) + (bAnd .u64 (u64.wrap ((bAnd .u64 (iShr .u64 a0 (1:Int)) (6148914691236517205:Int)) + (bAnd .u64 a0 (6148914691236517205:Int)))) (3689348814741910323:Int)))) (4:Int)) + (u64.wrap ((bAnd .u64 (iShr .u64 (u64.wrap ((bAnd .u64 (iShr .u64 a0 (1:Int)) (6148914691236517205:Int)) + (bAnd .u64 a0 (6148914691236517205:Int)))) (2:Int)) (3689348814741910323:Int)) + (bAnd .u64 (u64.wrap ((bAnd .u64 (iShr .u64 a0 (1:Int)) (6148914691236517205:Int)) + (bAnd .u64 a0 (6148914691236517205:Int)))) (3689348814741910323:Int)))))) (1085102592571150095:Int)) + (iShr .u64 (bAnd .u64 (u64.wrap ((iShr .u64 (u64.wrap ((bAnd .u64 (iShr .u64 (u64.wrap ((bAnd .u64 (iShr .u64 a0 (1:Int)) (6148914691236517205:Int)) + (bAnd .u64 a0 (6148914691236517205:Int)))) (2:Int)) (3689348814741910323:Int)) + (bAnd .u64 (u64.wrap ((bAnd .u64 (iShr .u64 a0 (1:Int)) (6148914691236517205:Int)) + (bAnd .u64 a0 (6148914691236517205:Int)))) (3689348814741910323:Int)))) (4:Int)) + (u64.wrap ((bAnd .u64 (iShr .u64 (u64.wrap ((bAnd .u64 (iShr .u64 a0 (1:Int)) (6148914691236517205:Int)) + (bAnd .u64 a0 (6148914691236517205:Int)))) (2:Int)) (3689348814741910323:Int)) + (bAnd .u64 (u64.wrap ((bAnd .u64 (iShr .u64 a0 (1:Int)) (6148914691236517205:Int)) + (bAnd .u64 a0 (6148914691236517205:Int)))) (3689348814741910323:Int)))))) (1085102592571150095:Int)) (8:Int))))) z z z (wl_nil (tn (wp_seq (wrl (wv (.int .u64 (u64.wrap ((bAnd .u64 (u64.wrap ((iShr .u64 (u64.wrap ((bAnd .u64 (iShr .u64 (u64.wrap ((bAnd .u64 (iShr .u64 a0 (1:Int)) (6148914691236517205:Int)) + (bAnd .u64 a0 (6148914691236517205:Int)))) (2:Int)) (3689348814741910323:Int)) + (bAnd .u64 (u64.wrap ((bAnd .u64 (iShr .u64 a0 (1:Int)) (6148914691236517205:Int)) + (bAnd .u64 a0 (6148914691236517205:Int)))) (3689348814741910323:Int)))) (4:Int)) + (u64.wrap ((bAnd .u64 (iShr .u64 (u64.wrap ((bAnd .u64 (iShr .u64 a0 (1:Int)) (6148914691236517205:Int)) + (bAnd .u64 a0 (6148914691236517205:Int)))) (2:Int)) (3689348814741910323:Int)) + (bAnd .u64 (u64.wrap ((bAnd .u64 (iShr .u64 a0 (1:Int)) (6148914691236517205:Int)) + (bAnd .u64 a0 (6148914691236517205:Int)))) (3689348814741910323:Int)))))) (1085102592571150095:Int)) + (iShr .u64 (bAnd .u64 (u64.wrap ((iShr .u64 (u64.wrap ((bAnd .u64 (iShr .u64 (u64.wrap ((bAnd .u64 (iShr .u64 a0 (1:Int)) (6148914691236517205:Int)) + (bAnd .u64 a0 (6148914691236517205:Int)))) (2:Int)) (3689348814741910323:Int)) + (bAnd .u64 (u64.wrap ((bAnd .u64 (iShr .u64 a0 (1:Int)) (6148914691236517205:Int)) + (bAnd .u64 a0 (6148914691236517205:Int)))) (3689348814741910323:Int)))) (4:Int)) + (u64.wrap ((bAnd .u64 (iShr .u64 (u64.wrap ((bAnd .u64 (iShr .u64 a0 (1:Int)) (6148914691236517205:Int)) + (bAnd .u64 a0 (6148914691236517205:Int)))) (2:Int)) (3689348814741910323:Int)) + (bAnd .u64 (u64.wrap ((bAnd .u64 (iShr .u64 a0 (1:Int)) (6148914691236517205:Int)) + (bAnd .u64 a0 (6148914691236517205:Int)))) (3689348814741910323:Int)))))) (1085102592571150095:Int)) (8:Int))))) z z z (wv (.int .u64 (u64.wrap ((bAnd .u64 (u64.wrap ((iShr .u64 (u64.wrap ((bAnd .u64 (iShr .u64 (u64.wrap ((bAnd .u64 (iShr .u64 a0 (1:Int)) (6148914691236517205:Int)) + (bAnd .u64 a0 (6148914691236517205:Int)))) (2:Int)) (3689348814741910323:Int)) + (bAnd .u64 (u64.wrap ((bAnd .u64 (iShr .u64 a0 (1:Int)) (6148914691236517205:Int)) + (bAnd .u64 a0 (6148914691236517205:Int)))) (3689348814741910323:Int)))) (4:Int)) + (u64.wrap ((bAnd .u64 (iShr .u64 (u64.wrap ((bAnd .u64 (iShr .u64 a0 (1:Int)) (6148914691236517205:Int)) + (bAnd .u64 a0 (6148914691236517205:Int)))) (2:Int)) (3689348814741910323:Int)) + (bAnd .u64 (u64.wrap ((bAnd .u64 (iShr .u64 a0 (1:Int)) (6148914691236517205:Int)) + (bAnd .u64 a0 (6148914691236517205:Int)))) (3689348814741910323:Int)))))) (1085102592571150095:Int)) + (iShr .u64 (bAnd .u64 (u64.wrap ((iShr .u64 (u64.wrap ((bAnd .u64 (iShr .u64 (u64.wrap ((bAnd .u64 (iShr .u64 a0 (1:Int)) (6148914691236517205:Int)) + (bAnd .u64 a0 (6148914691236517205:Int)))) (2:Int)) (3689348814741910323:Int)) + (bAnd .u64 (u64.wrap ((bAnd .u64 (iShr .u64 a0 (1:Int)) (6148914691236517205:Int)) + (bAnd .u64 a0 (6148914691236517205:Int)))) (3689348814741910323:Int)))) (4:Int)) + (u64.wrap ((bAnd .u64 (iShr .u64 (u64.wrap ((bAnd .u64 (iShr .u64 a0 (1:Int)) (6148914691236517205:Int)) + (bAnd .u64 a0 (6148914691236517205:Int)))) (2:Int)) (3689348814741910323:Int)) + (bAnd .u64 (u64.wrap ((bAnd .u64 (iShr .u64 a0 (1:Int)) (6148914691236517205:Int)) + (bAnd .u64 a0 (6148914691236517205:Int)))) (3689348814741910323:Int)))))) (1085102592571150095:Int)) (8:Int))))) z z z (wv (.int .u64 (iShr .u64 (u64.wrap ((bAnd .u64 (u64.wrap ((iShr .u64 (u64.wrap ((bAnd .u64 (iShr .u64 (u64.wrap ((bAnd .u64 (iShr .u64 a0 (1:Int)) (6148914691236517205:Int)) + (bAnd .u64 a0 (6148914691236517205:Int)))) (2:Int)) (3689348814741910323:Int)) + (bAnd .u64 (u64.wrap ((bAnd .u64 (iShr .u64 a0 (1:Int)) (6148914691236517205:Int)) + (bAnd .u64 a0 (6148914691236517205:Int)))) (3689348814741910323:Int)))) (4:Int)) + (u64.wrap ((bAnd .u64 (iShr .u64 (u64.wrap ((bAnd .u64 (iShr .u64 a0 (1:Int)) (6148914691236517205:Int)) + (bAnd .u64 a0 (6148914691236517205:Int)))) (2:Int)) (3689348814741910323:Int)) + (bAnd .u64 (u64.wrap ((bAnd .u64 (iShr .u64 a0 (1:Int)) (6148914691236517205:Int)) + (bAnd .u64 a0 (6148914691236517205:Int)))) (3689348814741910323:Int)))))) (1085102592571150095:Int)) + (iShr .u64 (bAnd .u64 (u64.wrap ((iShr .u64 (u64.wrap ((bAnd .u64 (iShr .u64 (u64.wrap ((bAnd .u64 (iShr .u64 a0 (1:Int)) (6148914691236517205:Int)) + (bAnd .u64 a0 (6148914691236517205:Int)))) (2:Int)) (3689348814741910323:Int)) + (bAnd .u64 (u64.wrap ((bAnd .u64 (iShr .u64 a0 (1:Int)) (6148914691236517205:Int)) + (bAnd .u64 a0 (6148914691236517205:Int)))) (3689348814741910323:Int)))) (4:Int)) + (u64.wrap ((bAnd .u64 (iShr .u64 (u64.wrap ((bAnd .u64 (iShr .u64 a0 (1:Int)) (6148914691236517205:Int)) + (bAnd .u64 a0 (6148914691236517205:Int)))) (2:Int)) (3689348814741910323:Int)) + (bAnd .u64 (u64.wrap ((bAnd .u64 (iShr .u64 a0 (1:Int)) (6148914691236517205:Int)) + (bAnd .u64 a0 (6148914691236517205:Int)))) (3689348814741910323:Int)))))) (1085102592571150095:Int)) (8:Int)))) (16:Int))) z z (x_shr (by decide) z z) (wv (.int .u64 (u64.wrap ((u64.wrap ((bAnd .u64 (u64.wrap ((iShr .u64 (u64.wrap ((bAnd .u64 (iShr .u64 (u64.wrap ((bAnd .u64 (iShr .u64 a0 (1:Int)) (6148914691236517205:Int)) + (bAnd .u64 a0 (6148914691236517205:Int)))) (2:Int)) (3689348814741910323:Int)) + (bAnd .u64 (u64.wrap ((bAnd .u64 (iShr .u64 a0 (1:Int)) (6148914691236517205:Int)) + (bAnd .u64 a0 (6148914691236517205:Int)))) (3689348814741910323:Int)))) (4:Int)) + (u64.wrap ((bAnd .u64 (iShr .u64 (u64.wrap ((bAnd .u64 (iShr .u64 a0 (1:Int)) (6148914691236517205:Int)) + (bAnd .u64 a0 (6148914691236517205:Int)))) (2:Int)) (3689348814741910323:Int)) + (bAnd .u64 (u64.wrap ((bAnd .u64 (iShr .u64 a0 (1:Int)) (6148914691236517205:Int)) + (bAnd .u64 a0 (6148914691236517205:Int)))) (3689348814741910323:Int)))))) (1085102592571150095:Int)) + (iShr .u64 (bAnd .u64 (u64.wrap ((iShr .u64 (u64.wrap ((bAnd .u64 (iShr .u64 (u64.wrap ((bAnd .u64 (iShr .u64 a0 (1:Int)) (6148914691236517205:Int)) + (bAnd .u64 a0 (6148914691236517205:Int)))) (2:Int)) (3689348814741910323:Int)) + (bAnd .u64 (u64.wrap ((bAnd .u64 (iShr .u64 a0 (1:Int)) (6148914691236517205:Int)) + (bAnd .u64 a0 (6148914691236517205:Int)))) (3689348814741910323:Int)))) (4:Int)) + (u64.wrap ((bAnd .u64 (iShr .u64 (u64.wrap ((bAnd .u64 (iShr .u64 a0 (1:Int)) (6148914691236517205:Int)) + (bAnd .u64 a0 (6148914691236517205:Int)))) (2:Int)) (3689348814741910323:Int)) + (bAnd .u64 (u64.wrap ((bAnd .u64 (iShr .u64 a0 (1:Int)) (6148914691236517205:Int)) + (bAnd .u64 a0 (6148914691236517205:Int)))) (3689348814741910323:Int)))))) (1085102592571150095:Int)) (8:Int)))) + (iShr .u64 (u64.wrap ((bAnd .u64 (u64.wrap ((iShr .u64 (u64.wrap ((bAnd .u64 (iShr .u64 (u64.wrap ((bAnd .u64 (iShr .u64 a0 (1:Int)) (6148914691236517205:Int)) + (bAnd .u64 a0 (6148914691236517205:Int)))) (2:Int)) (3689348814741910323:Int)) + (bAnd .u64 (u64.wrap ((bAnd .u64 (iShr .u64 a0 (1:Int)) (6148914691236517205:Int)) + (bAnd .u64 a0 (6148914691236517205:Int)))) (3689348814741910323:Int)))) (4:Int)) + (u64.wrap ((bAnd .u64 (iShr .u64 (u64.wrap ((bAnd .u64 (iShr .u64 a0 (1:Int)) (6148914691236517205:Int)) + (bAnd .u64 a0 (6148914691236517205:Int)))) (2:Int)) (3689348814741910323:Int)) + (bAnd .u64 (u64.wrap ((bAnd .u64 (iShr .u64 a0 (1:Int)) (6148914691236517205:Int)) + (bAnd .u64 a0 (6148914691236517205:Int)))) (3689348814741910323:Int)))))) (1085102592571150095:Int)) + (iShr .u64 (bAnd .u64 (u64.wrap ((iShr .u64 (u64.wrap ((bAnd .u64 (iShr .u64 (u64.wrap ((bAnd .u64 (iShr .u64 a0 (1:Int)) (6148914691236517205:Int)) + (bAnd .u64 a0 (6148914691236517205:Int)))) (2:Int)) (3689348814741910323:Int)) + (bAnd .u64 (u64.wrap ((bAnd .u64 (iShr .u64 a0 (1:Int)) (6148914691236517205:Int)) + (bAnd .u64 a0 (6148914691236517205:Int)))) (3689348814741910323:Int)))) (4:Int)) + (u64.wrap ((bAnd .u64 (iShr .u64 (u64.wrap ((bAnd .u64 (iShr .u64 a0 (1:Int)) (6148914691236517205:Int)) + (bAnd .u64 a0 (6148914691236517205:Int)))) (2:Int)) (3689348814741910323:Int)) + (bAnd .u64 (u64.wrap ((bAnd .u64 (iShr .u64 a0 (1:Int)) (6148914691236517205:Int)) + (bAnd .u64 a0 (6148914691236517205:Int)))) (3689348814741910323:Int)))))) (1085102592571150095:Int)) (8:Int)))) (16:Int))))) z z z (wv (.int .u64 (u64.wrap ((u64.wrap ((bAnd .u64 (u64.wrap ((iShr .u64 (u64.wrap ((bAnd .u64 (iShr .u64 (u64.wrap ((bAnd .u64 (iShr .u64 a0 (1:Int)) (6148914691236517205:Int)) + (bAnd .u64 a0 (6148914691236517205:Int)))) (2:Int)) (3689348814741910323:Int)) + (bAnd .u64 (u64.wrap ((bAnd .u64 (iShr .u64 a0 (1:Int)) (6148914691236517205:Int)) + (bAnd .u64 a0 (6148914691236517205:Int)))) (3689348814741910323:Int)))) (4:Int)) + (u64.wrap ((bAnd .u64 (iShr .u64 (u64.wrap ((bAnd .u64 (iShr .u64 a0 (1:Int)) (6148914691236517205:Int)) + (bAnd .u64 a0 (6148914691236517205:Int)))) (2:Int)) (3689348814741910323:Int)) + (bAnd .u64 (u64.wrap ((bAnd .u64 (iShr .u64 a0 (1:Int)) (6148914691236517205:Int)) + (bAnd .u64 a0 (6148914691236517205:Int)))) (3689348814741910323:Int)))))) (1085102592571150095:Int)) + (iShr .u64 (bAnd .u64 (u64.wrap ((iShr .u64 (u64.wrap ((bAnd .u64 (iShr .u64 (u64.wrap ((bAnd .u64 (iShr .u64 a0 (1:Int)) (6148914691236517205:Int)) + (bAnd .u64 a0 (6148914691236517205:Int)))) (2:Int)) (3689348814741910323:Int)) + (bAnd .u64 (u64.wrap ((bAnd .u64 (iShr .u64 a0 (1:Int)) (6148914691236517205:Int)) + (bAnd .u64 a0 (6148914691236517205:Int)))) (3689348814741910323:Int)))) (4:Int)) + (u64.wrap ((bAnd .u64 (iShr .u64 (u64.wrap ((bAnd .u64 (iShr .u64 a0 (1:Int)) (6148914691236517205:Int)) + (bAnd .u64 a0 (6148914691236517205:Int)))) (2:Int)) (3689348814741910323:Int)) + (bAnd .u64 (u64.wrap ((bAnd .u64 (iShr .u64 a0 (1:Int)) (6148914691236517205:Int)) + (bAnd .u64 a0 (6148914691236517205:Int)))) (3689348814741910323:Int)))))) (1085102592571150095:Int)) (8:Int)))) + (iShr .u64 (u64.wrap ((bAnd .u64 (u64.wrap ((iShr .u64 (u64.wrap ((bAnd .u64 (iShr .u64 (u64.wrap ((bAnd .u64 (iShr .u64 a0 (1:Int)) (6148914691236517205:Int)) + (bAnd .u64 a0 (6148914691236517205:Int)))) (2:Int)) (3689348814741910323:Int)) + (bAnd .u64 (u64.wrap ((bAnd .u64 (iShr .u64 a0 (1:Int)) (6148914691236517205:Int)) + (bAnd .u64 a0 (6148914691236517205:Int)))) (3689348814741910323:Int)))) (4:Int)) + (u64.wrap ((bAnd .u64 (iShr .u64 (u64.wrap ((bAnd .u64 (iShr .u64 a0 (1:Int)) (6148914691236517205:Int)) + (bAnd .u64 a0 (6148914691236517205:Int)))) (2:Int)) (3689348814741910323:Int)) + (bAnd .u64 (u64.wrap ((bAnd .u64 (iShr .u64 a0 (1:Int)) (6148914691236517205:Int)) + (bAnd .u64 a0 (6148914691236517205:Int)))) (3689348814741910323:Int)))))) (1085102592571150095:Int)) + (iShr .u64 (bAnd .u64 (u64.wrap ((iShr .u64 (u64.wrap ((bAnd .u64 (iShr .u64 (u64.wrap ((bAnd .u64 (iShr .u64 a0 (1:Int)) (6148914691236517205:Int)) + (bAnd .u64 a0 (6148914691236517205:Int)))) (2:Int)) (3689348814741910323:Int)) + (bAnd .u64 (u64.wrap ((bAnd .u64 (iShr .u64 a0 (1:Int)) (6148914691236517205:Int)) + (bAnd .u64 a0 (6148914691236517205:Int)))) (3689348814741910323:Int)))) (4:Int)) + (u64.wrap ((bAnd .u64 (iShr .u64 (u64.wrap ((bAnd .u64 (iShr .u64 a0 (1:Int)) (6148914691236517205:Int)) + (bAnd .u64 a0 (6148914691236517205:Int)))) (2:Int)) (3689348814741910323:Int)) + (bAnd .u64 (u64.wrap ((bAnd .u64 (iShr .u64 a0 (1:Int)) (6148914691236517205:Int)) + (bAnd .u64 a0 (6148914691236517205:Int)))) (3689348814741910323:Int)))))) (1085102592571150095:Int)) (8:Int)))) (16:Int))))) z z z (wl_nil (tn (wp_seq (wrl (wv (.int .u64 (u64.wrap ((u64.wrap ((bAnd .u64 (u64.wrap ((iShr .u64 (u64.wrap ((bAnd .u64 (iShr .u64 (u64.wrap ((bAnd .u64 (iShr .u64 a0 (1:Int)) (6148914691236517205:Int)) + (bAnd .u64 a0 (6148914691236517205:Int)))) (2:Int)) (3689348814741910323:Int)) + (bAnd .u64 (u64.wrap ((bAnd .u64 (iShr .u64 a0 (1:Int)) (6148914691236517205:Int)) + (bAnd .u64 a0 (6148914691236517205:Int)))) (3689348814741910323:Int)))) (4:Int)) + (u64.wrap ((bAnd .u64 (iShr .u64 (u64.wrap ((bAnd .u64 (iShr .u64 a0 (1:Int)) (6148914691236517205:Int)) + (bAnd .u64 a0 (6148914691236517205:Int)))) (2:Int)) (3689348814741910323:Int)) + (bAnd .u64 (u64.wrap ((bAnd .u64 (iShr .u64 a0 (1:Int)) (6148914691236517205:Int)) + (bAnd .u64 a0 (6148914691236517205:Int)))) (3689348814741910323:Int)))))) (1085102592571150095:Int)) + (iShr .u64 (bAnd .u64 (u64.wrap ((iShr .u64 (u64.wrap ((bAnd .u64 (iShr .u64 (u64.wrap ((bAnd .u64 (iShr .u64 a0 (1:Int)) (6148914691236517205:Int)) + (bAnd .u64 a0 (6148914691236517205:Int)))) (2:Int)) (3689348814741910323:Int)) + (bAnd .u64 (u64.wrap ((bAnd .u64 (iShr .u64 a0 (1:Int)) (6148914691236517205:Int)) + (bAnd .u64 a0 (6148914691236517205:Int)))) (3689348814741910323:Int)))) (4:Int)) + (u64.wrap ((bAnd .u64 (iShr .u64 (u64.wrap ((bAnd .u64 (iShr .u64 a0 (1:Int)) (6148914691236517205:Int)) + (bAnd .u64 a0 (6148914691236517205:Int)))) (2:Int)) (3689348814741910323:Int)) + (bAnd .u64 (u64.wrap ((bAnd .u64 (iShr .u64 a0 (1:Int)) (6148914691236517205:Int)) + (bAnd .u64 a0 (6148914691236517205:Int)))) (3689348814741910323:Int)))))) (1085102592571150095:Int)) (8:Int)))) + (iShr .u64 (u64.wrap ((bAnd .u64 (u64.wrap ((iShr .u64 (u64.wrap ((bAnd .u64 (iShr .u64 (u64.wrap ((bAnd .u64 (iShr .u64 a0 (1:Int)) (6148914691236517205:Int)) + (bAnd .u64 a0 (6148914691236517205:Int)))) (2:Int)) (3689348814741910323:Int)) + (bAnd .u64 (u64.wrap ((bAnd .u64 (iShr .u64 a0 (1:Int)) (6148914691236517205:Int)) + (bAnd .u64 a0 (6148914691236517205:Int)))) (3689348814741910323:Int)))) (4:Int)) + (u64.wrap ((bAnd .u64 (iShr .u64 (u64.wrap ((bAnd .u64 (iShr .u64 a0 (1:Int)) (6148914691236517205:Int)) + (bAnd .u64 a0 (6148914691236517205:Int)))) (2:Int)) (3689348814741910323:Int)) + (bAnd .u64 (u64.wrap ((bAnd .u64 (iShr .u64 a0 (1:Int)) (6148914691236517205:Int)) + (bAnd .u64 a0 (6148914691236517205:Int)))) (3689348814741910323:Int)))))) (1085102592571150095:Int)) + (iShr .u64 (bAnd .u64 (u64.wrap ((iShr .u64 (u64.wrap ((bAnd .u64 (iShr .u64 (u64.wrap ((bAnd .u64 (iShr .u64 a0 (1:Int)) (6148914691236517205:Int)) + (bAnd .u64 a0 (6148914691236517205:Int)))) (2:Int)) (3689348814741910323:Int)) + (bAnd .u64 (u64.wrap ((bAnd .u64 (iShr .u64 a0 (1:Int)) (6148914691236517205:Int)) + (bAnd .u64 a0 (6148914691236517205:Int)))) (3689348814741910323:Int)))) (4:Int)) + (u64.wrap ((bAnd .u64 (iShr .u64 (u64.wrap ((bAnd .u64 (iShr .u64 a0 (1:Int)) (6148914691236517205:Int)) + (bAnd .u64 a0 (6148914691236517205:Int)))) (2:Int)) (3689348814741910323:Int)) + (bAnd .u64 (u64.wrap ((bAnd .u64 (iShr .u64 a0 (1:Int)) (6148914691236517205:Int)) + (bAnd .u64 a0 (6148914691236517205:Int)))) (3689348814741910323:Int)))))) (1085102592571150095:Int)) (8:Int)))) (16:Int))))) z z z ?_))))))))))))))))))
 refine wv (.int .u64 (u64.wrap ((u64.wrap ((bAnd .u64 (u64.wrap ((iShr .u64 (u64.wrap ((bAnd .u64 (iShr .u64 (u64.wrap ((bAnd .u64 (iShr .u64 a0 (1:Int)) (6148914691236517205:Int)) + (bAnd .u64 a0 (6148914691236517205:Int)))) (2:Int)) (3689348814741910323:Int)) + (bAnd .u64 (u64.wrap ((bAnd .u64 (iShr .u64 a0 (1:Int)) (6148914691236517205:Int)) + (bAnd .u64 a0 (6148914691236517205:Int)))) (3689348814741910323:Int)))) (4:Int)) + (u64.wrap ((bAnd .u64 (iShr .u64 (u64.wrap ((bAnd .u64 (iShr .u64 a0 (1:Int)) (6148914691236517205:Int)) + (bAnd .u64 a0 (6148914691236517205:Int)))) (2:Int)) (3689348814741910323:Int)) + (bAnd .u64 (u64.wrap ((bAnd .u64 (iShr .u64 a0 (1:Int)) (6148914691236517205:Int)) + (bAnd .u64 a0 (6148914691236517205:Int)))) (3689348814741910323:Int)))))) (1085102592571150095:Int)) + (iShr .u64 (bAnd .u64 (u64.wrap ((iShr .u64 (u64.wrap ((bAnd .u64 (iShr .u64 (u64.wrap ((bAnd .u64 (iShr .u64 a0 (1:Int)) (6148914691236517205:Int)) + (bAnd .u64 a0 (6148914691236517205:Int)))) (2:Int)) (3689348814741910323:Int)) + (bAnd .u64 (u64.wrap ((bAnd .u64 (iShr .u64 a0 (1:Int)) (6148914691236517205:Int)) + (bAnd .u64 a0 (6148914691236517205:Int)))) (3689348814741910323:Int)))) (4:Int)) + (u64.wrap ((bAnd .u64 (iShr .u64 (u64.wrap ((bAnd .u64 (iShr .u64 a0 (1:Int)) (6148914691236517205:Int)) + (bAnd .u64 a0 (6148914691236517205:Int)))) (2:Int)) (3689348814741910323:Int)) + (bAnd .u64 (u64.wrap ((bAnd .u64 (iShr .u64 a0 (1:Int)) (6148914691236517205:Int)) + (bAnd .u64 a0 (6148914691236517205:Int)))) (3689348814741910323:Int)))))) (1085102592571150095:Int)) (8:Int)))) + (iShr .u64 (u64.wrap ((bAnd .u64 (u64.wrap ((iShr .u64 (u64.wrap ((bAnd .u64 (iShr .u64 (u64.wrap ((bAnd .u64 (iShr .u64 a0 (1:Int)) (6148914691236517205:Int)) + (bAnd .u64 a0 (6148914691236517205:Int)))) (2:Int)) (3689348814741910323:Int)) + (bAnd .u64 (u64.wrap ((bAnd .u64 (iShr .u64 a0 (1:Int)) (6148914691236517205:Int)) + (bAnd .u64 a0 (6148914691236517205:Int)))) (3689348814741910323:Int)))) (4:Int)) + (u64.wrap ((bAnd .u64 (iShr .u64 (u64.wrap ((bAnd .u64 (iShr .u64 a0 (1:Int)) (6148914691236517205:Int)) + (bAnd .u64 a0 (6148914691236517205:Int)))) (2:Int)) (3689348814741910323:Int)) + (bAnd .u64 (u64.wrap ((bAnd .u64 (iShr .u64 a0 (1:Int)) (6148914691236517205:Int)) + (bAnd .u64 a0 (6148914691236517205:Int)))) (3689348814741910323:Int)))))) (1085102592571150095:Int)) + (iShr .u64 (bAnd .u64 (u64.wrap ((iShr .u64 (u64.wrap ((bAnd .u64 (iShr .u64 (u64.wrap ((bAnd .u64 (iShr .u64 a0 (1:Int)) (6148914691236517205:Int)) + (bAnd .u64 a0 (6148914691236517205:Int)))) (2:Int)) (3689348814741910323:Int)) + (bAnd .u64 (u64.wrap ((bAnd .u64 (iShr .u64 a0 (1:Int)) (6148914691236517205:Int)) + (bAnd .u64 a0 (6148914691236517205:Int)))) (3689348814741910323:Int)))) (4:Int)) + (u64.wrap ((bAnd .u64 (iShr .u64 (u64.wrap ((bAnd .u64 (iShr .u64 a0 (1:Int)) (6148914691236517205:Int)) + (bAnd .u64 a0 (6148914691236517205:Int)))) (2:Int)) (3689348814741910323:Int)) + (bAnd .u64 (u64.wrap ((bAnd .u64 (iShr .u64 a0 (1:Int)) (6148914691236517205:Int)) + (bAnd .u64 a0 (6148914691236517205:Int)))) (3689348814741910323:Int)))))) (1085102592571150095:Int)) (8:Int)))) (16:Int))))) z z z (wv (.int .u64 (iShr .u64 (u64.wrap ((u64.wrap ((bAnd .u64 (u64.wrap ((iShr .u64 (u64.wrap ((bAnd .u64 (iShr .u64 (u64.wrap ((bAnd .u64 (iShr .u64 a0 (1:Int)) (6148914691236517205:Int)) + (bAnd .u64 a0 (6148914691236517205:Int)))) (2:Int)) (3689348814741910323:Int)) + (bAnd .u64 (u64.wrap ((bAnd .u64 (iShr .u64 a0 (1:Int)) (6148914691236517205:Int)) + (bAnd .u64 a0 (6148914691236517205:Int)))) (3689348814741910323:Int)))) (4:Int)) + (u64.wrap ((bAnd .u64 (iShr .u64 (u64.wrap ((bAnd .u64 (iShr .u64 a0 (1:Int)) (6148914691236517205:Int)) + (bAnd .u64 a0 (6148914691236517205:Int)))) (2:Int)) (3689348814741910323:Int)) + (bAnd .u64 (u64.wrap ((bAnd .u64 (iShr .u64 a0 (1:Int)) (6148914691236517205:Int)) + (bAnd .u64 a0 (6148914691236517205:Int)))) (3689348814741910323:Int)))))) (1085102592571150095:Int)) + (iShr .u64 (bAnd .u64 (u64.wrap ((iShr .u64 (u64.wrap ((bAnd .u64 (iShr .u64 (u64.wrap ((bAnd .u64 (iShr .u64 a0 (1:Int)) (6148914691236517205:Int)) + (bAnd .u64 a0 (6148914691236517205:Int)))) (2:Int)) (3689348814741910323:Int)) + (bAnd .u64 (u64.wrap ((bAnd .u64 (iShr .u64 a0 (1:Int)) (6148914691236517205:Int)) + (bAnd .u64 a0 (6148914691236517205:Int)))) (3689348814741910323:Int)))) (4:Int)) + (u64.wrap ((bAnd .u64 (iShr .u64 (u64.wrap ((bAnd .u64 (iShr .u64 a0 (1:Int)) (6148914691236517205:Int)) + (bAnd .u64 a0 (6148914691236517205:Int)))) (2:Int)) (3689348814741910323:Int)) + (bAnd .u64 (u64.wrap ((bAnd .u64 (iShr .u64 a0 (1:Int)) (6148914691236517205:Int)) + (bAnd .u64 a0 (6148914691236517205:Int)))) (3689348814741910323:Int)))))) (1085102592571150095:Int)) (8:Int)))) + (iShr .u64 (u64.wrap ((bAnd .u64 (u64.wrap ((iShr .u64 (u64.wrap ((bAnd .u64 (iShr .u64 (u64.wrap ((bAnd .u64 (iShr .u64 a0 (1:Int)) (6148914691236517205:Int)) + (bAnd .u64 a0 (6148914691236517205:Int)))) (2:Int)) (3689348814741910323:Int)) + (bAnd .u64 (u64.wrap ((bAnd .u64 (iShr .u64 a0 (1:Int)) (6148914691236517205:Int)) + (bAnd .u64 a0 (6148914691236517205:Int)))) (3689348814741910323:Int)))) (4:Int)) + (u64.wrap ((bAnd .u64 (iShr .u64 (u64.wrap ((bAnd .u64 (iShr .u64 a0 (1:Int)) (6148914691236517205:Int)) + (bAnd .u64 a0 (6148914691236517205:Int)))) (2:Int)) (3689348814741910323:Int)) + (bAnd .u64 (u64.wrap ((bAnd .u64 (iShr .u64 a0 (1:Int)) (6148914691236517205:Int)) + (bAnd .u64 a0 (6148914691236517205:Int)))) (3689348814741910323:Int)))))) (1085102592571150095:Int)) + (iShr .u64 (bAnd .u64 (u64.wrap ((iShr .u64 (u64.wrap ((bAnd .u64 (iShr .u64 (u64.wrap ((bAnd .u64 (iShr .u64 a0 (1:Int)) (6148914691236517205:Int)) + (bAnd .u64 a0 (6148914691236517205:Int)))) (2:Int)) (3689348814741910323:Int)) + (bAnd .u64 (u64.wrap ((bAnd .u64 (iShr .u64 a0 (1:Int)) (6148914691236517205:Int)) + (bAnd .u64 a0 (6148914691236517205:Int)))) (3689348814741910323:Int)))) (4:Int)) + (u64.wrap ((bAnd .u64 (iShr .u64 (u64.wrap ((bAnd .u64 (iShr .u64 a0 (1:Int)) (6148914691236517205:Int)) + (bAnd .u64 a0 (6148914691236517205:Int)))) (2:Int)) (3689348814741910323:Int)) + (bAnd .u64 (u64.wrap ((bAnd .u64 (iShr .u64 a0 (1:Int)) (6148914691236517205:Int)) + (bAnd .u64 a0 (6148914691236517205:Int)))) (3689348814741910323:Int)))))) (1085102592571150095:Int)) (8:Int)))) (16:Int)))) (32:Int))) z z (x_shr (by decide) z z) (wv (.int .u64 (u64.wrap ((u64.wrap ((u64.wrap ((bAnd .u64 (u64.wrap ((iShr .u64 (u64.wrap ((bAnd .u64 (iShr .u64 (u64.wrap ((bAnd .u64 (iShr .u64 a0 (1:Int)) (6148914691236517205:Int)) + (bAnd .u64 a0 (6148914691236517205:Int)))) (2:Int)) (3689348814741910323:Int)) + (bAnd .u64 (u64.wrap ((bAnd .u64 (iShr .u64 a0 (1:Int)) (6148914691236517205:Int)) + (bAnd .u64 a0 (6148914691236517205:Int)))) (3689348814741910323:Int)))) (4:Int)) + (u64.wrap ((bAnd .u64 (iShr .u64 (u64.wrap ((bAnd .u64 (iShr .u64 a0 (1:Int)) (6148914691236517205:Int)) + (bAnd .u64 a0 (6148914691236517205:Int)))) (2:Int)) (3689348814741910323:Int)) + (bAnd .u64 (u64.wrap ((bAnd .u64 (iShr .u64 a0 (1:Int)) (6148914691236517205:Int)) + (bAnd .u64 a0 (6148914691236517205:Int)))) (3689348814741910323:Int)))))) (1085102592571150095:Int)) + (iShr .u64 (bAnd .u64 (u64.wrap ((iShr .u64 (u64.wrap ((bAnd .u64 (iShr .u64 (u64.wrap ((bAnd .u64 (iShr .u64 a0 (1:Int)) (6148914691236517205:Int)) + (bAnd .u64 a0 (6148914691236517205:Int)))) (2:Int)) (3689348814741910323:Int)) + (bAnd .u64 (u64.wrap ((bAnd .u64 (iShr .u64 a0 (1:Int)) (6148914691236517205:Int)) + (bAnd .u64 a0 (6148914691236517205:Int)))) (3689348814741910323:Int)))) (4:Int)) + (u64.wrap ((bAnd .u64 (iShr .u64 (u64.wrap ((bAnd .u64 (iShr .u64 a0 (1:Int)) (6148914691236517205:Int)) + (bAnd .u64 a0 (6148914691236517205:Int)))) (2:Int)) (3689348814741910323:Int)) + (bAnd .u64 (u64.wrap ((bAnd .u64 (iShr .u64 a0 (1:Int)) (6148914691236517205:Int)) + (bAnd .u64 a0 (6148914691236517205:Int)))) (3689348814741910323:Int)))))) (1085102592571150095:Int)) (8:Int)))) + (iShr .u64 (u64.wrap ((bAnd .u64 (u64.wrap ((iShr .u64 (u64.wrap ((bAnd .u64 (iShr .u64 (u64.wrap ((bAnd .u64 (iShr .u64 a0 (1:Int)) (6148914691236517205:Int)) + (bAnd .u64 a0 (6148914691236517205:Int)))) (2:Int)) (3689348814741910323:Int)) + (bAnd .u64 (u64.wrap ((bAnd .u64 (iShr .u64 a0 (1:Int)) (6148914691236517205:Int)) + (bAnd .u64 a0 (6148914691236517205:Int)))) (3689348814741910323:Int)))) (4:Int)) + (u64.wrap ((bAnd .u64 (iShr .u64 (u64.wrap ((bAnd .u64 (iShr .u64 a0 (1:Int)) (6148914691236517205:Int)) + (bAnd .u64 a0 (6148914691236517205:Int)))) (2:Int)) (3689348814741910323:Int)) + (bAnd .u64 (u64.wrap ((bAnd .u64 (iShr .u64 a0 (1:Int)) (6148914691236517205:Int)) + (bAnd .u64 a0 (6148914691236517205:Int)))) (3689348814741910323:Int)))))) (1085102592571150095:Int)) + (iShr .u64 (bAnd .u64 (u64.wrap ((iShr .u64 (u64.wrap ((bAnd .u64 (iShr .u64 (u64.wrap ((bAnd .u64 (iShr .u64 a0 (1:Int)) (6148914691236517205:Int)) + (bAnd .u64 a0 (6148914691236517205:Int)))) (2:Int)) (3689348814741910323:Int)) + (bAnd .u64 (u64.wrap ((bAnd .u64 (iShr .u64 a0 (1:Int)) (6148914691236517205:Int)) + (bAnd .u64 a0 (6148914691236517205:Int)))) (3689348814741910323:Int)))) (4:Int)) + (u64.wrap ((bAnd .u64 (iShr .u64 (u64.wrap ((bAnd .u64 (iShr .u64 a0 (1:Int)) (6148914691236517205:Int)) + (bAnd .u64 a0 (6148914691236517205:Int)))) (2:Int)) (3689348814741910323:Int)) + (bAnd .u64 (u64.wrap ((bAnd .u64 (iShr .u64 a0 (1:Int)) (6148914691236517205:Int)) + (bAnd .u64 a0 (6148914691236517205:Int)))) (3689348814741910323:Int)))))) (1085102592571150095:Int)) (8:Int)))) (16:Int)))) + (iShr .u64 (u64.wrap ((u64.wrap ((bAnd .u64 (u64.wrap ((iShr .u64 (u64.wrap ((bAnd .u64 (iShr .u64 (u64.wrap ((bAnd .u64 (iShr .u64 a0 (1:Int)) (6148914691236517205:Int)) + (bAnd .u64 a0 (6148914691236517205:Int)))) (2:Int)) (3689348814741910323:Int)) + (bAnd .u64 (u64.wrap ((bAnd .u64 (iShr .u64 a0 (1:Int)) (6148914691236517205:Int)) + (bAnd .u64 a0 (6148914691236517205:Int)))) (3689348814741910323:Int)))) (4:Int)) + (u64.wrap ((bAnd .u64 (iShr .u64 (u64.wrap ((bAnd .u64 (iShr .u64 a0 (1:Int)) (6148914691236517205:Int)) + (bAnd .u64 a0 (6148914691236517205:Int)))) (2:Int)) (3689348814741910323:Int)) + (bAnd .u64 (u64.wrap ((bAnd .u64 (iShr .u64 a0 (1:Int)) (6148914691236517205:Int)) + (bAnd .u64 a0 (6148914691236517205:Int)))) (3689348814741910323:Int)))))) (1085102592571150095:Int)) + (iShr .u64 (bAnd .u64 (u64.wrap ((iShr .u64 (u64.wrap ((bAnd .u64 (iShr .u64 (u64.wrap ((bAnd .u64 (iShr .u64 a0 (1:Int)) (6148914691236517205:Int)) + (bAnd .u64 a0 (6148914691236517205:Int)))) (2:Int)) (3689348814741910323:Int)) + (bAnd .u64 (u64.wrap ((bAnd .u64 (iShr .u64 a0 (1:Int)) (6148914691236517205:Int)) + (bAnd .u64 a0 (6148914691236517205:Int)))) (3689348814741910323:Int)))) (4:Int)) + (u64.wrap ((bAnd .u64 (iShr .u64 (u64.wrap ((bAnd .u64 (iShr .u64 a0 (1:Int)) (6148914691236517205:Int)) + (bAnd .u64 a0 (6148914691236517205:Int)))) (2:Int)) (3689348814741910323:Int)) + (bAnd .u64 (u64.wrap ((bAnd .u64 (iShr .u64 a0 (1:Int)) (6148914691236517205:Int)) + (bAnd .u64 a0 (6148914691236517205:Int)))) (3689348814741910323:Int)))))) (1085102592571150095:Int)) (8:Int)))) + (iShr .u64 (u64.wrap ((bAnd .u64 (u64.wrap ((iShr .u64 (u64.wrap ((bAnd .u64 (iShr .u64 (u64.wrap ((bAnd .u64 (iShr .u64 a0 (1:Int)) (6148914691236517205:Int)) + (bAnd .u64 a0 (6148914691236517205:Int)))) (2:Int)) (3689348814741910323:Int)) + (bAnd .u64 (u64.wrap ((bAnd .u64 (iShr .u64 a0 (1:Int)) (6148914691236517205:Int)) + (bAnd .u64 a0 (6148914691236517205:Int)))) (3689348814741910323:Int)))) (4:Int)) + (u64.wrap ((bAnd .u64 (iShr .u64 (u64.wrap ((bAnd .u64 (iShr .u64 a0 (1:Int)) (6148914691236517205:Int)) + (bAnd .u64 a0 (6148914691236517205:Int)))) (2:Int)) (3689348814741910323:Int)) + (bAnd .u64 (u64.wrap ((bAnd .u64 (iShr .u64 a0 (1:Int)) (6148914691236517205:Int)) + (bAnd .u64 a0 (6148914691236517205:Int)))) (3689348814741910323:Int)))))) (1085102592571150095:Int)) + (iShr .u64 (bAnd .u64 (u64.wrap ((iShr .u64 (u64.wrap ((bAnd .u64 (iShr .u64 (u64.wrap ((bAnd .u64 (iShr .u64 a0 (1:Int)) (6148914691236517205:Int)) + (bAnd .u64 a0 (6148914691236517205:Int)))) (2:Int)) (3689348814741910323:Int)) + (bAnd .u64 (u64.wrap ((bAnd .u64 (iShr .u64 a0 (1:Int)) (6148914691236517205:Int)) + (bAnd .u64 a0 (6148914691236517205:Int)))) (3689348814741910323:Int)))) (4:Int)) + (u64.wrap ((bAnd .u64 (iShr .u64 (u64.wrap ((bAnd .u64 (iShr .u64 a0 (1:Int)) (6148914691236517205:Int)) + (bAnd .u64 a0 (6148914691236517205:Int)))) (2:Int)) (3689348814741910323:Int)) + (bAnd .u64 (u64.wrap ((bAnd .u64 (iShr .u64 a0 (1:Int)) (6148914691236517205:Int)) + (bAnd .u64 a0 (6148914691236517205:Int)))) (3689348814741910323:Int)))))) (1085102592571150095:Int)) (8:Int)))) (16:Int)))) (32:Int))))) z z z (wv (.int .u64 (u64.wrap ((u64.wrap ((u64.wrap ((bAnd .u64 (u64.wrap ((iShr .u64 (u64.wrap ((bAnd .u64 (iShr .u64 (u64.wrap ((bAnd .u64 (iShr .u64 a0 (1:Int)) (6148914691236517205:Int)) + (bAnd .u64 a0 (6148914691236517205:Int)))) (2:Int)) (3689348814741910323:Int)) + (bAnd .u64 (u64.wrap ((bAnd .u64 (iShr .u64 a0 (1:Int)) (6148914691236517205:Int)) + (bAnd .u64 a0 (6148914691236517205:Int)))) (3689348814741910323:Int)))) (4:Int)) + (u64.wrap ((bAnd .u64 (iShr .u64 (u64.wrap ((bAnd .u64 (iShr .u64 a0 (1:Int)) (6148914691236517205:Int)) + (bAnd .u64 a0 (6148914691236517205:Int)))) (2:Int)) (3689348814741910323:Int)) + (bAnd .u64 (u64.wrap ((bAnd .u64 (iShr .u64 a0 (1:Int)) (6148914691236517205:Int)) + (bAnd .u64 a0 (6148914691236517205:Int)))) (3689348814741910323:Int)))))) (1085102592571150095:Int)) + (iShr .u64 (bAnd .u64 (u64.wrap ((iShr .u64 (u64.wrap ((bAnd .u64 (iShr .u64 (u64.wrap ((bAnd .u64 (iShr .u64 a0 (1:Int)) (6148914691236517205:Int)) + (bAnd .u64 a0 (6148914691236517205:Int)))) (2:Int)) (3689348814741910323:Int)) + (bAnd .u64 (u64.wrap ((bAnd .u64 (iShr .u64 a0 (1:Int)) (6148914691236517205:Int)) + (bAnd .u64 a0 (6148914691236517205:Int)))) (3689348814741910323:Int)))) (4:Int)) + (u64.wrap ((bAnd .u64 (iShr .u64 (u64.wrap ((bAnd .u64 (iShr .u64 a0 (1:Int)) (6148914691236517205:Int)) + (bAnd .u64 a0 (6148914691236517205:Int)))) (2:Int)) (3689348814741910323:Int)) + (bAnd .u64 (u64.wrap ((bAnd .u64 (iShr .u64 a0 (1:Int)) (6148914691236517205:Int)) + (bAnd .u64 a0 (6148914691236517205:Int)))) (3689348814741910323:Int)))))) (1085102592571150095:Int)) (8:Int)))) + (iShr .u64 (u64.wrap ((bAnd .u64 (u64.wrap ((iShr .u64 (u64.wrap ((bAnd .u64 (iShr .u64 (u64.wrap ((bAnd .u64 (iShr .u64 a0 (1:Int)) (6148914691236517205:Int)) + (bAnd .u64 a0 (6148914691236517205:Int)))) (2:Int)) (3689348814741910323:Int)) + (bAnd .u64 (u64.wrap ((bAnd .u64 (iShr .u64 a0 (1:Int)) (6148914691236517205:Int)) + (bAnd .u64 a0 (6148914691236517205:Int)))) (3689348814741910323:Int)))) (4:Int)) + (u64.wrap ((bAnd .u64 (iShr .u64 (u64.wrap ((bAnd .u64 (iShr .u64 a0 (1:Int)) (6148914691236517205:Int)) + (bAnd .u64 a0 (6148914691236517205:Int)))) (2:Int)) (3689348814741910323:Int)) + (bAnd .u64 (u64.wrap ((bAnd .u64 (iShr .u64 a0 (1:Int)) (6148914691236517205:Int)) + (bAnd .u64 a0 (6148914691236517205:Int)))) (3689348814741910323:Int)))))) (1085102592571150095:Int)) + (iShr .u64 (bAnd .u64 (u64.wrap ((iShr .u64 (u64.wrap ((bAnd .u64 (iShr .u64 (u64.wrap ((bAnd .u64 (iShr .u64 a0 (1:Int)) (6148914691236517205:Int)) + (bAnd .u64 a0 (6148914691236517205:Int)))) (2:Int)) (3689348814741910323:Int)) + (bAnd .u64 (u64.wrap ((bAnd .u64 (iShr .u64 a0 (1:Int)) (6148914691236517205:Int)) + (bAnd .u64 a0 (6148914691236517205:Int)))) (3689348814741910323:Int)))) (4:Int)) + (u64.wrap ((bAnd .u64 (iShr .u64 (u64.wrap ((bAnd .u64 (iShr .u64 a0 (1:Int)) (6148914691236517205:Int)) + (bAnd .u64 a0 (6148914691236517205:Int)))) (2:Int)) (3689348814741910323:Int)) + (bAnd .u64 (u64.wrap ((bAnd .u64 (iShr .u64 a0 (1:Int)) (6148914691236517205:Int)) + (bAnd .u64 a0 (6148914691236517205:Int)))) (3689348814741910323:Int)))))) (1085102592571150095:Int)) (8:Int)))) (16:Int)))) + (iShr .u64 (u64.wrap ((u64.wrap ((bAnd .u64 (u64.wrap ((iShr .u64 (u64.wrap ((bAnd .u64 (iShr .u64 (u64.wrap ((bAnd .u64 (iShr .u64 a0 (1:Int)) (6148914691236517205:Int)) + (bAnd .u64 a0 (6148914691236517205:Int)))) (2:Int)) (3689348814741910323:Int)) + (bAnd .u64 (u64.wrap ((bAnd .u64 (iShr .u64 a0 (1:Int)) (6148914691236517205:Int)) + (bAnd .u64 a0 (6148914691236517205:Int)))) (3689348814741910323:Int)))) (4:Int)) + (u64.wrap ((bAnd .u64 (iShr .u64 (u64.wrap ((bAnd .u64 (iShr .u64 a0 (1:Int)) (6148914691236517205:Int)) + (bAnd .u64 a0 (6148914691236517205:Int)))) (2:Int)) (3689348814741910323:Int)) + (bAnd .u64 (u64.wrap ((bAnd .u64 (iShr .u64 a0 (1:Int)) (6148914691236517205:Int)) + (bAnd .u64 a0 (6148914691236517205:Int)))) (3689348814741910323:Int)))))) (1085102592571150095:Int)) + (iShr .u64 (bAnd .u64 (u64.wrap ((iShr .u64 (u64.wrap ((bAnd .u64 (iShr .u64 (u64.wrap ((bAnd .u64 (iShr .u64 a0 (1:Int)) (6148914691236517205:Int)) + (bAnd .u64 a0 (6148914691236517205:Int)))) (2:Int)) (3689348814741910323:Int)) + (bAnd .u64 (u64.wrap ((bAnd .u64 (iShr .u64 a0 (1:Int)) (6148914691236517205:Int)) + (bAnd .u64 a0 (6148914691236517205:Int)))) (3689348814741910323:Int)))) (4:Int)) + (u64.wrap ((bAnd .u64 (iShr .u64 (u64.wrap ((bAnd .u64 (iShr .u64 a0 (1:Int)) (6148914691236517205:Int)) + (bAnd .u64 a0 (6148914691236517205:Int)))) (2:Int)) (3689348814741910323:Int)) + (bAnd .u64 (u64.wrap ((bAnd .u64 (iShr .u64 a0 (1:Int)) (6148914691236517205:Int)) + (bAnd .u64 a0 (6148914691236517205:Int)))) (3689348814741910323:Int)))))) (1085102592571150095:Int)) (8:Int)))) + (iShr .u64 (u64.wrap ((bAnd .u64 (u64.wrap ((iShr .u64 (u64.wrap ((bAnd .u64 (iShr .u64 (u64.wrap ((bAnd .u64 (iShr .u64 a0 (1:Int)) (6148914691236517205:Int)) + (bAnd .u64 a0 (6148914691236517205:Int)))) (2:Int)) (3689348814741910323:Int)) + (bAnd .u64 (u64.wrap ((bAnd .u64 (iShr .u64 a0 (1:Int)) (6148914691236517205:Int)) + (bAnd .u64 a0 (6148914691236517205:Int)))) (3689348814741910323:Int)))) (4:Int)) + (u64.wrap ((bAnd .u64 (iShr .u64 (u64.wrap ((bAnd .u64 (iShr .u64 a0 (1:Int)) (6148914691236517205:Int)) + (bAnd .u64 a0 (6148914691236517205:Int)))) (2:Int)) (3689348814741910323:Int)) + (bAnd .u64 (u64.wrap ((bAnd .u64 (iShr .u64 a0 (1:Int)) (6148914691236517205:Int)) + (bAnd .u64 a0 (6148914691236517205:Int)))) (3689348814741910323:Int)))))) (1085102592571150095:Int)) + (iShr .u64 (bAnd .u64 (u64.wrap ((iShr .u64 (u64.wrap ((bAnd .u64 (iShr .u64 (u64.wrap ((bAnd .u64 (iShr .u64 a0 (1:Int)) (6148914691236517205:Int)) + (bAnd .u64 a0 (6148914691236517205:Int)))) (2:Int)) (3689348814741910323:Int)) + (bAnd .u64 (u64.wrap ((bAnd .u64 (iShr .u64 a0 (1:Int)) (6148914691236517205:Int)) + (bAnd .u64 a0 (6148914691236517205:Int)))) (3689348814741910323:Int)))) (4:Int)) + (u64.wrap ((bAnd .u64 (iShr .u64 (u64.wrap ((bAnd .u64 (iShr .u64 a0 (1:Int)) (6148914691236517205:Int)) + (bAnd .u64 a0 (6148914691236517205:Int)))) (2:Int)) (3689348814741910323:Int)) + (bAnd .u64 (u64.wrap ((bAnd .u64 (iShr .u64 a0 (1:Int)) (6148914691236517205:Int)) + (bAnd .u64 a0 (6148914691236517205:Int)))) (3689348814741910323:Int)))))) (1085102592571150095:Int)) (8:Int)))) (16:Int)))) (32:Int))))) z z z (wl_nil (tn (wp_seq (wrl (wv (.int .u64 (u64.wrap ((u64.wrap ((u64.wrap ((bAnd .u64 (u64.wrap ((iShr .u64 (u64.wrap ((bAnd .u64 (iShr .u64 (u64.wrap ((bAnd .u64 (iShr .u64 a0 (1:Int)) (6148914691236517205:Int)) + (bAnd .u64 a0 (6148914691236517205:Int)))) (2:Int)) (3689348814741910323:Int)) + (bAnd .u64 (u64.wrap ((bAnd .u64 (iShr .u64 a0 (1:Int)) (6148914691236517205:Int)) + (bAnd .u64 a0 (6148914691236517205:Int)))) (3689348814741910323:Int)))) (4:Int)) + (u64.wrap ((bAnd .u64 (iShr .u64 (u64.wrap ((bAnd .u64 (iShr .u64 a0 (1:Int)) (6148914691236517205:Int)) + (bAnd .u64 a0 (6148914691236517205:Int)))) (2:Int)) (3689348814741910323:Int)) + (bAnd .u64 (u64.wrap ((bAnd .u64 (iShr .u64 a0 (1:Int)) (6148914691236517205:Int)) + (bAnd .u64 a0 (6148914691236517205:Int)))) (3689348814741910323:Int)))))) (1085102592571150095:Int)) + (iShr .u64 (bAnd .u64 (u64.wrap ((iShr .u64 (u64.wrap ((bAnd .u64 (iShr .u64 (u64.wrap ((bAnd .u64 (iShr .u64 a0 (1:Int)) (6148914691236517205:Int)) + (bAnd .u64 a0 (6148914691236517205:Int)))) (2:Int)) (3689348814741910323:Int)) + (bAnd .u64 (u64.wrap ((bAnd .u64 (iShr .u64 a0 (1:Int)) (6148914691236517205:Int)) + (bAnd .u64 a0 (6148914691236517205:Int)))) (3689348814741910323:Int)))) (4:Int)) + (u64.wrap ((bAnd .u64 (iShr .u64 (u64.wrap ((bAnd .u64 (iShr .u64 a0 (1:Int)) (6148914691236517205:Int)) + (bAnd .u64 a0 (6148914691236517205:Int)))) (2:Int)) (3689348814741910323:Int)) + (bAnd .u64 (u64.wrap ((bAnd .u64 (iShr .u64 a0 (1:Int)) (6148914691236517205:Int)) + (bAnd .u64 a0 (6148914691236517205:Int)))) (3689348814741910323:Int)))))) (1085102592571150095:Int)) (8:Int)))) + (iShr .u64 (u64.wrap ((bAnd .u64 (u64.wrap ((iShr .u64 (u64.wrap ((bAnd .u64 (iShr .u64 (u64.wrap ((bAnd .u64 (iShr .u64 a0 (1:Int)) (6148914691236517205:Int)) + (bAnd .u64 a0 (6148914691236517205:Int)))) (2:Int)) (3689348814741910323:Int)) + (bAnd .u64 (u64.wrap ((bAnd .u64 (iShr .u64 a0 (1:Int)) (6148914691236517205:Int)) + (bAnd .u64 a0 (6148914691236517205:Int)))) (3689348814741910323:Int)))) (4:Int)) + (u64.wrap ((bAnd .u64 (iShr .u64 (u64.wrap ((bAnd .u64 (iShr .u64 a0 (1:Int)) (6148914691236517205:Int)) + (bAnd .u64 a0 (6148914691236517205:Int)))) (2:Int)) (3689348814741910323:Int)) + (bAnd .u64 (u64.wrap ((bAnd .u64 (iShr .u64 a0 (1:Int)) (6148914691236517205:Int)) + (bAnd .u64 a0 (6148914691236517205:Int)))) (3689348814741910323:Int)))))) (1085102592571150095:Int)) + (iShr .u64 (bAnd .u64 (u64.wrap ((iShr .u64 (u64.wrap ((bAnd .u64 (iShr .u64 (u64.wrap ((bAnd .u64 (iShr .u64 a0 (1:Int)) (6148914691236517205:Int)) + (bAnd .u64 a0 (6148914691236517205:Int)))) (2:Int)) (3689348814741910323:Int)) + (bAnd .u64 (u64.wrap ((bAnd .u64 (iShr .u64 a0 (1:Int)) (6148914691236517205:Int)) + (bAnd .u64 a0 (6148914691236517205:Int)))) (3689348814741910323:Int)))) (4:Int)) + (u64.wrap ((bAnd .u64 (iShr .u64 (u64.wrap ((bAnd .u64 (iShr .u64 a0 (1:Int)) (6148914691236517205:Int)) + (bAnd .u64 a0 (6148914691236517205:Int)))) (2:Int)) (3689348814741910323:Int)) + (bAnd .u64 (u64.wrap ((bAnd .u64 (iShr .u64 a0 (1:Int)) (6148914691236517205:Int)) + (bAnd .u64 a0 (6148914691236517205:Int)))) (3689348814741910323:Int)))))) (1085102592571150095:Int)) (8:Int)))) (16:Int)))) + (iShr .u64 (u64.wrap ((u64.wrap ((bAnd .u64 (u64.wrap ((iShr .u64 (u64.wrap ((bAnd .u64 (iShr .u64 (u64.wrap ((bAnd .u64 (iShr .u64 a0 (1:Int)) (6148914691236517205:Int)) + (bAnd .u64 a0 (6148914691236517205:Int)))) (2:Int)) (3689348814741910323:Int)) + (bAnd .u64 (u64.wrap ((bAnd .u64 (iShr .u64 a0 (1:Int)) (6148914691236517205:Int)) + (bAnd .u64 a0 (6148914691236517205:Int)))) (3689348814741910323:Int)))) (4:Int)) + (u64.wrap ((bAnd .u64 (iShr .u64 (u64.wrap ((bAnd .u64 (iShr .u64 a0 (1:Int)) (6148914691236517205:Int)) + (bAnd .u64 a0 (6148914691236517205:Int)))) (2:Int)) (3689348814741910323:Int)) + (bAnd .u64 (u64.wrap ((bAnd .u64 (iShr .u64 a0 (1:Int)) (6148914691236517205:Int)) + (bAnd .u64 a0 (6148914691236517205:Int)))) (3689348814741910323:Int)))))) (1085102592571150095:Int)) + (iShr .u64 (bAnd .u64 (u64.wrap ((iShr .u64 (u64.wrap ((bAnd .u64 (iShr .u64 (u64.wrap ((bAnd .u64 (iShr .u64 a0 (1:Int)) (6148914691236517205:Int)) + (bAnd .u64 a0 (6148914691236517205:Int)))) (2:Int)) (3689348814741910323:Int)) + (bAnd .u64 (u64.wrap ((bAnd .u64 (iShr .u64 a0 (1:Int)) (6148914691236517205:Int)) + (bAnd .u64 a0 (6148914691236517205:Int)))) (3689348814741910323:Int)))) (4:Int)) + (u64.wrap ((bAnd .u64 (iShr .u64 (u64.wrap ((bAnd .u64 (iShr .u64 a0 (1:Int)) (6148914691236517205:Int)) + (bAnd .u64 a0 (6148914691236517205:Int)))) (2:Int)) (3689348814741910323:Int)) + (bAnd .u64 (u64.wrap ((bAnd .u64 (iShr .u64 a0 (1:Int)) (6148914691236517205:Int)) + (bAnd .u64 a0 (6148914691236517205:Int)))) (3689348814741910323:Int)))))) (1085102592571150095:Int)) (8:Int)))) + (iShr .u64 (u64.wrap ((bAnd .u64 (u64.wrap ((iShr .u64 (u64.wrap ((bAnd .u64 (iShr .u64 (u64.wrap ((bAnd .u64 (iShr .u64 a0 (1:Int)) (6148914691236517205:Int)) + (bAnd .u64 a0 (6148914691236517205:Int)))) (2:Int)) (3689348814741910323:Int)) + (bAnd .u64 (u64.wrap ((bAnd .u64 (iShr .u64 a0 (1:Int)) (6148914691236517205:Int)) + (bAnd .u64 a0 (6148914691236517205:Int)))) (3689348814741910323:Int)))) (4:Int)) + (u64.wrap ((bAnd .u64 (iShr .u64 (u64.wrap ((bAnd .u64 (iShr .u64 a0 (1:Int)) (6148914691236517205:Int)) + (bAnd .u64 a0 (6148914691236517205:Int)))) (2:Int)) (3689348814741910323:Int)) + (bAnd .u64 (u64.wrap ((bAnd .u64 (iShr .u64 a0 (1:Int)) (6148914691236517205:Int)) + (bAnd .u64 a0 (6148914691236517205:Int)))) (3689348814741910323:Int)))))) (1085102592571150095:Int)) + (iShr .u64 (bAnd .u64 (u64.wrap ((iShr .u64 (u64.wrap ((bAnd .u64 (iShr .u64 (u64.wrap ((bAnd .u64 (iShr .u64 a0 (1:Int)) (6148914691236517205:Int)) + (bAnd .u64 a0 (6148914691236517205:Int)))) (2:Int)) (3689348814741910323:Int)) + (bAnd .u64 (u64.wrap ((bAnd .u64 (iShr .u64 a0 (1:Int)) (6148914691236517205:Int)) + (bAnd .u64 a0 (6148914691236517205:Int)))) (3689348814741910323:Int)))) (4:Int)) + (u64.wrap ((bAnd .u64 (iShr .u64 (u64.wrap ((bAnd .u64 (iShr .u64 a0 (1:Int)) (6148914691236517205:Int)) + (bAnd .u64 a0 (6148914691236517205:Int)))) (2:Int)) (3689348814741910323:Int)) + (bAnd .u64 (u64.wrap ((bAnd .u64 (iShr .u64 a0 (1:Int)) (6148914691236517205:Int)) + (bAnd .u64 a0 (6148914691236517205:Int)))) (3689348814741910323:Int)))))) (1085102592571150095:Int)) (8:Int)))) (16:Int)))) (32:Int))))) z z z (wv (.int .i64 (i64.wrap (u64.wrap ((u64.wrap ((u64.wrap ((bAnd .u64 (u64.wrap ((iShr .u64 (u64.wrap ((bAnd .u64 (iShr .u64 (u64.wrap ((bAnd .u64 (iShr .u64 a0 (1:Int)) (6148914691236517205:Int)) + (bAnd .u64 a0 (6148914691236517205:Int)))) (2:Int)) (3689348814741910323:Int)) + (bAnd .u64 (u64.wrap ((bAnd .u64 (iShr .u64 a0 (1:Int)) (6148914691236517205:Int)) + (bAnd .u64 a0 (6148914691236517205:Int)))) (3689348814741910323:Int)))) (4:Int)) + (u64.wrap ((bAnd .u64 (iShr .u64 (u64.wrap ((bAnd .u64 (iShr .u64 a0 (1:Int)) (6148914691236517205:Int)) + (bAnd .u64 a0 (6148914691236517205:Int)))) (2:Int)) (3689348814741910323:Int)) + (bAnd .u64 (u64.wrap ((bAnd .u64 (iShr .u64 a0 (1:Int)) (6148914691236517205:Int)) + (bAnd .u64 a0 (6148914691236517205:Int)))) (3689348814741910323:Int)))))) (1085102592571150095:Int)) + (iShr .u64 (bAnd .u64 (u64.wrap ((iShr .u64 (u64.wrap ((bAnd .u64 (iShr .u64 (u64.wrap ((bAnd .u64 (iShr .u64 a0 (1:Int)) (6148914691236517205:Int)) + (bAnd .u64 a0 (6148914691236517205:Int)))) (2:Int)) (3689348814741910323:Int)) + (bAnd .u64 (u64.wrap ((bAnd .u64 (iShr .u64 a0 (1:Int)) (6148914691236517205:Int)) + (bAnd .u64 a0 (6148914691236517205:Int)))) (3689348814741910323:Int)))) (4:Int)) + (u64.wrap ((bAnd .u64 (iShr .u64 (u64.wrap ((bAnd .u64 (iShr .u64 a0 (1:Int)) (6148914691236517205:Int)) + (bAnd .u64 a0 (6148914691236517205:Int)))) (2:Int)) (3689348814741910323:Int)) + (bAnd .u64 (u64.wrap ((bAnd .u64 (iShr .u64 a0 (1:Int)) (6148914691236517205:Int)) + (bAnd .u64 a0 (6148914691236517205:Int)))) (3689348814741910323:Int)))))) (1085102592571150095:Int)) (8:Int)))) + (iShr .u64 (u64.wrap ((bAnd .u64 (u64.wrap ((iShr .u64 (u64.wrap ((bAnd .u64 (iShr .u64 (u64.wrap ((bAnd .u64 (iShr .u64 a0 (1:Int)) (6148914691236517205:Int)) + (bAnd .u64 a0 (6148914691236517205:Int)))) (2:Int)) (3689348814741910323:Int)) + (bAnd .u64 (u64.wrap ((bAnd .u64 (iShr .u64 a0 (1:Int)) (6148914691236517205:Int)) + (bAnd .u64 a0 (6148914691236517205:Int)))) (3689348814741910323:Int)))) (4:Int)) + (u64.wrap ((bAnd .u64 (iShr .u64 (u64.wrap ((bAnd .u64 (iShr .u64 a0 (1:Int)) (6148914691236517205:Int)) + (bAnd .u64 a0 (6148914691236517205:Int)))) (2:Int)) (3689348814741910323:Int)) + (bAnd .u64 (u64.wrap ((bAnd .u64 (iShr .u64 a0 (1:Int)) (6148914691236517205:Int)) + (bAnd .u64 a0 (6148914691236517205:Int)))) (3689348814741910323:Int)))))) (1085102592571150095:Int)) + (iShr .u64 (bAnd .u64 (u64.wrap ((iShr .u64 (u64.wrap ((bAnd .u64 (iShr .u64 (u64.wrap ((bAnd .u64 (iShr .u64 a0 (1:Int)) (6148914691236517205:Int)) + (bAnd .u64 a0 (6148914691236517205:Int)))) (2:Int)) (3689348814741910323:Int)) + (bAnd .u64 (u64.wrap ((bAnd .u64 (iShr .u64 a0 (1:Int)) (6148914691236517205:Int)) + (bAnd .u64 a0 (6148914691236517205:Int)))) (3689348814741910323:Int)))) (4:Int)) + (u64.wrap ((bAnd .u64 (iShr .u64 (u64.wrap ((bAnd .u64 (iShr .u64 a0 (1:Int)) (6148914691236517205:Int)) + (bAnd .u64 a0 (6148914691236517205:Int)))) (2:Int)) (3689348814741910323:Int)) + (bAnd .u64 (u64.wrap ((bAnd .u64 (iShr .u64 a0 (1:Int)) (6148914691236517205:Int)) + (bAnd .u64 a0 (6148914691236517205:Int)))) (3689348814741910323:Int)))))) (1085102592571150095:Int)) (8:Int)))) (16:Int)))) + (iShr .u64 (u64.wrap ((u64.wrap ((bAnd .u64 (u64.wrap ((iShr .u64 (u64.wrap ((bAnd .u64 (iShr .u64 (u64.wrap ((bAnd .u64 (iShr .u64 a0 (1:Int)) (6148914691236517205:Int)) + (bAnd .u64 a0 (6148914691236517205:Int)))) (2:Int)) (3689348814741910323:Int)) + (bAnd .u64 (u64.wrap ((bAnd .u64 (iShr .u64 a0 (1:Int)) (6148914691236517205:Int)) + (bAnd .u64 a0 (6148914691236517205:Int)))) (3689348814741910323:Int)))) (4:Int)) + (u64.wrap ((bAnd .u64 (iShr .u64 (u64.wrap ((bAnd .u64 (iShr .u64 a0 (1:Int)) (6148914691236517205:Int)) + (bAnd .u64 a0 (6148914691236517205:Int)))) (2:Int)) (3689348814741910323:Int)) + (bAnd .u64 (u64.wrap ((bAnd .u64 (iShr .u64 a0 (1:Int)) (6148914691236517205:Int)) + (bAnd .u64 a0 (6148914691236517205:Int)))) (3689348814741910323:Int)))))) (1085102592571150095:Int)) + (iShr .u64 (bAnd .u64 (u64.wrap ((iShr .u64 (u64.wrap ((bAnd .u64 (iShr .u64 (u64.wrap ((bAnd .u64 (iShr .u64 a0 (1:Int)) (6148914691236517205:Int)) + (bAnd .u64 a0 (6148914691236517205:Int)))) (2:Int)) (3689348814741910323:Int)) + (bAnd .u64 (u64.wrap ((bAnd .u64 (iShr .u64 a0 (1:Int)) (6148914691236517205:Int)) + (bAnd .u64 a0 (6148914691236517205:Int)))) (3689348814741910323:Int)))) (4:Int)) + (u64.wrap ((bAnd .u64 (iShr .u64 (u64.wrap ((bAnd .u64 (iShr .u64 a0 (1:Int)) (6148914691236517205:Int)) + (bAnd .u64 a0 (6148914691236517205:Int)))) (2:Int)) (3689348814741910323:Int)) + (bAnd .u64 (u64.wrap ((bAnd .u64 (iShr .u64 a0 (1:Int)) (6148914691236517205:Int)) + (bAnd .u64 a0 (6148914691236517205:Int)))) (3689348814741910323:Int)))))) (1085102592571150095:Int)) (8:Int)))) + (iShr .u64 (u64.wrap ((bAnd .u64 (u64.wrap ((iShr .u64 (u64.wrap ((bAnd .u64 (iShr .u64 (u64.wrap ((bAnd .u64 (iShr .u64 a0 (1:Int)) (6148914691236517205:Int)) + (bAnd .u64 a0 (6148914691236517205:Int)))) (2:Int)) (3689348814741910323:Int)) + (bAnd .u64 (u64.wrap ((bAnd .u64 (iShr .u64 a0 (1:Int)) (6148914691236517205:Int)) + (bAnd .u64 a0 (6148914691236517205:Int)))) (3689348814741910323:Int)))) (4:Int)) + (u64.wrap ((bAnd .u64 (iShr .u64 (u64.wrap ((bAnd .u64 (iShr .u64 a0 (1:Int)) (6148914691236517205:Int)) + (bAnd .u64 a0 (6148914691236517205:Int)))) (2:Int)) (3689348814741910323:Int)) + (bAnd .u64 (u64.wrap ((bAnd .u64 (iShr .u64 a0 (1:Int)) (6148914691236517205:Int)) + (bAnd .u64 a0 (6148914691236517205:Int)))) (3689348814741910323:Int)))))) (1085102592571150095:Int)) + (iShr .u64 (bAnd .u64 (u64.wrap ((iShr .u64 (u64.wrap ((bAnd .u64 (iShr .u64 (u64.wrap ((bAnd .u64 (iShr .u64 a0 (1:Int)) (6148914691236517205:Int)) + (bAnd .u64 a0 (6148914691236517205:Int)))) (2:Int)) (3689348814741910323:Int)) + (bAnd .u64 (u64.wrap ((bAnd .u64 (iShr .u64 a0 (1:Int)) (6148914691236517205:Int)) + (bAnd .u64 a0 (6148914691236517205:Int)))) (3689348814741910323:Int)))) (4:Int)) + (u64.wrap ((bAnd .u64 (iShr .u64 (u64.wrap ((bAnd .u64 (iShr .u64 a0 (1:Int)) (6148914691236517205:Int)) + (bAnd .u64 a0 (6148914691236517205:Int)))) (2:Int)) (3689348814741910323:Int)) + (bAnd .u64 (u64.wrap ((bAnd .u64 (iShr .u64 a0 (1:Int)) (6148914691236517205:Int)) + (bAnd .u64 a0 (6148914691236517205:Int)))) (3689348814741910323:Int)))))) (1085102592571150095:Int)) (8:Int)))) (16:Int)))) (32:Int)))))) z z (by kernel_rfl) (wv (.int .i64 (bAnd .i64 (i64.wrap (u64.wrap ((u64.wrap ((u64.wrap ((bAnd .u64 (u64.wrap ((iShr .u64 (u64.wrap ((bAnd .u64 (iShr .u64 (u64.wrap ((bAnd .u64 (iShr .u64 a0 (1:Int)) (6148914691236517205:Int)) + (bAnd .u64 a0 (6148914691236517205:Int)))) (2:Int)) (3689348814741910323:Int)) + (bAnd .u64 (u64.wrap ((bAnd .u64 (iShr .u64 a0 (1:Int)) (6148914691236517205:Int)) + (bAnd .u64 a0 (6148914691236517205:Int)))) (3689348814741910323:Int)))) (4:Int)) + (u64.wrap ((bAnd .u64 (iShr .u64 (u64.wrap ((bAnd .u64 (iShr .u64 a0 (1:Int)) (6148914691236517205:Int)) + (bAnd .u64 a0 (6148914691236517205:Int)))) (2:Int)) (3689348814741910323:Int)) + (bAnd .u64 (u64.wrap ((bAnd .u64 (iShr .u64 a0 (1:Int)) (6148914691236517205:Int)) + (bAnd .u64 a0 (6148914691236517205:Int)))) (3689348814741910323:Int)))))) (1085102592571150095:Int)) + (iShr .u64 (bAnd .u64 (u64.wrap ((iShr .u64 (u64.wrap ((bAnd .u64 (iShr .u64 (u64.wrap ((bAnd .u64 (iShr .u64 a0 (1:Int)) (6148914691236517205:Int)) + (bAnd .u64 a0 (6148914691236517205:Int)))) (2:Int)) (3689348814741910323:Int)) + (bAnd .u64 (u64.wrap ((bAnd .u64 (iShr .u64 a0 (1:Int)) (6148914691236517205:Int)) + (bAnd .u64 a0 (6148914691236517205:Int)))) (3689348814741910323:Int)))) (4:Int)) + (u64.wrap ((bAnd .u64 (iShr .u64 (u64.wrap ((bAnd .u64 (iShr .u64 a0 (1:Int)) (6148914691236517205:Int)) + (bAnd .u64 a0 (6148914691236517205:Int)))) (2:Int)) (3689348814741910323:Int)) + (bAnd .u64 (u64.wrap ((bAnd .u64 (iShr .u64 a0 (1:Int)) (6148914691236517205:Int)) + (bAnd .u64 a0 (6148914691236517205:Int)))) (3689348814741910323:Int)))))) (1085102592571150095:Int)) (8:Int)))) + (iShr .u64 (u64.wrap ((bAnd .u64 (u64.wrap ((iShr .u64 (u64.wrap ((bAnd .u64 (iShr .u64 (u64.wrap ((bAnd .u64 (iShr .u64 a0 (1:Int)) (6148914691236517205:Int)) + (bAnd .u64 a0 (6148914691236517205:Int)))) (2:Int)) (3689348814741910323:Int)) + (bAnd .u64 (u64.wrap ((bAnd .u64 (iShr .u64 a0 (1:Int)) (6148914691236517205:Int)) + (bAnd .u64 a0 (6148914691236517205:Int)))) (3689348814741910323:Int)))) (4:Int)) + (u64.wrap ((bAnd .u64 (iShr .u64 (u64.wrap ((bAnd .u64 (iShr .u64 a0 (1:Int)) (6148914691236517205:Int)) + (bAnd .u64 a0 (6148914691236517205:Int)))) (2:Int)) (3689348814741910323:Int)) + (bAnd .u64 (u64.wrap ((bAnd .u64 (iShr .u64 a0 (1:Int)) (6148914691236517205:Int)) + (bAnd .u64 a0 (6148914691236517205:Int)))) (3689348814741910323:Int)))))) (1085102592571150095:Int)) + (iShr .u64 (bAnd .u64 (u64.wrap ((iShr .u64 (u64.wrap ((bAnd .u64 (iShr .u64 (u64.wrap ((bAnd .u64 (iShr .u64 a0 (1:Int)) (6148914691236517205:Int)) + (bAnd .u64 a0 (6148914691236517205:Int)))) (2:Int)) (3689348814741910323:Int)) + (bAnd .u64 (u64.wrap ((bAnd .u64 (iShr .u64 a0 (1:Int)) (6148914691236517205:Int)) + (bAnd .u64 a0 (6148914691236517205:Int)))) (3689348814741910323:Int)))) (4:Int)) + (u64.wrap ((bAnd .u64 (iShr .u64 (u64.wrap ((bAnd .u64 (iShr .u64 a0 (1:Int)) (6148914691236517205:Int)) + (bAnd .u64 a0 (6148914691236517205:Int)))) (2:Int)) (3689348814741910323:Int)) + (bAnd .u64 (u64.wrap ((bAnd .u64 (iShr .u64 a0 (1:Int)) (6148914691236517205:Int)) + (bAnd .u64 a0 (6148914691236517205:Int)))) (3689348814741910323:Int)))))) (1085102592571150095:Int)) (8:Int)))) (16:Int)))) + (iShr .u64 (u64.wrap ((u64.wrap ((bAnd .u64 (u64.wrap ((iShr .u64 (u64.wrap ((bAnd .u64 (iShr .u64 (u64.wrap ((bAnd .u64 (iShr .u64 a0 (1:Int)) (6148914691236517205:Int)) + (bAnd .u64 a0 (6148914691236517205:Int)))) (2:Int)) (3689348814741910323:Int)) + (bAnd .u64 (u64.wrap ((bAnd .u64 (iShr .u64 a0 (1:Int)) (6148914691236517205:Int)) + (bAnd .u64 a0 (6148914691236517205:Int)))) (3689348814741910323:Int)))) (4:Int)) + (u64.wrap ((bAnd .u64 (iShr .u64 (u64.wrap ((bAnd .u64 (iShr .u64 a0 (1:Int)) (6148914691236517205:Int)) + (bAnd .u64 a0 (6148914691236517205:Int)))) (2:Int)) (3689348814741910323:Int)) + (bAnd .u64 (u64.wrap ((bAnd .u64 (iShr .u64 a0 (1:Int)) (6148914691236517205:Int)) + (bAnd .u64 a0 (6148914691236517205:Int)))) (3689348814741910323:Int)))))) (1085102592571150095:Int)) + (iShr .u64 (bAnd .u64 (u64.wrap ((iShr .u64 (u64.wrap ((bAnd .u64 (iShr .u64 (u64.wrap ((bAnd .u64 (iShr .u64 a0 (1:Int)) (6148914691236517205:Int)) + (bAnd .u64 a0 (6148914691236517205:Int)))) (2:Int)) (3689348814741910323:Int)) + (bAnd .u64 (u64.wrap ((bAnd .u64 (iShr .u64 a0 (1:Int)) (6148914691236517205:Int)) + (bAnd .u64 a0 (6148914691236517205:Int)))) (3689348814741910323:Int)))) (4:Int)) + (u64.wrap ((bAnd .u64 (iShr .u64 (u64.wrap ((bAnd .u64 (iShr .u64 a0 (1:Int)) (6148914691236517205:Int)) + (bAnd .u64 a0 (6148914691236517205:Int)))) (2:Int)) (3689348814741910323:Int)) + (bAnd .u64 (u64.wrap ((bAnd .u64 (iShr .u64 a0 (1:Int)) (6148914691236517205:Int)) + (bAnd .u64 a0 (6148914691236517205:Int)))) (3689348814741910323:Int)))))) (1085102592571150095:Int)) (8:Int)))) + (iShr .u64 (u64.wrap ((bAnd .u64 (u64.wrap ((iShr .u64 (u64.wrap ((bAnd .u64 (iShr .u64 (u64.wrap ((bAnd .u64 (iShr .u64 a0 (1:Int)) (6148914691236517205:Int)) + (bAnd .u64 a0 (6148914691236517205:Int)))) (2:Int)) (3689348814741910323:Int)) + (bAnd .u64 (u64.wrap ((bAnd .u64 (iShr .u64 a0 (1:Int)) (6148914691236517205:Int)) + (bAnd .u64 a0 (6148914691236517205:Int)))) (3689348814741910323:Int)))) (4:Int)) + (u64.wrap ((bAnd .u64 (iShr .u64 (u64.wrap ((bAnd .u64 (iShr .u64 a0 (1:Int)) (6148914691236517205:Int)) + (bAnd .u64 a0 (6148914691236517205:Int)))) (2:Int)) (3689348814741910323:Int)) + (bAnd .u64 (u64.wrap ((bAnd .u64 (iShr .u64 a0 (1:Int)) (6148914691236517205:Int)) + (bAnd .u64 a0 (6148914691236517205:Int)))) (3689348814741910323:Int)))))) (1085102592571150095:Int)) + (iShr .u64 (bAnd .u64 (u64.wrap ((iShr .u64 (u64.wrap ((bAnd .u64 (iShr .u64 (u64.wrap ((bAnd .u64 (iShr .u64 a0 (1:Int)) (6148914691236517205:Int)) + (bAnd .u64 a0 (6148914691236517205:Int)))) (2:Int)) (3689348814741910323:Int)) + (bAnd .u64 (u64.wrap ((bAnd .u64 (iShr .u64 a0 (1:Int)) (6148914691236517205:Int)) + (bAnd .u64 a0 (6148914691236517205:Int)))) (3689348814741910323:Int)))) (4:Int)) + (u64.wrap ((bAnd .u64 (iShr .u64 (u64.wrap ((bAnd .u64 (iShr .u64 a0 (1:Int)) (6148914691236517205:Int)) + (bAnd .u64 a0 (6148914691236517205:Int)))) (2:Int)) (3689348814741910323:Int)) + (bAnd .u64 (u64.wrap ((bAnd .u64 (iShr .u64 a0 (1:Int)) (6148914691236517205:Int)) + (bAnd .u64 a0 (6148914691236517205:Int)))) (3689348814741910323:Int)))))) (1085102592571150095:Int)) (8:Int)))) (16:Int)))) (32:Int))))) (127:Int))) z z z (wv (.int .i64 (bAnd .i64 (i64.wrap (u64.wrap ((u64.wrap ((u64.wrap ((bAnd .u64 (u64.wrap ((iShr .u64 (u64.wrap ((bAnd .u64 (iShr .u64 (u64.wrap ((bAnd .u64 (iShr .u64 a0 (1:Int)) (6148914691236517205:Int)) + (bAnd .u64 a0 (6148914691236517205:Int)))) (2:Int)) (3689348814741910323:Int)) + (bAnd .u64 (u64.wrap ((bAnd .u64 (iShr .u64 a0 (1:Int)) (6148914691236517205:Int)) + (bAnd .u64 a0 (6148914691236517205:Int)))) (3689348814741910323:Int)))) (4:Int)) + (u64.wrap ((bAnd .u64 (iShr .u64 (u64.wrap ((bAnd .u64 (iShr .u64 a0 (1:Int)) (6148914691236517205:Int)) + (bAnd .u64 a0 (6148914691236517205:Int)))) (2:Int)) (3689348814741910323:Int)) + (bAnd .u64 (u64.wrap ((bAnd .u64 (iShr .u64 a0 (1:Int)) (6148914691236517205:Int)) + (bAnd .u64 a0 (6148914691236517205:Int)))) (3689348814741910323:Int)))))) (1085102592571150095:Int)) + (iShr .u64 (bAnd .u64 (u64.wrap ((iShr .u64 (u64.wrap ((bAnd .u64 (iShr .u64 (u64.wrap ((bAnd .u64 (iShr .u64 a0 (1:Int)) (6148914691236517205:Int)) + (bAnd .u64 a0 (6148914691236517205:Int)))) (2:Int)) (3689348814741910323:Int)) + (bAnd .u64 (u64.wrap ((bAnd .u64 (iShr .u64 a0 (1:Int)) (6148914691236517205:Int)) + (bAnd .u64 a0 (6148914691236517205:Int)))) (3689348814741910323:Int)))) (4:Int)) + (u64.wrap ((bAnd .u64 (iShr .u64 (u64.wrap ((bAnd .u64 (iShr .u64 a0 (1:Int)) (6148914691236517205:Int)) + (bAnd .u64 a0 (6148914691236517205:Int)))) (2:Int)) (3689348814741910323:Int)) + (bAnd .u64 (u64.wrap ((bAnd .u64 (iShr .u64 a0 (1:Int)) (6148914691236517205:Int)) + (bAnd .u64 a0 (6148914691236517205:Int)))) (3689348814741910323:Int)))))) (1085102592571150095:Int)) (8:Int)))) + (iShr .u64 (u64.wrap ((bAnd .u64 (u64.wrap ((iShr .u64 (u64.wrap ((bAnd .u64 (iShr .u64 (u64.wrap ((bAnd .u64 (iShr .u64 a0 (1:Int)) (6148914691236517205:Int)) + (bAnd .u64 a0 (6148914691236517205:Int)))) (2:Int)) (3689348814741910323:Int)) + (bAnd .u64 (u64.wrap ((bAnd .u64 (iShr .u64 a0 (1:Int)) (6148914691236517205:Int)) + (bAnd .u64 a0 (6148914691236517205:Int)))) (3689348814741910323:Int)))) (4:Int)) + (u64.wrap ((bAnd .u64 (iShr .u64 (u64.wrap ((bAnd .u64 (iShr .u64 a0 (1:Int)) (6148914691236517205:Int)) + (bAnd .u64 a0 (6148914691236517205:Int)))) (2:Int)) (3689348814741910323:Int)) + (bAnd .u64 (u64.wrap ((bAnd .u64 (iShr .u64 a0 (1:Int)) (6148914691236517205:Int)) + (bAnd .u64 a0 (6148914691236517205:Int)))) (3689348814741910323:Int)))))) (1085102592571150095:Int)) + (iShr .u64 (bAnd .u64 (u64.wrap ((iShr .u64 (u64.wrap ((bAnd .u64 (iShr .u64 (u64.wrap ((bAnd .u64 (iShr .u64 a0 (1:Int)) (6148914691236517205:Int)) + (bAnd .u64 a0 (6148914691236517205:Int)))) (2:Int)) (3689348814741910323:Int)) + (bAnd .u64 (u64.wrap ((bAnd .u64 (iShr .u64 a0 (1:Int)) (6148914691236517205:Int)) + (bAnd .u64 a0 (6148914691236517205:Int)))) (3689348814741910323:Int)))) (4:Int)) + (u64.wrap ((bAnd .u64 (iShr .u64 (u64.wrap ((bAnd .u64 (iShr .u64 a0 (1:Int)) (6148914691236517205:Int)) + (bAnd .u64 a0 (6148914691236517205:Int)))) (2:Int)) (3689348814741910323:Int)) + (bAnd .u64 (u64.wrap ((bAnd .u64 (iShr .u64 a0 (1:Int)) (6148914691236517205:Int)) + (bAnd .u64 a0 (6148914691236517205:Int)))) (3689348814741910323:Int)))))) (1085102592571150095:Int)) (8:Int)))) (16:Int)))) + (iShr .u64 (u64.wrap ((u64.wrap ((bAnd .u64 (u64.wrap ((iShr .u64 (u64.wrap ((bAnd .u64 (iShr .u64 (u64.wrap ((bAnd .u64 (iShr .u64 a0 (1:Int)) (6148914691236517205:Int)) + (bAnd .u64 a0 (6148914691236517205:Int)))) (2:Int)) (3689348814741910323:Int)) + (bAnd .u64 (u64.wrap ((bAnd .u64 (iShr .u64 a0 (1:Int)) (6148914691236517205:Int)) + (bAnd .u64 a0 (6148914691236517205:Int)))) (3689348814741910323:Int)))) (4:Int)) + (u64.wrap ((bAnd .u64 (iShr .u64 (u64.wrap ((bAnd .u64 (iShr .u64 a0 (1:Int)) (6148914691236517205:Int)) + (bAnd .u64 a0 (6148914691236517205:Int)))) (2:Int)) (3689348814741910323:Int)) + (bAnd .u64 (u64.wrap ((bAnd .u64 (iShr .u64 a0 (1:Int)) (6148914691236517205:Int)) + (bAnd .u64 a0 (6148914691236517205:Int)))) (3689348814741910323:Int)))))) (1085102592571150095:Int)) + (iShr .u64 (bAnd .u64 (u64.wrap ((iShr .u64 (u64.wrap ((bAnd .u64 (iShr .u64 (u64.wrap ((bAnd .u64 (iShr .u64 a0 (1:Int)) (6148914691236517205:Int)) + (bAnd .u64 a0 (6148914691236517205:Int)))) (2:Int)) (3689348814741910323:Int)) + (bAnd .u64 (u64.wrap ((bAnd .u64 (iShr .u64 a0 (1:Int)) (6148914691236517205:Int)) + (bAnd .u64 a0 (6148914691236517205:Int)))) (3689348814741910323:Int)))) (4:Int)) + (u64.wrap ((bAnd .u64 (iShr .u64 (u64.wrap ((bAnd .u64 (iShr .u64 a0 (1:Int)) (6148914691236517205:Int)) + (bAnd .u64 a0 (6148914691236517205:Int)))) (2:Int)) (3689348814741910323:Int)) + (bAnd .u64 (u64.wrap ((bAnd .u64 (iShr .u64 a0 (1:Int)) (6148914691236517205:Int)) + (bAnd .u64 a0 (6148914691236517205:Int)))) (3689348814741910323:Int)))))) (1085102592571150095:Int)) (8:Int)))) + (iShr .u64 (u64.wrap ((bAnd .u64 (u64.wrap ((iShr .u64 (u64.wrap ((bAnd .u64 (iShr .u64 (u64.wrap ((bAnd .u64 (iShr .u64 a0 (1:Int)) (6148914691236517205:Int)) + (bAnd .u64 a0 (6148914691236517205:Int)))) (2:Int)) (3689348814741910323:Int)) + (bAnd .u64 (u64.wrap ((bAnd .u64 (iShr .u64 a0 (1:Int)) (6148914691236517205:Int)) + (bAnd .u64 a0 (6148914691236517205:Int)))) (3689348814741910323:Int)))) (4:Int)) + (u64.wrap ((bAnd .u64 (iShr .u64 (u64.wrap ((bAnd .u64 (iShr .u64 a0 (1:Int)) (6148914691236517205:Int)) + (bAnd .u64 a0 (6148914691236517205:Int)))) (2:Int)) (3689348814741910323:Int)) + (bAnd .u64 (u64.wrap ((bAnd .u64 (iShr .u64 a0 (1:Int)) (6148914691236517205:Int)) + (bAnd .u64 a0 (6148914691236517205:Int)))) (3689348814741910323:Int)))))) (1085102592571150095:Int)) + (iShr .u64 (bAnd .u64 (u64.wrap ((iShr .u64 (u64.wrap ((bAnd .u64 (iShr .u64 (u64.wrap ((bAnd .u64 (iShr .u64 a0 (1:Int)) (6148914691236517205:Int)) + (bAnd .u64 a0 (6148914691236517205:Int)))) (2:Int)) (3689348814741910323:Int)) + (bAnd .u64 (u64.wrap ((bAnd .u64 (iShr .u64 a0 (1:Int)) (6148914691236517205:Int)) + (bAnd .u64 a0 (6148914691236517205:Int)))) (3689348814741910323:Int)))) (4:Int)) + (u64.wrap ((bAnd .u64 (iShr .u64 (u64.wrap ((bAnd .u64 (iShr .u64 a0 (1:Int)) (6148914691236517205:Int)) + (bAnd .u64 a0 (6148914691236517205:Int)))) (2:Int)) (3689348814741910323:Int)) + (bAnd .u64 (u64.wrap ((bAnd .u64 (iShr .u64 a0 (1:Int)) (6148914691236517205:Int)) + (bAnd .u64 a0 (6148914691236517205:Int)))) (3689348814741910323:Int)))))) (1085102592571150095:Int)) (8:Int)))) (16:Int)))) (32:Int))))) (127:Int))) z z z (wl_nil (tn (wp_ret ?_))))))))))))))
 obtain rfl := some_inj hm
 refine post_ret (vs := [I6 (bAnd .i64 (i64.wrap (u64.wrap ((u64.wrap ((u64.wrap ((bAnd .u64 (u64.wrap ((iShr .u64 (u64.wrap ((bAnd .u64 (iShr .u64 (u64.wrap ((bAnd .u64 (iShr .u64 a0 (1:Int)) (6148914691236517205:Int)) + (bAnd .u64 a0 (6148914691236517205:Int)))) (2:Int)) (3689348814741910323:Int)) + (bAnd .u64 (u64.wrap ((bAnd .u64 (iShr .u64 a0 (1:Int)) (6148914691236517205:Int)) + (bAnd .u64 a0 (6148914691236517205:Int)))) (3689348814741910323:Int)))) (4:Int)) + (u64.wrap ((bAnd .u64 (iShr .u64 (u64.wrap ((bAnd .u64 (iShr .u64 a0 (1:Int)) (6148914691236517205:Int)) + (bAnd .u64 a0 (6148914691236517205:Int)))) (2:Int)) (3689348814741910323:Int)) + (bAnd .u64 (u64.wrap ((bAnd .u64 (iShr .u64 a0 (1:Int)) (6148914691236517205:Int)) + (bAnd .u64 a0 (6148914691236517205:Int)))) (3689348814741910323:Int)))))) (1085102592571150095:Int)) + (iShr .u64 (bAnd .u64 (u64.wrap ((iShr .u64 (u64.wrap ((bAnd .u64 (iShr .u64 (u64.wrap ((bAnd .u64 (iShr .u64 a0 (1:Int)) (6148914691236517205:Int)) + (bAnd .u64 a0 (6148914691236517205:Int)))) (2:Int)) (3689348814741910323:Int)) + (bAnd .u64 (u64.wrap ((bAnd .u64 (iShr .u64 a0 (1:Int)) (6148914691236517205:Int)) + (bAnd .u64 a0 (6148914691236517205:Int)))) (3689348814741910323:Int)))) (4:Int)) + (u64.wrap ((bAnd .u64 (iShr .u64 (u64.wrap ((bAnd .u64 (iShr .u64 a0 (1:Int)) (6148914691236517205:Int)) + (bAnd .u64 a0 (6148914691236517205:Int)))) (2:Int)) (3689348814741910323:Int)) + (bAnd .u64 (u64.wrap ((bAnd .u64 (iShr .u64 a0 (1:Int)) (6148914691236517205:Int)) + (bAnd .u64 a0 (6148914691236517205:Int)))) (3689348814741910323:Int)))))) (1085102592571150095:Int)) (8:Int)))) + (iShr .u64 (u64.wrap ((bAnd .u64 (u64.wrap ((iShr .u64 (u64.wrap ((bAnd .u64 (iShr .u64 (u64.wrap ((bAnd .u64 (iShr .u64 a0 (1:Int)) (6148914691236517205:Int)) + (bAnd .u64 a0 (6148914691236517205:Int)))) (2:Int)) (3689348814741910323:Int)) + (bAnd .u64 (u64.wrap ((bAnd .u64 (iShr .u64 a0 (1:Int)) (6148914691236517205:Int)) + (bAnd .u64 a0 (6148914691236517205:Int)))) (3689348814741910323:Int)))) (4:Int)) + (u64.wrap ((bAnd .u64 (iShr .u64 (u64.wrap ((bAnd .u64 (iShr .u64 a0 (1:Int)) (6148914691236517205:Int)) + (bAnd .u64 a0 (6148914691236517205:Int)))) (2:Int)) (3689348814741910323:Int)) + (bAnd .u64 (u64.wrap ((bAnd .u64 (iShr .u64 a0 (1:Int)) (6148914691236517205:Int)) + (bAnd .u64 a0 (6148914691236517205:Int)))) (3689348814741910323:Int)))))) (1085102592571150095:Int)) + (iShr .u64 (bAnd .u64 (u64.wrap ((iShr .u64 (u64.wrap ((bAnd .u64 (iShr .u64 (u64.wrap ((bAnd .u64 (iShr .u64 a0 (1:Int)) (6148914691236517205:Int)) + (bAnd .u64 a0 (6148914691236517205:Int)))) (2:Int)) (3689348814741910323:Int)) + (bAnd .u64 (u64.wrap ((bAnd .u64 (iShr .u64 a0 (1:Int)) (6148914691236517205:Int)) + (bAnd .u64 a0 (6148914691236517205:Int)))) (3689348814741910323:Int)))) (4:Int)) + (u64.wrap ((bAnd .u64 (iShr .u64 (u64.wrap ((bAnd .u64 (iShr .u64 a0 (1:Int)) (6148914691236517205:Int)) + (bAnd .u64 a0 (6148914691236517205:Int)))) (2:Int)) (3689348814741910323:Int)) + (bAnd .u64 (u64.wrap ((bAnd .u64 (iShr .u64 a0 (1:Int)) (6148914691236517205:Int)) + (bAnd .u64 a0 (6148914691236517205:Int)))) (3689348814741910323:Int)))))) (1085102592571150095:Int)) (8:Int)))) (16:Int)))) + (iShr .u64 (u64.wrap ((u64.wrap ((bAnd .u64 (u64.wrap ((iShr .u64 (u64.wrap ((bAnd .u64 (iShr .u64 (u64.wrap ((bAnd .u64 (iShr .u64 a0 (1:Int)) (6148914691236517205:Int)) + (bAnd .u64 a0 (6148914691236517205:Int)))) (2:Int)) (3689348814741910323:Int)) + (bAnd .u64 (u64.wrap ((bAnd .u64 (iShr .u64 a0 (1:Int)) (6148914691236517205:Int)) + (bAnd .u64 a0 (6148914691236517205:Int)))) (3689348814741910323:Int)))) (4:Int)) + (u64.wrap ((bAnd .u64 (iShr .u64 (u64.wrap ((bAnd .u64 (iShr .u64 a0 (1:Int)) (6148914691236517205:Int)) + (bAnd .u64 a0 (6148914691236517205:Int)))) (2:Int)) (3689348814741910323:Int)) + (bAnd .u64 (u64.wrap ((bAnd .u64 (iShr .u64 a0 (1:Int)) (6148914691236517205:Int)) + (bAnd .u64 a0 (6148914691236517205:Int)))) (3689348814741910323:Int)))))) (1085102592571150095:Int)) + (iShr .u64 (bAnd .u64 (u64.wrap ((iShr .u64 (u64.wrap ((bAnd .u64 (iShr .u64 (u64.wrap ((bAnd .u64 (iShr .u64 a0 (1:Int)) (6148914691236517205:Int)) + (bAnd .u64 a0 (6148914691236517205:Int)))) (2:Int)) (3689348814741910323:Int)) + (bAnd .u64 (u64.wrap ((bAnd .u64 (iShr .u64 a0 (1:Int)) (6148914691236517205:Int)) + (bAnd .u64 a0 (6148914691236517205:Int)))) (3689348814741910323:Int)))) (4:Int)) + (u64.wrap ((bAnd .u64 (iShr .u64 (u64.wrap ((bAnd .u64 (iShr .u64 a0 (1:Int)) (6148914691236517205:Int)) + (bAnd .u64 a0 (6148914691236517205:Int)))) (2:Int)) (3689348814741910323:Int)) + (bAnd .u64 (u64.wrap ((bAnd .u64 (iShr .u64 a0 (1:Int)) (6148914691236517205:Int)) + (bAnd .u64 a0 (6148914691236517205:Int)))) (3689348814741910323:Int)))))) (1085102592571150095:Int)) (8:Int)))) + (iShr .u64 (u64.wrap ((bAnd .u64 (u64.wrap ((iShr .u64 (u64.wrap ((bAnd .u64 (iShr .u64 (u64.wrap ((bAnd .u64 (iShr .u64 a0 (1:Int)) (6148914691236517205:Int)) + (bAnd .u64 a0 (6148914691236517205:Int)))) (2:Int)) (3689348814741910323:Int)) + (bAnd .u64 (u64.wrap ((bAnd .u64 (iShr .u64 a0 (1:Int)) (6148914691236517205:Int)) + (bAnd .u64 a0 (6148914691236517205:Int)))) (3689348814741910323:Int)))) (4:Int)) + (u64.wrap ((bAnd .u64 (iShr .u64 (u64.wrap ((bAnd .u64 (iShr .u64 a0 (1:Int)) (6148914691236517205:Int)) + (bAnd .u64 a0 (6148914691236517205:Int)))) (2:Int)) (3689348814741910323:Int)) + (bAnd .u64 (u64.wrap ((bAnd .u64 (iShr .u64 a0 (1:Int)) (6148914691236517205:Int)) + (bAnd .u64 a0 (6148914691236517205:Int)))) (3689348814741910323:Int)))))) (1085102592571150095:Int)) + (iShr .u64 (bAnd .u64 (u64.wrap ((iShr .u64 (u64.wrap ((bAnd .u64 (iShr .u64 (u64.wrap ((bAnd .u64 (iShr .u64 a0 (1:Int)) (6148914691236517205:Int)) + (bAnd .u64 a0 (6148914691236517205:Int)))) (2:Int)) (3689348814741910323:Int)) + (bAnd .u64 (u64.wrap ((bAnd .u64 (iShr .u64 a0 (1:Int)) (6148914691236517205:Int)) + (bAnd .u64 a0 (6148914691236517205:Int)))) (3689348814741910323:Int)))) (4:Int)) + (u64.wrap ((bAnd .u64 (iShr .u64 (u64.wrap ((bAnd .u64 (iShr .u64 a0 (1:Int)) (6148914691236517205:Int)) + (bAnd .u64 a0 (6148914691236517205:Int)))) (2:Int)) (3689348814741910323:Int)) + (bAnd .u64 (u64.wrap ((bAnd .u64 (iShr .u64 a0 (1:Int)) (6148914691236517205:Int)) + (bAnd .u64 a0 (6148914691236517205:Int)))) (3689348814741910323:Int)))))) (1085102592571150095:Int)) (8:Int)))) (16:Int)))) (32:Int))))) (127:Int))]) results31 (rvs_cons (rv_tmp z) rvs_nil) ?_
 exact ⟨z, hst.keep0⟩
}

theorem cmp_isNaN_int_ref {w0 w : World} {I : HL} {R : SP} {a0 : Int}  (hst : St w0 w I [] R) {r : (Bool)} (hm : cmp_isNaN_int a0 = some r) :
  Calls prog 38 #[I6 a0] w fun e w' => e = .returned (.bool r) ∧ St w0 w' I [] R := by {
 unfold cmp_isNaN_int at hm
 refine calls_start (args := [I6 a0]) func38 z ntmps38 (Nat.le_of_ble_eq_true z) ?_
 refine wp_seq (wrl (wv (.bool false) z z z (wl_nil (tn (wp_seq (wrl (wv (.int .i64 a0) z z z (wv (.int .i64 a0) z z z (wv (.bool (a0 != a0)) z z z (wv (.bool (a0 != a0)) z z z (wl_nil (tn (wp_ret ?_)))))))))))))
 obtain rfl := some_inj hm
 refine post_ret (vs := [.bool (a0 != a0)]) results38 (rvs_cons (rv_tmp z) rvs_nil) ?_
 exact ⟨z, hst.keep0⟩
}

theorem cmp_Compare_int_ref {w0 w : World} {I : HL} {R : SP} {a0 : Int} {a1 : Int}  (hst : St w0 w I [] R) {r : (Int)} (hm : cmp_Compare_int a0 a1 = some r) :
  Calls prog 30 #[I6 a0, I6 a1] w fun e w' => e = .returned (.int .i64 r) ∧ St w0 w' I [] R := by {
 unfold cmp_Compare_int at hm
 refine calls_start (args := [I6 a0, I6 a1]) func30 z ntmps30 (Nat.le_of_ble_eq_true z) ?_
 refine wp_seq (wrl (wv (.int .i64 (0:Int)) z z z (wl_nil (tn (wp_seq (wrl (wv (.int .i64 a0) z z z ?_)))))))
 obtain ⟨t2389, ht2390, hm⟩ := bind_some hm
 refine wc call38 [I6 a0] z z z ?_
 refine (cmp_isNaN_int_ref hst.to0 ht2390).mono ?_
 rintro _ w2391 ⟨rfl, hst⟩
 refine ⟨_, z, ?_⟩
 replace hst := hst.of0
 refine wv (.bool t2389) z z z (wl_nil (tn (wp_seq (wrl (wv (.int .i64 a1) z z z ?_)))))
 obtain ⟨t2394, ht2395, hm⟩ := bind_some hm
 refine wc call38 [I6 a1] z z z ?_
 refine (cmp_isNaN_int_ref hst.to0 ht2395).mono ?_
 rintro _ w2396 ⟨rfl, hst⟩
 refine ⟨_, z, ?_⟩
 replace hst := hst.of0
 refine wv (.bool t2394) z z z (wl_nil (tn (wp_seq (wp_seq (wrl (wv (.bool t2389) z z z (wl_nil (tn ?_))))))))
 refine bsplit t2389 (fun hc2399 => ?_) (fun hc2399 => ?_)
 {
 replace hm := bif_t hc2399 hm
 refine wp_ift (cvb hc2399) ?_
 refine wp_seq (wp_seq (wrl (wv (.bool t2394) z z z (wl_nil (tn ?_)))))
 refine bsplit t2394 (fun hc2400 => ?_) (fun hc2400 => ?_)
 {
 replace hm := bif_t hc2400 hm
 refine wp_ift (cvb hc2400) ?_
 refine wp_seq (wrl (wv (.int .i64 (0:Int)) z z z (wl_nil (tn (wp_ret (then_r (then_r ?_)))))))
 obtain rfl := some_inj hm
 refine post_ret (vs := [Zi]) results30 (rvs_cons (rv_tmp z) rvs_nil) ?_
 exact ⟨z, hst.keep0⟩
}
 {
 replace hm := bif_f hc2400 hm
 refine wp_iff (cvb hc2400) ?_
 refine wp_skip (tn (wp_seq (wrl ?_)))
 refine wv (.int .i64 ((-1):Int)) z z z (wl_nil (tn (wp_ret (then_r ?_))))
 obtain rfl := some_inj hm
 refine post_ret (vs := [I6 ((-1):Int)]) results30 (rvs_cons (rv_tmp z) rvs_nil) ?_
 exact ⟨z, hst.keep0⟩
}
}
 {
 replace hm := bif_f hc2399 hm
 refine wp_iff (cvb hc2399) ?_
 refine wp_skip (tn (wp_seq (wp_seq (wrl ?_))))
 refine wv (.bool t2394) z z z (wl_nil (tn ?_))
 refine bsplit t2394 (fun hc2401 => ?_) (fun hc2401 => ?_)
 {
 replace hm := bif_t hc2401 hm
 refine wp_ift (cvb hc2401) ?_
 refine wp_seq (wrl (wv (.int .i64 (1:Int)) z z z (wl_nil (tn (wp_ret (then_r ?_))))))
 obtain rfl := some_inj hm
 refine post_ret (vs := [I6 (1:Int)]) results30 (rvs_cons (rv_tmp z) rvs_nil) ?_
 exact ⟨z, hst.keep0⟩
}
 {
 replace hm := bif_f hc2401 hm
 refine wp_iff (cvb hc2401) ?_
 refine wp_skip (tn (wp_seq (wp_seq (wrl ?_))))
 refine wv (.int .i64 a0) z z z (wv (.int .i64 a1) z z z (wv (.bool (decide (a0 < a1))) z z z (wl_nil (tn ?_))))
 refine bsplit (decide (a0 < a1)) (fun hc2402 => ?_) (fun hc2402 => ?_)
 {
 replace hm := bif_t hc2402 hm
 refine wp_ift (cvb hc2402) ?_
 refine wp_seq (wrl (wv (.int .i64 ((-1):Int)) z z z (wl_nil (tn (wp_ret (then_r ?_))))))
 obtain rfl := some_inj hm
 refine post_ret (vs := [I6 ((-1):Int)]) results30 (rvs_cons (rv_tmp z) rvs_nil) ?_
 exact ⟨z, hst.keep0⟩
}
 {
 replace hm := bif_f hc2402 hm
 refine wp_iff (cvb hc2402) ?_
 refine wp_skip (tn (wp_seq (wp_seq (wrl ?_))))
 refine wv (.int .i64 a0) z z z (wv (.int .i64 a1) z z z (wv (.bool (decide (a0 > a1))) z z z (wl_nil (tn ?_))))
 refine bsplit (decide (a0 > a1)) (fun hc2403 => ?_) (fun hc2403 => ?_)
 {
 replace hm := bif_t hc2403 hm
 refine wp_ift (cvb hc2403) ?_
 refine wp_seq (wrl (wv (.int .i64 (1:Int)) z z z (wl_nil (tn (wp_ret (then_r ?_))))))
 obtain rfl := some_inj hm
 refine post_ret (vs := [I6 (1:Int)]) results30 (rvs_cons (rv_tmp z) rvs_nil) ?_
 exact ⟨z, hst.keep0⟩
}
 {
 replace hm := bif_f hc2403 hm
 refine wp_iff (cvb hc2403) ?_
 refine wp_skip (tn (wp_seq (wrl ?_)))
 refine wv (.int .i64 (0:Int)) z z z (wl_nil (tn (wp_ret ?_)))
 obtain rfl := some_inj hm
 refine post_ret (vs := [Zi]) results30 (rvs_cons (rv_tmp z) rvs_nil) ?_
 exact ⟨z, hst.keep0⟩
}
}
}
}
}

end Go.Proofs.Ytddhkbholbcebaa
