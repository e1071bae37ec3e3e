/- The Go functions refine their models, part 1. -/
import Derived.Test.YtkfifhkjdibadaaSessionPlaysR0
set_option linter.unusedVariables false
set_option linter.unusedSimpArgs false
set_option maxRecDepth 100000
set_option maxHeartbeats 4000000
namespace Go.Proofs.Ytkfifhkjdibadaa
open Go Go.V
open _root_.Go.Proofs.Try IntKind
attribute [local irreducible] wpList Code.wp wpQuiet Calls bodyPost Oper.wp wpS Nx PendOK YieldsIn
theorem ref11_SameReply_ref {w0 w : World} {I : HL} {R : SP} {a0 : api_Reply} {r0_0 : Value} {r0_1 : Value} {a1 : api_Reply} {r1_0 : Value} {r1_1 : Value} (f0_0 : Rd ty_api_Got R I r0_0 a0.Gots) (f0_1 : Rd (tySl ty_api_Pair) R I r0_1 a0.Scans) (f1_0 : Rd ty_api_Got R I r1_0 a1.Gots) (f1_1 : Rd (tySl ty_api_Pair) R I r1_1 a1.Scans) (hst : St w0 w I [] R) {r : (Bool)} (hm : ref11_SameReply a0 a1 = some r) :
  Calls prog 17 #[.agg #[I6 a0.E, U6 a0.Epoch, U6 a0.Index, r0_0, r0_1], .agg #[I6 a1.E, U6 a1.Epoch, U6 a1.Index, r1_0, r1_1]] w fun e w' => e = .returned (.bool r) ∧ St w0 w' I [] R := by {
 unfold ref11_SameReply at hm
 refine calls_start (args := [.agg #[I6 a0.E, U6 a0.Epoch, U6 a0.Index, r0_0, r0_1], .agg #[I6 a1.E, U6 a1.Epoch, U6 a1.Index, r1_0, r1_1]]) func17 z ntmps17 (Nat.le_of_ble_eq_true z) ?_
 refine wp_seq (wrl ?_)
 obtain ⟨b283, w284, ew285, eb286, hst⟩ := hst.box [I6 a0.E, U6 a0.Epoch, U6 a0.Index, r0_0, r0_1] 36
 refine wl_run (v := Pt b283 0) (w' := w284) z z (x_al (by kernel_rfl) ew285 eb286) ?_
 obtain ⟨b288, w289, ew290, eb291, hst⟩ := hst.box [I6 a1.E, U6 a1.Epoch, U6 a1.Index, r1_0, r1_1] 36
 refine wl_run (v := Pt b288 0) (w' := w289) z z (x_al (by kernel_rfl) ew290 eb291) ?_
 refine wv (.bool false) z z z (wl_nil (tn (wp_seq (wp_seq (wrl (wv (Pt b283 0) z z (x_field z underlying36 z sizeOf32 z) (wv (.int .i64 a0.E) z z (x_load z isAgg32 (hst.bc1 z)) (wv (Pt b288 0) z z (x_field z underlying36 z sizeOf32 z) (wv (.int .i64 a1.E) z z (x_load z isAgg32 (hst.bc0 z)) (wv (.bool (a0.E != a1.E)) z z z (wv (.bool (a0.E != a1.E)) z z z ?_)))))))))))
 refine bsplit (a0.E != a1.E) (fun hc293 => ?_) (fun hc293 => ?_)
 {
 replace hm := bif_t hc293 hm
 refine wo hc293 z z z z z z (wo hc293 z z z z z z (wo hc293 z z z z z z (wo hc293 z z z z z z (wo hc293 z z z z z z (wv (.bool true) z z (x_pick_t hc293 z z) (wv (.bool true) z z z (wz z z z z z z (wz z z z z z z (wz z z z z z z (wz z z z z z z (wz z z z z z z (wv (.bool true) z z (x_pick_t z z z) ?_))))))))))))
 refine wv (.bool true) z z z (wz z z z z z z (wz z z z z z z (wz z z z z z z (wz z z z z z z (wz z z z z z z (wz z z z z z z (wv (.bool true) z z (x_pick_t z z z) (wv (.bool true) z z z (wz z z z z z z (wz z z z z z z (wz z z z z z z (wz z z z z z z ?_))))))))))))
 refine wz z z z z z z (wz z z z z z z (wz z z z z z z (wv (.bool true) z z (x_pick_t z z z) (wl_nil (tn ?_)))))
 refine wp_ift z ?_
 refine wp_seq (wrl (wv (.bool false) z z z (wl_nil (tn (wp_ret (then_r ?_))))))
 obtain rfl := some_inj hm
 refine post_ret (vs := [.bool false]) results17 (rvs_cons (rv_tmp z) rvs_nil) ?_
 exact ⟨z, hst.keep0⟩
}
 {
 replace hm := bif_f hc293 hm
 refine wv (Pt b283 1) ((wanted_eq z z z (cvb hc293)).trans z) z (x_field z underlying36 z sizeOf30 z) (wv (.int .u64 a0.Epoch) ((wanted_eq z z z (cvb hc293)).trans z) z (x_load z isAgg30 (hst.bc1 z)) (wv (Pt b288 1) ((wanted_eq z z z (cvb hc293)).trans z) z (x_field z underlying36 z sizeOf30 z) (wv (.int .u64 a1.Epoch) ((wanted_eq z z z (cvb hc293)).trans z) z (x_load z isAgg30 (hst.bc0 z)) (wv (.bool (a0.Epoch != a1.Epoch)) ((wanted_eq z z z (cvb hc293)).trans z) z z (wv (.bool (a0.Epoch != a1.Epoch)) z z (x_pick_f hc293 z z) (wv (.bool (a0.Epoch != a1.Epoch)) z z z ?_))))))
 refine bsplit (a0.Epoch != a1.Epoch) (fun hc294 => ?_) (fun hc294 => ?_)
 {
 replace hm := bif_t hc294 hm
 refine wo hc294 z z z z z z (wo hc294 z z z z z z (wo hc294 z z z z z z (wo hc294 z z z z z z (wo hc294 z z z z z z (wv (.bool true) z z (x_pick_t hc294 z z) (wv (.bool true) z z z (wz z z z z z z (wz z z z z z z (wz z z z z z z (wz z z z z z z (wz z z z z z z (wz z z z z z z ?_))))))))))))
 refine wv (.bool true) z z (x_pick_t z z z) (wv (.bool true) z z z (wz z z z z z z (wz z z z z z z (wz z z z z z z (wz z z z z z z (wz z z z z z z (wz z z z z z z (wz z z z z z z (wv (.bool true) z z (x_pick_t z z z) (wl_nil (tn ?_)))))))))))
 refine wp_ift z ?_
 refine wp_seq (wrl (wv (.bool false) z z z (wl_nil (tn (wp_ret (then_r ?_))))))
 obtain rfl := some_inj hm
 refine post_ret (vs := [.bool false]) results17 (rvs_cons (rv_tmp z) rvs_nil) ?_
 exact ⟨z, hst.keep0⟩
}
 {
 replace hm := bif_f hc294 hm
 refine wv (Pt b283 2) ((wanted_eq z z z (cvb hc294)).trans z) z (x_field z underlying36 z sizeOf30 z) (wv (.int .u64 a0.Index) ((wanted_eq z z z (cvb hc294)).trans z) z (x_load z isAgg30 (hst.bc1 z)) (wv (Pt b288 2) ((wanted_eq z z z (cvb hc294)).trans z) z (x_field z underlying36 z sizeOf30 z) (wv (.int .u64 a1.Index) ((wanted_eq z z z (cvb hc294)).trans z) z (x_load z isAgg30 (hst.bc0 z)) (wv (.bool (a0.Index != a1.Index)) ((wanted_eq z z z (cvb hc294)).trans z) z z (wv (.bool (a0.Index != a1.Index)) z z (x_pick_f hc294 z z) (wv (.bool (a0.Index != a1.Index)) z z z ?_))))))
 refine bsplit (a0.Index != a1.Index) (fun hc295 => ?_) (fun hc295 => ?_)
 {
 replace hm := bif_t hc295 hm
 refine wo hc295 z z z z z z (wo hc295 z z z z z z (wo hc295 z z z z z z (wo hc295 z z z z z z (wo hc295 z z z z z z (wo hc295 z z z z z z (wv (.bool true) z z (x_pick_t hc295 z z) (wv (.bool true) z z z (wz z z z z z z (wz z z z z z z (wz z z z z z z (wz z z z z z z (wz z z z z z z ?_))))))))))))
 refine wz z z z z z z (wz z z z z z z (wv (.bool true) z z (x_pick_t z z z) (wl_nil (tn ?_))))
 refine wp_ift z ?_
 refine wp_seq (wrl (wv (.bool false) z z z (wl_nil (tn (wp_ret (then_r ?_))))))
 obtain rfl := some_inj hm
 refine post_ret (vs := [.bool false]) results17 (rvs_cons (rv_tmp z) rvs_nil) ?_
 exact ⟨z, hst.keep0⟩
}
 {
 replace hm := bif_f hc295 hm
 refine wv (Pt b283 3) ((wanted_eq z z z (cvb hc295)).trans z) z (x_field z underlying36 z sizeOf33 z) (wv (r0_0) ((wanted_eq z z z (cvb hc295)).trans z) z (x_load z isAgg33 (hst.bc1 z)) (wv (Pt b288 3) ((wanted_eq z z z (cvb hc295)).trans z) z (x_field z underlying36 z sizeOf33 z) (wv (r1_0) ((wanted_eq z z z (cvb hc295)).trans z) z (x_load z isAgg33 (hst.bc0 z)) ?_)))
 obtain ⟨t296, ht297, hm⟩ := bind_some hm
 refine wl_call ((wanted_eq z z z (cvb hc295)).trans z) z (x_call call25 z (vs := [r0_0, r1_0]) z) ?_
 refine (ref11_SameGots_ref (f0_0.mono (rd_weak _)) (f1_0.mono (rd_weak _)) hst.to0 ht297).mono ?_
 rintro _ w298 ⟨rfl, hst⟩
 refine ⟨_, z, ?_⟩
 replace hst := hst.of0
 refine wv (.bool (!t296)) ((wanted_eq z z z (cvb hc295)).trans z) z z (wv (.bool (!t296)) z z (x_pick_f hc295 z z) (wv (.bool (!t296)) z z z ?_))
 refine bsplit (!t296) (fun hc301 => ?_) (fun hc301 => ?_)
 {
 replace hm := bif_t hc301 hm
 refine wo hc301 z z z z z z (wo hc301 z z z z z z (wo hc301 z z z z z z (wo hc301 z z z z z z (wo hc301 z z z z z z (wo hc301 z z z z z z (wo hc301 z z z z z z (wv (.bool true) z z (x_pick_t hc301 z z) (wl_nil (tn ?_)))))))))
 refine wp_ift z ?_
 refine wp_seq (wrl (wv (.bool false) z z z (wl_nil (tn (wp_ret (then_r ?_))))))
 obtain rfl := some_inj hm
 refine post_ret (vs := [.bool false]) results17 (rvs_cons (rv_tmp z) rvs_nil) ?_
 exact ⟨z, hst.keep0⟩
}
 {
 replace hm := bif_f hc301 hm
 refine wv (Pt b283 4) ((wanted_eq z z z (cvb hc301)).trans z) z (x_field z underlying36 z sizeOf34 z) (wv (r0_1) ((wanted_eq z z z (cvb hc301)).trans z) z (x_load z isAgg34 (hst.bc1 z)) (wv (.int .i64 ((a0.Scans).length : Int)) ((wanted_eq z z z (cvb hc301)).trans z) z (x_len z underlying34 (rd_sliceV f0_1)) (wv (Pt b288 4) ((wanted_eq z z z (cvb hc301)).trans z) z (x_field z underlying36 z sizeOf34 z) (wv (r1_1) ((wanted_eq z z z (cvb hc301)).trans z) z (x_load z isAgg34 (hst.bc0 z)) (wv (.int .i64 ((a1.Scans).length : Int)) ((wanted_eq z z z (cvb hc301)).trans z) z (x_len z underlying34 (rd_sliceV f1_1)) (wv (.bool (((a0.Scans).length : Int) != ((a1.Scans).length : Int))) ((wanted_eq z z z (cvb hc301)).trans z) z z (wv (.bool (((a0.Scans).length : Int) != ((a1.Scans).length : Int))) z z (x_pick_f hc301 z z) (wl_nil (tn ?_)))))))))
 refine bsplit (((a0.Scans).length : Int) != ((a1.Scans).length : Int)) (fun hc302 => ?_) (fun hc302 => ?_)
 {
 replace hm := bif_t hc302 hm
 refine wp_ift (cvb hc302) ?_
 refine wp_seq (wrl (wv (.bool false) z z z (wl_nil (tn (wp_ret (then_r ?_))))))
 obtain rfl := some_inj hm
 refine post_ret (vs := [.bool false]) results17 (rvs_cons (rv_tmp z) rvs_nil) ?_
 exact ⟨z, hst.keep0⟩
}
 {
 replace hm := bif_f hc302 hm
 refine wp_iff (cvb hc302) ?_
 refine wp_skip (tn (wp_seq (wp_seq (wrl ?_))))
 refine wv (.int .i64 (0:Int)) z z z (wl_nil (tn (wp_block ?_)))
 obtain ⟨n364, hm⟩ := loopO_some hm
 refine wp_loop_n (fun n a w => ∃ (z362 : Int) (σ363 : Nat → Value), loopN (ref11_SameReply_l0 a0 a1) n z362 = some r ∧ a = Fr 61 (upd (upd (upd σ363 2 (Pt b283 0)) 3 (Pt b288 0)) 5 (.int .i64 z362)) ∧ St w0 w I [cells b288 [I6 a1.E, U6 a1.Epoch, U6 a1.Index, r1_0, r1_1], cells b283 [I6 a0.E, U6 a0.Epoch, U6 a0.Index, r0_0, r0_1]] R) n364 ⟨(0:Int), _, hm, (fu 2 (Pt b283 0) z (fu 3 (Pt b288 0) z (fu 5 (.int .i64 (0:Int)) z z))), hst⟩ ?_
 rintro n370 _ w365 ⟨z362, σ363, hm, rfl, hst⟩
 obtain ⟨n367, y368, rfl, hm, hx369⟩ := loopN_some hm
 dsimp only [ref11_SameReply_l0] at hm
 refine wp_seq (wp_seq (wrl (wv (.int .i64 z362) z z z (wv (Pt b283 4) z z (x_field z underlying36 z sizeOf34 z) (wv (r0_1) z z (x_load z isAgg34 (hst.bc1 z)) (wv (.int .i64 ((a0.Scans).length : Int)) z z (x_len z underlying34 (rd_sliceV f0_1)) (wv (.bool (decide (z362 < ((a0.Scans).length : Int)))) z z z (wl_nil (tn ?_)))))))))
 refine bsplit (decide (z362 < ((a0.Scans).length : Int))) (fun hc371 => ?_) (fun hc371 => ?_)
 {
 replace hm := bif_t hc371 hm
 refine wp_ift (cvb hc371) ?_
 refine wp_skip (tn (wp_seq (wp_block (wp_seq ?_))))
 refine wp_region_St hst 12 [0, 1, 2, 3, 4, 5, 6, 7, 8, 9, 10, 11] [0, 1, 0, 7, 15, 0, 32, 0, 224, 480, 1023, 2047] [] z (by kernel_rfl) (by kernel_rfl) Try.mixed (by kernel_rfl) ?_
 refine wsr (Pt b283 4) 0 z z z (by kernel_rfl) (fun w hst => x_field z underlying36 z sizeOf34 z) (wsr (r0_1) 1 z z z (by kernel_rfl) (fun w hst => x_load z isAgg34 (hst.bc1 z)) (wsr (.int .i64 z362) 2 z z z (by kernel_rfl) (fun w hst => z) ?_))
 obtain ⟨x372, hx373, hm⟩ := bind_some hm
 obtain ⟨h374, h375, hi376⟩ := geto_some hx373
 refine wsr (.pointer (some (eAddr r0_1 (z362.toNat * 1 + 0)))) 3 z z z (by kernel_rfl) (fun w hst => x_index z z underlying34 sizeOf60 (rd_sliceV f0_1) h374 h375) ?_
 obtain ⟨cs377, hr378, hc379⟩ := Rd.getF f0_1 hi376
 obtain ⟨v380, rfl, f381, -⟩ := hr378
 refine wsr (v380) 4 z z z (by kernel_rfl) (fun w hst => x_load z isAgg60 ((hc379 (HL.le.refl _) hst) 0 _ z)) (wsr (Pt b288 4) 5 z z z (by kernel_rfl) (fun w hst => x_field z underlying36 z sizeOf34 z) (wsr (r1_1) 6 z z z (by kernel_rfl) (fun w hst => x_load z isAgg34 (hst.bc0 z)) (wsr (.int .i64 z362) 7 z z z (by kernel_rfl) (fun w hst => z) ?_)))
 obtain ⟨x383, hx384, hm⟩ := bind_some hm
 obtain ⟨h385, h386, hi387⟩ := geto_some hx384
 refine wsr (.pointer (some (eAddr r1_1 (z362.toNat * 1 + 0)))) 8 z z z (by kernel_rfl) (fun w hst => x_index z z underlying34 sizeOf60 (rd_sliceV f1_1) h385 h386) ?_
 obtain ⟨cs388, hr389, hc390⟩ := Rd.getF f1_1 hi387
 obtain ⟨v391, rfl, f392, -⟩ := hr389
 refine wsr (v391) 9 z z z (by kernel_rfl) (fun w hst => x_load z isAgg60 ((hc390 (HL.le.refl _) hst) 0 _ z)) ?_
 refine ws_e1 10 (by kernel_rfl) ?_
 refine nxe [11] (by kernel_rfl) z z ?_
 clear hst
 intro w hst
 obtain ⟨t394, ht395, hm⟩ := bind_some hm
 refine wec call26 [v380, v391] z z ?_
 refine (ref11_SamePairs_ref (f381.mono (rd_weak _)) (f392.mono (rd_weak _)) hst.to0 ht395).mono ?_
 rintro _ w396 ⟨rfl, hst⟩
 refine ⟨_, z, ?_⟩
 replace hst := hst.of0
 refine ws_next (pend' := []) hst (by kernel_rfl) pk_nil ?_
 refine wsr (.bool (!t394)) 11 z z z (by kernel_rfl) (fun w hst => z) ?_
 refine ws_nil ?_
 intro w hst
 refine tn ?_
 refine bsplit (!t394) (fun hc399 => ?_) (fun hc399 => ?_)
 {
 replace hm := bif_t hc399 hm
 refine wp_ift (cvb hc399) ?_
 refine wp_seq (wrl (wv (.bool false) z z z (wl_nil (tn (wp_ret (blk_r (then_r (then_r ?_))))))))
 replace hm := inr_up hm hx369
 refine blk_r (then_r ?_)
 obtain rfl := some_inj hm
 refine post_ret (vs := [.bool false]) results17 (rvs_cons (rv_tmp z) rvs_nil) ?_
 exact ⟨z, hst.keep0⟩
}
 {
 replace hm := bif_f hc399 hm
 refine wp_iff (cvb hc399) ?_
 refine wp_skip (blk_n (tn (wrl ?_)))
 refine wv (.int .i64 z362) z z z (wv (.int .i64 (i64.wrap (z362 + (1:Int)))) z z z (wv (.int .i64 (i64.wrap (z362 + (1:Int)))) z z z (wl_nil (tn ?_))))
 replace hst := hst.pull1.pull1.keep2
 obtain rfl := some_inj hm
 exact ⟨_, Nat.lt_succ_self _, (i64.wrap (z362 + (1:Int))), _, hx369, (fu 2 (Pt b283 0) z (fu 3 (Pt b288 0) z (fu 5 (.int .i64 (i64.wrap (z362 + (1:Int)))) z z))), hst⟩
}
}
 {
 replace hm := bif_f hc371 hm
 refine wp_iff (cvb hc371) ?_
 refine wp_exit (then_x (then_x ?_))
 replace hm := inr_up hm hx369
 refine blk_x (tn (wp_seq (wrl ?_)))
 refine wv (.bool true) z z z (wl_nil (tn (wp_ret ?_)))
 obtain rfl := some_inj hm
 refine post_ret (vs := [.bool true]) results17 (rvs_cons (rv_tmp z) rvs_nil) ?_
 exact ⟨z, hst.keep0⟩
}
}
}
}
}
}
}

theorem law14_told_ref {w0 w : World} {I : HL} {R : SP} {a0 : (Option session_Table)} {p0 : Value} {a1 : (List ref11_Answer)} {r1_0 : Value} (f1_0 : Ro ty_ref11_Answer I r1_0 a1) (hst : St w0 w I [objO at_session_Table p0 a0] R) {r : (Bool)} (hm : law14_told a0 a1 = some r) :
  Calls prog 13 #[p0, r1_0] w fun e w' => ∃ (I' : HL), e = .returned (.bool r) ∧ I.le I' ∧ St w0 w' I' [objO at_session_Table p0 a0] R := by {
 unfold law14_told at hm
 refine calls_start (args := [p0, r1_0]) func13 z ntmps13 (Nat.le_of_ble_eq_true z) ?_
 have hI0 := HL.le.refl I
 refine wp_seq (wrl (wv (.bool false) z z z (wl_nil (tn (wp_seq (wp_seq (wrl (wv (p0) z z z ?_))))))))
 obtain ⟨t616, ht617, hm⟩ := bind_some hm
 refine wc call15 [p0] z z z ?_
 refine (session_Table_Len_ref hst.to1 ht617).mono ?_
 rintro _ w618 ⟨rfl, hst⟩
 refine ⟨_, z, ?_⟩
 replace hst := hst.of1
 refine wv (r1_0) z z z (wv (.int .i64 ((a1).length : Int)) z z (x_len z underlying29 (ro_sliceV f1_0)) (wv (.bool (t616 != ((a1).length : Int))) z z z (wl_nil (tn ?_))))
 refine bsplit (t616 != ((a1).length : Int)) (fun hc621 => ?_) (fun hc621 => ?_)
 {
 replace hm := bif_t hc621 hm
 refine wp_ift (cvb hc621) ?_
 refine wp_seq (wrl (wv (.bool false) z z z (wl_nil (tn (wp_ret (then_r ?_))))))
 obtain rfl := some_inj hm
 refine post_ret (vs := [.bool false]) results13 (rvs_cons (rv_tmp z) rvs_nil) ?_
 exact ⟨_, z, hI0, hst.keep1⟩
}
 {
 replace hm := bif_f hc621 hm
 refine wp_iff (cvb hc621) ?_
 refine wp_skip (tn (wp_seq (wp_seq (wrl ?_))))
 refine wv (.int .u64 (0:Int)) z z z (wl_nil (tn (wp_block ?_)))
 obtain ⟨n966, hm⟩ := loopO_some hm
 refine wp_loop_n (fun n a w => ∃ (I964 : HL) (z963 : Int) (σ965 : Nat → Value), loopN (law14_told_l0 a1 a0) n z963 = some r ∧ a = Fr 66 (upd (upd (upd σ965 0 (p0)) 1 (r1_0)) 5 (.int .u64 z963)) ∧ I.le I964 ∧ St w0 w I964 [objO at_session_Table p0 a0] R) n966 ⟨_, (0:Int), _, hm, (fu 0 p0 z (fu 1 r1_0 z (fu 5 (.int .u64 (0:Int)) z z))), (HL.le.refl _), hst⟩ ?_
 rintro n972 _ w967 ⟨I964, z963, σ965, hm, rfl, hL968, hst⟩
 obtain ⟨n969, y970, rfl, hm, hx971⟩ := loopN_some hm
 dsimp only [law14_told_l0] at hm
 replace f1_0 := f1_0.mono (ro_le hL968)
 replace hI0 := hI0.trans hL968
 refine wp_seq (wp_seq (wrl (wv (.int .u64 z963) z z z (wv (.bool (decide (z963 < (6:Int)))) z z z (wl_nil (tn ?_))))))
 refine bsplit (decide (z963 < (6:Int))) (fun hc973 => ?_) (fun hc973 => ?_)
 {
 replace hm := bif_t hc973 hm
 refine wp_ift (cvb hc973) ?_
 refine wp_skip (tn (wp_seq (wp_block (wp_seq (wrl ?_)))))
 refine wv (r1_0) z z z (wv (.int .u64 z963) z z z ?_)
 obtain ⟨t974, ht975, hm⟩ := bind_some hm
 refine wc call22 [r1_0, U6 z963] z z z ?_
 refine (ref11_Last_ref f1_0 hst.to0 ht975).mono ?_
 rintro _ w976 ⟨I977, v979, v982, rfl, hI978, f981, f984, hst⟩
 refine ⟨_, z, ?_⟩
 replace hst := hst.of0
 replace f1_0 := f1_0.mono (ro_le hI978)
 replace hI0 := hI0.trans hI978
 replace hL968 := hL968.trans hI978
 obtain ⟨b987, w988, ew989, eb990, hst⟩ := hst.box [Zu, Zu, Zi, Zu, Zu, Zs, Zs] 66
 refine wl_run (v := Pt b987 0) (w' := w988) z z (x_al (by kernel_rfl) ew989 eb990) ?_
 obtain ⟨w992, hr993, hst⟩ := hst.bx [U6 t974.Session, U6 t974.Seq, I6 t974.R.E, U6 t974.R.Epoch, U6 t974.R.Index, v979, v982] sizeOf66 z (oC z (oC z (oC z (oC z (oC z (oC (one_of_sliceV (ro_sliceV f981)) (oC (one_of_sliceV (ro_sliceV f984)) oN))))))) (by kernel_rfl)
 refine wl_unit z z (x_unit hr993) ?_
 refine wl_nil (tn (wp_seq (wp_seq ?_)))
 refine wp_region_St hst 6 [0, 1, 2, 3, 4, 5] [0, 0, 3, 0, 8, 31] [] z (by kernel_rfl) (by kernel_rfl) Try.mixed (by kernel_rfl) ?_
 refine wsr (p0) 0 z z z (by kernel_rfl) (fun w hst => z) (wsr (.int .u64 z963) 1 z z z (by kernel_rfl) (fun w hst => z) (wsr (Pt b987 1) 3 z z z (by kernel_rfl) (fun w hst => x_field z underlying66 z sizeOf30 z) (wsr (.int .u64 t974.Seq) 4 z z z (by kernel_rfl) (fun w hst => x_load z isAgg30 (hst.bc0 z)) ?_)))
 refine ws_e1 2 (by kernel_rfl) ?_
 refine nxe [5] (by kernel_rfl) z z ?_
 clear hst
 intro w hst
 replace hst := hst.pull1
 obtain ⟨t994, ht995, hm⟩ := bind_some hm
 refine wec call16 [p0, U6 z963] z z ?_
 refine (session_Table_Last_ref hst.to1 ht995).mono ?_
 rintro _ w996 ⟨rfl, hst⟩
 refine ⟨_, z, ?_⟩
 replace hst := hst.of1
 refine ws_next (pend' := [(4, U6 t974.Seq), (3, Pt b987 1)]) hst (by kernel_rfl) (pkr z z (fun w hst => x_load z isAgg30 (hst.bc1 z)) (pkr z z (fun w hst => x_field z underlying66 z sizeOf30 z) pk_nil)) ?_
 refine wsr (.bool (t994 != t974.Seq)) 5 z z z (by kernel_rfl) (fun w hst => z) ?_
 refine ws_nil ?_
 intro w hst
 refine tn ?_
 refine bsplit (t994 != t974.Seq) (fun hc999 => ?_) (fun hc999 => ?_)
 {
 replace hm := bif_t hc999 hm
 refine wp_ift (cvb hc999) ?_
 refine wp_seq (wrl (wv (.bool false) z z z (wl_nil (tn (wp_ret (then_r (blk_r (then_r (then_r ?_)))))))))
 replace hm := inr_up hm hx971
 refine blk_r (then_r ?_)
 obtain rfl := some_inj hm
 refine post_ret (vs := [.bool false]) results13 (rvs_cons (rv_tmp z) rvs_nil) ?_
 exact ⟨_, z, hI0, hst.keep1⟩
}
 {
 replace hm := bif_f hc999 hm
 refine wp_iff (cvb hc999) ?_
 refine wp_skip (tn (wp_seq (wrl ?_)))
 refine wv (.int .u64 (0:Int)) z z z (wl_nil (tn (wp_block ?_)))
 obtain ⟨n1092, hm⟩ := loopO_some hm
 refine wp_loop_n (fun n a w => ∃ (I1090 : HL) (z1089 : Int) (σ1091 : Nat → Value), loopN (law14_told_l1 a0 z963 t974) n z1089 = some y970 ∧ a = Fr 66 (upd (upd (upd (upd (upd σ1091 0 (p0)) 1 (r1_0)) 5 (.int .u64 z963)) 6 (Pt b987 0)) 7 (.int .u64 z1089)) ∧ I977.le I1090 ∧ St w0 w I1090 [objO at_session_Table p0 a0, cells b987 [U6 t974.Session, U6 t974.Seq, I6 t974.R.E, U6 t974.R.Epoch, U6 t974.R.Index, v979, v982]] R) n1092 ⟨_, (0:Int), _, hm, (fu 0 p0 z (fu 1 r1_0 z (fu 5 (.int .u64 z963) z (fu 6 (Pt b987 0) z (fu 7 (.int .u64 (0:Int)) z z))))), (HL.le.refl _), hst⟩ ?_
 rintro n1098 _ w1093 ⟨I1090, z1089, σ1091, hm, rfl, hL1094, hst⟩
 obtain ⟨n1095, y1096, rfl, hm, hx1097⟩ := loopN_some hm
 dsimp only [law14_told_l1] at hm
 replace f1_0 := f1_0.mono (ro_le hL1094)
 replace f981 := f981.mono (ro_le hL1094)
 replace f984 := f984.mono (ro_le hL1094)
 replace hI0 := hI0.trans hL1094
 replace hL968 := hL968.trans hL1094
 refine wp_seq (wp_seq (wrl (wv (.int .u64 z1089) z z z (wv (.bool (decide (z1089 < (8:Int)))) z z z (wl_nil (tn ?_))))))
 refine bsplit (decide (z1089 < (8:Int))) (fun hc1099 => ?_) (fun hc1099 => ?_)
 {
 replace hm := bif_t hc1099 hm
 refine wp_ift (cvb hc1099) ?_
 refine wp_skip (tn (wp_seq (wp_block (wp_seq (wrl ?_)))))
 refine wv (p0) z z z (wv (.int .u64 z963) z z z (wv (.int .u64 z1089) z z z ?_))
 obtain ⟨t1100, ht1101, hm⟩ := bind_some hm
 refine wc call14 [p0, U6 z963, U6 z1089] z z z ?_
 refine (session_Table_Get_ref hst.to1 ht1101).mono ?_
 rintro _ w1102 ⟨I1103, v1105, v1108, rfl, hI1104, f1107, f1110, hst⟩
 refine ⟨_, z, ?_⟩
 replace hst := hst.of1
 replace f1_0 := f1_0.mono (ro_le hI1104)
 replace f981 := f981.mono (ro_le hI1104)
 replace f984 := f984.mono (ro_le hI1104)
 replace hI0 := hI0.trans hI1104
 replace hL968 := hL968.trans hI1104
 replace hL1094 := hL1094.trans hI1104
 refine wv (.tuple #[.agg #[I6 t1100.1.E, U6 t1100.1.Epoch, U6 t1100.1.Index, v1105, v1108], I6 t1100.2]) z z z (wv (.agg #[I6 t1100.1.E, U6 t1100.1.Epoch, U6 t1100.1.Index, v1105, v1108]) z z z (wv (.int .i64 t1100.2) z z z ?_))
 obtain ⟨b1113, w1114, ew1115, eb1116, hst⟩ := hst.box [Zi, Zu, Zu, Zs, Zs] 36
 refine wl_run (v := Pt b1113 0) (w' := w1114) z z (x_al (by kernel_rfl) ew1115 eb1116) ?_
 obtain ⟨w1118, hr1119, hst⟩ := hst.bx [I6 t1100.1.E, U6 t1100.1.Epoch, U6 t1100.1.Index, v1105, v1108] sizeOf36 z (oC z (oC z (oC z (oC (one_of_sliceV (ro_sliceV f1107)) (oC (one_of_sliceV (ro_sliceV f1110)) oN))))) (by kernel_rfl)
 refine wl_unit z z (x_unit hr1119) ?_
 refine wv (.int .i64 t1100.2) z z z (wl_nil (tn (wp_seq (wrl (wv (.int .i64 (2:Int)) z z z (wl_nil (tn ?_)))))))
 obtain ⟨y1124, hm, hx1125⟩ := bind_some hm
 refine wp_cut (fun a w => ∃ (z1121 : Int) (σ1122 : Nat → Value), (law14_told_j2 t974 z1089 t1100) z1121 = some y1096 ∧ a = Fr 66 (upd (upd (upd (upd (upd (upd (upd (upd σ1122 0 (p0)) 1 (r1_0)) 5 (.int .u64 z963)) 6 (Pt b987 0)) 7 (.int .u64 z1089)) 8 (Pt b1113 0)) 9 (.int .i64 t1100.2)) 10 (.int .i64 z1121)) ∧ St w0 w I1103 [objO at_session_Table p0 a0, cells b987 [U6 t974.Session, U6 t974.Seq, I6 t974.R.E, U6 t974.R.Epoch, U6 t974.R.Index, v979, v982], cells b1113 [I6 t1100.1.E, U6 t1100.1.Epoch, U6 t1100.1.Index, v1105, v1108]] R) ?_ ?_
 {
 refine wp_seq (wrl (wv (Pt b987 1) z z (x_field z underlying66 z sizeOf30 z) (wv (.int .u64 t974.Seq) z z (x_load z isAgg30 (hst.bc2 z)) (wv (.int .u64 z1089) z z z (wv (.bool (decide (t974.Seq > z1089))) z z z (wl_nil (tn ?_)))))))
 refine bsplit (decide (t974.Seq > z1089)) (fun hc1120 => ?_) (fun hc1120 => ?_)
 {
 replace hm := bif_t hc1120 hm
 refine wp_ift (cvb hc1120) ?_
 refine wrl (wv (.int .i64 (10:Int)) z z z (wl_nil (tn ?_)))
 replace hst := hst.pull2.pull2.keep3
 obtain rfl := some_inj hm
 exact ⟨(10:Int), _, hx1125, (fu 0 p0 z (fu 1 r1_0 z (fu 5 (.int .u64 z963) z (fu 6 (Pt b987 0) z (fu 7 (.int .u64 z1089) z (fu 8 (Pt b1113 0) z (fu 9 (.int .i64 t1100.2) z (fu 10 (.int .i64 (10:Int)) z z)))))))), hst⟩
}
 {
 replace hm := bif_f hc1120 hm
 refine wp_iff (cvb hc1120) ?_
 refine wp_skip (tn ?_)
 replace hst := hst.pull2.pull2.keep3
 obtain rfl := some_inj hm
 exact ⟨(2:Int), _, hx1125, (fu 0 p0 z (fu 1 r1_0 z (fu 5 (.int .u64 z963) z (fu 6 (Pt b987 0) z (fu 7 (.int .u64 z1089) z (fu 8 (Pt b1113 0) z (fu 9 (.int .i64 t1100.2) z (fu 10 (.int .i64 (2:Int)) z z)))))))), hst⟩
}
}
 {
 clear hst
 rintro _ w1126 ⟨z1121, σ1122, hm, rfl, hst⟩
 dsimp only [law14_told_j2] at hm
 obtain ⟨y1132, hm, hx1133⟩ := bind_some hm
 refine wp_cut (fun a w => ∃ (z1129 : Int) (σ1130 : Nat → Value), (law14_told_j3 t1100 t974 z1089) z1129 = some y1096 ∧ a = Fr 66 (upd (upd (upd (upd (upd (upd (upd (upd σ1130 0 (p0)) 1 (r1_0)) 5 (.int .u64 z963)) 6 (Pt b987 0)) 7 (.int .u64 z1089)) 8 (Pt b1113 0)) 9 (.int .i64 t1100.2)) 10 (.int .i64 z1129)) ∧ St w0 w I1103 [objO at_session_Table p0 a0, cells b987 [U6 t974.Session, U6 t974.Seq, I6 t974.R.E, U6 t974.R.Epoch, U6 t974.R.Index, v979, v982], cells b1113 [I6 t1100.1.E, U6 t1100.1.Epoch, U6 t1100.1.Index, v1105, v1108]] R) ?_ ?_
 {
 refine wp_seq (wrl (wv (Pt b987 1) z z (x_field z underlying66 z sizeOf30 z) (wv (.int .u64 t974.Seq) z z (x_load z isAgg30 (hst.bc1 z)) (wv (.int .u64 z1089) z z z (wv (.bool (t974.Seq == z1089)) z z z (wv (.bool (t974.Seq == z1089)) z z z ?_))))))
 refine bsplit (t974.Seq == z1089) (fun hc1127 => ?_) (fun hc1127 => ?_)
 {
 replace hm := bif_t hc1127 hm
 refine wv (.int .u64 z1089) ((wanted_eq z z z (cvb hc1127)).trans z) z z (wv (.bool (decide (z1089 > (0:Int)))) ((wanted_eq z z z (cvb hc1127)).trans z) z z (wv (.bool (decide (z1089 > (0:Int)))) z z (x_pick_t hc1127 z z) (wl_nil (tn ?_))))
 refine bsplit (decide (z1089 > (0:Int))) (fun hc1128 => ?_) (fun hc1128 => ?_)
 {
 replace hm := bif_t hc1128 hm
 refine wp_ift (cvb hc1128) ?_
 refine wrl (wv (.int .i64 (0:Int)) z z z (wl_nil (tn ?_)))
 replace hst := hst.pull2.pull2.pull2.keep3
 obtain rfl := some_inj hm
 exact ⟨(0:Int), _, hx1133, (fu 0 p0 z (fu 1 r1_0 z (fu 5 (.int .u64 z963) z (fu 6 (Pt b987 0) z (fu 7 (.int .u64 z1089) z (fu 8 (Pt b1113 0) z (fu 9 (.int .i64 t1100.2) z (fu 10 (.int .i64 (0:Int)) z z)))))))), hst⟩
}
 {
 replace hm := bif_f hc1128 hm
 refine wp_iff (cvb hc1128) ?_
 refine wp_skip (tn ?_)
 replace hst := hst.pull2.pull2.pull2.keep3
 obtain rfl := some_inj hm
 exact ⟨z1121, _, hx1133, (fu 0 p0 z (fu 1 r1_0 z (fu 5 (.int .u64 z963) z (fu 6 (Pt b987 0) z (fu 7 (.int .u64 z1089) z (fu 8 (Pt b1113 0) z (fu 9 (.int .i64 t1100.2) z (fu 10 (.int .i64 z1121) z z)))))))), hst⟩
}
}
 {
 replace hm := bif_f hc1127 hm
 refine wo hc1127 z z z z z z (wo hc1127 z z z z z z (wv (.bool false) z z (x_pick_f hc1127 z z) (wl_nil (tn ?_))))
 refine wp_iff z ?_
 refine wp_skip (tn ?_)
 replace hst := hst.pull2.pull2.pull2.keep3
 obtain rfl := some_inj hm
 exact ⟨z1121, _, hx1133, (fu 0 p0 z (fu 1 r1_0 z (fu 5 (.int .u64 z963) z (fu 6 (Pt b987 0) z (fu 7 (.int .u64 z1089) z (fu 8 (Pt b1113 0) z (fu 9 (.int .i64 t1100.2) z (fu 10 (.int .i64 z1121) z z)))))))), hst⟩
}
}
 {
 clear hst
 rintro _ w1134 ⟨z1129, σ1130, hm, rfl, hst⟩
 dsimp only [law14_told_j3] at hm
 refine wp_seq (wrl (wv (.int .i64 t1100.2) z z z (wv (.int .i64 z1129) z z z (wv (.bool (t1100.2 != z1129)) z z z (wv (.bool (t1100.2 != z1129)) z z z ?_)))))
 refine bsplit (t1100.2 != z1129) (fun hc1135 => ?_) (fun hc1135 => ?_)
 {
 replace hm := bif_t hc1135 hm
 refine wo hc1135 z z z z z z (wo hc1135 z z z z z z (wo hc1135 z z z z z z (wl_off (wanted_undef z z z z) z (wl_off (wanted_undef z z z z) z (wl_off (wanted_undef z z z z) z (wl_off (wanted_undef z z z z) z (wl_off (wanted_undef z z z z) z (wo hc1135 z z z z z z (wv (.bool true) z z (x_pick_t hc1135 z z) (wl_nil (tn ?_)))))))))))
 refine wp_ift z ?_
 refine wp_seq (wrl (wv (.bool false) z z z (wl_nil (tn (wp_ret (blk_r (then_r (then_r ?_))))))))
 replace hm := inr_up hm hx1097
 refine blk_r (blk_r (then_r (then_r ?_)))
 replace hm := inr_up hm hx971
 refine blk_r (then_r ?_)
 obtain rfl := some_inj hm
 refine post_ret (vs := [.bool false]) results13 (rvs_cons (rv_tmp z) rvs_nil) ?_
 exact ⟨_, z, hI0, hst.keep1⟩
}
 {
 replace hm := bif_f hc1135 hm
 refine wv (.int .i64 t1100.2) ((wanted_eq z z z (cvb hc1135)).trans z) z z (wv (.bool (t1100.2 == (0:Int))) ((wanted_eq z z z (cvb hc1135)).trans z) z z (wv (.bool (t1100.2 == (0:Int))) ((wanted_eq z z z (cvb hc1135)).trans z) z z ?_))
 refine bsplit (t1100.2 == (0:Int)) (fun hc1136 => ?_) (fun hc1136 => ?_)
 {
 replace hm := bif_t hc1136 hm
 refine wv (.agg #[I6 t1100.1.E, U6 t1100.1.Epoch, U6 t1100.1.Index, v1105, v1108]) ((wanted_eq z z z (cvb hc1136)).trans z) z (x_loadN (cs := [I6 t1100.1.E, U6 t1100.1.Epoch, U6 t1100.1.Index, v1105, v1108]) z isAgg36 sizeOf36 (hst.bcs2 0 z)) (wv (Pt b987 2) ((wanted_eq z z z (cvb hc1136)).trans z) z (x_field z underlying66 z sizeOf36 z) (wv (.agg #[I6 t974.R.E, U6 t974.R.Epoch, U6 t974.R.Index, v979, v982]) ((wanted_eq z z z (cvb hc1136)).trans z) z (x_loadN (cs := [I6 t974.R.E, U6 t974.R.Epoch, U6 t974.R.Index, v979, v982]) z isAgg36 sizeOf36 (hst.bcs1 2 z)) ?_))
 obtain ⟨t1137, ht1138, hm⟩ := bind_some hm
 refine wl_call ((wanted_eq z z z (cvb hc1136)).trans z) z (x_call call17 z (vs := [.agg #[I6 t1100.1.E, U6 t1100.1.Epoch, U6 t1100.1.Index, v1105, v1108], .agg #[I6 t974.R.E, U6 t974.R.Epoch, U6 t974.R.Index, v979, v982]]) z) ?_
 refine (ref11_SameReply_ref (f1107.mono ro_rd) (f1110.mono ro_rd) (f981.mono ro_rd) (f984.mono ro_rd) hst.to0 ht1138).mono ?_
 rintro _ w1139 ⟨rfl, hst⟩
 refine ⟨_, z, ?_⟩
 replace hst := hst.of0
 refine wv (.bool (!t1137)) ((wanted_eq z z z (cvb hc1136)).trans z) z z (wv (.bool (!t1137)) ((wanted_eq z z z (cvb hc1135)).trans z) z (x_pick_t hc1136 z z) (wv (.bool (!t1137)) z z (x_pick_f hc1135 z z) (wl_nil (tn ?_))))
 refine bsplit (!t1137) (fun hc1142 => ?_) (fun hc1142 => ?_)
 {
 replace hm := bif_t hc1142 hm
 refine wp_ift (cvb hc1142) ?_
 refine wp_seq (wrl (wv (.bool false) z z z (wl_nil (tn (wp_ret (blk_r (then_r (then_r ?_))))))))
 replace hm := inr_up hm hx1097
 refine blk_r (blk_r (then_r (then_r ?_)))
 replace hm := inr_up hm hx971
 refine blk_r (then_r ?_)
 obtain rfl := some_inj hm
 refine post_ret (vs := [.bool false]) results13 (rvs_cons (rv_tmp z) rvs_nil) ?_
 exact ⟨_, z, hI0, hst.keep1⟩
}
 {
 replace hm := bif_f hc1142 hm
 refine wp_iff (cvb hc1142) ?_
 refine wp_skip (blk_n (tn (wrl ?_)))
 refine wv (.int .u64 z1089) z z z (wv (.int .u64 (u64.wrap (z1089 + (1:Int)))) z z z (wv (.int .u64 (u64.wrap (z1089 + (1:Int)))) z z z (wl_nil (tn ?_))))
 replace hst := hst.pull1.pull1.keep2
 obtain rfl := some_inj hm
 exact ⟨_, Nat.lt_succ_self _, _, (u64.wrap (z1089 + (1:Int))), _, hx1097, (fu 0 p0 z (fu 1 r1_0 z (fu 5 (.int .u64 z963) z (fu 6 (Pt b987 0) z (fu 7 (.int .u64 (u64.wrap (z1089 + (1:Int)))) z z))))), hL1094, hst⟩
}
}
 {
 replace hm := bif_f hc1136 hm
 refine wo hc1136 z z z z z z (wo hc1136 z z z z z z (wo hc1136 z z z z z z (wo hc1136 z z z z z z (wo hc1136 z z z z z z (wv (.bool false) ((wanted_eq z z z (cvb hc1135)).trans z) z (x_pick_f hc1136 z z) (wv (.bool false) z z (x_pick_f hc1135 z z) (wl_nil (tn ?_))))))))
 refine wp_iff z ?_
 refine wp_skip (blk_n (tn (wrl ?_)))
 refine wv (.int .u64 z1089) z z z (wv (.int .u64 (u64.wrap (z1089 + (1:Int)))) z z z (wv (.int .u64 (u64.wrap (z1089 + (1:Int)))) z z z (wl_nil (tn ?_))))
 replace hst := hst.pull1.pull1.keep2
 obtain rfl := some_inj hm
 exact ⟨_, Nat.lt_succ_self _, _, (u64.wrap (z1089 + (1:Int))), _, hx1097, (fu 0 p0 z (fu 1 r1_0 z (fu 5 (.int .u64 z963) z (fu 6 (Pt b987 0) z (fu 7 (.int .u64 (u64.wrap (z1089 + (1:Int)))) z z))))), hL1094, hst⟩
}
}
}
}
}
 {
 replace hm := bif_f hc1099 hm
 refine wp_iff (cvb hc1099) ?_
 refine wp_exit (then_x (then_x ?_))
 replace hm := inr_up hm hx1097
 refine blk_x (blk_n (tn (wrl ?_)))
 refine wv (.int .u64 z963) z z z (wv (.int .u64 (u64.wrap (z963 + (1:Int)))) z z z (wv (.int .u64 (u64.wrap (z963 + (1:Int)))) z z z (wl_nil (tn ?_))))
 replace hst := hst.keep1
 obtain rfl := some_inj hm
 exact ⟨_, Nat.lt_succ_self _, _, (u64.wrap (z963 + (1:Int))), _, hx971, (fu 0 p0 z (fu 1 r1_0 z (fu 5 (.int .u64 (u64.wrap (z963 + (1:Int)))) z z))), hL968, hst⟩
}
}
}
 {
 replace hm := bif_f hc973 hm
 refine wp_iff (cvb hc973) ?_
 refine wp_exit (then_x (then_x ?_))
 replace hm := inr_up hm hx971
 refine blk_x (tn (wp_seq (wrl ?_)))
 refine wv (.bool true) z z z (wl_nil (tn (wp_ret ?_)))
 obtain rfl := some_inj hm
 refine post_ret (vs := [.bool true]) results13 (rvs_cons (rv_tmp z) rvs_nil) ?_
 exact ⟨_, z, hI0, hst.keep1⟩
}
}
}

theorem law14_SessionPlays_ref {w0 w : World} {I : HL} {R : SP} {a0 : (List Int)} {r0_0 : Value} (f0_0 : Ro (tyInt .u8) I r0_0 a0) (hst : St w0 w I [] R) {r : (Bool)} (hm : law14_SessionPlays a0 = some r) :
  Calls prog 3 #[r0_0] w fun e w' => ∃ (I' : HL), e = .returned (.bool r) ∧ I.le I' ∧ St w0 w' I' [] R := by {
 unfold law14_SessionPlays at hm
 refine calls_start (args := [r0_0]) func3 z ntmps3 (Nat.le_of_ble_eq_true z) ?_
 have hI0 := HL.le.refl I
 refine wp_seq (wrl (wv (.bool false) z z z (wl_nil (tn (wp_seq (wp_seq (wrl ?_)))))))
 obtain ⟨t287, ht288, hm⟩ := bind_some hm
 refine wc call7 [] z z z ?_
 refine (law14_awake_ref hst.to0 ht288).mono ?_
 rintro _ w289 ⟨I290, rfl, hI291, hst⟩
 refine ⟨_, z, ?_⟩
 replace hst := hst.of0
 replace f0_0 := f0_0.mono (ro_le hI291)
 replace hI0 := hI0.trans hI291
 refine wv (.bool (!t287)) z z z (wv (.bool (!t287)) z z z ?_)
 refine bsplit (!t287) (fun hc292 => ?_) (fun hc292 => ?_)
 {
 replace hm := bif_t hc292 hm
 refine wo hc292 z z z z z z (wo hc292 z z z z z z (wo hc292 z z z z z z (wv (.bool true) z z (x_pick_t hc292 z z) (wl_nil (tn ?_)))))
 refine wp_ift z ?_
 refine wp_seq (wrl ?_)
 obtain ⟨t293, ht294, hm⟩ := bind_some hm
 refine wc call7 [] z z z ?_
 refine (law14_awake_ref hst.to0 ht294).mono ?_
 rintro _ w295 ⟨I296, rfl, hI297, hst⟩
 refine ⟨_, z, ?_⟩
 replace hst := hst.of0
 replace f0_0 := f0_0.mono (ro_le hI297)
 replace hI0 := hI0.trans hI297
 refine wv (.bool t293) z z z (wl_nil (tn (wp_ret (then_r ?_))))
 obtain rfl := some_inj hm
 refine post_ret (vs := [.bool t293]) results3 (rvs_cons (rv_tmp z) rvs_nil) ?_
 exact ⟨_, z, hI0, hst.keep0⟩
}
 {
 replace hm := bif_f hc292 hm
 refine wv (r0_0) ((wanted_eq z z z (cvb hc292)).trans z) z z (wv (.int .i64 ((a0).length : Int)) ((wanted_eq z z z (cvb hc292)).trans z) z (x_len z underlying22 (ro_sliceV f0_0)) (wv (.bool (decide (((a0).length : Int) > (500:Int)))) ((wanted_eq z z z (cvb hc292)).trans z) z z (wv (.bool (decide (((a0).length : Int) > (500:Int)))) z z (x_pick_f hc292 z z) (wl_nil (tn ?_)))))
 refine bsplit (decide (((a0).length : Int) > (500:Int))) (fun hc298 => ?_) (fun hc298 => ?_)
 {
 replace hm := bif_t hc298 hm
 refine wp_ift (cvb hc298) ?_
 refine wp_seq (wrl ?_)
 obtain ⟨t299, ht300, hm⟩ := bind_some hm
 refine wc call7 [] z z z ?_
 refine (law14_awake_ref hst.to0 ht300).mono ?_
 rintro _ w301 ⟨I302, rfl, hI303, hst⟩
 refine ⟨_, z, ?_⟩
 replace hst := hst.of0
 replace f0_0 := f0_0.mono (ro_le hI303)
 replace hI0 := hI0.trans hI303
 refine wv (.bool t299) z z z (wl_nil (tn (wp_ret (then_r ?_))))
 obtain rfl := some_inj hm
 refine post_ret (vs := [.bool t299]) results3 (rvs_cons (rv_tmp z) rvs_nil) ?_
 exact ⟨_, z, hI0, hst.keep0⟩
}
 {
 replace hm := bif_f hc298 hm
 refine wp_iff (cvb hc298) ?_
 refine wp_skip (tn (wp_seq (wrl ?_)))
 refine wv (r0_0) z z z (wv (.agg #[r0_0, Zi]) z z (by obtain ⟨_, _, hv_, _⟩ := (ro_sliceV f0_0); rw [hv_]; kernel_rfl) ?_)
 obtain ⟨b305, w306, ew307, eb308, hst⟩ := hst.box [r0_0, Zi] 26
 refine wl_run (v := Pt b305 0) (w' := w306) z z (x_al (by kernel_rfl) ew307 eb308) ?_
 refine wv (Pt b305 0) z z z (wl_nil (tn (wp_seq (wrl ?_))))
 obtain ⟨t310, ht311, hm⟩ := bind_some hm
 refine wc call8 [] z z z ?_
 refine (session_New_ref hst.to0 ht311).mono ?_
 rintro _ w312 ⟨v315, rfl, hst⟩
 refine ⟨_, z, ?_⟩
 replace hst := hst.of1
 refine wv (v315) z z z (wl_nil (tn (wp_seq (wrl (wv ((.slice none 0 0)) z z z (wl_nil (tn (wp_seq (wp_seq (wrl (wv (.int .i64 (0:Int)) z z z (wl_nil (tn (wp_block ?_))))))))))))))
 replace hst := hst.pull1
 replace hst := at_ref12_Tape_close (pv := Pt b305 0) (x := ({ L := a0, I := (0:Int) } : ref12_Tape)) hst ⟨z, f0_0⟩
 have f376 : Ro ty_ref11_Answer I290 (.slice none 0 0) [] := ro_nil
 obtain ⟨n507, hm⟩ := loopO_some hm
 refine wp_loop_n (fun n a w => ∃ (I505 : HL) (z498 : ref12_Tape) (z499 : session_Table) (z500 : (List ref11_Answer)) (z504 : Int) (v501 : Value) (σ506 : Nat → Value), loopN (law14_SessionPlays_l0) n (z498, z499, z500, z504) = some r ∧ a = Fr 58 (upd (upd (upd (upd σ506 3 (Pt b305 0)) 4 (v315)) 5 (v501)) 6 (.int .i64 z504)) ∧ I290.le I505 ∧ Ro ty_ref11_Answer I505 v501 z500 ∧ St w0 w I505 [at_ref12_Tape (Pt b305 0) z498, at_session_Table v315 z499] R) n507 ⟨_, ({ L := a0, I := (0:Int) } : ref12_Tape), t310, [], (0:Int), Zs, _, hm, (fu 3 (Pt b305 0) z (fu 4 v315 z (fu 5 (.slice none 0 0) z (fu 6 (.int .i64 (0:Int)) z z)))), (HL.le.refl _), f376, hst⟩ ?_
 rintro n513 _ w508 ⟨I505, z498, z499, z500, z504, v501, σ506, hm, rfl, hL509, f503, hst⟩
 obtain ⟨n510, y511, rfl, hm, hx512⟩ := loopN_some hm
 dsimp only [law14_SessionPlays_l0] at hm
 replace f0_0 := f0_0.mono (ro_le hL509)
 replace f376 := f376.mono (ro_le hL509)
 replace hI0 := hI0.trans hL509
 refine wp_seq (wp_seq (wrl (wv (.int .i64 z504) z z z (wv (.bool (decide (z504 < (25:Int)))) z z z (wl_nil (tn ?_))))))
 refine bsplit (decide (z504 < (25:Int))) (fun hc514 => ?_) (fun hc514 => ?_)
 {
 replace hm := bif_t hc514 hm
 refine wp_ift (cvb hc514) ?_
 refine wp_skip (tn (wp_seq (wp_block (wp_seq (wrl ?_)))))
 refine wv (Pt b305 0) z z z ?_
 obtain ⟨t515, ht516, hm⟩ := bind_some hm
 refine wc call9 [Pt b305 0, I6 (6:Int)] z z z ?_
 refine (ref12_Tape_Next_ref hst.to1 ht516).mono ?_
 rintro _ w517 ⟨rfl, hst⟩
 refine ⟨_, z, ?_⟩
 replace hst := hst.of1
 refine wv (.int .u64 (u64.wrap t515.1)) z z (by kernel_rfl) (wv (.int .u64 (u64.wrap t515.1)) z z z (wl_nil (tn (wp_seq (wrl (wv (Pt b305 0) z z z ?_))))))
 obtain ⟨t520, ht521, hm⟩ := bind_some hm
 refine wc call9 [Pt b305 0, I6 (7:Int)] z z z ?_
 refine (ref12_Tape_Next_ref hst.to1 ht521).mono ?_
 rintro _ w522 ⟨rfl, hst⟩
 refine ⟨_, z, ?_⟩
 replace hst := hst.of1
 refine wv (.int .u64 (u64.wrap t520.1)) z z (by kernel_rfl) (wv (.int .u64 (u64.wrap t520.1)) z z z (wl_nil (tn (wp_seq (wrl (wv (Pt b305 0) z z z ?_))))))
 obtain ⟨t525, ht526, hm⟩ := bind_some hm
 refine wc call10 [Pt b305 0] z z z ?_
 refine (ref13_OfReply_ref hst.to1 ht526).mono ?_
 rintro _ w527 ⟨I528, v530, v532, rfl, hI529, hst⟩
 refine ⟨_, z, ?_⟩
 replace hst := hst.of3
 replace f0_0 := f0_0.mono (ro_le hI529)
 replace f376 := f376.mono (ro_le hI529)
 replace f503 := f503.mono (ro_le hI529)
 replace hI0 := hI0.trans hI529
 replace hL509 := hL509.trans hI529
 obtain ⟨b536, w537, ew538, eb539, hst⟩ := hst.box [Zi, Zu, Zu, Zs, Zs] 36
 refine wl_run (v := Pt b536 0) (w' := w537) z z (x_al (by kernel_rfl) ew538 eb539) ?_
 obtain ⟨w541, hr542, hst⟩ := hst.bx [I6 t525.1.E, U6 t525.1.Epoch, U6 t525.1.Index, v530, v532] sizeOf36 z (oC z (oC z (oC z (oC (one_of_sliceV hst.sv1) (oC (one_of_sliceV hst.sv2) oN))))) (by kernel_rfl)
 refine wl_unit z z (x_unit hr542) ?_
 refine wl_nil (tn (wp_seq (wrl (wv (v501) z z z (wv (.int .u64 (u64.wrap t515.1)) z z z (wv (.int .u64 (u64.wrap t520.1)) z z z (wv (.agg #[I6 t525.1.E, U6 t525.1.Epoch, U6 t525.1.Index, v530, v532]) z z (x_loadN (cs := [I6 t525.1.E, U6 t525.1.Epoch, U6 t525.1.Index, v530, v532]) z isAgg36 sizeOf36 (hst.bcs0 0 z)) ?_)))))))
 replace hst := hst.pull1
 obtain ⟨I543, hI544, f545, hst⟩ := hst.own_fix
 replace f0_0 := f0_0.mono (ro_le hI544)
 replace f376 := f376.mono (ro_le hI544)
 replace f503 := f503.mono (ro_le hI544)
 replace hI0 := hI0.trans hI544
 replace hL509 := hL509.trans hI544
 replace hst := hst.pull1
 obtain ⟨I546, hI547, f548, hst⟩ := hst.own_fix
 replace f0_0 := f0_0.mono (ro_le hI547)
 replace f376 := f376.mono (ro_le hI547)
 replace f503 := f503.mono (ro_le hI547)
 replace f545 := f545.mono (ro_le hI547)
 replace hI0 := hI0.trans hI547
 replace hL509 := hL509.trans hI547
 obtain ⟨t549, ht550, hm⟩ := bind_some hm
 refine wc call11 [v501, U6 (u64.wrap t515.1), U6 (u64.wrap t520.1), .agg #[I6 t525.1.E, U6 t525.1.Epoch, U6 t525.1.Index, v530, v532]] z z z ?_
 refine (ref11_Tell_ref f503 f545 f548 hst.to0 ht550).mono ?_
 rintro _ w551 ⟨I552, v554, rfl, hI553, f556, hst⟩
 refine ⟨_, z, ?_⟩
 replace hst := hst.of0
 replace f0_0 := f0_0.mono (ro_le hI553)
 replace f376 := f376.mono (ro_le hI553)
 replace f503 := f503.mono (ro_le hI553)
 replace f545 := f545.mono (ro_le hI553)
 replace f548 := f548.mono (ro_le hI553)
 replace hI0 := hI0.trans hI553
 replace hL509 := hL509.trans hI553
 refine wv (.tuple #[v554, I6 t549.2]) z z z (wv (v554) z z z (wv (.int .i64 t549.2) z z z (wv (v554) z z z (wv (.int .i64 t549.2) z z z (wl_nil (tn (wp_seq (wrl (wv (v554) z z z (wv (v554) z z z (wl_nil (tn (wp_seq (wrl (wv (v315) z z z (wv (.int .u64 (u64.wrap t515.1)) z z z (wv (.int .u64 (u64.wrap t520.1)) z z z (wv (.agg #[I6 t525.1.E, U6 t525.1.Epoch, U6 t525.1.Index, v530, v532]) z z (x_loadN (cs := [I6 t525.1.E, U6 t525.1.Epoch, U6 t525.1.Index, v530, v532]) z isAgg36 sizeOf36 (hst.bcs0 0 z)) ?_))))))))))))))))))
 replace hst := hst.pull2
 replace hst := objO_some hst
 obtain ⟨t557, ht558, hm⟩ := bind_some hm
 refine wc call12 [v315, U6 (u64.wrap t515.1), U6 (u64.wrap t520.1), .agg #[I6 t525.1.E, U6 t525.1.Epoch, U6 t525.1.Index, v530, v532]] z z z ?_
 refine (session_Table_Put_ref f545 f548 hst.to1 ht558).mono ?_
 rintro _ w559 ⟨rfl, hst⟩
 refine ⟨_, z, ?_⟩
 replace hst := hst.of1
 rcases he563 : t557.2 with _ | y562
 · rw [he563] at hm; cases hm
 rw [he563] at hm hst; dsimp only at hm; replace hst := objO_get hst
 refine wv (.int .i64 t549.2) z z z (wv (.bool (t557.1 != t549.2)) z z z (wv (.bool (t557.1 != t549.2)) z z z ?_))
 refine bsplit (t557.1 != t549.2) (fun hc564 => ?_) (fun hc564 => ?_)
 {
 replace hm := bif_t hc564 hm
 refine wo hc564 z z z z z z (wo hc564 z z z z z z (wo hc564 z z z z z z (wo hc564 z z z z z z (wv (.bool true) z z (x_pick_t hc564 z z) (wl_nil (tn ?_))))))
 refine wp_ift z ?_
 refine wp_seq (wrl (wv (.bool false) z z z (wl_nil (tn (wp_ret (blk_r (then_r (then_r ?_))))))))
 replace hm := inr_up hm hx512
 refine blk_r (then_r ?_)
 obtain rfl := some_inj hm
 refine post_ret (vs := [.bool false]) results3 (rvs_cons (rv_tmp z) rvs_nil) ?_
 exact ⟨_, z, hI0, hst.keep0⟩
}
 {
 replace hm := bif_f hc564 hm
 refine wv (v315) ((wanted_eq z z z (cvb hc564)).trans z) z z (wv (v554) ((wanted_eq z z z (cvb hc564)).trans z) z z ?_)
 replace hst := objO_some hst
 obtain ⟨t565, ht566, hm⟩ := bind_some hm
 refine wl_call ((wanted_eq z z z (cvb hc564)).trans z) z (x_call call13 z (vs := [v315, v554]) z) ?_
 refine (law14_told_ref f556 hst.to1 ht566).mono ?_
 rintro _ w567 ⟨I568, rfl, hI569, hst⟩
 refine ⟨_, z, ?_⟩
 replace hst := hst.of1
 replace f0_0 := f0_0.mono (ro_le hI569)
 replace f376 := f376.mono (ro_le hI569)
 replace f503 := f503.mono (ro_le hI569)
 replace f545 := f545.mono (ro_le hI569)
 replace f548 := f548.mono (ro_le hI569)
 replace f556 := f556.mono (ro_le hI569)
 replace hI0 := hI0.trans hI569
 replace hL509 := hL509.trans hI569
 replace hst := objO_get hst
 refine wv (.bool (!t565)) ((wanted_eq z z z (cvb hc564)).trans z) z z (wv (.bool (!t565)) z z (x_pick_f hc564 z z) (wl_nil (tn ?_)))
 refine bsplit (!t565) (fun hc570 => ?_) (fun hc570 => ?_)
 {
 replace hm := bif_t hc570 hm
 refine wp_ift (cvb hc570) ?_
 refine wp_seq (wrl (wv (.bool false) z z z (wl_nil (tn (wp_ret (blk_r (then_r (then_r ?_))))))))
 replace hm := inr_up hm hx512
 refine blk_r (then_r ?_)
 obtain rfl := some_inj hm
 refine post_ret (vs := [.bool false]) results3 (rvs_cons (rv_tmp z) rvs_nil) ?_
 exact ⟨_, z, hI0, hst.keep0⟩
}
 {
 replace hm := bif_f hc570 hm
 refine wp_iff (cvb hc570) ?_
 refine wp_skip (blk_n (tn (wrl ?_)))
 refine wv (.int .i64 z504) z z z (wv (.int .i64 (i64.wrap (z504 + (1:Int)))) z z z (wv (.int .i64 (i64.wrap (z504 + (1:Int)))) z z z (wl_nil (tn ?_))))
 replace hst := hst.pull2.keep2
 obtain rfl := some_inj hm
 exact ⟨_, Nat.lt_succ_self _, _, t525.2, y562, t549.1, (i64.wrap (z504 + (1:Int))), v554, _, hx512, (fu 3 (Pt b305 0) z (fu 4 v315 z (fu 5 v554 z (fu 6 (.int .i64 (i64.wrap (z504 + (1:Int)))) z z)))), hL509, f556, hst⟩
}
}
}
 {
 replace hm := bif_f hc514 hm
 refine wp_iff (cvb hc514) ?_
 refine wp_exit (then_x (then_x ?_))
 replace hm := inr_up hm hx512
 refine blk_x (tn (wp_seq (wrl ?_)))
 refine wv (.bool true) z z z (wl_nil (tn (wp_ret ?_)))
 obtain rfl := some_inj hm
 refine post_ret (vs := [.bool true]) results3 (rvs_cons (rv_tmp z) rvs_nil) ?_
 exact ⟨_, z, hI0, hst.keep0⟩
}
}
}
}

end Go.Proofs.Ytkfifhkjdibadaa
