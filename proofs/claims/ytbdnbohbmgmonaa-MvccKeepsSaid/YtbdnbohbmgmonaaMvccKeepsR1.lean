/- The Go functions refine their models, part 1. -/
import Derived.Test.YtbdnbohbmgmonaaMvccKeepsR0
set_option linter.unusedVariables false
set_option linter.unusedSimpArgs false
set_option maxRecDepth 100000
set_option maxHeartbeats 4000000
namespace Go.Proofs.Ytbdnbohbmgmonaa
open Go Go.V
open _root_.Go.Proofs.Try IntKind
attribute [local irreducible] wpList Code.wp wpQuiet Calls bodyPost Oper.wp wpS Nx PendOK YieldsIn
theorem law11_MvccKeeps_ref {w0 w : World} {I : HL} {R : SP} {a0 : (List Int)} {r0_0 : Value} {a1 : Nat} {a2 : Int} (f0_0 : Rd (tyInt .u8) R I r0_0 a0) (hst : St w0 w I [] R) {r : (Bool)} (hm : law11_MvccKeeps a0 a1 a2 = some r) :
  Calls prog 6 #[r0_0, F6 a1, U6 a2] w fun e w' => ∃ (I' : HL), e = .returned (.bool r) ∧ I.le I' ∧ St w0 w' I' [] R := by {
 unfold law11_MvccKeeps at hm
 refine calls_start (args := [r0_0, F6 a1, U6 a2]) func6 z ntmps6 (Nat.le_of_ble_eq_true z) ?_
 have hI0 := HL.le.refl I
 refine wp_seq (wrl (wv (.bool false) z z z (wl_nil (tn (wp_seq (wp_seq (wrl ?_)))))))
 obtain ⟨t213, ht214, hm⟩ := bind_some hm
 refine wc call10 [] z z z ?_
 refine (law11_awake_ref hst.to0 ht214).mono ?_
 rintro _ w215 ⟨I216, rfl, hI217, hst⟩
 refine ⟨_, z, ?_⟩
 replace hst := hst.of0
 replace f0_0 := f0_0.mono (rd_le hI217)
 replace hI0 := hI0.trans hI217
 refine wv (.bool (!t213)) z z z (wv (.bool (!t213)) z z z ?_)
 refine bsplit (!t213) (fun hc218 => ?_) (fun hc218 => ?_)
 {
 replace hm := bif_t hc218 hm
 refine wo hc218 z z z z z z (wo hc218 z z z z z z (wo hc218 z z z z z z (wv (.bool true) z z (x_pick_t hc218 z z) (wl_nil (tn ?_)))))
 refine wp_ift z ?_
 refine wp_seq (wrl ?_)
 obtain ⟨t219, ht220, hm⟩ := bind_some hm
 refine wc call10 [] z z z ?_
 refine (law11_awake_ref hst.to0 ht220).mono ?_
 rintro _ w221 ⟨I222, rfl, hI223, hst⟩
 refine ⟨_, z, ?_⟩
 replace hst := hst.of0
 replace f0_0 := f0_0.mono (rd_le hI223)
 replace hI0 := hI0.trans hI223
 refine wv (.bool t219) z z z (wl_nil (tn (wp_ret (then_r ?_))))
 obtain rfl := some_inj hm
 refine post_ret (vs := [.bool t219]) results6 (rvs_cons (rv_tmp z) rvs_nil) ?_
 exact ⟨_, z, hI0, hst.keep0⟩
}
 {
 replace hm := bif_f hc218 hm
 refine wv (r0_0) ((wanted_eq z z z (cvb hc218)).trans z) z z (wv (.int .i64 ((a0).length : Int)) ((wanted_eq z z z (cvb hc218)).trans z) z (x_len z underlying32 (rd_sliceV f0_0)) (wv (.bool (decide (((a0).length : Int) > (100:Int)))) ((wanted_eq z z z (cvb hc218)).trans z) z z (wv (.bool (decide (((a0).length : Int) > (100:Int)))) z z (x_pick_f hc218 z z) (wl_nil (tn ?_)))))
 refine bsplit (decide (((a0).length : Int) > (100:Int))) (fun hc224 => ?_) (fun hc224 => ?_)
 {
 replace hm := bif_t hc224 hm
 refine wp_ift (cvb hc224) ?_
 refine wp_seq (wrl ?_)
 obtain ⟨t225, ht226, hm⟩ := bind_some hm
 refine wc call10 [] z z z ?_
 refine (law11_awake_ref hst.to0 ht226).mono ?_
 rintro _ w227 ⟨I228, rfl, hI229, hst⟩
 refine ⟨_, z, ?_⟩
 replace hst := hst.of0
 replace f0_0 := f0_0.mono (rd_le hI229)
 replace hI0 := hI0.trans hI229
 refine wv (.bool t225) z z z (wl_nil (tn (wp_ret (then_r ?_))))
 obtain rfl := some_inj hm
 refine post_ret (vs := [.bool t225]) results6 (rvs_cons (rv_tmp z) rvs_nil) ?_
 exact ⟨_, z, hI0, hst.keep0⟩
}
 {
 replace hm := bif_f hc224 hm
 refine wp_iff (cvb hc224) ?_
 refine wp_skip (tn (wp_seq (wrl ?_)))
 refine wv (r0_0) z z z ?_
 replace hst := hst.own_nil (tyInt .u8)
 obtain ⟨hg231, hm⟩ := gd_some hm
 obtain ⟨v232, w233, hr234, hst⟩ := run_append elem_32 underlying32 hst (Src.of_rd hst f0_0 flat_int) (room_of hg231 z) 32
 replace hst := St.nil_app hst
 refine wl_run (v := v232) (w' := w233) z z (x_append z z hr234) ?_
 refine wv (v232) z z z (wl_nil (tn (wp_seq (wrl ?_))))
 obtain ⟨t236, ht237, hm⟩ := bind_some hm
 refine wc call21 [] z z z ?_
 refine (mvcc_New_ref hst.to0 ht237).mono ?_
 rintro _ w238 ⟨v241, rfl, hst⟩
 refine ⟨_, z, ?_⟩
 replace hst := hst.of1
 refine wv (v241) z z z (wl_nil (tn (wp_seq (wrl (wv (v241) z z z (wv (.float .f64 a1) z z z (wv (.int .u64 a2) z z z (wv (v232) z z z (wv (.agg #[U6 a2, Zu, .bool false, v232]) z z (by obtain ⟨_, _, hv_, _⟩ := hst.sv1; rw [hv_]; kernel_rfl) ?_)))))))))
 replace hst := objO_some hst
 replace hst := hst.pull1
 obtain ⟨css244, hq245, hst⟩ := hst.own_open
 replace hst := hst.pull1
 obtain ⟨t246, ht247, hm⟩ := bind_some hm
 refine wc call22 [v241, F6 a1, .agg #[U6 a2, Zu, .bool false, v232]] z z z ?_
 refine (mvcc_Store_Put_ref (a2 := ({ Epoch := a2, Index := (0:Int), Del := false, Val := a0 } : mvcc_Version)) (hst.sub.rdrow0 hq245) hst.to1 ht247).mono ?_
 rintro _ w248 ⟨I249, rfl, hI250, hst⟩
 refine ⟨_, z, ?_⟩
 replace hst := hst.of1
 replace f0_0 := f0_0.mono (rd_le hI250)
 replace hI0 := hI0.trans hI250
 replace hst := hst.pull1.own_close (hq245.imp fun _ _ => Ty.mono _ (ro_le hI250))
 replace hst := hst.pull1
 rcases he252 : t246 with _ | y251
 · rw [he252] at hm; cases hm
 rw [he252] at hm hst; dsimp only at hm; replace hst := objO_get hst
 refine wl_nil (tn ?_)
 obtain ⟨y297, hm, hx298⟩ := bind_some hm
 refine wp_cut (fun a w => ∃ (σ295 : Nat → Value), (law11_MvccKeeps_j0 y251 a1 a2 a0) () = some r ∧ a = Fr 109 (upd (upd (upd (upd σ295 0 (r0_0)) 1 (.float .f64 a1)) 2 (.int .u64 a2)) 8 (v241)) ∧ St w0 w I249 [at_mvcc_Store v241 y251] R) ?_ ?_
 {
 refine wp_seq (wrl (wv (.int .i64 (0:Int)) z z z (wl_nil (tn (wp_block ?_)))))
 obtain ⟨n278, hm⟩ := loopO_some hm
 refine wp_loop_n (fun n a w => ∃ (z275 : Int) (z276 : (List Int)) (σ277 : Nat → Value), loopN (law11_MvccKeeps_l1) n (z275, z276) = some y297 ∧ a = Fr 109 (upd (upd (upd (upd (upd (upd σ277 0 (r0_0)) 1 (.float .f64 a1)) 2 (.int .u64 a2)) 7 (v232)) 8 (v241)) 9 (.int .i64 z275)) ∧ St w0 w I249 [at_mvcc_Store v241 y251, ownS (tyInt .u8) v232 z276] R) n278 ⟨(0:Int), a0, _, hm, (fu 0 r0_0 z (fu 1 (.float .f64 a1) z (fu 2 (.int .u64 a2) z (fu 7 v232 z (fu 8 v241 z (fu 9 (.int .i64 (0:Int)) z z)))))), hst⟩ ?_
 rintro n284 _ w279 ⟨z275, z276, σ277, hm, rfl, hst⟩
 obtain ⟨n281, y282, rfl, hm, hx283⟩ := loopN_some hm
 dsimp only [law11_MvccKeeps_l1] at hm
 refine wp_seq (wp_seq (wrl (wv (.int .i64 z275) z z z (wv (v232) z z z (wv (.int .i64 ((z276).length : Int)) z z (x_len z underlying32 hst.sv1) (wv (.bool (decide (z275 < ((z276).length : Int)))) z z z (wl_nil (tn ?_))))))))
 refine bsplit (decide (z275 < ((z276).length : Int))) (fun hc285 => ?_) (fun hc285 => ?_)
 {
 replace hm := bif_t hc285 hm
 refine wp_ift (cvb hc285) ?_
 refine wp_skip (tn (wp_seq (wp_block (wrl ?_))))
 refine wv (v232) z z z (wv (.int .i64 z275) z z z ?_)
 obtain ⟨x286, hx287, hm⟩ := bind_some hm
 obtain ⟨h288, h289, hi290⟩ := geto_some hx287
 refine wv (.pointer (some (eAddr v232 (z275.toNat * 1 + 0)))) z z (x_index z z underlying32 sizeOf5 hst.sv1 h288 h289) ?_
 replace hst := hst.pull1
 obtain ⟨w291, hr292, hst⟩ := hst.own_store (P := prog) (t := 5) (y := (0:Int)) hi290 0 (.int .u8 (0:Int)) sizeOf5 (Nat.le_of_ble_eq_true z) (oC z oN) (by rintro _ rfl; rfl)
 have hi293 := set_get hi290 (0:Int)
 have h294 := set_lt h289 z275.toNat (0:Int)
 refine wl_unit z z (x_unit hr292) ?_
 refine wl_nil (blk_n (tn (wrl (wv (.int .i64 z275) z z z (wv (.int .i64 (i64.wrap (z275 + (1:Int)))) z z z (wv (.int .i64 (i64.wrap (z275 + (1:Int)))) z z z (wl_nil (tn ?_))))))))
 replace hst := hst.pull1.keep2
 obtain rfl := some_inj hm
 exact ⟨_, Nat.lt_succ_self _, (i64.wrap (z275 + (1:Int))), (z276.set z275.toNat (0:Int)), _, hx283, (fu 0 r0_0 z (fu 1 (.float .f64 a1) z (fu 2 (.int .u64 a2) z (fu 7 v232 z (fu 8 v241 z (fu 9 (.int .i64 (i64.wrap (z275 + (1:Int)))) z z)))))), hst⟩
}
 {
 replace hm := bif_f hc285 hm
 refine wp_iff (cvb hc285) ?_
 refine wp_exit (then_x (then_x ?_))
 replace hm := inr_up hm hx283
 refine blk_x (tn ?_)
 replace hst := hst.keep1
 obtain rfl := some_inj hm
 exact ⟨_, hx298, (fu 0 r0_0 z (fu 1 (.float .f64 a1) z (fu 2 (.int .u64 a2) z (fu 8 v241 z z)))), hst⟩
}
}
 {
 clear hst
 rintro _ w299 ⟨σ295, hm, rfl, hst⟩
 dsimp only [law11_MvccKeeps_j0] at hm
 refine wp_seq (wrl (wv (v241) z z z (wv (.float .f64 a1) z z z (wv (.int .u64 a2) z z z ?_))))
 replace hst := objO_some hst
 obtain ⟨t300, ht301, hm⟩ := bind_some hm
 refine wc call13 [v241, F6 a1, U6 a2] z z z ?_
 refine (mvcc_Store_Get_ref hst.to1 ht301).mono ?_
 rintro _ w302 ⟨v305, rfl, hst⟩
 refine ⟨_, z, ?_⟩
 replace hst := hst.of2.pull1
 replace hst := objO_get hst
 obtain ⟨b308, w309, ew310, eb311, hst⟩ := hst.box [.bool false, Zs] 34
 refine wl_run (v := Pt b308 0) (w' := w309) z z (x_al (by kernel_rfl) ew310 eb311) ?_
 obtain ⟨w313, hr314, hst⟩ := hst.bx [.bool t300.Has, v305] sizeOf34 z (oC z (oC (one_of_sliceV hst.sv2) oN)) (by kernel_rfl)
 refine wl_unit z z (x_unit hr314) ?_
 refine wl_nil (tn (wp_seq (wp_seq (wrl (wv (Pt b308 0) z z (x_field z underlying34 z sizeOf4 z) (wv (.bool t300.Has) z z (x_load z isAgg4 (hst.bc0 z)) (wv (.bool (!t300.Has)) z z z (wv (.bool (!t300.Has)) z z z ?_))))))))
 refine bsplit (!t300.Has) (fun hc315 => ?_) (fun hc315 => ?_)
 {
 replace hm := bif_t hc315 hm
 refine wo hc315 z z z z z z (wo hc315 z z z z z z (wo hc315 z z z z z z (wo hc315 z z z z z z (wo hc315 z z z z z z (wo hc315 z z z z z z (wv (.bool true) z z (x_pick_t hc315 z z) (wl_nil (tn ?_))))))))
 refine wp_ift z ?_
 refine wp_seq (wrl (wv (.bool false) z z z (wl_nil (tn (wp_ret (then_r ?_))))))
 obtain rfl := some_inj hm
 refine post_ret (vs := [.bool false]) results6 (rvs_cons (rv_tmp z) rvs_nil) ?_
 exact ⟨_, z, hI0, hst.keep0⟩
}
 {
 replace hm := bif_f hc315 hm
 refine wv (Pt b308 1) ((wanted_eq z z z (cvb hc315)).trans z) z (x_field z underlying34 z sizeOf32 z) (wv (v305) ((wanted_eq z z z (cvb hc315)).trans z) z (x_load z isAgg32 (hst.bc0 z)) (wv (.string (toStr t300.Val)) ((wanted_eq z z z (cvb hc315)).trans z) z (x_tostr underlying32 underlying9 underlying5 z hst.src2) (wv (r0_0) ((wanted_eq z z z (cvb hc315)).trans z) z z (wv (.string (toStr a0)) ((wanted_eq z z z (cvb hc315)).trans z) z (x_tostr underlying32 underlying9 underlying5 z (Src.of_rd hst f0_0 flat_int)) (wv (.bool (!(sEq (toStr t300.Val) (toStr a0)))) ((wanted_eq z z z (cvb hc315)).trans z) z (by kernel_rfl) (wv (.bool (!(sEq (toStr t300.Val) (toStr a0)))) z z (x_pick_f hc315 z z) (wl_nil (tn ?_))))))))
 refine bsplit (!(sEq (toStr t300.Val) (toStr a0))) (fun hc316 => ?_) (fun hc316 => ?_)
 {
 replace hm := bif_t hc316 hm
 refine wp_ift (cvb hc316) ?_
 refine wp_seq (wrl (wv (.bool false) z z z (wl_nil (tn (wp_ret (then_r ?_))))))
 obtain rfl := some_inj hm
 refine post_ret (vs := [.bool false]) results6 (rvs_cons (rv_tmp z) rvs_nil) ?_
 exact ⟨_, z, hI0, hst.keep0⟩
}
 {
 replace hm := bif_f hc316 hm
 refine wp_iff (cvb hc316) ?_
 refine wp_skip (tn ?_)
 obtain ⟨y361, hm, hx362⟩ := bind_some hm
 refine wp_cut (fun a w => ∃ (σ359 : Nat → Value), (law11_MvccKeeps_j2 a1 a2 y251 a0) () = some r ∧ a = Fr 109 (upd (upd (upd (upd σ359 0 (r0_0)) 1 (.float .f64 a1)) 2 (.int .u64 a2)) 8 (v241)) ∧ St w0 w I249 [at_mvcc_Store v241 y251] R) ?_ ?_
 {
 refine wp_seq (wrl (wv (.int .i64 (0:Int)) z z z (wl_nil (tn (wp_block ?_)))))
 obtain ⟨n342, hm⟩ := loopO_some hm
 refine wp_loop_n (fun n a w => ∃ (z339 : Int) (z340 : (List Int)) (σ341 : Nat → Value), loopN (law11_MvccKeeps_l3) n (z339, z340) = some y361 ∧ a = Fr 109 (upd (upd (upd (upd (upd (upd σ341 0 (r0_0)) 1 (.float .f64 a1)) 2 (.int .u64 a2)) 8 (v241)) 10 (Pt b308 0)) 11 (.int .i64 z339)) ∧ St w0 w I249 [cells b308 [.bool t300.Has, v305], at_mvcc_Store v241 y251, ownS (tyInt .u8) v305 z340] R) n342 ⟨(0:Int), t300.Val, _, hm, (fu 0 r0_0 z (fu 1 (.float .f64 a1) z (fu 2 (.int .u64 a2) z (fu 8 v241 z (fu 10 (Pt b308 0) z (fu 11 (.int .i64 (0:Int)) z z)))))), hst⟩ ?_
 rintro n348 _ w343 ⟨z339, z340, σ341, hm, rfl, hst⟩
 obtain ⟨n345, y346, rfl, hm, hx347⟩ := loopN_some hm
 dsimp only [law11_MvccKeeps_l3] at hm
 refine wp_seq (wp_seq (wrl (wv (.int .i64 z339) z z z (wv (Pt b308 1) z z (x_field z underlying34 z sizeOf32 z) (wv (v305) z z (x_load z isAgg32 (hst.bc0 z)) (wv (.int .i64 ((z340).length : Int)) z z (x_len z underlying32 hst.sv2) (wv (.bool (decide (z339 < ((z340).length : Int)))) z z z (wl_nil (tn ?_)))))))))
 refine bsplit (decide (z339 < ((z340).length : Int))) (fun hc349 => ?_) (fun hc349 => ?_)
 {
 replace hm := bif_t hc349 hm
 refine wp_ift (cvb hc349) ?_
 refine wp_skip (tn (wp_seq (wp_block (wrl ?_))))
 refine wv (Pt b308 1) z z (x_field z underlying34 z sizeOf32 z) (wv (v305) z z (x_load z isAgg32 (hst.bc0 z)) (wv (.int .i64 z339) z z z ?_))
 obtain ⟨x350, hx351, hm⟩ := bind_some hm
 obtain ⟨h352, h353, hi354⟩ := geto_some hx351
 refine wv (.pointer (some (eAddr v305 (z339.toNat * 1 + 0)))) z z (x_index z z underlying32 sizeOf5 hst.sv2 h352 h353) ?_
 replace hst := hst.pull2
 obtain ⟨w355, hr356, hst⟩ := hst.own_store (P := prog) (t := 5) (y := (1:Int)) hi354 0 (.int .u8 (1:Int)) sizeOf5 (Nat.le_of_ble_eq_true z) (oC z oN) (by rintro _ rfl; rfl)
 have hi357 := set_get hi354 (1:Int)
 have h358 := set_lt h353 z339.toNat (1:Int)
 refine wl_unit z z (x_unit hr356) ?_
 refine wl_nil (blk_n (tn (wrl (wv (.int .i64 z339) z z z (wv (.int .i64 (i64.wrap (z339 + (1:Int)))) z z z (wv (.int .i64 (i64.wrap (z339 + (1:Int)))) z z z (wl_nil (tn ?_))))))))
 replace hst := hst.pull2.pull2.keep3
 obtain rfl := some_inj hm
 exact ⟨_, Nat.lt_succ_self _, (i64.wrap (z339 + (1:Int))), (z340.set z339.toNat (1:Int)), _, hx347, (fu 0 r0_0 z (fu 1 (.float .f64 a1) z (fu 2 (.int .u64 a2) z (fu 8 v241 z (fu 10 (Pt b308 0) z (fu 11 (.int .i64 (i64.wrap (z339 + (1:Int)))) z z)))))), hst⟩
}
 {
 replace hm := bif_f hc349 hm
 refine wp_iff (cvb hc349) ?_
 refine wp_exit (then_x (then_x ?_))
 replace hm := inr_up hm hx347
 refine blk_x (tn ?_)
 replace hst := hst.pull1.keep1
 obtain rfl := some_inj hm
 exact ⟨_, hx362, (fu 0 r0_0 z (fu 1 (.float .f64 a1) z (fu 2 (.int .u64 a2) z (fu 8 v241 z z)))), hst⟩
}
}
 {
 clear hst
 rintro _ w363 ⟨σ359, hm, rfl, hst⟩
 dsimp only [law11_MvccKeeps_j2] at hm
 refine wp_seq (wrl (wv (.pointer none) z z z (wl_nil (tn (wp_seq (wrl (wv (.pointer none) z z z (wv (.float .f64 a1) z z z (wv (.agg #[Zu, Zu, .bool false, Zs]) z z (by kernel_rfl) ?_)))))))))
 replace hst := hst.objO_nil at_mvcc_Store
 have f366 : Ro (tyInt .u8) I249 (.slice none 0 0) [] := ro_nil
 obtain ⟨t367, ht368, hm⟩ := bind_some hm
 refine wc call22 [.pointer none, F6 a1, .agg #[Zu, Zu, .bool false, Zs]] z z z ?_
 refine (mvcc_Store_Put_ref (f366.mono ro_rd) hst.to1 ht368).mono ?_
 rintro _ w369 ⟨I370, rfl, hI371, hst⟩
 refine ⟨_, z, ?_⟩
 replace hst := hst.of1
 replace f0_0 := f0_0.mono (rd_le hI371)
 replace f366 := f366.mono (ro_le hI371)
 replace hI0 := hI0.trans hI371
 refine wl_nil (tn (wp_seq (wrl (wv (.pointer none) z z z (wv (.int .u64 a2) z z z ?_)))))
 replace hst := hst.objO_nil at_mvcc_Store
 obtain ⟨t373, ht374, hm⟩ := bind_some hm
 refine wc call19 [.pointer none, U6 a2] z z z ?_
 refine (mvcc_Store_Trim_ref hst.to1 ht374).mono ?_
 rintro _ w375 ⟨I376, rfl, hI377, hst⟩
 refine ⟨_, z, ?_⟩
 replace hst := hst.of1
 replace f0_0 := f0_0.mono (rd_le hI377)
 replace f366 := f366.mono (ro_le hI377)
 replace hI0 := hI0.trans hI377
 refine wl_nil (tn (wp_seq ?_))
 refine wp_region_St hst 38 [0, 1, 2, 3, 4, 5, 6, 7, 8, 9, 10, 11, 12, 13, 14, 15, 16, 17, 18, 19, 20, 21, 22, 23, 24, 25, 26, 27, 28, 29, 30, 31, 32, 33, 34, 35, 36, 37] [0, 0, 0, 7, 15, 31, 0, 64, 255, 511, 1023, 1023, 1023, 8191, 16383, 32767, 65535, 131071, 262143, 262143, 262143, 262143, 4194303, 8388607, 262143, 262143, 58720255, 125829119, 268435455, 262143, 662700031, 2147483647, 262143, 6031409151, 17179869183, 34359738367, 68719476735, 137438953471] [] z (by kernel_rfl) (by kernel_rfl) Try.mixed (by kernel_rfl) ?_
 refine wsr (v241) 0 z z z (by kernel_rfl) (fun w hst => z) (wsr (.float .f64 a1) 1 z z z (by kernel_rfl) (fun w hst => z) (wsr (.int .u64 a2) 2 z z z (by kernel_rfl) (fun w hst => z) (wsr (r0_0) 6 z z z (by kernel_rfl) (fun w hst => z) (wsr (.string (toStr a0)) 7 z z z (by kernel_rfl) (fun w hst => x_tostr underlying32 underlying9 underlying5 z (Src.of_rd hst f0_0 flat_int)) ?_))))
 refine ws_e1 3 (by kernel_rfl) ?_
 refine nxe [4, 5, 8, 9, 10, 11, 12, 13, 14, 15, 16, 17, 18, 19, 20, 21, 22, 23, 24, 25, 26, 27, 28, 29, 30, 31, 32, 33, 34, 35, 36, 37] (by kernel_rfl) z z ?_
 clear hst
 intro w hst
 replace hst := hst.pull2
 replace hst := objO_some hst
 obtain ⟨t378, ht379, hm⟩ := bind_some hm
 refine wec call13 [v241, F6 a1, U6 a2] z z ?_
 refine (mvcc_Store_Get_ref hst.to1 ht379).mono ?_
 rintro _ w380 ⟨v383, rfl, hst⟩
 refine ⟨_, z, ?_⟩
 replace hst := hst.of2.pull1
 replace hst := objO_get hst
 refine ws_next (pend' := [(7, .string (toStr a0)), (6, r0_0)]) hst (by kernel_rfl) (pkr z z (fun w hst => x_tostr underlying32 underlying9 underlying5 z (Src.of_rd hst f0_0 flat_int)) (pkr z z (fun w hst => z) pk_nil)) ?_
 refine wsr (v383) 4 rfl rfl rfl (by kernel_rfl) (fun w hst => by obtain ⟨_, _, hv_, _⟩ := hst.sv1; rw [hv_]; kernel_rfl) (wsr (.string (toStr t378.Val)) 5 rfl rfl rfl (by kernel_rfl) (fun w hst => x_tostr underlying32 underlying9 underlying5 rfl hst.src1) (wsr (.bool (sEq (toStr t378.Val) (toStr a0))) 8 rfl rfl rfl (by kernel_rfl) (fun w hst => by kernel_rfl) (wsr (.bool (sEq (toStr t378.Val) (toStr a0))) 9 rfl rfl rfl (by kernel_rfl) (fun w hst => rfl) ?_)))
 refine bsplit (sEq (toStr t378.Val) (toStr a0)) (fun hc385 => ?_) (fun hc385 => ?_)
 {
 replace hm := bif_t hc385 hm
 refine ws_q (v := .pointer none) 10 [11, 12, 13, 14, 15, 16, 17, 18, 19, 20, 21, 22, 23, 24, 25, 26, 27, 28, 29, 30, 31, 32, 33, 34, 35, 36, 37] (by kernel_rfl) z z (yi_run ((wanted_eq z z z (cvb hc385)).trans z) (fun w hst => z)) (ws_q (v := .float .f64 a1) 11 [12, 13, 14, 15, 16, 17, 18, 19, 20, 21, 22, 23, 24, 25, 26, 27, 28, 29, 30, 31, 32, 33, 34, 35, 36, 37] (by kernel_rfl) z z (yi_run ((wanted_eq z z z (cvb hc385)).trans z) (fun w hst => z)) (ws_q (v := .int .u64 a2) 12 [13, 14, 15, 16, 17, 18, 19, 20, 21, 22, 23, 24, 25, 26, 27, 28, 29, 30, 31, 32, 33, 34, 35, 36, 37] (by kernel_rfl) z z (yi_run ((wanted_eq z z z (cvb hc385)).trans z) (fun w hst => z)) ?_))
 refine ws_e1 13 (by kernel_rfl) ?_
 refine nxe [14, 15, 16, 17, 18, 19, 20, 21, 22, 23, 24, 25, 26, 27, 28, 29, 30, 31, 32, 33, 34, 35, 36, 37] (by kernel_rfl) z ((wanted_eq z z z (cvb hc385)).trans z) ?_
 clear hst
 intro w hst
 replace hst := hst.objO_nil at_mvcc_Store
 obtain ⟨t387, ht388, hm⟩ := bind_some hm
 refine wec call13 [.pointer none, F6 a1, U6 a2] z z ?_
 refine (mvcc_Store_Get_ref hst.to1 ht388).mono ?_
 rintro _ w389 ⟨v392, rfl, hst⟩
 refine ⟨_, z, ?_⟩
 replace hst := hst.of2
 refine ws_next (pend' := []) hst (by kernel_rfl) pk_nil ?_
 refine ws_q (v := .bool t387.Has) 14 [15, 16, 17, 18, 19, 20, 21, 22, 23, 24, 25, 26, 27, 28, 29, 30, 31, 32, 33, 34, 35, 36, 37] (by kernel_rfl) rfl rfl (yi_run ((wanted_eq rfl rfl rfl (cvb hc385)).trans rfl) (fun w hst => by obtain ⟨_, _, hv_, _⟩ := hst.sv0; rw [hv_]; kernel_rfl)) (ws_q (v := .bool (!t387.Has)) 15 [16, 17, 18, 19, 20, 21, 22, 23, 24, 25, 26, 27, 28, 29, 30, 31, 32, 33, 34, 35, 36, 37] (by kernel_rfl) rfl rfl (yi_run ((wanted_eq rfl rfl rfl (cvb hc385)).trans rfl) (fun w hst => rfl)) (wsr (.bool (!t387.Has)) 16 rfl rfl rfl (by kernel_rfl) (fun w hst => x_pick_t hc385 rfl rfl) (wsr (.bool (!t387.Has)) 17 rfl rfl rfl (by kernel_rfl) (fun w hst => rfl) ?_)))
 refine bsplit (!t387.Has) (fun hc394 => ?_) (fun hc394 => ?_)
 {
 replace hm := bif_t hc394 hm
 refine ws_q (v := .pointer none) 18 [19, 20, 21, 22, 23, 24, 25, 26, 27, 28, 29, 30, 31, 32, 33, 34, 35, 36, 37] (by kernel_rfl) z z (yi_run ((wanted_eq z z z (cvb hc394)).trans z) (fun w hst => z)) (ws_q (v := .float .f64 a1) 19 [20, 21, 22, 23, 24, 25, 26, 27, 28, 29, 30, 31, 32, 33, 34, 35, 36, 37] (by kernel_rfl) z z (yi_run ((wanted_eq z z z (cvb hc394)).trans z) (fun w hst => z)) (ws_q (v := .float .f64 a1) 20 [21, 22, 23, 24, 25, 26, 27, 28, 29, 30, 31, 32, 33, 34, 35, 36, 37] (by kernel_rfl) z z (yi_run ((wanted_eq z z z (cvb hc394)).trans z) (fun w hst => z)) (ws_q (v := .int .u64 a2) 21 [22, 23, 24, 25, 26, 27, 28, 29, 30, 31, 32, 33, 34, 35, 36, 37] (by kernel_rfl) z z (yi_run ((wanted_eq z z z (cvb hc394)).trans z) (fun w hst => z)) (ws_q (v := .pointer none) 24 [22, 23, 25, 26, 27, 28, 29, 30, 31, 32, 33, 34, 35, 36, 37] (by kernel_rfl) z z (yi_run ((wanted_eq z z z (cvb hc394)).trans z) (fun w hst => z)) (ws_q (v := .float .f64 a1) 25 [22, 23, 26, 27, 28, 29, 30, 31, 32, 33, 34, 35, 36, 37] (by kernel_rfl) z z (yi_run ((wanted_eq z z z (cvb hc394)).trans z) (fun w hst => z)) (ws_q (v := .pointer none) 29 [22, 23, 26, 27, 28, 30, 31, 32, 33, 34, 35, 36, 37] (by kernel_rfl) z z (yi_run ((wanted_eq z z z (cvb hc394)).trans z) (fun w hst => z)) (ws_q (v := .pointer none) 32 [22, 23, 26, 27, 28, 30, 31, 33, 34, 35, 36, 37] (by kernel_rfl) z z (yi_run ((wanted_eq z z z (cvb hc394)).trans z) (fun w hst => z)) ?_)))))))
 refine ws_e1 22 (by kernel_rfl) ?_
 refine nxe [23, 26, 27, 28, 30, 31, 33, 34, 35, 36, 37] (by kernel_rfl) z ((wanted_eq z z z (cvb hc394)).trans z) ?_
 clear hst
 intro w hst
 replace hst := hst.objO_nil at_mvcc_Store
 obtain ⟨t396, ht397, hm⟩ := bind_some hm
 refine wec call16 [.pointer none, F6 a1, F6 a1, U6 a2, I6 (5:Int)] z z ?_
 refine (mvcc_Store_Scan_ref hst.to1 ht397).mono ?_
 rintro _ w398 ⟨I399, v401, rfl, hI400, hst⟩
 refine ⟨_, z, ?_⟩
 replace hst := hst.of2
 replace f0_0 := f0_0.mono (rd_le hI400)
 replace f366 := f366.mono (ro_le hI400)
 replace hI0 := hI0.trans hI400
 refine ws_next (pend' := [(32, .pointer none), (29, .pointer none), (25, F6 a1), (24, .pointer none)]) hst (by kernel_rfl) (pk_cons z (yi_run ((wanted_eq z z z (cvb hc394)).trans z) (fun w hst => z)) (pk_cons z (yi_run ((wanted_eq z z z (cvb hc394)).trans z) (fun w hst => z)) (pk_cons z (yi_run ((wanted_eq z z z (cvb hc394)).trans z) (fun w hst => z)) (pk_cons z (yi_run ((wanted_eq z z z (cvb hc394)).trans z) (fun w hst => z)) pk_nil)))) ?_
 refine ws_q (v := .int .i64 ((t396).length : Int)) 23 [26, 27, 28, 30, 31, 33, 34, 35, 36, 37] (by kernel_rfl) z z (yi_run ((wanted_eq z z z (cvb hc394)).trans z) (fun w hst => x_len z underlying40 hst.sv0)) ?_
 refine ws_e1 26 (by kernel_rfl) ?_
 refine nxe [27, 28, 30, 31, 33, 34, 35, 36, 37] (by kernel_rfl) z ((wanted_eq z z z (cvb hc394)).trans z) ?_
 clear hst
 intro w hst
 replace hst := hst.objO_nil at_mvcc_Store
 obtain ⟨t404, ht405, hm⟩ := bind_some hm
 refine wec call23 [.pointer none, F6 a1] z z ?_
 refine (mvcc_Store_Versions_ref hst.to1 ht405).mono ?_
 rintro _ w406 ⟨v409, rfl, hst⟩
 refine ⟨_, z, ?_⟩
 replace hst := hst.of2
 refine ws_next (pend' := [(23, I6 ((t396).length : Int)), (32, .pointer none), (29, .pointer none)]) hst (by kernel_rfl) (pk_cons z (yi_run ((wanted_eq z z z (cvb hc394)).trans z) (fun w hst => x_len z underlying40 hst.sv2)) (pk_cons z (yi_run ((wanted_eq z z z (cvb hc394)).trans z) (fun w hst => z)) (pk_cons z (yi_run ((wanted_eq z z z (cvb hc394)).trans z) (fun w hst => z)) pk_nil))) ?_
 refine ws_q (v := .int .i64 ((t404).length : Int)) 27 [28, 30, 31, 33, 34, 35, 36, 37] (by kernel_rfl) z z (yi_run ((wanted_eq z z z (cvb hc394)).trans z) (fun w hst => x_len z underlying53 hst.sv0)) (ws_q (v := .int .i64 (i64.wrap (((t396).length : Int) + ((t404).length : Int)))) 28 [30, 31, 33, 34, 35, 36, 37] (by kernel_rfl) z z (yi_run ((wanted_eq z z z (cvb hc394)).trans z) (fun w hst => z)) ?_)
 refine ws_e1 30 (by kernel_rfl) ?_
 refine nxe [31, 33, 34, 35, 36, 37] (by kernel_rfl) z ((wanted_eq z z z (cvb hc394)).trans z) ?_
 clear hst
 intro w hst
 replace hst := hst.objO_nil at_mvcc_Store
 obtain ⟨t412, ht413, hm⟩ := bind_some hm
 refine wec call24 [.pointer none] z z ?_
 refine (mvcc_Store_Len_ref hst.to1 ht413).mono ?_
 rintro _ w414 ⟨rfl, hst⟩
 refine ⟨_, z, ?_⟩
 replace hst := hst.of1
 refine ws_next (pend' := [(28, I6 (i64.wrap (((t396).length : Int) + ((t404).length : Int)))), (27, I6 ((t404).length : Int)), (23, I6 ((t396).length : Int)), (32, .pointer none)]) hst (by kernel_rfl) (pk_cons z (yi_run ((wanted_eq z z z (cvb hc394)).trans z) (fun w hst => z)) (pk_cons z (yi_run ((wanted_eq z z z (cvb hc394)).trans z) (fun w hst => x_len z underlying53 hst.sv1)) (pk_cons z (yi_run ((wanted_eq z z z (cvb hc394)).trans z) (fun w hst => x_len z underlying40 hst.sv3)) (pk_cons z (yi_run ((wanted_eq z z z (cvb hc394)).trans z) (fun w hst => z)) pk_nil)))) ?_
 refine ws_q (v := .int .i64 (i64.wrap ((i64.wrap (((t396).length : Int) + ((t404).length : Int))) + t412))) 31 [33, 34, 35, 36, 37] (by kernel_rfl) z z (yi_run ((wanted_eq z z z (cvb hc394)).trans z) (fun w hst => z)) ?_
 refine ws_e1 33 (by kernel_rfl) ?_
 refine nxe [34, 35, 36, 37] (by kernel_rfl) z ((wanted_eq z z z (cvb hc394)).trans z) ?_
 clear hst
 intro w hst
 replace hst := hst.objO_nil at_mvcc_Store
 obtain ⟨t418, ht419, hm⟩ := bind_some hm
 refine wec call25 [.pointer none] z z ?_
 refine (mvcc_Store_Size_ref hst.to1 ht419).mono ?_
 rintro _ w420 ⟨rfl, hst⟩
 refine ⟨_, z, ?_⟩
 replace hst := hst.of1
 refine ws_next (pend' := [(31, I6 (i64.wrap ((i64.wrap (((t396).length : Int) + ((t404).length : Int))) + t412))), (28, I6 (i64.wrap (((t396).length : Int) + ((t404).length : Int)))), (27, I6 ((t404).length : Int)), (23, I6 ((t396).length : Int))]) hst (by kernel_rfl) (pk_cons z (yi_run ((wanted_eq z z z (cvb hc394)).trans z) (fun w hst => z)) (pk_cons z (yi_run ((wanted_eq z z z (cvb hc394)).trans z) (fun w hst => z)) (pk_cons z (yi_run ((wanted_eq z z z (cvb hc394)).trans z) (fun w hst => x_len z underlying53 hst.sv2)) (pk_cons z (yi_run ((wanted_eq z z z (cvb hc394)).trans z) (fun w hst => x_len z underlying40 hst.sv4)) pk_nil)))) ?_
 refine ws_q (v := .int .i64 (i64.wrap ((i64.wrap ((i64.wrap (((t396).length : Int) + ((t404).length : Int))) + t412)) + t418))) 34 [35, 36, 37] (by kernel_rfl) z z (yi_run ((wanted_eq z z z (cvb hc394)).trans z) (fun w hst => z)) (ws_q (v := .bool ((i64.wrap ((i64.wrap ((i64.wrap (((t396).length : Int) + ((t404).length : Int))) + t412)) + t418)) == (0:Int))) 35 [36, 37] (by kernel_rfl) z z (yi_run ((wanted_eq z z z (cvb hc394)).trans z) (fun w hst => z)) (wsr (.bool ((i64.wrap ((i64.wrap ((i64.wrap (((t396).length : Int) + ((t404).length : Int))) + t412)) + t418)) == (0:Int))) 36 z z z (by kernel_rfl) (fun w hst => x_pick_t hc394 z z) (wsr (.bool ((i64.wrap ((i64.wrap ((i64.wrap (((t396).length : Int) + ((t404).length : Int))) + t412)) + t418)) == (0:Int))) 37 z z z (by kernel_rfl) (fun w hst => z) ?_)))
 refine ws_nil ?_
 intro w hst
 refine tn (wp_ret ?_)
 obtain rfl := some_inj hm
 refine post_ret (vs := [.bool ((i64.wrap ((i64.wrap ((i64.wrap (((t396).length : Int) + ((t404).length : Int))) + t412)) + t418)) == (0:Int))]) results6 (rvs_cons (rv_tmp z) rvs_nil) ?_
 exact ⟨_, z, hI0, hst.keep0⟩
}
 {
 replace hm := bif_f hc394 hm
 refine ws_q (v := undef) 18 [19, 20, 21, 22, 23, 24, 25, 26, 27, 28, 29, 30, 31, 32, 33, 34, 35, 36, 37] (by kernel_rfl) z z (yi_off ((wanted_eq z z z (cvb hc394)).trans z)) (ws_q (v := undef) 19 [20, 21, 22, 23, 24, 25, 26, 27, 28, 29, 30, 31, 32, 33, 34, 35, 36, 37] (by kernel_rfl) z z (yi_off ((wanted_eq z z z (cvb hc394)).trans z)) (ws_q (v := undef) 20 [21, 22, 23, 24, 25, 26, 27, 28, 29, 30, 31, 32, 33, 34, 35, 36, 37] (by kernel_rfl) z z (yi_off ((wanted_eq z z z (cvb hc394)).trans z)) (ws_q (v := undef) 21 [22, 23, 24, 25, 26, 27, 28, 29, 30, 31, 32, 33, 34, 35, 36, 37] (by kernel_rfl) z z (yi_off ((wanted_eq z z z (cvb hc394)).trans z)) (ws_q (v := undef) 22 [23, 24, 25, 26, 27, 28, 29, 30, 31, 32, 33, 34, 35, 36, 37] (by kernel_rfl) z z (yi_off ((wanted_eq z z z (cvb hc394)).trans z)) (ws_q (v := undef) 23 [24, 25, 26, 27, 28, 29, 30, 31, 32, 33, 34, 35, 36, 37] (by kernel_rfl) z z (yi_off ((wanted_eq z z z (cvb hc394)).trans z)) (ws_q (v := undef) 24 [25, 26, 27, 28, 29, 30, 31, 32, 33, 34, 35, 36, 37] (by kernel_rfl) z z (yi_off ((wanted_eq z z z (cvb hc394)).trans z)) (ws_q (v := undef) 25 [26, 27, 28, 29, 30, 31, 32, 33, 34, 35, 36, 37] (by kernel_rfl) z z (yi_off ((wanted_eq z z z (cvb hc394)).trans z)) (ws_q (v := undef) 26 [27, 28, 29, 30, 31, 32, 33, 34, 35, 36, 37] (by kernel_rfl) z z (yi_off ((wanted_eq z z z (cvb hc394)).trans z)) (ws_q (v := undef) 27 [28, 29, 30, 31, 32, 33, 34, 35, 36, 37] (by kernel_rfl) z z (yi_off ((wanted_eq z z z (cvb hc394)).trans z)) (ws_q (v := undef) 28 [29, 30, 31, 32, 33, 34, 35, 36, 37] (by kernel_rfl) z z (yi_off ((wanted_eq z z z (cvb hc394)).trans z)) (ws_q (v := undef) 29 [30, 31, 32, 33, 34, 35, 36, 37] (by kernel_rfl) z z (yi_off ((wanted_eq z z z (cvb hc394)).trans z)) (ws_q (v := undef) 30 [31, 32, 33, 34, 35, 36, 37] (by kernel_rfl) z z (yi_off ((wanted_eq z z z (cvb hc394)).trans z)) ?_))))))))))))
 refine ws_q (v := undef) 31 [32, 33, 34, 35, 36, 37] (by kernel_rfl) z z (yi_off ((wanted_eq z z z (cvb hc394)).trans z)) (ws_q (v := undef) 32 [33, 34, 35, 36, 37] (by kernel_rfl) z z (yi_off ((wanted_eq z z z (cvb hc394)).trans z)) (ws_q (v := undef) 33 [34, 35, 36, 37] (by kernel_rfl) z z (yi_off ((wanted_eq z z z (cvb hc394)).trans z)) (ws_q (v := undef) 34 [35, 36, 37] (by kernel_rfl) z z (yi_off ((wanted_eq z z z (cvb hc394)).trans z)) (ws_q (v := undef) 35 [36, 37] (by kernel_rfl) z z (yi_off ((wanted_eq z z z (cvb hc394)).trans z)) (wsr (.bool false) 36 z z z (by kernel_rfl) (fun w hst => x_pick_f hc394 z z) (wsr (.bool false) 37 z z z (by kernel_rfl) (fun w hst => z) ?_))))))
 refine ws_nil ?_
 intro w hst
 refine tn (wp_ret ?_)
 obtain rfl := some_inj hm
 refine post_ret (vs := [.bool false]) results6 (rvs_cons (rv_tmp z) rvs_nil) ?_
 exact ⟨_, z, hI0, hst.keep0⟩
}
}
 {
 replace hm := bif_f hc385 hm
 refine ws_q (v := undef) 10 [11, 12, 13, 14, 15, 16, 17, 18, 19, 20, 21, 22, 23, 24, 25, 26, 27, 28, 29, 30, 31, 32, 33, 34, 35, 36, 37] (by kernel_rfl) z z (yi_off ((wanted_eq z z z (cvb hc385)).trans z)) (ws_q (v := undef) 11 [12, 13, 14, 15, 16, 17, 18, 19, 20, 21, 22, 23, 24, 25, 26, 27, 28, 29, 30, 31, 32, 33, 34, 35, 36, 37] (by kernel_rfl) z z (yi_off ((wanted_eq z z z (cvb hc385)).trans z)) (ws_q (v := undef) 12 [13, 14, 15, 16, 17, 18, 19, 20, 21, 22, 23, 24, 25, 26, 27, 28, 29, 30, 31, 32, 33, 34, 35, 36, 37] (by kernel_rfl) z z (yi_off ((wanted_eq z z z (cvb hc385)).trans z)) (ws_q (v := undef) 13 [14, 15, 16, 17, 18, 19, 20, 21, 22, 23, 24, 25, 26, 27, 28, 29, 30, 31, 32, 33, 34, 35, 36, 37] (by kernel_rfl) z z (yi_off ((wanted_eq z z z (cvb hc385)).trans z)) (ws_q (v := undef) 14 [15, 16, 17, 18, 19, 20, 21, 22, 23, 24, 25, 26, 27, 28, 29, 30, 31, 32, 33, 34, 35, 36, 37] (by kernel_rfl) z z (yi_off ((wanted_eq z z z (cvb hc385)).trans z)) (ws_q (v := undef) 15 [16, 17, 18, 19, 20, 21, 22, 23, 24, 25, 26, 27, 28, 29, 30, 31, 32, 33, 34, 35, 36, 37] (by kernel_rfl) z z (yi_off ((wanted_eq z z z (cvb hc385)).trans z)) (wsr (.bool false) 16 z z z (by kernel_rfl) (fun w hst => x_pick_f hc385 z z) (wsr (.bool false) 17 z z z (by kernel_rfl) (fun w hst => z) (ws_q (v := undef) 18 [19, 20, 21, 22, 23, 24, 25, 26, 27, 28, 29, 30, 31, 32, 33, 34, 35, 36, 37] (by kernel_rfl) z z (yi_off ((wanted_eq z z z z).trans z)) (ws_q (v := undef) 19 [20, 21, 22, 23, 24, 25, 26, 27, 28, 29, 30, 31, 32, 33, 34, 35, 36, 37] (by kernel_rfl) z z (yi_off ((wanted_eq z z z z).trans z)) (ws_q (v := undef) 20 [21, 22, 23, 24, 25, 26, 27, 28, 29, 30, 31, 32, 33, 34, 35, 36, 37] (by kernel_rfl) z z (yi_off ((wanted_eq z z z z).trans z)) (ws_q (v := undef) 21 [22, 23, 24, 25, 26, 27, 28, 29, 30, 31, 32, 33, 34, 35, 36, 37] (by kernel_rfl) z z (yi_off ((wanted_eq z z z z).trans z)) (ws_q (v := undef) 22 [23, 24, 25, 26, 27, 28, 29, 30, 31, 32, 33, 34, 35, 36, 37] (by kernel_rfl) z z (yi_off ((wanted_eq z z z z).trans z)) ?_))))))))))))
 refine ws_q (v := undef) 23 [24, 25, 26, 27, 28, 29, 30, 31, 32, 33, 34, 35, 36, 37] (by kernel_rfl) z z (yi_off ((wanted_eq z z z z).trans z)) (ws_q (v := undef) 24 [25, 26, 27, 28, 29, 30, 31, 32, 33, 34, 35, 36, 37] (by kernel_rfl) z z (yi_off ((wanted_eq z z z z).trans z)) (ws_q (v := undef) 25 [26, 27, 28, 29, 30, 31, 32, 33, 34, 35, 36, 37] (by kernel_rfl) z z (yi_off ((wanted_eq z z z z).trans z)) (ws_q (v := undef) 26 [27, 28, 29, 30, 31, 32, 33, 34, 35, 36, 37] (by kernel_rfl) z z (yi_off ((wanted_eq z z z z).trans z)) (ws_q (v := undef) 27 [28, 29, 30, 31, 32, 33, 34, 35, 36, 37] (by kernel_rfl) z z (yi_off ((wanted_eq z z z z).trans z)) (ws_q (v := undef) 28 [29, 30, 31, 32, 33, 34, 35, 36, 37] (by kernel_rfl) z z (yi_off ((wanted_eq z z z z).trans z)) (ws_q (v := undef) 29 [30, 31, 32, 33, 34, 35, 36, 37] (by kernel_rfl) z z (yi_off ((wanted_eq z z z z).trans z)) (ws_q (v := undef) 30 [31, 32, 33, 34, 35, 36, 37] (by kernel_rfl) z z (yi_off ((wanted_eq z z z z).trans z)) (ws_q (v := undef) 31 [32, 33, 34, 35, 36, 37] (by kernel_rfl) z z (yi_off ((wanted_eq z z z z).trans z)) (ws_q (v := undef) 32 [33, 34, 35, 36, 37] (by kernel_rfl) z z (yi_off ((wanted_eq z z z z).trans z)) (ws_q (v := undef) 33 [34, 35, 36, 37] (by kernel_rfl) z z (yi_off ((wanted_eq z z z z).trans z)) (ws_q (v := undef) 34 [35, 36, 37] (by kernel_rfl) z z (yi_off ((wanted_eq z z z z).trans z)) (ws_q (v := undef) 35 [36, 37] (by kernel_rfl) z z (yi_off ((wanted_eq z z z z).trans z)) ?_))))))))))))
 refine wsr (.bool false) 36 z z z (by kernel_rfl) (fun w hst => x_pick_f z z z) (wsr (.bool false) 37 z z z (by kernel_rfl) (fun w hst => z) ?_)
 refine ws_nil ?_
 intro w hst
 refine tn (wp_ret ?_)
 obtain rfl := some_inj hm
 refine post_ret (vs := [.bool false]) results6 (rvs_cons (rv_tmp z) rvs_nil) ?_
 exact ⟨_, z, hI0, hst.keep0⟩
}
}
}
}
}
}
}
}

end Go.Proofs.Ytbdnbohbmgmonaa
