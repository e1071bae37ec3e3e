/- The Go functions refine their models, part 5. -/
import Derived.Test.YtgnkkopjkgdieaaGreatLanePadsR4
set_option linter.unusedVariables false
set_option linter.unusedSimpArgs false
set_option maxRecDepth 100000
set_option maxHeartbeats 4000000
namespace Go.Proofs.YtgnkkopjkgdieaaGreat
open Go Go.V
open _root_.Go.Proofs.Tryz IntKind
attribute [local irreducible] wpList Code.wp wpQuiet Calls bodyPost Oper.wp wpS Nx PendOK YieldsIn
theorem ref01_Ahead_ref {w0 w : World} {I : HL} {R : SP} {a0 : Nat} {a1 : Nat}  (hst : St w0 w I [] R) {r : (Bool)} (hm : ref01_Ahead a0 a1 = some r) :
  Calls prog 59 #[F6 a0, F6 a1] w fun e w' => e = .returned (.bool r) ∧ St w0 w' I [] R := by {
 unfold ref01_Ahead at hm
 refine calls_start (args := [F6 a0, F6 a1]) func59 z ntmps59 (Nat.le_of_ble_eq_true z) ?_
 refine wp_seq (wrl (wv (.bool false) z z z (wl_nil (tn (wp_seq (wp_seq (wrl (wv (.float .f64 a0) z z z (wv (.float .f64 a0) z z z (wv (.bool (fNe a0 a0)) z z z (wl_nil (tn ?_))))))))))))
 refine bsplit (fNe a0 a0) (fun hc67 => ?_) (fun hc67 => ?_)
 {
 replace hm := bif_t hc67 hm
 refine wp_ift (cvb hc67) ?_
 refine wp_seq (wrl (wv (.bool false) z z z (wl_nil (tn (wp_ret (then_r ?_))))))
 obtain rfl := some_inj hm
 refine post_ret (vs := [.bool false]) results59 (rvs_cons (rv_tmp z) rvs_nil) ?_
 exact ⟨z, hst.keep0⟩
}
 {
 replace hm := bif_f hc67 hm
 refine wp_iff (cvb hc67) ?_
 refine wp_skip (tn (wp_seq (wp_seq (wrl ?_))))
 refine wv (.float .f64 a1) z z z (wv (.float .f64 a1) z z z (wv (.bool (fNe a1 a1)) z z z (wl_nil (tn ?_))))
 refine bsplit (fNe a1 a1) (fun hc68 => ?_) (fun hc68 => ?_)
 {
 replace hm := bif_t hc68 hm
 refine wp_ift (cvb hc68) ?_
 refine wp_seq (wrl (wv (.bool true) z z z (wl_nil (tn (wp_ret (then_r ?_))))))
 obtain rfl := some_inj hm
 refine post_ret (vs := [.bool true]) results59 (rvs_cons (rv_tmp z) rvs_nil) ?_
 exact ⟨z, hst.keep0⟩
}
 {
 replace hm := bif_f hc68 hm
 refine wp_iff (cvb hc68) ?_
 refine wp_skip (tn ?_)
 obtain ⟨y84, hm, hx85⟩ := joinO_some hm
 refine wp_cut (fun a w => ∃ (σ82 : Nat → Value), (ref01_Ahead_j0 a0 a1) () = some r ∧ a = Fr 27 (upd (upd σ82 0 (.float .f64 a0)) 1 (.float .f64 a1)) ∧ St w0 w I [] R) ?_ ?_
 {
 refine wp_seq (wrl (wv (.float .f64 a0) z z z (wv (.bool (fEq a0 (0:Nat))) z z z (wv (.bool (fEq a0 (0:Nat))) z z z ?_))))
 refine bsplit (fEq a0 (0:Nat)) (fun hc69 => ?_) (fun hc69 => ?_)
 {
 replace hm := bif_t hc69 hm
 refine wv (.float .f64 a1) ((wanted_eq z z z (cvb hc69)).trans z) z z (wv (.bool (fEq a1 (0:Nat))) ((wanted_eq z z z (cvb hc69)).trans z) z z (wv (.bool (fEq a1 (0:Nat))) z z (x_pick_t hc69 z z) (wl_nil (tn ?_))))
 refine bsplit (fEq a1 (0:Nat)) (fun hc70 => ?_) (fun hc70 => ?_)
 {
 replace hm := bif_t hc70 hm
 refine wp_ift (cvb hc70) ?_
 refine wp_seq (wrl (wv (.float .f64 a0) z z z ?_))
 obtain ⟨t71, ht72, hm⟩ := bind_some hm
 refine wc call145 [F6 a0] z z z ?_
 refine (math_Signbit_ref hst.to0 ht72).mono ?_
 rintro _ w73 ⟨rfl, hst⟩
 refine ⟨_, z, ?_⟩
 replace hst := hst.of0
 refine wv (.bool t71) z z z ?_
 refine bsplit t71 (fun hc76 => ?_) (fun hc76 => ?_)
 {
 replace hm := bif_t hc76 hm
 refine wv (.float .f64 a1) ((wanted_eq z z z (cvb hc76)).trans z) z z ?_
 obtain ⟨t77, ht78, hm⟩ := bind_some hm
 refine wl_call ((wanted_eq z z z (cvb hc76)).trans z) z (x_call call145 z (vs := [F6 a1]) z) ?_
 refine (math_Signbit_ref hst.to0 ht78).mono ?_
 rintro _ w79 ⟨rfl, hst⟩
 refine ⟨_, z, ?_⟩
 replace hst := hst.of0
 refine wv (.bool (!t77)) ((wanted_eq z z z (cvb hc76)).trans z) z z (wv (.bool (!t77)) z z (x_pick_t hc76 z z) (wv (.bool (!t77)) z z z (wl_nil (tn (wp_ret (then_r ?_))))))
 replace hm := inr_up hm hx85
 obtain rfl := some_inj hm
 refine post_ret (vs := [.bool (!t77)]) results59 (rvs_cons (rv_tmp z) rvs_nil) ?_
 exact ⟨z, hst.keep0⟩
}
 {
 replace hm := bif_f hc76 hm
 refine wo hc76 z z z z z z (wo hc76 z z z z z z (wo hc76 z z z z z z (wv (.bool false) z z (x_pick_f hc76 z z) (wv (.bool false) z z z (wl_nil (tn (wp_ret (then_r ?_))))))))
 replace hm := inr_up hm hx85
 obtain rfl := some_inj hm
 refine post_ret (vs := [.bool false]) results59 (rvs_cons (rv_tmp z) rvs_nil) ?_
 exact ⟨z, hst.keep0⟩
}
}
 {
 replace hm := bif_f hc70 hm
 refine wp_iff (cvb hc70) ?_
 refine wp_skip (tn ?_)
 replace hst := hst.keep0
 obtain rfl := some_inj hm
 exact ⟨_, hx85, (fu 0 (.float .f64 a0) z (fu 1 (.float .f64 a1) z z)), hst⟩
}
}
 {
 replace hm := bif_f hc69 hm
 refine wo hc69 z z z z z z (wo hc69 z z z z z z (wv (.bool false) z z (x_pick_f hc69 z z) (wl_nil (tn ?_))))
 refine wp_iff z ?_
 refine wp_skip (tn ?_)
 replace hst := hst.keep0
 obtain rfl := some_inj hm
 exact ⟨_, hx85, (fu 0 (.float .f64 a0) z (fu 1 (.float .f64 a1) z z)), hst⟩
}
}
 {
 clear hst
 rintro _ w86 ⟨σ82, hm, rfl, hst⟩
 dsimp only [ref01_Ahead_j0] at hm
 refine wp_seq (wrl (wv (.float .f64 a0) z z z (wv (.float .f64 a1) z z z (wv (.bool (fLt a0 a1)) z z z (wv (.bool (fLt a0 a1)) z z z (wl_nil (tn (wp_ret ?_))))))))
 obtain rfl := some_inj hm
 refine post_ret (vs := [.bool (fLt a0 a1)]) results59 (rvs_cons (rv_tmp z) rvs_nil) ?_
 exact ⟨z, hst.keep0⟩
}
}
}
}

theorem ref01_Same_ref {w0 w : World} {I : HL} {R : SP} {a0 : Nat} {a1 : Nat}  (hst : St w0 w I [] R) {r : (Bool)} (hm : ref01_Same a0 a1 = some r) :
  Calls prog 20 #[F6 a0, F6 a1] w fun e w' => e = .returned (.bool r) ∧ St w0 w' I [] R := by {
 unfold ref01_Same at hm
 refine calls_start (args := [F6 a0, F6 a1]) func20 z ntmps20 (Nat.le_of_ble_eq_true z) ?_
 refine wp_seq (wrl (wv (.bool false) z z z (wl_nil (tn (wp_seq (wrl (wv (.float .f64 a0) z z z (wv (.float .f64 a1) z z z ?_))))))))
 obtain ⟨t58, ht59, hm⟩ := bind_some hm
 refine wc call59 [F6 a0, F6 a1] z z z ?_
 refine (ref01_Ahead_ref hst.to0 ht59).mono ?_
 rintro _ w60 ⟨rfl, hst⟩
 refine ⟨_, z, ?_⟩
 replace hst := hst.of0
 refine wv (.bool (!t58)) z z z (wv (.bool (!t58)) z z z ?_)
 refine bsplit (!t58) (fun hc63 => ?_) (fun hc63 => ?_)
 {
 replace hm := bif_t hc63 hm
 refine wv (.float .f64 a1) ((wanted_eq z z z (cvb hc63)).trans z) z z (wv (.float .f64 a0) ((wanted_eq z z z (cvb hc63)).trans z) z z ?_)
 obtain ⟨t64, ht65, hm⟩ := bind_some hm
 refine wl_call ((wanted_eq z z z (cvb hc63)).trans z) z (x_call call59 z (vs := [F6 a1, F6 a0]) z) ?_
 refine (ref01_Ahead_ref hst.to0 ht65).mono ?_
 rintro _ w66 ⟨rfl, hst⟩
 refine ⟨_, z, ?_⟩
 replace hst := hst.of0
 refine wv (.bool (!t64)) ((wanted_eq z z z (cvb hc63)).trans z) z z (wv (.bool (!t64)) z z (x_pick_t hc63 z z) (wv (.bool (!t64)) z z z (wl_nil (tn (wp_ret ?_)))))
 obtain rfl := some_inj hm
 refine post_ret (vs := [.bool (!t64)]) results20 (rvs_cons (rv_tmp z) rvs_nil) ?_
 exact ⟨z, hst.keep0⟩
}
 {
 replace hm := bif_f hc63 hm
 refine wo hc63 z z z z z z (wo hc63 z z z z z z (wo hc63 z z z z z z (wo hc63 z z z z z z (wv (.bool false) z z (x_pick_f hc63 z z) (wv (.bool false) z z z (wl_nil (tn (wp_ret ?_))))))))
 obtain rfl := some_inj hm
 refine post_ret (vs := [.bool false]) results20 (rvs_cons (rv_tmp z) rvs_nil) ?_
 exact ⟨z, hst.keep0⟩
}
}

theorem ref13_SameWrites_ref {w0 w : World} {I : HL} {R : SP} {a0 : (List api_Write)} {r0_0 : Value} {a1 : (List api_Write)} {r1_0 : Value} (f0_0 : Rd ty_api_Write R I r0_0 a0) (f1_0 : Rd ty_api_Write R I r1_0 a1) (hst : St w0 w I [] R) {r : (Bool)} (hm : ref13_SameWrites a0 a1 = some r) :
  Calls prog 18 #[r0_0, r1_0] w fun e w' => e = .returned (.bool r) ∧ St w0 w' I [] R := by {
 unfold ref13_SameWrites at hm
 refine calls_start (args := [r0_0, r1_0]) func18 z ntmps18 (Nat.le_of_ble_eq_true z) ?_
 refine wp_seq (wrl (wv (.bool false) z z z (wl_nil (tn (wp_seq (wp_seq (wrl (wv (r0_0) z z z (wv (.int .i64 ((a0).length : Int)) z z (x_len z underlying42 (rd_sliceV f0_0)) (wv (r1_0) z z z (wv (.int .i64 ((a1).length : Int)) z z (x_len z underlying42 (rd_sliceV f1_0)) (wv (.bool (((a0).length : Int) != ((a1).length : Int))) z z z (wl_nil (tn ?_))))))))))))))
 refine bsplit (((a0).length : Int) != ((a1).length : Int)) (fun hc187 => ?_) (fun hc187 => ?_)
 {
 replace hm := bif_t hc187 hm
 refine wp_ift (cvb hc187) ?_
 refine wp_seq (wrl (wv (.bool false) z z z (wl_nil (tn (wp_ret (then_r ?_))))))
 obtain rfl := some_inj hm
 refine post_ret (vs := [.bool false]) results18 (rvs_cons (rv_tmp z) rvs_nil) ?_
 exact ⟨z, hst.keep0⟩
}
 {
 replace hm := bif_f hc187 hm
 refine wp_iff (cvb hc187) ?_
 refine wp_skip (tn (wp_seq (wp_seq (wrl ?_))))
 refine wv (.int .i64 (0:Int)) z z z (wl_nil (tn (wp_block ?_)))
 obtain ⟨n277, hm⟩ := loopO_some hm
 refine wp_loop_n (fun n a w => ∃ (z275 : Int) (σ276 : Nat → Value), loopN (ref13_SameWrites_l0 a0 a1) n z275 = some r ∧ a = Fr 57 (upd (upd (upd σ276 0 (r0_0)) 1 (r1_0)) 5 (.int .i64 z275)) ∧ St w0 w I [] R) n277 ⟨(0:Int), _, hm, (fu 0 r0_0 z (fu 1 r1_0 z (fu 5 (.int .i64 (0:Int)) z z))), hst⟩ ?_
 rintro n283 _ w278 ⟨z275, σ276, hm, rfl, hst⟩
 obtain ⟨n280, y281, rfl, hm, hx282⟩ := loopN_some hm
 dsimp only [ref13_SameWrites_l0] at hm
 refine wp_seq (wp_seq (wrl (wv (.int .i64 z275) z z z (wv (r0_0) z z z (wv (.int .i64 ((a0).length : Int)) z z (x_len z underlying42 (rd_sliceV f0_0)) (wv (.bool (decide (z275 < ((a0).length : Int)))) z z z (wl_nil (tn ?_))))))))
 refine bsplit (decide (z275 < ((a0).length : Int))) (fun hc284 => ?_) (fun hc284 => ?_)
 {
 replace hm := bif_t hc284 hm
 refine wp_ift (cvb hc284) ?_
 refine wp_skip (tn (wp_seq (wp_block (wp_seq ?_))))
 refine wp_region_St hst 40 [0, 1, 2, 3, 4, 5, 6, 7, 8, 9, 10, 11, 12, 13, 14, 15, 16, 17, 18, 19, 20, 21, 22, 23, 24, 25, 26, 27, 28, 29, 30, 31, 32, 33, 34, 35, 36, 37, 38, 39] [0, 0, 3, 7, 15, 0, 0, 96, 224, 480, 1023, 2047, 4095, 8191, 8191, 32767, 65535, 131071, 8191, 8191, 794623, 1843199, 3940351, 8388607, 16777215, 33554431, 67108863, 67108863, 268435455, 536870911, 1073741823, 2147483647, 67108863, 67108863, 12952010751, 30131879935, 64491618303, 133211095039, 274877906943, 549755813887] [] z (by kernel_rfl) (by kernel_rfl) Tryz.mixed (by kernel_rfl) ?_
 refine wsr (r0_0) 0 z z z (by kernel_rfl) (fun w hst => z) (wsr (.int .i64 z275) 1 z z z (by kernel_rfl) (fun w hst => z) ?_)
 obtain ⟨x285, hx286, hm⟩ := bind_some hm
 obtain ⟨h287, h288, hi289⟩ := geto_some hx286
 refine wsr (.pointer (some (eAddr r0_0 (z275.toNat * 3 + 0)))) 2 z z z (by kernel_rfl) (fun w hst => x_index z z underlying42 sizeOf41 (rd_sliceV f0_0) h287 h288) (wsr (.pointer (some (eAddr r0_0 (z275.toNat * 3 + 0)))) 3 z z z (by kernel_rfl) (fun w hst => x_field_e z underlying41 z sizeOf37 z) ?_)
 obtain ⟨cs290, hr291, hc292⟩ := Rd.getF f0_0 hi289
 obtain ⟨v293, rfl, f294, -⟩ := hr291
 refine wsr (.float .f64 x285.At) 4 z z z (by kernel_rfl) (fun w hst => x_load z isAgg37 ((hc292 (HL.le.refl _) hst) 0 _ z)) (wsr (r1_0) 5 z z z (by kernel_rfl) (fun w hst => z) (wsr (.int .i64 z275) 6 z z z (by kernel_rfl) (fun w hst => z) ?_))
 obtain ⟨x296, hx297, hm⟩ := bind_some hm
 obtain ⟨h298, h299, hi300⟩ := geto_some hx297
 refine wsr (.pointer (some (eAddr r1_0 (z275.toNat * 3 + 0)))) 7 z z z (by kernel_rfl) (fun w hst => x_index z z underlying42 sizeOf41 (rd_sliceV f1_0) h298 h299) (wsr (.pointer (some (eAddr r1_0 (z275.toNat * 3 + 0)))) 8 z z z (by kernel_rfl) (fun w hst => x_field_e z underlying41 z sizeOf37 z) ?_)
 obtain ⟨cs301, hr302, hc303⟩ := Rd.getF f1_0 hi300
 obtain ⟨v304, rfl, f305, -⟩ := hr302
 refine wsr (.float .f64 x296.At) 9 z z z (by kernel_rfl) (fun w hst => x_load z isAgg37 ((hc303 (HL.le.refl _) hst) 0 _ z)) ?_
 refine ws_e1 10 (by kernel_rfl) ?_
 refine nxe [11, 12, 13, 14, 15, 16, 17, 18, 19, 20, 21, 22, 23, 24, 25, 26, 27, 28, 29, 30, 31, 32, 33, 34, 35, 36, 37, 38, 39] (by kernel_rfl) z z ?_
 clear hst
 intro w hst
 obtain ⟨t307, ht308, hm⟩ := bind_some hm
 refine wec call20 [F6 x285.At, F6 x296.At] z z ?_
 refine (ref01_Same_ref hst.to0 ht308).mono ?_
 rintro _ w309 ⟨rfl, hst⟩
 refine ⟨_, z, ?_⟩
 replace hst := hst.of0
 refine ws_next (pend' := []) hst (by kernel_rfl) pk_nil ?_
 refine wsr (.bool (!t307)) 11 z z z (by kernel_rfl) (fun w hst => z) (wsr (.bool (!t307)) 12 z z z (by kernel_rfl) (fun w hst => z) ?_)
 refine bsplit (!t307) (fun hc312 => ?_) (fun hc312 => ?_)
 {
 replace hm := bif_t hc312 hm
 refine ws_q (v := undef) 13 [14, 15, 16, 17, 18, 19, 20, 21, 22, 23, 24, 25, 26, 27, 28, 29, 30, 31, 32, 33, 34, 35, 36, 37, 38, 39] (by kernel_rfl) z z (yi_off ((wanted_eq z z z (cvb hc312)).trans z)) (ws_q (v := undef) 14 [15, 16, 17, 18, 19, 20, 21, 22, 23, 24, 25, 26, 27, 28, 29, 30, 31, 32, 33, 34, 35, 36, 37, 38, 39] (by kernel_rfl) z z (yi_off ((wanted_eq z z z (cvb hc312)).trans z)) (ws_q (v := undef) 15 [16, 17, 18, 19, 20, 21, 22, 23, 24, 25, 26, 27, 28, 29, 30, 31, 32, 33, 34, 35, 36, 37, 38, 39] (by kernel_rfl) z z (yi_off ((wanted_eq z z z (cvb hc312)).trans z)) (ws_q (v := undef) 16 [17, 18, 19, 20, 21, 22, 23, 24, 25, 26, 27, 28, 29, 30, 31, 32, 33, 34, 35, 36, 37, 38, 39] (by kernel_rfl) z z (yi_off ((wanted_eq z z z (cvb hc312)).trans z)) (ws_q (v := undef) 17 [18, 19, 20, 21, 22, 23, 24, 25, 26, 27, 28, 29, 30, 31, 32, 33, 34, 35, 36, 37, 38, 39] (by kernel_rfl) z z (yi_off ((wanted_eq z z z (cvb hc312)).trans z)) (ws_q (v := undef) 18 [19, 20, 21, 22, 23, 24, 25, 26, 27, 28, 29, 30, 31, 32, 33, 34, 35, 36, 37, 38, 39] (by kernel_rfl) z z (yi_off ((wanted_eq z z z (cvb hc312)).trans z)) (ws_q (v := undef) 19 [20, 21, 22, 23, 24, 25, 26, 27, 28, 29, 30, 31, 32, 33, 34, 35, 36, 37, 38, 39] (by kernel_rfl) z z (yi_off ((wanted_eq z z z (cvb hc312)).trans z)) (ws_q (v := undef) 20 [21, 22, 23, 24, 25, 26, 27, 28, 29, 30, 31, 32, 33, 34, 35, 36, 37, 38, 39] (by kernel_rfl) z z (yi_off ((wanted_eq z z z (cvb hc312)).trans z)) (ws_q (v := undef) 21 [22, 23, 24, 25, 26, 27, 28, 29, 30, 31, 32, 33, 34, 35, 36, 37, 38, 39] (by kernel_rfl) z z (yi_off ((wanted_eq z z z (cvb hc312)).trans z)) (ws_q (v := undef) 22 [23, 24, 25, 26, 27, 28, 29, 30, 31, 32, 33, 34, 35, 36, 37, 38, 39] (by kernel_rfl) z z (yi_off ((wanted_eq z z z (cvb hc312)).trans z)) (ws_q (v := undef) 23 [24, 25, 26, 27, 28, 29, 30, 31, 32, 33, 34, 35, 36, 37, 38, 39] (by kernel_rfl) z z (yi_off ((wanted_eq z z z (cvb hc312)).trans z)) (wsr (.bool true) 24 z z z (by kernel_rfl) (fun w hst => x_pick_t hc312 z z) (wsr (.bool true) 25 z z z (by kernel_rfl) (fun w hst => z) ?_))))))))))))
 refine ws_q (v := undef) 26 [27, 28, 29, 30, 31, 32, 33, 34, 35, 36, 37, 38, 39] (by kernel_rfl) z z (yi_off ((wanted_eq z z z z).trans z)) (ws_q (v := undef) 27 [28, 29, 30, 31, 32, 33, 34, 35, 36, 37, 38, 39] (by kernel_rfl) z z (yi_off ((wanted_eq z z z z).trans z)) (ws_q (v := undef) 28 [29, 30, 31, 32, 33, 34, 35, 36, 37, 38, 39] (by kernel_rfl) z z (yi_off ((wanted_eq z z z z).trans z)) (ws_q (v := undef) 29 [30, 31, 32, 33, 34, 35, 36, 37, 38, 39] (by kernel_rfl) z z (yi_off ((wanted_eq z z z z).trans z)) (ws_q (v := undef) 30 [31, 32, 33, 34, 35, 36, 37, 38, 39] (by kernel_rfl) z z (yi_off ((wanted_eq z z z z).trans z)) (ws_q (v := undef) 31 [32, 33, 34, 35, 36, 37, 38, 39] (by kernel_rfl) z z (yi_off ((wanted_eq z z z z).trans z)) (ws_q (v := undef) 32 [33, 34, 35, 36, 37, 38, 39] (by kernel_rfl) z z (yi_off ((wanted_eq z z z z).trans z)) (ws_q (v := undef) 33 [34, 35, 36, 37, 38, 39] (by kernel_rfl) z z (yi_off ((wanted_eq z z z z).trans z)) (ws_q (v := undef) 34 [35, 36, 37, 38, 39] (by kernel_rfl) z z (yi_off ((wanted_eq z z z z).trans z)) (ws_q (v := undef) 35 [36, 37, 38, 39] (by kernel_rfl) z z (yi_off ((wanted_eq z z z z).trans z)) (ws_q (v := undef) 36 [37, 38, 39] (by kernel_rfl) z z (yi_off ((wanted_eq z z z z).trans z)) (ws_q (v := undef) 37 [38, 39] (by kernel_rfl) z z (yi_off ((wanted_eq z z z z).trans z)) (ws_q (v := undef) 38 [39] (by kernel_rfl) z z (yi_off ((wanted_eq z z z z).trans z)) ?_))))))))))))
 refine wsr (.bool true) 39 z z z (by kernel_rfl) (fun w hst => x_pick_t z z z) ?_
 refine ws_nil ?_
 intro w hst
 refine tn ?_
 refine wp_ift z ?_
 refine wp_seq (wrl (wv (.bool false) z z z (wl_nil (tn (wp_ret (blk_r (then_r (then_r ?_))))))))
 replace hm := inr_up hm hx282
 refine blk_r (then_r ?_)
 obtain rfl := some_inj hm
 refine post_ret (vs := [.bool false]) results18 (rvs_cons (rv_tmp z) rvs_nil) ?_
 exact ⟨z, hst.keep0⟩
}
 {
 replace hm := bif_f hc312 hm
 refine ws_q (v := r0_0) 13 [14, 15, 16, 17, 18, 19, 20, 21, 22, 23, 24, 25, 26, 27, 28, 29, 30, 31, 32, 33, 34, 35, 36, 37, 38, 39] (by kernel_rfl) z z (yi_run ((wanted_eq z z z (cvb hc312)).trans z) (fun w hst => z)) (ws_q (v := .int .i64 z275) 14 [15, 16, 17, 18, 19, 20, 21, 22, 23, 24, 25, 26, 27, 28, 29, 30, 31, 32, 33, 34, 35, 36, 37, 38, 39] (by kernel_rfl) z z (yi_run ((wanted_eq z z z (cvb hc312)).trans z) (fun w hst => z)) (ws_q (v := .pointer (some (eAddr r0_0 (z275.toNat * 3 + 0)))) 15 [16, 17, 18, 19, 20, 21, 22, 23, 24, 25, 26, 27, 28, 29, 30, 31, 32, 33, 34, 35, 36, 37, 38, 39] (by kernel_rfl) z z (yi_run ((wanted_eq z z z (cvb hc312)).trans z) (fun w hst => x_index z z underlying42 sizeOf41 (rd_sliceV f0_0) h287 h288)) (ws_q (v := .pointer (some (eAddr r0_0 (z275.toNat * 3 + 1)))) 16 [17, 18, 19, 20, 21, 22, 23, 24, 25, 26, 27, 28, 29, 30, 31, 32, 33, 34, 35, 36, 37, 38, 39] (by kernel_rfl) z z (yi_run ((wanted_eq z z z (cvb hc312)).trans z) (fun w hst => x_field_e z underlying41 z sizeOf4 z)) ?_)))
 obtain ⟨cs313, hr314, hc315⟩ := Rd.getF f0_0 hi289
 obtain ⟨v316, rfl, f317, -⟩ := hr314
 refine ws_q (v := .bool x285.Del) 17 [18, 19, 20, 21, 22, 23, 24, 25, 26, 27, 28, 29, 30, 31, 32, 33, 34, 35, 36, 37, 38, 39] (by kernel_rfl) z z (yi_run ((wanted_eq z z z (cvb hc312)).trans z) (fun w hst => x_load z isAgg4 ((hc315 (HL.le.refl _) hst) 1 _ z))) (ws_q (v := r1_0) 18 [19, 20, 21, 22, 23, 24, 25, 26, 27, 28, 29, 30, 31, 32, 33, 34, 35, 36, 37, 38, 39] (by kernel_rfl) z z (yi_run ((wanted_eq z z z (cvb hc312)).trans z) (fun w hst => z)) (ws_q (v := .int .i64 z275) 19 [20, 21, 22, 23, 24, 25, 26, 27, 28, 29, 30, 31, 32, 33, 34, 35, 36, 37, 38, 39] (by kernel_rfl) z z (yi_run ((wanted_eq z z z (cvb hc312)).trans z) (fun w hst => z)) (ws_q (v := .pointer (some (eAddr r1_0 (z275.toNat * 3 + 0)))) 20 [21, 22, 23, 24, 25, 26, 27, 28, 29, 30, 31, 32, 33, 34, 35, 36, 37, 38, 39] (by kernel_rfl) z z (yi_run ((wanted_eq z z z (cvb hc312)).trans z) (fun w hst => x_index z z underlying42 sizeOf41 (rd_sliceV f1_0) h298 h299)) (ws_q (v := .pointer (some (eAddr r1_0 (z275.toNat * 3 + 1)))) 21 [22, 23, 24, 25, 26, 27, 28, 29, 30, 31, 32, 33, 34, 35, 36, 37, 38, 39] (by kernel_rfl) z z (yi_run ((wanted_eq z z z (cvb hc312)).trans z) (fun w hst => x_field_e z underlying41 z sizeOf4 z)) ?_))))
 obtain ⟨cs319, hr320, hc321⟩ := Rd.getF f1_0 hi300
 obtain ⟨v322, rfl, f323, -⟩ := hr320
 refine ws_q (v := .bool x296.Del) 22 [23, 24, 25, 26, 27, 28, 29, 30, 31, 32, 33, 34, 35, 36, 37, 38, 39] (by kernel_rfl) z z (yi_run ((wanted_eq z z z (cvb hc312)).trans z) (fun w hst => x_load z isAgg4 ((hc321 (HL.le.refl _) hst) 1 _ z))) (ws_q (v := .bool (!(x285.Del == x296.Del))) 23 [24, 25, 26, 27, 28, 29, 30, 31, 32, 33, 34, 35, 36, 37, 38, 39] (by kernel_rfl) z z (yi_run ((wanted_eq z z z (cvb hc312)).trans z) (fun w hst => by kernel_rfl)) (wsr (.bool (!(x285.Del == x296.Del))) 24 z z z (by kernel_rfl) (fun w hst => x_pick_f hc312 z z) (wsr (.bool (!(x285.Del == x296.Del))) 25 z z z (by kernel_rfl) (fun w hst => z) ?_)))
 refine bsplit (!(x285.Del == x296.Del)) (fun hc325 => ?_) (fun hc325 => ?_)
 {
 replace hm := bif_t hc325 hm
 refine ws_q (v := undef) 26 [27, 28, 29, 30, 31, 32, 33, 34, 35, 36, 37, 38, 39] (by kernel_rfl) z z (yi_off ((wanted_eq z z z (cvb hc325)).trans z)) (ws_q (v := undef) 27 [28, 29, 30, 31, 32, 33, 34, 35, 36, 37, 38, 39] (by kernel_rfl) z z (yi_off ((wanted_eq z z z (cvb hc325)).trans z)) (ws_q (v := undef) 28 [29, 30, 31, 32, 33, 34, 35, 36, 37, 38, 39] (by kernel_rfl) z z (yi_off ((wanted_eq z z z (cvb hc325)).trans z)) (ws_q (v := undef) 29 [30, 31, 32, 33, 34, 35, 36, 37, 38, 39] (by kernel_rfl) z z (yi_off ((wanted_eq z z z (cvb hc325)).trans z)) (ws_q (v := undef) 30 [31, 32, 33, 34, 35, 36, 37, 38, 39] (by kernel_rfl) z z (yi_off ((wanted_eq z z z (cvb hc325)).trans z)) (ws_q (v := undef) 31 [32, 33, 34, 35, 36, 37, 38, 39] (by kernel_rfl) z z (yi_off ((wanted_eq z z z (cvb hc325)).trans z)) (ws_q (v := undef) 32 [33, 34, 35, 36, 37, 38, 39] (by kernel_rfl) z z (yi_off ((wanted_eq z z z (cvb hc325)).trans z)) (ws_q (v := undef) 33 [34, 35, 36, 37, 38, 39] (by kernel_rfl) z z (yi_off ((wanted_eq z z z (cvb hc325)).trans z)) (ws_q (v := undef) 34 [35, 36, 37, 38, 39] (by kernel_rfl) z z (yi_off ((wanted_eq z z z (cvb hc325)).trans z)) (ws_q (v := undef) 35 [36, 37, 38, 39] (by kernel_rfl) z z (yi_off ((wanted_eq z z z (cvb hc325)).trans z)) (ws_q (v := undef) 36 [37, 38, 39] (by kernel_rfl) z z (yi_off ((wanted_eq z z z (cvb hc325)).trans z)) (ws_q (v := undef) 37 [38, 39] (by kernel_rfl) z z (yi_off ((wanted_eq z z z (cvb hc325)).trans z)) (ws_q (v := undef) 38 [39] (by kernel_rfl) z z (yi_off ((wanted_eq z z z (cvb hc325)).trans z)) ?_))))))))))))
 refine wsr (.bool true) 39 z z z (by kernel_rfl) (fun w hst => x_pick_t hc325 z z) ?_
 refine ws_nil ?_
 intro w hst
 refine tn ?_
 refine wp_ift z ?_
 refine wp_seq (wrl (wv (.bool false) z z z (wl_nil (tn (wp_ret (blk_r (then_r (then_r ?_))))))))
 replace hm := inr_up hm hx282
 refine blk_r (then_r ?_)
 obtain rfl := some_inj hm
 refine post_ret (vs := [.bool false]) results18 (rvs_cons (rv_tmp z) rvs_nil) ?_
 exact ⟨z, hst.keep0⟩
}
 {
 replace hm := bif_f hc325 hm
 refine ws_q (v := r0_0) 26 [27, 28, 29, 30, 31, 32, 33, 34, 35, 36, 37, 38, 39] (by kernel_rfl) z z (yi_run ((wanted_eq z z z (cvb hc325)).trans z) (fun w hst => z)) (ws_q (v := .int .i64 z275) 27 [28, 29, 30, 31, 32, 33, 34, 35, 36, 37, 38, 39] (by kernel_rfl) z z (yi_run ((wanted_eq z z z (cvb hc325)).trans z) (fun w hst => z)) (ws_q (v := .pointer (some (eAddr r0_0 (z275.toNat * 3 + 0)))) 28 [29, 30, 31, 32, 33, 34, 35, 36, 37, 38, 39] (by kernel_rfl) z z (yi_run ((wanted_eq z z z (cvb hc325)).trans z) (fun w hst => x_index z z underlying42 sizeOf41 (rd_sliceV f0_0) h287 h288)) (ws_q (v := .pointer (some (eAddr r0_0 (z275.toNat * 3 + 2)))) 29 [30, 31, 32, 33, 34, 35, 36, 37, 38, 39] (by kernel_rfl) z z (yi_run ((wanted_eq z z z (cvb hc325)).trans z) (fun w hst => x_field_e z underlying41 z sizeOf22 z)) (ws_q (v := v316) 30 [31, 32, 33, 34, 35, 36, 37, 38, 39] (by kernel_rfl) z z (yi_run ((wanted_eq z z z (cvb hc325)).trans z) (fun w hst => x_load z isAgg22 ((hc315 (HL.le.refl _) hst) 2 _ z))) (ws_q (v := .string (toStr x285.Val)) 31 [32, 33, 34, 35, 36, 37, 38, 39] (by kernel_rfl) z z (yi_run ((wanted_eq z z z (cvb hc325)).trans z) (fun w hst => x_tostr underlying22 underlying9 underlying5 z (Src.of_rd hst f317 flat_int))) (ws_q (v := r1_0) 32 [33, 34, 35, 36, 37, 38, 39] (by kernel_rfl) z z (yi_run ((wanted_eq z z z (cvb hc325)).trans z) (fun w hst => z)) (ws_q (v := .int .i64 z275) 33 [34, 35, 36, 37, 38, 39] (by kernel_rfl) z z (yi_run ((wanted_eq z z z (cvb hc325)).trans z) (fun w hst => z)) (ws_q (v := .pointer (some (eAddr r1_0 (z275.toNat * 3 + 0)))) 34 [35, 36, 37, 38, 39] (by kernel_rfl) z z (yi_run ((wanted_eq z z z (cvb hc325)).trans z) (fun w hst => x_index z z underlying42 sizeOf41 (rd_sliceV f1_0) h298 h299)) (ws_q (v := .pointer (some (eAddr r1_0 (z275.toNat * 3 + 2)))) 35 [36, 37, 38, 39] (by kernel_rfl) z z (yi_run ((wanted_eq z z z (cvb hc325)).trans z) (fun w hst => x_field_e z underlying41 z sizeOf22 z)) (ws_q (v := v322) 36 [37, 38, 39] (by kernel_rfl) z z (yi_run ((wanted_eq z z z (cvb hc325)).trans z) (fun w hst => x_load z isAgg22 ((hc321 (HL.le.refl _) hst) 2 _ z))) (ws_q (v := .string (toStr x296.Val)) 37 [38, 39] (by kernel_rfl) z z (yi_run ((wanted_eq z z z (cvb hc325)).trans z) (fun w hst => x_tostr underlying22 underlying9 underlying5 z (Src.of_rd hst f323 flat_int))) (ws_q (v := .bool (!(sEq (toStr x285.Val) (toStr x296.Val)))) 38 [39] (by kernel_rfl) z z (yi_run ((wanted_eq z z z (cvb hc325)).trans z) (fun w hst => by kernel_rfl)) ?_))))))))))))
 refine wsr (.bool (!(sEq (toStr x285.Val) (toStr x296.Val)))) 39 z z z (by kernel_rfl) (fun w hst => x_pick_f hc325 z z) ?_
 refine ws_nil ?_
 intro w hst
 refine tn ?_
 refine bsplit (!(sEq (toStr x285.Val) (toStr x296.Val))) (fun hc326 => ?_) (fun hc326 => ?_)
 {
 replace hm := bif_t hc326 hm
 refine wp_ift (cvb hc326) ?_
 refine wp_seq (wrl (wv (.bool false) z z z (wl_nil (tn (wp_ret (blk_r (then_r (then_r ?_))))))))
 replace hm := inr_up hm hx282
 refine blk_r (then_r ?_)
 obtain rfl := some_inj hm
 refine post_ret (vs := [.bool false]) results18 (rvs_cons (rv_tmp z) rvs_nil) ?_
 exact ⟨z, hst.keep0⟩
}
 {
 replace hm := bif_f hc326 hm
 refine wp_iff (cvb hc326) ?_
 refine wp_skip (blk_n (tn (wrl ?_)))
 refine wv (.int .i64 z275) z z z (wv (.int .i64 (i64.wrap (z275 + (1:Int)))) z z z (wv (.int .i64 (i64.wrap (z275 + (1:Int)))) z z z (wl_nil (tn ?_))))
 replace hst := hst.keep0
 obtain rfl := some_inj hm
 exact ⟨_, Nat.lt_succ_self _, (i64.wrap (z275 + (1:Int))), _, hx282, (fu 0 r0_0 z (fu 1 r1_0 z (fu 5 (.int .i64 (i64.wrap (z275 + (1:Int)))) z z))), hst⟩
}
}
}
}
 {
 replace hm := bif_f hc284 hm
 refine wp_iff (cvb hc284) ?_
 refine wp_exit (then_x (then_x ?_))
 replace hm := inr_up hm hx282
 refine blk_x (tn (wp_seq (wrl ?_)))
 refine wv (.bool true) z z z (wl_nil (tn (wp_ret ?_)))
 obtain rfl := some_inj hm
 refine post_ret (vs := [.bool true]) results18 (rvs_cons (rv_tmp z) rvs_nil) ?_
 exact ⟨z, hst.keep0⟩
}
}
}

theorem law16_LanePads_ref {w0 w : World} {I : HL} {R : SP} {a0 : Nat} {a1 : Bool} {a2 : (List Int)} {r2_0 : Value} {a3 : Int} (f2_0 : Rd (tyInt .u8) R I r2_0 a2) (hst : St w0 w I [] R) {r : (Bool)} (hm : law16_LanePads a0 a1 a2 a3 = some r) :
  Calls prog 4 #[F6 a0, .bool a1, r2_0, I6 a3] w fun e w' => ∃ (I' : HL), e = .returned (.bool r) ∧ I.le I' ∧ St w0 w' I' [] R := by {
 unfold law16_LanePads at hm
 refine calls_start (args := [F6 a0, .bool a1, r2_0, I6 a3]) func4 z ntmps4 (Nat.le_of_ble_eq_true z) ?_
 have hI0 := HL.le.refl I
 refine wp_seq (wrl (wv (.bool false) z z z (wl_nil (tn (wp_seq (wp_seq (wrl ?_)))))))
 obtain ⟨t156, ht157, hm⟩ := bind_some hm
 refine wc call12 [] z z z ?_
 refine (law16_awake_ref hst.to0 ht157).mono ?_
 rintro _ w158 ⟨I159, rfl, hI160, hst⟩
 refine ⟨_, z, ?_⟩
 replace hst := hst.of0
 replace f2_0 := f2_0.mono (rd_le hI160)
 replace hI0 := hI0.trans hI160
 refine wv (.bool (!t156)) z z z (wv (.bool (!t156)) z z z ?_)
 refine bsplit (!t156) (fun hc161 => ?_) (fun hc161 => ?_)
 {
 replace hm := bif_t hc161 hm
 refine wo hc161 z z z z z z (wo hc161 z z z z z z (wo hc161 z z z z z z (wv (.bool true) z z (x_pick_t hc161 z z) (wl_nil (tn ?_)))))
 refine wp_ift z ?_
 refine wp_seq (wrl ?_)
 obtain ⟨t162, ht163, hm⟩ := bind_some hm
 refine wc call12 [] z z z ?_
 refine (law16_awake_ref hst.to0 ht163).mono ?_
 rintro _ w164 ⟨I165, rfl, hI166, hst⟩
 refine ⟨_, z, ?_⟩
 replace hst := hst.of0
 replace f2_0 := f2_0.mono (rd_le hI166)
 replace hI0 := hI0.trans hI166
 refine wv (.bool t162) z z z (wl_nil (tn (wp_ret (then_r ?_))))
 obtain rfl := some_inj hm
 refine post_ret (vs := [.bool t162]) results4 (rvs_cons (rv_tmp z) rvs_nil) ?_
 exact ⟨_, z, hI0, hst.keep0⟩
}
 {
 replace hm := bif_f hc161 hm
 refine wv (r2_0) ((wanted_eq z z z (cvb hc161)).trans z) z z (wv (.int .i64 ((a2).length : Int)) ((wanted_eq z z z (cvb hc161)).trans z) z (x_len z underlying22 (rd_sliceV f2_0)) (wv (.bool (decide (((a2).length : Int) > (300:Int)))) ((wanted_eq z z z (cvb hc161)).trans z) z z (wv (.bool (decide (((a2).length : Int) > (300:Int)))) z z (x_pick_f hc161 z z) (wl_nil (tn ?_)))))
 refine bsplit (decide (((a2).length : Int) > (300:Int))) (fun hc167 => ?_) (fun hc167 => ?_)
 {
 replace hm := bif_t hc167 hm
 refine wp_ift (cvb hc167) ?_
 refine wp_seq (wrl ?_)
 obtain ⟨t168, ht169, hm⟩ := bind_some hm
 refine wc call12 [] z z z ?_
 refine (law16_awake_ref hst.to0 ht169).mono ?_
 rintro _ w170 ⟨I171, rfl, hI172, hst⟩
 refine ⟨_, z, ?_⟩
 replace hst := hst.of0
 replace f2_0 := f2_0.mono (rd_le hI172)
 replace hI0 := hI0.trans hI172
 refine wv (.bool t168) z z z (wl_nil (tn (wp_ret (then_r ?_))))
 obtain rfl := some_inj hm
 refine post_ret (vs := [.bool t168]) results4 (rvs_cons (rv_tmp z) rvs_nil) ?_
 exact ⟨_, z, hI0, hst.keep0⟩
}
 {
 replace hm := bif_f hc167 hm
 refine wp_iff (cvb hc167) ?_
 refine wp_skip (tn (wp_seq (wrl ?_)))
 refine wv (.int .i64 a3) z z z (wv (.int .i64 (Int.tmod a3 (300:Int))) z z (x_rem (by decide) z z) (wv (.int .i64 (Int.tmod a3 (300:Int))) z z z (wl_nil (tn (wp_seq (wrl (wv (.float .f64 a0) z z z (wv (.bool a1) z z z (wv (r2_0) z z z (wv (.agg #[F6 a0, .bool a1, r2_0]) z z (by obtain ⟨_, _, hv_, _⟩ := (rd_sliceV f2_0); rw [hv_]; kernel_rfl) ?_))))))))))
 obtain ⟨b175, w176, ew177, eb178, hst⟩ := hst.box [Zf, .bool false, Zs] 41
 refine wl_run (v := Pt b175 0) (w' := w176) z z (x_al (by kernel_rfl) ew177 eb178) ?_
 obtain ⟨w180, hr181, hst⟩ := hst.bx [F6 a0, .bool a1, r2_0] sizeOf41 z (oC z (oC z (oC (one_of_sliceV (rd_sliceV f2_0)) oN))) (by kernel_rfl)
 refine wl_unit z z (x_unit hr181) ?_
 refine wl_nil (tn (wp_seq (wrl (wv (.agg #[F6 a0, .bool a1, r2_0]) z z (x_loadN (cs := [F6 a0, .bool a1, r2_0]) z isAgg41 sizeOf41 (hst.bcs0 0 z)) (wv (.int .i64 (Int.tmod a3 (300:Int))) z z z ?_)))))
 obtain ⟨t182, ht183, hm⟩ := bind_some hm
 refine wc call17 [.agg #[F6 a0, .bool a1, r2_0], I6 (Int.tmod a3 (300:Int))] z z z ?_
 refine (lane_Pad_ref (a0 := ({ At := a0, Del := a1, Val := a2 } : api_Write)) (f2_0.mono (rd_weak _)) hst.to0 ht183).mono ?_
 rintro _ w184 ⟨v187, rfl, hst⟩
 refine ⟨_, z, ?_⟩
 replace hst := hst.of1
 obtain ⟨b190, w191, ew192, eb193, hst⟩ := hst.box [Zf, .bool false, Zs] 41
 refine wl_run (v := Pt b190 0) (w' := w191) z z (x_al (by kernel_rfl) ew192 eb193) ?_
 obtain ⟨w195, hr196, hst⟩ := hst.bx [F6 t182.At, .bool t182.Del, v187] sizeOf41 z (oC z (oC z (oC (one_of_sliceV hst.sv1) oN))) (by kernel_rfl)
 refine wl_unit z z (x_unit hr196) ?_
 refine wl_nil (tn (wp_seq ?_))
 obtain ⟨y305, hm, hx306⟩ := bind_some hm
 refine wp_mid (fun a w => ∃ (I302 : HL) (z301 : Bool) (σ303 : Nat → Value), (law16_LanePads_j0) z301 = some r ∧ a = Fr 50 (upd σ303 8 (.bool z301)) ∧ I159.le I302 ∧ St w0 w I302 [] R) ?_ ?_
 {
 have hL307 := HL.le.refl I159
 refine wp_region_St hst 22 [0, 1, 2, 3, 4, 5, 6, 7, 8, 9, 10, 11, 12, 13, 14, 15, 16, 17, 18, 19, 20, 21] [0, 1, 0, 0, 12, 28, 63, 127, 255, 511, 1023, 2047, 4095, 8191, 16383, 32767, 65535, 16383, 262143, 524287, 1048575, 2097151] [] z (by kernel_rfl) (by kernel_rfl) Tryz.mixed (by kernel_rfl) ?_
 refine wsr (.agg #[F6 t182.At, .bool t182.Del, v187]) 0 z z z (by kernel_rfl) (fun w hst => x_loadN (cs := [F6 t182.At, .bool t182.Del, v187]) z isAgg41 sizeOf41 (hst.bcs0 0 z)) (wsr (.agg #[F6 a0, .bool a1, r2_0]) 2 z z z (by kernel_rfl) (fun w hst => x_loadN (cs := [F6 a0, .bool a1, r2_0]) z isAgg41 sizeOf41 (hst.bcs2 0 z)) (wsr (.int .i64 (Int.tmod a3 (300:Int))) 3 z z z (by kernel_rfl) (fun w hst => z) ?_))
 refine ws_e2 1 4 (by kernel_rfl) ?_ ?_
 {
 refine nxe [4, 5, 6, 7, 8, 9, 10, 11, 12, 13, 14, 15, 16, 17, 18, 19, 20, 21] (by kernel_rfl) z z ?_
 clear hst
 intro w hst
 replace hst := hst.pull1
 obtain ⟨I198, hI199, f200, hst⟩ := hst.own_fix
 replace f2_0 := f2_0.mono (rd_le hI199)
 replace hI0 := hI0.trans hI199
 replace hL307 := hL307.trans hI199
 obtain ⟨b201, w202, ew203, eb204, hst⟩ := hst.lits (E := ty_api_Write) (xs := [t182]) [[F6 t182.At, .bool t182.Del, v187]] 41 1 z (Reps.cons ⟨_, z, f200, one_of_sliceV (ro_sliceV f200)⟩ Reps.nil)
 refine we_run (v := (.slice (some ⟨b201, 0, none⟩) 1 1)) (w' := w202) z (x_als (by kernel_rfl) ew203 eb204) ?_
 refine ws_next (pend' := [(3, I6 (Int.tmod a3 (300:Int))), (2, .agg #[F6 a0, .bool a1, r2_0])]) hst (by kernel_rfl) (pkr z z (fun w hst => z) (pkr z z (fun w hst => x_loadN (cs := [F6 a0, .bool a1, r2_0]) z isAgg41 sizeOf41 (hst.bcs2 0 z)) pk_nil)) ?_
 refine ws_e1 4 (by kernel_rfl) ?_
 refine nxe [5, 6, 7, 8, 9, 10, 11, 12, 13, 14, 15, 16, 17, 18, 19, 20, 21] (by kernel_rfl) z z ?_
 clear hst
 intro w hst
 obtain ⟨t206, ht207, hm⟩ := bind_some hm
 refine wec call16 [.agg #[F6 a0, .bool a1, r2_0], I6 (Int.tmod a3 (300:Int))] z z ?_
 refine (ref16_Pad_ref (a0 := ({ At := a0, Del := a1, Val := a2 } : api_Write)) (f2_0.mono (rd_weak _)) hst.to0 ht207).mono ?_
 rintro _ w208 ⟨v211, rfl, hst⟩
 refine ⟨_, z, ?_⟩
 replace hst := hst.of1
 refine ws_next (pend' := []) hst (by kernel_rfl) pk_nil ?_
 refine ws_e1 5 (by kernel_rfl) ?_
 refine nxe [6, 7, 8, 9, 10, 11, 12, 13, 14, 15, 16, 17, 18, 19, 20, 21] (by kernel_rfl) z z ?_
 clear hst
 intro w hst
 obtain ⟨I214, hI215, f216, hst⟩ := hst.own_fix
 replace f2_0 := f2_0.mono (rd_le hI215)
 replace f200 := f200.mono (ro_le hI215)
 replace hI0 := hI0.trans hI215
 replace hL307 := hL307.trans hI215
 obtain ⟨b217, w218, ew219, eb220, hst⟩ := hst.lits (E := ty_api_Write) (xs := [t206]) [[F6 t206.At, .bool t206.Del, v211]] 41 1 z (Reps.cons ⟨_, z, f216, one_of_sliceV (ro_sliceV f216)⟩ Reps.nil)
 refine we_run (v := (.slice (some ⟨b217, 0, none⟩) 1 1)) (w' := w218) z (x_als (by kernel_rfl) ew219 eb220) ?_
 refine ws_next (pend' := []) hst (by kernel_rfl) pk_nil ?_
 refine ws_e1 6 (by kernel_rfl) ?_
 refine nxe [7, 8, 9, 10, 11, 12, 13, 14, 15, 16, 17, 18, 19, 20, 21] (by kernel_rfl) z z ?_
 clear hst
 intro w hst
 replace hst := hst.pull1
 obtain ⟨css222, hq223, hst⟩ := hst.own_open
 replace hst := hst.pull1
 obtain ⟨css224, hq225, hst⟩ := hst.own_open
 obtain ⟨t226, ht227, hm⟩ := bind_some hm
 refine wec call18 [(.slice (some ⟨b201, 0, none⟩) 1 1), (.slice (some ⟨b217, 0, none⟩) 1 1)] z z ?_
 refine (ref13_SameWrites_ref (hst.rdrow1 hq223) (hst.rdrow0 hq225) hst.to0 ht227).mono ?_
 rintro _ w228 ⟨rfl, hst⟩
 refine ⟨_, z, ?_⟩
 replace hst := hst.of0.pull1.own_close hq223
 replace hst := hst.pull1.own_close hq225
 refine ws_next (pend' := []) hst (by kernel_rfl) pk_nil ?_
 refine wsr (.bool t226) 7 z z z (by kernel_rfl) (fun w hst => z) ?_
 refine bsplit t226 (fun hc231 => ?_) (fun hc231 => ?_)
 {
 replace hm := bif_t hc231 hm
 refine ws_q (v := .bool a1) 8 [9, 10, 11, 12, 13, 14, 15, 16, 17, 18, 19, 20, 21] (by kernel_rfl) z z (yi_run ((wanted_eq z z z (cvb hc231)).trans z) (fun w hst => z)) (ws_q (v := .bool a1) 9 [10, 11, 12, 13, 14, 15, 16, 17, 18, 19, 20, 21] (by kernel_rfl) z z (yi_run ((wanted_eq z z z (cvb hc231)).trans z) (fun w hst => z)) ?_)
 refine bsplit a1 (fun hc232 => ?_) (fun hc232 => ?_)
 {
 replace hm := bif_t hc232 hm
 refine ws_q (v := undef) 10 [11, 12, 13, 14, 15, 16, 17, 18, 19, 20, 21] (by kernel_rfl) z z (yi_off ((wanted_eq z z z (cvb hc232)).trans z)) (ws_q (v := undef) 11 [12, 13, 14, 15, 16, 17, 18, 19, 20, 21] (by kernel_rfl) z z (yi_off ((wanted_eq z z z (cvb hc232)).trans z)) (ws_q (v := .bool true) 12 [13, 14, 15, 16, 17, 18, 19, 20, 21] (by kernel_rfl) z z (yi_run ((wanted_eq z z z (cvb hc231)).trans z) (fun w hst => x_pick_t hc232 z z)) (ws_q (v := .bool true) 13 [14, 15, 16, 17, 18, 19, 20, 21] (by kernel_rfl) z z (yi_run ((wanted_eq z z z (cvb hc231)).trans z) (fun w hst => z)) (ws_q (v := undef) 14 [15, 16, 17, 18, 19, 20, 21] (by kernel_rfl) z z (yi_off ((wanted_eq z z z z).trans z)) (ws_q (v := undef) 15 [16, 17, 18, 19, 20, 21] (by kernel_rfl) z z (yi_off ((wanted_eq z z z z).trans z)) (ws_q (v := undef) 16 [17, 18, 19, 20, 21] (by kernel_rfl) z z (yi_off ((wanted_eq z z z z).trans z)) (ws_q (v := undef) 17 [18, 19, 20, 21] (by kernel_rfl) z z (yi_off ((wanted_eq z z z z).trans z)) (ws_q (v := undef) 18 [19, 20, 21] (by kernel_rfl) z z (yi_off ((wanted_eq z z z z).trans z)) (ws_q (v := .bool true) 19 [20, 21] (by kernel_rfl) z z (yi_run ((wanted_eq z z z (cvb hc231)).trans z) (fun w hst => x_pick_t z z z)) (wsr (.bool true) 20 z z z (by kernel_rfl) (fun w hst => x_pick_t hc231 z z) (wsr (.bool true) 21 z z z (by kernel_rfl) (fun w hst => z) ?_)))))))))))
 refine ws_nil ?_
 intro w hst
 refine ⟨z, ?_⟩
 replace hst := hst.keep0
 obtain rfl := some_inj hm
 exact ⟨_, true, _, hx306, (fu 8 (.bool true) z z), hL307, hst⟩
}
 {
 replace hm := bif_f hc232 hm
 refine ws_q (v := .int .i64 (Int.tmod a3 (300:Int))) 10 [11, 12, 13, 14, 15, 16, 17, 18, 19, 20, 21] (by kernel_rfl) z z (yi_run ((wanted_eq z z z (cvb hc232)).trans z) (fun w hst => z)) (ws_q (v := .bool (decide ((Int.tmod a3 (300:Int)) < (0:Int)))) 11 [12, 13, 14, 15, 16, 17, 18, 19, 20, 21] (by kernel_rfl) z z (yi_run ((wanted_eq z z z (cvb hc232)).trans z) (fun w hst => z)) (ws_q (v := .bool (decide ((Int.tmod a3 (300:Int)) < (0:Int)))) 12 [13, 14, 15, 16, 17, 18, 19, 20, 21] (by kernel_rfl) z z (yi_run ((wanted_eq z z z (cvb hc231)).trans z) (fun w hst => x_pick_f hc232 z z)) (ws_q (v := .bool (decide ((Int.tmod a3 (300:Int)) < (0:Int)))) 13 [14, 15, 16, 17, 18, 19, 20, 21] (by kernel_rfl) z z (yi_run ((wanted_eq z z z (cvb hc231)).trans z) (fun w hst => z)) ?_)))
 refine bsplit (decide ((Int.tmod a3 (300:Int)) < (0:Int))) (fun hc233 => ?_) (fun hc233 => ?_)
 {
 replace hm := bif_t hc233 hm
 refine ws_q (v := undef) 14 [15, 16, 17, 18, 19, 20, 21] (by kernel_rfl) z z (yi_off ((wanted_eq z z z (cvb hc233)).trans z)) (ws_q (v := undef) 15 [16, 17, 18, 19, 20, 21] (by kernel_rfl) z z (yi_off ((wanted_eq z z z (cvb hc233)).trans z)) (ws_q (v := undef) 16 [17, 18, 19, 20, 21] (by kernel_rfl) z z (yi_off ((wanted_eq z z z (cvb hc233)).trans z)) (ws_q (v := undef) 17 [18, 19, 20, 21] (by kernel_rfl) z z (yi_off ((wanted_eq z z z (cvb hc233)).trans z)) (ws_q (v := undef) 18 [19, 20, 21] (by kernel_rfl) z z (yi_off ((wanted_eq z z z (cvb hc233)).trans z)) (ws_q (v := .bool true) 19 [20, 21] (by kernel_rfl) z z (yi_run ((wanted_eq z z z (cvb hc231)).trans z) (fun w hst => x_pick_t hc233 z z)) (wsr (.bool true) 20 z z z (by kernel_rfl) (fun w hst => x_pick_t hc231 z z) (wsr (.bool true) 21 z z z (by kernel_rfl) (fun w hst => z) ?_)))))))
 refine ws_nil ?_
 intro w hst
 refine ⟨z, ?_⟩
 replace hst := hst.keep0
 obtain rfl := some_inj hm
 exact ⟨_, true, _, hx306, (fu 8 (.bool true) z z), hL307, hst⟩
}
 {
 replace hm := bif_f hc233 hm
 refine ws_q (v := Pt b190 2) 14 [15, 16, 17, 18, 19, 20, 21] (by kernel_rfl) z z (yi_run ((wanted_eq z z z (cvb hc233)).trans z) (fun w hst => x_field z underlying41 z sizeOf22 z)) (ws_q (v := v187) 15 [16, 17, 18, 19, 20, 21] (by kernel_rfl) z z (yi_run ((wanted_eq z z z (cvb hc233)).trans z) (fun w hst => x_load z isAgg22 (hst.bc2 z))) (ws_q (v := .int .i64 ((t182.Val).length : Int)) 16 [17, 18, 19, 20, 21] (by kernel_rfl) z z (yi_run ((wanted_eq z z z (cvb hc233)).trans z) (fun w hst => x_len z underlying22 (ro_sliceV f200))) (ws_q (v := .int .i64 (Int.tmod a3 (300:Int))) 17 [18, 19, 20, 21] (by kernel_rfl) z z (yi_run ((wanted_eq z z z (cvb hc233)).trans z) (fun w hst => z)) (ws_q (v := .bool (((t182.Val).length : Int) == (Int.tmod a3 (300:Int)))) 18 [19, 20, 21] (by kernel_rfl) z z (yi_run ((wanted_eq z z z (cvb hc233)).trans z) (fun w hst => z)) (ws_q (v := .bool (((t182.Val).length : Int) == (Int.tmod a3 (300:Int)))) 19 [20, 21] (by kernel_rfl) z z (yi_run ((wanted_eq z z z (cvb hc231)).trans z) (fun w hst => x_pick_f hc233 z z)) (wsr (.bool (((t182.Val).length : Int) == (Int.tmod a3 (300:Int)))) 20 z z z (by kernel_rfl) (fun w hst => x_pick_t hc231 z z) (wsr (.bool (((t182.Val).length : Int) == (Int.tmod a3 (300:Int)))) 21 z z z (by kernel_rfl) (fun w hst => z) ?_)))))))
 refine ws_nil ?_
 intro w hst
 refine ⟨z, ?_⟩
 replace hst := hst.keep0
 obtain rfl := some_inj hm
 exact ⟨_, (((t182.Val).length : Int) == (Int.tmod a3 (300:Int))), _, hx306, (fu 8 (.bool (((t182.Val).length : Int) == (Int.tmod a3 (300:Int)))) z z), hL307, hst⟩
}
}
}
 {
 replace hm := bif_f hc231 hm
 refine ws_q (v := undef) 8 [9, 10, 11, 12, 13, 14, 15, 16, 17, 18, 19, 20, 21] (by kernel_rfl) z z (yi_off ((wanted_eq z z z (cvb hc231)).trans z)) (ws_q (v := undef) 9 [10, 11, 12, 13, 14, 15, 16, 17, 18, 19, 20, 21] (by kernel_rfl) z z (yi_off ((wanted_eq z z z (cvb hc231)).trans z)) (ws_q (v := undef) 10 [11, 12, 13, 14, 15, 16, 17, 18, 19, 20, 21] (by kernel_rfl) z z (yi_off (wanted_undef z z z z)) (ws_q (v := undef) 11 [12, 13, 14, 15, 16, 17, 18, 19, 20, 21] (by kernel_rfl) z z (yi_off (wanted_undef z z z z)) (ws_q (v := undef) 12 [13, 14, 15, 16, 17, 18, 19, 20, 21] (by kernel_rfl) z z (yi_off ((wanted_eq z z z (cvb hc231)).trans z)) (ws_q (v := undef) 13 [14, 15, 16, 17, 18, 19, 20, 21] (by kernel_rfl) z z (yi_off ((wanted_eq z z z (cvb hc231)).trans z)) (ws_q (v := undef) 14 [15, 16, 17, 18, 19, 20, 21] (by kernel_rfl) z z (yi_off (wanted_undef z z z z)) (ws_q (v := undef) 15 [16, 17, 18, 19, 20, 21] (by kernel_rfl) z z (yi_off (wanted_undef z z z z)) (ws_q (v := undef) 16 [17, 18, 19, 20, 21] (by kernel_rfl) z z (yi_off (wanted_undef z z z z)) (ws_q (v := undef) 17 [18, 19, 20, 21] (by kernel_rfl) z z (yi_off (wanted_undef z z z z)) (ws_q (v := undef) 18 [19, 20, 21] (by kernel_rfl) z z (yi_off (wanted_undef z z z z)) (ws_q (v := undef) 19 [20, 21] (by kernel_rfl) z z (yi_off ((wanted_eq z z z (cvb hc231)).trans z)) (wsr (.bool false) 20 z z z (by kernel_rfl) (fun w hst => x_pick_f hc231 z z) ?_))))))))))))
 refine wsr (.bool false) 21 z z z (by kernel_rfl) (fun w hst => z) ?_
 refine ws_nil ?_
 intro w hst
 refine ⟨z, ?_⟩
 replace hst := hst.keep0
 obtain rfl := some_inj hm
 exact ⟨_, false, _, hx306, (fu 8 (.bool false) z z), hL307, hst⟩
}
}
 {
 refine nxe [1, 5, 6, 7, 8, 9, 10, 11, 12, 13, 14, 15, 16, 17, 18, 19, 20, 21] (by kernel_rfl) z z ?_
 clear hst
 intro w hst
 obtain ⟨t234, ht235, hm⟩ := bind_some hm
 refine wec call16 [.agg #[F6 a0, .bool a1, r2_0], I6 (Int.tmod a3 (300:Int))] z z ?_
 refine (ref16_Pad_ref (a0 := ({ At := a0, Del := a1, Val := a2 } : api_Write)) (f2_0.mono (rd_weak _)) hst.to0 ht235).mono ?_
 rintro _ w236 ⟨v239, rfl, hst⟩
 refine ⟨_, z, ?_⟩
 replace hst := hst.of1
 refine ws_next (pend' := [(0, .agg #[F6 t182.At, .bool t182.Del, v187])]) hst (by kernel_rfl) (pkr z z (fun w hst => x_loadN (cs := [F6 t182.At, .bool t182.Del, v187]) z isAgg41 sizeOf41 (hst.bcs1 0 z)) pk_nil) ?_
 refine ws_e2 1 5 (by kernel_rfl) ?_ ?_
 {
 refine nxe [5, 6, 7, 8, 9, 10, 11, 12, 13, 14, 15, 16, 17, 18, 19, 20, 21] (by kernel_rfl) z z ?_
 clear hst
 intro w hst
 replace hst := hst.pull2
 obtain ⟨I242, hI243, f244, hst⟩ := hst.own_fix
 replace f2_0 := f2_0.mono (rd_le hI243)
 replace hI0 := hI0.trans hI243
 replace hL307 := hL307.trans hI243
 obtain ⟨b245, w246, ew247, eb248, hst⟩ := hst.lits (E := ty_api_Write) (xs := [t182]) [[F6 t182.At, .bool t182.Del, v187]] 41 1 z (Reps.cons ⟨_, z, f244, one_of_sliceV (ro_sliceV f244)⟩ Reps.nil)
 refine we_run (v := (.slice (some ⟨b245, 0, none⟩) 1 1)) (w' := w246) z (x_als (by kernel_rfl) ew247 eb248) ?_
 refine ws_next (pend' := []) hst (by kernel_rfl) pk_nil ?_
 refine ws_e1 5 (by kernel_rfl) ?_
 refine nxe [6, 7, 8, 9, 10, 11, 12, 13, 14, 15, 16, 17, 18, 19, 20, 21] (by kernel_rfl) z z ?_
 clear hst
 intro w hst
 replace hst := hst.pull1
 obtain ⟨I251, hI252, f253, hst⟩ := hst.own_fix
 replace f2_0 := f2_0.mono (rd_le hI252)
 replace f244 := f244.mono (ro_le hI252)
 replace hI0 := hI0.trans hI252
 replace hL307 := hL307.trans hI252
 obtain ⟨b254, w255, ew256, eb257, hst⟩ := hst.lits (E := ty_api_Write) (xs := [t234]) [[F6 t234.At, .bool t234.Del, v239]] 41 1 z (Reps.cons ⟨_, z, f253, one_of_sliceV (ro_sliceV f253)⟩ Reps.nil)
 refine we_run (v := (.slice (some ⟨b254, 0, none⟩) 1 1)) (w' := w255) z (x_als (by kernel_rfl) ew256 eb257) ?_
 refine ws_next (pend' := []) hst (by kernel_rfl) pk_nil ?_
 refine ws_e1 6 (by kernel_rfl) ?_
 refine nxe [7, 8, 9, 10, 11, 12, 13, 14, 15, 16, 17, 18, 19, 20, 21] (by kernel_rfl) z z ?_
 clear hst
 intro w hst
 replace hst := hst.pull1
 obtain ⟨css259, hq260, hst⟩ := hst.own_open
 replace hst := hst.pull1
 obtain ⟨css261, hq262, hst⟩ := hst.own_open
 obtain ⟨t263, ht264, hm⟩ := bind_some hm
 refine wec call18 [(.slice (some ⟨b245, 0, none⟩) 1 1), (.slice (some ⟨b254, 0, none⟩) 1 1)] z z ?_
 refine (ref13_SameWrites_ref (hst.rdrow1 hq260) (hst.rdrow0 hq262) hst.to0 ht264).mono ?_
 rintro _ w265 ⟨rfl, hst⟩
 refine ⟨_, z, ?_⟩
 replace hst := hst.of0.pull1.own_close hq260
 replace hst := hst.pull1.own_close hq262
 refine ws_next (pend' := []) hst (by kernel_rfl) pk_nil ?_
 refine wsr (.bool t263) 7 z z z (by kernel_rfl) (fun w hst => z) ?_
 refine bsplit t263 (fun hc268 => ?_) (fun hc268 => ?_)
 {
 replace hm := bif_t hc268 hm
 refine ws_q (v := .bool a1) 8 [9, 10, 11, 12, 13, 14, 15, 16, 17, 18, 19, 20, 21] (by kernel_rfl) z z (yi_run ((wanted_eq z z z (cvb hc268)).trans z) (fun w hst => z)) (ws_q (v := .bool a1) 9 [10, 11, 12, 13, 14, 15, 16, 17, 18, 19, 20, 21] (by kernel_rfl) z z (yi_run ((wanted_eq z z z (cvb hc268)).trans z) (fun w hst => z)) ?_)
 refine bsplit a1 (fun hc269 => ?_) (fun hc269 => ?_)
 {
 replace hm := bif_t hc269 hm
 refine ws_q (v := undef) 10 [11, 12, 13, 14, 15, 16, 17, 18, 19, 20, 21] (by kernel_rfl) z z (yi_off ((wanted_eq z z z (cvb hc269)).trans z)) (ws_q (v := undef) 11 [12, 13, 14, 15, 16, 17, 18, 19, 20, 21] (by kernel_rfl) z z (yi_off ((wanted_eq z z z (cvb hc269)).trans z)) (ws_q (v := .bool true) 12 [13, 14, 15, 16, 17, 18, 19, 20, 21] (by kernel_rfl) z z (yi_run ((wanted_eq z z z (cvb hc268)).trans z) (fun w hst => x_pick_t hc269 z z)) (ws_q (v := .bool true) 13 [14, 15, 16, 17, 18, 19, 20, 21] (by kernel_rfl) z z (yi_run ((wanted_eq z z z (cvb hc268)).trans z) (fun w hst => z)) (ws_q (v := undef) 14 [15, 16, 17, 18, 19, 20, 21] (by kernel_rfl) z z (yi_off ((wanted_eq z z z z).trans z)) (ws_q (v := undef) 15 [16, 17, 18, 19, 20, 21] (by kernel_rfl) z z (yi_off ((wanted_eq z z z z).trans z)) (ws_q (v := undef) 16 [17, 18, 19, 20, 21] (by kernel_rfl) z z (yi_off ((wanted_eq z z z z).trans z)) (ws_q (v := undef) 17 [18, 19, 20, 21] (by kernel_rfl) z z (yi_off ((wanted_eq z z z z).trans z)) (ws_q (v := undef) 18 [19, 20, 21] (by kernel_rfl) z z (yi_off ((wanted_eq z z z z).trans z)) (ws_q (v := .bool true) 19 [20, 21] (by kernel_rfl) z z (yi_run ((wanted_eq z z z (cvb hc268)).trans z) (fun w hst => x_pick_t z z z)) (wsr (.bool true) 20 z z z (by kernel_rfl) (fun w hst => x_pick_t hc268 z z) (wsr (.bool true) 21 z z z (by kernel_rfl) (fun w hst => z) ?_)))))))))))
 refine ws_nil ?_
 intro w hst
 refine ⟨z, ?_⟩
 replace hst := hst.keep0
 obtain rfl := some_inj hm
 exact ⟨_, true, _, hx306, (fu 8 (.bool true) z z), hL307, hst⟩
}
 {
 replace hm := bif_f hc269 hm
 refine ws_q (v := .int .i64 (Int.tmod a3 (300:Int))) 10 [11, 12, 13, 14, 15, 16, 17, 18, 19, 20, 21] (by kernel_rfl) z z (yi_run ((wanted_eq z z z (cvb hc269)).trans z) (fun w hst => z)) (ws_q (v := .bool (decide ((Int.tmod a3 (300:Int)) < (0:Int)))) 11 [12, 13, 14, 15, 16, 17, 18, 19, 20, 21] (by kernel_rfl) z z (yi_run ((wanted_eq z z z (cvb hc269)).trans z) (fun w hst => z)) (ws_q (v := .bool (decide ((Int.tmod a3 (300:Int)) < (0:Int)))) 12 [13, 14, 15, 16, 17, 18, 19, 20, 21] (by kernel_rfl) z z (yi_run ((wanted_eq z z z (cvb hc268)).trans z) (fun w hst => x_pick_f hc269 z z)) (ws_q (v := .bool (decide ((Int.tmod a3 (300:Int)) < (0:Int)))) 13 [14, 15, 16, 17, 18, 19, 20, 21] (by kernel_rfl) z z (yi_run ((wanted_eq z z z (cvb hc268)).trans z) (fun w hst => z)) ?_)))
 refine bsplit (decide ((Int.tmod a3 (300:Int)) < (0:Int))) (fun hc270 => ?_) (fun hc270 => ?_)
 {
 replace hm := bif_t hc270 hm
 refine ws_q (v := undef) 14 [15, 16, 17, 18, 19, 20, 21] (by kernel_rfl) z z (yi_off ((wanted_eq z z z (cvb hc270)).trans z)) (ws_q (v := undef) 15 [16, 17, 18, 19, 20, 21] (by kernel_rfl) z z (yi_off ((wanted_eq z z z (cvb hc270)).trans z)) (ws_q (v := undef) 16 [17, 18, 19, 20, 21] (by kernel_rfl) z z (yi_off ((wanted_eq z z z (cvb hc270)).trans z)) (ws_q (v := undef) 17 [18, 19, 20, 21] (by kernel_rfl) z z (yi_off ((wanted_eq z z z (cvb hc270)).trans z)) (ws_q (v := undef) 18 [19, 20, 21] (by kernel_rfl) z z (yi_off ((wanted_eq z z z (cvb hc270)).trans z)) (ws_q (v := .bool true) 19 [20, 21] (by kernel_rfl) z z (yi_run ((wanted_eq z z z (cvb hc268)).trans z) (fun w hst => x_pick_t hc270 z z)) (wsr (.bool true) 20 z z z (by kernel_rfl) (fun w hst => x_pick_t hc268 z z) (wsr (.bool true) 21 z z z (by kernel_rfl) (fun w hst => z) ?_)))))))
 refine ws_nil ?_
 intro w hst
 refine ⟨z, ?_⟩
 replace hst := hst.keep0
 obtain rfl := some_inj hm
 exact ⟨_, true, _, hx306, (fu 8 (.bool true) z z), hL307, hst⟩
}
 {
 replace hm := bif_f hc270 hm
 refine ws_q (v := Pt b190 2) 14 [15, 16, 17, 18, 19, 20, 21] (by kernel_rfl) z z (yi_run ((wanted_eq z z z (cvb hc270)).trans z) (fun w hst => x_field z underlying41 z sizeOf22 z)) (ws_q (v := v187) 15 [16, 17, 18, 19, 20, 21] (by kernel_rfl) z z (yi_run ((wanted_eq z z z (cvb hc270)).trans z) (fun w hst => x_load z isAgg22 (hst.bc2 z))) (ws_q (v := .int .i64 ((t182.Val).length : Int)) 16 [17, 18, 19, 20, 21] (by kernel_rfl) z z (yi_run ((wanted_eq z z z (cvb hc270)).trans z) (fun w hst => x_len z underlying22 (ro_sliceV f244))) (ws_q (v := .int .i64 (Int.tmod a3 (300:Int))) 17 [18, 19, 20, 21] (by kernel_rfl) z z (yi_run ((wanted_eq z z z (cvb hc270)).trans z) (fun w hst => z)) (ws_q (v := .bool (((t182.Val).length : Int) == (Int.tmod a3 (300:Int)))) 18 [19, 20, 21] (by kernel_rfl) z z (yi_run ((wanted_eq z z z (cvb hc270)).trans z) (fun w hst => z)) (ws_q (v := .bool (((t182.Val).length : Int) == (Int.tmod a3 (300:Int)))) 19 [20, 21] (by kernel_rfl) z z (yi_run ((wanted_eq z z z (cvb hc268)).trans z) (fun w hst => x_pick_f hc270 z z)) (wsr (.bool (((t182.Val).length : Int) == (Int.tmod a3 (300:Int)))) 20 z z z (by kernel_rfl) (fun w hst => x_pick_t hc268 z z) (wsr (.bool (((t182.Val).length : Int) == (Int.tmod a3 (300:Int)))) 21 z z z (by kernel_rfl) (fun w hst => z) ?_)))))))
 refine ws_nil ?_
 intro w hst
 refine ⟨z, ?_⟩
 replace hst := hst.keep0
 obtain rfl := some_inj hm
 exact ⟨_, (((t182.Val).length : Int) == (Int.tmod a3 (300:Int))), _, hx306, (fu 8 (.bool (((t182.Val).length : Int) == (Int.tmod a3 (300:Int)))) z z), hL307, hst⟩
}
}
}
 {
 replace hm := bif_f hc268 hm
 refine ws_q (v := undef) 8 [9, 10, 11, 12, 13, 14, 15, 16, 17, 18, 19, 20, 21] (by kernel_rfl) z z (yi_off ((wanted_eq z z z (cvb hc268)).trans z)) (ws_q (v := undef) 9 [10, 11, 12, 13, 14, 15, 16, 17, 18, 19, 20, 21] (by kernel_rfl) z z (yi_off ((wanted_eq z z z (cvb hc268)).trans z)) (ws_q (v := undef) 10 [11, 12, 13, 14, 15, 16, 17, 18, 19, 20, 21] (by kernel_rfl) z z (yi_off (wanted_undef z z z z)) (ws_q (v := undef) 11 [12, 13, 14, 15, 16, 17, 18, 19, 20, 21] (by kernel_rfl) z z (yi_off (wanted_undef z z z z)) (ws_q (v := undef) 12 [13, 14, 15, 16, 17, 18, 19, 20, 21] (by kernel_rfl) z z (yi_off ((wanted_eq z z z (cvb hc268)).trans z)) (ws_q (v := undef) 13 [14, 15, 16, 17, 18, 19, 20, 21] (by kernel_rfl) z z (yi_off ((wanted_eq z z z (cvb hc268)).trans z)) (ws_q (v := undef) 14 [15, 16, 17, 18, 19, 20, 21] (by kernel_rfl) z z (yi_off (wanted_undef z z z z)) (ws_q (v := undef) 15 [16, 17, 18, 19, 20, 21] (by kernel_rfl) z z (yi_off (wanted_undef z z z z)) (ws_q (v := undef) 16 [17, 18, 19, 20, 21] (by kernel_rfl) z z (yi_off (wanted_undef z z z z)) (ws_q (v := undef) 17 [18, 19, 20, 21] (by kernel_rfl) z z (yi_off (wanted_undef z z z z)) (ws_q (v := undef) 18 [19, 20, 21] (by kernel_rfl) z z (yi_off (wanted_undef z z z z)) (ws_q (v := undef) 19 [20, 21] (by kernel_rfl) z z (yi_off ((wanted_eq z z z (cvb hc268)).trans z)) (wsr (.bool false) 20 z z z (by kernel_rfl) (fun w hst => x_pick_f hc268 z z) ?_))))))))))))
 refine wsr (.bool false) 21 z z z (by kernel_rfl) (fun w hst => z) ?_
 refine ws_nil ?_
 intro w hst
 refine ⟨z, ?_⟩
 replace hst := hst.keep0
 obtain rfl := some_inj hm
 exact ⟨_, false, _, hx306, (fu 8 (.bool false) z z), hL307, hst⟩
}
}
 {
 refine nxe [1, 6, 7, 8, 9, 10, 11, 12, 13, 14, 15, 16, 17, 18, 19, 20, 21] (by kernel_rfl) z z ?_
 clear hst
 intro w hst
 obtain ⟨I272, hI273, f274, hst⟩ := hst.own_fix
 replace f2_0 := f2_0.mono (rd_le hI273)
 replace hI0 := hI0.trans hI273
 replace hL307 := hL307.trans hI273
 obtain ⟨b275, w276, ew277, eb278, hst⟩ := hst.lits (E := ty_api_Write) (xs := [t234]) [[F6 t234.At, .bool t234.Del, v239]] 41 1 z (Reps.cons ⟨_, z, f274, one_of_sliceV (ro_sliceV f274)⟩ Reps.nil)
 refine we_run (v := (.slice (some ⟨b275, 0, none⟩) 1 1)) (w' := w276) z (x_als (by kernel_rfl) ew277 eb278) ?_
 refine ws_next (pend' := [(0, .agg #[F6 t182.At, .bool t182.Del, v187])]) hst (by kernel_rfl) (pkr z z (fun w hst => x_loadN (cs := [F6 t182.At, .bool t182.Del, v187]) z isAgg41 sizeOf41 (hst.bcs1 0 z)) pk_nil) ?_
 refine ws_e1 1 (by kernel_rfl) ?_
 refine nxe [6, 7, 8, 9, 10, 11, 12, 13, 14, 15, 16, 17, 18, 19, 20, 21] (by kernel_rfl) z z ?_
 clear hst
 intro w hst
 replace hst := hst.pull2
 obtain ⟨I281, hI282, f283, hst⟩ := hst.own_fix
 replace f2_0 := f2_0.mono (rd_le hI282)
 replace f274 := f274.mono (ro_le hI282)
 replace hI0 := hI0.trans hI282
 replace hL307 := hL307.trans hI282
 obtain ⟨b284, w285, ew286, eb287, hst⟩ := hst.lits (E := ty_api_Write) (xs := [t182]) [[F6 t182.At, .bool t182.Del, v187]] 41 1 z (Reps.cons ⟨_, z, f283, one_of_sliceV (ro_sliceV f283)⟩ Reps.nil)
 refine we_run (v := (.slice (some ⟨b284, 0, none⟩) 1 1)) (w' := w285) z (x_als (by kernel_rfl) ew286 eb287) ?_
 refine ws_next (pend' := []) hst (by kernel_rfl) pk_nil ?_
 refine ws_e1 6 (by kernel_rfl) ?_
 refine nxe [7, 8, 9, 10, 11, 12, 13, 14, 15, 16, 17, 18, 19, 20, 21] (by kernel_rfl) z z ?_
 clear hst
 intro w hst
 obtain ⟨css289, hq290, hst⟩ := hst.own_open
 replace hst := hst.pull1
 obtain ⟨css291, hq292, hst⟩ := hst.own_open
 obtain ⟨t293, ht294, hm⟩ := bind_some hm
 refine wec call18 [(.slice (some ⟨b284, 0, none⟩) 1 1), (.slice (some ⟨b275, 0, none⟩) 1 1)] z z ?_
 refine (ref13_SameWrites_ref (hst.rdrow1 hq290) (hst.rdrow0 hq292) hst.to0 ht294).mono ?_
 rintro _ w295 ⟨rfl, hst⟩
 refine ⟨_, z, ?_⟩
 replace hst := hst.of0.pull1.own_close hq290
 replace hst := hst.pull1.own_close hq292
 refine ws_next (pend' := []) hst (by kernel_rfl) pk_nil ?_
 refine wsr (.bool t293) 7 z z z (by kernel_rfl) (fun w hst => z) ?_
 refine bsplit t293 (fun hc298 => ?_) (fun hc298 => ?_)
 {
 replace hm := bif_t hc298 hm
 refine ws_q (v := .bool a1) 8 [9, 10, 11, 12, 13, 14, 15, 16, 17, 18, 19, 20, 21] (by kernel_rfl) z z (yi_run ((wanted_eq z z z (cvb hc298)).trans z) (fun w hst => z)) (ws_q (v := .bool a1) 9 [10, 11, 12, 13, 14, 15, 16, 17, 18, 19, 20, 21] (by kernel_rfl) z z (yi_run ((wanted_eq z z z (cvb hc298)).trans z) (fun w hst => z)) ?_)
 refine bsplit a1 (fun hc299 => ?_) (fun hc299 => ?_)
 {
 replace hm := bif_t hc299 hm
 refine ws_q (v := undef) 10 [11, 12, 13, 14, 15, 16, 17, 18, 19, 20, 21] (by kernel_rfl) z z (yi_off ((wanted_eq z z z (cvb hc299)).trans z)) (ws_q (v := undef) 11 [12, 13, 14, 15, 16, 17, 18, 19, 20, 21] (by kernel_rfl) z z (yi_off ((wanted_eq z z z (cvb hc299)).trans z)) (ws_q (v := .bool true) 12 [13, 14, 15, 16, 17, 18, 19, 20, 21] (by kernel_rfl) z z (yi_run ((wanted_eq z z z (cvb hc298)).trans z) (fun w hst => x_pick_t hc299 z z)) (ws_q (v := .bool true) 13 [14, 15, 16, 17, 18, 19, 20, 21] (by kernel_rfl) z z (yi_run ((wanted_eq z z z (cvb hc298)).trans z) (fun w hst => z)) (ws_q (v := undef) 14 [15, 16, 17, 18, 19, 20, 21] (by kernel_rfl) z z (yi_off ((wanted_eq z z z z).trans z)) (ws_q (v := undef) 15 [16, 17, 18, 19, 20, 21] (by kernel_rfl) z z (yi_off ((wanted_eq z z z z).trans z)) (ws_q (v := undef) 16 [17, 18, 19, 20, 21] (by kernel_rfl) z z (yi_off ((wanted_eq z z z z).trans z)) (ws_q (v := undef) 17 [18, 19, 20, 21] (by kernel_rfl) z z (yi_off ((wanted_eq z z z z).trans z)) (ws_q (v := undef) 18 [19, 20, 21] (by kernel_rfl) z z (yi_off ((wanted_eq z z z z).trans z)) (ws_q (v := .bool true) 19 [20, 21] (by kernel_rfl) z z (yi_run ((wanted_eq z z z (cvb hc298)).trans z) (fun w hst => x_pick_t z z z)) (wsr (.bool true) 20 z z z (by kernel_rfl) (fun w hst => x_pick_t hc298 z z) (wsr (.bool true) 21 z z z (by kernel_rfl) (fun w hst => z) ?_)))))))))))
 refine ws_nil ?_
 intro w hst
 refine ⟨z, ?_⟩
 replace hst := hst.keep0
 obtain rfl := some_inj hm
 exact ⟨_, true, _, hx306, (fu 8 (.bool true) z z), hL307, hst⟩
}
 {
 replace hm := bif_f hc299 hm
 refine ws_q (v := .int .i64 (Int.tmod a3 (300:Int))) 10 [11, 12, 13, 14, 15, 16, 17, 18, 19, 20, 21] (by kernel_rfl) z z (yi_run ((wanted_eq z z z (cvb hc299)).trans z) (fun w hst => z)) (ws_q (v := .bool (decide ((Int.tmod a3 (300:Int)) < (0:Int)))) 11 [12, 13, 14, 15, 16, 17, 18, 19, 20, 21] (by kernel_rfl) z z (yi_run ((wanted_eq z z z (cvb hc299)).trans z) (fun w hst => z)) (ws_q (v := .bool (decide ((Int.tmod a3 (300:Int)) < (0:Int)))) 12 [13, 14, 15, 16, 17, 18, 19, 20, 21] (by kernel_rfl) z z (yi_run ((wanted_eq z z z (cvb hc298)).trans z) (fun w hst => x_pick_f hc299 z z)) (ws_q (v := .bool (decide ((Int.tmod a3 (300:Int)) < (0:Int)))) 13 [14, 15, 16, 17, 18, 19, 20, 21] (by kernel_rfl) z z (yi_run ((wanted_eq z z z (cvb hc298)).trans z) (fun w hst => z)) ?_)))
 refine bsplit (decide ((Int.tmod a3 (300:Int)) < (0:Int))) (fun hc300 => ?_) (fun hc300 => ?_)
 {
 replace hm := bif_t hc300 hm
 refine ws_q (v := undef) 14 [15, 16, 17, 18, 19, 20, 21] (by kernel_rfl) z z (yi_off ((wanted_eq z z z (cvb hc300)).trans z)) (ws_q (v := undef) 15 [16, 17, 18, 19, 20, 21] (by kernel_rfl) z z (yi_off ((wanted_eq z z z (cvb hc300)).trans z)) (ws_q (v := undef) 16 [17, 18, 19, 20, 21] (by kernel_rfl) z z (yi_off ((wanted_eq z z z (cvb hc300)).trans z)) (ws_q (v := undef) 17 [18, 19, 20, 21] (by kernel_rfl) z z (yi_off ((wanted_eq z z z (cvb hc300)).trans z)) (ws_q (v := undef) 18 [19, 20, 21] (by kernel_rfl) z z (yi_off ((wanted_eq z z z (cvb hc300)).trans z)) (ws_q (v := .bool true) 19 [20, 21] (by kernel_rfl) z z (yi_run ((wanted_eq z z z (cvb hc298)).trans z) (fun w hst => x_pick_t hc300 z z)) (wsr (.bool true) 20 z z z (by kernel_rfl) (fun w hst => x_pick_t hc298 z z) (wsr (.bool true) 21 z z z (by kernel_rfl) (fun w hst => z) ?_)))))))
 refine ws_nil ?_
 intro w hst
 refine ⟨z, ?_⟩
 replace hst := hst.keep0
 obtain rfl := some_inj hm
 exact ⟨_, true, _, hx306, (fu 8 (.bool true) z z), hL307, hst⟩
}
 {
 replace hm := bif_f hc300 hm
 refine ws_q (v := Pt b190 2) 14 [15, 16, 17, 18, 19, 20, 21] (by kernel_rfl) z z (yi_run ((wanted_eq z z z (cvb hc300)).trans z) (fun w hst => x_field z underlying41 z sizeOf22 z)) (ws_q (v := v187) 15 [16, 17, 18, 19, 20, 21] (by kernel_rfl) z z (yi_run ((wanted_eq z z z (cvb hc300)).trans z) (fun w hst => x_load z isAgg22 (hst.bc2 z))) (ws_q (v := .int .i64 ((t182.Val).length : Int)) 16 [17, 18, 19, 20, 21] (by kernel_rfl) z z (yi_run ((wanted_eq z z z (cvb hc300)).trans z) (fun w hst => x_len z underlying22 (ro_sliceV f283))) (ws_q (v := .int .i64 (Int.tmod a3 (300:Int))) 17 [18, 19, 20, 21] (by kernel_rfl) z z (yi_run ((wanted_eq z z z (cvb hc300)).trans z) (fun w hst => z)) (ws_q (v := .bool (((t182.Val).length : Int) == (Int.tmod a3 (300:Int)))) 18 [19, 20, 21] (by kernel_rfl) z z (yi_run ((wanted_eq z z z (cvb hc300)).trans z) (fun w hst => z)) (ws_q (v := .bool (((t182.Val).length : Int) == (Int.tmod a3 (300:Int)))) 19 [20, 21] (by kernel_rfl) z z (yi_run ((wanted_eq z z z (cvb hc298)).trans z) (fun w hst => x_pick_f hc300 z z)) (wsr (.bool (((t182.Val).length : Int) == (Int.tmod a3 (300:Int)))) 20 z z z (by kernel_rfl) (fun w hst => x_pick_t hc298 z z) (wsr (.bool (((t182.Val).length : Int) == (Int.tmod a3 (300:Int)))) 21 z z z (by kernel_rfl) (fun w hst => z) ?_)))))))
 refine ws_nil ?_
 intro w hst
 refine ⟨z, ?_⟩
 replace hst := hst.keep0
 obtain rfl := some_inj hm
 exact ⟨_, (((t182.Val).length : Int) == (Int.tmod a3 (300:Int))), _, hx306, (fu 8 (.bool (((t182.Val).length : Int) == (Int.tmod a3 (300:Int)))) z z), hL307, hst⟩
}
}
}
 {
 replace hm := bif_f hc298 hm
 refine ws_q (v := undef) 8 [9, 10, 11, 12, 13, 14, 15, 16, 17, 18, 19, 20, 21] (by kernel_rfl) z z (yi_off ((wanted_eq z z z (cvb hc298)).trans z)) (ws_q (v := undef) 9 [10, 11, 12, 13, 14, 15, 16, 17, 18, 19, 20, 21] (by kernel_rfl) z z (yi_off ((wanted_eq z z z (cvb hc298)).trans z)) (ws_q (v := undef) 10 [11, 12, 13, 14, 15, 16, 17, 18, 19, 20, 21] (by kernel_rfl) z z (yi_off (wanted_undef z z z z)) (ws_q (v := undef) 11 [12, 13, 14, 15, 16, 17, 18, 19, 20, 21] (by kernel_rfl) z z (yi_off (wanted_undef z z z z)) (ws_q (v := undef) 12 [13, 14, 15, 16, 17, 18, 19, 20, 21] (by kernel_rfl) z z (yi_off ((wanted_eq z z z (cvb hc298)).trans z)) (ws_q (v := undef) 13 [14, 15, 16, 17, 18, 19, 20, 21] (by kernel_rfl) z z (yi_off ((wanted_eq z z z (cvb hc298)).trans z)) (ws_q (v := undef) 14 [15, 16, 17, 18, 19, 20, 21] (by kernel_rfl) z z (yi_off (wanted_undef z z z z)) (ws_q (v := undef) 15 [16, 17, 18, 19, 20, 21] (by kernel_rfl) z z (yi_off (wanted_undef z z z z)) (ws_q (v := undef) 16 [17, 18, 19, 20, 21] (by kernel_rfl) z z (yi_off (wanted_undef z z z z)) (ws_q (v := undef) 17 [18, 19, 20, 21] (by kernel_rfl) z z (yi_off (wanted_undef z z z z)) (ws_q (v := undef) 18 [19, 20, 21] (by kernel_rfl) z z (yi_off (wanted_undef z z z z)) (ws_q (v := undef) 19 [20, 21] (by kernel_rfl) z z (yi_off ((wanted_eq z z z (cvb hc298)).trans z)) (wsr (.bool false) 20 z z z (by kernel_rfl) (fun w hst => x_pick_f hc298 z z) ?_))))))))))))
 refine wsr (.bool false) 21 z z z (by kernel_rfl) (fun w hst => z) ?_
 refine ws_nil ?_
 intro w hst
 refine ⟨z, ?_⟩
 replace hst := hst.keep0
 obtain rfl := some_inj hm
 exact ⟨_, false, _, hx306, (fu 8 (.bool false) z z), hL307, hst⟩
}
}
}
}
 {
 clear hst
 rintro _ w308 ⟨I302, z301, σ303, hm, rfl, hL304, hst⟩
 dsimp only [law16_LanePads_j0] at hm
 replace f2_0 := f2_0.mono (rd_le hL304)
 replace hI0 := hI0.trans hL304
 refine tn (wp_ret ?_)
 obtain rfl := some_inj hm
 refine post_ret (vs := [.bool z301]) results4 (rvs_cons (rv_tmp z) rvs_nil) ?_
 exact ⟨_, z, hI0, hst.keep0⟩
}
}
}
}

end Go.Proofs.YtgnkkopjkgdieaaGreat
