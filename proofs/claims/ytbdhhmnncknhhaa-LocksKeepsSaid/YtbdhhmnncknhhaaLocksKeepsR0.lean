/- The Go functions refine their models, part 0. -/
import Derived.Test.YtbdhhmnncknhhaaLocksKeepsT
set_option linter.unusedVariables false
set_option linter.unusedSimpArgs false
set_option maxRecDepth 100000
set_option maxHeartbeats 4000000
namespace Go.Proofs.Ytbdhhmnncknhhaa
open Go Go.V
open _root_.Go.Proofs.Try IntKind
attribute [local irreducible] wpList Code.wp wpQuiet Calls bodyPost Oper.wp wpS Nx PendOK YieldsIn
theorem locks_New_ref {w0 w : World} {I : HL} {R : SP}   (hst : St w0 w I [] R) {r : (locks_Table)} (hm : locks_New = some r) :
  Calls prog 10 #[] w fun e w' => ∃ (q0 : Value), e = .returned (q0) ∧ St w0 w' I [at_locks_Table q0 r] R := by {
 unfold locks_New at hm
 refine calls_start (args := []) func10 z ntmps10 (Nat.le_of_ble_eq_true z) ?_
 refine wp_seq (wrl (wv (.pointer none) z z z (wl_nil (tn (wp_seq (wrl (wv (.agg #[Zs]) z z (by kernel_rfl) ?_)))))))
 obtain ⟨b36, w37, ew38, eb39, hst⟩ := hst.box [Zs] 77
 refine wl_run (v := Pt b36 0) (w' := w37) z z (x_al (by kernel_rfl) ew38 eb39) ?_
 refine wv (Pt b36 0) z z z (wl_nil (tn (wp_ret ?_)))
 replace hst := hst.own_nil ty_api_Hold
 replace hst := hst.pull1
 replace hst := at_locks_Table_close (pv := Pt b36 0) (x := ({ l := [] } : locks_Table)) hst z
 obtain rfl := some_inj hm
 refine post_ret (vs := [Pt b36 0]) results10 (rvs_cons (rv_tmp z) rvs_nil) ?_
 exact ⟨.pointer (some ⟨b36, 0, none⟩), z, hst.keep1⟩
}

theorem math_IsNaN_ref {w0 w : World} {I : HL} {R : SP} {a0 : Nat}  (hst : St w0 w I [] R) {r : (Bool)} (hm : math_IsNaN a0 = some r) :
  Calls prog 88 #[F6 a0] w fun e w' => e = .returned (.bool r) ∧ St w0 w' I [] R := by {
 unfold math_IsNaN at hm
 refine calls_start (args := [F6 a0]) func88 z ntmps88 (Nat.le_of_ble_eq_true z) ?_
 refine wp_seq (wrl (wv (.bool false) z z z (wl_nil (tn (wp_seq (wrl (wv (.float .f64 a0) z z z (wv (.float .f64 a0) z z z (wv (.bool (fNe a0 a0)) z z z (wv (.bool (fNe a0 a0)) z z z (wl_nil (tn (wp_ret ?_)))))))))))))
 obtain rfl := some_inj hm
 refine post_ret (vs := [.bool (fNe a0 a0)]) results88 (rvs_cons (rv_tmp z) rvs_nil) ?_
 exact ⟨z, hst.keep0⟩
}

theorem number_Rank_ref {w0 w : World} {I : HL} {R : SP} {a0 : Nat}  (hst : St w0 w I [] R) {r : (Int)} (hm : number_Rank a0 = some r) :
  Calls prog 61 #[F6 a0] w fun e w' => e = .returned (.int .u64 r) ∧ St w0 w' I [] R := by {
 unfold number_Rank at hm
 refine calls_start (args := [F6 a0]) func61 z ntmps61 (Nat.le_of_ble_eq_true z) ?_
 refine wp_seq (wrl (wv (.int .u64 (0:Int)) z z z (wl_nil (tn (wp_seq (wp_seq (wrl (wv (.float .f64 a0) z z z ?_))))))))
 obtain ⟨t142, ht143, hm⟩ := bind_some hm
 refine wc call88 [F6 a0] z z z ?_
 refine (math_IsNaN_ref hst.to0 ht143).mono ?_
 rintro _ w144 ⟨rfl, hst⟩
 refine ⟨_, z, ?_⟩
 replace hst := hst.of0
 refine wl_nil (tn ?_)
 refine bsplit t142 (fun hc147 => ?_) (fun hc147 => ?_)
 {
 replace hm := bif_t hc147 hm
 refine wp_ift (cvb hc147) ?_
 refine wp_seq (wrl (wv (.int .u64 (18446744073709551615:Int)) z z z (wl_nil (tn (wp_ret (then_r ?_))))))
 obtain rfl := some_inj hm
 refine post_ret (vs := [U6 (18446744073709551615:Int)]) results61 (rvs_cons (rv_tmp z) rvs_nil) ?_
 exact ⟨z, hst.keep0⟩
}
 {
 replace hm := bif_f hc147 hm
 refine wp_iff (cvb hc147) ?_
 refine wp_skip (tn (wp_seq (wrl ?_)))
 refine wv (.float .f64 a0) z z z (wv (.int .u64 (Int.ofNat a0)) z z (by kernel_rfl) (wv (.int .u64 (Int.ofNat a0)) z z z (wl_nil (tn (wp_seq (wp_seq (wrl (wv (.int .u64 (Int.ofNat a0)) z z z (wv (.int .u64 (iShr .u64 (Int.ofNat a0) (63:Int))) z z (x_shr (by decide) z z) (wv (.bool ((iShr .u64 (Int.ofNat a0) (63:Int)) == (1:Int))) z z z (wl_nil (tn ?_))))))))))))
 refine bsplit ((iShr .u64 (Int.ofNat a0) (63:Int)) == (1:Int)) (fun hc148 => ?_) (fun hc148 => ?_)
 {
 replace hm := bif_t hc148 hm
 refine wp_ift (cvb hc148) ?_
 refine wp_seq (wrl (wv (.int .u64 (Int.ofNat a0)) z z z (wv (.int .u64 (bXor .u64 ((18446744073709551615):Int) (Int.ofNat a0))) z z (by kernel_rfl) (wv (.int .u64 (bXor .u64 ((18446744073709551615):Int) (Int.ofNat a0))) z z z (wl_nil (tn (wp_ret (then_r ?_))))))))
 obtain rfl := some_inj hm
 refine post_ret (vs := [U6 (bXor .u64 ((18446744073709551615):Int) (Int.ofNat a0))]) results61 (rvs_cons (rv_tmp z) rvs_nil) ?_
 exact ⟨z, hst.keep0⟩
}
 {
 replace hm := bif_f hc148 hm
 refine wp_iff (cvb hc148) ?_
 refine wp_skip (tn (wp_seq (wrl ?_)))
 refine wv (.int .u64 (Int.ofNat a0)) z z z (wv (.int .u64 (bOr .u64 (Int.ofNat a0) (9223372036854775808:Int))) z z z (wv (.int .u64 (bOr .u64 (Int.ofNat a0) (9223372036854775808:Int))) z z z (wl_nil (tn (wp_ret ?_)))))
 obtain rfl := some_inj hm
 refine post_ret (vs := [U6 (bOr .u64 (Int.ofNat a0) (9223372036854775808:Int))]) results61 (rvs_cons (rv_tmp z) rvs_nil) ?_
 exact ⟨z, hst.keep0⟩
}
}
}

theorem number_Within_ref {w0 w : World} {I : HL} {R : SP} {a0 : Nat} {a1 : Nat} {a2 : Nat}  (hst : St w0 w I [] R) {r : (Bool)} (hm : number_Within a0 a1 a2 = some r) :
  Calls prog 79 #[F6 a0, F6 a1, F6 a2] w fun e w' => e = .returned (.bool r) ∧ St w0 w' I [] R := by {
 unfold number_Within at hm
 refine calls_start (args := [F6 a0, F6 a1, F6 a2]) func79 z ntmps79 (Nat.le_of_ble_eq_true z) ?_
 refine wp_seq (wrl (wv (.bool false) z z z (wl_nil (tn (wp_seq (wrl (wv (.float .f64 a1) z z z ?_)))))))
 obtain ⟨t156, ht157, hm⟩ := bind_some hm
 refine wc call61 [F6 a1] z z z ?_
 refine (number_Rank_ref hst.to0 ht157).mono ?_
 rintro _ w158 ⟨rfl, hst⟩
 refine ⟨_, z, ?_⟩
 replace hst := hst.of0
 refine wv (.float .f64 a0) z z z ?_
 obtain ⟨t161, ht162, hm⟩ := bind_some hm
 refine wc call61 [F6 a0] z z z ?_
 refine (number_Rank_ref hst.to0 ht162).mono ?_
 rintro _ w163 ⟨rfl, hst⟩
 refine ⟨_, z, ?_⟩
 replace hst := hst.of0
 refine wv (.bool (decide (t156 ≤ t161))) z z z (wv (.bool (decide (t156 ≤ t161))) z z z ?_)
 refine bsplit (decide (t156 ≤ t161)) (fun hc166 => ?_) (fun hc166 => ?_)
 {
 replace hm := bif_t hc166 hm
 refine wv (.float .f64 a0) ((wanted_eq z z z (cvb hc166)).trans z) z z ?_
 obtain ⟨t167, ht168, hm⟩ := bind_some hm
 refine wl_call ((wanted_eq z z z (cvb hc166)).trans z) z (x_call call61 z (vs := [F6 a0]) z) ?_
 refine (number_Rank_ref hst.to0 ht168).mono ?_
 rintro _ w169 ⟨rfl, hst⟩
 refine ⟨_, z, ?_⟩
 replace hst := hst.of0
 refine wv (.float .f64 a2) ((wanted_eq z z z (cvb hc166)).trans z) z z ?_
 obtain ⟨t172, ht173, hm⟩ := bind_some hm
 refine wl_call ((wanted_eq z z z (cvb hc166)).trans z) z (x_call call61 z (vs := [F6 a2]) z) ?_
 refine (number_Rank_ref hst.to0 ht173).mono ?_
 rintro _ w174 ⟨rfl, hst⟩
 refine ⟨_, z, ?_⟩
 replace hst := hst.of0
 refine wv (.bool (decide (t167 ≤ t172))) ((wanted_eq z z z (cvb hc166)).trans z) z z (wv (.bool (decide (t167 ≤ t172))) z z (x_pick_t hc166 z z) (wv (.bool (decide (t167 ≤ t172))) z z z (wl_nil (tn (wp_ret ?_)))))
 obtain rfl := some_inj hm
 refine post_ret (vs := [.bool (decide (t167 ≤ t172))]) results79 (rvs_cons (rv_tmp z) rvs_nil) ?_
 exact ⟨z, hst.keep0⟩
}
 {
 replace hm := bif_f hc166 hm
 refine wo hc166 z z z z z z (wo hc166 z z z z z z (wo hc166 z z z z z z (wo hc166 z z z z z z (wo hc166 z z z z z z (wv (.bool false) z z (x_pick_f hc166 z z) (wv (.bool false) z z z (wl_nil (tn (wp_ret ?_)))))))))
 obtain rfl := some_inj hm
 refine post_ret (vs := [.bool false]) results79 (rvs_cons (rv_tmp z) rvs_nil) ?_
 exact ⟨z, hst.keep0⟩
}
}

theorem locks_writes_ref {w0 w : World} {I : HL} {R : SP} {a0 : api_Hold} {r0_0 : Value} {r0_1 : Value} {r0_2 : Value} {r0_3 : Value} {a1 : Nat} {a2 : Nat} (f0_0 : Rd tyF64 R I r0_0 a0.Gets) (f0_1 : Rd tyF2 R I r0_1 a0.Scans) (f0_2 : Rd tyF64 R I r0_2 a0.Puts) (f0_3 : Rd (tyInt .u8) R I r0_3 a0.Data) (hst : St w0 w I [] R) {r : (Bool)} (hm : locks_writes a0 a1 a2 = some r) :
  Calls prog 52 #[.agg #[U6 a0.ID.Session, U6 a0.ID.Seq, U6 a0.Epoch, r0_0, r0_1, r0_2, r0_3], F6 a1, F6 a2] w fun e w' => e = .returned (.bool r) ∧ St w0 w' I [] R := by {
 unfold locks_writes at hm
 refine calls_start (args := [.agg #[U6 a0.ID.Session, U6 a0.ID.Seq, U6 a0.Epoch, r0_0, r0_1, r0_2, r0_3], F6 a1, F6 a2]) func52 z ntmps52 (Nat.le_of_ble_eq_true z) ?_
 refine wp_seq (wrl ?_)
 obtain ⟨b204, w205, ew206, eb207, hst⟩ := hst.box [U6 a0.ID.Session, U6 a0.ID.Seq, U6 a0.Epoch, r0_0, r0_1, r0_2, r0_3] 34
 refine wl_run (v := Pt b204 0) (w' := w205) z z (x_al (by kernel_rfl) ew206 eb207) ?_
 obtain ⟨b209, w210, ew211, eb212, hst⟩ := hst.box [F6 a1] 57
 refine wl_run (v := Pt b209 0) (w' := w210) z z (x_al (by kernel_rfl) ew211 eb212) ?_
 obtain ⟨b214, w215, ew216, eb217, hst⟩ := hst.box [F6 a2] 57
 refine wl_run (v := Pt b214 0) (w' := w215) z z (x_al (by kernel_rfl) ew216 eb217) ?_
 refine wv (.bool false) z z z (wl_nil (tn (wp_seq (wrl (wv (Pt b204 5) z z (x_field z underlying34 z sizeOf30 z) (wv (r0_2) z z (x_load z isAgg30 (hst.bc2 z)) (wv (.func (.func 78) #[] #[Pt b209 0, Pt b214 0]) z z (by kernel_rfl) ?_)))))))
 obtain ⟨y287, hq288, hm⟩ := bind_some hm
 refine wl_call z z (x_callv call77 (caps := []) z (vs := [r0_2, .func (.func 78) #[] #[Pt b209 0, Pt b214 0]]) z) ?_
 refine Calls.mono (show Calls prog 77 #[r0_2, .func (.func 78) #[] #[Pt b209 0, Pt b214 0]] _ (fun e w' => ∃ (z285 : Bool), z285 = y287 ∧ e = .returned (.bool z285) ∧ St w0 w' I [cells b204 [U6 a0.ID.Session, U6 a0.ID.Seq, U6 a0.Epoch, r0_0, r0_1, r0_2, r0_3], cells b209 [F6 a1], cells b214 [F6 a2]] R) from ?_) ?_
 {
 clear hm; have hm := hq288
 refine calls_start (args := [r0_2, .func (.func 78) #[] #[Pt b209 0, Pt b214 0]]) func77 z ntmps77 (Nat.le_of_ble_eq_true z) ?_
 refine wp_seq (wrl (wv (.bool false) z z z (wl_nil (tn (wp_seq (wrl (wv (r0_2) z z z (wv (.func (.func 78) #[] #[Pt b209 0, Pt b214 0]) z z z ?_))))))))
 obtain ⟨y282, hq283, hm⟩ := bind_some hm
 refine wl_call z z (x_callv call93 (caps := []) z (vs := [r0_2, .func (.func 78) #[] #[Pt b209 0, Pt b214 0]]) z) ?_
 refine Calls.mono (show Calls prog 93 #[r0_2, .func (.func 78) #[] #[Pt b209 0, Pt b214 0]] _ (fun e w' => ∃ (z280 : Int), z280 = y282 ∧ e = .returned (.int .i64 z280) ∧ St w0 w' I [cells b204 [U6 a0.ID.Session, U6 a0.ID.Seq, U6 a0.Epoch, r0_0, r0_1, r0_2, r0_3], cells b209 [F6 a1], cells b214 [F6 a2]] R) from ?_) ?_
 {
 clear hm; have hm := hq283
 refine calls_start (args := [r0_2, .func (.func 78) #[] #[Pt b209 0, Pt b214 0]]) func93 z ntmps93 (Nat.le_of_ble_eq_true z) ?_
 refine wp_seq (wrl (wv (.int .i64 (0:Int)) z z z (wl_nil (tn (wp_seq (wp_seq (wrl (wv (r0_2) z z z (wv (.int .i64 ((a0.Puts).length : Int)) z z (x_len z underlying30 (rd_sliceV f0_2)) (wv (.int .i64 (0:Int)) z z z (wl_nil (tn (wp_block ?_)))))))))))))
 obtain ⟨n256, hm⟩ := loopO_some hm
 refine wp_loop_n (fun n a w => ∃ (z254 : Int) (σ255 : Nat → Value), loopN (locks_writes_l0 a0 a1 a2) n z254 = some y282 ∧ a = Fr 19 (upd (upd (upd (upd σ255 0 (r0_2)) 1 (.func (.func 78) #[] #[Pt b209 0, Pt b214 0])) 7 (.int .i64 ((a0.Puts).length : Int))) 8 (.int .i64 z254)) ∧ St w0 w I [cells b214 [F6 a2], cells b209 [F6 a1], cells b204 [U6 a0.ID.Session, U6 a0.ID.Seq, U6 a0.Epoch, r0_0, r0_1, r0_2, r0_3]] R) n256 ⟨(0:Int), _, hm, (fu 0 r0_2 z (fu 1 (.func (.func 78) #[] #[Pt b209 0, Pt b214 0]) z (fu 7 (.int .i64 ((a0.Puts).length : Int)) z (fu 8 (.int .i64 (0:Int)) z z)))), hst⟩ ?_
 rintro n262 _ w257 ⟨z254, σ255, hm, rfl, hst⟩
 obtain ⟨n259, y260, rfl, hm, hx261⟩ := loopN_some hm
 dsimp only [locks_writes_l0] at hm
 refine wp_seq (wrl (wv (.bool (decide (z254 < ((a0.Puts).length : Int)))) z z z (wl_nil (tn (wp_seq ?_)))))
 refine bsplit (decide (z254 < ((a0.Puts).length : Int))) (fun hc263 => ?_) (fun hc263 => ?_)
 {
 replace hm := bif_t hc263 hm
 refine wp_ift (cvb hc263) ?_
 refine wp_skip (tn (wp_seq (wp_block (wp_seq (wrl ?_)))))
 refine wv (.int .i64 z254) z z z (wv (.int .i64 z254) z z z (wl_nil (tn (wp_seq (wrl (wv (.func (.func 78) #[] #[Pt b209 0, Pt b214 0]) z z z (wv (r0_2) z z z (wv (.int .i64 z254) z z z ?_))))))))
 obtain ⟨x264, hx265, hm⟩ := bind_some hm
 obtain ⟨h266, h267, hi268⟩ := geto_some hx265
 refine wv (.pointer (some (eAddr r0_2 (z254.toNat * 1 + 0)))) z z (x_index z z underlying30 sizeOf57 (rd_sliceV f0_2) h266 h267) (wv (.float .f64 x264) z z (x_load z isAgg57 (rd_load f0_2 (HL.le.refl _) hst hi268 (by rintro _ rfl; rfl))) ?_)
 obtain ⟨y276, hq277, hm⟩ := bind_some hm
 refine wl_call z z (x_callv call78 (caps := [Pt b209 0, Pt b214 0]) z (vs := [F6 x264]) z) ?_
 refine Calls.mono (show Calls prog 78 #[F6 x264, Pt b209 0, Pt b214 0] _ (fun e w' => ∃ (z274 : Bool), z274 = y276 ∧ e = .returned (.bool z274) ∧ St w0 w' I [cells b204 [U6 a0.ID.Session, U6 a0.ID.Seq, U6 a0.Epoch, r0_0, r0_1, r0_2, r0_3], cells b209 [F6 a1], cells b214 [F6 a2]] R) from ?_) ?_
 {
 clear hm; have hm := hq277
 refine calls_start (args := [F6 x264, Pt b209 0, Pt b214 0]) func78 z ntmps78 (Nat.le_of_ble_eq_true z) ?_
 refine wp_seq (wrl (wv (.bool false) z z z (wl_nil (tn (wp_seq (wrl (wv (.float .f64 x264) z z z (wv (.float .f64 a1) z z (x_load z isAgg57 (hst.bc1 z)) (wv (.float .f64 a2) z z (x_load z isAgg57 (hst.bc0 z)) ?_)))))))))
 obtain ⟨t269, ht270, hm⟩ := bind_some hm
 refine wc call79 [F6 x264, F6 a1, F6 a2] z z z ?_
 refine (number_Within_ref hst.to0 ht270).mono ?_
 rintro _ w271 ⟨rfl, hst⟩
 refine ⟨_, z, ?_⟩
 replace hst := hst.of0
 refine wv (.bool t269) z z z (wl_nil (tn (wp_ret ?_)))
 refine post_ret (vs := [.bool t269]) results78 (rvs_cons (rv_tmp z) rvs_nil) ?_
 replace hst := hst.pull1.pull2.keep3
 obtain rfl := some_inj hm
 exact ⟨t269, z, z, hst⟩
}
 clear hst
 rintro _ w278 ⟨z274, rfl, rfl, hst⟩
 refine ⟨_, z, ?_⟩
 try dsimp only at hm
 refine wl_nil (tn ?_)
 refine bsplit z274 (fun hc279 => ?_) (fun hc279 => ?_)
 {
 replace hm := bif_t hc279 hm
 refine wp_ift (cvb hc279) ?_
 refine wp_seq (wrl (wv (.int .i64 z254) z z z (wv (.int .i64 z254) z z z (wl_nil (tn (wp_ret (blk_r (then_r (then_r ?_)))))))))
 replace hm := inr_up hm hx261
 refine blk_r (then_r ?_)
 refine post_ret (vs := [I6 z254]) results93 (rvs_cons (rv_tmp z) rvs_nil) ?_
 replace hst := hst.pull2.pull2.pull2.keep3
 obtain rfl := some_inj hm
 exact ⟨z254, z, z, hst⟩
}
 {
 replace hm := bif_f hc279 hm
 refine wp_iff (cvb hc279) ?_
 refine wp_skip (blk_n (tn (wrl ?_)))
 refine wv (.int .i64 (i64.wrap (z254 + (1:Int)))) z z z (wv (.int .i64 (i64.wrap (z254 + (1:Int)))) z z z (wl_nil (tn ?_)))
 replace hst := hst.pull1.pull2.keep3
 obtain rfl := some_inj hm
 exact ⟨_, Nat.lt_succ_self _, (i64.wrap (z254 + (1:Int))), _, hx261, (fu 0 r0_2 z (fu 1 (.func (.func 78) #[] #[Pt b209 0, Pt b214 0]) z (fu 7 (.int .i64 ((a0.Puts).length : Int)) z (fu 8 (.int .i64 (i64.wrap (z254 + (1:Int)))) z z)))), hst⟩
}
}
 {
 replace hm := bif_f hc263 hm
 refine wp_iff (cvb hc263) ?_
 refine wp_exit (then_x (then_x ?_))
 replace hm := inr_up hm hx261
 refine blk_x (tn (wp_seq (wrl ?_)))
 refine wv (.int .i64 ((-1):Int)) z z z (wl_nil (tn (wp_ret ?_)))
 refine post_ret (vs := [I6 ((-1):Int)]) results93 (rvs_cons (rv_tmp z) rvs_nil) ?_
 replace hst := hst.pull1.pull2.keep3
 obtain rfl := some_inj hm
 exact ⟨((-1):Int), z, z, hst⟩
}
}
 clear hst
 rintro _ w284 ⟨z280, rfl, rfl, hst⟩
 refine ⟨_, z, ?_⟩
 try dsimp only at hm
 refine wv (.bool (decide (z280 ≥ (0:Int)))) z z z (wv (.bool (decide (z280 ≥ (0:Int)))) z z z (wl_nil (tn (wp_ret ?_))))
 refine post_ret (vs := [.bool (decide (z280 ≥ (0:Int)))]) results77 (rvs_cons (rv_tmp z) rvs_nil) ?_
 replace hst := hst.pull2.pull2.pull2.keep3
 obtain rfl := some_inj hm
 exact ⟨(decide (z280 ≥ (0:Int))), z, z, hst⟩
}
 clear hst
 rintro _ w289 ⟨z285, rfl, rfl, hst⟩
 refine ⟨_, z, ?_⟩
 try dsimp only at hm
 refine wv (.bool z285) z z z (wl_nil (tn (wp_ret ?_)))
 obtain rfl := some_inj hm
 refine post_ret (vs := [.bool z285]) results52 (rvs_cons (rv_tmp z) rvs_nil) ?_
 exact ⟨z, hst.keep0⟩
}

theorem number_Same_ref {w0 w : World} {I : HL} {R : SP} {a0 : Nat} {a1 : Nat}  (hst : St w0 w I [] R) {r : (Bool)} (hm : number_Same a0 a1 = some r) :
  Calls prog 47 #[F6 a0, F6 a1] w fun e w' => e = .returned (.bool r) ∧ St w0 w' I [] R := by {
 unfold number_Same at hm
 refine calls_start (args := [F6 a0, F6 a1]) func47 z ntmps47 (Nat.le_of_ble_eq_true z) ?_
 refine wp_seq (wrl (wv (.bool false) z z z (wl_nil (tn (wp_seq (wrl (wv (.float .f64 a0) z z z ?_)))))))
 obtain ⟨t146, ht147, hm⟩ := bind_some hm
 refine wc call61 [F6 a0] z z z ?_
 refine (number_Rank_ref hst.to0 ht147).mono ?_
 rintro _ w148 ⟨rfl, hst⟩
 refine ⟨_, z, ?_⟩
 replace hst := hst.of0
 refine wv (.float .f64 a1) z z z ?_
 obtain ⟨t151, ht152, hm⟩ := bind_some hm
 refine wc call61 [F6 a1] z z z ?_
 refine (number_Rank_ref hst.to0 ht152).mono ?_
 rintro _ w153 ⟨rfl, hst⟩
 refine ⟨_, z, ?_⟩
 replace hst := hst.of0
 refine wv (.bool (t146 == t151)) z z z (wv (.bool (t146 == t151)) z z z (wl_nil (tn (wp_ret ?_))))
 obtain rfl := some_inj hm
 refine post_ret (vs := [.bool (t146 == t151)]) results47 (rvs_cons (rv_tmp z) rvs_nil) ?_
 exact ⟨z, hst.keep0⟩
}

theorem locks_reads_ref {w0 w : World} {I : HL} {R : SP} {a0 : api_Hold} {r0_0 : Value} {r0_1 : Value} {r0_2 : Value} {r0_3 : Value} {a1 : Nat} (f0_0 : Rd tyF64 R I r0_0 a0.Gets) (f0_1 : Rd tyF2 R I r0_1 a0.Scans) (f0_2 : Rd tyF64 R I r0_2 a0.Puts) (f0_3 : Rd (tyInt .u8) R I r0_3 a0.Data) (hst : St w0 w I [] R) {r : (Bool)} (hm : locks_reads a0 a1 = some r) :
  Calls prog 53 #[.agg #[U6 a0.ID.Session, U6 a0.ID.Seq, U6 a0.Epoch, r0_0, r0_1, r0_2, r0_3], F6 a1] w fun e w' => e = .returned (.bool r) ∧ St w0 w' I [] R := by {
 unfold locks_reads at hm
 refine calls_start (args := [.agg #[U6 a0.ID.Session, U6 a0.ID.Seq, U6 a0.Epoch, r0_0, r0_1, r0_2, r0_3], F6 a1]) func53 z ntmps53 (Nat.le_of_ble_eq_true z) ?_
 refine wp_seq (wrl ?_)
 obtain ⟨b292, w293, ew294, eb295, hst⟩ := hst.box [U6 a0.ID.Session, U6 a0.ID.Seq, U6 a0.Epoch, r0_0, r0_1, r0_2, r0_3] 34
 refine wl_run (v := Pt b292 0) (w' := w293) z z (x_al (by kernel_rfl) ew294 eb295) ?_
 obtain ⟨b297, w298, ew299, eb300, hst⟩ := hst.box [F6 a1] 57
 refine wl_run (v := Pt b297 0) (w' := w298) z z (x_al (by kernel_rfl) ew299 eb300) ?_
 refine wv (.bool false) z z z (wl_nil (tn (wp_seq (wrl (wv (Pt b292 3) z z (x_field z underlying34 z sizeOf30 z) (wv (r0_0) z z (x_load z isAgg30 (hst.bc1 z)) (wv (.func (.func 80) #[] #[Pt b297 0]) z z (by kernel_rfl) ?_)))))))
 obtain ⟨y370, hq371, hm⟩ := bind_some hm
 refine wl_call z z (x_callv call77 (caps := []) z (vs := [r0_0, .func (.func 80) #[] #[Pt b297 0]]) z) ?_
 refine Calls.mono (show Calls prog 77 #[r0_0, .func (.func 80) #[] #[Pt b297 0]] _ (fun e w' => ∃ (z368 : Bool), z368 = y370 ∧ e = .returned (.bool z368) ∧ St w0 w' I [cells b292 [U6 a0.ID.Session, U6 a0.ID.Seq, U6 a0.Epoch, r0_0, r0_1, r0_2, r0_3], cells b297 [F6 a1]] R) from ?_) ?_
 {
 clear hm; have hm := hq371
 refine calls_start (args := [r0_0, .func (.func 80) #[] #[Pt b297 0]]) func77 z ntmps77 (Nat.le_of_ble_eq_true z) ?_
 refine wp_seq (wrl (wv (.bool false) z z z (wl_nil (tn (wp_seq (wrl (wv (r0_0) z z z (wv (.func (.func 80) #[] #[Pt b297 0]) z z z ?_))))))))
 obtain ⟨y365, hq366, hm⟩ := bind_some hm
 refine wl_call z z (x_callv call93 (caps := []) z (vs := [r0_0, .func (.func 80) #[] #[Pt b297 0]]) z) ?_
 refine Calls.mono (show Calls prog 93 #[r0_0, .func (.func 80) #[] #[Pt b297 0]] _ (fun e w' => ∃ (z363 : Int), z363 = y365 ∧ e = .returned (.int .i64 z363) ∧ St w0 w' I [cells b292 [U6 a0.ID.Session, U6 a0.ID.Seq, U6 a0.Epoch, r0_0, r0_1, r0_2, r0_3], cells b297 [F6 a1]] R) from ?_) ?_
 {
 clear hm; have hm := hq366
 refine calls_start (args := [r0_0, .func (.func 80) #[] #[Pt b297 0]]) func93 z ntmps93 (Nat.le_of_ble_eq_true z) ?_
 refine wp_seq (wrl (wv (.int .i64 (0:Int)) z z z (wl_nil (tn (wp_seq (wp_seq (wrl (wv (r0_0) z z z (wv (.int .i64 ((a0.Gets).length : Int)) z z (x_len z underlying30 (rd_sliceV f0_0)) (wv (.int .i64 (0:Int)) z z z (wl_nil (tn (wp_block ?_)))))))))))))
 obtain ⟨n339, hm⟩ := loopO_some hm
 refine wp_loop_n (fun n a w => ∃ (z337 : Int) (σ338 : Nat → Value), loopN (locks_reads_l0 a0 a1) n z337 = some y365 ∧ a = Fr 19 (upd (upd (upd (upd σ338 0 (r0_0)) 1 (.func (.func 80) #[] #[Pt b297 0])) 7 (.int .i64 ((a0.Gets).length : Int))) 8 (.int .i64 z337)) ∧ St w0 w I [cells b297 [F6 a1], cells b292 [U6 a0.ID.Session, U6 a0.ID.Seq, U6 a0.Epoch, r0_0, r0_1, r0_2, r0_3]] R) n339 ⟨(0:Int), _, hm, (fu 0 r0_0 z (fu 1 (.func (.func 80) #[] #[Pt b297 0]) z (fu 7 (.int .i64 ((a0.Gets).length : Int)) z (fu 8 (.int .i64 (0:Int)) z z)))), hst⟩ ?_
 rintro n345 _ w340 ⟨z337, σ338, hm, rfl, hst⟩
 obtain ⟨n342, y343, rfl, hm, hx344⟩ := loopN_some hm
 dsimp only [locks_reads_l0] at hm
 refine wp_seq (wrl (wv (.bool (decide (z337 < ((a0.Gets).length : Int)))) z z z (wl_nil (tn (wp_seq ?_)))))
 refine bsplit (decide (z337 < ((a0.Gets).length : Int))) (fun hc346 => ?_) (fun hc346 => ?_)
 {
 replace hm := bif_t hc346 hm
 refine wp_ift (cvb hc346) ?_
 refine wp_skip (tn (wp_seq (wp_block (wp_seq (wrl ?_)))))
 refine wv (.int .i64 z337) z z z (wv (.int .i64 z337) z z z (wl_nil (tn (wp_seq (wrl (wv (.func (.func 80) #[] #[Pt b297 0]) z z z (wv (r0_0) z z z (wv (.int .i64 z337) z z z ?_))))))))
 obtain ⟨x347, hx348, hm⟩ := bind_some hm
 obtain ⟨h349, h350, hi351⟩ := geto_some hx348
 refine wv (.pointer (some (eAddr r0_0 (z337.toNat * 1 + 0)))) z z (x_index z z underlying30 sizeOf57 (rd_sliceV f0_0) h349 h350) (wv (.float .f64 x347) z z (x_load z isAgg57 (rd_load f0_0 (HL.le.refl _) hst hi351 (by rintro _ rfl; rfl))) ?_)
 obtain ⟨y359, hq360, hm⟩ := bind_some hm
 refine wl_call z z (x_callv call80 (caps := [Pt b297 0]) z (vs := [F6 x347]) z) ?_
 refine Calls.mono (show Calls prog 80 #[F6 x347, Pt b297 0] _ (fun e w' => ∃ (z357 : Bool), z357 = y359 ∧ e = .returned (.bool z357) ∧ St w0 w' I [cells b292 [U6 a0.ID.Session, U6 a0.ID.Seq, U6 a0.Epoch, r0_0, r0_1, r0_2, r0_3], cells b297 [F6 a1]] R) from ?_) ?_
 {
 clear hm; have hm := hq360
 refine calls_start (args := [F6 x347, Pt b297 0]) func80 z ntmps80 (Nat.le_of_ble_eq_true z) ?_
 refine wp_seq (wrl (wv (.bool false) z z z (wl_nil (tn (wp_seq (wrl (wv (.float .f64 a1) z z (x_load z isAgg57 (hst.bc0 z)) (wv (.float .f64 x347) z z z ?_))))))))
 obtain ⟨t352, ht353, hm⟩ := bind_some hm
 refine wc call47 [F6 a1, F6 x347] z z z ?_
 refine (number_Same_ref hst.to0 ht353).mono ?_
 rintro _ w354 ⟨rfl, hst⟩
 refine ⟨_, z, ?_⟩
 replace hst := hst.of0
 refine wv (.bool t352) z z z (wl_nil (tn (wp_ret ?_)))
 refine post_ret (vs := [.bool t352]) results80 (rvs_cons (rv_tmp z) rvs_nil) ?_
 replace hst := hst.pull1.keep2
 obtain rfl := some_inj hm
 exact ⟨t352, z, z, hst⟩
}
 clear hst
 rintro _ w361 ⟨z357, rfl, rfl, hst⟩
 refine ⟨_, z, ?_⟩
 try dsimp only at hm
 refine wl_nil (tn ?_)
 refine bsplit z357 (fun hc362 => ?_) (fun hc362 => ?_)
 {
 replace hm := bif_t hc362 hm
 refine wp_ift (cvb hc362) ?_
 refine wp_seq (wrl (wv (.int .i64 z337) z z z (wv (.int .i64 z337) z z z (wl_nil (tn (wp_ret (blk_r (then_r (then_r ?_)))))))))
 replace hm := inr_up hm hx344
 refine blk_r (then_r ?_)
 refine post_ret (vs := [I6 z337]) results93 (rvs_cons (rv_tmp z) rvs_nil) ?_
 replace hst := hst.pull1.pull1.keep2
 obtain rfl := some_inj hm
 exact ⟨z337, z, z, hst⟩
}
 {
 replace hm := bif_f hc362 hm
 refine wp_iff (cvb hc362) ?_
 refine wp_skip (blk_n (tn (wrl ?_)))
 refine wv (.int .i64 (i64.wrap (z337 + (1:Int)))) z z z (wv (.int .i64 (i64.wrap (z337 + (1:Int)))) z z z (wl_nil (tn ?_)))
 replace hst := hst.pull1.keep2
 obtain rfl := some_inj hm
 exact ⟨_, Nat.lt_succ_self _, (i64.wrap (z337 + (1:Int))), _, hx344, (fu 0 r0_0 z (fu 1 (.func (.func 80) #[] #[Pt b297 0]) z (fu 7 (.int .i64 ((a0.Gets).length : Int)) z (fu 8 (.int .i64 (i64.wrap (z337 + (1:Int)))) z z)))), hst⟩
}
}
 {
 replace hm := bif_f hc346 hm
 refine wp_iff (cvb hc346) ?_
 refine wp_exit (then_x (then_x ?_))
 replace hm := inr_up hm hx344
 refine blk_x (tn (wp_seq (wrl ?_)))
 refine wv (.int .i64 ((-1):Int)) z z z (wl_nil (tn (wp_ret ?_)))
 refine post_ret (vs := [I6 ((-1):Int)]) results93 (rvs_cons (rv_tmp z) rvs_nil) ?_
 replace hst := hst.pull1.keep2
 obtain rfl := some_inj hm
 exact ⟨((-1):Int), z, z, hst⟩
}
}
 clear hst
 rintro _ w367 ⟨z363, rfl, rfl, hst⟩
 refine ⟨_, z, ?_⟩
 try dsimp only at hm
 refine wv (.bool (decide (z363 ≥ (0:Int)))) z z z (wv (.bool (decide (z363 ≥ (0:Int)))) z z z (wl_nil (tn (wp_ret ?_))))
 refine post_ret (vs := [.bool (decide (z363 ≥ (0:Int)))]) results77 (rvs_cons (rv_tmp z) rvs_nil) ?_
 replace hst := hst.pull1.pull1.keep2
 obtain rfl := some_inj hm
 exact ⟨(decide (z363 ≥ (0:Int))), z, z, hst⟩
}
 clear hst
 rintro _ w372 ⟨z368, rfl, rfl, hst⟩
 refine ⟨_, z, ?_⟩
 try dsimp only at hm
 refine wv (.bool z368) z z z ?_
 refine bsplit z368 (fun hc373 => ?_) (fun hc373 => ?_)
 {
 replace hm := bif_t hc373 hm
 refine wo hc373 z z z z z z (wo hc373 z z z z z z (wo hc373 z z z z z z (wo hc373 z z z z z z (wv (.bool true) z z (x_pick_t hc373 z z) (wv (.bool true) z z z (wl_nil (tn (wp_ret ?_))))))))
 obtain rfl := some_inj hm
 refine post_ret (vs := [.bool true]) results53 (rvs_cons (rv_tmp z) rvs_nil) ?_
 exact ⟨z, hst.keep0⟩
}
 {
 replace hm := bif_f hc373 hm
 refine wv (Pt b292 4) ((wanted_eq z z z (cvb hc373)).trans z) z (x_field z underlying34 z sizeOf31 z) (wv (r0_1) ((wanted_eq z z z (cvb hc373)).trans z) z (x_load z isAgg31 (hst.bc0 z)) (wv (.func (.func 82) #[] #[Pt b297 0]) ((wanted_eq z z z (cvb hc373)).trans z) z (by kernel_rfl) ?_))
 obtain ⟨y457, hq458, hm⟩ := bind_some hm
 refine wl_call ((wanted_eq z z z (cvb hc373)).trans z) z (x_callv call81 (caps := []) z (vs := [r0_1, .func (.func 82) #[] #[Pt b297 0]]) z) ?_
 refine Calls.mono (show Calls prog 81 #[r0_1, .func (.func 82) #[] #[Pt b297 0]] _ (fun e w' => ∃ (z455 : Bool), z455 = y457 ∧ e = .returned (.bool z455) ∧ St w0 w' I [cells b292 [U6 a0.ID.Session, U6 a0.ID.Seq, U6 a0.Epoch, r0_0, r0_1, r0_2, r0_3], cells b297 [F6 a1]] R) from ?_) ?_
 {
 clear hm; have hm := hq458
 refine calls_start (args := [r0_1, .func (.func 82) #[] #[Pt b297 0]]) func81 z ntmps81 (Nat.le_of_ble_eq_true z) ?_
 refine wp_seq (wrl (wv (.bool false) z z z (wl_nil (tn (wp_seq (wrl (wv (r0_1) z z z (wv (.func (.func 82) #[] #[Pt b297 0]) z z z ?_))))))))
 obtain ⟨y452, hq453, hm⟩ := bind_some hm
 refine wl_call z z (x_callv call94 (caps := []) z (vs := [r0_1, .func (.func 82) #[] #[Pt b297 0]]) z) ?_
 refine Calls.mono (show Calls prog 94 #[r0_1, .func (.func 82) #[] #[Pt b297 0]] _ (fun e w' => ∃ (z450 : Int), z450 = y452 ∧ e = .returned (.int .i64 z450) ∧ St w0 w' I [cells b292 [U6 a0.ID.Session, U6 a0.ID.Seq, U6 a0.Epoch, r0_0, r0_1, r0_2, r0_3], cells b297 [F6 a1]] R) from ?_) ?_
 {
 clear hm; have hm := hq453
 refine calls_start (args := [r0_1, .func (.func 82) #[] #[Pt b297 0]]) func94 z ntmps94 (Nat.le_of_ble_eq_true z) ?_
 refine wp_seq (wrl (wv (.int .i64 (0:Int)) z z z (wl_nil (tn (wp_seq (wp_seq (wrl (wv (r0_1) z z z (wv (.int .i64 ((a0.Scans).length : Int)) z z (x_len z underlying31 (rd_sliceV f0_1)) (wv (.int .i64 (0:Int)) z z z (wl_nil (tn (wp_block ?_)))))))))))))
 obtain ⟨n421, hm⟩ := loopO_some hm
 refine wp_loop_n (fun n a w => ∃ (z419 : Int) (σ420 : Nat → Value), loopN (locks_reads_l1 a0 a1) n z419 = some y452 ∧ a = Fr 19 (upd (upd (upd (upd σ420 0 (r0_1)) 1 (.func (.func 82) #[] #[Pt b297 0])) 7 (.int .i64 ((a0.Scans).length : Int))) 8 (.int .i64 z419)) ∧ St w0 w I [cells b292 [U6 a0.ID.Session, U6 a0.ID.Seq, U6 a0.Epoch, r0_0, r0_1, r0_2, r0_3], cells b297 [F6 a1]] R) n421 ⟨(0:Int), _, hm, (fu 0 r0_1 z (fu 1 (.func (.func 82) #[] #[Pt b297 0]) z (fu 7 (.int .i64 ((a0.Scans).length : Int)) z (fu 8 (.int .i64 (0:Int)) z z)))), hst⟩ ?_
 rintro n427 _ w422 ⟨z419, σ420, hm, rfl, hst⟩
 obtain ⟨n424, y425, rfl, hm, hx426⟩ := loopN_some hm
 dsimp only [locks_reads_l1] at hm
 refine wp_seq (wrl (wv (.bool (decide (z419 < ((a0.Scans).length : Int)))) z z z (wl_nil (tn (wp_seq ?_)))))
 refine bsplit (decide (z419 < ((a0.Scans).length : Int))) (fun hc428 => ?_) (fun hc428 => ?_)
 {
 replace hm := bif_t hc428 hm
 refine wp_ift (cvb hc428) ?_
 refine wp_skip (tn (wp_seq (wp_block (wp_seq (wrl ?_)))))
 refine wv (.int .i64 z419) z z z (wv (.int .i64 z419) z z z (wl_nil (tn (wp_seq (wrl (wv (.func (.func 82) #[] #[Pt b297 0]) z z z (wv (r0_1) z z z (wv (.int .i64 z419) z z z ?_))))))))
 obtain ⟨x429, hx430, hm⟩ := bind_some hm
 obtain ⟨h431, h432, hi433⟩ := geto_some hx430
 refine wv (.pointer (some (eAddr r0_1 (z419.toNat * 2 + 0)))) z z (x_index z z underlying31 sizeOf75 (rd_sliceV f0_1) h431 h432) (wv (.agg #[F6 x429.1, F6 x429.2]) z z (x_loadN (cs := [F6 x429.1, F6 x429.2]) z isAgg75 sizeOf75 (rd_loadN f0_1 (HL.le.refl _) hst hi433 0 (by rintro _ rfl; rfl))) ?_)
 obtain ⟨y446, hq447, hm⟩ := bind_some hm
 refine wl_call z z (x_callv call82 (caps := [Pt b297 0]) z (vs := [.agg #[F6 x429.1, F6 x429.2]]) z) ?_
 refine Calls.mono (show Calls prog 82 #[.agg #[F6 x429.1, F6 x429.2], Pt b297 0] _ (fun e w' => ∃ (z444 : Bool), z444 = y446 ∧ e = .returned (.bool z444) ∧ St w0 w' I [cells b292 [U6 a0.ID.Session, U6 a0.ID.Seq, U6 a0.Epoch, r0_0, r0_1, r0_2, r0_3], cells b297 [F6 a1]] R) from ?_) ?_
 {
 clear hm; have hm := hq447
 refine calls_start (args := [.agg #[F6 x429.1, F6 x429.2], Pt b297 0]) func82 z ntmps82 (Nat.le_of_ble_eq_true z) ?_
 refine wp_seq (wrl ?_)
 obtain ⟨b434, w435, ew436, eb437, hst⟩ := hst.box [F6 x429.1, F6 x429.2] 75
 refine wl_run (v := Pt b434 0) (w' := w435) z z (x_al (by kernel_rfl) ew436 eb437) ?_
 refine wv (.bool false) z z z (wl_nil (tn (wp_seq (wrl (wv (.float .f64 a1) z z (x_load z isAgg57 (hst.bc2 z)) (wv (Pt b434 0) z z (x_index_arr (i := (0:Int)) z z underlying75 sizeOf57 (by decide) (by decide)) (wv (.float .f64 x429.1) z z (x_load z isAgg57 (hst.bc0 z)) (wv (Pt b434 1) z z (x_index_arr (i := (1:Int)) z z underlying75 sizeOf57 (by decide) (by decide)) (wv (.float .f64 x429.2) z z (x_load z isAgg57 (hst.bc0 z)) ?_)))))))))
 obtain ⟨t439, ht440, hm⟩ := bind_some hm
 refine wc call79 [F6 a1, F6 x429.1, F6 x429.2] z z z ?_
 refine (number_Within_ref hst.to0 ht440).mono ?_
 rintro _ w441 ⟨rfl, hst⟩
 refine ⟨_, z, ?_⟩
 replace hst := hst.of0
 refine wv (.bool t439) z z z (wl_nil (tn (wp_ret ?_)))
 refine post_ret (vs := [.bool t439]) results82 (rvs_cons (rv_tmp z) rvs_nil) ?_
 replace hst := hst.pull2.pull2.keep2
 obtain rfl := some_inj hm
 exact ⟨t439, z, z, hst⟩
}
 clear hst
 rintro _ w448 ⟨z444, rfl, rfl, hst⟩
 refine ⟨_, z, ?_⟩
 try dsimp only at hm
 refine wl_nil (tn ?_)
 refine bsplit z444 (fun hc449 => ?_) (fun hc449 => ?_)
 {
 replace hm := bif_t hc449 hm
 refine wp_ift (cvb hc449) ?_
 refine wp_seq (wrl (wv (.int .i64 z419) z z z (wv (.int .i64 z419) z z z (wl_nil (tn (wp_ret (blk_r (then_r (then_r ?_)))))))))
 replace hm := inr_up hm hx426
 refine blk_r (then_r ?_)
 refine post_ret (vs := [I6 z419]) results94 (rvs_cons (rv_tmp z) rvs_nil) ?_
 replace hst := hst.pull1.pull1.keep2
 obtain rfl := some_inj hm
 exact ⟨z419, z, z, hst⟩
}
 {
 replace hm := bif_f hc449 hm
 refine wp_iff (cvb hc449) ?_
 refine wp_skip (blk_n (tn (wrl ?_)))
 refine wv (.int .i64 (i64.wrap (z419 + (1:Int)))) z z z (wv (.int .i64 (i64.wrap (z419 + (1:Int)))) z z z (wl_nil (tn ?_)))
 replace hst := hst.pull1.pull1.keep2
 obtain rfl := some_inj hm
 exact ⟨_, Nat.lt_succ_self _, (i64.wrap (z419 + (1:Int))), _, hx426, (fu 0 r0_1 z (fu 1 (.func (.func 82) #[] #[Pt b297 0]) z (fu 7 (.int .i64 ((a0.Scans).length : Int)) z (fu 8 (.int .i64 (i64.wrap (z419 + (1:Int)))) z z)))), hst⟩
}
}
 {
 replace hm := bif_f hc428 hm
 refine wp_iff (cvb hc428) ?_
 refine wp_exit (then_x (then_x ?_))
 replace hm := inr_up hm hx426
 refine blk_x (tn (wp_seq (wrl ?_)))
 refine wv (.int .i64 ((-1):Int)) z z z (wl_nil (tn (wp_ret ?_)))
 refine post_ret (vs := [I6 ((-1):Int)]) results94 (rvs_cons (rv_tmp z) rvs_nil) ?_
 replace hst := hst.pull1.pull1.keep2
 obtain rfl := some_inj hm
 exact ⟨((-1):Int), z, z, hst⟩
}
}
 clear hst
 rintro _ w454 ⟨z450, rfl, rfl, hst⟩
 refine ⟨_, z, ?_⟩
 try dsimp only at hm
 refine wv (.bool (decide (z450 ≥ (0:Int)))) z z z (wv (.bool (decide (z450 ≥ (0:Int)))) z z z (wl_nil (tn (wp_ret ?_))))
 refine post_ret (vs := [.bool (decide (z450 ≥ (0:Int)))]) results81 (rvs_cons (rv_tmp z) rvs_nil) ?_
 replace hst := hst.pull1.pull1.keep2
 obtain rfl := some_inj hm
 exact ⟨(decide (z450 ≥ (0:Int))), z, z, hst⟩
}
 clear hst
 rintro _ w459 ⟨z455, rfl, rfl, hst⟩
 refine ⟨_, z, ?_⟩
 try dsimp only at hm
 refine wv (.bool z455) z z (x_pick_f hc373 z z) (wv (.bool z455) z z z (wl_nil (tn (wp_ret ?_))))
 obtain rfl := some_inj hm
 refine post_ret (vs := [.bool z455]) results53 (rvs_cons (rv_tmp z) rvs_nil) ?_
 exact ⟨z, hst.keep0⟩
}
}

theorem locks_Meet_ref {w0 w : World} {I : HL} {R : SP} {a0 : api_Hold} {r0_0 : Value} {r0_1 : Value} {r0_2 : Value} {r0_3 : Value} {a1 : api_Hold} {r1_0 : Value} {r1_1 : Value} {r1_2 : Value} {r1_3 : Value} (f0_0 : Rd tyF64 R I r0_0 a0.Gets) (f0_1 : Rd tyF2 R I r0_1 a0.Scans) (f0_2 : Rd tyF64 R I r0_2 a0.Puts) (f0_3 : Rd (tyInt .u8) R I r0_3 a0.Data) (f1_0 : Rd tyF64 R I r1_0 a1.Gets) (f1_1 : Rd tyF2 R I r1_1 a1.Scans) (f1_2 : Rd tyF64 R I r1_2 a1.Puts) (f1_3 : Rd (tyInt .u8) R I r1_3 a1.Data) (hst : St w0 w I [] R) {r : (Bool)} (hm : locks_Meet a0 a1 = some r) :
  Calls prog 19 #[.agg #[U6 a0.ID.Session, U6 a0.ID.Seq, U6 a0.Epoch, r0_0, r0_1, r0_2, r0_3], .agg #[U6 a1.ID.Session, U6 a1.ID.Seq, U6 a1.Epoch, r1_0, r1_1, r1_2, r1_3]] w fun e w' => e = .returned (.bool r) ∧ St w0 w' I [] R := by {
 unfold locks_Meet at hm
 refine calls_start (args := [.agg #[U6 a0.ID.Session, U6 a0.ID.Seq, U6 a0.Epoch, r0_0, r0_1, r0_2, r0_3], .agg #[U6 a1.ID.Session, U6 a1.ID.Seq, U6 a1.Epoch, r1_0, r1_1, r1_2, r1_3]]) func19 z ntmps19 (Nat.le_of_ble_eq_true z) ?_
 refine wp_seq (wrl ?_)
 obtain ⟨b227, w228, ew229, eb230, hst⟩ := hst.box [U6 a0.ID.Session, U6 a0.ID.Seq, U6 a0.Epoch, r0_0, r0_1, r0_2, r0_3] 34
 refine wl_run (v := Pt b227 0) (w' := w228) z z (x_al (by kernel_rfl) ew229 eb230) ?_
 obtain ⟨b232, w233, ew234, eb235, hst⟩ := hst.box [U6 a1.ID.Session, U6 a1.ID.Seq, U6 a1.Epoch, r1_0, r1_1, r1_2, r1_3] 34
 refine wl_run (v := Pt b232 0) (w' := w233) z z (x_al (by kernel_rfl) ew234 eb235) ?_
 refine wv (.bool false) z z z (wl_nil (tn ?_))
 obtain ⟨y303, hm, hx304⟩ := joinO_some hm
 refine wp_cut (fun a w => ∃ (σ301 : Nat → Value), (locks_Meet_j0 a1 a0) () = some r ∧ a = Fr 37 (upd (upd σ301 2 (Pt b227 0)) 3 (Pt b232 0)) ∧ St w0 w I [cells b227 [U6 a0.ID.Session, U6 a0.ID.Seq, U6 a0.Epoch, r0_0, r0_1, r0_2, r0_3], cells b232 [U6 a1.ID.Session, U6 a1.ID.Seq, U6 a1.Epoch, r1_0, r1_1, r1_2, r1_3]] R) ?_ ?_
 {
 refine wp_seq (wrl (wv (Pt b227 5) z z (x_field z underlying34 z sizeOf30 z) (wv (r0_2) z z (x_load z isAgg30 (hst.bc1 z)) (wv (.int .i64 ((a0.Puts).length : Int)) z z (x_len z underlying30 (rd_sliceV f0_2)) (wv (.int .i64 (0:Int)) z z z (wl_nil (tn (wp_block ?_))))))))
 obtain ⟨n276, hm⟩ := loopO_some hm
 refine wp_loop_n (fun n a w => ∃ (z274 : Int) (σ275 : Nat → Value), loopN (locks_Meet_l1 a0 a1) n z274 = some y303 ∧ a = Fr 37 (upd (upd (upd (upd (upd σ275 2 (Pt b227 0)) 3 (Pt b232 0)) 10 (r0_2)) 11 (.int .i64 ((a0.Puts).length : Int))) 12 (.int .i64 z274)) ∧ St w0 w I [cells b232 [U6 a1.ID.Session, U6 a1.ID.Seq, U6 a1.Epoch, r1_0, r1_1, r1_2, r1_3], cells b227 [U6 a0.ID.Session, U6 a0.ID.Seq, U6 a0.Epoch, r0_0, r0_1, r0_2, r0_3]] R) n276 ⟨(0:Int), _, hm, (fu 2 (Pt b227 0) z (fu 3 (Pt b232 0) z (fu 10 r0_2 z (fu 11 (.int .i64 ((a0.Puts).length : Int)) z (fu 12 (.int .i64 (0:Int)) z z))))), hst⟩ ?_
 rintro n282 _ w277 ⟨z274, σ275, hm, rfl, hst⟩
 obtain ⟨n279, y280, rfl, hm, hx281⟩ := loopN_some hm
 dsimp only [locks_Meet_l1] at hm
 refine wp_seq (wrl (wv (.bool (decide (z274 < ((a0.Puts).length : Int)))) z z z (wl_nil (tn (wp_seq ?_)))))
 refine bsplit (decide (z274 < ((a0.Puts).length : Int))) (fun hc283 => ?_) (fun hc283 => ?_)
 {
 replace hm := bif_t hc283 hm
 refine wp_ift (cvb hc283) ?_
 refine wp_skip (tn (wp_seq (wp_block (wp_seq (wrl ?_)))))
 obtain ⟨x284, hx285, hm⟩ := bind_some hm
 obtain ⟨h286, h287, hi288⟩ := geto_some hx285
 refine wv (.pointer (some (eAddr r0_2 (z274.toNat * 1 + 0)))) z z (x_index z z underlying30 sizeOf57 (rd_sliceV f0_2) h286 h287) (wv (.float .f64 x284) z z (x_load z isAgg57 (rd_load f0_2 (HL.le.refl _) hst hi288 (by rintro _ rfl; rfl))) (wv (.float .f64 x284) z z z (wl_nil (tn (wp_seq (wrl (wv (.agg #[U6 a1.ID.Session, U6 a1.ID.Seq, U6 a1.Epoch, r1_0, r1_1, r1_2, r1_3]) z z (x_loadN (cs := [U6 a1.ID.Session, U6 a1.ID.Seq, U6 a1.Epoch, r1_0, r1_1, r1_2, r1_3]) z isAgg34 sizeOf34 (hst.bcs0 0 z)) (wv (.float .f64 x284) z z z (wv (.float .f64 x284) z z z ?_)))))))))
 obtain ⟨t289, ht290, hm⟩ := bind_some hm
 refine wc call52 [.agg #[U6 a1.ID.Session, U6 a1.ID.Seq, U6 a1.Epoch, r1_0, r1_1, r1_2, r1_3], F6 x284, F6 x284] z z z ?_
 refine (locks_writes_ref (f1_0.mono (rd_weak _)) (f1_1.mono (rd_weak _)) (f1_2.mono (rd_weak _)) (f1_3.mono (rd_weak _)) hst.to0 ht290).mono ?_
 rintro _ w291 ⟨rfl, hst⟩
 refine ⟨_, z, ?_⟩
 replace hst := hst.of0
 refine wv (.bool t289) z z z ?_
 refine bsplit t289 (fun hc294 => ?_) (fun hc294 => ?_)
 {
 replace hm := bif_t hc294 hm
 refine wo hc294 z z z z z z (wo hc294 z z z z z z (wo hc294 z z z z z z (wv (.bool true) z z (x_pick_t hc294 z z) (wl_nil (tn ?_)))))
 refine wp_ift z ?_
 refine wp_seq (wrl (wv (.bool true) z z z (wl_nil (tn (wp_ret (blk_r (then_r (then_r ?_))))))))
 replace hm := inr_up hm hx281
 refine blk_r (then_r ?_)
 replace hm := inr_up hm hx304
 obtain rfl := some_inj hm
 refine post_ret (vs := [.bool true]) results19 (rvs_cons (rv_tmp z) rvs_nil) ?_
 exact ⟨z, hst.keep0⟩
}
 {
 replace hm := bif_f hc294 hm
 refine wv (.agg #[U6 a1.ID.Session, U6 a1.ID.Seq, U6 a1.Epoch, r1_0, r1_1, r1_2, r1_3]) ((wanted_eq z z z (cvb hc294)).trans z) z (x_loadN (cs := [U6 a1.ID.Session, U6 a1.ID.Seq, U6 a1.Epoch, r1_0, r1_1, r1_2, r1_3]) z isAgg34 sizeOf34 (hst.bcs0 0 z)) (wv (.float .f64 x284) ((wanted_eq z z z (cvb hc294)).trans z) z z ?_)
 obtain ⟨t295, ht296, hm⟩ := bind_some hm
 refine wl_call ((wanted_eq z z z (cvb hc294)).trans z) z (x_call call53 z (vs := [.agg #[U6 a1.ID.Session, U6 a1.ID.Seq, U6 a1.Epoch, r1_0, r1_1, r1_2, r1_3], F6 x284]) z) ?_
 refine (locks_reads_ref (f1_0.mono (rd_weak _)) (f1_1.mono (rd_weak _)) (f1_2.mono (rd_weak _)) (f1_3.mono (rd_weak _)) hst.to0 ht296).mono ?_
 rintro _ w297 ⟨rfl, hst⟩
 refine ⟨_, z, ?_⟩
 replace hst := hst.of0
 refine wv (.bool t295) z z (x_pick_f hc294 z z) (wl_nil (tn ?_))
 refine bsplit t295 (fun hc300 => ?_) (fun hc300 => ?_)
 {
 replace hm := bif_t hc300 hm
 refine wp_ift (cvb hc300) ?_
 refine wp_seq (wrl (wv (.bool true) z z z (wl_nil (tn (wp_ret (blk_r (then_r (then_r ?_))))))))
 replace hm := inr_up hm hx281
 refine blk_r (then_r ?_)
 replace hm := inr_up hm hx304
 obtain rfl := some_inj hm
 refine post_ret (vs := [.bool true]) results19 (rvs_cons (rv_tmp z) rvs_nil) ?_
 exact ⟨z, hst.keep0⟩
}
 {
 replace hm := bif_f hc300 hm
 refine wp_iff (cvb hc300) ?_
 refine wp_skip (blk_n (tn (wrl ?_)))
 refine wv (.int .i64 (i64.wrap (z274 + (1:Int)))) z z z (wv (.int .i64 (i64.wrap (z274 + (1:Int)))) z z z (wl_nil (tn ?_)))
 replace hst := hst.pull1.pull1.keep2
 obtain rfl := some_inj hm
 exact ⟨_, Nat.lt_succ_self _, (i64.wrap (z274 + (1:Int))), _, hx281, (fu 2 (Pt b227 0) z (fu 3 (Pt b232 0) z (fu 10 r0_2 z (fu 11 (.int .i64 ((a0.Puts).length : Int)) z (fu 12 (.int .i64 (i64.wrap (z274 + (1:Int)))) z z))))), hst⟩
}
}
}
 {
 replace hm := bif_f hc283 hm
 refine wp_iff (cvb hc283) ?_
 refine wp_exit (then_x (then_x ?_))
 replace hm := inr_up hm hx281
 refine blk_x (tn ?_)
 replace hst := hst.pull1.keep2
 obtain rfl := some_inj hm
 exact ⟨_, hx304, (fu 2 (Pt b227 0) z (fu 3 (Pt b232 0) z z)), hst⟩
}
}
 {
 clear hst
 rintro _ w305 ⟨σ301, hm, rfl, hst⟩
 dsimp only [locks_Meet_j0] at hm
 refine wp_seq (wp_seq (wrl (wv (Pt b232 5) z z (x_field z underlying34 z sizeOf30 z) (wv (r1_2) z z (x_load z isAgg30 (hst.bc1 z)) (wv (.int .i64 ((a1.Puts).length : Int)) z z (x_len z underlying30 (rd_sliceV f1_2)) (wv (.int .i64 (0:Int)) z z z (wl_nil (tn (wp_block ?_)))))))))
 replace hst := hst.pull1.sub
 obtain ⟨n333, hm⟩ := loopO_some hm
 refine wp_loop_n (fun n a w => ∃ (z331 : Int) (σ332 : Nat → Value), loopN (locks_Meet_l2 a1 a0) n z331 = some r ∧ a = Fr 37 (upd (upd (upd (upd σ332 2 (Pt b227 0)) 27 (r1_2)) 28 (.int .i64 ((a1.Puts).length : Int))) 29 (.int .i64 z331)) ∧ St w0 w I [cells b227 [U6 a0.ID.Session, U6 a0.ID.Seq, U6 a0.Epoch, r0_0, r0_1, r0_2, r0_3]] R) n333 ⟨(0:Int), _, hm, (fu 2 (Pt b227 0) z (fu 27 r1_2 z (fu 28 (.int .i64 ((a1.Puts).length : Int)) z (fu 29 (.int .i64 (0:Int)) z z)))), hst⟩ ?_
 rintro n339 _ w334 ⟨z331, σ332, hm, rfl, hst⟩
 obtain ⟨n336, y337, rfl, hm, hx338⟩ := loopN_some hm
 dsimp only [locks_Meet_l2] at hm
 refine wp_seq (wrl (wv (.bool (decide (z331 < ((a1.Puts).length : Int)))) z z z (wl_nil (tn (wp_seq ?_)))))
 refine bsplit (decide (z331 < ((a1.Puts).length : Int))) (fun hc340 => ?_) (fun hc340 => ?_)
 {
 replace hm := bif_t hc340 hm
 refine wp_ift (cvb hc340) ?_
 refine wp_skip (tn (wp_seq (wp_block (wp_seq (wrl ?_)))))
 obtain ⟨x341, hx342, hm⟩ := bind_some hm
 obtain ⟨h343, h344, hi345⟩ := geto_some hx342
 refine wv (.pointer (some (eAddr r1_2 (z331.toNat * 1 + 0)))) z z (x_index z z underlying30 sizeOf57 (rd_sliceV f1_2) h343 h344) (wv (.float .f64 x341) z z (x_load z isAgg57 (rd_load f1_2 (HL.le.refl _) hst hi345 (by rintro _ rfl; rfl))) (wv (.float .f64 x341) z z z (wl_nil (tn (wp_seq (wrl (wv (.agg #[U6 a0.ID.Session, U6 a0.ID.Seq, U6 a0.Epoch, r0_0, r0_1, r0_2, r0_3]) z z (x_loadN (cs := [U6 a0.ID.Session, U6 a0.ID.Seq, U6 a0.Epoch, r0_0, r0_1, r0_2, r0_3]) z isAgg34 sizeOf34 (hst.bcs0 0 z)) (wv (.float .f64 x341) z z z ?_))))))))
 obtain ⟨t346, ht347, hm⟩ := bind_some hm
 refine wc call53 [.agg #[U6 a0.ID.Session, U6 a0.ID.Seq, U6 a0.Epoch, r0_0, r0_1, r0_2, r0_3], F6 x341] z z z ?_
 refine (locks_reads_ref (f0_0.mono (rd_weak _)) (f0_1.mono (rd_weak _)) (f0_2.mono (rd_weak _)) (f0_3.mono (rd_weak _)) hst.to0 ht347).mono ?_
 rintro _ w348 ⟨rfl, hst⟩
 refine ⟨_, z, ?_⟩
 replace hst := hst.of0
 refine wl_nil (tn ?_)
 refine bsplit t346 (fun hc351 => ?_) (fun hc351 => ?_)
 {
 replace hm := bif_t hc351 hm
 refine wp_ift (cvb hc351) ?_
 refine wp_seq (wrl (wv (.bool true) z z z (wl_nil (tn (wp_ret (blk_r (then_r (then_r ?_))))))))
 replace hm := inr_up hm hx338
 refine blk_r (then_r ?_)
 obtain rfl := some_inj hm
 refine post_ret (vs := [.bool true]) results19 (rvs_cons (rv_tmp z) rvs_nil) ?_
 exact ⟨z, hst.keep0⟩
}
 {
 replace hm := bif_f hc351 hm
 refine wp_iff (cvb hc351) ?_
 refine wp_skip (blk_n (tn (wrl ?_)))
 refine wv (.int .i64 (i64.wrap (z331 + (1:Int)))) z z z (wv (.int .i64 (i64.wrap (z331 + (1:Int)))) z z z (wl_nil (tn ?_)))
 replace hst := hst.keep1
 obtain rfl := some_inj hm
 exact ⟨_, Nat.lt_succ_self _, (i64.wrap (z331 + (1:Int))), _, hx338, (fu 2 (Pt b227 0) z (fu 27 r1_2 z (fu 28 (.int .i64 ((a1.Puts).length : Int)) z (fu 29 (.int .i64 (i64.wrap (z331 + (1:Int)))) z z)))), hst⟩
}
}
 {
 replace hm := bif_f hc340 hm
 refine wp_iff (cvb hc340) ?_
 refine wp_exit (then_x (then_x ?_))
 replace hm := inr_up hm hx338
 refine blk_x (tn (wp_seq (wrl ?_)))
 refine wv (.bool false) z z z (wl_nil (tn (wp_ret ?_)))
 obtain rfl := some_inj hm
 refine post_ret (vs := [.bool false]) results19 (rvs_cons (rv_tmp z) rvs_nil) ?_
 exact ⟨z, hst.keep0⟩
}
}
}

theorem slices_Clone_float64_float64_ref {w0 w : World} {I : HL} {R : SP} {a0 : (List Nat)} {r0_0 : Value} (f0_0 : Rd tyF64 R I r0_0 a0) (hst : St w0 w I [] R) {r : (List Nat)} (hm : slices_Clone_float64_float64 a0 = some r) :
  Calls prog 37 #[r0_0] w fun e w' => ∃ (q0_0 : Value), e = .returned (q0_0) ∧ St w0 w' I [ownS tyF64 q0_0 r] R := by {
 unfold slices_Clone_float64_float64 at hm
 obtain ⟨hg, hm⟩ := gd_some hm
 obtain rfl := some_inj hm
 have hsv := rd_sliceV f0_0
 refine calls_start (args := [r0_0]) func37 z ntmps37 (Nat.le_of_ble_eq_true z) ?_
 refine wp_seq (wrl (wv ((.slice none 0 0)) z z z (wl_nil (tn (wp_seq (wp_seq (wrl (wv (r0_0) z z z (wv (.bool (isNil r0_0)) z z (x_slnil z hsv z underlying30) (wl_nil (tn ?_)))))))))))
 refine bsplit (isNil r0_0) (fun hc185 => ?_) (fun hc185 => ?_)
 {
 refine wp_ift (cvb hc185) ?_
 refine wp_seq (wrl (wv ((.slice none 0 0)) z z z (wl_nil (tn (wp_ret (then_r ?_))))))
 refine post_ret (vs := [Zs]) results37 (rvs_cons (rv_tmp z) rvs_nil) ?_
 obtain rfl := List.eq_nil_of_length_eq_zero (isNil_len hsv hc185)
 exact ⟨_, z, (hst.own_nil tyF64).keep1⟩
}
 {
 refine wp_iff (cvb hc185) ?_
 refine wp_skip (tn (wp_seq (wrl ?_)))
 obtain ⟨b, w1, ew, eb, hst⟩ := hst.lits (E := tyF64) (xs := []) [] 57 0 z Reps.nil
 refine wl_run (v := (.slice (some ⟨b, 0, none⟩) 0 0)) (w' := w1) z z (x_als (by kernel_rfl) ew eb) ?_
 refine wv (r0_0) z z z ?_
 obtain ⟨v2, w2, hr, hst⟩ := run_append elem_30 underlying30 hst (Src.of_rd hst f0_0 flat_f64) (room_of hg z) 30
 refine wl_run (v := v2) (w' := w2) z z (x_append z z hr) ?_
 refine wv (v2) z z z (wl_nil (tn (wp_ret ?_)))
 refine post_ret (vs := [v2]) results37 (rvs_cons (rv_tmp z) rvs_nil) ?_
 rw [List.nil_append] at hst
 exact ⟨_, z, hst.keep1⟩
}
}

theorem slices_Clone_2_float64_2_float64_ref {w0 w : World} {I : HL} {R : SP} {a0 : (List (Nat × Nat))} {r0_0 : Value} (f0_0 : Rd tyF2 R I r0_0 a0) (hst : St w0 w I [] R) {r : (List (Nat × Nat))} (hm : slices_Clone_2_float64_2_float64 a0 = some r) :
  Calls prog 38 #[r0_0] w fun e w' => ∃ (q0_0 : Value), e = .returned (q0_0) ∧ St w0 w' I [ownS tyF2 q0_0 r] R := by {
 unfold slices_Clone_2_float64_2_float64 at hm
 obtain ⟨hg, hm⟩ := gd_some hm
 obtain rfl := some_inj hm
 have hsv := rd_sliceV f0_0
 refine calls_start (args := [r0_0]) func38 z ntmps38 (Nat.le_of_ble_eq_true z) ?_
 refine wp_seq (wrl (wv ((.slice none 0 0)) z z z (wl_nil (tn (wp_seq (wp_seq (wrl (wv (r0_0) z z z (wv (.bool (isNil r0_0)) z z (x_slnil z hsv z underlying31) (wl_nil (tn ?_)))))))))))
 refine bsplit (isNil r0_0) (fun hc185 => ?_) (fun hc185 => ?_)
 {
 refine wp_ift (cvb hc185) ?_
 refine wp_seq (wrl (wv ((.slice none 0 0)) z z z (wl_nil (tn (wp_ret (then_r ?_))))))
 refine post_ret (vs := [Zs]) results38 (rvs_cons (rv_tmp z) rvs_nil) ?_
 obtain rfl := List.eq_nil_of_length_eq_zero (isNil_len hsv hc185)
 exact ⟨_, z, (hst.own_nil tyF2).keep1⟩
}
 {
 refine wp_iff (cvb hc185) ?_
 refine wp_skip (tn (wp_seq (wrl ?_)))
 obtain ⟨b, w1, ew, eb, hst⟩ := hst.lits (E := tyF2) (xs := []) [] 75 0 z Reps.nil
 refine wl_run (v := (.slice (some ⟨b, 0, none⟩) 0 0)) (w' := w1) z z (x_als (by kernel_rfl) ew eb) ?_
 refine wv (r0_0) z z z ?_
 obtain ⟨v2, w2, hr, hst⟩ := run_append elem_31 underlying31 hst (Src.of_rd hst f0_0 flat_f2) (room_of hg z) 31
 refine wl_run (v := v2) (w' := w2) z z (x_append z z hr) ?_
 refine wv (v2) z z z (wl_nil (tn (wp_ret ?_)))
 refine post_ret (vs := [v2]) results38 (rvs_cons (rv_tmp z) rvs_nil) ?_
 rw [List.nil_append] at hst
 exact ⟨_, z, hst.keep1⟩
}
}

theorem slices_Clone_byte_byte_ref {w0 w : World} {I : HL} {R : SP} {a0 : (List Int)} {r0_0 : Value} (f0_0 : Rd (tyInt .u8) R I r0_0 a0) (hst : St w0 w I [] R) {r : (List Int)} (hm : slices_Clone_byte_byte a0 = some r) :
  Calls prog 39 #[r0_0] w fun e w' => ∃ (q0_0 : Value), e = .returned (q0_0) ∧ St w0 w' I [ownS (tyInt .u8) q0_0 r] R := by {
 unfold slices_Clone_byte_byte at hm
 obtain ⟨hg, hm⟩ := gd_some hm
 obtain rfl := some_inj hm
 have hsv := rd_sliceV f0_0
 refine calls_start (args := [r0_0]) func39 z ntmps39 (Nat.le_of_ble_eq_true z) ?_
 refine wp_seq (wrl (wv ((.slice none 0 0)) z z z (wl_nil (tn (wp_seq (wp_seq (wrl (wv (r0_0) z z z (wv (.bool (isNil r0_0)) z z (x_slnil z hsv z underlying32) (wl_nil (tn ?_)))))))))))
 refine bsplit (isNil r0_0) (fun hc185 => ?_) (fun hc185 => ?_)
 {
 refine wp_ift (cvb hc185) ?_
 refine wp_seq (wrl (wv ((.slice none 0 0)) z z z (wl_nil (tn (wp_ret (then_r ?_))))))
 refine post_ret (vs := [Zs]) results39 (rvs_cons (rv_tmp z) rvs_nil) ?_
 obtain rfl := List.eq_nil_of_length_eq_zero (isNil_len hsv hc185)
 exact ⟨_, z, (hst.own_nil (tyInt .u8)).keep1⟩
}
 {
 refine wp_iff (cvb hc185) ?_
 refine wp_skip (tn (wp_seq (wrl ?_)))
 obtain ⟨b, w1, ew, eb, hst⟩ := hst.lits (E := (tyInt .u8)) (xs := []) [] 5 0 z Reps.nil
 refine wl_run (v := (.slice (some ⟨b, 0, none⟩) 0 0)) (w' := w1) z z (x_als (by kernel_rfl) ew eb) ?_
 refine wv (r0_0) z z z ?_
 obtain ⟨v2, w2, hr, hst⟩ := run_append elem_32 underlying32 hst (Src.of_rd hst f0_0 flat_int) (room_of hg z) 32
 refine wl_run (v := v2) (w' := w2) z z (x_append z z hr) ?_
 refine wv (v2) z z z (wl_nil (tn (wp_ret ?_)))
 refine post_ret (vs := [v2]) results39 (rvs_cons (rv_tmp z) rvs_nil) ?_
 rw [List.nil_append] at hst
 exact ⟨_, z, hst.keep1⟩
}
}

theorem cmp_isNaN_uint64_ref {w0 w : World} {I : HL} {R : SP} {a0 : Int}  (hst : St w0 w I [] R) {r : (Bool)} (hm : cmp_isNaN_uint64 a0 = some r) :
  Calls prog 95 #[U6 a0] w fun e w' => e = .returned (.bool r) ∧ St w0 w' I [] R := by {
 unfold cmp_isNaN_uint64 at hm
 refine calls_start (args := [U6 a0]) func95 z ntmps95 (Nat.le_of_ble_eq_true z) ?_
 refine wp_seq (wrl (wv (.bool false) z z z (wl_nil (tn (wp_seq (wrl (wv (.int .u64 a0) z z z (wv (.int .u64 a0) z z z (wv (.bool (a0 != a0)) z z z (wv (.bool (a0 != a0)) z z z (wl_nil (tn (wp_ret ?_)))))))))))))
 obtain rfl := some_inj hm
 refine post_ret (vs := [.bool (a0 != a0)]) results95 (rvs_cons (rv_tmp z) rvs_nil) ?_
 exact ⟨z, hst.keep0⟩
}

theorem cmp_Compare_uint64_ref {w0 w : World} {I : HL} {R : SP} {a0 : Int} {a1 : Int}  (hst : St w0 w I [] R) {r : (Int)} (hm : cmp_Compare_uint64 a0 a1 = some r) :
  Calls prog 86 #[U6 a0, U6 a1] w fun e w' => e = .returned (.int .i64 r) ∧ St w0 w' I [] R := by {
 unfold cmp_Compare_uint64 at hm
 refine calls_start (args := [U6 a0, U6 a1]) func86 z ntmps86 (Nat.le_of_ble_eq_true z) ?_
 refine wp_seq (wrl (wv (.int .i64 (0:Int)) z z z (wl_nil (tn (wp_seq (wrl (wv (.int .u64 a0) z z z ?_)))))))
 obtain ⟨t290, ht291, hm⟩ := bind_some hm
 refine wc call95 [U6 a0] z z z ?_
 refine (cmp_isNaN_uint64_ref hst.to0 ht291).mono ?_
 rintro _ w292 ⟨rfl, hst⟩
 refine ⟨_, z, ?_⟩
 replace hst := hst.of0
 refine wv (.bool t290) z z z (wl_nil (tn (wp_seq (wrl (wv (.int .u64 a1) z z z ?_)))))
 obtain ⟨t295, ht296, hm⟩ := bind_some hm
 refine wc call95 [U6 a1] z z z ?_
 refine (cmp_isNaN_uint64_ref hst.to0 ht296).mono ?_
 rintro _ w297 ⟨rfl, hst⟩
 refine ⟨_, z, ?_⟩
 replace hst := hst.of0
 refine wv (.bool t295) z z z (wl_nil (tn (wp_seq (wp_seq (wrl (wv (.bool t290) z z z (wl_nil (tn ?_))))))))
 refine bsplit t290 (fun hc300 => ?_) (fun hc300 => ?_)
 {
 replace hm := bif_t hc300 hm
 refine wp_ift (cvb hc300) ?_
 refine wp_seq (wp_seq (wrl (wv (.bool t295) z z z (wl_nil (tn ?_)))))
 refine bsplit t295 (fun hc301 => ?_) (fun hc301 => ?_)
 {
 replace hm := bif_t hc301 hm
 refine wp_ift (cvb hc301) ?_
 refine wp_seq (wrl (wv (.int .i64 (0:Int)) z z z (wl_nil (tn (wp_ret (then_r (then_r ?_)))))))
 obtain rfl := some_inj hm
 refine post_ret (vs := [Zi]) results86 (rvs_cons (rv_tmp z) rvs_nil) ?_
 exact ⟨z, hst.keep0⟩
}
 {
 replace hm := bif_f hc301 hm
 refine wp_iff (cvb hc301) ?_
 refine wp_skip (tn (wp_seq (wrl ?_)))
 refine wv (.int .i64 ((-1):Int)) z z z (wl_nil (tn (wp_ret (then_r ?_))))
 obtain rfl := some_inj hm
 refine post_ret (vs := [I6 ((-1):Int)]) results86 (rvs_cons (rv_tmp z) rvs_nil) ?_
 exact ⟨z, hst.keep0⟩
}
}
 {
 replace hm := bif_f hc300 hm
 refine wp_iff (cvb hc300) ?_
 refine wp_skip (tn (wp_seq (wp_seq (wrl ?_))))
 refine wv (.bool t295) z z z (wl_nil (tn ?_))
 refine bsplit t295 (fun hc302 => ?_) (fun hc302 => ?_)
 {
 replace hm := bif_t hc302 hm
 refine wp_ift (cvb hc302) ?_
 refine wp_seq (wrl (wv (.int .i64 (1:Int)) z z z (wl_nil (tn (wp_ret (then_r ?_))))))
 obtain rfl := some_inj hm
 refine post_ret (vs := [I6 (1:Int)]) results86 (rvs_cons (rv_tmp z) rvs_nil) ?_
 exact ⟨z, hst.keep0⟩
}
 {
 replace hm := bif_f hc302 hm
 refine wp_iff (cvb hc302) ?_
 refine wp_skip (tn (wp_seq (wp_seq (wrl ?_))))
 refine wv (.int .u64 a0) z z z (wv (.int .u64 a1) z z z (wv (.bool (decide (a0 < a1))) z z z (wl_nil (tn ?_))))
 refine bsplit (decide (a0 < a1)) (fun hc303 => ?_) (fun hc303 => ?_)
 {
 replace hm := bif_t hc303 hm
 refine wp_ift (cvb hc303) ?_
 refine wp_seq (wrl (wv (.int .i64 ((-1):Int)) z z z (wl_nil (tn (wp_ret (then_r ?_))))))
 obtain rfl := some_inj hm
 refine post_ret (vs := [I6 ((-1):Int)]) results86 (rvs_cons (rv_tmp z) rvs_nil) ?_
 exact ⟨z, hst.keep0⟩
}
 {
 replace hm := bif_f hc303 hm
 refine wp_iff (cvb hc303) ?_
 refine wp_skip (tn (wp_seq (wp_seq (wrl ?_))))
 refine wv (.int .u64 a0) z z z (wv (.int .u64 a1) z z z (wv (.bool (decide (a0 > a1))) z z z (wl_nil (tn ?_))))
 refine bsplit (decide (a0 > a1)) (fun hc304 => ?_) (fun hc304 => ?_)
 {
 replace hm := bif_t hc304 hm
 refine wp_ift (cvb hc304) ?_
 refine wp_seq (wrl (wv (.int .i64 (1:Int)) z z z (wl_nil (tn (wp_ret (then_r ?_))))))
 obtain rfl := some_inj hm
 refine post_ret (vs := [I6 (1:Int)]) results86 (rvs_cons (rv_tmp z) rvs_nil) ?_
 exact ⟨z, hst.keep0⟩
}
 {
 replace hm := bif_f hc304 hm
 refine wp_iff (cvb hc304) ?_
 refine wp_skip (tn (wp_seq (wrl ?_)))
 refine wv (.int .i64 (0:Int)) z z z (wl_nil (tn (wp_ret ?_)))
 obtain rfl := some_inj hm
 refine post_ret (vs := [Zi]) results86 (rvs_cons (rv_tmp z) rvs_nil) ?_
 exact ⟨z, hst.keep0⟩
}
}
}
}
}

theorem cmp_Or_int_ref {w0 w : World} {I : HL} {R : SP} {a0 : (List Int)} {r0_0 : Value} (f0_0 : Rd (tyInt .i64) R I r0_0 a0) (hst : St w0 w I [] R) {r : (Int)} (hm : cmp_Or_int a0 = some r) :
  Calls prog 85 #[r0_0] w fun e w' => e = .returned (.int .i64 r) ∧ St w0 w' I [] R := by {
 unfold cmp_Or_int at hm
 refine calls_start (args := [r0_0]) func85 z ntmps85 (Nat.le_of_ble_eq_true z) ?_
 refine wp_seq (wrl (wv (.int .i64 (0:Int)) z z z (wl_nil (tn (wp_seq (wrl (wv (.int .i64 (0:Int)) z z z (wl_nil (tn (wp_seq (wp_seq (wrl (wv (r0_0) z z z (wv (.int .i64 ((a0).length : Int)) z z (x_len z underlying123 (rd_sliceV f0_0)) (wv (.int .i64 (0:Int)) z z z (wl_nil (tn (wp_block ?_))))))))))))))))))
 obtain ⟨n325, hm⟩ := loopO_some hm
 refine wp_loop_n (fun n a w => ∃ (z323 : Int) (σ324 : Nat → Value), loopN (cmp_Or_int_l0 a0) n z323 = some r ∧ a = Fr 18 (upd (upd (upd (upd σ324 3 (.int .i64 (0:Int))) 6 (r0_0)) 7 (.int .i64 ((a0).length : Int))) 8 (.int .i64 z323)) ∧ St w0 w I [] R) n325 ⟨(0:Int), _, hm, (fu 3 (.int .i64 (0:Int)) z (fu 6 r0_0 z (fu 7 (.int .i64 ((a0).length : Int)) z (fu 8 (.int .i64 (0:Int)) z z)))), hst⟩ ?_
 rintro n331 _ w326 ⟨z323, σ324, hm, rfl, hst⟩
 obtain ⟨n328, y329, rfl, hm, hx330⟩ := loopN_some hm
 dsimp only [cmp_Or_int_l0] at hm
 refine wp_seq (wrl (wv (.bool (decide (z323 < ((a0).length : Int)))) z z z (wl_nil (tn (wp_seq ?_)))))
 refine bsplit (decide (z323 < ((a0).length : Int))) (fun hc332 => ?_) (fun hc332 => ?_)
 {
 replace hm := bif_t hc332 hm
 refine wp_ift (cvb hc332) ?_
 refine wp_skip (tn (wp_seq (wp_block (wp_seq (wrl ?_)))))
 obtain ⟨x333, hx334, hm⟩ := bind_some hm
 obtain ⟨h335, h336, hi337⟩ := geto_some hx334
 refine wv (.pointer (some (eAddr r0_0 (z323.toNat * 1 + 0)))) z z (x_index z z underlying123 sizeOf3 (rd_sliceV f0_0) h335 h336) (wv (.int .i64 x333) z z (x_load z isAgg3 (rd_load f0_0 (HL.le.refl _) hst hi337 (by rintro _ rfl; rfl))) (wv (.int .i64 x333) z z z (wl_nil (tn (wp_seq (wrl (wv (.int .i64 x333) z z z (wv (.int .i64 (0:Int)) z z z (wv (.bool (x333 != (0:Int))) z z z (wl_nil (tn ?_)))))))))))
 refine bsplit (x333 != (0:Int)) (fun hc338 => ?_) (fun hc338 => ?_)
 {
 replace hm := bif_t hc338 hm
 refine wp_ift (cvb hc338) ?_
 refine wp_seq (wrl (wv (.int .i64 x333) z z z (wv (.int .i64 x333) z z z (wl_nil (tn (wp_ret (blk_r (then_r (then_r ?_)))))))))
 replace hm := inr_up hm hx330
 refine blk_r (then_r ?_)
 obtain rfl := some_inj hm
 refine post_ret (vs := [I6 x333]) results85 (rvs_cons (rv_tmp z) rvs_nil) ?_
 exact ⟨z, hst.keep0⟩
}
 {
 replace hm := bif_f hc338 hm
 refine wp_iff (cvb hc338) ?_
 refine wp_skip (blk_n (tn (wrl ?_)))
 refine wv (.int .i64 (i64.wrap (z323 + (1:Int)))) z z z (wv (.int .i64 (i64.wrap (z323 + (1:Int)))) z z z (wl_nil (tn ?_)))
 replace hst := hst.keep0
 obtain rfl := some_inj hm
 exact ⟨_, Nat.lt_succ_self _, (i64.wrap (z323 + (1:Int))), _, hx330, (fu 3 (.int .i64 (0:Int)) z (fu 6 r0_0 z (fu 7 (.int .i64 ((a0).length : Int)) z (fu 8 (.int .i64 (i64.wrap (z323 + (1:Int)))) z z)))), hst⟩
}
}
 {
 replace hm := bif_f hc332 hm
 refine wp_iff (cvb hc332) ?_
 refine wp_exit (then_x (then_x ?_))
 replace hm := inr_up hm hx330
 refine blk_x (tn (wp_seq (wrl ?_)))
 refine wv (.int .i64 (0:Int)) z z z (wv (.int .i64 (0:Int)) z z z (wl_nil (tn (wp_ret ?_))))
 obtain rfl := some_inj hm
 refine post_ret (vs := [Zi]) results85 (rvs_cons (rv_tmp z) rvs_nil) ?_
 exact ⟨z, hst.keep0⟩
}
}

theorem locks_compare_ref {w0 w : World} {I : HL} {R : SP} {a0 : api_Hold} {r0_0 : Value} {r0_1 : Value} {r0_2 : Value} {r0_3 : Value} {a1 : api_ID} (f0_0 : Rd tyF64 R I r0_0 a0.Gets) (f0_1 : Rd tyF2 R I r0_1 a0.Scans) (f0_2 : Rd tyF64 R I r0_2 a0.Puts) (f0_3 : Rd (tyInt .u8) R I r0_3 a0.Data) (hst : St w0 w I [] R) {r : (Int)} (hm : locks_compare a0 a1 = some r) :
  Calls prog 59 #[.agg #[U6 a0.ID.Session, U6 a0.ID.Seq, U6 a0.Epoch, r0_0, r0_1, r0_2, r0_3], .agg #[U6 a1.Session, U6 a1.Seq]] w fun e w' => e = .returned (.int .i64 r) ∧ St w0 w' I [] R := by {
 unfold locks_compare at hm
 refine calls_start (args := [.agg #[U6 a0.ID.Session, U6 a0.ID.Seq, U6 a0.Epoch, r0_0, r0_1, r0_2, r0_3], .agg #[U6 a1.Session, U6 a1.Seq]]) func59 z ntmps59 (Nat.le_of_ble_eq_true z) ?_
 refine wp_seq (wrl ?_)
 obtain ⟨b301, w302, ew303, eb304, hst⟩ := hst.box [U6 a0.ID.Session, U6 a0.ID.Seq, U6 a0.Epoch, r0_0, r0_1, r0_2, r0_3] 34
 refine wl_run (v := Pt b301 0) (w' := w302) z z (x_al (by kernel_rfl) ew303 eb304) ?_
 obtain ⟨b306, w307, ew308, eb309, hst⟩ := hst.box [U6 a1.Session, U6 a1.Seq] 29
 refine wl_run (v := Pt b306 0) (w' := w307) z z (x_al (by kernel_rfl) ew308 eb309) ?_
 refine wv (.int .i64 (0:Int)) z z z (wl_nil (tn (wp_seq ?_)))
 refine wp_region_St hst 15 [0, 1, 2, 3, 4, 5, 6, 7, 8, 9, 10, 11, 12, 13, 14] [0, 1, 3, 0, 8, 31, 0, 64, 192, 0, 512, 2047, 4095, 8191, 16383] [] z (by kernel_rfl) (by kernel_rfl) Try.mixed (by kernel_rfl) ?_
 refine wsr (Pt b301 0) 0 z z z (by kernel_rfl) (fun w hst => x_field z underlying34 z sizeOf29 z) (wsr (Pt b301 0) 1 z z z (by kernel_rfl) (fun w hst => x_field z underlying29 z sizeOf27 z) (wsr (.int .u64 a0.ID.Session) 2 z z z (by kernel_rfl) (fun w hst => x_load z isAgg27 (hst.bc1 z)) (wsr (Pt b306 0) 3 z z z (by kernel_rfl) (fun w hst => x_field z underlying29 z sizeOf27 z) (wsr (.int .u64 a1.Session) 4 z z z (by kernel_rfl) (fun w hst => x_load z isAgg27 (hst.bc0 z)) (wsr (Pt b301 0) 6 z z z (by kernel_rfl) (fun w hst => x_field z underlying34 z sizeOf29 z) (wsr (Pt b301 1) 7 z z z (by kernel_rfl) (fun w hst => x_field z underlying29 z sizeOf27 z) (wsr (.int .u64 a0.ID.Seq) 8 z z z (by kernel_rfl) (fun w hst => x_load z isAgg27 (hst.bc1 z)) (wsr (Pt b306 1) 9 z z z (by kernel_rfl) (fun w hst => x_field z underlying29 z sizeOf27 z) (wsr (.int .u64 a1.Seq) 10 z z z (by kernel_rfl) (fun w hst => x_load z isAgg27 (hst.bc0 z)) ?_)))))))))
 refine ws_e1 5 (by kernel_rfl) ?_
 refine nxe [11, 12, 13, 14] (by kernel_rfl) z z ?_
 clear hst
 intro w hst
 obtain ⟨t311, ht312, hm⟩ := bind_some hm
 refine wec call86 [U6 a0.ID.Session, U6 a1.Session] z z ?_
 refine (cmp_Compare_uint64_ref hst.to0 ht312).mono ?_
 rintro _ w313 ⟨rfl, hst⟩
 refine ⟨_, z, ?_⟩
 replace hst := hst.of0
 refine ws_next (pend' := [(10, U6 a1.Seq), (9, Pt b306 1), (8, U6 a0.ID.Seq), (7, Pt b301 1), (6, Pt b301 0)]) hst (by kernel_rfl) (pkr z z (fun w hst => x_load z isAgg27 (hst.bc0 z)) (pkr z z (fun w hst => x_field z underlying29 z sizeOf27 z) (pkr z z (fun w hst => x_load z isAgg27 (hst.bc1 z)) (pkr z z (fun w hst => x_field z underlying29 z sizeOf27 z) (pkr z z (fun w hst => x_field z underlying34 z sizeOf29 z) pk_nil))))) ?_
 refine ws_e1 11 (by kernel_rfl) ?_
 refine nxe [12, 13, 14] (by kernel_rfl) z z ?_
 clear hst
 intro w hst
 obtain ⟨t316, ht317, hm⟩ := bind_some hm
 refine wec call86 [U6 a0.ID.Seq, U6 a1.Seq] z z ?_
 refine (cmp_Compare_uint64_ref hst.to0 ht317).mono ?_
 rintro _ w318 ⟨rfl, hst⟩
 refine ⟨_, z, ?_⟩
 replace hst := hst.of0
 refine ws_next (pend' := []) hst (by kernel_rfl) pk_nil ?_
 refine ws_e1 12 (by kernel_rfl) ?_
 refine nxe [13, 14] (by kernel_rfl) z z ?_
 clear hst
 intro w hst
 obtain ⟨b321, w322, ew323, eb324, hst⟩ := hst.lits (E := (tyInt .i64)) (xs := [t311, t316]) [[I6 t311], [I6 t316]] 3 2 z (Reps.cons z (Reps.cons z Reps.nil))
 refine we_run (v := (.slice (some ⟨b321, 0, none⟩) 2 2)) (w' := w322) z (x_als (by kernel_rfl) ew323 eb324) ?_
 refine ws_next (pend' := []) hst (by kernel_rfl) pk_nil ?_
 refine ws_e1 13 (by kernel_rfl) ?_
 refine nxe [14] (by kernel_rfl) z z ?_
 clear hst
 intro w hst
 obtain ⟨css326, hq327, hst⟩ := hst.own_open
 obtain ⟨t328, ht329, hm⟩ := bind_some hm
 refine wec call85 [(.slice (some ⟨b321, 0, none⟩) 2 2)] z z ?_
 refine (cmp_Or_int_ref (hst.rdrow0 hq327) hst.to0 ht329).mono ?_
 rintro _ w330 ⟨rfl, hst⟩
 refine ⟨_, z, ?_⟩
 replace hst := hst.of0.own_close hq327
 refine ws_next (pend' := []) hst (by kernel_rfl) pk_nil ?_
 refine wsr (.int .i64 t328) 14 z z z (by kernel_rfl) (fun w hst => z) ?_
 refine ws_nil ?_
 intro w hst
 refine tn (wp_ret ?_)
 obtain rfl := some_inj hm
 refine post_ret (vs := [I6 t328]) results59 (rvs_cons (rv_tmp z) rvs_nil) ?_
 exact ⟨z, hst.keep0⟩
}

theorem locks_Table_find_ref {w0 w : World} {I : HL} {R : SP} {a0 : (Option locks_Table)} {p0 : Value} {a1 : api_ID}  (hst : St w0 w I [objO at_locks_Table p0 a0] R) {r : (Int × Bool)} (hm : locks_Table_find a0 a1 = some r) :
  Calls prog 40 #[p0, .agg #[U6 a1.Session, U6 a1.Seq]] w fun e w' => e = .returned (.tuple #[I6 r.1, .bool r.2]) ∧ St w0 w' I [objO at_locks_Table p0 a0] R := by {
 rcases a0 with _ | o0
 {
 obtain ⟨rfl, hst'⟩ := objO_none hst
 clear hst
 have hst := hst'
 clear hst'
 dsimp only [locks_Table_find] at hm
 refine calls_start (args := [.pointer none, .agg #[U6 a1.Session, U6 a1.Seq]]) func40 z ntmps40 (Nat.le_of_ble_eq_true z) ?_
 refine wp_seq (wrl ?_)
 obtain ⟨b378, w379, ew380, eb381, hst⟩ := hst.box [U6 a1.Session, U6 a1.Seq] 29
 refine wl_run (v := Pt b378 0) (w' := w379) z z (x_al (by kernel_rfl) ew380 eb381) ?_
 refine wv (.int .i64 (0:Int)) z z z (wv (.bool false) z z z (wl_nil (tn (wp_seq (wp_seq (wrl (wv (.pointer none) z z z (wv (.bool true) z z (by kernel_rfl) (wl_nil (tn ?_))))))))))
 refine wp_ift z ?_
 refine wp_seq (wrl (wv (.int .i64 (0:Int)) z z z (wv (.bool false) z z z (wl_nil (tn (wp_ret (then_r ?_)))))))
 replace hst := hst.objO_nil at_locks_Table
 obtain rfl := some_inj hm
 refine post_ret (vs := [Zi, .bool false]) results40 (rvs_cons (rv_tmp z) (rvs_cons (rv_tmp z) rvs_nil)) ?_
 exact ⟨z, hst.keep1⟩
}
 {
 replace hst := objO_get hst
 dsimp only [locks_Table_find] at hm
 refine calls_start (args := [p0, .agg #[U6 a1.Session, U6 a1.Seq]]) func40 z ntmps40 (Nat.le_of_ble_eq_true z) ?_
 refine wp_seq (wrl ?_)
 obtain ⟨b383, w384, ew385, eb386, hst⟩ := hst.box [U6 a1.Session, U6 a1.Seq] 29
 refine wl_run (v := Pt b383 0) (w' := w384) z z (x_al (by kernel_rfl) ew385 eb386) ?_
 refine wv (.int .i64 (0:Int)) z z z (wv (.bool false) z z z (wl_nil (tn (wp_seq (wp_seq (wrl (wv (p0) z z z ?_)))))))
 replace hst := hst.pull1
 obtain ⟨b388, v389, rfl, hst'⟩ := at_locks_Table_open hst
 clear hst
 have hst := hst'
 clear hst'
 refine wv (.bool false) z z (by kernel_rfl) (wl_nil (tn ?_))
 refine wp_iff z ?_
 refine wp_skip (tn (wp_seq ?_))
 refine wp_region_St hst 10 [0, 1, 2, 3, 4, 5, 6, 7, 8, 9] [0, 1, 3, 7, 0, 31, 63, 63, 255, 511] [] z (by kernel_rfl) (by kernel_rfl) Try.mixed (by kernel_rfl) ?_
 refine wsr (Pt b388 0) 0 z z z (by kernel_rfl) (fun w hst => z) (wsr (Pt b388 0) 1 z z z (by kernel_rfl) (fun w hst => z) (wsr (Pt b388 0) 2 z z z (by kernel_rfl) (fun w hst => x_field z underlying77 z sizeOf22 z) (wsr (v389) 3 z z z (by kernel_rfl) (fun w hst => x_load z isAgg22 (hst.bc0 z)) (wsr (.agg #[U6 a1.Session, U6 a1.Seq]) 4 z z z (by kernel_rfl) (fun w hst => x_loadN (cs := [U6 a1.Session, U6 a1.Seq]) z isAgg29 sizeOf29 (hst.bcs2 0 z)) ?_))))
 refine ws_e1 5 (by kernel_rfl) ?_
 refine nxe [6, 7, 8, 9] (by kernel_rfl) z z ?_
 clear hst
 intro w hst
 obtain ⟨y532, hq533, hm⟩ := bind_some hm
 refine we_call z (x_callv call71 (caps := []) z (vs := [v389, .agg #[U6 a1.Session, U6 a1.Seq], .func (.func 59) #[] #[]]) z) ?_
 refine Calls.mono (show Calls prog 71 #[v389, .agg #[U6 a1.Session, U6 a1.Seq], .func (.func 59) #[] #[]] _ (fun e w' => ∃ (z529 : Int) (z530 : Bool), (z529, z530) = y532 ∧ e = .returned (.tuple #[I6 z529, .bool z530]) ∧ St w0 w' I [cells b388 [v389], ownS ty_api_Hold v389 o0.l, cells b383 [U6 a1.Session, U6 a1.Seq]] R) from ?_) ?_
 {
 clear hm; have hm := hq533
 refine calls_start (args := [v389, .agg #[U6 a1.Session, U6 a1.Seq], .func (.func 59) #[] #[]]) func71 z ntmps71 (Nat.le_of_ble_eq_true z) ?_
 refine wp_seq (wrl ?_)
 obtain ⟨b391, w392, ew393, eb394, hst⟩ := hst.box [U6 a1.Session, U6 a1.Seq] 29
 refine wl_run (v := Pt b391 0) (w' := w392) z z (x_al (by kernel_rfl) ew393 eb394) ?_
 refine wv (.int .i64 (0:Int)) z z z (wv (.bool false) z z z (wl_nil (tn (wp_seq (wrl (wv (v389) z z z (wv (.int .i64 ((o0.l).length : Int)) z z (x_len z underlying22 hst.sv2) (wv (.int .i64 ((o0.l).length : Int)) z z z (wl_nil (tn (wp_seq (wrl (wv (.int .i64 ((o0.l).length : Int)) z z z (wv (.int .i64 (0:Int)) z z z (wv (.int .i64 ((o0.l).length : Int)) z z z (wl_nil (tn ?_)))))))))))))))))
 obtain ⟨y498, hm, hx499⟩ := bind_some hm
 refine wp_cut (fun a w => ∃ (z495 : Int) (σ496 : Nat → Value), (locks_Table_find_j0 o0 a1) z495 = some y532 ∧ a = Fr 49 (upd (upd (upd (upd (upd σ496 0 (v389)) 2 (.func (.func 59) #[] #[])) 4 (Pt b391 0)) 8 (.int .i64 ((o0.l).length : Int))) 9 (.int .i64 z495)) ∧ St w0 w I [ownS ty_api_Hold v389 o0.l, cells b391 [U6 a1.Session, U6 a1.Seq], cells b388 [v389], cells b383 [U6 a1.Session, U6 a1.Seq]] R) ?_ ?_
 {
 refine wp_block ?_
 obtain ⟨n459, hm⟩ := loopO_some hm
 refine wp_loop_n (fun n a w => ∃ (z456 : Int) (z457 : Int) (σ458 : Nat → Value), loopN (locks_Table_find_l1 o0 a1) n (z456, z457) = some y498 ∧ a = Fr 49 (upd (upd (upd (upd (upd (upd σ458 0 (v389)) 2 (.func (.func 59) #[] #[])) 4 (Pt b391 0)) 8 (.int .i64 ((o0.l).length : Int))) 9 (.int .i64 z457)) 10 (.int .i64 z456)) ∧ St w0 w I [cells b391 [U6 a1.Session, U6 a1.Seq], cells b388 [v389], ownS ty_api_Hold v389 o0.l, cells b383 [U6 a1.Session, U6 a1.Seq]] R) n459 ⟨((o0.l).length : Int), (0:Int), _, hm, (fu 0 v389 z (fu 2 (.func (.func 59) #[] #[]) z (fu 4 (Pt b391 0) z (fu 8 (.int .i64 ((o0.l).length : Int)) z (fu 9 (.int .i64 (0:Int)) z (fu 10 (.int .i64 ((o0.l).length : Int)) z z)))))), hst⟩ ?_
 rintro n465 _ w460 ⟨z456, z457, σ458, hm, rfl, hst⟩
 obtain ⟨n462, y463, rfl, hm, hx464⟩ := loopN_some hm
 dsimp only [locks_Table_find_l1] at hm
 refine wp_seq (wp_seq (wrl (wv (.int .i64 z457) z z z (wv (.int .i64 z456) z z z (wv (.bool (decide (z457 < z456))) z z z (wl_nil (tn ?_)))))))
 refine bsplit (decide (z457 < z456)) (fun hc466 => ?_) (fun hc466 => ?_)
 {
 replace hm := bif_t hc466 hm
 refine wp_ift (cvb hc466) ?_
 refine wp_skip (tn (wp_block (wp_seq (wrl ?_))))
 refine wv (.int .i64 z457) z z z (wv (.int .i64 z456) z z z (wv (.int .i64 (i64.wrap (z457 + z456))) z z z (wv (.int .u64 (u64.wrap (i64.wrap (z457 + z456)))) z z (by kernel_rfl) (wv (.int .u64 (iShr .u64 (u64.wrap (i64.wrap (z457 + z456))) (1:Int))) z z (x_shr (by decide) z z) (wv (.int .i64 (i64.wrap (iShr .u64 (u64.wrap (i64.wrap (z457 + z456))) (1:Int)))) z z (by kernel_rfl) (wv (.int .i64 (i64.wrap (iShr .u64 (u64.wrap (i64.wrap (z457 + z456))) (1:Int)))) z z z (wl_nil (tn (wp_seq ?_)))))))))
 replace hst := hst.pull2
 obtain ⟨css467, hq468, hst⟩ := hst.own_open
 refine wp_region_St hst 8 [0, 1, 2, 3, 4, 5, 6, 7] [0, 0, 0, 6, 14, 0, 63, 127] [] z (by kernel_rfl) (by kernel_rfl) Try.mixed (by kernel_rfl) ?_
 refine wsr (.func (.func 59) #[] #[]) 0 z z z (by kernel_rfl) (fun w hst => z) (wsr (v389) 1 z z z (by kernel_rfl) (fun w hst => z) (wsr (.int .i64 (i64.wrap (iShr .u64 (u64.wrap (i64.wrap (z457 + z456))) (1:Int)))) 2 z z z (by kernel_rfl) (fun w hst => z) ?_))
 obtain ⟨x469, hx470, hm⟩ := bind_some hm
 obtain ⟨h471, h472, hi473⟩ := geto_some hx470
 refine wsr (.pointer (some (eAddr v389 ((i64.wrap (iShr .u64 (u64.wrap (i64.wrap (z457 + z456))) (1:Int))).toNat * 7 + 0)))) 3 z z z (by kernel_rfl) (fun w hst => x_index z z underlying22 sizeOf34 (hst.rsv 0 z hq468) h471 h472) ?_
 obtain ⟨cs474, hc476, hr475⟩ := Reps.get hq468 hi473
 obtain ⟨v477, v480, v483, v486, rfl, f478, f481, f484, f487, -⟩ := hr475
 refine wsr (.agg #[U6 x469.ID.Session, U6 x469.ID.Seq, U6 x469.Epoch, v477, v480, v483, v486]) 4 z z z (by kernel_rfl) (fun w hst => x_loadN (cs := [U6 x469.ID.Session, U6 x469.ID.Seq, U6 x469.Epoch, v477, v480, v483, v486]) z isAgg34 sizeOf34 (eCells (o := 0) (hst.rcell 0 z hc476) z)) (wsr (.agg #[U6 a1.Session, U6 a1.Seq]) 5 z z z (by kernel_rfl) (fun w hst => x_loadN (cs := [U6 a1.Session, U6 a1.Seq]) z isAgg29 sizeOf29 (hst.bcs1 0 z)) ?_)
 refine ws_e1 6 (by kernel_rfl) ?_
 refine nxe [7] (by kernel_rfl) z z ?_
 clear hst
 intro w hst
 obtain ⟨t489, ht490, hm⟩ := bind_some hm
 refine we_call z (x_callv call59 (caps := []) z (vs := [.agg #[U6 x469.ID.Session, U6 x469.ID.Seq, U6 x469.Epoch, v477, v480, v483, v486], .agg #[U6 a1.Session, U6 a1.Seq]]) z) ?_
 refine (locks_compare_ref (f478.mono ro_rd) (f481.mono ro_rd) (f484.mono ro_rd) (f487.mono ro_rd) hst.to0 ht490).mono ?_
 rintro _ w491 ⟨rfl, hst⟩
 refine ⟨_, z, ?_⟩
 replace hst := hst.of0
 refine ws_next (pend' := []) hst (by kernel_rfl) pk_nil ?_
 refine wsr (.bool (decide (t489 < (0:Int)))) 7 z z z (by kernel_rfl) (fun w hst => z) ?_
 refine ws_nil ?_
 intro w hst
 replace hst := hst.own_close hq468
 refine tn ?_
 refine bsplit (decide (t489 < (0:Int))) (fun hc494 => ?_) (fun hc494 => ?_)
 {
 replace hm := bif_t hc494 hm
 refine wp_ift (cvb hc494) ?_
 refine wrl (wv (.int .i64 (i64.wrap (iShr .u64 (u64.wrap (i64.wrap (z457 + z456))) (1:Int)))) z z z (wv (.int .i64 (i64.wrap ((i64.wrap (iShr .u64 (u64.wrap (i64.wrap (z457 + z456))) (1:Int))) + (1:Int)))) z z z (wv (.int .i64 (i64.wrap ((i64.wrap (iShr .u64 (u64.wrap (i64.wrap (z457 + z456))) (1:Int))) + (1:Int)))) z z z (wl_nil (blk_n (tn ?_))))))
 replace hst := hst.pull3.pull1.pull3.pull3.keep4
 obtain rfl := some_inj hm
 exact ⟨_, Nat.lt_succ_self _, z456, (i64.wrap ((i64.wrap (iShr .u64 (u64.wrap (i64.wrap (z457 + z456))) (1:Int))) + (1:Int))), _, hx464, (fu 0 v389 z (fu 2 (.func (.func 59) #[] #[]) z (fu 4 (Pt b391 0) z (fu 8 (.int .i64 ((o0.l).length : Int)) z (fu 9 (.int .i64 (i64.wrap ((i64.wrap (iShr .u64 (u64.wrap (i64.wrap (z457 + z456))) (1:Int))) + (1:Int)))) z (fu 10 (.int .i64 z456) z z)))))), hst⟩
}
 {
 replace hm := bif_f hc494 hm
 refine wp_iff (cvb hc494) ?_
 refine wrl (wv (.int .i64 (i64.wrap (iShr .u64 (u64.wrap (i64.wrap (z457 + z456))) (1:Int)))) z z z (wv (.int .i64 (i64.wrap (iShr .u64 (u64.wrap (i64.wrap (z457 + z456))) (1:Int)))) z z z (wl_nil (blk_n (tn ?_)))))
 replace hst := hst.pull3.pull1.pull3.pull3.keep4
 obtain rfl := some_inj hm
 exact ⟨_, Nat.lt_succ_self _, (i64.wrap (iShr .u64 (u64.wrap (i64.wrap (z457 + z456))) (1:Int))), z457, _, hx464, (fu 0 v389 z (fu 2 (.func (.func 59) #[] #[]) z (fu 4 (Pt b391 0) z (fu 8 (.int .i64 ((o0.l).length : Int)) z (fu 9 (.int .i64 z457) z (fu 10 (.int .i64 (i64.wrap (iShr .u64 (u64.wrap (i64.wrap (z457 + z456))) (1:Int)))) z z)))))), hst⟩
}
}
 {
 replace hm := bif_f hc466 hm
 refine wp_iff (cvb hc466) ?_
 refine wp_exit (then_x (then_x ?_))
 replace hm := inr_up hm hx464
 refine blk_x (tn ?_)
 replace hst := hst.pull3.pull2.pull2.pull3.keep4
 obtain rfl := some_inj hm
 exact ⟨z457, _, hx499, (fu 0 v389 z (fu 2 (.func (.func 59) #[] #[]) z (fu 4 (Pt b391 0) z (fu 8 (.int .i64 ((o0.l).length : Int)) z (fu 9 (.int .i64 z457) z z))))), hst⟩
}
}
 {
 clear hst
 rintro _ w500 ⟨z495, σ496, hm, rfl, hst⟩
 dsimp only [locks_Table_find_j0] at hm
 refine wp_seq ?_
 obtain ⟨css501, hq502, hst⟩ := hst.own_open
 refine wp_region_St hst 16 [0, 1, 2, 3, 4, 5, 6, 7, 8, 9, 10, 11, 12, 13, 14, 15] [0, 0, 0, 6, 14, 30, 30, 30, 222, 478, 30, 2046, 4094, 8190, 4095, 32767] [] z (by kernel_rfl) (by kernel_rfl) Try.mixed (by kernel_rfl) ?_
 refine wsr (.int .i64 z495) 0 z z z (by kernel_rfl) (fun w hst => z) (wsr (.int .i64 z495) 1 z z z (by kernel_rfl) (fun w hst => z) (wsr (.int .i64 ((o0.l).length : Int)) 2 z z z (by kernel_rfl) (fun w hst => z) (wsr (.bool (decide (z495 < ((o0.l).length : Int)))) 3 z z z (by kernel_rfl) (fun w hst => z) (wsr (.bool (decide (z495 < ((o0.l).length : Int)))) 4 z z z (by kernel_rfl) (fun w hst => z) ?_))))
 refine bsplit (decide (z495 < ((o0.l).length : Int))) (fun hc503 => ?_) (fun hc503 => ?_)
 {
 replace hm := bif_t hc503 hm
 refine ws_q (v := .func (.func 59) #[] #[]) 5 [6, 7, 8, 9, 10, 11, 12, 13, 14, 15] (by kernel_rfl) z z (yi_run ((wanted_eq z z z (cvb hc503)).trans z) (fun w hst => z)) (ws_q (v := v389) 6 [7, 8, 9, 10, 11, 12, 13, 14, 15] (by kernel_rfl) z z (yi_run ((wanted_eq z z z (cvb hc503)).trans z) (fun w hst => z)) (ws_q (v := .int .i64 z495) 7 [8, 9, 10, 11, 12, 13, 14, 15] (by kernel_rfl) z z (yi_run ((wanted_eq z z z (cvb hc503)).trans z) (fun w hst => z)) ?_))
 obtain ⟨x504, hx505, hm⟩ := bind_some hm
 obtain ⟨h506, h507, hi508⟩ := geto_some hx505
 refine ws_q (v := .pointer (some (eAddr v389 (z495.toNat * 7 + 0)))) 8 [9, 10, 11, 12, 13, 14, 15] (by kernel_rfl) z z (yi_run ((wanted_eq z z z (cvb hc503)).trans z) (fun w hst => x_index z z underlying22 sizeOf34 (hst.rsv 0 z hq502) h506 h507)) ?_
 obtain ⟨cs509, hc511, hr510⟩ := Reps.get hq502 hi508
 obtain ⟨v512, v515, v518, v521, rfl, f513, f516, f519, f522, -⟩ := hr510
 refine ws_q (v := .agg #[U6 x504.ID.Session, U6 x504.ID.Seq, U6 x504.Epoch, v512, v515, v518, v521]) 9 [10, 11, 12, 13, 14, 15] (by kernel_rfl) z z (yi_run ((wanted_eq z z z (cvb hc503)).trans z) (fun w hst => x_loadN (cs := [U6 x504.ID.Session, U6 x504.ID.Seq, U6 x504.Epoch, v512, v515, v518, v521]) z isAgg34 sizeOf34 (eCells (o := 0) (hst.rcell 0 z hc511) z))) (ws_q (v := .agg #[U6 a1.Session, U6 a1.Seq]) 10 [11, 12, 13, 14, 15] (by kernel_rfl) z z (yi_run ((wanted_eq z z z (cvb hc503)).trans z) (fun w hst => x_loadN (cs := [U6 a1.Session, U6 a1.Seq]) z isAgg29 sizeOf29 (hst.bcs1 0 z))) ?_)
 refine ws_e1 11 (by kernel_rfl) ?_
 refine nxe [12, 13, 14, 15] (by kernel_rfl) z ((wanted_eq z z z (cvb hc503)).trans z) ?_
 clear hst
 intro w hst
 obtain ⟨t524, ht525, hm⟩ := bind_some hm
 refine we_call z (x_callv call59 (caps := []) z (vs := [.agg #[U6 x504.ID.Session, U6 x504.ID.Seq, U6 x504.Epoch, v512, v515, v518, v521], .agg #[U6 a1.Session, U6 a1.Seq]]) z) ?_
 refine (locks_compare_ref (f513.mono ro_rd) (f516.mono ro_rd) (f519.mono ro_rd) (f522.mono ro_rd) hst.to0 ht525).mono ?_
 rintro _ w526 ⟨rfl, hst⟩
 refine ⟨_, z, ?_⟩
 replace hst := hst.of0
 refine ws_next (pend' := [(0, I6 z495)]) hst (by kernel_rfl) (pkr z z (fun w hst => z) pk_nil) ?_
 refine ws_q (v := .bool (t524 == (0:Int))) 12 [13, 14, 15] (by kernel_rfl) z z (yi_run ((wanted_eq z z z (cvb hc503)).trans z) (fun w hst => z)) (wsr (.bool (t524 == (0:Int))) 13 z z z (by kernel_rfl) (fun w hst => x_pick_t hc503 z z) (wsr (.int .i64 z495) 14 z z z (by kernel_rfl) (fun w hst => z) (wsr (.bool (t524 == (0:Int))) 15 z z z (by kernel_rfl) (fun w hst => z) ?_)))
 refine ws_nil ?_
 intro w hst
 replace hst := hst.own_close hq502
 refine tn (wp_ret ?_)
 refine post_ret (vs := [I6 z495, .bool (t524 == (0:Int))]) results71 (rvs_cons (rv_tmp z) (rvs_cons (rv_tmp z) rvs_nil)) ?_
 replace hst := hst.pull3.pull1.pull3.keep3
 obtain rfl := some_inj hm
 exact ⟨z495, (t524 == (0:Int)), z, z, hst⟩
}
 {
 replace hm := bif_f hc503 hm
 refine ws_q (v := undef) 5 [6, 7, 8, 9, 10, 11, 12, 13, 14, 15] (by kernel_rfl) z z (yi_off ((wanted_eq z z z (cvb hc503)).trans z)) (ws_q (v := undef) 6 [7, 8, 9, 10, 11, 12, 13, 14, 15] (by kernel_rfl) z z (yi_off ((wanted_eq z z z (cvb hc503)).trans z)) (ws_q (v := undef) 7 [8, 9, 10, 11, 12, 13, 14, 15] (by kernel_rfl) z z (yi_off ((wanted_eq z z z (cvb hc503)).trans z)) (ws_q (v := undef) 8 [9, 10, 11, 12, 13, 14, 15] (by kernel_rfl) z z (yi_off ((wanted_eq z z z (cvb hc503)).trans z)) (ws_q (v := undef) 9 [10, 11, 12, 13, 14, 15] (by kernel_rfl) z z (yi_off ((wanted_eq z z z (cvb hc503)).trans z)) (ws_q (v := undef) 10 [11, 12, 13, 14, 15] (by kernel_rfl) z z (yi_off ((wanted_eq z z z (cvb hc503)).trans z)) (ws_q (v := undef) 11 [12, 13, 14, 15] (by kernel_rfl) z z (yi_off ((wanted_eq z z z (cvb hc503)).trans z)) (ws_q (v := undef) 12 [13, 14, 15] (by kernel_rfl) z z (yi_off ((wanted_eq z z z (cvb hc503)).trans z)) (wsr (.bool false) 13 z z z (by kernel_rfl) (fun w hst => x_pick_f hc503 z z) (wsr (.int .i64 z495) 14 z z z (by kernel_rfl) (fun w hst => z) (wsr (.bool false) 15 z z z (by kernel_rfl) (fun w hst => z) ?_))))))))))
 refine ws_nil ?_
 intro w hst
 replace hst := hst.own_close hq502
 refine tn (wp_ret ?_)
 refine post_ret (vs := [I6 z495, .bool false]) results71 (rvs_cons (rv_tmp z) (rvs_cons (rv_tmp z) rvs_nil)) ?_
 replace hst := hst.pull3.pull1.pull3.keep3
 obtain rfl := some_inj hm
 exact ⟨z495, false, z, z, hst⟩
}
}
}
 clear hst
 rintro _ w534 ⟨z529, z530, rfl, rfl, hst⟩
 refine ⟨_, z, ?_⟩
 try dsimp only at hm
 refine ws_next (pend' := []) hst (by kernel_rfl) pk_nil ?_
 refine wsr (.int .i64 z529) 6 z z z (by kernel_rfl) (fun w hst => z) (wsr (.bool z530) 7 z z z (by kernel_rfl) (fun w hst => z) (wsr (.int .i64 z529) 8 z z z (by kernel_rfl) (fun w hst => z) (wsr (.bool z530) 9 z z z (by kernel_rfl) (fun w hst => z) ?_)))
 refine ws_nil ?_
 intro w hst
 refine tn (wp_ret ?_)
 replace hst := hst.pull1.pull1
 replace hst := at_locks_Table_close (pv := Pt b388 0) (x := o0) hst z
 replace hst := objO_some hst
 obtain rfl := some_inj hm
 refine post_ret (vs := [I6 z529, .bool z530]) results40 (rvs_cons (rv_tmp z) (rvs_cons (rv_tmp z) rvs_nil)) ?_
 exact ⟨z, hst.keep1⟩
}
}

theorem slices_Insert_api_Hold_api_Hold_ref {w0 w : World} {I : HL} {R : SP} {a0 : (List api_Hold)} {r0_0 : Value} {a1 : Int} {a2 : (List api_Hold)} {r2_0 : Value} (hst : St w0 w I [ownS ty_api_Hold r0_0 a0, ownS ty_api_Hold r2_0 a2] R) {r : (List api_Hold)} (hm : slices_Insert_api_Hold_api_Hold a0 a1 a2 = some r) :
  Calls prog 41 #[r0_0, I6 a1, r2_0] w fun e w' => ∃ (q0_0 : Value), e = .returned (q0_0) ∧ St w0 w' I [ownS ty_api_Hold q0_0 r] R := by {
 unfold slices_Insert_api_Hold_api_Hold at hm
 obtain ⟨hg, hm⟩ := gd_some hm
 obtain rfl := some_inj hm
 obtain ⟨hi0, hi1, hrm⟩ := insOK_of hg
 obtain ⟨k, rfl⟩ := Int.eq_ofNat_of_zero_le hi0
 have hsm := room_sum hrm
 have hk : k ≤ a0.length := by omega
 have hs : ∀ w : World, (sizeOf 34).run prog w = .ok ty_api_Hold.sz w := sizeOf34
 have hs0 : 0 < ty_api_Hold.sz := Nat.le_of_ble_eq_true rfl
 have hov : ∀ (args : Array Value) (w : World), (callFunc 72 args).run prog w = (Extern.SlicesOverlaps.overlaps #[22, 22] #[4] args >>= fun v => (pure (.value v) : Sem Next)).run prog w := by intro args w; kernel_rfl
 obtain ⟨css, hr, hst⟩ := hst.own_open
 replace hst := hst.pull1
 obtain ⟨dss, hq, hst⟩ := hst.own_open
 replace hst := hst.pull1
 obtain ⟨n, hn⟩ : ∃ n, css.length = n := ⟨_, rfl⟩
 obtain ⟨m, hm'⟩ : ∃ m, dss.length = m := ⟨_, rfl⟩
 have hln : a0.length = n := hr.1.trans hn
 have hlm : a2.length = m := hq.1.trans hm'
 rw [hln] at hsm hk
 rw [hlm] at hsm
 have hsv : SliceV r0_0 n := by have := hst.row_form.2; rwa [hn] at this
 have hsq : SliceV r2_0 m := by have := hst.pull1.row_form.2; rwa [hm'] at this
 have hoc := hr.ones
 have hoq := hq.ones
 have hw1 := wrap_add (a := n) (b := m) (by omega)
 have hw2 := wrap_add (a := k) (b := m) (by omega)
 have hw3 := wrap_sub (a := n + m) (b := k) (by omega) (by omega)
 have hrb := room_of (b := 120) hrm rfl
 rw [hln, hlm] at hrb
 refine calls_start (args := [r0_0, I6 (k : Int), r2_0]) func41 z ntmps41 (Nat.le_of_ble_eq_true z) ?_
 refine wp_seq (wrl (wv ((.slice none 0 0)) z z z (wl_nil (tn (wp_seq (wrl (wv (r0_0) z z z (wv (.int .i64 (k : Int)) z z z (wv ((slcV ty_api_Hold.sz r0_0 k n)) z z (x_slice (lo := (k : Nat)) (hi := (n : Nat)) underlying22 hs z hsv (by omega) (by omega) (by omega) .i64 .i64 (.inl z) (.inr ⟨z, z⟩)) (wl_nil (tn (wp_seq (wrl (wv (r2_0) z z z (wv (.int .i64 (m : Int)) z z (x_len z underlying22 hsq) (wv (.int .i64 (m : Int)) z z z (wl_nil (tn (wp_seq (wp_seq (wrl (wv (.int .i64 (m : Int)) z z z (wv (.bool ((m : Int) == (0:Int))) z z z ?_)))))))))))))))))))))))
 refine wl_nil (tn ?_)
 refine bsplit ((m : Int) == (0:Int)) (fun hc265 => ?_) (fun hc265 => ?_)
 {
 refine wp_ift (cvb hc265) ?_
 refine wp_seq (wrl (wv (r0_0) z z z (wv (r0_0) z z z (wl_nil (tn (wp_ret (then_r ?_)))))))
 refine post_ret (vs := [r0_0]) results41 (rvs_cons (rv_tmp z) rvs_nil) ?_
 rw [ins_nil (by rw [hlm]; exact hc265)]
 exact ⟨_, z, (hst.own_close hr).keep1⟩
}
 {
 refine wp_iff (cvb hc265) ?_
 have hm0 : m ≠ 0 := fun h => by rw [h] at hc265; cases hc265
 have hq0 : dss ≠ [] := fun h => hm0 (by rw [← hm', h]; rfl)
 refine wp_skip (tn (wp_seq (wrl ?_)))
 refine wv (r0_0) z z z (wv (.int .i64 (n : Int)) z z (x_len z underlying22 hsv) (wv (.int .i64 (n : Int)) z z z (wl_nil (tn (wp_seq (wp_seq (wrl (wv (.int .i64 (k : Int)) z z z (wv (.int .i64 (n : Int)) z z z (wv (.bool ((k : Int) == (n : Int))) z z z (wl_nil (tn ?_))))))))))))
 refine bsplit ((k : Int) == (n : Int)) (fun hc266 => ?_) (fun hc266 => ?_)
 {
 refine wp_ift (cvb hc266) ?_
 refine wp_seq (wrl (wv (r0_0) z z z (wv (r2_0) z z z ?_)))
 replace hst := (hst.own_close hr).pull1.own_close hq
 replace hst := hst.pull1
 obtain ⟨v2, w2, hra, hst⟩ := run_append elem_22 underlying22 hst hst.src1 (room_of hrm z) 22
 refine wl_run (v := v2) (w' := w2) z z (x_append z z hra) ?_
 refine wv (v2) z z z (wl_nil (tn (wp_ret (then_r ?_))))
 refine post_ret (vs := [v2]) results41 (rvs_cons (rv_tmp z) rvs_nil) ?_
 rw [ins_end (by rw [hln]; exact hc266)]
 exact ⟨_, z, hst.keep1⟩
}
 {
 refine wp_iff (cvb hc266) ?_
 have hkn : k ≠ n := fun h => by rw [h] at hc266; simp at hc266
 have hn0 : 0 < n := by omega
 have hc0 : css ≠ [] := fun h => by rw [h] at hn; simp at hn; omega
 refine wp_skip (tn (wp_seq (wp_seq (wrl ?_))))
 refine wv (.int .i64 (n : Int)) z z z (wv (.int .i64 (m : Int)) z z z (wv (.int .i64 ((n + m : Nat) : Int)) z z (ok_cast hw1 z) (wv (r0_0) z z z (wv (.int .i64 (sCap r0_0 : Int)) z z (x_cap z underlying22 hsv) (wv (.bool (decide (((n + m : Nat) : Int) > (sCap r0_0 : Int)))) z z z (wl_nil (tn ?_)))))))
 refine bsplit (decide (((n + m : Nat) : Int) > (sCap r0_0 : Int))) (fun hc267 => ?_) (fun hc267 => ?_)
 {
 refine wp_ift (cvb hc267) ?_
 refine wp_seq (wrl (wv (r0_0) z z z (wv (.int .i64 (k : Int)) z z z (wv ((slcV ty_api_Hold.sz r0_0 0 k)) z z (x_slice (lo := (0 : Nat)) (hi := (k : Nat)) underlying22 hs z hsv (by omega) (by omega) (by omega) .i64 .i64 (.inr ⟨z, z⟩) (.inl z)) (wv (.int .i64 (n : Int)) z z z (wv (.int .i64 (m : Int)) z z z (wv (.int .i64 ((n + m : Nat) : Int)) z z (ok_cast hw1 z) (wv (.int .i64 (k : Int)) z z z (wv (.int .i64 ((n + m - k : Nat) : Int)) z z (ok_cast hw3 z) ?_)))))))))
 obtain ⟨v2, w2, hra, hs2, zss, hzl, hst⟩ := run_app0 elem_22 underlying3 hst k (n + m - k) (by omega) (by have := of_decide_eq_true hc267; omega) (by rw [show k + (n + m - k) = n + m by omega]; exact hrb) hs0 22
 rw [show k + (n + m - k) = n + m by omega] at hs2
 refine wl_run (v := v2) (w' := w2) z z (x_append z z hra) ?_
 refine wv (v2) z z z (wl_nil (tn (wp_seq (wrl (wv (v2) z z z (wv (.int .i64 (k : Int)) z z z (wv ((slcV ty_api_Hold.sz v2 k (n + m))) z z (x_slice (lo := (k : Nat)) (hi := ((n + m) : Nat)) underlying22 hs z hs2 (by omega) (by omega) (by omega) .i64 .i64 (.inl z) (.inr ⟨z, z⟩)) (wv (r2_0) z z z ?_))))))))
 obtain ⟨w268, hr269, hst⟩ := run_copyRows (P := prog) (t2 := 22) (ty := 3) underlying22 hs hst hst.pull2 k m (N := n + m) (by first | omega | (simp only [List.length_append, List.length_take, List.length_drop]; omega)) (by first | omega | (simp only [List.length_append, List.length_take, List.length_drop]; omega)) (by omega) (by first | omega | (simp only [List.length_append, List.length_take, List.length_drop]; omega)) (ones_take hoq _)
 refine wl_run (v := .int .i64 (m : Nat)) (w' := w268) z z (x_copy z z hr269) ?_
 refine wl_nil (tn (wp_seq ?_))
 refine wp_region_St hst 9 [0, 1, 2, 3, 4, 5, 6, 7, 8] [0, 0, 0, 6, 15, 0, 0, 96, 255] [] z (by kernel_rfl) (by kernel_rfl) Try.mixed (by kernel_rfl) ?_
 refine wsr (v2) 0 z z z (by kernel_rfl) (fun w hst => z) (wsr (.int .i64 (k : Int)) 1 z z z (by kernel_rfl) (fun w hst => z) (wsr (.int .i64 (m : Int)) 2 z z z (by kernel_rfl) (fun w hst => z) (wsr (.int .i64 ((k + m : Nat) : Int)) 3 z z z (by kernel_rfl) (fun w hst => ok_cast hw2 z) (wsr ((slcV ty_api_Hold.sz v2 (k + m) (n + m))) 4 z z z (by kernel_rfl) (fun w hst => x_slice (lo := ((k + m) : Nat)) (hi := ((n + m) : Nat)) underlying22 hs z hs2 (by omega) (by omega) (by omega) .i64 .i64 (.inl z) (.inr ⟨z, z⟩)) (wsr (r0_0) 5 z z z (by kernel_rfl) (fun w hst => z) (wsr (.int .i64 (k : Int)) 6 z z z (by kernel_rfl) (fun w hst => z) (wsr ((slcV ty_api_Hold.sz r0_0 k n)) 7 z z z (by kernel_rfl) (fun w hst => x_slice (lo := (k : Nat)) (hi := (n : Nat)) underlying22 hs z hsv (by omega) (by omega) (by omega) .i64 .i64 (.inl z) (.inr ⟨z, z⟩)) ?_)))))))
 refine ws_e1 8 (by kernel_rfl) ?_
 refine nxe [] (by kernel_rfl) z z ?_
 clear hst
 intro w hst
 obtain ⟨w270, hr271, hst⟩ := run_copyRows (P := prog) (t2 := 22) (ty := 3) underlying22 hs hst (hst.pull1.row_part (l := k) (h := n) hk (by omega)) (k + m) (n - k) (N := n + m) (by first | omega | (simp only [List.length_append, List.length_take, List.length_drop]; omega)) (by first | omega | (simp only [List.length_append, List.length_take, List.length_drop]; omega)) (by omega) (by first | omega | (simp only [List.length_append, List.length_take, List.length_drop]; omega)) (ones_take (ones_drop (ones_take hoc _) _) _)
 refine we_run (v := .int .i64 ((n - k) : Nat)) (w' := w270) z (x_copy z z hr271) ?_
 refine ws_next (pend' := []) hst (by kernel_rfl) pk_nil ?_
 refine ws_nil ?_
 intro w hst
 refine tn (wp_seq (wrl (wv (v2) z z z (wv (v2) z z z (wl_nil (tn (wp_ret (then_r ?_))))))))
 refine post_ret (vs := [v2]) results41 (rvs_cons (rv_tmp z) rvs_nil) ?_
 rw [grow_rows hn hm' hk hzl] at hst
 exact ⟨_, z, (hst.own_close ((hr.take k).app (hq.app (hr.drop k)))).keep1⟩
}
 {
 refine wp_iff (cvb hc267) ?_
 have hup : n + m ≤ sCap r0_0 := by have := of_decide_eq_false hc267; omega
 obtain ⟨ess, hel, hem, hst'⟩ := hst.row_up (n + m) (by omega) hup hc0
 rw [show n + m - css.length = m by omega] at hel
 have hs2 : SliceV (upV r0_0 (n + m)) (n + m) := by have := hst'.row_form.2; rwa [List.length_append, hn, hel] at this
 clear hst
 have hst := hst'
 clear hst'
 refine wp_skip (tn (wp_seq (wrl ?_)))
 refine wv (r0_0) z z z (wv (.int .i64 (n : Int)) z z z (wv (.int .i64 (m : Int)) z z z (wv (.int .i64 ((n + m : Nat) : Int)) z z (ok_cast hw1 z) (wv ((upV r0_0 (n + m))) z z (x_sliceUp underlying22 hs z hsv z hup hn0) (wv ((upV r0_0 (n + m))) z z z (wl_nil (tn (wp_seq (wp_seq (wrl (wv (r2_0) z z z (wv ((upV r0_0 (n + m))) z z z (wv (.int .i64 (k : Int)) z z z (wv (.int .i64 (m : Int)) z z z (wv (.int .i64 ((k + m : Nat) : Int)) z z (ok_cast hw2 z) (wv ((slcV ty_api_Hold.sz (upV r0_0 (n + m)) (k + m) (n + m))) z z (x_slice (lo := ((k + m) : Nat)) (hi := ((n + m) : Nat)) underlying22 hs z hs2 (by omega) (by omega) (by omega) .i64 .i64 (.inl z) (.inr ⟨z, z⟩)) ?_))))))))))))))))
 refine wv (.bool false) z z (x_ext z z z (hov _) (run_overlaps z underlying22 hs hst.pull1 (k + m) (N := n + m) (by rw [List.length_append]; omega) (by omega) hq0 hs0)) (wv (.bool true) z z z (wl_nil (tn ?_)))
 refine wp_ift z ?_
 refine wp_seq ?_
 refine wp_region_St hst 9 [0, 1, 2, 3, 4, 5, 6, 7, 8] [0, 0, 0, 6, 15, 0, 0, 96, 255] [] z (by kernel_rfl) (by kernel_rfl) Try.mixed (by kernel_rfl) ?_
 refine wsr ((upV r0_0 (n + m))) 0 z z z (by kernel_rfl) (fun w hst => z) (wsr (.int .i64 (k : Int)) 1 z z z (by kernel_rfl) (fun w hst => z) (wsr (.int .i64 (m : Int)) 2 z z z (by kernel_rfl) (fun w hst => z) (wsr (.int .i64 ((k + m : Nat) : Int)) 3 z z z (by kernel_rfl) (fun w hst => ok_cast hw2 z) (wsr ((slcV ty_api_Hold.sz (upV r0_0 (n + m)) (k + m) (n + m))) 4 z z z (by kernel_rfl) (fun w hst => x_slice (lo := ((k + m) : Nat)) (hi := ((n + m) : Nat)) underlying22 hs z hs2 (by omega) (by omega) (by omega) .i64 .i64 (.inl z) (.inr ⟨z, z⟩)) (wsr ((upV r0_0 (n + m))) 5 z z z (by kernel_rfl) (fun w hst => z) (wsr (.int .i64 (k : Int)) 6 z z z (by kernel_rfl) (fun w hst => z) (wsr ((slcV ty_api_Hold.sz (upV r0_0 (n + m)) k (n + m))) 7 z z z (by kernel_rfl) (fun w hst => x_slice (lo := (k : Nat)) (hi := ((n + m) : Nat)) underlying22 hs z hs2 (by omega) (by omega) (by omega) .i64 .i64 (.inl z) (.inr ⟨z, z⟩)) ?_)))))))
 refine ws_e1 8 (by kernel_rfl) ?_
 refine nxe [] (by kernel_rfl) z z ?_
 clear hst
 intro w hst
 obtain ⟨w272, hr273, hst⟩ := run_copyRows (P := prog) (t2 := 22) (ty := 3) underlying22 hs hst (hst.row_part (l := k) (h := n + m) (by omega) (by rw [List.length_append]; omega)) (k + m) (n - k) (N := n + m) (by first | omega | (simp only [List.length_append, List.length_take, List.length_drop]; omega)) (by first | omega | (simp only [List.length_append, List.length_take, List.length_drop]; omega)) (by omega) (by first | omega | (simp only [List.length_append, List.length_take, List.length_drop]; omega)) (by rw [stay_src hn hm' hk hel]; exact ones_drop hoc _)
 refine we_run (v := .int .i64 ((n - k) : Nat)) (w' := w272) z (x_copy z z hr273) ?_
 refine ws_next (pend' := []) hst (by kernel_rfl) pk_nil ?_
 refine ws_nil ?_
 intro w hst
 refine tn (wp_seq (wrl (wv ((upV r0_0 (n + m))) z z z (wv (.int .i64 (k : Int)) z z z (wv ((slcV ty_api_Hold.sz (upV r0_0 (n + m)) k (n + m))) z z (x_slice (lo := (k : Nat)) (hi := ((n + m) : Nat)) underlying22 hs z hs2 (by omega) (by omega) (by omega) .i64 .i64 (.inl z) (.inr ⟨z, z⟩)) (wv (r2_0) z z z ?_))))))
 obtain ⟨w274, hr275, hst⟩ := run_copyRows (P := prog) (t2 := 22) (ty := 3) underlying22 hs hst hst.pull1 k m (N := n + m) (by first | omega | (simp only [List.length_append, List.length_take, List.length_drop]; omega)) (by first | omega | (simp only [List.length_append, List.length_take, List.length_drop]; omega)) (by omega) (by first | omega | (simp only [List.length_append, List.length_take, List.length_drop]; omega)) (ones_take hoq _)
 refine wl_run (v := .int .i64 (m : Nat)) (w' := w274) z z (x_copy z z hr275) ?_
 refine wl_nil (tn (wp_seq (wrl (wv ((upV r0_0 (n + m))) z z z (wv ((upV r0_0 (n + m))) z z z (wl_nil (tn (wp_ret (then_r ?_)))))))))
 refine post_ret (vs := [(upV r0_0 (n + m))]) results41 (rvs_cons (rv_tmp z) rvs_nil) ?_
 rw [stay_rows hn hm' hk hel] at hst
 exact ⟨_, z, (hst.own_close ((hr.take k).app (hq.app (hr.drop k)))).keep1⟩
}
}
}
}

theorem locks_Table_Take_ref {w0 w : World} {I : HL} {R : SP} {a0 : (Option locks_Table)} {p0 : Value} {a1 : api_Hold} {r1_0 : Value} {r1_1 : Value} {r1_2 : Value} {r1_3 : Value} (f1_0 : Rd tyF64 R I r1_0 a1.Gets) (f1_1 : Rd tyF2 R I r1_1 a1.Scans) (f1_2 : Rd tyF64 R I r1_2 a1.Puts) (f1_3 : Rd (tyInt .u8) R I r1_3 a1.Data) (hst : St w0 w I [objO at_locks_Table p0 a0] R) {r : (Int × (Option locks_Table))} (hm : locks_Table_Take a0 a1 = some r) :
  Calls prog 12 #[p0, .agg #[U6 a1.ID.Session, U6 a1.ID.Seq, U6 a1.Epoch, r1_0, r1_1, r1_2, r1_3]] w fun e w' => ∃ (I' : HL), e = .returned (.int .i64 r.1) ∧ I.le I' ∧ St w0 w' I' [objO at_locks_Table p0 r.2] R := by {
 rcases a0 with _ | o0
 {
 obtain ⟨rfl, hst'⟩ := objO_none hst
 clear hst
 have hst := hst'
 clear hst'
 dsimp only [locks_Table_Take] at hm
 refine calls_start (args := [.pointer none, .agg #[U6 a1.ID.Session, U6 a1.ID.Seq, U6 a1.Epoch, r1_0, r1_1, r1_2, r1_3]]) func12 z ntmps12 (Nat.le_of_ble_eq_true z) ?_
 have hI0 := HL.le.refl I
 refine wp_seq (wrl ?_)
 obtain ⟨b304, w305, ew306, eb307, hst⟩ := hst.box [U6 a1.ID.Session, U6 a1.ID.Seq, U6 a1.Epoch, r1_0, r1_1, r1_2, r1_3] 34
 refine wl_run (v := Pt b304 0) (w' := w305) z z (x_al (by kernel_rfl) ew306 eb307) ?_
 refine wv (.int .i64 (0:Int)) z z z (wl_nil (tn (wp_seq (wp_seq (wrl (wv (.pointer none) z z z (wv (.bool true) z z (by kernel_rfl) (wl_nil (tn ?_)))))))))
 refine wp_ift z ?_
 refine wp_seq (wrl (wv (.int .i64 (2:Int)) z z z (wl_nil (tn (wp_ret (then_r ?_))))))
 replace hst := hst.objO_nil at_locks_Table
 obtain rfl := some_inj hm
 refine post_ret (vs := [I6 (2:Int)]) results12 (rvs_cons (rv_tmp z) rvs_nil) ?_
 exact ⟨_, z, hI0, hst.keep1⟩
}
 {
 replace hst := objO_get hst
 dsimp only [locks_Table_Take] at hm
 refine calls_start (args := [p0, .agg #[U6 a1.ID.Session, U6 a1.ID.Seq, U6 a1.Epoch, r1_0, r1_1, r1_2, r1_3]]) func12 z ntmps12 (Nat.le_of_ble_eq_true z) ?_
 have hI0 := HL.le.refl I
 refine wp_seq (wrl ?_)
 obtain ⟨b309, w310, ew311, eb312, hst⟩ := hst.box [U6 a1.ID.Session, U6 a1.ID.Seq, U6 a1.Epoch, r1_0, r1_1, r1_2, r1_3] 34
 refine wl_run (v := Pt b309 0) (w' := w310) z z (x_al (by kernel_rfl) ew311 eb312) ?_
 refine wv (.int .i64 (0:Int)) z z z (wl_nil (tn (wp_seq (wp_seq (wrl (wv (p0) z z z ?_))))))
 replace hst := hst.pull1
 obtain ⟨b314, v315, rfl, hst'⟩ := at_locks_Table_open hst
 clear hst
 have hst := hst'
 clear hst'
 refine wv (.bool false) z z (by kernel_rfl) (wl_nil (tn ?_))
 refine wp_iff z ?_
 refine wp_skip (tn ?_)
 obtain ⟨y446, hm, hx447⟩ := joinO_some hm
 refine wp_cut (fun a w => ∃ (σ444 : Nat → Value), (locks_Table_Take_j0 a1 o0) () = some r ∧ a = Fr 74 (upd (upd σ444 0 (Pt b314 0)) 3 (Pt b309 0)) ∧ St w0 w I [at_locks_Table (Pt b314 0) o0, cells b309 [U6 a1.ID.Session, U6 a1.ID.Seq, U6 a1.Epoch, r1_0, r1_1, r1_2, r1_3]] R) ?_ ?_
 {
 refine wp_seq (wrl (wv (Pt b314 0) z z z (wv (Pt b314 0) z z z (wv (Pt b314 0) z z (x_field z underlying77 z sizeOf22 z) (wv (v315) z z (x_load z isAgg22 (hst.bc0 z)) (wv (.int .i64 ((o0.l).length : Int)) z z (x_len z underlying22 hst.sv1) (wv (.int .i64 (0:Int)) z z z (wl_nil (tn (wp_block ?_))))))))))
 obtain ⟨n398, hm⟩ := loopO_some hm
 refine wp_loop_n (fun n a w => ∃ (z396 : Int) (σ397 : Nat → Value), loopN (locks_Table_Take_l1 o0 a1) n z396 = some y446 ∧ a = Fr 74 (upd (upd (upd (upd (upd σ397 0 (Pt b314 0)) 3 (Pt b309 0)) 14 (v315)) 15 (.int .i64 ((o0.l).length : Int))) 16 (.int .i64 z396)) ∧ St w0 w I [cells b314 [v315], ownS ty_api_Hold v315 o0.l, cells b309 [U6 a1.ID.Session, U6 a1.ID.Seq, U6 a1.Epoch, r1_0, r1_1, r1_2, r1_3]] R) n398 ⟨(0:Int), _, hm, (fu 0 (Pt b314 0) z (fu 3 (Pt b309 0) z (fu 14 v315 z (fu 15 (.int .i64 ((o0.l).length : Int)) z (fu 16 (.int .i64 (0:Int)) z z))))), hst⟩ ?_
 rintro n404 _ w399 ⟨z396, σ397, hm, rfl, hst⟩
 obtain ⟨n401, y402, rfl, hm, hx403⟩ := loopN_some hm
 dsimp only [locks_Table_Take_l1] at hm
 refine wp_seq (wrl (wv (.bool (decide (z396 < ((o0.l).length : Int)))) z z z (wl_nil (tn (wp_seq ?_)))))
 refine bsplit (decide (z396 < ((o0.l).length : Int))) (fun hc405 => ?_) (fun hc405 => ?_)
 {
 replace hm := bif_t hc405 hm
 refine wp_ift (cvb hc405) ?_
 refine wp_skip (tn (wp_seq (wp_block (wp_seq (wrl ?_)))))
 obtain ⟨x406, hx407, hm⟩ := bind_some hm
 obtain ⟨h408, h409, hi410⟩ := geto_some hx407
 refine wv (.pointer (some (eAddr v315 (z396.toNat * 7 + 0)))) z z (x_index z z underlying22 sizeOf34 hst.sv1 h408 h409) ?_
 obtain ⟨cs411, hr412, hc413⟩ := hst.og1 hi410
 obtain ⟨v414, v417, v420, v423, rfl, f415, f418, f421, f424, -⟩ := hr412
 refine wv (.agg #[U6 x406.ID.Session, U6 x406.ID.Seq, U6 x406.Epoch, v414, v417, v420, v423]) z z (x_loadN (cs := [U6 x406.ID.Session, U6 x406.ID.Seq, U6 x406.Epoch, v414, v417, v420, v423]) z isAgg34 sizeOf34 (eCells (o := 0) hc413 z)) ?_
 obtain ⟨b430, w431, ew432, eb433, hst⟩ := hst.box [Zu, Zu, Zu, Zs, Zs, Zs, Zs] 34
 refine wl_run (v := Pt b430 0) (w' := w431) z z (x_al (by kernel_rfl) ew432 eb433) ?_
 obtain ⟨w435, hr436, hst⟩ := hst.bx [U6 x406.ID.Session, U6 x406.ID.Seq, U6 x406.Epoch, v414, v417, v420, v423] sizeOf34 z (oC z (oC z (oC z (oC (one_of_sliceV (ro_sliceV f415)) (oC (one_of_sliceV (ro_sliceV f418)) (oC (one_of_sliceV (ro_sliceV f421)) (oC (one_of_sliceV (ro_sliceV f424)) oN))))))) (by kernel_rfl)
 refine wl_unit z z (x_unit hr436) ?_
 refine wl_nil (tn (wp_seq (wrl (wv (Pt b430 0) z z (x_field z underlying34 z sizeOf29 z) (wv (.agg #[U6 x406.ID.Session, U6 x406.ID.Seq]) z z (x_loadN (cs := [U6 x406.ID.Session, U6 x406.ID.Seq]) z isAgg29 sizeOf29 (hst.bcs0 0 z)) (wv (Pt b309 0) z z (x_field z underlying34 z sizeOf29 z) (wv (.agg #[U6 a1.ID.Session, U6 a1.ID.Seq]) z z (x_loadN (cs := [U6 a1.ID.Session, U6 a1.ID.Seq]) z isAgg29 sizeOf29 (hst.bcs3 0 z)) (wv (.bool (!((x406.ID.Session == a1.ID.Session) && (x406.ID.Seq == a1.ID.Seq)))) z z (x_aggne2 z z (by kernel_rfl) underlying29 (by kernel_rfl) (by kernel_rfl) (by kernel_rfl) underlying27 underlying27 (fun _ _ _ => by kernel_rfl) (fun _ _ _ => by kernel_rfl)) (wv (.bool (!((x406.ID.Session == a1.ID.Session) && (x406.ID.Seq == a1.ID.Seq)))) z z z ?_)))))))))
 refine bsplit (!((x406.ID.Session == a1.ID.Session) && (x406.ID.Seq == a1.ID.Seq))) (fun hc437 => ?_) (fun hc437 => ?_)
 {
 replace hm := bif_t hc437 hm
 refine wv (.agg #[U6 x406.ID.Session, U6 x406.ID.Seq, U6 x406.Epoch, v414, v417, v420, v423]) ((wanted_eq z z z (cvb hc437)).trans z) z (x_loadN (cs := [U6 x406.ID.Session, U6 x406.ID.Seq, U6 x406.Epoch, v414, v417, v420, v423]) z isAgg34 sizeOf34 (hst.bcs0 0 z)) (wv (.agg #[U6 a1.ID.Session, U6 a1.ID.Seq, U6 a1.Epoch, r1_0, r1_1, r1_2, r1_3]) ((wanted_eq z z z (cvb hc437)).trans z) z (x_loadN (cs := [U6 a1.ID.Session, U6 a1.ID.Seq, U6 a1.Epoch, r1_0, r1_1, r1_2, r1_3]) z isAgg34 sizeOf34 (hst.bcs3 0 z)) ?_)
 obtain ⟨t438, ht439, hm⟩ := bind_some hm
 refine wl_call ((wanted_eq z z z (cvb hc437)).trans z) z (x_call call19 z (vs := [.agg #[U6 x406.ID.Session, U6 x406.ID.Seq, U6 x406.Epoch, v414, v417, v420, v423], .agg #[U6 a1.ID.Session, U6 a1.ID.Seq, U6 a1.Epoch, r1_0, r1_1, r1_2, r1_3]]) z) ?_
 refine (locks_Meet_ref (f415.mono ro_rd) (f418.mono ro_rd) (f421.mono ro_rd) (f424.mono ro_rd) (f1_0.mono (rd_weak _)) (f1_1.mono (rd_weak _)) (f1_2.mono (rd_weak _)) (f1_3.mono (rd_weak _)) hst.to0 ht439).mono ?_
 rintro _ w440 ⟨rfl, hst⟩
 refine ⟨_, z, ?_⟩
 replace hst := hst.of0
 refine wv (.bool t438) z z (x_pick_t hc437 z z) (wl_nil (tn ?_))
 refine bsplit t438 (fun hc443 => ?_) (fun hc443 => ?_)
 {
 replace hm := bif_t hc443 hm
 refine wp_ift (cvb hc443) ?_
 refine wp_seq (wrl (wv (.int .i64 (8:Int)) z z z (wl_nil (tn (wp_ret (blk_r (then_r (then_r ?_))))))))
 replace hm := inr_up hm hx403
 refine blk_r (then_r ?_)
 replace hm := inr_up hm hx447
 replace hst := hst.pull2.pull2
 replace hst := at_locks_Table_close (pv := Pt b314 0) (x := o0) hst z
 replace hst := objO_some hst
 obtain rfl := some_inj hm
 refine post_ret (vs := [I6 (8:Int)]) results12 (rvs_cons (rv_tmp z) rvs_nil) ?_
 exact ⟨_, z, hI0, hst.keep1⟩
}
 {
 replace hm := bif_f hc443 hm
 refine wp_iff (cvb hc443) ?_
 refine wp_skip (blk_n (tn (wrl ?_)))
 refine wv (.int .i64 (i64.wrap (z396 + (1:Int)))) z z z (wv (.int .i64 (i64.wrap (z396 + (1:Int)))) z z z (wl_nil (tn ?_)))
 replace hst := hst.pull3.pull3.pull3.keep3
 obtain rfl := some_inj hm
 exact ⟨_, Nat.lt_succ_self _, (i64.wrap (z396 + (1:Int))), _, hx403, (fu 0 (Pt b314 0) z (fu 3 (Pt b309 0) z (fu 14 v315 z (fu 15 (.int .i64 ((o0.l).length : Int)) z (fu 16 (.int .i64 (i64.wrap (z396 + (1:Int)))) z z))))), hst⟩
}
}
 {
 replace hm := bif_f hc437 hm
 refine wo hc437 z z z z z z (wo hc437 z z z z z z (wo hc437 z z z z z z (wv (.bool false) z z (x_pick_f hc437 z z) (wl_nil (tn ?_)))))
 refine wp_iff z ?_
 refine wp_skip (blk_n (tn (wrl ?_)))
 refine wv (.int .i64 (i64.wrap (z396 + (1:Int)))) z z z (wv (.int .i64 (i64.wrap (z396 + (1:Int)))) z z z (wl_nil (tn ?_)))
 replace hst := hst.pull3.pull3.pull3.keep3
 obtain rfl := some_inj hm
 exact ⟨_, Nat.lt_succ_self _, (i64.wrap (z396 + (1:Int))), _, hx403, (fu 0 (Pt b314 0) z (fu 3 (Pt b309 0) z (fu 14 v315 z (fu 15 (.int .i64 ((o0.l).length : Int)) z (fu 16 (.int .i64 (i64.wrap (z396 + (1:Int)))) z z))))), hst⟩
}
}
 {
 replace hm := bif_f hc405 hm
 refine wp_iff (cvb hc405) ?_
 refine wp_exit (then_x (then_x ?_))
 replace hm := inr_up hm hx403
 refine blk_x (tn ?_)
 replace hst := hst.pull1.pull1
 replace hst := at_locks_Table_close (pv := Pt b314 0) (x := o0) hst z
 replace hst := hst.pull1.pull1.keep2
 obtain rfl := some_inj hm
 exact ⟨_, hx447, (fu 0 (Pt b314 0) z (fu 3 (Pt b309 0) z z)), hst⟩
}
}
 {
 clear hst
 rintro _ w448 ⟨σ444, hm, rfl, hst⟩
 dsimp only [locks_Table_Take_j0] at hm
 refine wp_seq ?_
 refine wp_region_St hst 18 [0, 1, 2, 3, 4, 5, 6, 7, 8, 9, 10, 11, 12, 13, 14, 15, 16, 17] [0, 1, 0, 4, 0, 16, 48, 0, 128, 496, 0, 1024, 4080, 0, 8192, 32752, 65535, 131071] [] z (by kernel_rfl) (by kernel_rfl) Try.mixed (by kernel_rfl) ?_
 refine wsr (Pt b309 0) 0 z z z (by kernel_rfl) (fun w hst => x_field z underlying34 z sizeOf29 z) (wsr (.agg #[U6 a1.ID.Session, U6 a1.ID.Seq]) 1 z z z (by kernel_rfl) (fun w hst => x_loadN (cs := [U6 a1.ID.Session, U6 a1.ID.Seq]) z isAgg29 sizeOf29 (hst.bcs1 0 z)) (wsr (Pt b309 2) 2 z z z (by kernel_rfl) (fun w hst => x_field z underlying34 z sizeOf27 z) (wsr (.int .u64 a1.Epoch) 3 z z z (by kernel_rfl) (fun w hst => x_load z isAgg27 (hst.bc1 z)) (wsr (Pt b309 3) 4 z z z (by kernel_rfl) (fun w hst => x_field z underlying34 z sizeOf30 z) (wsr (r1_0) 5 z z z (by kernel_rfl) (fun w hst => x_load z isAgg30 (hst.bc1 z)) (wsr (Pt b309 4) 7 z z z (by kernel_rfl) (fun w hst => x_field z underlying34 z sizeOf31 z) (wsr (r1_1) 8 z z z (by kernel_rfl) (fun w hst => x_load z isAgg31 (hst.bc1 z)) (wsr (Pt b309 5) 10 z z z (by kernel_rfl) (fun w hst => x_field z underlying34 z sizeOf30 z) (wsr (r1_2) 11 z z z (by kernel_rfl) (fun w hst => x_load z isAgg30 (hst.bc1 z)) (wsr (Pt b309 6) 13 z z z (by kernel_rfl) (fun w hst => x_field z underlying34 z sizeOf32 z) (wsr (r1_3) 14 z z z (by kernel_rfl) (fun w hst => x_load z isAgg32 (hst.bc1 z)) ?_)))))))))))
 refine ws_e1 6 (by kernel_rfl) ?_
 refine nxe [9, 12, 15, 16, 17] (by kernel_rfl) z z ?_
 clear hst
 intro w hst
 obtain ⟨t449, ht450, hm⟩ := bind_some hm
 refine wec call37 [r1_0] z z ?_
 refine (slices_Clone_float64_float64_ref (f1_0.mono (rd_weak _)) hst.to0 ht450).mono ?_
 rintro _ w451 ⟨v454, rfl, hst⟩
 refine ⟨_, z, ?_⟩
 replace hst := hst.of1
 refine ws_next (pend' := [(14, r1_3), (13, Pt b309 6), (11, r1_2), (10, Pt b309 5), (8, r1_1), (7, Pt b309 4), (3, U6 a1.Epoch), (2, Pt b309 2), (1, .agg #[U6 a1.ID.Session, U6 a1.ID.Seq]), (0, Pt b309 0)]) hst (by kernel_rfl) (pkr z z (fun w hst => x_load z isAgg32 (hst.bc2 z)) (pkr z z (fun w hst => x_field z underlying34 z sizeOf32 z) (pkr z z (fun w hst => x_load z isAgg30 (hst.bc2 z)) (pkr z z (fun w hst => x_field z underlying34 z sizeOf30 z) (pkr z z (fun w hst => x_load z isAgg31 (hst.bc2 z)) (pkr z z (fun w hst => x_field z underlying34 z sizeOf31 z) (pkr z z (fun w hst => x_load z isAgg27 (hst.bc2 z)) (pkr z z (fun w hst => x_field z underlying34 z sizeOf27 z) (pkr z z (fun w hst => x_loadN (cs := [U6 a1.ID.Session, U6 a1.ID.Seq]) z isAgg29 sizeOf29 (hst.bcs2 0 z)) (pkr z z (fun w hst => x_field z underlying34 z sizeOf29 z) pk_nil)))))))))) ?_
 refine ws_e1 9 (by kernel_rfl) ?_
 refine nxe [12, 15, 16, 17] (by kernel_rfl) z z ?_
 clear hst
 intro w hst
 obtain ⟨t456, ht457, hm⟩ := bind_some hm
 refine wec call38 [r1_1] z z ?_
 refine (slices_Clone_2_float64_2_float64_ref (f1_1.mono (rd_weak _)) hst.to0 ht457).mono ?_
 rintro _ w458 ⟨v461, rfl, hst⟩
 refine ⟨_, z, ?_⟩
 replace hst := hst.of1
 refine ws_next (pend' := [(14, r1_3), (13, Pt b309 6), (11, r1_2), (10, Pt b309 5), (3, U6 a1.Epoch), (2, Pt b309 2), (1, .agg #[U6 a1.ID.Session, U6 a1.ID.Seq]), (0, Pt b309 0)]) hst (by kernel_rfl) (pkr z z (fun w hst => x_load z isAgg32 (hst.bc3 z)) (pkr z z (fun w hst => x_field z underlying34 z sizeOf32 z) (pkr z z (fun w hst => x_load z isAgg30 (hst.bc3 z)) (pkr z z (fun w hst => x_field z underlying34 z sizeOf30 z) (pkr z z (fun w hst => x_load z isAgg27 (hst.bc3 z)) (pkr z z (fun w hst => x_field z underlying34 z sizeOf27 z) (pkr z z (fun w hst => x_loadN (cs := [U6 a1.ID.Session, U6 a1.ID.Seq]) z isAgg29 sizeOf29 (hst.bcs3 0 z)) (pkr z z (fun w hst => x_field z underlying34 z sizeOf29 z) pk_nil)))))))) ?_
 refine ws_e1 12 (by kernel_rfl) ?_
 refine nxe [15, 16, 17] (by kernel_rfl) z z ?_
 clear hst
 intro w hst
 obtain ⟨t463, ht464, hm⟩ := bind_some hm
 refine wec call37 [r1_2] z z ?_
 refine (slices_Clone_float64_float64_ref (f1_2.mono (rd_weak _)) hst.to0 ht464).mono ?_
 rintro _ w465 ⟨v468, rfl, hst⟩
 refine ⟨_, z, ?_⟩
 replace hst := hst.of1
 refine ws_next (pend' := [(14, r1_3), (13, Pt b309 6), (3, U6 a1.Epoch), (2, Pt b309 2), (1, .agg #[U6 a1.ID.Session, U6 a1.ID.Seq]), (0, Pt b309 0)]) hst (by kernel_rfl) (pkr z z (fun w hst => x_load z isAgg32 (hst.bc4 z)) (pkr z z (fun w hst => x_field z underlying34 z sizeOf32 z) (pkr z z (fun w hst => x_load z isAgg27 (hst.bc4 z)) (pkr z z (fun w hst => x_field z underlying34 z sizeOf27 z) (pkr z z (fun w hst => x_loadN (cs := [U6 a1.ID.Session, U6 a1.ID.Seq]) z isAgg29 sizeOf29 (hst.bcs4 0 z)) (pkr z z (fun w hst => x_field z underlying34 z sizeOf29 z) pk_nil)))))) ?_
 refine ws_e1 15 (by kernel_rfl) ?_
 refine nxe [16, 17] (by kernel_rfl) z z ?_
 clear hst
 intro w hst
 obtain ⟨t470, ht471, hm⟩ := bind_some hm
 refine wec call39 [r1_3] z z ?_
 refine (slices_Clone_byte_byte_ref (f1_3.mono (rd_weak _)) hst.to0 ht471).mono ?_
 rintro _ w472 ⟨v475, rfl, hst⟩
 refine ⟨_, z, ?_⟩
 replace hst := hst.of1
 refine ws_next (pend' := [(3, U6 a1.Epoch), (2, Pt b309 2), (1, .agg #[U6 a1.ID.Session, U6 a1.ID.Seq]), (0, Pt b309 0)]) hst (by kernel_rfl) (pkr z z (fun w hst => x_load z isAgg27 (hst.bc5 z)) (pkr z z (fun w hst => x_field z underlying34 z sizeOf27 z) (pkr z z (fun w hst => x_loadN (cs := [U6 a1.ID.Session, U6 a1.ID.Seq]) z isAgg29 sizeOf29 (hst.bcs5 0 z)) (pkr z z (fun w hst => x_field z underlying34 z sizeOf29 z) pk_nil)))) ?_
 refine wsr (.agg #[U6 a1.ID.Session, U6 a1.ID.Seq, U6 a1.Epoch, v454, v461, v468, v475]) 16 rfl rfl rfl (by kernel_rfl) (fun w hst => by obtain ⟨_, _, hv_, _⟩ := hst.sv0; rw [hv_]; obtain ⟨_, _, hv_, _⟩ := hst.sv1; rw [hv_]; obtain ⟨_, _, hv_, _⟩ := hst.sv2; rw [hv_]; obtain ⟨_, _, hv_, _⟩ := hst.sv3; rw [hv_]; kernel_rfl) ?_
 refine ws_e1 17 (by kernel_rfl) ?_
 refine nxe [] (by kernel_rfl) z z ?_
 clear hst
 intro w hst
 replace hst := hst.pull5
 obtain ⟨w481, hr482, hst⟩ := hst.bx [U6 a1.ID.Session, U6 a1.ID.Seq, U6 a1.Epoch, v454, v461, v468, v475] sizeOf34 z (oC z (oC z (oC z (oC (one_of_sliceV hst.sv4) (oC (one_of_sliceV hst.sv3) (oC (one_of_sliceV hst.sv2) (oC (one_of_sliceV hst.sv1) oN))))))) (by kernel_rfl)
 refine we_unit z (x_unit hr482) ?_
 refine ws_next (pend' := []) hst (by kernel_rfl) pk_nil ?_
 refine ws_nil ?_
 intro w hst
 refine tn (wp_seq (wrl (wv (Pt b314 0) z z z (wv (Pt b309 0) z z (x_field z underlying34 z sizeOf29 z) (wv (.agg #[U6 a1.ID.Session, U6 a1.ID.Seq]) z z (x_loadN (cs := [U6 a1.ID.Session, U6 a1.ID.Seq]) z isAgg29 sizeOf29 (hst.bcs0 0 z)) ?_)))))
 replace hst := hst.pull5
 replace hst := objO_some hst
 obtain ⟨t483, ht484, hm⟩ := bind_some hm
 refine wc call40 [Pt b314 0, .agg #[U6 a1.ID.Session, U6 a1.ID.Seq]] z z z ?_
 refine (locks_Table_find_ref hst.to1 ht484).mono ?_
 rintro _ w485 ⟨rfl, hst⟩
 refine ⟨_, z, ?_⟩
 replace hst := hst.of1
 replace hst := objO_get hst
 refine wv (.tuple #[I6 t483.1, .bool t483.2]) z z z (wv (.int .i64 t483.1) z z z (wv (.bool t483.2) z z z (wv (.int .i64 t483.1) z z z (wv (.bool t483.2) z z z (wl_nil (tn (wp_seq (wp_seq (wrl (wv (.bool t483.2) z z z (wl_nil (tn ?_))))))))))))
 refine bsplit t483.2 (fun hc488 => ?_) (fun hc488 => ?_)
 {
 replace hm := bif_t hc488 hm
 refine wp_ift (cvb hc488) ?_
 obtain ⟨b489, v490, e492, hst'⟩ := at_locks_Table_open hst
 clear hst
 have e492 := ptr_inj e492
 subst e492
 have hst := hst'
 clear hst'
 refine wp_region_St hst 8 [0, 1, 2, 3, 4, 5, 6, 7] [0, 1, 3, 7, 0, 0, 63, 127] [] z (by kernel_rfl) (by kernel_rfl) Try.mixed (by kernel_rfl) ?_
 refine wsr (Pt b314 0) 0 z z z (by kernel_rfl) (fun w hst => z) (wsr (Pt b314 0) 1 z z z (by kernel_rfl) (fun w hst => z) (wsr (Pt b314 0) 2 z z z (by kernel_rfl) (fun w hst => x_field z underlying77 z sizeOf22 z) (wsr (v490) 3 z z z (by kernel_rfl) (fun w hst => x_load z isAgg22 (hst.bc0 z)) (wsr (.int .i64 t483.1) 4 z z z (by kernel_rfl) (fun w hst => z) (wsr (.agg #[U6 a1.ID.Session, U6 a1.ID.Seq, U6 a1.Epoch, v454, v461, v468, v475]) 5 z z z (by kernel_rfl) (fun w hst => x_loadN (cs := [U6 a1.ID.Session, U6 a1.ID.Seq, U6 a1.Epoch, v454, v461, v468, v475]) z isAgg34 sizeOf34 (hst.bcs2 0 z)) ?_)))))
 obtain ⟨x493, hx494, hm⟩ := bind_some hm
 obtain ⟨h495, h496, hi497⟩ := geto_some hx494
 refine wsr (.pointer (some (eAddr v490 (t483.1.toNat * 7 + 0)))) 6 z z z (by kernel_rfl) (fun w hst => x_index z z underlying22 sizeOf34 hst.sv1 h495 h496) ?_
 refine ws_e1 7 (by kernel_rfl) ?_
 refine nxe [] (by kernel_rfl) z z ?_
 clear hst
 intro w hst
 obtain ⟨cs498, hr499, hc500⟩ := hst.og1 hi497
 obtain ⟨v501, v504, v507, v510, rfl, f502, f505, f508, f511, -⟩ := hr499
 replace hst := hst.pull6
 obtain ⟨I513, hI514, f515, hst⟩ := hst.own_fix
 replace f1_0 := f1_0.mono (rd_le hI514)
 replace f1_1 := f1_1.mono (rd_le hI514)
 replace f1_2 := f1_2.mono (rd_le hI514)
 replace f1_3 := f1_3.mono (rd_le hI514)
 replace f502 := f502.mono (ro_le hI514)
 replace f505 := f505.mono (ro_le hI514)
 replace f508 := f508.mono (ro_le hI514)
 replace f511 := f511.mono (ro_le hI514)
 replace hI0 := hI0.trans hI514
 replace hst := hst.pull5
 obtain ⟨I516, hI517, f518, hst⟩ := hst.own_fix
 replace f1_0 := f1_0.mono (rd_le hI517)
 replace f1_1 := f1_1.mono (rd_le hI517)
 replace f1_2 := f1_2.mono (rd_le hI517)
 replace f1_3 := f1_3.mono (rd_le hI517)
 replace f502 := f502.mono (ro_le hI517)
 replace f505 := f505.mono (ro_le hI517)
 replace f508 := f508.mono (ro_le hI517)
 replace f511 := f511.mono (ro_le hI517)
 replace f515 := f515.mono (ro_le hI517)
 replace hI0 := hI0.trans hI517
 replace hst := hst.pull4
 obtain ⟨I519, hI520, f521, hst⟩ := hst.own_fix
 replace f1_0 := f1_0.mono (rd_le hI520)
 replace f1_1 := f1_1.mono (rd_le hI520)
 replace f1_2 := f1_2.mono (rd_le hI520)
 replace f1_3 := f1_3.mono (rd_le hI520)
 replace f502 := f502.mono (ro_le hI520)
 replace f505 := f505.mono (ro_le hI520)
 replace f508 := f508.mono (ro_le hI520)
 replace f511 := f511.mono (ro_le hI520)
 replace f515 := f515.mono (ro_le hI520)
 replace f518 := f518.mono (ro_le hI520)
 replace hI0 := hI0.trans hI520
 replace hst := hst.pull3
 obtain ⟨I522, hI523, f524, hst⟩ := hst.own_fix
 replace f1_0 := f1_0.mono (rd_le hI523)
 replace f1_1 := f1_1.mono (rd_le hI523)
 replace f1_2 := f1_2.mono (rd_le hI523)
 replace f1_3 := f1_3.mono (rd_le hI523)
 replace f502 := f502.mono (ro_le hI523)
 replace f505 := f505.mono (ro_le hI523)
 replace f508 := f508.mono (ro_le hI523)
 replace f511 := f511.mono (ro_le hI523)
 replace f515 := f515.mono (ro_le hI523)
 replace f518 := f518.mono (ro_le hI523)
 replace f521 := f521.mono (ro_le hI523)
 replace hI0 := hI0.trans hI523
 replace hst := hst.pull1
 obtain ⟨w525, hr526, hst⟩ := hst.own_store (P := prog) (t := 34) (y := ({ ID := a1.ID, Epoch := a1.Epoch, Gets := t449, Scans := t456, Puts := t463, Data := t470 } : api_Hold)) hi497 0 (.agg #[U6 a1.ID.Session, U6 a1.ID.Seq, U6 a1.Epoch, v454, v461, v468, v475]) sizeOf34 (Nat.le_of_ble_eq_true z) (oC z (oC z (oC z (oC (one_of_sliceV (ro_sliceV f515)) (oC (one_of_sliceV (ro_sliceV f518)) (oC (one_of_sliceV (ro_sliceV f521)) (oC (one_of_sliceV (ro_sliceV f524)) oN))))))) (fun cs h => ⟨_, _, _, _, setMany_all (ty_api_Hold.len h) z, f515, f518, f521, f524, one_of_sliceV (ro_sliceV f515), one_of_sliceV (ro_sliceV f518), one_of_sliceV (ro_sliceV f521), one_of_sliceV (ro_sliceV f524)⟩)
 have hi527 := set_get hi497 ({ ID := a1.ID, Epoch := a1.Epoch, Gets := t449, Scans := t456, Puts := t463, Data := t470 } : api_Hold)
 have h528 := set_lt h496 t483.1.toNat ({ ID := a1.ID, Epoch := a1.Epoch, Gets := t449, Scans := t456, Puts := t463, Data := t470 } : api_Hold)
 refine we_unit z (x_unit hr526) ?_
 refine ws_next (pend' := []) hst (by kernel_rfl) pk_nil ?_
 refine ws_nil ?_
 intro w hst
 refine tn (wp_seq (wrl (wv (.int .i64 (0:Int)) z z z (wl_nil (tn (wp_ret ?_))))))
 replace hst := hst.pull1
 replace hst := at_locks_Table_close (pv := Pt b314 0) (x := ({ l := (o0.l.set t483.1.toNat ({ ID := a1.ID, Epoch := a1.Epoch, Gets := t449, Scans := t456, Puts := t463, Data := t470 } : api_Hold)) } : locks_Table)) hst z
 replace hst := objO_some hst
 obtain rfl := some_inj hm
 refine post_ret (vs := [Zi]) results12 (rvs_cons (rv_tmp z) rvs_nil) ?_
 exact ⟨_, z, hI0, hst.keep1⟩
}
 {
 replace hm := bif_f hc488 hm
 refine wp_iff (cvb hc488) ?_
 obtain ⟨b529, v530, e532, hst'⟩ := at_locks_Table_open hst
 clear hst
 have e532 := ptr_inj e532
 subst e532
 have hst := hst'
 clear hst'
 refine wp_region_St hst 12 [0, 1, 2, 3, 4, 5, 6, 7, 8, 9, 10, 11] [0, 0, 2, 6, 14, 0, 0, 64, 254, 511, 1023, 2047] [] z (by kernel_rfl) (by kernel_rfl) Try.mixed (by kernel_rfl) ?_
 refine wsr (Pt b314 0) 0 z z z (by kernel_rfl) (fun w hst => z) (wsr (Pt b314 0) 1 z z z (by kernel_rfl) (fun w hst => z) (wsr (Pt b314 0) 2 z z z (by kernel_rfl) (fun w hst => z) (wsr (Pt b314 0) 3 z z z (by kernel_rfl) (fun w hst => x_field z underlying77 z sizeOf22 z) (wsr (v530) 4 z z z (by kernel_rfl) (fun w hst => x_load z isAgg22 (hst.bc0 z)) (wsr (.int .i64 t483.1) 5 z z z (by kernel_rfl) (fun w hst => z) (wsr (.agg #[U6 a1.ID.Session, U6 a1.ID.Seq, U6 a1.Epoch, v454, v461, v468, v475]) 6 z z z (by kernel_rfl) (fun w hst => x_loadN (cs := [U6 a1.ID.Session, U6 a1.ID.Seq, U6 a1.Epoch, v454, v461, v468, v475]) z isAgg34 sizeOf34 (hst.bcs2 0 z)) ?_))))))
 refine ws_e1 7 (by kernel_rfl) ?_
 refine nxe [8, 9, 10, 11] (by kernel_rfl) z z ?_
 clear hst
 intro w hst
 replace hst := hst.pull6
 obtain ⟨I537, hI538, f539, hst⟩ := hst.own_fix
 replace f1_0 := f1_0.mono (rd_le hI538)
 replace f1_1 := f1_1.mono (rd_le hI538)
 replace f1_2 := f1_2.mono (rd_le hI538)
 replace f1_3 := f1_3.mono (rd_le hI538)
 replace hI0 := hI0.trans hI538
 replace hst := hst.pull5
 obtain ⟨I540, hI541, f542, hst⟩ := hst.own_fix
 replace f1_0 := f1_0.mono (rd_le hI541)
 replace f1_1 := f1_1.mono (rd_le hI541)
 replace f1_2 := f1_2.mono (rd_le hI541)
 replace f1_3 := f1_3.mono (rd_le hI541)
 replace f539 := f539.mono (ro_le hI541)
 replace hI0 := hI0.trans hI541
 replace hst := hst.pull4
 obtain ⟨I543, hI544, f545, hst⟩ := hst.own_fix
 replace f1_0 := f1_0.mono (rd_le hI544)
 replace f1_1 := f1_1.mono (rd_le hI544)
 replace f1_2 := f1_2.mono (rd_le hI544)
 replace f1_3 := f1_3.mono (rd_le hI544)
 replace f539 := f539.mono (ro_le hI544)
 replace f542 := f542.mono (ro_le hI544)
 replace hI0 := hI0.trans hI544
 replace hst := hst.pull3
 obtain ⟨I546, hI547, f548, hst⟩ := hst.own_fix
 replace f1_0 := f1_0.mono (rd_le hI547)
 replace f1_1 := f1_1.mono (rd_le hI547)
 replace f1_2 := f1_2.mono (rd_le hI547)
 replace f1_3 := f1_3.mono (rd_le hI547)
 replace f539 := f539.mono (ro_le hI547)
 replace f542 := f542.mono (ro_le hI547)
 replace f545 := f545.mono (ro_le hI547)
 replace hI0 := hI0.trans hI547
 obtain ⟨b549, w550, ew551, eb552, hst⟩ := hst.lits (E := ty_api_Hold) (xs := [({ ID := a1.ID, Epoch := a1.Epoch, Gets := t449, Scans := t456, Puts := t463, Data := t470 } : api_Hold)]) [[U6 a1.ID.Session, U6 a1.ID.Seq, U6 a1.Epoch, v454, v461, v468, v475]] 34 1 z (Reps.cons ⟨_, _, _, _, z, f539, f542, f545, f548, one_of_sliceV (ro_sliceV f539), one_of_sliceV (ro_sliceV f542), one_of_sliceV (ro_sliceV f545), one_of_sliceV (ro_sliceV f548)⟩ Reps.nil)
 refine we_run (v := (.slice (some ⟨b549, 0, none⟩) 1 1)) (w' := w550) z (x_als (by kernel_rfl) ew551 eb552) ?_
 refine ws_next (pend' := [(5, I6 t483.1), (4, v530), (3, Pt b314 0), (2, Pt b314 0), (1, Pt b314 0), (0, Pt b314 0)]) hst (by kernel_rfl) (pkr z z (fun w hst => z) (pkr z z (fun w hst => x_load z isAgg22 (hst.bc1 z)) (pkr z z (fun w hst => x_field z underlying77 z sizeOf22 z) (pkr z z (fun w hst => z) (pkr z z (fun w hst => z) (pkr z z (fun w hst => z) pk_nil)))))) ?_
 refine ws_e1 8 (by kernel_rfl) ?_
 refine nxe [9, 10, 11] (by kernel_rfl) z z ?_
 clear hst
 intro w hst
 replace hst := hst.pull2
 obtain ⟨t554, ht555, hm⟩ := bind_some hm
 refine wec call41 [v530, I6 t483.1, (.slice (some ⟨b549, 0, none⟩) 1 1)] z z ?_
 refine (slices_Insert_api_Hold_api_Hold_ref hst.to2 ht555).mono ?_
 rintro _ w556 ⟨v559, rfl, hst⟩
 refine ⟨_, z, ?_⟩
 replace hst := hst.of1
 refine ws_next (pend' := [(0, Pt b314 0)]) hst (by kernel_rfl) (pkr z z (fun w hst => z) pk_nil) ?_
 refine wsr (Pt b314 0) 9 z z z (by kernel_rfl) (fun w hst => z) (wsr (Pt b314 0) 10 z z z (by kernel_rfl) (fun w hst => x_field z underlying77 z sizeOf22 z) ?_)
 refine ws_e1 11 (by kernel_rfl) ?_
 refine nxe [] (by kernel_rfl) z z ?_
 clear hst
 intro w hst
 replace hst := hst.pull1
 obtain ⟨w561, hr562, hst⟩ := hst.boxStore1 (P := prog) (t := 22) (cs' := [v559]) 0 v559 (one_of_sliceV hst.sv1) sizeOf22 z z
 refine we_unit z (x_unit hr562) ?_
 refine ws_next (pend' := []) hst (by kernel_rfl) pk_nil ?_
 refine ws_nil ?_
 intro w hst
 refine tn (wp_seq (wrl (wv (.int .i64 (0:Int)) z z z (wl_nil (tn (wp_ret ?_))))))
 replace hst := hst.pull1.pull1
 replace hst := at_locks_Table_close (pv := Pt b314 0) (x := ({ l := t554 } : locks_Table)) hst z
 replace hst := objO_some hst
 obtain rfl := some_inj hm
 refine post_ret (vs := [Zi]) results12 (rvs_cons (rv_tmp z) rvs_nil) ?_
 exact ⟨_, z, hI0, hst.keep1⟩
}
}
}
}

theorem locks_Table_Get_ref {w0 w : World} {I : HL} {R : SP} {a0 : (Option locks_Table)} {p0 : Value} {a1 : api_ID}  (hst : St w0 w I [objO at_locks_Table p0 a0] R) {r : (api_Hold × Bool)} (hm : locks_Table_Get a0 a1 = some r) :
  Calls prog 14 #[p0, .agg #[U6 a1.Session, U6 a1.Seq]] w fun e w' => ∃ (I' : HL) (q0_0 : Value) (q0_1 : Value) (q0_2 : Value) (q0_3 : Value), e = .returned (.tuple #[.agg #[U6 r.1.ID.Session, U6 r.1.ID.Seq, U6 r.1.Epoch, q0_0, q0_1, q0_2, q0_3], .bool r.2]) ∧ I.le I' ∧ Ro tyF64 I' q0_0 r.1.Gets ∧ Ro tyF2 I' q0_1 r.1.Scans ∧ Ro tyF64 I' q0_2 r.1.Puts ∧ Ro (tyInt .u8) I' q0_3 r.1.Data ∧ St w0 w' I' [objO at_locks_Table p0 a0] R := by {
 rcases a0 with _ | o0
 {
 obtain ⟨rfl, hst'⟩ := objO_none hst
 clear hst
 have hst := hst'
 clear hst'
 dsimp only [locks_Table_Get] at hm
 refine calls_start (args := [.pointer none, .agg #[U6 a1.Session, U6 a1.Seq]]) func14 z ntmps14 (Nat.le_of_ble_eq_true z) ?_
 have hI0 := HL.le.refl I
 refine wp_seq (wrl ?_)
 obtain ⟨b142, w143, ew144, eb145, hst⟩ := hst.box [U6 a1.Session, U6 a1.Seq] 29
 refine wl_run (v := Pt b142 0) (w' := w143) z z (x_al (by kernel_rfl) ew144 eb145) ?_
 obtain ⟨b151, w152, ew153, eb154, hst⟩ := hst.box [Zu, Zu, Zu, Zs, Zs, Zs, Zs] 34
 refine wl_run (v := Pt b151 0) (w' := w152) z z (x_al (by kernel_rfl) ew153 eb154) ?_
 refine wv (.bool false) z z z (wl_nil (tn (wp_seq (wrl (wv (.pointer none) z z z (wv (.agg #[U6 a1.Session, U6 a1.Seq]) z z (x_loadN (cs := [U6 a1.Session, U6 a1.Seq]) z isAgg29 sizeOf29 (hst.bcs1 0 z)) ?_))))))
 replace hst := hst.objO_nil at_locks_Table
 obtain ⟨t157, ht158, hm⟩ := bind_some hm
 refine wc call40 [.pointer none, .agg #[U6 a1.Session, U6 a1.Seq]] z z z ?_
 refine (locks_Table_find_ref hst.to1 ht158).mono ?_
 rintro _ w159 ⟨rfl, hst⟩
 refine ⟨_, z, ?_⟩
 replace hst := hst.of1
 refine wv (.tuple #[I6 t157.1, .bool t157.2]) z z z (wv (.int .i64 t157.1) z z z (wv (.bool t157.2) z z z (wv (.int .i64 t157.1) z z z (wv (.bool t157.2) z z z (wl_nil (tn (wp_seq (wp_seq (wrl (wv (.bool t157.2) z z z (wv (.bool (!t157.2)) z z z (wl_nil (tn ?_)))))))))))))
 refine bsplit (!t157.2) (fun hc162 => ?_) (fun hc162 => ?_)
 {
 replace hm := bif_t hc162 hm
 refine wp_ift (cvb hc162) ?_
 refine wp_seq (wrl (wv (.agg #[Zu, Zu, Zu, Zs, Zs, Zs, Zs]) z z (by kernel_rfl) ?_))
 replace hst := hst.pull1
 obtain ⟨w167, hr168, hst⟩ := hst.bx [Zu, Zu, Zu, Zs, Zs, Zs, Zs] sizeOf34 z (oC z (oC z (oC z (oC z (oC z (oC z (oC z oN))))))) (by kernel_rfl)
 refine wl_unit z z (x_unit hr168) ?_
 refine wv (.bool false) z z z (wl_nil (tn (wp_ret (then_r ?_))))
 have f169 : Ro tyF64 I (.slice none 0 0) [] := ro_nil
 have f170 : Ro tyF2 I (.slice none 0 0) [] := ro_nil
 have f171 : Ro tyF64 I (.slice none 0 0) [] := ro_nil
 have f172 : Ro (tyInt .u8) I (.slice none 0 0) [] := ro_nil
 replace hst := hst.objO_nil at_locks_Table
 obtain rfl := some_inj hm
 refine post_ret (vs := [.agg #[Zu, Zu, Zu, Zs, Zs, Zs, Zs], .bool false]) results14 (rvs_cons (rv_cell (cs := [Zu, Zu, Zu, Zs, Zs, Zs, Zs]) z isAgg34 sizeOf34 (hst.bcs1 0 z)) (rvs_cons (rv_tmp z) rvs_nil)) ?_
 exact ⟨_, Zs, Zs, Zs, Zs, z, hI0, f169, f170, f171, f172, hst.keep1⟩
}
 {
 replace hm := bif_f hc162 hm
 refine wp_iff (cvb hc162) ?_
 refine wp_skip (tn (wp_seq (wrl ?_)))
 refine wv (.pointer none) z z z ?_
 cases hm
}
}
 {
 replace hst := objO_get hst
 dsimp only [locks_Table_Get] at hm
 refine calls_start (args := [p0, .agg #[U6 a1.Session, U6 a1.Seq]]) func14 z ntmps14 (Nat.le_of_ble_eq_true z) ?_
 have hI0 := HL.le.refl I
 refine wp_seq (wrl ?_)
 obtain ⟨b173, w174, ew175, eb176, hst⟩ := hst.box [U6 a1.Session, U6 a1.Seq] 29
 refine wl_run (v := Pt b173 0) (w' := w174) z z (x_al (by kernel_rfl) ew175 eb176) ?_
 obtain ⟨b182, w183, ew184, eb185, hst⟩ := hst.box [Zu, Zu, Zu, Zs, Zs, Zs, Zs] 34
 refine wl_run (v := Pt b182 0) (w' := w183) z z (x_al (by kernel_rfl) ew184 eb185) ?_
 refine wv (.bool false) z z z (wl_nil (tn (wp_seq (wrl (wv (p0) z z z (wv (.agg #[U6 a1.Session, U6 a1.Seq]) z z (x_loadN (cs := [U6 a1.Session, U6 a1.Seq]) z isAgg29 sizeOf29 (hst.bcs1 0 z)) ?_))))))
 replace hst := hst.pull2
 replace hst := objO_some hst
 obtain ⟨t187, ht188, hm⟩ := bind_some hm
 refine wc call40 [p0, .agg #[U6 a1.Session, U6 a1.Seq]] z z z ?_
 refine (locks_Table_find_ref hst.to1 ht188).mono ?_
 rintro _ w189 ⟨rfl, hst⟩
 refine ⟨_, z, ?_⟩
 replace hst := hst.of1
 replace hst := objO_get hst
 refine wv (.tuple #[I6 t187.1, .bool t187.2]) z z z (wv (.int .i64 t187.1) z z z (wv (.bool t187.2) z z z (wv (.int .i64 t187.1) z z z (wv (.bool t187.2) z z z (wl_nil (tn (wp_seq (wp_seq (wrl (wv (.bool t187.2) z z z (wv (.bool (!t187.2)) z z z (wl_nil (tn ?_)))))))))))))
 refine bsplit (!t187.2) (fun hc192 => ?_) (fun hc192 => ?_)
 {
 replace hm := bif_t hc192 hm
 refine wp_ift (cvb hc192) ?_
 refine wp_seq (wrl (wv (.agg #[Zu, Zu, Zu, Zs, Zs, Zs, Zs]) z z (by kernel_rfl) ?_))
 replace hst := hst.pull1
 obtain ⟨w197, hr198, hst⟩ := hst.bx [Zu, Zu, Zu, Zs, Zs, Zs, Zs] sizeOf34 z (oC z (oC z (oC z (oC z (oC z (oC z (oC z oN))))))) (by kernel_rfl)
 refine wl_unit z z (x_unit hr198) ?_
 refine wv (.bool false) z z z (wl_nil (tn (wp_ret (then_r ?_))))
 have f199 : Ro tyF64 I (.slice none 0 0) [] := ro_nil
 have f200 : Ro tyF2 I (.slice none 0 0) [] := ro_nil
 have f201 : Ro tyF64 I (.slice none 0 0) [] := ro_nil
 have f202 : Ro (tyInt .u8) I (.slice none 0 0) [] := ro_nil
 replace hst := hst.pull1
 replace hst := objO_some hst
 obtain rfl := some_inj hm
 refine post_ret (vs := [.agg #[Zu, Zu, Zu, Zs, Zs, Zs, Zs], .bool false]) results14 (rvs_cons (rv_cell (cs := [Zu, Zu, Zu, Zs, Zs, Zs, Zs]) z isAgg34 sizeOf34 (hst.bcs1 0 z)) (rvs_cons (rv_tmp z) rvs_nil)) ?_
 exact ⟨_, Zs, Zs, Zs, Zs, z, hI0, f199, f200, f201, f202, hst.keep1⟩
}
 {
 replace hm := bif_f hc192 hm
 refine wp_iff (cvb hc192) ?_
 refine wp_skip (tn (wp_seq (wrl ?_)))
 refine wv (p0) z z z ?_
 obtain ⟨b203, v204, rfl, hst'⟩ := at_locks_Table_open hst
 clear hst
 have hst := hst'
 clear hst'
 refine wv (Pt b203 0) z z z (wv (Pt b203 0) z z (x_field z underlying77 z sizeOf22 z) (wv (v204) z z (x_load z isAgg22 (hst.bc0 z)) (wv (.int .i64 t187.1) z z z ?_)))
 obtain ⟨x206, hx207, hm⟩ := bind_some hm
 obtain ⟨h208, h209, hi210⟩ := geto_some hx207
 refine wv (.pointer (some (eAddr v204 (t187.1.toNat * 7 + 0)))) z z (x_index z z underlying22 sizeOf34 hst.sv1 h208 h209) ?_
 obtain ⟨cs211, hr212, hc213⟩ := hst.og1 hi210
 obtain ⟨v214, v217, v220, v223, rfl, f215, f218, f221, f224, -⟩ := hr212
 refine wv (.agg #[U6 x206.ID.Session, U6 x206.ID.Seq, U6 x206.Epoch, v214, v217, v220, v223]) z z (x_loadN (cs := [U6 x206.ID.Session, U6 x206.ID.Seq, U6 x206.Epoch, v214, v217, v220, v223]) z isAgg34 sizeOf34 (eCells (o := 0) hc213 z)) ?_
 replace hst := hst.pull2
 obtain ⟨w226, hr227, hst⟩ := hst.bx [U6 x206.ID.Session, U6 x206.ID.Seq, U6 x206.Epoch, v214, v217, v220, v223] sizeOf34 z (oC z (oC z (oC z (oC (one_of_sliceV (ro_sliceV f215)) (oC (one_of_sliceV (ro_sliceV f218)) (oC (one_of_sliceV (ro_sliceV f221)) (oC (one_of_sliceV (ro_sliceV f224)) oN))))))) (by kernel_rfl)
 refine wl_unit z z (x_unit hr227) ?_
 refine wv (.bool true) z z z (wl_nil (tn (wp_ret ?_)))
 replace hst := hst.pull2.pull2
 replace hst := at_locks_Table_close (pv := Pt b203 0) (x := o0) hst z
 replace hst := objO_some hst
 obtain rfl := some_inj hm
 refine post_ret (vs := [.agg #[U6 x206.ID.Session, U6 x206.ID.Seq, U6 x206.Epoch, v214, v217, v220, v223], .bool true]) results14 (rvs_cons (rv_cell (cs := [U6 x206.ID.Session, U6 x206.ID.Seq, U6 x206.Epoch, v214, v217, v220, v223]) z isAgg34 sizeOf34 (hst.bcs1 0 z)) (rvs_cons (rv_tmp z) rvs_nil)) ?_
 exact ⟨_, v214, v217, v220, v223, z, hI0, f215, f218, f221, f224, hst.keep1⟩
}
}
}

theorem locks_Table_Len_ref {w0 w : World} {I : HL} {R : SP} {a0 : (Option locks_Table)} {p0 : Value}  (hst : St w0 w I [objO at_locks_Table p0 a0] R) {r : (Int)} (hm : locks_Table_Len a0 = some r) :
  Calls prog 27 #[p0] w fun e w' => e = .returned (.int .i64 r) ∧ St w0 w' I [objO at_locks_Table p0 a0] R := by {
 rcases a0 with _ | o0
 {
 obtain ⟨rfl, hst'⟩ := objO_none hst
 clear hst
 have hst := hst'
 clear hst'
 dsimp only [locks_Table_Len] at hm
 refine calls_start (args := [.pointer none]) func27 z ntmps27 (Nat.le_of_ble_eq_true z) ?_
 refine wp_seq (wrl (wv (.int .i64 (0:Int)) z z z (wl_nil (tn (wp_seq (wp_seq (wrl (wv (.pointer none) z z z (wv (.bool true) z z (by kernel_rfl) (wl_nil (tn ?_)))))))))))
 refine wp_ift z ?_
 refine wp_seq (wrl (wv (.int .i64 (0:Int)) z z z (wl_nil (tn (wp_ret (then_r ?_))))))
 replace hst := hst.objO_nil at_locks_Table
 obtain rfl := some_inj hm
 refine post_ret (vs := [Zi]) results27 (rvs_cons (rv_tmp z) rvs_nil) ?_
 exact ⟨z, hst.keep1⟩
}
 {
 replace hst := objO_get hst
 dsimp only [locks_Table_Len] at hm
 refine calls_start (args := [p0]) func27 z ntmps27 (Nat.le_of_ble_eq_true z) ?_
 refine wp_seq (wrl (wv (.int .i64 (0:Int)) z z z (wl_nil (tn (wp_seq (wp_seq (wrl (wv (p0) z z z ?_))))))))
 obtain ⟨b178, v179, rfl, hst'⟩ := at_locks_Table_open hst
 clear hst
 have hst := hst'
 clear hst'
 refine wv (.bool false) z z (by kernel_rfl) (wl_nil (tn ?_))
 refine wp_iff z ?_
 refine wp_skip (tn (wp_seq (wrl ?_)))
 refine wv (Pt b178 0) z z z (wv (Pt b178 0) z z z (wv (Pt b178 0) z z (x_field z underlying77 z sizeOf22 z) (wv (v179) z z (x_load z isAgg22 (hst.bc0 z)) (wv (.int .i64 ((o0.l).length : Int)) z z (x_len z underlying22 hst.sv1) (wv (.int .i64 ((o0.l).length : Int)) z z z (wl_nil (tn (wp_ret ?_))))))))
 replace hst := hst.pull1.pull1
 replace hst := at_locks_Table_close (pv := Pt b178 0) (x := o0) hst z
 replace hst := objO_some hst
 obtain rfl := some_inj hm
 refine post_ret (vs := [I6 ((o0.l).length : Int)]) results27 (rvs_cons (rv_tmp z) rvs_nil) ?_
 exact ⟨z, hst.keep1⟩
}
}

theorem law12_awake_ref {w0 w : World} {I : HL} {R : SP}   (hst : St w0 w I [] R) {r : (Bool)} (hm : law12_awake = some r) :
  Calls prog 9 #[] w fun e w' => ∃ (I' : HL), e = .returned (.bool r) ∧ I.le I' ∧ St w0 w' I' [] R := by {
 unfold law12_awake at hm
 refine calls_start (args := []) func9 z ntmps9 (Nat.le_of_ble_eq_true z) ?_
 have hI0 := HL.le.refl I
 refine wp_seq (wrl (wv (.bool false) z z z (wl_nil (tn (wp_seq (wrl (wv (.agg #[U6 (1:Int), U6 (1:Int)]) z z (by kernel_rfl) ?_)))))))
 obtain ⟨b178, w179, ew180, eb181, hst⟩ := hst.lits (E := tyF64) (xs := [(4607182418800017408:Nat)]) [[F6 (4607182418800017408:Nat)]] 57 1 z (Reps.cons z Reps.nil)
 refine wl_run (v := (.slice (some ⟨b178, 0, none⟩) 1 1)) (w' := w179) z z (x_als (by kernel_rfl) ew180 eb181) ?_
 refine wv (.agg #[U6 (1:Int), U6 (1:Int), Zu, Zs, Zs, (.slice (some ⟨b178, 0, none⟩) 1 1), Zs]) z z (by kernel_rfl) ?_
 obtain ⟨b191, w192, ew193, eb194, hst⟩ := hst.box [Zu, Zu, Zu, Zs, Zs, Zs, Zs] 34
 refine wl_run (v := Pt b191 0) (w' := w192) z z (x_al (by kernel_rfl) ew193 eb194) ?_
 obtain ⟨w196, hr197, hst⟩ := hst.bx [U6 (1:Int), U6 (1:Int), Zu, Zs, Zs, (.slice (some ⟨b178, 0, none⟩) 1 1), Zs] sizeOf34 z (oC z (oC z (oC z (oC z (oC z (oC (one_of_sliceV hst.sv1) (oC z oN))))))) (by kernel_rfl)
 refine wl_unit z z (x_unit hr197) ?_
 refine wl_nil (tn (wp_seq (wrl (wv (.agg #[U6 (2:Int), U6 (1:Int)]) z z (by kernel_rfl) (wv (.agg #[Zf, F6 (4611686018427387904:Nat)]) z z (by kernel_rfl) ?_)))))
 obtain ⟨b198, w199, ew200, eb201, hst⟩ := hst.lits (E := tyF2) (xs := [((0:Nat), (4611686018427387904:Nat))]) [[Zf, F6 (4611686018427387904:Nat)]] 75 1 z (Reps.cons z Reps.nil)
 refine wl_run (v := (.slice (some ⟨b198, 0, none⟩) 1 1)) (w' := w199) z z (x_als (by kernel_rfl) ew200 eb201) ?_
 refine wv (.agg #[U6 (2:Int), U6 (1:Int), Zu, Zs, (.slice (some ⟨b198, 0, none⟩) 1 1), Zs, Zs]) z z (by kernel_rfl) ?_
 obtain ⟨b211, w212, ew213, eb214, hst⟩ := hst.box [Zu, Zu, Zu, Zs, Zs, Zs, Zs] 34
 refine wl_run (v := Pt b211 0) (w' := w212) z z (x_al (by kernel_rfl) ew213 eb214) ?_
 obtain ⟨w216, hr217, hst⟩ := hst.bx [U6 (2:Int), U6 (1:Int), Zu, Zs, (.slice (some ⟨b198, 0, none⟩) 1 1), Zs, Zs] sizeOf34 z (oC z (oC z (oC z (oC z (oC (one_of_sliceV hst.sv1) (oC z (oC z oN))))))) (by kernel_rfl)
 refine wl_unit z z (x_unit hr217) ?_
 refine wl_nil (tn (wp_seq (wrl ?_)))
 obtain ⟨t218, ht219, hm⟩ := bind_some hm
 refine wc call10 [] z z z ?_
 refine (locks_New_ref hst.to0 ht219).mono ?_
 rintro _ w220 ⟨v223, rfl, hst⟩
 refine ⟨_, z, ?_⟩
 replace hst := hst.of1
 refine wv (v223) z z z (wl_nil (tn (wp_seq (wrl (wv (.agg #[U6 (1:Int), U6 (1:Int), Zu, Zs, Zs, (.slice (some ⟨b178, 0, none⟩) 1 1), Zs]) z z (x_loadN (cs := [U6 (1:Int), U6 (1:Int), Zu, Zs, Zs, (.slice (some ⟨b178, 0, none⟩) 1 1), Zs]) z isAgg34 sizeOf34 (hst.bcs3 0 z)) (wv (.agg #[U6 (2:Int), U6 (1:Int), Zu, Zs, (.slice (some ⟨b198, 0, none⟩) 1 1), Zs, Zs]) z z (x_loadN (cs := [U6 (2:Int), U6 (1:Int), Zu, Zs, (.slice (some ⟨b198, 0, none⟩) 1 1), Zs, Zs]) z isAgg34 sizeOf34 (hst.bcs1 0 z)) ?_))))))
 have f225 : Ro tyF64 I (.slice none 0 0) [] := ro_nil
 have f226 : Ro tyF2 I (.slice none 0 0) [] := ro_nil
 have f227 : Ro (tyInt .u8) I (.slice none 0 0) [] := ro_nil
 have f228 : Ro tyF64 I (.slice none 0 0) [] := ro_nil
 have f229 : Ro tyF64 I (.slice none 0 0) [] := ro_nil
 have f230 : Ro (tyInt .u8) I (.slice none 0 0) [] := ro_nil
 replace hst := hst.pull4
 obtain ⟨css231, hq232, hst⟩ := hst.own_open
 replace hst := hst.pull3
 obtain ⟨css233, hq234, hst⟩ := hst.own_open
 obtain ⟨t235, ht236, hm⟩ := bind_some hm
 refine wc call19 [.agg #[U6 (1:Int), U6 (1:Int), Zu, Zs, Zs, (.slice (some ⟨b178, 0, none⟩) 1 1), Zs], .agg #[U6 (2:Int), U6 (1:Int), Zu, Zs, (.slice (some ⟨b198, 0, none⟩) 1 1), Zs, Zs]] z z z ?_
 refine (locks_Meet_ref (a0 := ({ ID := ({ Session := (1:Int), Seq := (1:Int) } : api_ID), Epoch := (0:Int), Gets := [], Scans := [], Puts := [(4607182418800017408:Nat)], Data := [] } : api_Hold)) (a1 := ({ ID := ({ Session := (2:Int), Seq := (1:Int) } : api_ID), Epoch := (0:Int), Gets := [], Scans := [((0:Nat), (4611686018427387904:Nat))], Puts := [], Data := [] } : api_Hold)) (f225.mono ro_rd) (f226.mono ro_rd) (hst.rdrow1 hq232) (f227.mono ro_rd) (f228.mono ro_rd) (hst.rdrow0 hq234) (f229.mono ro_rd) (f230.mono ro_rd) hst.to0 ht236).mono ?_
 rintro _ w237 ⟨rfl, hst⟩
 refine ⟨_, z, ?_⟩
 replace hst := hst.of0.pull1.own_close hq232
 replace hst := hst.pull1.own_close hq234
 refine wv (.bool t235) z z z ?_
 refine bsplit t235 (fun hc240 => ?_) (fun hc240 => ?_)
 {
 replace hm := bif_t hc240 hm
 refine wv (v223) ((wanted_eq z z z (cvb hc240)).trans z) z z (wv (.agg #[U6 (1:Int), U6 (1:Int), Zu, Zs, Zs, (.slice (some ⟨b178, 0, none⟩) 1 1), Zs]) ((wanted_eq z z z (cvb hc240)).trans z) z (x_loadN (cs := [U6 (1:Int), U6 (1:Int), Zu, Zs, Zs, (.slice (some ⟨b178, 0, none⟩) 1 1), Zs]) z isAgg34 sizeOf34 (hst.bcs4 0 z)) ?_)
 replace hst := hst.pull2
 replace hst := objO_some hst
 replace hst := hst.pull2
 obtain ⟨css241, hq242, hst⟩ := hst.own_open
 replace hst := hst.pull1
 obtain ⟨t243, ht244, hm⟩ := bind_some hm
 refine wl_call ((wanted_eq z z z (cvb hc240)).trans z) z (x_call call12 z (vs := [v223, .agg #[U6 (1:Int), U6 (1:Int), Zu, Zs, Zs, (.slice (some ⟨b178, 0, none⟩) 1 1), Zs]]) z) ?_
 refine (locks_Table_Take_ref (a1 := ({ ID := ({ Session := (1:Int), Seq := (1:Int) } : api_ID), Epoch := (0:Int), Gets := [], Scans := [], Puts := [(4607182418800017408:Nat)], Data := [] } : api_Hold)) (f225.mono ro_rd) (f226.mono ro_rd) (hst.sub.rdrow0 hq242) (f227.mono ro_rd) hst.to1 ht244).mono ?_
 rintro _ w245 ⟨I246, rfl, hI247, hst⟩
 refine ⟨_, z, ?_⟩
 replace hst := hst.of1
 replace f225 := f225.mono (ro_le hI247)
 replace f226 := f226.mono (ro_le hI247)
 replace f227 := f227.mono (ro_le hI247)
 replace f228 := f228.mono (ro_le hI247)
 replace f229 := f229.mono (ro_le hI247)
 replace f230 := f230.mono (ro_le hI247)
 replace hI0 := hI0.trans hI247
 replace hst := hst.pull1.own_close (hq242.imp fun _ _ => Ty.mono _ (ro_le hI247))
 replace hst := hst.pull1
 rcases he249 : t243.2 with _ | y248
 · rw [he249] at hm; cases hm
 rw [he249] at hm hst; dsimp only at hm; replace hst := objO_get hst
 refine wv (.bool (t243.1 == (0:Int))) ((wanted_eq z z z (cvb hc240)).trans z) z z (wv (.bool (t243.1 == (0:Int))) z z (x_pick_t hc240 z z) (wv (.bool (t243.1 == (0:Int))) z z z ?_))
 refine bsplit (t243.1 == (0:Int)) (fun hc250 => ?_) (fun hc250 => ?_)
 {
 replace hm := bif_t hc250 hm
 refine wv (v223) ((wanted_eq z z z (cvb hc250)).trans z) z z (wv (.agg #[U6 (2:Int), U6 (1:Int), Zu, Zs, (.slice (some ⟨b198, 0, none⟩) 1 1), Zs, Zs]) ((wanted_eq z z z (cvb hc250)).trans z) z (x_loadN (cs := [U6 (2:Int), U6 (1:Int), Zu, Zs, (.slice (some ⟨b198, 0, none⟩) 1 1), Zs, Zs]) z isAgg34 sizeOf34 (hst.bcs3 0 z)) ?_)
 replace hst := objO_some hst
 replace hst := hst.pull2
 obtain ⟨css251, hq252, hst⟩ := hst.own_open
 replace hst := hst.pull1
 obtain ⟨t253, ht254, hm⟩ := bind_some hm
 refine wl_call ((wanted_eq z z z (cvb hc250)).trans z) z (x_call call12 z (vs := [v223, .agg #[U6 (2:Int), U6 (1:Int), Zu, Zs, (.slice (some ⟨b198, 0, none⟩) 1 1), Zs, Zs]]) z) ?_
 refine (locks_Table_Take_ref (a1 := ({ ID := ({ Session := (2:Int), Seq := (1:Int) } : api_ID), Epoch := (0:Int), Gets := [], Scans := [((0:Nat), (4611686018427387904:Nat))], Puts := [], Data := [] } : api_Hold)) (f228.mono ro_rd) (hst.sub.rdrow0 hq252) (f229.mono ro_rd) (f230.mono ro_rd) hst.to1 ht254).mono ?_
 rintro _ w255 ⟨I256, rfl, hI257, hst⟩
 refine ⟨_, z, ?_⟩
 replace hst := hst.of1
 replace f225 := f225.mono (ro_le hI257)
 replace f226 := f226.mono (ro_le hI257)
 replace f227 := f227.mono (ro_le hI257)
 replace f228 := f228.mono (ro_le hI257)
 replace f229 := f229.mono (ro_le hI257)
 replace f230 := f230.mono (ro_le hI257)
 replace hI0 := hI0.trans hI257
 replace hst := hst.pull1.own_close (hq252.imp fun _ _ => Ty.mono _ (ro_le hI257))
 replace hst := hst.pull1
 rcases he259 : t253.2 with _ | y258
 · rw [he259] at hm; cases hm
 rw [he259] at hm hst; dsimp only at hm; replace hst := objO_get hst
 refine wv (.bool (t253.1 == (8:Int))) ((wanted_eq z z z (cvb hc250)).trans z) z z (wv (.bool (t253.1 == (8:Int))) z z (x_pick_t hc250 z z) (wv (.bool (t253.1 == (8:Int))) z z z ?_))
 refine bsplit (t253.1 == (8:Int)) (fun hc260 => ?_) (fun hc260 => ?_)
 {
 replace hm := bif_t hc260 hm
 refine wv (v223) ((wanted_eq z z z (cvb hc260)).trans z) z z ?_
 replace hst := objO_some hst
 obtain ⟨t261, ht262, hm⟩ := bind_some hm
 refine wl_call ((wanted_eq z z z (cvb hc260)).trans z) z (x_call call27 z (vs := [v223]) z) ?_
 refine (locks_Table_Len_ref hst.to1 ht262).mono ?_
 rintro _ w263 ⟨rfl, hst⟩
 refine ⟨_, z, ?_⟩
 replace hst := hst.of1
 replace hst := objO_get hst
 refine wv (.bool (t261 == (1:Int))) ((wanted_eq z z z (cvb hc260)).trans z) z z (wv (.bool (t261 == (1:Int))) z z (x_pick_t hc260 z z) (wv (.bool (t261 == (1:Int))) z z z (wl_nil (tn (wp_ret ?_)))))
 obtain rfl := some_inj hm
 refine post_ret (vs := [.bool (t261 == (1:Int))]) results9 (rvs_cons (rv_tmp z) rvs_nil) ?_
 exact ⟨_, z, hI0, hst.keep0⟩
}
 {
 replace hm := bif_f hc260 hm
 refine wo hc260 z z z z z z (wo hc260 z z z z z z (wo hc260 z z z z z z (wv (.bool false) z z (x_pick_f hc260 z z) (wv (.bool false) z z z (wl_nil (tn (wp_ret ?_)))))))
 obtain rfl := some_inj hm
 refine post_ret (vs := [.bool false]) results9 (rvs_cons (rv_tmp z) rvs_nil) ?_
 exact ⟨_, z, hI0, hst.keep0⟩
}
}
 {
 replace hm := bif_f hc250 hm
 refine wo hc250 z z z z z z (wo hc250 z z z z z z (wo hc250 z z z z z z (wo hc250 z z z z z z (wv (.bool false) z z (x_pick_f hc250 z z) (wv (.bool false) z z z (wz z z z z z z (wz z z z z z z (wz z z z z z z (wv (.bool false) z z (x_pick_f z z z) (wv (.bool false) z z z (wl_nil (tn (wp_ret ?_)))))))))))))
 obtain rfl := some_inj hm
 refine post_ret (vs := [.bool false]) results9 (rvs_cons (rv_tmp z) rvs_nil) ?_
 exact ⟨_, z, hI0, hst.keep0⟩
}
}
 {
 replace hm := bif_f hc240 hm
 refine wo hc240 z z z z z z (wo hc240 z z z z z z (wo hc240 z z z z z z (wo hc240 z z z z z z (wv (.bool false) z z (x_pick_f hc240 z z) (wv (.bool false) z z z (wz z z z z z z (wz z z z z z z (wz z z z z z z (wz z z z z z z (wv (.bool false) z z (x_pick_f z z z) (wv (.bool false) z z z (wz z z z z z z ?_))))))))))))
 refine wz z z z z z z (wz z z z z z z (wv (.bool false) z z (x_pick_f z z z) (wv (.bool false) z z z (wl_nil (tn (wp_ret ?_))))))
 obtain rfl := some_inj hm
 refine post_ret (vs := [.bool false]) results9 (rvs_cons (rv_tmp z) rvs_nil) ?_
 exact ⟨_, z, hI0, hst.keep0⟩
}
}

theorem math_Signbit_ref {w0 w : World} {I : HL} {R : SP} {a0 : Nat}  (hst : St w0 w I [] R) {r : (Bool)} (hm : math_Signbit a0 = some r) :
  Calls prog 92 #[F6 a0] w fun e w' => e = .returned (.bool r) ∧ St w0 w' I [] R := by {
 unfold math_Signbit at hm
 refine calls_start (args := [F6 a0]) func92 z ntmps92 (Nat.le_of_ble_eq_true z) ?_
 refine wp_seq (wrl (wv (.bool false) z z z (wl_nil (tn (wp_seq (wrl (wv (.float .f64 a0) z z z (wv (.int .u64 (Int.ofNat a0)) z z (by kernel_rfl) (wv (.int .i64 (i64.wrap (Int.ofNat a0))) z z (by kernel_rfl) (wv (.bool (decide ((i64.wrap (Int.ofNat a0)) < (0:Int)))) z z z (wv (.bool (decide ((i64.wrap (Int.ofNat a0)) < (0:Int)))) z z z (wl_nil (tn (wp_ret ?_))))))))))))))
 obtain rfl := some_inj hm
 refine post_ret (vs := [.bool (decide ((i64.wrap (Int.ofNat a0)) < (0:Int)))]) results92 (rvs_cons (rv_tmp z) rvs_nil) ?_
 exact ⟨z, hst.keep0⟩
}

theorem ref01_Ahead_ref {w0 w : World} {I : HL} {R : SP} {a0 : Nat} {a1 : Nat}  (hst : St w0 w I [] R) {r : (Bool)} (hm : ref01_Ahead a0 a1 = some r) :
  Calls prog 76 #[F6 a0, F6 a1] w fun e w' => e = .returned (.bool r) ∧ St w0 w' I [] R := by {
 unfold ref01_Ahead at hm
 refine calls_start (args := [F6 a0, F6 a1]) func76 z ntmps76 (Nat.le_of_ble_eq_true z) ?_
 refine wp_seq (wrl (wv (.bool false) z z z (wl_nil (tn (wp_seq (wp_seq (wrl (wv (.float .f64 a0) z z z (wv (.float .f64 a0) z z z (wv (.bool (fNe a0 a0)) z z z (wl_nil (tn ?_))))))))))))
 refine bsplit (fNe a0 a0) (fun hc158 => ?_) (fun hc158 => ?_)
 {
 replace hm := bif_t hc158 hm
 refine wp_ift (cvb hc158) ?_
 refine wp_seq (wrl (wv (.bool false) z z z (wl_nil (tn (wp_ret (then_r ?_))))))
 obtain rfl := some_inj hm
 refine post_ret (vs := [.bool false]) results76 (rvs_cons (rv_tmp z) rvs_nil) ?_
 exact ⟨z, hst.keep0⟩
}
 {
 replace hm := bif_f hc158 hm
 refine wp_iff (cvb hc158) ?_
 refine wp_skip (tn (wp_seq (wp_seq (wrl ?_))))
 refine wv (.float .f64 a1) z z z (wv (.float .f64 a1) z z z (wv (.bool (fNe a1 a1)) z z z (wl_nil (tn ?_))))
 refine bsplit (fNe a1 a1) (fun hc159 => ?_) (fun hc159 => ?_)
 {
 replace hm := bif_t hc159 hm
 refine wp_ift (cvb hc159) ?_
 refine wp_seq (wrl (wv (.bool true) z z z (wl_nil (tn (wp_ret (then_r ?_))))))
 obtain rfl := some_inj hm
 refine post_ret (vs := [.bool true]) results76 (rvs_cons (rv_tmp z) rvs_nil) ?_
 exact ⟨z, hst.keep0⟩
}
 {
 replace hm := bif_f hc159 hm
 refine wp_iff (cvb hc159) ?_
 refine wp_skip (tn ?_)
 obtain ⟨y175, hm, hx176⟩ := joinO_some hm
 refine wp_cut (fun a w => ∃ (σ173 : Nat → Value), (ref01_Ahead_j0 a0 a1) () = some r ∧ a = Fr 27 (upd (upd σ173 0 (.float .f64 a0)) 1 (.float .f64 a1)) ∧ St w0 w I [] R) ?_ ?_
 {
 refine wp_seq (wrl (wv (.float .f64 a0) z z z (wv (.bool (fEq a0 (0:Nat))) z z z (wv (.bool (fEq a0 (0:Nat))) z z z ?_))))
 refine bsplit (fEq a0 (0:Nat)) (fun hc160 => ?_) (fun hc160 => ?_)
 {
 replace hm := bif_t hc160 hm
 refine wv (.float .f64 a1) ((wanted_eq z z z (cvb hc160)).trans z) z z (wv (.bool (fEq a1 (0:Nat))) ((wanted_eq z z z (cvb hc160)).trans z) z z (wv (.bool (fEq a1 (0:Nat))) z z (x_pick_t hc160 z z) (wl_nil (tn ?_))))
 refine bsplit (fEq a1 (0:Nat)) (fun hc161 => ?_) (fun hc161 => ?_)
 {
 replace hm := bif_t hc161 hm
 refine wp_ift (cvb hc161) ?_
 refine wp_seq (wrl (wv (.float .f64 a0) z z z ?_))
 obtain ⟨t162, ht163, hm⟩ := bind_some hm
 refine wc call92 [F6 a0] z z z ?_
 refine (math_Signbit_ref hst.to0 ht163).mono ?_
 rintro _ w164 ⟨rfl, hst⟩
 refine ⟨_, z, ?_⟩
 replace hst := hst.of0
 refine wv (.bool t162) z z z ?_
 refine bsplit t162 (fun hc167 => ?_) (fun hc167 => ?_)
 {
 replace hm := bif_t hc167 hm
 refine wv (.float .f64 a1) ((wanted_eq z z z (cvb hc167)).trans z) z z ?_
 obtain ⟨t168, ht169, hm⟩ := bind_some hm
 refine wl_call ((wanted_eq z z z (cvb hc167)).trans z) z (x_call call92 z (vs := [F6 a1]) z) ?_
 refine (math_Signbit_ref hst.to0 ht169).mono ?_
 rintro _ w170 ⟨rfl, hst⟩
 refine ⟨_, z, ?_⟩
 replace hst := hst.of0
 refine wv (.bool (!t168)) ((wanted_eq z z z (cvb hc167)).trans z) z z (wv (.bool (!t168)) z z (x_pick_t hc167 z z) (wv (.bool (!t168)) z z z (wl_nil (tn (wp_ret (then_r ?_))))))
 replace hm := inr_up hm hx176
 obtain rfl := some_inj hm
 refine post_ret (vs := [.bool (!t168)]) results76 (rvs_cons (rv_tmp z) rvs_nil) ?_
 exact ⟨z, hst.keep0⟩
}
 {
 replace hm := bif_f hc167 hm
 refine wo hc167 z z z z z z (wo hc167 z z z z z z (wo hc167 z z z z z z (wv (.bool false) z z (x_pick_f hc167 z z) (wv (.bool false) z z z (wl_nil (tn (wp_ret (then_r ?_))))))))
 replace hm := inr_up hm hx176
 obtain rfl := some_inj hm
 refine post_ret (vs := [.bool false]) results76 (rvs_cons (rv_tmp z) rvs_nil) ?_
 exact ⟨z, hst.keep0⟩
}
}
 {
 replace hm := bif_f hc161 hm
 refine wp_iff (cvb hc161) ?_
 refine wp_skip (tn ?_)
 replace hst := hst.keep0
 obtain rfl := some_inj hm
 exact ⟨_, hx176, (fu 0 (.float .f64 a0) z (fu 1 (.float .f64 a1) z z)), hst⟩
}
}
 {
 replace hm := bif_f hc160 hm
 refine wo hc160 z z z z z z (wo hc160 z z z z z z (wv (.bool false) z z (x_pick_f hc160 z z) (wl_nil (tn ?_))))
 refine wp_iff z ?_
 refine wp_skip (tn ?_)
 replace hst := hst.keep0
 obtain rfl := some_inj hm
 exact ⟨_, hx176, (fu 0 (.float .f64 a0) z (fu 1 (.float .f64 a1) z z)), hst⟩
}
}
 {
 clear hst
 rintro _ w177 ⟨σ173, hm, rfl, hst⟩
 dsimp only [ref01_Ahead_j0] at hm
 refine wp_seq (wrl (wv (.float .f64 a0) z z z (wv (.float .f64 a1) z z z (wv (.bool (fLt a0 a1)) z z z (wv (.bool (fLt a0 a1)) z z z (wl_nil (tn (wp_ret ?_))))))))
 obtain rfl := some_inj hm
 refine post_ret (vs := [.bool (fLt a0 a1)]) results76 (rvs_cons (rv_tmp z) rvs_nil) ?_
 exact ⟨z, hst.keep0⟩
}
}
}
}

theorem ref01_Same_ref {w0 w : World} {I : HL} {R : SP} {a0 : Nat} {a1 : Nat}  (hst : St w0 w I [] R) {r : (Bool)} (hm : ref01_Same a0 a1 = some r) :
  Calls prog 51 #[F6 a0, F6 a1] w fun e w' => e = .returned (.bool r) ∧ St w0 w' I [] R := by {
 unfold ref01_Same at hm
 refine calls_start (args := [F6 a0, F6 a1]) func51 z ntmps51 (Nat.le_of_ble_eq_true z) ?_
 refine wp_seq (wrl (wv (.bool false) z z z (wl_nil (tn (wp_seq (wrl (wv (.float .f64 a0) z z z (wv (.float .f64 a1) z z z ?_))))))))
 obtain ⟨t149, ht150, hm⟩ := bind_some hm
 refine wc call76 [F6 a0, F6 a1] z z z ?_
 refine (ref01_Ahead_ref hst.to0 ht150).mono ?_
 rintro _ w151 ⟨rfl, hst⟩
 refine ⟨_, z, ?_⟩
 replace hst := hst.of0
 refine wv (.bool (!t149)) z z z (wv (.bool (!t149)) z z z ?_)
 refine bsplit (!t149) (fun hc154 => ?_) (fun hc154 => ?_)
 {
 replace hm := bif_t hc154 hm
 refine wv (.float .f64 a1) ((wanted_eq z z z (cvb hc154)).trans z) z z (wv (.float .f64 a0) ((wanted_eq z z z (cvb hc154)).trans z) z z ?_)
 obtain ⟨t155, ht156, hm⟩ := bind_some hm
 refine wl_call ((wanted_eq z z z (cvb hc154)).trans z) z (x_call call76 z (vs := [F6 a1, F6 a0]) z) ?_
 refine (ref01_Ahead_ref hst.to0 ht156).mono ?_
 rintro _ w157 ⟨rfl, hst⟩
 refine ⟨_, z, ?_⟩
 replace hst := hst.of0
 refine wv (.bool (!t155)) ((wanted_eq z z z (cvb hc154)).trans z) z z (wv (.bool (!t155)) z z (x_pick_t hc154 z z) (wv (.bool (!t155)) z z z (wl_nil (tn (wp_ret ?_)))))
 obtain rfl := some_inj hm
 refine post_ret (vs := [.bool (!t155)]) results51 (rvs_cons (rv_tmp z) rvs_nil) ?_
 exact ⟨z, hst.keep0⟩
}
 {
 replace hm := bif_f hc154 hm
 refine wo hc154 z z z z z z (wo hc154 z z z z z z (wo hc154 z z z z z z (wo hc154 z z z z z z (wv (.bool false) z z (x_pick_f hc154 z z) (wv (.bool false) z z z (wl_nil (tn (wp_ret ?_))))))))
 obtain rfl := some_inj hm
 refine post_ret (vs := [.bool false]) results51 (rvs_cons (rv_tmp z) rvs_nil) ?_
 exact ⟨z, hst.keep0⟩
}
}

end Go.Proofs.Ytbdhhmnncknhhaa
