/- The Go functions refine their models, part 0. -/
import Derived.Test.YtbdhhmnncknhhaaLocksJunkT
set_option linter.unusedVariables false
set_option linter.unusedSimpArgs false
set_option maxRecDepth 100000
set_option maxHeartbeats 4000000
namespace Go.Proofs.Ytbdhhmnncknhhaa
open Go Go.V
open _root_.Go.Proofs.Try IntKind
attribute [local irreducible] wpList Code.wp wpQuiet Calls bodyPost Oper.wp wpS Nx PendOK YieldsIn
theorem locks_New_ref {w0 w : World} {I : HL} {R : SP}   (hst : St w0 w I [] R) {r : (locks_Table)} (hm : locks_New = some r) :
  Calls prog 10 #[] w fun e w' => ∃ (q0 : Value), e = .returned (q0) ∧ St w0 w' I [at_locks_Table q0 r] R := by {
 unfold locks_New at hm
 refine calls_start (args := []) func10 z ntmps10 (Nat.le_of_ble_eq_true z) ?_
 refine wp_seq (wrl (wv (.pointer none) z z z (wl_nil (tn (wp_seq (wrl (wv (.agg #[Zs]) z z (by kernel_rfl) ?_)))))))
 obtain ⟨b51, w52, ew53, eb54, hst⟩ := hst.box [Zs] 77
 refine wl_run (v := Pt b51 0) (w' := w52) z z (x_al (by kernel_rfl) ew53 eb54) ?_
 refine wv (Pt b51 0) z z z (wl_nil (tn (wp_ret ?_)))
 replace hst := hst.own_nil ty_api_Hold
 replace hst := hst.pull1
 replace hst := at_locks_Table_close (pv := Pt b51 0) (x := ({ l := [] } : locks_Table)) hst z
 obtain rfl := some_inj hm
 refine post_ret (vs := [Pt b51 0]) results10 (rvs_cons (rv_tmp z) rvs_nil) ?_
 exact ⟨.pointer (some ⟨b51, 0, none⟩), z, hst.keep1⟩
}

theorem math_IsNaN_ref {w0 w : World} {I : HL} {R : SP} {a0 : Nat}  (hst : St w0 w I [] R) {r : (Bool)} (hm : math_IsNaN a0 = some r) :
  Calls prog 88 #[F6 a0] w fun e w' => e = .returned (.bool r) ∧ St w0 w' I [] R := by {
 unfold math_IsNaN at hm
 refine calls_start (args := [F6 a0]) func88 z ntmps88 (Nat.le_of_ble_eq_true z) ?_
 refine wp_seq (wrl (wv (.bool false) z z z (wl_nil (tn (wp_seq (wrl (wv (.float .f64 a0) z z z (wv (.float .f64 a0) z z z (wv (.bool (fNe a0 a0)) z z z (wv (.bool (fNe a0 a0)) z z z (wl_nil (tn (wp_ret ?_)))))))))))))
 obtain rfl := some_inj hm
 refine post_ret (vs := [.bool (fNe a0 a0)]) results88 (rvs_cons (rv_tmp z) rvs_nil) ?_
 exact ⟨z, hst.keep0⟩
}

theorem number_Rank_ref {w0 w : World} {I : HL} {R : SP} {a0 : Nat}  (hst : St w0 w I [] R) {r : (Int)} (hm : number_Rank a0 = some r) :
  Calls prog 61 #[F6 a0] w fun e w' => e = .returned (.int .u64 r) ∧ St w0 w' I [] R := by {
 unfold number_Rank at hm
 refine calls_start (args := [F6 a0]) func61 z ntmps61 (Nat.le_of_ble_eq_true z) ?_
 refine wp_seq (wrl (wv (.int .u64 (0:Int)) z z z (wl_nil (tn (wp_seq (wp_seq (wrl (wv (.float .f64 a0) z z z ?_))))))))
 obtain ⟨t106, ht107, hm⟩ := bind_some hm
 refine wc call88 [F6 a0] z z z ?_
 refine (math_IsNaN_ref hst.to0 ht107).mono ?_
 rintro _ w108 ⟨rfl, hst⟩
 refine ⟨_, z, ?_⟩
 replace hst := hst.of0
 refine wl_nil (tn ?_)
 refine bsplit t106 (fun hc111 => ?_) (fun hc111 => ?_)
 {
 replace hm := bif_t hc111 hm
 refine wp_ift (cvb hc111) ?_
 refine wp_seq (wrl (wv (.int .u64 (18446744073709551615:Int)) z z z (wl_nil (tn (wp_ret (then_r ?_))))))
 obtain rfl := some_inj hm
 refine post_ret (vs := [U6 (18446744073709551615:Int)]) results61 (rvs_cons (rv_tmp z) rvs_nil) ?_
 exact ⟨z, hst.keep0⟩
}
 {
 replace hm := bif_f hc111 hm
 refine wp_iff (cvb hc111) ?_
 refine wp_skip (tn (wp_seq (wrl ?_)))
 refine wv (.float .f64 a0) z z z (wv (.int .u64 (Int.ofNat a0)) z z (by kernel_rfl) (wv (.int .u64 (Int.ofNat a0)) z z z (wl_nil (tn (wp_seq (wp_seq (wrl (wv (.int .u64 (Int.ofNat a0)) z z z (wv (.int .u64 (iShr .u64 (Int.ofNat a0) (63:Int))) z z (x_shr (by decide) z z) (wv (.bool ((iShr .u64 (Int.ofNat a0) (63:Int)) == (1:Int))) z z z (wl_nil (tn ?_))))))))))))
 refine bsplit ((iShr .u64 (Int.ofNat a0) (63:Int)) == (1:Int)) (fun hc112 => ?_) (fun hc112 => ?_)
 {
 replace hm := bif_t hc112 hm
 refine wp_ift (cvb hc112) ?_
 refine wp_seq (wrl (wv (.int .u64 (Int.ofNat a0)) z z z (wv (.int .u64 (bXor .u64 ((18446744073709551615):Int) (Int.ofNat a0))) z z (by kernel_rfl) (wv (.int .u64 (bXor .u64 ((18446744073709551615):Int) (Int.ofNat a0))) z z z (wl_nil (tn (wp_ret (then_r ?_))))))))
 obtain rfl := some_inj hm
 refine post_ret (vs := [U6 (bXor .u64 ((18446744073709551615):Int) (Int.ofNat a0))]) results61 (rvs_cons (rv_tmp z) rvs_nil) ?_
 exact ⟨z, hst.keep0⟩
}
 {
 replace hm := bif_f hc112 hm
 refine wp_iff (cvb hc112) ?_
 refine wp_skip (tn (wp_seq (wrl ?_)))
 refine wv (.int .u64 (Int.ofNat a0)) z z z (wv (.int .u64 (bOr .u64 (Int.ofNat a0) (9223372036854775808:Int))) z z z (wv (.int .u64 (bOr .u64 (Int.ofNat a0) (9223372036854775808:Int))) z z z (wl_nil (tn (wp_ret ?_)))))
 obtain rfl := some_inj hm
 refine post_ret (vs := [U6 (bOr .u64 (Int.ofNat a0) (9223372036854775808:Int))]) results61 (rvs_cons (rv_tmp z) rvs_nil) ?_
 exact ⟨z, hst.keep0⟩
}
}
}

theorem number_Within_ref {w0 w : World} {I : HL} {R : SP} {a0 : Nat} {a1 : Nat} {a2 : Nat}  (hst : St w0 w I [] R) {r : (Bool)} (hm : number_Within a0 a1 a2 = some r) :
  Calls prog 79 #[F6 a0, F6 a1, F6 a2] w fun e w' => e = .returned (.bool r) ∧ St w0 w' I [] R := by {
 unfold number_Within at hm
 refine calls_start (args := [F6 a0, F6 a1, F6 a2]) func79 z ntmps79 (Nat.le_of_ble_eq_true z) ?_
 refine wp_seq (wrl (wv (.bool false) z z z (wl_nil (tn (wp_seq (wrl (wv (.float .f64 a1) z z z ?_)))))))
 obtain ⟨t120, ht121, hm⟩ := bind_some hm
 refine wc call61 [F6 a1] z z z ?_
 refine (number_Rank_ref hst.to0 ht121).mono ?_
 rintro _ w122 ⟨rfl, hst⟩
 refine ⟨_, z, ?_⟩
 replace hst := hst.of0
 refine wv (.float .f64 a0) z z z ?_
 obtain ⟨t125, ht126, hm⟩ := bind_some hm
 refine wc call61 [F6 a0] z z z ?_
 refine (number_Rank_ref hst.to0 ht126).mono ?_
 rintro _ w127 ⟨rfl, hst⟩
 refine ⟨_, z, ?_⟩
 replace hst := hst.of0
 refine wv (.bool (decide (t120 ≤ t125))) z z z (wv (.bool (decide (t120 ≤ t125))) z z z ?_)
 refine bsplit (decide (t120 ≤ t125)) (fun hc130 => ?_) (fun hc130 => ?_)
 {
 replace hm := bif_t hc130 hm
 refine wv (.float .f64 a0) ((wanted_eq z z z (cvb hc130)).trans z) z z ?_
 obtain ⟨t131, ht132, hm⟩ := bind_some hm
 refine wl_call ((wanted_eq z z z (cvb hc130)).trans z) z (x_call call61 z (vs := [F6 a0]) z) ?_
 refine (number_Rank_ref hst.to0 ht132).mono ?_
 rintro _ w133 ⟨rfl, hst⟩
 refine ⟨_, z, ?_⟩
 replace hst := hst.of0
 refine wv (.float .f64 a2) ((wanted_eq z z z (cvb hc130)).trans z) z z ?_
 obtain ⟨t136, ht137, hm⟩ := bind_some hm
 refine wl_call ((wanted_eq z z z (cvb hc130)).trans z) z (x_call call61 z (vs := [F6 a2]) z) ?_
 refine (number_Rank_ref hst.to0 ht137).mono ?_
 rintro _ w138 ⟨rfl, hst⟩
 refine ⟨_, z, ?_⟩
 replace hst := hst.of0
 refine wv (.bool (decide (t131 ≤ t136))) ((wanted_eq z z z (cvb hc130)).trans z) z z (wv (.bool (decide (t131 ≤ t136))) z z (x_pick_t hc130 z z) (wv (.bool (decide (t131 ≤ t136))) z z z (wl_nil (tn (wp_ret ?_)))))
 obtain rfl := some_inj hm
 refine post_ret (vs := [.bool (decide (t131 ≤ t136))]) results79 (rvs_cons (rv_tmp z) rvs_nil) ?_
 exact ⟨z, hst.keep0⟩
}
 {
 replace hm := bif_f hc130 hm
 refine wo hc130 z z z z z z (wo hc130 z z z z z z (wo hc130 z z z z z z (wo hc130 z z z z z z (wo hc130 z z z z z z (wv (.bool false) z z (x_pick_f hc130 z z) (wv (.bool false) z z z (wl_nil (tn (wp_ret ?_)))))))))
 obtain rfl := some_inj hm
 refine post_ret (vs := [.bool false]) results79 (rvs_cons (rv_tmp z) rvs_nil) ?_
 exact ⟨z, hst.keep0⟩
}
}

theorem locks_writes_ref {w0 w : World} {I : HL} {R : SP} {a0 : api_Hold} {r0_0 : Value} {r0_1 : Value} {r0_2 : Value} {r0_3 : Value} {a1 : Nat} {a2 : Nat} (f0_0 : Rd tyF64 R I r0_0 a0.Gets) (f0_1 : Rd tyF2 R I r0_1 a0.Scans) (f0_2 : Rd tyF64 R I r0_2 a0.Puts) (f0_3 : Rd (tyInt .u8) R I r0_3 a0.Data) (hst : St w0 w I [] R) {r : (Bool)} (hm : locks_writes a0 a1 a2 = some r) :
  Calls prog 52 #[.agg #[U6 a0.ID.Session, U6 a0.ID.Seq, U6 a0.Epoch, r0_0, r0_1, r0_2, r0_3], F6 a1, F6 a2] w fun e w' => e = .returned (.bool r) ∧ St w0 w' I [] R := by {
 unfold locks_writes at hm
 refine calls_start (args := [.agg #[U6 a0.ID.Session, U6 a0.ID.Seq, U6 a0.Epoch, r0_0, r0_1, r0_2, r0_3], F6 a1, F6 a2]) func52 z ntmps52 (Nat.le_of_ble_eq_true z) ?_
 refine wp_seq (wrl ?_)
 obtain ⟨b168, w169, ew170, eb171, hst⟩ := hst.box [U6 a0.ID.Session, U6 a0.ID.Seq, U6 a0.Epoch, r0_0, r0_1, r0_2, r0_3] 34
 refine wl_run (v := Pt b168 0) (w' := w169) z z (x_al (by kernel_rfl) ew170 eb171) ?_
 obtain ⟨b173, w174, ew175, eb176, hst⟩ := hst.box [F6 a1] 57
 refine wl_run (v := Pt b173 0) (w' := w174) z z (x_al (by kernel_rfl) ew175 eb176) ?_
 obtain ⟨b178, w179, ew180, eb181, hst⟩ := hst.box [F6 a2] 57
 refine wl_run (v := Pt b178 0) (w' := w179) z z (x_al (by kernel_rfl) ew180 eb181) ?_
 refine wv (.bool false) z z z (wl_nil (tn (wp_seq (wrl (wv (Pt b168 5) z z (x_field z underlying34 z sizeOf30 z) (wv (r0_2) z z (x_load z isAgg30 (hst.bc2 z)) (wv (.func (.func 78) #[] #[Pt b173 0, Pt b178 0]) z z (by kernel_rfl) ?_)))))))
 obtain ⟨y251, hq252, hm⟩ := bind_some hm
 refine wl_call z z (x_callv call77 (caps := []) z (vs := [r0_2, .func (.func 78) #[] #[Pt b173 0, Pt b178 0]]) z) ?_
 refine Calls.mono (show Calls prog 77 #[r0_2, .func (.func 78) #[] #[Pt b173 0, Pt b178 0]] _ (fun e w' => ∃ (z249 : Bool), z249 = y251 ∧ e = .returned (.bool z249) ∧ St w0 w' I [cells b168 [U6 a0.ID.Session, U6 a0.ID.Seq, U6 a0.Epoch, r0_0, r0_1, r0_2, r0_3], cells b173 [F6 a1], cells b178 [F6 a2]] R) from ?_) ?_
 {
 clear hm; have hm := hq252
 refine calls_start (args := [r0_2, .func (.func 78) #[] #[Pt b173 0, Pt b178 0]]) func77 z ntmps77 (Nat.le_of_ble_eq_true z) ?_
 refine wp_seq (wrl (wv (.bool false) z z z (wl_nil (tn (wp_seq (wrl (wv (r0_2) z z z (wv (.func (.func 78) #[] #[Pt b173 0, Pt b178 0]) z z z ?_))))))))
 obtain ⟨y246, hq247, hm⟩ := bind_some hm
 refine wl_call z z (x_callv call93 (caps := []) z (vs := [r0_2, .func (.func 78) #[] #[Pt b173 0, Pt b178 0]]) z) ?_
 refine Calls.mono (show Calls prog 93 #[r0_2, .func (.func 78) #[] #[Pt b173 0, Pt b178 0]] _ (fun e w' => ∃ (z244 : Int), z244 = y246 ∧ e = .returned (.int .i64 z244) ∧ St w0 w' I [cells b168 [U6 a0.ID.Session, U6 a0.ID.Seq, U6 a0.Epoch, r0_0, r0_1, r0_2, r0_3], cells b173 [F6 a1], cells b178 [F6 a2]] R) from ?_) ?_
 {
 clear hm; have hm := hq247
 refine calls_start (args := [r0_2, .func (.func 78) #[] #[Pt b173 0, Pt b178 0]]) func93 z ntmps93 (Nat.le_of_ble_eq_true z) ?_
 refine wp_seq (wrl (wv (.int .i64 (0:Int)) z z z (wl_nil (tn (wp_seq (wp_seq (wrl (wv (r0_2) z z z (wv (.int .i64 ((a0.Puts).length : Int)) z z (x_len z underlying30 (rd_sliceV f0_2)) (wv (.int .i64 (0:Int)) z z z (wl_nil (tn (wp_block ?_)))))))))))))
 obtain ⟨n220, hm⟩ := loopO_some hm
 refine wp_loop_n (fun n a w => ∃ (z218 : Int) (σ219 : Nat → Value), loopN (locks_writes_l0 a0 a1 a2) n z218 = some y246 ∧ a = Fr 19 (upd (upd (upd (upd σ219 0 (r0_2)) 1 (.func (.func 78) #[] #[Pt b173 0, Pt b178 0])) 7 (.int .i64 ((a0.Puts).length : Int))) 8 (.int .i64 z218)) ∧ St w0 w I [cells b178 [F6 a2], cells b173 [F6 a1], cells b168 [U6 a0.ID.Session, U6 a0.ID.Seq, U6 a0.Epoch, r0_0, r0_1, r0_2, r0_3]] R) n220 ⟨(0:Int), _, hm, (fu 0 r0_2 z (fu 1 (.func (.func 78) #[] #[Pt b173 0, Pt b178 0]) z (fu 7 (.int .i64 ((a0.Puts).length : Int)) z (fu 8 (.int .i64 (0:Int)) z z)))), hst⟩ ?_
 rintro n226 _ w221 ⟨z218, σ219, hm, rfl, hst⟩
 obtain ⟨n223, y224, rfl, hm, hx225⟩ := loopN_some hm
 dsimp only [locks_writes_l0] at hm
 refine wp_seq (wrl (wv (.bool (decide (z218 < ((a0.Puts).length : Int)))) z z z (wl_nil (tn (wp_seq ?_)))))
 refine bsplit (decide (z218 < ((a0.Puts).length : Int))) (fun hc227 => ?_) (fun hc227 => ?_)
 {
 replace hm := bif_t hc227 hm
 refine wp_ift (cvb hc227) ?_
 refine wp_skip (tn (wp_seq (wp_block (wp_seq (wrl ?_)))))
 refine wv (.int .i64 z218) z z z (wv (.int .i64 z218) z z z (wl_nil (tn (wp_seq (wrl (wv (.func (.func 78) #[] #[Pt b173 0, Pt b178 0]) z z z (wv (r0_2) z z z (wv (.int .i64 z218) z z z ?_))))))))
 obtain ⟨x228, hx229, hm⟩ := bind_some hm
 obtain ⟨h230, h231, hi232⟩ := geto_some hx229
 refine wv (.pointer (some (eAddr r0_2 (z218.toNat * 1 + 0)))) z z (x_index z z underlying30 sizeOf57 (rd_sliceV f0_2) h230 h231) (wv (.float .f64 x228) z z (x_load z isAgg57 (rd_load f0_2 (HL.le.refl _) hst hi232 (by rintro _ rfl; rfl))) ?_)
 obtain ⟨y240, hq241, hm⟩ := bind_some hm
 refine wl_call z z (x_callv call78 (caps := [Pt b173 0, Pt b178 0]) z (vs := [F6 x228]) z) ?_
 refine Calls.mono (show Calls prog 78 #[F6 x228, Pt b173 0, Pt b178 0] _ (fun e w' => ∃ (z238 : Bool), z238 = y240 ∧ e = .returned (.bool z238) ∧ St w0 w' I [cells b168 [U6 a0.ID.Session, U6 a0.ID.Seq, U6 a0.Epoch, r0_0, r0_1, r0_2, r0_3], cells b173 [F6 a1], cells b178 [F6 a2]] R) from ?_) ?_
 {
 clear hm; have hm := hq241
 refine calls_start (args := [F6 x228, Pt b173 0, Pt b178 0]) func78 z ntmps78 (Nat.le_of_ble_eq_true z) ?_
 refine wp_seq (wrl (wv (.bool false) z z z (wl_nil (tn (wp_seq (wrl (wv (.float .f64 x228) z z z (wv (.float .f64 a1) z z (x_load z isAgg57 (hst.bc1 z)) (wv (.float .f64 a2) z z (x_load z isAgg57 (hst.bc0 z)) ?_)))))))))
 obtain ⟨t233, ht234, hm⟩ := bind_some hm
 refine wc call79 [F6 x228, F6 a1, F6 a2] z z z ?_
 refine (number_Within_ref hst.to0 ht234).mono ?_
 rintro _ w235 ⟨rfl, hst⟩
 refine ⟨_, z, ?_⟩
 replace hst := hst.of0
 refine wv (.bool t233) z z z (wl_nil (tn (wp_ret ?_)))
 refine post_ret (vs := [.bool t233]) results78 (rvs_cons (rv_tmp z) rvs_nil) ?_
 replace hst := hst.pull1.pull2.keep3
 obtain rfl := some_inj hm
 exact ⟨t233, z, z, hst⟩
}
 clear hst
 rintro _ w242 ⟨z238, rfl, rfl, hst⟩
 refine ⟨_, z, ?_⟩
 try dsimp only at hm
 refine wl_nil (tn ?_)
 refine bsplit z238 (fun hc243 => ?_) (fun hc243 => ?_)
 {
 replace hm := bif_t hc243 hm
 refine wp_ift (cvb hc243) ?_
 refine wp_seq (wrl (wv (.int .i64 z218) z z z (wv (.int .i64 z218) z z z (wl_nil (tn (wp_ret (blk_r (then_r (then_r ?_)))))))))
 replace hm := inr_up hm hx225
 refine blk_r (then_r ?_)
 refine post_ret (vs := [I6 z218]) results93 (rvs_cons (rv_tmp z) rvs_nil) ?_
 replace hst := hst.pull2.pull2.pull2.keep3
 obtain rfl := some_inj hm
 exact ⟨z218, z, z, hst⟩
}
 {
 replace hm := bif_f hc243 hm
 refine wp_iff (cvb hc243) ?_
 refine wp_skip (blk_n (tn (wrl ?_)))
 refine wv (.int .i64 (i64.wrap (z218 + (1:Int)))) z z z (wv (.int .i64 (i64.wrap (z218 + (1:Int)))) z z z (wl_nil (tn ?_)))
 replace hst := hst.pull1.pull2.keep3
 obtain rfl := some_inj hm
 exact ⟨_, Nat.lt_succ_self _, (i64.wrap (z218 + (1:Int))), _, hx225, (fu 0 r0_2 z (fu 1 (.func (.func 78) #[] #[Pt b173 0, Pt b178 0]) z (fu 7 (.int .i64 ((a0.Puts).length : Int)) z (fu 8 (.int .i64 (i64.wrap (z218 + (1:Int)))) z z)))), hst⟩
}
}
 {
 replace hm := bif_f hc227 hm
 refine wp_iff (cvb hc227) ?_
 refine wp_exit (then_x (then_x ?_))
 replace hm := inr_up hm hx225
 refine blk_x (tn (wp_seq (wrl ?_)))
 refine wv (.int .i64 ((-1):Int)) z z z (wl_nil (tn (wp_ret ?_)))
 refine post_ret (vs := [I6 ((-1):Int)]) results93 (rvs_cons (rv_tmp z) rvs_nil) ?_
 replace hst := hst.pull1.pull2.keep3
 obtain rfl := some_inj hm
 exact ⟨((-1):Int), z, z, hst⟩
}
}
 clear hst
 rintro _ w248 ⟨z244, rfl, rfl, hst⟩
 refine ⟨_, z, ?_⟩
 try dsimp only at hm
 refine wv (.bool (decide (z244 ≥ (0:Int)))) z z z (wv (.bool (decide (z244 ≥ (0:Int)))) z z z (wl_nil (tn (wp_ret ?_))))
 refine post_ret (vs := [.bool (decide (z244 ≥ (0:Int)))]) results77 (rvs_cons (rv_tmp z) rvs_nil) ?_
 replace hst := hst.pull2.pull2.pull2.keep3
 obtain rfl := some_inj hm
 exact ⟨(decide (z244 ≥ (0:Int))), z, z, hst⟩
}
 clear hst
 rintro _ w253 ⟨z249, rfl, rfl, hst⟩
 refine ⟨_, z, ?_⟩
 try dsimp only at hm
 refine wv (.bool z249) z z z (wl_nil (tn (wp_ret ?_)))
 obtain rfl := some_inj hm
 refine post_ret (vs := [.bool z249]) results52 (rvs_cons (rv_tmp z) rvs_nil) ?_
 exact ⟨z, hst.keep0⟩
}

theorem number_Same_ref {w0 w : World} {I : HL} {R : SP} {a0 : Nat} {a1 : Nat}  (hst : St w0 w I [] R) {r : (Bool)} (hm : number_Same a0 a1 = some r) :
  Calls prog 47 #[F6 a0, F6 a1] w fun e w' => e = .returned (.bool r) ∧ St w0 w' I [] R := by {
 unfold number_Same at hm
 refine calls_start (args := [F6 a0, F6 a1]) func47 z ntmps47 (Nat.le_of_ble_eq_true z) ?_
 refine wp_seq (wrl (wv (.bool false) z z z (wl_nil (tn (wp_seq (wrl (wv (.float .f64 a0) z z z ?_)))))))
 obtain ⟨t110, ht111, hm⟩ := bind_some hm
 refine wc call61 [F6 a0] z z z ?_
 refine (number_Rank_ref hst.to0 ht111).mono ?_
 rintro _ w112 ⟨rfl, hst⟩
 refine ⟨_, z, ?_⟩
 replace hst := hst.of0
 refine wv (.float .f64 a1) z z z ?_
 obtain ⟨t115, ht116, hm⟩ := bind_some hm
 refine wc call61 [F6 a1] z z z ?_
 refine (number_Rank_ref hst.to0 ht116).mono ?_
 rintro _ w117 ⟨rfl, hst⟩
 refine ⟨_, z, ?_⟩
 replace hst := hst.of0
 refine wv (.bool (t110 == t115)) z z z (wv (.bool (t110 == t115)) z z z (wl_nil (tn (wp_ret ?_))))
 obtain rfl := some_inj hm
 refine post_ret (vs := [.bool (t110 == t115)]) results47 (rvs_cons (rv_tmp z) rvs_nil) ?_
 exact ⟨z, hst.keep0⟩
}

theorem locks_reads_ref {w0 w : World} {I : HL} {R : SP} {a0 : api_Hold} {r0_0 : Value} {r0_1 : Value} {r0_2 : Value} {r0_3 : Value} {a1 : Nat} (f0_0 : Rd tyF64 R I r0_0 a0.Gets) (f0_1 : Rd tyF2 R I r0_1 a0.Scans) (f0_2 : Rd tyF64 R I r0_2 a0.Puts) (f0_3 : Rd (tyInt .u8) R I r0_3 a0.Data) (hst : St w0 w I [] R) {r : (Bool)} (hm : locks_reads a0 a1 = some r) :
  Calls prog 53 #[.agg #[U6 a0.ID.Session, U6 a0.ID.Seq, U6 a0.Epoch, r0_0, r0_1, r0_2, r0_3], F6 a1] w fun e w' => e = .returned (.bool r) ∧ St w0 w' I [] R := by {
 unfold locks_reads at hm
 refine calls_start (args := [.agg #[U6 a0.ID.Session, U6 a0.ID.Seq, U6 a0.Epoch, r0_0, r0_1, r0_2, r0_3], F6 a1]) func53 z ntmps53 (Nat.le_of_ble_eq_true z) ?_
 refine wp_seq (wrl ?_)
 obtain ⟨b256, w257, ew258, eb259, hst⟩ := hst.box [U6 a0.ID.Session, U6 a0.ID.Seq, U6 a0.Epoch, r0_0, r0_1, r0_2, r0_3] 34
 refine wl_run (v := Pt b256 0) (w' := w257) z z (x_al (by kernel_rfl) ew258 eb259) ?_
 obtain ⟨b261, w262, ew263, eb264, hst⟩ := hst.box [F6 a1] 57
 refine wl_run (v := Pt b261 0) (w' := w262) z z (x_al (by kernel_rfl) ew263 eb264) ?_
 refine wv (.bool false) z z z (wl_nil (tn (wp_seq (wrl (wv (Pt b256 3) z z (x_field z underlying34 z sizeOf30 z) (wv (r0_0) z z (x_load z isAgg30 (hst.bc1 z)) (wv (.func (.func 80) #[] #[Pt b261 0]) z z (by kernel_rfl) ?_)))))))
 obtain ⟨y334, hq335, hm⟩ := bind_some hm
 refine wl_call z z (x_callv call77 (caps := []) z (vs := [r0_0, .func (.func 80) #[] #[Pt b261 0]]) z) ?_
 refine Calls.mono (show Calls prog 77 #[r0_0, .func (.func 80) #[] #[Pt b261 0]] _ (fun e w' => ∃ (z332 : Bool), z332 = y334 ∧ e = .returned (.bool z332) ∧ St w0 w' I [cells b256 [U6 a0.ID.Session, U6 a0.ID.Seq, U6 a0.Epoch, r0_0, r0_1, r0_2, r0_3], cells b261 [F6 a1]] R) from ?_) ?_
 {
 clear hm; have hm := hq335
 refine calls_start (args := [r0_0, .func (.func 80) #[] #[Pt b261 0]]) func77 z ntmps77 (Nat.le_of_ble_eq_true z) ?_
 refine wp_seq (wrl (wv (.bool false) z z z (wl_nil (tn (wp_seq (wrl (wv (r0_0) z z z (wv (.func (.func 80) #[] #[Pt b261 0]) z z z ?_))))))))
 obtain ⟨y329, hq330, hm⟩ := bind_some hm
 refine wl_call z z (x_callv call93 (caps := []) z (vs := [r0_0, .func (.func 80) #[] #[Pt b261 0]]) z) ?_
 refine Calls.mono (show Calls prog 93 #[r0_0, .func (.func 80) #[] #[Pt b261 0]] _ (fun e w' => ∃ (z327 : Int), z327 = y329 ∧ e = .returned (.int .i64 z327) ∧ St w0 w' I [cells b256 [U6 a0.ID.Session, U6 a0.ID.Seq, U6 a0.Epoch, r0_0, r0_1, r0_2, r0_3], cells b261 [F6 a1]] R) from ?_) ?_
 {
 clear hm; have hm := hq330
 refine calls_start (args := [r0_0, .func (.func 80) #[] #[Pt b261 0]]) func93 z ntmps93 (Nat.le_of_ble_eq_true z) ?_
 refine wp_seq (wrl (wv (.int .i64 (0:Int)) z z z (wl_nil (tn (wp_seq (wp_seq (wrl (wv (r0_0) z z z (wv (.int .i64 ((a0.Gets).length : Int)) z z (x_len z underlying30 (rd_sliceV f0_0)) (wv (.int .i64 (0:Int)) z z z (wl_nil (tn (wp_block ?_)))))))))))))
 obtain ⟨n303, hm⟩ := loopO_some hm
 refine wp_loop_n (fun n a w => ∃ (z301 : Int) (σ302 : Nat → Value), loopN (locks_reads_l0 a0 a1) n z301 = some y329 ∧ a = Fr 19 (upd (upd (upd (upd σ302 0 (r0_0)) 1 (.func (.func 80) #[] #[Pt b261 0])) 7 (.int .i64 ((a0.Gets).length : Int))) 8 (.int .i64 z301)) ∧ St w0 w I [cells b261 [F6 a1], cells b256 [U6 a0.ID.Session, U6 a0.ID.Seq, U6 a0.Epoch, r0_0, r0_1, r0_2, r0_3]] R) n303 ⟨(0:Int), _, hm, (fu 0 r0_0 z (fu 1 (.func (.func 80) #[] #[Pt b261 0]) z (fu 7 (.int .i64 ((a0.Gets).length : Int)) z (fu 8 (.int .i64 (0:Int)) z z)))), hst⟩ ?_
 rintro n309 _ w304 ⟨z301, σ302, hm, rfl, hst⟩
 obtain ⟨n306, y307, rfl, hm, hx308⟩ := loopN_some hm
 dsimp only [locks_reads_l0] at hm
 refine wp_seq (wrl (wv (.bool (decide (z301 < ((a0.Gets).length : Int)))) z z z (wl_nil (tn (wp_seq ?_)))))
 refine bsplit (decide (z301 < ((a0.Gets).length : Int))) (fun hc310 => ?_) (fun hc310 => ?_)
 {
 replace hm := bif_t hc310 hm
 refine wp_ift (cvb hc310) ?_
 refine wp_skip (tn (wp_seq (wp_block (wp_seq (wrl ?_)))))
 refine wv (.int .i64 z301) z z z (wv (.int .i64 z301) z z z (wl_nil (tn (wp_seq (wrl (wv (.func (.func 80) #[] #[Pt b261 0]) z z z (wv (r0_0) z z z (wv (.int .i64 z301) z z z ?_))))))))
 obtain ⟨x311, hx312, hm⟩ := bind_some hm
 obtain ⟨h313, h314, hi315⟩ := geto_some hx312
 refine wv (.pointer (some (eAddr r0_0 (z301.toNat * 1 + 0)))) z z (x_index z z underlying30 sizeOf57 (rd_sliceV f0_0) h313 h314) (wv (.float .f64 x311) z z (x_load z isAgg57 (rd_load f0_0 (HL.le.refl _) hst hi315 (by rintro _ rfl; rfl))) ?_)
 obtain ⟨y323, hq324, hm⟩ := bind_some hm
 refine wl_call z z (x_callv call80 (caps := [Pt b261 0]) z (vs := [F6 x311]) z) ?_
 refine Calls.mono (show Calls prog 80 #[F6 x311, Pt b261 0] _ (fun e w' => ∃ (z321 : Bool), z321 = y323 ∧ e = .returned (.bool z321) ∧ St w0 w' I [cells b256 [U6 a0.ID.Session, U6 a0.ID.Seq, U6 a0.Epoch, r0_0, r0_1, r0_2, r0_3], cells b261 [F6 a1]] R) from ?_) ?_
 {
 clear hm; have hm := hq324
 refine calls_start (args := [F6 x311, Pt b261 0]) func80 z ntmps80 (Nat.le_of_ble_eq_true z) ?_
 refine wp_seq (wrl (wv (.bool false) z z z (wl_nil (tn (wp_seq (wrl (wv (.float .f64 a1) z z (x_load z isAgg57 (hst.bc0 z)) (wv (.float .f64 x311) z z z ?_))))))))
 obtain ⟨t316, ht317, hm⟩ := bind_some hm
 refine wc call47 [F6 a1, F6 x311] z z z ?_
 refine (number_Same_ref hst.to0 ht317).mono ?_
 rintro _ w318 ⟨rfl, hst⟩
 refine ⟨_, z, ?_⟩
 replace hst := hst.of0
 refine wv (.bool t316) z z z (wl_nil (tn (wp_ret ?_)))
 refine post_ret (vs := [.bool t316]) results80 (rvs_cons (rv_tmp z) rvs_nil) ?_
 replace hst := hst.pull1.keep2
 obtain rfl := some_inj hm
 exact ⟨t316, z, z, hst⟩
}
 clear hst
 rintro _ w325 ⟨z321, rfl, rfl, hst⟩
 refine ⟨_, z, ?_⟩
 try dsimp only at hm
 refine wl_nil (tn ?_)
 refine bsplit z321 (fun hc326 => ?_) (fun hc326 => ?_)
 {
 replace hm := bif_t hc326 hm
 refine wp_ift (cvb hc326) ?_
 refine wp_seq (wrl (wv (.int .i64 z301) z z z (wv (.int .i64 z301) z z z (wl_nil (tn (wp_ret (blk_r (then_r (then_r ?_)))))))))
 replace hm := inr_up hm hx308
 refine blk_r (then_r ?_)
 refine post_ret (vs := [I6 z301]) results93 (rvs_cons (rv_tmp z) rvs_nil) ?_
 replace hst := hst.pull1.pull1.keep2
 obtain rfl := some_inj hm
 exact ⟨z301, z, z, hst⟩
}
 {
 replace hm := bif_f hc326 hm
 refine wp_iff (cvb hc326) ?_
 refine wp_skip (blk_n (tn (wrl ?_)))
 refine wv (.int .i64 (i64.wrap (z301 + (1:Int)))) z z z (wv (.int .i64 (i64.wrap (z301 + (1:Int)))) z z z (wl_nil (tn ?_)))
 replace hst := hst.pull1.keep2
 obtain rfl := some_inj hm
 exact ⟨_, Nat.lt_succ_self _, (i64.wrap (z301 + (1:Int))), _, hx308, (fu 0 r0_0 z (fu 1 (.func (.func 80) #[] #[Pt b261 0]) z (fu 7 (.int .i64 ((a0.Gets).length : Int)) z (fu 8 (.int .i64 (i64.wrap (z301 + (1:Int)))) z z)))), hst⟩
}
}
 {
 replace hm := bif_f hc310 hm
 refine wp_iff (cvb hc310) ?_
 refine wp_exit (then_x (then_x ?_))
 replace hm := inr_up hm hx308
 refine blk_x (tn (wp_seq (wrl ?_)))
 refine wv (.int .i64 ((-1):Int)) z z z (wl_nil (tn (wp_ret ?_)))
 refine post_ret (vs := [I6 ((-1):Int)]) results93 (rvs_cons (rv_tmp z) rvs_nil) ?_
 replace hst := hst.pull1.keep2
 obtain rfl := some_inj hm
 exact ⟨((-1):Int), z, z, hst⟩
}
}
 clear hst
 rintro _ w331 ⟨z327, rfl, rfl, hst⟩
 refine ⟨_, z, ?_⟩
 try dsimp only at hm
 refine wv (.bool (decide (z327 ≥ (0:Int)))) z z z (wv (.bool (decide (z327 ≥ (0:Int)))) z z z (wl_nil (tn (wp_ret ?_))))
 refine post_ret (vs := [.bool (decide (z327 ≥ (0:Int)))]) results77 (rvs_cons (rv_tmp z) rvs_nil) ?_
 replace hst := hst.pull1.pull1.keep2
 obtain rfl := some_inj hm
 exact ⟨(decide (z327 ≥ (0:Int))), z, z, hst⟩
}
 clear hst
 rintro _ w336 ⟨z332, rfl, rfl, hst⟩
 refine ⟨_, z, ?_⟩
 try dsimp only at hm
 refine wv (.bool z332) z z z ?_
 refine bsplit z332 (fun hc337 => ?_) (fun hc337 => ?_)
 {
 replace hm := bif_t hc337 hm
 refine wo hc337 z z z z z z (wo hc337 z z z z z z (wo hc337 z z z z z z (wo hc337 z z z z z z (wv (.bool true) z z (x_pick_t hc337 z z) (wv (.bool true) z z z (wl_nil (tn (wp_ret ?_))))))))
 obtain rfl := some_inj hm
 refine post_ret (vs := [.bool true]) results53 (rvs_cons (rv_tmp z) rvs_nil) ?_
 exact ⟨z, hst.keep0⟩
}
 {
 replace hm := bif_f hc337 hm
 refine wv (Pt b256 4) ((wanted_eq z z z (cvb hc337)).trans z) z (x_field z underlying34 z sizeOf31 z) (wv (r0_1) ((wanted_eq z z z (cvb hc337)).trans z) z (x_load z isAgg31 (hst.bc0 z)) (wv (.func (.func 82) #[] #[Pt b261 0]) ((wanted_eq z z z (cvb hc337)).trans z) z (by kernel_rfl) ?_))
 obtain ⟨y421, hq422, hm⟩ := bind_some hm
 refine wl_call ((wanted_eq z z z (cvb hc337)).trans z) z (x_callv call81 (caps := []) z (vs := [r0_1, .func (.func 82) #[] #[Pt b261 0]]) z) ?_
 refine Calls.mono (show Calls prog 81 #[r0_1, .func (.func 82) #[] #[Pt b261 0]] _ (fun e w' => ∃ (z419 : Bool), z419 = y421 ∧ e = .returned (.bool z419) ∧ St w0 w' I [cells b256 [U6 a0.ID.Session, U6 a0.ID.Seq, U6 a0.Epoch, r0_0, r0_1, r0_2, r0_3], cells b261 [F6 a1]] R) from ?_) ?_
 {
 clear hm; have hm := hq422
 refine calls_start (args := [r0_1, .func (.func 82) #[] #[Pt b261 0]]) func81 z ntmps81 (Nat.le_of_ble_eq_true z) ?_
 refine wp_seq (wrl (wv (.bool false) z z z (wl_nil (tn (wp_seq (wrl (wv (r0_1) z z z (wv (.func (.func 82) #[] #[Pt b261 0]) z z z ?_))))))))
 obtain ⟨y416, hq417, hm⟩ := bind_some hm
 refine wl_call z z (x_callv call94 (caps := []) z (vs := [r0_1, .func (.func 82) #[] #[Pt b261 0]]) z) ?_
 refine Calls.mono (show Calls prog 94 #[r0_1, .func (.func 82) #[] #[Pt b261 0]] _ (fun e w' => ∃ (z414 : Int), z414 = y416 ∧ e = .returned (.int .i64 z414) ∧ St w0 w' I [cells b256 [U6 a0.ID.Session, U6 a0.ID.Seq, U6 a0.Epoch, r0_0, r0_1, r0_2, r0_3], cells b261 [F6 a1]] R) from ?_) ?_
 {
 clear hm; have hm := hq417
 refine calls_start (args := [r0_1, .func (.func 82) #[] #[Pt b261 0]]) func94 z ntmps94 (Nat.le_of_ble_eq_true z) ?_
 refine wp_seq (wrl (wv (.int .i64 (0:Int)) z z z (wl_nil (tn (wp_seq (wp_seq (wrl (wv (r0_1) z z z (wv (.int .i64 ((a0.Scans).length : Int)) z z (x_len z underlying31 (rd_sliceV f0_1)) (wv (.int .i64 (0:Int)) z z z (wl_nil (tn (wp_block ?_)))))))))))))
 obtain ⟨n385, hm⟩ := loopO_some hm
 refine wp_loop_n (fun n a w => ∃ (z383 : Int) (σ384 : Nat → Value), loopN (locks_reads_l1 a0 a1) n z383 = some y416 ∧ a = Fr 19 (upd (upd (upd (upd σ384 0 (r0_1)) 1 (.func (.func 82) #[] #[Pt b261 0])) 7 (.int .i64 ((a0.Scans).length : Int))) 8 (.int .i64 z383)) ∧ St w0 w I [cells b256 [U6 a0.ID.Session, U6 a0.ID.Seq, U6 a0.Epoch, r0_0, r0_1, r0_2, r0_3], cells b261 [F6 a1]] R) n385 ⟨(0:Int), _, hm, (fu 0 r0_1 z (fu 1 (.func (.func 82) #[] #[Pt b261 0]) z (fu 7 (.int .i64 ((a0.Scans).length : Int)) z (fu 8 (.int .i64 (0:Int)) z z)))), hst⟩ ?_
 rintro n391 _ w386 ⟨z383, σ384, hm, rfl, hst⟩
 obtain ⟨n388, y389, rfl, hm, hx390⟩ := loopN_some hm
 dsimp only [locks_reads_l1] at hm
 refine wp_seq (wrl (wv (.bool (decide (z383 < ((a0.Scans).length : Int)))) z z z (wl_nil (tn (wp_seq ?_)))))
 refine bsplit (decide (z383 < ((a0.Scans).length : Int))) (fun hc392 => ?_) (fun hc392 => ?_)
 {
 replace hm := bif_t hc392 hm
 refine wp_ift (cvb hc392) ?_
 refine wp_skip (tn (wp_seq (wp_block (wp_seq (wrl ?_)))))
 refine wv (.int .i64 z383) z z z (wv (.int .i64 z383) z z z (wl_nil (tn (wp_seq (wrl (wv (.func (.func 82) #[] #[Pt b261 0]) z z z (wv (r0_1) z z z (wv (.int .i64 z383) z z z ?_))))))))
 obtain ⟨x393, hx394, hm⟩ := bind_some hm
 obtain ⟨h395, h396, hi397⟩ := geto_some hx394
 refine wv (.pointer (some (eAddr r0_1 (z383.toNat * 2 + 0)))) z z (x_index z z underlying31 sizeOf75 (rd_sliceV f0_1) h395 h396) (wv (.agg #[F6 x393.1, F6 x393.2]) z z (x_loadN (cs := [F6 x393.1, F6 x393.2]) z isAgg75 sizeOf75 (rd_loadN f0_1 (HL.le.refl _) hst hi397 0 (by rintro _ rfl; rfl))) ?_)
 obtain ⟨y410, hq411, hm⟩ := bind_some hm
 refine wl_call z z (x_callv call82 (caps := [Pt b261 0]) z (vs := [.agg #[F6 x393.1, F6 x393.2]]) z) ?_
 refine Calls.mono (show Calls prog 82 #[.agg #[F6 x393.1, F6 x393.2], Pt b261 0] _ (fun e w' => ∃ (z408 : Bool), z408 = y410 ∧ e = .returned (.bool z408) ∧ St w0 w' I [cells b256 [U6 a0.ID.Session, U6 a0.ID.Seq, U6 a0.Epoch, r0_0, r0_1, r0_2, r0_3], cells b261 [F6 a1]] R) from ?_) ?_
 {
 clear hm; have hm := hq411
 refine calls_start (args := [.agg #[F6 x393.1, F6 x393.2], Pt b261 0]) func82 z ntmps82 (Nat.le_of_ble_eq_true z) ?_
 refine wp_seq (wrl ?_)
 obtain ⟨b398, w399, ew400, eb401, hst⟩ := hst.box [F6 x393.1, F6 x393.2] 75
 refine wl_run (v := Pt b398 0) (w' := w399) z z (x_al (by kernel_rfl) ew400 eb401) ?_
 refine wv (.bool false) z z z (wl_nil (tn (wp_seq (wrl (wv (.float .f64 a1) z z (x_load z isAgg57 (hst.bc2 z)) (wv (Pt b398 0) z z (x_index_arr (i := (0:Int)) z z underlying75 sizeOf57 (by decide) (by decide)) (wv (.float .f64 x393.1) z z (x_load z isAgg57 (hst.bc0 z)) (wv (Pt b398 1) z z (x_index_arr (i := (1:Int)) z z underlying75 sizeOf57 (by decide) (by decide)) (wv (.float .f64 x393.2) z z (x_load z isAgg57 (hst.bc0 z)) ?_)))))))))
 obtain ⟨t403, ht404, hm⟩ := bind_some hm
 refine wc call79 [F6 a1, F6 x393.1, F6 x393.2] z z z ?_
 refine (number_Within_ref hst.to0 ht404).mono ?_
 rintro _ w405 ⟨rfl, hst⟩
 refine ⟨_, z, ?_⟩
 replace hst := hst.of0
 refine wv (.bool t403) z z z (wl_nil (tn (wp_ret ?_)))
 refine post_ret (vs := [.bool t403]) results82 (rvs_cons (rv_tmp z) rvs_nil) ?_
 replace hst := hst.pull2.pull2.keep2
 obtain rfl := some_inj hm
 exact ⟨t403, z, z, hst⟩
}
 clear hst
 rintro _ w412 ⟨z408, rfl, rfl, hst⟩
 refine ⟨_, z, ?_⟩
 try dsimp only at hm
 refine wl_nil (tn ?_)
 refine bsplit z408 (fun hc413 => ?_) (fun hc413 => ?_)
 {
 replace hm := bif_t hc413 hm
 refine wp_ift (cvb hc413) ?_
 refine wp_seq (wrl (wv (.int .i64 z383) z z z (wv (.int .i64 z383) z z z (wl_nil (tn (wp_ret (blk_r (then_r (then_r ?_)))))))))
 replace hm := inr_up hm hx390
 refine blk_r (then_r ?_)
 refine post_ret (vs := [I6 z383]) results94 (rvs_cons (rv_tmp z) rvs_nil) ?_
 replace hst := hst.pull1.pull1.keep2
 obtain rfl := some_inj hm
 exact ⟨z383, z, z, hst⟩
}
 {
 replace hm := bif_f hc413 hm
 refine wp_iff (cvb hc413) ?_
 refine wp_skip (blk_n (tn (wrl ?_)))
 refine wv (.int .i64 (i64.wrap (z383 + (1:Int)))) z z z (wv (.int .i64 (i64.wrap (z383 + (1:Int)))) z z z (wl_nil (tn ?_)))
 replace hst := hst.pull1.pull1.keep2
 obtain rfl := some_inj hm
 exact ⟨_, Nat.lt_succ_self _, (i64.wrap (z383 + (1:Int))), _, hx390, (fu 0 r0_1 z (fu 1 (.func (.func 82) #[] #[Pt b261 0]) z (fu 7 (.int .i64 ((a0.Scans).length : Int)) z (fu 8 (.int .i64 (i64.wrap (z383 + (1:Int)))) z z)))), hst⟩
}
}
 {
 replace hm := bif_f hc392 hm
 refine wp_iff (cvb hc392) ?_
 refine wp_exit (then_x (then_x ?_))
 replace hm := inr_up hm hx390
 refine blk_x (tn (wp_seq (wrl ?_)))
 refine wv (.int .i64 ((-1):Int)) z z z (wl_nil (tn (wp_ret ?_)))
 refine post_ret (vs := [I6 ((-1):Int)]) results94 (rvs_cons (rv_tmp z) rvs_nil) ?_
 replace hst := hst.pull1.pull1.keep2
 obtain rfl := some_inj hm
 exact ⟨((-1):Int), z, z, hst⟩
}
}
 clear hst
 rintro _ w418 ⟨z414, rfl, rfl, hst⟩
 refine ⟨_, z, ?_⟩
 try dsimp only at hm
 refine wv (.bool (decide (z414 ≥ (0:Int)))) z z z (wv (.bool (decide (z414 ≥ (0:Int)))) z z z (wl_nil (tn (wp_ret ?_))))
 refine post_ret (vs := [.bool (decide (z414 ≥ (0:Int)))]) results81 (rvs_cons (rv_tmp z) rvs_nil) ?_
 replace hst := hst.pull1.pull1.keep2
 obtain rfl := some_inj hm
 exact ⟨(decide (z414 ≥ (0:Int))), z, z, hst⟩
}
 clear hst
 rintro _ w423 ⟨z419, rfl, rfl, hst⟩
 refine ⟨_, z, ?_⟩
 try dsimp only at hm
 refine wv (.bool z419) z z (x_pick_f hc337 z z) (wv (.bool z419) z z z (wl_nil (tn (wp_ret ?_))))
 obtain rfl := some_inj hm
 refine post_ret (vs := [.bool z419]) results53 (rvs_cons (rv_tmp z) rvs_nil) ?_
 exact ⟨z, hst.keep0⟩
}
}

theorem locks_Meet_ref {w0 w : World} {I : HL} {R : SP} {a0 : api_Hold} {r0_0 : Value} {r0_1 : Value} {r0_2 : Value} {r0_3 : Value} {a1 : api_Hold} {r1_0 : Value} {r1_1 : Value} {r1_2 : Value} {r1_3 : Value} (f0_0 : Rd tyF64 R I r0_0 a0.Gets) (f0_1 : Rd tyF2 R I r0_1 a0.Scans) (f0_2 : Rd tyF64 R I r0_2 a0.Puts) (f0_3 : Rd (tyInt .u8) R I r0_3 a0.Data) (f1_0 : Rd tyF64 R I r1_0 a1.Gets) (f1_1 : Rd tyF2 R I r1_1 a1.Scans) (f1_2 : Rd tyF64 R I r1_2 a1.Puts) (f1_3 : Rd (tyInt .u8) R I r1_3 a1.Data) (hst : St w0 w I [] R) {r : (Bool)} (hm : locks_Meet a0 a1 = some r) :
  Calls prog 19 #[.agg #[U6 a0.ID.Session, U6 a0.ID.Seq, U6 a0.Epoch, r0_0, r0_1, r0_2, r0_3], .agg #[U6 a1.ID.Session, U6 a1.ID.Seq, U6 a1.Epoch, r1_0, r1_1, r1_2, r1_3]] w fun e w' => e = .returned (.bool r) ∧ St w0 w' I [] R := by {
 unfold locks_Meet at hm
 refine calls_start (args := [.agg #[U6 a0.ID.Session, U6 a0.ID.Seq, U6 a0.Epoch, r0_0, r0_1, r0_2, r0_3], .agg #[U6 a1.ID.Session, U6 a1.ID.Seq, U6 a1.Epoch, r1_0, r1_1, r1_2, r1_3]]) func19 z ntmps19 (Nat.le_of_ble_eq_true z) ?_
 refine wp_seq (wrl ?_)
 obtain ⟨b191, w192, ew193, eb194, hst⟩ := hst.box [U6 a0.ID.Session, U6 a0.ID.Seq, U6 a0.Epoch, r0_0, r0_1, r0_2, r0_3] 34
 refine wl_run (v := Pt b191 0) (w' := w192) z z (x_al (by kernel_rfl) ew193 eb194) ?_
 obtain ⟨b196, w197, ew198, eb199, hst⟩ := hst.box [U6 a1.ID.Session, U6 a1.ID.Seq, U6 a1.Epoch, r1_0, r1_1, r1_2, r1_3] 34
 refine wl_run (v := Pt b196 0) (w' := w197) z z (x_al (by kernel_rfl) ew198 eb199) ?_
 refine wv (.bool false) z z z (wl_nil (tn ?_))
 obtain ⟨y267, hm, hx268⟩ := joinO_some hm
 refine wp_cut (fun a w => ∃ (σ265 : Nat → Value), (locks_Meet_j0 a1 a0) () = some r ∧ a = Fr 37 (upd (upd σ265 2 (Pt b191 0)) 3 (Pt b196 0)) ∧ St w0 w I [cells b191 [U6 a0.ID.Session, U6 a0.ID.Seq, U6 a0.Epoch, r0_0, r0_1, r0_2, r0_3], cells b196 [U6 a1.ID.Session, U6 a1.ID.Seq, U6 a1.Epoch, r1_0, r1_1, r1_2, r1_3]] R) ?_ ?_
 {
 refine wp_seq (wrl (wv (Pt b191 5) z z (x_field z underlying34 z sizeOf30 z) (wv (r0_2) z z (x_load z isAgg30 (hst.bc1 z)) (wv (.int .i64 ((a0.Puts).length : Int)) z z (x_len z underlying30 (rd_sliceV f0_2)) (wv (.int .i64 (0:Int)) z z z (wl_nil (tn (wp_block ?_))))))))
 obtain ⟨n240, hm⟩ := loopO_some hm
 refine wp_loop_n (fun n a w => ∃ (z238 : Int) (σ239 : Nat → Value), loopN (locks_Meet_l1 a0 a1) n z238 = some y267 ∧ a = Fr 37 (upd (upd (upd (upd (upd σ239 2 (Pt b191 0)) 3 (Pt b196 0)) 10 (r0_2)) 11 (.int .i64 ((a0.Puts).length : Int))) 12 (.int .i64 z238)) ∧ St w0 w I [cells b196 [U6 a1.ID.Session, U6 a1.ID.Seq, U6 a1.Epoch, r1_0, r1_1, r1_2, r1_3], cells b191 [U6 a0.ID.Session, U6 a0.ID.Seq, U6 a0.Epoch, r0_0, r0_1, r0_2, r0_3]] R) n240 ⟨(0:Int), _, hm, (fu 2 (Pt b191 0) z (fu 3 (Pt b196 0) z (fu 10 r0_2 z (fu 11 (.int .i64 ((a0.Puts).length : Int)) z (fu 12 (.int .i64 (0:Int)) z z))))), hst⟩ ?_
 rintro n246 _ w241 ⟨z238, σ239, hm, rfl, hst⟩
 obtain ⟨n243, y244, rfl, hm, hx245⟩ := loopN_some hm
 dsimp only [locks_Meet_l1] at hm
 refine wp_seq (wrl (wv (.bool (decide (z238 < ((a0.Puts).length : Int)))) z z z (wl_nil (tn (wp_seq ?_)))))
 refine bsplit (decide (z238 < ((a0.Puts).length : Int))) (fun hc247 => ?_) (fun hc247 => ?_)
 {
 replace hm := bif_t hc247 hm
 refine wp_ift (cvb hc247) ?_
 refine wp_skip (tn (wp_seq (wp_block (wp_seq (wrl ?_)))))
 obtain ⟨x248, hx249, hm⟩ := bind_some hm
 obtain ⟨h250, h251, hi252⟩ := geto_some hx249
 refine wv (.pointer (some (eAddr r0_2 (z238.toNat * 1 + 0)))) z z (x_index z z underlying30 sizeOf57 (rd_sliceV f0_2) h250 h251) (wv (.float .f64 x248) z z (x_load z isAgg57 (rd_load f0_2 (HL.le.refl _) hst hi252 (by rintro _ rfl; rfl))) (wv (.float .f64 x248) z z z (wl_nil (tn (wp_seq (wrl (wv (.agg #[U6 a1.ID.Session, U6 a1.ID.Seq, U6 a1.Epoch, r1_0, r1_1, r1_2, r1_3]) z z (x_loadN (cs := [U6 a1.ID.Session, U6 a1.ID.Seq, U6 a1.Epoch, r1_0, r1_1, r1_2, r1_3]) z isAgg34 sizeOf34 (hst.bcs0 0 z)) (wv (.float .f64 x248) z z z (wv (.float .f64 x248) z z z ?_)))))))))
 obtain ⟨t253, ht254, hm⟩ := bind_some hm
 refine wc call52 [.agg #[U6 a1.ID.Session, U6 a1.ID.Seq, U6 a1.Epoch, r1_0, r1_1, r1_2, r1_3], F6 x248, F6 x248] z z z ?_
 refine (locks_writes_ref (f1_0.mono (rd_weak _)) (f1_1.mono (rd_weak _)) (f1_2.mono (rd_weak _)) (f1_3.mono (rd_weak _)) hst.to0 ht254).mono ?_
 rintro _ w255 ⟨rfl, hst⟩
 refine ⟨_, z, ?_⟩
 replace hst := hst.of0
 refine wv (.bool t253) z z z ?_
 refine bsplit t253 (fun hc258 => ?_) (fun hc258 => ?_)
 {
 replace hm := bif_t hc258 hm
 refine wo hc258 z z z z z z (wo hc258 z z z z z z (wo hc258 z z z z z z (wv (.bool true) z z (x_pick_t hc258 z z) (wl_nil (tn ?_)))))
 refine wp_ift z ?_
 refine wp_seq (wrl (wv (.bool true) z z z (wl_nil (tn (wp_ret (blk_r (then_r (then_r ?_))))))))
 replace hm := inr_up hm hx245
 refine blk_r (then_r ?_)
 replace hm := inr_up hm hx268
 obtain rfl := some_inj hm
 refine post_ret (vs := [.bool true]) results19 (rvs_cons (rv_tmp z) rvs_nil) ?_
 exact ⟨z, hst.keep0⟩
}
 {
 replace hm := bif_f hc258 hm
 refine wv (.agg #[U6 a1.ID.Session, U6 a1.ID.Seq, U6 a1.Epoch, r1_0, r1_1, r1_2, r1_3]) ((wanted_eq z z z (cvb hc258)).trans z) z (x_loadN (cs := [U6 a1.ID.Session, U6 a1.ID.Seq, U6 a1.Epoch, r1_0, r1_1, r1_2, r1_3]) z isAgg34 sizeOf34 (hst.bcs0 0 z)) (wv (.float .f64 x248) ((wanted_eq z z z (cvb hc258)).trans z) z z ?_)
 obtain ⟨t259, ht260, hm⟩ := bind_some hm
 refine wl_call ((wanted_eq z z z (cvb hc258)).trans z) z (x_call call53 z (vs := [.agg #[U6 a1.ID.Session, U6 a1.ID.Seq, U6 a1.Epoch, r1_0, r1_1, r1_2, r1_3], F6 x248]) z) ?_
 refine (locks_reads_ref (f1_0.mono (rd_weak _)) (f1_1.mono (rd_weak _)) (f1_2.mono (rd_weak _)) (f1_3.mono (rd_weak _)) hst.to0 ht260).mono ?_
 rintro _ w261 ⟨rfl, hst⟩
 refine ⟨_, z, ?_⟩
 replace hst := hst.of0
 refine wv (.bool t259) z z (x_pick_f hc258 z z) (wl_nil (tn ?_))
 refine bsplit t259 (fun hc264 => ?_) (fun hc264 => ?_)
 {
 replace hm := bif_t hc264 hm
 refine wp_ift (cvb hc264) ?_
 refine wp_seq (wrl (wv (.bool true) z z z (wl_nil (tn (wp_ret (blk_r (then_r (then_r ?_))))))))
 replace hm := inr_up hm hx245
 refine blk_r (then_r ?_)
 replace hm := inr_up hm hx268
 obtain rfl := some_inj hm
 refine post_ret (vs := [.bool true]) results19 (rvs_cons (rv_tmp z) rvs_nil) ?_
 exact ⟨z, hst.keep0⟩
}
 {
 replace hm := bif_f hc264 hm
 refine wp_iff (cvb hc264) ?_
 refine wp_skip (blk_n (tn (wrl ?_)))
 refine wv (.int .i64 (i64.wrap (z238 + (1:Int)))) z z z (wv (.int .i64 (i64.wrap (z238 + (1:Int)))) z z z (wl_nil (tn ?_)))
 replace hst := hst.pull1.pull1.keep2
 obtain rfl := some_inj hm
 exact ⟨_, Nat.lt_succ_self _, (i64.wrap (z238 + (1:Int))), _, hx245, (fu 2 (Pt b191 0) z (fu 3 (Pt b196 0) z (fu 10 r0_2 z (fu 11 (.int .i64 ((a0.Puts).length : Int)) z (fu 12 (.int .i64 (i64.wrap (z238 + (1:Int)))) z z))))), hst⟩
}
}
}
 {
 replace hm := bif_f hc247 hm
 refine wp_iff (cvb hc247) ?_
 refine wp_exit (then_x (then_x ?_))
 replace hm := inr_up hm hx245
 refine blk_x (tn ?_)
 replace hst := hst.pull1.keep2
 obtain rfl := some_inj hm
 exact ⟨_, hx268, (fu 2 (Pt b191 0) z (fu 3 (Pt b196 0) z z)), hst⟩
}
}
 {
 clear hst
 rintro _ w269 ⟨σ265, hm, rfl, hst⟩
 dsimp only [locks_Meet_j0] at hm
 refine wp_seq (wp_seq (wrl (wv (Pt b196 5) z z (x_field z underlying34 z sizeOf30 z) (wv (r1_2) z z (x_load z isAgg30 (hst.bc1 z)) (wv (.int .i64 ((a1.Puts).length : Int)) z z (x_len z underlying30 (rd_sliceV f1_2)) (wv (.int .i64 (0:Int)) z z z (wl_nil (tn (wp_block ?_)))))))))
 replace hst := hst.pull1.sub
 obtain ⟨n297, hm⟩ := loopO_some hm
 refine wp_loop_n (fun n a w => ∃ (z295 : Int) (σ296 : Nat → Value), loopN (locks_Meet_l2 a1 a0) n z295 = some r ∧ a = Fr 37 (upd (upd (upd (upd σ296 2 (Pt b191 0)) 27 (r1_2)) 28 (.int .i64 ((a1.Puts).length : Int))) 29 (.int .i64 z295)) ∧ St w0 w I [cells b191 [U6 a0.ID.Session, U6 a0.ID.Seq, U6 a0.Epoch, r0_0, r0_1, r0_2, r0_3]] R) n297 ⟨(0:Int), _, hm, (fu 2 (Pt b191 0) z (fu 27 r1_2 z (fu 28 (.int .i64 ((a1.Puts).length : Int)) z (fu 29 (.int .i64 (0:Int)) z z)))), hst⟩ ?_
 rintro n303 _ w298 ⟨z295, σ296, hm, rfl, hst⟩
 obtain ⟨n300, y301, rfl, hm, hx302⟩ := loopN_some hm
 dsimp only [locks_Meet_l2] at hm
 refine wp_seq (wrl (wv (.bool (decide (z295 < ((a1.Puts).length : Int)))) z z z (wl_nil (tn (wp_seq ?_)))))
 refine bsplit (decide (z295 < ((a1.Puts).length : Int))) (fun hc304 => ?_) (fun hc304 => ?_)
 {
 replace hm := bif_t hc304 hm
 refine wp_ift (cvb hc304) ?_
 refine wp_skip (tn (wp_seq (wp_block (wp_seq (wrl ?_)))))
 obtain ⟨x305, hx306, hm⟩ := bind_some hm
 obtain ⟨h307, h308, hi309⟩ := geto_some hx306
 refine wv (.pointer (some (eAddr r1_2 (z295.toNat * 1 + 0)))) z z (x_index z z underlying30 sizeOf57 (rd_sliceV f1_2) h307 h308) (wv (.float .f64 x305) z z (x_load z isAgg57 (rd_load f1_2 (HL.le.refl _) hst hi309 (by rintro _ rfl; rfl))) (wv (.float .f64 x305) z z z (wl_nil (tn (wp_seq (wrl (wv (.agg #[U6 a0.ID.Session, U6 a0.ID.Seq, U6 a0.Epoch, r0_0, r0_1, r0_2, r0_3]) z z (x_loadN (cs := [U6 a0.ID.Session, U6 a0.ID.Seq, U6 a0.Epoch, r0_0, r0_1, r0_2, r0_3]) z isAgg34 sizeOf34 (hst.bcs0 0 z)) (wv (.float .f64 x305) z z z ?_))))))))
 obtain ⟨t310, ht311, hm⟩ := bind_some hm
 refine wc call53 [.agg #[U6 a0.ID.Session, U6 a0.ID.Seq, U6 a0.Epoch, r0_0, r0_1, r0_2, r0_3], F6 x305] z z z ?_
 refine (locks_reads_ref (f0_0.mono (rd_weak _)) (f0_1.mono (rd_weak _)) (f0_2.mono (rd_weak _)) (f0_3.mono (rd_weak _)) hst.to0 ht311).mono ?_
 rintro _ w312 ⟨rfl, hst⟩
 refine ⟨_, z, ?_⟩
 replace hst := hst.of0
 refine wl_nil (tn ?_)
 refine bsplit t310 (fun hc315 => ?_) (fun hc315 => ?_)
 {
 replace hm := bif_t hc315 hm
 refine wp_ift (cvb hc315) ?_
 refine wp_seq (wrl (wv (.bool true) z z z (wl_nil (tn (wp_ret (blk_r (then_r (then_r ?_))))))))
 replace hm := inr_up hm hx302
 refine blk_r (then_r ?_)
 obtain rfl := some_inj hm
 refine post_ret (vs := [.bool true]) results19 (rvs_cons (rv_tmp z) rvs_nil) ?_
 exact ⟨z, hst.keep0⟩
}
 {
 replace hm := bif_f hc315 hm
 refine wp_iff (cvb hc315) ?_
 refine wp_skip (blk_n (tn (wrl ?_)))
 refine wv (.int .i64 (i64.wrap (z295 + (1:Int)))) z z z (wv (.int .i64 (i64.wrap (z295 + (1:Int)))) z z z (wl_nil (tn ?_)))
 replace hst := hst.keep1
 obtain rfl := some_inj hm
 exact ⟨_, Nat.lt_succ_self _, (i64.wrap (z295 + (1:Int))), _, hx302, (fu 2 (Pt b191 0) z (fu 27 r1_2 z (fu 28 (.int .i64 ((a1.Puts).length : Int)) z (fu 29 (.int .i64 (i64.wrap (z295 + (1:Int)))) z z)))), hst⟩
}
}
 {
 replace hm := bif_f hc304 hm
 refine wp_iff (cvb hc304) ?_
 refine wp_exit (then_x (then_x ?_))
 replace hm := inr_up hm hx302
 refine blk_x (tn (wp_seq (wrl ?_)))
 refine wv (.bool false) z z z (wl_nil (tn (wp_ret ?_)))
 obtain rfl := some_inj hm
 refine post_ret (vs := [.bool false]) results19 (rvs_cons (rv_tmp z) rvs_nil) ?_
 exact ⟨z, hst.keep0⟩
}
}
}

theorem slices_Clone_float64_float64_ref {w0 w : World} {I : HL} {R : SP} {a0 : (List Nat)} {r0_0 : Value} (f0_0 : Rd tyF64 R I r0_0 a0) (hst : St w0 w I [] R) {r : (List Nat)} (hm : slices_Clone_float64_float64 a0 = some r) :
  Calls prog 37 #[r0_0] w fun e w' => ∃ (q0_0 : Value), e = .returned (q0_0) ∧ St w0 w' I [ownS tyF64 q0_0 r] R := by {
 unfold slices_Clone_float64_float64 at hm
 obtain ⟨hg, hm⟩ := gd_some hm
 obtain rfl := some_inj hm
 have hsv := rd_sliceV f0_0
 refine calls_start (args := [r0_0]) func37 z ntmps37 (Nat.le_of_ble_eq_true z) ?_
 refine wp_seq (wrl (wv ((.slice none 0 0)) z z z (wl_nil (tn (wp_seq (wp_seq (wrl (wv (r0_0) z z z (wv (.bool (isNil r0_0)) z z (x_slnil z hsv z underlying30) (wl_nil (tn ?_)))))))))))
 refine bsplit (isNil r0_0) (fun hc216 => ?_) (fun hc216 => ?_)
 {
 refine wp_ift (cvb hc216) ?_
 refine wp_seq (wrl (wv ((.slice none 0 0)) z z z (wl_nil (tn (wp_ret (then_r ?_))))))
 refine post_ret (vs := [Zs]) results37 (rvs_cons (rv_tmp z) rvs_nil) ?_
 obtain rfl := List.eq_nil_of_length_eq_zero (isNil_len hsv hc216)
 exact ⟨_, z, (hst.own_nil tyF64).keep1⟩
}
 {
 refine wp_iff (cvb hc216) ?_
 refine wp_skip (tn (wp_seq (wrl ?_)))
 obtain ⟨b, w1, ew, eb, hst⟩ := hst.lits (E := tyF64) (xs := []) [] 57 0 z Reps.nil
 refine wl_run (v := (.slice (some ⟨b, 0, none⟩) 0 0)) (w' := w1) z z (x_als (by kernel_rfl) ew eb) ?_
 refine wv (r0_0) z z z ?_
 obtain ⟨v2, w2, hr, hst⟩ := run_append elem_30 underlying30 hst (Src.of_rd hst f0_0 flat_f64) (room_of hg z) 30
 refine wl_run (v := v2) (w' := w2) z z (x_append z z hr) ?_
 refine wv (v2) z z z (wl_nil (tn (wp_ret ?_)))
 refine post_ret (vs := [v2]) results37 (rvs_cons (rv_tmp z) rvs_nil) ?_
 rw [List.nil_append] at hst
 exact ⟨_, z, hst.keep1⟩
}
}

theorem slices_Clone_2_float64_2_float64_ref {w0 w : World} {I : HL} {R : SP} {a0 : (List (Nat × Nat))} {r0_0 : Value} (f0_0 : Rd tyF2 R I r0_0 a0) (hst : St w0 w I [] R) {r : (List (Nat × Nat))} (hm : slices_Clone_2_float64_2_float64 a0 = some r) :
  Calls prog 38 #[r0_0] w fun e w' => ∃ (q0_0 : Value), e = .returned (q0_0) ∧ St w0 w' I [ownS tyF2 q0_0 r] R := by {
 unfold slices_Clone_2_float64_2_float64 at hm
 obtain ⟨hg, hm⟩ := gd_some hm
 obtain rfl := some_inj hm
 have hsv := rd_sliceV f0_0
 refine calls_start (args := [r0_0]) func38 z ntmps38 (Nat.le_of_ble_eq_true z) ?_
 refine wp_seq (wrl (wv ((.slice none 0 0)) z z z (wl_nil (tn (wp_seq (wp_seq (wrl (wv (r0_0) z z z (wv (.bool (isNil r0_0)) z z (x_slnil z hsv z underlying31) (wl_nil (tn ?_)))))))))))
 refine bsplit (isNil r0_0) (fun hc216 => ?_) (fun hc216 => ?_)
 {
 refine wp_ift (cvb hc216) ?_
 refine wp_seq (wrl (wv ((.slice none 0 0)) z z z (wl_nil (tn (wp_ret (then_r ?_))))))
 refine post_ret (vs := [Zs]) results38 (rvs_cons (rv_tmp z) rvs_nil) ?_
 obtain rfl := List.eq_nil_of_length_eq_zero (isNil_len hsv hc216)
 exact ⟨_, z, (hst.own_nil tyF2).keep1⟩
}
 {
 refine wp_iff (cvb hc216) ?_
 refine wp_skip (tn (wp_seq (wrl ?_)))
 obtain ⟨b, w1, ew, eb, hst⟩ := hst.lits (E := tyF2) (xs := []) [] 75 0 z Reps.nil
 refine wl_run (v := (.slice (some ⟨b, 0, none⟩) 0 0)) (w' := w1) z z (x_als (by kernel_rfl) ew eb) ?_
 refine wv (r0_0) z z z ?_
 obtain ⟨v2, w2, hr, hst⟩ := run_append elem_31 underlying31 hst (Src.of_rd hst f0_0 flat_f2) (room_of hg z) 31
 refine wl_run (v := v2) (w' := w2) z z (x_append z z hr) ?_
 refine wv (v2) z z z (wl_nil (tn (wp_ret ?_)))
 refine post_ret (vs := [v2]) results38 (rvs_cons (rv_tmp z) rvs_nil) ?_
 rw [List.nil_append] at hst
 exact ⟨_, z, hst.keep1⟩
}
}

theorem slices_Clone_byte_byte_ref {w0 w : World} {I : HL} {R : SP} {a0 : (List Int)} {r0_0 : Value} (f0_0 : Rd (tyInt .u8) R I r0_0 a0) (hst : St w0 w I [] R) {r : (List Int)} (hm : slices_Clone_byte_byte a0 = some r) :
  Calls prog 39 #[r0_0] w fun e w' => ∃ (q0_0 : Value), e = .returned (q0_0) ∧ St w0 w' I [ownS (tyInt .u8) q0_0 r] R := by {
 unfold slices_Clone_byte_byte at hm
 obtain ⟨hg, hm⟩ := gd_some hm
 obtain rfl := some_inj hm
 have hsv := rd_sliceV f0_0
 refine calls_start (args := [r0_0]) func39 z ntmps39 (Nat.le_of_ble_eq_true z) ?_
 refine wp_seq (wrl (wv ((.slice none 0 0)) z z z (wl_nil (tn (wp_seq (wp_seq (wrl (wv (r0_0) z z z (wv (.bool (isNil r0_0)) z z (x_slnil z hsv z underlying32) (wl_nil (tn ?_)))))))))))
 refine bsplit (isNil r0_0) (fun hc216 => ?_) (fun hc216 => ?_)
 {
 refine wp_ift (cvb hc216) ?_
 refine wp_seq (wrl (wv ((.slice none 0 0)) z z z (wl_nil (tn (wp_ret (then_r ?_))))))
 refine post_ret (vs := [Zs]) results39 (rvs_cons (rv_tmp z) rvs_nil) ?_
 obtain rfl := List.eq_nil_of_length_eq_zero (isNil_len hsv hc216)
 exact ⟨_, z, (hst.own_nil (tyInt .u8)).keep1⟩
}
 {
 refine wp_iff (cvb hc216) ?_
 refine wp_skip (tn (wp_seq (wrl ?_)))
 obtain ⟨b, w1, ew, eb, hst⟩ := hst.lits (E := (tyInt .u8)) (xs := []) [] 5 0 z Reps.nil
 refine wl_run (v := (.slice (some ⟨b, 0, none⟩) 0 0)) (w' := w1) z z (x_als (by kernel_rfl) ew eb) ?_
 refine wv (r0_0) z z z ?_
 obtain ⟨v2, w2, hr, hst⟩ := run_append elem_32 underlying32 hst (Src.of_rd hst f0_0 flat_int) (room_of hg z) 32
 refine wl_run (v := v2) (w' := w2) z z (x_append z z hr) ?_
 refine wv (v2) z z z (wl_nil (tn (wp_ret ?_)))
 refine post_ret (vs := [v2]) results39 (rvs_cons (rv_tmp z) rvs_nil) ?_
 rw [List.nil_append] at hst
 exact ⟨_, z, hst.keep1⟩
}
}

theorem cmp_isNaN_uint64_ref {w0 w : World} {I : HL} {R : SP} {a0 : Int}  (hst : St w0 w I [] R) {r : (Bool)} (hm : cmp_isNaN_uint64 a0 = some r) :
  Calls prog 95 #[U6 a0] w fun e w' => e = .returned (.bool r) ∧ St w0 w' I [] R := by {
 unfold cmp_isNaN_uint64 at hm
 refine calls_start (args := [U6 a0]) func95 z ntmps95 (Nat.le_of_ble_eq_true z) ?_
 refine wp_seq (wrl (wv (.bool false) z z z (wl_nil (tn (wp_seq (wrl (wv (.int .u64 a0) z z z (wv (.int .u64 a0) z z z (wv (.bool (a0 != a0)) z z z (wv (.bool (a0 != a0)) z z z (wl_nil (tn (wp_ret ?_)))))))))))))
 obtain rfl := some_inj hm
 refine post_ret (vs := [.bool (a0 != a0)]) results95 (rvs_cons (rv_tmp z) rvs_nil) ?_
 exact ⟨z, hst.keep0⟩
}

theorem cmp_Compare_uint64_ref {w0 w : World} {I : HL} {R : SP} {a0 : Int} {a1 : Int}  (hst : St w0 w I [] R) {r : (Int)} (hm : cmp_Compare_uint64 a0 a1 = some r) :
  Calls prog 86 #[U6 a0, U6 a1] w fun e w' => e = .returned (.int .i64 r) ∧ St w0 w' I [] R := by {
 unfold cmp_Compare_uint64 at hm
 refine calls_start (args := [U6 a0, U6 a1]) func86 z ntmps86 (Nat.le_of_ble_eq_true z) ?_
 refine wp_seq (wrl (wv (.int .i64 (0:Int)) z z z (wl_nil (tn (wp_seq (wrl (wv (.int .u64 a0) z z z ?_)))))))
 obtain ⟨t321, ht322, hm⟩ := bind_some hm
 refine wc call95 [U6 a0] z z z ?_
 refine (cmp_isNaN_uint64_ref hst.to0 ht322).mono ?_
 rintro _ w323 ⟨rfl, hst⟩
 refine ⟨_, z, ?_⟩
 replace hst := hst.of0
 refine wv (.bool t321) z z z (wl_nil (tn (wp_seq (wrl (wv (.int .u64 a1) z z z ?_)))))
 obtain ⟨t326, ht327, hm⟩ := bind_some hm
 refine wc call95 [U6 a1] z z z ?_
 refine (cmp_isNaN_uint64_ref hst.to0 ht327).mono ?_
 rintro _ w328 ⟨rfl, hst⟩
 refine ⟨_, z, ?_⟩
 replace hst := hst.of0
 refine wv (.bool t326) z z z (wl_nil (tn (wp_seq (wp_seq (wrl (wv (.bool t321) z z z (wl_nil (tn ?_))))))))
 refine bsplit t321 (fun hc331 => ?_) (fun hc331 => ?_)
 {
 replace hm := bif_t hc331 hm
 refine wp_ift (cvb hc331) ?_
 refine wp_seq (wp_seq (wrl (wv (.bool t326) z z z (wl_nil (tn ?_)))))
 refine bsplit t326 (fun hc332 => ?_) (fun hc332 => ?_)
 {
 replace hm := bif_t hc332 hm
 refine wp_ift (cvb hc332) ?_
 refine wp_seq (wrl (wv (.int .i64 (0:Int)) z z z (wl_nil (tn (wp_ret (then_r (then_r ?_)))))))
 obtain rfl := some_inj hm
 refine post_ret (vs := [Zi]) results86 (rvs_cons (rv_tmp z) rvs_nil) ?_
 exact ⟨z, hst.keep0⟩
}
 {
 replace hm := bif_f hc332 hm
 refine wp_iff (cvb hc332) ?_
 refine wp_skip (tn (wp_seq (wrl ?_)))
 refine wv (.int .i64 ((-1):Int)) z z z (wl_nil (tn (wp_ret (then_r ?_))))
 obtain rfl := some_inj hm
 refine post_ret (vs := [I6 ((-1):Int)]) results86 (rvs_cons (rv_tmp z) rvs_nil) ?_
 exact ⟨z, hst.keep0⟩
}
}
 {
 replace hm := bif_f hc331 hm
 refine wp_iff (cvb hc331) ?_
 refine wp_skip (tn (wp_seq (wp_seq (wrl ?_))))
 refine wv (.bool t326) z z z (wl_nil (tn ?_))
 refine bsplit t326 (fun hc333 => ?_) (fun hc333 => ?_)
 {
 replace hm := bif_t hc333 hm
 refine wp_ift (cvb hc333) ?_
 refine wp_seq (wrl (wv (.int .i64 (1:Int)) z z z (wl_nil (tn (wp_ret (then_r ?_))))))
 obtain rfl := some_inj hm
 refine post_ret (vs := [I6 (1:Int)]) results86 (rvs_cons (rv_tmp z) rvs_nil) ?_
 exact ⟨z, hst.keep0⟩
}
 {
 replace hm := bif_f hc333 hm
 refine wp_iff (cvb hc333) ?_
 refine wp_skip (tn (wp_seq (wp_seq (wrl ?_))))
 refine wv (.int .u64 a0) z z z (wv (.int .u64 a1) z z z (wv (.bool (decide (a0 < a1))) z z z (wl_nil (tn ?_))))
 refine bsplit (decide (a0 < a1)) (fun hc334 => ?_) (fun hc334 => ?_)
 {
 replace hm := bif_t hc334 hm
 refine wp_ift (cvb hc334) ?_
 refine wp_seq (wrl (wv (.int .i64 ((-1):Int)) z z z (wl_nil (tn (wp_ret (then_r ?_))))))
 obtain rfl := some_inj hm
 refine post_ret (vs := [I6 ((-1):Int)]) results86 (rvs_cons (rv_tmp z) rvs_nil) ?_
 exact ⟨z, hst.keep0⟩
}
 {
 replace hm := bif_f hc334 hm
 refine wp_iff (cvb hc334) ?_
 refine wp_skip (tn (wp_seq (wp_seq (wrl ?_))))
 refine wv (.int .u64 a0) z z z (wv (.int .u64 a1) z z z (wv (.bool (decide (a0 > a1))) z z z (wl_nil (tn ?_))))
 refine bsplit (decide (a0 > a1)) (fun hc335 => ?_) (fun hc335 => ?_)
 {
 replace hm := bif_t hc335 hm
 refine wp_ift (cvb hc335) ?_
 refine wp_seq (wrl (wv (.int .i64 (1:Int)) z z z (wl_nil (tn (wp_ret (then_r ?_))))))
 obtain rfl := some_inj hm
 refine post_ret (vs := [I6 (1:Int)]) results86 (rvs_cons (rv_tmp z) rvs_nil) ?_
 exact ⟨z, hst.keep0⟩
}
 {
 replace hm := bif_f hc335 hm
 refine wp_iff (cvb hc335) ?_
 refine wp_skip (tn (wp_seq (wrl ?_)))
 refine wv (.int .i64 (0:Int)) z z z (wl_nil (tn (wp_ret ?_)))
 obtain rfl := some_inj hm
 refine post_ret (vs := [Zi]) results86 (rvs_cons (rv_tmp z) rvs_nil) ?_
 exact ⟨z, hst.keep0⟩
}
}
}
}
}

theorem cmp_Or_int_ref {w0 w : World} {I : HL} {R : SP} {a0 : (List Int)} {r0_0 : Value} (f0_0 : Rd (tyInt .i64) R I r0_0 a0) (hst : St w0 w I [] R) {r : (Int)} (hm : cmp_Or_int a0 = some r) :
  Calls prog 85 #[r0_0] w fun e w' => e = .returned (.int .i64 r) ∧ St w0 w' I [] R := by {
 unfold cmp_Or_int at hm
 refine calls_start (args := [r0_0]) func85 z ntmps85 (Nat.le_of_ble_eq_true z) ?_
 refine wp_seq (wrl (wv (.int .i64 (0:Int)) z z z (wl_nil (tn (wp_seq (wrl (wv (.int .i64 (0:Int)) z z z (wl_nil (tn (wp_seq (wp_seq (wrl (wv (r0_0) z z z (wv (.int .i64 ((a0).length : Int)) z z (x_len z underlying123 (rd_sliceV f0_0)) (wv (.int .i64 (0:Int)) z z z (wl_nil (tn (wp_block ?_))))))))))))))))))
 obtain ⟨n356, hm⟩ := loopO_some hm
 refine wp_loop_n (fun n a w => ∃ (z354 : Int) (σ355 : Nat → Value), loopN (cmp_Or_int_l0 a0) n z354 = some r ∧ a = Fr 18 (upd (upd (upd (upd σ355 3 (.int .i64 (0:Int))) 6 (r0_0)) 7 (.int .i64 ((a0).length : Int))) 8 (.int .i64 z354)) ∧ St w0 w I [] R) n356 ⟨(0:Int), _, hm, (fu 3 (.int .i64 (0:Int)) z (fu 6 r0_0 z (fu 7 (.int .i64 ((a0).length : Int)) z (fu 8 (.int .i64 (0:Int)) z z)))), hst⟩ ?_
 rintro n362 _ w357 ⟨z354, σ355, hm, rfl, hst⟩
 obtain ⟨n359, y360, rfl, hm, hx361⟩ := loopN_some hm
 dsimp only [cmp_Or_int_l0] at hm
 refine wp_seq (wrl (wv (.bool (decide (z354 < ((a0).length : Int)))) z z z (wl_nil (tn (wp_seq ?_)))))
 refine bsplit (decide (z354 < ((a0).length : Int))) (fun hc363 => ?_) (fun hc363 => ?_)
 {
 replace hm := bif_t hc363 hm
 refine wp_ift (cvb hc363) ?_
 refine wp_skip (tn (wp_seq (wp_block (wp_seq (wrl ?_)))))
 obtain ⟨x364, hx365, hm⟩ := bind_some hm
 obtain ⟨h366, h367, hi368⟩ := geto_some hx365
 refine wv (.pointer (some (eAddr r0_0 (z354.toNat * 1 + 0)))) z z (x_index z z underlying123 sizeOf3 (rd_sliceV f0_0) h366 h367) (wv (.int .i64 x364) z z (x_load z isAgg3 (rd_load f0_0 (HL.le.refl _) hst hi368 (by rintro _ rfl; rfl))) (wv (.int .i64 x364) z z z (wl_nil (tn (wp_seq (wrl (wv (.int .i64 x364) z z z (wv (.int .i64 (0:Int)) z z z (wv (.bool (x364 != (0:Int))) z z z (wl_nil (tn ?_)))))))))))
 refine bsplit (x364 != (0:Int)) (fun hc369 => ?_) (fun hc369 => ?_)
 {
 replace hm := bif_t hc369 hm
 refine wp_ift (cvb hc369) ?_
 refine wp_seq (wrl (wv (.int .i64 x364) z z z (wv (.int .i64 x364) z z z (wl_nil (tn (wp_ret (blk_r (then_r (then_r ?_)))))))))
 replace hm := inr_up hm hx361
 refine blk_r (then_r ?_)
 obtain rfl := some_inj hm
 refine post_ret (vs := [I6 x364]) results85 (rvs_cons (rv_tmp z) rvs_nil) ?_
 exact ⟨z, hst.keep0⟩
}
 {
 replace hm := bif_f hc369 hm
 refine wp_iff (cvb hc369) ?_
 refine wp_skip (blk_n (tn (wrl ?_)))
 refine wv (.int .i64 (i64.wrap (z354 + (1:Int)))) z z z (wv (.int .i64 (i64.wrap (z354 + (1:Int)))) z z z (wl_nil (tn ?_)))
 replace hst := hst.keep0
 obtain rfl := some_inj hm
 exact ⟨_, Nat.lt_succ_self _, (i64.wrap (z354 + (1:Int))), _, hx361, (fu 3 (.int .i64 (0:Int)) z (fu 6 r0_0 z (fu 7 (.int .i64 ((a0).length : Int)) z (fu 8 (.int .i64 (i64.wrap (z354 + (1:Int)))) z z)))), hst⟩
}
}
 {
 replace hm := bif_f hc363 hm
 refine wp_iff (cvb hc363) ?_
 refine wp_exit (then_x (then_x ?_))
 replace hm := inr_up hm hx361
 refine blk_x (tn (wp_seq (wrl ?_)))
 refine wv (.int .i64 (0:Int)) z z z (wv (.int .i64 (0:Int)) z z z (wl_nil (tn (wp_ret ?_))))
 obtain rfl := some_inj hm
 refine post_ret (vs := [Zi]) results85 (rvs_cons (rv_tmp z) rvs_nil) ?_
 exact ⟨z, hst.keep0⟩
}
}

theorem locks_compare_ref {w0 w : World} {I : HL} {R : SP} {a0 : api_Hold} {r0_0 : Value} {r0_1 : Value} {r0_2 : Value} {r0_3 : Value} {a1 : api_ID} (f0_0 : Rd tyF64 R I r0_0 a0.Gets) (f0_1 : Rd tyF2 R I r0_1 a0.Scans) (f0_2 : Rd tyF64 R I r0_2 a0.Puts) (f0_3 : Rd (tyInt .u8) R I r0_3 a0.Data) (hst : St w0 w I [] R) {r : (Int)} (hm : locks_compare a0 a1 = some r) :
  Calls prog 59 #[.agg #[U6 a0.ID.Session, U6 a0.ID.Seq, U6 a0.Epoch, r0_0, r0_1, r0_2, r0_3], .agg #[U6 a1.Session, U6 a1.Seq]] w fun e w' => e = .returned (.int .i64 r) ∧ St w0 w' I [] R := by {
 unfold locks_compare at hm
 refine calls_start (args := [.agg #[U6 a0.ID.Session, U6 a0.ID.Seq, U6 a0.Epoch, r0_0, r0_1, r0_2, r0_3], .agg #[U6 a1.Session, U6 a1.Seq]]) func59 z ntmps59 (Nat.le_of_ble_eq_true z) ?_
 refine wp_seq (wrl ?_)
 obtain ⟨b332, w333, ew334, eb335, hst⟩ := hst.box [U6 a0.ID.Session, U6 a0.ID.Seq, U6 a0.Epoch, r0_0, r0_1, r0_2, r0_3] 34
 refine wl_run (v := Pt b332 0) (w' := w333) z z (x_al (by kernel_rfl) ew334 eb335) ?_
 obtain ⟨b337, w338, ew339, eb340, hst⟩ := hst.box [U6 a1.Session, U6 a1.Seq] 29
 refine wl_run (v := Pt b337 0) (w' := w338) z z (x_al (by kernel_rfl) ew339 eb340) ?_
 refine wv (.int .i64 (0:Int)) z z z (wl_nil (tn (wp_seq ?_)))
 refine wp_region_St hst 15 [0, 1, 2, 3, 4, 5, 6, 7, 8, 9, 10, 11, 12, 13, 14] [0, 1, 3, 0, 8, 31, 0, 64, 192, 0, 512, 2047, 4095, 8191, 16383] [] z (by kernel_rfl) (by kernel_rfl) Try.mixed (by kernel_rfl) ?_
 refine wsr (Pt b332 0) 0 z z z (by kernel_rfl) (fun w hst => x_field z underlying34 z sizeOf29 z) (wsr (Pt b332 0) 1 z z z (by kernel_rfl) (fun w hst => x_field z underlying29 z sizeOf27 z) (wsr (.int .u64 a0.ID.Session) 2 z z z (by kernel_rfl) (fun w hst => x_load z isAgg27 (hst.bc1 z)) (wsr (Pt b337 0) 3 z z z (by kernel_rfl) (fun w hst => x_field z underlying29 z sizeOf27 z) (wsr (.int .u64 a1.Session) 4 z z z (by kernel_rfl) (fun w hst => x_load z isAgg27 (hst.bc0 z)) (wsr (Pt b332 0) 6 z z z (by kernel_rfl) (fun w hst => x_field z underlying34 z sizeOf29 z) (wsr (Pt b332 1) 7 z z z (by kernel_rfl) (fun w hst => x_field z underlying29 z sizeOf27 z) (wsr (.int .u64 a0.ID.Seq) 8 z z z (by kernel_rfl) (fun w hst => x_load z isAgg27 (hst.bc1 z)) (wsr (Pt b337 1) 9 z z z (by kernel_rfl) (fun w hst => x_field z underlying29 z sizeOf27 z) (wsr (.int .u64 a1.Seq) 10 z z z (by kernel_rfl) (fun w hst => x_load z isAgg27 (hst.bc0 z)) ?_)))))))))
 refine ws_e1 5 (by kernel_rfl) ?_
 refine nxe [11, 12, 13, 14] (by kernel_rfl) z z ?_
 clear hst
 intro w hst
 obtain ⟨t342, ht343, hm⟩ := bind_some hm
 refine wec call86 [U6 a0.ID.Session, U6 a1.Session] z z ?_
 refine (cmp_Compare_uint64_ref hst.to0 ht343).mono ?_
 rintro _ w344 ⟨rfl, hst⟩
 refine ⟨_, z, ?_⟩
 replace hst := hst.of0
 refine ws_next (pend' := [(10, U6 a1.Seq), (9, Pt b337 1), (8, U6 a0.ID.Seq), (7, Pt b332 1), (6, Pt b332 0)]) hst (by kernel_rfl) (pkr z z (fun w hst => x_load z isAgg27 (hst.bc0 z)) (pkr z z (fun w hst => x_field z underlying29 z sizeOf27 z) (pkr z z (fun w hst => x_load z isAgg27 (hst.bc1 z)) (pkr z z (fun w hst => x_field z underlying29 z sizeOf27 z) (pkr z z (fun w hst => x_field z underlying34 z sizeOf29 z) pk_nil))))) ?_
 refine ws_e1 11 (by kernel_rfl) ?_
 refine nxe [12, 13, 14] (by kernel_rfl) z z ?_
 clear hst
 intro w hst
 obtain ⟨t347, ht348, hm⟩ := bind_some hm
 refine wec call86 [U6 a0.ID.Seq, U6 a1.Seq] z z ?_
 refine (cmp_Compare_uint64_ref hst.to0 ht348).mono ?_
 rintro _ w349 ⟨rfl, hst⟩
 refine ⟨_, z, ?_⟩
 replace hst := hst.of0
 refine ws_next (pend' := []) hst (by kernel_rfl) pk_nil ?_
 refine ws_e1 12 (by kernel_rfl) ?_
 refine nxe [13, 14] (by kernel_rfl) z z ?_
 clear hst
 intro w hst
 obtain ⟨b352, w353, ew354, eb355, hst⟩ := hst.lits (E := (tyInt .i64)) (xs := [t342, t347]) [[I6 t342], [I6 t347]] 3 2 z (Reps.cons z (Reps.cons z Reps.nil))
 refine we_run (v := (.slice (some ⟨b352, 0, none⟩) 2 2)) (w' := w353) z (x_als (by kernel_rfl) ew354 eb355) ?_
 refine ws_next (pend' := []) hst (by kernel_rfl) pk_nil ?_
 refine ws_e1 13 (by kernel_rfl) ?_
 refine nxe [14] (by kernel_rfl) z z ?_
 clear hst
 intro w hst
 obtain ⟨css357, hq358, hst⟩ := hst.own_open
 obtain ⟨t359, ht360, hm⟩ := bind_some hm
 refine wec call85 [(.slice (some ⟨b352, 0, none⟩) 2 2)] z z ?_
 refine (cmp_Or_int_ref (hst.rdrow0 hq358) hst.to0 ht360).mono ?_
 rintro _ w361 ⟨rfl, hst⟩
 refine ⟨_, z, ?_⟩
 replace hst := hst.of0.own_close hq358
 refine ws_next (pend' := []) hst (by kernel_rfl) pk_nil ?_
 refine wsr (.int .i64 t359) 14 z z z (by kernel_rfl) (fun w hst => z) ?_
 refine ws_nil ?_
 intro w hst
 refine tn (wp_ret ?_)
 obtain rfl := some_inj hm
 refine post_ret (vs := [I6 t359]) results59 (rvs_cons (rv_tmp z) rvs_nil) ?_
 exact ⟨z, hst.keep0⟩
}

theorem locks_Table_find_ref {w0 w : World} {I : HL} {R : SP} {a0 : (Option locks_Table)} {p0 : Value} {a1 : api_ID}  (hst : St w0 w I [objO at_locks_Table p0 a0] R) {r : (Int × Bool)} (hm : locks_Table_find a0 a1 = some r) :
  Calls prog 40 #[p0, .agg #[U6 a1.Session, U6 a1.Seq]] w fun e w' => e = .returned (.tuple #[I6 r.1, .bool r.2]) ∧ St w0 w' I [objO at_locks_Table p0 a0] R := by {
 rcases a0 with _ | o0
 {
 obtain ⟨rfl, hst'⟩ := objO_none hst
 clear hst
 have hst := hst'
 clear hst'
 dsimp only [locks_Table_find] at hm
 refine calls_start (args := [.pointer none, .agg #[U6 a1.Session, U6 a1.Seq]]) func40 z ntmps40 (Nat.le_of_ble_eq_true z) ?_
 refine wp_seq (wrl ?_)
 obtain ⟨b409, w410, ew411, eb412, hst⟩ := hst.box [U6 a1.Session, U6 a1.Seq] 29
 refine wl_run (v := Pt b409 0) (w' := w410) z z (x_al (by kernel_rfl) ew411 eb412) ?_
 refine wv (.int .i64 (0:Int)) z z z (wv (.bool false) z z z (wl_nil (tn (wp_seq (wp_seq (wrl (wv (.pointer none) z z z (wv (.bool true) z z (by kernel_rfl) (wl_nil (tn ?_))))))))))
 refine wp_ift z ?_
 refine wp_seq (wrl (wv (.int .i64 (0:Int)) z z z (wv (.bool false) z z z (wl_nil (tn (wp_ret (then_r ?_)))))))
 replace hst := hst.objO_nil at_locks_Table
 obtain rfl := some_inj hm
 refine post_ret (vs := [Zi, .bool false]) results40 (rvs_cons (rv_tmp z) (rvs_cons (rv_tmp z) rvs_nil)) ?_
 exact ⟨z, hst.keep1⟩
}
 {
 replace hst := objO_get hst
 dsimp only [locks_Table_find] at hm
 refine calls_start (args := [p0, .agg #[U6 a1.Session, U6 a1.Seq]]) func40 z ntmps40 (Nat.le_of_ble_eq_true z) ?_
 refine wp_seq (wrl ?_)
 obtain ⟨b414, w415, ew416, eb417, hst⟩ := hst.box [U6 a1.Session, U6 a1.Seq] 29
 refine wl_run (v := Pt b414 0) (w' := w415) z z (x_al (by kernel_rfl) ew416 eb417) ?_
 refine wv (.int .i64 (0:Int)) z z z (wv (.bool false) z z z (wl_nil (tn (wp_seq (wp_seq (wrl (wv (p0) z z z ?_)))))))
 replace hst := hst.pull1
 obtain ⟨b419, v420, rfl, hst'⟩ := at_locks_Table_open hst
 clear hst
 have hst := hst'
 clear hst'
 refine wv (.bool false) z z (by kernel_rfl) (wl_nil (tn ?_))
 refine wp_iff z ?_
 refine wp_skip (tn (wp_seq ?_))
 refine wp_region_St hst 10 [0, 1, 2, 3, 4, 5, 6, 7, 8, 9] [0, 1, 3, 7, 0, 31, 63, 63, 255, 511] [] z (by kernel_rfl) (by kernel_rfl) Try.mixed (by kernel_rfl) ?_
 refine wsr (Pt b419 0) 0 z z z (by kernel_rfl) (fun w hst => z) (wsr (Pt b419 0) 1 z z z (by kernel_rfl) (fun w hst => z) (wsr (Pt b419 0) 2 z z z (by kernel_rfl) (fun w hst => x_field z underlying77 z sizeOf22 z) (wsr (v420) 3 z z z (by kernel_rfl) (fun w hst => x_load z isAgg22 (hst.bc0 z)) (wsr (.agg #[U6 a1.Session, U6 a1.Seq]) 4 z z z (by kernel_rfl) (fun w hst => x_loadN (cs := [U6 a1.Session, U6 a1.Seq]) z isAgg29 sizeOf29 (hst.bcs2 0 z)) ?_))))
 refine ws_e1 5 (by kernel_rfl) ?_
 refine nxe [6, 7, 8, 9] (by kernel_rfl) z z ?_
 clear hst
 intro w hst
 obtain ⟨y563, hq564, hm⟩ := bind_some hm
 refine we_call z (x_callv call71 (caps := []) z (vs := [v420, .agg #[U6 a1.Session, U6 a1.Seq], .func (.func 59) #[] #[]]) z) ?_
 refine Calls.mono (show Calls prog 71 #[v420, .agg #[U6 a1.Session, U6 a1.Seq], .func (.func 59) #[] #[]] _ (fun e w' => ∃ (z560 : Int) (z561 : Bool), (z560, z561) = y563 ∧ e = .returned (.tuple #[I6 z560, .bool z561]) ∧ St w0 w' I [cells b419 [v420], ownS ty_api_Hold v420 o0.l, cells b414 [U6 a1.Session, U6 a1.Seq]] R) from ?_) ?_
 {
 clear hm; have hm := hq564
 refine calls_start (args := [v420, .agg #[U6 a1.Session, U6 a1.Seq], .func (.func 59) #[] #[]]) func71 z ntmps71 (Nat.le_of_ble_eq_true z) ?_
 refine wp_seq (wrl ?_)
 obtain ⟨b422, w423, ew424, eb425, hst⟩ := hst.box [U6 a1.Session, U6 a1.Seq] 29
 refine wl_run (v := Pt b422 0) (w' := w423) z z (x_al (by kernel_rfl) ew424 eb425) ?_
 refine wv (.int .i64 (0:Int)) z z z (wv (.bool false) z z z (wl_nil (tn (wp_seq (wrl (wv (v420) z z z (wv (.int .i64 ((o0.l).length : Int)) z z (x_len z underlying22 hst.sv2) (wv (.int .i64 ((o0.l).length : Int)) z z z (wl_nil (tn (wp_seq (wrl (wv (.int .i64 ((o0.l).length : Int)) z z z (wv (.int .i64 (0:Int)) z z z (wv (.int .i64 ((o0.l).length : Int)) z z z (wl_nil (tn ?_)))))))))))))))))
 obtain ⟨y529, hm, hx530⟩ := bind_some hm
 refine wp_cut (fun a w => ∃ (z526 : Int) (σ527 : Nat → Value), (locks_Table_find_j0 o0 a1) z526 = some y563 ∧ a = Fr 49 (upd (upd (upd (upd (upd σ527 0 (v420)) 2 (.func (.func 59) #[] #[])) 4 (Pt b422 0)) 8 (.int .i64 ((o0.l).length : Int))) 9 (.int .i64 z526)) ∧ St w0 w I [ownS ty_api_Hold v420 o0.l, cells b422 [U6 a1.Session, U6 a1.Seq], cells b419 [v420], cells b414 [U6 a1.Session, U6 a1.Seq]] R) ?_ ?_
 {
 refine wp_block ?_
 obtain ⟨n490, hm⟩ := loopO_some hm
 refine wp_loop_n (fun n a w => ∃ (z487 : Int) (z488 : Int) (σ489 : Nat → Value), loopN (locks_Table_find_l1 o0 a1) n (z487, z488) = some y529 ∧ a = Fr 49 (upd (upd (upd (upd (upd (upd σ489 0 (v420)) 2 (.func (.func 59) #[] #[])) 4 (Pt b422 0)) 8 (.int .i64 ((o0.l).length : Int))) 9 (.int .i64 z488)) 10 (.int .i64 z487)) ∧ St w0 w I [cells b422 [U6 a1.Session, U6 a1.Seq], cells b419 [v420], ownS ty_api_Hold v420 o0.l, cells b414 [U6 a1.Session, U6 a1.Seq]] R) n490 ⟨((o0.l).length : Int), (0:Int), _, hm, (fu 0 v420 z (fu 2 (.func (.func 59) #[] #[]) z (fu 4 (Pt b422 0) z (fu 8 (.int .i64 ((o0.l).length : Int)) z (fu 9 (.int .i64 (0:Int)) z (fu 10 (.int .i64 ((o0.l).length : Int)) z z)))))), hst⟩ ?_
 rintro n496 _ w491 ⟨z487, z488, σ489, hm, rfl, hst⟩
 obtain ⟨n493, y494, rfl, hm, hx495⟩ := loopN_some hm
 dsimp only [locks_Table_find_l1] at hm
 refine wp_seq (wp_seq (wrl (wv (.int .i64 z488) z z z (wv (.int .i64 z487) z z z (wv (.bool (decide (z488 < z487))) z z z (wl_nil (tn ?_)))))))
 refine bsplit (decide (z488 < z487)) (fun hc497 => ?_) (fun hc497 => ?_)
 {
 replace hm := bif_t hc497 hm
 refine wp_ift (cvb hc497) ?_
 refine wp_skip (tn (wp_block (wp_seq (wrl ?_))))
 refine wv (.int .i64 z488) z z z (wv (.int .i64 z487) z z z (wv (.int .i64 (i64.wrap (z488 + z487))) z z z (wv (.int .u64 (u64.wrap (i64.wrap (z488 + z487)))) z z (by kernel_rfl) (wv (.int .u64 (iShr .u64 (u64.wrap (i64.wrap (z488 + z487))) (1:Int))) z z (x_shr (by decide) z z) (wv (.int .i64 (i64.wrap (iShr .u64 (u64.wrap (i64.wrap (z488 + z487))) (1:Int)))) z z (by kernel_rfl) (wv (.int .i64 (i64.wrap (iShr .u64 (u64.wrap (i64.wrap (z488 + z487))) (1:Int)))) z z z (wl_nil (tn (wp_seq ?_)))))))))
 replace hst := hst.pull2
 obtain ⟨css498, hq499, hst⟩ := hst.own_open
 refine wp_region_St hst 8 [0, 1, 2, 3, 4, 5, 6, 7] [0, 0, 0, 6, 14, 0, 63, 127] [] z (by kernel_rfl) (by kernel_rfl) Try.mixed (by kernel_rfl) ?_
 refine wsr (.func (.func 59) #[] #[]) 0 z z z (by kernel_rfl) (fun w hst => z) (wsr (v420) 1 z z z (by kernel_rfl) (fun w hst => z) (wsr (.int .i64 (i64.wrap (iShr .u64 (u64.wrap (i64.wrap (z488 + z487))) (1:Int)))) 2 z z z (by kernel_rfl) (fun w hst => z) ?_))
 obtain ⟨x500, hx501, hm⟩ := bind_some hm
 obtain ⟨h502, h503, hi504⟩ := geto_some hx501
 refine wsr (.pointer (some (eAddr v420 ((i64.wrap (iShr .u64 (u64.wrap (i64.wrap (z488 + z487))) (1:Int))).toNat * 7 + 0)))) 3 z z z (by kernel_rfl) (fun w hst => x_index z z underlying22 sizeOf34 (hst.rsv 0 z hq499) h502 h503) ?_
 obtain ⟨cs505, hc507, hr506⟩ := Reps.get hq499 hi504
 obtain ⟨v508, v511, v514, v517, rfl, f509, f512, f515, f518, -⟩ := hr506
 refine wsr (.agg #[U6 x500.ID.Session, U6 x500.ID.Seq, U6 x500.Epoch, v508, v511, v514, v517]) 4 z z z (by kernel_rfl) (fun w hst => x_loadN (cs := [U6 x500.ID.Session, U6 x500.ID.Seq, U6 x500.Epoch, v508, v511, v514, v517]) z isAgg34 sizeOf34 (eCells (o := 0) (hst.rcell 0 z hc507) z)) (wsr (.agg #[U6 a1.Session, U6 a1.Seq]) 5 z z z (by kernel_rfl) (fun w hst => x_loadN (cs := [U6 a1.Session, U6 a1.Seq]) z isAgg29 sizeOf29 (hst.bcs1 0 z)) ?_)
 refine ws_e1 6 (by kernel_rfl) ?_
 refine nxe [7] (by kernel_rfl) z z ?_
 clear hst
 intro w hst
 obtain ⟨t520, ht521, hm⟩ := bind_some hm
 refine we_call z (x_callv call59 (caps := []) z (vs := [.agg #[U6 x500.ID.Session, U6 x500.ID.Seq, U6 x500.Epoch, v508, v511, v514, v517], .agg #[U6 a1.Session, U6 a1.Seq]]) z) ?_
 refine (locks_compare_ref (f509.mono ro_rd) (f512.mono ro_rd) (f515.mono ro_rd) (f518.mono ro_rd) hst.to0 ht521).mono ?_
 rintro _ w522 ⟨rfl, hst⟩
 refine ⟨_, z, ?_⟩
 replace hst := hst.of0
 refine ws_next (pend' := []) hst (by kernel_rfl) pk_nil ?_
 refine wsr (.bool (decide (t520 < (0:Int)))) 7 z z z (by kernel_rfl) (fun w hst => z) ?_
 refine ws_nil ?_
 intro w hst
 replace hst := hst.own_close hq499
 refine tn ?_
 refine bsplit (decide (t520 < (0:Int))) (fun hc525 => ?_) (fun hc525 => ?_)
 {
 replace hm := bif_t hc525 hm
 refine wp_ift (cvb hc525) ?_
 refine wrl (wv (.int .i64 (i64.wrap (iShr .u64 (u64.wrap (i64.wrap (z488 + z487))) (1:Int)))) z z z (wv (.int .i64 (i64.wrap ((i64.wrap (iShr .u64 (u64.wrap (i64.wrap (z488 + z487))) (1:Int))) + (1:Int)))) z z z (wv (.int .i64 (i64.wrap ((i64.wrap (iShr .u64 (u64.wrap (i64.wrap (z488 + z487))) (1:Int))) + (1:Int)))) z z z (wl_nil (blk_n (tn ?_))))))
 replace hst := hst.pull3.pull1.pull3.pull3.keep4
 obtain rfl := some_inj hm
 exact ⟨_, Nat.lt_succ_self _, z487, (i64.wrap ((i64.wrap (iShr .u64 (u64.wrap (i64.wrap (z488 + z487))) (1:Int))) + (1:Int))), _, hx495, (fu 0 v420 z (fu 2 (.func (.func 59) #[] #[]) z (fu 4 (Pt b422 0) z (fu 8 (.int .i64 ((o0.l).length : Int)) z (fu 9 (.int .i64 (i64.wrap ((i64.wrap (iShr .u64 (u64.wrap (i64.wrap (z488 + z487))) (1:Int))) + (1:Int)))) z (fu 10 (.int .i64 z487) z z)))))), hst⟩
}
 {
 replace hm := bif_f hc525 hm
 refine wp_iff (cvb hc525) ?_
 refine wrl (wv (.int .i64 (i64.wrap (iShr .u64 (u64.wrap (i64.wrap (z488 + z487))) (1:Int)))) z z z (wv (.int .i64 (i64.wrap (iShr .u64 (u64.wrap (i64.wrap (z488 + z487))) (1:Int)))) z z z (wl_nil (blk_n (tn ?_)))))
 replace hst := hst.pull3.pull1.pull3.pull3.keep4
 obtain rfl := some_inj hm
 exact ⟨_, Nat.lt_succ_self _, (i64.wrap (iShr .u64 (u64.wrap (i64.wrap (z488 + z487))) (1:Int))), z488, _, hx495, (fu 0 v420 z (fu 2 (.func (.func 59) #[] #[]) z (fu 4 (Pt b422 0) z (fu 8 (.int .i64 ((o0.l).length : Int)) z (fu 9 (.int .i64 z488) z (fu 10 (.int .i64 (i64.wrap (iShr .u64 (u64.wrap (i64.wrap (z488 + z487))) (1:Int)))) z z)))))), hst⟩
}
}
 {
 replace hm := bif_f hc497 hm
 refine wp_iff (cvb hc497) ?_
 refine wp_exit (then_x (then_x ?_))
 replace hm := inr_up hm hx495
 refine blk_x (tn ?_)
 replace hst := hst.pull3.pull2.pull2.pull3.keep4
 obtain rfl := some_inj hm
 exact ⟨z488, _, hx530, (fu 0 v420 z (fu 2 (.func (.func 59) #[] #[]) z (fu 4 (Pt b422 0) z (fu 8 (.int .i64 ((o0.l).length : Int)) z (fu 9 (.int .i64 z488) z z))))), hst⟩
}
}
 {
 clear hst
 rintro _ w531 ⟨z526, σ527, hm, rfl, hst⟩
 dsimp only [locks_Table_find_j0] at hm
 refine wp_seq ?_
 obtain ⟨css532, hq533, hst⟩ := hst.own_open
 refine wp_region_St hst 16 [0, 1, 2, 3, 4, 5, 6, 7, 8, 9, 10, 11, 12, 13, 14, 15] [0, 0, 0, 6, 14, 30, 30, 30, 222, 478, 30, 2046, 4094, 8190, 4095, 32767] [] z (by kernel_rfl) (by kernel_rfl) Try.mixed (by kernel_rfl) ?_
 refine wsr (.int .i64 z526) 0 z z z (by kernel_rfl) (fun w hst => z) (wsr (.int .i64 z526) 1 z z z (by kernel_rfl) (fun w hst => z) (wsr (.int .i64 ((o0.l).length : Int)) 2 z z z (by kernel_rfl) (fun w hst => z) (wsr (.bool (decide (z526 < ((o0.l).length : Int)))) 3 z z z (by kernel_rfl) (fun w hst => z) (wsr (.bool (decide (z526 < ((o0.l).length : Int)))) 4 z z z (by kernel_rfl) (fun w hst => z) ?_))))
 refine bsplit (decide (z526 < ((o0.l).length : Int))) (fun hc534 => ?_) (fun hc534 => ?_)
 {
 replace hm := bif_t hc534 hm
 refine ws_q (v := .func (.func 59) #[] #[]) 5 [6, 7, 8, 9, 10, 11, 12, 13, 14, 15] (by kernel_rfl) z z (yi_run ((wanted_eq z z z (cvb hc534)).trans z) (fun w hst => z)) (ws_q (v := v420) 6 [7, 8, 9, 10, 11, 12, 13, 14, 15] (by kernel_rfl) z z (yi_run ((wanted_eq z z z (cvb hc534)).trans z) (fun w hst => z)) (ws_q (v := .int .i64 z526) 7 [8, 9, 10, 11, 12, 13, 14, 15] (by kernel_rfl) z z (yi_run ((wanted_eq z z z (cvb hc534)).trans z) (fun w hst => z)) ?_))
 obtain ⟨x535, hx536, hm⟩ := bind_some hm
 obtain ⟨h537, h538, hi539⟩ := geto_some hx536
 refine ws_q (v := .pointer (some (eAddr v420 (z526.toNat * 7 + 0)))) 8 [9, 10, 11, 12, 13, 14, 15] (by kernel_rfl) z z (yi_run ((wanted_eq z z z (cvb hc534)).trans z) (fun w hst => x_index z z underlying22 sizeOf34 (hst.rsv 0 z hq533) h537 h538)) ?_
 obtain ⟨cs540, hc542, hr541⟩ := Reps.get hq533 hi539
 obtain ⟨v543, v546, v549, v552, rfl, f544, f547, f550, f553, -⟩ := hr541
 refine ws_q (v := .agg #[U6 x535.ID.Session, U6 x535.ID.Seq, U6 x535.Epoch, v543, v546, v549, v552]) 9 [10, 11, 12, 13, 14, 15] (by kernel_rfl) z z (yi_run ((wanted_eq z z z (cvb hc534)).trans z) (fun w hst => x_loadN (cs := [U6 x535.ID.Session, U6 x535.ID.Seq, U6 x535.Epoch, v543, v546, v549, v552]) z isAgg34 sizeOf34 (eCells (o := 0) (hst.rcell 0 z hc542) z))) (ws_q (v := .agg #[U6 a1.Session, U6 a1.Seq]) 10 [11, 12, 13, 14, 15] (by kernel_rfl) z z (yi_run ((wanted_eq z z z (cvb hc534)).trans z) (fun w hst => x_loadN (cs := [U6 a1.Session, U6 a1.Seq]) z isAgg29 sizeOf29 (hst.bcs1 0 z))) ?_)
 refine ws_e1 11 (by kernel_rfl) ?_
 refine nxe [12, 13, 14, 15] (by kernel_rfl) z ((wanted_eq z z z (cvb hc534)).trans z) ?_
 clear hst
 intro w hst
 obtain ⟨t555, ht556, hm⟩ := bind_some hm
 refine we_call z (x_callv call59 (caps := []) z (vs := [.agg #[U6 x535.ID.Session, U6 x535.ID.Seq, U6 x535.Epoch, v543, v546, v549, v552], .agg #[U6 a1.Session, U6 a1.Seq]]) z) ?_
 refine (locks_compare_ref (f544.mono ro_rd) (f547.mono ro_rd) (f550.mono ro_rd) (f553.mono ro_rd) hst.to0 ht556).mono ?_
 rintro _ w557 ⟨rfl, hst⟩
 refine ⟨_, z, ?_⟩
 replace hst := hst.of0
 refine ws_next (pend' := [(0, I6 z526)]) hst (by kernel_rfl) (pkr z z (fun w hst => z) pk_nil) ?_
 refine ws_q (v := .bool (t555 == (0:Int))) 12 [13, 14, 15] (by kernel_rfl) z z (yi_run ((wanted_eq z z z (cvb hc534)).trans z) (fun w hst => z)) (wsr (.bool (t555 == (0:Int))) 13 z z z (by kernel_rfl) (fun w hst => x_pick_t hc534 z z) (wsr (.int .i64 z526) 14 z z z (by kernel_rfl) (fun w hst => z) (wsr (.bool (t555 == (0:Int))) 15 z z z (by kernel_rfl) (fun w hst => z) ?_)))
 refine ws_nil ?_
 intro w hst
 replace hst := hst.own_close hq533
 refine tn (wp_ret ?_)
 refine post_ret (vs := [I6 z526, .bool (t555 == (0:Int))]) results71 (rvs_cons (rv_tmp z) (rvs_cons (rv_tmp z) rvs_nil)) ?_
 replace hst := hst.pull3.pull1.pull3.keep3
 obtain rfl := some_inj hm
 exact ⟨z526, (t555 == (0:Int)), z, z, hst⟩
}
 {
 replace hm := bif_f hc534 hm
 refine ws_q (v := undef) 5 [6, 7, 8, 9, 10, 11, 12, 13, 14, 15] (by kernel_rfl) z z (yi_off ((wanted_eq z z z (cvb hc534)).trans z)) (ws_q (v := undef) 6 [7, 8, 9, 10, 11, 12, 13, 14, 15] (by kernel_rfl) z z (yi_off ((wanted_eq z z z (cvb hc534)).trans z)) (ws_q (v := undef) 7 [8, 9, 10, 11, 12, 13, 14, 15] (by kernel_rfl) z z (yi_off ((wanted_eq z z z (cvb hc534)).trans z)) (ws_q (v := undef) 8 [9, 10, 11, 12, 13, 14, 15] (by kernel_rfl) z z (yi_off ((wanted_eq z z z (cvb hc534)).trans z)) (ws_q (v := undef) 9 [10, 11, 12, 13, 14, 15] (by kernel_rfl) z z (yi_off ((wanted_eq z z z (cvb hc534)).trans z)) (ws_q (v := undef) 10 [11, 12, 13, 14, 15] (by kernel_rfl) z z (yi_off ((wanted_eq z z z (cvb hc534)).trans z)) (ws_q (v := undef) 11 [12, 13, 14, 15] (by kernel_rfl) z z (yi_off ((wanted_eq z z z (cvb hc534)).trans z)) (ws_q (v := undef) 12 [13, 14, 15] (by kernel_rfl) z z (yi_off ((wanted_eq z z z (cvb hc534)).trans z)) (wsr (.bool false) 13 z z z (by kernel_rfl) (fun w hst => x_pick_f hc534 z z) (wsr (.int .i64 z526) 14 z z z (by kernel_rfl) (fun w hst => z) (wsr (.bool false) 15 z z z (by kernel_rfl) (fun w hst => z) ?_))))))))))
 refine ws_nil ?_
 intro w hst
 replace hst := hst.own_close hq533
 refine tn (wp_ret ?_)
 refine post_ret (vs := [I6 z526, .bool false]) results71 (rvs_cons (rv_tmp z) (rvs_cons (rv_tmp z) rvs_nil)) ?_
 replace hst := hst.pull3.pull1.pull3.keep3
 obtain rfl := some_inj hm
 exact ⟨z526, false, z, z, hst⟩
}
}
}
 clear hst
 rintro _ w565 ⟨z560, z561, rfl, rfl, hst⟩
 refine ⟨_, z, ?_⟩
 try dsimp only at hm
 refine ws_next (pend' := []) hst (by kernel_rfl) pk_nil ?_
 refine wsr (.int .i64 z560) 6 z z z (by kernel_rfl) (fun w hst => z) (wsr (.bool z561) 7 z z z (by kernel_rfl) (fun w hst => z) (wsr (.int .i64 z560) 8 z z z (by kernel_rfl) (fun w hst => z) (wsr (.bool z561) 9 z z z (by kernel_rfl) (fun w hst => z) ?_)))
 refine ws_nil ?_
 intro w hst
 refine tn (wp_ret ?_)
 replace hst := hst.pull1.pull1
 replace hst := at_locks_Table_close (pv := Pt b419 0) (x := o0) hst z
 replace hst := objO_some hst
 obtain rfl := some_inj hm
 refine post_ret (vs := [I6 z560, .bool z561]) results40 (rvs_cons (rv_tmp z) (rvs_cons (rv_tmp z) rvs_nil)) ?_
 exact ⟨z, hst.keep1⟩
}
}

theorem slices_Insert_api_Hold_api_Hold_ref {w0 w : World} {I : HL} {R : SP} {a0 : (List api_Hold)} {r0_0 : Value} {a1 : Int} {a2 : (List api_Hold)} {r2_0 : Value} (hst : St w0 w I [ownS ty_api_Hold r0_0 a0, ownS ty_api_Hold r2_0 a2] R) {r : (List api_Hold)} (hm : slices_Insert_api_Hold_api_Hold a0 a1 a2 = some r) :
  Calls prog 41 #[r0_0, I6 a1, r2_0] w fun e w' => ∃ (q0_0 : Value), e = .returned (q0_0) ∧ St w0 w' I [ownS ty_api_Hold q0_0 r] R := by {
 unfold slices_Insert_api_Hold_api_Hold at hm
 obtain ⟨hg, hm⟩ := gd_some hm
 obtain rfl := some_inj hm
 obtain ⟨hi0, hi1, hrm⟩ := insOK_of hg
 obtain ⟨k, rfl⟩ := Int.eq_ofNat_of_zero_le hi0
 have hsm := room_sum hrm
 have hk : k ≤ a0.length := by omega
 have hs : ∀ w : World, (sizeOf 34).run prog w = .ok ty_api_Hold.sz w := sizeOf34
 have hs0 : 0 < ty_api_Hold.sz := Nat.le_of_ble_eq_true rfl
 have hov : ∀ (args : Array Value) (w : World), (callFunc 72 args).run prog w = (Extern.SlicesOverlaps.overlaps #[22, 22] #[4] args >>= fun v => (pure (.value v) : Sem Next)).run prog w := by intro args w; kernel_rfl
 obtain ⟨css, hr, hst⟩ := hst.own_open
 replace hst := hst.pull1
 obtain ⟨dss, hq, hst⟩ := hst.own_open
 replace hst := hst.pull1
 obtain ⟨n, hn⟩ : ∃ n, css.length = n := ⟨_, rfl⟩
 obtain ⟨m, hm'⟩ : ∃ m, dss.length = m := ⟨_, rfl⟩
 have hln : a0.length = n := hr.1.trans hn
 have hlm : a2.length = m := hq.1.trans hm'
 rw [hln] at hsm hk
 rw [hlm] at hsm
 have hsv : SliceV r0_0 n := by have := hst.row_form.2; rwa [hn] at this
 have hsq : SliceV r2_0 m := by have := hst.pull1.row_form.2; rwa [hm'] at this
 have hoc := hr.ones
 have hoq := hq.ones
 have hw1 := wrap_add (a := n) (b := m) (by omega)
 have hw2 := wrap_add (a := k) (b := m) (by omega)
 have hw3 := wrap_sub (a := n + m) (b := k) (by omega) (by omega)
 have hrb := room_of (b := 120) hrm rfl
 rw [hln, hlm] at hrb
 refine calls_start (args := [r0_0, I6 (k : Int), r2_0]) func41 z ntmps41 (Nat.le_of_ble_eq_true z) ?_
 refine wp_seq (wrl (wv ((.slice none 0 0)) z z z (wl_nil (tn (wp_seq (wrl (wv (r0_0) z z z (wv (.int .i64 (k : Int)) z z z (wv ((slcV ty_api_Hold.sz r0_0 k n)) z z (x_slice (lo := (k : Nat)) (hi := (n : Nat)) underlying22 hs z hsv (by omega) (by omega) (by omega) .i64 .i64 (.inl z) (.inr ⟨z, z⟩)) (wl_nil (tn (wp_seq (wrl (wv (r2_0) z z z (wv (.int .i64 (m : Int)) z z (x_len z underlying22 hsq) (wv (.int .i64 (m : Int)) z z z (wl_nil (tn (wp_seq (wp_seq (wrl (wv (.int .i64 (m : Int)) z z z (wv (.bool ((m : Int) == (0:Int))) z z z ?_)))))))))))))))))))))))
 refine wl_nil (tn ?_)
 refine bsplit ((m : Int) == (0:Int)) (fun hc296 => ?_) (fun hc296 => ?_)
 {
 refine wp_ift (cvb hc296) ?_
 refine wp_seq (wrl (wv (r0_0) z z z (wv (r0_0) z z z (wl_nil (tn (wp_ret (then_r ?_)))))))
 refine post_ret (vs := [r0_0]) results41 (rvs_cons (rv_tmp z) rvs_nil) ?_
 rw [ins_nil (by rw [hlm]; exact hc296)]
 exact ⟨_, z, (hst.own_close hr).keep1⟩
}
 {
 refine wp_iff (cvb hc296) ?_
 have hm0 : m ≠ 0 := fun h => by rw [h] at hc296; cases hc296
 have hq0 : dss ≠ [] := fun h => hm0 (by rw [← hm', h]; rfl)
 refine wp_skip (tn (wp_seq (wrl ?_)))
 refine wv (r0_0) z z z (wv (.int .i64 (n : Int)) z z (x_len z underlying22 hsv) (wv (.int .i64 (n : Int)) z z z (wl_nil (tn (wp_seq (wp_seq (wrl (wv (.int .i64 (k : Int)) z z z (wv (.int .i64 (n : Int)) z z z (wv (.bool ((k : Int) == (n : Int))) z z z (wl_nil (tn ?_))))))))))))
 refine bsplit ((k : Int) == (n : Int)) (fun hc297 => ?_) (fun hc297 => ?_)
 {
 refine wp_ift (cvb hc297) ?_
 refine wp_seq (wrl (wv (r0_0) z z z (wv (r2_0) z z z ?_)))
 replace hst := (hst.own_close hr).pull1.own_close hq
 replace hst := hst.pull1
 obtain ⟨v2, w2, hra, hst⟩ := run_append elem_22 underlying22 hst hst.src1 (room_of hrm z) 22
 refine wl_run (v := v2) (w' := w2) z z (x_append z z hra) ?_
 refine wv (v2) z z z (wl_nil (tn (wp_ret (then_r ?_))))
 refine post_ret (vs := [v2]) results41 (rvs_cons (rv_tmp z) rvs_nil) ?_
 rw [ins_end (by rw [hln]; exact hc297)]
 exact ⟨_, z, hst.keep1⟩
}
 {
 refine wp_iff (cvb hc297) ?_
 have hkn : k ≠ n := fun h => by rw [h] at hc297; simp at hc297
 have hn0 : 0 < n := by omega
 have hc0 : css ≠ [] := fun h => by rw [h] at hn; simp at hn; omega
 refine wp_skip (tn (wp_seq (wp_seq (wrl ?_))))
 refine wv (.int .i64 (n : Int)) z z z (wv (.int .i64 (m : Int)) z z z (wv (.int .i64 ((n + m : Nat) : Int)) z z (ok_cast hw1 z) (wv (r0_0) z z z (wv (.int .i64 (sCap r0_0 : Int)) z z (x_cap z underlying22 hsv) (wv (.bool (decide (((n + m : Nat) : Int) > (sCap r0_0 : Int)))) z z z (wl_nil (tn ?_)))))))
 refine bsplit (decide (((n + m : Nat) : Int) > (sCap r0_0 : Int))) (fun hc298 => ?_) (fun hc298 => ?_)
 {
 refine wp_ift (cvb hc298) ?_
 refine wp_seq (wrl (wv (r0_0) z z z (wv (.int .i64 (k : Int)) z z z (wv ((slcV ty_api_Hold.sz r0_0 0 k)) z z (x_slice (lo := (0 : Nat)) (hi := (k : Nat)) underlying22 hs z hsv (by omega) (by omega) (by omega) .i64 .i64 (.inr ⟨z, z⟩) (.inl z)) (wv (.int .i64 (n : Int)) z z z (wv (.int .i64 (m : Int)) z z z (wv (.int .i64 ((n + m : Nat) : Int)) z z (ok_cast hw1 z) (wv (.int .i64 (k : Int)) z z z (wv (.int .i64 ((n + m - k : Nat) : Int)) z z (ok_cast hw3 z) ?_)))))))))
 obtain ⟨v2, w2, hra, hs2, zss, hzl, hst⟩ := run_app0 elem_22 underlying3 hst k (n + m - k) (by omega) (by have := of_decide_eq_true hc298; omega) (by rw [show k + (n + m - k) = n + m by omega]; exact hrb) hs0 22
 rw [show k + (n + m - k) = n + m by omega] at hs2
 refine wl_run (v := v2) (w' := w2) z z (x_append z z hra) ?_
 refine wv (v2) z z z (wl_nil (tn (wp_seq (wrl (wv (v2) z z z (wv (.int .i64 (k : Int)) z z z (wv ((slcV ty_api_Hold.sz v2 k (n + m))) z z (x_slice (lo := (k : Nat)) (hi := ((n + m) : Nat)) underlying22 hs z hs2 (by omega) (by omega) (by omega) .i64 .i64 (.inl z) (.inr ⟨z, z⟩)) (wv (r2_0) z z z ?_))))))))
 obtain ⟨w299, hr300, hst⟩ := run_copyRows (P := prog) (t2 := 22) (ty := 3) underlying22 hs hst hst.pull2 k m (N := n + m) (by first | omega | (simp only [List.length_append, List.length_take, List.length_drop]; omega)) (by first | omega | (simp only [List.length_append, List.length_take, List.length_drop]; omega)) (by omega) (by first | omega | (simp only [List.length_append, List.length_take, List.length_drop]; omega)) (ones_take hoq _)
 refine wl_run (v := .int .i64 (m : Nat)) (w' := w299) z z (x_copy z z hr300) ?_
 refine wl_nil (tn (wp_seq ?_))
 refine wp_region_St hst 9 [0, 1, 2, 3, 4, 5, 6, 7, 8] [0, 0, 0, 6, 15, 0, 0, 96, 255] [] z (by kernel_rfl) (by kernel_rfl) Try.mixed (by kernel_rfl) ?_
 refine wsr (v2) 0 z z z (by kernel_rfl) (fun w hst => z) (wsr (.int .i64 (k : Int)) 1 z z z (by kernel_rfl) (fun w hst => z) (wsr (.int .i64 (m : Int)) 2 z z z (by kernel_rfl) (fun w hst => z) (wsr (.int .i64 ((k + m : Nat) : Int)) 3 z z z (by kernel_rfl) (fun w hst => ok_cast hw2 z) (wsr ((slcV ty_api_Hold.sz v2 (k + m) (n + m))) 4 z z z (by kernel_rfl) (fun w hst => x_slice (lo := ((k + m) : Nat)) (hi := ((n + m) : Nat)) underlying22 hs z hs2 (by omega) (by omega) (by omega) .i64 .i64 (.inl z) (.inr ⟨z, z⟩)) (wsr (r0_0) 5 z z z (by kernel_rfl) (fun w hst => z) (wsr (.int .i64 (k : Int)) 6 z z z (by kernel_rfl) (fun w hst => z) (wsr ((slcV ty_api_Hold.sz r0_0 k n)) 7 z z z (by kernel_rfl) (fun w hst => x_slice (lo := (k : Nat)) (hi := (n : Nat)) underlying22 hs z hsv (by omega) (by omega) (by omega) .i64 .i64 (.inl z) (.inr ⟨z, z⟩)) ?_)))))))
 refine ws_e1 8 (by kernel_rfl) ?_
 refine nxe [] (by kernel_rfl) z z ?_
 clear hst
 intro w hst
 obtain ⟨w301, hr302, hst⟩ := run_copyRows (P := prog) (t2 := 22) (ty := 3) underlying22 hs hst (hst.pull1.row_part (l := k) (h := n) hk (by omega)) (k + m) (n - k) (N := n + m) (by first | omega | (simp only [List.length_append, List.length_take, List.length_drop]; omega)) (by first | omega | (simp only [List.length_append, List.length_take, List.length_drop]; omega)) (by omega) (by first | omega | (simp only [List.length_append, List.length_take, List.length_drop]; omega)) (ones_take (ones_drop (ones_take hoc _) _) _)
 refine we_run (v := .int .i64 ((n - k) : Nat)) (w' := w301) z (x_copy z z hr302) ?_
 refine ws_next (pend' := []) hst (by kernel_rfl) pk_nil ?_
 refine ws_nil ?_
 intro w hst
 refine tn (wp_seq (wrl (wv (v2) z z z (wv (v2) z z z (wl_nil (tn (wp_ret (then_r ?_))))))))
 refine post_ret (vs := [v2]) results41 (rvs_cons (rv_tmp z) rvs_nil) ?_
 rw [grow_rows hn hm' hk hzl] at hst
 exact ⟨_, z, (hst.own_close ((hr.take k).app (hq.app (hr.drop k)))).keep1⟩
}
 {
 refine wp_iff (cvb hc298) ?_
 have hup : n + m ≤ sCap r0_0 := by have := of_decide_eq_false hc298; omega
 obtain ⟨ess, hel, hem, hst'⟩ := hst.row_up (n + m) (by omega) hup hc0
 rw [show n + m - css.length = m by omega] at hel
 have hs2 : SliceV (upV r0_0 (n + m)) (n + m) := by have := hst'.row_form.2; rwa [List.length_append, hn, hel] at this
 clear hst
 have hst := hst'
 clear hst'
 refine wp_skip (tn (wp_seq (wrl ?_)))
 refine wv (r0_0) z z z (wv (.int .i64 (n : Int)) z z z (wv (.int .i64 (m : Int)) z z z (wv (.int .i64 ((n + m : Nat) : Int)) z z (ok_cast hw1 z) (wv ((upV r0_0 (n + m))) z z (x_sliceUp underlying22 hs z hsv z hup hn0) (wv ((upV r0_0 (n + m))) z z z (wl_nil (tn (wp_seq (wp_seq (wrl (wv (r2_0) z z z (wv ((upV r0_0 (n + m))) z z z (wv (.int .i64 (k : Int)) z z z (wv (.int .i64 (m : Int)) z z z (wv (.int .i64 ((k + m : Nat) : Int)) z z (ok_cast hw2 z) (wv ((slcV ty_api_Hold.sz (upV r0_0 (n + m)) (k + m) (n + m))) z z (x_slice (lo := ((k + m) : Nat)) (hi := ((n + m) : Nat)) underlying22 hs z hs2 (by omega) (by omega) (by omega) .i64 .i64 (.inl z) (.inr ⟨z, z⟩)) ?_))))))))))))))))
 refine wv (.bool false) z z (x_ext z z z (hov _) (run_overlaps z underlying22 hs hst.pull1 (k + m) (N := n + m) (by rw [List.length_append]; omega) (by omega) hq0 hs0)) (wv (.bool true) z z z (wl_nil (tn ?_)))
 refine wp_ift z ?_
 refine wp_seq ?_
 refine wp_region_St hst 9 [0, 1, 2, 3, 4, 5, 6, 7, 8] [0, 0, 0, 6, 15, 0, 0, 96, 255] [] z (by kernel_rfl) (by kernel_rfl) Try.mixed (by kernel_rfl) ?_
 refine wsr ((upV r0_0 (n + m))) 0 z z z (by kernel_rfl) (fun w hst => z) (wsr (.int .i64 (k : Int)) 1 z z z (by kernel_rfl) (fun w hst => z) (wsr (.int .i64 (m : Int)) 2 z z z (by kernel_rfl) (fun w hst => z) (wsr (.int .i64 ((k + m : Nat) : Int)) 3 z z z (by kernel_rfl) (fun w hst => ok_cast hw2 z) (wsr ((slcV ty_api_Hold.sz (upV r0_0 (n + m)) (k + m) (n + m))) 4 z z z (by kernel_rfl) (fun w hst => x_slice (lo := ((k + m) : Nat)) (hi := ((n + m) : Nat)) underlying22 hs z hs2 (by omega) (by omega) (by omega) .i64 .i64 (.inl z) (.inr ⟨z, z⟩)) (wsr ((upV r0_0 (n + m))) 5 z z z (by kernel_rfl) (fun w hst => z) (wsr (.int .i64 (k : Int)) 6 z z z (by kernel_rfl) (fun w hst => z) (wsr ((slcV ty_api_Hold.sz (upV r0_0 (n + m)) k (n + m))) 7 z z z (by kernel_rfl) (fun w hst => x_slice (lo := (k : Nat)) (hi := ((n + m) : Nat)) underlying22 hs z hs2 (by omega) (by omega) (by omega) .i64 .i64 (.inl z) (.inr ⟨z, z⟩)) ?_)))))))
 refine ws_e1 8 (by kernel_rfl) ?_
 refine nxe [] (by kernel_rfl) z z ?_
 clear hst
 intro w hst
 obtain ⟨w303, hr304, hst⟩ := run_copyRows (P := prog) (t2 := 22) (ty := 3) underlying22 hs hst (hst.row_part (l := k) (h := n + m) (by omega) (by rw [List.length_append]; omega)) (k + m) (n - k) (N := n + m) (by first | omega | (simp only [List.length_append, List.length_take, List.length_drop]; omega)) (by first | omega | (simp only [List.length_append, List.length_take, List.length_drop]; omega)) (by omega) (by first | omega | (simp only [List.length_append, List.length_take, List.length_drop]; omega)) (by rw [stay_src hn hm' hk hel]; exact ones_drop hoc _)
 refine we_run (v := .int .i64 ((n - k) : Nat)) (w' := w303) z (x_copy z z hr304) ?_
 refine ws_next (pend' := []) hst (by kernel_rfl) pk_nil ?_
 refine ws_nil ?_
 intro w hst
 refine tn (wp_seq (wrl (wv ((upV r0_0 (n + m))) z z z (wv (.int .i64 (k : Int)) z z z (wv ((slcV ty_api_Hold.sz (upV r0_0 (n + m)) k (n + m))) z z (x_slice (lo := (k : Nat)) (hi := ((n + m) : Nat)) underlying22 hs z hs2 (by omega) (by omega) (by omega) .i64 .i64 (.inl z) (.inr ⟨z, z⟩)) (wv (r2_0) z z z ?_))))))
 obtain ⟨w305, hr306, hst⟩ := run_copyRows (P := prog) (t2 := 22) (ty := 3) underlying22 hs hst hst.pull1 k m (N := n + m) (by first | omega | (simp only [List.length_append, List.length_take, List.length_drop]; omega)) (by first | omega | (simp only [List.length_append, List.length_take, List.length_drop]; omega)) (by omega) (by first | omega | (simp only [List.length_append, List.length_take, List.length_drop]; omega)) (ones_take hoq _)
 refine wl_run (v := .int .i64 (m : Nat)) (w' := w305) z z (x_copy z z hr306) ?_
 refine wl_nil (tn (wp_seq (wrl (wv ((upV r0_0 (n + m))) z z z (wv ((upV r0_0 (n + m))) z z z (wl_nil (tn (wp_ret (then_r ?_)))))))))
 refine post_ret (vs := [(upV r0_0 (n + m))]) results41 (rvs_cons (rv_tmp z) rvs_nil) ?_
 rw [stay_rows hn hm' hk hel] at hst
 exact ⟨_, z, (hst.own_close ((hr.take k).app (hq.app (hr.drop k)))).keep1⟩
}
}
}
}

theorem locks_Table_Take_ref {w0 w : World} {I : HL} {R : SP} {a0 : (Option locks_Table)} {p0 : Value} {a1 : api_Hold} {r1_0 : Value} {r1_1 : Value} {r1_2 : Value} {r1_3 : Value} (f1_0 : Rd tyF64 R I r1_0 a1.Gets) (f1_1 : Rd tyF2 R I r1_1 a1.Scans) (f1_2 : Rd tyF64 R I r1_2 a1.Puts) (f1_3 : Rd (tyInt .u8) R I r1_3 a1.Data) (hst : St w0 w I [objO at_locks_Table p0 a0] R) {r : (Int × (Option locks_Table))} (hm : locks_Table_Take a0 a1 = some r) :
  Calls prog 12 #[p0, .agg #[U6 a1.ID.Session, U6 a1.ID.Seq, U6 a1.Epoch, r1_0, r1_1, r1_2, r1_3]] w fun e w' => ∃ (I' : HL), e = .returned (.int .i64 r.1) ∧ I.le I' ∧ St w0 w' I' [objO at_locks_Table p0 r.2] R := by {
 rcases a0 with _ | o0
 {
 obtain ⟨rfl, hst'⟩ := objO_none hst
 clear hst
 have hst := hst'
 clear hst'
 dsimp only [locks_Table_Take] at hm
 refine calls_start (args := [.pointer none, .agg #[U6 a1.ID.Session, U6 a1.ID.Seq, U6 a1.Epoch, r1_0, r1_1, r1_2, r1_3]]) func12 z ntmps12 (Nat.le_of_ble_eq_true z) ?_
 have hI0 := HL.le.refl I
 refine wp_seq (wrl ?_)
 obtain ⟨b335, w336, ew337, eb338, hst⟩ := hst.box [U6 a1.ID.Session, U6 a1.ID.Seq, U6 a1.Epoch, r1_0, r1_1, r1_2, r1_3] 34
 refine wl_run (v := Pt b335 0) (w' := w336) z z (x_al (by kernel_rfl) ew337 eb338) ?_
 refine wv (.int .i64 (0:Int)) z z z (wl_nil (tn (wp_seq (wp_seq (wrl (wv (.pointer none) z z z (wv (.bool true) z z (by kernel_rfl) (wl_nil (tn ?_)))))))))
 refine wp_ift z ?_
 refine wp_seq (wrl (wv (.int .i64 (2:Int)) z z z (wl_nil (tn (wp_ret (then_r ?_))))))
 replace hst := hst.objO_nil at_locks_Table
 obtain rfl := some_inj hm
 refine post_ret (vs := [I6 (2:Int)]) results12 (rvs_cons (rv_tmp z) rvs_nil) ?_
 exact ⟨_, z, hI0, hst.keep1⟩
}
 {
 replace hst := objO_get hst
 dsimp only [locks_Table_Take] at hm
 refine calls_start (args := [p0, .agg #[U6 a1.ID.Session, U6 a1.ID.Seq, U6 a1.Epoch, r1_0, r1_1, r1_2, r1_3]]) func12 z ntmps12 (Nat.le_of_ble_eq_true z) ?_
 have hI0 := HL.le.refl I
 refine wp_seq (wrl ?_)
 obtain ⟨b340, w341, ew342, eb343, hst⟩ := hst.box [U6 a1.ID.Session, U6 a1.ID.Seq, U6 a1.Epoch, r1_0, r1_1, r1_2, r1_3] 34
 refine wl_run (v := Pt b340 0) (w' := w341) z z (x_al (by kernel_rfl) ew342 eb343) ?_
 refine wv (.int .i64 (0:Int)) z z z (wl_nil (tn (wp_seq (wp_seq (wrl (wv (p0) z z z ?_))))))
 replace hst := hst.pull1
 obtain ⟨b345, v346, rfl, hst'⟩ := at_locks_Table_open hst
 clear hst
 have hst := hst'
 clear hst'
 refine wv (.bool false) z z (by kernel_rfl) (wl_nil (tn ?_))
 refine wp_iff z ?_
 refine wp_skip (tn ?_)
 obtain ⟨y477, hm, hx478⟩ := joinO_some hm
 refine wp_cut (fun a w => ∃ (σ475 : Nat → Value), (locks_Table_Take_j0 a1 o0) () = some r ∧ a = Fr 74 (upd (upd σ475 0 (Pt b345 0)) 3 (Pt b340 0)) ∧ St w0 w I [at_locks_Table (Pt b345 0) o0, cells b340 [U6 a1.ID.Session, U6 a1.ID.Seq, U6 a1.Epoch, r1_0, r1_1, r1_2, r1_3]] R) ?_ ?_
 {
 refine wp_seq (wrl (wv (Pt b345 0) z z z (wv (Pt b345 0) z z z (wv (Pt b345 0) z z (x_field z underlying77 z sizeOf22 z) (wv (v346) z z (x_load z isAgg22 (hst.bc0 z)) (wv (.int .i64 ((o0.l).length : Int)) z z (x_len z underlying22 hst.sv1) (wv (.int .i64 (0:Int)) z z z (wl_nil (tn (wp_block ?_))))))))))
 obtain ⟨n429, hm⟩ := loopO_some hm
 refine wp_loop_n (fun n a w => ∃ (z427 : Int) (σ428 : Nat → Value), loopN (locks_Table_Take_l1 o0 a1) n z427 = some y477 ∧ a = Fr 74 (upd (upd (upd (upd (upd σ428 0 (Pt b345 0)) 3 (Pt b340 0)) 14 (v346)) 15 (.int .i64 ((o0.l).length : Int))) 16 (.int .i64 z427)) ∧ St w0 w I [cells b345 [v346], ownS ty_api_Hold v346 o0.l, cells b340 [U6 a1.ID.Session, U6 a1.ID.Seq, U6 a1.Epoch, r1_0, r1_1, r1_2, r1_3]] R) n429 ⟨(0:Int), _, hm, (fu 0 (Pt b345 0) z (fu 3 (Pt b340 0) z (fu 14 v346 z (fu 15 (.int .i64 ((o0.l).length : Int)) z (fu 16 (.int .i64 (0:Int)) z z))))), hst⟩ ?_
 rintro n435 _ w430 ⟨z427, σ428, hm, rfl, hst⟩
 obtain ⟨n432, y433, rfl, hm, hx434⟩ := loopN_some hm
 dsimp only [locks_Table_Take_l1] at hm
 refine wp_seq (wrl (wv (.bool (decide (z427 < ((o0.l).length : Int)))) z z z (wl_nil (tn (wp_seq ?_)))))
 refine bsplit (decide (z427 < ((o0.l).length : Int))) (fun hc436 => ?_) (fun hc436 => ?_)
 {
 replace hm := bif_t hc436 hm
 refine wp_ift (cvb hc436) ?_
 refine wp_skip (tn (wp_seq (wp_block (wp_seq (wrl ?_)))))
 obtain ⟨x437, hx438, hm⟩ := bind_some hm
 obtain ⟨h439, h440, hi441⟩ := geto_some hx438
 refine wv (.pointer (some (eAddr v346 (z427.toNat * 7 + 0)))) z z (x_index z z underlying22 sizeOf34 hst.sv1 h439 h440) ?_
 obtain ⟨cs442, hr443, hc444⟩ := hst.og1 hi441
 obtain ⟨v445, v448, v451, v454, rfl, f446, f449, f452, f455, -⟩ := hr443
 refine wv (.agg #[U6 x437.ID.Session, U6 x437.ID.Seq, U6 x437.Epoch, v445, v448, v451, v454]) z z (x_loadN (cs := [U6 x437.ID.Session, U6 x437.ID.Seq, U6 x437.Epoch, v445, v448, v451, v454]) z isAgg34 sizeOf34 (eCells (o := 0) hc444 z)) ?_
 obtain ⟨b461, w462, ew463, eb464, hst⟩ := hst.box [Zu, Zu, Zu, Zs, Zs, Zs, Zs] 34
 refine wl_run (v := Pt b461 0) (w' := w462) z z (x_al (by kernel_rfl) ew463 eb464) ?_
 obtain ⟨w466, hr467, hst⟩ := hst.bx [U6 x437.ID.Session, U6 x437.ID.Seq, U6 x437.Epoch, v445, v448, v451, v454] sizeOf34 z (oC z (oC z (oC z (oC (one_of_sliceV (ro_sliceV f446)) (oC (one_of_sliceV (ro_sliceV f449)) (oC (one_of_sliceV (ro_sliceV f452)) (oC (one_of_sliceV (ro_sliceV f455)) oN))))))) (by kernel_rfl)
 refine wl_unit z z (x_unit hr467) ?_
 refine wl_nil (tn (wp_seq (wrl (wv (Pt b461 0) z z (x_field z underlying34 z sizeOf29 z) (wv (.agg #[U6 x437.ID.Session, U6 x437.ID.Seq]) z z (x_loadN (cs := [U6 x437.ID.Session, U6 x437.ID.Seq]) z isAgg29 sizeOf29 (hst.bcs0 0 z)) (wv (Pt b340 0) z z (x_field z underlying34 z sizeOf29 z) (wv (.agg #[U6 a1.ID.Session, U6 a1.ID.Seq]) z z (x_loadN (cs := [U6 a1.ID.Session, U6 a1.ID.Seq]) z isAgg29 sizeOf29 (hst.bcs3 0 z)) (wv (.bool (!((x437.ID.Session == a1.ID.Session) && (x437.ID.Seq == a1.ID.Seq)))) z z (x_aggne2 z z (by kernel_rfl) underlying29 (by kernel_rfl) (by kernel_rfl) (by kernel_rfl) underlying27 underlying27 (fun _ _ _ => by kernel_rfl) (fun _ _ _ => by kernel_rfl)) (wv (.bool (!((x437.ID.Session == a1.ID.Session) && (x437.ID.Seq == a1.ID.Seq)))) z z z ?_)))))))))
 refine bsplit (!((x437.ID.Session == a1.ID.Session) && (x437.ID.Seq == a1.ID.Seq))) (fun hc468 => ?_) (fun hc468 => ?_)
 {
 replace hm := bif_t hc468 hm
 refine wv (.agg #[U6 x437.ID.Session, U6 x437.ID.Seq, U6 x437.Epoch, v445, v448, v451, v454]) ((wanted_eq z z z (cvb hc468)).trans z) z (x_loadN (cs := [U6 x437.ID.Session, U6 x437.ID.Seq, U6 x437.Epoch, v445, v448, v451, v454]) z isAgg34 sizeOf34 (hst.bcs0 0 z)) (wv (.agg #[U6 a1.ID.Session, U6 a1.ID.Seq, U6 a1.Epoch, r1_0, r1_1, r1_2, r1_3]) ((wanted_eq z z z (cvb hc468)).trans z) z (x_loadN (cs := [U6 a1.ID.Session, U6 a1.ID.Seq, U6 a1.Epoch, r1_0, r1_1, r1_2, r1_3]) z isAgg34 sizeOf34 (hst.bcs3 0 z)) ?_)
 obtain ⟨t469, ht470, hm⟩ := bind_some hm
 refine wl_call ((wanted_eq z z z (cvb hc468)).trans z) z (x_call call19 z (vs := [.agg #[U6 x437.ID.Session, U6 x437.ID.Seq, U6 x437.Epoch, v445, v448, v451, v454], .agg #[U6 a1.ID.Session, U6 a1.ID.Seq, U6 a1.Epoch, r1_0, r1_1, r1_2, r1_3]]) z) ?_
 refine (locks_Meet_ref (f446.mono ro_rd) (f449.mono ro_rd) (f452.mono ro_rd) (f455.mono ro_rd) (f1_0.mono (rd_weak _)) (f1_1.mono (rd_weak _)) (f1_2.mono (rd_weak _)) (f1_3.mono (rd_weak _)) hst.to0 ht470).mono ?_
 rintro _ w471 ⟨rfl, hst⟩
 refine ⟨_, z, ?_⟩
 replace hst := hst.of0
 refine wv (.bool t469) z z (x_pick_t hc468 z z) (wl_nil (tn ?_))
 refine bsplit t469 (fun hc474 => ?_) (fun hc474 => ?_)
 {
 replace hm := bif_t hc474 hm
 refine wp_ift (cvb hc474) ?_
 refine wp_seq (wrl (wv (.int .i64 (8:Int)) z z z (wl_nil (tn (wp_ret (blk_r (then_r (then_r ?_))))))))
 replace hm := inr_up hm hx434
 refine blk_r (then_r ?_)
 replace hm := inr_up hm hx478
 replace hst := hst.pull2.pull2
 replace hst := at_locks_Table_close (pv := Pt b345 0) (x := o0) hst z
 replace hst := objO_some hst
 obtain rfl := some_inj hm
 refine post_ret (vs := [I6 (8:Int)]) results12 (rvs_cons (rv_tmp z) rvs_nil) ?_
 exact ⟨_, z, hI0, hst.keep1⟩
}
 {
 replace hm := bif_f hc474 hm
 refine wp_iff (cvb hc474) ?_
 refine wp_skip (blk_n (tn (wrl ?_)))
 refine wv (.int .i64 (i64.wrap (z427 + (1:Int)))) z z z (wv (.int .i64 (i64.wrap (z427 + (1:Int)))) z z z (wl_nil (tn ?_)))
 replace hst := hst.pull3.pull3.pull3.keep3
 obtain rfl := some_inj hm
 exact ⟨_, Nat.lt_succ_self _, (i64.wrap (z427 + (1:Int))), _, hx434, (fu 0 (Pt b345 0) z (fu 3 (Pt b340 0) z (fu 14 v346 z (fu 15 (.int .i64 ((o0.l).length : Int)) z (fu 16 (.int .i64 (i64.wrap (z427 + (1:Int)))) z z))))), hst⟩
}
}
 {
 replace hm := bif_f hc468 hm
 refine wo hc468 z z z z z z (wo hc468 z z z z z z (wo hc468 z z z z z z (wv (.bool false) z z (x_pick_f hc468 z z) (wl_nil (tn ?_)))))
 refine wp_iff z ?_
 refine wp_skip (blk_n (tn (wrl ?_)))
 refine wv (.int .i64 (i64.wrap (z427 + (1:Int)))) z z z (wv (.int .i64 (i64.wrap (z427 + (1:Int)))) z z z (wl_nil (tn ?_)))
 replace hst := hst.pull3.pull3.pull3.keep3
 obtain rfl := some_inj hm
 exact ⟨_, Nat.lt_succ_self _, (i64.wrap (z427 + (1:Int))), _, hx434, (fu 0 (Pt b345 0) z (fu 3 (Pt b340 0) z (fu 14 v346 z (fu 15 (.int .i64 ((o0.l).length : Int)) z (fu 16 (.int .i64 (i64.wrap (z427 + (1:Int)))) z z))))), hst⟩
}
}
 {
 replace hm := bif_f hc436 hm
 refine wp_iff (cvb hc436) ?_
 refine wp_exit (then_x (then_x ?_))
 replace hm := inr_up hm hx434
 refine blk_x (tn ?_)
 replace hst := hst.pull1.pull1
 replace hst := at_locks_Table_close (pv := Pt b345 0) (x := o0) hst z
 replace hst := hst.pull1.pull1.keep2
 obtain rfl := some_inj hm
 exact ⟨_, hx478, (fu 0 (Pt b345 0) z (fu 3 (Pt b340 0) z z)), hst⟩
}
}
 {
 clear hst
 rintro _ w479 ⟨σ475, hm, rfl, hst⟩
 dsimp only [locks_Table_Take_j0] at hm
 refine wp_seq ?_
 refine wp_region_St hst 18 [0, 1, 2, 3, 4, 5, 6, 7, 8, 9, 10, 11, 12, 13, 14, 15, 16, 17] [0, 1, 0, 4, 0, 16, 48, 0, 128, 496, 0, 1024, 4080, 0, 8192, 32752, 65535, 131071] [] z (by kernel_rfl) (by kernel_rfl) Try.mixed (by kernel_rfl) ?_
 refine wsr (Pt b340 0) 0 z z z (by kernel_rfl) (fun w hst => x_field z underlying34 z sizeOf29 z) (wsr (.agg #[U6 a1.ID.Session, U6 a1.ID.Seq]) 1 z z z (by kernel_rfl) (fun w hst => x_loadN (cs := [U6 a1.ID.Session, U6 a1.ID.Seq]) z isAgg29 sizeOf29 (hst.bcs1 0 z)) (wsr (Pt b340 2) 2 z z z (by kernel_rfl) (fun w hst => x_field z underlying34 z sizeOf27 z) (wsr (.int .u64 a1.Epoch) 3 z z z (by kernel_rfl) (fun w hst => x_load z isAgg27 (hst.bc1 z)) (wsr (Pt b340 3) 4 z z z (by kernel_rfl) (fun w hst => x_field z underlying34 z sizeOf30 z) (wsr (r1_0) 5 z z z (by kernel_rfl) (fun w hst => x_load z isAgg30 (hst.bc1 z)) (wsr (Pt b340 4) 7 z z z (by kernel_rfl) (fun w hst => x_field z underlying34 z sizeOf31 z) (wsr (r1_1) 8 z z z (by kernel_rfl) (fun w hst => x_load z isAgg31 (hst.bc1 z)) (wsr (Pt b340 5) 10 z z z (by kernel_rfl) (fun w hst => x_field z underlying34 z sizeOf30 z) (wsr (r1_2) 11 z z z (by kernel_rfl) (fun w hst => x_load z isAgg30 (hst.bc1 z)) (wsr (Pt b340 6) 13 z z z (by kernel_rfl) (fun w hst => x_field z underlying34 z sizeOf32 z) (wsr (r1_3) 14 z z z (by kernel_rfl) (fun w hst => x_load z isAgg32 (hst.bc1 z)) ?_)))))))))))
 refine ws_e1 6 (by kernel_rfl) ?_
 refine nxe [9, 12, 15, 16, 17] (by kernel_rfl) z z ?_
 clear hst
 intro w hst
 obtain ⟨t480, ht481, hm⟩ := bind_some hm
 refine wec call37 [r1_0] z z ?_
 refine (slices_Clone_float64_float64_ref (f1_0.mono (rd_weak _)) hst.to0 ht481).mono ?_
 rintro _ w482 ⟨v485, rfl, hst⟩
 refine ⟨_, z, ?_⟩
 replace hst := hst.of1
 refine ws_next (pend' := [(14, r1_3), (13, Pt b340 6), (11, r1_2), (10, Pt b340 5), (8, r1_1), (7, Pt b340 4), (3, U6 a1.Epoch), (2, Pt b340 2), (1, .agg #[U6 a1.ID.Session, U6 a1.ID.Seq]), (0, Pt b340 0)]) hst (by kernel_rfl) (pkr z z (fun w hst => x_load z isAgg32 (hst.bc2 z)) (pkr z z (fun w hst => x_field z underlying34 z sizeOf32 z) (pkr z z (fun w hst => x_load z isAgg30 (hst.bc2 z)) (pkr z z (fun w hst => x_field z underlying34 z sizeOf30 z) (pkr z z (fun w hst => x_load z isAgg31 (hst.bc2 z)) (pkr z z (fun w hst => x_field z underlying34 z sizeOf31 z) (pkr z z (fun w hst => x_load z isAgg27 (hst.bc2 z)) (pkr z z (fun w hst => x_field z underlying34 z sizeOf27 z) (pkr z z (fun w hst => x_loadN (cs := [U6 a1.ID.Session, U6 a1.ID.Seq]) z isAgg29 sizeOf29 (hst.bcs2 0 z)) (pkr z z (fun w hst => x_field z underlying34 z sizeOf29 z) pk_nil)))))))))) ?_
 refine ws_e1 9 (by kernel_rfl) ?_
 refine nxe [12, 15, 16, 17] (by kernel_rfl) z z ?_
 clear hst
 intro w hst
 obtain ⟨t487, ht488, hm⟩ := bind_some hm
 refine wec call38 [r1_1] z z ?_
 refine (slices_Clone_2_float64_2_float64_ref (f1_1.mono (rd_weak _)) hst.to0 ht488).mono ?_
 rintro _ w489 ⟨v492, rfl, hst⟩
 refine ⟨_, z, ?_⟩
 replace hst := hst.of1
 refine ws_next (pend' := [(14, r1_3), (13, Pt b340 6), (11, r1_2), (10, Pt b340 5), (3, U6 a1.Epoch), (2, Pt b340 2), (1, .agg #[U6 a1.ID.Session, U6 a1.ID.Seq]), (0, Pt b340 0)]) hst (by kernel_rfl) (pkr z z (fun w hst => x_load z isAgg32 (hst.bc3 z)) (pkr z z (fun w hst => x_field z underlying34 z sizeOf32 z) (pkr z z (fun w hst => x_load z isAgg30 (hst.bc3 z)) (pkr z z (fun w hst => x_field z underlying34 z sizeOf30 z) (pkr z z (fun w hst => x_load z isAgg27 (hst.bc3 z)) (pkr z z (fun w hst => x_field z underlying34 z sizeOf27 z) (pkr z z (fun w hst => x_loadN (cs := [U6 a1.ID.Session, U6 a1.ID.Seq]) z isAgg29 sizeOf29 (hst.bcs3 0 z)) (pkr z z (fun w hst => x_field z underlying34 z sizeOf29 z) pk_nil)))))))) ?_
 refine ws_e1 12 (by kernel_rfl) ?_
 refine nxe [15, 16, 17] (by kernel_rfl) z z ?_
 clear hst
 intro w hst
 obtain ⟨t494, ht495, hm⟩ := bind_some hm
 refine wec call37 [r1_2] z z ?_
 refine (slices_Clone_float64_float64_ref (f1_2.mono (rd_weak _)) hst.to0 ht495).mono ?_
 rintro _ w496 ⟨v499, rfl, hst⟩
 refine ⟨_, z, ?_⟩
 replace hst := hst.of1
 refine ws_next (pend' := [(14, r1_3), (13, Pt b340 6), (3, U6 a1.Epoch), (2, Pt b340 2), (1, .agg #[U6 a1.ID.Session, U6 a1.ID.Seq]), (0, Pt b340 0)]) hst (by kernel_rfl) (pkr z z (fun w hst => x_load z isAgg32 (hst.bc4 z)) (pkr z z (fun w hst => x_field z underlying34 z sizeOf32 z) (pkr z z (fun w hst => x_load z isAgg27 (hst.bc4 z)) (pkr z z (fun w hst => x_field z underlying34 z sizeOf27 z) (pkr z z (fun w hst => x_loadN (cs := [U6 a1.ID.Session, U6 a1.ID.Seq]) z isAgg29 sizeOf29 (hst.bcs4 0 z)) (pkr z z (fun w hst => x_field z underlying34 z sizeOf29 z) pk_nil)))))) ?_
 refine ws_e1 15 (by kernel_rfl) ?_
 refine nxe [16, 17] (by kernel_rfl) z z ?_
 clear hst
 intro w hst
 obtain ⟨t501, ht502, hm⟩ := bind_some hm
 refine wec call39 [r1_3] z z ?_
 refine (slices_Clone_byte_byte_ref (f1_3.mono (rd_weak _)) hst.to0 ht502).mono ?_
 rintro _ w503 ⟨v506, rfl, hst⟩
 refine ⟨_, z, ?_⟩
 replace hst := hst.of1
 refine ws_next (pend' := [(3, U6 a1.Epoch), (2, Pt b340 2), (1, .agg #[U6 a1.ID.Session, U6 a1.ID.Seq]), (0, Pt b340 0)]) hst (by kernel_rfl) (pkr z z (fun w hst => x_load z isAgg27 (hst.bc5 z)) (pkr z z (fun w hst => x_field z underlying34 z sizeOf27 z) (pkr z z (fun w hst => x_loadN (cs := [U6 a1.ID.Session, U6 a1.ID.Seq]) z isAgg29 sizeOf29 (hst.bcs5 0 z)) (pkr z z (fun w hst => x_field z underlying34 z sizeOf29 z) pk_nil)))) ?_
 refine wsr (.agg #[U6 a1.ID.Session, U6 a1.ID.Seq, U6 a1.Epoch, v485, v492, v499, v506]) 16 rfl rfl rfl (by kernel_rfl) (fun w hst => by obtain ⟨_, _, hv_, _⟩ := hst.sv0; rw [hv_]; obtain ⟨_, _, hv_, _⟩ := hst.sv1; rw [hv_]; obtain ⟨_, _, hv_, _⟩ := hst.sv2; rw [hv_]; obtain ⟨_, _, hv_, _⟩ := hst.sv3; rw [hv_]; kernel_rfl) ?_
 refine ws_e1 17 (by kernel_rfl) ?_
 refine nxe [] (by kernel_rfl) z z ?_
 clear hst
 intro w hst
 replace hst := hst.pull5
 obtain ⟨w512, hr513, hst⟩ := hst.bx [U6 a1.ID.Session, U6 a1.ID.Seq, U6 a1.Epoch, v485, v492, v499, v506] sizeOf34 z (oC z (oC z (oC z (oC (one_of_sliceV hst.sv4) (oC (one_of_sliceV hst.sv3) (oC (one_of_sliceV hst.sv2) (oC (one_of_sliceV hst.sv1) oN))))))) (by kernel_rfl)
 refine we_unit z (x_unit hr513) ?_
 refine ws_next (pend' := []) hst (by kernel_rfl) pk_nil ?_
 refine ws_nil ?_
 intro w hst
 refine tn (wp_seq (wrl (wv (Pt b345 0) z z z (wv (Pt b340 0) z z (x_field z underlying34 z sizeOf29 z) (wv (.agg #[U6 a1.ID.Session, U6 a1.ID.Seq]) z z (x_loadN (cs := [U6 a1.ID.Session, U6 a1.ID.Seq]) z isAgg29 sizeOf29 (hst.bcs0 0 z)) ?_)))))
 replace hst := hst.pull5
 replace hst := objO_some hst
 obtain ⟨t514, ht515, hm⟩ := bind_some hm
 refine wc call40 [Pt b345 0, .agg #[U6 a1.ID.Session, U6 a1.ID.Seq]] z z z ?_
 refine (locks_Table_find_ref hst.to1 ht515).mono ?_
 rintro _ w516 ⟨rfl, hst⟩
 refine ⟨_, z, ?_⟩
 replace hst := hst.of1
 replace hst := objO_get hst
 refine wv (.tuple #[I6 t514.1, .bool t514.2]) z z z (wv (.int .i64 t514.1) z z z (wv (.bool t514.2) z z z (wv (.int .i64 t514.1) z z z (wv (.bool t514.2) z z z (wl_nil (tn (wp_seq (wp_seq (wrl (wv (.bool t514.2) z z z (wl_nil (tn ?_))))))))))))
 refine bsplit t514.2 (fun hc519 => ?_) (fun hc519 => ?_)
 {
 replace hm := bif_t hc519 hm
 refine wp_ift (cvb hc519) ?_
 obtain ⟨b520, v521, e523, hst'⟩ := at_locks_Table_open hst
 clear hst
 have e523 := ptr_inj e523
 subst e523
 have hst := hst'
 clear hst'
 refine wp_region_St hst 8 [0, 1, 2, 3, 4, 5, 6, 7] [0, 1, 3, 7, 0, 0, 63, 127] [] z (by kernel_rfl) (by kernel_rfl) Try.mixed (by kernel_rfl) ?_
 refine wsr (Pt b345 0) 0 z z z (by kernel_rfl) (fun w hst => z) (wsr (Pt b345 0) 1 z z z (by kernel_rfl) (fun w hst => z) (wsr (Pt b345 0) 2 z z z (by kernel_rfl) (fun w hst => x_field z underlying77 z sizeOf22 z) (wsr (v521) 3 z z z (by kernel_rfl) (fun w hst => x_load z isAgg22 (hst.bc0 z)) (wsr (.int .i64 t514.1) 4 z z z (by kernel_rfl) (fun w hst => z) (wsr (.agg #[U6 a1.ID.Session, U6 a1.ID.Seq, U6 a1.Epoch, v485, v492, v499, v506]) 5 z z z (by kernel_rfl) (fun w hst => x_loadN (cs := [U6 a1.ID.Session, U6 a1.ID.Seq, U6 a1.Epoch, v485, v492, v499, v506]) z isAgg34 sizeOf34 (hst.bcs2 0 z)) ?_)))))
 obtain ⟨x524, hx525, hm⟩ := bind_some hm
 obtain ⟨h526, h527, hi528⟩ := geto_some hx525
 refine wsr (.pointer (some (eAddr v521 (t514.1.toNat * 7 + 0)))) 6 z z z (by kernel_rfl) (fun w hst => x_index z z underlying22 sizeOf34 hst.sv1 h526 h527) ?_
 refine ws_e1 7 (by kernel_rfl) ?_
 refine nxe [] (by kernel_rfl) z z ?_
 clear hst
 intro w hst
 obtain ⟨cs529, hr530, hc531⟩ := hst.og1 hi528
 obtain ⟨v532, v535, v538, v541, rfl, f533, f536, f539, f542, -⟩ := hr530
 replace hst := hst.pull6
 obtain ⟨I544, hI545, f546, hst⟩ := hst.own_fix
 replace f1_0 := f1_0.mono (rd_le hI545)
 replace f1_1 := f1_1.mono (rd_le hI545)
 replace f1_2 := f1_2.mono (rd_le hI545)
 replace f1_3 := f1_3.mono (rd_le hI545)
 replace f533 := f533.mono (ro_le hI545)
 replace f536 := f536.mono (ro_le hI545)
 replace f539 := f539.mono (ro_le hI545)
 replace f542 := f542.mono (ro_le hI545)
 replace hI0 := hI0.trans hI545
 replace hst := hst.pull5
 obtain ⟨I547, hI548, f549, hst⟩ := hst.own_fix
 replace f1_0 := f1_0.mono (rd_le hI548)
 replace f1_1 := f1_1.mono (rd_le hI548)
 replace f1_2 := f1_2.mono (rd_le hI548)
 replace f1_3 := f1_3.mono (rd_le hI548)
 replace f533 := f533.mono (ro_le hI548)
 replace f536 := f536.mono (ro_le hI548)
 replace f539 := f539.mono (ro_le hI548)
 replace f542 := f542.mono (ro_le hI548)
 replace f546 := f546.mono (ro_le hI548)
 replace hI0 := hI0.trans hI548
 replace hst := hst.pull4
 obtain ⟨I550, hI551, f552, hst⟩ := hst.own_fix
 replace f1_0 := f1_0.mono (rd_le hI551)
 replace f1_1 := f1_1.mono (rd_le hI551)
 replace f1_2 := f1_2.mono (rd_le hI551)
 replace f1_3 := f1_3.mono (rd_le hI551)
 replace f533 := f533.mono (ro_le hI551)
 replace f536 := f536.mono (ro_le hI551)
 replace f539 := f539.mono (ro_le hI551)
 replace f542 := f542.mono (ro_le hI551)
 replace f546 := f546.mono (ro_le hI551)
 replace f549 := f549.mono (ro_le hI551)
 replace hI0 := hI0.trans hI551
 replace hst := hst.pull3
 obtain ⟨I553, hI554, f555, hst⟩ := hst.own_fix
 replace f1_0 := f1_0.mono (rd_le hI554)
 replace f1_1 := f1_1.mono (rd_le hI554)
 replace f1_2 := f1_2.mono (rd_le hI554)
 replace f1_3 := f1_3.mono (rd_le hI554)
 replace f533 := f533.mono (ro_le hI554)
 replace f536 := f536.mono (ro_le hI554)
 replace f539 := f539.mono (ro_le hI554)
 replace f542 := f542.mono (ro_le hI554)
 replace f546 := f546.mono (ro_le hI554)
 replace f549 := f549.mono (ro_le hI554)
 replace f552 := f552.mono (ro_le hI554)
 replace hI0 := hI0.trans hI554
 replace hst := hst.pull1
 obtain ⟨w556, hr557, hst⟩ := hst.own_store (P := prog) (t := 34) (y := ({ ID := a1.ID, Epoch := a1.Epoch, Gets := t480, Scans := t487, Puts := t494, Data := t501 } : api_Hold)) hi528 0 (.agg #[U6 a1.ID.Session, U6 a1.ID.Seq, U6 a1.Epoch, v485, v492, v499, v506]) sizeOf34 (Nat.le_of_ble_eq_true z) (oC z (oC z (oC z (oC (one_of_sliceV (ro_sliceV f546)) (oC (one_of_sliceV (ro_sliceV f549)) (oC (one_of_sliceV (ro_sliceV f552)) (oC (one_of_sliceV (ro_sliceV f555)) oN))))))) (fun cs h => ⟨_, _, _, _, setMany_all (ty_api_Hold.len h) z, f546, f549, f552, f555, one_of_sliceV (ro_sliceV f546), one_of_sliceV (ro_sliceV f549), one_of_sliceV (ro_sliceV f552), one_of_sliceV (ro_sliceV f555)⟩)
 have hi558 := set_get hi528 ({ ID := a1.ID, Epoch := a1.Epoch, Gets := t480, Scans := t487, Puts := t494, Data := t501 } : api_Hold)
 have h559 := set_lt h527 t514.1.toNat ({ ID := a1.ID, Epoch := a1.Epoch, Gets := t480, Scans := t487, Puts := t494, Data := t501 } : api_Hold)
 refine we_unit z (x_unit hr557) ?_
 refine ws_next (pend' := []) hst (by kernel_rfl) pk_nil ?_
 refine ws_nil ?_
 intro w hst
 refine tn (wp_seq (wrl (wv (.int .i64 (0:Int)) z z z (wl_nil (tn (wp_ret ?_))))))
 replace hst := hst.pull1
 replace hst := at_locks_Table_close (pv := Pt b345 0) (x := ({ l := (o0.l.set t514.1.toNat ({ ID := a1.ID, Epoch := a1.Epoch, Gets := t480, Scans := t487, Puts := t494, Data := t501 } : api_Hold)) } : locks_Table)) hst z
 replace hst := objO_some hst
 obtain rfl := some_inj hm
 refine post_ret (vs := [Zi]) results12 (rvs_cons (rv_tmp z) rvs_nil) ?_
 exact ⟨_, z, hI0, hst.keep1⟩
}
 {
 replace hm := bif_f hc519 hm
 refine wp_iff (cvb hc519) ?_
 obtain ⟨b560, v561, e563, hst'⟩ := at_locks_Table_open hst
 clear hst
 have e563 := ptr_inj e563
 subst e563
 have hst := hst'
 clear hst'
 refine wp_region_St hst 12 [0, 1, 2, 3, 4, 5, 6, 7, 8, 9, 10, 11] [0, 0, 2, 6, 14, 0, 0, 64, 254, 511, 1023, 2047] [] z (by kernel_rfl) (by kernel_rfl) Try.mixed (by kernel_rfl) ?_
 refine wsr (Pt b345 0) 0 z z z (by kernel_rfl) (fun w hst => z) (wsr (Pt b345 0) 1 z z z (by kernel_rfl) (fun w hst => z) (wsr (Pt b345 0) 2 z z z (by kernel_rfl) (fun w hst => z) (wsr (Pt b345 0) 3 z z z (by kernel_rfl) (fun w hst => x_field z underlying77 z sizeOf22 z) (wsr (v561) 4 z z z (by kernel_rfl) (fun w hst => x_load z isAgg22 (hst.bc0 z)) (wsr (.int .i64 t514.1) 5 z z z (by kernel_rfl) (fun w hst => z) (wsr (.agg #[U6 a1.ID.Session, U6 a1.ID.Seq, U6 a1.Epoch, v485, v492, v499, v506]) 6 z z z (by kernel_rfl) (fun w hst => x_loadN (cs := [U6 a1.ID.Session, U6 a1.ID.Seq, U6 a1.Epoch, v485, v492, v499, v506]) z isAgg34 sizeOf34 (hst.bcs2 0 z)) ?_))))))
 refine ws_e1 7 (by kernel_rfl) ?_
 refine nxe [8, 9, 10, 11] (by kernel_rfl) z z ?_
 clear hst
 intro w hst
 replace hst := hst.pull6
 obtain ⟨I568, hI569, f570, hst⟩ := hst.own_fix
 replace f1_0 := f1_0.mono (rd_le hI569)
 replace f1_1 := f1_1.mono (rd_le hI569)
 replace f1_2 := f1_2.mono (rd_le hI569)
 replace f1_3 := f1_3.mono (rd_le hI569)
 replace hI0 := hI0.trans hI569
 replace hst := hst.pull5
 obtain ⟨I571, hI572, f573, hst⟩ := hst.own_fix
 replace f1_0 := f1_0.mono (rd_le hI572)
 replace f1_1 := f1_1.mono (rd_le hI572)
 replace f1_2 := f1_2.mono (rd_le hI572)
 replace f1_3 := f1_3.mono (rd_le hI572)
 replace f570 := f570.mono (ro_le hI572)
 replace hI0 := hI0.trans hI572
 replace hst := hst.pull4
 obtain ⟨I574, hI575, f576, hst⟩ := hst.own_fix
 replace f1_0 := f1_0.mono (rd_le hI575)
 replace f1_1 := f1_1.mono (rd_le hI575)
 replace f1_2 := f1_2.mono (rd_le hI575)
 replace f1_3 := f1_3.mono (rd_le hI575)
 replace f570 := f570.mono (ro_le hI575)
 replace f573 := f573.mono (ro_le hI575)
 replace hI0 := hI0.trans hI575
 replace hst := hst.pull3
 obtain ⟨I577, hI578, f579, hst⟩ := hst.own_fix
 replace f1_0 := f1_0.mono (rd_le hI578)
 replace f1_1 := f1_1.mono (rd_le hI578)
 replace f1_2 := f1_2.mono (rd_le hI578)
 replace f1_3 := f1_3.mono (rd_le hI578)
 replace f570 := f570.mono (ro_le hI578)
 replace f573 := f573.mono (ro_le hI578)
 replace f576 := f576.mono (ro_le hI578)
 replace hI0 := hI0.trans hI578
 obtain ⟨b580, w581, ew582, eb583, hst⟩ := hst.lits (E := ty_api_Hold) (xs := [({ ID := a1.ID, Epoch := a1.Epoch, Gets := t480, Scans := t487, Puts := t494, Data := t501 } : api_Hold)]) [[U6 a1.ID.Session, U6 a1.ID.Seq, U6 a1.Epoch, v485, v492, v499, v506]] 34 1 z (Reps.cons ⟨_, _, _, _, z, f570, f573, f576, f579, one_of_sliceV (ro_sliceV f570), one_of_sliceV (ro_sliceV f573), one_of_sliceV (ro_sliceV f576), one_of_sliceV (ro_sliceV f579)⟩ Reps.nil)
 refine we_run (v := (.slice (some ⟨b580, 0, none⟩) 1 1)) (w' := w581) z (x_als (by kernel_rfl) ew582 eb583) ?_
 refine ws_next (pend' := [(5, I6 t514.1), (4, v561), (3, Pt b345 0), (2, Pt b345 0), (1, Pt b345 0), (0, Pt b345 0)]) hst (by kernel_rfl) (pkr z z (fun w hst => z) (pkr z z (fun w hst => x_load z isAgg22 (hst.bc1 z)) (pkr z z (fun w hst => x_field z underlying77 z sizeOf22 z) (pkr z z (fun w hst => z) (pkr z z (fun w hst => z) (pkr z z (fun w hst => z) pk_nil)))))) ?_
 refine ws_e1 8 (by kernel_rfl) ?_
 refine nxe [9, 10, 11] (by kernel_rfl) z z ?_
 clear hst
 intro w hst
 replace hst := hst.pull2
 obtain ⟨t585, ht586, hm⟩ := bind_some hm
 refine wec call41 [v561, I6 t514.1, (.slice (some ⟨b580, 0, none⟩) 1 1)] z z ?_
 refine (slices_Insert_api_Hold_api_Hold_ref hst.to2 ht586).mono ?_
 rintro _ w587 ⟨v590, rfl, hst⟩
 refine ⟨_, z, ?_⟩
 replace hst := hst.of1
 refine ws_next (pend' := [(0, Pt b345 0)]) hst (by kernel_rfl) (pkr z z (fun w hst => z) pk_nil) ?_
 refine wsr (Pt b345 0) 9 z z z (by kernel_rfl) (fun w hst => z) (wsr (Pt b345 0) 10 z z z (by kernel_rfl) (fun w hst => x_field z underlying77 z sizeOf22 z) ?_)
 refine ws_e1 11 (by kernel_rfl) ?_
 refine nxe [] (by kernel_rfl) z z ?_
 clear hst
 intro w hst
 replace hst := hst.pull1
 obtain ⟨w592, hr593, hst⟩ := hst.boxStore1 (P := prog) (t := 22) (cs' := [v590]) 0 v590 (one_of_sliceV hst.sv1) sizeOf22 z z
 refine we_unit z (x_unit hr593) ?_
 refine ws_next (pend' := []) hst (by kernel_rfl) pk_nil ?_
 refine ws_nil ?_
 intro w hst
 refine tn (wp_seq (wrl (wv (.int .i64 (0:Int)) z z z (wl_nil (tn (wp_ret ?_))))))
 replace hst := hst.pull1.pull1
 replace hst := at_locks_Table_close (pv := Pt b345 0) (x := ({ l := t585 } : locks_Table)) hst z
 replace hst := objO_some hst
 obtain rfl := some_inj hm
 refine post_ret (vs := [Zi]) results12 (rvs_cons (rv_tmp z) rvs_nil) ?_
 exact ⟨_, z, hI0, hst.keep1⟩
}
}
}
}

theorem locks_Table_Len_ref {w0 w : World} {I : HL} {R : SP} {a0 : (Option locks_Table)} {p0 : Value}  (hst : St w0 w I [objO at_locks_Table p0 a0] R) {r : (Int)} (hm : locks_Table_Len a0 = some r) :
  Calls prog 27 #[p0] w fun e w' => e = .returned (.int .i64 r) ∧ St w0 w' I [objO at_locks_Table p0 a0] R := by {
 rcases a0 with _ | o0
 {
 obtain ⟨rfl, hst'⟩ := objO_none hst
 clear hst
 have hst := hst'
 clear hst'
 dsimp only [locks_Table_Len] at hm
 refine calls_start (args := [.pointer none]) func27 z ntmps27 (Nat.le_of_ble_eq_true z) ?_
 refine wp_seq (wrl (wv (.int .i64 (0:Int)) z z z (wl_nil (tn (wp_seq (wp_seq (wrl (wv (.pointer none) z z z (wv (.bool true) z z (by kernel_rfl) (wl_nil (tn ?_)))))))))))
 refine wp_ift z ?_
 refine wp_seq (wrl (wv (.int .i64 (0:Int)) z z z (wl_nil (tn (wp_ret (then_r ?_))))))
 replace hst := hst.objO_nil at_locks_Table
 obtain rfl := some_inj hm
 refine post_ret (vs := [Zi]) results27 (rvs_cons (rv_tmp z) rvs_nil) ?_
 exact ⟨z, hst.keep1⟩
}
 {
 replace hst := objO_get hst
 dsimp only [locks_Table_Len] at hm
 refine calls_start (args := [p0]) func27 z ntmps27 (Nat.le_of_ble_eq_true z) ?_
 refine wp_seq (wrl (wv (.int .i64 (0:Int)) z z z (wl_nil (tn (wp_seq (wp_seq (wrl (wv (p0) z z z ?_))))))))
 obtain ⟨b91, v92, rfl, hst'⟩ := at_locks_Table_open hst
 clear hst
 have hst := hst'
 clear hst'
 refine wv (.bool false) z z (by kernel_rfl) (wl_nil (tn ?_))
 refine wp_iff z ?_
 refine wp_skip (tn (wp_seq (wrl ?_)))
 refine wv (Pt b91 0) z z z (wv (Pt b91 0) z z z (wv (Pt b91 0) z z (x_field z underlying77 z sizeOf22 z) (wv (v92) z z (x_load z isAgg22 (hst.bc0 z)) (wv (.int .i64 ((o0.l).length : Int)) z z (x_len z underlying22 hst.sv1) (wv (.int .i64 ((o0.l).length : Int)) z z z (wl_nil (tn (wp_ret ?_))))))))
 replace hst := hst.pull1.pull1
 replace hst := at_locks_Table_close (pv := Pt b91 0) (x := o0) hst z
 replace hst := objO_some hst
 obtain rfl := some_inj hm
 refine post_ret (vs := [I6 ((o0.l).length : Int)]) results27 (rvs_cons (rv_tmp z) rvs_nil) ?_
 exact ⟨z, hst.keep1⟩
}
}

theorem law12_awake_ref {w0 w : World} {I : HL} {R : SP}   (hst : St w0 w I [] R) {r : (Bool)} (hm : law12_awake = some r) :
  Calls prog 9 #[] w fun e w' => ∃ (I' : HL), e = .returned (.bool r) ∧ I.le I' ∧ St w0 w' I' [] R := by {
 unfold law12_awake at hm
 refine calls_start (args := []) func9 z ntmps9 (Nat.le_of_ble_eq_true z) ?_
 have hI0 := HL.le.refl I
 refine wp_seq (wrl (wv (.bool false) z z z (wl_nil (tn (wp_seq (wrl (wv (.agg #[U6 (1:Int), U6 (1:Int)]) z z (by kernel_rfl) ?_)))))))
 obtain ⟨b91, w92, ew93, eb94, hst⟩ := hst.lits (E := tyF64) (xs := [(4607182418800017408:Nat)]) [[F6 (4607182418800017408:Nat)]] 57 1 z (Reps.cons z Reps.nil)
 refine wl_run (v := (.slice (some ⟨b91, 0, none⟩) 1 1)) (w' := w92) z z (x_als (by kernel_rfl) ew93 eb94) ?_
 refine wv (.agg #[U6 (1:Int), U6 (1:Int), Zu, Zs, Zs, (.slice (some ⟨b91, 0, none⟩) 1 1), Zs]) z z (by kernel_rfl) ?_
 obtain ⟨b104, w105, ew106, eb107, hst⟩ := hst.box [Zu, Zu, Zu, Zs, Zs, Zs, Zs] 34
 refine wl_run (v := Pt b104 0) (w' := w105) z z (x_al (by kernel_rfl) ew106 eb107) ?_
 obtain ⟨w109, hr110, hst⟩ := hst.bx [U6 (1:Int), U6 (1:Int), Zu, Zs, Zs, (.slice (some ⟨b91, 0, none⟩) 1 1), Zs] sizeOf34 z (oC z (oC z (oC z (oC z (oC z (oC (one_of_sliceV hst.sv1) (oC z oN))))))) (by kernel_rfl)
 refine wl_unit z z (x_unit hr110) ?_
 refine wl_nil (tn (wp_seq (wrl (wv (.agg #[U6 (2:Int), U6 (1:Int)]) z z (by kernel_rfl) (wv (.agg #[Zf, F6 (4611686018427387904:Nat)]) z z (by kernel_rfl) ?_)))))
 obtain ⟨b111, w112, ew113, eb114, hst⟩ := hst.lits (E := tyF2) (xs := [((0:Nat), (4611686018427387904:Nat))]) [[Zf, F6 (4611686018427387904:Nat)]] 75 1 z (Reps.cons z Reps.nil)
 refine wl_run (v := (.slice (some ⟨b111, 0, none⟩) 1 1)) (w' := w112) z z (x_als (by kernel_rfl) ew113 eb114) ?_
 refine wv (.agg #[U6 (2:Int), U6 (1:Int), Zu, Zs, (.slice (some ⟨b111, 0, none⟩) 1 1), Zs, Zs]) z z (by kernel_rfl) ?_
 obtain ⟨b124, w125, ew126, eb127, hst⟩ := hst.box [Zu, Zu, Zu, Zs, Zs, Zs, Zs] 34
 refine wl_run (v := Pt b124 0) (w' := w125) z z (x_al (by kernel_rfl) ew126 eb127) ?_
 obtain ⟨w129, hr130, hst⟩ := hst.bx [U6 (2:Int), U6 (1:Int), Zu, Zs, (.slice (some ⟨b111, 0, none⟩) 1 1), Zs, Zs] sizeOf34 z (oC z (oC z (oC z (oC z (oC (one_of_sliceV hst.sv1) (oC z (oC z oN))))))) (by kernel_rfl)
 refine wl_unit z z (x_unit hr130) ?_
 refine wl_nil (tn (wp_seq (wrl ?_)))
 obtain ⟨t131, ht132, hm⟩ := bind_some hm
 refine wc call10 [] z z z ?_
 refine (locks_New_ref hst.to0 ht132).mono ?_
 rintro _ w133 ⟨v136, rfl, hst⟩
 refine ⟨_, z, ?_⟩
 replace hst := hst.of1
 refine wv (v136) z z z (wl_nil (tn (wp_seq (wrl (wv (.agg #[U6 (1:Int), U6 (1:Int), Zu, Zs, Zs, (.slice (some ⟨b91, 0, none⟩) 1 1), Zs]) z z (x_loadN (cs := [U6 (1:Int), U6 (1:Int), Zu, Zs, Zs, (.slice (some ⟨b91, 0, none⟩) 1 1), Zs]) z isAgg34 sizeOf34 (hst.bcs3 0 z)) (wv (.agg #[U6 (2:Int), U6 (1:Int), Zu, Zs, (.slice (some ⟨b111, 0, none⟩) 1 1), Zs, Zs]) z z (x_loadN (cs := [U6 (2:Int), U6 (1:Int), Zu, Zs, (.slice (some ⟨b111, 0, none⟩) 1 1), Zs, Zs]) z isAgg34 sizeOf34 (hst.bcs1 0 z)) ?_))))))
 have f138 : Ro tyF64 I (.slice none 0 0) [] := ro_nil
 have f139 : Ro tyF2 I (.slice none 0 0) [] := ro_nil
 have f140 : Ro (tyInt .u8) I (.slice none 0 0) [] := ro_nil
 have f141 : Ro tyF64 I (.slice none 0 0) [] := ro_nil
 have f142 : Ro tyF64 I (.slice none 0 0) [] := ro_nil
 have f143 : Ro (tyInt .u8) I (.slice none 0 0) [] := ro_nil
 replace hst := hst.pull4
 obtain ⟨css144, hq145, hst⟩ := hst.own_open
 replace hst := hst.pull3
 obtain ⟨css146, hq147, hst⟩ := hst.own_open
 obtain ⟨t148, ht149, hm⟩ := bind_some hm
 refine wc call19 [.agg #[U6 (1:Int), U6 (1:Int), Zu, Zs, Zs, (.slice (some ⟨b91, 0, none⟩) 1 1), Zs], .agg #[U6 (2:Int), U6 (1:Int), Zu, Zs, (.slice (some ⟨b111, 0, none⟩) 1 1), Zs, Zs]] z z z ?_
 refine (locks_Meet_ref (a0 := ({ ID := ({ Session := (1:Int), Seq := (1:Int) } : api_ID), Epoch := (0:Int), Gets := [], Scans := [], Puts := [(4607182418800017408:Nat)], Data := [] } : api_Hold)) (a1 := ({ ID := ({ Session := (2:Int), Seq := (1:Int) } : api_ID), Epoch := (0:Int), Gets := [], Scans := [((0:Nat), (4611686018427387904:Nat))], Puts := [], Data := [] } : api_Hold)) (f138.mono ro_rd) (f139.mono ro_rd) (hst.rdrow1 hq145) (f140.mono ro_rd) (f141.mono ro_rd) (hst.rdrow0 hq147) (f142.mono ro_rd) (f143.mono ro_rd) hst.to0 ht149).mono ?_
 rintro _ w150 ⟨rfl, hst⟩
 refine ⟨_, z, ?_⟩
 replace hst := hst.of0.pull1.own_close hq145
 replace hst := hst.pull1.own_close hq147
 refine wv (.bool t148) z z z ?_
 refine bsplit t148 (fun hc153 => ?_) (fun hc153 => ?_)
 {
 replace hm := bif_t hc153 hm
 refine wv (v136) ((wanted_eq z z z (cvb hc153)).trans z) z z (wv (.agg #[U6 (1:Int), U6 (1:Int), Zu, Zs, Zs, (.slice (some ⟨b91, 0, none⟩) 1 1), Zs]) ((wanted_eq z z z (cvb hc153)).trans z) z (x_loadN (cs := [U6 (1:Int), U6 (1:Int), Zu, Zs, Zs, (.slice (some ⟨b91, 0, none⟩) 1 1), Zs]) z isAgg34 sizeOf34 (hst.bcs4 0 z)) ?_)
 replace hst := hst.pull2
 replace hst := objO_some hst
 replace hst := hst.pull2
 obtain ⟨css154, hq155, hst⟩ := hst.own_open
 replace hst := hst.pull1
 obtain ⟨t156, ht157, hm⟩ := bind_some hm
 refine wl_call ((wanted_eq z z z (cvb hc153)).trans z) z (x_call call12 z (vs := [v136, .agg #[U6 (1:Int), U6 (1:Int), Zu, Zs, Zs, (.slice (some ⟨b91, 0, none⟩) 1 1), Zs]]) z) ?_
 refine (locks_Table_Take_ref (a1 := ({ ID := ({ Session := (1:Int), Seq := (1:Int) } : api_ID), Epoch := (0:Int), Gets := [], Scans := [], Puts := [(4607182418800017408:Nat)], Data := [] } : api_Hold)) (f138.mono ro_rd) (f139.mono ro_rd) (hst.sub.rdrow0 hq155) (f140.mono ro_rd) hst.to1 ht157).mono ?_
 rintro _ w158 ⟨I159, rfl, hI160, hst⟩
 refine ⟨_, z, ?_⟩
 replace hst := hst.of1
 replace f138 := f138.mono (ro_le hI160)
 replace f139 := f139.mono (ro_le hI160)
 replace f140 := f140.mono (ro_le hI160)
 replace f141 := f141.mono (ro_le hI160)
 replace f142 := f142.mono (ro_le hI160)
 replace f143 := f143.mono (ro_le hI160)
 replace hI0 := hI0.trans hI160
 replace hst := hst.pull1.own_close (hq155.imp fun _ _ => Ty.mono _ (ro_le hI160))
 replace hst := hst.pull1
 rcases he162 : t156.2 with _ | y161
 · rw [he162] at hm; cases hm
 rw [he162] at hm hst; dsimp only at hm; replace hst := objO_get hst
 refine wv (.bool (t156.1 == (0:Int))) ((wanted_eq z z z (cvb hc153)).trans z) z z (wv (.bool (t156.1 == (0:Int))) z z (x_pick_t hc153 z z) (wv (.bool (t156.1 == (0:Int))) z z z ?_))
 refine bsplit (t156.1 == (0:Int)) (fun hc163 => ?_) (fun hc163 => ?_)
 {
 replace hm := bif_t hc163 hm
 refine wv (v136) ((wanted_eq z z z (cvb hc163)).trans z) z z (wv (.agg #[U6 (2:Int), U6 (1:Int), Zu, Zs, (.slice (some ⟨b111, 0, none⟩) 1 1), Zs, Zs]) ((wanted_eq z z z (cvb hc163)).trans z) z (x_loadN (cs := [U6 (2:Int), U6 (1:Int), Zu, Zs, (.slice (some ⟨b111, 0, none⟩) 1 1), Zs, Zs]) z isAgg34 sizeOf34 (hst.bcs3 0 z)) ?_)
 replace hst := objO_some hst
 replace hst := hst.pull2
 obtain ⟨css164, hq165, hst⟩ := hst.own_open
 replace hst := hst.pull1
 obtain ⟨t166, ht167, hm⟩ := bind_some hm
 refine wl_call ((wanted_eq z z z (cvb hc163)).trans z) z (x_call call12 z (vs := [v136, .agg #[U6 (2:Int), U6 (1:Int), Zu, Zs, (.slice (some ⟨b111, 0, none⟩) 1 1), Zs, Zs]]) z) ?_
 refine (locks_Table_Take_ref (a1 := ({ ID := ({ Session := (2:Int), Seq := (1:Int) } : api_ID), Epoch := (0:Int), Gets := [], Scans := [((0:Nat), (4611686018427387904:Nat))], Puts := [], Data := [] } : api_Hold)) (f141.mono ro_rd) (hst.sub.rdrow0 hq165) (f142.mono ro_rd) (f143.mono ro_rd) hst.to1 ht167).mono ?_
 rintro _ w168 ⟨I169, rfl, hI170, hst⟩
 refine ⟨_, z, ?_⟩
 replace hst := hst.of1
 replace f138 := f138.mono (ro_le hI170)
 replace f139 := f139.mono (ro_le hI170)
 replace f140 := f140.mono (ro_le hI170)
 replace f141 := f141.mono (ro_le hI170)
 replace f142 := f142.mono (ro_le hI170)
 replace f143 := f143.mono (ro_le hI170)
 replace hI0 := hI0.trans hI170
 replace hst := hst.pull1.own_close (hq165.imp fun _ _ => Ty.mono _ (ro_le hI170))
 replace hst := hst.pull1
 rcases he172 : t166.2 with _ | y171
 · rw [he172] at hm; cases hm
 rw [he172] at hm hst; dsimp only at hm; replace hst := objO_get hst
 refine wv (.bool (t166.1 == (8:Int))) ((wanted_eq z z z (cvb hc163)).trans z) z z (wv (.bool (t166.1 == (8:Int))) z z (x_pick_t hc163 z z) (wv (.bool (t166.1 == (8:Int))) z z z ?_))
 refine bsplit (t166.1 == (8:Int)) (fun hc173 => ?_) (fun hc173 => ?_)
 {
 replace hm := bif_t hc173 hm
 refine wv (v136) ((wanted_eq z z z (cvb hc173)).trans z) z z ?_
 replace hst := objO_some hst
 obtain ⟨t174, ht175, hm⟩ := bind_some hm
 refine wl_call ((wanted_eq z z z (cvb hc173)).trans z) z (x_call call27 z (vs := [v136]) z) ?_
 refine (locks_Table_Len_ref hst.to1 ht175).mono ?_
 rintro _ w176 ⟨rfl, hst⟩
 refine ⟨_, z, ?_⟩
 replace hst := hst.of1
 replace hst := objO_get hst
 refine wv (.bool (t174 == (1:Int))) ((wanted_eq z z z (cvb hc173)).trans z) z z (wv (.bool (t174 == (1:Int))) z z (x_pick_t hc173 z z) (wv (.bool (t174 == (1:Int))) z z z (wl_nil (tn (wp_ret ?_)))))
 obtain rfl := some_inj hm
 refine post_ret (vs := [.bool (t174 == (1:Int))]) results9 (rvs_cons (rv_tmp z) rvs_nil) ?_
 exact ⟨_, z, hI0, hst.keep0⟩
}
 {
 replace hm := bif_f hc173 hm
 refine wo hc173 z z z z z z (wo hc173 z z z z z z (wo hc173 z z z z z z (wv (.bool false) z z (x_pick_f hc173 z z) (wv (.bool false) z z z (wl_nil (tn (wp_ret ?_)))))))
 obtain rfl := some_inj hm
 refine post_ret (vs := [.bool false]) results9 (rvs_cons (rv_tmp z) rvs_nil) ?_
 exact ⟨_, z, hI0, hst.keep0⟩
}
}
 {
 replace hm := bif_f hc163 hm
 refine wo hc163 z z z z z z (wo hc163 z z z z z z (wo hc163 z z z z z z (wo hc163 z z z z z z (wv (.bool false) z z (x_pick_f hc163 z z) (wv (.bool false) z z z (wz z z z z z z (wz z z z z z z (wz z z z z z z (wv (.bool false) z z (x_pick_f z z z) (wv (.bool false) z z z (wl_nil (tn (wp_ret ?_)))))))))))))
 obtain rfl := some_inj hm
 refine post_ret (vs := [.bool false]) results9 (rvs_cons (rv_tmp z) rvs_nil) ?_
 exact ⟨_, z, hI0, hst.keep0⟩
}
}
 {
 replace hm := bif_f hc153 hm
 refine wo hc153 z z z z z z (wo hc153 z z z z z z (wo hc153 z z z z z z (wo hc153 z z z z z z (wv (.bool false) z z (x_pick_f hc153 z z) (wv (.bool false) z z z (wz z z z z z z (wz z z z z z z (wz z z z z z z (wz z z z z z z (wv (.bool false) z z (x_pick_f z z z) (wv (.bool false) z z z (wz z z z z z z ?_))))))))))))
 refine wz z z z z z z (wz z z z z z z (wv (.bool false) z z (x_pick_f z z z) (wv (.bool false) z z z (wl_nil (tn (wp_ret ?_))))))
 obtain rfl := some_inj hm
 refine post_ret (vs := [.bool false]) results9 (rvs_cons (rv_tmp z) rvs_nil) ?_
 exact ⟨_, z, hI0, hst.keep0⟩
}
}

theorem octet_Read_ref {w0 w : World} {I : HL} {R : SP} {a0 : (List Int)} {r0_0 : Value} (f0_0 : Ro (tyInt .u8) I r0_0 a0) (hst : St w0 w I [] R) {r : (octet_Reader)} (hm : octet_Read a0 = some r) :
  Calls prog 33 #[r0_0] w fun e w' => ∃ (q0 : Value), e = .returned (q0) ∧ St w0 w' I [at_octet_Reader q0 r] R := by {
 unfold octet_Read at hm
 refine calls_start (args := [r0_0]) func33 z ntmps33 (Nat.le_of_ble_eq_true z) ?_
 refine wp_seq (wrl (wv (.pointer none) z z z (wl_nil (tn (wp_seq (wrl (wv (r0_0) z z z (wv (.agg #[r0_0, .bool false]) z z (by obtain ⟨_, _, hv_, _⟩ := (ro_sliceV f0_0); rw [hv_]; kernel_rfl) ?_))))))))
 obtain ⟨b36, w37, ew38, eb39, hst⟩ := hst.box [r0_0, .bool false] 100
 refine wl_run (v := Pt b36 0) (w' := w37) z z (x_al (by kernel_rfl) ew38 eb39) ?_
 refine wv (Pt b36 0) z z z (wl_nil (tn (wp_ret ?_)))
 replace hst := at_octet_Reader_close (pv := Pt b36 0) (x := ({ p := a0, bad := false } : octet_Reader)) hst ⟨z, f0_0⟩
 obtain rfl := some_inj hm
 refine post_ret (vs := [Pt b36 0]) results33 (rvs_cons (rv_tmp z) rvs_nil) ?_
 exact ⟨.pointer (some ⟨b36, 0, none⟩), z, hst.keep1⟩
}

theorem octet_Reader_Bad_ref {w0 w : World} {I : HL} {R : SP} {a0 : octet_Reader} {p0 : Value}  (hst : St w0 w I [at_octet_Reader p0 a0] R) {r : (Bool)} (hm : octet_Reader_Bad a0 = some r) :
  Calls prog 70 #[p0] w fun e w' => e = .returned (.bool r) ∧ St w0 w' I [at_octet_Reader p0 a0] R := by {
 unfold octet_Reader_Bad at hm
 refine calls_start (args := [p0]) func70 z ntmps70 (Nat.le_of_ble_eq_true z) ?_
 refine wp_seq (wrl (wv (.bool false) z z z (wl_nil (tn (wp_seq (wrl (wv (p0) z z z ?_)))))))
 obtain ⟨b48, v49, ⟨rfl, f51⟩, hst'⟩ := at_octet_Reader_open hst
 clear hst
 have hst := hst'
 clear hst'
 refine wv (.bool false) z z (by kernel_rfl) (wv (.bool false) z z z (wv (Pt b48 0) ((wanted_eq z z z z).trans z) z z (wv (Pt b48 0) ((wanted_eq z z z z).trans z) z z (wv (Pt b48 1) ((wanted_eq z z z z).trans z) z (x_field z underlying100 z sizeOf4 z) (wv (.bool a0.bad) ((wanted_eq z z z z).trans z) z (x_load z isAgg4 (hst.bc0 z)) (wv (.bool a0.bad) z z (x_pick_f z z z) (wv (.bool a0.bad) z z z (wl_nil (tn (wp_ret ?_))))))))))
 replace hst := at_octet_Reader_close (pv := Pt b48 0) (x := a0) hst ⟨z, f51⟩
 obtain rfl := some_inj hm
 refine post_ret (vs := [.bool a0.bad]) results70 (rvs_cons (rv_tmp z) rvs_nil) ?_
 exact ⟨z, hst.keep1⟩
}

theorem octet_Reader_Left_ref {w0 w : World} {I : HL} {R : SP} {a0 : octet_Reader} {p0 : Value}  (hst : St w0 w I [at_octet_Reader p0 a0] R) {r : (Int)} (hm : octet_Reader_Left a0 = some r) :
  Calls prog 58 #[p0] w fun e w' => e = .returned (.int .i64 r) ∧ St w0 w' I [at_octet_Reader p0 a0] R := by {
 unfold octet_Reader_Left at hm
 refine calls_start (args := [p0]) func58 z ntmps58 (Nat.le_of_ble_eq_true z) ?_
 refine wp_seq (wrl (wv (.int .i64 (0:Int)) z z z (wl_nil (tn (wp_seq (wp_seq (wrl (wv (p0) z z z ?_))))))))
 obtain ⟨t53, ht54, hm⟩ := bind_some hm
 refine wc call70 [p0] z z z ?_
 refine (octet_Reader_Bad_ref hst.to1 ht54).mono ?_
 rintro _ w55 ⟨rfl, hst⟩
 refine ⟨_, z, ?_⟩
 replace hst := hst.of1
 refine wl_nil (tn ?_)
 refine bsplit t53 (fun hc58 => ?_) (fun hc58 => ?_)
 {
 replace hm := bif_t hc58 hm
 refine wp_ift (cvb hc58) ?_
 refine wp_seq (wrl (wv (.int .i64 (0:Int)) z z z (wl_nil (tn (wp_ret (then_r ?_))))))
 obtain rfl := some_inj hm
 refine post_ret (vs := [Zi]) results58 (rvs_cons (rv_tmp z) rvs_nil) ?_
 exact ⟨z, hst.keep1⟩
}
 {
 replace hm := bif_f hc58 hm
 refine wp_iff (cvb hc58) ?_
 refine wp_skip (tn (wp_seq (wrl ?_)))
 refine wv (p0) z z z ?_
 obtain ⟨b59, v60, ⟨rfl, f62⟩, hst'⟩ := at_octet_Reader_open hst
 clear hst
 have hst := hst'
 clear hst'
 refine wv (Pt b59 0) z z z (wv (Pt b59 0) z z (x_field z underlying100 z sizeOf32 z) (wv (v60) z z (x_load z isAgg32 (hst.bc0 z)) (wv (.int .i64 ((a0.p).length : Int)) z z (x_len z underlying32 (ro_sliceV f62)) (wv (.int .i64 ((a0.p).length : Int)) z z z (wl_nil (tn (wp_ret ?_)))))))
 replace hst := at_octet_Reader_close (pv := Pt b59 0) (x := a0) hst ⟨z, f62⟩
 obtain rfl := some_inj hm
 refine post_ret (vs := [I6 ((a0.p).length : Int)]) results58 (rvs_cons (rv_tmp z) rvs_nil) ?_
 exact ⟨z, hst.keep1⟩
}
}

theorem octet_Reader_spoil_ref {w0 w : World} {I : HL} {R : SP} {a0 : octet_Reader} {p0 : Value}  (hst : St w0 w I [at_octet_Reader p0 a0] R) {r : (octet_Reader)} (hm : octet_Reader_spoil a0 = some r) :
  Calls prog 84 #[p0] w fun e w' => e = .returned (.tuple #[]) ∧ St w0 w' I [at_octet_Reader p0 r] R := by {
 unfold octet_Reader_spoil at hm
 refine calls_start (args := [p0]) func84 z ntmps84 (Nat.le_of_ble_eq_true z) ?_
 refine wp_seq (wrl (wv (p0) z z z ?_))
 obtain ⟨b61, v62, ⟨rfl, f64⟩, hst'⟩ := at_octet_Reader_open hst
 clear hst
 have hst := hst'
 clear hst'
 refine wv (.bool true) z z (by kernel_rfl) (wl_nil (tn ?_))
 refine wp_ift z ?_
 refine wrl (wv (Pt b61 0) z z z (wv (Pt b61 0) z z z (wv (Pt b61 1) z z (x_field z underlying100 z sizeOf4 z) ?_)))
 obtain ⟨w65, hr66, hst⟩ := hst.by_ [v62, .bool true] 1 (.bool true) sizeOf4 z (oC z oN) (by kernel_rfl)
 refine wl_unit z z (x_unit hr66) ?_
 refine wl_nil ?_
 replace hst := at_octet_Reader_close (pv := Pt b61 0) (x := ({ p := a0.p, bad := true } : octet_Reader)) hst ⟨z, f64⟩
 obtain rfl := some_inj hm
 refine post_end (vs := []) results84 rvs_nil ?_
 exact ⟨z, hst.keep1⟩
}

theorem octet_Reader_Num_ref {w0 w : World} {I : HL} {R : SP} {a0 : octet_Reader} {p0 : Value} {a1 : Int}  (hst : St w0 w I [at_octet_Reader p0 a0] R) {r : (Int × octet_Reader)} (hm : octet_Reader_Num a0 a1 = some r) :
  Calls prog 63 #[p0, I6 a1] w fun e w' => e = .returned (.int .u64 r.1) ∧ St w0 w' I [at_octet_Reader p0 r.2] R := by {
 unfold octet_Reader_Num at hm
 refine calls_start (args := [p0, I6 a1]) func63 z ntmps63 (Nat.le_of_ble_eq_true z) ?_
 refine wp_seq (wrl (wv (.int .u64 (0:Int)) z z z (wl_nil (tn (wp_seq (wp_seq (wrl (wv (p0) z z z ?_))))))))
 obtain ⟨b138, v139, ⟨rfl, f141⟩, hst'⟩ := at_octet_Reader_open hst
 clear hst
 have hst := hst'
 clear hst'
 refine wv (.bool false) z z (by kernel_rfl) (wv (.bool false) z z z (wv (Pt b138 0) ((wanted_eq z z z z).trans z) z z (wv (Pt b138 0) ((wanted_eq z z z z).trans z) z z (wv (Pt b138 1) ((wanted_eq z z z z).trans z) z (x_field z underlying100 z sizeOf4 z) (wv (.bool a0.bad) ((wanted_eq z z z z).trans z) z (x_load z isAgg4 (hst.bc0 z)) (wv (.bool a0.bad) z z (x_pick_f z z z) (wv (.bool a0.bad) z z z ?_)))))))
 refine bsplit a0.bad (fun hc142 => ?_) (fun hc142 => ?_)
 {
 replace hm := bif_t hc142 hm
 refine wo hc142 z z z z z z (wo hc142 z z z z z z (wv (.bool true) z z (x_pick_t hc142 z z) (wv (.bool true) z z z (wz z z z z z z (wz z z z z z z (wz z z z z z z (wz z z z z z z (wz z z z z z z (wz z z z z z z (wz z z z z z z (wv (.bool true) z z (x_pick_t z z z) (wl_nil (tn ?_)))))))))))))
 refine wp_ift z ?_
 refine wp_seq (wrl (wv (Pt b138 0) z z z ?_))
 replace hst := at_octet_Reader_close (pv := Pt b138 0) (x := a0) hst ⟨z, f141⟩
 obtain ⟨t143, ht144, hm⟩ := bind_some hm
 refine wc call84 [Pt b138 0] z z z ?_
 refine (octet_Reader_spoil_ref hst.to1 ht144).mono ?_
 rintro _ w145 ⟨rfl, hst⟩
 refine ⟨_, z, ?_⟩
 replace hst := hst.of1
 refine wl_nil (tn (wp_seq (wrl (wv (.int .u64 (0:Int)) z z z (wl_nil (tn (wp_ret (then_r ?_))))))))
 obtain rfl := some_inj hm
 refine post_ret (vs := [Zu]) results63 (rvs_cons (rv_tmp z) rvs_nil) ?_
 exact ⟨z, hst.keep1⟩
}
 {
 replace hm := bif_f hc142 hm
 refine wv (.int .i64 a1) ((wanted_eq z z z (cvb hc142)).trans z) z z (wv (.bool (decide (a1 < (0:Int)))) ((wanted_eq z z z (cvb hc142)).trans z) z z (wv (.bool (decide (a1 < (0:Int)))) z z (x_pick_f hc142 z z) (wv (.bool (decide (a1 < (0:Int)))) z z z ?_)))
 refine bsplit (decide (a1 < (0:Int))) (fun hc148 => ?_) (fun hc148 => ?_)
 {
 replace hm := bif_t hc148 hm
 refine wo hc148 z z z z z z (wo hc148 z z z z z z (wo hc148 z z z z z z (wo hc148 z z z z z z (wo hc148 z z z z z z (wo hc148 z z z z z z (wo hc148 z z z z z z (wv (.bool true) z z (x_pick_t hc148 z z) (wl_nil (tn ?_)))))))))
 refine wp_ift z ?_
 refine wp_seq (wrl (wv (Pt b138 0) z z z ?_))
 replace hst := at_octet_Reader_close (pv := Pt b138 0) (x := a0) hst ⟨z, f141⟩
 obtain ⟨t149, ht150, hm⟩ := bind_some hm
 refine wc call84 [Pt b138 0] z z z ?_
 refine (octet_Reader_spoil_ref hst.to1 ht150).mono ?_
 rintro _ w151 ⟨rfl, hst⟩
 refine ⟨_, z, ?_⟩
 replace hst := hst.of1
 refine wl_nil (tn (wp_seq (wrl (wv (.int .u64 (0:Int)) z z z (wl_nil (tn (wp_ret (then_r ?_))))))))
 obtain rfl := some_inj hm
 refine post_ret (vs := [Zu]) results63 (rvs_cons (rv_tmp z) rvs_nil) ?_
 exact ⟨z, hst.keep1⟩
}
 {
 replace hm := bif_f hc148 hm
 refine wv (Pt b138 0) ((wanted_eq z z z (cvb hc148)).trans z) z z (wv (Pt b138 0) ((wanted_eq z z z (cvb hc148)).trans z) z z (wv (Pt b138 0) ((wanted_eq z z z (cvb hc148)).trans z) z (x_field z underlying100 z sizeOf32 z) (wv (v139) ((wanted_eq z z z (cvb hc148)).trans z) z (x_load z isAgg32 (hst.bc0 z)) (wv (.int .i64 ((a0.p).length : Int)) ((wanted_eq z z z (cvb hc148)).trans z) z (x_len z underlying32 (ro_sliceV f141)) (wv (.int .i64 a1) ((wanted_eq z z z (cvb hc148)).trans z) z z (wv (.bool (decide (((a0.p).length : Int) < a1))) ((wanted_eq z z z (cvb hc148)).trans z) z z (wv (.bool (decide (((a0.p).length : Int) < a1))) z z (x_pick_f hc148 z z) (wl_nil (tn ?_)))))))))
 refine bsplit (decide (((a0.p).length : Int) < a1)) (fun hc154 => ?_) (fun hc154 => ?_)
 {
 replace hm := bif_t hc154 hm
 refine wp_ift (cvb hc154) ?_
 refine wp_seq (wrl (wv (Pt b138 0) z z z ?_))
 replace hst := at_octet_Reader_close (pv := Pt b138 0) (x := a0) hst ⟨z, f141⟩
 obtain ⟨t155, ht156, hm⟩ := bind_some hm
 refine wc call84 [Pt b138 0] z z z ?_
 refine (octet_Reader_spoil_ref hst.to1 ht156).mono ?_
 rintro _ w157 ⟨rfl, hst⟩
 refine ⟨_, z, ?_⟩
 replace hst := hst.of1
 refine wl_nil (tn (wp_seq (wrl (wv (.int .u64 (0:Int)) z z z (wl_nil (tn (wp_ret (then_r ?_))))))))
 obtain rfl := some_inj hm
 refine post_ret (vs := [Zu]) results63 (rvs_cons (rv_tmp z) rvs_nil) ?_
 exact ⟨z, hst.keep1⟩
}
 {
 replace hm := bif_f hc154 hm
 refine wp_iff (cvb hc154) ?_
 refine wp_skip (tn (wp_seq (wrl ?_)))
 refine wv (.int .u64 (0:Int)) z z z (wl_nil (tn ?_))
 obtain ⟨y211, hm, hx212⟩ := bind_some hm
 refine wp_cut (fun a w => ∃ (z208 : Int) (σ209 : Nat → Value), (octet_Reader_Num_j0 a0 a1) z208 = some r ∧ a = Fr 59 (upd (upd (upd σ209 0 (Pt b138 0)) 1 (.int .i64 a1)) 5 (.int .u64 z208)) ∧ St w0 w I [at_octet_Reader (Pt b138 0) a0] R) ?_ ?_
 {
 refine wp_seq (wrl (wv (.int .i64 a1) z z z (wv (.int .i64 (if (8:Int) < a1 then (8:Int) else a1)) z z (by kernel_rfl) (wv (.int .i64 (0:Int)) z z z (wl_nil (tn (wp_block ?_)))))))
 replace hst := at_octet_Reader_close (pv := Pt b138 0) (x := a0) hst ⟨z, f141⟩
 obtain ⟨n189, hm⟩ := loopO_some hm
 refine wp_loop_n (fun n a w => ∃ (z186 : Int) (z187 : Int) (σ188 : Nat → Value), loopN (octet_Reader_Num_l1 a1 a0) n (z186, z187) = some y211 ∧ a = Fr 59 (upd (upd (upd (upd (upd σ188 0 (Pt b138 0)) 1 (.int .i64 a1)) 5 (.int .u64 z187)) 31 (.int .i64 (if (8:Int) < a1 then (8:Int) else a1))) 32 (.int .i64 z186)) ∧ St w0 w I [at_octet_Reader (Pt b138 0) a0] R) n189 ⟨(0:Int), (0:Int), _, hm, (fu 0 (Pt b138 0) z (fu 1 (.int .i64 a1) z (fu 5 (.int .u64 (0:Int)) z (fu 31 (.int .i64 (if (8:Int) < a1 then (8:Int) else a1)) z (fu 32 (.int .i64 (0:Int)) z z))))), hst⟩ ?_
 rintro n195 _ w190 ⟨z186, z187, σ188, hm, rfl, hst⟩
 obtain ⟨n192, y193, rfl, hm, hx194⟩ := loopN_some hm
 dsimp only [octet_Reader_Num_l1] at hm
 refine wp_seq (wrl (wv (.bool (decide (z186 < (if (8:Int) < a1 then (8:Int) else a1)))) z z z (wl_nil (tn (wp_seq ?_)))))
 refine bsplit (decide (z186 < (if (8:Int) < a1 then (8:Int) else a1))) (fun hc196 => ?_) (fun hc196 => ?_)
 {
 replace hm := bif_t hc196 hm
 refine wp_ift (cvb hc196) ?_
 refine wp_skip (tn (wp_seq (wp_block (wp_seq (wrl ?_)))))
 refine wv (.int .i64 z186) z z z (wv (.int .i64 z186) z z z (wl_nil (tn (wrl (wv (.int .u64 z187) z z z (wv (Pt b138 0) z z z ?_))))))
 obtain ⟨b197, v198, ⟨e201, f200⟩, hst'⟩ := at_octet_Reader_open hst
 clear hst
 have e201 := ptr_inj e201
 subst e201
 have hst := hst'
 clear hst'
 refine wv (Pt b138 0) z z z (wv (Pt b138 0) z z (x_field z underlying100 z sizeOf32 z) (wv (v198) z z (x_load z isAgg32 (hst.bc0 z)) (wv (.int .i64 z186) z z z ?_)))
 obtain ⟨x202, hx203, hm⟩ := bind_some hm
 obtain ⟨h204, h205, hi206⟩ := geto_some hx203
 refine wv (.pointer (some (eAddr v198 (z186.toNat * 1 + 0)))) z z (x_index z z underlying32 sizeOf5 (ro_sliceV f200) h204 h205) (wv (.int .u8 x202) z z (x_load z isAgg5 (ro_load f200 hst hi206 (by rintro _ rfl; rfl))) (wv (.int .u64 (u64.wrap x202)) z z (by kernel_rfl) (wv (.int .i64 z186) z z z (wv (.int .i64 (i64.wrap ((8:Int) * z186))) z z z ?_))))
 obtain ⟨hg207, hm⟩ := gd_some hm
 refine wv (.int .u64 (iShl .u64 (u64.wrap x202) (i64.wrap ((8:Int) * z186)))) z z (x_shl (of_decide_eq_true hg207) z z) (wv (.int .u64 (bOr .u64 z187 (iShl .u64 (u64.wrap x202) (i64.wrap ((8:Int) * z186))))) z z z (wv (.int .u64 (bOr .u64 z187 (iShl .u64 (u64.wrap x202) (i64.wrap ((8:Int) * z186))))) z z z (wl_nil (blk_n (tn (wrl (wv (.int .i64 (i64.wrap (z186 + (1:Int)))) z z z (wv (.int .i64 (i64.wrap (z186 + (1:Int)))) z z z (wl_nil (tn ?_))))))))))
 replace hst := at_octet_Reader_close (pv := Pt b138 0) (x := a0) hst ⟨z, f200⟩
 replace hst := hst.keep1
 obtain rfl := some_inj hm
 exact ⟨_, Nat.lt_succ_self _, (i64.wrap (z186 + (1:Int))), (bOr .u64 z187 (iShl .u64 (u64.wrap x202) (i64.wrap ((8:Int) * z186)))), _, hx194, (fu 0 (Pt b138 0) z (fu 1 (.int .i64 a1) z (fu 5 (.int .u64 (bOr .u64 z187 (iShl .u64 (u64.wrap x202) (i64.wrap ((8:Int) * z186))))) z (fu 31 (.int .i64 (if (8:Int) < a1 then (8:Int) else a1)) z (fu 32 (.int .i64 (i64.wrap (z186 + (1:Int)))) z z))))), hst⟩
}
 {
 replace hm := bif_f hc196 hm
 refine wp_iff (cvb hc196) ?_
 refine wp_exit (then_x (then_x ?_))
 replace hm := inr_up hm hx194
 refine blk_x (tn ?_)
 replace hst := hst.keep1
 obtain rfl := some_inj hm
 exact ⟨z187, _, hx212, (fu 0 (Pt b138 0) z (fu 1 (.int .i64 a1) z (fu 5 (.int .u64 z187) z z))), hst⟩
}
}
 {
 clear hst
 rintro _ w213 ⟨z208, σ209, hm, rfl, hst⟩
 dsimp only [octet_Reader_Num_j0] at hm
 refine wp_seq (wrl (wv (Pt b138 0) z z z (wv (Pt b138 0) z z z ?_)))
 obtain ⟨b214, v215, ⟨e218, f217⟩, hst'⟩ := at_octet_Reader_open hst
 clear hst
 have e218 := ptr_inj e218
 subst e218
 have hst := hst'
 clear hst'
 refine wv (Pt b138 0) z z z (wv (Pt b138 0) z z (x_field z underlying100 z sizeOf32 z) (wv (v215) z z (x_load z isAgg32 (hst.bc0 z)) (wv (.int .i64 a1) z z z ?_)))
 obtain ⟨hg219, hm⟩ := gd_some hm
 obtain ⟨h220, h221, h222⟩ := fits_of hg219
 have f224 : Ro (tyInt .u8) I (slcV 1 v215 a1.toNat (((a0.p).length : Nat) : Int).toNat) (subs a0.p a1 (((a0.p).length : Nat) : Int)) := Ro.part f217 h221 h222 h220
 refine wv ((slcV 1 v215 a1.toNat (((a0.p).length : Nat) : Int).toNat)) z z (x_slice underlying32 sizeOf5 z (ro_sliceV f217) h220 h221 h222 .i64 .i64 (.inl z) (.inr ⟨z, z⟩)) (wv (Pt b138 0) z z z (wv (Pt b138 0) z z (x_field z underlying100 z sizeOf32 z) ?_))
 obtain ⟨w225, hr226, hst⟩ := hst.boxStore1 (P := prog) (t := 32) (cs' := [(slcV 1 v215 a1.toNat (((a0.p).length : Nat) : Int).toNat), .bool a0.bad]) 0 (slcV 1 v215 a1.toNat (((a0.p).length : Nat) : Int).toNat) (one_of_sliceV (ro_sliceV f224)) sizeOf32 z z
 refine wl_unit z z (x_unit hr226) ?_
 refine wl_nil (tn (wp_seq (wrl (wv (.int .u64 z208) z z z (wv (.int .u64 z208) z z z (wl_nil (tn (wp_ret ?_))))))))
 replace hst := at_octet_Reader_close (pv := Pt b138 0) (x := ({ p := (subs a0.p a1 (((a0.p).length : Nat) : Int)), bad := a0.bad } : octet_Reader)) hst ⟨z, f224⟩
 obtain rfl := some_inj hm
 refine post_ret (vs := [U6 z208]) results63 (rvs_cons (rv_tmp z) rvs_nil) ?_
 exact ⟨z, hst.keep1⟩
}
}
}
}
}

theorem octet_Reader_Count_ref {w0 w : World} {I : HL} {R : SP} {a0 : octet_Reader} {p0 : Value} {a1 : Int}  (hst : St w0 w I [at_octet_Reader p0 a0] R) {r : (Int × octet_Reader)} (hm : octet_Reader_Count a0 a1 = some r) :
  Calls prog 57 #[p0, I6 a1] w fun e w' => e = .returned (.int .i64 r.1) ∧ St w0 w' I [at_octet_Reader p0 r.2] R := by {
 unfold octet_Reader_Count at hm
 refine calls_start (args := [p0, I6 a1]) func57 z ntmps57 (Nat.le_of_ble_eq_true z) ?_
 refine wp_seq (wrl (wv (.int .i64 (0:Int)) z z z (wl_nil (tn (wp_seq (wrl (wv (p0) z z z ?_)))))))
 obtain ⟨t65, ht66, hm⟩ := bind_some hm
 refine wc call63 [p0, I6 (4:Int)] z z z ?_
 refine (octet_Reader_Num_ref hst.to1 ht66).mono ?_
 rintro _ w67 ⟨rfl, hst⟩
 refine ⟨_, z, ?_⟩
 replace hst := hst.of1
 refine wv (.int .u64 t65.1) z z z (wl_nil (tn (wp_seq (wp_seq (wrl (wv (.int .i64 a1) z z z (wv (.bool (decide (a1 < (0:Int)))) z z z (wv (.bool (decide (a1 < (0:Int)))) z z z ?_))))))))
 refine bsplit (decide (a1 < (0:Int))) (fun hc70 => ?_) (fun hc70 => ?_)
 {
 replace hm := bif_t hc70 hm
 refine wo hc70 z z z z z z (wo hc70 z z z z z z (wo hc70 z z z z z z (wo hc70 z z z z z z (wv (.bool true) z z (x_pick_t hc70 z z) (wl_nil (tn ?_))))))
 refine wp_ift z ?_
 refine wp_seq (wrl (wv (p0) z z z ?_))
 obtain ⟨t71, ht72, hm⟩ := bind_some hm
 refine wc call84 [p0] z z z ?_
 refine (octet_Reader_spoil_ref hst.to1 ht72).mono ?_
 rintro _ w73 ⟨rfl, hst⟩
 refine ⟨_, z, ?_⟩
 replace hst := hst.of1
 refine wl_nil (tn (wp_seq (wrl (wv (.int .i64 (0:Int)) z z z (wl_nil (tn (wp_ret (then_r ?_))))))))
 obtain rfl := some_inj hm
 refine post_ret (vs := [Zi]) results57 (rvs_cons (rv_tmp z) rvs_nil) ?_
 exact ⟨z, hst.keep1⟩
}
 {
 replace hm := bif_f hc70 hm
 refine wv (.int .u64 t65.1) ((wanted_eq z z z (cvb hc70)).trans z) z z (wv (.int .i64 a1) ((wanted_eq z z z (cvb hc70)).trans z) z z (wv (.int .u64 (u64.wrap a1)) ((wanted_eq z z z (cvb hc70)).trans z) z (by kernel_rfl) (wv (.bool (decide (t65.1 > (u64.wrap a1)))) ((wanted_eq z z z (cvb hc70)).trans z) z z (wv (.bool (decide (t65.1 > (u64.wrap a1)))) z z (x_pick_f hc70 z z) (wl_nil (tn ?_))))))
 refine bsplit (decide (t65.1 > (u64.wrap a1))) (fun hc76 => ?_) (fun hc76 => ?_)
 {
 replace hm := bif_t hc76 hm
 refine wp_ift (cvb hc76) ?_
 refine wp_seq (wrl (wv (p0) z z z ?_))
 obtain ⟨t77, ht78, hm⟩ := bind_some hm
 refine wc call84 [p0] z z z ?_
 refine (octet_Reader_spoil_ref hst.to1 ht78).mono ?_
 rintro _ w79 ⟨rfl, hst⟩
 refine ⟨_, z, ?_⟩
 replace hst := hst.of1
 refine wl_nil (tn (wp_seq (wrl (wv (.int .i64 (0:Int)) z z z (wl_nil (tn (wp_ret (then_r ?_))))))))
 obtain rfl := some_inj hm
 refine post_ret (vs := [Zi]) results57 (rvs_cons (rv_tmp z) rvs_nil) ?_
 exact ⟨z, hst.keep1⟩
}
 {
 replace hm := bif_f hc76 hm
 refine wp_iff (cvb hc76) ?_
 refine wp_skip (tn (wp_seq (wrl ?_)))
 refine wv (.int .u64 t65.1) z z z (wv (.int .i64 (i64.wrap t65.1)) z z (by kernel_rfl) (wv (.int .i64 (i64.wrap t65.1)) z z z (wl_nil (tn (wp_ret ?_)))))
 obtain rfl := some_inj hm
 refine post_ret (vs := [I6 (i64.wrap t65.1)]) results57 (rvs_cons (rv_tmp z) rvs_nil) ?_
 exact ⟨z, hst.keep1⟩
}
}
}

theorem number_Back_ref {w0 w : World} {I : HL} {R : SP} {a0 : Int}  (hst : St w0 w I [] R) {r : (Nat)} (hm : number_Back a0 = some r) :
  Calls prog 64 #[U6 a0] w fun e w' => e = .returned (.float .f64 r) ∧ St w0 w' I [] R := by {
 unfold number_Back at hm
 refine calls_start (args := [U6 a0]) func64 z ntmps64 (Nat.le_of_ble_eq_true z) ?_
 refine wp_seq (wrl (wv (.float .f64 (0:Nat)) z z z (wl_nil (tn (wp_seq (wp_seq (wrl (wv (.int .u64 a0) z z z (wv (.int .u64 (iShr .u64 a0 (63:Int))) z z (x_shr (by decide) z z) (wv (.bool ((iShr .u64 a0 (63:Int)) == (1:Int))) z z z (wl_nil (tn ?_))))))))))))
 refine bsplit ((iShr .u64 a0 (63:Int)) == (1:Int)) (fun hc99 => ?_) (fun hc99 => ?_)
 {
 replace hm := bif_t hc99 hm
 refine wp_ift (cvb hc99) ?_
 refine wp_seq (wrl (wv (.int .u64 a0) z z z (wv (.int .u64 (bAndNot .u64 a0 (9223372036854775808:Int))) z z z (wv (.float .f64 (Int.toNat (bAndNot .u64 a0 (9223372036854775808:Int)))) z z (by kernel_rfl) (wv (.float .f64 (Int.toNat (bAndNot .u64 a0 (9223372036854775808:Int)))) z z z (wl_nil (tn (wp_ret (then_r ?_)))))))))
 obtain rfl := some_inj hm
 refine post_ret (vs := [F6 (Int.toNat (bAndNot .u64 a0 (9223372036854775808:Int)))]) results64 (rvs_cons (rv_tmp z) rvs_nil) ?_
 exact ⟨z, hst.keep0⟩
}
 {
 replace hm := bif_f hc99 hm
 refine wp_iff (cvb hc99) ?_
 refine wp_skip (tn (wp_seq (wrl ?_)))
 refine wv (.int .u64 a0) z z z (wv (.int .u64 (bXor .u64 ((18446744073709551615):Int) a0)) z z (by kernel_rfl) (wv (.float .f64 (Int.toNat (bXor .u64 ((18446744073709551615):Int) a0))) z z (by kernel_rfl) (wv (.float .f64 (Int.toNat (bXor .u64 ((18446744073709551615):Int) a0))) z z z (wl_nil (tn (wp_ret ?_))))))
 obtain rfl := some_inj hm
 refine post_ret (vs := [F6 (Int.toNat (bXor .u64 ((18446744073709551615):Int) a0))]) results64 (rvs_cons (rv_tmp z) rvs_nil) ?_
 exact ⟨z, hst.keep0⟩
}
}

theorem octet_Reader_Bytes_ref {w0 w : World} {I : HL} {R : SP} {a0 : octet_Reader} {p0 : Value} {a1 : Int}  (hst : St w0 w I [at_octet_Reader p0 a0] R) {r : ((List Int) × octet_Reader)} (hm : octet_Reader_Bytes a0 a1 = some r) :
  Calls prog 65 #[p0, I6 a1] w fun e w' => ∃ (q0_0 : Value), e = .returned (q0_0) ∧ St w0 w' I [ownS (tyInt .u8) q0_0 r.1, at_octet_Reader p0 r.2] R := by {
 unfold octet_Reader_Bytes at hm
 refine calls_start (args := [p0, I6 a1]) func65 z ntmps65 (Nat.le_of_ble_eq_true z) ?_
 refine wp_seq (wrl (wv ((.slice none 0 0)) z z z (wl_nil (tn (wp_seq (wrl (wv (p0) z z z ?_)))))))
 obtain ⟨t565, ht566, hm⟩ := bind_some hm
 refine wc call63 [p0, I6 (4:Int)] z z z ?_
 refine (octet_Reader_Num_ref hst.to1 ht566).mono ?_
 rintro _ w567 ⟨rfl, hst⟩
 refine ⟨_, z, ?_⟩
 replace hst := hst.of1
 refine wv (.int .u64 t565.1) z z z (wl_nil (tn (wp_seq (wp_seq (wrl (wv (p0) z z z ?_))))))
 obtain ⟨b570, v571, ⟨rfl, f573⟩, hst'⟩ := at_octet_Reader_open hst
 clear hst
 have hst := hst'
 clear hst'
 refine wv (.bool false) z z (by kernel_rfl) (wv (.bool false) z z z (wv (Pt b570 0) ((wanted_eq z z z z).trans z) z z (wv (Pt b570 0) ((wanted_eq z z z z).trans z) z z (wv (Pt b570 1) ((wanted_eq z z z z).trans z) z (x_field z underlying100 z sizeOf4 z) (wv (.bool t565.2.bad) ((wanted_eq z z z z).trans z) z (x_load z isAgg4 (hst.bc0 z)) (wv (.bool t565.2.bad) z z (x_pick_f z z z) (wv (.bool t565.2.bad) z z z ?_)))))))
 refine bsplit t565.2.bad (fun hc574 => ?_) (fun hc574 => ?_)
 {
 replace hm := bif_t hc574 hm
 refine wo hc574 z z z z z z (wo hc574 z z z z z z (wv (.bool true) z z (x_pick_t hc574 z z) (wv (.bool true) z z z (wz z z z z z z (wz z z z z z z (wz z z z z z z (wz z z z z z z (wv (.bool true) z z (x_pick_t z z z) (wv (.bool true) z z z (wz z z z z z z (wz z z z z z z (wz z z z z z z ?_))))))))))))
 refine wz z z z z z z (wz z z z z z z (wz z z z z z z (wz z z z z z z (wz z z z z z z (wv (.bool true) z z (x_pick_t z z z) (wl_nil (tn ?_)))))))
 refine wp_ift z ?_
 refine wp_seq (wrl (wv (Pt b570 0) z z z ?_))
 replace hst := at_octet_Reader_close (pv := Pt b570 0) (x := t565.2) hst ⟨z, f573⟩
 obtain ⟨t575, ht576, hm⟩ := bind_some hm
 refine wc call84 [Pt b570 0] z z z ?_
 refine (octet_Reader_spoil_ref hst.to1 ht576).mono ?_
 rintro _ w577 ⟨rfl, hst⟩
 refine ⟨_, z, ?_⟩
 replace hst := hst.of1
 refine wl_nil (tn (wp_seq (wrl (wv ((.slice none 0 0)) z z z (wl_nil (tn (wp_ret (then_r ?_))))))))
 replace hst := hst.own_nil (tyInt .u8)
 obtain rfl := some_inj hm
 refine post_ret (vs := [Zs]) results65 (rvs_cons (rv_tmp z) rvs_nil) ?_
 replace hst := hst.pull1.pull1
 exact ⟨(.slice none 0 0), z, hst.keep2⟩
}
 {
 replace hm := bif_f hc574 hm
 refine wv (.int .i64 a1) ((wanted_eq z z z (cvb hc574)).trans z) z z (wv (.bool (decide (a1 < (0:Int)))) ((wanted_eq z z z (cvb hc574)).trans z) z z (wv (.bool (decide (a1 < (0:Int)))) z z (x_pick_f hc574 z z) (wv (.bool (decide (a1 < (0:Int)))) z z z ?_)))
 refine bsplit (decide (a1 < (0:Int))) (fun hc581 => ?_) (fun hc581 => ?_)
 {
 replace hm := bif_t hc581 hm
 refine wo hc581 z z z z z z (wo hc581 z z z z z z (wo hc581 z z z z z z (wo hc581 z z z z z z (wv (.bool true) z z (x_pick_t hc581 z z) (wv (.bool true) z z z (wz z z z z z z (wz z z z z z z (wz z z z z z z (wz z z z z z z (wz z z z z z z (wz z z z z z z (wz z z z z z z ?_))))))))))))
 refine wz z z z z z z (wv (.bool true) z z (x_pick_t z z z) (wl_nil (tn ?_)))
 refine wp_ift z ?_
 refine wp_seq (wrl (wv (Pt b570 0) z z z ?_))
 replace hst := at_octet_Reader_close (pv := Pt b570 0) (x := t565.2) hst ⟨z, f573⟩
 obtain ⟨t582, ht583, hm⟩ := bind_some hm
 refine wc call84 [Pt b570 0] z z z ?_
 refine (octet_Reader_spoil_ref hst.to1 ht583).mono ?_
 rintro _ w584 ⟨rfl, hst⟩
 refine ⟨_, z, ?_⟩
 replace hst := hst.of1
 refine wl_nil (tn (wp_seq (wrl (wv ((.slice none 0 0)) z z z (wl_nil (tn (wp_ret (then_r ?_))))))))
 replace hst := hst.own_nil (tyInt .u8)
 obtain rfl := some_inj hm
 refine post_ret (vs := [Zs]) results65 (rvs_cons (rv_tmp z) rvs_nil) ?_
 replace hst := hst.pull1.pull1
 exact ⟨(.slice none 0 0), z, hst.keep2⟩
}
 {
 replace hm := bif_f hc581 hm
 refine wv (.int .u64 t565.1) ((wanted_eq z z z (cvb hc581)).trans z) z z (wv (.int .i64 a1) ((wanted_eq z z z (cvb hc581)).trans z) z z (wv (.int .u64 (u64.wrap a1)) ((wanted_eq z z z (cvb hc581)).trans z) z (by kernel_rfl) (wv (.bool (decide (t565.1 > (u64.wrap a1)))) ((wanted_eq z z z (cvb hc581)).trans z) z z (wv (.bool (decide (t565.1 > (u64.wrap a1)))) z z (x_pick_f hc581 z z) (wv (.bool (decide (t565.1 > (u64.wrap a1)))) z z z ?_)))))
 refine bsplit (decide (t565.1 > (u64.wrap a1))) (fun hc588 => ?_) (fun hc588 => ?_)
 {
 replace hm := bif_t hc588 hm
 refine wo hc588 z z z z z z (wo hc588 z z z z z z (wo hc588 z z z z z z (wo hc588 z z z z z z (wo hc588 z z z z z z (wo hc588 z z z z z z (wo hc588 z z z z z z (wo hc588 z z z z z z (wv (.bool true) z z (x_pick_t hc588 z z) (wl_nil (tn ?_))))))))))
 refine wp_ift z ?_
 refine wp_seq (wrl (wv (Pt b570 0) z z z ?_))
 replace hst := at_octet_Reader_close (pv := Pt b570 0) (x := t565.2) hst ⟨z, f573⟩
 obtain ⟨t589, ht590, hm⟩ := bind_some hm
 refine wc call84 [Pt b570 0] z z z ?_
 refine (octet_Reader_spoil_ref hst.to1 ht590).mono ?_
 rintro _ w591 ⟨rfl, hst⟩
 refine ⟨_, z, ?_⟩
 replace hst := hst.of1
 refine wl_nil (tn (wp_seq (wrl (wv ((.slice none 0 0)) z z z (wl_nil (tn (wp_ret (then_r ?_))))))))
 replace hst := hst.own_nil (tyInt .u8)
 obtain rfl := some_inj hm
 refine post_ret (vs := [Zs]) results65 (rvs_cons (rv_tmp z) rvs_nil) ?_
 replace hst := hst.pull1.pull1
 exact ⟨(.slice none 0 0), z, hst.keep2⟩
}
 {
 replace hm := bif_f hc588 hm
 refine wv (.int .u64 t565.1) ((wanted_eq z z z (cvb hc588)).trans z) z z (wv (Pt b570 0) ((wanted_eq z z z (cvb hc588)).trans z) z z (wv (Pt b570 0) ((wanted_eq z z z (cvb hc588)).trans z) z z (wv (Pt b570 0) ((wanted_eq z z z (cvb hc588)).trans z) z (x_field z underlying100 z sizeOf32 z) (wv (v571) ((wanted_eq z z z (cvb hc588)).trans z) z (x_load z isAgg32 (hst.bc0 z)) (wv (.int .i64 ((t565.2.p).length : Int)) ((wanted_eq z z z (cvb hc588)).trans z) z (x_len z underlying32 (ro_sliceV f573)) (wv (.int .u64 (u64.wrap ((t565.2.p).length : Int))) ((wanted_eq z z z (cvb hc588)).trans z) z (by kernel_rfl) (wv (.bool (decide (t565.1 > (u64.wrap ((t565.2.p).length : Int))))) ((wanted_eq z z z (cvb hc588)).trans z) z z (wv (.bool (decide (t565.1 > (u64.wrap ((t565.2.p).length : Int))))) z z (x_pick_f hc588 z z) (wl_nil (tn ?_))))))))))
 refine bsplit (decide (t565.1 > (u64.wrap ((t565.2.p).length : Int)))) (fun hc595 => ?_) (fun hc595 => ?_)
 {
 replace hm := bif_t hc595 hm
 refine wp_ift (cvb hc595) ?_
 refine wp_seq (wrl (wv (Pt b570 0) z z z ?_))
 replace hst := at_octet_Reader_close (pv := Pt b570 0) (x := t565.2) hst ⟨z, f573⟩
 obtain ⟨t596, ht597, hm⟩ := bind_some hm
 refine wc call84 [Pt b570 0] z z z ?_
 refine (octet_Reader_spoil_ref hst.to1 ht597).mono ?_
 rintro _ w598 ⟨rfl, hst⟩
 refine ⟨_, z, ?_⟩
 replace hst := hst.of1
 refine wl_nil (tn (wp_seq (wrl (wv ((.slice none 0 0)) z z z (wl_nil (tn (wp_ret (then_r ?_))))))))
 replace hst := hst.own_nil (tyInt .u8)
 obtain rfl := some_inj hm
 refine post_ret (vs := [Zs]) results65 (rvs_cons (rv_tmp z) rvs_nil) ?_
 replace hst := hst.pull1.pull1
 exact ⟨(.slice none 0 0), z, hst.keep2⟩
}
 {
 replace hm := bif_f hc595 hm
 refine wp_iff (cvb hc595) ?_
 refine wp_skip (tn (wp_seq (wrl ?_)))
 refine wv (Pt b570 0) z z z (wv (Pt b570 0) z z z (wv (Pt b570 0) z z (x_field z underlying100 z sizeOf32 z) (wv (v571) z z (x_load z isAgg32 (hst.bc0 z)) (wv (.int .u64 t565.1) z z z ?_))))
 obtain ⟨hg602, hm⟩ := gd_some hm
 obtain ⟨h603, h604, h605⟩ := fits_of hg602
 have f607 : Ro (tyInt .u8) I (slcV 1 v571 (0:Int).toNat t565.1.toNat) (subs t565.2.p (0:Int) t565.1) := Ro.part f573 h604 h605 h603
 refine wv ((slcV 1 v571 (0:Int).toNat t565.1.toNat)) z z (x_slice underlying32 sizeOf5 z (ro_sliceV f573) h603 h604 h605 .i64 .u64 (.inr ⟨z, z⟩) (.inl z)) ?_
 replace hst := hst.own_nil (tyInt .u8)
 obtain ⟨hg609, hm⟩ := gd_some hm
 obtain ⟨v610, w611, hr612, hst⟩ := run_append elem_32 underlying32 hst (Src.of_ro hst f607) (room_of hg609 z) 32
 replace hst := St.nil_app hst
 refine wl_run (v := v610) (w' := w611) z z (x_append z z hr612) ?_
 refine wv (v610) z z z (wl_nil (tn (wp_seq (wrl (wv (Pt b570 0) z z z (wv (Pt b570 0) z z z (wv (Pt b570 0) z z z (wv (Pt b570 0) z z (x_field z underlying100 z sizeOf32 z) (wv (v571) z z (x_load z isAgg32 (hst.bc1 z)) (wv (.int .u64 t565.1) z z z ?_))))))))))
 obtain ⟨hg614, hm⟩ := gd_some hm
 obtain ⟨h615, h616, h617⟩ := fits_of hg614
 have f619 : Ro (tyInt .u8) I (slcV 1 v571 t565.1.toNat (((t565.2.p).length : Nat) : Int).toNat) (subs t565.2.p t565.1 (((t565.2.p).length : Nat) : Int)) := Ro.part f573 h616 h617 h615
 refine wv ((slcV 1 v571 t565.1.toNat (((t565.2.p).length : Nat) : Int).toNat)) z z (x_slice underlying32 sizeOf5 z (ro_sliceV f573) h615 h616 h617 .u64 .i64 (.inl z) (.inr ⟨z, z⟩)) (wv (Pt b570 0) z z z (wv (Pt b570 0) z z (x_field z underlying100 z sizeOf32 z) ?_))
 replace hst := hst.pull1
 obtain ⟨w620, hr621, hst⟩ := hst.boxStore1 (P := prog) (t := 32) (cs' := [(slcV 1 v571 t565.1.toNat (((t565.2.p).length : Nat) : Int).toNat), .bool t565.2.bad]) 0 (slcV 1 v571 t565.1.toNat (((t565.2.p).length : Nat) : Int).toNat) (one_of_sliceV (ro_sliceV f619)) sizeOf32 z z
 refine wl_unit z z (x_unit hr621) ?_
 refine wl_nil (tn (wp_seq (wrl (wv (v610) z z z (wv (v610) z z z (wl_nil (tn (wp_ret ?_))))))))
 replace hst := at_octet_Reader_close (pv := Pt b570 0) (x := ({ p := (subs t565.2.p t565.1 (((t565.2.p).length : Nat) : Int)), bad := t565.2.bad } : octet_Reader)) hst ⟨z, f619⟩
 obtain rfl := some_inj hm
 refine post_ret (vs := [v610]) results65 (rvs_cons (rv_tmp z) rvs_nil) ?_
 replace hst := hst.pull1
 exact ⟨v610, z, hst.keep2⟩
}
}
}
}
}

end Go.Proofs.Ytbdhhmnncknhhaa
