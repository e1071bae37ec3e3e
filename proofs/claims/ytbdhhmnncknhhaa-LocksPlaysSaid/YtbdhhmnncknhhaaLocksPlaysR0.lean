/- The Go functions refine their models, part 0. -/
import Derived.Test.YtbdhhmnncknhhaaLocksPlaysT
set_option linter.unusedVariables false
set_option linter.unusedSimpArgs false
set_option maxRecDepth 100000
set_option maxHeartbeats 4000000
namespace Go.Proofs.Ytbdhhmnncknhhaa
open Go Go.V
open _root_.Go.Proofs.Try IntKind
attribute [local irreducible] wpList Code.wp wpQuiet Calls bodyPost Oper.wp wpS Nx PendOK YieldsIn
theorem locks_New_ref {w0 w : World} {I : HL} {R : SP}   (hst : St w0 w I [] R) {r : (locks_Table)} (hm : locks_New = some r) :
  Calls prog 10 #[] w fun e w' => ∃ (q0 : Value), e = .returned (q0) ∧ St w0 w' I [at_locks_Table q0 r] R := by {
 unfold locks_New at hm
 refine calls_start (args := []) func10 z ntmps10 (Nat.le_of_ble_eq_true z) ?_
 refine wp_seq (wrl (wv (.pointer none) z z z (wl_nil (tn (wp_seq (wrl (wv (.agg #[Zs]) z z (by kernel_rfl) ?_)))))))
 obtain ⟨b50, w51, ew52, eb53, hst⟩ := hst.box [Zs] 77
 refine wl_run (v := Pt b50 0) (w' := w51) z z (x_al (by kernel_rfl) ew52 eb53) ?_
 refine wv (Pt b50 0) z z z (wl_nil (tn (wp_ret ?_)))
 replace hst := hst.own_nil ty_api_Hold
 replace hst := hst.pull1
 replace hst := at_locks_Table_close (pv := Pt b50 0) (x := ({ l := [] } : locks_Table)) hst z
 obtain rfl := some_inj hm
 refine post_ret (vs := [Pt b50 0]) results10 (rvs_cons (rv_tmp z) rvs_nil) ?_
 exact ⟨.pointer (some ⟨b50, 0, none⟩), z, hst.keep1⟩
}

theorem math_IsNaN_ref {w0 w : World} {I : HL} {R : SP} {a0 : Nat}  (hst : St w0 w I [] R) {r : (Bool)} (hm : math_IsNaN a0 = some r) :
  Calls prog 88 #[F6 a0] w fun e w' => e = .returned (.bool r) ∧ St w0 w' I [] R := by {
 unfold math_IsNaN at hm
 refine calls_start (args := [F6 a0]) func88 z ntmps88 (Nat.le_of_ble_eq_true z) ?_
 refine wp_seq (wrl (wv (.bool false) z z z (wl_nil (tn (wp_seq (wrl (wv (.float .f64 a0) z z z (wv (.float .f64 a0) z z z (wv (.bool (fNe a0 a0)) z z z (wv (.bool (fNe a0 a0)) z z z (wl_nil (tn (wp_ret ?_)))))))))))))
 obtain rfl := some_inj hm
 refine post_ret (vs := [.bool (fNe a0 a0)]) results88 (rvs_cons (rv_tmp z) rvs_nil) ?_
 exact ⟨z, hst.keep0⟩
}

theorem number_Rank_ref {w0 w : World} {I : HL} {R : SP} {a0 : Nat}  (hst : St w0 w I [] R) {r : (Int)} (hm : number_Rank a0 = some r) :
  Calls prog 61 #[F6 a0] w fun e w' => e = .returned (.int .u64 r) ∧ St w0 w' I [] R := by {
 unfold number_Rank at hm
 refine calls_start (args := [F6 a0]) func61 z ntmps61 (Nat.le_of_ble_eq_true z) ?_
 refine wp_seq (wrl (wv (.int .u64 (0:Int)) z z z (wl_nil (tn (wp_seq (wp_seq (wrl (wv (.float .f64 a0) z z z ?_))))))))
 obtain ⟨t105, ht106, hm⟩ := bind_some hm
 refine wc call88 [F6 a0] z z z ?_
 refine (math_IsNaN_ref hst.to0 ht106).mono ?_
 rintro _ w107 ⟨rfl, hst⟩
 refine ⟨_, z, ?_⟩
 replace hst := hst.of0
 refine wl_nil (tn ?_)
 refine bsplit t105 (fun hc110 => ?_) (fun hc110 => ?_)
 {
 replace hm := bif_t hc110 hm
 refine wp_ift (cvb hc110) ?_
 refine wp_seq (wrl (wv (.int .u64 (18446744073709551615:Int)) z z z (wl_nil (tn (wp_ret (then_r ?_))))))
 obtain rfl := some_inj hm
 refine post_ret (vs := [U6 (18446744073709551615:Int)]) results61 (rvs_cons (rv_tmp z) rvs_nil) ?_
 exact ⟨z, hst.keep0⟩
}
 {
 replace hm := bif_f hc110 hm
 refine wp_iff (cvb hc110) ?_
 refine wp_skip (tn (wp_seq (wrl ?_)))
 refine wv (.float .f64 a0) z z z (wv (.int .u64 (Int.ofNat a0)) z z (by kernel_rfl) (wv (.int .u64 (Int.ofNat a0)) z z z (wl_nil (tn (wp_seq (wp_seq (wrl (wv (.int .u64 (Int.ofNat a0)) z z z (wv (.int .u64 (iShr .u64 (Int.ofNat a0) (63:Int))) z z (x_shr (by decide) z z) (wv (.bool ((iShr .u64 (Int.ofNat a0) (63:Int)) == (1:Int))) z z z (wl_nil (tn ?_))))))))))))
 refine bsplit ((iShr .u64 (Int.ofNat a0) (63:Int)) == (1:Int)) (fun hc111 => ?_) (fun hc111 => ?_)
 {
 replace hm := bif_t hc111 hm
 refine wp_ift (cvb hc111) ?_
 refine wp_seq (wrl (wv (.int .u64 (Int.ofNat a0)) z z z (wv (.int .u64 (bXor .u64 ((18446744073709551615):Int) (Int.ofNat a0))) z z (by kernel_rfl) (wv (.int .u64 (bXor .u64 ((18446744073709551615):Int) (Int.ofNat a0))) z z z (wl_nil (tn (wp_ret (then_r ?_))))))))
 obtain rfl := some_inj hm
 refine post_ret (vs := [U6 (bXor .u64 ((18446744073709551615):Int) (Int.ofNat a0))]) results61 (rvs_cons (rv_tmp z) rvs_nil) ?_
 exact ⟨z, hst.keep0⟩
}
 {
 replace hm := bif_f hc111 hm
 refine wp_iff (cvb hc111) ?_
 refine wp_skip (tn (wp_seq (wrl ?_)))
 refine wv (.int .u64 (Int.ofNat a0)) z z z (wv (.int .u64 (bOr .u64 (Int.ofNat a0) (9223372036854775808:Int))) z z z (wv (.int .u64 (bOr .u64 (Int.ofNat a0) (9223372036854775808:Int))) z z z (wl_nil (tn (wp_ret ?_)))))
 obtain rfl := some_inj hm
 refine post_ret (vs := [U6 (bOr .u64 (Int.ofNat a0) (9223372036854775808:Int))]) results61 (rvs_cons (rv_tmp z) rvs_nil) ?_
 exact ⟨z, hst.keep0⟩
}
}
}

theorem number_Within_ref {w0 w : World} {I : HL} {R : SP} {a0 : Nat} {a1 : Nat} {a2 : Nat}  (hst : St w0 w I [] R) {r : (Bool)} (hm : number_Within a0 a1 a2 = some r) :
  Calls prog 79 #[F6 a0, F6 a1, F6 a2] w fun e w' => e = .returned (.bool r) ∧ St w0 w' I [] R := by {
 unfold number_Within at hm
 refine calls_start (args := [F6 a0, F6 a1, F6 a2]) func79 z ntmps79 (Nat.le_of_ble_eq_true z) ?_
 refine wp_seq (wrl (wv (.bool false) z z z (wl_nil (tn (wp_seq (wrl (wv (.float .f64 a1) z z z ?_)))))))
 obtain ⟨t119, ht120, hm⟩ := bind_some hm
 refine wc call61 [F6 a1] z z z ?_
 refine (number_Rank_ref hst.to0 ht120).mono ?_
 rintro _ w121 ⟨rfl, hst⟩
 refine ⟨_, z, ?_⟩
 replace hst := hst.of0
 refine wv (.float .f64 a0) z z z ?_
 obtain ⟨t124, ht125, hm⟩ := bind_some hm
 refine wc call61 [F6 a0] z z z ?_
 refine (number_Rank_ref hst.to0 ht125).mono ?_
 rintro _ w126 ⟨rfl, hst⟩
 refine ⟨_, z, ?_⟩
 replace hst := hst.of0
 refine wv (.bool (decide (t119 ≤ t124))) z z z (wv (.bool (decide (t119 ≤ t124))) z z z ?_)
 refine bsplit (decide (t119 ≤ t124)) (fun hc129 => ?_) (fun hc129 => ?_)
 {
 replace hm := bif_t hc129 hm
 refine wv (.float .f64 a0) ((wanted_eq z z z (cvb hc129)).trans z) z z ?_
 obtain ⟨t130, ht131, hm⟩ := bind_some hm
 refine wl_call ((wanted_eq z z z (cvb hc129)).trans z) z (x_call call61 z (vs := [F6 a0]) z) ?_
 refine (number_Rank_ref hst.to0 ht131).mono ?_
 rintro _ w132 ⟨rfl, hst⟩
 refine ⟨_, z, ?_⟩
 replace hst := hst.of0
 refine wv (.float .f64 a2) ((wanted_eq z z z (cvb hc129)).trans z) z z ?_
 obtain ⟨t135, ht136, hm⟩ := bind_some hm
 refine wl_call ((wanted_eq z z z (cvb hc129)).trans z) z (x_call call61 z (vs := [F6 a2]) z) ?_
 refine (number_Rank_ref hst.to0 ht136).mono ?_
 rintro _ w137 ⟨rfl, hst⟩
 refine ⟨_, z, ?_⟩
 replace hst := hst.of0
 refine wv (.bool (decide (t130 ≤ t135))) ((wanted_eq z z z (cvb hc129)).trans z) z z (wv (.bool (decide (t130 ≤ t135))) z z (x_pick_t hc129 z z) (wv (.bool (decide (t130 ≤ t135))) z z z (wl_nil (tn (wp_ret ?_)))))
 obtain rfl := some_inj hm
 refine post_ret (vs := [.bool (decide (t130 ≤ t135))]) results79 (rvs_cons (rv_tmp z) rvs_nil) ?_
 exact ⟨z, hst.keep0⟩
}
 {
 replace hm := bif_f hc129 hm
 refine wo hc129 z z z z z z (wo hc129 z z z z z z (wo hc129 z z z z z z (wo hc129 z z z z z z (wo hc129 z z z z z z (wv (.bool false) z z (x_pick_f hc129 z z) (wv (.bool false) z z z (wl_nil (tn (wp_ret ?_)))))))))
 obtain rfl := some_inj hm
 refine post_ret (vs := [.bool false]) results79 (rvs_cons (rv_tmp z) rvs_nil) ?_
 exact ⟨z, hst.keep0⟩
}
}

theorem locks_writes_ref {w0 w : World} {I : HL} {R : SP} {a0 : api_Hold} {r0_0 : Value} {r0_1 : Value} {r0_2 : Value} {r0_3 : Value} {a1 : Nat} {a2 : Nat} (f0_0 : Rd tyF64 R I r0_0 a0.Gets) (f0_1 : Rd tyF2 R I r0_1 a0.Scans) (f0_2 : Rd tyF64 R I r0_2 a0.Puts) (f0_3 : Rd (tyInt .u8) R I r0_3 a0.Data) (hst : St w0 w I [] R) {r : (Bool)} (hm : locks_writes a0 a1 a2 = some r) :
  Calls prog 52 #[.agg #[U6 a0.ID.Session, U6 a0.ID.Seq, U6 a0.Epoch, r0_0, r0_1, r0_2, r0_3], F6 a1, F6 a2] w fun e w' => e = .returned (.bool r) ∧ St w0 w' I [] R := by {
 unfold locks_writes at hm
 refine calls_start (args := [.agg #[U6 a0.ID.Session, U6 a0.ID.Seq, U6 a0.Epoch, r0_0, r0_1, r0_2, r0_3], F6 a1, F6 a2]) func52 z ntmps52 (Nat.le_of_ble_eq_true z) ?_
 refine wp_seq (wrl ?_)
 obtain ⟨b167, w168, ew169, eb170, hst⟩ := hst.box [U6 a0.ID.Session, U6 a0.ID.Seq, U6 a0.Epoch, r0_0, r0_1, r0_2, r0_3] 34
 refine wl_run (v := Pt b167 0) (w' := w168) z z (x_al (by kernel_rfl) ew169 eb170) ?_
 obtain ⟨b172, w173, ew174, eb175, hst⟩ := hst.box [F6 a1] 57
 refine wl_run (v := Pt b172 0) (w' := w173) z z (x_al (by kernel_rfl) ew174 eb175) ?_
 obtain ⟨b177, w178, ew179, eb180, hst⟩ := hst.box [F6 a2] 57
 refine wl_run (v := Pt b177 0) (w' := w178) z z (x_al (by kernel_rfl) ew179 eb180) ?_
 refine wv (.bool false) z z z (wl_nil (tn (wp_seq (wrl (wv (Pt b167 5) z z (x_field z underlying34 z sizeOf30 z) (wv (r0_2) z z (x_load z isAgg30 (hst.bc2 z)) (wv (.func (.func 78) #[] #[Pt b172 0, Pt b177 0]) z z (by kernel_rfl) ?_)))))))
 obtain ⟨y250, hq251, hm⟩ := bind_some hm
 refine wl_call z z (x_callv call77 (caps := []) z (vs := [r0_2, .func (.func 78) #[] #[Pt b172 0, Pt b177 0]]) z) ?_
 refine Calls.mono (show Calls prog 77 #[r0_2, .func (.func 78) #[] #[Pt b172 0, Pt b177 0]] _ (fun e w' => ∃ (z248 : Bool), z248 = y250 ∧ e = .returned (.bool z248) ∧ St w0 w' I [cells b167 [U6 a0.ID.Session, U6 a0.ID.Seq, U6 a0.Epoch, r0_0, r0_1, r0_2, r0_3], cells b172 [F6 a1], cells b177 [F6 a2]] R) from ?_) ?_
 {
 clear hm; have hm := hq251
 refine calls_start (args := [r0_2, .func (.func 78) #[] #[Pt b172 0, Pt b177 0]]) func77 z ntmps77 (Nat.le_of_ble_eq_true z) ?_
 refine wp_seq (wrl (wv (.bool false) z z z (wl_nil (tn (wp_seq (wrl (wv (r0_2) z z z (wv (.func (.func 78) #[] #[Pt b172 0, Pt b177 0]) z z z ?_))))))))
 obtain ⟨y245, hq246, hm⟩ := bind_some hm
 refine wl_call z z (x_callv call93 (caps := []) z (vs := [r0_2, .func (.func 78) #[] #[Pt b172 0, Pt b177 0]]) z) ?_
 refine Calls.mono (show Calls prog 93 #[r0_2, .func (.func 78) #[] #[Pt b172 0, Pt b177 0]] _ (fun e w' => ∃ (z243 : Int), z243 = y245 ∧ e = .returned (.int .i64 z243) ∧ St w0 w' I [cells b167 [U6 a0.ID.Session, U6 a0.ID.Seq, U6 a0.Epoch, r0_0, r0_1, r0_2, r0_3], cells b172 [F6 a1], cells b177 [F6 a2]] R) from ?_) ?_
 {
 clear hm; have hm := hq246
 refine calls_start (args := [r0_2, .func (.func 78) #[] #[Pt b172 0, Pt b177 0]]) func93 z ntmps93 (Nat.le_of_ble_eq_true z) ?_
 refine wp_seq (wrl (wv (.int .i64 (0:Int)) z z z (wl_nil (tn (wp_seq (wp_seq (wrl (wv (r0_2) z z z (wv (.int .i64 ((a0.Puts).length : Int)) z z (x_len z underlying30 (rd_sliceV f0_2)) (wv (.int .i64 (0:Int)) z z z (wl_nil (tn (wp_block ?_)))))))))))))
 obtain ⟨n219, hm⟩ := loopO_some hm
 refine wp_loop_n (fun n a w => ∃ (z217 : Int) (σ218 : Nat → Value), loopN (locks_writes_l0 a0 a1 a2) n z217 = some y245 ∧ a = Fr 19 (upd (upd (upd (upd σ218 0 (r0_2)) 1 (.func (.func 78) #[] #[Pt b172 0, Pt b177 0])) 7 (.int .i64 ((a0.Puts).length : Int))) 8 (.int .i64 z217)) ∧ St w0 w I [cells b177 [F6 a2], cells b172 [F6 a1], cells b167 [U6 a0.ID.Session, U6 a0.ID.Seq, U6 a0.Epoch, r0_0, r0_1, r0_2, r0_3]] R) n219 ⟨(0:Int), _, hm, (fu 0 r0_2 z (fu 1 (.func (.func 78) #[] #[Pt b172 0, Pt b177 0]) z (fu 7 (.int .i64 ((a0.Puts).length : Int)) z (fu 8 (.int .i64 (0:Int)) z z)))), hst⟩ ?_
 rintro n225 _ w220 ⟨z217, σ218, hm, rfl, hst⟩
 obtain ⟨n222, y223, rfl, hm, hx224⟩ := loopN_some hm
 dsimp only [locks_writes_l0] at hm
 refine wp_seq (wrl (wv (.bool (decide (z217 < ((a0.Puts).length : Int)))) z z z (wl_nil (tn (wp_seq ?_)))))
 refine bsplit (decide (z217 < ((a0.Puts).length : Int))) (fun hc226 => ?_) (fun hc226 => ?_)
 {
 replace hm := bif_t hc226 hm
 refine wp_ift (cvb hc226) ?_
 refine wp_skip (tn (wp_seq (wp_block (wp_seq (wrl ?_)))))
 refine wv (.int .i64 z217) z z z (wv (.int .i64 z217) z z z (wl_nil (tn (wp_seq (wrl (wv (.func (.func 78) #[] #[Pt b172 0, Pt b177 0]) z z z (wv (r0_2) z z z (wv (.int .i64 z217) z z z ?_))))))))
 obtain ⟨x227, hx228, hm⟩ := bind_some hm
 obtain ⟨h229, h230, hi231⟩ := geto_some hx228
 refine wv (.pointer (some (eAddr r0_2 (z217.toNat * 1 + 0)))) z z (x_index z z underlying30 sizeOf57 (rd_sliceV f0_2) h229 h230) (wv (.float .f64 x227) z z (x_load z isAgg57 (rd_load f0_2 (HL.le.refl _) hst hi231 (by rintro _ rfl; rfl))) ?_)
 obtain ⟨y239, hq240, hm⟩ := bind_some hm
 refine wl_call z z (x_callv call78 (caps := [Pt b172 0, Pt b177 0]) z (vs := [F6 x227]) z) ?_
 refine Calls.mono (show Calls prog 78 #[F6 x227, Pt b172 0, Pt b177 0] _ (fun e w' => ∃ (z237 : Bool), z237 = y239 ∧ e = .returned (.bool z237) ∧ St w0 w' I [cells b167 [U6 a0.ID.Session, U6 a0.ID.Seq, U6 a0.Epoch, r0_0, r0_1, r0_2, r0_3], cells b172 [F6 a1], cells b177 [F6 a2]] R) from ?_) ?_
 {
 clear hm; have hm := hq240
 refine calls_start (args := [F6 x227, Pt b172 0, Pt b177 0]) func78 z ntmps78 (Nat.le_of_ble_eq_true z) ?_
 refine wp_seq (wrl (wv (.bool false) z z z (wl_nil (tn (wp_seq (wrl (wv (.float .f64 x227) z z z (wv (.float .f64 a1) z z (x_load z isAgg57 (hst.bc1 z)) (wv (.float .f64 a2) z z (x_load z isAgg57 (hst.bc0 z)) ?_)))))))))
 obtain ⟨t232, ht233, hm⟩ := bind_some hm
 refine wc call79 [F6 x227, F6 a1, F6 a2] z z z ?_
 refine (number_Within_ref hst.to0 ht233).mono ?_
 rintro _ w234 ⟨rfl, hst⟩
 refine ⟨_, z, ?_⟩
 replace hst := hst.of0
 refine wv (.bool t232) z z z (wl_nil (tn (wp_ret ?_)))
 refine post_ret (vs := [.bool t232]) results78 (rvs_cons (rv_tmp z) rvs_nil) ?_
 replace hst := hst.pull1.pull2.keep3
 obtain rfl := some_inj hm
 exact ⟨t232, z, z, hst⟩
}
 clear hst
 rintro _ w241 ⟨z237, rfl, rfl, hst⟩
 refine ⟨_, z, ?_⟩
 try dsimp only at hm
 refine wl_nil (tn ?_)
 refine bsplit z237 (fun hc242 => ?_) (fun hc242 => ?_)
 {
 replace hm := bif_t hc242 hm
 refine wp_ift (cvb hc242) ?_
 refine wp_seq (wrl (wv (.int .i64 z217) z z z (wv (.int .i64 z217) z z z (wl_nil (tn (wp_ret (blk_r (then_r (then_r ?_)))))))))
 replace hm := inr_up hm hx224
 refine blk_r (then_r ?_)
 refine post_ret (vs := [I6 z217]) results93 (rvs_cons (rv_tmp z) rvs_nil) ?_
 replace hst := hst.pull2.pull2.pull2.keep3
 obtain rfl := some_inj hm
 exact ⟨z217, z, z, hst⟩
}
 {
 replace hm := bif_f hc242 hm
 refine wp_iff (cvb hc242) ?_
 refine wp_skip (blk_n (tn (wrl ?_)))
 refine wv (.int .i64 (i64.wrap (z217 + (1:Int)))) z z z (wv (.int .i64 (i64.wrap (z217 + (1:Int)))) z z z (wl_nil (tn ?_)))
 replace hst := hst.pull1.pull2.keep3
 obtain rfl := some_inj hm
 exact ⟨_, Nat.lt_succ_self _, (i64.wrap (z217 + (1:Int))), _, hx224, (fu 0 r0_2 z (fu 1 (.func (.func 78) #[] #[Pt b172 0, Pt b177 0]) z (fu 7 (.int .i64 ((a0.Puts).length : Int)) z (fu 8 (.int .i64 (i64.wrap (z217 + (1:Int)))) z z)))), hst⟩
}
}
 {
 replace hm := bif_f hc226 hm
 refine wp_iff (cvb hc226) ?_
 refine wp_exit (then_x (then_x ?_))
 replace hm := inr_up hm hx224
 refine blk_x (tn (wp_seq (wrl ?_)))
 refine wv (.int .i64 ((-1):Int)) z z z (wl_nil (tn (wp_ret ?_)))
 refine post_ret (vs := [I6 ((-1):Int)]) results93 (rvs_cons (rv_tmp z) rvs_nil) ?_
 replace hst := hst.pull1.pull2.keep3
 obtain rfl := some_inj hm
 exact ⟨((-1):Int), z, z, hst⟩
}
}
 clear hst
 rintro _ w247 ⟨z243, rfl, rfl, hst⟩
 refine ⟨_, z, ?_⟩
 try dsimp only at hm
 refine wv (.bool (decide (z243 ≥ (0:Int)))) z z z (wv (.bool (decide (z243 ≥ (0:Int)))) z z z (wl_nil (tn (wp_ret ?_))))
 refine post_ret (vs := [.bool (decide (z243 ≥ (0:Int)))]) results77 (rvs_cons (rv_tmp z) rvs_nil) ?_
 replace hst := hst.pull2.pull2.pull2.keep3
 obtain rfl := some_inj hm
 exact ⟨(decide (z243 ≥ (0:Int))), z, z, hst⟩
}
 clear hst
 rintro _ w252 ⟨z248, rfl, rfl, hst⟩
 refine ⟨_, z, ?_⟩
 try dsimp only at hm
 refine wv (.bool z248) z z z (wl_nil (tn (wp_ret ?_)))
 obtain rfl := some_inj hm
 refine post_ret (vs := [.bool z248]) results52 (rvs_cons (rv_tmp z) rvs_nil) ?_
 exact ⟨z, hst.keep0⟩
}

theorem number_Same_ref {w0 w : World} {I : HL} {R : SP} {a0 : Nat} {a1 : Nat}  (hst : St w0 w I [] R) {r : (Bool)} (hm : number_Same a0 a1 = some r) :
  Calls prog 47 #[F6 a0, F6 a1] w fun e w' => e = .returned (.bool r) ∧ St w0 w' I [] R := by {
 unfold number_Same at hm
 refine calls_start (args := [F6 a0, F6 a1]) func47 z ntmps47 (Nat.le_of_ble_eq_true z) ?_
 refine wp_seq (wrl (wv (.bool false) z z z (wl_nil (tn (wp_seq (wrl (wv (.float .f64 a0) z z z ?_)))))))
 obtain ⟨t109, ht110, hm⟩ := bind_some hm
 refine wc call61 [F6 a0] z z z ?_
 refine (number_Rank_ref hst.to0 ht110).mono ?_
 rintro _ w111 ⟨rfl, hst⟩
 refine ⟨_, z, ?_⟩
 replace hst := hst.of0
 refine wv (.float .f64 a1) z z z ?_
 obtain ⟨t114, ht115, hm⟩ := bind_some hm
 refine wc call61 [F6 a1] z z z ?_
 refine (number_Rank_ref hst.to0 ht115).mono ?_
 rintro _ w116 ⟨rfl, hst⟩
 refine ⟨_, z, ?_⟩
 replace hst := hst.of0
 refine wv (.bool (t109 == t114)) z z z (wv (.bool (t109 == t114)) z z z (wl_nil (tn (wp_ret ?_))))
 obtain rfl := some_inj hm
 refine post_ret (vs := [.bool (t109 == t114)]) results47 (rvs_cons (rv_tmp z) rvs_nil) ?_
 exact ⟨z, hst.keep0⟩
}

theorem locks_reads_ref {w0 w : World} {I : HL} {R : SP} {a0 : api_Hold} {r0_0 : Value} {r0_1 : Value} {r0_2 : Value} {r0_3 : Value} {a1 : Nat} (f0_0 : Rd tyF64 R I r0_0 a0.Gets) (f0_1 : Rd tyF2 R I r0_1 a0.Scans) (f0_2 : Rd tyF64 R I r0_2 a0.Puts) (f0_3 : Rd (tyInt .u8) R I r0_3 a0.Data) (hst : St w0 w I [] R) {r : (Bool)} (hm : locks_reads a0 a1 = some r) :
  Calls prog 53 #[.agg #[U6 a0.ID.Session, U6 a0.ID.Seq, U6 a0.Epoch, r0_0, r0_1, r0_2, r0_3], F6 a1] w fun e w' => e = .returned (.bool r) ∧ St w0 w' I [] R := by {
 unfold locks_reads at hm
 refine calls_start (args := [.agg #[U6 a0.ID.Session, U6 a0.ID.Seq, U6 a0.Epoch, r0_0, r0_1, r0_2, r0_3], F6 a1]) func53 z ntmps53 (Nat.le_of_ble_eq_true z) ?_
 refine wp_seq (wrl ?_)
 obtain ⟨b255, w256, ew257, eb258, hst⟩ := hst.box [U6 a0.ID.Session, U6 a0.ID.Seq, U6 a0.Epoch, r0_0, r0_1, r0_2, r0_3] 34
 refine wl_run (v := Pt b255 0) (w' := w256) z z (x_al (by kernel_rfl) ew257 eb258) ?_
 obtain ⟨b260, w261, ew262, eb263, hst⟩ := hst.box [F6 a1] 57
 refine wl_run (v := Pt b260 0) (w' := w261) z z (x_al (by kernel_rfl) ew262 eb263) ?_
 refine wv (.bool false) z z z (wl_nil (tn (wp_seq (wrl (wv (Pt b255 3) z z (x_field z underlying34 z sizeOf30 z) (wv (r0_0) z z (x_load z isAgg30 (hst.bc1 z)) (wv (.func (.func 80) #[] #[Pt b260 0]) z z (by kernel_rfl) ?_)))))))
 obtain ⟨y333, hq334, hm⟩ := bind_some hm
 refine wl_call z z (x_callv call77 (caps := []) z (vs := [r0_0, .func (.func 80) #[] #[Pt b260 0]]) z) ?_
 refine Calls.mono (show Calls prog 77 #[r0_0, .func (.func 80) #[] #[Pt b260 0]] _ (fun e w' => ∃ (z331 : Bool), z331 = y333 ∧ e = .returned (.bool z331) ∧ St w0 w' I [cells b255 [U6 a0.ID.Session, U6 a0.ID.Seq, U6 a0.Epoch, r0_0, r0_1, r0_2, r0_3], cells b260 [F6 a1]] R) from ?_) ?_
 {
 clear hm; have hm := hq334
 refine calls_start (args := [r0_0, .func (.func 80) #[] #[Pt b260 0]]) func77 z ntmps77 (Nat.le_of_ble_eq_true z) ?_
 refine wp_seq (wrl (wv (.bool false) z z z (wl_nil (tn (wp_seq (wrl (wv (r0_0) z z z (wv (.func (.func 80) #[] #[Pt b260 0]) z z z ?_))))))))
 obtain ⟨y328, hq329, hm⟩ := bind_some hm
 refine wl_call z z (x_callv call93 (caps := []) z (vs := [r0_0, .func (.func 80) #[] #[Pt b260 0]]) z) ?_
 refine Calls.mono (show Calls prog 93 #[r0_0, .func (.func 80) #[] #[Pt b260 0]] _ (fun e w' => ∃ (z326 : Int), z326 = y328 ∧ e = .returned (.int .i64 z326) ∧ St w0 w' I [cells b255 [U6 a0.ID.Session, U6 a0.ID.Seq, U6 a0.Epoch, r0_0, r0_1, r0_2, r0_3], cells b260 [F6 a1]] R) from ?_) ?_
 {
 clear hm; have hm := hq329
 refine calls_start (args := [r0_0, .func (.func 80) #[] #[Pt b260 0]]) func93 z ntmps93 (Nat.le_of_ble_eq_true z) ?_
 refine wp_seq (wrl (wv (.int .i64 (0:Int)) z z z (wl_nil (tn (wp_seq (wp_seq (wrl (wv (r0_0) z z z (wv (.int .i64 ((a0.Gets).length : Int)) z z (x_len z underlying30 (rd_sliceV f0_0)) (wv (.int .i64 (0:Int)) z z z (wl_nil (tn (wp_block ?_)))))))))))))
 obtain ⟨n302, hm⟩ := loopO_some hm
 refine wp_loop_n (fun n a w => ∃ (z300 : Int) (σ301 : Nat → Value), loopN (locks_reads_l0 a0 a1) n z300 = some y328 ∧ a = Fr 19 (upd (upd (upd (upd σ301 0 (r0_0)) 1 (.func (.func 80) #[] #[Pt b260 0])) 7 (.int .i64 ((a0.Gets).length : Int))) 8 (.int .i64 z300)) ∧ St w0 w I [cells b260 [F6 a1], cells b255 [U6 a0.ID.Session, U6 a0.ID.Seq, U6 a0.Epoch, r0_0, r0_1, r0_2, r0_3]] R) n302 ⟨(0:Int), _, hm, (fu 0 r0_0 z (fu 1 (.func (.func 80) #[] #[Pt b260 0]) z (fu 7 (.int .i64 ((a0.Gets).length : Int)) z (fu 8 (.int .i64 (0:Int)) z z)))), hst⟩ ?_
 rintro n308 _ w303 ⟨z300, σ301, hm, rfl, hst⟩
 obtain ⟨n305, y306, rfl, hm, hx307⟩ := loopN_some hm
 dsimp only [locks_reads_l0] at hm
 refine wp_seq (wrl (wv (.bool (decide (z300 < ((a0.Gets).length : Int)))) z z z (wl_nil (tn (wp_seq ?_)))))
 refine bsplit (decide (z300 < ((a0.Gets).length : Int))) (fun hc309 => ?_) (fun hc309 => ?_)
 {
 replace hm := bif_t hc309 hm
 refine wp_ift (cvb hc309) ?_
 refine wp_skip (tn (wp_seq (wp_block (wp_seq (wrl ?_)))))
 refine wv (.int .i64 z300) z z z (wv (.int .i64 z300) z z z (wl_nil (tn (wp_seq (wrl (wv (.func (.func 80) #[] #[Pt b260 0]) z z z (wv (r0_0) z z z (wv (.int .i64 z300) z z z ?_))))))))
 obtain ⟨x310, hx311, hm⟩ := bind_some hm
 obtain ⟨h312, h313, hi314⟩ := geto_some hx311
 refine wv (.pointer (some (eAddr r0_0 (z300.toNat * 1 + 0)))) z z (x_index z z underlying30 sizeOf57 (rd_sliceV f0_0) h312 h313) (wv (.float .f64 x310) z z (x_load z isAgg57 (rd_load f0_0 (HL.le.refl _) hst hi314 (by rintro _ rfl; rfl))) ?_)
 obtain ⟨y322, hq323, hm⟩ := bind_some hm
 refine wl_call z z (x_callv call80 (caps := [Pt b260 0]) z (vs := [F6 x310]) z) ?_
 refine Calls.mono (show Calls prog 80 #[F6 x310, Pt b260 0] _ (fun e w' => ∃ (z320 : Bool), z320 = y322 ∧ e = .returned (.bool z320) ∧ St w0 w' I [cells b255 [U6 a0.ID.Session, U6 a0.ID.Seq, U6 a0.Epoch, r0_0, r0_1, r0_2, r0_3], cells b260 [F6 a1]] R) from ?_) ?_
 {
 clear hm; have hm := hq323
 refine calls_start (args := [F6 x310, Pt b260 0]) func80 z ntmps80 (Nat.le_of_ble_eq_true z) ?_
 refine wp_seq (wrl (wv (.bool false) z z z (wl_nil (tn (wp_seq (wrl (wv (.float .f64 a1) z z (x_load z isAgg57 (hst.bc0 z)) (wv (.float .f64 x310) z z z ?_))))))))
 obtain ⟨t315, ht316, hm⟩ := bind_some hm
 refine wc call47 [F6 a1, F6 x310] z z z ?_
 refine (number_Same_ref hst.to0 ht316).mono ?_
 rintro _ w317 ⟨rfl, hst⟩
 refine ⟨_, z, ?_⟩
 replace hst := hst.of0
 refine wv (.bool t315) z z z (wl_nil (tn (wp_ret ?_)))
 refine post_ret (vs := [.bool t315]) results80 (rvs_cons (rv_tmp z) rvs_nil) ?_
 replace hst := hst.pull1.keep2
 obtain rfl := some_inj hm
 exact ⟨t315, z, z, hst⟩
}
 clear hst
 rintro _ w324 ⟨z320, rfl, rfl, hst⟩
 refine ⟨_, z, ?_⟩
 try dsimp only at hm
 refine wl_nil (tn ?_)
 refine bsplit z320 (fun hc325 => ?_) (fun hc325 => ?_)
 {
 replace hm := bif_t hc325 hm
 refine wp_ift (cvb hc325) ?_
 refine wp_seq (wrl (wv (.int .i64 z300) z z z (wv (.int .i64 z300) z z z (wl_nil (tn (wp_ret (blk_r (then_r (then_r ?_)))))))))
 replace hm := inr_up hm hx307
 refine blk_r (then_r ?_)
 refine post_ret (vs := [I6 z300]) results93 (rvs_cons (rv_tmp z) rvs_nil) ?_
 replace hst := hst.pull1.pull1.keep2
 obtain rfl := some_inj hm
 exact ⟨z300, z, z, hst⟩
}
 {
 replace hm := bif_f hc325 hm
 refine wp_iff (cvb hc325) ?_
 refine wp_skip (blk_n (tn (wrl ?_)))
 refine wv (.int .i64 (i64.wrap (z300 + (1:Int)))) z z z (wv (.int .i64 (i64.wrap (z300 + (1:Int)))) z z z (wl_nil (tn ?_)))
 replace hst := hst.pull1.keep2
 obtain rfl := some_inj hm
 exact ⟨_, Nat.lt_succ_self _, (i64.wrap (z300 + (1:Int))), _, hx307, (fu 0 r0_0 z (fu 1 (.func (.func 80) #[] #[Pt b260 0]) z (fu 7 (.int .i64 ((a0.Gets).length : Int)) z (fu 8 (.int .i64 (i64.wrap (z300 + (1:Int)))) z z)))), hst⟩
}
}
 {
 replace hm := bif_f hc309 hm
 refine wp_iff (cvb hc309) ?_
 refine wp_exit (then_x (then_x ?_))
 replace hm := inr_up hm hx307
 refine blk_x (tn (wp_seq (wrl ?_)))
 refine wv (.int .i64 ((-1):Int)) z z z (wl_nil (tn (wp_ret ?_)))
 refine post_ret (vs := [I6 ((-1):Int)]) results93 (rvs_cons (rv_tmp z) rvs_nil) ?_
 replace hst := hst.pull1.keep2
 obtain rfl := some_inj hm
 exact ⟨((-1):Int), z, z, hst⟩
}
}
 clear hst
 rintro _ w330 ⟨z326, rfl, rfl, hst⟩
 refine ⟨_, z, ?_⟩
 try dsimp only at hm
 refine wv (.bool (decide (z326 ≥ (0:Int)))) z z z (wv (.bool (decide (z326 ≥ (0:Int)))) z z z (wl_nil (tn (wp_ret ?_))))
 refine post_ret (vs := [.bool (decide (z326 ≥ (0:Int)))]) results77 (rvs_cons (rv_tmp z) rvs_nil) ?_
 replace hst := hst.pull1.pull1.keep2
 obtain rfl := some_inj hm
 exact ⟨(decide (z326 ≥ (0:Int))), z, z, hst⟩
}
 clear hst
 rintro _ w335 ⟨z331, rfl, rfl, hst⟩
 refine ⟨_, z, ?_⟩
 try dsimp only at hm
 refine wv (.bool z331) z z z ?_
 refine bsplit z331 (fun hc336 => ?_) (fun hc336 => ?_)
 {
 replace hm := bif_t hc336 hm
 refine wo hc336 z z z z z z (wo hc336 z z z z z z (wo hc336 z z z z z z (wo hc336 z z z z z z (wv (.bool true) z z (x_pick_t hc336 z z) (wv (.bool true) z z z (wl_nil (tn (wp_ret ?_))))))))
 obtain rfl := some_inj hm
 refine post_ret (vs := [.bool true]) results53 (rvs_cons (rv_tmp z) rvs_nil) ?_
 exact ⟨z, hst.keep0⟩
}
 {
 replace hm := bif_f hc336 hm
 refine wv (Pt b255 4) ((wanted_eq z z z (cvb hc336)).trans z) z (x_field z underlying34 z sizeOf31 z) (wv (r0_1) ((wanted_eq z z z (cvb hc336)).trans z) z (x_load z isAgg31 (hst.bc0 z)) (wv (.func (.func 82) #[] #[Pt b260 0]) ((wanted_eq z z z (cvb hc336)).trans z) z (by kernel_rfl) ?_))
 obtain ⟨y420, hq421, hm⟩ := bind_some hm
 refine wl_call ((wanted_eq z z z (cvb hc336)).trans z) z (x_callv call81 (caps := []) z (vs := [r0_1, .func (.func 82) #[] #[Pt b260 0]]) z) ?_
 refine Calls.mono (show Calls prog 81 #[r0_1, .func (.func 82) #[] #[Pt b260 0]] _ (fun e w' => ∃ (z418 : Bool), z418 = y420 ∧ e = .returned (.bool z418) ∧ St w0 w' I [cells b255 [U6 a0.ID.Session, U6 a0.ID.Seq, U6 a0.Epoch, r0_0, r0_1, r0_2, r0_3], cells b260 [F6 a1]] R) from ?_) ?_
 {
 clear hm; have hm := hq421
 refine calls_start (args := [r0_1, .func (.func 82) #[] #[Pt b260 0]]) func81 z ntmps81 (Nat.le_of_ble_eq_true z) ?_
 refine wp_seq (wrl (wv (.bool false) z z z (wl_nil (tn (wp_seq (wrl (wv (r0_1) z z z (wv (.func (.func 82) #[] #[Pt b260 0]) z z z ?_))))))))
 obtain ⟨y415, hq416, hm⟩ := bind_some hm
 refine wl_call z z (x_callv call94 (caps := []) z (vs := [r0_1, .func (.func 82) #[] #[Pt b260 0]]) z) ?_
 refine Calls.mono (show Calls prog 94 #[r0_1, .func (.func 82) #[] #[Pt b260 0]] _ (fun e w' => ∃ (z413 : Int), z413 = y415 ∧ e = .returned (.int .i64 z413) ∧ St w0 w' I [cells b255 [U6 a0.ID.Session, U6 a0.ID.Seq, U6 a0.Epoch, r0_0, r0_1, r0_2, r0_3], cells b260 [F6 a1]] R) from ?_) ?_
 {
 clear hm; have hm := hq416
 refine calls_start (args := [r0_1, .func (.func 82) #[] #[Pt b260 0]]) func94 z ntmps94 (Nat.le_of_ble_eq_true z) ?_
 refine wp_seq (wrl (wv (.int .i64 (0:Int)) z z z (wl_nil (tn (wp_seq (wp_seq (wrl (wv (r0_1) z z z (wv (.int .i64 ((a0.Scans).length : Int)) z z (x_len z underlying31 (rd_sliceV f0_1)) (wv (.int .i64 (0:Int)) z z z (wl_nil (tn (wp_block ?_)))))))))))))
 obtain ⟨n384, hm⟩ := loopO_some hm
 refine wp_loop_n (fun n a w => ∃ (z382 : Int) (σ383 : Nat → Value), loopN (locks_reads_l1 a0 a1) n z382 = some y415 ∧ a = Fr 19 (upd (upd (upd (upd σ383 0 (r0_1)) 1 (.func (.func 82) #[] #[Pt b260 0])) 7 (.int .i64 ((a0.Scans).length : Int))) 8 (.int .i64 z382)) ∧ St w0 w I [cells b255 [U6 a0.ID.Session, U6 a0.ID.Seq, U6 a0.Epoch, r0_0, r0_1, r0_2, r0_3], cells b260 [F6 a1]] R) n384 ⟨(0:Int), _, hm, (fu 0 r0_1 z (fu 1 (.func (.func 82) #[] #[Pt b260 0]) z (fu 7 (.int .i64 ((a0.Scans).length : Int)) z (fu 8 (.int .i64 (0:Int)) z z)))), hst⟩ ?_
 rintro n390 _ w385 ⟨z382, σ383, hm, rfl, hst⟩
 obtain ⟨n387, y388, rfl, hm, hx389⟩ := loopN_some hm
 dsimp only [locks_reads_l1] at hm
 refine wp_seq (wrl (wv (.bool (decide (z382 < ((a0.Scans).length : Int)))) z z z (wl_nil (tn (wp_seq ?_)))))
 refine bsplit (decide (z382 < ((a0.Scans).length : Int))) (fun hc391 => ?_) (fun hc391 => ?_)
 {
 replace hm := bif_t hc391 hm
 refine wp_ift (cvb hc391) ?_
 refine wp_skip (tn (wp_seq (wp_block (wp_seq (wrl ?_)))))
 refine wv (.int .i64 z382) z z z (wv (.int .i64 z382) z z z (wl_nil (tn (wp_seq (wrl (wv (.func (.func 82) #[] #[Pt b260 0]) z z z (wv (r0_1) z z z (wv (.int .i64 z382) z z z ?_))))))))
 obtain ⟨x392, hx393, hm⟩ := bind_some hm
 obtain ⟨h394, h395, hi396⟩ := geto_some hx393
 refine wv (.pointer (some (eAddr r0_1 (z382.toNat * 2 + 0)))) z z (x_index z z underlying31 sizeOf75 (rd_sliceV f0_1) h394 h395) (wv (.agg #[F6 x392.1, F6 x392.2]) z z (x_loadN (cs := [F6 x392.1, F6 x392.2]) z isAgg75 sizeOf75 (rd_loadN f0_1 (HL.le.refl _) hst hi396 0 (by rintro _ rfl; rfl))) ?_)
 obtain ⟨y409, hq410, hm⟩ := bind_some hm
 refine wl_call z z (x_callv call82 (caps := [Pt b260 0]) z (vs := [.agg #[F6 x392.1, F6 x392.2]]) z) ?_
 refine Calls.mono (show Calls prog 82 #[.agg #[F6 x392.1, F6 x392.2], Pt b260 0] _ (fun e w' => ∃ (z407 : Bool), z407 = y409 ∧ e = .returned (.bool z407) ∧ St w0 w' I [cells b255 [U6 a0.ID.Session, U6 a0.ID.Seq, U6 a0.Epoch, r0_0, r0_1, r0_2, r0_3], cells b260 [F6 a1]] R) from ?_) ?_
 {
 clear hm; have hm := hq410
 refine calls_start (args := [.agg #[F6 x392.1, F6 x392.2], Pt b260 0]) func82 z ntmps82 (Nat.le_of_ble_eq_true z) ?_
 refine wp_seq (wrl ?_)
 obtain ⟨b397, w398, ew399, eb400, hst⟩ := hst.box [F6 x392.1, F6 x392.2] 75
 refine wl_run (v := Pt b397 0) (w' := w398) z z (x_al (by kernel_rfl) ew399 eb400) ?_
 refine wv (.bool false) z z z (wl_nil (tn (wp_seq (wrl (wv (.float .f64 a1) z z (x_load z isAgg57 (hst.bc2 z)) (wv (Pt b397 0) z z (x_index_arr (i := (0:Int)) z z underlying75 sizeOf57 (by decide) (by decide)) (wv (.float .f64 x392.1) z z (x_load z isAgg57 (hst.bc0 z)) (wv (Pt b397 1) z z (x_index_arr (i := (1:Int)) z z underlying75 sizeOf57 (by decide) (by decide)) (wv (.float .f64 x392.2) z z (x_load z isAgg57 (hst.bc0 z)) ?_)))))))))
 obtain ⟨t402, ht403, hm⟩ := bind_some hm
 refine wc call79 [F6 a1, F6 x392.1, F6 x392.2] z z z ?_
 refine (number_Within_ref hst.to0 ht403).mono ?_
 rintro _ w404 ⟨rfl, hst⟩
 refine ⟨_, z, ?_⟩
 replace hst := hst.of0
 refine wv (.bool t402) z z z (wl_nil (tn (wp_ret ?_)))
 refine post_ret (vs := [.bool t402]) results82 (rvs_cons (rv_tmp z) rvs_nil) ?_
 replace hst := hst.pull2.pull2.keep2
 obtain rfl := some_inj hm
 exact ⟨t402, z, z, hst⟩
}
 clear hst
 rintro _ w411 ⟨z407, rfl, rfl, hst⟩
 refine ⟨_, z, ?_⟩
 try dsimp only at hm
 refine wl_nil (tn ?_)
 refine bsplit z407 (fun hc412 => ?_) (fun hc412 => ?_)
 {
 replace hm := bif_t hc412 hm
 refine wp_ift (cvb hc412) ?_
 refine wp_seq (wrl (wv (.int .i64 z382) z z z (wv (.int .i64 z382) z z z (wl_nil (tn (wp_ret (blk_r (then_r (then_r ?_)))))))))
 replace hm := inr_up hm hx389
 refine blk_r (then_r ?_)
 refine post_ret (vs := [I6 z382]) results94 (rvs_cons (rv_tmp z) rvs_nil) ?_
 replace hst := hst.pull1.pull1.keep2
 obtain rfl := some_inj hm
 exact ⟨z382, z, z, hst⟩
}
 {
 replace hm := bif_f hc412 hm
 refine wp_iff (cvb hc412) ?_
 refine wp_skip (blk_n (tn (wrl ?_)))
 refine wv (.int .i64 (i64.wrap (z382 + (1:Int)))) z z z (wv (.int .i64 (i64.wrap (z382 + (1:Int)))) z z z (wl_nil (tn ?_)))
 replace hst := hst.pull1.pull1.keep2
 obtain rfl := some_inj hm
 exact ⟨_, Nat.lt_succ_self _, (i64.wrap (z382 + (1:Int))), _, hx389, (fu 0 r0_1 z (fu 1 (.func (.func 82) #[] #[Pt b260 0]) z (fu 7 (.int .i64 ((a0.Scans).length : Int)) z (fu 8 (.int .i64 (i64.wrap (z382 + (1:Int)))) z z)))), hst⟩
}
}
 {
 replace hm := bif_f hc391 hm
 refine wp_iff (cvb hc391) ?_
 refine wp_exit (then_x (then_x ?_))
 replace hm := inr_up hm hx389
 refine blk_x (tn (wp_seq (wrl ?_)))
 refine wv (.int .i64 ((-1):Int)) z z z (wl_nil (tn (wp_ret ?_)))
 refine post_ret (vs := [I6 ((-1):Int)]) results94 (rvs_cons (rv_tmp z) rvs_nil) ?_
 replace hst := hst.pull1.pull1.keep2
 obtain rfl := some_inj hm
 exact ⟨((-1):Int), z, z, hst⟩
}
}
 clear hst
 rintro _ w417 ⟨z413, rfl, rfl, hst⟩
 refine ⟨_, z, ?_⟩
 try dsimp only at hm
 refine wv (.bool (decide (z413 ≥ (0:Int)))) z z z (wv (.bool (decide (z413 ≥ (0:Int)))) z z z (wl_nil (tn (wp_ret ?_))))
 refine post_ret (vs := [.bool (decide (z413 ≥ (0:Int)))]) results81 (rvs_cons (rv_tmp z) rvs_nil) ?_
 replace hst := hst.pull1.pull1.keep2
 obtain rfl := some_inj hm
 exact ⟨(decide (z413 ≥ (0:Int))), z, z, hst⟩
}
 clear hst
 rintro _ w422 ⟨z418, rfl, rfl, hst⟩
 refine ⟨_, z, ?_⟩
 try dsimp only at hm
 refine wv (.bool z418) z z (x_pick_f hc336 z z) (wv (.bool z418) z z z (wl_nil (tn (wp_ret ?_))))
 obtain rfl := some_inj hm
 refine post_ret (vs := [.bool z418]) results53 (rvs_cons (rv_tmp z) rvs_nil) ?_
 exact ⟨z, hst.keep0⟩
}
}

theorem locks_Meet_ref {w0 w : World} {I : HL} {R : SP} {a0 : api_Hold} {r0_0 : Value} {r0_1 : Value} {r0_2 : Value} {r0_3 : Value} {a1 : api_Hold} {r1_0 : Value} {r1_1 : Value} {r1_2 : Value} {r1_3 : Value} (f0_0 : Rd tyF64 R I r0_0 a0.Gets) (f0_1 : Rd tyF2 R I r0_1 a0.Scans) (f0_2 : Rd tyF64 R I r0_2 a0.Puts) (f0_3 : Rd (tyInt .u8) R I r0_3 a0.Data) (f1_0 : Rd tyF64 R I r1_0 a1.Gets) (f1_1 : Rd tyF2 R I r1_1 a1.Scans) (f1_2 : Rd tyF64 R I r1_2 a1.Puts) (f1_3 : Rd (tyInt .u8) R I r1_3 a1.Data) (hst : St w0 w I [] R) {r : (Bool)} (hm : locks_Meet a0 a1 = some r) :
  Calls prog 19 #[.agg #[U6 a0.ID.Session, U6 a0.ID.Seq, U6 a0.Epoch, r0_0, r0_1, r0_2, r0_3], .agg #[U6 a1.ID.Session, U6 a1.ID.Seq, U6 a1.Epoch, r1_0, r1_1, r1_2, r1_3]] w fun e w' => e = .returned (.bool r) ∧ St w0 w' I [] R := by {
 unfold locks_Meet at hm
 refine calls_start (args := [.agg #[U6 a0.ID.Session, U6 a0.ID.Seq, U6 a0.Epoch, r0_0, r0_1, r0_2, r0_3], .agg #[U6 a1.ID.Session, U6 a1.ID.Seq, U6 a1.Epoch, r1_0, r1_1, r1_2, r1_3]]) func19 z ntmps19 (Nat.le_of_ble_eq_true z) ?_
 refine wp_seq (wrl ?_)
 obtain ⟨b190, w191, ew192, eb193, hst⟩ := hst.box [U6 a0.ID.Session, U6 a0.ID.Seq, U6 a0.Epoch, r0_0, r0_1, r0_2, r0_3] 34
 refine wl_run (v := Pt b190 0) (w' := w191) z z (x_al (by kernel_rfl) ew192 eb193) ?_
 obtain ⟨b195, w196, ew197, eb198, hst⟩ := hst.box [U6 a1.ID.Session, U6 a1.ID.Seq, U6 a1.Epoch, r1_0, r1_1, r1_2, r1_3] 34
 refine wl_run (v := Pt b195 0) (w' := w196) z z (x_al (by kernel_rfl) ew197 eb198) ?_
 refine wv (.bool false) z z z (wl_nil (tn ?_))
 obtain ⟨y266, hm, hx267⟩ := joinO_some hm
 refine wp_cut (fun a w => ∃ (σ264 : Nat → Value), (locks_Meet_j0 a1 a0) () = some r ∧ a = Fr 37 (upd (upd σ264 2 (Pt b190 0)) 3 (Pt b195 0)) ∧ St w0 w I [cells b190 [U6 a0.ID.Session, U6 a0.ID.Seq, U6 a0.Epoch, r0_0, r0_1, r0_2, r0_3], cells b195 [U6 a1.ID.Session, U6 a1.ID.Seq, U6 a1.Epoch, r1_0, r1_1, r1_2, r1_3]] R) ?_ ?_
 {
 refine wp_seq (wrl (wv (Pt b190 5) z z (x_field z underlying34 z sizeOf30 z) (wv (r0_2) z z (x_load z isAgg30 (hst.bc1 z)) (wv (.int .i64 ((a0.Puts).length : Int)) z z (x_len z underlying30 (rd_sliceV f0_2)) (wv (.int .i64 (0:Int)) z z z (wl_nil (tn (wp_block ?_))))))))
 obtain ⟨n239, hm⟩ := loopO_some hm
 refine wp_loop_n (fun n a w => ∃ (z237 : Int) (σ238 : Nat → Value), loopN (locks_Meet_l1 a0 a1) n z237 = some y266 ∧ a = Fr 37 (upd (upd (upd (upd (upd σ238 2 (Pt b190 0)) 3 (Pt b195 0)) 10 (r0_2)) 11 (.int .i64 ((a0.Puts).length : Int))) 12 (.int .i64 z237)) ∧ St w0 w I [cells b195 [U6 a1.ID.Session, U6 a1.ID.Seq, U6 a1.Epoch, r1_0, r1_1, r1_2, r1_3], cells b190 [U6 a0.ID.Session, U6 a0.ID.Seq, U6 a0.Epoch, r0_0, r0_1, r0_2, r0_3]] R) n239 ⟨(0:Int), _, hm, (fu 2 (Pt b190 0) z (fu 3 (Pt b195 0) z (fu 10 r0_2 z (fu 11 (.int .i64 ((a0.Puts).length : Int)) z (fu 12 (.int .i64 (0:Int)) z z))))), hst⟩ ?_
 rintro n245 _ w240 ⟨z237, σ238, hm, rfl, hst⟩
 obtain ⟨n242, y243, rfl, hm, hx244⟩ := loopN_some hm
 dsimp only [locks_Meet_l1] at hm
 refine wp_seq (wrl (wv (.bool (decide (z237 < ((a0.Puts).length : Int)))) z z z (wl_nil (tn (wp_seq ?_)))))
 refine bsplit (decide (z237 < ((a0.Puts).length : Int))) (fun hc246 => ?_) (fun hc246 => ?_)
 {
 replace hm := bif_t hc246 hm
 refine wp_ift (cvb hc246) ?_
 refine wp_skip (tn (wp_seq (wp_block (wp_seq (wrl ?_)))))
 obtain ⟨x247, hx248, hm⟩ := bind_some hm
 obtain ⟨h249, h250, hi251⟩ := geto_some hx248
 refine wv (.pointer (some (eAddr r0_2 (z237.toNat * 1 + 0)))) z z (x_index z z underlying30 sizeOf57 (rd_sliceV f0_2) h249 h250) (wv (.float .f64 x247) z z (x_load z isAgg57 (rd_load f0_2 (HL.le.refl _) hst hi251 (by rintro _ rfl; rfl))) (wv (.float .f64 x247) z z z (wl_nil (tn (wp_seq (wrl (wv (.agg #[U6 a1.ID.Session, U6 a1.ID.Seq, U6 a1.Epoch, r1_0, r1_1, r1_2, r1_3]) z z (x_loadN (cs := [U6 a1.ID.Session, U6 a1.ID.Seq, U6 a1.Epoch, r1_0, r1_1, r1_2, r1_3]) z isAgg34 sizeOf34 (hst.bcs0 0 z)) (wv (.float .f64 x247) z z z (wv (.float .f64 x247) z z z ?_)))))))))
 obtain ⟨t252, ht253, hm⟩ := bind_some hm
 refine wc call52 [.agg #[U6 a1.ID.Session, U6 a1.ID.Seq, U6 a1.Epoch, r1_0, r1_1, r1_2, r1_3], F6 x247, F6 x247] z z z ?_
 refine (locks_writes_ref (f1_0.mono (rd_weak _)) (f1_1.mono (rd_weak _)) (f1_2.mono (rd_weak _)) (f1_3.mono (rd_weak _)) hst.to0 ht253).mono ?_
 rintro _ w254 ⟨rfl, hst⟩
 refine ⟨_, z, ?_⟩
 replace hst := hst.of0
 refine wv (.bool t252) z z z ?_
 refine bsplit t252 (fun hc257 => ?_) (fun hc257 => ?_)
 {
 replace hm := bif_t hc257 hm
 refine wo hc257 z z z z z z (wo hc257 z z z z z z (wo hc257 z z z z z z (wv (.bool true) z z (x_pick_t hc257 z z) (wl_nil (tn ?_)))))
 refine wp_ift z ?_
 refine wp_seq (wrl (wv (.bool true) z z z (wl_nil (tn (wp_ret (blk_r (then_r (then_r ?_))))))))
 replace hm := inr_up hm hx244
 refine blk_r (then_r ?_)
 replace hm := inr_up hm hx267
 obtain rfl := some_inj hm
 refine post_ret (vs := [.bool true]) results19 (rvs_cons (rv_tmp z) rvs_nil) ?_
 exact ⟨z, hst.keep0⟩
}
 {
 replace hm := bif_f hc257 hm
 refine wv (.agg #[U6 a1.ID.Session, U6 a1.ID.Seq, U6 a1.Epoch, r1_0, r1_1, r1_2, r1_3]) ((wanted_eq z z z (cvb hc257)).trans z) z (x_loadN (cs := [U6 a1.ID.Session, U6 a1.ID.Seq, U6 a1.Epoch, r1_0, r1_1, r1_2, r1_3]) z isAgg34 sizeOf34 (hst.bcs0 0 z)) (wv (.float .f64 x247) ((wanted_eq z z z (cvb hc257)).trans z) z z ?_)
 obtain ⟨t258, ht259, hm⟩ := bind_some hm
 refine wl_call ((wanted_eq z z z (cvb hc257)).trans z) z (x_call call53 z (vs := [.agg #[U6 a1.ID.Session, U6 a1.ID.Seq, U6 a1.Epoch, r1_0, r1_1, r1_2, r1_3], F6 x247]) z) ?_
 refine (locks_reads_ref (f1_0.mono (rd_weak _)) (f1_1.mono (rd_weak _)) (f1_2.mono (rd_weak _)) (f1_3.mono (rd_weak _)) hst.to0 ht259).mono ?_
 rintro _ w260 ⟨rfl, hst⟩
 refine ⟨_, z, ?_⟩
 replace hst := hst.of0
 refine wv (.bool t258) z z (x_pick_f hc257 z z) (wl_nil (tn ?_))
 refine bsplit t258 (fun hc263 => ?_) (fun hc263 => ?_)
 {
 replace hm := bif_t hc263 hm
 refine wp_ift (cvb hc263) ?_
 refine wp_seq (wrl (wv (.bool true) z z z (wl_nil (tn (wp_ret (blk_r (then_r (then_r ?_))))))))
 replace hm := inr_up hm hx244
 refine blk_r (then_r ?_)
 replace hm := inr_up hm hx267
 obtain rfl := some_inj hm
 refine post_ret (vs := [.bool true]) results19 (rvs_cons (rv_tmp z) rvs_nil) ?_
 exact ⟨z, hst.keep0⟩
}
 {
 replace hm := bif_f hc263 hm
 refine wp_iff (cvb hc263) ?_
 refine wp_skip (blk_n (tn (wrl ?_)))
 refine wv (.int .i64 (i64.wrap (z237 + (1:Int)))) z z z (wv (.int .i64 (i64.wrap (z237 + (1:Int)))) z z z (wl_nil (tn ?_)))
 replace hst := hst.pull1.pull1.keep2
 obtain rfl := some_inj hm
 exact ⟨_, Nat.lt_succ_self _, (i64.wrap (z237 + (1:Int))), _, hx244, (fu 2 (Pt b190 0) z (fu 3 (Pt b195 0) z (fu 10 r0_2 z (fu 11 (.int .i64 ((a0.Puts).length : Int)) z (fu 12 (.int .i64 (i64.wrap (z237 + (1:Int)))) z z))))), hst⟩
}
}
}
 {
 replace hm := bif_f hc246 hm
 refine wp_iff (cvb hc246) ?_
 refine wp_exit (then_x (then_x ?_))
 replace hm := inr_up hm hx244
 refine blk_x (tn ?_)
 replace hst := hst.pull1.keep2
 obtain rfl := some_inj hm
 exact ⟨_, hx267, (fu 2 (Pt b190 0) z (fu 3 (Pt b195 0) z z)), hst⟩
}
}
 {
 clear hst
 rintro _ w268 ⟨σ264, hm, rfl, hst⟩
 dsimp only [locks_Meet_j0] at hm
 refine wp_seq (wp_seq (wrl (wv (Pt b195 5) z z (x_field z underlying34 z sizeOf30 z) (wv (r1_2) z z (x_load z isAgg30 (hst.bc1 z)) (wv (.int .i64 ((a1.Puts).length : Int)) z z (x_len z underlying30 (rd_sliceV f1_2)) (wv (.int .i64 (0:Int)) z z z (wl_nil (tn (wp_block ?_)))))))))
 replace hst := hst.pull1.sub
 obtain ⟨n296, hm⟩ := loopO_some hm
 refine wp_loop_n (fun n a w => ∃ (z294 : Int) (σ295 : Nat → Value), loopN (locks_Meet_l2 a1 a0) n z294 = some r ∧ a = Fr 37 (upd (upd (upd (upd σ295 2 (Pt b190 0)) 27 (r1_2)) 28 (.int .i64 ((a1.Puts).length : Int))) 29 (.int .i64 z294)) ∧ St w0 w I [cells b190 [U6 a0.ID.Session, U6 a0.ID.Seq, U6 a0.Epoch, r0_0, r0_1, r0_2, r0_3]] R) n296 ⟨(0:Int), _, hm, (fu 2 (Pt b190 0) z (fu 27 r1_2 z (fu 28 (.int .i64 ((a1.Puts).length : Int)) z (fu 29 (.int .i64 (0:Int)) z z)))), hst⟩ ?_
 rintro n302 _ w297 ⟨z294, σ295, hm, rfl, hst⟩
 obtain ⟨n299, y300, rfl, hm, hx301⟩ := loopN_some hm
 dsimp only [locks_Meet_l2] at hm
 refine wp_seq (wrl (wv (.bool (decide (z294 < ((a1.Puts).length : Int)))) z z z (wl_nil (tn (wp_seq ?_)))))
 refine bsplit (decide (z294 < ((a1.Puts).length : Int))) (fun hc303 => ?_) (fun hc303 => ?_)
 {
 replace hm := bif_t hc303 hm
 refine wp_ift (cvb hc303) ?_
 refine wp_skip (tn (wp_seq (wp_block (wp_seq (wrl ?_)))))
 obtain ⟨x304, hx305, hm⟩ := bind_some hm
 obtain ⟨h306, h307, hi308⟩ := geto_some hx305
 refine wv (.pointer (some (eAddr r1_2 (z294.toNat * 1 + 0)))) z z (x_index z z underlying30 sizeOf57 (rd_sliceV f1_2) h306 h307) (wv (.float .f64 x304) z z (x_load z isAgg57 (rd_load f1_2 (HL.le.refl _) hst hi308 (by rintro _ rfl; rfl))) (wv (.float .f64 x304) z z z (wl_nil (tn (wp_seq (wrl (wv (.agg #[U6 a0.ID.Session, U6 a0.ID.Seq, U6 a0.Epoch, r0_0, r0_1, r0_2, r0_3]) z z (x_loadN (cs := [U6 a0.ID.Session, U6 a0.ID.Seq, U6 a0.Epoch, r0_0, r0_1, r0_2, r0_3]) z isAgg34 sizeOf34 (hst.bcs0 0 z)) (wv (.float .f64 x304) z z z ?_))))))))
 obtain ⟨t309, ht310, hm⟩ := bind_some hm
 refine wc call53 [.agg #[U6 a0.ID.Session, U6 a0.ID.Seq, U6 a0.Epoch, r0_0, r0_1, r0_2, r0_3], F6 x304] z z z ?_
 refine (locks_reads_ref (f0_0.mono (rd_weak _)) (f0_1.mono (rd_weak _)) (f0_2.mono (rd_weak _)) (f0_3.mono (rd_weak _)) hst.to0 ht310).mono ?_
 rintro _ w311 ⟨rfl, hst⟩
 refine ⟨_, z, ?_⟩
 replace hst := hst.of0
 refine wl_nil (tn ?_)
 refine bsplit t309 (fun hc314 => ?_) (fun hc314 => ?_)
 {
 replace hm := bif_t hc314 hm
 refine wp_ift (cvb hc314) ?_
 refine wp_seq (wrl (wv (.bool true) z z z (wl_nil (tn (wp_ret (blk_r (then_r (then_r ?_))))))))
 replace hm := inr_up hm hx301
 refine blk_r (then_r ?_)
 obtain rfl := some_inj hm
 refine post_ret (vs := [.bool true]) results19 (rvs_cons (rv_tmp z) rvs_nil) ?_
 exact ⟨z, hst.keep0⟩
}
 {
 replace hm := bif_f hc314 hm
 refine wp_iff (cvb hc314) ?_
 refine wp_skip (blk_n (tn (wrl ?_)))
 refine wv (.int .i64 (i64.wrap (z294 + (1:Int)))) z z z (wv (.int .i64 (i64.wrap (z294 + (1:Int)))) z z z (wl_nil (tn ?_)))
 replace hst := hst.keep1
 obtain rfl := some_inj hm
 exact ⟨_, Nat.lt_succ_self _, (i64.wrap (z294 + (1:Int))), _, hx301, (fu 2 (Pt b190 0) z (fu 27 r1_2 z (fu 28 (.int .i64 ((a1.Puts).length : Int)) z (fu 29 (.int .i64 (i64.wrap (z294 + (1:Int)))) z z)))), hst⟩
}
}
 {
 replace hm := bif_f hc303 hm
 refine wp_iff (cvb hc303) ?_
 refine wp_exit (then_x (then_x ?_))
 replace hm := inr_up hm hx301
 refine blk_x (tn (wp_seq (wrl ?_)))
 refine wv (.bool false) z z z (wl_nil (tn (wp_ret ?_)))
 obtain rfl := some_inj hm
 refine post_ret (vs := [.bool false]) results19 (rvs_cons (rv_tmp z) rvs_nil) ?_
 exact ⟨z, hst.keep0⟩
}
}
}

theorem slices_Clone_float64_float64_ref {w0 w : World} {I : HL} {R : SP} {a0 : (List Nat)} {r0_0 : Value} (f0_0 : Rd tyF64 R I r0_0 a0) (hst : St w0 w I [] R) {r : (List Nat)} (hm : slices_Clone_float64_float64 a0 = some r) :
  Calls prog 37 #[r0_0] w fun e w' => ∃ (q0_0 : Value), e = .returned (q0_0) ∧ St w0 w' I [ownS tyF64 q0_0 r] R := by {
 unfold slices_Clone_float64_float64 at hm
 obtain ⟨hg, hm⟩ := gd_some hm
 obtain rfl := some_inj hm
 have hsv := rd_sliceV f0_0
 refine calls_start (args := [r0_0]) func37 z ntmps37 (Nat.le_of_ble_eq_true z) ?_
 refine wp_seq (wrl (wv ((.slice none 0 0)) z z z (wl_nil (tn (wp_seq (wp_seq (wrl (wv (r0_0) z z z (wv (.bool (isNil r0_0)) z z (x_slnil z hsv z underlying30) (wl_nil (tn ?_)))))))))))
 refine bsplit (isNil r0_0) (fun hc215 => ?_) (fun hc215 => ?_)
 {
 refine wp_ift (cvb hc215) ?_
 refine wp_seq (wrl (wv ((.slice none 0 0)) z z z (wl_nil (tn (wp_ret (then_r ?_))))))
 refine post_ret (vs := [Zs]) results37 (rvs_cons (rv_tmp z) rvs_nil) ?_
 obtain rfl := List.eq_nil_of_length_eq_zero (isNil_len hsv hc215)
 exact ⟨_, z, (hst.own_nil tyF64).keep1⟩
}
 {
 refine wp_iff (cvb hc215) ?_
 refine wp_skip (tn (wp_seq (wrl ?_)))
 obtain ⟨b, w1, ew, eb, hst⟩ := hst.lits (E := tyF64) (xs := []) [] 57 0 z Reps.nil
 refine wl_run (v := (.slice (some ⟨b, 0, none⟩) 0 0)) (w' := w1) z z (x_als (by kernel_rfl) ew eb) ?_
 refine wv (r0_0) z z z ?_
 obtain ⟨v2, w2, hr, hst⟩ := run_append elem_30 underlying30 hst (Src.of_rd hst f0_0 flat_f64) (room_of hg z) 30
 refine wl_run (v := v2) (w' := w2) z z (x_append z z hr) ?_
 refine wv (v2) z z z (wl_nil (tn (wp_ret ?_)))
 refine post_ret (vs := [v2]) results37 (rvs_cons (rv_tmp z) rvs_nil) ?_
 rw [List.nil_append] at hst
 exact ⟨_, z, hst.keep1⟩
}
}

theorem slices_Clone_2_float64_2_float64_ref {w0 w : World} {I : HL} {R : SP} {a0 : (List (Nat × Nat))} {r0_0 : Value} (f0_0 : Rd tyF2 R I r0_0 a0) (hst : St w0 w I [] R) {r : (List (Nat × Nat))} (hm : slices_Clone_2_float64_2_float64 a0 = some r) :
  Calls prog 38 #[r0_0] w fun e w' => ∃ (q0_0 : Value), e = .returned (q0_0) ∧ St w0 w' I [ownS tyF2 q0_0 r] R := by {
 unfold slices_Clone_2_float64_2_float64 at hm
 obtain ⟨hg, hm⟩ := gd_some hm
 obtain rfl := some_inj hm
 have hsv := rd_sliceV f0_0
 refine calls_start (args := [r0_0]) func38 z ntmps38 (Nat.le_of_ble_eq_true z) ?_
 refine wp_seq (wrl (wv ((.slice none 0 0)) z z z (wl_nil (tn (wp_seq (wp_seq (wrl (wv (r0_0) z z z (wv (.bool (isNil r0_0)) z z (x_slnil z hsv z underlying31) (wl_nil (tn ?_)))))))))))
 refine bsplit (isNil r0_0) (fun hc215 => ?_) (fun hc215 => ?_)
 {
 refine wp_ift (cvb hc215) ?_
 refine wp_seq (wrl (wv ((.slice none 0 0)) z z z (wl_nil (tn (wp_ret (then_r ?_))))))
 refine post_ret (vs := [Zs]) results38 (rvs_cons (rv_tmp z) rvs_nil) ?_
 obtain rfl := List.eq_nil_of_length_eq_zero (isNil_len hsv hc215)
 exact ⟨_, z, (hst.own_nil tyF2).keep1⟩
}
 {
 refine wp_iff (cvb hc215) ?_
 refine wp_skip (tn (wp_seq (wrl ?_)))
 obtain ⟨b, w1, ew, eb, hst⟩ := hst.lits (E := tyF2) (xs := []) [] 75 0 z Reps.nil
 refine wl_run (v := (.slice (some ⟨b, 0, none⟩) 0 0)) (w' := w1) z z (x_als (by kernel_rfl) ew eb) ?_
 refine wv (r0_0) z z z ?_
 obtain ⟨v2, w2, hr, hst⟩ := run_append elem_31 underlying31 hst (Src.of_rd hst f0_0 flat_f2) (room_of hg z) 31
 refine wl_run (v := v2) (w' := w2) z z (x_append z z hr) ?_
 refine wv (v2) z z z (wl_nil (tn (wp_ret ?_)))
 refine post_ret (vs := [v2]) results38 (rvs_cons (rv_tmp z) rvs_nil) ?_
 rw [List.nil_append] at hst
 exact ⟨_, z, hst.keep1⟩
}
}

theorem slices_Clone_byte_byte_ref {w0 w : World} {I : HL} {R : SP} {a0 : (List Int)} {r0_0 : Value} (f0_0 : Rd (tyInt .u8) R I r0_0 a0) (hst : St w0 w I [] R) {r : (List Int)} (hm : slices_Clone_byte_byte a0 = some r) :
  Calls prog 39 #[r0_0] w fun e w' => ∃ (q0_0 : Value), e = .returned (q0_0) ∧ St w0 w' I [ownS (tyInt .u8) q0_0 r] R := by {
 unfold slices_Clone_byte_byte at hm
 obtain ⟨hg, hm⟩ := gd_some hm
 obtain rfl := some_inj hm
 have hsv := rd_sliceV f0_0
 refine calls_start (args := [r0_0]) func39 z ntmps39 (Nat.le_of_ble_eq_true z) ?_
 refine wp_seq (wrl (wv ((.slice none 0 0)) z z z (wl_nil (tn (wp_seq (wp_seq (wrl (wv (r0_0) z z z (wv (.bool (isNil r0_0)) z z (x_slnil z hsv z underlying32) (wl_nil (tn ?_)))))))))))
 refine bsplit (isNil r0_0) (fun hc215 => ?_) (fun hc215 => ?_)
 {
 refine wp_ift (cvb hc215) ?_
 refine wp_seq (wrl (wv ((.slice none 0 0)) z z z (wl_nil (tn (wp_ret (then_r ?_))))))
 refine post_ret (vs := [Zs]) results39 (rvs_cons (rv_tmp z) rvs_nil) ?_
 obtain rfl := List.eq_nil_of_length_eq_zero (isNil_len hsv hc215)
 exact ⟨_, z, (hst.own_nil (tyInt .u8)).keep1⟩
}
 {
 refine wp_iff (cvb hc215) ?_
 refine wp_skip (tn (wp_seq (wrl ?_)))
 obtain ⟨b, w1, ew, eb, hst⟩ := hst.lits (E := (tyInt .u8)) (xs := []) [] 5 0 z Reps.nil
 refine wl_run (v := (.slice (some ⟨b, 0, none⟩) 0 0)) (w' := w1) z z (x_als (by kernel_rfl) ew eb) ?_
 refine wv (r0_0) z z z ?_
 obtain ⟨v2, w2, hr, hst⟩ := run_append elem_32 underlying32 hst (Src.of_rd hst f0_0 flat_int) (room_of hg z) 32
 refine wl_run (v := v2) (w' := w2) z z (x_append z z hr) ?_
 refine wv (v2) z z z (wl_nil (tn (wp_ret ?_)))
 refine post_ret (vs := [v2]) results39 (rvs_cons (rv_tmp z) rvs_nil) ?_
 rw [List.nil_append] at hst
 exact ⟨_, z, hst.keep1⟩
}
}

theorem cmp_isNaN_uint64_ref {w0 w : World} {I : HL} {R : SP} {a0 : Int}  (hst : St w0 w I [] R) {r : (Bool)} (hm : cmp_isNaN_uint64 a0 = some r) :
  Calls prog 95 #[U6 a0] w fun e w' => e = .returned (.bool r) ∧ St w0 w' I [] R := by {
 unfold cmp_isNaN_uint64 at hm
 refine calls_start (args := [U6 a0]) func95 z ntmps95 (Nat.le_of_ble_eq_true z) ?_
 refine wp_seq (wrl (wv (.bool false) z z z (wl_nil (tn (wp_seq (wrl (wv (.int .u64 a0) z z z (wv (.int .u64 a0) z z z (wv (.bool (a0 != a0)) z z z (wv (.bool (a0 != a0)) z z z (wl_nil (tn (wp_ret ?_)))))))))))))
 obtain rfl := some_inj hm
 refine post_ret (vs := [.bool (a0 != a0)]) results95 (rvs_cons (rv_tmp z) rvs_nil) ?_
 exact ⟨z, hst.keep0⟩
}

theorem cmp_Compare_uint64_ref {w0 w : World} {I : HL} {R : SP} {a0 : Int} {a1 : Int}  (hst : St w0 w I [] R) {r : (Int)} (hm : cmp_Compare_uint64 a0 a1 = some r) :
  Calls prog 86 #[U6 a0, U6 a1] w fun e w' => e = .returned (.int .i64 r) ∧ St w0 w' I [] R := by {
 unfold cmp_Compare_uint64 at hm
 refine calls_start (args := [U6 a0, U6 a1]) func86 z ntmps86 (Nat.le_of_ble_eq_true z) ?_
 refine wp_seq (wrl (wv (.int .i64 (0:Int)) z z z (wl_nil (tn (wp_seq (wrl (wv (.int .u64 a0) z z z ?_)))))))
 obtain ⟨t320, ht321, hm⟩ := bind_some hm
 refine wc call95 [U6 a0] z z z ?_
 refine (cmp_isNaN_uint64_ref hst.to0 ht321).mono ?_
 rintro _ w322 ⟨rfl, hst⟩
 refine ⟨_, z, ?_⟩
 replace hst := hst.of0
 refine wv (.bool t320) z z z (wl_nil (tn (wp_seq (wrl (wv (.int .u64 a1) z z z ?_)))))
 obtain ⟨t325, ht326, hm⟩ := bind_some hm
 refine wc call95 [U6 a1] z z z ?_
 refine (cmp_isNaN_uint64_ref hst.to0 ht326).mono ?_
 rintro _ w327 ⟨rfl, hst⟩
 refine ⟨_, z, ?_⟩
 replace hst := hst.of0
 refine wv (.bool t325) z z z (wl_nil (tn (wp_seq (wp_seq (wrl (wv (.bool t320) z z z (wl_nil (tn ?_))))))))
 refine bsplit t320 (fun hc330 => ?_) (fun hc330 => ?_)
 {
 replace hm := bif_t hc330 hm
 refine wp_ift (cvb hc330) ?_
 refine wp_seq (wp_seq (wrl (wv (.bool t325) z z z (wl_nil (tn ?_)))))
 refine bsplit t325 (fun hc331 => ?_) (fun hc331 => ?_)
 {
 replace hm := bif_t hc331 hm
 refine wp_ift (cvb hc331) ?_
 refine wp_seq (wrl (wv (.int .i64 (0:Int)) z z z (wl_nil (tn (wp_ret (then_r (then_r ?_)))))))
 obtain rfl := some_inj hm
 refine post_ret (vs := [Zi]) results86 (rvs_cons (rv_tmp z) rvs_nil) ?_
 exact ⟨z, hst.keep0⟩
}
 {
 replace hm := bif_f hc331 hm
 refine wp_iff (cvb hc331) ?_
 refine wp_skip (tn (wp_seq (wrl ?_)))
 refine wv (.int .i64 ((-1):Int)) z z z (wl_nil (tn (wp_ret (then_r ?_))))
 obtain rfl := some_inj hm
 refine post_ret (vs := [I6 ((-1):Int)]) results86 (rvs_cons (rv_tmp z) rvs_nil) ?_
 exact ⟨z, hst.keep0⟩
}
}
 {
 replace hm := bif_f hc330 hm
 refine wp_iff (cvb hc330) ?_
 refine wp_skip (tn (wp_seq (wp_seq (wrl ?_))))
 refine wv (.bool t325) z z z (wl_nil (tn ?_))
 refine bsplit t325 (fun hc332 => ?_) (fun hc332 => ?_)
 {
 replace hm := bif_t hc332 hm
 refine wp_ift (cvb hc332) ?_
 refine wp_seq (wrl (wv (.int .i64 (1:Int)) z z z (wl_nil (tn (wp_ret (then_r ?_))))))
 obtain rfl := some_inj hm
 refine post_ret (vs := [I6 (1:Int)]) results86 (rvs_cons (rv_tmp z) rvs_nil) ?_
 exact ⟨z, hst.keep0⟩
}
 {
 replace hm := bif_f hc332 hm
 refine wp_iff (cvb hc332) ?_
 refine wp_skip (tn (wp_seq (wp_seq (wrl ?_))))
 refine wv (.int .u64 a0) z z z (wv (.int .u64 a1) z z z (wv (.bool (decide (a0 < a1))) z z z (wl_nil (tn ?_))))
 refine bsplit (decide (a0 < a1)) (fun hc333 => ?_) (fun hc333 => ?_)
 {
 replace hm := bif_t hc333 hm
 refine wp_ift (cvb hc333) ?_
 refine wp_seq (wrl (wv (.int .i64 ((-1):Int)) z z z (wl_nil (tn (wp_ret (then_r ?_))))))
 obtain rfl := some_inj hm
 refine post_ret (vs := [I6 ((-1):Int)]) results86 (rvs_cons (rv_tmp z) rvs_nil) ?_
 exact ⟨z, hst.keep0⟩
}
 {
 replace hm := bif_f hc333 hm
 refine wp_iff (cvb hc333) ?_
 refine wp_skip (tn (wp_seq (wp_seq (wrl ?_))))
 refine wv (.int .u64 a0) z z z (wv (.int .u64 a1) z z z (wv (.bool (decide (a0 > a1))) z z z (wl_nil (tn ?_))))
 refine bsplit (decide (a0 > a1)) (fun hc334 => ?_) (fun hc334 => ?_)
 {
 replace hm := bif_t hc334 hm
 refine wp_ift (cvb hc334) ?_
 refine wp_seq (wrl (wv (.int .i64 (1:Int)) z z z (wl_nil (tn (wp_ret (then_r ?_))))))
 obtain rfl := some_inj hm
 refine post_ret (vs := [I6 (1:Int)]) results86 (rvs_cons (rv_tmp z) rvs_nil) ?_
 exact ⟨z, hst.keep0⟩
}
 {
 replace hm := bif_f hc334 hm
 refine wp_iff (cvb hc334) ?_
 refine wp_skip (tn (wp_seq (wrl ?_)))
 refine wv (.int .i64 (0:Int)) z z z (wl_nil (tn (wp_ret ?_)))
 obtain rfl := some_inj hm
 refine post_ret (vs := [Zi]) results86 (rvs_cons (rv_tmp z) rvs_nil) ?_
 exact ⟨z, hst.keep0⟩
}
}
}
}
}

theorem cmp_Or_int_ref {w0 w : World} {I : HL} {R : SP} {a0 : (List Int)} {r0_0 : Value} (f0_0 : Rd (tyInt .i64) R I r0_0 a0) (hst : St w0 w I [] R) {r : (Int)} (hm : cmp_Or_int a0 = some r) :
  Calls prog 85 #[r0_0] w fun e w' => e = .returned (.int .i64 r) ∧ St w0 w' I [] R := by {
 unfold cmp_Or_int at hm
 refine calls_start (args := [r0_0]) func85 z ntmps85 (Nat.le_of_ble_eq_true z) ?_
 refine wp_seq (wrl (wv (.int .i64 (0:Int)) z z z (wl_nil (tn (wp_seq (wrl (wv (.int .i64 (0:Int)) z z z (wl_nil (tn (wp_seq (wp_seq (wrl (wv (r0_0) z z z (wv (.int .i64 ((a0).length : Int)) z z (x_len z underlying123 (rd_sliceV f0_0)) (wv (.int .i64 (0:Int)) z z z (wl_nil (tn (wp_block ?_))))))))))))))))))
 obtain ⟨n355, hm⟩ := loopO_some hm
 refine wp_loop_n (fun n a w => ∃ (z353 : Int) (σ354 : Nat → Value), loopN (cmp_Or_int_l0 a0) n z353 = some r ∧ a = Fr 18 (upd (upd (upd (upd σ354 3 (.int .i64 (0:Int))) 6 (r0_0)) 7 (.int .i64 ((a0).length : Int))) 8 (.int .i64 z353)) ∧ St w0 w I [] R) n355 ⟨(0:Int), _, hm, (fu 3 (.int .i64 (0:Int)) z (fu 6 r0_0 z (fu 7 (.int .i64 ((a0).length : Int)) z (fu 8 (.int .i64 (0:Int)) z z)))), hst⟩ ?_
 rintro n361 _ w356 ⟨z353, σ354, hm, rfl, hst⟩
 obtain ⟨n358, y359, rfl, hm, hx360⟩ := loopN_some hm
 dsimp only [cmp_Or_int_l0] at hm
 refine wp_seq (wrl (wv (.bool (decide (z353 < ((a0).length : Int)))) z z z (wl_nil (tn (wp_seq ?_)))))
 refine bsplit (decide (z353 < ((a0).length : Int))) (fun hc362 => ?_) (fun hc362 => ?_)
 {
 replace hm := bif_t hc362 hm
 refine wp_ift (cvb hc362) ?_
 refine wp_skip (tn (wp_seq (wp_block (wp_seq (wrl ?_)))))
 obtain ⟨x363, hx364, hm⟩ := bind_some hm
 obtain ⟨h365, h366, hi367⟩ := geto_some hx364
 refine wv (.pointer (some (eAddr r0_0 (z353.toNat * 1 + 0)))) z z (x_index z z underlying123 sizeOf3 (rd_sliceV f0_0) h365 h366) (wv (.int .i64 x363) z z (x_load z isAgg3 (rd_load f0_0 (HL.le.refl _) hst hi367 (by rintro _ rfl; rfl))) (wv (.int .i64 x363) z z z (wl_nil (tn (wp_seq (wrl (wv (.int .i64 x363) z z z (wv (.int .i64 (0:Int)) z z z (wv (.bool (x363 != (0:Int))) z z z (wl_nil (tn ?_)))))))))))
 refine bsplit (x363 != (0:Int)) (fun hc368 => ?_) (fun hc368 => ?_)
 {
 replace hm := bif_t hc368 hm
 refine wp_ift (cvb hc368) ?_
 refine wp_seq (wrl (wv (.int .i64 x363) z z z (wv (.int .i64 x363) z z z (wl_nil (tn (wp_ret (blk_r (then_r (then_r ?_)))))))))
 replace hm := inr_up hm hx360
 refine blk_r (then_r ?_)
 obtain rfl := some_inj hm
 refine post_ret (vs := [I6 x363]) results85 (rvs_cons (rv_tmp z) rvs_nil) ?_
 exact ⟨z, hst.keep0⟩
}
 {
 replace hm := bif_f hc368 hm
 refine wp_iff (cvb hc368) ?_
 refine wp_skip (blk_n (tn (wrl ?_)))
 refine wv (.int .i64 (i64.wrap (z353 + (1:Int)))) z z z (wv (.int .i64 (i64.wrap (z353 + (1:Int)))) z z z (wl_nil (tn ?_)))
 replace hst := hst.keep0
 obtain rfl := some_inj hm
 exact ⟨_, Nat.lt_succ_self _, (i64.wrap (z353 + (1:Int))), _, hx360, (fu 3 (.int .i64 (0:Int)) z (fu 6 r0_0 z (fu 7 (.int .i64 ((a0).length : Int)) z (fu 8 (.int .i64 (i64.wrap (z353 + (1:Int)))) z z)))), hst⟩
}
}
 {
 replace hm := bif_f hc362 hm
 refine wp_iff (cvb hc362) ?_
 refine wp_exit (then_x (then_x ?_))
 replace hm := inr_up hm hx360
 refine blk_x (tn (wp_seq (wrl ?_)))
 refine wv (.int .i64 (0:Int)) z z z (wv (.int .i64 (0:Int)) z z z (wl_nil (tn (wp_ret ?_))))
 obtain rfl := some_inj hm
 refine post_ret (vs := [Zi]) results85 (rvs_cons (rv_tmp z) rvs_nil) ?_
 exact ⟨z, hst.keep0⟩
}
}

theorem locks_compare_ref {w0 w : World} {I : HL} {R : SP} {a0 : api_Hold} {r0_0 : Value} {r0_1 : Value} {r0_2 : Value} {r0_3 : Value} {a1 : api_ID} (f0_0 : Rd tyF64 R I r0_0 a0.Gets) (f0_1 : Rd tyF2 R I r0_1 a0.Scans) (f0_2 : Rd tyF64 R I r0_2 a0.Puts) (f0_3 : Rd (tyInt .u8) R I r0_3 a0.Data) (hst : St w0 w I [] R) {r : (Int)} (hm : locks_compare a0 a1 = some r) :
  Calls prog 59 #[.agg #[U6 a0.ID.Session, U6 a0.ID.Seq, U6 a0.Epoch, r0_0, r0_1, r0_2, r0_3], .agg #[U6 a1.Session, U6 a1.Seq]] w fun e w' => e = .returned (.int .i64 r) ∧ St w0 w' I [] R := by {
 unfold locks_compare at hm
 refine calls_start (args := [.agg #[U6 a0.ID.Session, U6 a0.ID.Seq, U6 a0.Epoch, r0_0, r0_1, r0_2, r0_3], .agg #[U6 a1.Session, U6 a1.Seq]]) func59 z ntmps59 (Nat.le_of_ble_eq_true z) ?_
 refine wp_seq (wrl ?_)
 obtain ⟨b331, w332, ew333, eb334, hst⟩ := hst.box [U6 a0.ID.Session, U6 a0.ID.Seq, U6 a0.Epoch, r0_0, r0_1, r0_2, r0_3] 34
 refine wl_run (v := Pt b331 0) (w' := w332) z z (x_al (by kernel_rfl) ew333 eb334) ?_
 obtain ⟨b336, w337, ew338, eb339, hst⟩ := hst.box [U6 a1.Session, U6 a1.Seq] 29
 refine wl_run (v := Pt b336 0) (w' := w337) z z (x_al (by kernel_rfl) ew338 eb339) ?_
 refine wv (.int .i64 (0:Int)) z z z (wl_nil (tn (wp_seq ?_)))
 refine wp_region_St hst 15 [0, 1, 2, 3, 4, 5, 6, 7, 8, 9, 10, 11, 12, 13, 14] [0, 1, 3, 0, 8, 31, 0, 64, 192, 0, 512, 2047, 4095, 8191, 16383] [] z (by kernel_rfl) (by kernel_rfl) Try.mixed (by kernel_rfl) ?_
 refine wsr (Pt b331 0) 0 z z z (by kernel_rfl) (fun w hst => x_field z underlying34 z sizeOf29 z) (wsr (Pt b331 0) 1 z z z (by kernel_rfl) (fun w hst => x_field z underlying29 z sizeOf27 z) (wsr (.int .u64 a0.ID.Session) 2 z z z (by kernel_rfl) (fun w hst => x_load z isAgg27 (hst.bc1 z)) (wsr (Pt b336 0) 3 z z z (by kernel_rfl) (fun w hst => x_field z underlying29 z sizeOf27 z) (wsr (.int .u64 a1.Session) 4 z z z (by kernel_rfl) (fun w hst => x_load z isAgg27 (hst.bc0 z)) (wsr (Pt b331 0) 6 z z z (by kernel_rfl) (fun w hst => x_field z underlying34 z sizeOf29 z) (wsr (Pt b331 1) 7 z z z (by kernel_rfl) (fun w hst => x_field z underlying29 z sizeOf27 z) (wsr (.int .u64 a0.ID.Seq) 8 z z z (by kernel_rfl) (fun w hst => x_load z isAgg27 (hst.bc1 z)) (wsr (Pt b336 1) 9 z z z (by kernel_rfl) (fun w hst => x_field z underlying29 z sizeOf27 z) (wsr (.int .u64 a1.Seq) 10 z z z (by kernel_rfl) (fun w hst => x_load z isAgg27 (hst.bc0 z)) ?_)))))))))
 refine ws_e1 5 (by kernel_rfl) ?_
 refine nxe [11, 12, 13, 14] (by kernel_rfl) z z ?_
 clear hst
 intro w hst
 obtain ⟨t341, ht342, hm⟩ := bind_some hm
 refine wec call86 [U6 a0.ID.Session, U6 a1.Session] z z ?_
 refine (cmp_Compare_uint64_ref hst.to0 ht342).mono ?_
 rintro _ w343 ⟨rfl, hst⟩
 refine ⟨_, z, ?_⟩
 replace hst := hst.of0
 refine ws_next (pend' := [(10, U6 a1.Seq), (9, Pt b336 1), (8, U6 a0.ID.Seq), (7, Pt b331 1), (6, Pt b331 0)]) hst (by kernel_rfl) (pkr z z (fun w hst => x_load z isAgg27 (hst.bc0 z)) (pkr z z (fun w hst => x_field z underlying29 z sizeOf27 z) (pkr z z (fun w hst => x_load z isAgg27 (hst.bc1 z)) (pkr z z (fun w hst => x_field z underlying29 z sizeOf27 z) (pkr z z (fun w hst => x_field z underlying34 z sizeOf29 z) pk_nil))))) ?_
 refine ws_e1 11 (by kernel_rfl) ?_
 refine nxe [12, 13, 14] (by kernel_rfl) z z ?_
 clear hst
 intro w hst
 obtain ⟨t346, ht347, hm⟩ := bind_some hm
 refine wec call86 [U6 a0.ID.Seq, U6 a1.Seq] z z ?_
 refine (cmp_Compare_uint64_ref hst.to0 ht347).mono ?_
 rintro _ w348 ⟨rfl, hst⟩
 refine ⟨_, z, ?_⟩
 replace hst := hst.of0
 refine ws_next (pend' := []) hst (by kernel_rfl) pk_nil ?_
 refine ws_e1 12 (by kernel_rfl) ?_
 refine nxe [13, 14] (by kernel_rfl) z z ?_
 clear hst
 intro w hst
 obtain ⟨b351, w352, ew353, eb354, hst⟩ := hst.lits (E := (tyInt .i64)) (xs := [t341, t346]) [[I6 t341], [I6 t346]] 3 2 z (Reps.cons z (Reps.cons z Reps.nil))
 refine we_run (v := (.slice (some ⟨b351, 0, none⟩) 2 2)) (w' := w352) z (x_als (by kernel_rfl) ew353 eb354) ?_
 refine ws_next (pend' := []) hst (by kernel_rfl) pk_nil ?_
 refine ws_e1 13 (by kernel_rfl) ?_
 refine nxe [14] (by kernel_rfl) z z ?_
 clear hst
 intro w hst
 obtain ⟨css356, hq357, hst⟩ := hst.own_open
 obtain ⟨t358, ht359, hm⟩ := bind_some hm
 refine wec call85 [(.slice (some ⟨b351, 0, none⟩) 2 2)] z z ?_
 refine (cmp_Or_int_ref (hst.rdrow0 hq357) hst.to0 ht359).mono ?_
 rintro _ w360 ⟨rfl, hst⟩
 refine ⟨_, z, ?_⟩
 replace hst := hst.of0.own_close hq357
 refine ws_next (pend' := []) hst (by kernel_rfl) pk_nil ?_
 refine wsr (.int .i64 t358) 14 z z z (by kernel_rfl) (fun w hst => z) ?_
 refine ws_nil ?_
 intro w hst
 refine tn (wp_ret ?_)
 obtain rfl := some_inj hm
 refine post_ret (vs := [I6 t358]) results59 (rvs_cons (rv_tmp z) rvs_nil) ?_
 exact ⟨z, hst.keep0⟩
}

theorem locks_Table_find_ref {w0 w : World} {I : HL} {R : SP} {a0 : (Option locks_Table)} {p0 : Value} {a1 : api_ID}  (hst : St w0 w I [objO at_locks_Table p0 a0] R) {r : (Int × Bool)} (hm : locks_Table_find a0 a1 = some r) :
  Calls prog 40 #[p0, .agg #[U6 a1.Session, U6 a1.Seq]] w fun e w' => e = .returned (.tuple #[I6 r.1, .bool r.2]) ∧ St w0 w' I [objO at_locks_Table p0 a0] R := by {
 rcases a0 with _ | o0
 {
 obtain ⟨rfl, hst'⟩ := objO_none hst
 clear hst
 have hst := hst'
 clear hst'
 dsimp only [locks_Table_find] at hm
 refine calls_start (args := [.pointer none, .agg #[U6 a1.Session, U6 a1.Seq]]) func40 z ntmps40 (Nat.le_of_ble_eq_true z) ?_
 refine wp_seq (wrl ?_)
 obtain ⟨b408, w409, ew410, eb411, hst⟩ := hst.box [U6 a1.Session, U6 a1.Seq] 29
 refine wl_run (v := Pt b408 0) (w' := w409) z z (x_al (by kernel_rfl) ew410 eb411) ?_
 refine wv (.int .i64 (0:Int)) z z z (wv (.bool false) z z z (wl_nil (tn (wp_seq (wp_seq (wrl (wv (.pointer none) z z z (wv (.bool true) z z (by kernel_rfl) (wl_nil (tn ?_))))))))))
 refine wp_ift z ?_
 refine wp_seq (wrl (wv (.int .i64 (0:Int)) z z z (wv (.bool false) z z z (wl_nil (tn (wp_ret (then_r ?_)))))))
 replace hst := hst.objO_nil at_locks_Table
 obtain rfl := some_inj hm
 refine post_ret (vs := [Zi, .bool false]) results40 (rvs_cons (rv_tmp z) (rvs_cons (rv_tmp z) rvs_nil)) ?_
 exact ⟨z, hst.keep1⟩
}
 {
 replace hst := objO_get hst
 dsimp only [locks_Table_find] at hm
 refine calls_start (args := [p0, .agg #[U6 a1.Session, U6 a1.Seq]]) func40 z ntmps40 (Nat.le_of_ble_eq_true z) ?_
 refine wp_seq (wrl ?_)
 obtain ⟨b413, w414, ew415, eb416, hst⟩ := hst.box [U6 a1.Session, U6 a1.Seq] 29
 refine wl_run (v := Pt b413 0) (w' := w414) z z (x_al (by kernel_rfl) ew415 eb416) ?_
 refine wv (.int .i64 (0:Int)) z z z (wv (.bool false) z z z (wl_nil (tn (wp_seq (wp_seq (wrl (wv (p0) z z z ?_)))))))
 replace hst := hst.pull1
 obtain ⟨b418, v419, rfl, hst'⟩ := at_locks_Table_open hst
 clear hst
 have hst := hst'
 clear hst'
 refine wv (.bool false) z z (by kernel_rfl) (wl_nil (tn ?_))
 refine wp_iff z ?_
 refine wp_skip (tn (wp_seq ?_))
 refine wp_region_St hst 10 [0, 1, 2, 3, 4, 5, 6, 7, 8, 9] [0, 1, 3, 7, 0, 31, 63, 63, 255, 511] [] z (by kernel_rfl) (by kernel_rfl) Try.mixed (by kernel_rfl) ?_
 refine wsr (Pt b418 0) 0 z z z (by kernel_rfl) (fun w hst => z) (wsr (Pt b418 0) 1 z z z (by kernel_rfl) (fun w hst => z) (wsr (Pt b418 0) 2 z z z (by kernel_rfl) (fun w hst => x_field z underlying77 z sizeOf22 z) (wsr (v419) 3 z z z (by kernel_rfl) (fun w hst => x_load z isAgg22 (hst.bc0 z)) (wsr (.agg #[U6 a1.Session, U6 a1.Seq]) 4 z z z (by kernel_rfl) (fun w hst => x_loadN (cs := [U6 a1.Session, U6 a1.Seq]) z isAgg29 sizeOf29 (hst.bcs2 0 z)) ?_))))
 refine ws_e1 5 (by kernel_rfl) ?_
 refine nxe [6, 7, 8, 9] (by kernel_rfl) z z ?_
 clear hst
 intro w hst
 obtain ⟨y562, hq563, hm⟩ := bind_some hm
 refine we_call z (x_callv call71 (caps := []) z (vs := [v419, .agg #[U6 a1.Session, U6 a1.Seq], .func (.func 59) #[] #[]]) z) ?_
 refine Calls.mono (show Calls prog 71 #[v419, .agg #[U6 a1.Session, U6 a1.Seq], .func (.func 59) #[] #[]] _ (fun e w' => ∃ (z559 : Int) (z560 : Bool), (z559, z560) = y562 ∧ e = .returned (.tuple #[I6 z559, .bool z560]) ∧ St w0 w' I [cells b418 [v419], ownS ty_api_Hold v419 o0.l, cells b413 [U6 a1.Session, U6 a1.Seq]] R) from ?_) ?_
 {
 clear hm; have hm := hq563
 refine calls_start (args := [v419, .agg #[U6 a1.Session, U6 a1.Seq], .func (.func 59) #[] #[]]) func71 z ntmps71 (Nat.le_of_ble_eq_true z) ?_
 refine wp_seq (wrl ?_)
 obtain ⟨b421, w422, ew423, eb424, hst⟩ := hst.box [U6 a1.Session, U6 a1.Seq] 29
 refine wl_run (v := Pt b421 0) (w' := w422) z z (x_al (by kernel_rfl) ew423 eb424) ?_
 refine wv (.int .i64 (0:Int)) z z z (wv (.bool false) z z z (wl_nil (tn (wp_seq (wrl (wv (v419) z z z (wv (.int .i64 ((o0.l).length : Int)) z z (x_len z underlying22 hst.sv2) (wv (.int .i64 ((o0.l).length : Int)) z z z (wl_nil (tn (wp_seq (wrl (wv (.int .i64 ((o0.l).length : Int)) z z z (wv (.int .i64 (0:Int)) z z z (wv (.int .i64 ((o0.l).length : Int)) z z z (wl_nil (tn ?_)))))))))))))))))
 obtain ⟨y528, hm, hx529⟩ := bind_some hm
 refine wp_cut (fun a w => ∃ (z525 : Int) (σ526 : Nat → Value), (locks_Table_find_j0 o0 a1) z525 = some y562 ∧ a = Fr 49 (upd (upd (upd (upd (upd σ526 0 (v419)) 2 (.func (.func 59) #[] #[])) 4 (Pt b421 0)) 8 (.int .i64 ((o0.l).length : Int))) 9 (.int .i64 z525)) ∧ St w0 w I [ownS ty_api_Hold v419 o0.l, cells b421 [U6 a1.Session, U6 a1.Seq], cells b418 [v419], cells b413 [U6 a1.Session, U6 a1.Seq]] R) ?_ ?_
 {
 refine wp_block ?_
 obtain ⟨n489, hm⟩ := loopO_some hm
 refine wp_loop_n (fun n a w => ∃ (z486 : Int) (z487 : Int) (σ488 : Nat → Value), loopN (locks_Table_find_l1 o0 a1) n (z486, z487) = some y528 ∧ a = Fr 49 (upd (upd (upd (upd (upd (upd σ488 0 (v419)) 2 (.func (.func 59) #[] #[])) 4 (Pt b421 0)) 8 (.int .i64 ((o0.l).length : Int))) 9 (.int .i64 z487)) 10 (.int .i64 z486)) ∧ St w0 w I [cells b421 [U6 a1.Session, U6 a1.Seq], cells b418 [v419], ownS ty_api_Hold v419 o0.l, cells b413 [U6 a1.Session, U6 a1.Seq]] R) n489 ⟨((o0.l).length : Int), (0:Int), _, hm, (fu 0 v419 z (fu 2 (.func (.func 59) #[] #[]) z (fu 4 (Pt b421 0) z (fu 8 (.int .i64 ((o0.l).length : Int)) z (fu 9 (.int .i64 (0:Int)) z (fu 10 (.int .i64 ((o0.l).length : Int)) z z)))))), hst⟩ ?_
 rintro n495 _ w490 ⟨z486, z487, σ488, hm, rfl, hst⟩
 obtain ⟨n492, y493, rfl, hm, hx494⟩ := loopN_some hm
 dsimp only [locks_Table_find_l1] at hm
 refine wp_seq (wp_seq (wrl (wv (.int .i64 z487) z z z (wv (.int .i64 z486) z z z (wv (.bool (decide (z487 < z486))) z z z (wl_nil (tn ?_)))))))
 refine bsplit (decide (z487 < z486)) (fun hc496 => ?_) (fun hc496 => ?_)
 {
 replace hm := bif_t hc496 hm
 refine wp_ift (cvb hc496) ?_
 refine wp_skip (tn (wp_block (wp_seq (wrl ?_))))
 refine wv (.int .i64 z487) z z z (wv (.int .i64 z486) z z z (wv (.int .i64 (i64.wrap (z487 + z486))) z z z (wv (.int .u64 (u64.wrap (i64.wrap (z487 + z486)))) z z (by kernel_rfl) (wv (.int .u64 (iShr .u64 (u64.wrap (i64.wrap (z487 + z486))) (1:Int))) z z (x_shr (by decide) z z) (wv (.int .i64 (i64.wrap (iShr .u64 (u64.wrap (i64.wrap (z487 + z486))) (1:Int)))) z z (by kernel_rfl) (wv (.int .i64 (i64.wrap (iShr .u64 (u64.wrap (i64.wrap (z487 + z486))) (1:Int)))) z z z (wl_nil (tn (wp_seq ?_)))))))))
 replace hst := hst.pull2
 obtain ⟨css497, hq498, hst⟩ := hst.own_open
 refine wp_region_St hst 8 [0, 1, 2, 3, 4, 5, 6, 7] [0, 0, 0, 6, 14, 0, 63, 127] [] z (by kernel_rfl) (by kernel_rfl) Try.mixed (by kernel_rfl) ?_
 refine wsr (.func (.func 59) #[] #[]) 0 z z z (by kernel_rfl) (fun w hst => z) (wsr (v419) 1 z z z (by kernel_rfl) (fun w hst => z) (wsr (.int .i64 (i64.wrap (iShr .u64 (u64.wrap (i64.wrap (z487 + z486))) (1:Int)))) 2 z z z (by kernel_rfl) (fun w hst => z) ?_))
 obtain ⟨x499, hx500, hm⟩ := bind_some hm
 obtain ⟨h501, h502, hi503⟩ := geto_some hx500
 refine wsr (.pointer (some (eAddr v419 ((i64.wrap (iShr .u64 (u64.wrap (i64.wrap (z487 + z486))) (1:Int))).toNat * 7 + 0)))) 3 z z z (by kernel_rfl) (fun w hst => x_index z z underlying22 sizeOf34 (hst.rsv 0 z hq498) h501 h502) ?_
 obtain ⟨cs504, hc506, hr505⟩ := Reps.get hq498 hi503
 obtain ⟨v507, v510, v513, v516, rfl, f508, f511, f514, f517, -⟩ := hr505
 refine wsr (.agg #[U6 x499.ID.Session, U6 x499.ID.Seq, U6 x499.Epoch, v507, v510, v513, v516]) 4 z z z (by kernel_rfl) (fun w hst => x_loadN (cs := [U6 x499.ID.Session, U6 x499.ID.Seq, U6 x499.Epoch, v507, v510, v513, v516]) z isAgg34 sizeOf34 (eCells (o := 0) (hst.rcell 0 z hc506) z)) (wsr (.agg #[U6 a1.Session, U6 a1.Seq]) 5 z z z (by kernel_rfl) (fun w hst => x_loadN (cs := [U6 a1.Session, U6 a1.Seq]) z isAgg29 sizeOf29 (hst.bcs1 0 z)) ?_)
 refine ws_e1 6 (by kernel_rfl) ?_
 refine nxe [7] (by kernel_rfl) z z ?_
 clear hst
 intro w hst
 obtain ⟨t519, ht520, hm⟩ := bind_some hm
 refine we_call z (x_callv call59 (caps := []) z (vs := [.agg #[U6 x499.ID.Session, U6 x499.ID.Seq, U6 x499.Epoch, v507, v510, v513, v516], .agg #[U6 a1.Session, U6 a1.Seq]]) z) ?_
 refine (locks_compare_ref (f508.mono ro_rd) (f511.mono ro_rd) (f514.mono ro_rd) (f517.mono ro_rd) hst.to0 ht520).mono ?_
 rintro _ w521 ⟨rfl, hst⟩
 refine ⟨_, z, ?_⟩
 replace hst := hst.of0
 refine ws_next (pend' := []) hst (by kernel_rfl) pk_nil ?_
 refine wsr (.bool (decide (t519 < (0:Int)))) 7 z z z (by kernel_rfl) (fun w hst => z) ?_
 refine ws_nil ?_
 intro w hst
 replace hst := hst.own_close hq498
 refine tn ?_
 refine bsplit (decide (t519 < (0:Int))) (fun hc524 => ?_) (fun hc524 => ?_)
 {
 replace hm := bif_t hc524 hm
 refine wp_ift (cvb hc524) ?_
 refine wrl (wv (.int .i64 (i64.wrap (iShr .u64 (u64.wrap (i64.wrap (z487 + z486))) (1:Int)))) z z z (wv (.int .i64 (i64.wrap ((i64.wrap (iShr .u64 (u64.wrap (i64.wrap (z487 + z486))) (1:Int))) + (1:Int)))) z z z (wv (.int .i64 (i64.wrap ((i64.wrap (iShr .u64 (u64.wrap (i64.wrap (z487 + z486))) (1:Int))) + (1:Int)))) z z z (wl_nil (blk_n (tn ?_))))))
 replace hst := hst.pull3.pull1.pull3.pull3.keep4
 obtain rfl := some_inj hm
 exact ⟨_, Nat.lt_succ_self _, z486, (i64.wrap ((i64.wrap (iShr .u64 (u64.wrap (i64.wrap (z487 + z486))) (1:Int))) + (1:Int))), _, hx494, (fu 0 v419 z (fu 2 (.func (.func 59) #[] #[]) z (fu 4 (Pt b421 0) z (fu 8 (.int .i64 ((o0.l).length : Int)) z (fu 9 (.int .i64 (i64.wrap ((i64.wrap (iShr .u64 (u64.wrap (i64.wrap (z487 + z486))) (1:Int))) + (1:Int)))) z (fu 10 (.int .i64 z486) z z)))))), hst⟩
}
 {
 replace hm := bif_f hc524 hm
 refine wp_iff (cvb hc524) ?_
 refine wrl (wv (.int .i64 (i64.wrap (iShr .u64 (u64.wrap (i64.wrap (z487 + z486))) (1:Int)))) z z z (wv (.int .i64 (i64.wrap (iShr .u64 (u64.wrap (i64.wrap (z487 + z486))) (1:Int)))) z z z (wl_nil (blk_n (tn ?_)))))
 replace hst := hst.pull3.pull1.pull3.pull3.keep4
 obtain rfl := some_inj hm
 exact ⟨_, Nat.lt_succ_self _, (i64.wrap (iShr .u64 (u64.wrap (i64.wrap (z487 + z486))) (1:Int))), z487, _, hx494, (fu 0 v419 z (fu 2 (.func (.func 59) #[] #[]) z (fu 4 (Pt b421 0) z (fu 8 (.int .i64 ((o0.l).length : Int)) z (fu 9 (.int .i64 z487) z (fu 10 (.int .i64 (i64.wrap (iShr .u64 (u64.wrap (i64.wrap (z487 + z486))) (1:Int)))) z z)))))), hst⟩
}
}
 {
 replace hm := bif_f hc496 hm
 refine wp_iff (cvb hc496) ?_
 refine wp_exit (then_x (then_x ?_))
 replace hm := inr_up hm hx494
 refine blk_x (tn ?_)
 replace hst := hst.pull3.pull2.pull2.pull3.keep4
 obtain rfl := some_inj hm
 exact ⟨z487, _, hx529, (fu 0 v419 z (fu 2 (.func (.func 59) #[] #[]) z (fu 4 (Pt b421 0) z (fu 8 (.int .i64 ((o0.l).length : Int)) z (fu 9 (.int .i64 z487) z z))))), hst⟩
}
}
 {
 clear hst
 rintro _ w530 ⟨z525, σ526, hm, rfl, hst⟩
 dsimp only [locks_Table_find_j0] at hm
 refine wp_seq ?_
 obtain ⟨css531, hq532, hst⟩ := hst.own_open
 refine wp_region_St hst 16 [0, 1, 2, 3, 4, 5, 6, 7, 8, 9, 10, 11, 12, 13, 14, 15] [0, 0, 0, 6, 14, 30, 30, 30, 222, 478, 30, 2046, 4094, 8190, 4095, 32767] [] z (by kernel_rfl) (by kernel_rfl) Try.mixed (by kernel_rfl) ?_
 refine wsr (.int .i64 z525) 0 z z z (by kernel_rfl) (fun w hst => z) (wsr (.int .i64 z525) 1 z z z (by kernel_rfl) (fun w hst => z) (wsr (.int .i64 ((o0.l).length : Int)) 2 z z z (by kernel_rfl) (fun w hst => z) (wsr (.bool (decide (z525 < ((o0.l).length : Int)))) 3 z z z (by kernel_rfl) (fun w hst => z) (wsr (.bool (decide (z525 < ((o0.l).length : Int)))) 4 z z z (by kernel_rfl) (fun w hst => z) ?_))))
 refine bsplit (decide (z525 < ((o0.l).length : Int))) (fun hc533 => ?_) (fun hc533 => ?_)
 {
 replace hm := bif_t hc533 hm
 refine ws_q (v := .func (.func 59) #[] #[]) 5 [6, 7, 8, 9, 10, 11, 12, 13, 14, 15] (by kernel_rfl) z z (yi_run ((wanted_eq z z z (cvb hc533)).trans z) (fun w hst => z)) (ws_q (v := v419) 6 [7, 8, 9, 10, 11, 12, 13, 14, 15] (by kernel_rfl) z z (yi_run ((wanted_eq z z z (cvb hc533)).trans z) (fun w hst => z)) (ws_q (v := .int .i64 z525) 7 [8, 9, 10, 11, 12, 13, 14, 15] (by kernel_rfl) z z (yi_run ((wanted_eq z z z (cvb hc533)).trans z) (fun w hst => z)) ?_))
 obtain ⟨x534, hx535, hm⟩ := bind_some hm
 obtain ⟨h536, h537, hi538⟩ := geto_some hx535
 refine ws_q (v := .pointer (some (eAddr v419 (z525.toNat * 7 + 0)))) 8 [9, 10, 11, 12, 13, 14, 15] (by kernel_rfl) z z (yi_run ((wanted_eq z z z (cvb hc533)).trans z) (fun w hst => x_index z z underlying22 sizeOf34 (hst.rsv 0 z hq532) h536 h537)) ?_
 obtain ⟨cs539, hc541, hr540⟩ := Reps.get hq532 hi538
 obtain ⟨v542, v545, v548, v551, rfl, f543, f546, f549, f552, -⟩ := hr540
 refine ws_q (v := .agg #[U6 x534.ID.Session, U6 x534.ID.Seq, U6 x534.Epoch, v542, v545, v548, v551]) 9 [10, 11, 12, 13, 14, 15] (by kernel_rfl) z z (yi_run ((wanted_eq z z z (cvb hc533)).trans z) (fun w hst => x_loadN (cs := [U6 x534.ID.Session, U6 x534.ID.Seq, U6 x534.Epoch, v542, v545, v548, v551]) z isAgg34 sizeOf34 (eCells (o := 0) (hst.rcell 0 z hc541) z))) (ws_q (v := .agg #[U6 a1.Session, U6 a1.Seq]) 10 [11, 12, 13, 14, 15] (by kernel_rfl) z z (yi_run ((wanted_eq z z z (cvb hc533)).trans z) (fun w hst => x_loadN (cs := [U6 a1.Session, U6 a1.Seq]) z isAgg29 sizeOf29 (hst.bcs1 0 z))) ?_)
 refine ws_e1 11 (by kernel_rfl) ?_
 refine nxe [12, 13, 14, 15] (by kernel_rfl) z ((wanted_eq z z z (cvb hc533)).trans z) ?_
 clear hst
 intro w hst
 obtain ⟨t554, ht555, hm⟩ := bind_some hm
 refine we_call z (x_callv call59 (caps := []) z (vs := [.agg #[U6 x534.ID.Session, U6 x534.ID.Seq, U6 x534.Epoch, v542, v545, v548, v551], .agg #[U6 a1.Session, U6 a1.Seq]]) z) ?_
 refine (locks_compare_ref (f543.mono ro_rd) (f546.mono ro_rd) (f549.mono ro_rd) (f552.mono ro_rd) hst.to0 ht555).mono ?_
 rintro _ w556 ⟨rfl, hst⟩
 refine ⟨_, z, ?_⟩
 replace hst := hst.of0
 refine ws_next (pend' := [(0, I6 z525)]) hst (by kernel_rfl) (pkr z z (fun w hst => z) pk_nil) ?_
 refine ws_q (v := .bool (t554 == (0:Int))) 12 [13, 14, 15] (by kernel_rfl) z z (yi_run ((wanted_eq z z z (cvb hc533)).trans z) (fun w hst => z)) (wsr (.bool (t554 == (0:Int))) 13 z z z (by kernel_rfl) (fun w hst => x_pick_t hc533 z z) (wsr (.int .i64 z525) 14 z z z (by kernel_rfl) (fun w hst => z) (wsr (.bool (t554 == (0:Int))) 15 z z z (by kernel_rfl) (fun w hst => z) ?_)))
 refine ws_nil ?_
 intro w hst
 replace hst := hst.own_close hq532
 refine tn (wp_ret ?_)
 refine post_ret (vs := [I6 z525, .bool (t554 == (0:Int))]) results71 (rvs_cons (rv_tmp z) (rvs_cons (rv_tmp z) rvs_nil)) ?_
 replace hst := hst.pull3.pull1.pull3.keep3
 obtain rfl := some_inj hm
 exact ⟨z525, (t554 == (0:Int)), z, z, hst⟩
}
 {
 replace hm := bif_f hc533 hm
 refine ws_q (v := undef) 5 [6, 7, 8, 9, 10, 11, 12, 13, 14, 15] (by kernel_rfl) z z (yi_off ((wanted_eq z z z (cvb hc533)).trans z)) (ws_q (v := undef) 6 [7, 8, 9, 10, 11, 12, 13, 14, 15] (by kernel_rfl) z z (yi_off ((wanted_eq z z z (cvb hc533)).trans z)) (ws_q (v := undef) 7 [8, 9, 10, 11, 12, 13, 14, 15] (by kernel_rfl) z z (yi_off ((wanted_eq z z z (cvb hc533)).trans z)) (ws_q (v := undef) 8 [9, 10, 11, 12, 13, 14, 15] (by kernel_rfl) z z (yi_off ((wanted_eq z z z (cvb hc533)).trans z)) (ws_q (v := undef) 9 [10, 11, 12, 13, 14, 15] (by kernel_rfl) z z (yi_off ((wanted_eq z z z (cvb hc533)).trans z)) (ws_q (v := undef) 10 [11, 12, 13, 14, 15] (by kernel_rfl) z z (yi_off ((wanted_eq z z z (cvb hc533)).trans z)) (ws_q (v := undef) 11 [12, 13, 14, 15] (by kernel_rfl) z z (yi_off ((wanted_eq z z z (cvb hc533)).trans z)) (ws_q (v := undef) 12 [13, 14, 15] (by kernel_rfl) z z (yi_off ((wanted_eq z z z (cvb hc533)).trans z)) (wsr (.bool false) 13 z z z (by kernel_rfl) (fun w hst => x_pick_f hc533 z z) (wsr (.int .i64 z525) 14 z z z (by kernel_rfl) (fun w hst => z) (wsr (.bool false) 15 z z z (by kernel_rfl) (fun w hst => z) ?_))))))))))
 refine ws_nil ?_
 intro w hst
 replace hst := hst.own_close hq532
 refine tn (wp_ret ?_)
 refine post_ret (vs := [I6 z525, .bool false]) results71 (rvs_cons (rv_tmp z) (rvs_cons (rv_tmp z) rvs_nil)) ?_
 replace hst := hst.pull3.pull1.pull3.keep3
 obtain rfl := some_inj hm
 exact ⟨z525, false, z, z, hst⟩
}
}
}
 clear hst
 rintro _ w564 ⟨z559, z560, rfl, rfl, hst⟩
 refine ⟨_, z, ?_⟩
 try dsimp only at hm
 refine ws_next (pend' := []) hst (by kernel_rfl) pk_nil ?_
 refine wsr (.int .i64 z559) 6 z z z (by kernel_rfl) (fun w hst => z) (wsr (.bool z560) 7 z z z (by kernel_rfl) (fun w hst => z) (wsr (.int .i64 z559) 8 z z z (by kernel_rfl) (fun w hst => z) (wsr (.bool z560) 9 z z z (by kernel_rfl) (fun w hst => z) ?_)))
 refine ws_nil ?_
 intro w hst
 refine tn (wp_ret ?_)
 replace hst := hst.pull1.pull1
 replace hst := at_locks_Table_close (pv := Pt b418 0) (x := o0) hst z
 replace hst := objO_some hst
 obtain rfl := some_inj hm
 refine post_ret (vs := [I6 z559, .bool z560]) results40 (rvs_cons (rv_tmp z) (rvs_cons (rv_tmp z) rvs_nil)) ?_
 exact ⟨z, hst.keep1⟩
}
}

theorem slices_Insert_api_Hold_api_Hold_ref {w0 w : World} {I : HL} {R : SP} {a0 : (List api_Hold)} {r0_0 : Value} {a1 : Int} {a2 : (List api_Hold)} {r2_0 : Value} (hst : St w0 w I [ownS ty_api_Hold r0_0 a0, ownS ty_api_Hold r2_0 a2] R) {r : (List api_Hold)} (hm : slices_Insert_api_Hold_api_Hold a0 a1 a2 = some r) :
  Calls prog 41 #[r0_0, I6 a1, r2_0] w fun e w' => ∃ (q0_0 : Value), e = .returned (q0_0) ∧ St w0 w' I [ownS ty_api_Hold q0_0 r] R := by {
 unfold slices_Insert_api_Hold_api_Hold at hm
 obtain ⟨hg, hm⟩ := gd_some hm
 obtain rfl := some_inj hm
 obtain ⟨hi0, hi1, hrm⟩ := insOK_of hg
 obtain ⟨k, rfl⟩ := Int.eq_ofNat_of_zero_le hi0
 have hsm := room_sum hrm
 have hk : k ≤ a0.length := by omega
 have hs : ∀ w : World, (sizeOf 34).run prog w = .ok ty_api_Hold.sz w := sizeOf34
 have hs0 : 0 < ty_api_Hold.sz := Nat.le_of_ble_eq_true rfl
 have hov : ∀ (args : Array Value) (w : World), (callFunc 72 args).run prog w = (Extern.SlicesOverlaps.overlaps #[22, 22] #[4] args >>= fun v => (pure (.value v) : Sem Next)).run prog w := by intro args w; kernel_rfl
 obtain ⟨css, hr, hst⟩ := hst.own_open
 replace hst := hst.pull1
 obtain ⟨dss, hq, hst⟩ := hst.own_open
 replace hst := hst.pull1
 obtain ⟨n, hn⟩ : ∃ n, css.length = n := ⟨_, rfl⟩
 obtain ⟨m, hm'⟩ : ∃ m, dss.length = m := ⟨_, rfl⟩
 have hln : a0.length = n := hr.1.trans hn
 have hlm : a2.length = m := hq.1.trans hm'
 rw [hln] at hsm hk
 rw [hlm] at hsm
 have hsv : SliceV r0_0 n := by have := hst.row_form.2; rwa [hn] at this
 have hsq : SliceV r2_0 m := by have := hst.pull1.row_form.2; rwa [hm'] at this
 have hoc := hr.ones
 have hoq := hq.ones
 have hw1 := wrap_add (a := n) (b := m) (by omega)
 have hw2 := wrap_add (a := k) (b := m) (by omega)
 have hw3 := wrap_sub (a := n + m) (b := k) (by omega) (by omega)
 have hrb := room_of (b := 120) hrm rfl
 rw [hln, hlm] at hrb
 refine calls_start (args := [r0_0, I6 (k : Int), r2_0]) func41 z ntmps41 (Nat.le_of_ble_eq_true z) ?_
 refine wp_seq (wrl (wv ((.slice none 0 0)) z z z (wl_nil (tn (wp_seq (wrl (wv (r0_0) z z z (wv (.int .i64 (k : Int)) z z z (wv ((slcV ty_api_Hold.sz r0_0 k n)) z z (x_slice (lo := (k : Nat)) (hi := (n : Nat)) underlying22 hs z hsv (by omega) (by omega) (by omega) .i64 .i64 (.inl z) (.inr ⟨z, z⟩)) (wl_nil (tn (wp_seq (wrl (wv (r2_0) z z z (wv (.int .i64 (m : Int)) z z (x_len z underlying22 hsq) (wv (.int .i64 (m : Int)) z z z (wl_nil (tn (wp_seq (wp_seq (wrl (wv (.int .i64 (m : Int)) z z z (wv (.bool ((m : Int) == (0:Int))) z z z ?_)))))))))))))))))))))))
 refine wl_nil (tn ?_)
 refine bsplit ((m : Int) == (0:Int)) (fun hc295 => ?_) (fun hc295 => ?_)
 {
 refine wp_ift (cvb hc295) ?_
 refine wp_seq (wrl (wv (r0_0) z z z (wv (r0_0) z z z (wl_nil (tn (wp_ret (then_r ?_)))))))
 refine post_ret (vs := [r0_0]) results41 (rvs_cons (rv_tmp z) rvs_nil) ?_
 rw [ins_nil (by rw [hlm]; exact hc295)]
 exact ⟨_, z, (hst.own_close hr).keep1⟩
}
 {
 refine wp_iff (cvb hc295) ?_
 have hm0 : m ≠ 0 := fun h => by rw [h] at hc295; cases hc295
 have hq0 : dss ≠ [] := fun h => hm0 (by rw [← hm', h]; rfl)
 refine wp_skip (tn (wp_seq (wrl ?_)))
 refine wv (r0_0) z z z (wv (.int .i64 (n : Int)) z z (x_len z underlying22 hsv) (wv (.int .i64 (n : Int)) z z z (wl_nil (tn (wp_seq (wp_seq (wrl (wv (.int .i64 (k : Int)) z z z (wv (.int .i64 (n : Int)) z z z (wv (.bool ((k : Int) == (n : Int))) z z z (wl_nil (tn ?_))))))))))))
 refine bsplit ((k : Int) == (n : Int)) (fun hc296 => ?_) (fun hc296 => ?_)
 {
 refine wp_ift (cvb hc296) ?_
 refine wp_seq (wrl (wv (r0_0) z z z (wv (r2_0) z z z ?_)))
 replace hst := (hst.own_close hr).pull1.own_close hq
 replace hst := hst.pull1
 obtain ⟨v2, w2, hra, hst⟩ := run_append elem_22 underlying22 hst hst.src1 (room_of hrm z) 22
 refine wl_run (v := v2) (w' := w2) z z (x_append z z hra) ?_
 refine wv (v2) z z z (wl_nil (tn (wp_ret (then_r ?_))))
 refine post_ret (vs := [v2]) results41 (rvs_cons (rv_tmp z) rvs_nil) ?_
 rw [ins_end (by rw [hln]; exact hc296)]
 exact ⟨_, z, hst.keep1⟩
}
 {
 refine wp_iff (cvb hc296) ?_
 have hkn : k ≠ n := fun h => by rw [h] at hc296; simp at hc296
 have hn0 : 0 < n := by omega
 have hc0 : css ≠ [] := fun h => by rw [h] at hn; simp at hn; omega
 refine wp_skip (tn (wp_seq (wp_seq (wrl ?_))))
 refine wv (.int .i64 (n : Int)) z z z (wv (.int .i64 (m : Int)) z z z (wv (.int .i64 ((n + m : Nat) : Int)) z z (ok_cast hw1 z) (wv (r0_0) z z z (wv (.int .i64 (sCap r0_0 : Int)) z z (x_cap z underlying22 hsv) (wv (.bool (decide (((n + m : Nat) : Int) > (sCap r0_0 : Int)))) z z z (wl_nil (tn ?_)))))))
 refine bsplit (decide (((n + m : Nat) : Int) > (sCap r0_0 : Int))) (fun hc297 => ?_) (fun hc297 => ?_)
 {
 refine wp_ift (cvb hc297) ?_
 refine wp_seq (wrl (wv (r0_0) z z z (wv (.int .i64 (k : Int)) z z z (wv ((slcV ty_api_Hold.sz r0_0 0 k)) z z (x_slice (lo := (0 : Nat)) (hi := (k : Nat)) underlying22 hs z hsv (by omega) (by omega) (by omega) .i64 .i64 (.inr ⟨z, z⟩) (.inl z)) (wv (.int .i64 (n : Int)) z z z (wv (.int .i64 (m : Int)) z z z (wv (.int .i64 ((n + m : Nat) : Int)) z z (ok_cast hw1 z) (wv (.int .i64 (k : Int)) z z z (wv (.int .i64 ((n + m - k : Nat) : Int)) z z (ok_cast hw3 z) ?_)))))))))
 obtain ⟨v2, w2, hra, hs2, zss, hzl, hst⟩ := run_app0 elem_22 underlying3 hst k (n + m - k) (by omega) (by have := of_decide_eq_true hc297; omega) (by rw [show k + (n + m - k) = n + m by omega]; exact hrb) hs0 22
 rw [show k + (n + m - k) = n + m by omega] at hs2
 refine wl_run (v := v2) (w' := w2) z z (x_append z z hra) ?_
 refine wv (v2) z z z (wl_nil (tn (wp_seq (wrl (wv (v2) z z z (wv (.int .i64 (k : Int)) z z z (wv ((slcV ty_api_Hold.sz v2 k (n + m))) z z (x_slice (lo := (k : Nat)) (hi := ((n + m) : Nat)) underlying22 hs z hs2 (by omega) (by omega) (by omega) .i64 .i64 (.inl z) (.inr ⟨z, z⟩)) (wv (r2_0) z z z ?_))))))))
 obtain ⟨w298, hr299, hst⟩ := run_copyRows (P := prog) (t2 := 22) (ty := 3) underlying22 hs hst hst.pull2 k m (N := n + m) (by first | omega | (simp only [List.length_append, List.length_take, List.length_drop]; omega)) (by first | omega | (simp only [List.length_append, List.length_take, List.length_drop]; omega)) (by omega) (by first | omega | (simp only [List.length_append, List.length_take, List.length_drop]; omega)) (ones_take hoq _)
 refine wl_run (v := .int .i64 (m : Nat)) (w' := w298) z z (x_copy z z hr299) ?_
 refine wl_nil (tn (wp_seq ?_))
 refine wp_region_St hst 9 [0, 1, 2, 3, 4, 5, 6, 7, 8] [0, 0, 0, 6, 15, 0, 0, 96, 255] [] z (by kernel_rfl) (by kernel_rfl) Try.mixed (by kernel_rfl) ?_
 refine wsr (v2) 0 z z z (by kernel_rfl) (fun w hst => z) (wsr (.int .i64 (k : Int)) 1 z z z (by kernel_rfl) (fun w hst => z) (wsr (.int .i64 (m : Int)) 2 z z z (by kernel_rfl) (fun w hst => z) (wsr (.int .i64 ((k + m : Nat) : Int)) 3 z z z (by kernel_rfl) (fun w hst => ok_cast hw2 z) (wsr ((slcV ty_api_Hold.sz v2 (k + m) (n + m))) 4 z z z (by kernel_rfl) (fun w hst => x_slice (lo := ((k + m) : Nat)) (hi := ((n + m) : Nat)) underlying22 hs z hs2 (by omega) (by omega) (by omega) .i64 .i64 (.inl z) (.inr ⟨z, z⟩)) (wsr (r0_0) 5 z z z (by kernel_rfl) (fun w hst => z) (wsr (.int .i64 (k : Int)) 6 z z z (by kernel_rfl) (fun w hst => z) (wsr ((slcV ty_api_Hold.sz r0_0 k n)) 7 z z z (by kernel_rfl) (fun w hst => x_slice (lo := (k : Nat)) (hi := (n : Nat)) underlying22 hs z hsv (by omega) (by omega) (by omega) .i64 .i64 (.inl z) (.inr ⟨z, z⟩)) ?_)))))))
 refine ws_e1 8 (by kernel_rfl) ?_
 refine nxe [] (by kernel_rfl) z z ?_
 clear hst
 intro w hst
 obtain ⟨w300, hr301, hst⟩ := run_copyRows (P := prog) (t2 := 22) (ty := 3) underlying22 hs hst (hst.pull1.row_part (l := k) (h := n) hk (by omega)) (k + m) (n - k) (N := n + m) (by first | omega | (simp only [List.length_append, List.length_take, List.length_drop]; omega)) (by first | omega | (simp only [List.length_append, List.length_take, List.length_drop]; omega)) (by omega) (by first | omega | (simp only [List.length_append, List.length_take, List.length_drop]; omega)) (ones_take (ones_drop (ones_take hoc _) _) _)
 refine we_run (v := .int .i64 ((n - k) : Nat)) (w' := w300) z (x_copy z z hr301) ?_
 refine ws_next (pend' := []) hst (by kernel_rfl) pk_nil ?_
 refine ws_nil ?_
 intro w hst
 refine tn (wp_seq (wrl (wv (v2) z z z (wv (v2) z z z (wl_nil (tn (wp_ret (then_r ?_))))))))
 refine post_ret (vs := [v2]) results41 (rvs_cons (rv_tmp z) rvs_nil) ?_
 rw [grow_rows hn hm' hk hzl] at hst
 exact ⟨_, z, (hst.own_close ((hr.take k).app (hq.app (hr.drop k)))).keep1⟩
}
 {
 refine wp_iff (cvb hc297) ?_
 have hup : n + m ≤ sCap r0_0 := by have := of_decide_eq_false hc297; omega
 obtain ⟨ess, hel, hem, hst'⟩ := hst.row_up (n + m) (by omega) hup hc0
 rw [show n + m - css.length = m by omega] at hel
 have hs2 : SliceV (upV r0_0 (n + m)) (n + m) := by have := hst'.row_form.2; rwa [List.length_append, hn, hel] at this
 clear hst
 have hst := hst'
 clear hst'
 refine wp_skip (tn (wp_seq (wrl ?_)))
 refine wv (r0_0) z z z (wv (.int .i64 (n : Int)) z z z (wv (.int .i64 (m : Int)) z z z (wv (.int .i64 ((n + m : Nat) : Int)) z z (ok_cast hw1 z) (wv ((upV r0_0 (n + m))) z z (x_sliceUp underlying22 hs z hsv z hup hn0) (wv ((upV r0_0 (n + m))) z z z (wl_nil (tn (wp_seq (wp_seq (wrl (wv (r2_0) z z z (wv ((upV r0_0 (n + m))) z z z (wv (.int .i64 (k : Int)) z z z (wv (.int .i64 (m : Int)) z z z (wv (.int .i64 ((k + m : Nat) : Int)) z z (ok_cast hw2 z) (wv ((slcV ty_api_Hold.sz (upV r0_0 (n + m)) (k + m) (n + m))) z z (x_slice (lo := ((k + m) : Nat)) (hi := ((n + m) : Nat)) underlying22 hs z hs2 (by omega) (by omega) (by omega) .i64 .i64 (.inl z) (.inr ⟨z, z⟩)) ?_))))))))))))))))
 refine wv (.bool false) z z (x_ext z z z (hov _) (run_overlaps z underlying22 hs hst.pull1 (k + m) (N := n + m) (by rw [List.length_append]; omega) (by omega) hq0 hs0)) (wv (.bool true) z z z (wl_nil (tn ?_)))
 refine wp_ift z ?_
 refine wp_seq ?_
 refine wp_region_St hst 9 [0, 1, 2, 3, 4, 5, 6, 7, 8] [0, 0, 0, 6, 15, 0, 0, 96, 255] [] z (by kernel_rfl) (by kernel_rfl) Try.mixed (by kernel_rfl) ?_
 refine wsr ((upV r0_0 (n + m))) 0 z z z (by kernel_rfl) (fun w hst => z) (wsr (.int .i64 (k : Int)) 1 z z z (by kernel_rfl) (fun w hst => z) (wsr (.int .i64 (m : Int)) 2 z z z (by kernel_rfl) (fun w hst => z) (wsr (.int .i64 ((k + m : Nat) : Int)) 3 z z z (by kernel_rfl) (fun w hst => ok_cast hw2 z) (wsr ((slcV ty_api_Hold.sz (upV r0_0 (n + m)) (k + m) (n + m))) 4 z z z (by kernel_rfl) (fun w hst => x_slice (lo := ((k + m) : Nat)) (hi := ((n + m) : Nat)) underlying22 hs z hs2 (by omega) (by omega) (by omega) .i64 .i64 (.inl z) (.inr ⟨z, z⟩)) (wsr ((upV r0_0 (n + m))) 5 z z z (by kernel_rfl) (fun w hst => z) (wsr (.int .i64 (k : Int)) 6 z z z (by kernel_rfl) (fun w hst => z) (wsr ((slcV ty_api_Hold.sz (upV r0_0 (n + m)) k (n + m))) 7 z z z (by kernel_rfl) (fun w hst => x_slice (lo := (k : Nat)) (hi := ((n + m) : Nat)) underlying22 hs z hs2 (by omega) (by omega) (by omega) .i64 .i64 (.inl z) (.inr ⟨z, z⟩)) ?_)))))))
 refine ws_e1 8 (by kernel_rfl) ?_
 refine nxe [] (by kernel_rfl) z z ?_
 clear hst
 intro w hst
 obtain ⟨w302, hr303, hst⟩ := run_copyRows (P := prog) (t2 := 22) (ty := 3) underlying22 hs hst (hst.row_part (l := k) (h := n + m) (by omega) (by rw [List.length_append]; omega)) (k + m) (n - k) (N := n + m) (by first | omega | (simp only [List.length_append, List.length_take, List.length_drop]; omega)) (by first | omega | (simp only [List.length_append, List.length_take, List.length_drop]; omega)) (by omega) (by first | omega | (simp only [List.length_append, List.length_take, List.length_drop]; omega)) (by rw [stay_src hn hm' hk hel]; exact ones_drop hoc _)
 refine we_run (v := .int .i64 ((n - k) : Nat)) (w' := w302) z (x_copy z z hr303) ?_
 refine ws_next (pend' := []) hst (by kernel_rfl) pk_nil ?_
 refine ws_nil ?_
 intro w hst
 refine tn (wp_seq (wrl (wv ((upV r0_0 (n + m))) z z z (wv (.int .i64 (k : Int)) z z z (wv ((slcV ty_api_Hold.sz (upV r0_0 (n + m)) k (n + m))) z z (x_slice (lo := (k : Nat)) (hi := ((n + m) : Nat)) underlying22 hs z hs2 (by omega) (by omega) (by omega) .i64 .i64 (.inl z) (.inr ⟨z, z⟩)) (wv (r2_0) z z z ?_))))))
 obtain ⟨w304, hr305, hst⟩ := run_copyRows (P := prog) (t2 := 22) (ty := 3) underlying22 hs hst hst.pull1 k m (N := n + m) (by first | omega | (simp only [List.length_append, List.length_take, List.length_drop]; omega)) (by first | omega | (simp only [List.length_append, List.length_take, List.length_drop]; omega)) (by omega) (by first | omega | (simp only [List.length_append, List.length_take, List.length_drop]; omega)) (ones_take hoq _)
 refine wl_run (v := .int .i64 (m : Nat)) (w' := w304) z z (x_copy z z hr305) ?_
 refine wl_nil (tn (wp_seq (wrl (wv ((upV r0_0 (n + m))) z z z (wv ((upV r0_0 (n + m))) z z z (wl_nil (tn (wp_ret (then_r ?_)))))))))
 refine post_ret (vs := [(upV r0_0 (n + m))]) results41 (rvs_cons (rv_tmp z) rvs_nil) ?_
 rw [stay_rows hn hm' hk hel] at hst
 exact ⟨_, z, (hst.own_close ((hr.take k).app (hq.app (hr.drop k)))).keep1⟩
}
}
}
}

theorem locks_Table_Take_ref {w0 w : World} {I : HL} {R : SP} {a0 : (Option locks_Table)} {p0 : Value} {a1 : api_Hold} {r1_0 : Value} {r1_1 : Value} {r1_2 : Value} {r1_3 : Value} (f1_0 : Rd tyF64 R I r1_0 a1.Gets) (f1_1 : Rd tyF2 R I r1_1 a1.Scans) (f1_2 : Rd tyF64 R I r1_2 a1.Puts) (f1_3 : Rd (tyInt .u8) R I r1_3 a1.Data) (hst : St w0 w I [objO at_locks_Table p0 a0] R) {r : (Int × (Option locks_Table))} (hm : locks_Table_Take a0 a1 = some r) :
  Calls prog 12 #[p0, .agg #[U6 a1.ID.Session, U6 a1.ID.Seq, U6 a1.Epoch, r1_0, r1_1, r1_2, r1_3]] w fun e w' => ∃ (I' : HL), e = .returned (.int .i64 r.1) ∧ I.le I' ∧ St w0 w' I' [objO at_locks_Table p0 r.2] R := by {
 rcases a0 with _ | o0
 {
 obtain ⟨rfl, hst'⟩ := objO_none hst
 clear hst
 have hst := hst'
 clear hst'
 dsimp only [locks_Table_Take] at hm
 refine calls_start (args := [.pointer none, .agg #[U6 a1.ID.Session, U6 a1.ID.Seq, U6 a1.Epoch, r1_0, r1_1, r1_2, r1_3]]) func12 z ntmps12 (Nat.le_of_ble_eq_true z) ?_
 have hI0 := HL.le.refl I
 refine wp_seq (wrl ?_)
 obtain ⟨b334, w335, ew336, eb337, hst⟩ := hst.box [U6 a1.ID.Session, U6 a1.ID.Seq, U6 a1.Epoch, r1_0, r1_1, r1_2, r1_3] 34
 refine wl_run (v := Pt b334 0) (w' := w335) z z (x_al (by kernel_rfl) ew336 eb337) ?_
 refine wv (.int .i64 (0:Int)) z z z (wl_nil (tn (wp_seq (wp_seq (wrl (wv (.pointer none) z z z (wv (.bool true) z z (by kernel_rfl) (wl_nil (tn ?_)))))))))
 refine wp_ift z ?_
 refine wp_seq (wrl (wv (.int .i64 (2:Int)) z z z (wl_nil (tn (wp_ret (then_r ?_))))))
 replace hst := hst.objO_nil at_locks_Table
 obtain rfl := some_inj hm
 refine post_ret (vs := [I6 (2:Int)]) results12 (rvs_cons (rv_tmp z) rvs_nil) ?_
 exact ⟨_, z, hI0, hst.keep1⟩
}
 {
 replace hst := objO_get hst
 dsimp only [locks_Table_Take] at hm
 refine calls_start (args := [p0, .agg #[U6 a1.ID.Session, U6 a1.ID.Seq, U6 a1.Epoch, r1_0, r1_1, r1_2, r1_3]]) func12 z ntmps12 (Nat.le_of_ble_eq_true z) ?_
 have hI0 := HL.le.refl I
 refine wp_seq (wrl ?_)
 obtain ⟨b339, w340, ew341, eb342, hst⟩ := hst.box [U6 a1.ID.Session, U6 a1.ID.Seq, U6 a1.Epoch, r1_0, r1_1, r1_2, r1_3] 34
 refine wl_run (v := Pt b339 0) (w' := w340) z z (x_al (by kernel_rfl) ew341 eb342) ?_
 refine wv (.int .i64 (0:Int)) z z z (wl_nil (tn (wp_seq (wp_seq (wrl (wv (p0) z z z ?_))))))
 replace hst := hst.pull1
 obtain ⟨b344, v345, rfl, hst'⟩ := at_locks_Table_open hst
 clear hst
 have hst := hst'
 clear hst'
 refine wv (.bool false) z z (by kernel_rfl) (wl_nil (tn ?_))
 refine wp_iff z ?_
 refine wp_skip (tn ?_)
 obtain ⟨y476, hm, hx477⟩ := joinO_some hm
 refine wp_cut (fun a w => ∃ (σ474 : Nat → Value), (locks_Table_Take_j0 a1 o0) () = some r ∧ a = Fr 74 (upd (upd σ474 0 (Pt b344 0)) 3 (Pt b339 0)) ∧ St w0 w I [at_locks_Table (Pt b344 0) o0, cells b339 [U6 a1.ID.Session, U6 a1.ID.Seq, U6 a1.Epoch, r1_0, r1_1, r1_2, r1_3]] R) ?_ ?_
 {
 refine wp_seq (wrl (wv (Pt b344 0) z z z (wv (Pt b344 0) z z z (wv (Pt b344 0) z z (x_field z underlying77 z sizeOf22 z) (wv (v345) z z (x_load z isAgg22 (hst.bc0 z)) (wv (.int .i64 ((o0.l).length : Int)) z z (x_len z underlying22 hst.sv1) (wv (.int .i64 (0:Int)) z z z (wl_nil (tn (wp_block ?_))))))))))
 obtain ⟨n428, hm⟩ := loopO_some hm
 refine wp_loop_n (fun n a w => ∃ (z426 : Int) (σ427 : Nat → Value), loopN (locks_Table_Take_l1 o0 a1) n z426 = some y476 ∧ a = Fr 74 (upd (upd (upd (upd (upd σ427 0 (Pt b344 0)) 3 (Pt b339 0)) 14 (v345)) 15 (.int .i64 ((o0.l).length : Int))) 16 (.int .i64 z426)) ∧ St w0 w I [cells b344 [v345], ownS ty_api_Hold v345 o0.l, cells b339 [U6 a1.ID.Session, U6 a1.ID.Seq, U6 a1.Epoch, r1_0, r1_1, r1_2, r1_3]] R) n428 ⟨(0:Int), _, hm, (fu 0 (Pt b344 0) z (fu 3 (Pt b339 0) z (fu 14 v345 z (fu 15 (.int .i64 ((o0.l).length : Int)) z (fu 16 (.int .i64 (0:Int)) z z))))), hst⟩ ?_
 rintro n434 _ w429 ⟨z426, σ427, hm, rfl, hst⟩
 obtain ⟨n431, y432, rfl, hm, hx433⟩ := loopN_some hm
 dsimp only [locks_Table_Take_l1] at hm
 refine wp_seq (wrl (wv (.bool (decide (z426 < ((o0.l).length : Int)))) z z z (wl_nil (tn (wp_seq ?_)))))
 refine bsplit (decide (z426 < ((o0.l).length : Int))) (fun hc435 => ?_) (fun hc435 => ?_)
 {
 replace hm := bif_t hc435 hm
 refine wp_ift (cvb hc435) ?_
 refine wp_skip (tn (wp_seq (wp_block (wp_seq (wrl ?_)))))
 obtain ⟨x436, hx437, hm⟩ := bind_some hm
 obtain ⟨h438, h439, hi440⟩ := geto_some hx437
 refine wv (.pointer (some (eAddr v345 (z426.toNat * 7 + 0)))) z z (x_index z z underlying22 sizeOf34 hst.sv1 h438 h439) ?_
 obtain ⟨cs441, hr442, hc443⟩ := hst.og1 hi440
 obtain ⟨v444, v447, v450, v453, rfl, f445, f448, f451, f454, -⟩ := hr442
 refine wv (.agg #[U6 x436.ID.Session, U6 x436.ID.Seq, U6 x436.Epoch, v444, v447, v450, v453]) z z (x_loadN (cs := [U6 x436.ID.Session, U6 x436.ID.Seq, U6 x436.Epoch, v444, v447, v450, v453]) z isAgg34 sizeOf34 (eCells (o := 0) hc443 z)) ?_
 obtain ⟨b460, w461, ew462, eb463, hst⟩ := hst.box [Zu, Zu, Zu, Zs, Zs, Zs, Zs] 34
 refine wl_run (v := Pt b460 0) (w' := w461) z z (x_al (by kernel_rfl) ew462 eb463) ?_
 obtain ⟨w465, hr466, hst⟩ := hst.bx [U6 x436.ID.Session, U6 x436.ID.Seq, U6 x436.Epoch, v444, v447, v450, v453] sizeOf34 z (oC z (oC z (oC z (oC (one_of_sliceV (ro_sliceV f445)) (oC (one_of_sliceV (ro_sliceV f448)) (oC (one_of_sliceV (ro_sliceV f451)) (oC (one_of_sliceV (ro_sliceV f454)) oN))))))) (by kernel_rfl)
 refine wl_unit z z (x_unit hr466) ?_
 refine wl_nil (tn (wp_seq (wrl (wv (Pt b460 0) z z (x_field z underlying34 z sizeOf29 z) (wv (.agg #[U6 x436.ID.Session, U6 x436.ID.Seq]) z z (x_loadN (cs := [U6 x436.ID.Session, U6 x436.ID.Seq]) z isAgg29 sizeOf29 (hst.bcs0 0 z)) (wv (Pt b339 0) z z (x_field z underlying34 z sizeOf29 z) (wv (.agg #[U6 a1.ID.Session, U6 a1.ID.Seq]) z z (x_loadN (cs := [U6 a1.ID.Session, U6 a1.ID.Seq]) z isAgg29 sizeOf29 (hst.bcs3 0 z)) (wv (.bool (!((x436.ID.Session == a1.ID.Session) && (x436.ID.Seq == a1.ID.Seq)))) z z (x_aggne2 z z (by kernel_rfl) underlying29 (by kernel_rfl) (by kernel_rfl) (by kernel_rfl) underlying27 underlying27 (fun _ _ _ => by kernel_rfl) (fun _ _ _ => by kernel_rfl)) (wv (.bool (!((x436.ID.Session == a1.ID.Session) && (x436.ID.Seq == a1.ID.Seq)))) z z z ?_)))))))))
 refine bsplit (!((x436.ID.Session == a1.ID.Session) && (x436.ID.Seq == a1.ID.Seq))) (fun hc467 => ?_) (fun hc467 => ?_)
 {
 replace hm := bif_t hc467 hm
 refine wv (.agg #[U6 x436.ID.Session, U6 x436.ID.Seq, U6 x436.Epoch, v444, v447, v450, v453]) ((wanted_eq z z z (cvb hc467)).trans z) z (x_loadN (cs := [U6 x436.ID.Session, U6 x436.ID.Seq, U6 x436.Epoch, v444, v447, v450, v453]) z isAgg34 sizeOf34 (hst.bcs0 0 z)) (wv (.agg #[U6 a1.ID.Session, U6 a1.ID.Seq, U6 a1.Epoch, r1_0, r1_1, r1_2, r1_3]) ((wanted_eq z z z (cvb hc467)).trans z) z (x_loadN (cs := [U6 a1.ID.Session, U6 a1.ID.Seq, U6 a1.Epoch, r1_0, r1_1, r1_2, r1_3]) z isAgg34 sizeOf34 (hst.bcs3 0 z)) ?_)
 obtain ⟨t468, ht469, hm⟩ := bind_some hm
 refine wl_call ((wanted_eq z z z (cvb hc467)).trans z) z (x_call call19 z (vs := [.agg #[U6 x436.ID.Session, U6 x436.ID.Seq, U6 x436.Epoch, v444, v447, v450, v453], .agg #[U6 a1.ID.Session, U6 a1.ID.Seq, U6 a1.Epoch, r1_0, r1_1, r1_2, r1_3]]) z) ?_
 refine (locks_Meet_ref (f445.mono ro_rd) (f448.mono ro_rd) (f451.mono ro_rd) (f454.mono ro_rd) (f1_0.mono (rd_weak _)) (f1_1.mono (rd_weak _)) (f1_2.mono (rd_weak _)) (f1_3.mono (rd_weak _)) hst.to0 ht469).mono ?_
 rintro _ w470 ⟨rfl, hst⟩
 refine ⟨_, z, ?_⟩
 replace hst := hst.of0
 refine wv (.bool t468) z z (x_pick_t hc467 z z) (wl_nil (tn ?_))
 refine bsplit t468 (fun hc473 => ?_) (fun hc473 => ?_)
 {
 replace hm := bif_t hc473 hm
 refine wp_ift (cvb hc473) ?_
 refine wp_seq (wrl (wv (.int .i64 (8:Int)) z z z (wl_nil (tn (wp_ret (blk_r (then_r (then_r ?_))))))))
 replace hm := inr_up hm hx433
 refine blk_r (then_r ?_)
 replace hm := inr_up hm hx477
 replace hst := hst.pull2.pull2
 replace hst := at_locks_Table_close (pv := Pt b344 0) (x := o0) hst z
 replace hst := objO_some hst
 obtain rfl := some_inj hm
 refine post_ret (vs := [I6 (8:Int)]) results12 (rvs_cons (rv_tmp z) rvs_nil) ?_
 exact ⟨_, z, hI0, hst.keep1⟩
}
 {
 replace hm := bif_f hc473 hm
 refine wp_iff (cvb hc473) ?_
 refine wp_skip (blk_n (tn (wrl ?_)))
 refine wv (.int .i64 (i64.wrap (z426 + (1:Int)))) z z z (wv (.int .i64 (i64.wrap (z426 + (1:Int)))) z z z (wl_nil (tn ?_)))
 replace hst := hst.pull3.pull3.pull3.keep3
 obtain rfl := some_inj hm
 exact ⟨_, Nat.lt_succ_self _, (i64.wrap (z426 + (1:Int))), _, hx433, (fu 0 (Pt b344 0) z (fu 3 (Pt b339 0) z (fu 14 v345 z (fu 15 (.int .i64 ((o0.l).length : Int)) z (fu 16 (.int .i64 (i64.wrap (z426 + (1:Int)))) z z))))), hst⟩
}
}
 {
 replace hm := bif_f hc467 hm
 refine wo hc467 z z z z z z (wo hc467 z z z z z z (wo hc467 z z z z z z (wv (.bool false) z z (x_pick_f hc467 z z) (wl_nil (tn ?_)))))
 refine wp_iff z ?_
 refine wp_skip (blk_n (tn (wrl ?_)))
 refine wv (.int .i64 (i64.wrap (z426 + (1:Int)))) z z z (wv (.int .i64 (i64.wrap (z426 + (1:Int)))) z z z (wl_nil (tn ?_)))
 replace hst := hst.pull3.pull3.pull3.keep3
 obtain rfl := some_inj hm
 exact ⟨_, Nat.lt_succ_self _, (i64.wrap (z426 + (1:Int))), _, hx433, (fu 0 (Pt b344 0) z (fu 3 (Pt b339 0) z (fu 14 v345 z (fu 15 (.int .i64 ((o0.l).length : Int)) z (fu 16 (.int .i64 (i64.wrap (z426 + (1:Int)))) z z))))), hst⟩
}
}
 {
 replace hm := bif_f hc435 hm
 refine wp_iff (cvb hc435) ?_
 refine wp_exit (then_x (then_x ?_))
 replace hm := inr_up hm hx433
 refine blk_x (tn ?_)
 replace hst := hst.pull1.pull1
 replace hst := at_locks_Table_close (pv := Pt b344 0) (x := o0) hst z
 replace hst := hst.pull1.pull1.keep2
 obtain rfl := some_inj hm
 exact ⟨_, hx477, (fu 0 (Pt b344 0) z (fu 3 (Pt b339 0) z z)), hst⟩
}
}
 {
 clear hst
 rintro _ w478 ⟨σ474, hm, rfl, hst⟩
 dsimp only [locks_Table_Take_j0] at hm
 refine wp_seq ?_
 refine wp_region_St hst 18 [0, 1, 2, 3, 4, 5, 6, 7, 8, 9, 10, 11, 12, 13, 14, 15, 16, 17] [0, 1, 0, 4, 0, 16, 48, 0, 128, 496, 0, 1024, 4080, 0, 8192, 32752, 65535, 131071] [] z (by kernel_rfl) (by kernel_rfl) Try.mixed (by kernel_rfl) ?_
 refine wsr (Pt b339 0) 0 z z z (by kernel_rfl) (fun w hst => x_field z underlying34 z sizeOf29 z) (wsr (.agg #[U6 a1.ID.Session, U6 a1.ID.Seq]) 1 z z z (by kernel_rfl) (fun w hst => x_loadN (cs := [U6 a1.ID.Session, U6 a1.ID.Seq]) z isAgg29 sizeOf29 (hst.bcs1 0 z)) (wsr (Pt b339 2) 2 z z z (by kernel_rfl) (fun w hst => x_field z underlying34 z sizeOf27 z) (wsr (.int .u64 a1.Epoch) 3 z z z (by kernel_rfl) (fun w hst => x_load z isAgg27 (hst.bc1 z)) (wsr (Pt b339 3) 4 z z z (by kernel_rfl) (fun w hst => x_field z underlying34 z sizeOf30 z) (wsr (r1_0) 5 z z z (by kernel_rfl) (fun w hst => x_load z isAgg30 (hst.bc1 z)) (wsr (Pt b339 4) 7 z z z (by kernel_rfl) (fun w hst => x_field z underlying34 z sizeOf31 z) (wsr (r1_1) 8 z z z (by kernel_rfl) (fun w hst => x_load z isAgg31 (hst.bc1 z)) (wsr (Pt b339 5) 10 z z z (by kernel_rfl) (fun w hst => x_field z underlying34 z sizeOf30 z) (wsr (r1_2) 11 z z z (by kernel_rfl) (fun w hst => x_load z isAgg30 (hst.bc1 z)) (wsr (Pt b339 6) 13 z z z (by kernel_rfl) (fun w hst => x_field z underlying34 z sizeOf32 z) (wsr (r1_3) 14 z z z (by kernel_rfl) (fun w hst => x_load z isAgg32 (hst.bc1 z)) ?_)))))))))))
 refine ws_e1 6 (by kernel_rfl) ?_
 refine nxe [9, 12, 15, 16, 17] (by kernel_rfl) z z ?_
 clear hst
 intro w hst
 obtain ⟨t479, ht480, hm⟩ := bind_some hm
 refine wec call37 [r1_0] z z ?_
 refine (slices_Clone_float64_float64_ref (f1_0.mono (rd_weak _)) hst.to0 ht480).mono ?_
 rintro _ w481 ⟨v484, rfl, hst⟩
 refine ⟨_, z, ?_⟩
 replace hst := hst.of1
 refine ws_next (pend' := [(14, r1_3), (13, Pt b339 6), (11, r1_2), (10, Pt b339 5), (8, r1_1), (7, Pt b339 4), (3, U6 a1.Epoch), (2, Pt b339 2), (1, .agg #[U6 a1.ID.Session, U6 a1.ID.Seq]), (0, Pt b339 0)]) hst (by kernel_rfl) (pkr z z (fun w hst => x_load z isAgg32 (hst.bc2 z)) (pkr z z (fun w hst => x_field z underlying34 z sizeOf32 z) (pkr z z (fun w hst => x_load z isAgg30 (hst.bc2 z)) (pkr z z (fun w hst => x_field z underlying34 z sizeOf30 z) (pkr z z (fun w hst => x_load z isAgg31 (hst.bc2 z)) (pkr z z (fun w hst => x_field z underlying34 z sizeOf31 z) (pkr z z (fun w hst => x_load z isAgg27 (hst.bc2 z)) (pkr z z (fun w hst => x_field z underlying34 z sizeOf27 z) (pkr z z (fun w hst => x_loadN (cs := [U6 a1.ID.Session, U6 a1.ID.Seq]) z isAgg29 sizeOf29 (hst.bcs2 0 z)) (pkr z z (fun w hst => x_field z underlying34 z sizeOf29 z) pk_nil)))))))))) ?_
 refine ws_e1 9 (by kernel_rfl) ?_
 refine nxe [12, 15, 16, 17] (by kernel_rfl) z z ?_
 clear hst
 intro w hst
 obtain ⟨t486, ht487, hm⟩ := bind_some hm
 refine wec call38 [r1_1] z z ?_
 refine (slices_Clone_2_float64_2_float64_ref (f1_1.mono (rd_weak _)) hst.to0 ht487).mono ?_
 rintro _ w488 ⟨v491, rfl, hst⟩
 refine ⟨_, z, ?_⟩
 replace hst := hst.of1
 refine ws_next (pend' := [(14, r1_3), (13, Pt b339 6), (11, r1_2), (10, Pt b339 5), (3, U6 a1.Epoch), (2, Pt b339 2), (1, .agg #[U6 a1.ID.Session, U6 a1.ID.Seq]), (0, Pt b339 0)]) hst (by kernel_rfl) (pkr z z (fun w hst => x_load z isAgg32 (hst.bc3 z)) (pkr z z (fun w hst => x_field z underlying34 z sizeOf32 z) (pkr z z (fun w hst => x_load z isAgg30 (hst.bc3 z)) (pkr z z (fun w hst => x_field z underlying34 z sizeOf30 z) (pkr z z (fun w hst => x_load z isAgg27 (hst.bc3 z)) (pkr z z (fun w hst => x_field z underlying34 z sizeOf27 z) (pkr z z (fun w hst => x_loadN (cs := [U6 a1.ID.Session, U6 a1.ID.Seq]) z isAgg29 sizeOf29 (hst.bcs3 0 z)) (pkr z z (fun w hst => x_field z underlying34 z sizeOf29 z) pk_nil)))))))) ?_
 refine ws_e1 12 (by kernel_rfl) ?_
 refine nxe [15, 16, 17] (by kernel_rfl) z z ?_
 clear hst
 intro w hst
 obtain ⟨t493, ht494, hm⟩ := bind_some hm
 refine wec call37 [r1_2] z z ?_
 refine (slices_Clone_float64_float64_ref (f1_2.mono (rd_weak _)) hst.to0 ht494).mono ?_
 rintro _ w495 ⟨v498, rfl, hst⟩
 refine ⟨_, z, ?_⟩
 replace hst := hst.of1
 refine ws_next (pend' := [(14, r1_3), (13, Pt b339 6), (3, U6 a1.Epoch), (2, Pt b339 2), (1, .agg #[U6 a1.ID.Session, U6 a1.ID.Seq]), (0, Pt b339 0)]) hst (by kernel_rfl) (pkr z z (fun w hst => x_load z isAgg32 (hst.bc4 z)) (pkr z z (fun w hst => x_field z underlying34 z sizeOf32 z) (pkr z z (fun w hst => x_load z isAgg27 (hst.bc4 z)) (pkr z z (fun w hst => x_field z underlying34 z sizeOf27 z) (pkr z z (fun w hst => x_loadN (cs := [U6 a1.ID.Session, U6 a1.ID.Seq]) z isAgg29 sizeOf29 (hst.bcs4 0 z)) (pkr z z (fun w hst => x_field z underlying34 z sizeOf29 z) pk_nil)))))) ?_
 refine ws_e1 15 (by kernel_rfl) ?_
 refine nxe [16, 17] (by kernel_rfl) z z ?_
 clear hst
 intro w hst
 obtain ⟨t500, ht501, hm⟩ := bind_some hm
 refine wec call39 [r1_3] z z ?_
 refine (slices_Clone_byte_byte_ref (f1_3.mono (rd_weak _)) hst.to0 ht501).mono ?_
 rintro _ w502 ⟨v505, rfl, hst⟩
 refine ⟨_, z, ?_⟩
 replace hst := hst.of1
 refine ws_next (pend' := [(3, U6 a1.Epoch), (2, Pt b339 2), (1, .agg #[U6 a1.ID.Session, U6 a1.ID.Seq]), (0, Pt b339 0)]) hst (by kernel_rfl) (pkr z z (fun w hst => x_load z isAgg27 (hst.bc5 z)) (pkr z z (fun w hst => x_field z underlying34 z sizeOf27 z) (pkr z z (fun w hst => x_loadN (cs := [U6 a1.ID.Session, U6 a1.ID.Seq]) z isAgg29 sizeOf29 (hst.bcs5 0 z)) (pkr z z (fun w hst => x_field z underlying34 z sizeOf29 z) pk_nil)))) ?_
 refine wsr (.agg #[U6 a1.ID.Session, U6 a1.ID.Seq, U6 a1.Epoch, v484, v491, v498, v505]) 16 rfl rfl rfl (by kernel_rfl) (fun w hst => by obtain ⟨_, _, hv_, _⟩ := hst.sv0; rw [hv_]; obtain ⟨_, _, hv_, _⟩ := hst.sv1; rw [hv_]; obtain ⟨_, _, hv_, _⟩ := hst.sv2; rw [hv_]; obtain ⟨_, _, hv_, _⟩ := hst.sv3; rw [hv_]; kernel_rfl) ?_
 refine ws_e1 17 (by kernel_rfl) ?_
 refine nxe [] (by kernel_rfl) z z ?_
 clear hst
 intro w hst
 replace hst := hst.pull5
 obtain ⟨w511, hr512, hst⟩ := hst.bx [U6 a1.ID.Session, U6 a1.ID.Seq, U6 a1.Epoch, v484, v491, v498, v505] sizeOf34 z (oC z (oC z (oC z (oC (one_of_sliceV hst.sv4) (oC (one_of_sliceV hst.sv3) (oC (one_of_sliceV hst.sv2) (oC (one_of_sliceV hst.sv1) oN))))))) (by kernel_rfl)
 refine we_unit z (x_unit hr512) ?_
 refine ws_next (pend' := []) hst (by kernel_rfl) pk_nil ?_
 refine ws_nil ?_
 intro w hst
 refine tn (wp_seq (wrl (wv (Pt b344 0) z z z (wv (Pt b339 0) z z (x_field z underlying34 z sizeOf29 z) (wv (.agg #[U6 a1.ID.Session, U6 a1.ID.Seq]) z z (x_loadN (cs := [U6 a1.ID.Session, U6 a1.ID.Seq]) z isAgg29 sizeOf29 (hst.bcs0 0 z)) ?_)))))
 replace hst := hst.pull5
 replace hst := objO_some hst
 obtain ⟨t513, ht514, hm⟩ := bind_some hm
 refine wc call40 [Pt b344 0, .agg #[U6 a1.ID.Session, U6 a1.ID.Seq]] z z z ?_
 refine (locks_Table_find_ref hst.to1 ht514).mono ?_
 rintro _ w515 ⟨rfl, hst⟩
 refine ⟨_, z, ?_⟩
 replace hst := hst.of1
 replace hst := objO_get hst
 refine wv (.tuple #[I6 t513.1, .bool t513.2]) z z z (wv (.int .i64 t513.1) z z z (wv (.bool t513.2) z z z (wv (.int .i64 t513.1) z z z (wv (.bool t513.2) z z z (wl_nil (tn (wp_seq (wp_seq (wrl (wv (.bool t513.2) z z z (wl_nil (tn ?_))))))))))))
 refine bsplit t513.2 (fun hc518 => ?_) (fun hc518 => ?_)
 {
 replace hm := bif_t hc518 hm
 refine wp_ift (cvb hc518) ?_
 obtain ⟨b519, v520, e522, hst'⟩ := at_locks_Table_open hst
 clear hst
 have e522 := ptr_inj e522
 subst e522
 have hst := hst'
 clear hst'
 refine wp_region_St hst 8 [0, 1, 2, 3, 4, 5, 6, 7] [0, 1, 3, 7, 0, 0, 63, 127] [] z (by kernel_rfl) (by kernel_rfl) Try.mixed (by kernel_rfl) ?_
 refine wsr (Pt b344 0) 0 z z z (by kernel_rfl) (fun w hst => z) (wsr (Pt b344 0) 1 z z z (by kernel_rfl) (fun w hst => z) (wsr (Pt b344 0) 2 z z z (by kernel_rfl) (fun w hst => x_field z underlying77 z sizeOf22 z) (wsr (v520) 3 z z z (by kernel_rfl) (fun w hst => x_load z isAgg22 (hst.bc0 z)) (wsr (.int .i64 t513.1) 4 z z z (by kernel_rfl) (fun w hst => z) (wsr (.agg #[U6 a1.ID.Session, U6 a1.ID.Seq, U6 a1.Epoch, v484, v491, v498, v505]) 5 z z z (by kernel_rfl) (fun w hst => x_loadN (cs := [U6 a1.ID.Session, U6 a1.ID.Seq, U6 a1.Epoch, v484, v491, v498, v505]) z isAgg34 sizeOf34 (hst.bcs2 0 z)) ?_)))))
 obtain ⟨x523, hx524, hm⟩ := bind_some hm
 obtain ⟨h525, h526, hi527⟩ := geto_some hx524
 refine wsr (.pointer (some (eAddr v520 (t513.1.toNat * 7 + 0)))) 6 z z z (by kernel_rfl) (fun w hst => x_index z z underlying22 sizeOf34 hst.sv1 h525 h526) ?_
 refine ws_e1 7 (by kernel_rfl) ?_
 refine nxe [] (by kernel_rfl) z z ?_
 clear hst
 intro w hst
 obtain ⟨cs528, hr529, hc530⟩ := hst.og1 hi527
 obtain ⟨v531, v534, v537, v540, rfl, f532, f535, f538, f541, -⟩ := hr529
 replace hst := hst.pull6
 obtain ⟨I543, hI544, f545, hst⟩ := hst.own_fix
 replace f1_0 := f1_0.mono (rd_le hI544)
 replace f1_1 := f1_1.mono (rd_le hI544)
 replace f1_2 := f1_2.mono (rd_le hI544)
 replace f1_3 := f1_3.mono (rd_le hI544)
 replace f532 := f532.mono (ro_le hI544)
 replace f535 := f535.mono (ro_le hI544)
 replace f538 := f538.mono (ro_le hI544)
 replace f541 := f541.mono (ro_le hI544)
 replace hI0 := hI0.trans hI544
 replace hst := hst.pull5
 obtain ⟨I546, hI547, f548, hst⟩ := hst.own_fix
 replace f1_0 := f1_0.mono (rd_le hI547)
 replace f1_1 := f1_1.mono (rd_le hI547)
 replace f1_2 := f1_2.mono (rd_le hI547)
 replace f1_3 := f1_3.mono (rd_le hI547)
 replace f532 := f532.mono (ro_le hI547)
 replace f535 := f535.mono (ro_le hI547)
 replace f538 := f538.mono (ro_le hI547)
 replace f541 := f541.mono (ro_le hI547)
 replace f545 := f545.mono (ro_le hI547)
 replace hI0 := hI0.trans hI547
 replace hst := hst.pull4
 obtain ⟨I549, hI550, f551, hst⟩ := hst.own_fix
 replace f1_0 := f1_0.mono (rd_le hI550)
 replace f1_1 := f1_1.mono (rd_le hI550)
 replace f1_2 := f1_2.mono (rd_le hI550)
 replace f1_3 := f1_3.mono (rd_le hI550)
 replace f532 := f532.mono (ro_le hI550)
 replace f535 := f535.mono (ro_le hI550)
 replace f538 := f538.mono (ro_le hI550)
 replace f541 := f541.mono (ro_le hI550)
 replace f545 := f545.mono (ro_le hI550)
 replace f548 := f548.mono (ro_le hI550)
 replace hI0 := hI0.trans hI550
 replace hst := hst.pull3
 obtain ⟨I552, hI553, f554, hst⟩ := hst.own_fix
 replace f1_0 := f1_0.mono (rd_le hI553)
 replace f1_1 := f1_1.mono (rd_le hI553)
 replace f1_2 := f1_2.mono (rd_le hI553)
 replace f1_3 := f1_3.mono (rd_le hI553)
 replace f532 := f532.mono (ro_le hI553)
 replace f535 := f535.mono (ro_le hI553)
 replace f538 := f538.mono (ro_le hI553)
 replace f541 := f541.mono (ro_le hI553)
 replace f545 := f545.mono (ro_le hI553)
 replace f548 := f548.mono (ro_le hI553)
 replace f551 := f551.mono (ro_le hI553)
 replace hI0 := hI0.trans hI553
 replace hst := hst.pull1
 obtain ⟨w555, hr556, hst⟩ := hst.own_store (P := prog) (t := 34) (y := ({ ID := a1.ID, Epoch := a1.Epoch, Gets := t479, Scans := t486, Puts := t493, Data := t500 } : api_Hold)) hi527 0 (.agg #[U6 a1.ID.Session, U6 a1.ID.Seq, U6 a1.Epoch, v484, v491, v498, v505]) sizeOf34 (Nat.le_of_ble_eq_true z) (oC z (oC z (oC z (oC (one_of_sliceV (ro_sliceV f545)) (oC (one_of_sliceV (ro_sliceV f548)) (oC (one_of_sliceV (ro_sliceV f551)) (oC (one_of_sliceV (ro_sliceV f554)) oN))))))) (fun cs h => ⟨_, _, _, _, setMany_all (ty_api_Hold.len h) z, f545, f548, f551, f554, one_of_sliceV (ro_sliceV f545), one_of_sliceV (ro_sliceV f548), one_of_sliceV (ro_sliceV f551), one_of_sliceV (ro_sliceV f554)⟩)
 have hi557 := set_get hi527 ({ ID := a1.ID, Epoch := a1.Epoch, Gets := t479, Scans := t486, Puts := t493, Data := t500 } : api_Hold)
 have h558 := set_lt h526 t513.1.toNat ({ ID := a1.ID, Epoch := a1.Epoch, Gets := t479, Scans := t486, Puts := t493, Data := t500 } : api_Hold)
 refine we_unit z (x_unit hr556) ?_
 refine ws_next (pend' := []) hst (by kernel_rfl) pk_nil ?_
 refine ws_nil ?_
 intro w hst
 refine tn (wp_seq (wrl (wv (.int .i64 (0:Int)) z z z (wl_nil (tn (wp_ret ?_))))))
 replace hst := hst.pull1
 replace hst := at_locks_Table_close (pv := Pt b344 0) (x := ({ l := (o0.l.set t513.1.toNat ({ ID := a1.ID, Epoch := a1.Epoch, Gets := t479, Scans := t486, Puts := t493, Data := t500 } : api_Hold)) } : locks_Table)) hst z
 replace hst := objO_some hst
 obtain rfl := some_inj hm
 refine post_ret (vs := [Zi]) results12 (rvs_cons (rv_tmp z) rvs_nil) ?_
 exact ⟨_, z, hI0, hst.keep1⟩
}
 {
 replace hm := bif_f hc518 hm
 refine wp_iff (cvb hc518) ?_
 obtain ⟨b559, v560, e562, hst'⟩ := at_locks_Table_open hst
 clear hst
 have e562 := ptr_inj e562
 subst e562
 have hst := hst'
 clear hst'
 refine wp_region_St hst 12 [0, 1, 2, 3, 4, 5, 6, 7, 8, 9, 10, 11] [0, 0, 2, 6, 14, 0, 0, 64, 254, 511, 1023, 2047] [] z (by kernel_rfl) (by kernel_rfl) Try.mixed (by kernel_rfl) ?_
 refine wsr (Pt b344 0) 0 z z z (by kernel_rfl) (fun w hst => z) (wsr (Pt b344 0) 1 z z z (by kernel_rfl) (fun w hst => z) (wsr (Pt b344 0) 2 z z z (by kernel_rfl) (fun w hst => z) (wsr (Pt b344 0) 3 z z z (by kernel_rfl) (fun w hst => x_field z underlying77 z sizeOf22 z) (wsr (v560) 4 z z z (by kernel_rfl) (fun w hst => x_load z isAgg22 (hst.bc0 z)) (wsr (.int .i64 t513.1) 5 z z z (by kernel_rfl) (fun w hst => z) (wsr (.agg #[U6 a1.ID.Session, U6 a1.ID.Seq, U6 a1.Epoch, v484, v491, v498, v505]) 6 z z z (by kernel_rfl) (fun w hst => x_loadN (cs := [U6 a1.ID.Session, U6 a1.ID.Seq, U6 a1.Epoch, v484, v491, v498, v505]) z isAgg34 sizeOf34 (hst.bcs2 0 z)) ?_))))))
 refine ws_e1 7 (by kernel_rfl) ?_
 refine nxe [8, 9, 10, 11] (by kernel_rfl) z z ?_
 clear hst
 intro w hst
 replace hst := hst.pull6
 obtain ⟨I567, hI568, f569, hst⟩ := hst.own_fix
 replace f1_0 := f1_0.mono (rd_le hI568)
 replace f1_1 := f1_1.mono (rd_le hI568)
 replace f1_2 := f1_2.mono (rd_le hI568)
 replace f1_3 := f1_3.mono (rd_le hI568)
 replace hI0 := hI0.trans hI568
 replace hst := hst.pull5
 obtain ⟨I570, hI571, f572, hst⟩ := hst.own_fix
 replace f1_0 := f1_0.mono (rd_le hI571)
 replace f1_1 := f1_1.mono (rd_le hI571)
 replace f1_2 := f1_2.mono (rd_le hI571)
 replace f1_3 := f1_3.mono (rd_le hI571)
 replace f569 := f569.mono (ro_le hI571)
 replace hI0 := hI0.trans hI571
 replace hst := hst.pull4
 obtain ⟨I573, hI574, f575, hst⟩ := hst.own_fix
 replace f1_0 := f1_0.mono (rd_le hI574)
 replace f1_1 := f1_1.mono (rd_le hI574)
 replace f1_2 := f1_2.mono (rd_le hI574)
 replace f1_3 := f1_3.mono (rd_le hI574)
 replace f569 := f569.mono (ro_le hI574)
 replace f572 := f572.mono (ro_le hI574)
 replace hI0 := hI0.trans hI574
 replace hst := hst.pull3
 obtain ⟨I576, hI577, f578, hst⟩ := hst.own_fix
 replace f1_0 := f1_0.mono (rd_le hI577)
 replace f1_1 := f1_1.mono (rd_le hI577)
 replace f1_2 := f1_2.mono (rd_le hI577)
 replace f1_3 := f1_3.mono (rd_le hI577)
 replace f569 := f569.mono (ro_le hI577)
 replace f572 := f572.mono (ro_le hI577)
 replace f575 := f575.mono (ro_le hI577)
 replace hI0 := hI0.trans hI577
 obtain ⟨b579, w580, ew581, eb582, hst⟩ := hst.lits (E := ty_api_Hold) (xs := [({ ID := a1.ID, Epoch := a1.Epoch, Gets := t479, Scans := t486, Puts := t493, Data := t500 } : api_Hold)]) [[U6 a1.ID.Session, U6 a1.ID.Seq, U6 a1.Epoch, v484, v491, v498, v505]] 34 1 z (Reps.cons ⟨_, _, _, _, z, f569, f572, f575, f578, one_of_sliceV (ro_sliceV f569), one_of_sliceV (ro_sliceV f572), one_of_sliceV (ro_sliceV f575), one_of_sliceV (ro_sliceV f578)⟩ Reps.nil)
 refine we_run (v := (.slice (some ⟨b579, 0, none⟩) 1 1)) (w' := w580) z (x_als (by kernel_rfl) ew581 eb582) ?_
 refine ws_next (pend' := [(5, I6 t513.1), (4, v560), (3, Pt b344 0), (2, Pt b344 0), (1, Pt b344 0), (0, Pt b344 0)]) hst (by kernel_rfl) (pkr z z (fun w hst => z) (pkr z z (fun w hst => x_load z isAgg22 (hst.bc1 z)) (pkr z z (fun w hst => x_field z underlying77 z sizeOf22 z) (pkr z z (fun w hst => z) (pkr z z (fun w hst => z) (pkr z z (fun w hst => z) pk_nil)))))) ?_
 refine ws_e1 8 (by kernel_rfl) ?_
 refine nxe [9, 10, 11] (by kernel_rfl) z z ?_
 clear hst
 intro w hst
 replace hst := hst.pull2
 obtain ⟨t584, ht585, hm⟩ := bind_some hm
 refine wec call41 [v560, I6 t513.1, (.slice (some ⟨b579, 0, none⟩) 1 1)] z z ?_
 refine (slices_Insert_api_Hold_api_Hold_ref hst.to2 ht585).mono ?_
 rintro _ w586 ⟨v589, rfl, hst⟩
 refine ⟨_, z, ?_⟩
 replace hst := hst.of1
 refine ws_next (pend' := [(0, Pt b344 0)]) hst (by kernel_rfl) (pkr z z (fun w hst => z) pk_nil) ?_
 refine wsr (Pt b344 0) 9 z z z (by kernel_rfl) (fun w hst => z) (wsr (Pt b344 0) 10 z z z (by kernel_rfl) (fun w hst => x_field z underlying77 z sizeOf22 z) ?_)
 refine ws_e1 11 (by kernel_rfl) ?_
 refine nxe [] (by kernel_rfl) z z ?_
 clear hst
 intro w hst
 replace hst := hst.pull1
 obtain ⟨w591, hr592, hst⟩ := hst.boxStore1 (P := prog) (t := 22) (cs' := [v589]) 0 v589 (one_of_sliceV hst.sv1) sizeOf22 z z
 refine we_unit z (x_unit hr592) ?_
 refine ws_next (pend' := []) hst (by kernel_rfl) pk_nil ?_
 refine ws_nil ?_
 intro w hst
 refine tn (wp_seq (wrl (wv (.int .i64 (0:Int)) z z z (wl_nil (tn (wp_ret ?_))))))
 replace hst := hst.pull1.pull1
 replace hst := at_locks_Table_close (pv := Pt b344 0) (x := ({ l := t584 } : locks_Table)) hst z
 replace hst := objO_some hst
 obtain rfl := some_inj hm
 refine post_ret (vs := [Zi]) results12 (rvs_cons (rv_tmp z) rvs_nil) ?_
 exact ⟨_, z, hI0, hst.keep1⟩
}
}
}
}

theorem locks_Table_Len_ref {w0 w : World} {I : HL} {R : SP} {a0 : (Option locks_Table)} {p0 : Value}  (hst : St w0 w I [objO at_locks_Table p0 a0] R) {r : (Int)} (hm : locks_Table_Len a0 = some r) :
  Calls prog 27 #[p0] w fun e w' => e = .returned (.int .i64 r) ∧ St w0 w' I [objO at_locks_Table p0 a0] R := by {
 rcases a0 with _ | o0
 {
 obtain ⟨rfl, hst'⟩ := objO_none hst
 clear hst
 have hst := hst'
 clear hst'
 dsimp only [locks_Table_Len] at hm
 refine calls_start (args := [.pointer none]) func27 z ntmps27 (Nat.le_of_ble_eq_true z) ?_
 refine wp_seq (wrl (wv (.int .i64 (0:Int)) z z z (wl_nil (tn (wp_seq (wp_seq (wrl (wv (.pointer none) z z z (wv (.bool true) z z (by kernel_rfl) (wl_nil (tn ?_)))))))))))
 refine wp_ift z ?_
 refine wp_seq (wrl (wv (.int .i64 (0:Int)) z z z (wl_nil (tn (wp_ret (then_r ?_))))))
 replace hst := hst.objO_nil at_locks_Table
 obtain rfl := some_inj hm
 refine post_ret (vs := [Zi]) results27 (rvs_cons (rv_tmp z) rvs_nil) ?_
 exact ⟨z, hst.keep1⟩
}
 {
 replace hst := objO_get hst
 dsimp only [locks_Table_Len] at hm
 refine calls_start (args := [p0]) func27 z ntmps27 (Nat.le_of_ble_eq_true z) ?_
 refine wp_seq (wrl (wv (.int .i64 (0:Int)) z z z (wl_nil (tn (wp_seq (wp_seq (wrl (wv (p0) z z z ?_))))))))
 obtain ⟨b90, v91, rfl, hst'⟩ := at_locks_Table_open hst
 clear hst
 have hst := hst'
 clear hst'
 refine wv (.bool false) z z (by kernel_rfl) (wl_nil (tn ?_))
 refine wp_iff z ?_
 refine wp_skip (tn (wp_seq (wrl ?_)))
 refine wv (Pt b90 0) z z z (wv (Pt b90 0) z z z (wv (Pt b90 0) z z (x_field z underlying77 z sizeOf22 z) (wv (v91) z z (x_load z isAgg22 (hst.bc0 z)) (wv (.int .i64 ((o0.l).length : Int)) z z (x_len z underlying22 hst.sv1) (wv (.int .i64 ((o0.l).length : Int)) z z z (wl_nil (tn (wp_ret ?_))))))))
 replace hst := hst.pull1.pull1
 replace hst := at_locks_Table_close (pv := Pt b90 0) (x := o0) hst z
 replace hst := objO_some hst
 obtain rfl := some_inj hm
 refine post_ret (vs := [I6 ((o0.l).length : Int)]) results27 (rvs_cons (rv_tmp z) rvs_nil) ?_
 exact ⟨z, hst.keep1⟩
}
}

theorem law12_awake_ref {w0 w : World} {I : HL} {R : SP}   (hst : St w0 w I [] R) {r : (Bool)} (hm : law12_awake = some r) :
  Calls prog 9 #[] w fun e w' => ∃ (I' : HL), e = .returned (.bool r) ∧ I.le I' ∧ St w0 w' I' [] R := by {
 unfold law12_awake at hm
 refine calls_start (args := []) func9 z ntmps9 (Nat.le_of_ble_eq_true z) ?_
 have hI0 := HL.le.refl I
 refine wp_seq (wrl (wv (.bool false) z z z (wl_nil (tn (wp_seq (wrl (wv (.agg #[U6 (1:Int), U6 (1:Int)]) z z (by kernel_rfl) ?_)))))))
 obtain ⟨b90, w91, ew92, eb93, hst⟩ := hst.lits (E := tyF64) (xs := [(4607182418800017408:Nat)]) [[F6 (4607182418800017408:Nat)]] 57 1 z (Reps.cons z Reps.nil)
 refine wl_run (v := (.slice (some ⟨b90, 0, none⟩) 1 1)) (w' := w91) z z (x_als (by kernel_rfl) ew92 eb93) ?_
 refine wv (.agg #[U6 (1:Int), U6 (1:Int), Zu, Zs, Zs, (.slice (some ⟨b90, 0, none⟩) 1 1), Zs]) z z (by kernel_rfl) ?_
 obtain ⟨b103, w104, ew105, eb106, hst⟩ := hst.box [Zu, Zu, Zu, Zs, Zs, Zs, Zs] 34
 refine wl_run (v := Pt b103 0) (w' := w104) z z (x_al (by kernel_rfl) ew105 eb106) ?_
 obtain ⟨w108, hr109, hst⟩ := hst.bx [U6 (1:Int), U6 (1:Int), Zu, Zs, Zs, (.slice (some ⟨b90, 0, none⟩) 1 1), Zs] sizeOf34 z (oC z (oC z (oC z (oC z (oC z (oC (one_of_sliceV hst.sv1) (oC z oN))))))) (by kernel_rfl)
 refine wl_unit z z (x_unit hr109) ?_
 refine wl_nil (tn (wp_seq (wrl (wv (.agg #[U6 (2:Int), U6 (1:Int)]) z z (by kernel_rfl) (wv (.agg #[Zf, F6 (4611686018427387904:Nat)]) z z (by kernel_rfl) ?_)))))
 obtain ⟨b110, w111, ew112, eb113, hst⟩ := hst.lits (E := tyF2) (xs := [((0:Nat), (4611686018427387904:Nat))]) [[Zf, F6 (4611686018427387904:Nat)]] 75 1 z (Reps.cons z Reps.nil)
 refine wl_run (v := (.slice (some ⟨b110, 0, none⟩) 1 1)) (w' := w111) z z (x_als (by kernel_rfl) ew112 eb113) ?_
 refine wv (.agg #[U6 (2:Int), U6 (1:Int), Zu, Zs, (.slice (some ⟨b110, 0, none⟩) 1 1), Zs, Zs]) z z (by kernel_rfl) ?_
 obtain ⟨b123, w124, ew125, eb126, hst⟩ := hst.box [Zu, Zu, Zu, Zs, Zs, Zs, Zs] 34
 refine wl_run (v := Pt b123 0) (w' := w124) z z (x_al (by kernel_rfl) ew125 eb126) ?_
 obtain ⟨w128, hr129, hst⟩ := hst.bx [U6 (2:Int), U6 (1:Int), Zu, Zs, (.slice (some ⟨b110, 0, none⟩) 1 1), Zs, Zs] sizeOf34 z (oC z (oC z (oC z (oC z (oC (one_of_sliceV hst.sv1) (oC z (oC z oN))))))) (by kernel_rfl)
 refine wl_unit z z (x_unit hr129) ?_
 refine wl_nil (tn (wp_seq (wrl ?_)))
 obtain ⟨t130, ht131, hm⟩ := bind_some hm
 refine wc call10 [] z z z ?_
 refine (locks_New_ref hst.to0 ht131).mono ?_
 rintro _ w132 ⟨v135, rfl, hst⟩
 refine ⟨_, z, ?_⟩
 replace hst := hst.of1
 refine wv (v135) z z z (wl_nil (tn (wp_seq (wrl (wv (.agg #[U6 (1:Int), U6 (1:Int), Zu, Zs, Zs, (.slice (some ⟨b90, 0, none⟩) 1 1), Zs]) z z (x_loadN (cs := [U6 (1:Int), U6 (1:Int), Zu, Zs, Zs, (.slice (some ⟨b90, 0, none⟩) 1 1), Zs]) z isAgg34 sizeOf34 (hst.bcs3 0 z)) (wv (.agg #[U6 (2:Int), U6 (1:Int), Zu, Zs, (.slice (some ⟨b110, 0, none⟩) 1 1), Zs, Zs]) z z (x_loadN (cs := [U6 (2:Int), U6 (1:Int), Zu, Zs, (.slice (some ⟨b110, 0, none⟩) 1 1), Zs, Zs]) z isAgg34 sizeOf34 (hst.bcs1 0 z)) ?_))))))
 have f137 : Ro tyF64 I (.slice none 0 0) [] := ro_nil
 have f138 : Ro tyF2 I (.slice none 0 0) [] := ro_nil
 have f139 : Ro (tyInt .u8) I (.slice none 0 0) [] := ro_nil
 have f140 : Ro tyF64 I (.slice none 0 0) [] := ro_nil
 have f141 : Ro tyF64 I (.slice none 0 0) [] := ro_nil
 have f142 : Ro (tyInt .u8) I (.slice none 0 0) [] := ro_nil
 replace hst := hst.pull4
 obtain ⟨css143, hq144, hst⟩ := hst.own_open
 replace hst := hst.pull3
 obtain ⟨css145, hq146, hst⟩ := hst.own_open
 obtain ⟨t147, ht148, hm⟩ := bind_some hm
 refine wc call19 [.agg #[U6 (1:Int), U6 (1:Int), Zu, Zs, Zs, (.slice (some ⟨b90, 0, none⟩) 1 1), Zs], .agg #[U6 (2:Int), U6 (1:Int), Zu, Zs, (.slice (some ⟨b110, 0, none⟩) 1 1), Zs, Zs]] z z z ?_
 refine (locks_Meet_ref (a0 := ({ ID := ({ Session := (1:Int), Seq := (1:Int) } : api_ID), Epoch := (0:Int), Gets := [], Scans := [], Puts := [(4607182418800017408:Nat)], Data := [] } : api_Hold)) (a1 := ({ ID := ({ Session := (2:Int), Seq := (1:Int) } : api_ID), Epoch := (0:Int), Gets := [], Scans := [((0:Nat), (4611686018427387904:Nat))], Puts := [], Data := [] } : api_Hold)) (f137.mono ro_rd) (f138.mono ro_rd) (hst.rdrow1 hq144) (f139.mono ro_rd) (f140.mono ro_rd) (hst.rdrow0 hq146) (f141.mono ro_rd) (f142.mono ro_rd) hst.to0 ht148).mono ?_
 rintro _ w149 ⟨rfl, hst⟩
 refine ⟨_, z, ?_⟩
 replace hst := hst.of0.pull1.own_close hq144
 replace hst := hst.pull1.own_close hq146
 refine wv (.bool t147) z z z ?_
 refine bsplit t147 (fun hc152 => ?_) (fun hc152 => ?_)
 {
 replace hm := bif_t hc152 hm
 refine wv (v135) ((wanted_eq z z z (cvb hc152)).trans z) z z (wv (.agg #[U6 (1:Int), U6 (1:Int), Zu, Zs, Zs, (.slice (some ⟨b90, 0, none⟩) 1 1), Zs]) ((wanted_eq z z z (cvb hc152)).trans z) z (x_loadN (cs := [U6 (1:Int), U6 (1:Int), Zu, Zs, Zs, (.slice (some ⟨b90, 0, none⟩) 1 1), Zs]) z isAgg34 sizeOf34 (hst.bcs4 0 z)) ?_)
 replace hst := hst.pull2
 replace hst := objO_some hst
 replace hst := hst.pull2
 obtain ⟨css153, hq154, hst⟩ := hst.own_open
 replace hst := hst.pull1
 obtain ⟨t155, ht156, hm⟩ := bind_some hm
 refine wl_call ((wanted_eq z z z (cvb hc152)).trans z) z (x_call call12 z (vs := [v135, .agg #[U6 (1:Int), U6 (1:Int), Zu, Zs, Zs, (.slice (some ⟨b90, 0, none⟩) 1 1), Zs]]) z) ?_
 refine (locks_Table_Take_ref (a1 := ({ ID := ({ Session := (1:Int), Seq := (1:Int) } : api_ID), Epoch := (0:Int), Gets := [], Scans := [], Puts := [(4607182418800017408:Nat)], Data := [] } : api_Hold)) (f137.mono ro_rd) (f138.mono ro_rd) (hst.sub.rdrow0 hq154) (f139.mono ro_rd) hst.to1 ht156).mono ?_
 rintro _ w157 ⟨I158, rfl, hI159, hst⟩
 refine ⟨_, z, ?_⟩
 replace hst := hst.of1
 replace f137 := f137.mono (ro_le hI159)
 replace f138 := f138.mono (ro_le hI159)
 replace f139 := f139.mono (ro_le hI159)
 replace f140 := f140.mono (ro_le hI159)
 replace f141 := f141.mono (ro_le hI159)
 replace f142 := f142.mono (ro_le hI159)
 replace hI0 := hI0.trans hI159
 replace hst := hst.pull1.own_close (hq154.imp fun _ _ => Ty.mono _ (ro_le hI159))
 replace hst := hst.pull1
 rcases he161 : t155.2 with _ | y160
 · rw [he161] at hm; cases hm
 rw [he161] at hm hst; dsimp only at hm; replace hst := objO_get hst
 refine wv (.bool (t155.1 == (0:Int))) ((wanted_eq z z z (cvb hc152)).trans z) z z (wv (.bool (t155.1 == (0:Int))) z z (x_pick_t hc152 z z) (wv (.bool (t155.1 == (0:Int))) z z z ?_))
 refine bsplit (t155.1 == (0:Int)) (fun hc162 => ?_) (fun hc162 => ?_)
 {
 replace hm := bif_t hc162 hm
 refine wv (v135) ((wanted_eq z z z (cvb hc162)).trans z) z z (wv (.agg #[U6 (2:Int), U6 (1:Int), Zu, Zs, (.slice (some ⟨b110, 0, none⟩) 1 1), Zs, Zs]) ((wanted_eq z z z (cvb hc162)).trans z) z (x_loadN (cs := [U6 (2:Int), U6 (1:Int), Zu, Zs, (.slice (some ⟨b110, 0, none⟩) 1 1), Zs, Zs]) z isAgg34 sizeOf34 (hst.bcs3 0 z)) ?_)
 replace hst := objO_some hst
 replace hst := hst.pull2
 obtain ⟨css163, hq164, hst⟩ := hst.own_open
 replace hst := hst.pull1
 obtain ⟨t165, ht166, hm⟩ := bind_some hm
 refine wl_call ((wanted_eq z z z (cvb hc162)).trans z) z (x_call call12 z (vs := [v135, .agg #[U6 (2:Int), U6 (1:Int), Zu, Zs, (.slice (some ⟨b110, 0, none⟩) 1 1), Zs, Zs]]) z) ?_
 refine (locks_Table_Take_ref (a1 := ({ ID := ({ Session := (2:Int), Seq := (1:Int) } : api_ID), Epoch := (0:Int), Gets := [], Scans := [((0:Nat), (4611686018427387904:Nat))], Puts := [], Data := [] } : api_Hold)) (f140.mono ro_rd) (hst.sub.rdrow0 hq164) (f141.mono ro_rd) (f142.mono ro_rd) hst.to1 ht166).mono ?_
 rintro _ w167 ⟨I168, rfl, hI169, hst⟩
 refine ⟨_, z, ?_⟩
 replace hst := hst.of1
 replace f137 := f137.mono (ro_le hI169)
 replace f138 := f138.mono (ro_le hI169)
 replace f139 := f139.mono (ro_le hI169)
 replace f140 := f140.mono (ro_le hI169)
 replace f141 := f141.mono (ro_le hI169)
 replace f142 := f142.mono (ro_le hI169)
 replace hI0 := hI0.trans hI169
 replace hst := hst.pull1.own_close (hq164.imp fun _ _ => Ty.mono _ (ro_le hI169))
 replace hst := hst.pull1
 rcases he171 : t165.2 with _ | y170
 · rw [he171] at hm; cases hm
 rw [he171] at hm hst; dsimp only at hm; replace hst := objO_get hst
 refine wv (.bool (t165.1 == (8:Int))) ((wanted_eq z z z (cvb hc162)).trans z) z z (wv (.bool (t165.1 == (8:Int))) z z (x_pick_t hc162 z z) (wv (.bool (t165.1 == (8:Int))) z z z ?_))
 refine bsplit (t165.1 == (8:Int)) (fun hc172 => ?_) (fun hc172 => ?_)
 {
 replace hm := bif_t hc172 hm
 refine wv (v135) ((wanted_eq z z z (cvb hc172)).trans z) z z ?_
 replace hst := objO_some hst
 obtain ⟨t173, ht174, hm⟩ := bind_some hm
 refine wl_call ((wanted_eq z z z (cvb hc172)).trans z) z (x_call call27 z (vs := [v135]) z) ?_
 refine (locks_Table_Len_ref hst.to1 ht174).mono ?_
 rintro _ w175 ⟨rfl, hst⟩
 refine ⟨_, z, ?_⟩
 replace hst := hst.of1
 replace hst := objO_get hst
 refine wv (.bool (t173 == (1:Int))) ((wanted_eq z z z (cvb hc172)).trans z) z z (wv (.bool (t173 == (1:Int))) z z (x_pick_t hc172 z z) (wv (.bool (t173 == (1:Int))) z z z (wl_nil (tn (wp_ret ?_)))))
 obtain rfl := some_inj hm
 refine post_ret (vs := [.bool (t173 == (1:Int))]) results9 (rvs_cons (rv_tmp z) rvs_nil) ?_
 exact ⟨_, z, hI0, hst.keep0⟩
}
 {
 replace hm := bif_f hc172 hm
 refine wo hc172 z z z z z z (wo hc172 z z z z z z (wo hc172 z z z z z z (wv (.bool false) z z (x_pick_f hc172 z z) (wv (.bool false) z z z (wl_nil (tn (wp_ret ?_)))))))
 obtain rfl := some_inj hm
 refine post_ret (vs := [.bool false]) results9 (rvs_cons (rv_tmp z) rvs_nil) ?_
 exact ⟨_, z, hI0, hst.keep0⟩
}
}
 {
 replace hm := bif_f hc162 hm
 refine wo hc162 z z z z z z (wo hc162 z z z z z z (wo hc162 z z z z z z (wo hc162 z z z z z z (wv (.bool false) z z (x_pick_f hc162 z z) (wv (.bool false) z z z (wz z z z z z z (wz z z z z z z (wz z z z z z z (wv (.bool false) z z (x_pick_f z z z) (wv (.bool false) z z z (wl_nil (tn (wp_ret ?_)))))))))))))
 obtain rfl := some_inj hm
 refine post_ret (vs := [.bool false]) results9 (rvs_cons (rv_tmp z) rvs_nil) ?_
 exact ⟨_, z, hI0, hst.keep0⟩
}
}
 {
 replace hm := bif_f hc152 hm
 refine wo hc152 z z z z z z (wo hc152 z z z z z z (wo hc152 z z z z z z (wo hc152 z z z z z z (wv (.bool false) z z (x_pick_f hc152 z z) (wv (.bool false) z z z (wz z z z z z z (wz z z z z z z (wz z z z z z z (wz z z z z z z (wv (.bool false) z z (x_pick_f z z z) (wv (.bool false) z z z (wz z z z z z z ?_))))))))))))
 refine wz z z z z z z (wz z z z z z z (wv (.bool false) z z (x_pick_f z z z) (wv (.bool false) z z z (wl_nil (tn (wp_ret ?_))))))
 obtain rfl := some_inj hm
 refine post_ret (vs := [.bool false]) results9 (rvs_cons (rv_tmp z) rvs_nil) ?_
 exact ⟨_, z, hI0, hst.keep0⟩
}
}

theorem ref12_Tape_Next_ref {w0 w : World} {I : HL} {R : SP} {a0 : ref12_Tape} {p0 : Value} {a1 : Int}  (hst : St w0 w I [at_ref12_Tape p0 a0] R) {r : (Int × ref12_Tape)} (hm : ref12_Tape_Next a0 a1 = some r) :
  Calls prog 20 #[p0, I6 a1] w fun e w' => e = .returned (.int .i64 r.1) ∧ St w0 w' I [at_ref12_Tape p0 r.2] R := by {
 unfold ref12_Tape_Next at hm
 refine calls_start (args := [p0, I6 a1]) func20 z ntmps20 (Nat.le_of_ble_eq_true z) ?_
 refine wp_seq (wrl (wv (.int .i64 (0:Int)) z z z (wl_nil (tn (wp_seq (wp_seq ?_))))))
 obtain ⟨b49, v50, ⟨rfl, f52⟩, hst'⟩ := at_ref12_Tape_open hst
 clear hst
 have hst := hst'
 clear hst'
 refine wq_regionS hst Try.mixed (by kernel_rfl) ?_
 refine wq_run (v := Pt b49 0) z z (fun w hst => z) ?_
 refine wq_run (v := Pt b49 0) z z (fun w hst => z) ?_
 refine wq_run (v := Pt b49 1) z z (fun w hst => x_field z underlying45 z sizeOf3 z) ?_
 refine wq_run (v := .int .i64 a0.I) z z (fun w hst => x_load z isAgg3 (hst.bc0 z)) ?_
 refine wq_run (v := Pt b49 0) z z (fun w hst => z) ?_
 refine wq_run (v := Pt b49 0) z z (fun w hst => z) ?_
 refine wq_run (v := Pt b49 0) z z (fun w hst => x_field z underlying45 z sizeOf32 z) ?_
 refine wq_run (v := v50) z z (fun w hst => x_load z isAgg32 (hst.bc0 z)) ?_
 refine wq_run (v := .int .i64 ((a0.L).length : Int)) z z (fun w hst => x_len z underlying32 (ro_sliceV f52)) ?_
 refine wq_run (v := .bool (decide (a0.I ≥ ((a0.L).length : Int)))) z z (fun w hst => z) ?_
 refine wq_nil ?_
 intro w hst
 refine tn ?_
 refine bsplit (decide (a0.I ≥ ((a0.L).length : Int))) (fun hc53 => ?_) (fun hc53 => ?_)
 {
 replace hm := bif_t hc53 hm
 refine wp_ift (cvb hc53) ?_
 refine wp_seq (wrl (wv (.int .i64 (0:Int)) z z z (wl_nil (tn (wp_ret (then_r ?_))))))
 replace hst := at_ref12_Tape_close (pv := Pt b49 0) (x := a0) hst ⟨z, f52⟩
 obtain rfl := some_inj hm
 refine post_ret (vs := [Zi]) results20 (rvs_cons (rv_tmp z) rvs_nil) ?_
 exact ⟨z, hst.keep1⟩
}
 {
 replace hm := bif_f hc53 hm
 refine wp_iff (cvb hc53) ?_
 refine wp_skip (tn (wp_seq (wrl ?_)))
 refine wv (Pt b49 0) z z z (wv (Pt b49 0) z z z (wv (Pt b49 1) z z (x_field z underlying45 z sizeOf3 z) (wv (.int .i64 a0.I) z z (x_load z isAgg3 (hst.bc0 z)) (wv (.int .i64 (i64.wrap (a0.I + (1:Int)))) z z z (wv (Pt b49 0) z z z (wv (Pt b49 1) z z (x_field z underlying45 z sizeOf3 z) ?_))))))
 obtain ⟨w54, hr55, hst⟩ := hst.by_ [v50, I6 (i64.wrap (a0.I + (1:Int)))] 1 (.int .i64 (i64.wrap (a0.I + (1:Int)))) sizeOf3 z (oC z oN) (by kernel_rfl)
 refine wl_unit z z (x_unit hr55) ?_
 refine wl_nil (tn (wp_seq ?_))
 refine wq_regionS hst Try.mixed (by kernel_rfl) ?_
 refine wq_run (v := Pt b49 0) z z (fun w hst => z) ?_
 refine wq_run (v := Pt b49 0) z z (fun w hst => z) ?_
 refine wq_run (v := Pt b49 0) z z (fun w hst => x_field z underlying45 z sizeOf32 z) ?_
 refine wq_run (v := v50) z z (fun w hst => x_load z isAgg32 (hst.bc0 z)) ?_
 refine wq_run (v := Pt b49 0) z z (fun w hst => z) ?_
 refine wq_run (v := Pt b49 0) z z (fun w hst => z) ?_
 refine wq_run (v := Pt b49 1) z z (fun w hst => x_field z underlying45 z sizeOf3 z) ?_
 refine wq_run (v := .int .i64 (i64.wrap (a0.I + (1:Int)))) z z (fun w hst => x_load z isAgg3 (hst.bc0 z)) ?_
 refine wq_run (v := .int .i64 (i64.wrap ((i64.wrap (a0.I + (1:Int))) - (1:Int)))) z z (fun w hst => z) ?_
 obtain ⟨x56, hx57, hm⟩ := bind_some hm
 obtain ⟨h58, h59, hi60⟩ := geto_some hx57
 refine wq_run (v := .pointer (some (eAddr v50 ((i64.wrap ((i64.wrap (a0.I + (1:Int))) - (1:Int))).toNat * 1 + 0)))) z z (fun w hst => x_index z z underlying32 sizeOf5 (ro_sliceV f52) h58 h59) ?_
 refine wq_run (v := .int .u8 x56) z z (fun w hst => x_load z isAgg5 (ro_load f52 hst hi60 (by rintro _ rfl; rfl))) ?_
 refine wq_run (v := .int .i64 (i64.wrap x56)) z z (fun w hst => by kernel_rfl) ?_
 refine wq_run (v := .int .i64 a1) z z (fun w hst => z) ?_
 obtain ⟨hg61, hm⟩ := gd_some hm
 refine wq_run (v := .int .i64 (Int.tmod (i64.wrap x56) a1)) z z (fun w hst => x_rem (not_t hg61) z z) ?_
 refine wq_run (v := .int .i64 (Int.tmod (i64.wrap x56) a1)) z z (fun w hst => z) ?_
 refine wq_nil ?_
 intro w hst
 refine tn (wp_ret ?_)
 replace hst := at_ref12_Tape_close (pv := Pt b49 0) (x := ({ L := a0.L, I := (i64.wrap (a0.I + (1:Int))) } : ref12_Tape)) hst ⟨z, f52⟩
 obtain rfl := some_inj hm
 refine post_ret (vs := [I6 (Int.tmod (i64.wrap x56) a1)]) results20 (rvs_cons (rv_tmp z) rvs_nil) ?_
 exact ⟨z, hst.keep1⟩
}
}

theorem ref12_Tape_Of_ref {w0 w : World} {I : HL} {R : SP} {a0 : ref12_Tape} {p0 : Value}  (hst : St w0 w I [at_ref12_Tape p0 a0] R) {r : (api_ID × ref12_Tape)} (hm : ref12_Tape_Of a0 = some r) :
  Calls prog 21 #[p0] w fun e w' => e = .returned (.agg #[U6 r.1.Session, U6 r.1.Seq]) ∧ St w0 w' I [at_ref12_Tape p0 r.2] R := by {
 unfold ref12_Tape_Of at hm
 refine calls_start (args := [p0]) func21 z ntmps21 (Nat.le_of_ble_eq_true z) ?_
 refine wp_seq (wrl ?_)
 obtain ⟨b59, w60, ew61, eb62, hst⟩ := hst.box [Zu, Zu] 29
 refine wl_run (v := Pt b59 0) (w' := w60) z z (x_al (by kernel_rfl) ew61 eb62) ?_
 refine wl_nil (tn (wp_seq (wrl (wv (p0) z z z ?_))))
 replace hst := hst.pull1
 obtain ⟨t64, ht65, hm⟩ := bind_some hm
 refine wc call20 [p0, I6 (4:Int)] z z z ?_
 refine (ref12_Tape_Next_ref hst.to1 ht65).mono ?_
 rintro _ w66 ⟨rfl, hst⟩
 refine ⟨_, z, ?_⟩
 replace hst := hst.of1
 refine wv (.int .u64 (u64.wrap t64.1)) z z (by kernel_rfl) (wv (p0) z z z ?_)
 obtain ⟨t69, ht70, hm⟩ := bind_some hm
 refine wc call20 [p0, I6 (4:Int)] z z z ?_
 refine (ref12_Tape_Next_ref hst.to1 ht70).mono ?_
 rintro _ w71 ⟨rfl, hst⟩
 refine ⟨_, z, ?_⟩
 replace hst := hst.of1
 refine wv (.int .i64 (i64.wrap ((1:Int) + t69.1))) z z z (wv (.int .u64 (u64.wrap (i64.wrap ((1:Int) + t69.1)))) z z (by kernel_rfl) (wv (.agg #[U6 (u64.wrap t64.1), U6 (u64.wrap (i64.wrap ((1:Int) + t69.1)))]) z z (by kernel_rfl) ?_))
 replace hst := hst.pull1
 obtain ⟨w74, hr75, hst⟩ := hst.bx [U6 (u64.wrap t64.1), U6 (u64.wrap (i64.wrap ((1:Int) + t69.1)))] sizeOf29 z (oC z (oC z oN)) (by kernel_rfl)
 refine wl_unit z z (x_unit hr75) ?_
 refine wl_nil (tn (wp_ret ?_))
 obtain rfl := some_inj hm
 refine post_ret (vs := [.agg #[U6 (u64.wrap t64.1), U6 (u64.wrap (i64.wrap ((1:Int) + t69.1)))]]) results21 (rvs_cons (rv_cell (cs := [U6 (u64.wrap t64.1), U6 (u64.wrap (i64.wrap ((1:Int) + t69.1)))]) z isAgg29 sizeOf29 (hst.bcs0 0 z)) rvs_nil) ?_
 replace hst := hst.pull1
 exact ⟨z, hst.keep1⟩
}

theorem ref11_Held_ref {w0 w : World} {I : HL} {R : SP} {a0 : (List api_Hold)} {r0_0 : Value} {a1 : api_ID} (f0_0 : Ro ty_api_Hold I r0_0 a0) (hst : St w0 w I [] R) {r : (api_Hold × Bool)} (hm : ref11_Held a0 a1 = some r) :
  Calls prog 22 #[r0_0, .agg #[U6 a1.Session, U6 a1.Seq]] w fun e w' => ∃ (I' : HL) (q0_0 : Value) (q0_1 : Value) (q0_2 : Value) (q0_3 : Value), e = .returned (.tuple #[.agg #[U6 r.1.ID.Session, U6 r.1.ID.Seq, U6 r.1.Epoch, q0_0, q0_1, q0_2, q0_3], .bool r.2]) ∧ I.le I' ∧ Ro tyF64 I' q0_0 r.1.Gets ∧ Ro tyF2 I' q0_1 r.1.Scans ∧ Ro tyF64 I' q0_2 r.1.Puts ∧ Ro (tyInt .u8) I' q0_3 r.1.Data ∧ St w0 w' I' [] R := by {
 unfold ref11_Held at hm
 refine calls_start (args := [r0_0, .agg #[U6 a1.Session, U6 a1.Seq]]) func22 z ntmps22 (Nat.le_of_ble_eq_true z) ?_
 have hI0 := HL.le.refl I
 refine wp_seq (wrl ?_)
 obtain ⟨b156, w157, ew158, eb159, hst⟩ := hst.box [U6 a1.Session, U6 a1.Seq] 29
 refine wl_run (v := Pt b156 0) (w' := w157) z z (x_al (by kernel_rfl) ew158 eb159) ?_
 obtain ⟨b165, w166, ew167, eb168, hst⟩ := hst.box [Zu, Zu, Zu, Zs, Zs, Zs, Zs] 34
 refine wl_run (v := Pt b165 0) (w' := w166) z z (x_al (by kernel_rfl) ew167 eb168) ?_
 refine wv (.bool false) z z z (wl_nil (tn (wp_seq (wp_seq (wrl (wv (.int .i64 (0:Int)) z z z (wl_nil (tn (wp_block ?_)))))))))
 obtain ⟨n221, hm⟩ := loopO_some hm
 refine wp_loop_n (fun n a w => ∃ (z219 : Int) (σ220 : Nat → Value), loopN (ref11_Held_l0 a0 a1) n z219 = some r ∧ a = Fr 25 (upd (upd (upd (upd σ220 0 (r0_0)) 3 (Pt b156 0)) 4 (Pt b165 0)) 6 (.int .i64 z219)) ∧ St w0 w I [cells b165 [Zu, Zu, Zu, Zs, Zs, Zs, Zs], cells b156 [U6 a1.Session, U6 a1.Seq]] R) n221 ⟨(0:Int), _, hm, (fu 0 r0_0 z (fu 3 (Pt b156 0) z (fu 4 (Pt b165 0) z (fu 6 (.int .i64 (0:Int)) z z)))), hst⟩ ?_
 rintro n227 _ w222 ⟨z219, σ220, hm, rfl, hst⟩
 obtain ⟨n224, y225, rfl, hm, hx226⟩ := loopN_some hm
 dsimp only [ref11_Held_l0] at hm
 refine wp_seq (wp_seq (wrl (wv (.int .i64 z219) z z z (wv (r0_0) z z z (wv (.int .i64 ((a0).length : Int)) z z (x_len z underlying22 (ro_sliceV f0_0)) (wv (.bool (decide (z219 < ((a0).length : Int)))) z z z (wl_nil (tn ?_))))))))
 refine bsplit (decide (z219 < ((a0).length : Int))) (fun hc228 => ?_) (fun hc228 => ?_)
 {
 replace hm := bif_t hc228 hm
 refine wp_ift (cvb hc228) ?_
 refine wp_skip (tn (wp_seq (wp_block (wp_seq ?_))))
 refine wq_regionS hst Try.mixed (by kernel_rfl) ?_
 refine wq_run (v := r0_0) z z (fun w hst => z) ?_
 refine wq_run (v := .int .i64 z219) z z (fun w hst => z) ?_
 obtain ⟨x229, hx230, hm⟩ := bind_some hm
 obtain ⟨h231, h232, hi233⟩ := geto_some hx230
 refine wq_run (v := .pointer (some (eAddr r0_0 (z219.toNat * 7 + 0)))) z z (fun w hst => x_index z z underlying22 sizeOf34 (ro_sliceV f0_0) h231 h232) ?_
 refine wq_run (v := .pointer (some (eAddr r0_0 (z219.toNat * 7 + 0)))) z z (fun w hst => x_field_e z underlying34 z sizeOf29 z) ?_
 obtain ⟨cs234, hr235, hc236⟩ := Ro.getF f0_0 hi233
 obtain ⟨v237, v240, v243, v246, rfl, f238, f241, f244, f247, -⟩ := hr235
 refine wq_run (v := .agg #[U6 x229.ID.Session, U6 x229.ID.Seq]) z z (fun w hst => x_loadN (cs := [U6 x229.ID.Session, U6 x229.ID.Seq]) z isAgg29 sizeOf29 (eCells (o := 0) (hc236 (HL.le.refl _) hst) z)) ?_
 refine wq_run (v := .agg #[U6 a1.Session, U6 a1.Seq]) z z (fun w hst => x_loadN (cs := [U6 a1.Session, U6 a1.Seq]) z isAgg29 sizeOf29 (hst.bcs1 0 z)) ?_
 refine wq_run (v := .bool ((x229.ID.Session == a1.Session) && (x229.ID.Seq == a1.Seq))) z z (fun w hst => x_aggeq2 z z (by kernel_rfl) underlying29 (by kernel_rfl) (by kernel_rfl) (by kernel_rfl) underlying27 underlying27 (fun _ _ _ => by kernel_rfl) (fun _ _ _ => by kernel_rfl)) ?_
 refine wq_nil ?_
 intro w hst
 refine tn ?_
 refine bsplit ((x229.ID.Session == a1.Session) && (x229.ID.Seq == a1.Seq)) (fun hc249 => ?_) (fun hc249 => ?_)
 {
 replace hm := bif_t hc249 hm
 refine wp_ift (cvb hc249) ?_
 refine wp_seq (wrl (wv (r0_0) z z z (wv (.int .i64 z219) z z z (wv (.pointer (some (eAddr r0_0 (z219.toNat * 7 + 0)))) z z (x_index z z underlying22 sizeOf34 (ro_sliceV f0_0) h231 h232) (wv (.agg #[U6 x229.ID.Session, U6 x229.ID.Seq, U6 x229.Epoch, v237, v240, v243, v246]) z z (x_loadN (cs := [U6 x229.ID.Session, U6 x229.ID.Seq, U6 x229.Epoch, v237, v240, v243, v246]) z isAgg34 sizeOf34 (eCells (o := 0) (hc236 (HL.le.refl _) hst) z)) ?_)))))
 obtain ⟨w250, hr251, hst⟩ := hst.bx [U6 x229.ID.Session, U6 x229.ID.Seq, U6 x229.Epoch, v237, v240, v243, v246] sizeOf34 z (oC z (oC z (oC z (oC (one_of_sliceV (ro_sliceV f238)) (oC (one_of_sliceV (ro_sliceV f241)) (oC (one_of_sliceV (ro_sliceV f244)) (oC (one_of_sliceV (ro_sliceV f247)) oN))))))) (by kernel_rfl)
 refine wl_unit z z (x_unit hr251) ?_
 refine wv (.bool true) z z z (wl_nil (tn (wp_ret (blk_r (then_r (then_r ?_))))))
 replace hm := inr_up hm hx226
 refine blk_r (then_r ?_)
 obtain rfl := some_inj hm
 refine post_ret (vs := [.agg #[U6 x229.ID.Session, U6 x229.ID.Seq, U6 x229.Epoch, v237, v240, v243, v246], .bool true]) results22 (rvs_cons (rv_cell (cs := [U6 x229.ID.Session, U6 x229.ID.Seq, U6 x229.Epoch, v237, v240, v243, v246]) z isAgg34 sizeOf34 (hst.bcs0 0 z)) (rvs_cons (rv_tmp z) rvs_nil)) ?_
 exact ⟨_, v237, v240, v243, v246, z, hI0, f238, f241, f244, f247, hst.keep0⟩
}
 {
 replace hm := bif_f hc249 hm
 refine wp_iff (cvb hc249) ?_
 refine wp_skip (blk_n (tn (wrl ?_)))
 refine wv (.int .i64 z219) z z z (wv (.int .i64 (i64.wrap (z219 + (1:Int)))) z z z (wv (.int .i64 (i64.wrap (z219 + (1:Int)))) z z z (wl_nil (tn ?_))))
 replace hst := hst.pull1.pull1.keep2
 obtain rfl := some_inj hm
 exact ⟨_, Nat.lt_succ_self _, (i64.wrap (z219 + (1:Int))), _, hx226, (fu 0 r0_0 z (fu 3 (Pt b156 0) z (fu 4 (Pt b165 0) z (fu 6 (.int .i64 (i64.wrap (z219 + (1:Int)))) z z)))), hst⟩
}
}
 {
 replace hm := bif_f hc228 hm
 refine wp_iff (cvb hc228) ?_
 refine wp_exit (then_x (then_x ?_))
 replace hm := inr_up hm hx226
 refine blk_x (tn (wp_seq (wrl ?_)))
 refine wv (.agg #[Zu, Zu, Zu, Zs, Zs, Zs, Zs]) z z (by kernel_rfl) ?_
 obtain ⟨w256, hr257, hst⟩ := hst.bx [Zu, Zu, Zu, Zs, Zs, Zs, Zs] sizeOf34 z (oC z (oC z (oC z (oC z (oC z (oC z (oC z oN))))))) (by kernel_rfl)
 refine wl_unit z z (x_unit hr257) ?_
 refine wv (.bool false) z z z (wl_nil (tn (wp_ret ?_)))
 have f258 : Ro tyF64 I (.slice none 0 0) [] := ro_nil
 have f259 : Ro tyF2 I (.slice none 0 0) [] := ro_nil
 have f260 : Ro tyF64 I (.slice none 0 0) [] := ro_nil
 have f261 : Ro (tyInt .u8) I (.slice none 0 0) [] := ro_nil
 obtain rfl := some_inj hm
 refine post_ret (vs := [.agg #[Zu, Zu, Zu, Zs, Zs, Zs, Zs], .bool false]) results22 (rvs_cons (rv_cell (cs := [Zu, Zu, Zu, Zs, Zs, Zs, Zs]) z isAgg34 sizeOf34 (hst.bcs0 0 z)) (rvs_cons (rv_tmp z) rvs_nil)) ?_
 exact ⟨_, Zs, Zs, Zs, Zs, z, hI0, f258, f259, f260, f261, hst.keep0⟩
}
}

theorem ref11_Drop_ref {w0 w : World} {I : HL} {R : SP} {a0 : (List api_Hold)} {r0_0 : Value} {a1 : api_ID} (f0_0 : Ro ty_api_Hold I r0_0 a0) (hst : St w0 w I [] R) {r : ((List api_Hold))} (hm : ref11_Drop a0 a1 = some r) :
  Calls prog 23 #[r0_0, .agg #[U6 a1.Session, U6 a1.Seq]] w fun e w' => ∃ (q0_0 : Value), e = .returned (q0_0) ∧ St w0 w' I [ownS ty_api_Hold q0_0 r] R := by {
 unfold ref11_Drop at hm
 refine calls_start (args := [r0_0, .agg #[U6 a1.Session, U6 a1.Seq]]) func23 z ntmps23 (Nat.le_of_ble_eq_true z) ?_
 refine wp_seq (wrl ?_)
 obtain ⟨b250, w251, ew252, eb253, hst⟩ := hst.box [U6 a1.Session, U6 a1.Seq] 29
 refine wl_run (v := Pt b250 0) (w' := w251) z z (x_al (by kernel_rfl) ew252 eb253) ?_
 refine wv ((.slice none 0 0)) z z z (wl_nil (tn (wp_seq (wrl (wv ((.slice none 0 0)) z z z (wl_nil (tn (wp_seq (wp_seq (wrl (wv (.int .i64 (0:Int)) z z z (wl_nil (tn (wp_block ?_))))))))))))))
 replace hst := hst.own_nil ty_api_Hold
 obtain ⟨n374, hm⟩ := loopO_some hm
 refine wp_loop_n (fun n a w => ∃ (z369 : (List api_Hold)) (z372 : Int) (v370 : Value) (σ373 : Nat → Value), loopN (ref11_Drop_l0 a0 a1) n (z369, z372) = some r ∧ a = Fr 28 (upd (upd (upd (upd σ373 0 (r0_0)) 3 (Pt b250 0)) 5 (v370)) 6 (.int .i64 z372)) ∧ St w0 w I [ownS ty_api_Hold v370 z369, cells b250 [U6 a1.Session, U6 a1.Seq]] R) n374 ⟨[], (0:Int), Zs, _, hm, (fu 0 r0_0 z (fu 3 (Pt b250 0) z (fu 5 (.slice none 0 0) z (fu 6 (.int .i64 (0:Int)) z z)))), hst⟩ ?_
 rintro n380 _ w375 ⟨z369, z372, v370, σ373, hm, rfl, hst⟩
 obtain ⟨n377, y378, rfl, hm, hx379⟩ := loopN_some hm
 dsimp only [ref11_Drop_l0] at hm
 refine wp_seq (wp_seq (wrl (wv (.int .i64 z372) z z z (wv (r0_0) z z z (wv (.int .i64 ((a0).length : Int)) z z (x_len z underlying22 (ro_sliceV f0_0)) (wv (.bool (decide (z372 < ((a0).length : Int)))) z z z (wl_nil (tn ?_))))))))
 refine bsplit (decide (z372 < ((a0).length : Int))) (fun hc381 => ?_) (fun hc381 => ?_)
 {
 replace hm := bif_t hc381 hm
 refine wp_ift (cvb hc381) ?_
 refine wp_skip (tn (wp_seq (wp_block (wp_seq ?_))))
 refine wq_regionS hst Try.mixed (by kernel_rfl) ?_
 refine wq_run (v := r0_0) z z (fun w hst => z) ?_
 refine wq_run (v := .int .i64 z372) z z (fun w hst => z) ?_
 obtain ⟨x382, hx383, hm⟩ := bind_some hm
 obtain ⟨h384, h385, hi386⟩ := geto_some hx383
 refine wq_run (v := .pointer (some (eAddr r0_0 (z372.toNat * 7 + 0)))) z z (fun w hst => x_index z z underlying22 sizeOf34 (ro_sliceV f0_0) h384 h385) ?_
 refine wq_run (v := .pointer (some (eAddr r0_0 (z372.toNat * 7 + 0)))) z z (fun w hst => x_field_e z underlying34 z sizeOf29 z) ?_
 obtain ⟨cs387, hr388, hc389⟩ := Ro.getF f0_0 hi386
 obtain ⟨v390, v393, v396, v399, rfl, f391, f394, f397, f400, -⟩ := hr388
 refine wq_run (v := .agg #[U6 x382.ID.Session, U6 x382.ID.Seq]) z z (fun w hst => x_loadN (cs := [U6 x382.ID.Session, U6 x382.ID.Seq]) z isAgg29 sizeOf29 (eCells (o := 0) (hc389 (HL.le.refl _) hst) z)) ?_
 refine wq_run (v := .agg #[U6 a1.Session, U6 a1.Seq]) z z (fun w hst => x_loadN (cs := [U6 a1.Session, U6 a1.Seq]) z isAgg29 sizeOf29 (hst.bcs1 0 z)) ?_
 refine wq_run (v := .bool (!((x382.ID.Session == a1.Session) && (x382.ID.Seq == a1.Seq)))) z z (fun w hst => x_aggne2 z z (by kernel_rfl) underlying29 (by kernel_rfl) (by kernel_rfl) (by kernel_rfl) underlying27 underlying27 (fun _ _ _ => by kernel_rfl) (fun _ _ _ => by kernel_rfl)) ?_
 refine wq_nil ?_
 intro w hst
 refine tn ?_
 refine bsplit (!((x382.ID.Session == a1.Session) && (x382.ID.Seq == a1.Seq))) (fun hc402 => ?_) (fun hc402 => ?_)
 {
 replace hm := bif_t hc402 hm
 refine wp_ift (cvb hc402) ?_
 refine wrl (wv (v370) z z z (wv (r0_0) z z z (wv (.int .i64 z372) z z z (wv (.pointer (some (eAddr r0_0 (z372.toNat * 7 + 0)))) z z (x_index z z underlying22 sizeOf34 (ro_sliceV f0_0) h384 h385) (wv (.agg #[U6 x382.ID.Session, U6 x382.ID.Seq, U6 x382.Epoch, v390, v393, v396, v399]) z z (x_loadN (cs := [U6 x382.ID.Session, U6 x382.ID.Seq, U6 x382.Epoch, v390, v393, v396, v399]) z isAgg34 sizeOf34 (eCells (o := 0) (hc389 (HL.le.refl _) hst) z)) ?_)))))
 obtain ⟨b407, w408, ew409, eb410, hst⟩ := hst.lits (E := ty_api_Hold) (xs := [x382]) [[U6 x382.ID.Session, U6 x382.ID.Seq, U6 x382.Epoch, v390, v393, v396, v399]] 34 1 z (Reps.cons ⟨_, _, _, _, z, f391, f394, f397, f400, one_of_sliceV (ro_sliceV f391), one_of_sliceV (ro_sliceV f394), one_of_sliceV (ro_sliceV f397), one_of_sliceV (ro_sliceV f400)⟩ Reps.nil)
 refine wl_run (v := (.slice (some ⟨b407, 0, none⟩) 1 1)) (w' := w408) z z (x_als (by kernel_rfl) ew409 eb410) ?_
 obtain ⟨hg412, hm⟩ := gd_some hm
 replace hst := hst.pull1
 obtain ⟨v413, w414, hr415, hst⟩ := run_append elem_22 underlying22 hst hst.src1 (room_of hg412 z) 22
 refine wl_run (v := v413) (w' := w414) z z (x_append z z hr415) ?_
 refine wv (v413) z z z (wl_nil (blk_n (tn (wrl (wv (.int .i64 z372) z z z (wv (.int .i64 (i64.wrap (z372 + (1:Int)))) z z z (wv (.int .i64 (i64.wrap (z372 + (1:Int)))) z z z (wl_nil (tn ?_)))))))))
 replace hst := hst.pull2.pull1.keep2
 obtain rfl := some_inj hm
 exact ⟨_, Nat.lt_succ_self _, (z369 ++ ([x382])), (i64.wrap (z372 + (1:Int))), v413, _, hx379, (fu 0 r0_0 z (fu 3 (Pt b250 0) z (fu 5 v413 z (fu 6 (.int .i64 (i64.wrap (z372 + (1:Int)))) z z)))), hst⟩
}
 {
 replace hm := bif_f hc402 hm
 refine wp_iff (cvb hc402) ?_
 refine wp_skip (blk_n (tn (wrl ?_)))
 refine wv (.int .i64 z372) z z z (wv (.int .i64 (i64.wrap (z372 + (1:Int)))) z z z (wv (.int .i64 (i64.wrap (z372 + (1:Int)))) z z z (wl_nil (tn ?_))))
 replace hst := hst.pull1.pull1.keep2
 obtain rfl := some_inj hm
 exact ⟨_, Nat.lt_succ_self _, z369, (i64.wrap (z372 + (1:Int))), v370, _, hx379, (fu 0 r0_0 z (fu 3 (Pt b250 0) z (fu 5 v370 z (fu 6 (.int .i64 (i64.wrap (z372 + (1:Int)))) z z)))), hst⟩
}
}
 {
 replace hm := bif_f hc381 hm
 refine wp_iff (cvb hc381) ?_
 refine wp_exit (then_x (then_x ?_))
 replace hm := inr_up hm hx379
 refine blk_x (tn (wp_seq (wrl ?_)))
 refine wv (v370) z z z (wv (v370) z z z (wl_nil (tn (wp_ret ?_))))
 obtain rfl := some_inj hm
 refine post_ret (vs := [v370]) results23 (rvs_cons (rv_tmp z) rvs_nil) ?_
 exact ⟨v370, z, hst.keep1⟩
}
}

theorem slices_Delete_api_Hold_api_Hold_ref {w0 w : World} {I : HL} {R : SP} {a0 : (List api_Hold)} {r0_0 : Value} {a1 a2 : Int} (hst : St w0 w I [ownS ty_api_Hold r0_0 a0] R) {r : (List api_Hold)} (hm : slices_Delete_api_Hold_api_Hold a0 a1 a2 = some r) :
  Calls prog 54 #[r0_0, I6 a1, I6 a2] w fun e w' => ∃ (q0_0 : Value), e = .returned (q0_0) ∧ St w0 w' I [ownS ty_api_Hold q0_0 r] R := by {
 unfold slices_Delete_api_Hold_api_Hold at hm
 obtain ⟨hg, hm⟩ := gd_some hm
 obtain rfl := some_inj hm
 obtain ⟨hi0, hi1, hi2⟩ := fits_of hg
 obtain ⟨j, rfl⟩ := Int.eq_ofNat_of_zero_le (Int.le_trans hi0 hi1)
 obtain ⟨k, rfl⟩ := Int.eq_ofNat_of_zero_le hi0
 have hkj : k ≤ j := by omega
 have hs : ∀ w : World, (sizeOf 34).run prog w = .ok ty_api_Hold.sz w := sizeOf34
 obtain ⟨css, hr, hst⟩ := hst.own_open
 obtain ⟨n, hn⟩ : ∃ n, css.length = n := ⟨_, rfl⟩
 have hln : a0.length = n := hr.1.trans hn
 have hjn : j ≤ n := by omega
 have hsv : SliceV r0_0 n := by have := hst.row_form.2; rwa [hn] at this
 have hoc := hr.ones
 refine calls_start (args := [r0_0, I6 (k : Int), I6 (j : Int)]) func54 z ntmps54 (Nat.le_of_ble_eq_true z) ?_
 refine wp_seq (wrl (wv ((.slice none 0 0)) z z z (wl_nil (tn (wp_seq (wrl (wv (r0_0) z z z (wv (.int .i64 (k : Int)) z z z (wv (.int .i64 (j : Int)) z z z (wv (r0_0) z z z (wv (.int .i64 (n : Int)) z z (x_len z underlying22 hsv) ?_)))))))))))
 refine wl_ex z z (x_slice3 underlying22 hs z hsv z z z hkj hjn) fun v3 => ?_
 refine wl_nil (tn (wp_seq (wp_seq (wrl (wv (.int .i64 (k : Int)) z z z (wv (.int .i64 (j : Int)) z z z (wv (.bool ((k : Int) == (j : Int))) z z z (wl_nil (tn ?_)))))))))
 refine bsplit ((k : Int) == (j : Int)) (fun hc115 => ?_) (fun hc115 => ?_)
 {
 refine wp_ift (cvb hc115) ?_
 refine wp_seq (wrl (wv (r0_0) z z z (wv (r0_0) z z z (wl_nil (tn (wp_ret (then_r ?_)))))))
 refine post_ret (vs := [r0_0]) results54 (rvs_cons (rv_tmp z) rvs_nil) ?_
 rw [del_nil hc115]
 exact ⟨_, z, (hst.own_close hr).keep1⟩
}
 {
 refine wp_iff (cvb hc115) ?_
 have hne : ¬ ((k : Int) = (j : Int)) := by simpa using hc115
 have hlt : k < j := by omega
 refine wp_skip (tn (wp_seq (wrl ?_)))
 refine wv (r0_0) z z z (wv (.int .i64 (n : Int)) z z (x_len z underlying22 hsv) (wv (.int .i64 (n : Int)) z z z (wl_nil (tn (wp_seq ?_)))))
 refine wp_region_St hst 8 [0, 1, 2, 3, 4, 5, 6, 7] [0, 0, 3, 0, 0, 24, 63, 127] [7] z (by kernel_rfl) (by kernel_rfl) Try.mixed (by kernel_rfl) ?_
 refine wsr (r0_0) 0 z z z (by kernel_rfl) (fun w hst => z) (wsr (.int .i64 (k : Int)) 1 z z z (by kernel_rfl) (fun w hst => z) (wsr ((slcV ty_api_Hold.sz r0_0 0 k)) 2 z z z (by kernel_rfl) (fun w hst => x_slice (lo := (0 : Nat)) (hi := (k : Nat)) underlying22 hs z hsv (by omega) (by omega) (by omega) .i64 .i64 (.inr ⟨z, z⟩) (.inl z)) (wsr (r0_0) 3 z z z (by kernel_rfl) (fun w hst => z) (wsr (.int .i64 (j : Int)) 4 z z z (by kernel_rfl) (fun w hst => z) (wsr ((slcV ty_api_Hold.sz r0_0 j n)) 5 z z z (by kernel_rfl) (fun w hst => x_slice (lo := (j : Nat)) (hi := (n : Nat)) underlying22 hs z hsv (by omega) (by omega) (by omega) .i64 .i64 (.inl z) (.inr ⟨z, z⟩)) ?_)))))
 refine ws_e1 6 (by kernel_rfl) ?_
 refine nxe [7] (by kernel_rfl) z z ?_
 clear hst
 intro w hst
 obtain ⟨w2, hra, hst⟩ := run_appDel (P := prog) underlying22 hs hst hn hlt hjn hoc 22
 refine we_run (v := (slcV ty_api_Hold.sz r0_0 0 (k + (n - j)))) (w' := w2) z (x_append z z hra) ?_
 have hnl := (show _ from hst)
 clear hnl
 have hn2 : (css.take k ++ (css.drop j ++ css.drop (k + (n - j)))).length = n := by simp only [List.length_append, List.length_take, List.length_drop]; omega
 have hsm := row_slc hst hn2 (m := (k + (n - j))) (by omega)
 refine ws_next (pend' := []) hst (by kernel_rfl) pk_nil ?_
 refine ws_e1 7 (by kernel_rfl) ?_
 refine nxe [] (by kernel_rfl) z z ?_
 clear hst
 intro w hst
 refine we_run (v := (slcV ty_api_Hold.sz r0_0 0 (k + (n - j)))) (w' := w) z z ?_
 refine ws_next (pend' := []) hst (by kernel_rfl) pk_nil ?_
 refine ws_nil ?_
 intro w hst
 refine tn (wp_seq (wrl (wv ((slcV ty_api_Hold.sz r0_0 0 (k + (n - j)))) z z z (wv ((slcV ty_api_Hold.sz r0_0 0 (k + (n - j)))) z z z (wv (.int .i64 (((k + (n - j)) : Nat) : Int)) z z (x_len z underlying22 hsm) (wv (.int .i64 (n : Int)) z z z (wv ((slcV ty_api_Hold.sz r0_0 (k + (n - j)) n)) z z (x_sliceRe underlying22 hs z hsv z z (by omega) (by omega)) ?_)))))))
 obtain ⟨w3, hrc, hst⟩ := run_clear elem_22 z (ones_of (by kernel_rfl)) hst hn2 (m := (k + (n - j))) (by omega) 0
 refine wl_run0 z z (x_clear z hrc) ?_
 refine wl_nil (tn (wp_seq (wrl (wv ((slcV ty_api_Hold.sz r0_0 0 (k + (n - j)))) z z z (wv ((slcV ty_api_Hold.sz r0_0 0 (k + (n - j)))) z z z (wl_nil (tn (wp_ret ?_))))))))
 refine post_ret (vs := [(slcV ty_api_Hold.sz r0_0 0 (k + (n - j)))]) results54 (rvs_cons (rv_tmp z) rvs_nil) ?_
 replace hst := hst.row_part (l := 0) (h := (k + (n - j))) (Nat.zero_le _) (by simp only [List.length_append, List.length_take, List.length_drop, List.length_replicate]; omega)
 rw [del_rows hn hlt hjn (List.length_replicate ..)] at hst
 exact ⟨_, z, (hst.own_close ((hr.take k).app (hr.drop j))).keep1⟩
}
}

theorem locks_Table_Drop_ref {w0 w : World} {I : HL} {R : SP} {a0 : (Option locks_Table)} {p0 : Value} {a1 : api_ID}  (hst : St w0 w I [objO at_locks_Table p0 a0] R) {r : (Bool × (Option locks_Table))} (hm : locks_Table_Drop a0 a1 = some r) :
  Calls prog 24 #[p0, .agg #[U6 a1.Session, U6 a1.Seq]] w fun e w' => e = .returned (.bool r.1) ∧ St w0 w' I [objO at_locks_Table p0 r.2] R := by {
 rcases a0 with _ | o0
 {
 obtain ⟨rfl, hst'⟩ := objO_none hst
 clear hst
 have hst := hst'
 clear hst'
 dsimp only [locks_Table_Drop] at hm
 refine calls_start (args := [.pointer none, .agg #[U6 a1.Session, U6 a1.Seq]]) func24 z ntmps24 (Nat.le_of_ble_eq_true z) ?_
 refine wp_seq (wrl ?_)
 obtain ⟨b125, w126, ew127, eb128, hst⟩ := hst.box [U6 a1.Session, U6 a1.Seq] 29
 refine wl_run (v := Pt b125 0) (w' := w126) z z (x_al (by kernel_rfl) ew127 eb128) ?_
 refine wv (.bool false) z z z (wl_nil (tn (wp_seq (wrl (wv (.pointer none) z z z (wv (.agg #[U6 a1.Session, U6 a1.Seq]) z z (x_loadN (cs := [U6 a1.Session, U6 a1.Seq]) z isAgg29 sizeOf29 (hst.bcs0 0 z)) ?_))))))
 replace hst := hst.objO_nil at_locks_Table
 obtain ⟨t131, ht132, hm⟩ := bind_some hm
 refine wc call40 [.pointer none, .agg #[U6 a1.Session, U6 a1.Seq]] z z z ?_
 refine (locks_Table_find_ref hst.to1 ht132).mono ?_
 rintro _ w133 ⟨rfl, hst⟩
 refine ⟨_, z, ?_⟩
 replace hst := hst.of1
 refine wv (.tuple #[I6 t131.1, .bool t131.2]) z z z (wv (.int .i64 t131.1) z z z (wv (.bool t131.2) z z z (wv (.int .i64 t131.1) z z z (wv (.bool t131.2) z z z (wl_nil (tn (wp_seq (wp_seq (wrl (wv (.bool t131.2) z z z (wl_nil (tn ?_))))))))))))
 refine bsplit t131.2 (fun hc136 => ?_) (fun hc136 => ?_)
 {
 replace hm := bif_t hc136 hm
 refine wp_ift (cvb hc136) ?_
 refine wrl (wv (.pointer none) z z z (wv (.pointer none) z z z ?_))
 cases hm
}
 {
 replace hm := bif_f hc136 hm
 refine wp_iff (cvb hc136) ?_
 refine wp_skip (tn (wp_seq (wrl ?_)))
 refine wv (.bool t131.2) z z z (wv (.bool t131.2) z z z (wl_nil (tn (wp_ret ?_))))
 replace hst := hst.objO_nil at_locks_Table
 obtain rfl := some_inj hm
 refine post_ret (vs := [.bool t131.2]) results24 (rvs_cons (rv_tmp z) rvs_nil) ?_
 exact ⟨z, hst.keep1⟩
}
}
 {
 replace hst := objO_get hst
 dsimp only [locks_Table_Drop] at hm
 refine calls_start (args := [p0, .agg #[U6 a1.Session, U6 a1.Seq]]) func24 z ntmps24 (Nat.le_of_ble_eq_true z) ?_
 refine wp_seq (wrl ?_)
 obtain ⟨b137, w138, ew139, eb140, hst⟩ := hst.box [U6 a1.Session, U6 a1.Seq] 29
 refine wl_run (v := Pt b137 0) (w' := w138) z z (x_al (by kernel_rfl) ew139 eb140) ?_
 refine wv (.bool false) z z z (wl_nil (tn (wp_seq (wrl (wv (p0) z z z (wv (.agg #[U6 a1.Session, U6 a1.Seq]) z z (x_loadN (cs := [U6 a1.Session, U6 a1.Seq]) z isAgg29 sizeOf29 (hst.bcs0 0 z)) ?_))))))
 replace hst := hst.pull1
 replace hst := objO_some hst
 obtain ⟨t142, ht143, hm⟩ := bind_some hm
 refine wc call40 [p0, .agg #[U6 a1.Session, U6 a1.Seq]] z z z ?_
 refine (locks_Table_find_ref hst.to1 ht143).mono ?_
 rintro _ w144 ⟨rfl, hst⟩
 refine ⟨_, z, ?_⟩
 replace hst := hst.of1
 replace hst := objO_get hst
 refine wv (.tuple #[I6 t142.1, .bool t142.2]) z z z (wv (.int .i64 t142.1) z z z (wv (.bool t142.2) z z z (wv (.int .i64 t142.1) z z z (wv (.bool t142.2) z z z (wl_nil (tn (wp_seq (wp_seq (wrl (wv (.bool t142.2) z z z (wl_nil (tn ?_))))))))))))
 refine bsplit t142.2 (fun hc147 => ?_) (fun hc147 => ?_)
 {
 replace hm := bif_t hc147 hm
 refine wp_ift (cvb hc147) ?_
 refine wrl (wv (p0) z z z (wv (p0) z z z ?_))
 obtain ⟨b148, v149, rfl, hst'⟩ := at_locks_Table_open hst
 clear hst
 have hst := hst'
 clear hst'
 refine wv (Pt b148 0) z z z (wv (Pt b148 0) z z (x_field z underlying77 z sizeOf22 z) (wv (v149) z z (x_load z isAgg22 (hst.bc0 z)) (wv (.int .i64 t142.1) z z z (wv (.int .i64 t142.1) z z z (wv (.int .i64 (i64.wrap (t142.1 + (1:Int)))) z z z ?_)))))
 replace hst := hst.pull1
 obtain ⟨t151, ht152, hm⟩ := bind_some hm
 refine wc call54 [v149, I6 t142.1, I6 (i64.wrap (t142.1 + (1:Int)))] z z z ?_
 refine (slices_Delete_api_Hold_api_Hold_ref hst.to1 ht152).mono ?_
 rintro _ w153 ⟨v156, rfl, hst⟩
 refine ⟨_, z, ?_⟩
 replace hst := hst.of1
 refine wv (Pt b148 0) z z z (wv (Pt b148 0) z z (x_field z underlying77 z sizeOf22 z) ?_)
 replace hst := hst.pull1
 obtain ⟨w158, hr159, hst⟩ := hst.boxStore1 (P := prog) (t := 22) (cs' := [v156]) 0 v156 (one_of_sliceV hst.sv1) sizeOf22 z z
 refine wl_unit z z (x_unit hr159) ?_
 refine wl_nil (tn (wp_seq (wrl (wv (.bool t142.2) z z z (wv (.bool t142.2) z z z (wl_nil (tn (wp_ret ?_))))))))
 replace hst := hst.pull1.pull1
 replace hst := at_locks_Table_close (pv := Pt b148 0) (x := ({ l := t151 } : locks_Table)) hst z
 replace hst := objO_some hst
 obtain rfl := some_inj hm
 refine post_ret (vs := [.bool t142.2]) results24 (rvs_cons (rv_tmp z) rvs_nil) ?_
 exact ⟨z, hst.keep1⟩
}
 {
 replace hm := bif_f hc147 hm
 refine wp_iff (cvb hc147) ?_
 refine wp_skip (tn (wp_seq (wrl ?_)))
 refine wv (.bool t142.2) z z z (wv (.bool t142.2) z z z (wl_nil (tn (wp_ret ?_))))
 replace hst := objO_some hst
 obtain rfl := some_inj hm
 refine post_ret (vs := [.bool t142.2]) results24 (rvs_cons (rv_tmp z) rvs_nil) ?_
 exact ⟨z, hst.keep1⟩
}
}
}

theorem ref12_small_ref {w0 w : World} {I : HL} {R : SP} {a0 : Int}  (hst : St w0 w I [] R) {r : (Nat)} (hm : ref12_small a0 = some r) :
  Calls prog 75 #[U1 a0] w fun e w' => e = .returned (.float .f64 r) ∧ St w0 w' I [] R := by {
 unfold ref12_small at hm
 refine calls_start (args := [U1 a0]) func75 z ntmps75 (Nat.le_of_ble_eq_true z) ?_
 refine wp_seq (wrl (wv (.float .f64 (0:Nat)) z z z (wl_nil (tn (wp_seq (wrl ?_))))))
 obtain ⟨b153, w154, ew155, eb156, hst⟩ := hst.lits (E := tyF64) (xs := [(0:Nat), (4607182418800017408:Nat), (13830554455654793216:Nat), (4612811918334230528:Nat), (9094988921128908188:Nat), (18318360957983683996:Nat), (4602678819172646912:Nat), (4613937818241073152:Nat)]) [[Zf], [F6 (4607182418800017408:Nat)], [F6 (13830554455654793216:Nat)], [F6 (4612811918334230528:Nat)], [F6 (9094988921128908188:Nat)], [F6 (18318360957983683996:Nat)], [F6 (4602678819172646912:Nat)], [F6 (4613937818241073152:Nat)]] 57 8 z (Reps.cons z (Reps.cons z (Reps.cons z (Reps.cons z (Reps.cons z (Reps.cons z (Reps.cons z (Reps.cons z Reps.nil))))))))
 refine wl_run (v := (.slice (some ⟨b153, 0, none⟩) 8 8)) (w' := w154) z z (x_als (by kernel_rfl) ew155 eb156) ?_
 refine wv ((.slice (some ⟨b153, 0, none⟩) 8 8)) z z z (wl_nil (tn (wp_seq (wrl (wv ((.slice (some ⟨b153, 0, none⟩) 8 8)) z z z (wv (.int .u8 a0) z z z (wv (.int .u8 (Int.tmod a0 (8:Int))) z z (x_rem (by decide) z z) ?_)))))))
 obtain ⟨x158, hx159, hm⟩ := bind_some hm
 obtain ⟨h160, h161, hi162⟩ := geto_some hx159
 refine wv (.pointer (some (eAddr (.slice (some ⟨b153, 0, none⟩) 8 8) ((Int.tmod a0 (8:Int)).toNat * 1 + 0)))) z z (x_index z z underlying30 sizeOf57 hst.sv0 h160 h161) (wv (.float .f64 x158) z z (x_load z isAgg57 (hst.ol0 hi162 (by rintro _ rfl; rfl))) (wv (.float .f64 x158) z z z (wl_nil (tn (wp_ret ?_)))))
 obtain rfl := some_inj hm
 refine post_ret (vs := [F6 x158]) results75 (rvs_cons (rv_tmp z) rvs_nil) ?_
 exact ⟨z, hst.keep0⟩
}

theorem ref12_Tape_Float_ref {w0 w : World} {I : HL} {R : SP} {a0 : ref12_Tape} {p0 : Value}  (hst : St w0 w I [at_ref12_Tape p0 a0] R) {r : (Nat × ref12_Tape)} (hm : ref12_Tape_Float a0 = some r) :
  Calls prog 44 #[p0] w fun e w' => e = .returned (.float .f64 r.1) ∧ St w0 w' I [at_ref12_Tape p0 r.2] R := by {
 unfold ref12_Tape_Float at hm
 refine calls_start (args := [p0]) func44 z ntmps44 (Nat.le_of_ble_eq_true z) ?_
 refine wp_seq (wrl (wv (.float .f64 (0:Nat)) z z z (wl_nil (tn (wp_seq (wrl (wv (p0) z z z ?_)))))))
 obtain ⟨t149, ht150, hm⟩ := bind_some hm
 refine wc call20 [p0, I6 (8:Int)] z z z ?_
 refine (ref12_Tape_Next_ref hst.to1 ht150).mono ?_
 rintro _ w151 ⟨rfl, hst⟩
 refine ⟨_, z, ?_⟩
 replace hst := hst.of1
 refine wv (.int .u8 (u8.wrap t149.1)) z z (by kernel_rfl) ?_
 obtain ⟨t154, ht155, hm⟩ := bind_some hm
 refine wc call75 [U1 (u8.wrap t149.1)] z z z ?_
 refine (ref12_small_ref hst.to0 ht155).mono ?_
 rintro _ w156 ⟨rfl, hst⟩
 refine ⟨_, z, ?_⟩
 replace hst := hst.of0
 refine wv (.float .f64 t154) z z z (wl_nil (tn (wp_ret ?_)))
 obtain rfl := some_inj hm
 refine post_ret (vs := [F6 t154]) results44 (rvs_cons (rv_tmp z) rvs_nil) ?_
 exact ⟨z, hst.keep1⟩
}

theorem ref12_Tape_Val_ref {w0 w : World} {I : HL} {R : SP} {a0 : ref12_Tape} {p0 : Value}  (hst : St w0 w I [at_ref12_Tape p0 a0] R) {r : ((List Int) × ref12_Tape)} (hm : ref12_Tape_Val a0 = some r) :
  Calls prog 45 #[p0] w fun e w' => ∃ (q0_0 : Value), e = .returned (q0_0) ∧ St w0 w' I [ownS (tyInt .u8) q0_0 r.1, at_ref12_Tape p0 r.2] R := by {
 unfold ref12_Tape_Val at hm
 refine calls_start (args := [p0]) func45 z ntmps45 (Nat.le_of_ble_eq_true z) ?_
 refine wp_seq (wrl (wv ((.slice none 0 0)) z z z (wl_nil (tn (wp_seq (wrl (wv ((.slice none 0 0)) z z z (wl_nil (tn (wp_seq (wrl (wv (p0) z z z ?_))))))))))))
 obtain ⟨t562, ht563, hm⟩ := bind_some hm
 refine wc call20 [p0, I6 (4:Int)] z z z ?_
 refine (ref12_Tape_Next_ref hst.to1 ht563).mono ?_
 rintro _ w564 ⟨rfl, hst⟩
 refine ⟨_, z, ?_⟩
 replace hst := hst.of1
 refine wv (.int .i64 t562.1) z z z (wl_nil (tn (wp_seq (wp_seq (wrl (wv (.int .i64 (0:Int)) z z z (wl_nil (tn (wp_block ?_)))))))))
 replace hst := hst.own_nil (tyInt .u8)
 obtain ⟨n626, hm⟩ := loopO_some hm
 refine wp_loop_n (fun n a w => ∃ (z620 : ref12_Tape) (z621 : (List Int)) (z624 : Int) (v622 : Value) (σ625 : Nat → Value), loopN (ref12_Tape_Val_l0 t562) n (z620, z621, z624) = some r ∧ a = Fr 21 (upd (upd (upd (upd σ625 0 (p0)) 3 (v622)) 4 (.int .i64 t562.1)) 5 (.int .i64 z624)) ∧ St w0 w I [ownS (tyInt .u8) v622 z621, at_ref12_Tape p0 z620] R) n626 ⟨t562.2, [], (0:Int), Zs, _, hm, (fu 0 p0 z (fu 3 (.slice none 0 0) z (fu 4 (.int .i64 t562.1) z (fu 5 (.int .i64 (0:Int)) z z)))), hst⟩ ?_
 rintro n632 _ w627 ⟨z620, z621, z624, v622, σ625, hm, rfl, hst⟩
 obtain ⟨n629, y630, rfl, hm, hx631⟩ := loopN_some hm
 dsimp only [ref12_Tape_Val_l0] at hm
 refine wp_seq (wp_seq (wrl (wv (.int .i64 z624) z z z (wv (.int .i64 t562.1) z z z (wv (.bool (decide (z624 < t562.1))) z z z (wl_nil (tn ?_)))))))
 refine bsplit (decide (z624 < t562.1)) (fun hc633 => ?_) (fun hc633 => ?_)
 {
 replace hm := bif_t hc633 hm
 refine wp_ift (cvb hc633) ?_
 refine wp_skip (tn (wp_seq (wp_block (wrl ?_))))
 refine wv (v622) z z z (wv (p0) z z z ?_)
 replace hst := hst.pull1
 obtain ⟨t634, ht635, hm⟩ := bind_some hm
 refine wc call20 [p0, I6 (26:Int)] z z z ?_
 refine (ref12_Tape_Next_ref hst.to1 ht635).mono ?_
 rintro _ w636 ⟨rfl, hst⟩
 refine ⟨_, z, ?_⟩
 replace hst := hst.of1
 refine wv (.int .i64 (i64.wrap ((97:Int) + t634.1))) z z z (wv (.int .u8 (u8.wrap (i64.wrap ((97:Int) + t634.1)))) z z (by kernel_rfl) ?_)
 obtain ⟨b639, w640, ew641, eb642, hst⟩ := hst.lits (E := (tyInt .u8)) (xs := [(u8.wrap (i64.wrap ((97:Int) + t634.1)))]) [[U1 (u8.wrap (i64.wrap ((97:Int) + t634.1)))]] 5 1 z (Reps.cons z Reps.nil)
 refine wl_run (v := (.slice (some ⟨b639, 0, none⟩) 1 1)) (w' := w640) z z (x_als (by kernel_rfl) ew641 eb642) ?_
 obtain ⟨hg644, hm⟩ := gd_some hm
 replace hst := hst.pull2
 obtain ⟨v645, w646, hr647, hst⟩ := run_append elem_32 underlying32 hst hst.src1 (room_of hg644 z) 32
 refine wl_run (v := v645) (w' := w646) z z (x_append z z hr647) ?_
 refine wv (v645) z z z (wl_nil (blk_n (tn (wrl (wv (.int .i64 z624) z z z (wv (.int .i64 (i64.wrap (z624 + (1:Int)))) z z z (wv (.int .i64 (i64.wrap (z624 + (1:Int)))) z z z (wl_nil (tn ?_)))))))))
 replace hst := hst.pull2.pull1.keep2
 obtain rfl := some_inj hm
 exact ⟨_, Nat.lt_succ_self _, t634.2, (z621 ++ ([(u8.wrap (i64.wrap ((97:Int) + t634.1)))])), (i64.wrap (z624 + (1:Int))), v645, _, hx631, (fu 0 p0 z (fu 3 v645 z (fu 4 (.int .i64 t562.1) z (fu 5 (.int .i64 (i64.wrap (z624 + (1:Int)))) z z)))), hst⟩
}
 {
 replace hm := bif_f hc633 hm
 refine wp_iff (cvb hc633) ?_
 refine wp_exit (then_x (then_x ?_))
 replace hm := inr_up hm hx631
 refine blk_x (tn (wp_seq (wrl ?_)))
 refine wv (v622) z z z (wv (v622) z z z (wl_nil (tn (wp_ret ?_))))
 obtain rfl := some_inj hm
 refine post_ret (vs := [v622]) results45 (rvs_cons (rv_tmp z) rvs_nil) ?_
 replace hst := hst.pull1.pull1
 exact ⟨v622, z, hst.keep2⟩
}
}

end Go.Proofs.Ytbdhhmnncknhhaa
