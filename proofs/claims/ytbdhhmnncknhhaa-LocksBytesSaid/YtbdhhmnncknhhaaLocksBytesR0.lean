/- The Go functions refine their models, part 0. -/
import Derived.Test.YtbdhhmnncknhhaaLocksBytesT
set_option linter.unusedVariables false
set_option linter.unusedSimpArgs false
set_option maxRecDepth 100000
set_option maxHeartbeats 4000000
namespace Go.Proofs.Ytbdhhmnncknhhaa
open Go Go.V
open _root_.Go.Proofs.Try IntKind
attribute [local irreducible] wpList Code.wp wpQuiet Calls bodyPost Oper.wp wpS Nx PendOK YieldsIn
theorem locks_New_ref {w0 w : World} {I : HL} {R : SP}   (hst : St w0 w I [] R) {r : (locks_Table)} (hm : locks_New = some r) :
  Calls prog 10 #[] w fun e w' => ∃ (q0 : Value), e = .returned (q0) ∧ St w0 w' I [at_locks_Table q0 r] R := by {
 unfold locks_New at hm
 refine calls_start (args := []) func10 z ntmps10 (Nat.le_of_ble_eq_true z) ?_
 refine wp_seq (wrl (wv (.pointer none) z z z (wl_nil (tn (wp_seq (wrl (wv (.agg #[Zs]) z z (by kernel_rfl) ?_)))))))
 obtain ⟨b59, w60, ew61, eb62, hst⟩ := hst.box [Zs] 77
 refine wl_run (v := Pt b59 0) (w' := w60) z z (x_al (by kernel_rfl) ew61 eb62) ?_
 refine wv (Pt b59 0) z z z (wl_nil (tn (wp_ret ?_)))
 replace hst := hst.own_nil ty_api_Hold
 replace hst := hst.pull1
 replace hst := at_locks_Table_close (pv := Pt b59 0) (x := ({ l := [] } : locks_Table)) hst z
 obtain rfl := some_inj hm
 refine post_ret (vs := [Pt b59 0]) results10 (rvs_cons (rv_tmp z) rvs_nil) ?_
 exact ⟨.pointer (some ⟨b59, 0, none⟩), z, hst.keep1⟩
}

theorem math_IsNaN_ref {w0 w : World} {I : HL} {R : SP} {a0 : Nat}  (hst : St w0 w I [] R) {r : (Bool)} (hm : math_IsNaN a0 = some r) :
  Calls prog 88 #[F6 a0] w fun e w' => e = .returned (.bool r) ∧ St w0 w' I [] R := by {
 unfold math_IsNaN at hm
 refine calls_start (args := [F6 a0]) func88 z ntmps88 (Nat.le_of_ble_eq_true z) ?_
 refine wp_seq (wrl (wv (.bool false) z z z (wl_nil (tn (wp_seq (wrl (wv (.float .f64 a0) z z z (wv (.float .f64 a0) z z z (wv (.bool (fNe a0 a0)) z z z (wv (.bool (fNe a0 a0)) z z z (wl_nil (tn (wp_ret ?_)))))))))))))
 obtain rfl := some_inj hm
 refine post_ret (vs := [.bool (fNe a0 a0)]) results88 (rvs_cons (rv_tmp z) rvs_nil) ?_
 exact ⟨z, hst.keep0⟩
}

theorem number_Rank_ref {w0 w : World} {I : HL} {R : SP} {a0 : Nat}  (hst : St w0 w I [] R) {r : (Int)} (hm : number_Rank a0 = some r) :
  Calls prog 61 #[F6 a0] w fun e w' => e = .returned (.int .u64 r) ∧ St w0 w' I [] R := by {
 unfold number_Rank at hm
 refine calls_start (args := [F6 a0]) func61 z ntmps61 (Nat.le_of_ble_eq_true z) ?_
 refine wp_seq (wrl (wv (.int .u64 (0:Int)) z z z (wl_nil (tn (wp_seq (wp_seq (wrl (wv (.float .f64 a0) z z z ?_))))))))
 obtain ⟨t114, ht115, hm⟩ := bind_some hm
 refine wc call88 [F6 a0] z z z ?_
 refine (math_IsNaN_ref hst.to0 ht115).mono ?_
 rintro _ w116 ⟨rfl, hst⟩
 refine ⟨_, z, ?_⟩
 replace hst := hst.of0
 refine wl_nil (tn ?_)
 refine bsplit t114 (fun hc119 => ?_) (fun hc119 => ?_)
 {
 replace hm := bif_t hc119 hm
 refine wp_ift (cvb hc119) ?_
 refine wp_seq (wrl (wv (.int .u64 (18446744073709551615:Int)) z z z (wl_nil (tn (wp_ret (then_r ?_))))))
 obtain rfl := some_inj hm
 refine post_ret (vs := [U6 (18446744073709551615:Int)]) results61 (rvs_cons (rv_tmp z) rvs_nil) ?_
 exact ⟨z, hst.keep0⟩
}
 {
 replace hm := bif_f hc119 hm
 refine wp_iff (cvb hc119) ?_
 refine wp_skip (tn (wp_seq (wrl ?_)))
 refine wv (.float .f64 a0) z z z (wv (.int .u64 (Int.ofNat a0)) z z (by kernel_rfl) (wv (.int .u64 (Int.ofNat a0)) z z z (wl_nil (tn (wp_seq (wp_seq (wrl (wv (.int .u64 (Int.ofNat a0)) z z z (wv (.int .u64 (iShr .u64 (Int.ofNat a0) (63:Int))) z z (x_shr (by decide) z z) (wv (.bool ((iShr .u64 (Int.ofNat a0) (63:Int)) == (1:Int))) z z z (wl_nil (tn ?_))))))))))))
 refine bsplit ((iShr .u64 (Int.ofNat a0) (63:Int)) == (1:Int)) (fun hc120 => ?_) (fun hc120 => ?_)
 {
 replace hm := bif_t hc120 hm
 refine wp_ift (cvb hc120) ?_
 refine wp_seq (wrl (wv (.int .u64 (Int.ofNat a0)) z z z (wv (.int .u64 (bXor .u64 ((18446744073709551615):Int) (Int.ofNat a0))) z z (by kernel_rfl) (wv (.int .u64 (bXor .u64 ((18446744073709551615):Int) (Int.ofNat a0))) z z z (wl_nil (tn (wp_ret (then_r ?_))))))))
 obtain rfl := some_inj hm
 refine post_ret (vs := [U6 (bXor .u64 ((18446744073709551615):Int) (Int.ofNat a0))]) results61 (rvs_cons (rv_tmp z) rvs_nil) ?_
 exact ⟨z, hst.keep0⟩
}
 {
 replace hm := bif_f hc120 hm
 refine wp_iff (cvb hc120) ?_
 refine wp_skip (tn (wp_seq (wrl ?_)))
 refine wv (.int .u64 (Int.ofNat a0)) z z z (wv (.int .u64 (bOr .u64 (Int.ofNat a0) (9223372036854775808:Int))) z z z (wv (.int .u64 (bOr .u64 (Int.ofNat a0) (9223372036854775808:Int))) z z z (wl_nil (tn (wp_ret ?_)))))
 obtain rfl := some_inj hm
 refine post_ret (vs := [U6 (bOr .u64 (Int.ofNat a0) (9223372036854775808:Int))]) results61 (rvs_cons (rv_tmp z) rvs_nil) ?_
 exact ⟨z, hst.keep0⟩
}
}
}

theorem number_Within_ref {w0 w : World} {I : HL} {R : SP} {a0 : Nat} {a1 : Nat} {a2 : Nat}  (hst : St w0 w I [] R) {r : (Bool)} (hm : number_Within a0 a1 a2 = some r) :
  Calls prog 79 #[F6 a0, F6 a1, F6 a2] w fun e w' => e = .returned (.bool r) ∧ St w0 w' I [] R := by {
 unfold number_Within at hm
 refine calls_start (args := [F6 a0, F6 a1, F6 a2]) func79 z ntmps79 (Nat.le_of_ble_eq_true z) ?_
 refine wp_seq (wrl (wv (.bool false) z z z (wl_nil (tn (wp_seq (wrl (wv (.float .f64 a1) z z z ?_)))))))
 obtain ⟨t128, ht129, hm⟩ := bind_some hm
 refine wc call61 [F6 a1] z z z ?_
 refine (number_Rank_ref hst.to0 ht129).mono ?_
 rintro _ w130 ⟨rfl, hst⟩
 refine ⟨_, z, ?_⟩
 replace hst := hst.of0
 refine wv (.float .f64 a0) z z z ?_
 obtain ⟨t133, ht134, hm⟩ := bind_some hm
 refine wc call61 [F6 a0] z z z ?_
 refine (number_Rank_ref hst.to0 ht134).mono ?_
 rintro _ w135 ⟨rfl, hst⟩
 refine ⟨_, z, ?_⟩
 replace hst := hst.of0
 refine wv (.bool (decide (t128 ≤ t133))) z z z (wv (.bool (decide (t128 ≤ t133))) z z z ?_)
 refine bsplit (decide (t128 ≤ t133)) (fun hc138 => ?_) (fun hc138 => ?_)
 {
 replace hm := bif_t hc138 hm
 refine wv (.float .f64 a0) ((wanted_eq z z z (cvb hc138)).trans z) z z ?_
 obtain ⟨t139, ht140, hm⟩ := bind_some hm
 refine wl_call ((wanted_eq z z z (cvb hc138)).trans z) z (x_call call61 z (vs := [F6 a0]) z) ?_
 refine (number_Rank_ref hst.to0 ht140).mono ?_
 rintro _ w141 ⟨rfl, hst⟩
 refine ⟨_, z, ?_⟩
 replace hst := hst.of0
 refine wv (.float .f64 a2) ((wanted_eq z z z (cvb hc138)).trans z) z z ?_
 obtain ⟨t144, ht145, hm⟩ := bind_some hm
 refine wl_call ((wanted_eq z z z (cvb hc138)).trans z) z (x_call call61 z (vs := [F6 a2]) z) ?_
 refine (number_Rank_ref hst.to0 ht145).mono ?_
 rintro _ w146 ⟨rfl, hst⟩
 refine ⟨_, z, ?_⟩
 replace hst := hst.of0
 refine wv (.bool (decide (t139 ≤ t144))) ((wanted_eq z z z (cvb hc138)).trans z) z z (wv (.bool (decide (t139 ≤ t144))) z z (x_pick_t hc138 z z) (wv (.bool (decide (t139 ≤ t144))) z z z (wl_nil (tn (wp_ret ?_)))))
 obtain rfl := some_inj hm
 refine post_ret (vs := [.bool (decide (t139 ≤ t144))]) results79 (rvs_cons (rv_tmp z) rvs_nil) ?_
 exact ⟨z, hst.keep0⟩
}
 {
 replace hm := bif_f hc138 hm
 refine wo hc138 z z z z z z (wo hc138 z z z z z z (wo hc138 z z z z z z (wo hc138 z z z z z z (wo hc138 z z z z z z (wv (.bool false) z z (x_pick_f hc138 z z) (wv (.bool false) z z z (wl_nil (tn (wp_ret ?_)))))))))
 obtain rfl := some_inj hm
 refine post_ret (vs := [.bool false]) results79 (rvs_cons (rv_tmp z) rvs_nil) ?_
 exact ⟨z, hst.keep0⟩
}
}

theorem locks_writes_ref {w0 w : World} {I : HL} {R : SP} {a0 : api_Hold} {r0_0 : Value} {r0_1 : Value} {r0_2 : Value} {r0_3 : Value} {a1 : Nat} {a2 : Nat} (f0_0 : Rd tyF64 R I r0_0 a0.Gets) (f0_1 : Rd tyF2 R I r0_1 a0.Scans) (f0_2 : Rd tyF64 R I r0_2 a0.Puts) (f0_3 : Rd (tyInt .u8) R I r0_3 a0.Data) (hst : St w0 w I [] R) {r : (Bool)} (hm : locks_writes a0 a1 a2 = some r) :
  Calls prog 52 #[.agg #[U6 a0.ID.Session, U6 a0.ID.Seq, U6 a0.Epoch, r0_0, r0_1, r0_2, r0_3], F6 a1, F6 a2] w fun e w' => e = .returned (.bool r) ∧ St w0 w' I [] R := by {
 unfold locks_writes at hm
 refine calls_start (args := [.agg #[U6 a0.ID.Session, U6 a0.ID.Seq, U6 a0.Epoch, r0_0, r0_1, r0_2, r0_3], F6 a1, F6 a2]) func52 z ntmps52 (Nat.le_of_ble_eq_true z) ?_
 refine wp_seq (wrl ?_)
 obtain ⟨b176, w177, ew178, eb179, hst⟩ := hst.box [U6 a0.ID.Session, U6 a0.ID.Seq, U6 a0.Epoch, r0_0, r0_1, r0_2, r0_3] 34
 refine wl_run (v := Pt b176 0) (w' := w177) z z (x_al (by kernel_rfl) ew178 eb179) ?_
 obtain ⟨b181, w182, ew183, eb184, hst⟩ := hst.box [F6 a1] 57
 refine wl_run (v := Pt b181 0) (w' := w182) z z (x_al (by kernel_rfl) ew183 eb184) ?_
 obtain ⟨b186, w187, ew188, eb189, hst⟩ := hst.box [F6 a2] 57
 refine wl_run (v := Pt b186 0) (w' := w187) z z (x_al (by kernel_rfl) ew188 eb189) ?_
 refine wv (.bool false) z z z (wl_nil (tn (wp_seq (wrl (wv (Pt b176 5) z z (x_field z underlying34 z sizeOf30 z) (wv (r0_2) z z (x_load z isAgg30 (hst.bc2 z)) (wv (.func (.func 78) #[] #[Pt b181 0, Pt b186 0]) z z (by kernel_rfl) ?_)))))))
 obtain ⟨y259, hq260, hm⟩ := bind_some hm
 refine wl_call z z (x_callv call77 (caps := []) z (vs := [r0_2, .func (.func 78) #[] #[Pt b181 0, Pt b186 0]]) z) ?_
 refine Calls.mono (show Calls prog 77 #[r0_2, .func (.func 78) #[] #[Pt b181 0, Pt b186 0]] _ (fun e w' => ∃ (z257 : Bool), z257 = y259 ∧ e = .returned (.bool z257) ∧ St w0 w' I [cells b176 [U6 a0.ID.Session, U6 a0.ID.Seq, U6 a0.Epoch, r0_0, r0_1, r0_2, r0_3], cells b181 [F6 a1], cells b186 [F6 a2]] R) from ?_) ?_
 {
 clear hm; have hm := hq260
 refine calls_start (args := [r0_2, .func (.func 78) #[] #[Pt b181 0, Pt b186 0]]) func77 z ntmps77 (Nat.le_of_ble_eq_true z) ?_
 refine wp_seq (wrl (wv (.bool false) z z z (wl_nil (tn (wp_seq (wrl (wv (r0_2) z z z (wv (.func (.func 78) #[] #[Pt b181 0, Pt b186 0]) z z z ?_))))))))
 obtain ⟨y254, hq255, hm⟩ := bind_some hm
 refine wl_call z z (x_callv call93 (caps := []) z (vs := [r0_2, .func (.func 78) #[] #[Pt b181 0, Pt b186 0]]) z) ?_
 refine Calls.mono (show Calls prog 93 #[r0_2, .func (.func 78) #[] #[Pt b181 0, Pt b186 0]] _ (fun e w' => ∃ (z252 : Int), z252 = y254 ∧ e = .returned (.int .i64 z252) ∧ St w0 w' I [cells b176 [U6 a0.ID.Session, U6 a0.ID.Seq, U6 a0.Epoch, r0_0, r0_1, r0_2, r0_3], cells b181 [F6 a1], cells b186 [F6 a2]] R) from ?_) ?_
 {
 clear hm; have hm := hq255
 refine calls_start (args := [r0_2, .func (.func 78) #[] #[Pt b181 0, Pt b186 0]]) func93 z ntmps93 (Nat.le_of_ble_eq_true z) ?_
 refine wp_seq (wrl (wv (.int .i64 (0:Int)) z z z (wl_nil (tn (wp_seq (wp_seq (wrl (wv (r0_2) z z z (wv (.int .i64 ((a0.Puts).length : Int)) z z (x_len z underlying30 (rd_sliceV f0_2)) (wv (.int .i64 (0:Int)) z z z (wl_nil (tn (wp_block ?_)))))))))))))
 obtain ⟨n228, hm⟩ := loopO_some hm
 refine wp_loop_n (fun n a w => ∃ (z226 : Int) (σ227 : Nat → Value), loopN (locks_writes_l0 a0 a1 a2) n z226 = some y254 ∧ a = Fr 19 (upd (upd (upd (upd σ227 0 (r0_2)) 1 (.func (.func 78) #[] #[Pt b181 0, Pt b186 0])) 7 (.int .i64 ((a0.Puts).length : Int))) 8 (.int .i64 z226)) ∧ St w0 w I [cells b186 [F6 a2], cells b181 [F6 a1], cells b176 [U6 a0.ID.Session, U6 a0.ID.Seq, U6 a0.Epoch, r0_0, r0_1, r0_2, r0_3]] R) n228 ⟨(0:Int), _, hm, (fu 0 r0_2 z (fu 1 (.func (.func 78) #[] #[Pt b181 0, Pt b186 0]) z (fu 7 (.int .i64 ((a0.Puts).length : Int)) z (fu 8 (.int .i64 (0:Int)) z z)))), hst⟩ ?_
 rintro n234 _ w229 ⟨z226, σ227, hm, rfl, hst⟩
 obtain ⟨n231, y232, rfl, hm, hx233⟩ := loopN_some hm
 dsimp only [locks_writes_l0] at hm
 refine wp_seq (wrl (wv (.bool (decide (z226 < ((a0.Puts).length : Int)))) z z z (wl_nil (tn (wp_seq ?_)))))
 refine bsplit (decide (z226 < ((a0.Puts).length : Int))) (fun hc235 => ?_) (fun hc235 => ?_)
 {
 replace hm := bif_t hc235 hm
 refine wp_ift (cvb hc235) ?_
 refine wp_skip (tn (wp_seq (wp_block (wp_seq (wrl ?_)))))
 refine wv (.int .i64 z226) z z z (wv (.int .i64 z226) z z z (wl_nil (tn (wp_seq (wrl (wv (.func (.func 78) #[] #[Pt b181 0, Pt b186 0]) z z z (wv (r0_2) z z z (wv (.int .i64 z226) z z z ?_))))))))
 obtain ⟨x236, hx237, hm⟩ := bind_some hm
 obtain ⟨h238, h239, hi240⟩ := geto_some hx237
 refine wv (.pointer (some (eAddr r0_2 (z226.toNat * 1 + 0)))) z z (x_index z z underlying30 sizeOf57 (rd_sliceV f0_2) h238 h239) (wv (.float .f64 x236) z z (x_load z isAgg57 (rd_load f0_2 (HL.le.refl _) hst hi240 (by rintro _ rfl; rfl))) ?_)
 obtain ⟨y248, hq249, hm⟩ := bind_some hm
 refine wl_call z z (x_callv call78 (caps := [Pt b181 0, Pt b186 0]) z (vs := [F6 x236]) z) ?_
 refine Calls.mono (show Calls prog 78 #[F6 x236, Pt b181 0, Pt b186 0] _ (fun e w' => ∃ (z246 : Bool), z246 = y248 ∧ e = .returned (.bool z246) ∧ St w0 w' I [cells b176 [U6 a0.ID.Session, U6 a0.ID.Seq, U6 a0.Epoch, r0_0, r0_1, r0_2, r0_3], cells b181 [F6 a1], cells b186 [F6 a2]] R) from ?_) ?_
 {
 clear hm; have hm := hq249
 refine calls_start (args := [F6 x236, Pt b181 0, Pt b186 0]) func78 z ntmps78 (Nat.le_of_ble_eq_true z) ?_
 refine wp_seq (wrl (wv (.bool false) z z z (wl_nil (tn (wp_seq (wrl (wv (.float .f64 x236) z z z (wv (.float .f64 a1) z z (x_load z isAgg57 (hst.bc1 z)) (wv (.float .f64 a2) z z (x_load z isAgg57 (hst.bc0 z)) ?_)))))))))
 obtain ⟨t241, ht242, hm⟩ := bind_some hm
 refine wc call79 [F6 x236, F6 a1, F6 a2] z z z ?_
 refine (number_Within_ref hst.to0 ht242).mono ?_
 rintro _ w243 ⟨rfl, hst⟩
 refine ⟨_, z, ?_⟩
 replace hst := hst.of0
 refine wv (.bool t241) z z z (wl_nil (tn (wp_ret ?_)))
 refine post_ret (vs := [.bool t241]) results78 (rvs_cons (rv_tmp z) rvs_nil) ?_
 replace hst := hst.pull1.pull2.keep3
 obtain rfl := some_inj hm
 exact ⟨t241, z, z, hst⟩
}
 clear hst
 rintro _ w250 ⟨z246, rfl, rfl, hst⟩
 refine ⟨_, z, ?_⟩
 try dsimp only at hm
 refine wl_nil (tn ?_)
 refine bsplit z246 (fun hc251 => ?_) (fun hc251 => ?_)
 {
 replace hm := bif_t hc251 hm
 refine wp_ift (cvb hc251) ?_
 refine wp_seq (wrl (wv (.int .i64 z226) z z z (wv (.int .i64 z226) z z z (wl_nil (tn (wp_ret (blk_r (then_r (then_r ?_)))))))))
 replace hm := inr_up hm hx233
 refine blk_r (then_r ?_)
 refine post_ret (vs := [I6 z226]) results93 (rvs_cons (rv_tmp z) rvs_nil) ?_
 replace hst := hst.pull2.pull2.pull2.keep3
 obtain rfl := some_inj hm
 exact ⟨z226, z, z, hst⟩
}
 {
 replace hm := bif_f hc251 hm
 refine wp_iff (cvb hc251) ?_
 refine wp_skip (blk_n (tn (wrl ?_)))
 refine wv (.int .i64 (i64.wrap (z226 + (1:Int)))) z z z (wv (.int .i64 (i64.wrap (z226 + (1:Int)))) z z z (wl_nil (tn ?_)))
 replace hst := hst.pull1.pull2.keep3
 obtain rfl := some_inj hm
 exact ⟨_, Nat.lt_succ_self _, (i64.wrap (z226 + (1:Int))), _, hx233, (fu 0 r0_2 z (fu 1 (.func (.func 78) #[] #[Pt b181 0, Pt b186 0]) z (fu 7 (.int .i64 ((a0.Puts).length : Int)) z (fu 8 (.int .i64 (i64.wrap (z226 + (1:Int)))) z z)))), hst⟩
}
}
 {
 replace hm := bif_f hc235 hm
 refine wp_iff (cvb hc235) ?_
 refine wp_exit (then_x (then_x ?_))
 replace hm := inr_up hm hx233
 refine blk_x (tn (wp_seq (wrl ?_)))
 refine wv (.int .i64 ((-1):Int)) z z z (wl_nil (tn (wp_ret ?_)))
 refine post_ret (vs := [I6 ((-1):Int)]) results93 (rvs_cons (rv_tmp z) rvs_nil) ?_
 replace hst := hst.pull1.pull2.keep3
 obtain rfl := some_inj hm
 exact ⟨((-1):Int), z, z, hst⟩
}
}
 clear hst
 rintro _ w256 ⟨z252, rfl, rfl, hst⟩
 refine ⟨_, z, ?_⟩
 try dsimp only at hm
 refine wv (.bool (decide (z252 ≥ (0:Int)))) z z z (wv (.bool (decide (z252 ≥ (0:Int)))) z z z (wl_nil (tn (wp_ret ?_))))
 refine post_ret (vs := [.bool (decide (z252 ≥ (0:Int)))]) results77 (rvs_cons (rv_tmp z) rvs_nil) ?_
 replace hst := hst.pull2.pull2.pull2.keep3
 obtain rfl := some_inj hm
 exact ⟨(decide (z252 ≥ (0:Int))), z, z, hst⟩
}
 clear hst
 rintro _ w261 ⟨z257, rfl, rfl, hst⟩
 refine ⟨_, z, ?_⟩
 try dsimp only at hm
 refine wv (.bool z257) z z z (wl_nil (tn (wp_ret ?_)))
 obtain rfl := some_inj hm
 refine post_ret (vs := [.bool z257]) results52 (rvs_cons (rv_tmp z) rvs_nil) ?_
 exact ⟨z, hst.keep0⟩
}

theorem number_Same_ref {w0 w : World} {I : HL} {R : SP} {a0 : Nat} {a1 : Nat}  (hst : St w0 w I [] R) {r : (Bool)} (hm : number_Same a0 a1 = some r) :
  Calls prog 47 #[F6 a0, F6 a1] w fun e w' => e = .returned (.bool r) ∧ St w0 w' I [] R := by {
 unfold number_Same at hm
 refine calls_start (args := [F6 a0, F6 a1]) func47 z ntmps47 (Nat.le_of_ble_eq_true z) ?_
 refine wp_seq (wrl (wv (.bool false) z z z (wl_nil (tn (wp_seq (wrl (wv (.float .f64 a0) z z z ?_)))))))
 obtain ⟨t118, ht119, hm⟩ := bind_some hm
 refine wc call61 [F6 a0] z z z ?_
 refine (number_Rank_ref hst.to0 ht119).mono ?_
 rintro _ w120 ⟨rfl, hst⟩
 refine ⟨_, z, ?_⟩
 replace hst := hst.of0
 refine wv (.float .f64 a1) z z z ?_
 obtain ⟨t123, ht124, hm⟩ := bind_some hm
 refine wc call61 [F6 a1] z z z ?_
 refine (number_Rank_ref hst.to0 ht124).mono ?_
 rintro _ w125 ⟨rfl, hst⟩
 refine ⟨_, z, ?_⟩
 replace hst := hst.of0
 refine wv (.bool (t118 == t123)) z z z (wv (.bool (t118 == t123)) z z z (wl_nil (tn (wp_ret ?_))))
 obtain rfl := some_inj hm
 refine post_ret (vs := [.bool (t118 == t123)]) results47 (rvs_cons (rv_tmp z) rvs_nil) ?_
 exact ⟨z, hst.keep0⟩
}

theorem locks_reads_ref {w0 w : World} {I : HL} {R : SP} {a0 : api_Hold} {r0_0 : Value} {r0_1 : Value} {r0_2 : Value} {r0_3 : Value} {a1 : Nat} (f0_0 : Rd tyF64 R I r0_0 a0.Gets) (f0_1 : Rd tyF2 R I r0_1 a0.Scans) (f0_2 : Rd tyF64 R I r0_2 a0.Puts) (f0_3 : Rd (tyInt .u8) R I r0_3 a0.Data) (hst : St w0 w I [] R) {r : (Bool)} (hm : locks_reads a0 a1 = some r) :
  Calls prog 53 #[.agg #[U6 a0.ID.Session, U6 a0.ID.Seq, U6 a0.Epoch, r0_0, r0_1, r0_2, r0_3], F6 a1] w fun e w' => e = .returned (.bool r) ∧ St w0 w' I [] R := by {
 unfold locks_reads at hm
 refine calls_start (args := [.agg #[U6 a0.ID.Session, U6 a0.ID.Seq, U6 a0.Epoch, r0_0, r0_1, r0_2, r0_3], F6 a1]) func53 z ntmps53 (Nat.le_of_ble_eq_true z) ?_
 refine wp_seq (wrl ?_)
 obtain ⟨b264, w265, ew266, eb267, hst⟩ := hst.box [U6 a0.ID.Session, U6 a0.ID.Seq, U6 a0.Epoch, r0_0, r0_1, r0_2, r0_3] 34
 refine wl_run (v := Pt b264 0) (w' := w265) z z (x_al (by kernel_rfl) ew266 eb267) ?_
 obtain ⟨b269, w270, ew271, eb272, hst⟩ := hst.box [F6 a1] 57
 refine wl_run (v := Pt b269 0) (w' := w270) z z (x_al (by kernel_rfl) ew271 eb272) ?_
 refine wv (.bool false) z z z (wl_nil (tn (wp_seq (wrl (wv (Pt b264 3) z z (x_field z underlying34 z sizeOf30 z) (wv (r0_0) z z (x_load z isAgg30 (hst.bc1 z)) (wv (.func (.func 80) #[] #[Pt b269 0]) z z (by kernel_rfl) ?_)))))))
 obtain ⟨y342, hq343, hm⟩ := bind_some hm
 refine wl_call z z (x_callv call77 (caps := []) z (vs := [r0_0, .func (.func 80) #[] #[Pt b269 0]]) z) ?_
 refine Calls.mono (show Calls prog 77 #[r0_0, .func (.func 80) #[] #[Pt b269 0]] _ (fun e w' => ∃ (z340 : Bool), z340 = y342 ∧ e = .returned (.bool z340) ∧ St w0 w' I [cells b264 [U6 a0.ID.Session, U6 a0.ID.Seq, U6 a0.Epoch, r0_0, r0_1, r0_2, r0_3], cells b269 [F6 a1]] R) from ?_) ?_
 {
 clear hm; have hm := hq343
 refine calls_start (args := [r0_0, .func (.func 80) #[] #[Pt b269 0]]) func77 z ntmps77 (Nat.le_of_ble_eq_true z) ?_
 refine wp_seq (wrl (wv (.bool false) z z z (wl_nil (tn (wp_seq (wrl (wv (r0_0) z z z (wv (.func (.func 80) #[] #[Pt b269 0]) z z z ?_))))))))
 obtain ⟨y337, hq338, hm⟩ := bind_some hm
 refine wl_call z z (x_callv call93 (caps := []) z (vs := [r0_0, .func (.func 80) #[] #[Pt b269 0]]) z) ?_
 refine Calls.mono (show Calls prog 93 #[r0_0, .func (.func 80) #[] #[Pt b269 0]] _ (fun e w' => ∃ (z335 : Int), z335 = y337 ∧ e = .returned (.int .i64 z335) ∧ St w0 w' I [cells b264 [U6 a0.ID.Session, U6 a0.ID.Seq, U6 a0.Epoch, r0_0, r0_1, r0_2, r0_3], cells b269 [F6 a1]] R) from ?_) ?_
 {
 clear hm; have hm := hq338
 refine calls_start (args := [r0_0, .func (.func 80) #[] #[Pt b269 0]]) func93 z ntmps93 (Nat.le_of_ble_eq_true z) ?_
 refine wp_seq (wrl (wv (.int .i64 (0:Int)) z z z (wl_nil (tn (wp_seq (wp_seq (wrl (wv (r0_0) z z z (wv (.int .i64 ((a0.Gets).length : Int)) z z (x_len z underlying30 (rd_sliceV f0_0)) (wv (.int .i64 (0:Int)) z z z (wl_nil (tn (wp_block ?_)))))))))))))
 obtain ⟨n311, hm⟩ := loopO_some hm
 refine wp_loop_n (fun n a w => ∃ (z309 : Int) (σ310 : Nat → Value), loopN (locks_reads_l0 a0 a1) n z309 = some y337 ∧ a = Fr 19 (upd (upd (upd (upd σ310 0 (r0_0)) 1 (.func (.func 80) #[] #[Pt b269 0])) 7 (.int .i64 ((a0.Gets).length : Int))) 8 (.int .i64 z309)) ∧ St w0 w I [cells b269 [F6 a1], cells b264 [U6 a0.ID.Session, U6 a0.ID.Seq, U6 a0.Epoch, r0_0, r0_1, r0_2, r0_3]] R) n311 ⟨(0:Int), _, hm, (fu 0 r0_0 z (fu 1 (.func (.func 80) #[] #[Pt b269 0]) z (fu 7 (.int .i64 ((a0.Gets).length : Int)) z (fu 8 (.int .i64 (0:Int)) z z)))), hst⟩ ?_
 rintro n317 _ w312 ⟨z309, σ310, hm, rfl, hst⟩
 obtain ⟨n314, y315, rfl, hm, hx316⟩ := loopN_some hm
 dsimp only [locks_reads_l0] at hm
 refine wp_seq (wrl (wv (.bool (decide (z309 < ((a0.Gets).length : Int)))) z z z (wl_nil (tn (wp_seq ?_)))))
 refine bsplit (decide (z309 < ((a0.Gets).length : Int))) (fun hc318 => ?_) (fun hc318 => ?_)
 {
 replace hm := bif_t hc318 hm
 refine wp_ift (cvb hc318) ?_
 refine wp_skip (tn (wp_seq (wp_block (wp_seq (wrl ?_)))))
 refine wv (.int .i64 z309) z z z (wv (.int .i64 z309) z z z (wl_nil (tn (wp_seq (wrl (wv (.func (.func 80) #[] #[Pt b269 0]) z z z (wv (r0_0) z z z (wv (.int .i64 z309) z z z ?_))))))))
 obtain ⟨x319, hx320, hm⟩ := bind_some hm
 obtain ⟨h321, h322, hi323⟩ := geto_some hx320
 refine wv (.pointer (some (eAddr r0_0 (z309.toNat * 1 + 0)))) z z (x_index z z underlying30 sizeOf57 (rd_sliceV f0_0) h321 h322) (wv (.float .f64 x319) z z (x_load z isAgg57 (rd_load f0_0 (HL.le.refl _) hst hi323 (by rintro _ rfl; rfl))) ?_)
 obtain ⟨y331, hq332, hm⟩ := bind_some hm
 refine wl_call z z (x_callv call80 (caps := [Pt b269 0]) z (vs := [F6 x319]) z) ?_
 refine Calls.mono (show Calls prog 80 #[F6 x319, Pt b269 0] _ (fun e w' => ∃ (z329 : Bool), z329 = y331 ∧ e = .returned (.bool z329) ∧ St w0 w' I [cells b264 [U6 a0.ID.Session, U6 a0.ID.Seq, U6 a0.Epoch, r0_0, r0_1, r0_2, r0_3], cells b269 [F6 a1]] R) from ?_) ?_
 {
 clear hm; have hm := hq332
 refine calls_start (args := [F6 x319, Pt b269 0]) func80 z ntmps80 (Nat.le_of_ble_eq_true z) ?_
 refine wp_seq (wrl (wv (.bool false) z z z (wl_nil (tn (wp_seq (wrl (wv (.float .f64 a1) z z (x_load z isAgg57 (hst.bc0 z)) (wv (.float .f64 x319) z z z ?_))))))))
 obtain ⟨t324, ht325, hm⟩ := bind_some hm
 refine wc call47 [F6 a1, F6 x319] z z z ?_
 refine (number_Same_ref hst.to0 ht325).mono ?_
 rintro _ w326 ⟨rfl, hst⟩
 refine ⟨_, z, ?_⟩
 replace hst := hst.of0
 refine wv (.bool t324) z z z (wl_nil (tn (wp_ret ?_)))
 refine post_ret (vs := [.bool t324]) results80 (rvs_cons (rv_tmp z) rvs_nil) ?_
 replace hst := hst.pull1.keep2
 obtain rfl := some_inj hm
 exact ⟨t324, z, z, hst⟩
}
 clear hst
 rintro _ w333 ⟨z329, rfl, rfl, hst⟩
 refine ⟨_, z, ?_⟩
 try dsimp only at hm
 refine wl_nil (tn ?_)
 refine bsplit z329 (fun hc334 => ?_) (fun hc334 => ?_)
 {
 replace hm := bif_t hc334 hm
 refine wp_ift (cvb hc334) ?_
 refine wp_seq (wrl (wv (.int .i64 z309) z z z (wv (.int .i64 z309) z z z (wl_nil (tn (wp_ret (blk_r (then_r (then_r ?_)))))))))
 replace hm := inr_up hm hx316
 refine blk_r (then_r ?_)
 refine post_ret (vs := [I6 z309]) results93 (rvs_cons (rv_tmp z) rvs_nil) ?_
 replace hst := hst.pull1.pull1.keep2
 obtain rfl := some_inj hm
 exact ⟨z309, z, z, hst⟩
}
 {
 replace hm := bif_f hc334 hm
 refine wp_iff (cvb hc334) ?_
 refine wp_skip (blk_n (tn (wrl ?_)))
 refine wv (.int .i64 (i64.wrap (z309 + (1:Int)))) z z z (wv (.int .i64 (i64.wrap (z309 + (1:Int)))) z z z (wl_nil (tn ?_)))
 replace hst := hst.pull1.keep2
 obtain rfl := some_inj hm
 exact ⟨_, Nat.lt_succ_self _, (i64.wrap (z309 + (1:Int))), _, hx316, (fu 0 r0_0 z (fu 1 (.func (.func 80) #[] #[Pt b269 0]) z (fu 7 (.int .i64 ((a0.Gets).length : Int)) z (fu 8 (.int .i64 (i64.wrap (z309 + (1:Int)))) z z)))), hst⟩
}
}
 {
 replace hm := bif_f hc318 hm
 refine wp_iff (cvb hc318) ?_
 refine wp_exit (then_x (then_x ?_))
 replace hm := inr_up hm hx316
 refine blk_x (tn (wp_seq (wrl ?_)))
 refine wv (.int .i64 ((-1):Int)) z z z (wl_nil (tn (wp_ret ?_)))
 refine post_ret (vs := [I6 ((-1):Int)]) results93 (rvs_cons (rv_tmp z) rvs_nil) ?_
 replace hst := hst.pull1.keep2
 obtain rfl := some_inj hm
 exact ⟨((-1):Int), z, z, hst⟩
}
}
 clear hst
 rintro _ w339 ⟨z335, rfl, rfl, hst⟩
 refine ⟨_, z, ?_⟩
 try dsimp only at hm
 refine wv (.bool (decide (z335 ≥ (0:Int)))) z z z (wv (.bool (decide (z335 ≥ (0:Int)))) z z z (wl_nil (tn (wp_ret ?_))))
 refine post_ret (vs := [.bool (decide (z335 ≥ (0:Int)))]) results77 (rvs_cons (rv_tmp z) rvs_nil) ?_
 replace hst := hst.pull1.pull1.keep2
 obtain rfl := some_inj hm
 exact ⟨(decide (z335 ≥ (0:Int))), z, z, hst⟩
}
 clear hst
 rintro _ w344 ⟨z340, rfl, rfl, hst⟩
 refine ⟨_, z, ?_⟩
 try dsimp only at hm
 refine wv (.bool z340) z z z ?_
 refine bsplit z340 (fun hc345 => ?_) (fun hc345 => ?_)
 {
 replace hm := bif_t hc345 hm
 refine wo hc345 z z z z z z (wo hc345 z z z z z z (wo hc345 z z z z z z (wo hc345 z z z z z z (wv (.bool true) z z (x_pick_t hc345 z z) (wv (.bool true) z z z (wl_nil (tn (wp_ret ?_))))))))
 obtain rfl := some_inj hm
 refine post_ret (vs := [.bool true]) results53 (rvs_cons (rv_tmp z) rvs_nil) ?_
 exact ⟨z, hst.keep0⟩
}
 {
 replace hm := bif_f hc345 hm
 refine wv (Pt b264 4) ((wanted_eq z z z (cvb hc345)).trans z) z (x_field z underlying34 z sizeOf31 z) (wv (r0_1) ((wanted_eq z z z (cvb hc345)).trans z) z (x_load z isAgg31 (hst.bc0 z)) (wv (.func (.func 82) #[] #[Pt b269 0]) ((wanted_eq z z z (cvb hc345)).trans z) z (by kernel_rfl) ?_))
 obtain ⟨y429, hq430, hm⟩ := bind_some hm
 refine wl_call ((wanted_eq z z z (cvb hc345)).trans z) z (x_callv call81 (caps := []) z (vs := [r0_1, .func (.func 82) #[] #[Pt b269 0]]) z) ?_
 refine Calls.mono (show Calls prog 81 #[r0_1, .func (.func 82) #[] #[Pt b269 0]] _ (fun e w' => ∃ (z427 : Bool), z427 = y429 ∧ e = .returned (.bool z427) ∧ St w0 w' I [cells b264 [U6 a0.ID.Session, U6 a0.ID.Seq, U6 a0.Epoch, r0_0, r0_1, r0_2, r0_3], cells b269 [F6 a1]] R) from ?_) ?_
 {
 clear hm; have hm := hq430
 refine calls_start (args := [r0_1, .func (.func 82) #[] #[Pt b269 0]]) func81 z ntmps81 (Nat.le_of_ble_eq_true z) ?_
 refine wp_seq (wrl (wv (.bool false) z z z (wl_nil (tn (wp_seq (wrl (wv (r0_1) z z z (wv (.func (.func 82) #[] #[Pt b269 0]) z z z ?_))))))))
 obtain ⟨y424, hq425, hm⟩ := bind_some hm
 refine wl_call z z (x_callv call94 (caps := []) z (vs := [r0_1, .func (.func 82) #[] #[Pt b269 0]]) z) ?_
 refine Calls.mono (show Calls prog 94 #[r0_1, .func (.func 82) #[] #[Pt b269 0]] _ (fun e w' => ∃ (z422 : Int), z422 = y424 ∧ e = .returned (.int .i64 z422) ∧ St w0 w' I [cells b264 [U6 a0.ID.Session, U6 a0.ID.Seq, U6 a0.Epoch, r0_0, r0_1, r0_2, r0_3], cells b269 [F6 a1]] R) from ?_) ?_
 {
 clear hm; have hm := hq425
 refine calls_start (args := [r0_1, .func (.func 82) #[] #[Pt b269 0]]) func94 z ntmps94 (Nat.le_of_ble_eq_true z) ?_
 refine wp_seq (wrl (wv (.int .i64 (0:Int)) z z z (wl_nil (tn (wp_seq (wp_seq (wrl (wv (r0_1) z z z (wv (.int .i64 ((a0.Scans).length : Int)) z z (x_len z underlying31 (rd_sliceV f0_1)) (wv (.int .i64 (0:Int)) z z z (wl_nil (tn (wp_block ?_)))))))))))))
 obtain ⟨n393, hm⟩ := loopO_some hm
 refine wp_loop_n (fun n a w => ∃ (z391 : Int) (σ392 : Nat → Value), loopN (locks_reads_l1 a0 a1) n z391 = some y424 ∧ a = Fr 19 (upd (upd (upd (upd σ392 0 (r0_1)) 1 (.func (.func 82) #[] #[Pt b269 0])) 7 (.int .i64 ((a0.Scans).length : Int))) 8 (.int .i64 z391)) ∧ St w0 w I [cells b264 [U6 a0.ID.Session, U6 a0.ID.Seq, U6 a0.Epoch, r0_0, r0_1, r0_2, r0_3], cells b269 [F6 a1]] R) n393 ⟨(0:Int), _, hm, (fu 0 r0_1 z (fu 1 (.func (.func 82) #[] #[Pt b269 0]) z (fu 7 (.int .i64 ((a0.Scans).length : Int)) z (fu 8 (.int .i64 (0:Int)) z z)))), hst⟩ ?_
 rintro n399 _ w394 ⟨z391, σ392, hm, rfl, hst⟩
 obtain ⟨n396, y397, rfl, hm, hx398⟩ := loopN_some hm
 dsimp only [locks_reads_l1] at hm
 refine wp_seq (wrl (wv (.bool (decide (z391 < ((a0.Scans).length : Int)))) z z z (wl_nil (tn (wp_seq ?_)))))
 refine bsplit (decide (z391 < ((a0.Scans).length : Int))) (fun hc400 => ?_) (fun hc400 => ?_)
 {
 replace hm := bif_t hc400 hm
 refine wp_ift (cvb hc400) ?_
 refine wp_skip (tn (wp_seq (wp_block (wp_seq (wrl ?_)))))
 refine wv (.int .i64 z391) z z z (wv (.int .i64 z391) z z z (wl_nil (tn (wp_seq (wrl (wv (.func (.func 82) #[] #[Pt b269 0]) z z z (wv (r0_1) z z z (wv (.int .i64 z391) z z z ?_))))))))
 obtain ⟨x401, hx402, hm⟩ := bind_some hm
 obtain ⟨h403, h404, hi405⟩ := geto_some hx402
 refine wv (.pointer (some (eAddr r0_1 (z391.toNat * 2 + 0)))) z z (x_index z z underlying31 sizeOf75 (rd_sliceV f0_1) h403 h404) (wv (.agg #[F6 x401.1, F6 x401.2]) z z (x_loadN (cs := [F6 x401.1, F6 x401.2]) z isAgg75 sizeOf75 (rd_loadN f0_1 (HL.le.refl _) hst hi405 0 (by rintro _ rfl; rfl))) ?_)
 obtain ⟨y418, hq419, hm⟩ := bind_some hm
 refine wl_call z z (x_callv call82 (caps := [Pt b269 0]) z (vs := [.agg #[F6 x401.1, F6 x401.2]]) z) ?_
 refine Calls.mono (show Calls prog 82 #[.agg #[F6 x401.1, F6 x401.2], Pt b269 0] _ (fun e w' => ∃ (z416 : Bool), z416 = y418 ∧ e = .returned (.bool z416) ∧ St w0 w' I [cells b264 [U6 a0.ID.Session, U6 a0.ID.Seq, U6 a0.Epoch, r0_0, r0_1, r0_2, r0_3], cells b269 [F6 a1]] R) from ?_) ?_
 {
 clear hm; have hm := hq419
 refine calls_start (args := [.agg #[F6 x401.1, F6 x401.2], Pt b269 0]) func82 z ntmps82 (Nat.le_of_ble_eq_true z) ?_
 refine wp_seq (wrl ?_)
 obtain ⟨b406, w407, ew408, eb409, hst⟩ := hst.box [F6 x401.1, F6 x401.2] 75
 refine wl_run (v := Pt b406 0) (w' := w407) z z (x_al (by kernel_rfl) ew408 eb409) ?_
 refine wv (.bool false) z z z (wl_nil (tn (wp_seq (wrl (wv (.float .f64 a1) z z (x_load z isAgg57 (hst.bc2 z)) (wv (Pt b406 0) z z (x_index_arr (i := (0:Int)) z z underlying75 sizeOf57 (by decide) (by decide)) (wv (.float .f64 x401.1) z z (x_load z isAgg57 (hst.bc0 z)) (wv (Pt b406 1) z z (x_index_arr (i := (1:Int)) z z underlying75 sizeOf57 (by decide) (by decide)) (wv (.float .f64 x401.2) z z (x_load z isAgg57 (hst.bc0 z)) ?_)))))))))
 obtain ⟨t411, ht412, hm⟩ := bind_some hm
 refine wc call79 [F6 a1, F6 x401.1, F6 x401.2] z z z ?_
 refine (number_Within_ref hst.to0 ht412).mono ?_
 rintro _ w413 ⟨rfl, hst⟩
 refine ⟨_, z, ?_⟩
 replace hst := hst.of0
 refine wv (.bool t411) z z z (wl_nil (tn (wp_ret ?_)))
 refine post_ret (vs := [.bool t411]) results82 (rvs_cons (rv_tmp z) rvs_nil) ?_
 replace hst := hst.pull2.pull2.keep2
 obtain rfl := some_inj hm
 exact ⟨t411, z, z, hst⟩
}
 clear hst
 rintro _ w420 ⟨z416, rfl, rfl, hst⟩
 refine ⟨_, z, ?_⟩
 try dsimp only at hm
 refine wl_nil (tn ?_)
 refine bsplit z416 (fun hc421 => ?_) (fun hc421 => ?_)
 {
 replace hm := bif_t hc421 hm
 refine wp_ift (cvb hc421) ?_
 refine wp_seq (wrl (wv (.int .i64 z391) z z z (wv (.int .i64 z391) z z z (wl_nil (tn (wp_ret (blk_r (then_r (then_r ?_)))))))))
 replace hm := inr_up hm hx398
 refine blk_r (then_r ?_)
 refine post_ret (vs := [I6 z391]) results94 (rvs_cons (rv_tmp z) rvs_nil) ?_
 replace hst := hst.pull1.pull1.keep2
 obtain rfl := some_inj hm
 exact ⟨z391, z, z, hst⟩
}
 {
 replace hm := bif_f hc421 hm
 refine wp_iff (cvb hc421) ?_
 refine wp_skip (blk_n (tn (wrl ?_)))
 refine wv (.int .i64 (i64.wrap (z391 + (1:Int)))) z z z (wv (.int .i64 (i64.wrap (z391 + (1:Int)))) z z z (wl_nil (tn ?_)))
 replace hst := hst.pull1.pull1.keep2
 obtain rfl := some_inj hm
 exact ⟨_, Nat.lt_succ_self _, (i64.wrap (z391 + (1:Int))), _, hx398, (fu 0 r0_1 z (fu 1 (.func (.func 82) #[] #[Pt b269 0]) z (fu 7 (.int .i64 ((a0.Scans).length : Int)) z (fu 8 (.int .i64 (i64.wrap (z391 + (1:Int)))) z z)))), hst⟩
}
}
 {
 replace hm := bif_f hc400 hm
 refine wp_iff (cvb hc400) ?_
 refine wp_exit (then_x (then_x ?_))
 replace hm := inr_up hm hx398
 refine blk_x (tn (wp_seq (wrl ?_)))
 refine wv (.int .i64 ((-1):Int)) z z z (wl_nil (tn (wp_ret ?_)))
 refine post_ret (vs := [I6 ((-1):Int)]) results94 (rvs_cons (rv_tmp z) rvs_nil) ?_
 replace hst := hst.pull1.pull1.keep2
 obtain rfl := some_inj hm
 exact ⟨((-1):Int), z, z, hst⟩
}
}
 clear hst
 rintro _ w426 ⟨z422, rfl, rfl, hst⟩
 refine ⟨_, z, ?_⟩
 try dsimp only at hm
 refine wv (.bool (decide (z422 ≥ (0:Int)))) z z z (wv (.bool (decide (z422 ≥ (0:Int)))) z z z (wl_nil (tn (wp_ret ?_))))
 refine post_ret (vs := [.bool (decide (z422 ≥ (0:Int)))]) results81 (rvs_cons (rv_tmp z) rvs_nil) ?_
 replace hst := hst.pull1.pull1.keep2
 obtain rfl := some_inj hm
 exact ⟨(decide (z422 ≥ (0:Int))), z, z, hst⟩
}
 clear hst
 rintro _ w431 ⟨z427, rfl, rfl, hst⟩
 refine ⟨_, z, ?_⟩
 try dsimp only at hm
 refine wv (.bool z427) z z (x_pick_f hc345 z z) (wv (.bool z427) z z z (wl_nil (tn (wp_ret ?_))))
 obtain rfl := some_inj hm
 refine post_ret (vs := [.bool z427]) results53 (rvs_cons (rv_tmp z) rvs_nil) ?_
 exact ⟨z, hst.keep0⟩
}
}

theorem locks_Meet_ref {w0 w : World} {I : HL} {R : SP} {a0 : api_Hold} {r0_0 : Value} {r0_1 : Value} {r0_2 : Value} {r0_3 : Value} {a1 : api_Hold} {r1_0 : Value} {r1_1 : Value} {r1_2 : Value} {r1_3 : Value} (f0_0 : Rd tyF64 R I r0_0 a0.Gets) (f0_1 : Rd tyF2 R I r0_1 a0.Scans) (f0_2 : Rd tyF64 R I r0_2 a0.Puts) (f0_3 : Rd (tyInt .u8) R I r0_3 a0.Data) (f1_0 : Rd tyF64 R I r1_0 a1.Gets) (f1_1 : Rd tyF2 R I r1_1 a1.Scans) (f1_2 : Rd tyF64 R I r1_2 a1.Puts) (f1_3 : Rd (tyInt .u8) R I r1_3 a1.Data) (hst : St w0 w I [] R) {r : (Bool)} (hm : locks_Meet a0 a1 = some r) :
  Calls prog 19 #[.agg #[U6 a0.ID.Session, U6 a0.ID.Seq, U6 a0.Epoch, r0_0, r0_1, r0_2, r0_3], .agg #[U6 a1.ID.Session, U6 a1.ID.Seq, U6 a1.Epoch, r1_0, r1_1, r1_2, r1_3]] w fun e w' => e = .returned (.bool r) ∧ St w0 w' I [] R := by {
 unfold locks_Meet at hm
 refine calls_start (args := [.agg #[U6 a0.ID.Session, U6 a0.ID.Seq, U6 a0.Epoch, r0_0, r0_1, r0_2, r0_3], .agg #[U6 a1.ID.Session, U6 a1.ID.Seq, U6 a1.Epoch, r1_0, r1_1, r1_2, r1_3]]) func19 z ntmps19 (Nat.le_of_ble_eq_true z) ?_
 refine wp_seq (wrl ?_)
 obtain ⟨b199, w200, ew201, eb202, hst⟩ := hst.box [U6 a0.ID.Session, U6 a0.ID.Seq, U6 a0.Epoch, r0_0, r0_1, r0_2, r0_3] 34
 refine wl_run (v := Pt b199 0) (w' := w200) z z (x_al (by kernel_rfl) ew201 eb202) ?_
 obtain ⟨b204, w205, ew206, eb207, hst⟩ := hst.box [U6 a1.ID.Session, U6 a1.ID.Seq, U6 a1.Epoch, r1_0, r1_1, r1_2, r1_3] 34
 refine wl_run (v := Pt b204 0) (w' := w205) z z (x_al (by kernel_rfl) ew206 eb207) ?_
 refine wv (.bool false) z z z (wl_nil (tn ?_))
 obtain ⟨y275, hm, hx276⟩ := joinO_some hm
 refine wp_cut (fun a w => ∃ (σ273 : Nat → Value), (locks_Meet_j0 a1 a0) () = some r ∧ a = Fr 37 (upd (upd σ273 2 (Pt b199 0)) 3 (Pt b204 0)) ∧ St w0 w I [cells b199 [U6 a0.ID.Session, U6 a0.ID.Seq, U6 a0.Epoch, r0_0, r0_1, r0_2, r0_3], cells b204 [U6 a1.ID.Session, U6 a1.ID.Seq, U6 a1.Epoch, r1_0, r1_1, r1_2, r1_3]] R) ?_ ?_
 {
 refine wp_seq (wrl (wv (Pt b199 5) z z (x_field z underlying34 z sizeOf30 z) (wv (r0_2) z z (x_load z isAgg30 (hst.bc1 z)) (wv (.int .i64 ((a0.Puts).length : Int)) z z (x_len z underlying30 (rd_sliceV f0_2)) (wv (.int .i64 (0:Int)) z z z (wl_nil (tn (wp_block ?_))))))))
 obtain ⟨n248, hm⟩ := loopO_some hm
 refine wp_loop_n (fun n a w => ∃ (z246 : Int) (σ247 : Nat → Value), loopN (locks_Meet_l1 a0 a1) n z246 = some y275 ∧ a = Fr 37 (upd (upd (upd (upd (upd σ247 2 (Pt b199 0)) 3 (Pt b204 0)) 10 (r0_2)) 11 (.int .i64 ((a0.Puts).length : Int))) 12 (.int .i64 z246)) ∧ St w0 w I [cells b204 [U6 a1.ID.Session, U6 a1.ID.Seq, U6 a1.Epoch, r1_0, r1_1, r1_2, r1_3], cells b199 [U6 a0.ID.Session, U6 a0.ID.Seq, U6 a0.Epoch, r0_0, r0_1, r0_2, r0_3]] R) n248 ⟨(0:Int), _, hm, (fu 2 (Pt b199 0) z (fu 3 (Pt b204 0) z (fu 10 r0_2 z (fu 11 (.int .i64 ((a0.Puts).length : Int)) z (fu 12 (.int .i64 (0:Int)) z z))))), hst⟩ ?_
 rintro n254 _ w249 ⟨z246, σ247, hm, rfl, hst⟩
 obtain ⟨n251, y252, rfl, hm, hx253⟩ := loopN_some hm
 dsimp only [locks_Meet_l1] at hm
 refine wp_seq (wrl (wv (.bool (decide (z246 < ((a0.Puts).length : Int)))) z z z (wl_nil (tn (wp_seq ?_)))))
 refine bsplit (decide (z246 < ((a0.Puts).length : Int))) (fun hc255 => ?_) (fun hc255 => ?_)
 {
 replace hm := bif_t hc255 hm
 refine wp_ift (cvb hc255) ?_
 refine wp_skip (tn (wp_seq (wp_block (wp_seq (wrl ?_)))))
 obtain ⟨x256, hx257, hm⟩ := bind_some hm
 obtain ⟨h258, h259, hi260⟩ := geto_some hx257
 refine wv (.pointer (some (eAddr r0_2 (z246.toNat * 1 + 0)))) z z (x_index z z underlying30 sizeOf57 (rd_sliceV f0_2) h258 h259) (wv (.float .f64 x256) z z (x_load z isAgg57 (rd_load f0_2 (HL.le.refl _) hst hi260 (by rintro _ rfl; rfl))) (wv (.float .f64 x256) z z z (wl_nil (tn (wp_seq (wrl (wv (.agg #[U6 a1.ID.Session, U6 a1.ID.Seq, U6 a1.Epoch, r1_0, r1_1, r1_2, r1_3]) z z (x_loadN (cs := [U6 a1.ID.Session, U6 a1.ID.Seq, U6 a1.Epoch, r1_0, r1_1, r1_2, r1_3]) z isAgg34 sizeOf34 (hst.bcs0 0 z)) (wv (.float .f64 x256) z z z (wv (.float .f64 x256) z z z ?_)))))))))
 obtain ⟨t261, ht262, hm⟩ := bind_some hm
 refine wc call52 [.agg #[U6 a1.ID.Session, U6 a1.ID.Seq, U6 a1.Epoch, r1_0, r1_1, r1_2, r1_3], F6 x256, F6 x256] z z z ?_
 refine (locks_writes_ref (f1_0.mono (rd_weak _)) (f1_1.mono (rd_weak _)) (f1_2.mono (rd_weak _)) (f1_3.mono (rd_weak _)) hst.to0 ht262).mono ?_
 rintro _ w263 ⟨rfl, hst⟩
 refine ⟨_, z, ?_⟩
 replace hst := hst.of0
 refine wv (.bool t261) z z z ?_
 refine bsplit t261 (fun hc266 => ?_) (fun hc266 => ?_)
 {
 replace hm := bif_t hc266 hm
 refine wo hc266 z z z z z z (wo hc266 z z z z z z (wo hc266 z z z z z z (wv (.bool true) z z (x_pick_t hc266 z z) (wl_nil (tn ?_)))))
 refine wp_ift z ?_
 refine wp_seq (wrl (wv (.bool true) z z z (wl_nil (tn (wp_ret (blk_r (then_r (then_r ?_))))))))
 replace hm := inr_up hm hx253
 refine blk_r (then_r ?_)
 replace hm := inr_up hm hx276
 obtain rfl := some_inj hm
 refine post_ret (vs := [.bool true]) results19 (rvs_cons (rv_tmp z) rvs_nil) ?_
 exact ⟨z, hst.keep0⟩
}
 {
 replace hm := bif_f hc266 hm
 refine wv (.agg #[U6 a1.ID.Session, U6 a1.ID.Seq, U6 a1.Epoch, r1_0, r1_1, r1_2, r1_3]) ((wanted_eq z z z (cvb hc266)).trans z) z (x_loadN (cs := [U6 a1.ID.Session, U6 a1.ID.Seq, U6 a1.Epoch, r1_0, r1_1, r1_2, r1_3]) z isAgg34 sizeOf34 (hst.bcs0 0 z)) (wv (.float .f64 x256) ((wanted_eq z z z (cvb hc266)).trans z) z z ?_)
 obtain ⟨t267, ht268, hm⟩ := bind_some hm
 refine wl_call ((wanted_eq z z z (cvb hc266)).trans z) z (x_call call53 z (vs := [.agg #[U6 a1.ID.Session, U6 a1.ID.Seq, U6 a1.Epoch, r1_0, r1_1, r1_2, r1_3], F6 x256]) z) ?_
 refine (locks_reads_ref (f1_0.mono (rd_weak _)) (f1_1.mono (rd_weak _)) (f1_2.mono (rd_weak _)) (f1_3.mono (rd_weak _)) hst.to0 ht268).mono ?_
 rintro _ w269 ⟨rfl, hst⟩
 refine ⟨_, z, ?_⟩
 replace hst := hst.of0
 refine wv (.bool t267) z z (x_pick_f hc266 z z) (wl_nil (tn ?_))
 refine bsplit t267 (fun hc272 => ?_) (fun hc272 => ?_)
 {
 replace hm := bif_t hc272 hm
 refine wp_ift (cvb hc272) ?_
 refine wp_seq (wrl (wv (.bool true) z z z (wl_nil (tn (wp_ret (blk_r (then_r (then_r ?_))))))))
 replace hm := inr_up hm hx253
 refine blk_r (then_r ?_)
 replace hm := inr_up hm hx276
 obtain rfl := some_inj hm
 refine post_ret (vs := [.bool true]) results19 (rvs_cons (rv_tmp z) rvs_nil) ?_
 exact ⟨z, hst.keep0⟩
}
 {
 replace hm := bif_f hc272 hm
 refine wp_iff (cvb hc272) ?_
 refine wp_skip (blk_n (tn (wrl ?_)))
 refine wv (.int .i64 (i64.wrap (z246 + (1:Int)))) z z z (wv (.int .i64 (i64.wrap (z246 + (1:Int)))) z z z (wl_nil (tn ?_)))
 replace hst := hst.pull1.pull1.keep2
 obtain rfl := some_inj hm
 exact ⟨_, Nat.lt_succ_self _, (i64.wrap (z246 + (1:Int))), _, hx253, (fu 2 (Pt b199 0) z (fu 3 (Pt b204 0) z (fu 10 r0_2 z (fu 11 (.int .i64 ((a0.Puts).length : Int)) z (fu 12 (.int .i64 (i64.wrap (z246 + (1:Int)))) z z))))), hst⟩
}
}
}
 {
 replace hm := bif_f hc255 hm
 refine wp_iff (cvb hc255) ?_
 refine wp_exit (then_x (then_x ?_))
 replace hm := inr_up hm hx253
 refine blk_x (tn ?_)
 replace hst := hst.pull1.keep2
 obtain rfl := some_inj hm
 exact ⟨_, hx276, (fu 2 (Pt b199 0) z (fu 3 (Pt b204 0) z z)), hst⟩
}
}
 {
 clear hst
 rintro _ w277 ⟨σ273, hm, rfl, hst⟩
 dsimp only [locks_Meet_j0] at hm
 refine wp_seq (wp_seq (wrl (wv (Pt b204 5) z z (x_field z underlying34 z sizeOf30 z) (wv (r1_2) z z (x_load z isAgg30 (hst.bc1 z)) (wv (.int .i64 ((a1.Puts).length : Int)) z z (x_len z underlying30 (rd_sliceV f1_2)) (wv (.int .i64 (0:Int)) z z z (wl_nil (tn (wp_block ?_)))))))))
 replace hst := hst.pull1.sub
 obtain ⟨n305, hm⟩ := loopO_some hm
 refine wp_loop_n (fun n a w => ∃ (z303 : Int) (σ304 : Nat → Value), loopN (locks_Meet_l2 a1 a0) n z303 = some r ∧ a = Fr 37 (upd (upd (upd (upd σ304 2 (Pt b199 0)) 27 (r1_2)) 28 (.int .i64 ((a1.Puts).length : Int))) 29 (.int .i64 z303)) ∧ St w0 w I [cells b199 [U6 a0.ID.Session, U6 a0.ID.Seq, U6 a0.Epoch, r0_0, r0_1, r0_2, r0_3]] R) n305 ⟨(0:Int), _, hm, (fu 2 (Pt b199 0) z (fu 27 r1_2 z (fu 28 (.int .i64 ((a1.Puts).length : Int)) z (fu 29 (.int .i64 (0:Int)) z z)))), hst⟩ ?_
 rintro n311 _ w306 ⟨z303, σ304, hm, rfl, hst⟩
 obtain ⟨n308, y309, rfl, hm, hx310⟩ := loopN_some hm
 dsimp only [locks_Meet_l2] at hm
 refine wp_seq (wrl (wv (.bool (decide (z303 < ((a1.Puts).length : Int)))) z z z (wl_nil (tn (wp_seq ?_)))))
 refine bsplit (decide (z303 < ((a1.Puts).length : Int))) (fun hc312 => ?_) (fun hc312 => ?_)
 {
 replace hm := bif_t hc312 hm
 refine wp_ift (cvb hc312) ?_
 refine wp_skip (tn (wp_seq (wp_block (wp_seq (wrl ?_)))))
 obtain ⟨x313, hx314, hm⟩ := bind_some hm
 obtain ⟨h315, h316, hi317⟩ := geto_some hx314
 refine wv (.pointer (some (eAddr r1_2 (z303.toNat * 1 + 0)))) z z (x_index z z underlying30 sizeOf57 (rd_sliceV f1_2) h315 h316) (wv (.float .f64 x313) z z (x_load z isAgg57 (rd_load f1_2 (HL.le.refl _) hst hi317 (by rintro _ rfl; rfl))) (wv (.float .f64 x313) z z z (wl_nil (tn (wp_seq (wrl (wv (.agg #[U6 a0.ID.Session, U6 a0.ID.Seq, U6 a0.Epoch, r0_0, r0_1, r0_2, r0_3]) z z (x_loadN (cs := [U6 a0.ID.Session, U6 a0.ID.Seq, U6 a0.Epoch, r0_0, r0_1, r0_2, r0_3]) z isAgg34 sizeOf34 (hst.bcs0 0 z)) (wv (.float .f64 x313) z z z ?_))))))))
 obtain ⟨t318, ht319, hm⟩ := bind_some hm
 refine wc call53 [.agg #[U6 a0.ID.Session, U6 a0.ID.Seq, U6 a0.Epoch, r0_0, r0_1, r0_2, r0_3], F6 x313] z z z ?_
 refine (locks_reads_ref (f0_0.mono (rd_weak _)) (f0_1.mono (rd_weak _)) (f0_2.mono (rd_weak _)) (f0_3.mono (rd_weak _)) hst.to0 ht319).mono ?_
 rintro _ w320 ⟨rfl, hst⟩
 refine ⟨_, z, ?_⟩
 replace hst := hst.of0
 refine wl_nil (tn ?_)
 refine bsplit t318 (fun hc323 => ?_) (fun hc323 => ?_)
 {
 replace hm := bif_t hc323 hm
 refine wp_ift (cvb hc323) ?_
 refine wp_seq (wrl (wv (.bool true) z z z (wl_nil (tn (wp_ret (blk_r (then_r (then_r ?_))))))))
 replace hm := inr_up hm hx310
 refine blk_r (then_r ?_)
 obtain rfl := some_inj hm
 refine post_ret (vs := [.bool true]) results19 (rvs_cons (rv_tmp z) rvs_nil) ?_
 exact ⟨z, hst.keep0⟩
}
 {
 replace hm := bif_f hc323 hm
 refine wp_iff (cvb hc323) ?_
 refine wp_skip (blk_n (tn (wrl ?_)))
 refine wv (.int .i64 (i64.wrap (z303 + (1:Int)))) z z z (wv (.int .i64 (i64.wrap (z303 + (1:Int)))) z z z (wl_nil (tn ?_)))
 replace hst := hst.keep1
 obtain rfl := some_inj hm
 exact ⟨_, Nat.lt_succ_self _, (i64.wrap (z303 + (1:Int))), _, hx310, (fu 2 (Pt b199 0) z (fu 27 r1_2 z (fu 28 (.int .i64 ((a1.Puts).length : Int)) z (fu 29 (.int .i64 (i64.wrap (z303 + (1:Int)))) z z)))), hst⟩
}
}
 {
 replace hm := bif_f hc312 hm
 refine wp_iff (cvb hc312) ?_
 refine wp_exit (then_x (then_x ?_))
 replace hm := inr_up hm hx310
 refine blk_x (tn (wp_seq (wrl ?_)))
 refine wv (.bool false) z z z (wl_nil (tn (wp_ret ?_)))
 obtain rfl := some_inj hm
 refine post_ret (vs := [.bool false]) results19 (rvs_cons (rv_tmp z) rvs_nil) ?_
 exact ⟨z, hst.keep0⟩
}
}
}

theorem slices_Clone_float64_float64_ref {w0 w : World} {I : HL} {R : SP} {a0 : (List Nat)} {r0_0 : Value} (f0_0 : Rd tyF64 R I r0_0 a0) (hst : St w0 w I [] R) {r : (List Nat)} (hm : slices_Clone_float64_float64 a0 = some r) :
  Calls prog 37 #[r0_0] w fun e w' => ∃ (q0_0 : Value), e = .returned (q0_0) ∧ St w0 w' I [ownS tyF64 q0_0 r] R := by {
 unfold slices_Clone_float64_float64 at hm
 obtain ⟨hg, hm⟩ := gd_some hm
 obtain rfl := some_inj hm
 have hsv := rd_sliceV f0_0
 refine calls_start (args := [r0_0]) func37 z ntmps37 (Nat.le_of_ble_eq_true z) ?_
 refine wp_seq (wrl (wv ((.slice none 0 0)) z z z (wl_nil (tn (wp_seq (wp_seq (wrl (wv (r0_0) z z z (wv (.bool (isNil r0_0)) z z (x_slnil z hsv z underlying30) (wl_nil (tn ?_)))))))))))
 refine bsplit (isNil r0_0) (fun hc224 => ?_) (fun hc224 => ?_)
 {
 refine wp_ift (cvb hc224) ?_
 refine wp_seq (wrl (wv ((.slice none 0 0)) z z z (wl_nil (tn (wp_ret (then_r ?_))))))
 refine post_ret (vs := [Zs]) results37 (rvs_cons (rv_tmp z) rvs_nil) ?_
 obtain rfl := List.eq_nil_of_length_eq_zero (isNil_len hsv hc224)
 exact ⟨_, z, (hst.own_nil tyF64).keep1⟩
}
 {
 refine wp_iff (cvb hc224) ?_
 refine wp_skip (tn (wp_seq (wrl ?_)))
 obtain ⟨b, w1, ew, eb, hst⟩ := hst.lits (E := tyF64) (xs := []) [] 57 0 z Reps.nil
 refine wl_run (v := (.slice (some ⟨b, 0, none⟩) 0 0)) (w' := w1) z z (x_als (by kernel_rfl) ew eb) ?_
 refine wv (r0_0) z z z ?_
 obtain ⟨v2, w2, hr, hst⟩ := run_append elem_30 underlying30 hst (Src.of_rd hst f0_0 flat_f64) (room_of hg z) 30
 refine wl_run (v := v2) (w' := w2) z z (x_append z z hr) ?_
 refine wv (v2) z z z (wl_nil (tn (wp_ret ?_)))
 refine post_ret (vs := [v2]) results37 (rvs_cons (rv_tmp z) rvs_nil) ?_
 rw [List.nil_append] at hst
 exact ⟨_, z, hst.keep1⟩
}
}

theorem slices_Clone_2_float64_2_float64_ref {w0 w : World} {I : HL} {R : SP} {a0 : (List (Nat × Nat))} {r0_0 : Value} (f0_0 : Rd tyF2 R I r0_0 a0) (hst : St w0 w I [] R) {r : (List (Nat × Nat))} (hm : slices_Clone_2_float64_2_float64 a0 = some r) :
  Calls prog 38 #[r0_0] w fun e w' => ∃ (q0_0 : Value), e = .returned (q0_0) ∧ St w0 w' I [ownS tyF2 q0_0 r] R := by {
 unfold slices_Clone_2_float64_2_float64 at hm
 obtain ⟨hg, hm⟩ := gd_some hm
 obtain rfl := some_inj hm
 have hsv := rd_sliceV f0_0
 refine calls_start (args := [r0_0]) func38 z ntmps38 (Nat.le_of_ble_eq_true z) ?_
 refine wp_seq (wrl (wv ((.slice none 0 0)) z z z (wl_nil (tn (wp_seq (wp_seq (wrl (wv (r0_0) z z z (wv (.bool (isNil r0_0)) z z (x_slnil z hsv z underlying31) (wl_nil (tn ?_)))))))))))
 refine bsplit (isNil r0_0) (fun hc224 => ?_) (fun hc224 => ?_)
 {
 refine wp_ift (cvb hc224) ?_
 refine wp_seq (wrl (wv ((.slice none 0 0)) z z z (wl_nil (tn (wp_ret (then_r ?_))))))
 refine post_ret (vs := [Zs]) results38 (rvs_cons (rv_tmp z) rvs_nil) ?_
 obtain rfl := List.eq_nil_of_length_eq_zero (isNil_len hsv hc224)
 exact ⟨_, z, (hst.own_nil tyF2).keep1⟩
}
 {
 refine wp_iff (cvb hc224) ?_
 refine wp_skip (tn (wp_seq (wrl ?_)))
 obtain ⟨b, w1, ew, eb, hst⟩ := hst.lits (E := tyF2) (xs := []) [] 75 0 z Reps.nil
 refine wl_run (v := (.slice (some ⟨b, 0, none⟩) 0 0)) (w' := w1) z z (x_als (by kernel_rfl) ew eb) ?_
 refine wv (r0_0) z z z ?_
 obtain ⟨v2, w2, hr, hst⟩ := run_append elem_31 underlying31 hst (Src.of_rd hst f0_0 flat_f2) (room_of hg z) 31
 refine wl_run (v := v2) (w' := w2) z z (x_append z z hr) ?_
 refine wv (v2) z z z (wl_nil (tn (wp_ret ?_)))
 refine post_ret (vs := [v2]) results38 (rvs_cons (rv_tmp z) rvs_nil) ?_
 rw [List.nil_append] at hst
 exact ⟨_, z, hst.keep1⟩
}
}

theorem slices_Clone_byte_byte_ref {w0 w : World} {I : HL} {R : SP} {a0 : (List Int)} {r0_0 : Value} (f0_0 : Rd (tyInt .u8) R I r0_0 a0) (hst : St w0 w I [] R) {r : (List Int)} (hm : slices_Clone_byte_byte a0 = some r) :
  Calls prog 39 #[r0_0] w fun e w' => ∃ (q0_0 : Value), e = .returned (q0_0) ∧ St w0 w' I [ownS (tyInt .u8) q0_0 r] R := by {
 unfold slices_Clone_byte_byte at hm
 obtain ⟨hg, hm⟩ := gd_some hm
 obtain rfl := some_inj hm
 have hsv := rd_sliceV f0_0
 refine calls_start (args := [r0_0]) func39 z ntmps39 (Nat.le_of_ble_eq_true z) ?_
 refine wp_seq (wrl (wv ((.slice none 0 0)) z z z (wl_nil (tn (wp_seq (wp_seq (wrl (wv (r0_0) z z z (wv (.bool (isNil r0_0)) z z (x_slnil z hsv z underlying32) (wl_nil (tn ?_)))))))))))
 refine bsplit (isNil r0_0) (fun hc224 => ?_) (fun hc224 => ?_)
 {
 refine wp_ift (cvb hc224) ?_
 refine wp_seq (wrl (wv ((.slice none 0 0)) z z z (wl_nil (tn (wp_ret (then_r ?_))))))
 refine post_ret (vs := [Zs]) results39 (rvs_cons (rv_tmp z) rvs_nil) ?_
 obtain rfl := List.eq_nil_of_length_eq_zero (isNil_len hsv hc224)
 exact ⟨_, z, (hst.own_nil (tyInt .u8)).keep1⟩
}
 {
 refine wp_iff (cvb hc224) ?_
 refine wp_skip (tn (wp_seq (wrl ?_)))
 obtain ⟨b, w1, ew, eb, hst⟩ := hst.lits (E := (tyInt .u8)) (xs := []) [] 5 0 z Reps.nil
 refine wl_run (v := (.slice (some ⟨b, 0, none⟩) 0 0)) (w' := w1) z z (x_als (by kernel_rfl) ew eb) ?_
 refine wv (r0_0) z z z ?_
 obtain ⟨v2, w2, hr, hst⟩ := run_append elem_32 underlying32 hst (Src.of_rd hst f0_0 flat_int) (room_of hg z) 32
 refine wl_run (v := v2) (w' := w2) z z (x_append z z hr) ?_
 refine wv (v2) z z z (wl_nil (tn (wp_ret ?_)))
 refine post_ret (vs := [v2]) results39 (rvs_cons (rv_tmp z) rvs_nil) ?_
 rw [List.nil_append] at hst
 exact ⟨_, z, hst.keep1⟩
}
}

theorem cmp_isNaN_uint64_ref {w0 w : World} {I : HL} {R : SP} {a0 : Int}  (hst : St w0 w I [] R) {r : (Bool)} (hm : cmp_isNaN_uint64 a0 = some r) :
  Calls prog 95 #[U6 a0] w fun e w' => e = .returned (.bool r) ∧ St w0 w' I [] R := by {
 unfold cmp_isNaN_uint64 at hm
 refine calls_start (args := [U6 a0]) func95 z ntmps95 (Nat.le_of_ble_eq_true z) ?_
 refine wp_seq (wrl (wv (.bool false) z z z (wl_nil (tn (wp_seq (wrl (wv (.int .u64 a0) z z z (wv (.int .u64 a0) z z z (wv (.bool (a0 != a0)) z z z (wv (.bool (a0 != a0)) z z z (wl_nil (tn (wp_ret ?_)))))))))))))
 obtain rfl := some_inj hm
 refine post_ret (vs := [.bool (a0 != a0)]) results95 (rvs_cons (rv_tmp z) rvs_nil) ?_
 exact ⟨z, hst.keep0⟩
}

theorem cmp_Compare_uint64_ref {w0 w : World} {I : HL} {R : SP} {a0 : Int} {a1 : Int}  (hst : St w0 w I [] R) {r : (Int)} (hm : cmp_Compare_uint64 a0 a1 = some r) :
  Calls prog 86 #[U6 a0, U6 a1] w fun e w' => e = .returned (.int .i64 r) ∧ St w0 w' I [] R := by {
 unfold cmp_Compare_uint64 at hm
 refine calls_start (args := [U6 a0, U6 a1]) func86 z ntmps86 (Nat.le_of_ble_eq_true z) ?_
 refine wp_seq (wrl (wv (.int .i64 (0:Int)) z z z (wl_nil (tn (wp_seq (wrl (wv (.int .u64 a0) z z z ?_)))))))
 obtain ⟨t329, ht330, hm⟩ := bind_some hm
 refine wc call95 [U6 a0] z z z ?_
 refine (cmp_isNaN_uint64_ref hst.to0 ht330).mono ?_
 rintro _ w331 ⟨rfl, hst⟩
 refine ⟨_, z, ?_⟩
 replace hst := hst.of0
 refine wv (.bool t329) z z z (wl_nil (tn (wp_seq (wrl (wv (.int .u64 a1) z z z ?_)))))
 obtain ⟨t334, ht335, hm⟩ := bind_some hm
 refine wc call95 [U6 a1] z z z ?_
 refine (cmp_isNaN_uint64_ref hst.to0 ht335).mono ?_
 rintro _ w336 ⟨rfl, hst⟩
 refine ⟨_, z, ?_⟩
 replace hst := hst.of0
 refine wv (.bool t334) z z z (wl_nil (tn (wp_seq (wp_seq (wrl (wv (.bool t329) z z z (wl_nil (tn ?_))))))))
 refine bsplit t329 (fun hc339 => ?_) (fun hc339 => ?_)
 {
 replace hm := bif_t hc339 hm
 refine wp_ift (cvb hc339) ?_
 refine wp_seq (wp_seq (wrl (wv (.bool t334) z z z (wl_nil (tn ?_)))))
 refine bsplit t334 (fun hc340 => ?_) (fun hc340 => ?_)
 {
 replace hm := bif_t hc340 hm
 refine wp_ift (cvb hc340) ?_
 refine wp_seq (wrl (wv (.int .i64 (0:Int)) z z z (wl_nil (tn (wp_ret (then_r (then_r ?_)))))))
 obtain rfl := some_inj hm
 refine post_ret (vs := [Zi]) results86 (rvs_cons (rv_tmp z) rvs_nil) ?_
 exact ⟨z, hst.keep0⟩
}
 {
 replace hm := bif_f hc340 hm
 refine wp_iff (cvb hc340) ?_
 refine wp_skip (tn (wp_seq (wrl ?_)))
 refine wv (.int .i64 ((-1):Int)) z z z (wl_nil (tn (wp_ret (then_r ?_))))
 obtain rfl := some_inj hm
 refine post_ret (vs := [I6 ((-1):Int)]) results86 (rvs_cons (rv_tmp z) rvs_nil) ?_
 exact ⟨z, hst.keep0⟩
}
}
 {
 replace hm := bif_f hc339 hm
 refine wp_iff (cvb hc339) ?_
 refine wp_skip (tn (wp_seq (wp_seq (wrl ?_))))
 refine wv (.bool t334) z z z (wl_nil (tn ?_))
 refine bsplit t334 (fun hc341 => ?_) (fun hc341 => ?_)
 {
 replace hm := bif_t hc341 hm
 refine wp_ift (cvb hc341) ?_
 refine wp_seq (wrl (wv (.int .i64 (1:Int)) z z z (wl_nil (tn (wp_ret (then_r ?_))))))
 obtain rfl := some_inj hm
 refine post_ret (vs := [I6 (1:Int)]) results86 (rvs_cons (rv_tmp z) rvs_nil) ?_
 exact ⟨z, hst.keep0⟩
}
 {
 replace hm := bif_f hc341 hm
 refine wp_iff (cvb hc341) ?_
 refine wp_skip (tn (wp_seq (wp_seq (wrl ?_))))
 refine wv (.int .u64 a0) z z z (wv (.int .u64 a1) z z z (wv (.bool (decide (a0 < a1))) z z z (wl_nil (tn ?_))))
 refine bsplit (decide (a0 < a1)) (fun hc342 => ?_) (fun hc342 => ?_)
 {
 replace hm := bif_t hc342 hm
 refine wp_ift (cvb hc342) ?_
 refine wp_seq (wrl (wv (.int .i64 ((-1):Int)) z z z (wl_nil (tn (wp_ret (then_r ?_))))))
 obtain rfl := some_inj hm
 refine post_ret (vs := [I6 ((-1):Int)]) results86 (rvs_cons (rv_tmp z) rvs_nil) ?_
 exact ⟨z, hst.keep0⟩
}
 {
 replace hm := bif_f hc342 hm
 refine wp_iff (cvb hc342) ?_
 refine wp_skip (tn (wp_seq (wp_seq (wrl ?_))))
 refine wv (.int .u64 a0) z z z (wv (.int .u64 a1) z z z (wv (.bool (decide (a0 > a1))) z z z (wl_nil (tn ?_))))
 refine bsplit (decide (a0 > a1)) (fun hc343 => ?_) (fun hc343 => ?_)
 {
 replace hm := bif_t hc343 hm
 refine wp_ift (cvb hc343) ?_
 refine wp_seq (wrl (wv (.int .i64 (1:Int)) z z z (wl_nil (tn (wp_ret (then_r ?_))))))
 obtain rfl := some_inj hm
 refine post_ret (vs := [I6 (1:Int)]) results86 (rvs_cons (rv_tmp z) rvs_nil) ?_
 exact ⟨z, hst.keep0⟩
}
 {
 replace hm := bif_f hc343 hm
 refine wp_iff (cvb hc343) ?_
 refine wp_skip (tn (wp_seq (wrl ?_)))
 refine wv (.int .i64 (0:Int)) z z z (wl_nil (tn (wp_ret ?_)))
 obtain rfl := some_inj hm
 refine post_ret (vs := [Zi]) results86 (rvs_cons (rv_tmp z) rvs_nil) ?_
 exact ⟨z, hst.keep0⟩
}
}
}
}
}

theorem cmp_Or_int_ref {w0 w : World} {I : HL} {R : SP} {a0 : (List Int)} {r0_0 : Value} (f0_0 : Rd (tyInt .i64) R I r0_0 a0) (hst : St w0 w I [] R) {r : (Int)} (hm : cmp_Or_int a0 = some r) :
  Calls prog 85 #[r0_0] w fun e w' => e = .returned (.int .i64 r) ∧ St w0 w' I [] R := by {
 unfold cmp_Or_int at hm
 refine calls_start (args := [r0_0]) func85 z ntmps85 (Nat.le_of_ble_eq_true z) ?_
 refine wp_seq (wrl (wv (.int .i64 (0:Int)) z z z (wl_nil (tn (wp_seq (wrl (wv (.int .i64 (0:Int)) z z z (wl_nil (tn (wp_seq (wp_seq (wrl (wv (r0_0) z z z (wv (.int .i64 ((a0).length : Int)) z z (x_len z underlying123 (rd_sliceV f0_0)) (wv (.int .i64 (0:Int)) z z z (wl_nil (tn (wp_block ?_))))))))))))))))))
 obtain ⟨n364, hm⟩ := loopO_some hm
 refine wp_loop_n (fun n a w => ∃ (z362 : Int) (σ363 : Nat → Value), loopN (cmp_Or_int_l0 a0) n z362 = some r ∧ a = Fr 18 (upd (upd (upd (upd σ363 3 (.int .i64 (0:Int))) 6 (r0_0)) 7 (.int .i64 ((a0).length : Int))) 8 (.int .i64 z362)) ∧ St w0 w I [] R) n364 ⟨(0:Int), _, hm, (fu 3 (.int .i64 (0:Int)) z (fu 6 r0_0 z (fu 7 (.int .i64 ((a0).length : Int)) z (fu 8 (.int .i64 (0:Int)) z z)))), hst⟩ ?_
 rintro n370 _ w365 ⟨z362, σ363, hm, rfl, hst⟩
 obtain ⟨n367, y368, rfl, hm, hx369⟩ := loopN_some hm
 dsimp only [cmp_Or_int_l0] at hm
 refine wp_seq (wrl (wv (.bool (decide (z362 < ((a0).length : Int)))) z z z (wl_nil (tn (wp_seq ?_)))))
 refine bsplit (decide (z362 < ((a0).length : Int))) (fun hc371 => ?_) (fun hc371 => ?_)
 {
 replace hm := bif_t hc371 hm
 refine wp_ift (cvb hc371) ?_
 refine wp_skip (tn (wp_seq (wp_block (wp_seq (wrl ?_)))))
 obtain ⟨x372, hx373, hm⟩ := bind_some hm
 obtain ⟨h374, h375, hi376⟩ := geto_some hx373
 refine wv (.pointer (some (eAddr r0_0 (z362.toNat * 1 + 0)))) z z (x_index z z underlying123 sizeOf3 (rd_sliceV f0_0) h374 h375) (wv (.int .i64 x372) z z (x_load z isAgg3 (rd_load f0_0 (HL.le.refl _) hst hi376 (by rintro _ rfl; rfl))) (wv (.int .i64 x372) z z z (wl_nil (tn (wp_seq (wrl (wv (.int .i64 x372) z z z (wv (.int .i64 (0:Int)) z z z (wv (.bool (x372 != (0:Int))) z z z (wl_nil (tn ?_)))))))))))
 refine bsplit (x372 != (0:Int)) (fun hc377 => ?_) (fun hc377 => ?_)
 {
 replace hm := bif_t hc377 hm
 refine wp_ift (cvb hc377) ?_
 refine wp_seq (wrl (wv (.int .i64 x372) z z z (wv (.int .i64 x372) z z z (wl_nil (tn (wp_ret (blk_r (then_r (then_r ?_)))))))))
 replace hm := inr_up hm hx369
 refine blk_r (then_r ?_)
 obtain rfl := some_inj hm
 refine post_ret (vs := [I6 x372]) results85 (rvs_cons (rv_tmp z) rvs_nil) ?_
 exact ⟨z, hst.keep0⟩
}
 {
 replace hm := bif_f hc377 hm
 refine wp_iff (cvb hc377) ?_
 refine wp_skip (blk_n (tn (wrl ?_)))
 refine wv (.int .i64 (i64.wrap (z362 + (1:Int)))) z z z (wv (.int .i64 (i64.wrap (z362 + (1:Int)))) z z z (wl_nil (tn ?_)))
 replace hst := hst.keep0
 obtain rfl := some_inj hm
 exact ⟨_, Nat.lt_succ_self _, (i64.wrap (z362 + (1:Int))), _, hx369, (fu 3 (.int .i64 (0:Int)) z (fu 6 r0_0 z (fu 7 (.int .i64 ((a0).length : Int)) z (fu 8 (.int .i64 (i64.wrap (z362 + (1:Int)))) z z)))), hst⟩
}
}
 {
 replace hm := bif_f hc371 hm
 refine wp_iff (cvb hc371) ?_
 refine wp_exit (then_x (then_x ?_))
 replace hm := inr_up hm hx369
 refine blk_x (tn (wp_seq (wrl ?_)))
 refine wv (.int .i64 (0:Int)) z z z (wv (.int .i64 (0:Int)) z z z (wl_nil (tn (wp_ret ?_))))
 obtain rfl := some_inj hm
 refine post_ret (vs := [Zi]) results85 (rvs_cons (rv_tmp z) rvs_nil) ?_
 exact ⟨z, hst.keep0⟩
}
}

theorem locks_compare_ref {w0 w : World} {I : HL} {R : SP} {a0 : api_Hold} {r0_0 : Value} {r0_1 : Value} {r0_2 : Value} {r0_3 : Value} {a1 : api_ID} (f0_0 : Rd tyF64 R I r0_0 a0.Gets) (f0_1 : Rd tyF2 R I r0_1 a0.Scans) (f0_2 : Rd tyF64 R I r0_2 a0.Puts) (f0_3 : Rd (tyInt .u8) R I r0_3 a0.Data) (hst : St w0 w I [] R) {r : (Int)} (hm : locks_compare a0 a1 = some r) :
  Calls prog 59 #[.agg #[U6 a0.ID.Session, U6 a0.ID.Seq, U6 a0.Epoch, r0_0, r0_1, r0_2, r0_3], .agg #[U6 a1.Session, U6 a1.Seq]] w fun e w' => e = .returned (.int .i64 r) ∧ St w0 w' I [] R := by {
 unfold locks_compare at hm
 refine calls_start (args := [.agg #[U6 a0.ID.Session, U6 a0.ID.Seq, U6 a0.Epoch, r0_0, r0_1, r0_2, r0_3], .agg #[U6 a1.Session, U6 a1.Seq]]) func59 z ntmps59 (Nat.le_of_ble_eq_true z) ?_
 refine wp_seq (wrl ?_)
 obtain ⟨b340, w341, ew342, eb343, hst⟩ := hst.box [U6 a0.ID.Session, U6 a0.ID.Seq, U6 a0.Epoch, r0_0, r0_1, r0_2, r0_3] 34
 refine wl_run (v := Pt b340 0) (w' := w341) z z (x_al (by kernel_rfl) ew342 eb343) ?_
 obtain ⟨b345, w346, ew347, eb348, hst⟩ := hst.box [U6 a1.Session, U6 a1.Seq] 29
 refine wl_run (v := Pt b345 0) (w' := w346) z z (x_al (by kernel_rfl) ew347 eb348) ?_
 refine wv (.int .i64 (0:Int)) z z z (wl_nil (tn (wp_seq ?_)))
 refine wp_region_St hst 15 [0, 1, 2, 3, 4, 5, 6, 7, 8, 9, 10, 11, 12, 13, 14] [0, 1, 3, 0, 8, 31, 0, 64, 192, 0, 512, 2047, 4095, 8191, 16383] [] z (by kernel_rfl) (by kernel_rfl) Try.mixed (by kernel_rfl) ?_
 refine wsr (Pt b340 0) 0 z z z (by kernel_rfl) (fun w hst => x_field z underlying34 z sizeOf29 z) (wsr (Pt b340 0) 1 z z z (by kernel_rfl) (fun w hst => x_field z underlying29 z sizeOf27 z) (wsr (.int .u64 a0.ID.Session) 2 z z z (by kernel_rfl) (fun w hst => x_load z isAgg27 (hst.bc1 z)) (wsr (Pt b345 0) 3 z z z (by kernel_rfl) (fun w hst => x_field z underlying29 z sizeOf27 z) (wsr (.int .u64 a1.Session) 4 z z z (by kernel_rfl) (fun w hst => x_load z isAgg27 (hst.bc0 z)) (wsr (Pt b340 0) 6 z z z (by kernel_rfl) (fun w hst => x_field z underlying34 z sizeOf29 z) (wsr (Pt b340 1) 7 z z z (by kernel_rfl) (fun w hst => x_field z underlying29 z sizeOf27 z) (wsr (.int .u64 a0.ID.Seq) 8 z z z (by kernel_rfl) (fun w hst => x_load z isAgg27 (hst.bc1 z)) (wsr (Pt b345 1) 9 z z z (by kernel_rfl) (fun w hst => x_field z underlying29 z sizeOf27 z) (wsr (.int .u64 a1.Seq) 10 z z z (by kernel_rfl) (fun w hst => x_load z isAgg27 (hst.bc0 z)) ?_)))))))))
 refine ws_e1 5 (by kernel_rfl) ?_
 refine nxe [11, 12, 13, 14] (by kernel_rfl) z z ?_
 clear hst
 intro w hst
 obtain ⟨t350, ht351, hm⟩ := bind_some hm
 refine wec call86 [U6 a0.ID.Session, U6 a1.Session] z z ?_
 refine (cmp_Compare_uint64_ref hst.to0 ht351).mono ?_
 rintro _ w352 ⟨rfl, hst⟩
 refine ⟨_, z, ?_⟩
 replace hst := hst.of0
 refine ws_next (pend' := [(10, U6 a1.Seq), (9, Pt b345 1), (8, U6 a0.ID.Seq), (7, Pt b340 1), (6, Pt b340 0)]) hst (by kernel_rfl) (pkr z z (fun w hst => x_load z isAgg27 (hst.bc0 z)) (pkr z z (fun w hst => x_field z underlying29 z sizeOf27 z) (pkr z z (fun w hst => x_load z isAgg27 (hst.bc1 z)) (pkr z z (fun w hst => x_field z underlying29 z sizeOf27 z) (pkr z z (fun w hst => x_field z underlying34 z sizeOf29 z) pk_nil))))) ?_
 refine ws_e1 11 (by kernel_rfl) ?_
 refine nxe [12, 13, 14] (by kernel_rfl) z z ?_
 clear hst
 intro w hst
 obtain ⟨t355, ht356, hm⟩ := bind_some hm
 refine wec call86 [U6 a0.ID.Seq, U6 a1.Seq] z z ?_
 refine (cmp_Compare_uint64_ref hst.to0 ht356).mono ?_
 rintro _ w357 ⟨rfl, hst⟩
 refine ⟨_, z, ?_⟩
 replace hst := hst.of0
 refine ws_next (pend' := []) hst (by kernel_rfl) pk_nil ?_
 refine ws_e1 12 (by kernel_rfl) ?_
 refine nxe [13, 14] (by kernel_rfl) z z ?_
 clear hst
 intro w hst
 obtain ⟨b360, w361, ew362, eb363, hst⟩ := hst.lits (E := (tyInt .i64)) (xs := [t350, t355]) [[I6 t350], [I6 t355]] 3 2 z (Reps.cons z (Reps.cons z Reps.nil))
 refine we_run (v := (.slice (some ⟨b360, 0, none⟩) 2 2)) (w' := w361) z (x_als (by kernel_rfl) ew362 eb363) ?_
 refine ws_next (pend' := []) hst (by kernel_rfl) pk_nil ?_
 refine ws_e1 13 (by kernel_rfl) ?_
 refine nxe [14] (by kernel_rfl) z z ?_
 clear hst
 intro w hst
 obtain ⟨css365, hq366, hst⟩ := hst.own_open
 obtain ⟨t367, ht368, hm⟩ := bind_some hm
 refine wec call85 [(.slice (some ⟨b360, 0, none⟩) 2 2)] z z ?_
 refine (cmp_Or_int_ref (hst.rdrow0 hq366) hst.to0 ht368).mono ?_
 rintro _ w369 ⟨rfl, hst⟩
 refine ⟨_, z, ?_⟩
 replace hst := hst.of0.own_close hq366
 refine ws_next (pend' := []) hst (by kernel_rfl) pk_nil ?_
 refine wsr (.int .i64 t367) 14 z z z (by kernel_rfl) (fun w hst => z) ?_
 refine ws_nil ?_
 intro w hst
 refine tn (wp_ret ?_)
 obtain rfl := some_inj hm
 refine post_ret (vs := [I6 t367]) results59 (rvs_cons (rv_tmp z) rvs_nil) ?_
 exact ⟨z, hst.keep0⟩
}

theorem locks_Table_find_ref {w0 w : World} {I : HL} {R : SP} {a0 : (Option locks_Table)} {p0 : Value} {a1 : api_ID}  (hst : St w0 w I [objO at_locks_Table p0 a0] R) {r : (Int × Bool)} (hm : locks_Table_find a0 a1 = some r) :
  Calls prog 40 #[p0, .agg #[U6 a1.Session, U6 a1.Seq]] w fun e w' => e = .returned (.tuple #[I6 r.1, .bool r.2]) ∧ St w0 w' I [objO at_locks_Table p0 a0] R := by {
 rcases a0 with _ | o0
 {
 obtain ⟨rfl, hst'⟩ := objO_none hst
 clear hst
 have hst := hst'
 clear hst'
 dsimp only [locks_Table_find] at hm
 refine calls_start (args := [.pointer none, .agg #[U6 a1.Session, U6 a1.Seq]]) func40 z ntmps40 (Nat.le_of_ble_eq_true z) ?_
 refine wp_seq (wrl ?_)
 obtain ⟨b417, w418, ew419, eb420, hst⟩ := hst.box [U6 a1.Session, U6 a1.Seq] 29
 refine wl_run (v := Pt b417 0) (w' := w418) z z (x_al (by kernel_rfl) ew419 eb420) ?_
 refine wv (.int .i64 (0:Int)) z z z (wv (.bool false) z z z (wl_nil (tn (wp_seq (wp_seq (wrl (wv (.pointer none) z z z (wv (.bool true) z z (by kernel_rfl) (wl_nil (tn ?_))))))))))
 refine wp_ift z ?_
 refine wp_seq (wrl (wv (.int .i64 (0:Int)) z z z (wv (.bool false) z z z (wl_nil (tn (wp_ret (then_r ?_)))))))
 replace hst := hst.objO_nil at_locks_Table
 obtain rfl := some_inj hm
 refine post_ret (vs := [Zi, .bool false]) results40 (rvs_cons (rv_tmp z) (rvs_cons (rv_tmp z) rvs_nil)) ?_
 exact ⟨z, hst.keep1⟩
}
 {
 replace hst := objO_get hst
 dsimp only [locks_Table_find] at hm
 refine calls_start (args := [p0, .agg #[U6 a1.Session, U6 a1.Seq]]) func40 z ntmps40 (Nat.le_of_ble_eq_true z) ?_
 refine wp_seq (wrl ?_)
 obtain ⟨b422, w423, ew424, eb425, hst⟩ := hst.box [U6 a1.Session, U6 a1.Seq] 29
 refine wl_run (v := Pt b422 0) (w' := w423) z z (x_al (by kernel_rfl) ew424 eb425) ?_
 refine wv (.int .i64 (0:Int)) z z z (wv (.bool false) z z z (wl_nil (tn (wp_seq (wp_seq (wrl (wv (p0) z z z ?_)))))))
 replace hst := hst.pull1
 obtain ⟨b427, v428, rfl, hst'⟩ := at_locks_Table_open hst
 clear hst
 have hst := hst'
 clear hst'
 refine wv (.bool false) z z (by kernel_rfl) (wl_nil (tn ?_))
 refine wp_iff z ?_
 refine wp_skip (tn (wp_seq ?_))
 refine wp_region_St hst 10 [0, 1, 2, 3, 4, 5, 6, 7, 8, 9] [0, 1, 3, 7, 0, 31, 63, 63, 255, 511] [] z (by kernel_rfl) (by kernel_rfl) Try.mixed (by kernel_rfl) ?_
 refine wsr (Pt b427 0) 0 z z z (by kernel_rfl) (fun w hst => z) (wsr (Pt b427 0) 1 z z z (by kernel_rfl) (fun w hst => z) (wsr (Pt b427 0) 2 z z z (by kernel_rfl) (fun w hst => x_field z underlying77 z sizeOf22 z) (wsr (v428) 3 z z z (by kernel_rfl) (fun w hst => x_load z isAgg22 (hst.bc0 z)) (wsr (.agg #[U6 a1.Session, U6 a1.Seq]) 4 z z z (by kernel_rfl) (fun w hst => x_loadN (cs := [U6 a1.Session, U6 a1.Seq]) z isAgg29 sizeOf29 (hst.bcs2 0 z)) ?_))))
 refine ws_e1 5 (by kernel_rfl) ?_
 refine nxe [6, 7, 8, 9] (by kernel_rfl) z z ?_
 clear hst
 intro w hst
 obtain ⟨y571, hq572, hm⟩ := bind_some hm
 refine we_call z (x_callv call71 (caps := []) z (vs := [v428, .agg #[U6 a1.Session, U6 a1.Seq], .func (.func 59) #[] #[]]) z) ?_
 refine Calls.mono (show Calls prog 71 #[v428, .agg #[U6 a1.Session, U6 a1.Seq], .func (.func 59) #[] #[]] _ (fun e w' => ∃ (z568 : Int) (z569 : Bool), (z568, z569) = y571 ∧ e = .returned (.tuple #[I6 z568, .bool z569]) ∧ St w0 w' I [cells b427 [v428], ownS ty_api_Hold v428 o0.l, cells b422 [U6 a1.Session, U6 a1.Seq]] R) from ?_) ?_
 {
 clear hm; have hm := hq572
 refine calls_start (args := [v428, .agg #[U6 a1.Session, U6 a1.Seq], .func (.func 59) #[] #[]]) func71 z ntmps71 (Nat.le_of_ble_eq_true z) ?_
 refine wp_seq (wrl ?_)
 obtain ⟨b430, w431, ew432, eb433, hst⟩ := hst.box [U6 a1.Session, U6 a1.Seq] 29
 refine wl_run (v := Pt b430 0) (w' := w431) z z (x_al (by kernel_rfl) ew432 eb433) ?_
 refine wv (.int .i64 (0:Int)) z z z (wv (.bool false) z z z (wl_nil (tn (wp_seq (wrl (wv (v428) z z z (wv (.int .i64 ((o0.l).length : Int)) z z (x_len z underlying22 hst.sv2) (wv (.int .i64 ((o0.l).length : Int)) z z z (wl_nil (tn (wp_seq (wrl (wv (.int .i64 ((o0.l).length : Int)) z z z (wv (.int .i64 (0:Int)) z z z (wv (.int .i64 ((o0.l).length : Int)) z z z (wl_nil (tn ?_)))))))))))))))))
 obtain ⟨y537, hm, hx538⟩ := bind_some hm
 refine wp_cut (fun a w => ∃ (z534 : Int) (σ535 : Nat → Value), (locks_Table_find_j0 o0 a1) z534 = some y571 ∧ a = Fr 49 (upd (upd (upd (upd (upd σ535 0 (v428)) 2 (.func (.func 59) #[] #[])) 4 (Pt b430 0)) 8 (.int .i64 ((o0.l).length : Int))) 9 (.int .i64 z534)) ∧ St w0 w I [ownS ty_api_Hold v428 o0.l, cells b430 [U6 a1.Session, U6 a1.Seq], cells b427 [v428], cells b422 [U6 a1.Session, U6 a1.Seq]] R) ?_ ?_
 {
 refine wp_block ?_
 obtain ⟨n498, hm⟩ := loopO_some hm
 refine wp_loop_n (fun n a w => ∃ (z495 : Int) (z496 : Int) (σ497 : Nat → Value), loopN (locks_Table_find_l1 o0 a1) n (z495, z496) = some y537 ∧ a = Fr 49 (upd (upd (upd (upd (upd (upd σ497 0 (v428)) 2 (.func (.func 59) #[] #[])) 4 (Pt b430 0)) 8 (.int .i64 ((o0.l).length : Int))) 9 (.int .i64 z496)) 10 (.int .i64 z495)) ∧ St w0 w I [cells b430 [U6 a1.Session, U6 a1.Seq], cells b427 [v428], ownS ty_api_Hold v428 o0.l, cells b422 [U6 a1.Session, U6 a1.Seq]] R) n498 ⟨((o0.l).length : Int), (0:Int), _, hm, (fu 0 v428 z (fu 2 (.func (.func 59) #[] #[]) z (fu 4 (Pt b430 0) z (fu 8 (.int .i64 ((o0.l).length : Int)) z (fu 9 (.int .i64 (0:Int)) z (fu 10 (.int .i64 ((o0.l).length : Int)) z z)))))), hst⟩ ?_
 rintro n504 _ w499 ⟨z495, z496, σ497, hm, rfl, hst⟩
 obtain ⟨n501, y502, rfl, hm, hx503⟩ := loopN_some hm
 dsimp only [locks_Table_find_l1] at hm
 refine wp_seq (wp_seq (wrl (wv (.int .i64 z496) z z z (wv (.int .i64 z495) z z z (wv (.bool (decide (z496 < z495))) z z z (wl_nil (tn ?_)))))))
 refine bsplit (decide (z496 < z495)) (fun hc505 => ?_) (fun hc505 => ?_)
 {
 replace hm := bif_t hc505 hm
 refine wp_ift (cvb hc505) ?_
 refine wp_skip (tn (wp_block (wp_seq (wrl ?_))))
 refine wv (.int .i64 z496) z z z (wv (.int .i64 z495) z z z (wv (.int .i64 (i64.wrap (z496 + z495))) z z z (wv (.int .u64 (u64.wrap (i64.wrap (z496 + z495)))) z z (by kernel_rfl) (wv (.int .u64 (iShr .u64 (u64.wrap (i64.wrap (z496 + z495))) (1:Int))) z z (x_shr (by decide) z z) (wv (.int .i64 (i64.wrap (iShr .u64 (u64.wrap (i64.wrap (z496 + z495))) (1:Int)))) z z (by kernel_rfl) (wv (.int .i64 (i64.wrap (iShr .u64 (u64.wrap (i64.wrap (z496 + z495))) (1:Int)))) z z z (wl_nil (tn (wp_seq ?_)))))))))
 replace hst := hst.pull2
 obtain ⟨css506, hq507, hst⟩ := hst.own_open
 refine wp_region_St hst 8 [0, 1, 2, 3, 4, 5, 6, 7] [0, 0, 0, 6, 14, 0, 63, 127] [] z (by kernel_rfl) (by kernel_rfl) Try.mixed (by kernel_rfl) ?_
 refine wsr (.func (.func 59) #[] #[]) 0 z z z (by kernel_rfl) (fun w hst => z) (wsr (v428) 1 z z z (by kernel_rfl) (fun w hst => z) (wsr (.int .i64 (i64.wrap (iShr .u64 (u64.wrap (i64.wrap (z496 + z495))) (1:Int)))) 2 z z z (by kernel_rfl) (fun w hst => z) ?_))
 obtain ⟨x508, hx509, hm⟩ := bind_some hm
 obtain ⟨h510, h511, hi512⟩ := geto_some hx509
 refine wsr (.pointer (some (eAddr v428 ((i64.wrap (iShr .u64 (u64.wrap (i64.wrap (z496 + z495))) (1:Int))).toNat * 7 + 0)))) 3 z z z (by kernel_rfl) (fun w hst => x_index z z underlying22 sizeOf34 (hst.rsv 0 z hq507) h510 h511) ?_
 obtain ⟨cs513, hc515, hr514⟩ := Reps.get hq507 hi512
 obtain ⟨v516, v519, v522, v525, rfl, f517, f520, f523, f526, -⟩ := hr514
 refine wsr (.agg #[U6 x508.ID.Session, U6 x508.ID.Seq, U6 x508.Epoch, v516, v519, v522, v525]) 4 z z z (by kernel_rfl) (fun w hst => x_loadN (cs := [U6 x508.ID.Session, U6 x508.ID.Seq, U6 x508.Epoch, v516, v519, v522, v525]) z isAgg34 sizeOf34 (eCells (o := 0) (hst.rcell 0 z hc515) z)) (wsr (.agg #[U6 a1.Session, U6 a1.Seq]) 5 z z z (by kernel_rfl) (fun w hst => x_loadN (cs := [U6 a1.Session, U6 a1.Seq]) z isAgg29 sizeOf29 (hst.bcs1 0 z)) ?_)
 refine ws_e1 6 (by kernel_rfl) ?_
 refine nxe [7] (by kernel_rfl) z z ?_
 clear hst
 intro w hst
 obtain ⟨t528, ht529, hm⟩ := bind_some hm
 refine we_call z (x_callv call59 (caps := []) z (vs := [.agg #[U6 x508.ID.Session, U6 x508.ID.Seq, U6 x508.Epoch, v516, v519, v522, v525], .agg #[U6 a1.Session, U6 a1.Seq]]) z) ?_
 refine (locks_compare_ref (f517.mono ro_rd) (f520.mono ro_rd) (f523.mono ro_rd) (f526.mono ro_rd) hst.to0 ht529).mono ?_
 rintro _ w530 ⟨rfl, hst⟩
 refine ⟨_, z, ?_⟩
 replace hst := hst.of0
 refine ws_next (pend' := []) hst (by kernel_rfl) pk_nil ?_
 refine wsr (.bool (decide (t528 < (0:Int)))) 7 z z z (by kernel_rfl) (fun w hst => z) ?_
 refine ws_nil ?_
 intro w hst
 replace hst := hst.own_close hq507
 refine tn ?_
 refine bsplit (decide (t528 < (0:Int))) (fun hc533 => ?_) (fun hc533 => ?_)
 {
 replace hm := bif_t hc533 hm
 refine wp_ift (cvb hc533) ?_
 refine wrl (wv (.int .i64 (i64.wrap (iShr .u64 (u64.wrap (i64.wrap (z496 + z495))) (1:Int)))) z z z (wv (.int .i64 (i64.wrap ((i64.wrap (iShr .u64 (u64.wrap (i64.wrap (z496 + z495))) (1:Int))) + (1:Int)))) z z z (wv (.int .i64 (i64.wrap ((i64.wrap (iShr .u64 (u64.wrap (i64.wrap (z496 + z495))) (1:Int))) + (1:Int)))) z z z (wl_nil (blk_n (tn ?_))))))
 replace hst := hst.pull3.pull1.pull3.pull3.keep4
 obtain rfl := some_inj hm
 exact ⟨_, Nat.lt_succ_self _, z495, (i64.wrap ((i64.wrap (iShr .u64 (u64.wrap (i64.wrap (z496 + z495))) (1:Int))) + (1:Int))), _, hx503, (fu 0 v428 z (fu 2 (.func (.func 59) #[] #[]) z (fu 4 (Pt b430 0) z (fu 8 (.int .i64 ((o0.l).length : Int)) z (fu 9 (.int .i64 (i64.wrap ((i64.wrap (iShr .u64 (u64.wrap (i64.wrap (z496 + z495))) (1:Int))) + (1:Int)))) z (fu 10 (.int .i64 z495) z z)))))), hst⟩
}
 {
 replace hm := bif_f hc533 hm
 refine wp_iff (cvb hc533) ?_
 refine wrl (wv (.int .i64 (i64.wrap (iShr .u64 (u64.wrap (i64.wrap (z496 + z495))) (1:Int)))) z z z (wv (.int .i64 (i64.wrap (iShr .u64 (u64.wrap (i64.wrap (z496 + z495))) (1:Int)))) z z z (wl_nil (blk_n (tn ?_)))))
 replace hst := hst.pull3.pull1.pull3.pull3.keep4
 obtain rfl := some_inj hm
 exact ⟨_, Nat.lt_succ_self _, (i64.wrap (iShr .u64 (u64.wrap (i64.wrap (z496 + z495))) (1:Int))), z496, _, hx503, (fu 0 v428 z (fu 2 (.func (.func 59) #[] #[]) z (fu 4 (Pt b430 0) z (fu 8 (.int .i64 ((o0.l).length : Int)) z (fu 9 (.int .i64 z496) z (fu 10 (.int .i64 (i64.wrap (iShr .u64 (u64.wrap (i64.wrap (z496 + z495))) (1:Int)))) z z)))))), hst⟩
}
}
 {
 replace hm := bif_f hc505 hm
 refine wp_iff (cvb hc505) ?_
 refine wp_exit (then_x (then_x ?_))
 replace hm := inr_up hm hx503
 refine blk_x (tn ?_)
 replace hst := hst.pull3.pull2.pull2.pull3.keep4
 obtain rfl := some_inj hm
 exact ⟨z496, _, hx538, (fu 0 v428 z (fu 2 (.func (.func 59) #[] #[]) z (fu 4 (Pt b430 0) z (fu 8 (.int .i64 ((o0.l).length : Int)) z (fu 9 (.int .i64 z496) z z))))), hst⟩
}
}
 {
 clear hst
 rintro _ w539 ⟨z534, σ535, hm, rfl, hst⟩
 dsimp only [locks_Table_find_j0] at hm
 refine wp_seq ?_
 obtain ⟨css540, hq541, hst⟩ := hst.own_open
 refine wp_region_St hst 16 [0, 1, 2, 3, 4, 5, 6, 7, 8, 9, 10, 11, 12, 13, 14, 15] [0, 0, 0, 6, 14, 30, 30, 30, 222, 478, 30, 2046, 4094, 8190, 4095, 32767] [] z (by kernel_rfl) (by kernel_rfl) Try.mixed (by kernel_rfl) ?_
 refine wsr (.int .i64 z534) 0 z z z (by kernel_rfl) (fun w hst => z) (wsr (.int .i64 z534) 1 z z z (by kernel_rfl) (fun w hst => z) (wsr (.int .i64 ((o0.l).length : Int)) 2 z z z (by kernel_rfl) (fun w hst => z) (wsr (.bool (decide (z534 < ((o0.l).length : Int)))) 3 z z z (by kernel_rfl) (fun w hst => z) (wsr (.bool (decide (z534 < ((o0.l).length : Int)))) 4 z z z (by kernel_rfl) (fun w hst => z) ?_))))
 refine bsplit (decide (z534 < ((o0.l).length : Int))) (fun hc542 => ?_) (fun hc542 => ?_)
 {
 replace hm := bif_t hc542 hm
 refine ws_q (v := .func (.func 59) #[] #[]) 5 [6, 7, 8, 9, 10, 11, 12, 13, 14, 15] (by kernel_rfl) z z (yi_run ((wanted_eq z z z (cvb hc542)).trans z) (fun w hst => z)) (ws_q (v := v428) 6 [7, 8, 9, 10, 11, 12, 13, 14, 15] (by kernel_rfl) z z (yi_run ((wanted_eq z z z (cvb hc542)).trans z) (fun w hst => z)) (ws_q (v := .int .i64 z534) 7 [8, 9, 10, 11, 12, 13, 14, 15] (by kernel_rfl) z z (yi_run ((wanted_eq z z z (cvb hc542)).trans z) (fun w hst => z)) ?_))
 obtain ⟨x543, hx544, hm⟩ := bind_some hm
 obtain ⟨h545, h546, hi547⟩ := geto_some hx544
 refine ws_q (v := .pointer (some (eAddr v428 (z534.toNat * 7 + 0)))) 8 [9, 10, 11, 12, 13, 14, 15] (by kernel_rfl) z z (yi_run ((wanted_eq z z z (cvb hc542)).trans z) (fun w hst => x_index z z underlying22 sizeOf34 (hst.rsv 0 z hq541) h545 h546)) ?_
 obtain ⟨cs548, hc550, hr549⟩ := Reps.get hq541 hi547
 obtain ⟨v551, v554, v557, v560, rfl, f552, f555, f558, f561, -⟩ := hr549
 refine ws_q (v := .agg #[U6 x543.ID.Session, U6 x543.ID.Seq, U6 x543.Epoch, v551, v554, v557, v560]) 9 [10, 11, 12, 13, 14, 15] (by kernel_rfl) z z (yi_run ((wanted_eq z z z (cvb hc542)).trans z) (fun w hst => x_loadN (cs := [U6 x543.ID.Session, U6 x543.ID.Seq, U6 x543.Epoch, v551, v554, v557, v560]) z isAgg34 sizeOf34 (eCells (o := 0) (hst.rcell 0 z hc550) z))) (ws_q (v := .agg #[U6 a1.Session, U6 a1.Seq]) 10 [11, 12, 13, 14, 15] (by kernel_rfl) z z (yi_run ((wanted_eq z z z (cvb hc542)).trans z) (fun w hst => x_loadN (cs := [U6 a1.Session, U6 a1.Seq]) z isAgg29 sizeOf29 (hst.bcs1 0 z))) ?_)
 refine ws_e1 11 (by kernel_rfl) ?_
 refine nxe [12, 13, 14, 15] (by kernel_rfl) z ((wanted_eq z z z (cvb hc542)).trans z) ?_
 clear hst
 intro w hst
 obtain ⟨t563, ht564, hm⟩ := bind_some hm
 refine we_call z (x_callv call59 (caps := []) z (vs := [.agg #[U6 x543.ID.Session, U6 x543.ID.Seq, U6 x543.Epoch, v551, v554, v557, v560], .agg #[U6 a1.Session, U6 a1.Seq]]) z) ?_
 refine (locks_compare_ref (f552.mono ro_rd) (f555.mono ro_rd) (f558.mono ro_rd) (f561.mono ro_rd) hst.to0 ht564).mono ?_
 rintro _ w565 ⟨rfl, hst⟩
 refine ⟨_, z, ?_⟩
 replace hst := hst.of0
 refine ws_next (pend' := [(0, I6 z534)]) hst (by kernel_rfl) (pkr z z (fun w hst => z) pk_nil) ?_
 refine ws_q (v := .bool (t563 == (0:Int))) 12 [13, 14, 15] (by kernel_rfl) z z (yi_run ((wanted_eq z z z (cvb hc542)).trans z) (fun w hst => z)) (wsr (.bool (t563 == (0:Int))) 13 z z z (by kernel_rfl) (fun w hst => x_pick_t hc542 z z) (wsr (.int .i64 z534) 14 z z z (by kernel_rfl) (fun w hst => z) (wsr (.bool (t563 == (0:Int))) 15 z z z (by kernel_rfl) (fun w hst => z) ?_)))
 refine ws_nil ?_
 intro w hst
 replace hst := hst.own_close hq541
 refine tn (wp_ret ?_)
 refine post_ret (vs := [I6 z534, .bool (t563 == (0:Int))]) results71 (rvs_cons (rv_tmp z) (rvs_cons (rv_tmp z) rvs_nil)) ?_
 replace hst := hst.pull3.pull1.pull3.keep3
 obtain rfl := some_inj hm
 exact ⟨z534, (t563 == (0:Int)), z, z, hst⟩
}
 {
 replace hm := bif_f hc542 hm
 refine ws_q (v := undef) 5 [6, 7, 8, 9, 10, 11, 12, 13, 14, 15] (by kernel_rfl) z z (yi_off ((wanted_eq z z z (cvb hc542)).trans z)) (ws_q (v := undef) 6 [7, 8, 9, 10, 11, 12, 13, 14, 15] (by kernel_rfl) z z (yi_off ((wanted_eq z z z (cvb hc542)).trans z)) (ws_q (v := undef) 7 [8, 9, 10, 11, 12, 13, 14, 15] (by kernel_rfl) z z (yi_off ((wanted_eq z z z (cvb hc542)).trans z)) (ws_q (v := undef) 8 [9, 10, 11, 12, 13, 14, 15] (by kernel_rfl) z z (yi_off ((wanted_eq z z z (cvb hc542)).trans z)) (ws_q (v := undef) 9 [10, 11, 12, 13, 14, 15] (by kernel_rfl) z z (yi_off ((wanted_eq z z z (cvb hc542)).trans z)) (ws_q (v := undef) 10 [11, 12, 13, 14, 15] (by kernel_rfl) z z (yi_off ((wanted_eq z z z (cvb hc542)).trans z)) (ws_q (v := undef) 11 [12, 13, 14, 15] (by kernel_rfl) z z (yi_off ((wanted_eq z z z (cvb hc542)).trans z)) (ws_q (v := undef) 12 [13, 14, 15] (by kernel_rfl) z z (yi_off ((wanted_eq z z z (cvb hc542)).trans z)) (wsr (.bool false) 13 z z z (by kernel_rfl) (fun w hst => x_pick_f hc542 z z) (wsr (.int .i64 z534) 14 z z z (by kernel_rfl) (fun w hst => z) (wsr (.bool false) 15 z z z (by kernel_rfl) (fun w hst => z) ?_))))))))))
 refine ws_nil ?_
 intro w hst
 replace hst := hst.own_close hq541
 refine tn (wp_ret ?_)
 refine post_ret (vs := [I6 z534, .bool false]) results71 (rvs_cons (rv_tmp z) (rvs_cons (rv_tmp z) rvs_nil)) ?_
 replace hst := hst.pull3.pull1.pull3.keep3
 obtain rfl := some_inj hm
 exact ⟨z534, false, z, z, hst⟩
}
}
}
 clear hst
 rintro _ w573 ⟨z568, z569, rfl, rfl, hst⟩
 refine ⟨_, z, ?_⟩
 try dsimp only at hm
 refine ws_next (pend' := []) hst (by kernel_rfl) pk_nil ?_
 refine wsr (.int .i64 z568) 6 z z z (by kernel_rfl) (fun w hst => z) (wsr (.bool z569) 7 z z z (by kernel_rfl) (fun w hst => z) (wsr (.int .i64 z568) 8 z z z (by kernel_rfl) (fun w hst => z) (wsr (.bool z569) 9 z z z (by kernel_rfl) (fun w hst => z) ?_)))
 refine ws_nil ?_
 intro w hst
 refine tn (wp_ret ?_)
 replace hst := hst.pull1.pull1
 replace hst := at_locks_Table_close (pv := Pt b427 0) (x := o0) hst z
 replace hst := objO_some hst
 obtain rfl := some_inj hm
 refine post_ret (vs := [I6 z568, .bool z569]) results40 (rvs_cons (rv_tmp z) (rvs_cons (rv_tmp z) rvs_nil)) ?_
 exact ⟨z, hst.keep1⟩
}
}

theorem slices_Insert_api_Hold_api_Hold_ref {w0 w : World} {I : HL} {R : SP} {a0 : (List api_Hold)} {r0_0 : Value} {a1 : Int} {a2 : (List api_Hold)} {r2_0 : Value} (hst : St w0 w I [ownS ty_api_Hold r0_0 a0, ownS ty_api_Hold r2_0 a2] R) {r : (List api_Hold)} (hm : slices_Insert_api_Hold_api_Hold a0 a1 a2 = some r) :
  Calls prog 41 #[r0_0, I6 a1, r2_0] w fun e w' => ∃ (q0_0 : Value), e = .returned (q0_0) ∧ St w0 w' I [ownS ty_api_Hold q0_0 r] R := by {
 unfold slices_Insert_api_Hold_api_Hold at hm
 obtain ⟨hg, hm⟩ := gd_some hm
 obtain rfl := some_inj hm
 obtain ⟨hi0, hi1, hrm⟩ := insOK_of hg
 obtain ⟨k, rfl⟩ := Int.eq_ofNat_of_zero_le hi0
 have hsm := room_sum hrm
 have hk : k ≤ a0.length := by omega
 have hs : ∀ w : World, (sizeOf 34).run prog w = .ok ty_api_Hold.sz w := sizeOf34
 have hs0 : 0 < ty_api_Hold.sz := Nat.le_of_ble_eq_true rfl
 have hov : ∀ (args : Array Value) (w : World), (callFunc 72 args).run prog w = (Extern.SlicesOverlaps.overlaps #[22, 22] #[4] args >>= fun v => (pure (.value v) : Sem Next)).run prog w := by intro args w; kernel_rfl
 obtain ⟨css, hr, hst⟩ := hst.own_open
 replace hst := hst.pull1
 obtain ⟨dss, hq, hst⟩ := hst.own_open
 replace hst := hst.pull1
 obtain ⟨n, hn⟩ : ∃ n, css.length = n := ⟨_, rfl⟩
 obtain ⟨m, hm'⟩ : ∃ m, dss.length = m := ⟨_, rfl⟩
 have hln : a0.length = n := hr.1.trans hn
 have hlm : a2.length = m := hq.1.trans hm'
 rw [hln] at hsm hk
 rw [hlm] at hsm
 have hsv : SliceV r0_0 n := by have := hst.row_form.2; rwa [hn] at this
 have hsq : SliceV r2_0 m := by have := hst.pull1.row_form.2; rwa [hm'] at this
 have hoc := hr.ones
 have hoq := hq.ones
 have hw1 := wrap_add (a := n) (b := m) (by omega)
 have hw2 := wrap_add (a := k) (b := m) (by omega)
 have hw3 := wrap_sub (a := n + m) (b := k) (by omega) (by omega)
 have hrb := room_of (b := 120) hrm rfl
 rw [hln, hlm] at hrb
 refine calls_start (args := [r0_0, I6 (k : Int), r2_0]) func41 z ntmps41 (Nat.le_of_ble_eq_true z) ?_
 refine wp_seq (wrl (wv ((.slice none 0 0)) z z z (wl_nil (tn (wp_seq (wrl (wv (r0_0) z z z (wv (.int .i64 (k : Int)) z z z (wv ((slcV ty_api_Hold.sz r0_0 k n)) z z (x_slice (lo := (k : Nat)) (hi := (n : Nat)) underlying22 hs z hsv (by omega) (by omega) (by omega) .i64 .i64 (.inl z) (.inr ⟨z, z⟩)) (wl_nil (tn (wp_seq (wrl (wv (r2_0) z z z (wv (.int .i64 (m : Int)) z z (x_len z underlying22 hsq) (wv (.int .i64 (m : Int)) z z z (wl_nil (tn (wp_seq (wp_seq (wrl (wv (.int .i64 (m : Int)) z z z (wv (.bool ((m : Int) == (0:Int))) z z z ?_)))))))))))))))))))))))
 refine wl_nil (tn ?_)
 refine bsplit ((m : Int) == (0:Int)) (fun hc304 => ?_) (fun hc304 => ?_)
 {
 refine wp_ift (cvb hc304) ?_
 refine wp_seq (wrl (wv (r0_0) z z z (wv (r0_0) z z z (wl_nil (tn (wp_ret (then_r ?_)))))))
 refine post_ret (vs := [r0_0]) results41 (rvs_cons (rv_tmp z) rvs_nil) ?_
 rw [ins_nil (by rw [hlm]; exact hc304)]
 exact ⟨_, z, (hst.own_close hr).keep1⟩
}
 {
 refine wp_iff (cvb hc304) ?_
 have hm0 : m ≠ 0 := fun h => by rw [h] at hc304; cases hc304
 have hq0 : dss ≠ [] := fun h => hm0 (by rw [← hm', h]; rfl)
 refine wp_skip (tn (wp_seq (wrl ?_)))
 refine wv (r0_0) z z z (wv (.int .i64 (n : Int)) z z (x_len z underlying22 hsv) (wv (.int .i64 (n : Int)) z z z (wl_nil (tn (wp_seq (wp_seq (wrl (wv (.int .i64 (k : Int)) z z z (wv (.int .i64 (n : Int)) z z z (wv (.bool ((k : Int) == (n : Int))) z z z (wl_nil (tn ?_))))))))))))
 refine bsplit ((k : Int) == (n : Int)) (fun hc305 => ?_) (fun hc305 => ?_)
 {
 refine wp_ift (cvb hc305) ?_
 refine wp_seq (wrl (wv (r0_0) z z z (wv (r2_0) z z z ?_)))
 replace hst := (hst.own_close hr).pull1.own_close hq
 replace hst := hst.pull1
 obtain ⟨v2, w2, hra, hst⟩ := run_append elem_22 underlying22 hst hst.src1 (room_of hrm z) 22
 refine wl_run (v := v2) (w' := w2) z z (x_append z z hra) ?_
 refine wv (v2) z z z (wl_nil (tn (wp_ret (then_r ?_))))
 refine post_ret (vs := [v2]) results41 (rvs_cons (rv_tmp z) rvs_nil) ?_
 rw [ins_end (by rw [hln]; exact hc305)]
 exact ⟨_, z, hst.keep1⟩
}
 {
 refine wp_iff (cvb hc305) ?_
 have hkn : k ≠ n := fun h => by rw [h] at hc305; simp at hc305
 have hn0 : 0 < n := by omega
 have hc0 : css ≠ [] := fun h => by rw [h] at hn; simp at hn; omega
 refine wp_skip (tn (wp_seq (wp_seq (wrl ?_))))
 refine wv (.int .i64 (n : Int)) z z z (wv (.int .i64 (m : Int)) z z z (wv (.int .i64 ((n + m : Nat) : Int)) z z (ok_cast hw1 z) (wv (r0_0) z z z (wv (.int .i64 (sCap r0_0 : Int)) z z (x_cap z underlying22 hsv) (wv (.bool (decide (((n + m : Nat) : Int) > (sCap r0_0 : Int)))) z z z (wl_nil (tn ?_)))))))
 refine bsplit (decide (((n + m : Nat) : Int) > (sCap r0_0 : Int))) (fun hc306 => ?_) (fun hc306 => ?_)
 {
 refine wp_ift (cvb hc306) ?_
 refine wp_seq (wrl (wv (r0_0) z z z (wv (.int .i64 (k : Int)) z z z (wv ((slcV ty_api_Hold.sz r0_0 0 k)) z z (x_slice (lo := (0 : Nat)) (hi := (k : Nat)) underlying22 hs z hsv (by omega) (by omega) (by omega) .i64 .i64 (.inr ⟨z, z⟩) (.inl z)) (wv (.int .i64 (n : Int)) z z z (wv (.int .i64 (m : Int)) z z z (wv (.int .i64 ((n + m : Nat) : Int)) z z (ok_cast hw1 z) (wv (.int .i64 (k : Int)) z z z (wv (.int .i64 ((n + m - k : Nat) : Int)) z z (ok_cast hw3 z) ?_)))))))))
 obtain ⟨v2, w2, hra, hs2, zss, hzl, hst⟩ := run_app0 elem_22 underlying3 hst k (n + m - k) (by omega) (by have := of_decide_eq_true hc306; omega) (by rw [show k + (n + m - k) = n + m by omega]; exact hrb) hs0 22
 rw [show k + (n + m - k) = n + m by omega] at hs2
 refine wl_run (v := v2) (w' := w2) z z (x_append z z hra) ?_
 refine wv (v2) z z z (wl_nil (tn (wp_seq (wrl (wv (v2) z z z (wv (.int .i64 (k : Int)) z z z (wv ((slcV ty_api_Hold.sz v2 k (n + m))) z z (x_slice (lo := (k : Nat)) (hi := ((n + m) : Nat)) underlying22 hs z hs2 (by omega) (by omega) (by omega) .i64 .i64 (.inl z) (.inr ⟨z, z⟩)) (wv (r2_0) z z z ?_))))))))
 obtain ⟨w307, hr308, hst⟩ := run_copyRows (P := prog) (t2 := 22) (ty := 3) underlying22 hs hst hst.pull2 k m (N := n + m) (by first | omega | (simp only [List.length_append, List.length_take, List.length_drop]; omega)) (by first | omega | (simp only [List.length_append, List.length_take, List.length_drop]; omega)) (by omega) (by first | omega | (simp only [List.length_append, List.length_take, List.length_drop]; omega)) (ones_take hoq _)
 refine wl_run (v := .int .i64 (m : Nat)) (w' := w307) z z (x_copy z z hr308) ?_
 refine wl_nil (tn (wp_seq ?_))
 refine wp_region_St hst 9 [0, 1, 2, 3, 4, 5, 6, 7, 8] [0, 0, 0, 6, 15, 0, 0, 96, 255] [] z (by kernel_rfl) (by kernel_rfl) Try.mixed (by kernel_rfl) ?_
 refine wsr (v2) 0 z z z (by kernel_rfl) (fun w hst => z) (wsr (.int .i64 (k : Int)) 1 z z z (by kernel_rfl) (fun w hst => z) (wsr (.int .i64 (m : Int)) 2 z z z (by kernel_rfl) (fun w hst => z) (wsr (.int .i64 ((k + m : Nat) : Int)) 3 z z z (by kernel_rfl) (fun w hst => ok_cast hw2 z) (wsr ((slcV ty_api_Hold.sz v2 (k + m) (n + m))) 4 z z z (by kernel_rfl) (fun w hst => x_slice (lo := ((k + m) : Nat)) (hi := ((n + m) : Nat)) underlying22 hs z hs2 (by omega) (by omega) (by omega) .i64 .i64 (.inl z) (.inr ⟨z, z⟩)) (wsr (r0_0) 5 z z z (by kernel_rfl) (fun w hst => z) (wsr (.int .i64 (k : Int)) 6 z z z (by kernel_rfl) (fun w hst => z) (wsr ((slcV ty_api_Hold.sz r0_0 k n)) 7 z z z (by kernel_rfl) (fun w hst => x_slice (lo := (k : Nat)) (hi := (n : Nat)) underlying22 hs z hsv (by omega) (by omega) (by omega) .i64 .i64 (.inl z) (.inr ⟨z, z⟩)) ?_)))))))
 refine ws_e1 8 (by kernel_rfl) ?_
 refine nxe [] (by kernel_rfl) z z ?_
 clear hst
 intro w hst
 obtain ⟨w309, hr310, hst⟩ := run_copyRows (P := prog) (t2 := 22) (ty := 3) underlying22 hs hst (hst.pull1.row_part (l := k) (h := n) hk (by omega)) (k + m) (n - k) (N := n + m) (by first | omega | (simp only [List.length_append, List.length_take, List.length_drop]; omega)) (by first | omega | (simp only [List.length_append, List.length_take, List.length_drop]; omega)) (by omega) (by first | omega | (simp only [List.length_append, List.length_take, List.length_drop]; omega)) (ones_take (ones_drop (ones_take hoc _) _) _)
 refine we_run (v := .int .i64 ((n - k) : Nat)) (w' := w309) z (x_copy z z hr310) ?_
 refine ws_next (pend' := []) hst (by kernel_rfl) pk_nil ?_
 refine ws_nil ?_
 intro w hst
 refine tn (wp_seq (wrl (wv (v2) z z z (wv (v2) z z z (wl_nil (tn (wp_ret (then_r ?_))))))))
 refine post_ret (vs := [v2]) results41 (rvs_cons (rv_tmp z) rvs_nil) ?_
 rw [grow_rows hn hm' hk hzl] at hst
 exact ⟨_, z, (hst.own_close ((hr.take k).app (hq.app (hr.drop k)))).keep1⟩
}
 {
 refine wp_iff (cvb hc306) ?_
 have hup : n + m ≤ sCap r0_0 := by have := of_decide_eq_false hc306; omega
 obtain ⟨ess, hel, hem, hst'⟩ := hst.row_up (n + m) (by omega) hup hc0
 rw [show n + m - css.length = m by omega] at hel
 have hs2 : SliceV (upV r0_0 (n + m)) (n + m) := by have := hst'.row_form.2; rwa [List.length_append, hn, hel] at this
 clear hst
 have hst := hst'
 clear hst'
 refine wp_skip (tn (wp_seq (wrl ?_)))
 refine wv (r0_0) z z z (wv (.int .i64 (n : Int)) z z z (wv (.int .i64 (m : Int)) z z z (wv (.int .i64 ((n + m : Nat) : Int)) z z (ok_cast hw1 z) (wv ((upV r0_0 (n + m))) z z (x_sliceUp underlying22 hs z hsv z hup hn0) (wv ((upV r0_0 (n + m))) z z z (wl_nil (tn (wp_seq (wp_seq (wrl (wv (r2_0) z z z (wv ((upV r0_0 (n + m))) z z z (wv (.int .i64 (k : Int)) z z z (wv (.int .i64 (m : Int)) z z z (wv (.int .i64 ((k + m : Nat) : Int)) z z (ok_cast hw2 z) (wv ((slcV ty_api_Hold.sz (upV r0_0 (n + m)) (k + m) (n + m))) z z (x_slice (lo := ((k + m) : Nat)) (hi := ((n + m) : Nat)) underlying22 hs z hs2 (by omega) (by omega) (by omega) .i64 .i64 (.inl z) (.inr ⟨z, z⟩)) ?_))))))))))))))))
 refine wv (.bool false) z z (x_ext z z z (hov _) (run_overlaps z underlying22 hs hst.pull1 (k + m) (N := n + m) (by rw [List.length_append]; omega) (by omega) hq0 hs0)) (wv (.bool true) z z z (wl_nil (tn ?_)))
 refine wp_ift z ?_
 refine wp_seq ?_
 refine wp_region_St hst 9 [0, 1, 2, 3, 4, 5, 6, 7, 8] [0, 0, 0, 6, 15, 0, 0, 96, 255] [] z (by kernel_rfl) (by kernel_rfl) Try.mixed (by kernel_rfl) ?_
 refine wsr ((upV r0_0 (n + m))) 0 z z z (by kernel_rfl) (fun w hst => z) (wsr (.int .i64 (k : Int)) 1 z z z (by kernel_rfl) (fun w hst => z) (wsr (.int .i64 (m : Int)) 2 z z z (by kernel_rfl) (fun w hst => z) (wsr (.int .i64 ((k + m : Nat) : Int)) 3 z z z (by kernel_rfl) (fun w hst => ok_cast hw2 z) (wsr ((slcV ty_api_Hold.sz (upV r0_0 (n + m)) (k + m) (n + m))) 4 z z z (by kernel_rfl) (fun w hst => x_slice (lo := ((k + m) : Nat)) (hi := ((n + m) : Nat)) underlying22 hs z hs2 (by omega) (by omega) (by omega) .i64 .i64 (.inl z) (.inr ⟨z, z⟩)) (wsr ((upV r0_0 (n + m))) 5 z z z (by kernel_rfl) (fun w hst => z) (wsr (.int .i64 (k : Int)) 6 z z z (by kernel_rfl) (fun w hst => z) (wsr ((slcV ty_api_Hold.sz (upV r0_0 (n + m)) k (n + m))) 7 z z z (by kernel_rfl) (fun w hst => x_slice (lo := (k : Nat)) (hi := ((n + m) : Nat)) underlying22 hs z hs2 (by omega) (by omega) (by omega) .i64 .i64 (.inl z) (.inr ⟨z, z⟩)) ?_)))))))
 refine ws_e1 8 (by kernel_rfl) ?_
 refine nxe [] (by kernel_rfl) z z ?_
 clear hst
 intro w hst
 obtain ⟨w311, hr312, hst⟩ := run_copyRows (P := prog) (t2 := 22) (ty := 3) underlying22 hs hst (hst.row_part (l := k) (h := n + m) (by omega) (by rw [List.length_append]; omega)) (k + m) (n - k) (N := n + m) (by first | omega | (simp only [List.length_append, List.length_take, List.length_drop]; omega)) (by first | omega | (simp only [List.length_append, List.length_take, List.length_drop]; omega)) (by omega) (by first | omega | (simp only [List.length_append, List.length_take, List.length_drop]; omega)) (by rw [stay_src hn hm' hk hel]; exact ones_drop hoc _)
 refine we_run (v := .int .i64 ((n - k) : Nat)) (w' := w311) z (x_copy z z hr312) ?_
 refine ws_next (pend' := []) hst (by kernel_rfl) pk_nil ?_
 refine ws_nil ?_
 intro w hst
 refine tn (wp_seq (wrl (wv ((upV r0_0 (n + m))) z z z (wv (.int .i64 (k : Int)) z z z (wv ((slcV ty_api_Hold.sz (upV r0_0 (n + m)) k (n + m))) z z (x_slice (lo := (k : Nat)) (hi := ((n + m) : Nat)) underlying22 hs z hs2 (by omega) (by omega) (by omega) .i64 .i64 (.inl z) (.inr ⟨z, z⟩)) (wv (r2_0) z z z ?_))))))
 obtain ⟨w313, hr314, hst⟩ := run_copyRows (P := prog) (t2 := 22) (ty := 3) underlying22 hs hst hst.pull1 k m (N := n + m) (by first | omega | (simp only [List.length_append, List.length_take, List.length_drop]; omega)) (by first | omega | (simp only [List.length_append, List.length_take, List.length_drop]; omega)) (by omega) (by first | omega | (simp only [List.length_append, List.length_take, List.length_drop]; omega)) (ones_take hoq _)
 refine wl_run (v := .int .i64 (m : Nat)) (w' := w313) z z (x_copy z z hr314) ?_
 refine wl_nil (tn (wp_seq (wrl (wv ((upV r0_0 (n + m))) z z z (wv ((upV r0_0 (n + m))) z z z (wl_nil (tn (wp_ret (then_r ?_)))))))))
 refine post_ret (vs := [(upV r0_0 (n + m))]) results41 (rvs_cons (rv_tmp z) rvs_nil) ?_
 rw [stay_rows hn hm' hk hel] at hst
 exact ⟨_, z, (hst.own_close ((hr.take k).app (hq.app (hr.drop k)))).keep1⟩
}
}
}
}

theorem locks_Table_Take_ref {w0 w : World} {I : HL} {R : SP} {a0 : (Option locks_Table)} {p0 : Value} {a1 : api_Hold} {r1_0 : Value} {r1_1 : Value} {r1_2 : Value} {r1_3 : Value} (f1_0 : Rd tyF64 R I r1_0 a1.Gets) (f1_1 : Rd tyF2 R I r1_1 a1.Scans) (f1_2 : Rd tyF64 R I r1_2 a1.Puts) (f1_3 : Rd (tyInt .u8) R I r1_3 a1.Data) (hst : St w0 w I [objO at_locks_Table p0 a0] R) {r : (Int × (Option locks_Table))} (hm : locks_Table_Take a0 a1 = some r) :
  Calls prog 12 #[p0, .agg #[U6 a1.ID.Session, U6 a1.ID.Seq, U6 a1.Epoch, r1_0, r1_1, r1_2, r1_3]] w fun e w' => ∃ (I' : HL), e = .returned (.int .i64 r.1) ∧ I.le I' ∧ St w0 w' I' [objO at_locks_Table p0 r.2] R := by {
 rcases a0 with _ | o0
 {
 obtain ⟨rfl, hst'⟩ := objO_none hst
 clear hst
 have hst := hst'
 clear hst'
 dsimp only [locks_Table_Take] at hm
 refine calls_start (args := [.pointer none, .agg #[U6 a1.ID.Session, U6 a1.ID.Seq, U6 a1.Epoch, r1_0, r1_1, r1_2, r1_3]]) func12 z ntmps12 (Nat.le_of_ble_eq_true z) ?_
 have hI0 := HL.le.refl I
 refine wp_seq (wrl ?_)
 obtain ⟨b343, w344, ew345, eb346, hst⟩ := hst.box [U6 a1.ID.Session, U6 a1.ID.Seq, U6 a1.Epoch, r1_0, r1_1, r1_2, r1_3] 34
 refine wl_run (v := Pt b343 0) (w' := w344) z z (x_al (by kernel_rfl) ew345 eb346) ?_
 refine wv (.int .i64 (0:Int)) z z z (wl_nil (tn (wp_seq (wp_seq (wrl (wv (.pointer none) z z z (wv (.bool true) z z (by kernel_rfl) (wl_nil (tn ?_)))))))))
 refine wp_ift z ?_
 refine wp_seq (wrl (wv (.int .i64 (2:Int)) z z z (wl_nil (tn (wp_ret (then_r ?_))))))
 replace hst := hst.objO_nil at_locks_Table
 obtain rfl := some_inj hm
 refine post_ret (vs := [I6 (2:Int)]) results12 (rvs_cons (rv_tmp z) rvs_nil) ?_
 exact ⟨_, z, hI0, hst.keep1⟩
}
 {
 replace hst := objO_get hst
 dsimp only [locks_Table_Take] at hm
 refine calls_start (args := [p0, .agg #[U6 a1.ID.Session, U6 a1.ID.Seq, U6 a1.Epoch, r1_0, r1_1, r1_2, r1_3]]) func12 z ntmps12 (Nat.le_of_ble_eq_true z) ?_
 have hI0 := HL.le.refl I
 refine wp_seq (wrl ?_)
 obtain ⟨b348, w349, ew350, eb351, hst⟩ := hst.box [U6 a1.ID.Session, U6 a1.ID.Seq, U6 a1.Epoch, r1_0, r1_1, r1_2, r1_3] 34
 refine wl_run (v := Pt b348 0) (w' := w349) z z (x_al (by kernel_rfl) ew350 eb351) ?_
 refine wv (.int .i64 (0:Int)) z z z (wl_nil (tn (wp_seq (wp_seq (wrl (wv (p0) z z z ?_))))))
 replace hst := hst.pull1
 obtain ⟨b353, v354, rfl, hst'⟩ := at_locks_Table_open hst
 clear hst
 have hst := hst'
 clear hst'
 refine wv (.bool false) z z (by kernel_rfl) (wl_nil (tn ?_))
 refine wp_iff z ?_
 refine wp_skip (tn ?_)
 obtain ⟨y485, hm, hx486⟩ := joinO_some hm
 refine wp_cut (fun a w => ∃ (σ483 : Nat → Value), (locks_Table_Take_j0 a1 o0) () = some r ∧ a = Fr 74 (upd (upd σ483 0 (Pt b353 0)) 3 (Pt b348 0)) ∧ St w0 w I [at_locks_Table (Pt b353 0) o0, cells b348 [U6 a1.ID.Session, U6 a1.ID.Seq, U6 a1.Epoch, r1_0, r1_1, r1_2, r1_3]] R) ?_ ?_
 {
 refine wp_seq (wrl (wv (Pt b353 0) z z z (wv (Pt b353 0) z z z (wv (Pt b353 0) z z (x_field z underlying77 z sizeOf22 z) (wv (v354) z z (x_load z isAgg22 (hst.bc0 z)) (wv (.int .i64 ((o0.l).length : Int)) z z (x_len z underlying22 hst.sv1) (wv (.int .i64 (0:Int)) z z z (wl_nil (tn (wp_block ?_))))))))))
 obtain ⟨n437, hm⟩ := loopO_some hm
 refine wp_loop_n (fun n a w => ∃ (z435 : Int) (σ436 : Nat → Value), loopN (locks_Table_Take_l1 o0 a1) n z435 = some y485 ∧ a = Fr 74 (upd (upd (upd (upd (upd σ436 0 (Pt b353 0)) 3 (Pt b348 0)) 14 (v354)) 15 (.int .i64 ((o0.l).length : Int))) 16 (.int .i64 z435)) ∧ St w0 w I [cells b353 [v354], ownS ty_api_Hold v354 o0.l, cells b348 [U6 a1.ID.Session, U6 a1.ID.Seq, U6 a1.Epoch, r1_0, r1_1, r1_2, r1_3]] R) n437 ⟨(0:Int), _, hm, (fu 0 (Pt b353 0) z (fu 3 (Pt b348 0) z (fu 14 v354 z (fu 15 (.int .i64 ((o0.l).length : Int)) z (fu 16 (.int .i64 (0:Int)) z z))))), hst⟩ ?_
 rintro n443 _ w438 ⟨z435, σ436, hm, rfl, hst⟩
 obtain ⟨n440, y441, rfl, hm, hx442⟩ := loopN_some hm
 dsimp only [locks_Table_Take_l1] at hm
 refine wp_seq (wrl (wv (.bool (decide (z435 < ((o0.l).length : Int)))) z z z (wl_nil (tn (wp_seq ?_)))))
 refine bsplit (decide (z435 < ((o0.l).length : Int))) (fun hc444 => ?_) (fun hc444 => ?_)
 {
 replace hm := bif_t hc444 hm
 refine wp_ift (cvb hc444) ?_
 refine wp_skip (tn (wp_seq (wp_block (wp_seq (wrl ?_)))))
 obtain ⟨x445, hx446, hm⟩ := bind_some hm
 obtain ⟨h447, h448, hi449⟩ := geto_some hx446
 refine wv (.pointer (some (eAddr v354 (z435.toNat * 7 + 0)))) z z (x_index z z underlying22 sizeOf34 hst.sv1 h447 h448) ?_
 obtain ⟨cs450, hr451, hc452⟩ := hst.og1 hi449
 obtain ⟨v453, v456, v459, v462, rfl, f454, f457, f460, f463, -⟩ := hr451
 refine wv (.agg #[U6 x445.ID.Session, U6 x445.ID.Seq, U6 x445.Epoch, v453, v456, v459, v462]) z z (x_loadN (cs := [U6 x445.ID.Session, U6 x445.ID.Seq, U6 x445.Epoch, v453, v456, v459, v462]) z isAgg34 sizeOf34 (eCells (o := 0) hc452 z)) ?_
 obtain ⟨b469, w470, ew471, eb472, hst⟩ := hst.box [Zu, Zu, Zu, Zs, Zs, Zs, Zs] 34
 refine wl_run (v := Pt b469 0) (w' := w470) z z (x_al (by kernel_rfl) ew471 eb472) ?_
 obtain ⟨w474, hr475, hst⟩ := hst.bx [U6 x445.ID.Session, U6 x445.ID.Seq, U6 x445.Epoch, v453, v456, v459, v462] sizeOf34 z (oC z (oC z (oC z (oC (one_of_sliceV (ro_sliceV f454)) (oC (one_of_sliceV (ro_sliceV f457)) (oC (one_of_sliceV (ro_sliceV f460)) (oC (one_of_sliceV (ro_sliceV f463)) oN))))))) (by kernel_rfl)
 refine wl_unit z z (x_unit hr475) ?_
 refine wl_nil (tn (wp_seq (wrl (wv (Pt b469 0) z z (x_field z underlying34 z sizeOf29 z) (wv (.agg #[U6 x445.ID.Session, U6 x445.ID.Seq]) z z (x_loadN (cs := [U6 x445.ID.Session, U6 x445.ID.Seq]) z isAgg29 sizeOf29 (hst.bcs0 0 z)) (wv (Pt b348 0) z z (x_field z underlying34 z sizeOf29 z) (wv (.agg #[U6 a1.ID.Session, U6 a1.ID.Seq]) z z (x_loadN (cs := [U6 a1.ID.Session, U6 a1.ID.Seq]) z isAgg29 sizeOf29 (hst.bcs3 0 z)) (wv (.bool (!((x445.ID.Session == a1.ID.Session) && (x445.ID.Seq == a1.ID.Seq)))) z z (x_aggne2 z z (by kernel_rfl) underlying29 (by kernel_rfl) (by kernel_rfl) (by kernel_rfl) underlying27 underlying27 (fun _ _ _ => by kernel_rfl) (fun _ _ _ => by kernel_rfl)) (wv (.bool (!((x445.ID.Session == a1.ID.Session) && (x445.ID.Seq == a1.ID.Seq)))) z z z ?_)))))))))
 refine bsplit (!((x445.ID.Session == a1.ID.Session) && (x445.ID.Seq == a1.ID.Seq))) (fun hc476 => ?_) (fun hc476 => ?_)
 {
 replace hm := bif_t hc476 hm
 refine wv (.agg #[U6 x445.ID.Session, U6 x445.ID.Seq, U6 x445.Epoch, v453, v456, v459, v462]) ((wanted_eq z z z (cvb hc476)).trans z) z (x_loadN (cs := [U6 x445.ID.Session, U6 x445.ID.Seq, U6 x445.Epoch, v453, v456, v459, v462]) z isAgg34 sizeOf34 (hst.bcs0 0 z)) (wv (.agg #[U6 a1.ID.Session, U6 a1.ID.Seq, U6 a1.Epoch, r1_0, r1_1, r1_2, r1_3]) ((wanted_eq z z z (cvb hc476)).trans z) z (x_loadN (cs := [U6 a1.ID.Session, U6 a1.ID.Seq, U6 a1.Epoch, r1_0, r1_1, r1_2, r1_3]) z isAgg34 sizeOf34 (hst.bcs3 0 z)) ?_)
 obtain ⟨t477, ht478, hm⟩ := bind_some hm
 refine wl_call ((wanted_eq z z z (cvb hc476)).trans z) z (x_call call19 z (vs := [.agg #[U6 x445.ID.Session, U6 x445.ID.Seq, U6 x445.Epoch, v453, v456, v459, v462], .agg #[U6 a1.ID.Session, U6 a1.ID.Seq, U6 a1.Epoch, r1_0, r1_1, r1_2, r1_3]]) z) ?_
 refine (locks_Meet_ref (f454.mono ro_rd) (f457.mono ro_rd) (f460.mono ro_rd) (f463.mono ro_rd) (f1_0.mono (rd_weak _)) (f1_1.mono (rd_weak _)) (f1_2.mono (rd_weak _)) (f1_3.mono (rd_weak _)) hst.to0 ht478).mono ?_
 rintro _ w479 ⟨rfl, hst⟩
 refine ⟨_, z, ?_⟩
 replace hst := hst.of0
 refine wv (.bool t477) z z (x_pick_t hc476 z z) (wl_nil (tn ?_))
 refine bsplit t477 (fun hc482 => ?_) (fun hc482 => ?_)
 {
 replace hm := bif_t hc482 hm
 refine wp_ift (cvb hc482) ?_
 refine wp_seq (wrl (wv (.int .i64 (8:Int)) z z z (wl_nil (tn (wp_ret (blk_r (then_r (then_r ?_))))))))
 replace hm := inr_up hm hx442
 refine blk_r (then_r ?_)
 replace hm := inr_up hm hx486
 replace hst := hst.pull2.pull2
 replace hst := at_locks_Table_close (pv := Pt b353 0) (x := o0) hst z
 replace hst := objO_some hst
 obtain rfl := some_inj hm
 refine post_ret (vs := [I6 (8:Int)]) results12 (rvs_cons (rv_tmp z) rvs_nil) ?_
 exact ⟨_, z, hI0, hst.keep1⟩
}
 {
 replace hm := bif_f hc482 hm
 refine wp_iff (cvb hc482) ?_
 refine wp_skip (blk_n (tn (wrl ?_)))
 refine wv (.int .i64 (i64.wrap (z435 + (1:Int)))) z z z (wv (.int .i64 (i64.wrap (z435 + (1:Int)))) z z z (wl_nil (tn ?_)))
 replace hst := hst.pull3.pull3.pull3.keep3
 obtain rfl := some_inj hm
 exact ⟨_, Nat.lt_succ_self _, (i64.wrap (z435 + (1:Int))), _, hx442, (fu 0 (Pt b353 0) z (fu 3 (Pt b348 0) z (fu 14 v354 z (fu 15 (.int .i64 ((o0.l).length : Int)) z (fu 16 (.int .i64 (i64.wrap (z435 + (1:Int)))) z z))))), hst⟩
}
}
 {
 replace hm := bif_f hc476 hm
 refine wo hc476 z z z z z z (wo hc476 z z z z z z (wo hc476 z z z z z z (wv (.bool false) z z (x_pick_f hc476 z z) (wl_nil (tn ?_)))))
 refine wp_iff z ?_
 refine wp_skip (blk_n (tn (wrl ?_)))
 refine wv (.int .i64 (i64.wrap (z435 + (1:Int)))) z z z (wv (.int .i64 (i64.wrap (z435 + (1:Int)))) z z z (wl_nil (tn ?_)))
 replace hst := hst.pull3.pull3.pull3.keep3
 obtain rfl := some_inj hm
 exact ⟨_, Nat.lt_succ_self _, (i64.wrap (z435 + (1:Int))), _, hx442, (fu 0 (Pt b353 0) z (fu 3 (Pt b348 0) z (fu 14 v354 z (fu 15 (.int .i64 ((o0.l).length : Int)) z (fu 16 (.int .i64 (i64.wrap (z435 + (1:Int)))) z z))))), hst⟩
}
}
 {
 replace hm := bif_f hc444 hm
 refine wp_iff (cvb hc444) ?_
 refine wp_exit (then_x (then_x ?_))
 replace hm := inr_up hm hx442
 refine blk_x (tn ?_)
 replace hst := hst.pull1.pull1
 replace hst := at_locks_Table_close (pv := Pt b353 0) (x := o0) hst z
 replace hst := hst.pull1.pull1.keep2
 obtain rfl := some_inj hm
 exact ⟨_, hx486, (fu 0 (Pt b353 0) z (fu 3 (Pt b348 0) z z)), hst⟩
}
}
 {
 clear hst
 rintro _ w487 ⟨σ483, hm, rfl, hst⟩
 dsimp only [locks_Table_Take_j0] at hm
 refine wp_seq ?_
 refine wp_region_St hst 18 [0, 1, 2, 3, 4, 5, 6, 7, 8, 9, 10, 11, 12, 13, 14, 15, 16, 17] [0, 1, 0, 4, 0, 16, 48, 0, 128, 496, 0, 1024, 4080, 0, 8192, 32752, 65535, 131071] [] z (by kernel_rfl) (by kernel_rfl) Try.mixed (by kernel_rfl) ?_
 refine wsr (Pt b348 0) 0 z z z (by kernel_rfl) (fun w hst => x_field z underlying34 z sizeOf29 z) (wsr (.agg #[U6 a1.ID.Session, U6 a1.ID.Seq]) 1 z z z (by kernel_rfl) (fun w hst => x_loadN (cs := [U6 a1.ID.Session, U6 a1.ID.Seq]) z isAgg29 sizeOf29 (hst.bcs1 0 z)) (wsr (Pt b348 2) 2 z z z (by kernel_rfl) (fun w hst => x_field z underlying34 z sizeOf27 z) (wsr (.int .u64 a1.Epoch) 3 z z z (by kernel_rfl) (fun w hst => x_load z isAgg27 (hst.bc1 z)) (wsr (Pt b348 3) 4 z z z (by kernel_rfl) (fun w hst => x_field z underlying34 z sizeOf30 z) (wsr (r1_0) 5 z z z (by kernel_rfl) (fun w hst => x_load z isAgg30 (hst.bc1 z)) (wsr (Pt b348 4) 7 z z z (by kernel_rfl) (fun w hst => x_field z underlying34 z sizeOf31 z) (wsr (r1_1) 8 z z z (by kernel_rfl) (fun w hst => x_load z isAgg31 (hst.bc1 z)) (wsr (Pt b348 5) 10 z z z (by kernel_rfl) (fun w hst => x_field z underlying34 z sizeOf30 z) (wsr (r1_2) 11 z z z (by kernel_rfl) (fun w hst => x_load z isAgg30 (hst.bc1 z)) (wsr (Pt b348 6) 13 z z z (by kernel_rfl) (fun w hst => x_field z underlying34 z sizeOf32 z) (wsr (r1_3) 14 z z z (by kernel_rfl) (fun w hst => x_load z isAgg32 (hst.bc1 z)) ?_)))))))))))
 refine ws_e1 6 (by kernel_rfl) ?_
 refine nxe [9, 12, 15, 16, 17] (by kernel_rfl) z z ?_
 clear hst
 intro w hst
 obtain ⟨t488, ht489, hm⟩ := bind_some hm
 refine wec call37 [r1_0] z z ?_
 refine (slices_Clone_float64_float64_ref (f1_0.mono (rd_weak _)) hst.to0 ht489).mono ?_
 rintro _ w490 ⟨v493, rfl, hst⟩
 refine ⟨_, z, ?_⟩
 replace hst := hst.of1
 refine ws_next (pend' := [(14, r1_3), (13, Pt b348 6), (11, r1_2), (10, Pt b348 5), (8, r1_1), (7, Pt b348 4), (3, U6 a1.Epoch), (2, Pt b348 2), (1, .agg #[U6 a1.ID.Session, U6 a1.ID.Seq]), (0, Pt b348 0)]) hst (by kernel_rfl) (pkr z z (fun w hst => x_load z isAgg32 (hst.bc2 z)) (pkr z z (fun w hst => x_field z underlying34 z sizeOf32 z) (pkr z z (fun w hst => x_load z isAgg30 (hst.bc2 z)) (pkr z z (fun w hst => x_field z underlying34 z sizeOf30 z) (pkr z z (fun w hst => x_load z isAgg31 (hst.bc2 z)) (pkr z z (fun w hst => x_field z underlying34 z sizeOf31 z) (pkr z z (fun w hst => x_load z isAgg27 (hst.bc2 z)) (pkr z z (fun w hst => x_field z underlying34 z sizeOf27 z) (pkr z z (fun w hst => x_loadN (cs := [U6 a1.ID.Session, U6 a1.ID.Seq]) z isAgg29 sizeOf29 (hst.bcs2 0 z)) (pkr z z (fun w hst => x_field z underlying34 z sizeOf29 z) pk_nil)))))))))) ?_
 refine ws_e1 9 (by kernel_rfl) ?_
 refine nxe [12, 15, 16, 17] (by kernel_rfl) z z ?_
 clear hst
 intro w hst
 obtain ⟨t495, ht496, hm⟩ := bind_some hm
 refine wec call38 [r1_1] z z ?_
 refine (slices_Clone_2_float64_2_float64_ref (f1_1.mono (rd_weak _)) hst.to0 ht496).mono ?_
 rintro _ w497 ⟨v500, rfl, hst⟩
 refine ⟨_, z, ?_⟩
 replace hst := hst.of1
 refine ws_next (pend' := [(14, r1_3), (13, Pt b348 6), (11, r1_2), (10, Pt b348 5), (3, U6 a1.Epoch), (2, Pt b348 2), (1, .agg #[U6 a1.ID.Session, U6 a1.ID.Seq]), (0, Pt b348 0)]) hst (by kernel_rfl) (pkr z z (fun w hst => x_load z isAgg32 (hst.bc3 z)) (pkr z z (fun w hst => x_field z underlying34 z sizeOf32 z) (pkr z z (fun w hst => x_load z isAgg30 (hst.bc3 z)) (pkr z z (fun w hst => x_field z underlying34 z sizeOf30 z) (pkr z z (fun w hst => x_load z isAgg27 (hst.bc3 z)) (pkr z z (fun w hst => x_field z underlying34 z sizeOf27 z) (pkr z z (fun w hst => x_loadN (cs := [U6 a1.ID.Session, U6 a1.ID.Seq]) z isAgg29 sizeOf29 (hst.bcs3 0 z)) (pkr z z (fun w hst => x_field z underlying34 z sizeOf29 z) pk_nil)))))))) ?_
 refine ws_e1 12 (by kernel_rfl) ?_
 refine nxe [15, 16, 17] (by kernel_rfl) z z ?_
 clear hst
 intro w hst
 obtain ⟨t502, ht503, hm⟩ := bind_some hm
 refine wec call37 [r1_2] z z ?_
 refine (slices_Clone_float64_float64_ref (f1_2.mono (rd_weak _)) hst.to0 ht503).mono ?_
 rintro _ w504 ⟨v507, rfl, hst⟩
 refine ⟨_, z, ?_⟩
 replace hst := hst.of1
 refine ws_next (pend' := [(14, r1_3), (13, Pt b348 6), (3, U6 a1.Epoch), (2, Pt b348 2), (1, .agg #[U6 a1.ID.Session, U6 a1.ID.Seq]), (0, Pt b348 0)]) hst (by kernel_rfl) (pkr z z (fun w hst => x_load z isAgg32 (hst.bc4 z)) (pkr z z (fun w hst => x_field z underlying34 z sizeOf32 z) (pkr z z (fun w hst => x_load z isAgg27 (hst.bc4 z)) (pkr z z (fun w hst => x_field z underlying34 z sizeOf27 z) (pkr z z (fun w hst => x_loadN (cs := [U6 a1.ID.Session, U6 a1.ID.Seq]) z isAgg29 sizeOf29 (hst.bcs4 0 z)) (pkr z z (fun w hst => x_field z underlying34 z sizeOf29 z) pk_nil)))))) ?_
 refine ws_e1 15 (by kernel_rfl) ?_
 refine nxe [16, 17] (by kernel_rfl) z z ?_
 clear hst
 intro w hst
 obtain ⟨t509, ht510, hm⟩ := bind_some hm
 refine wec call39 [r1_3] z z ?_
 refine (slices_Clone_byte_byte_ref (f1_3.mono (rd_weak _)) hst.to0 ht510).mono ?_
 rintro _ w511 ⟨v514, rfl, hst⟩
 refine ⟨_, z, ?_⟩
 replace hst := hst.of1
 refine ws_next (pend' := [(3, U6 a1.Epoch), (2, Pt b348 2), (1, .agg #[U6 a1.ID.Session, U6 a1.ID.Seq]), (0, Pt b348 0)]) hst (by kernel_rfl) (pkr z z (fun w hst => x_load z isAgg27 (hst.bc5 z)) (pkr z z (fun w hst => x_field z underlying34 z sizeOf27 z) (pkr z z (fun w hst => x_loadN (cs := [U6 a1.ID.Session, U6 a1.ID.Seq]) z isAgg29 sizeOf29 (hst.bcs5 0 z)) (pkr z z (fun w hst => x_field z underlying34 z sizeOf29 z) pk_nil)))) ?_
 refine wsr (.agg #[U6 a1.ID.Session, U6 a1.ID.Seq, U6 a1.Epoch, v493, v500, v507, v514]) 16 rfl rfl rfl (by kernel_rfl) (fun w hst => by obtain ⟨_, _, hv_, _⟩ := hst.sv0; rw [hv_]; obtain ⟨_, _, hv_, _⟩ := hst.sv1; rw [hv_]; obtain ⟨_, _, hv_, _⟩ := hst.sv2; rw [hv_]; obtain ⟨_, _, hv_, _⟩ := hst.sv3; rw [hv_]; kernel_rfl) ?_
 refine ws_e1 17 (by kernel_rfl) ?_
 refine nxe [] (by kernel_rfl) z z ?_
 clear hst
 intro w hst
 replace hst := hst.pull5
 obtain ⟨w520, hr521, hst⟩ := hst.bx [U6 a1.ID.Session, U6 a1.ID.Seq, U6 a1.Epoch, v493, v500, v507, v514] sizeOf34 z (oC z (oC z (oC z (oC (one_of_sliceV hst.sv4) (oC (one_of_sliceV hst.sv3) (oC (one_of_sliceV hst.sv2) (oC (one_of_sliceV hst.sv1) oN))))))) (by kernel_rfl)
 refine we_unit z (x_unit hr521) ?_
 refine ws_next (pend' := []) hst (by kernel_rfl) pk_nil ?_
 refine ws_nil ?_
 intro w hst
 refine tn (wp_seq (wrl (wv (Pt b353 0) z z z (wv (Pt b348 0) z z (x_field z underlying34 z sizeOf29 z) (wv (.agg #[U6 a1.ID.Session, U6 a1.ID.Seq]) z z (x_loadN (cs := [U6 a1.ID.Session, U6 a1.ID.Seq]) z isAgg29 sizeOf29 (hst.bcs0 0 z)) ?_)))))
 replace hst := hst.pull5
 replace hst := objO_some hst
 obtain ⟨t522, ht523, hm⟩ := bind_some hm
 refine wc call40 [Pt b353 0, .agg #[U6 a1.ID.Session, U6 a1.ID.Seq]] z z z ?_
 refine (locks_Table_find_ref hst.to1 ht523).mono ?_
 rintro _ w524 ⟨rfl, hst⟩
 refine ⟨_, z, ?_⟩
 replace hst := hst.of1
 replace hst := objO_get hst
 refine wv (.tuple #[I6 t522.1, .bool t522.2]) z z z (wv (.int .i64 t522.1) z z z (wv (.bool t522.2) z z z (wv (.int .i64 t522.1) z z z (wv (.bool t522.2) z z z (wl_nil (tn (wp_seq (wp_seq (wrl (wv (.bool t522.2) z z z (wl_nil (tn ?_))))))))))))
 refine bsplit t522.2 (fun hc527 => ?_) (fun hc527 => ?_)
 {
 replace hm := bif_t hc527 hm
 refine wp_ift (cvb hc527) ?_
 obtain ⟨b528, v529, e531, hst'⟩ := at_locks_Table_open hst
 clear hst
 have e531 := ptr_inj e531
 subst e531
 have hst := hst'
 clear hst'
 refine wp_region_St hst 8 [0, 1, 2, 3, 4, 5, 6, 7] [0, 1, 3, 7, 0, 0, 63, 127] [] z (by kernel_rfl) (by kernel_rfl) Try.mixed (by kernel_rfl) ?_
 refine wsr (Pt b353 0) 0 z z z (by kernel_rfl) (fun w hst => z) (wsr (Pt b353 0) 1 z z z (by kernel_rfl) (fun w hst => z) (wsr (Pt b353 0) 2 z z z (by kernel_rfl) (fun w hst => x_field z underlying77 z sizeOf22 z) (wsr (v529) 3 z z z (by kernel_rfl) (fun w hst => x_load z isAgg22 (hst.bc0 z)) (wsr (.int .i64 t522.1) 4 z z z (by kernel_rfl) (fun w hst => z) (wsr (.agg #[U6 a1.ID.Session, U6 a1.ID.Seq, U6 a1.Epoch, v493, v500, v507, v514]) 5 z z z (by kernel_rfl) (fun w hst => x_loadN (cs := [U6 a1.ID.Session, U6 a1.ID.Seq, U6 a1.Epoch, v493, v500, v507, v514]) z isAgg34 sizeOf34 (hst.bcs2 0 z)) ?_)))))
 obtain ⟨x532, hx533, hm⟩ := bind_some hm
 obtain ⟨h534, h535, hi536⟩ := geto_some hx533
 refine wsr (.pointer (some (eAddr v529 (t522.1.toNat * 7 + 0)))) 6 z z z (by kernel_rfl) (fun w hst => x_index z z underlying22 sizeOf34 hst.sv1 h534 h535) ?_
 refine ws_e1 7 (by kernel_rfl) ?_
 refine nxe [] (by kernel_rfl) z z ?_
 clear hst
 intro w hst
 obtain ⟨cs537, hr538, hc539⟩ := hst.og1 hi536
 obtain ⟨v540, v543, v546, v549, rfl, f541, f544, f547, f550, -⟩ := hr538
 replace hst := hst.pull6
 obtain ⟨I552, hI553, f554, hst⟩ := hst.own_fix
 replace f1_0 := f1_0.mono (rd_le hI553)
 replace f1_1 := f1_1.mono (rd_le hI553)
 replace f1_2 := f1_2.mono (rd_le hI553)
 replace f1_3 := f1_3.mono (rd_le hI553)
 replace f541 := f541.mono (ro_le hI553)
 replace f544 := f544.mono (ro_le hI553)
 replace f547 := f547.mono (ro_le hI553)
 replace f550 := f550.mono (ro_le hI553)
 replace hI0 := hI0.trans hI553
 replace hst := hst.pull5
 obtain ⟨I555, hI556, f557, hst⟩ := hst.own_fix
 replace f1_0 := f1_0.mono (rd_le hI556)
 replace f1_1 := f1_1.mono (rd_le hI556)
 replace f1_2 := f1_2.mono (rd_le hI556)
 replace f1_3 := f1_3.mono (rd_le hI556)
 replace f541 := f541.mono (ro_le hI556)
 replace f544 := f544.mono (ro_le hI556)
 replace f547 := f547.mono (ro_le hI556)
 replace f550 := f550.mono (ro_le hI556)
 replace f554 := f554.mono (ro_le hI556)
 replace hI0 := hI0.trans hI556
 replace hst := hst.pull4
 obtain ⟨I558, hI559, f560, hst⟩ := hst.own_fix
 replace f1_0 := f1_0.mono (rd_le hI559)
 replace f1_1 := f1_1.mono (rd_le hI559)
 replace f1_2 := f1_2.mono (rd_le hI559)
 replace f1_3 := f1_3.mono (rd_le hI559)
 replace f541 := f541.mono (ro_le hI559)
 replace f544 := f544.mono (ro_le hI559)
 replace f547 := f547.mono (ro_le hI559)
 replace f550 := f550.mono (ro_le hI559)
 replace f554 := f554.mono (ro_le hI559)
 replace f557 := f557.mono (ro_le hI559)
 replace hI0 := hI0.trans hI559
 replace hst := hst.pull3
 obtain ⟨I561, hI562, f563, hst⟩ := hst.own_fix
 replace f1_0 := f1_0.mono (rd_le hI562)
 replace f1_1 := f1_1.mono (rd_le hI562)
 replace f1_2 := f1_2.mono (rd_le hI562)
 replace f1_3 := f1_3.mono (rd_le hI562)
 replace f541 := f541.mono (ro_le hI562)
 replace f544 := f544.mono (ro_le hI562)
 replace f547 := f547.mono (ro_le hI562)
 replace f550 := f550.mono (ro_le hI562)
 replace f554 := f554.mono (ro_le hI562)
 replace f557 := f557.mono (ro_le hI562)
 replace f560 := f560.mono (ro_le hI562)
 replace hI0 := hI0.trans hI562
 replace hst := hst.pull1
 obtain ⟨w564, hr565, hst⟩ := hst.own_store (P := prog) (t := 34) (y := ({ ID := a1.ID, Epoch := a1.Epoch, Gets := t488, Scans := t495, Puts := t502, Data := t509 } : api_Hold)) hi536 0 (.agg #[U6 a1.ID.Session, U6 a1.ID.Seq, U6 a1.Epoch, v493, v500, v507, v514]) sizeOf34 (Nat.le_of_ble_eq_true z) (oC z (oC z (oC z (oC (one_of_sliceV (ro_sliceV f554)) (oC (one_of_sliceV (ro_sliceV f557)) (oC (one_of_sliceV (ro_sliceV f560)) (oC (one_of_sliceV (ro_sliceV f563)) oN))))))) (fun cs h => ⟨_, _, _, _, setMany_all (ty_api_Hold.len h) z, f554, f557, f560, f563, one_of_sliceV (ro_sliceV f554), one_of_sliceV (ro_sliceV f557), one_of_sliceV (ro_sliceV f560), one_of_sliceV (ro_sliceV f563)⟩)
 have hi566 := set_get hi536 ({ ID := a1.ID, Epoch := a1.Epoch, Gets := t488, Scans := t495, Puts := t502, Data := t509 } : api_Hold)
 have h567 := set_lt h535 t522.1.toNat ({ ID := a1.ID, Epoch := a1.Epoch, Gets := t488, Scans := t495, Puts := t502, Data := t509 } : api_Hold)
 refine we_unit z (x_unit hr565) ?_
 refine ws_next (pend' := []) hst (by kernel_rfl) pk_nil ?_
 refine ws_nil ?_
 intro w hst
 refine tn (wp_seq (wrl (wv (.int .i64 (0:Int)) z z z (wl_nil (tn (wp_ret ?_))))))
 replace hst := hst.pull1
 replace hst := at_locks_Table_close (pv := Pt b353 0) (x := ({ l := (o0.l.set t522.1.toNat ({ ID := a1.ID, Epoch := a1.Epoch, Gets := t488, Scans := t495, Puts := t502, Data := t509 } : api_Hold)) } : locks_Table)) hst z
 replace hst := objO_some hst
 obtain rfl := some_inj hm
 refine post_ret (vs := [Zi]) results12 (rvs_cons (rv_tmp z) rvs_nil) ?_
 exact ⟨_, z, hI0, hst.keep1⟩
}
 {
 replace hm := bif_f hc527 hm
 refine wp_iff (cvb hc527) ?_
 obtain ⟨b568, v569, e571, hst'⟩ := at_locks_Table_open hst
 clear hst
 have e571 := ptr_inj e571
 subst e571
 have hst := hst'
 clear hst'
 refine wp_region_St hst 12 [0, 1, 2, 3, 4, 5, 6, 7, 8, 9, 10, 11] [0, 0, 2, 6, 14, 0, 0, 64, 254, 511, 1023, 2047] [] z (by kernel_rfl) (by kernel_rfl) Try.mixed (by kernel_rfl) ?_
 refine wsr (Pt b353 0) 0 z z z (by kernel_rfl) (fun w hst => z) (wsr (Pt b353 0) 1 z z z (by kernel_rfl) (fun w hst => z) (wsr (Pt b353 0) 2 z z z (by kernel_rfl) (fun w hst => z) (wsr (Pt b353 0) 3 z z z (by kernel_rfl) (fun w hst => x_field z underlying77 z sizeOf22 z) (wsr (v569) 4 z z z (by kernel_rfl) (fun w hst => x_load z isAgg22 (hst.bc0 z)) (wsr (.int .i64 t522.1) 5 z z z (by kernel_rfl) (fun w hst => z) (wsr (.agg #[U6 a1.ID.Session, U6 a1.ID.Seq, U6 a1.Epoch, v493, v500, v507, v514]) 6 z z z (by kernel_rfl) (fun w hst => x_loadN (cs := [U6 a1.ID.Session, U6 a1.ID.Seq, U6 a1.Epoch, v493, v500, v507, v514]) z isAgg34 sizeOf34 (hst.bcs2 0 z)) ?_))))))
 refine ws_e1 7 (by kernel_rfl) ?_
 refine nxe [8, 9, 10, 11] (by kernel_rfl) z z ?_
 clear hst
 intro w hst
 replace hst := hst.pull6
 obtain ⟨I576, hI577, f578, hst⟩ := hst.own_fix
 replace f1_0 := f1_0.mono (rd_le hI577)
 replace f1_1 := f1_1.mono (rd_le hI577)
 replace f1_2 := f1_2.mono (rd_le hI577)
 replace f1_3 := f1_3.mono (rd_le hI577)
 replace hI0 := hI0.trans hI577
 replace hst := hst.pull5
 obtain ⟨I579, hI580, f581, hst⟩ := hst.own_fix
 replace f1_0 := f1_0.mono (rd_le hI580)
 replace f1_1 := f1_1.mono (rd_le hI580)
 replace f1_2 := f1_2.mono (rd_le hI580)
 replace f1_3 := f1_3.mono (rd_le hI580)
 replace f578 := f578.mono (ro_le hI580)
 replace hI0 := hI0.trans hI580
 replace hst := hst.pull4
 obtain ⟨I582, hI583, f584, hst⟩ := hst.own_fix
 replace f1_0 := f1_0.mono (rd_le hI583)
 replace f1_1 := f1_1.mono (rd_le hI583)
 replace f1_2 := f1_2.mono (rd_le hI583)
 replace f1_3 := f1_3.mono (rd_le hI583)
 replace f578 := f578.mono (ro_le hI583)
 replace f581 := f581.mono (ro_le hI583)
 replace hI0 := hI0.trans hI583
 replace hst := hst.pull3
 obtain ⟨I585, hI586, f587, hst⟩ := hst.own_fix
 replace f1_0 := f1_0.mono (rd_le hI586)
 replace f1_1 := f1_1.mono (rd_le hI586)
 replace f1_2 := f1_2.mono (rd_le hI586)
 replace f1_3 := f1_3.mono (rd_le hI586)
 replace f578 := f578.mono (ro_le hI586)
 replace f581 := f581.mono (ro_le hI586)
 replace f584 := f584.mono (ro_le hI586)
 replace hI0 := hI0.trans hI586
 obtain ⟨b588, w589, ew590, eb591, hst⟩ := hst.lits (E := ty_api_Hold) (xs := [({ ID := a1.ID, Epoch := a1.Epoch, Gets := t488, Scans := t495, Puts := t502, Data := t509 } : api_Hold)]) [[U6 a1.ID.Session, U6 a1.ID.Seq, U6 a1.Epoch, v493, v500, v507, v514]] 34 1 z (Reps.cons ⟨_, _, _, _, z, f578, f581, f584, f587, one_of_sliceV (ro_sliceV f578), one_of_sliceV (ro_sliceV f581), one_of_sliceV (ro_sliceV f584), one_of_sliceV (ro_sliceV f587)⟩ Reps.nil)
 refine we_run (v := (.slice (some ⟨b588, 0, none⟩) 1 1)) (w' := w589) z (x_als (by kernel_rfl) ew590 eb591) ?_
 refine ws_next (pend' := [(5, I6 t522.1), (4, v569), (3, Pt b353 0), (2, Pt b353 0), (1, Pt b353 0), (0, Pt b353 0)]) hst (by kernel_rfl) (pkr z z (fun w hst => z) (pkr z z (fun w hst => x_load z isAgg22 (hst.bc1 z)) (pkr z z (fun w hst => x_field z underlying77 z sizeOf22 z) (pkr z z (fun w hst => z) (pkr z z (fun w hst => z) (pkr z z (fun w hst => z) pk_nil)))))) ?_
 refine ws_e1 8 (by kernel_rfl) ?_
 refine nxe [9, 10, 11] (by kernel_rfl) z z ?_
 clear hst
 intro w hst
 replace hst := hst.pull2
 obtain ⟨t593, ht594, hm⟩ := bind_some hm
 refine wec call41 [v569, I6 t522.1, (.slice (some ⟨b588, 0, none⟩) 1 1)] z z ?_
 refine (slices_Insert_api_Hold_api_Hold_ref hst.to2 ht594).mono ?_
 rintro _ w595 ⟨v598, rfl, hst⟩
 refine ⟨_, z, ?_⟩
 replace hst := hst.of1
 refine ws_next (pend' := [(0, Pt b353 0)]) hst (by kernel_rfl) (pkr z z (fun w hst => z) pk_nil) ?_
 refine wsr (Pt b353 0) 9 z z z (by kernel_rfl) (fun w hst => z) (wsr (Pt b353 0) 10 z z z (by kernel_rfl) (fun w hst => x_field z underlying77 z sizeOf22 z) ?_)
 refine ws_e1 11 (by kernel_rfl) ?_
 refine nxe [] (by kernel_rfl) z z ?_
 clear hst
 intro w hst
 replace hst := hst.pull1
 obtain ⟨w600, hr601, hst⟩ := hst.boxStore1 (P := prog) (t := 22) (cs' := [v598]) 0 v598 (one_of_sliceV hst.sv1) sizeOf22 z z
 refine we_unit z (x_unit hr601) ?_
 refine ws_next (pend' := []) hst (by kernel_rfl) pk_nil ?_
 refine ws_nil ?_
 intro w hst
 refine tn (wp_seq (wrl (wv (.int .i64 (0:Int)) z z z (wl_nil (tn (wp_ret ?_))))))
 replace hst := hst.pull1.pull1
 replace hst := at_locks_Table_close (pv := Pt b353 0) (x := ({ l := t593 } : locks_Table)) hst z
 replace hst := objO_some hst
 obtain rfl := some_inj hm
 refine post_ret (vs := [Zi]) results12 (rvs_cons (rv_tmp z) rvs_nil) ?_
 exact ⟨_, z, hI0, hst.keep1⟩
}
}
}
}

theorem locks_Table_Len_ref {w0 w : World} {I : HL} {R : SP} {a0 : (Option locks_Table)} {p0 : Value}  (hst : St w0 w I [objO at_locks_Table p0 a0] R) {r : (Int)} (hm : locks_Table_Len a0 = some r) :
  Calls prog 27 #[p0] w fun e w' => e = .returned (.int .i64 r) ∧ St w0 w' I [objO at_locks_Table p0 a0] R := by {
 rcases a0 with _ | o0
 {
 obtain ⟨rfl, hst'⟩ := objO_none hst
 clear hst
 have hst := hst'
 clear hst'
 dsimp only [locks_Table_Len] at hm
 refine calls_start (args := [.pointer none]) func27 z ntmps27 (Nat.le_of_ble_eq_true z) ?_
 refine wp_seq (wrl (wv (.int .i64 (0:Int)) z z z (wl_nil (tn (wp_seq (wp_seq (wrl (wv (.pointer none) z z z (wv (.bool true) z z (by kernel_rfl) (wl_nil (tn ?_)))))))))))
 refine wp_ift z ?_
 refine wp_seq (wrl (wv (.int .i64 (0:Int)) z z z (wl_nil (tn (wp_ret (then_r ?_))))))
 replace hst := hst.objO_nil at_locks_Table
 obtain rfl := some_inj hm
 refine post_ret (vs := [Zi]) results27 (rvs_cons (rv_tmp z) rvs_nil) ?_
 exact ⟨z, hst.keep1⟩
}
 {
 replace hst := objO_get hst
 dsimp only [locks_Table_Len] at hm
 refine calls_start (args := [p0]) func27 z ntmps27 (Nat.le_of_ble_eq_true z) ?_
 refine wp_seq (wrl (wv (.int .i64 (0:Int)) z z z (wl_nil (tn (wp_seq (wp_seq (wrl (wv (p0) z z z ?_))))))))
 obtain ⟨b99, v100, rfl, hst'⟩ := at_locks_Table_open hst
 clear hst
 have hst := hst'
 clear hst'
 refine wv (.bool false) z z (by kernel_rfl) (wl_nil (tn ?_))
 refine wp_iff z ?_
 refine wp_skip (tn (wp_seq (wrl ?_)))
 refine wv (Pt b99 0) z z z (wv (Pt b99 0) z z z (wv (Pt b99 0) z z (x_field z underlying77 z sizeOf22 z) (wv (v100) z z (x_load z isAgg22 (hst.bc0 z)) (wv (.int .i64 ((o0.l).length : Int)) z z (x_len z underlying22 hst.sv1) (wv (.int .i64 ((o0.l).length : Int)) z z z (wl_nil (tn (wp_ret ?_))))))))
 replace hst := hst.pull1.pull1
 replace hst := at_locks_Table_close (pv := Pt b99 0) (x := o0) hst z
 replace hst := objO_some hst
 obtain rfl := some_inj hm
 refine post_ret (vs := [I6 ((o0.l).length : Int)]) results27 (rvs_cons (rv_tmp z) rvs_nil) ?_
 exact ⟨z, hst.keep1⟩
}
}

theorem law12_awake_ref {w0 w : World} {I : HL} {R : SP}   (hst : St w0 w I [] R) {r : (Bool)} (hm : law12_awake = some r) :
  Calls prog 9 #[] w fun e w' => ∃ (I' : HL), e = .returned (.bool r) ∧ I.le I' ∧ St w0 w' I' [] R := by {
 unfold law12_awake at hm
 refine calls_start (args := []) func9 z ntmps9 (Nat.le_of_ble_eq_true z) ?_
 have hI0 := HL.le.refl I
 refine wp_seq (wrl (wv (.bool false) z z z (wl_nil (tn (wp_seq (wrl (wv (.agg #[U6 (1:Int), U6 (1:Int)]) z z (by kernel_rfl) ?_)))))))
 obtain ⟨b99, w100, ew101, eb102, hst⟩ := hst.lits (E := tyF64) (xs := [(4607182418800017408:Nat)]) [[F6 (4607182418800017408:Nat)]] 57 1 z (Reps.cons z Reps.nil)
 refine wl_run (v := (.slice (some ⟨b99, 0, none⟩) 1 1)) (w' := w100) z z (x_als (by kernel_rfl) ew101 eb102) ?_
 refine wv (.agg #[U6 (1:Int), U6 (1:Int), Zu, Zs, Zs, (.slice (some ⟨b99, 0, none⟩) 1 1), Zs]) z z (by kernel_rfl) ?_
 obtain ⟨b112, w113, ew114, eb115, hst⟩ := hst.box [Zu, Zu, Zu, Zs, Zs, Zs, Zs] 34
 refine wl_run (v := Pt b112 0) (w' := w113) z z (x_al (by kernel_rfl) ew114 eb115) ?_
 obtain ⟨w117, hr118, hst⟩ := hst.bx [U6 (1:Int), U6 (1:Int), Zu, Zs, Zs, (.slice (some ⟨b99, 0, none⟩) 1 1), Zs] sizeOf34 z (oC z (oC z (oC z (oC z (oC z (oC (one_of_sliceV hst.sv1) (oC z oN))))))) (by kernel_rfl)
 refine wl_unit z z (x_unit hr118) ?_
 refine wl_nil (tn (wp_seq (wrl (wv (.agg #[U6 (2:Int), U6 (1:Int)]) z z (by kernel_rfl) (wv (.agg #[Zf, F6 (4611686018427387904:Nat)]) z z (by kernel_rfl) ?_)))))
 obtain ⟨b119, w120, ew121, eb122, hst⟩ := hst.lits (E := tyF2) (xs := [((0:Nat), (4611686018427387904:Nat))]) [[Zf, F6 (4611686018427387904:Nat)]] 75 1 z (Reps.cons z Reps.nil)
 refine wl_run (v := (.slice (some ⟨b119, 0, none⟩) 1 1)) (w' := w120) z z (x_als (by kernel_rfl) ew121 eb122) ?_
 refine wv (.agg #[U6 (2:Int), U6 (1:Int), Zu, Zs, (.slice (some ⟨b119, 0, none⟩) 1 1), Zs, Zs]) z z (by kernel_rfl) ?_
 obtain ⟨b132, w133, ew134, eb135, hst⟩ := hst.box [Zu, Zu, Zu, Zs, Zs, Zs, Zs] 34
 refine wl_run (v := Pt b132 0) (w' := w133) z z (x_al (by kernel_rfl) ew134 eb135) ?_
 obtain ⟨w137, hr138, hst⟩ := hst.bx [U6 (2:Int), U6 (1:Int), Zu, Zs, (.slice (some ⟨b119, 0, none⟩) 1 1), Zs, Zs] sizeOf34 z (oC z (oC z (oC z (oC z (oC (one_of_sliceV hst.sv1) (oC z (oC z oN))))))) (by kernel_rfl)
 refine wl_unit z z (x_unit hr138) ?_
 refine wl_nil (tn (wp_seq (wrl ?_)))
 obtain ⟨t139, ht140, hm⟩ := bind_some hm
 refine wc call10 [] z z z ?_
 refine (locks_New_ref hst.to0 ht140).mono ?_
 rintro _ w141 ⟨v144, rfl, hst⟩
 refine ⟨_, z, ?_⟩
 replace hst := hst.of1
 refine wv (v144) z z z (wl_nil (tn (wp_seq (wrl (wv (.agg #[U6 (1:Int), U6 (1:Int), Zu, Zs, Zs, (.slice (some ⟨b99, 0, none⟩) 1 1), Zs]) z z (x_loadN (cs := [U6 (1:Int), U6 (1:Int), Zu, Zs, Zs, (.slice (some ⟨b99, 0, none⟩) 1 1), Zs]) z isAgg34 sizeOf34 (hst.bcs3 0 z)) (wv (.agg #[U6 (2:Int), U6 (1:Int), Zu, Zs, (.slice (some ⟨b119, 0, none⟩) 1 1), Zs, Zs]) z z (x_loadN (cs := [U6 (2:Int), U6 (1:Int), Zu, Zs, (.slice (some ⟨b119, 0, none⟩) 1 1), Zs, Zs]) z isAgg34 sizeOf34 (hst.bcs1 0 z)) ?_))))))
 have f146 : Ro tyF64 I (.slice none 0 0) [] := ro_nil
 have f147 : Ro tyF2 I (.slice none 0 0) [] := ro_nil
 have f148 : Ro (tyInt .u8) I (.slice none 0 0) [] := ro_nil
 have f149 : Ro tyF64 I (.slice none 0 0) [] := ro_nil
 have f150 : Ro tyF64 I (.slice none 0 0) [] := ro_nil
 have f151 : Ro (tyInt .u8) I (.slice none 0 0) [] := ro_nil
 replace hst := hst.pull4
 obtain ⟨css152, hq153, hst⟩ := hst.own_open
 replace hst := hst.pull3
 obtain ⟨css154, hq155, hst⟩ := hst.own_open
 obtain ⟨t156, ht157, hm⟩ := bind_some hm
 refine wc call19 [.agg #[U6 (1:Int), U6 (1:Int), Zu, Zs, Zs, (.slice (some ⟨b99, 0, none⟩) 1 1), Zs], .agg #[U6 (2:Int), U6 (1:Int), Zu, Zs, (.slice (some ⟨b119, 0, none⟩) 1 1), Zs, Zs]] z z z ?_
 refine (locks_Meet_ref (a0 := ({ ID := ({ Session := (1:Int), Seq := (1:Int) } : api_ID), Epoch := (0:Int), Gets := [], Scans := [], Puts := [(4607182418800017408:Nat)], Data := [] } : api_Hold)) (a1 := ({ ID := ({ Session := (2:Int), Seq := (1:Int) } : api_ID), Epoch := (0:Int), Gets := [], Scans := [((0:Nat), (4611686018427387904:Nat))], Puts := [], Data := [] } : api_Hold)) (f146.mono ro_rd) (f147.mono ro_rd) (hst.rdrow1 hq153) (f148.mono ro_rd) (f149.mono ro_rd) (hst.rdrow0 hq155) (f150.mono ro_rd) (f151.mono ro_rd) hst.to0 ht157).mono ?_
 rintro _ w158 ⟨rfl, hst⟩
 refine ⟨_, z, ?_⟩
 replace hst := hst.of0.pull1.own_close hq153
 replace hst := hst.pull1.own_close hq155
 refine wv (.bool t156) z z z ?_
 refine bsplit t156 (fun hc161 => ?_) (fun hc161 => ?_)
 {
 replace hm := bif_t hc161 hm
 refine wv (v144) ((wanted_eq z z z (cvb hc161)).trans z) z z (wv (.agg #[U6 (1:Int), U6 (1:Int), Zu, Zs, Zs, (.slice (some ⟨b99, 0, none⟩) 1 1), Zs]) ((wanted_eq z z z (cvb hc161)).trans z) z (x_loadN (cs := [U6 (1:Int), U6 (1:Int), Zu, Zs, Zs, (.slice (some ⟨b99, 0, none⟩) 1 1), Zs]) z isAgg34 sizeOf34 (hst.bcs4 0 z)) ?_)
 replace hst := hst.pull2
 replace hst := objO_some hst
 replace hst := hst.pull2
 obtain ⟨css162, hq163, hst⟩ := hst.own_open
 replace hst := hst.pull1
 obtain ⟨t164, ht165, hm⟩ := bind_some hm
 refine wl_call ((wanted_eq z z z (cvb hc161)).trans z) z (x_call call12 z (vs := [v144, .agg #[U6 (1:Int), U6 (1:Int), Zu, Zs, Zs, (.slice (some ⟨b99, 0, none⟩) 1 1), Zs]]) z) ?_
 refine (locks_Table_Take_ref (a1 := ({ ID := ({ Session := (1:Int), Seq := (1:Int) } : api_ID), Epoch := (0:Int), Gets := [], Scans := [], Puts := [(4607182418800017408:Nat)], Data := [] } : api_Hold)) (f146.mono ro_rd) (f147.mono ro_rd) (hst.sub.rdrow0 hq163) (f148.mono ro_rd) hst.to1 ht165).mono ?_
 rintro _ w166 ⟨I167, rfl, hI168, hst⟩
 refine ⟨_, z, ?_⟩
 replace hst := hst.of1
 replace f146 := f146.mono (ro_le hI168)
 replace f147 := f147.mono (ro_le hI168)
 replace f148 := f148.mono (ro_le hI168)
 replace f149 := f149.mono (ro_le hI168)
 replace f150 := f150.mono (ro_le hI168)
 replace f151 := f151.mono (ro_le hI168)
 replace hI0 := hI0.trans hI168
 replace hst := hst.pull1.own_close (hq163.imp fun _ _ => Ty.mono _ (ro_le hI168))
 replace hst := hst.pull1
 rcases he170 : t164.2 with _ | y169
 · rw [he170] at hm; cases hm
 rw [he170] at hm hst; dsimp only at hm; replace hst := objO_get hst
 refine wv (.bool (t164.1 == (0:Int))) ((wanted_eq z z z (cvb hc161)).trans z) z z (wv (.bool (t164.1 == (0:Int))) z z (x_pick_t hc161 z z) (wv (.bool (t164.1 == (0:Int))) z z z ?_))
 refine bsplit (t164.1 == (0:Int)) (fun hc171 => ?_) (fun hc171 => ?_)
 {
 replace hm := bif_t hc171 hm
 refine wv (v144) ((wanted_eq z z z (cvb hc171)).trans z) z z (wv (.agg #[U6 (2:Int), U6 (1:Int), Zu, Zs, (.slice (some ⟨b119, 0, none⟩) 1 1), Zs, Zs]) ((wanted_eq z z z (cvb hc171)).trans z) z (x_loadN (cs := [U6 (2:Int), U6 (1:Int), Zu, Zs, (.slice (some ⟨b119, 0, none⟩) 1 1), Zs, Zs]) z isAgg34 sizeOf34 (hst.bcs3 0 z)) ?_)
 replace hst := objO_some hst
 replace hst := hst.pull2
 obtain ⟨css172, hq173, hst⟩ := hst.own_open
 replace hst := hst.pull1
 obtain ⟨t174, ht175, hm⟩ := bind_some hm
 refine wl_call ((wanted_eq z z z (cvb hc171)).trans z) z (x_call call12 z (vs := [v144, .agg #[U6 (2:Int), U6 (1:Int), Zu, Zs, (.slice (some ⟨b119, 0, none⟩) 1 1), Zs, Zs]]) z) ?_
 refine (locks_Table_Take_ref (a1 := ({ ID := ({ Session := (2:Int), Seq := (1:Int) } : api_ID), Epoch := (0:Int), Gets := [], Scans := [((0:Nat), (4611686018427387904:Nat))], Puts := [], Data := [] } : api_Hold)) (f149.mono ro_rd) (hst.sub.rdrow0 hq173) (f150.mono ro_rd) (f151.mono ro_rd) hst.to1 ht175).mono ?_
 rintro _ w176 ⟨I177, rfl, hI178, hst⟩
 refine ⟨_, z, ?_⟩
 replace hst := hst.of1
 replace f146 := f146.mono (ro_le hI178)
 replace f147 := f147.mono (ro_le hI178)
 replace f148 := f148.mono (ro_le hI178)
 replace f149 := f149.mono (ro_le hI178)
 replace f150 := f150.mono (ro_le hI178)
 replace f151 := f151.mono (ro_le hI178)
 replace hI0 := hI0.trans hI178
 replace hst := hst.pull1.own_close (hq173.imp fun _ _ => Ty.mono _ (ro_le hI178))
 replace hst := hst.pull1
 rcases he180 : t174.2 with _ | y179
 · rw [he180] at hm; cases hm
 rw [he180] at hm hst; dsimp only at hm; replace hst := objO_get hst
 refine wv (.bool (t174.1 == (8:Int))) ((wanted_eq z z z (cvb hc171)).trans z) z z (wv (.bool (t174.1 == (8:Int))) z z (x_pick_t hc171 z z) (wv (.bool (t174.1 == (8:Int))) z z z ?_))
 refine bsplit (t174.1 == (8:Int)) (fun hc181 => ?_) (fun hc181 => ?_)
 {
 replace hm := bif_t hc181 hm
 refine wv (v144) ((wanted_eq z z z (cvb hc181)).trans z) z z ?_
 replace hst := objO_some hst
 obtain ⟨t182, ht183, hm⟩ := bind_some hm
 refine wl_call ((wanted_eq z z z (cvb hc181)).trans z) z (x_call call27 z (vs := [v144]) z) ?_
 refine (locks_Table_Len_ref hst.to1 ht183).mono ?_
 rintro _ w184 ⟨rfl, hst⟩
 refine ⟨_, z, ?_⟩
 replace hst := hst.of1
 replace hst := objO_get hst
 refine wv (.bool (t182 == (1:Int))) ((wanted_eq z z z (cvb hc181)).trans z) z z (wv (.bool (t182 == (1:Int))) z z (x_pick_t hc181 z z) (wv (.bool (t182 == (1:Int))) z z z (wl_nil (tn (wp_ret ?_)))))
 obtain rfl := some_inj hm
 refine post_ret (vs := [.bool (t182 == (1:Int))]) results9 (rvs_cons (rv_tmp z) rvs_nil) ?_
 exact ⟨_, z, hI0, hst.keep0⟩
}
 {
 replace hm := bif_f hc181 hm
 refine wo hc181 z z z z z z (wo hc181 z z z z z z (wo hc181 z z z z z z (wv (.bool false) z z (x_pick_f hc181 z z) (wv (.bool false) z z z (wl_nil (tn (wp_ret ?_)))))))
 obtain rfl := some_inj hm
 refine post_ret (vs := [.bool false]) results9 (rvs_cons (rv_tmp z) rvs_nil) ?_
 exact ⟨_, z, hI0, hst.keep0⟩
}
}
 {
 replace hm := bif_f hc171 hm
 refine wo hc171 z z z z z z (wo hc171 z z z z z z (wo hc171 z z z z z z (wo hc171 z z z z z z (wv (.bool false) z z (x_pick_f hc171 z z) (wv (.bool false) z z z (wz z z z z z z (wz z z z z z z (wz z z z z z z (wv (.bool false) z z (x_pick_f z z z) (wv (.bool false) z z z (wl_nil (tn (wp_ret ?_)))))))))))))
 obtain rfl := some_inj hm
 refine post_ret (vs := [.bool false]) results9 (rvs_cons (rv_tmp z) rvs_nil) ?_
 exact ⟨_, z, hI0, hst.keep0⟩
}
}
 {
 replace hm := bif_f hc161 hm
 refine wo hc161 z z z z z z (wo hc161 z z z z z z (wo hc161 z z z z z z (wo hc161 z z z z z z (wv (.bool false) z z (x_pick_f hc161 z z) (wv (.bool false) z z z (wz z z z z z z (wz z z z z z z (wz z z z z z z (wz z z z z z z (wv (.bool false) z z (x_pick_f z z z) (wv (.bool false) z z z (wz z z z z z z ?_))))))))))))
 refine wz z z z z z z (wz z z z z z z (wv (.bool false) z z (x_pick_f z z z) (wv (.bool false) z z z (wl_nil (tn (wp_ret ?_))))))
 obtain rfl := some_inj hm
 refine post_ret (vs := [.bool false]) results9 (rvs_cons (rv_tmp z) rvs_nil) ?_
 exact ⟨_, z, hI0, hst.keep0⟩
}
}

theorem law12_short_ref {w0 w : World} {I : HL} {R : SP} {a0 : api_Hold} {r0_0 : Value} {r0_1 : Value} {r0_2 : Value} {r0_3 : Value} (f0_0 : Rd tyF64 R I r0_0 a0.Gets) (f0_1 : Rd tyF2 R I r0_1 a0.Scans) (f0_2 : Rd tyF64 R I r0_2 a0.Puts) (f0_3 : Rd (tyInt .u8) R I r0_3 a0.Data) (hst : St w0 w I [] R) {r : (Bool)} (hm : law12_short a0 = some r) :
  Calls prog 11 #[.agg #[U6 a0.ID.Session, U6 a0.ID.Seq, U6 a0.Epoch, r0_0, r0_1, r0_2, r0_3]] w fun e w' => e = .returned (.bool r) ∧ St w0 w' I [] R := by {
 unfold law12_short at hm
 refine calls_start (args := [.agg #[U6 a0.ID.Session, U6 a0.ID.Seq, U6 a0.Epoch, r0_0, r0_1, r0_2, r0_3]]) func11 z ntmps11 (Nat.le_of_ble_eq_true z) ?_
 refine wp_seq (wrl ?_)
 obtain ⟨b38, w39, ew40, eb41, hst⟩ := hst.box [U6 a0.ID.Session, U6 a0.ID.Seq, U6 a0.Epoch, r0_0, r0_1, r0_2, r0_3] 34
 refine wl_run (v := Pt b38 0) (w' := w39) z z (x_al (by kernel_rfl) ew40 eb41) ?_
 refine wv (.bool false) z z z (wl_nil (tn (wp_seq (wrl (wv (Pt b38 3) z z (x_field z underlying34 z sizeOf30 z) (wv (r0_0) z z (x_load z isAgg30 (hst.bc0 z)) (wv (.int .i64 ((a0.Gets).length : Int)) z z (x_len z underlying30 (rd_sliceV f0_0)) (wv (.bool (decide (((a0.Gets).length : Int) ≤ (32:Int)))) z z z (wv (.bool (decide (((a0.Gets).length : Int) ≤ (32:Int)))) z z z ?_)))))))))
 refine bsplit (decide (((a0.Gets).length : Int) ≤ (32:Int))) (fun hc43 => ?_) (fun hc43 => ?_)
 {
 replace hm := bif_t hc43 hm
 refine wv (Pt b38 4) ((wanted_eq z z z (cvb hc43)).trans z) z (x_field z underlying34 z sizeOf31 z) (wv (r0_1) ((wanted_eq z z z (cvb hc43)).trans z) z (x_load z isAgg31 (hst.bc0 z)) (wv (.int .i64 ((a0.Scans).length : Int)) ((wanted_eq z z z (cvb hc43)).trans z) z (x_len z underlying31 (rd_sliceV f0_1)) (wv (.bool (decide (((a0.Scans).length : Int) ≤ (32:Int)))) ((wanted_eq z z z (cvb hc43)).trans z) z z (wv (.bool (decide (((a0.Scans).length : Int) ≤ (32:Int)))) z z (x_pick_t hc43 z z) (wv (.bool (decide (((a0.Scans).length : Int) ≤ (32:Int)))) z z z ?_)))))
 refine bsplit (decide (((a0.Scans).length : Int) ≤ (32:Int))) (fun hc44 => ?_) (fun hc44 => ?_)
 {
 replace hm := bif_t hc44 hm
 refine wv (Pt b38 5) ((wanted_eq z z z (cvb hc44)).trans z) z (x_field z underlying34 z sizeOf30 z) (wv (r0_2) ((wanted_eq z z z (cvb hc44)).trans z) z (x_load z isAgg30 (hst.bc0 z)) (wv (.int .i64 ((a0.Puts).length : Int)) ((wanted_eq z z z (cvb hc44)).trans z) z (x_len z underlying30 (rd_sliceV f0_2)) (wv (.bool (decide (((a0.Puts).length : Int) ≤ (32:Int)))) ((wanted_eq z z z (cvb hc44)).trans z) z z (wv (.bool (decide (((a0.Puts).length : Int) ≤ (32:Int)))) z z (x_pick_t hc44 z z) (wv (.bool (decide (((a0.Puts).length : Int) ≤ (32:Int)))) z z z ?_)))))
 refine bsplit (decide (((a0.Puts).length : Int) ≤ (32:Int))) (fun hc45 => ?_) (fun hc45 => ?_)
 {
 replace hm := bif_t hc45 hm
 refine wv (Pt b38 6) ((wanted_eq z z z (cvb hc45)).trans z) z (x_field z underlying34 z sizeOf32 z) (wv (r0_3) ((wanted_eq z z z (cvb hc45)).trans z) z (x_load z isAgg32 (hst.bc0 z)) (wv (.int .i64 ((a0.Data).length : Int)) ((wanted_eq z z z (cvb hc45)).trans z) z (x_len z underlying32 (rd_sliceV f0_3)) (wv (.bool (decide (((a0.Data).length : Int) ≤ (257:Int)))) ((wanted_eq z z z (cvb hc45)).trans z) z z (wv (.bool (decide (((a0.Data).length : Int) ≤ (257:Int)))) z z (x_pick_t hc45 z z) (wv (.bool (decide (((a0.Data).length : Int) ≤ (257:Int)))) z z z (wl_nil (tn (wp_ret ?_))))))))
 obtain rfl := some_inj hm
 refine post_ret (vs := [.bool (decide (((a0.Data).length : Int) ≤ (257:Int)))]) results11 (rvs_cons (rv_tmp z) rvs_nil) ?_
 exact ⟨z, hst.keep0⟩
}
 {
 replace hm := bif_f hc45 hm
 refine wo hc45 z z z z z z (wo hc45 z z z z z z (wo hc45 z z z z z z (wo hc45 z z z z z z (wv (.bool false) z z (x_pick_f hc45 z z) (wv (.bool false) z z z (wl_nil (tn (wp_ret ?_))))))))
 obtain rfl := some_inj hm
 refine post_ret (vs := [.bool false]) results11 (rvs_cons (rv_tmp z) rvs_nil) ?_
 exact ⟨z, hst.keep0⟩
}
}
 {
 replace hm := bif_f hc44 hm
 refine wo hc44 z z z z z z (wo hc44 z z z z z z (wo hc44 z z z z z z (wo hc44 z z z z z z (wv (.bool false) z z (x_pick_f hc44 z z) (wv (.bool false) z z z (wz z z z z z z (wz z z z z z z (wz z z z z z z (wz z z z z z z (wv (.bool false) z z (x_pick_f z z z) (wv (.bool false) z z z (wl_nil (tn (wp_ret ?_))))))))))))))
 obtain rfl := some_inj hm
 refine post_ret (vs := [.bool false]) results11 (rvs_cons (rv_tmp z) rvs_nil) ?_
 exact ⟨z, hst.keep0⟩
}
}
 {
 replace hm := bif_f hc43 hm
 refine wo hc43 z z z z z z (wo hc43 z z z z z z (wo hc43 z z z z z z (wo hc43 z z z z z z (wv (.bool false) z z (x_pick_f hc43 z z) (wv (.bool false) z z z (wz z z z z z z (wz z z z z z z (wz z z z z z z (wz z z z z z z (wv (.bool false) z z (x_pick_f z z z) (wv (.bool false) z z z (wz z z z z z z ?_))))))))))))
 refine wz z z z z z z (wz z z z z z z (wz z z z z z z (wv (.bool false) z z (x_pick_f z z z) (wv (.bool false) z z z (wl_nil (tn (wp_ret ?_)))))))
 obtain rfl := some_inj hm
 refine post_ret (vs := [.bool false]) results11 (rvs_cons (rv_tmp z) rvs_nil) ?_
 exact ⟨z, hst.keep0⟩
}
}

theorem octet_Writer_lay_ref {w0 w : World} {I : HL} {R : SP} {a0 : octet_Writer} {p0 : Value} {a1 : (List Int)} {r1_0 : Value} (f1_0 : Rd (tyInt .u8) R I r1_0 a1) (hst : St w0 w I [at_octet_Writer p0 a0] R) {r : (octet_Writer)} (hm : octet_Writer_lay a0 a1 = some r) :
  Calls prog 87 #[p0, r1_0] w fun e w' => e = .returned (p0) ∧ St w0 w' I [at_octet_Writer p0 r] R := by {
 unfold octet_Writer_lay at hm
 refine calls_start (args := [p0, r1_0]) func87 z ntmps87 (Nat.le_of_ble_eq_true z) ?_
 refine wp_seq (wrl (wv (.pointer none) z z z (wl_nil (tn (wp_seq (wrl (wv (p0) z z z (wv (p0) z z z ?_))))))))
 obtain ⟨b78, v79, rfl, hst'⟩ := at_octet_Writer_open hst
 clear hst
 have hst := hst'
 clear hst'
 refine wv (Pt b78 0) z z z (wv (Pt b78 0) z z (x_field z underlying68 z sizeOf32 z) (wv (v79) z z (x_load z isAgg32 (hst.bc0 z)) (wv (r1_0) z z z ?_)))
 obtain ⟨hg81, hm⟩ := gd_some hm
 replace hst := hst.pull1
 obtain ⟨v82, w83, hr84, hst⟩ := run_append elem_32 underlying32 hst (Src.of_rd hst f1_0 flat_int) (room_of hg81 z) 32
 refine wl_run (v := v82) (w' := w83) z z (x_append z z hr84) ?_
 refine wv (Pt b78 0) z z z (wv (Pt b78 0) z z (x_field z underlying68 z sizeOf32 z) ?_)
 replace hst := hst.pull1
 obtain ⟨w86, hr87, hst⟩ := hst.boxStore1 (P := prog) (t := 32) (cs' := [v82]) 0 v82 (one_of_sliceV hst.sv1) sizeOf32 z z
 refine wl_unit z z (x_unit hr87) ?_
 refine wl_nil (tn (wp_seq (wrl (wv (Pt b78 0) z z z (wv (Pt b78 0) z z z (wl_nil (tn (wp_ret ?_))))))))
 replace hst := hst.pull1.pull1
 replace hst := at_octet_Writer_close (pv := Pt b78 0) (x := ({ p := (a0.p ++ a1) } : octet_Writer)) hst z
 obtain rfl := some_inj hm
 refine post_ret (vs := [Pt b78 0]) results87 (rvs_cons (rv_tmp z) rvs_nil) ?_
 exact ⟨z, hst.keep1⟩
}

theorem octet_Writer_Num_ref {w0 w : World} {I : HL} {R : SP} {a0 : octet_Writer} {p0 : Value} {a1 : Int} {a2 : Int}  (hst : St w0 w I [at_octet_Writer p0 a0] R) {r : (octet_Writer)} (hm : octet_Writer_Num a0 a1 a2 = some r) :
  Calls prog 60 #[p0, U6 a1, I6 a2] w fun e w' => e = .returned (p0) ∧ St w0 w' I [at_octet_Writer p0 r] R := by {
 unfold octet_Writer_Num at hm
 refine calls_start (args := [p0, U6 a1, I6 a2]) func60 z ntmps60 (Nat.le_of_ble_eq_true z) ?_
 refine wp_seq (wrl (wv (.pointer none) z z z (wl_nil (tn (wp_seq (wp_seq (wrl (wv (.int .i64 a2) z z z (wv (.int .i64 (0:Int)) z z z (wl_nil (tn (wp_block ?_))))))))))))
 obtain ⟨n145, hm⟩ := loopO_some hm
 refine wp_loop_n (fun n a w => ∃ (z142 : octet_Writer) (z143 : Int) (σ144 : Nat → Value), loopN (octet_Writer_Num_l0 a2 a1) n (z142, z143) = some r ∧ a = Fr 22 (upd (upd (upd (upd σ144 0 (p0)) 1 (.int .u64 a1)) 8 (.int .i64 a2)) 9 (.int .i64 z143)) ∧ St w0 w I [at_octet_Writer p0 z142] R) n145 ⟨a0, (0:Int), _, hm, (fu 0 p0 z (fu 1 (.int .u64 a1) z (fu 8 (.int .i64 a2) z (fu 9 (.int .i64 (0:Int)) z z)))), hst⟩ ?_
 rintro n151 _ w146 ⟨z142, z143, σ144, hm, rfl, hst⟩
 obtain ⟨n148, y149, rfl, hm, hx150⟩ := loopN_some hm
 dsimp only [octet_Writer_Num_l0] at hm
 refine wp_seq (wrl (wv (.bool (decide (z143 < a2))) z z z (wl_nil (tn (wp_seq ?_)))))
 refine bsplit (decide (z143 < a2)) (fun hc152 => ?_) (fun hc152 => ?_)
 {
 replace hm := bif_t hc152 hm
 refine wp_ift (cvb hc152) ?_
 refine wp_skip (tn (wp_seq (wp_block (wp_seq (wrl ?_)))))
 refine wv (.int .i64 z143) z z z (wv (.int .i64 z143) z z z (wl_nil (tn (wrl (wv (p0) z z z (wv (.int .u64 a1) z z z (wv (.int .i64 z143) z z z (wv (.int .i64 (i64.wrap ((8:Int) * z143))) z z z ?_))))))))
 obtain ⟨hg153, hm⟩ := gd_some hm
 refine wv (.int .u64 (iShr .u64 a1 (i64.wrap ((8:Int) * z143)))) z z (x_shr (of_decide_eq_true hg153) z z) (wv (.int .u8 (u8.wrap (iShr .u64 a1 (i64.wrap ((8:Int) * z143))))) z z (by kernel_rfl) ?_)
 obtain ⟨b154, w155, ew156, eb157, hst⟩ := hst.lits (E := (tyInt .u8)) (xs := [(u8.wrap (iShr .u64 a1 (i64.wrap ((8:Int) * z143))))]) [[U1 (u8.wrap (iShr .u64 a1 (i64.wrap ((8:Int) * z143))))]] 5 1 z (Reps.cons z Reps.nil)
 refine wl_run (v := (.slice (some ⟨b154, 0, none⟩) 1 1)) (w' := w155) z z (x_als (by kernel_rfl) ew156 eb157) ?_
 obtain ⟨css159, hq160, hst⟩ := hst.own_open
 replace hst := hst.pull1
 obtain ⟨t161, ht162, hm⟩ := bind_some hm
 refine wc call87 [p0, (.slice (some ⟨b154, 0, none⟩) 1 1)] z z z ?_
 refine (octet_Writer_lay_ref (hst.sub.rdrow0 hq160) hst.to1 ht162).mono ?_
 rintro _ w163 ⟨rfl, hst⟩
 refine ⟨_, z, ?_⟩
 replace hst := hst.of1.pull1.own_close hq160
 refine wl_nil (blk_n (tn (wrl (wv (.int .i64 (i64.wrap (z143 + (1:Int)))) z z z (wv (.int .i64 (i64.wrap (z143 + (1:Int)))) z z z (wl_nil (tn ?_)))))))
 replace hst := hst.pull1.keep1
 obtain rfl := some_inj hm
 exact ⟨_, Nat.lt_succ_self _, t161, (i64.wrap (z143 + (1:Int))), _, hx150, (fu 0 p0 z (fu 1 (.int .u64 a1) z (fu 8 (.int .i64 a2) z (fu 9 (.int .i64 (i64.wrap (z143 + (1:Int)))) z z)))), hst⟩
}
 {
 replace hm := bif_f hc152 hm
 refine wp_iff (cvb hc152) ?_
 refine wp_exit (then_x (then_x ?_))
 replace hm := inr_up hm hx150
 refine blk_x (tn (wp_seq (wrl ?_)))
 refine wv (p0) z z z (wv (p0) z z z (wl_nil (tn (wp_ret ?_))))
 obtain rfl := some_inj hm
 refine post_ret (vs := [p0]) results60 (rvs_cons (rv_tmp z) rvs_nil) ?_
 exact ⟨z, hst.keep1⟩
}
}

theorem octet_Writer_Bytes_ref {w0 w : World} {I : HL} {R : SP} {a0 : octet_Writer} {p0 : Value} {a1 : (List Int)} {r1_0 : Value} (f1_0 : Rd (tyInt .u8) R I r1_0 a1) (hst : St w0 w I [at_octet_Writer p0 a0] R) {r : (octet_Writer)} (hm : octet_Writer_Bytes a0 a1 = some r) :
  Calls prog 62 #[p0, r1_0] w fun e w' => e = .returned (p0) ∧ St w0 w' I [at_octet_Writer p0 r] R := by {
 unfold octet_Writer_Bytes at hm
 refine calls_start (args := [p0, r1_0]) func62 z ntmps62 (Nat.le_of_ble_eq_true z) ?_
 refine wp_seq (wrl (wv (.pointer none) z z z (wl_nil (tn (wp_seq (wrl (wv (p0) z z z (wv (r1_0) z z z (wv (.int .i64 ((a1).length : Int)) z z (x_len z underlying32 (rd_sliceV f1_0)) (wv (.int .u64 (u64.wrap ((a1).length : Int))) z z (by kernel_rfl) ?_))))))))))
 obtain ⟨t349, ht350, hm⟩ := bind_some hm
 refine wc call60 [p0, U6 (u64.wrap ((a1).length : Int)), I6 (4:Int)] z z z ?_
 refine (octet_Writer_Num_ref hst.to1 ht350).mono ?_
 rintro _ w351 ⟨rfl, hst⟩
 refine ⟨_, z, ?_⟩
 replace hst := hst.of1
 refine wv (r1_0) z z z ?_
 obtain ⟨t354, ht355, hm⟩ := bind_some hm
 refine wc call87 [p0, r1_0] z z z ?_
 refine (octet_Writer_lay_ref (f1_0.mono (rd_weak _)) hst.to1 ht355).mono ?_
 rintro _ w356 ⟨rfl, hst⟩
 refine ⟨_, z, ?_⟩
 replace hst := hst.of1
 refine wv (p0) z z z (wl_nil (tn (wp_ret ?_)))
 obtain rfl := some_inj hm
 refine post_ret (vs := [p0]) results62 (rvs_cons (rv_tmp z) rvs_nil) ?_
 exact ⟨z, hst.keep1⟩
}

theorem locks_Lay_ref {w0 w : World} {I : HL} {R : SP} {a0 : octet_Writer} {p0 : Value} {a1 : api_Hold} {r1_0 : Value} {r1_1 : Value} {r1_2 : Value} {r1_3 : Value} (f1_0 : Rd tyF64 R I r1_0 a1.Gets) (f1_1 : Rd tyF2 R I r1_1 a1.Scans) (f1_2 : Rd tyF64 R I r1_2 a1.Puts) (f1_3 : Rd (tyInt .u8) R I r1_3 a1.Data) (hst : St w0 w I [at_octet_Writer p0 a0] R) {r : (octet_Writer)} (hm : locks_Lay a0 a1 = some r) :
  Calls prog 31 #[p0, .agg #[U6 a1.ID.Session, U6 a1.ID.Seq, U6 a1.Epoch, r1_0, r1_1, r1_2, r1_3]] w fun e w' => e = .returned (.tuple #[]) ∧ St w0 w' I [at_octet_Writer p0 r] R := by {
 unfold locks_Lay at hm
 refine calls_start (args := [p0, .agg #[U6 a1.ID.Session, U6 a1.ID.Seq, U6 a1.Epoch, r1_0, r1_1, r1_2, r1_3]]) func31 z ntmps31 (Nat.le_of_ble_eq_true z) ?_
 refine wp_seq (wrl ?_)
 obtain ⟨b345, w346, ew347, eb348, hst⟩ := hst.box [U6 a1.ID.Session, U6 a1.ID.Seq, U6 a1.Epoch, r1_0, r1_1, r1_2, r1_3] 34
 refine wl_run (v := Pt b345 0) (w' := w346) z z (x_al (by kernel_rfl) ew347 eb348) ?_
 refine wl_nil (tn (wp_seq ?_))
 refine wp_region_St hst 17 [0, 1, 2, 3, 4, 5, 6, 7, 8, 9, 10, 11, 12, 13, 14, 15, 16] [0, 0, 2, 6, 15, 0, 32, 96, 255, 0, 512, 2047, 0, 4096, 12288, 28672, 65535] [] z (by kernel_rfl) (by kernel_rfl) Try.mixed (by kernel_rfl) ?_
 refine wsr (p0) 0 z z z (by kernel_rfl) (fun w hst => z) (wsr (Pt b345 0) 1 z z z (by kernel_rfl) (fun w hst => x_field z underlying34 z sizeOf29 z) (wsr (Pt b345 0) 2 z z z (by kernel_rfl) (fun w hst => x_field z underlying29 z sizeOf27 z) (wsr (.int .u64 a1.ID.Session) 3 z z z (by kernel_rfl) (fun w hst => x_load z isAgg27 (hst.bc0 z)) (wsr (Pt b345 0) 5 z z z (by kernel_rfl) (fun w hst => x_field z underlying34 z sizeOf29 z) (wsr (Pt b345 1) 6 z z z (by kernel_rfl) (fun w hst => x_field z underlying29 z sizeOf27 z) (wsr (.int .u64 a1.ID.Seq) 7 z z z (by kernel_rfl) (fun w hst => x_load z isAgg27 (hst.bc0 z)) (wsr (Pt b345 2) 9 z z z (by kernel_rfl) (fun w hst => x_field z underlying34 z sizeOf27 z) (wsr (.int .u64 a1.Epoch) 10 z z z (by kernel_rfl) (fun w hst => x_load z isAgg27 (hst.bc0 z)) (wsr (Pt b345 3) 12 z z z (by kernel_rfl) (fun w hst => x_field z underlying34 z sizeOf30 z) (wsr (r1_0) 13 z z z (by kernel_rfl) (fun w hst => x_load z isAgg30 (hst.bc0 z)) (wsr (.int .i64 ((a1.Gets).length : Int)) 14 z z z (by kernel_rfl) (fun w hst => x_len z underlying30 (rd_sliceV f1_0)) (wsr (.int .u64 (u64.wrap ((a1.Gets).length : Int))) 15 z z z (by kernel_rfl) (fun w hst => by kernel_rfl) ?_))))))))))))
 refine ws_e1 4 (by kernel_rfl) ?_
 refine nxe [8, 11, 16] (by kernel_rfl) z z ?_
 clear hst
 intro w hst
 replace hst := hst.pull1
 obtain ⟨t350, ht351, hm⟩ := bind_some hm
 refine wec call60 [p0, U6 a1.ID.Session, I6 (8:Int)] z z ?_
 refine (octet_Writer_Num_ref hst.to1 ht351).mono ?_
 rintro _ w352 ⟨rfl, hst⟩
 refine ⟨_, z, ?_⟩
 replace hst := hst.of1
 refine ws_next (pend' := [(15, U6 (u64.wrap ((a1.Gets).length : Int))), (14, I6 ((a1.Gets).length : Int)), (13, r1_0), (12, Pt b345 3), (10, U6 a1.Epoch), (9, Pt b345 2), (7, U6 a1.ID.Seq), (6, Pt b345 1), (5, Pt b345 0)]) hst (by kernel_rfl) (pkr z z (fun w hst => by kernel_rfl) (pkr z z (fun w hst => x_len z underlying30 (rd_sliceV f1_0)) (pkr z z (fun w hst => x_load z isAgg30 (hst.bc1 z)) (pkr z z (fun w hst => x_field z underlying34 z sizeOf30 z) (pkr z z (fun w hst => x_load z isAgg27 (hst.bc1 z)) (pkr z z (fun w hst => x_field z underlying34 z sizeOf27 z) (pkr z z (fun w hst => x_load z isAgg27 (hst.bc1 z)) (pkr z z (fun w hst => x_field z underlying29 z sizeOf27 z) (pkr z z (fun w hst => x_field z underlying34 z sizeOf29 z) pk_nil))))))))) ?_
 refine ws_e1 8 (by kernel_rfl) ?_
 refine nxe [11, 16] (by kernel_rfl) z z ?_
 clear hst
 intro w hst
 obtain ⟨t355, ht356, hm⟩ := bind_some hm
 refine wec call60 [p0, U6 a1.ID.Seq, I6 (8:Int)] z z ?_
 refine (octet_Writer_Num_ref hst.to1 ht356).mono ?_
 rintro _ w357 ⟨rfl, hst⟩
 refine ⟨_, z, ?_⟩
 replace hst := hst.of1
 refine ws_next (pend' := [(15, U6 (u64.wrap ((a1.Gets).length : Int))), (14, I6 ((a1.Gets).length : Int)), (13, r1_0), (12, Pt b345 3), (10, U6 a1.Epoch), (9, Pt b345 2)]) hst (by kernel_rfl) (pkr z z (fun w hst => by kernel_rfl) (pkr z z (fun w hst => x_len z underlying30 (rd_sliceV f1_0)) (pkr z z (fun w hst => x_load z isAgg30 (hst.bc1 z)) (pkr z z (fun w hst => x_field z underlying34 z sizeOf30 z) (pkr z z (fun w hst => x_load z isAgg27 (hst.bc1 z)) (pkr z z (fun w hst => x_field z underlying34 z sizeOf27 z) pk_nil)))))) ?_
 refine ws_e1 11 (by kernel_rfl) ?_
 refine nxe [16] (by kernel_rfl) z z ?_
 clear hst
 intro w hst
 obtain ⟨t360, ht361, hm⟩ := bind_some hm
 refine wec call60 [p0, U6 a1.Epoch, I6 (8:Int)] z z ?_
 refine (octet_Writer_Num_ref hst.to1 ht361).mono ?_
 rintro _ w362 ⟨rfl, hst⟩
 refine ⟨_, z, ?_⟩
 replace hst := hst.of1
 refine ws_next (pend' := [(15, U6 (u64.wrap ((a1.Gets).length : Int))), (14, I6 ((a1.Gets).length : Int)), (13, r1_0), (12, Pt b345 3)]) hst (by kernel_rfl) (pkr z z (fun w hst => by kernel_rfl) (pkr z z (fun w hst => x_len z underlying30 (rd_sliceV f1_0)) (pkr z z (fun w hst => x_load z isAgg30 (hst.bc1 z)) (pkr z z (fun w hst => x_field z underlying34 z sizeOf30 z) pk_nil)))) ?_
 refine ws_e1 16 (by kernel_rfl) ?_
 refine nxe [] (by kernel_rfl) z z ?_
 clear hst
 intro w hst
 obtain ⟨t365, ht366, hm⟩ := bind_some hm
 refine wec call60 [p0, U6 (u64.wrap ((a1.Gets).length : Int)), I6 (4:Int)] z z ?_
 refine (octet_Writer_Num_ref hst.to1 ht366).mono ?_
 rintro _ w367 ⟨rfl, hst⟩
 refine ⟨_, z, ?_⟩
 replace hst := hst.of1
 refine ws_next (pend' := []) hst (by kernel_rfl) pk_nil ?_
 refine ws_nil ?_
 intro w hst
 refine tn ?_
 obtain ⟨y433, hm, hx434⟩ := bind_some hm
 refine wp_cut (fun a w => ∃ (z430 : octet_Writer) (σ431 : Nat → Value), (locks_Lay_j0 a1) z430 = some r ∧ a = Fr 84 (upd (upd σ431 0 (p0)) 3 (Pt b345 0)) ∧ St w0 w I [at_octet_Writer p0 z430, cells b345 [U6 a1.ID.Session, U6 a1.ID.Seq, U6 a1.Epoch, r1_0, r1_1, r1_2, r1_3]] R) ?_ ?_
 {
 refine wp_seq (wrl (wv (Pt b345 3) z z (x_field z underlying34 z sizeOf30 z) (wv (r1_0) z z (x_load z isAgg30 (hst.bc1 z)) (wv (.int .i64 ((a1.Gets).length : Int)) z z (x_len z underlying30 (rd_sliceV f1_0)) (wv (.int .i64 (0:Int)) z z z (wl_nil (tn (wp_block ?_))))))))
 obtain ⟨n407, hm⟩ := loopO_some hm
 refine wp_loop_n (fun n a w => ∃ (z404 : octet_Writer) (z405 : Int) (σ406 : Nat → Value), loopN (locks_Lay_l1 a1) n (z404, z405) = some y433 ∧ a = Fr 84 (upd (upd (upd (upd (upd σ406 0 (p0)) 3 (Pt b345 0)) 28 (r1_0)) 29 (.int .i64 ((a1.Gets).length : Int))) 30 (.int .i64 z405)) ∧ St w0 w I [at_octet_Writer p0 z404, cells b345 [U6 a1.ID.Session, U6 a1.ID.Seq, U6 a1.Epoch, r1_0, r1_1, r1_2, r1_3]] R) n407 ⟨t365, (0:Int), _, hm, (fu 0 p0 z (fu 3 (Pt b345 0) z (fu 28 r1_0 z (fu 29 (.int .i64 ((a1.Gets).length : Int)) z (fu 30 (.int .i64 (0:Int)) z z))))), hst⟩ ?_
 rintro n413 _ w408 ⟨z404, z405, σ406, hm, rfl, hst⟩
 obtain ⟨n410, y411, rfl, hm, hx412⟩ := loopN_some hm
 dsimp only [locks_Lay_l1] at hm
 refine wp_seq (wrl (wv (.bool (decide (z405 < ((a1.Gets).length : Int)))) z z z (wl_nil (tn (wp_seq ?_)))))
 refine bsplit (decide (z405 < ((a1.Gets).length : Int))) (fun hc414 => ?_) (fun hc414 => ?_)
 {
 replace hm := bif_t hc414 hm
 refine wp_ift (cvb hc414) ?_
 refine wp_skip (tn (wp_seq (wp_block (wp_seq (wrl ?_)))))
 obtain ⟨x415, hx416, hm⟩ := bind_some hm
 obtain ⟨h417, h418, hi419⟩ := geto_some hx416
 refine wv (.pointer (some (eAddr r1_0 (z405.toNat * 1 + 0)))) z z (x_index z z underlying30 sizeOf57 (rd_sliceV f1_0) h417 h418) (wv (.float .f64 x415) z z (x_load z isAgg57 (rd_load f1_0 (HL.le.refl _) hst hi419 (by rintro _ rfl; rfl))) (wv (.float .f64 x415) z z z (wl_nil (tn (wrl (wv (p0) z z z (wv (.float .f64 x415) z z z ?_)))))))
 obtain ⟨t420, ht421, hm⟩ := bind_some hm
 refine wc call61 [F6 x415] z z z ?_
 refine (number_Rank_ref hst.to0 ht421).mono ?_
 rintro _ w422 ⟨rfl, hst⟩
 refine ⟨_, z, ?_⟩
 replace hst := hst.of0
 obtain ⟨t425, ht426, hm⟩ := bind_some hm
 refine wc call60 [p0, U6 t420, I6 (8:Int)] z z z ?_
 refine (octet_Writer_Num_ref hst.to1 ht426).mono ?_
 rintro _ w427 ⟨rfl, hst⟩
 refine ⟨_, z, ?_⟩
 replace hst := hst.of1
 refine wl_nil (blk_n (tn (wrl (wv (.int .i64 (i64.wrap (z405 + (1:Int)))) z z z (wv (.int .i64 (i64.wrap (z405 + (1:Int)))) z z z (wl_nil (tn ?_)))))))
 replace hst := hst.pull1.pull1.keep2
 obtain rfl := some_inj hm
 exact ⟨_, Nat.lt_succ_self _, t425, (i64.wrap (z405 + (1:Int))), _, hx412, (fu 0 p0 z (fu 3 (Pt b345 0) z (fu 28 r1_0 z (fu 29 (.int .i64 ((a1.Gets).length : Int)) z (fu 30 (.int .i64 (i64.wrap (z405 + (1:Int)))) z z))))), hst⟩
}
 {
 replace hm := bif_f hc414 hm
 refine wp_iff (cvb hc414) ?_
 refine wp_exit (then_x (then_x ?_))
 replace hm := inr_up hm hx412
 refine blk_x (tn ?_)
 replace hst := hst.pull1.pull1.keep2
 obtain rfl := some_inj hm
 exact ⟨z404, _, hx434, (fu 0 p0 z (fu 3 (Pt b345 0) z z)), hst⟩
}
}
 {
 clear hst
 rintro _ w435 ⟨z430, σ431, hm, rfl, hst⟩
 dsimp only [locks_Lay_j0] at hm
 refine wp_seq (wrl (wv (p0) z z z (wv (Pt b345 4) z z (x_field z underlying34 z sizeOf31 z) (wv (r1_1) z z (x_load z isAgg31 (hst.bc1 z)) (wv (.int .i64 ((a1.Scans).length : Int)) z z (x_len z underlying31 (rd_sliceV f1_1)) (wv (.int .u64 (u64.wrap ((a1.Scans).length : Int))) z z (by kernel_rfl) ?_))))))
 obtain ⟨t436, ht437, hm⟩ := bind_some hm
 refine wc call60 [p0, U6 (u64.wrap ((a1.Scans).length : Int)), I6 (4:Int)] z z z ?_
 refine (octet_Writer_Num_ref hst.to1 ht437).mono ?_
 rintro _ w438 ⟨rfl, hst⟩
 refine ⟨_, z, ?_⟩
 replace hst := hst.of1
 refine wl_nil (tn ?_)
 obtain ⟨y555, hm, hx556⟩ := bind_some hm
 refine wp_cut (fun a w => ∃ (z552 : octet_Writer) (σ553 : Nat → Value), (locks_Lay_j2 a1) z552 = some r ∧ a = Fr 84 (upd (upd σ553 0 (p0)) 3 (Pt b345 0)) ∧ St w0 w I [at_octet_Writer p0 z552, cells b345 [U6 a1.ID.Session, U6 a1.ID.Seq, U6 a1.Epoch, r1_0, r1_1, r1_2, r1_3]] R) ?_ ?_
 {
 refine wp_seq (wrl (wv (Pt b345 4) z z (x_field z underlying34 z sizeOf31 z) (wv (r1_1) z z (x_load z isAgg31 (hst.bc1 z)) (wv (.int .i64 ((a1.Scans).length : Int)) z z (x_len z underlying31 (rd_sliceV f1_1)) (wv (.int .i64 (0:Int)) z z z (wl_nil (tn (wp_block ?_))))))))
 obtain ⟨n512, hm⟩ := loopO_some hm
 refine wp_loop_n (fun n a w => ∃ (z509 : octet_Writer) (z510 : Int) (σ511 : Nat → Value), loopN (locks_Lay_l3 a1) n (z509, z510) = some y555 ∧ a = Fr 84 (upd (upd (upd (upd (upd σ511 0 (p0)) 3 (Pt b345 0)) 46 (r1_1)) 47 (.int .i64 ((a1.Scans).length : Int))) 48 (.int .i64 z510)) ∧ St w0 w I [at_octet_Writer p0 z509, cells b345 [U6 a1.ID.Session, U6 a1.ID.Seq, U6 a1.Epoch, r1_0, r1_1, r1_2, r1_3]] R) n512 ⟨t436, (0:Int), _, hm, (fu 0 p0 z (fu 3 (Pt b345 0) z (fu 46 r1_1 z (fu 47 (.int .i64 ((a1.Scans).length : Int)) z (fu 48 (.int .i64 (0:Int)) z z))))), hst⟩ ?_
 rintro n518 _ w513 ⟨z509, z510, σ511, hm, rfl, hst⟩
 obtain ⟨n515, y516, rfl, hm, hx517⟩ := loopN_some hm
 dsimp only [locks_Lay_l3] at hm
 refine wp_seq (wrl (wv (.bool (decide (z510 < ((a1.Scans).length : Int)))) z z z (wl_nil (tn (wp_seq ?_)))))
 refine bsplit (decide (z510 < ((a1.Scans).length : Int))) (fun hc519 => ?_) (fun hc519 => ?_)
 {
 replace hm := bif_t hc519 hm
 refine wp_ift (cvb hc519) ?_
 refine wp_skip (tn (wp_seq (wp_block (wp_seq (wrl ?_)))))
 obtain ⟨x520, hx521, hm⟩ := bind_some hm
 obtain ⟨h522, h523, hi524⟩ := geto_some hx521
 refine wv (.pointer (some (eAddr r1_1 (z510.toNat * 2 + 0)))) z z (x_index z z underlying31 sizeOf75 (rd_sliceV f1_1) h522 h523) (wv (.agg #[F6 x520.1, F6 x520.2]) z z (x_loadN (cs := [F6 x520.1, F6 x520.2]) z isAgg75 sizeOf75 (rd_loadN f1_1 (HL.le.refl _) hst hi524 0 (by rintro _ rfl; rfl))) ?_)
 obtain ⟨b525, w526, ew527, eb528, hst⟩ := hst.box [Zf, Zf] 75
 refine wl_run (v := Pt b525 0) (w' := w526) z z (x_al (by kernel_rfl) ew527 eb528) ?_
 obtain ⟨w530, hr531, hst⟩ := hst.bx [F6 x520.1, F6 x520.2] sizeOf75 z (oC z (oC z oN)) (by kernel_rfl)
 refine wl_unit z z (x_unit hr531) ?_
 refine wl_nil (tn ?_)
 refine wp_region_St hst 9 [0, 1, 2, 3, 4, 5, 6, 7, 8] [0, 0, 2, 6, 15, 0, 32, 127, 255] [] z (by kernel_rfl) (by kernel_rfl) Try.mixed (by kernel_rfl) ?_
 refine wsr (p0) 0 z z z (by kernel_rfl) (fun w hst => z) (wsr (Pt b525 0) 1 z z z (by kernel_rfl) (fun w hst => x_index_arr (i := (0:Int)) z z underlying75 sizeOf57 (by decide) (by decide)) (wsr (.float .f64 x520.1) 2 z z z (by kernel_rfl) (fun w hst => x_load z isAgg57 (hst.bc0 z)) (wsr (Pt b525 1) 5 z z z (by kernel_rfl) (fun w hst => x_index_arr (i := (1:Int)) z z underlying75 sizeOf57 (by decide) (by decide)) (wsr (.float .f64 x520.2) 6 z z z (by kernel_rfl) (fun w hst => x_load z isAgg57 (hst.bc0 z)) ?_))))
 refine ws_e1 3 (by kernel_rfl) ?_
 refine nxe [4, 7, 8] (by kernel_rfl) z z ?_
 clear hst
 intro w hst
 obtain ⟨t532, ht533, hm⟩ := bind_some hm
 refine wec call61 [F6 x520.1] z z ?_
 refine (number_Rank_ref hst.to0 ht533).mono ?_
 rintro _ w534 ⟨rfl, hst⟩
 refine ⟨_, z, ?_⟩
 replace hst := hst.of0
 refine ws_next (pend' := [(6, F6 x520.2), (5, Pt b525 1), (0, p0)]) hst (by kernel_rfl) (pkr z z (fun w hst => x_load z isAgg57 (hst.bc0 z)) (pkr z z (fun w hst => x_index_arr (i := (1:Int)) z z underlying75 sizeOf57 (by decide) (by decide)) (pkr z z (fun w hst => z) pk_nil))) ?_
 refine ws_e1 4 (by kernel_rfl) ?_
 refine nxe [7, 8] (by kernel_rfl) z z ?_
 clear hst
 intro w hst
 replace hst := hst.pull1
 obtain ⟨t537, ht538, hm⟩ := bind_some hm
 refine wec call60 [p0, U6 t532, I6 (8:Int)] z z ?_
 refine (octet_Writer_Num_ref hst.to1 ht538).mono ?_
 rintro _ w539 ⟨rfl, hst⟩
 refine ⟨_, z, ?_⟩
 replace hst := hst.of1
 refine ws_next (pend' := [(6, F6 x520.2), (5, Pt b525 1)]) hst (by kernel_rfl) (pkr z z (fun w hst => x_load z isAgg57 (hst.bc1 z)) (pkr z z (fun w hst => x_index_arr (i := (1:Int)) z z underlying75 sizeOf57 (by decide) (by decide)) pk_nil)) ?_
 refine ws_e1 7 (by kernel_rfl) ?_
 refine nxe [8] (by kernel_rfl) z z ?_
 clear hst
 intro w hst
 obtain ⟨t542, ht543, hm⟩ := bind_some hm
 refine wec call61 [F6 x520.2] z z ?_
 refine (number_Rank_ref hst.to0 ht543).mono ?_
 rintro _ w544 ⟨rfl, hst⟩
 refine ⟨_, z, ?_⟩
 replace hst := hst.of0
 refine ws_next (pend' := []) hst (by kernel_rfl) pk_nil ?_
 refine ws_e1 8 (by kernel_rfl) ?_
 refine nxe [] (by kernel_rfl) z z ?_
 clear hst
 intro w hst
 obtain ⟨t547, ht548, hm⟩ := bind_some hm
 refine wec call60 [p0, U6 t542, I6 (8:Int)] z z ?_
 refine (octet_Writer_Num_ref hst.to1 ht548).mono ?_
 rintro _ w549 ⟨rfl, hst⟩
 refine ⟨_, z, ?_⟩
 replace hst := hst.of1
 refine ws_next (pend' := []) hst (by kernel_rfl) pk_nil ?_
 refine ws_nil ?_
 intro w hst
 refine blk_n (tn (wrl ?_))
 refine wv (.int .i64 (i64.wrap (z510 + (1:Int)))) z z z (wv (.int .i64 (i64.wrap (z510 + (1:Int)))) z z z (wl_nil (tn ?_)))
 replace hst := hst.pull2.pull1.keep2
 obtain rfl := some_inj hm
 exact ⟨_, Nat.lt_succ_self _, t547, (i64.wrap (z510 + (1:Int))), _, hx517, (fu 0 p0 z (fu 3 (Pt b345 0) z (fu 46 r1_1 z (fu 47 (.int .i64 ((a1.Scans).length : Int)) z (fu 48 (.int .i64 (i64.wrap (z510 + (1:Int)))) z z))))), hst⟩
}
 {
 replace hm := bif_f hc519 hm
 refine wp_iff (cvb hc519) ?_
 refine wp_exit (then_x (then_x ?_))
 replace hm := inr_up hm hx517
 refine blk_x (tn ?_)
 replace hst := hst.pull1.pull1.keep2
 obtain rfl := some_inj hm
 exact ⟨z509, _, hx556, (fu 0 p0 z (fu 3 (Pt b345 0) z z)), hst⟩
}
}
 {
 clear hst
 rintro _ w557 ⟨z552, σ553, hm, rfl, hst⟩
 dsimp only [locks_Lay_j2] at hm
 refine wp_seq (wrl (wv (p0) z z z (wv (Pt b345 5) z z (x_field z underlying34 z sizeOf30 z) (wv (r1_2) z z (x_load z isAgg30 (hst.bc1 z)) (wv (.int .i64 ((a1.Puts).length : Int)) z z (x_len z underlying30 (rd_sliceV f1_2)) (wv (.int .u64 (u64.wrap ((a1.Puts).length : Int))) z z (by kernel_rfl) ?_))))))
 obtain ⟨t558, ht559, hm⟩ := bind_some hm
 refine wc call60 [p0, U6 (u64.wrap ((a1.Puts).length : Int)), I6 (4:Int)] z z z ?_
 refine (octet_Writer_Num_ref hst.to1 ht559).mono ?_
 rintro _ w560 ⟨rfl, hst⟩
 refine ⟨_, z, ?_⟩
 replace hst := hst.of1
 refine wl_nil (tn ?_)
 obtain ⟨y626, hm, hx627⟩ := bind_some hm
 refine wp_cut (fun a w => ∃ (z623 : octet_Writer) (σ624 : Nat → Value), (locks_Lay_j4 a1) z623 = some r ∧ a = Fr 84 (upd (upd σ624 0 (p0)) 3 (Pt b345 0)) ∧ St w0 w I [at_octet_Writer p0 z623, cells b345 [U6 a1.ID.Session, U6 a1.ID.Seq, U6 a1.Epoch, r1_0, r1_1, r1_2, r1_3]] R) ?_ ?_
 {
 refine wp_seq (wrl (wv (Pt b345 5) z z (x_field z underlying34 z sizeOf30 z) (wv (r1_2) z z (x_load z isAgg30 (hst.bc1 z)) (wv (.int .i64 ((a1.Puts).length : Int)) z z (x_len z underlying30 (rd_sliceV f1_2)) (wv (.int .i64 (0:Int)) z z z (wl_nil (tn (wp_block ?_))))))))
 obtain ⟨n600, hm⟩ := loopO_some hm
 refine wp_loop_n (fun n a w => ∃ (z597 : octet_Writer) (z598 : Int) (σ599 : Nat → Value), loopN (locks_Lay_l5 a1) n (z597, z598) = some y626 ∧ a = Fr 84 (upd (upd (upd (upd (upd σ599 0 (p0)) 3 (Pt b345 0)) 69 (r1_2)) 70 (.int .i64 ((a1.Puts).length : Int))) 71 (.int .i64 z598)) ∧ St w0 w I [at_octet_Writer p0 z597, cells b345 [U6 a1.ID.Session, U6 a1.ID.Seq, U6 a1.Epoch, r1_0, r1_1, r1_2, r1_3]] R) n600 ⟨t558, (0:Int), _, hm, (fu 0 p0 z (fu 3 (Pt b345 0) z (fu 69 r1_2 z (fu 70 (.int .i64 ((a1.Puts).length : Int)) z (fu 71 (.int .i64 (0:Int)) z z))))), hst⟩ ?_
 rintro n606 _ w601 ⟨z597, z598, σ599, hm, rfl, hst⟩
 obtain ⟨n603, y604, rfl, hm, hx605⟩ := loopN_some hm
 dsimp only [locks_Lay_l5] at hm
 refine wp_seq (wrl (wv (.bool (decide (z598 < ((a1.Puts).length : Int)))) z z z (wl_nil (tn (wp_seq ?_)))))
 refine bsplit (decide (z598 < ((a1.Puts).length : Int))) (fun hc607 => ?_) (fun hc607 => ?_)
 {
 replace hm := bif_t hc607 hm
 refine wp_ift (cvb hc607) ?_
 refine wp_skip (tn (wp_seq (wp_block (wp_seq (wrl ?_)))))
 obtain ⟨x608, hx609, hm⟩ := bind_some hm
 obtain ⟨h610, h611, hi612⟩ := geto_some hx609
 refine wv (.pointer (some (eAddr r1_2 (z598.toNat * 1 + 0)))) z z (x_index z z underlying30 sizeOf57 (rd_sliceV f1_2) h610 h611) (wv (.float .f64 x608) z z (x_load z isAgg57 (rd_load f1_2 (HL.le.refl _) hst hi612 (by rintro _ rfl; rfl))) (wv (.float .f64 x608) z z z (wl_nil (tn (wrl (wv (p0) z z z (wv (.float .f64 x608) z z z ?_)))))))
 obtain ⟨t613, ht614, hm⟩ := bind_some hm
 refine wc call61 [F6 x608] z z z ?_
 refine (number_Rank_ref hst.to0 ht614).mono ?_
 rintro _ w615 ⟨rfl, hst⟩
 refine ⟨_, z, ?_⟩
 replace hst := hst.of0
 obtain ⟨t618, ht619, hm⟩ := bind_some hm
 refine wc call60 [p0, U6 t613, I6 (8:Int)] z z z ?_
 refine (octet_Writer_Num_ref hst.to1 ht619).mono ?_
 rintro _ w620 ⟨rfl, hst⟩
 refine ⟨_, z, ?_⟩
 replace hst := hst.of1
 refine wl_nil (blk_n (tn (wrl (wv (.int .i64 (i64.wrap (z598 + (1:Int)))) z z z (wv (.int .i64 (i64.wrap (z598 + (1:Int)))) z z z (wl_nil (tn ?_)))))))
 replace hst := hst.pull1.pull1.keep2
 obtain rfl := some_inj hm
 exact ⟨_, Nat.lt_succ_self _, t618, (i64.wrap (z598 + (1:Int))), _, hx605, (fu 0 p0 z (fu 3 (Pt b345 0) z (fu 69 r1_2 z (fu 70 (.int .i64 ((a1.Puts).length : Int)) z (fu 71 (.int .i64 (i64.wrap (z598 + (1:Int)))) z z))))), hst⟩
}
 {
 replace hm := bif_f hc607 hm
 refine wp_iff (cvb hc607) ?_
 refine wp_exit (then_x (then_x ?_))
 replace hm := inr_up hm hx605
 refine blk_x (tn ?_)
 replace hst := hst.pull1.pull1.keep2
 obtain rfl := some_inj hm
 exact ⟨z597, _, hx627, (fu 0 p0 z (fu 3 (Pt b345 0) z z)), hst⟩
}
}
 {
 clear hst
 rintro _ w628 ⟨z623, σ624, hm, rfl, hst⟩
 dsimp only [locks_Lay_j4] at hm
 refine wrl (wv (p0) z z z (wv (Pt b345 6) z z (x_field z underlying34 z sizeOf32 z) (wv (r1_3) z z (x_load z isAgg32 (hst.bc1 z)) ?_)))
 obtain ⟨t629, ht630, hm⟩ := bind_some hm
 refine wc call62 [p0, r1_3] z z z ?_
 refine (octet_Writer_Bytes_ref (f1_3.mono (rd_weak _)) hst.to1 ht630).mono ?_
 rintro _ w631 ⟨rfl, hst⟩
 refine ⟨_, z, ?_⟩
 replace hst := hst.of1
 refine wl_nil ?_
 obtain rfl := some_inj hm
 refine post_end (vs := []) results31 rvs_nil ?_
 exact ⟨z, hst.keep1⟩
}
}
}
}

theorem octet_Writer_Done_ref {w0 w : World} {I : HL} {R : SP} {a0 : octet_Writer} {p0 : Value}  (hst : St w0 w I [at_octet_Writer p0 a0] R) {r : ((List Int))} (hm : octet_Writer_Done a0 = some r) :
  Calls prog 32 #[p0] w fun e w' => ∃ (q0_0 : Value), e = .returned (q0_0) ∧ St w0 w' I [ownS (tyInt .u8) q0_0 r] R := by {
 unfold octet_Writer_Done at hm
 refine calls_start (args := [p0]) func32 z ntmps32 (Nat.le_of_ble_eq_true z) ?_
 refine wp_seq (wrl (wv ((.slice none 0 0)) z z z (wl_nil (tn (wp_seq (wrl (wv (p0) z z z ?_)))))))
 obtain ⟨b58, v59, rfl, hst'⟩ := at_octet_Writer_open hst
 clear hst
 have hst := hst'
 clear hst'
 refine wv (Pt b58 0) z z z (wv (Pt b58 0) z z (x_field z underlying68 z sizeOf32 z) (wv (v59) z z (x_load z isAgg32 (hst.bc0 z)) (wv (v59) z z z (wl_nil (tn (wp_ret ?_))))))
 obtain rfl := some_inj hm
 refine post_ret (vs := [v59]) results32 (rvs_cons (rv_tmp z) rvs_nil) ?_
 replace hst := hst.pull1
 exact ⟨v59, z, hst.keep1⟩
}

theorem octet_Read_ref {w0 w : World} {I : HL} {R : SP} {a0 : (List Int)} {r0_0 : Value} (f0_0 : Ro (tyInt .u8) I r0_0 a0) (hst : St w0 w I [] R) {r : (octet_Reader)} (hm : octet_Read a0 = some r) :
  Calls prog 33 #[r0_0] w fun e w' => ∃ (q0 : Value), e = .returned (q0) ∧ St w0 w' I [at_octet_Reader q0 r] R := by {
 unfold octet_Read at hm
 refine calls_start (args := [r0_0]) func33 z ntmps33 (Nat.le_of_ble_eq_true z) ?_
 refine wp_seq (wrl (wv (.pointer none) z z z (wl_nil (tn (wp_seq (wrl (wv (r0_0) z z z (wv (.agg #[r0_0, .bool false]) z z (by obtain ⟨_, _, hv_, _⟩ := (ro_sliceV f0_0); rw [hv_]; kernel_rfl) ?_))))))))
 obtain ⟨b67, w68, ew69, eb70, hst⟩ := hst.box [r0_0, .bool false] 100
 refine wl_run (v := Pt b67 0) (w' := w68) z z (x_al (by kernel_rfl) ew69 eb70) ?_
 refine wv (Pt b67 0) z z z (wl_nil (tn (wp_ret ?_)))
 replace hst := at_octet_Reader_close (pv := Pt b67 0) (x := ({ p := a0, bad := false } : octet_Reader)) hst ⟨z, f0_0⟩
 obtain rfl := some_inj hm
 refine post_ret (vs := [Pt b67 0]) results33 (rvs_cons (rv_tmp z) rvs_nil) ?_
 exact ⟨.pointer (some ⟨b67, 0, none⟩), z, hst.keep1⟩
}

theorem octet_Reader_spoil_ref {w0 w : World} {I : HL} {R : SP} {a0 : octet_Reader} {p0 : Value}  (hst : St w0 w I [at_octet_Reader p0 a0] R) {r : (octet_Reader)} (hm : octet_Reader_spoil a0 = some r) :
  Calls prog 84 #[p0] w fun e w' => e = .returned (.tuple #[]) ∧ St w0 w' I [at_octet_Reader p0 r] R := by {
 unfold octet_Reader_spoil at hm
 refine calls_start (args := [p0]) func84 z ntmps84 (Nat.le_of_ble_eq_true z) ?_
 refine wp_seq (wrl (wv (p0) z z z ?_))
 obtain ⟨b92, v93, ⟨rfl, f95⟩, hst'⟩ := at_octet_Reader_open hst
 clear hst
 have hst := hst'
 clear hst'
 refine wv (.bool true) z z (by kernel_rfl) (wl_nil (tn ?_))
 refine wp_ift z ?_
 refine wrl (wv (Pt b92 0) z z z (wv (Pt b92 0) z z z (wv (Pt b92 1) z z (x_field z underlying100 z sizeOf4 z) ?_)))
 obtain ⟨w96, hr97, hst⟩ := hst.by_ [v93, .bool true] 1 (.bool true) sizeOf4 z (oC z oN) (by kernel_rfl)
 refine wl_unit z z (x_unit hr97) ?_
 refine wl_nil ?_
 replace hst := at_octet_Reader_close (pv := Pt b92 0) (x := ({ p := a0.p, bad := true } : octet_Reader)) hst ⟨z, f95⟩
 obtain rfl := some_inj hm
 refine post_end (vs := []) results84 rvs_nil ?_
 exact ⟨z, hst.keep1⟩
}

end Go.Proofs.Ytbdhhmnncknhhaa
