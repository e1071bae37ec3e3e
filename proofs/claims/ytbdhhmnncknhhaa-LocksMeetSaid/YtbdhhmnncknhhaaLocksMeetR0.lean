/- The Go functions refine their models, part 0. -/
import Derived.Test.YtbdhhmnncknhhaaLocksMeetT
set_option linter.unusedVariables false
set_option linter.unusedSimpArgs false
set_option maxRecDepth 100000
set_option maxHeartbeats 4000000
namespace Go.Proofs.Ytbdhhmnncknhhaa
open Go Go.V
open _root_.Go.Proofs.Try IntKind
attribute [local irreducible] wpList Code.wp wpQuiet Calls bodyPost Oper.wp wpS Nx PendOK YieldsIn
theorem locks_New_ref {w0 w : World} {I : HL} {R : SP}   (hst : St w0 w I [] R) {r : (locks_Table)} (hm : locks_New = some r) :
  Calls prog 10 #[] w fun e w' => ∃ (q0 : Value), e = .returned (q0) ∧ St w0 w' I [at_locks_Table q0 r] R := by {
 unfold locks_New at hm
 refine calls_start (args := []) func10 z ntmps10 (Nat.le_of_ble_eq_true z) ?_
 refine wp_seq (wrl (wv (.pointer none) z z z (wl_nil (tn (wp_seq (wrl (wv (.agg #[Zs]) z z (by kernel_rfl) ?_)))))))
 obtain ⟨b68, w69, ew70, eb71, hst⟩ := hst.box [Zs] 77
 refine wl_run (v := Pt b68 0) (w' := w69) z z (x_al (by kernel_rfl) ew70 eb71) ?_
 refine wv (Pt b68 0) z z z (wl_nil (tn (wp_ret ?_)))
 replace hst := hst.own_nil ty_api_Hold
 replace hst := hst.pull1
 replace hst := at_locks_Table_close (pv := Pt b68 0) (x := ({ l := [] } : locks_Table)) hst z
 obtain rfl := some_inj hm
 refine post_ret (vs := [Pt b68 0]) results10 (rvs_cons (rv_tmp z) rvs_nil) ?_
 exact ⟨.pointer (some ⟨b68, 0, none⟩), z, hst.keep1⟩
}

theorem math_IsNaN_ref {w0 w : World} {I : HL} {R : SP} {a0 : Nat}  (hst : St w0 w I [] R) {r : (Bool)} (hm : math_IsNaN a0 = some r) :
  Calls prog 88 #[F6 a0] w fun e w' => e = .returned (.bool r) ∧ St w0 w' I [] R := by {
 unfold math_IsNaN at hm
 refine calls_start (args := [F6 a0]) func88 z ntmps88 (Nat.le_of_ble_eq_true z) ?_
 refine wp_seq (wrl (wv (.bool false) z z z (wl_nil (tn (wp_seq (wrl (wv (.float .f64 a0) z z z (wv (.float .f64 a0) z z z (wv (.bool (fNe a0 a0)) z z z (wv (.bool (fNe a0 a0)) z z z (wl_nil (tn (wp_ret ?_)))))))))))))
 obtain rfl := some_inj hm
 refine post_ret (vs := [.bool (fNe a0 a0)]) results88 (rvs_cons (rv_tmp z) rvs_nil) ?_
 exact ⟨z, hst.keep0⟩
}

theorem number_Rank_ref {w0 w : World} {I : HL} {R : SP} {a0 : Nat}  (hst : St w0 w I [] R) {r : (Int)} (hm : number_Rank a0 = some r) :
  Calls prog 61 #[F6 a0] w fun e w' => e = .returned (.int .u64 r) ∧ St w0 w' I [] R := by {
 unfold number_Rank at hm
 refine calls_start (args := [F6 a0]) func61 z ntmps61 (Nat.le_of_ble_eq_true z) ?_
 refine wp_seq (wrl (wv (.int .u64 (0:Int)) z z z (wl_nil (tn (wp_seq (wp_seq (wrl (wv (.float .f64 a0) z z z ?_))))))))
 obtain ⟨t123, ht124, hm⟩ := bind_some hm
 refine wc call88 [F6 a0] z z z ?_
 refine (math_IsNaN_ref hst.to0 ht124).mono ?_
 rintro _ w125 ⟨rfl, hst⟩
 refine ⟨_, z, ?_⟩
 replace hst := hst.of0
 refine wl_nil (tn ?_)
 refine bsplit t123 (fun hc128 => ?_) (fun hc128 => ?_)
 {
 replace hm := bif_t hc128 hm
 refine wp_ift (cvb hc128) ?_
 refine wp_seq (wrl (wv (.int .u64 (18446744073709551615:Int)) z z z (wl_nil (tn (wp_ret (then_r ?_))))))
 obtain rfl := some_inj hm
 refine post_ret (vs := [U6 (18446744073709551615:Int)]) results61 (rvs_cons (rv_tmp z) rvs_nil) ?_
 exact ⟨z, hst.keep0⟩
}
 {
 replace hm := bif_f hc128 hm
 refine wp_iff (cvb hc128) ?_
 refine wp_skip (tn (wp_seq (wrl ?_)))
 refine wv (.float .f64 a0) z z z (wv (.int .u64 (Int.ofNat a0)) z z (by kernel_rfl) (wv (.int .u64 (Int.ofNat a0)) z z z (wl_nil (tn (wp_seq (wp_seq (wrl (wv (.int .u64 (Int.ofNat a0)) z z z (wv (.int .u64 (iShr .u64 (Int.ofNat a0) (63:Int))) z z (x_shr (by decide) z z) (wv (.bool ((iShr .u64 (Int.ofNat a0) (63:Int)) == (1:Int))) z z z (wl_nil (tn ?_))))))))))))
 refine bsplit ((iShr .u64 (Int.ofNat a0) (63:Int)) == (1:Int)) (fun hc129 => ?_) (fun hc129 => ?_)
 {
 replace hm := bif_t hc129 hm
 refine wp_ift (cvb hc129) ?_
 refine wp_seq (wrl (wv (.int .u64 (Int.ofNat a0)) z z z (wv (.int .u64 (bXor .u64 ((18446744073709551615):Int) (Int.ofNat a0))) z z (by kernel_rfl) (wv (.int .u64 (bXor .u64 ((18446744073709551615):Int) (Int.ofNat a0))) z z z (wl_nil (tn (wp_ret (then_r ?_))))))))
 obtain rfl := some_inj hm
 refine post_ret (vs := [U6 (bXor .u64 ((18446744073709551615):Int) (Int.ofNat a0))]) results61 (rvs_cons (rv_tmp z) rvs_nil) ?_
 exact ⟨z, hst.keep0⟩
}
 {
 replace hm := bif_f hc129 hm
 refine wp_iff (cvb hc129) ?_
 refine wp_skip (tn (wp_seq (wrl ?_)))
 refine wv (.int .u64 (Int.ofNat a0)) z z z (wv (.int .u64 (bOr .u64 (Int.ofNat a0) (9223372036854775808:Int))) z z z (wv (.int .u64 (bOr .u64 (Int.ofNat a0) (9223372036854775808:Int))) z z z (wl_nil (tn (wp_ret ?_)))))
 obtain rfl := some_inj hm
 refine post_ret (vs := [U6 (bOr .u64 (Int.ofNat a0) (9223372036854775808:Int))]) results61 (rvs_cons (rv_tmp z) rvs_nil) ?_
 exact ⟨z, hst.keep0⟩
}
}
}

theorem number_Within_ref {w0 w : World} {I : HL} {R : SP} {a0 : Nat} {a1 : Nat} {a2 : Nat}  (hst : St w0 w I [] R) {r : (Bool)} (hm : number_Within a0 a1 a2 = some r) :
  Calls prog 79 #[F6 a0, F6 a1, F6 a2] w fun e w' => e = .returned (.bool r) ∧ St w0 w' I [] R := by {
 unfold number_Within at hm
 refine calls_start (args := [F6 a0, F6 a1, F6 a2]) func79 z ntmps79 (Nat.le_of_ble_eq_true z) ?_
 refine wp_seq (wrl (wv (.bool false) z z z (wl_nil (tn (wp_seq (wrl (wv (.float .f64 a1) z z z ?_)))))))
 obtain ⟨t137, ht138, hm⟩ := bind_some hm
 refine wc call61 [F6 a1] z z z ?_
 refine (number_Rank_ref hst.to0 ht138).mono ?_
 rintro _ w139 ⟨rfl, hst⟩
 refine ⟨_, z, ?_⟩
 replace hst := hst.of0
 refine wv (.float .f64 a0) z z z ?_
 obtain ⟨t142, ht143, hm⟩ := bind_some hm
 refine wc call61 [F6 a0] z z z ?_
 refine (number_Rank_ref hst.to0 ht143).mono ?_
 rintro _ w144 ⟨rfl, hst⟩
 refine ⟨_, z, ?_⟩
 replace hst := hst.of0
 refine wv (.bool (decide (t137 ≤ t142))) z z z (wv (.bool (decide (t137 ≤ t142))) z z z ?_)
 refine bsplit (decide (t137 ≤ t142)) (fun hc147 => ?_) (fun hc147 => ?_)
 {
 replace hm := bif_t hc147 hm
 refine wv (.float .f64 a0) ((wanted_eq z z z (cvb hc147)).trans z) z z ?_
 obtain ⟨t148, ht149, hm⟩ := bind_some hm
 refine wl_call ((wanted_eq z z z (cvb hc147)).trans z) z (x_call call61 z (vs := [F6 a0]) z) ?_
 refine (number_Rank_ref hst.to0 ht149).mono ?_
 rintro _ w150 ⟨rfl, hst⟩
 refine ⟨_, z, ?_⟩
 replace hst := hst.of0
 refine wv (.float .f64 a2) ((wanted_eq z z z (cvb hc147)).trans z) z z ?_
 obtain ⟨t153, ht154, hm⟩ := bind_some hm
 refine wl_call ((wanted_eq z z z (cvb hc147)).trans z) z (x_call call61 z (vs := [F6 a2]) z) ?_
 refine (number_Rank_ref hst.to0 ht154).mono ?_
 rintro _ w155 ⟨rfl, hst⟩
 refine ⟨_, z, ?_⟩
 replace hst := hst.of0
 refine wv (.bool (decide (t148 ≤ t153))) ((wanted_eq z z z (cvb hc147)).trans z) z z (wv (.bool (decide (t148 ≤ t153))) z z (x_pick_t hc147 z z) (wv (.bool (decide (t148 ≤ t153))) z z z (wl_nil (tn (wp_ret ?_)))))
 obtain rfl := some_inj hm
 refine post_ret (vs := [.bool (decide (t148 ≤ t153))]) results79 (rvs_cons (rv_tmp z) rvs_nil) ?_
 exact ⟨z, hst.keep0⟩
}
 {
 replace hm := bif_f hc147 hm
 refine wo hc147 z z z z z z (wo hc147 z z z z z z (wo hc147 z z z z z z (wo hc147 z z z z z z (wo hc147 z z z z z z (wv (.bool false) z z (x_pick_f hc147 z z) (wv (.bool false) z z z (wl_nil (tn (wp_ret ?_)))))))))
 obtain rfl := some_inj hm
 refine post_ret (vs := [.bool false]) results79 (rvs_cons (rv_tmp z) rvs_nil) ?_
 exact ⟨z, hst.keep0⟩
}
}

theorem locks_writes_ref {w0 w : World} {I : HL} {R : SP} {a0 : api_Hold} {r0_0 : Value} {r0_1 : Value} {r0_2 : Value} {r0_3 : Value} {a1 : Nat} {a2 : Nat} (f0_0 : Rd tyF64 R I r0_0 a0.Gets) (f0_1 : Rd tyF2 R I r0_1 a0.Scans) (f0_2 : Rd tyF64 R I r0_2 a0.Puts) (f0_3 : Rd (tyInt .u8) R I r0_3 a0.Data) (hst : St w0 w I [] R) {r : (Bool)} (hm : locks_writes a0 a1 a2 = some r) :
  Calls prog 52 #[.agg #[U6 a0.ID.Session, U6 a0.ID.Seq, U6 a0.Epoch, r0_0, r0_1, r0_2, r0_3], F6 a1, F6 a2] w fun e w' => e = .returned (.bool r) ∧ St w0 w' I [] R := by {
 unfold locks_writes at hm
 refine calls_start (args := [.agg #[U6 a0.ID.Session, U6 a0.ID.Seq, U6 a0.Epoch, r0_0, r0_1, r0_2, r0_3], F6 a1, F6 a2]) func52 z ntmps52 (Nat.le_of_ble_eq_true z) ?_
 refine wp_seq (wrl ?_)
 obtain ⟨b185, w186, ew187, eb188, hst⟩ := hst.box [U6 a0.ID.Session, U6 a0.ID.Seq, U6 a0.Epoch, r0_0, r0_1, r0_2, r0_3] 34
 refine wl_run (v := Pt b185 0) (w' := w186) z z (x_al (by kernel_rfl) ew187 eb188) ?_
 obtain ⟨b190, w191, ew192, eb193, hst⟩ := hst.box [F6 a1] 57
 refine wl_run (v := Pt b190 0) (w' := w191) z z (x_al (by kernel_rfl) ew192 eb193) ?_
 obtain ⟨b195, w196, ew197, eb198, hst⟩ := hst.box [F6 a2] 57
 refine wl_run (v := Pt b195 0) (w' := w196) z z (x_al (by kernel_rfl) ew197 eb198) ?_
 refine wv (.bool false) z z z (wl_nil (tn (wp_seq (wrl (wv (Pt b185 5) z z (x_field z underlying34 z sizeOf30 z) (wv (r0_2) z z (x_load z isAgg30 (hst.bc2 z)) (wv (.func (.func 78) #[] #[Pt b190 0, Pt b195 0]) z z (by kernel_rfl) ?_)))))))
 obtain ⟨y268, hq269, hm⟩ := bind_some hm
 refine wl_call z z (x_callv call77 (caps := []) z (vs := [r0_2, .func (.func 78) #[] #[Pt b190 0, Pt b195 0]]) z) ?_
 refine Calls.mono (show Calls prog 77 #[r0_2, .func (.func 78) #[] #[Pt b190 0, Pt b195 0]] _ (fun e w' => ∃ (z266 : Bool), z266 = y268 ∧ e = .returned (.bool z266) ∧ St w0 w' I [cells b185 [U6 a0.ID.Session, U6 a0.ID.Seq, U6 a0.Epoch, r0_0, r0_1, r0_2, r0_3], cells b190 [F6 a1], cells b195 [F6 a2]] R) from ?_) ?_
 {
 clear hm; have hm := hq269
 refine calls_start (args := [r0_2, .func (.func 78) #[] #[Pt b190 0, Pt b195 0]]) func77 z ntmps77 (Nat.le_of_ble_eq_true z) ?_
 refine wp_seq (wrl (wv (.bool false) z z z (wl_nil (tn (wp_seq (wrl (wv (r0_2) z z z (wv (.func (.func 78) #[] #[Pt b190 0, Pt b195 0]) z z z ?_))))))))
 obtain ⟨y263, hq264, hm⟩ := bind_some hm
 refine wl_call z z (x_callv call93 (caps := []) z (vs := [r0_2, .func (.func 78) #[] #[Pt b190 0, Pt b195 0]]) z) ?_
 refine Calls.mono (show Calls prog 93 #[r0_2, .func (.func 78) #[] #[Pt b190 0, Pt b195 0]] _ (fun e w' => ∃ (z261 : Int), z261 = y263 ∧ e = .returned (.int .i64 z261) ∧ St w0 w' I [cells b185 [U6 a0.ID.Session, U6 a0.ID.Seq, U6 a0.Epoch, r0_0, r0_1, r0_2, r0_3], cells b190 [F6 a1], cells b195 [F6 a2]] R) from ?_) ?_
 {
 clear hm; have hm := hq264
 refine calls_start (args := [r0_2, .func (.func 78) #[] #[Pt b190 0, Pt b195 0]]) func93 z ntmps93 (Nat.le_of_ble_eq_true z) ?_
 refine wp_seq (wrl (wv (.int .i64 (0:Int)) z z z (wl_nil (tn (wp_seq (wp_seq (wrl (wv (r0_2) z z z (wv (.int .i64 ((a0.Puts).length : Int)) z z (x_len z underlying30 (rd_sliceV f0_2)) (wv (.int .i64 (0:Int)) z z z (wl_nil (tn (wp_block ?_)))))))))))))
 obtain ⟨n237, hm⟩ := loopO_some hm
 refine wp_loop_n (fun n a w => ∃ (z235 : Int) (σ236 : Nat → Value), loopN (locks_writes_l0 a0 a1 a2) n z235 = some y263 ∧ a = Fr 19 (upd (upd (upd (upd σ236 0 (r0_2)) 1 (.func (.func 78) #[] #[Pt b190 0, Pt b195 0])) 7 (.int .i64 ((a0.Puts).length : Int))) 8 (.int .i64 z235)) ∧ St w0 w I [cells b195 [F6 a2], cells b190 [F6 a1], cells b185 [U6 a0.ID.Session, U6 a0.ID.Seq, U6 a0.Epoch, r0_0, r0_1, r0_2, r0_3]] R) n237 ⟨(0:Int), _, hm, (fu 0 r0_2 z (fu 1 (.func (.func 78) #[] #[Pt b190 0, Pt b195 0]) z (fu 7 (.int .i64 ((a0.Puts).length : Int)) z (fu 8 (.int .i64 (0:Int)) z z)))), hst⟩ ?_
 rintro n243 _ w238 ⟨z235, σ236, hm, rfl, hst⟩
 obtain ⟨n240, y241, rfl, hm, hx242⟩ := loopN_some hm
 dsimp only [locks_writes_l0] at hm
 refine wp_seq (wrl (wv (.bool (decide (z235 < ((a0.Puts).length : Int)))) z z z (wl_nil (tn (wp_seq ?_)))))
 refine bsplit (decide (z235 < ((a0.Puts).length : Int))) (fun hc244 => ?_) (fun hc244 => ?_)
 {
 replace hm := bif_t hc244 hm
 refine wp_ift (cvb hc244) ?_
 refine wp_skip (tn (wp_seq (wp_block (wp_seq (wrl ?_)))))
 refine wv (.int .i64 z235) z z z (wv (.int .i64 z235) z z z (wl_nil (tn (wp_seq (wrl (wv (.func (.func 78) #[] #[Pt b190 0, Pt b195 0]) z z z (wv (r0_2) z z z (wv (.int .i64 z235) z z z ?_))))))))
 obtain ⟨x245, hx246, hm⟩ := bind_some hm
 obtain ⟨h247, h248, hi249⟩ := geto_some hx246
 refine wv (.pointer (some (eAddr r0_2 (z235.toNat * 1 + 0)))) z z (x_index z z underlying30 sizeOf57 (rd_sliceV f0_2) h247 h248) (wv (.float .f64 x245) z z (x_load z isAgg57 (rd_load f0_2 (HL.le.refl _) hst hi249 (by rintro _ rfl; rfl))) ?_)
 obtain ⟨y257, hq258, hm⟩ := bind_some hm
 refine wl_call z z (x_callv call78 (caps := [Pt b190 0, Pt b195 0]) z (vs := [F6 x245]) z) ?_
 refine Calls.mono (show Calls prog 78 #[F6 x245, Pt b190 0, Pt b195 0] _ (fun e w' => ∃ (z255 : Bool), z255 = y257 ∧ e = .returned (.bool z255) ∧ St w0 w' I [cells b185 [U6 a0.ID.Session, U6 a0.ID.Seq, U6 a0.Epoch, r0_0, r0_1, r0_2, r0_3], cells b190 [F6 a1], cells b195 [F6 a2]] R) from ?_) ?_
 {
 clear hm; have hm := hq258
 refine calls_start (args := [F6 x245, Pt b190 0, Pt b195 0]) func78 z ntmps78 (Nat.le_of_ble_eq_true z) ?_
 refine wp_seq (wrl (wv (.bool false) z z z (wl_nil (tn (wp_seq (wrl (wv (.float .f64 x245) z z z (wv (.float .f64 a1) z z (x_load z isAgg57 (hst.bc1 z)) (wv (.float .f64 a2) z z (x_load z isAgg57 (hst.bc0 z)) ?_)))))))))
 obtain ⟨t250, ht251, hm⟩ := bind_some hm
 refine wc call79 [F6 x245, F6 a1, F6 a2] z z z ?_
 refine (number_Within_ref hst.to0 ht251).mono ?_
 rintro _ w252 ⟨rfl, hst⟩
 refine ⟨_, z, ?_⟩
 replace hst := hst.of0
 refine wv (.bool t250) z z z (wl_nil (tn (wp_ret ?_)))
 refine post_ret (vs := [.bool t250]) results78 (rvs_cons (rv_tmp z) rvs_nil) ?_
 replace hst := hst.pull1.pull2.keep3
 obtain rfl := some_inj hm
 exact ⟨t250, z, z, hst⟩
}
 clear hst
 rintro _ w259 ⟨z255, rfl, rfl, hst⟩
 refine ⟨_, z, ?_⟩
 try dsimp only at hm
 refine wl_nil (tn ?_)
 refine bsplit z255 (fun hc260 => ?_) (fun hc260 => ?_)
 {
 replace hm := bif_t hc260 hm
 refine wp_ift (cvb hc260) ?_
 refine wp_seq (wrl (wv (.int .i64 z235) z z z (wv (.int .i64 z235) z z z (wl_nil (tn (wp_ret (blk_r (then_r (then_r ?_)))))))))
 replace hm := inr_up hm hx242
 refine blk_r (then_r ?_)
 refine post_ret (vs := [I6 z235]) results93 (rvs_cons (rv_tmp z) rvs_nil) ?_
 replace hst := hst.pull2.pull2.pull2.keep3
 obtain rfl := some_inj hm
 exact ⟨z235, z, z, hst⟩
}
 {
 replace hm := bif_f hc260 hm
 refine wp_iff (cvb hc260) ?_
 refine wp_skip (blk_n (tn (wrl ?_)))
 refine wv (.int .i64 (i64.wrap (z235 + (1:Int)))) z z z (wv (.int .i64 (i64.wrap (z235 + (1:Int)))) z z z (wl_nil (tn ?_)))
 replace hst := hst.pull1.pull2.keep3
 obtain rfl := some_inj hm
 exact ⟨_, Nat.lt_succ_self _, (i64.wrap (z235 + (1:Int))), _, hx242, (fu 0 r0_2 z (fu 1 (.func (.func 78) #[] #[Pt b190 0, Pt b195 0]) z (fu 7 (.int .i64 ((a0.Puts).length : Int)) z (fu 8 (.int .i64 (i64.wrap (z235 + (1:Int)))) z z)))), hst⟩
}
}
 {
 replace hm := bif_f hc244 hm
 refine wp_iff (cvb hc244) ?_
 refine wp_exit (then_x (then_x ?_))
 replace hm := inr_up hm hx242
 refine blk_x (tn (wp_seq (wrl ?_)))
 refine wv (.int .i64 ((-1):Int)) z z z (wl_nil (tn (wp_ret ?_)))
 refine post_ret (vs := [I6 ((-1):Int)]) results93 (rvs_cons (rv_tmp z) rvs_nil) ?_
 replace hst := hst.pull1.pull2.keep3
 obtain rfl := some_inj hm
 exact ⟨((-1):Int), z, z, hst⟩
}
}
 clear hst
 rintro _ w265 ⟨z261, rfl, rfl, hst⟩
 refine ⟨_, z, ?_⟩
 try dsimp only at hm
 refine wv (.bool (decide (z261 ≥ (0:Int)))) z z z (wv (.bool (decide (z261 ≥ (0:Int)))) z z z (wl_nil (tn (wp_ret ?_))))
 refine post_ret (vs := [.bool (decide (z261 ≥ (0:Int)))]) results77 (rvs_cons (rv_tmp z) rvs_nil) ?_
 replace hst := hst.pull2.pull2.pull2.keep3
 obtain rfl := some_inj hm
 exact ⟨(decide (z261 ≥ (0:Int))), z, z, hst⟩
}
 clear hst
 rintro _ w270 ⟨z266, rfl, rfl, hst⟩
 refine ⟨_, z, ?_⟩
 try dsimp only at hm
 refine wv (.bool z266) z z z (wl_nil (tn (wp_ret ?_)))
 obtain rfl := some_inj hm
 refine post_ret (vs := [.bool z266]) results52 (rvs_cons (rv_tmp z) rvs_nil) ?_
 exact ⟨z, hst.keep0⟩
}

theorem number_Same_ref {w0 w : World} {I : HL} {R : SP} {a0 : Nat} {a1 : Nat}  (hst : St w0 w I [] R) {r : (Bool)} (hm : number_Same a0 a1 = some r) :
  Calls prog 47 #[F6 a0, F6 a1] w fun e w' => e = .returned (.bool r) ∧ St w0 w' I [] R := by {
 unfold number_Same at hm
 refine calls_start (args := [F6 a0, F6 a1]) func47 z ntmps47 (Nat.le_of_ble_eq_true z) ?_
 refine wp_seq (wrl (wv (.bool false) z z z (wl_nil (tn (wp_seq (wrl (wv (.float .f64 a0) z z z ?_)))))))
 obtain ⟨t127, ht128, hm⟩ := bind_some hm
 refine wc call61 [F6 a0] z z z ?_
 refine (number_Rank_ref hst.to0 ht128).mono ?_
 rintro _ w129 ⟨rfl, hst⟩
 refine ⟨_, z, ?_⟩
 replace hst := hst.of0
 refine wv (.float .f64 a1) z z z ?_
 obtain ⟨t132, ht133, hm⟩ := bind_some hm
 refine wc call61 [F6 a1] z z z ?_
 refine (number_Rank_ref hst.to0 ht133).mono ?_
 rintro _ w134 ⟨rfl, hst⟩
 refine ⟨_, z, ?_⟩
 replace hst := hst.of0
 refine wv (.bool (t127 == t132)) z z z (wv (.bool (t127 == t132)) z z z (wl_nil (tn (wp_ret ?_))))
 obtain rfl := some_inj hm
 refine post_ret (vs := [.bool (t127 == t132)]) results47 (rvs_cons (rv_tmp z) rvs_nil) ?_
 exact ⟨z, hst.keep0⟩
}

theorem locks_reads_ref {w0 w : World} {I : HL} {R : SP} {a0 : api_Hold} {r0_0 : Value} {r0_1 : Value} {r0_2 : Value} {r0_3 : Value} {a1 : Nat} (f0_0 : Rd tyF64 R I r0_0 a0.Gets) (f0_1 : Rd tyF2 R I r0_1 a0.Scans) (f0_2 : Rd tyF64 R I r0_2 a0.Puts) (f0_3 : Rd (tyInt .u8) R I r0_3 a0.Data) (hst : St w0 w I [] R) {r : (Bool)} (hm : locks_reads a0 a1 = some r) :
  Calls prog 53 #[.agg #[U6 a0.ID.Session, U6 a0.ID.Seq, U6 a0.Epoch, r0_0, r0_1, r0_2, r0_3], F6 a1] w fun e w' => e = .returned (.bool r) ∧ St w0 w' I [] R := by {
 unfold locks_reads at hm
 refine calls_start (args := [.agg #[U6 a0.ID.Session, U6 a0.ID.Seq, U6 a0.Epoch, r0_0, r0_1, r0_2, r0_3], F6 a1]) func53 z ntmps53 (Nat.le_of_ble_eq_true z) ?_
 refine wp_seq (wrl ?_)
 obtain ⟨b273, w274, ew275, eb276, hst⟩ := hst.box [U6 a0.ID.Session, U6 a0.ID.Seq, U6 a0.Epoch, r0_0, r0_1, r0_2, r0_3] 34
 refine wl_run (v := Pt b273 0) (w' := w274) z z (x_al (by kernel_rfl) ew275 eb276) ?_
 obtain ⟨b278, w279, ew280, eb281, hst⟩ := hst.box [F6 a1] 57
 refine wl_run (v := Pt b278 0) (w' := w279) z z (x_al (by kernel_rfl) ew280 eb281) ?_
 refine wv (.bool false) z z z (wl_nil (tn (wp_seq (wrl (wv (Pt b273 3) z z (x_field z underlying34 z sizeOf30 z) (wv (r0_0) z z (x_load z isAgg30 (hst.bc1 z)) (wv (.func (.func 80) #[] #[Pt b278 0]) z z (by kernel_rfl) ?_)))))))
 obtain ⟨y351, hq352, hm⟩ := bind_some hm
 refine wl_call z z (x_callv call77 (caps := []) z (vs := [r0_0, .func (.func 80) #[] #[Pt b278 0]]) z) ?_
 refine Calls.mono (show Calls prog 77 #[r0_0, .func (.func 80) #[] #[Pt b278 0]] _ (fun e w' => ∃ (z349 : Bool), z349 = y351 ∧ e = .returned (.bool z349) ∧ St w0 w' I [cells b273 [U6 a0.ID.Session, U6 a0.ID.Seq, U6 a0.Epoch, r0_0, r0_1, r0_2, r0_3], cells b278 [F6 a1]] R) from ?_) ?_
 {
 clear hm; have hm := hq352
 refine calls_start (args := [r0_0, .func (.func 80) #[] #[Pt b278 0]]) func77 z ntmps77 (Nat.le_of_ble_eq_true z) ?_
 refine wp_seq (wrl (wv (.bool false) z z z (wl_nil (tn (wp_seq (wrl (wv (r0_0) z z z (wv (.func (.func 80) #[] #[Pt b278 0]) z z z ?_))))))))
 obtain ⟨y346, hq347, hm⟩ := bind_some hm
 refine wl_call z z (x_callv call93 (caps := []) z (vs := [r0_0, .func (.func 80) #[] #[Pt b278 0]]) z) ?_
 refine Calls.mono (show Calls prog 93 #[r0_0, .func (.func 80) #[] #[Pt b278 0]] _ (fun e w' => ∃ (z344 : Int), z344 = y346 ∧ e = .returned (.int .i64 z344) ∧ St w0 w' I [cells b273 [U6 a0.ID.Session, U6 a0.ID.Seq, U6 a0.Epoch, r0_0, r0_1, r0_2, r0_3], cells b278 [F6 a1]] R) from ?_) ?_
 {
 clear hm; have hm := hq347
 refine calls_start (args := [r0_0, .func (.func 80) #[] #[Pt b278 0]]) func93 z ntmps93 (Nat.le_of_ble_eq_true z) ?_
 refine wp_seq (wrl (wv (.int .i64 (0:Int)) z z z (wl_nil (tn (wp_seq (wp_seq (wrl (wv (r0_0) z z z (wv (.int .i64 ((a0.Gets).length : Int)) z z (x_len z underlying30 (rd_sliceV f0_0)) (wv (.int .i64 (0:Int)) z z z (wl_nil (tn (wp_block ?_)))))))))))))
 obtain ⟨n320, hm⟩ := loopO_some hm
 refine wp_loop_n (fun n a w => ∃ (z318 : Int) (σ319 : Nat → Value), loopN (locks_reads_l0 a0 a1) n z318 = some y346 ∧ a = Fr 19 (upd (upd (upd (upd σ319 0 (r0_0)) 1 (.func (.func 80) #[] #[Pt b278 0])) 7 (.int .i64 ((a0.Gets).length : Int))) 8 (.int .i64 z318)) ∧ St w0 w I [cells b278 [F6 a1], cells b273 [U6 a0.ID.Session, U6 a0.ID.Seq, U6 a0.Epoch, r0_0, r0_1, r0_2, r0_3]] R) n320 ⟨(0:Int), _, hm, (fu 0 r0_0 z (fu 1 (.func (.func 80) #[] #[Pt b278 0]) z (fu 7 (.int .i64 ((a0.Gets).length : Int)) z (fu 8 (.int .i64 (0:Int)) z z)))), hst⟩ ?_
 rintro n326 _ w321 ⟨z318, σ319, hm, rfl, hst⟩
 obtain ⟨n323, y324, rfl, hm, hx325⟩ := loopN_some hm
 dsimp only [locks_reads_l0] at hm
 refine wp_seq (wrl (wv (.bool (decide (z318 < ((a0.Gets).length : Int)))) z z z (wl_nil (tn (wp_seq ?_)))))
 refine bsplit (decide (z318 < ((a0.Gets).length : Int))) (fun hc327 => ?_) (fun hc327 => ?_)
 {
 replace hm := bif_t hc327 hm
 refine wp_ift (cvb hc327) ?_
 refine wp_skip (tn (wp_seq (wp_block (wp_seq (wrl ?_)))))
 refine wv (.int .i64 z318) z z z (wv (.int .i64 z318) z z z (wl_nil (tn (wp_seq (wrl (wv (.func (.func 80) #[] #[Pt b278 0]) z z z (wv (r0_0) z z z (wv (.int .i64 z318) z z z ?_))))))))
 obtain ⟨x328, hx329, hm⟩ := bind_some hm
 obtain ⟨h330, h331, hi332⟩ := geto_some hx329
 refine wv (.pointer (some (eAddr r0_0 (z318.toNat * 1 + 0)))) z z (x_index z z underlying30 sizeOf57 (rd_sliceV f0_0) h330 h331) (wv (.float .f64 x328) z z (x_load z isAgg57 (rd_load f0_0 (HL.le.refl _) hst hi332 (by rintro _ rfl; rfl))) ?_)
 obtain ⟨y340, hq341, hm⟩ := bind_some hm
 refine wl_call z z (x_callv call80 (caps := [Pt b278 0]) z (vs := [F6 x328]) z) ?_
 refine Calls.mono (show Calls prog 80 #[F6 x328, Pt b278 0] _ (fun e w' => ∃ (z338 : Bool), z338 = y340 ∧ e = .returned (.bool z338) ∧ St w0 w' I [cells b273 [U6 a0.ID.Session, U6 a0.ID.Seq, U6 a0.Epoch, r0_0, r0_1, r0_2, r0_3], cells b278 [F6 a1]] R) from ?_) ?_
 {
 clear hm; have hm := hq341
 refine calls_start (args := [F6 x328, Pt b278 0]) func80 z ntmps80 (Nat.le_of_ble_eq_true z) ?_
 refine wp_seq (wrl (wv (.bool false) z z z (wl_nil (tn (wp_seq (wrl (wv (.float .f64 a1) z z (x_load z isAgg57 (hst.bc0 z)) (wv (.float .f64 x328) z z z ?_))))))))
 obtain ⟨t333, ht334, hm⟩ := bind_some hm
 refine wc call47 [F6 a1, F6 x328] z z z ?_
 refine (number_Same_ref hst.to0 ht334).mono ?_
 rintro _ w335 ⟨rfl, hst⟩
 refine ⟨_, z, ?_⟩
 replace hst := hst.of0
 refine wv (.bool t333) z z z (wl_nil (tn (wp_ret ?_)))
 refine post_ret (vs := [.bool t333]) results80 (rvs_cons (rv_tmp z) rvs_nil) ?_
 replace hst := hst.pull1.keep2
 obtain rfl := some_inj hm
 exact ⟨t333, z, z, hst⟩
}
 clear hst
 rintro _ w342 ⟨z338, rfl, rfl, hst⟩
 refine ⟨_, z, ?_⟩
 try dsimp only at hm
 refine wl_nil (tn ?_)
 refine bsplit z338 (fun hc343 => ?_) (fun hc343 => ?_)
 {
 replace hm := bif_t hc343 hm
 refine wp_ift (cvb hc343) ?_
 refine wp_seq (wrl (wv (.int .i64 z318) z z z (wv (.int .i64 z318) z z z (wl_nil (tn (wp_ret (blk_r (then_r (then_r ?_)))))))))
 replace hm := inr_up hm hx325
 refine blk_r (then_r ?_)
 refine post_ret (vs := [I6 z318]) results93 (rvs_cons (rv_tmp z) rvs_nil) ?_
 replace hst := hst.pull1.pull1.keep2
 obtain rfl := some_inj hm
 exact ⟨z318, z, z, hst⟩
}
 {
 replace hm := bif_f hc343 hm
 refine wp_iff (cvb hc343) ?_
 refine wp_skip (blk_n (tn (wrl ?_)))
 refine wv (.int .i64 (i64.wrap (z318 + (1:Int)))) z z z (wv (.int .i64 (i64.wrap (z318 + (1:Int)))) z z z (wl_nil (tn ?_)))
 replace hst := hst.pull1.keep2
 obtain rfl := some_inj hm
 exact ⟨_, Nat.lt_succ_self _, (i64.wrap (z318 + (1:Int))), _, hx325, (fu 0 r0_0 z (fu 1 (.func (.func 80) #[] #[Pt b278 0]) z (fu 7 (.int .i64 ((a0.Gets).length : Int)) z (fu 8 (.int .i64 (i64.wrap (z318 + (1:Int)))) z z)))), hst⟩
}
}
 {
 replace hm := bif_f hc327 hm
 refine wp_iff (cvb hc327) ?_
 refine wp_exit (then_x (then_x ?_))
 replace hm := inr_up hm hx325
 refine blk_x (tn (wp_seq (wrl ?_)))
 refine wv (.int .i64 ((-1):Int)) z z z (wl_nil (tn (wp_ret ?_)))
 refine post_ret (vs := [I6 ((-1):Int)]) results93 (rvs_cons (rv_tmp z) rvs_nil) ?_
 replace hst := hst.pull1.keep2
 obtain rfl := some_inj hm
 exact ⟨((-1):Int), z, z, hst⟩
}
}
 clear hst
 rintro _ w348 ⟨z344, rfl, rfl, hst⟩
 refine ⟨_, z, ?_⟩
 try dsimp only at hm
 refine wv (.bool (decide (z344 ≥ (0:Int)))) z z z (wv (.bool (decide (z344 ≥ (0:Int)))) z z z (wl_nil (tn (wp_ret ?_))))
 refine post_ret (vs := [.bool (decide (z344 ≥ (0:Int)))]) results77 (rvs_cons (rv_tmp z) rvs_nil) ?_
 replace hst := hst.pull1.pull1.keep2
 obtain rfl := some_inj hm
 exact ⟨(decide (z344 ≥ (0:Int))), z, z, hst⟩
}
 clear hst
 rintro _ w353 ⟨z349, rfl, rfl, hst⟩
 refine ⟨_, z, ?_⟩
 try dsimp only at hm
 refine wv (.bool z349) z z z ?_
 refine bsplit z349 (fun hc354 => ?_) (fun hc354 => ?_)
 {
 replace hm := bif_t hc354 hm
 refine wo hc354 z z z z z z (wo hc354 z z z z z z (wo hc354 z z z z z z (wo hc354 z z z z z z (wv (.bool true) z z (x_pick_t hc354 z z) (wv (.bool true) z z z (wl_nil (tn (wp_ret ?_))))))))
 obtain rfl := some_inj hm
 refine post_ret (vs := [.bool true]) results53 (rvs_cons (rv_tmp z) rvs_nil) ?_
 exact ⟨z, hst.keep0⟩
}
 {
 replace hm := bif_f hc354 hm
 refine wv (Pt b273 4) ((wanted_eq z z z (cvb hc354)).trans z) z (x_field z underlying34 z sizeOf31 z) (wv (r0_1) ((wanted_eq z z z (cvb hc354)).trans z) z (x_load z isAgg31 (hst.bc0 z)) (wv (.func (.func 82) #[] #[Pt b278 0]) ((wanted_eq z z z (cvb hc354)).trans z) z (by kernel_rfl) ?_))
 obtain ⟨y438, hq439, hm⟩ := bind_some hm
 refine wl_call ((wanted_eq z z z (cvb hc354)).trans z) z (x_callv call81 (caps := []) z (vs := [r0_1, .func (.func 82) #[] #[Pt b278 0]]) z) ?_
 refine Calls.mono (show Calls prog 81 #[r0_1, .func (.func 82) #[] #[Pt b278 0]] _ (fun e w' => ∃ (z436 : Bool), z436 = y438 ∧ e = .returned (.bool z436) ∧ St w0 w' I [cells b273 [U6 a0.ID.Session, U6 a0.ID.Seq, U6 a0.Epoch, r0_0, r0_1, r0_2, r0_3], cells b278 [F6 a1]] R) from ?_) ?_
 {
 clear hm; have hm := hq439
 refine calls_start (args := [r0_1, .func (.func 82) #[] #[Pt b278 0]]) func81 z ntmps81 (Nat.le_of_ble_eq_true z) ?_
 refine wp_seq (wrl (wv (.bool false) z z z (wl_nil (tn (wp_seq (wrl (wv (r0_1) z z z (wv (.func (.func 82) #[] #[Pt b278 0]) z z z ?_))))))))
 obtain ⟨y433, hq434, hm⟩ := bind_some hm
 refine wl_call z z (x_callv call94 (caps := []) z (vs := [r0_1, .func (.func 82) #[] #[Pt b278 0]]) z) ?_
 refine Calls.mono (show Calls prog 94 #[r0_1, .func (.func 82) #[] #[Pt b278 0]] _ (fun e w' => ∃ (z431 : Int), z431 = y433 ∧ e = .returned (.int .i64 z431) ∧ St w0 w' I [cells b273 [U6 a0.ID.Session, U6 a0.ID.Seq, U6 a0.Epoch, r0_0, r0_1, r0_2, r0_3], cells b278 [F6 a1]] R) from ?_) ?_
 {
 clear hm; have hm := hq434
 refine calls_start (args := [r0_1, .func (.func 82) #[] #[Pt b278 0]]) func94 z ntmps94 (Nat.le_of_ble_eq_true z) ?_
 refine wp_seq (wrl (wv (.int .i64 (0:Int)) z z z (wl_nil (tn (wp_seq (wp_seq (wrl (wv (r0_1) z z z (wv (.int .i64 ((a0.Scans).length : Int)) z z (x_len z underlying31 (rd_sliceV f0_1)) (wv (.int .i64 (0:Int)) z z z (wl_nil (tn (wp_block ?_)))))))))))))
 obtain ⟨n402, hm⟩ := loopO_some hm
 refine wp_loop_n (fun n a w => ∃ (z400 : Int) (σ401 : Nat → Value), loopN (locks_reads_l1 a0 a1) n z400 = some y433 ∧ a = Fr 19 (upd (upd (upd (upd σ401 0 (r0_1)) 1 (.func (.func 82) #[] #[Pt b278 0])) 7 (.int .i64 ((a0.Scans).length : Int))) 8 (.int .i64 z400)) ∧ St w0 w I [cells b273 [U6 a0.ID.Session, U6 a0.ID.Seq, U6 a0.Epoch, r0_0, r0_1, r0_2, r0_3], cells b278 [F6 a1]] R) n402 ⟨(0:Int), _, hm, (fu 0 r0_1 z (fu 1 (.func (.func 82) #[] #[Pt b278 0]) z (fu 7 (.int .i64 ((a0.Scans).length : Int)) z (fu 8 (.int .i64 (0:Int)) z z)))), hst⟩ ?_
 rintro n408 _ w403 ⟨z400, σ401, hm, rfl, hst⟩
 obtain ⟨n405, y406, rfl, hm, hx407⟩ := loopN_some hm
 dsimp only [locks_reads_l1] at hm
 refine wp_seq (wrl (wv (.bool (decide (z400 < ((a0.Scans).length : Int)))) z z z (wl_nil (tn (wp_seq ?_)))))
 refine bsplit (decide (z400 < ((a0.Scans).length : Int))) (fun hc409 => ?_) (fun hc409 => ?_)
 {
 replace hm := bif_t hc409 hm
 refine wp_ift (cvb hc409) ?_
 refine wp_skip (tn (wp_seq (wp_block (wp_seq (wrl ?_)))))
 refine wv (.int .i64 z400) z z z (wv (.int .i64 z400) z z z (wl_nil (tn (wp_seq (wrl (wv (.func (.func 82) #[] #[Pt b278 0]) z z z (wv (r0_1) z z z (wv (.int .i64 z400) z z z ?_))))))))
 obtain ⟨x410, hx411, hm⟩ := bind_some hm
 obtain ⟨h412, h413, hi414⟩ := geto_some hx411
 refine wv (.pointer (some (eAddr r0_1 (z400.toNat * 2 + 0)))) z z (x_index z z underlying31 sizeOf75 (rd_sliceV f0_1) h412 h413) (wv (.agg #[F6 x410.1, F6 x410.2]) z z (x_loadN (cs := [F6 x410.1, F6 x410.2]) z isAgg75 sizeOf75 (rd_loadN f0_1 (HL.le.refl _) hst hi414 0 (by rintro _ rfl; rfl))) ?_)
 obtain ⟨y427, hq428, hm⟩ := bind_some hm
 refine wl_call z z (x_callv call82 (caps := [Pt b278 0]) z (vs := [.agg #[F6 x410.1, F6 x410.2]]) z) ?_
 refine Calls.mono (show Calls prog 82 #[.agg #[F6 x410.1, F6 x410.2], Pt b278 0] _ (fun e w' => ∃ (z425 : Bool), z425 = y427 ∧ e = .returned (.bool z425) ∧ St w0 w' I [cells b273 [U6 a0.ID.Session, U6 a0.ID.Seq, U6 a0.Epoch, r0_0, r0_1, r0_2, r0_3], cells b278 [F6 a1]] R) from ?_) ?_
 {
 clear hm; have hm := hq428
 refine calls_start (args := [.agg #[F6 x410.1, F6 x410.2], Pt b278 0]) func82 z ntmps82 (Nat.le_of_ble_eq_true z) ?_
 refine wp_seq (wrl ?_)
 obtain ⟨b415, w416, ew417, eb418, hst⟩ := hst.box [F6 x410.1, F6 x410.2] 75
 refine wl_run (v := Pt b415 0) (w' := w416) z z (x_al (by kernel_rfl) ew417 eb418) ?_
 refine wv (.bool false) z z z (wl_nil (tn (wp_seq (wrl (wv (.float .f64 a1) z z (x_load z isAgg57 (hst.bc2 z)) (wv (Pt b415 0) z z (x_index_arr (i := (0:Int)) z z underlying75 sizeOf57 (by decide) (by decide)) (wv (.float .f64 x410.1) z z (x_load z isAgg57 (hst.bc0 z)) (wv (Pt b415 1) z z (x_index_arr (i := (1:Int)) z z underlying75 sizeOf57 (by decide) (by decide)) (wv (.float .f64 x410.2) z z (x_load z isAgg57 (hst.bc0 z)) ?_)))))))))
 obtain ⟨t420, ht421, hm⟩ := bind_some hm
 refine wc call79 [F6 a1, F6 x410.1, F6 x410.2] z z z ?_
 refine (number_Within_ref hst.to0 ht421).mono ?_
 rintro _ w422 ⟨rfl, hst⟩
 refine ⟨_, z, ?_⟩
 replace hst := hst.of0
 refine wv (.bool t420) z z z (wl_nil (tn (wp_ret ?_)))
 refine post_ret (vs := [.bool t420]) results82 (rvs_cons (rv_tmp z) rvs_nil) ?_
 replace hst := hst.pull2.pull2.keep2
 obtain rfl := some_inj hm
 exact ⟨t420, z, z, hst⟩
}
 clear hst
 rintro _ w429 ⟨z425, rfl, rfl, hst⟩
 refine ⟨_, z, ?_⟩
 try dsimp only at hm
 refine wl_nil (tn ?_)
 refine bsplit z425 (fun hc430 => ?_) (fun hc430 => ?_)
 {
 replace hm := bif_t hc430 hm
 refine wp_ift (cvb hc430) ?_
 refine wp_seq (wrl (wv (.int .i64 z400) z z z (wv (.int .i64 z400) z z z (wl_nil (tn (wp_ret (blk_r (then_r (then_r ?_)))))))))
 replace hm := inr_up hm hx407
 refine blk_r (then_r ?_)
 refine post_ret (vs := [I6 z400]) results94 (rvs_cons (rv_tmp z) rvs_nil) ?_
 replace hst := hst.pull1.pull1.keep2
 obtain rfl := some_inj hm
 exact ⟨z400, z, z, hst⟩
}
 {
 replace hm := bif_f hc430 hm
 refine wp_iff (cvb hc430) ?_
 refine wp_skip (blk_n (tn (wrl ?_)))
 refine wv (.int .i64 (i64.wrap (z400 + (1:Int)))) z z z (wv (.int .i64 (i64.wrap (z400 + (1:Int)))) z z z (wl_nil (tn ?_)))
 replace hst := hst.pull1.pull1.keep2
 obtain rfl := some_inj hm
 exact ⟨_, Nat.lt_succ_self _, (i64.wrap (z400 + (1:Int))), _, hx407, (fu 0 r0_1 z (fu 1 (.func (.func 82) #[] #[Pt b278 0]) z (fu 7 (.int .i64 ((a0.Scans).length : Int)) z (fu 8 (.int .i64 (i64.wrap (z400 + (1:Int)))) z z)))), hst⟩
}
}
 {
 replace hm := bif_f hc409 hm
 refine wp_iff (cvb hc409) ?_
 refine wp_exit (then_x (then_x ?_))
 replace hm := inr_up hm hx407
 refine blk_x (tn (wp_seq (wrl ?_)))
 refine wv (.int .i64 ((-1):Int)) z z z (wl_nil (tn (wp_ret ?_)))
 refine post_ret (vs := [I6 ((-1):Int)]) results94 (rvs_cons (rv_tmp z) rvs_nil) ?_
 replace hst := hst.pull1.pull1.keep2
 obtain rfl := some_inj hm
 exact ⟨((-1):Int), z, z, hst⟩
}
}
 clear hst
 rintro _ w435 ⟨z431, rfl, rfl, hst⟩
 refine ⟨_, z, ?_⟩
 try dsimp only at hm
 refine wv (.bool (decide (z431 ≥ (0:Int)))) z z z (wv (.bool (decide (z431 ≥ (0:Int)))) z z z (wl_nil (tn (wp_ret ?_))))
 refine post_ret (vs := [.bool (decide (z431 ≥ (0:Int)))]) results81 (rvs_cons (rv_tmp z) rvs_nil) ?_
 replace hst := hst.pull1.pull1.keep2
 obtain rfl := some_inj hm
 exact ⟨(decide (z431 ≥ (0:Int))), z, z, hst⟩
}
 clear hst
 rintro _ w440 ⟨z436, rfl, rfl, hst⟩
 refine ⟨_, z, ?_⟩
 try dsimp only at hm
 refine wv (.bool z436) z z (x_pick_f hc354 z z) (wv (.bool z436) z z z (wl_nil (tn (wp_ret ?_))))
 obtain rfl := some_inj hm
 refine post_ret (vs := [.bool z436]) results53 (rvs_cons (rv_tmp z) rvs_nil) ?_
 exact ⟨z, hst.keep0⟩
}
}

theorem locks_Meet_ref {w0 w : World} {I : HL} {R : SP} {a0 : api_Hold} {r0_0 : Value} {r0_1 : Value} {r0_2 : Value} {r0_3 : Value} {a1 : api_Hold} {r1_0 : Value} {r1_1 : Value} {r1_2 : Value} {r1_3 : Value} (f0_0 : Rd tyF64 R I r0_0 a0.Gets) (f0_1 : Rd tyF2 R I r0_1 a0.Scans) (f0_2 : Rd tyF64 R I r0_2 a0.Puts) (f0_3 : Rd (tyInt .u8) R I r0_3 a0.Data) (f1_0 : Rd tyF64 R I r1_0 a1.Gets) (f1_1 : Rd tyF2 R I r1_1 a1.Scans) (f1_2 : Rd tyF64 R I r1_2 a1.Puts) (f1_3 : Rd (tyInt .u8) R I r1_3 a1.Data) (hst : St w0 w I [] R) {r : (Bool)} (hm : locks_Meet a0 a1 = some r) :
  Calls prog 19 #[.agg #[U6 a0.ID.Session, U6 a0.ID.Seq, U6 a0.Epoch, r0_0, r0_1, r0_2, r0_3], .agg #[U6 a1.ID.Session, U6 a1.ID.Seq, U6 a1.Epoch, r1_0, r1_1, r1_2, r1_3]] w fun e w' => e = .returned (.bool r) ∧ St w0 w' I [] R := by {
 unfold locks_Meet at hm
 refine calls_start (args := [.agg #[U6 a0.ID.Session, U6 a0.ID.Seq, U6 a0.Epoch, r0_0, r0_1, r0_2, r0_3], .agg #[U6 a1.ID.Session, U6 a1.ID.Seq, U6 a1.Epoch, r1_0, r1_1, r1_2, r1_3]]) func19 z ntmps19 (Nat.le_of_ble_eq_true z) ?_
 refine wp_seq (wrl ?_)
 obtain ⟨b208, w209, ew210, eb211, hst⟩ := hst.box [U6 a0.ID.Session, U6 a0.ID.Seq, U6 a0.Epoch, r0_0, r0_1, r0_2, r0_3] 34
 refine wl_run (v := Pt b208 0) (w' := w209) z z (x_al (by kernel_rfl) ew210 eb211) ?_
 obtain ⟨b213, w214, ew215, eb216, hst⟩ := hst.box [U6 a1.ID.Session, U6 a1.ID.Seq, U6 a1.Epoch, r1_0, r1_1, r1_2, r1_3] 34
 refine wl_run (v := Pt b213 0) (w' := w214) z z (x_al (by kernel_rfl) ew215 eb216) ?_
 refine wv (.bool false) z z z (wl_nil (tn ?_))
 obtain ⟨y284, hm, hx285⟩ := joinO_some hm
 refine wp_cut (fun a w => ∃ (σ282 : Nat → Value), (locks_Meet_j0 a1 a0) () = some r ∧ a = Fr 37 (upd (upd σ282 2 (Pt b208 0)) 3 (Pt b213 0)) ∧ St w0 w I [cells b208 [U6 a0.ID.Session, U6 a0.ID.Seq, U6 a0.Epoch, r0_0, r0_1, r0_2, r0_3], cells b213 [U6 a1.ID.Session, U6 a1.ID.Seq, U6 a1.Epoch, r1_0, r1_1, r1_2, r1_3]] R) ?_ ?_
 {
 refine wp_seq (wrl (wv (Pt b208 5) z z (x_field z underlying34 z sizeOf30 z) (wv (r0_2) z z (x_load z isAgg30 (hst.bc1 z)) (wv (.int .i64 ((a0.Puts).length : Int)) z z (x_len z underlying30 (rd_sliceV f0_2)) (wv (.int .i64 (0:Int)) z z z (wl_nil (tn (wp_block ?_))))))))
 obtain ⟨n257, hm⟩ := loopO_some hm
 refine wp_loop_n (fun n a w => ∃ (z255 : Int) (σ256 : Nat → Value), loopN (locks_Meet_l1 a0 a1) n z255 = some y284 ∧ a = Fr 37 (upd (upd (upd (upd (upd σ256 2 (Pt b208 0)) 3 (Pt b213 0)) 10 (r0_2)) 11 (.int .i64 ((a0.Puts).length : Int))) 12 (.int .i64 z255)) ∧ St w0 w I [cells b213 [U6 a1.ID.Session, U6 a1.ID.Seq, U6 a1.Epoch, r1_0, r1_1, r1_2, r1_3], cells b208 [U6 a0.ID.Session, U6 a0.ID.Seq, U6 a0.Epoch, r0_0, r0_1, r0_2, r0_3]] R) n257 ⟨(0:Int), _, hm, (fu 2 (Pt b208 0) z (fu 3 (Pt b213 0) z (fu 10 r0_2 z (fu 11 (.int .i64 ((a0.Puts).length : Int)) z (fu 12 (.int .i64 (0:Int)) z z))))), hst⟩ ?_
 rintro n263 _ w258 ⟨z255, σ256, hm, rfl, hst⟩
 obtain ⟨n260, y261, rfl, hm, hx262⟩ := loopN_some hm
 dsimp only [locks_Meet_l1] at hm
 refine wp_seq (wrl (wv (.bool (decide (z255 < ((a0.Puts).length : Int)))) z z z (wl_nil (tn (wp_seq ?_)))))
 refine bsplit (decide (z255 < ((a0.Puts).length : Int))) (fun hc264 => ?_) (fun hc264 => ?_)
 {
 replace hm := bif_t hc264 hm
 refine wp_ift (cvb hc264) ?_
 refine wp_skip (tn (wp_seq (wp_block (wp_seq (wrl ?_)))))
 obtain ⟨x265, hx266, hm⟩ := bind_some hm
 obtain ⟨h267, h268, hi269⟩ := geto_some hx266
 refine wv (.pointer (some (eAddr r0_2 (z255.toNat * 1 + 0)))) z z (x_index z z underlying30 sizeOf57 (rd_sliceV f0_2) h267 h268) (wv (.float .f64 x265) z z (x_load z isAgg57 (rd_load f0_2 (HL.le.refl _) hst hi269 (by rintro _ rfl; rfl))) (wv (.float .f64 x265) z z z (wl_nil (tn (wp_seq (wrl (wv (.agg #[U6 a1.ID.Session, U6 a1.ID.Seq, U6 a1.Epoch, r1_0, r1_1, r1_2, r1_3]) z z (x_loadN (cs := [U6 a1.ID.Session, U6 a1.ID.Seq, U6 a1.Epoch, r1_0, r1_1, r1_2, r1_3]) z isAgg34 sizeOf34 (hst.bcs0 0 z)) (wv (.float .f64 x265) z z z (wv (.float .f64 x265) z z z ?_)))))))))
 obtain ⟨t270, ht271, hm⟩ := bind_some hm
 refine wc call52 [.agg #[U6 a1.ID.Session, U6 a1.ID.Seq, U6 a1.Epoch, r1_0, r1_1, r1_2, r1_3], F6 x265, F6 x265] z z z ?_
 refine (locks_writes_ref (f1_0.mono (rd_weak _)) (f1_1.mono (rd_weak _)) (f1_2.mono (rd_weak _)) (f1_3.mono (rd_weak _)) hst.to0 ht271).mono ?_
 rintro _ w272 ⟨rfl, hst⟩
 refine ⟨_, z, ?_⟩
 replace hst := hst.of0
 refine wv (.bool t270) z z z ?_
 refine bsplit t270 (fun hc275 => ?_) (fun hc275 => ?_)
 {
 replace hm := bif_t hc275 hm
 refine wo hc275 z z z z z z (wo hc275 z z z z z z (wo hc275 z z z z z z (wv (.bool true) z z (x_pick_t hc275 z z) (wl_nil (tn ?_)))))
 refine wp_ift z ?_
 refine wp_seq (wrl (wv (.bool true) z z z (wl_nil (tn (wp_ret (blk_r (then_r (then_r ?_))))))))
 replace hm := inr_up hm hx262
 refine blk_r (then_r ?_)
 replace hm := inr_up hm hx285
 obtain rfl := some_inj hm
 refine post_ret (vs := [.bool true]) results19 (rvs_cons (rv_tmp z) rvs_nil) ?_
 exact ⟨z, hst.keep0⟩
}
 {
 replace hm := bif_f hc275 hm
 refine wv (.agg #[U6 a1.ID.Session, U6 a1.ID.Seq, U6 a1.Epoch, r1_0, r1_1, r1_2, r1_3]) ((wanted_eq z z z (cvb hc275)).trans z) z (x_loadN (cs := [U6 a1.ID.Session, U6 a1.ID.Seq, U6 a1.Epoch, r1_0, r1_1, r1_2, r1_3]) z isAgg34 sizeOf34 (hst.bcs0 0 z)) (wv (.float .f64 x265) ((wanted_eq z z z (cvb hc275)).trans z) z z ?_)
 obtain ⟨t276, ht277, hm⟩ := bind_some hm
 refine wl_call ((wanted_eq z z z (cvb hc275)).trans z) z (x_call call53 z (vs := [.agg #[U6 a1.ID.Session, U6 a1.ID.Seq, U6 a1.Epoch, r1_0, r1_1, r1_2, r1_3], F6 x265]) z) ?_
 refine (locks_reads_ref (f1_0.mono (rd_weak _)) (f1_1.mono (rd_weak _)) (f1_2.mono (rd_weak _)) (f1_3.mono (rd_weak _)) hst.to0 ht277).mono ?_
 rintro _ w278 ⟨rfl, hst⟩
 refine ⟨_, z, ?_⟩
 replace hst := hst.of0
 refine wv (.bool t276) z z (x_pick_f hc275 z z) (wl_nil (tn ?_))
 refine bsplit t276 (fun hc281 => ?_) (fun hc281 => ?_)
 {
 replace hm := bif_t hc281 hm
 refine wp_ift (cvb hc281) ?_
 refine wp_seq (wrl (wv (.bool true) z z z (wl_nil (tn (wp_ret (blk_r (then_r (then_r ?_))))))))
 replace hm := inr_up hm hx262
 refine blk_r (then_r ?_)
 replace hm := inr_up hm hx285
 obtain rfl := some_inj hm
 refine post_ret (vs := [.bool true]) results19 (rvs_cons (rv_tmp z) rvs_nil) ?_
 exact ⟨z, hst.keep0⟩
}
 {
 replace hm := bif_f hc281 hm
 refine wp_iff (cvb hc281) ?_
 refine wp_skip (blk_n (tn (wrl ?_)))
 refine wv (.int .i64 (i64.wrap (z255 + (1:Int)))) z z z (wv (.int .i64 (i64.wrap (z255 + (1:Int)))) z z z (wl_nil (tn ?_)))
 replace hst := hst.pull1.pull1.keep2
 obtain rfl := some_inj hm
 exact ⟨_, Nat.lt_succ_self _, (i64.wrap (z255 + (1:Int))), _, hx262, (fu 2 (Pt b208 0) z (fu 3 (Pt b213 0) z (fu 10 r0_2 z (fu 11 (.int .i64 ((a0.Puts).length : Int)) z (fu 12 (.int .i64 (i64.wrap (z255 + (1:Int)))) z z))))), hst⟩
}
}
}
 {
 replace hm := bif_f hc264 hm
 refine wp_iff (cvb hc264) ?_
 refine wp_exit (then_x (then_x ?_))
 replace hm := inr_up hm hx262
 refine blk_x (tn ?_)
 replace hst := hst.pull1.keep2
 obtain rfl := some_inj hm
 exact ⟨_, hx285, (fu 2 (Pt b208 0) z (fu 3 (Pt b213 0) z z)), hst⟩
}
}
 {
 clear hst
 rintro _ w286 ⟨σ282, hm, rfl, hst⟩
 dsimp only [locks_Meet_j0] at hm
 refine wp_seq (wp_seq (wrl (wv (Pt b213 5) z z (x_field z underlying34 z sizeOf30 z) (wv (r1_2) z z (x_load z isAgg30 (hst.bc1 z)) (wv (.int .i64 ((a1.Puts).length : Int)) z z (x_len z underlying30 (rd_sliceV f1_2)) (wv (.int .i64 (0:Int)) z z z (wl_nil (tn (wp_block ?_)))))))))
 replace hst := hst.pull1.sub
 obtain ⟨n314, hm⟩ := loopO_some hm
 refine wp_loop_n (fun n a w => ∃ (z312 : Int) (σ313 : Nat → Value), loopN (locks_Meet_l2 a1 a0) n z312 = some r ∧ a = Fr 37 (upd (upd (upd (upd σ313 2 (Pt b208 0)) 27 (r1_2)) 28 (.int .i64 ((a1.Puts).length : Int))) 29 (.int .i64 z312)) ∧ St w0 w I [cells b208 [U6 a0.ID.Session, U6 a0.ID.Seq, U6 a0.Epoch, r0_0, r0_1, r0_2, r0_3]] R) n314 ⟨(0:Int), _, hm, (fu 2 (Pt b208 0) z (fu 27 r1_2 z (fu 28 (.int .i64 ((a1.Puts).length : Int)) z (fu 29 (.int .i64 (0:Int)) z z)))), hst⟩ ?_
 rintro n320 _ w315 ⟨z312, σ313, hm, rfl, hst⟩
 obtain ⟨n317, y318, rfl, hm, hx319⟩ := loopN_some hm
 dsimp only [locks_Meet_l2] at hm
 refine wp_seq (wrl (wv (.bool (decide (z312 < ((a1.Puts).length : Int)))) z z z (wl_nil (tn (wp_seq ?_)))))
 refine bsplit (decide (z312 < ((a1.Puts).length : Int))) (fun hc321 => ?_) (fun hc321 => ?_)
 {
 replace hm := bif_t hc321 hm
 refine wp_ift (cvb hc321) ?_
 refine wp_skip (tn (wp_seq (wp_block (wp_seq (wrl ?_)))))
 obtain ⟨x322, hx323, hm⟩ := bind_some hm
 obtain ⟨h324, h325, hi326⟩ := geto_some hx323
 refine wv (.pointer (some (eAddr r1_2 (z312.toNat * 1 + 0)))) z z (x_index z z underlying30 sizeOf57 (rd_sliceV f1_2) h324 h325) (wv (.float .f64 x322) z z (x_load z isAgg57 (rd_load f1_2 (HL.le.refl _) hst hi326 (by rintro _ rfl; rfl))) (wv (.float .f64 x322) z z z (wl_nil (tn (wp_seq (wrl (wv (.agg #[U6 a0.ID.Session, U6 a0.ID.Seq, U6 a0.Epoch, r0_0, r0_1, r0_2, r0_3]) z z (x_loadN (cs := [U6 a0.ID.Session, U6 a0.ID.Seq, U6 a0.Epoch, r0_0, r0_1, r0_2, r0_3]) z isAgg34 sizeOf34 (hst.bcs0 0 z)) (wv (.float .f64 x322) z z z ?_))))))))
 obtain ⟨t327, ht328, hm⟩ := bind_some hm
 refine wc call53 [.agg #[U6 a0.ID.Session, U6 a0.ID.Seq, U6 a0.Epoch, r0_0, r0_1, r0_2, r0_3], F6 x322] z z z ?_
 refine (locks_reads_ref (f0_0.mono (rd_weak _)) (f0_1.mono (rd_weak _)) (f0_2.mono (rd_weak _)) (f0_3.mono (rd_weak _)) hst.to0 ht328).mono ?_
 rintro _ w329 ⟨rfl, hst⟩
 refine ⟨_, z, ?_⟩
 replace hst := hst.of0
 refine wl_nil (tn ?_)
 refine bsplit t327 (fun hc332 => ?_) (fun hc332 => ?_)
 {
 replace hm := bif_t hc332 hm
 refine wp_ift (cvb hc332) ?_
 refine wp_seq (wrl (wv (.bool true) z z z (wl_nil (tn (wp_ret (blk_r (then_r (then_r ?_))))))))
 replace hm := inr_up hm hx319
 refine blk_r (then_r ?_)
 obtain rfl := some_inj hm
 refine post_ret (vs := [.bool true]) results19 (rvs_cons (rv_tmp z) rvs_nil) ?_
 exact ⟨z, hst.keep0⟩
}
 {
 replace hm := bif_f hc332 hm
 refine wp_iff (cvb hc332) ?_
 refine wp_skip (blk_n (tn (wrl ?_)))
 refine wv (.int .i64 (i64.wrap (z312 + (1:Int)))) z z z (wv (.int .i64 (i64.wrap (z312 + (1:Int)))) z z z (wl_nil (tn ?_)))
 replace hst := hst.keep1
 obtain rfl := some_inj hm
 exact ⟨_, Nat.lt_succ_self _, (i64.wrap (z312 + (1:Int))), _, hx319, (fu 2 (Pt b208 0) z (fu 27 r1_2 z (fu 28 (.int .i64 ((a1.Puts).length : Int)) z (fu 29 (.int .i64 (i64.wrap (z312 + (1:Int)))) z z)))), hst⟩
}
}
 {
 replace hm := bif_f hc321 hm
 refine wp_iff (cvb hc321) ?_
 refine wp_exit (then_x (then_x ?_))
 replace hm := inr_up hm hx319
 refine blk_x (tn (wp_seq (wrl ?_)))
 refine wv (.bool false) z z z (wl_nil (tn (wp_ret ?_)))
 obtain rfl := some_inj hm
 refine post_ret (vs := [.bool false]) results19 (rvs_cons (rv_tmp z) rvs_nil) ?_
 exact ⟨z, hst.keep0⟩
}
}
}

theorem slices_Clone_float64_float64_ref {w0 w : World} {I : HL} {R : SP} {a0 : (List Nat)} {r0_0 : Value} (f0_0 : Rd tyF64 R I r0_0 a0) (hst : St w0 w I [] R) {r : (List Nat)} (hm : slices_Clone_float64_float64 a0 = some r) :
  Calls prog 37 #[r0_0] w fun e w' => ∃ (q0_0 : Value), e = .returned (q0_0) ∧ St w0 w' I [ownS tyF64 q0_0 r] R := by {
 unfold slices_Clone_float64_float64 at hm
 obtain ⟨hg, hm⟩ := gd_some hm
 obtain rfl := some_inj hm
 have hsv := rd_sliceV f0_0
 refine calls_start (args := [r0_0]) func37 z ntmps37 (Nat.le_of_ble_eq_true z) ?_
 refine wp_seq (wrl (wv ((.slice none 0 0)) z z z (wl_nil (tn (wp_seq (wp_seq (wrl (wv (r0_0) z z z (wv (.bool (isNil r0_0)) z z (x_slnil z hsv z underlying30) (wl_nil (tn ?_)))))))))))
 refine bsplit (isNil r0_0) (fun hc233 => ?_) (fun hc233 => ?_)
 {
 refine wp_ift (cvb hc233) ?_
 refine wp_seq (wrl (wv ((.slice none 0 0)) z z z (wl_nil (tn (wp_ret (then_r ?_))))))
 refine post_ret (vs := [Zs]) results37 (rvs_cons (rv_tmp z) rvs_nil) ?_
 obtain rfl := List.eq_nil_of_length_eq_zero (isNil_len hsv hc233)
 exact ⟨_, z, (hst.own_nil tyF64).keep1⟩
}
 {
 refine wp_iff (cvb hc233) ?_
 refine wp_skip (tn (wp_seq (wrl ?_)))
 obtain ⟨b, w1, ew, eb, hst⟩ := hst.lits (E := tyF64) (xs := []) [] 57 0 z Reps.nil
 refine wl_run (v := (.slice (some ⟨b, 0, none⟩) 0 0)) (w' := w1) z z (x_als (by kernel_rfl) ew eb) ?_
 refine wv (r0_0) z z z ?_
 obtain ⟨v2, w2, hr, hst⟩ := run_append elem_30 underlying30 hst (Src.of_rd hst f0_0 flat_f64) (room_of hg z) 30
 refine wl_run (v := v2) (w' := w2) z z (x_append z z hr) ?_
 refine wv (v2) z z z (wl_nil (tn (wp_ret ?_)))
 refine post_ret (vs := [v2]) results37 (rvs_cons (rv_tmp z) rvs_nil) ?_
 rw [List.nil_append] at hst
 exact ⟨_, z, hst.keep1⟩
}
}

theorem slices_Clone_2_float64_2_float64_ref {w0 w : World} {I : HL} {R : SP} {a0 : (List (Nat × Nat))} {r0_0 : Value} (f0_0 : Rd tyF2 R I r0_0 a0) (hst : St w0 w I [] R) {r : (List (Nat × Nat))} (hm : slices_Clone_2_float64_2_float64 a0 = some r) :
  Calls prog 38 #[r0_0] w fun e w' => ∃ (q0_0 : Value), e = .returned (q0_0) ∧ St w0 w' I [ownS tyF2 q0_0 r] R := by {
 unfold slices_Clone_2_float64_2_float64 at hm
 obtain ⟨hg, hm⟩ := gd_some hm
 obtain rfl := some_inj hm
 have hsv := rd_sliceV f0_0
 refine calls_start (args := [r0_0]) func38 z ntmps38 (Nat.le_of_ble_eq_true z) ?_
 refine wp_seq (wrl (wv ((.slice none 0 0)) z z z (wl_nil (tn (wp_seq (wp_seq (wrl (wv (r0_0) z z z (wv (.bool (isNil r0_0)) z z (x_slnil z hsv z underlying31) (wl_nil (tn ?_)))))))))))
 refine bsplit (isNil r0_0) (fun hc233 => ?_) (fun hc233 => ?_)
 {
 refine wp_ift (cvb hc233) ?_
 refine wp_seq (wrl (wv ((.slice none 0 0)) z z z (wl_nil (tn (wp_ret (then_r ?_))))))
 refine post_ret (vs := [Zs]) results38 (rvs_cons (rv_tmp z) rvs_nil) ?_
 obtain rfl := List.eq_nil_of_length_eq_zero (isNil_len hsv hc233)
 exact ⟨_, z, (hst.own_nil tyF2).keep1⟩
}
 {
 refine wp_iff (cvb hc233) ?_
 refine wp_skip (tn (wp_seq (wrl ?_)))
 obtain ⟨b, w1, ew, eb, hst⟩ := hst.lits (E := tyF2) (xs := []) [] 75 0 z Reps.nil
 refine wl_run (v := (.slice (some ⟨b, 0, none⟩) 0 0)) (w' := w1) z z (x_als (by kernel_rfl) ew eb) ?_
 refine wv (r0_0) z z z ?_
 obtain ⟨v2, w2, hr, hst⟩ := run_append elem_31 underlying31 hst (Src.of_rd hst f0_0 flat_f2) (room_of hg z) 31
 refine wl_run (v := v2) (w' := w2) z z (x_append z z hr) ?_
 refine wv (v2) z z z (wl_nil (tn (wp_ret ?_)))
 refine post_ret (vs := [v2]) results38 (rvs_cons (rv_tmp z) rvs_nil) ?_
 rw [List.nil_append] at hst
 exact ⟨_, z, hst.keep1⟩
}
}

theorem slices_Clone_byte_byte_ref {w0 w : World} {I : HL} {R : SP} {a0 : (List Int)} {r0_0 : Value} (f0_0 : Rd (tyInt .u8) R I r0_0 a0) (hst : St w0 w I [] R) {r : (List Int)} (hm : slices_Clone_byte_byte a0 = some r) :
  Calls prog 39 #[r0_0] w fun e w' => ∃ (q0_0 : Value), e = .returned (q0_0) ∧ St w0 w' I [ownS (tyInt .u8) q0_0 r] R := by {
 unfold slices_Clone_byte_byte at hm
 obtain ⟨hg, hm⟩ := gd_some hm
 obtain rfl := some_inj hm
 have hsv := rd_sliceV f0_0
 refine calls_start (args := [r0_0]) func39 z ntmps39 (Nat.le_of_ble_eq_true z) ?_
 refine wp_seq (wrl (wv ((.slice none 0 0)) z z z (wl_nil (tn (wp_seq (wp_seq (wrl (wv (r0_0) z z z (wv (.bool (isNil r0_0)) z z (x_slnil z hsv z underlying32) (wl_nil (tn ?_)))))))))))
 refine bsplit (isNil r0_0) (fun hc233 => ?_) (fun hc233 => ?_)
 {
 refine wp_ift (cvb hc233) ?_
 refine wp_seq (wrl (wv ((.slice none 0 0)) z z z (wl_nil (tn (wp_ret (then_r ?_))))))
 refine post_ret (vs := [Zs]) results39 (rvs_cons (rv_tmp z) rvs_nil) ?_
 obtain rfl := List.eq_nil_of_length_eq_zero (isNil_len hsv hc233)
 exact ⟨_, z, (hst.own_nil (tyInt .u8)).keep1⟩
}
 {
 refine wp_iff (cvb hc233) ?_
 refine wp_skip (tn (wp_seq (wrl ?_)))
 obtain ⟨b, w1, ew, eb, hst⟩ := hst.lits (E := (tyInt .u8)) (xs := []) [] 5 0 z Reps.nil
 refine wl_run (v := (.slice (some ⟨b, 0, none⟩) 0 0)) (w' := w1) z z (x_als (by kernel_rfl) ew eb) ?_
 refine wv (r0_0) z z z ?_
 obtain ⟨v2, w2, hr, hst⟩ := run_append elem_32 underlying32 hst (Src.of_rd hst f0_0 flat_int) (room_of hg z) 32
 refine wl_run (v := v2) (w' := w2) z z (x_append z z hr) ?_
 refine wv (v2) z z z (wl_nil (tn (wp_ret ?_)))
 refine post_ret (vs := [v2]) results39 (rvs_cons (rv_tmp z) rvs_nil) ?_
 rw [List.nil_append] at hst
 exact ⟨_, z, hst.keep1⟩
}
}

theorem cmp_isNaN_uint64_ref {w0 w : World} {I : HL} {R : SP} {a0 : Int}  (hst : St w0 w I [] R) {r : (Bool)} (hm : cmp_isNaN_uint64 a0 = some r) :
  Calls prog 95 #[U6 a0] w fun e w' => e = .returned (.bool r) ∧ St w0 w' I [] R := by {
 unfold cmp_isNaN_uint64 at hm
 refine calls_start (args := [U6 a0]) func95 z ntmps95 (Nat.le_of_ble_eq_true z) ?_
 refine wp_seq (wrl (wv (.bool false) z z z (wl_nil (tn (wp_seq (wrl (wv (.int .u64 a0) z z z (wv (.int .u64 a0) z z z (wv (.bool (a0 != a0)) z z z (wv (.bool (a0 != a0)) z z z (wl_nil (tn (wp_ret ?_)))))))))))))
 obtain rfl := some_inj hm
 refine post_ret (vs := [.bool (a0 != a0)]) results95 (rvs_cons (rv_tmp z) rvs_nil) ?_
 exact ⟨z, hst.keep0⟩
}

theorem cmp_Compare_uint64_ref {w0 w : World} {I : HL} {R : SP} {a0 : Int} {a1 : Int}  (hst : St w0 w I [] R) {r : (Int)} (hm : cmp_Compare_uint64 a0 a1 = some r) :
  Calls prog 86 #[U6 a0, U6 a1] w fun e w' => e = .returned (.int .i64 r) ∧ St w0 w' I [] R := by {
 unfold cmp_Compare_uint64 at hm
 refine calls_start (args := [U6 a0, U6 a1]) func86 z ntmps86 (Nat.le_of_ble_eq_true z) ?_
 refine wp_seq (wrl (wv (.int .i64 (0:Int)) z z z (wl_nil (tn (wp_seq (wrl (wv (.int .u64 a0) z z z ?_)))))))
 obtain ⟨t338, ht339, hm⟩ := bind_some hm
 refine wc call95 [U6 a0] z z z ?_
 refine (cmp_isNaN_uint64_ref hst.to0 ht339).mono ?_
 rintro _ w340 ⟨rfl, hst⟩
 refine ⟨_, z, ?_⟩
 replace hst := hst.of0
 refine wv (.bool t338) z z z (wl_nil (tn (wp_seq (wrl (wv (.int .u64 a1) z z z ?_)))))
 obtain ⟨t343, ht344, hm⟩ := bind_some hm
 refine wc call95 [U6 a1] z z z ?_
 refine (cmp_isNaN_uint64_ref hst.to0 ht344).mono ?_
 rintro _ w345 ⟨rfl, hst⟩
 refine ⟨_, z, ?_⟩
 replace hst := hst.of0
 refine wv (.bool t343) z z z (wl_nil (tn (wp_seq (wp_seq (wrl (wv (.bool t338) z z z (wl_nil (tn ?_))))))))
 refine bsplit t338 (fun hc348 => ?_) (fun hc348 => ?_)
 {
 replace hm := bif_t hc348 hm
 refine wp_ift (cvb hc348) ?_
 refine wp_seq (wp_seq (wrl (wv (.bool t343) z z z (wl_nil (tn ?_)))))
 refine bsplit t343 (fun hc349 => ?_) (fun hc349 => ?_)
 {
 replace hm := bif_t hc349 hm
 refine wp_ift (cvb hc349) ?_
 refine wp_seq (wrl (wv (.int .i64 (0:Int)) z z z (wl_nil (tn (wp_ret (then_r (then_r ?_)))))))
 obtain rfl := some_inj hm
 refine post_ret (vs := [Zi]) results86 (rvs_cons (rv_tmp z) rvs_nil) ?_
 exact ⟨z, hst.keep0⟩
}
 {
 replace hm := bif_f hc349 hm
 refine wp_iff (cvb hc349) ?_
 refine wp_skip (tn (wp_seq (wrl ?_)))
 refine wv (.int .i64 ((-1):Int)) z z z (wl_nil (tn (wp_ret (then_r ?_))))
 obtain rfl := some_inj hm
 refine post_ret (vs := [I6 ((-1):Int)]) results86 (rvs_cons (rv_tmp z) rvs_nil) ?_
 exact ⟨z, hst.keep0⟩
}
}
 {
 replace hm := bif_f hc348 hm
 refine wp_iff (cvb hc348) ?_
 refine wp_skip (tn (wp_seq (wp_seq (wrl ?_))))
 refine wv (.bool t343) z z z (wl_nil (tn ?_))
 refine bsplit t343 (fun hc350 => ?_) (fun hc350 => ?_)
 {
 replace hm := bif_t hc350 hm
 refine wp_ift (cvb hc350) ?_
 refine wp_seq (wrl (wv (.int .i64 (1:Int)) z z z (wl_nil (tn (wp_ret (then_r ?_))))))
 obtain rfl := some_inj hm
 refine post_ret (vs := [I6 (1:Int)]) results86 (rvs_cons (rv_tmp z) rvs_nil) ?_
 exact ⟨z, hst.keep0⟩
}
 {
 replace hm := bif_f hc350 hm
 refine wp_iff (cvb hc350) ?_
 refine wp_skip (tn (wp_seq (wp_seq (wrl ?_))))
 refine wv (.int .u64 a0) z z z (wv (.int .u64 a1) z z z (wv (.bool (decide (a0 < a1))) z z z (wl_nil (tn ?_))))
 refine bsplit (decide (a0 < a1)) (fun hc351 => ?_) (fun hc351 => ?_)
 {
 replace hm := bif_t hc351 hm
 refine wp_ift (cvb hc351) ?_
 refine wp_seq (wrl (wv (.int .i64 ((-1):Int)) z z z (wl_nil (tn (wp_ret (then_r ?_))))))
 obtain rfl := some_inj hm
 refine post_ret (vs := [I6 ((-1):Int)]) results86 (rvs_cons (rv_tmp z) rvs_nil) ?_
 exact ⟨z, hst.keep0⟩
}
 {
 replace hm := bif_f hc351 hm
 refine wp_iff (cvb hc351) ?_
 refine wp_skip (tn (wp_seq (wp_seq (wrl ?_))))
 refine wv (.int .u64 a0) z z z (wv (.int .u64 a1) z z z (wv (.bool (decide (a0 > a1))) z z z (wl_nil (tn ?_))))
 refine bsplit (decide (a0 > a1)) (fun hc352 => ?_) (fun hc352 => ?_)
 {
 replace hm := bif_t hc352 hm
 refine wp_ift (cvb hc352) ?_
 refine wp_seq (wrl (wv (.int .i64 (1:Int)) z z z (wl_nil (tn (wp_ret (then_r ?_))))))
 obtain rfl := some_inj hm
 refine post_ret (vs := [I6 (1:Int)]) results86 (rvs_cons (rv_tmp z) rvs_nil) ?_
 exact ⟨z, hst.keep0⟩
}
 {
 replace hm := bif_f hc352 hm
 refine wp_iff (cvb hc352) ?_
 refine wp_skip (tn (wp_seq (wrl ?_)))
 refine wv (.int .i64 (0:Int)) z z z (wl_nil (tn (wp_ret ?_)))
 obtain rfl := some_inj hm
 refine post_ret (vs := [Zi]) results86 (rvs_cons (rv_tmp z) rvs_nil) ?_
 exact ⟨z, hst.keep0⟩
}
}
}
}
}

theorem cmp_Or_int_ref {w0 w : World} {I : HL} {R : SP} {a0 : (List Int)} {r0_0 : Value} (f0_0 : Rd (tyInt .i64) R I r0_0 a0) (hst : St w0 w I [] R) {r : (Int)} (hm : cmp_Or_int a0 = some r) :
  Calls prog 85 #[r0_0] w fun e w' => e = .returned (.int .i64 r) ∧ St w0 w' I [] R := by {
 unfold cmp_Or_int at hm
 refine calls_start (args := [r0_0]) func85 z ntmps85 (Nat.le_of_ble_eq_true z) ?_
 refine wp_seq (wrl (wv (.int .i64 (0:Int)) z z z (wl_nil (tn (wp_seq (wrl (wv (.int .i64 (0:Int)) z z z (wl_nil (tn (wp_seq (wp_seq (wrl (wv (r0_0) z z z (wv (.int .i64 ((a0).length : Int)) z z (x_len z underlying123 (rd_sliceV f0_0)) (wv (.int .i64 (0:Int)) z z z (wl_nil (tn (wp_block ?_))))))))))))))))))
 obtain ⟨n373, hm⟩ := loopO_some hm
 refine wp_loop_n (fun n a w => ∃ (z371 : Int) (σ372 : Nat → Value), loopN (cmp_Or_int_l0 a0) n z371 = some r ∧ a = Fr 18 (upd (upd (upd (upd σ372 3 (.int .i64 (0:Int))) 6 (r0_0)) 7 (.int .i64 ((a0).length : Int))) 8 (.int .i64 z371)) ∧ St w0 w I [] R) n373 ⟨(0:Int), _, hm, (fu 3 (.int .i64 (0:Int)) z (fu 6 r0_0 z (fu 7 (.int .i64 ((a0).length : Int)) z (fu 8 (.int .i64 (0:Int)) z z)))), hst⟩ ?_
 rintro n379 _ w374 ⟨z371, σ372, hm, rfl, hst⟩
 obtain ⟨n376, y377, rfl, hm, hx378⟩ := loopN_some hm
 dsimp only [cmp_Or_int_l0] at hm
 refine wp_seq (wrl (wv (.bool (decide (z371 < ((a0).length : Int)))) z z z (wl_nil (tn (wp_seq ?_)))))
 refine bsplit (decide (z371 < ((a0).length : Int))) (fun hc380 => ?_) (fun hc380 => ?_)
 {
 replace hm := bif_t hc380 hm
 refine wp_ift (cvb hc380) ?_
 refine wp_skip (tn (wp_seq (wp_block (wp_seq (wrl ?_)))))
 obtain ⟨x381, hx382, hm⟩ := bind_some hm
 obtain ⟨h383, h384, hi385⟩ := geto_some hx382
 refine wv (.pointer (some (eAddr r0_0 (z371.toNat * 1 + 0)))) z z (x_index z z underlying123 sizeOf3 (rd_sliceV f0_0) h383 h384) (wv (.int .i64 x381) z z (x_load z isAgg3 (rd_load f0_0 (HL.le.refl _) hst hi385 (by rintro _ rfl; rfl))) (wv (.int .i64 x381) z z z (wl_nil (tn (wp_seq (wrl (wv (.int .i64 x381) z z z (wv (.int .i64 (0:Int)) z z z (wv (.bool (x381 != (0:Int))) z z z (wl_nil (tn ?_)))))))))))
 refine bsplit (x381 != (0:Int)) (fun hc386 => ?_) (fun hc386 => ?_)
 {
 replace hm := bif_t hc386 hm
 refine wp_ift (cvb hc386) ?_
 refine wp_seq (wrl (wv (.int .i64 x381) z z z (wv (.int .i64 x381) z z z (wl_nil (tn (wp_ret (blk_r (then_r (then_r ?_)))))))))
 replace hm := inr_up hm hx378
 refine blk_r (then_r ?_)
 obtain rfl := some_inj hm
 refine post_ret (vs := [I6 x381]) results85 (rvs_cons (rv_tmp z) rvs_nil) ?_
 exact ⟨z, hst.keep0⟩
}
 {
 replace hm := bif_f hc386 hm
 refine wp_iff (cvb hc386) ?_
 refine wp_skip (blk_n (tn (wrl ?_)))
 refine wv (.int .i64 (i64.wrap (z371 + (1:Int)))) z z z (wv (.int .i64 (i64.wrap (z371 + (1:Int)))) z z z (wl_nil (tn ?_)))
 replace hst := hst.keep0
 obtain rfl := some_inj hm
 exact ⟨_, Nat.lt_succ_self _, (i64.wrap (z371 + (1:Int))), _, hx378, (fu 3 (.int .i64 (0:Int)) z (fu 6 r0_0 z (fu 7 (.int .i64 ((a0).length : Int)) z (fu 8 (.int .i64 (i64.wrap (z371 + (1:Int)))) z z)))), hst⟩
}
}
 {
 replace hm := bif_f hc380 hm
 refine wp_iff (cvb hc380) ?_
 refine wp_exit (then_x (then_x ?_))
 replace hm := inr_up hm hx378
 refine blk_x (tn (wp_seq (wrl ?_)))
 refine wv (.int .i64 (0:Int)) z z z (wv (.int .i64 (0:Int)) z z z (wl_nil (tn (wp_ret ?_))))
 obtain rfl := some_inj hm
 refine post_ret (vs := [Zi]) results85 (rvs_cons (rv_tmp z) rvs_nil) ?_
 exact ⟨z, hst.keep0⟩
}
}

theorem locks_compare_ref {w0 w : World} {I : HL} {R : SP} {a0 : api_Hold} {r0_0 : Value} {r0_1 : Value} {r0_2 : Value} {r0_3 : Value} {a1 : api_ID} (f0_0 : Rd tyF64 R I r0_0 a0.Gets) (f0_1 : Rd tyF2 R I r0_1 a0.Scans) (f0_2 : Rd tyF64 R I r0_2 a0.Puts) (f0_3 : Rd (tyInt .u8) R I r0_3 a0.Data) (hst : St w0 w I [] R) {r : (Int)} (hm : locks_compare a0 a1 = some r) :
  Calls prog 59 #[.agg #[U6 a0.ID.Session, U6 a0.ID.Seq, U6 a0.Epoch, r0_0, r0_1, r0_2, r0_3], .agg #[U6 a1.Session, U6 a1.Seq]] w fun e w' => e = .returned (.int .i64 r) ∧ St w0 w' I [] R := by {
 unfold locks_compare at hm
 refine calls_start (args := [.agg #[U6 a0.ID.Session, U6 a0.ID.Seq, U6 a0.Epoch, r0_0, r0_1, r0_2, r0_3], .agg #[U6 a1.Session, U6 a1.Seq]]) func59 z ntmps59 (Nat.le_of_ble_eq_true z) ?_
 refine wp_seq (wrl ?_)
 obtain ⟨b349, w350, ew351, eb352, hst⟩ := hst.box [U6 a0.ID.Session, U6 a0.ID.Seq, U6 a0.Epoch, r0_0, r0_1, r0_2, r0_3] 34
 refine wl_run (v := Pt b349 0) (w' := w350) z z (x_al (by kernel_rfl) ew351 eb352) ?_
 obtain ⟨b354, w355, ew356, eb357, hst⟩ := hst.box [U6 a1.Session, U6 a1.Seq] 29
 refine wl_run (v := Pt b354 0) (w' := w355) z z (x_al (by kernel_rfl) ew356 eb357) ?_
 refine wv (.int .i64 (0:Int)) z z z (wl_nil (tn (wp_seq ?_)))
 refine wp_region_St hst 15 [0, 1, 2, 3, 4, 5, 6, 7, 8, 9, 10, 11, 12, 13, 14] [0, 1, 3, 0, 8, 31, 0, 64, 192, 0, 512, 2047, 4095, 8191, 16383] [] z (by kernel_rfl) (by kernel_rfl) Try.mixed (by kernel_rfl) ?_
 refine wsr (Pt b349 0) 0 z z z (by kernel_rfl) (fun w hst => x_field z underlying34 z sizeOf29 z) (wsr (Pt b349 0) 1 z z z (by kernel_rfl) (fun w hst => x_field z underlying29 z sizeOf27 z) (wsr (.int .u64 a0.ID.Session) 2 z z z (by kernel_rfl) (fun w hst => x_load z isAgg27 (hst.bc1 z)) (wsr (Pt b354 0) 3 z z z (by kernel_rfl) (fun w hst => x_field z underlying29 z sizeOf27 z) (wsr (.int .u64 a1.Session) 4 z z z (by kernel_rfl) (fun w hst => x_load z isAgg27 (hst.bc0 z)) (wsr (Pt b349 0) 6 z z z (by kernel_rfl) (fun w hst => x_field z underlying34 z sizeOf29 z) (wsr (Pt b349 1) 7 z z z (by kernel_rfl) (fun w hst => x_field z underlying29 z sizeOf27 z) (wsr (.int .u64 a0.ID.Seq) 8 z z z (by kernel_rfl) (fun w hst => x_load z isAgg27 (hst.bc1 z)) (wsr (Pt b354 1) 9 z z z (by kernel_rfl) (fun w hst => x_field z underlying29 z sizeOf27 z) (wsr (.int .u64 a1.Seq) 10 z z z (by kernel_rfl) (fun w hst => x_load z isAgg27 (hst.bc0 z)) ?_)))))))))
 refine ws_e1 5 (by kernel_rfl) ?_
 refine nxe [11, 12, 13, 14] (by kernel_rfl) z z ?_
 clear hst
 intro w hst
 obtain ⟨t359, ht360, hm⟩ := bind_some hm
 refine wec call86 [U6 a0.ID.Session, U6 a1.Session] z z ?_
 refine (cmp_Compare_uint64_ref hst.to0 ht360).mono ?_
 rintro _ w361 ⟨rfl, hst⟩
 refine ⟨_, z, ?_⟩
 replace hst := hst.of0
 refine ws_next (pend' := [(10, U6 a1.Seq), (9, Pt b354 1), (8, U6 a0.ID.Seq), (7, Pt b349 1), (6, Pt b349 0)]) hst (by kernel_rfl) (pkr z z (fun w hst => x_load z isAgg27 (hst.bc0 z)) (pkr z z (fun w hst => x_field z underlying29 z sizeOf27 z) (pkr z z (fun w hst => x_load z isAgg27 (hst.bc1 z)) (pkr z z (fun w hst => x_field z underlying29 z sizeOf27 z) (pkr z z (fun w hst => x_field z underlying34 z sizeOf29 z) pk_nil))))) ?_
 refine ws_e1 11 (by kernel_rfl) ?_
 refine nxe [12, 13, 14] (by kernel_rfl) z z ?_
 clear hst
 intro w hst
 obtain ⟨t364, ht365, hm⟩ := bind_some hm
 refine wec call86 [U6 a0.ID.Seq, U6 a1.Seq] z z ?_
 refine (cmp_Compare_uint64_ref hst.to0 ht365).mono ?_
 rintro _ w366 ⟨rfl, hst⟩
 refine ⟨_, z, ?_⟩
 replace hst := hst.of0
 refine ws_next (pend' := []) hst (by kernel_rfl) pk_nil ?_
 refine ws_e1 12 (by kernel_rfl) ?_
 refine nxe [13, 14] (by kernel_rfl) z z ?_
 clear hst
 intro w hst
 obtain ⟨b369, w370, ew371, eb372, hst⟩ := hst.lits (E := (tyInt .i64)) (xs := [t359, t364]) [[I6 t359], [I6 t364]] 3 2 z (Reps.cons z (Reps.cons z Reps.nil))
 refine we_run (v := (.slice (some ⟨b369, 0, none⟩) 2 2)) (w' := w370) z (x_als (by kernel_rfl) ew371 eb372) ?_
 refine ws_next (pend' := []) hst (by kernel_rfl) pk_nil ?_
 refine ws_e1 13 (by kernel_rfl) ?_
 refine nxe [14] (by kernel_rfl) z z ?_
 clear hst
 intro w hst
 obtain ⟨css374, hq375, hst⟩ := hst.own_open
 obtain ⟨t376, ht377, hm⟩ := bind_some hm
 refine wec call85 [(.slice (some ⟨b369, 0, none⟩) 2 2)] z z ?_
 refine (cmp_Or_int_ref (hst.rdrow0 hq375) hst.to0 ht377).mono ?_
 rintro _ w378 ⟨rfl, hst⟩
 refine ⟨_, z, ?_⟩
 replace hst := hst.of0.own_close hq375
 refine ws_next (pend' := []) hst (by kernel_rfl) pk_nil ?_
 refine wsr (.int .i64 t376) 14 z z z (by kernel_rfl) (fun w hst => z) ?_
 refine ws_nil ?_
 intro w hst
 refine tn (wp_ret ?_)
 obtain rfl := some_inj hm
 refine post_ret (vs := [I6 t376]) results59 (rvs_cons (rv_tmp z) rvs_nil) ?_
 exact ⟨z, hst.keep0⟩
}

theorem locks_Table_find_ref {w0 w : World} {I : HL} {R : SP} {a0 : (Option locks_Table)} {p0 : Value} {a1 : api_ID}  (hst : St w0 w I [objO at_locks_Table p0 a0] R) {r : (Int × Bool)} (hm : locks_Table_find a0 a1 = some r) :
  Calls prog 40 #[p0, .agg #[U6 a1.Session, U6 a1.Seq]] w fun e w' => e = .returned (.tuple #[I6 r.1, .bool r.2]) ∧ St w0 w' I [objO at_locks_Table p0 a0] R := by {
 rcases a0 with _ | o0
 {
 obtain ⟨rfl, hst'⟩ := objO_none hst
 clear hst
 have hst := hst'
 clear hst'
 dsimp only [locks_Table_find] at hm
 refine calls_start (args := [.pointer none, .agg #[U6 a1.Session, U6 a1.Seq]]) func40 z ntmps40 (Nat.le_of_ble_eq_true z) ?_
 refine wp_seq (wrl ?_)
 obtain ⟨b426, w427, ew428, eb429, hst⟩ := hst.box [U6 a1.Session, U6 a1.Seq] 29
 refine wl_run (v := Pt b426 0) (w' := w427) z z (x_al (by kernel_rfl) ew428 eb429) ?_
 refine wv (.int .i64 (0:Int)) z z z (wv (.bool false) z z z (wl_nil (tn (wp_seq (wp_seq (wrl (wv (.pointer none) z z z (wv (.bool true) z z (by kernel_rfl) (wl_nil (tn ?_))))))))))
 refine wp_ift z ?_
 refine wp_seq (wrl (wv (.int .i64 (0:Int)) z z z (wv (.bool false) z z z (wl_nil (tn (wp_ret (then_r ?_)))))))
 replace hst := hst.objO_nil at_locks_Table
 obtain rfl := some_inj hm
 refine post_ret (vs := [Zi, .bool false]) results40 (rvs_cons (rv_tmp z) (rvs_cons (rv_tmp z) rvs_nil)) ?_
 exact ⟨z, hst.keep1⟩
}
 {
 replace hst := objO_get hst
 dsimp only [locks_Table_find] at hm
 refine calls_start (args := [p0, .agg #[U6 a1.Session, U6 a1.Seq]]) func40 z ntmps40 (Nat.le_of_ble_eq_true z) ?_
 refine wp_seq (wrl ?_)
 obtain ⟨b431, w432, ew433, eb434, hst⟩ := hst.box [U6 a1.Session, U6 a1.Seq] 29
 refine wl_run (v := Pt b431 0) (w' := w432) z z (x_al (by kernel_rfl) ew433 eb434) ?_
 refine wv (.int .i64 (0:Int)) z z z (wv (.bool false) z z z (wl_nil (tn (wp_seq (wp_seq (wrl (wv (p0) z z z ?_)))))))
 replace hst := hst.pull1
 obtain ⟨b436, v437, rfl, hst'⟩ := at_locks_Table_open hst
 clear hst
 have hst := hst'
 clear hst'
 refine wv (.bool false) z z (by kernel_rfl) (wl_nil (tn ?_))
 refine wp_iff z ?_
 refine wp_skip (tn (wp_seq ?_))
 refine wp_region_St hst 10 [0, 1, 2, 3, 4, 5, 6, 7, 8, 9] [0, 1, 3, 7, 0, 31, 63, 63, 255, 511] [] z (by kernel_rfl) (by kernel_rfl) Try.mixed (by kernel_rfl) ?_
 refine wsr (Pt b436 0) 0 z z z (by kernel_rfl) (fun w hst => z) (wsr (Pt b436 0) 1 z z z (by kernel_rfl) (fun w hst => z) (wsr (Pt b436 0) 2 z z z (by kernel_rfl) (fun w hst => x_field z underlying77 z sizeOf22 z) (wsr (v437) 3 z z z (by kernel_rfl) (fun w hst => x_load z isAgg22 (hst.bc0 z)) (wsr (.agg #[U6 a1.Session, U6 a1.Seq]) 4 z z z (by kernel_rfl) (fun w hst => x_loadN (cs := [U6 a1.Session, U6 a1.Seq]) z isAgg29 sizeOf29 (hst.bcs2 0 z)) ?_))))
 refine ws_e1 5 (by kernel_rfl) ?_
 refine nxe [6, 7, 8, 9] (by kernel_rfl) z z ?_
 clear hst
 intro w hst
 obtain ⟨y580, hq581, hm⟩ := bind_some hm
 refine we_call z (x_callv call71 (caps := []) z (vs := [v437, .agg #[U6 a1.Session, U6 a1.Seq], .func (.func 59) #[] #[]]) z) ?_
 refine Calls.mono (show Calls prog 71 #[v437, .agg #[U6 a1.Session, U6 a1.Seq], .func (.func 59) #[] #[]] _ (fun e w' => ∃ (z577 : Int) (z578 : Bool), (z577, z578) = y580 ∧ e = .returned (.tuple #[I6 z577, .bool z578]) ∧ St w0 w' I [cells b436 [v437], ownS ty_api_Hold v437 o0.l, cells b431 [U6 a1.Session, U6 a1.Seq]] R) from ?_) ?_
 {
 clear hm; have hm := hq581
 refine calls_start (args := [v437, .agg #[U6 a1.Session, U6 a1.Seq], .func (.func 59) #[] #[]]) func71 z ntmps71 (Nat.le_of_ble_eq_true z) ?_
 refine wp_seq (wrl ?_)
 obtain ⟨b439, w440, ew441, eb442, hst⟩ := hst.box [U6 a1.Session, U6 a1.Seq] 29
 refine wl_run (v := Pt b439 0) (w' := w440) z z (x_al (by kernel_rfl) ew441 eb442) ?_
 refine wv (.int .i64 (0:Int)) z z z (wv (.bool false) z z z (wl_nil (tn (wp_seq (wrl (wv (v437) z z z (wv (.int .i64 ((o0.l).length : Int)) z z (x_len z underlying22 hst.sv2) (wv (.int .i64 ((o0.l).length : Int)) z z z (wl_nil (tn (wp_seq (wrl (wv (.int .i64 ((o0.l).length : Int)) z z z (wv (.int .i64 (0:Int)) z z z (wv (.int .i64 ((o0.l).length : Int)) z z z (wl_nil (tn ?_)))))))))))))))))
 obtain ⟨y546, hm, hx547⟩ := bind_some hm
 refine wp_cut (fun a w => ∃ (z543 : Int) (σ544 : Nat → Value), (locks_Table_find_j0 o0 a1) z543 = some y580 ∧ a = Fr 49 (upd (upd (upd (upd (upd σ544 0 (v437)) 2 (.func (.func 59) #[] #[])) 4 (Pt b439 0)) 8 (.int .i64 ((o0.l).length : Int))) 9 (.int .i64 z543)) ∧ St w0 w I [ownS ty_api_Hold v437 o0.l, cells b439 [U6 a1.Session, U6 a1.Seq], cells b436 [v437], cells b431 [U6 a1.Session, U6 a1.Seq]] R) ?_ ?_
 {
 refine wp_block ?_
 obtain ⟨n507, hm⟩ := loopO_some hm
 refine wp_loop_n (fun n a w => ∃ (z504 : Int) (z505 : Int) (σ506 : Nat → Value), loopN (locks_Table_find_l1 o0 a1) n (z504, z505) = some y546 ∧ a = Fr 49 (upd (upd (upd (upd (upd (upd σ506 0 (v437)) 2 (.func (.func 59) #[] #[])) 4 (Pt b439 0)) 8 (.int .i64 ((o0.l).length : Int))) 9 (.int .i64 z505)) 10 (.int .i64 z504)) ∧ St w0 w I [cells b439 [U6 a1.Session, U6 a1.Seq], cells b436 [v437], ownS ty_api_Hold v437 o0.l, cells b431 [U6 a1.Session, U6 a1.Seq]] R) n507 ⟨((o0.l).length : Int), (0:Int), _, hm, (fu 0 v437 z (fu 2 (.func (.func 59) #[] #[]) z (fu 4 (Pt b439 0) z (fu 8 (.int .i64 ((o0.l).length : Int)) z (fu 9 (.int .i64 (0:Int)) z (fu 10 (.int .i64 ((o0.l).length : Int)) z z)))))), hst⟩ ?_
 rintro n513 _ w508 ⟨z504, z505, σ506, hm, rfl, hst⟩
 obtain ⟨n510, y511, rfl, hm, hx512⟩ := loopN_some hm
 dsimp only [locks_Table_find_l1] at hm
 refine wp_seq (wp_seq (wrl (wv (.int .i64 z505) z z z (wv (.int .i64 z504) z z z (wv (.bool (decide (z505 < z504))) z z z (wl_nil (tn ?_)))))))
 refine bsplit (decide (z505 < z504)) (fun hc514 => ?_) (fun hc514 => ?_)
 {
 replace hm := bif_t hc514 hm
 refine wp_ift (cvb hc514) ?_
 refine wp_skip (tn (wp_block (wp_seq (wrl ?_))))
 refine wv (.int .i64 z505) z z z (wv (.int .i64 z504) z z z (wv (.int .i64 (i64.wrap (z505 + z504))) z z z (wv (.int .u64 (u64.wrap (i64.wrap (z505 + z504)))) z z (by kernel_rfl) (wv (.int .u64 (iShr .u64 (u64.wrap (i64.wrap (z505 + z504))) (1:Int))) z z (x_shr (by decide) z z) (wv (.int .i64 (i64.wrap (iShr .u64 (u64.wrap (i64.wrap (z505 + z504))) (1:Int)))) z z (by kernel_rfl) (wv (.int .i64 (i64.wrap (iShr .u64 (u64.wrap (i64.wrap (z505 + z504))) (1:Int)))) z z z (wl_nil (tn (wp_seq ?_)))))))))
 replace hst := hst.pull2
 obtain ⟨css515, hq516, hst⟩ := hst.own_open
 refine wp_region_St hst 8 [0, 1, 2, 3, 4, 5, 6, 7] [0, 0, 0, 6, 14, 0, 63, 127] [] z (by kernel_rfl) (by kernel_rfl) Try.mixed (by kernel_rfl) ?_
 refine wsr (.func (.func 59) #[] #[]) 0 z z z (by kernel_rfl) (fun w hst => z) (wsr (v437) 1 z z z (by kernel_rfl) (fun w hst => z) (wsr (.int .i64 (i64.wrap (iShr .u64 (u64.wrap (i64.wrap (z505 + z504))) (1:Int)))) 2 z z z (by kernel_rfl) (fun w hst => z) ?_))
 obtain ⟨x517, hx518, hm⟩ := bind_some hm
 obtain ⟨h519, h520, hi521⟩ := geto_some hx518
 refine wsr (.pointer (some (eAddr v437 ((i64.wrap (iShr .u64 (u64.wrap (i64.wrap (z505 + z504))) (1:Int))).toNat * 7 + 0)))) 3 z z z (by kernel_rfl) (fun w hst => x_index z z underlying22 sizeOf34 (hst.rsv 0 z hq516) h519 h520) ?_
 obtain ⟨cs522, hc524, hr523⟩ := Reps.get hq516 hi521
 obtain ⟨v525, v528, v531, v534, rfl, f526, f529, f532, f535, -⟩ := hr523
 refine wsr (.agg #[U6 x517.ID.Session, U6 x517.ID.Seq, U6 x517.Epoch, v525, v528, v531, v534]) 4 z z z (by kernel_rfl) (fun w hst => x_loadN (cs := [U6 x517.ID.Session, U6 x517.ID.Seq, U6 x517.Epoch, v525, v528, v531, v534]) z isAgg34 sizeOf34 (eCells (o := 0) (hst.rcell 0 z hc524) z)) (wsr (.agg #[U6 a1.Session, U6 a1.Seq]) 5 z z z (by kernel_rfl) (fun w hst => x_loadN (cs := [U6 a1.Session, U6 a1.Seq]) z isAgg29 sizeOf29 (hst.bcs1 0 z)) ?_)
 refine ws_e1 6 (by kernel_rfl) ?_
 refine nxe [7] (by kernel_rfl) z z ?_
 clear hst
 intro w hst
 obtain ⟨t537, ht538, hm⟩ := bind_some hm
 refine we_call z (x_callv call59 (caps := []) z (vs := [.agg #[U6 x517.ID.Session, U6 x517.ID.Seq, U6 x517.Epoch, v525, v528, v531, v534], .agg #[U6 a1.Session, U6 a1.Seq]]) z) ?_
 refine (locks_compare_ref (f526.mono ro_rd) (f529.mono ro_rd) (f532.mono ro_rd) (f535.mono ro_rd) hst.to0 ht538).mono ?_
 rintro _ w539 ⟨rfl, hst⟩
 refine ⟨_, z, ?_⟩
 replace hst := hst.of0
 refine ws_next (pend' := []) hst (by kernel_rfl) pk_nil ?_
 refine wsr (.bool (decide (t537 < (0:Int)))) 7 z z z (by kernel_rfl) (fun w hst => z) ?_
 refine ws_nil ?_
 intro w hst
 replace hst := hst.own_close hq516
 refine tn ?_
 refine bsplit (decide (t537 < (0:Int))) (fun hc542 => ?_) (fun hc542 => ?_)
 {
 replace hm := bif_t hc542 hm
 refine wp_ift (cvb hc542) ?_
 refine wrl (wv (.int .i64 (i64.wrap (iShr .u64 (u64.wrap (i64.wrap (z505 + z504))) (1:Int)))) z z z (wv (.int .i64 (i64.wrap ((i64.wrap (iShr .u64 (u64.wrap (i64.wrap (z505 + z504))) (1:Int))) + (1:Int)))) z z z (wv (.int .i64 (i64.wrap ((i64.wrap (iShr .u64 (u64.wrap (i64.wrap (z505 + z504))) (1:Int))) + (1:Int)))) z z z (wl_nil (blk_n (tn ?_))))))
 replace hst := hst.pull3.pull1.pull3.pull3.keep4
 obtain rfl := some_inj hm
 exact ⟨_, Nat.lt_succ_self _, z504, (i64.wrap ((i64.wrap (iShr .u64 (u64.wrap (i64.wrap (z505 + z504))) (1:Int))) + (1:Int))), _, hx512, (fu 0 v437 z (fu 2 (.func (.func 59) #[] #[]) z (fu 4 (Pt b439 0) z (fu 8 (.int .i64 ((o0.l).length : Int)) z (fu 9 (.int .i64 (i64.wrap ((i64.wrap (iShr .u64 (u64.wrap (i64.wrap (z505 + z504))) (1:Int))) + (1:Int)))) z (fu 10 (.int .i64 z504) z z)))))), hst⟩
}
 {
 replace hm := bif_f hc542 hm
 refine wp_iff (cvb hc542) ?_
 refine wrl (wv (.int .i64 (i64.wrap (iShr .u64 (u64.wrap (i64.wrap (z505 + z504))) (1:Int)))) z z z (wv (.int .i64 (i64.wrap (iShr .u64 (u64.wrap (i64.wrap (z505 + z504))) (1:Int)))) z z z (wl_nil (blk_n (tn ?_)))))
 replace hst := hst.pull3.pull1.pull3.pull3.keep4
 obtain rfl := some_inj hm
 exact ⟨_, Nat.lt_succ_self _, (i64.wrap (iShr .u64 (u64.wrap (i64.wrap (z505 + z504))) (1:Int))), z505, _, hx512, (fu 0 v437 z (fu 2 (.func (.func 59) #[] #[]) z (fu 4 (Pt b439 0) z (fu 8 (.int .i64 ((o0.l).length : Int)) z (fu 9 (.int .i64 z505) z (fu 10 (.int .i64 (i64.wrap (iShr .u64 (u64.wrap (i64.wrap (z505 + z504))) (1:Int)))) z z)))))), hst⟩
}
}
 {
 replace hm := bif_f hc514 hm
 refine wp_iff (cvb hc514) ?_
 refine wp_exit (then_x (then_x ?_))
 replace hm := inr_up hm hx512
 refine blk_x (tn ?_)
 replace hst := hst.pull3.pull2.pull2.pull3.keep4
 obtain rfl := some_inj hm
 exact ⟨z505, _, hx547, (fu 0 v437 z (fu 2 (.func (.func 59) #[] #[]) z (fu 4 (Pt b439 0) z (fu 8 (.int .i64 ((o0.l).length : Int)) z (fu 9 (.int .i64 z505) z z))))), hst⟩
}
}
 {
 clear hst
 rintro _ w548 ⟨z543, σ544, hm, rfl, hst⟩
 dsimp only [locks_Table_find_j0] at hm
 refine wp_seq ?_
 obtain ⟨css549, hq550, hst⟩ := hst.own_open
 refine wp_region_St hst 16 [0, 1, 2, 3, 4, 5, 6, 7, 8, 9, 10, 11, 12, 13, 14, 15] [0, 0, 0, 6, 14, 30, 30, 30, 222, 478, 30, 2046, 4094, 8190, 4095, 32767] [] z (by kernel_rfl) (by kernel_rfl) Try.mixed (by kernel_rfl) ?_
 refine wsr (.int .i64 z543) 0 z z z (by kernel_rfl) (fun w hst => z) (wsr (.int .i64 z543) 1 z z z (by kernel_rfl) (fun w hst => z) (wsr (.int .i64 ((o0.l).length : Int)) 2 z z z (by kernel_rfl) (fun w hst => z) (wsr (.bool (decide (z543 < ((o0.l).length : Int)))) 3 z z z (by kernel_rfl) (fun w hst => z) (wsr (.bool (decide (z543 < ((o0.l).length : Int)))) 4 z z z (by kernel_rfl) (fun w hst => z) ?_))))
 refine bsplit (decide (z543 < ((o0.l).length : Int))) (fun hc551 => ?_) (fun hc551 => ?_)
 {
 replace hm := bif_t hc551 hm
 refine ws_q (v := .func (.func 59) #[] #[]) 5 [6, 7, 8, 9, 10, 11, 12, 13, 14, 15] (by kernel_rfl) z z (yi_run ((wanted_eq z z z (cvb hc551)).trans z) (fun w hst => z)) (ws_q (v := v437) 6 [7, 8, 9, 10, 11, 12, 13, 14, 15] (by kernel_rfl) z z (yi_run ((wanted_eq z z z (cvb hc551)).trans z) (fun w hst => z)) (ws_q (v := .int .i64 z543) 7 [8, 9, 10, 11, 12, 13, 14, 15] (by kernel_rfl) z z (yi_run ((wanted_eq z z z (cvb hc551)).trans z) (fun w hst => z)) ?_))
 obtain ⟨x552, hx553, hm⟩ := bind_some hm
 obtain ⟨h554, h555, hi556⟩ := geto_some hx553
 refine ws_q (v := .pointer (some (eAddr v437 (z543.toNat * 7 + 0)))) 8 [9, 10, 11, 12, 13, 14, 15] (by kernel_rfl) z z (yi_run ((wanted_eq z z z (cvb hc551)).trans z) (fun w hst => x_index z z underlying22 sizeOf34 (hst.rsv 0 z hq550) h554 h555)) ?_
 obtain ⟨cs557, hc559, hr558⟩ := Reps.get hq550 hi556
 obtain ⟨v560, v563, v566, v569, rfl, f561, f564, f567, f570, -⟩ := hr558
 refine ws_q (v := .agg #[U6 x552.ID.Session, U6 x552.ID.Seq, U6 x552.Epoch, v560, v563, v566, v569]) 9 [10, 11, 12, 13, 14, 15] (by kernel_rfl) z z (yi_run ((wanted_eq z z z (cvb hc551)).trans z) (fun w hst => x_loadN (cs := [U6 x552.ID.Session, U6 x552.ID.Seq, U6 x552.Epoch, v560, v563, v566, v569]) z isAgg34 sizeOf34 (eCells (o := 0) (hst.rcell 0 z hc559) z))) (ws_q (v := .agg #[U6 a1.Session, U6 a1.Seq]) 10 [11, 12, 13, 14, 15] (by kernel_rfl) z z (yi_run ((wanted_eq z z z (cvb hc551)).trans z) (fun w hst => x_loadN (cs := [U6 a1.Session, U6 a1.Seq]) z isAgg29 sizeOf29 (hst.bcs1 0 z))) ?_)
 refine ws_e1 11 (by kernel_rfl) ?_
 refine nxe [12, 13, 14, 15] (by kernel_rfl) z ((wanted_eq z z z (cvb hc551)).trans z) ?_
 clear hst
 intro w hst
 obtain ⟨t572, ht573, hm⟩ := bind_some hm
 refine we_call z (x_callv call59 (caps := []) z (vs := [.agg #[U6 x552.ID.Session, U6 x552.ID.Seq, U6 x552.Epoch, v560, v563, v566, v569], .agg #[U6 a1.Session, U6 a1.Seq]]) z) ?_
 refine (locks_compare_ref (f561.mono ro_rd) (f564.mono ro_rd) (f567.mono ro_rd) (f570.mono ro_rd) hst.to0 ht573).mono ?_
 rintro _ w574 ⟨rfl, hst⟩
 refine ⟨_, z, ?_⟩
 replace hst := hst.of0
 refine ws_next (pend' := [(0, I6 z543)]) hst (by kernel_rfl) (pkr z z (fun w hst => z) pk_nil) ?_
 refine ws_q (v := .bool (t572 == (0:Int))) 12 [13, 14, 15] (by kernel_rfl) z z (yi_run ((wanted_eq z z z (cvb hc551)).trans z) (fun w hst => z)) (wsr (.bool (t572 == (0:Int))) 13 z z z (by kernel_rfl) (fun w hst => x_pick_t hc551 z z) (wsr (.int .i64 z543) 14 z z z (by kernel_rfl) (fun w hst => z) (wsr (.bool (t572 == (0:Int))) 15 z z z (by kernel_rfl) (fun w hst => z) ?_)))
 refine ws_nil ?_
 intro w hst
 replace hst := hst.own_close hq550
 refine tn (wp_ret ?_)
 refine post_ret (vs := [I6 z543, .bool (t572 == (0:Int))]) results71 (rvs_cons (rv_tmp z) (rvs_cons (rv_tmp z) rvs_nil)) ?_
 replace hst := hst.pull3.pull1.pull3.keep3
 obtain rfl := some_inj hm
 exact ⟨z543, (t572 == (0:Int)), z, z, hst⟩
}
 {
 replace hm := bif_f hc551 hm
 refine ws_q (v := undef) 5 [6, 7, 8, 9, 10, 11, 12, 13, 14, 15] (by kernel_rfl) z z (yi_off ((wanted_eq z z z (cvb hc551)).trans z)) (ws_q (v := undef) 6 [7, 8, 9, 10, 11, 12, 13, 14, 15] (by kernel_rfl) z z (yi_off ((wanted_eq z z z (cvb hc551)).trans z)) (ws_q (v := undef) 7 [8, 9, 10, 11, 12, 13, 14, 15] (by kernel_rfl) z z (yi_off ((wanted_eq z z z (cvb hc551)).trans z)) (ws_q (v := undef) 8 [9, 10, 11, 12, 13, 14, 15] (by kernel_rfl) z z (yi_off ((wanted_eq z z z (cvb hc551)).trans z)) (ws_q (v := undef) 9 [10, 11, 12, 13, 14, 15] (by kernel_rfl) z z (yi_off ((wanted_eq z z z (cvb hc551)).trans z)) (ws_q (v := undef) 10 [11, 12, 13, 14, 15] (by kernel_rfl) z z (yi_off ((wanted_eq z z z (cvb hc551)).trans z)) (ws_q (v := undef) 11 [12, 13, 14, 15] (by kernel_rfl) z z (yi_off ((wanted_eq z z z (cvb hc551)).trans z)) (ws_q (v := undef) 12 [13, 14, 15] (by kernel_rfl) z z (yi_off ((wanted_eq z z z (cvb hc551)).trans z)) (wsr (.bool false) 13 z z z (by kernel_rfl) (fun w hst => x_pick_f hc551 z z) (wsr (.int .i64 z543) 14 z z z (by kernel_rfl) (fun w hst => z) (wsr (.bool false) 15 z z z (by kernel_rfl) (fun w hst => z) ?_))))))))))
 refine ws_nil ?_
 intro w hst
 replace hst := hst.own_close hq550
 refine tn (wp_ret ?_)
 refine post_ret (vs := [I6 z543, .bool false]) results71 (rvs_cons (rv_tmp z) (rvs_cons (rv_tmp z) rvs_nil)) ?_
 replace hst := hst.pull3.pull1.pull3.keep3
 obtain rfl := some_inj hm
 exact ⟨z543, false, z, z, hst⟩
}
}
}
 clear hst
 rintro _ w582 ⟨z577, z578, rfl, rfl, hst⟩
 refine ⟨_, z, ?_⟩
 try dsimp only at hm
 refine ws_next (pend' := []) hst (by kernel_rfl) pk_nil ?_
 refine wsr (.int .i64 z577) 6 z z z (by kernel_rfl) (fun w hst => z) (wsr (.bool z578) 7 z z z (by kernel_rfl) (fun w hst => z) (wsr (.int .i64 z577) 8 z z z (by kernel_rfl) (fun w hst => z) (wsr (.bool z578) 9 z z z (by kernel_rfl) (fun w hst => z) ?_)))
 refine ws_nil ?_
 intro w hst
 refine tn (wp_ret ?_)
 replace hst := hst.pull1.pull1
 replace hst := at_locks_Table_close (pv := Pt b436 0) (x := o0) hst z
 replace hst := objO_some hst
 obtain rfl := some_inj hm
 refine post_ret (vs := [I6 z577, .bool z578]) results40 (rvs_cons (rv_tmp z) (rvs_cons (rv_tmp z) rvs_nil)) ?_
 exact ⟨z, hst.keep1⟩
}
}

theorem slices_Insert_api_Hold_api_Hold_ref {w0 w : World} {I : HL} {R : SP} {a0 : (List api_Hold)} {r0_0 : Value} {a1 : Int} {a2 : (List api_Hold)} {r2_0 : Value} (hst : St w0 w I [ownS ty_api_Hold r0_0 a0, ownS ty_api_Hold r2_0 a2] R) {r : (List api_Hold)} (hm : slices_Insert_api_Hold_api_Hold a0 a1 a2 = some r) :
  Calls prog 41 #[r0_0, I6 a1, r2_0] w fun e w' => ∃ (q0_0 : Value), e = .returned (q0_0) ∧ St w0 w' I [ownS ty_api_Hold q0_0 r] R := by {
 unfold slices_Insert_api_Hold_api_Hold at hm
 obtain ⟨hg, hm⟩ := gd_some hm
 obtain rfl := some_inj hm
 obtain ⟨hi0, hi1, hrm⟩ := insOK_of hg
 obtain ⟨k, rfl⟩ := Int.eq_ofNat_of_zero_le hi0
 have hsm := room_sum hrm
 have hk : k ≤ a0.length := by omega
 have hs : ∀ w : World, (sizeOf 34).run prog w = .ok ty_api_Hold.sz w := sizeOf34
 have hs0 : 0 < ty_api_Hold.sz := Nat.le_of_ble_eq_true rfl
 have hov : ∀ (args : Array Value) (w : World), (callFunc 72 args).run prog w = (Extern.SlicesOverlaps.overlaps #[22, 22] #[4] args >>= fun v => (pure (.value v) : Sem Next)).run prog w := by intro args w; kernel_rfl
 obtain ⟨css, hr, hst⟩ := hst.own_open
 replace hst := hst.pull1
 obtain ⟨dss, hq, hst⟩ := hst.own_open
 replace hst := hst.pull1
 obtain ⟨n, hn⟩ : ∃ n, css.length = n := ⟨_, rfl⟩
 obtain ⟨m, hm'⟩ : ∃ m, dss.length = m := ⟨_, rfl⟩
 have hln : a0.length = n := hr.1.trans hn
 have hlm : a2.length = m := hq.1.trans hm'
 rw [hln] at hsm hk
 rw [hlm] at hsm
 have hsv : SliceV r0_0 n := by have := hst.row_form.2; rwa [hn] at this
 have hsq : SliceV r2_0 m := by have := hst.pull1.row_form.2; rwa [hm'] at this
 have hoc := hr.ones
 have hoq := hq.ones
 have hw1 := wrap_add (a := n) (b := m) (by omega)
 have hw2 := wrap_add (a := k) (b := m) (by omega)
 have hw3 := wrap_sub (a := n + m) (b := k) (by omega) (by omega)
 have hrb := room_of (b := 120) hrm rfl
 rw [hln, hlm] at hrb
 refine calls_start (args := [r0_0, I6 (k : Int), r2_0]) func41 z ntmps41 (Nat.le_of_ble_eq_true z) ?_
 refine wp_seq (wrl (wv ((.slice none 0 0)) z z z (wl_nil (tn (wp_seq (wrl (wv (r0_0) z z z (wv (.int .i64 (k : Int)) z z z (wv ((slcV ty_api_Hold.sz r0_0 k n)) z z (x_slice (lo := (k : Nat)) (hi := (n : Nat)) underlying22 hs z hsv (by omega) (by omega) (by omega) .i64 .i64 (.inl z) (.inr ⟨z, z⟩)) (wl_nil (tn (wp_seq (wrl (wv (r2_0) z z z (wv (.int .i64 (m : Int)) z z (x_len z underlying22 hsq) (wv (.int .i64 (m : Int)) z z z (wl_nil (tn (wp_seq (wp_seq (wrl (wv (.int .i64 (m : Int)) z z z (wv (.bool ((m : Int) == (0:Int))) z z z ?_)))))))))))))))))))))))
 refine wl_nil (tn ?_)
 refine bsplit ((m : Int) == (0:Int)) (fun hc313 => ?_) (fun hc313 => ?_)
 {
 refine wp_ift (cvb hc313) ?_
 refine wp_seq (wrl (wv (r0_0) z z z (wv (r0_0) z z z (wl_nil (tn (wp_ret (then_r ?_)))))))
 refine post_ret (vs := [r0_0]) results41 (rvs_cons (rv_tmp z) rvs_nil) ?_
 rw [ins_nil (by rw [hlm]; exact hc313)]
 exact ⟨_, z, (hst.own_close hr).keep1⟩
}
 {
 refine wp_iff (cvb hc313) ?_
 have hm0 : m ≠ 0 := fun h => by rw [h] at hc313; cases hc313
 have hq0 : dss ≠ [] := fun h => hm0 (by rw [← hm', h]; rfl)
 refine wp_skip (tn (wp_seq (wrl ?_)))
 refine wv (r0_0) z z z (wv (.int .i64 (n : Int)) z z (x_len z underlying22 hsv) (wv (.int .i64 (n : Int)) z z z (wl_nil (tn (wp_seq (wp_seq (wrl (wv (.int .i64 (k : Int)) z z z (wv (.int .i64 (n : Int)) z z z (wv (.bool ((k : Int) == (n : Int))) z z z (wl_nil (tn ?_))))))))))))
 refine bsplit ((k : Int) == (n : Int)) (fun hc314 => ?_) (fun hc314 => ?_)
 {
 refine wp_ift (cvb hc314) ?_
 refine wp_seq (wrl (wv (r0_0) z z z (wv (r2_0) z z z ?_)))
 replace hst := (hst.own_close hr).pull1.own_close hq
 replace hst := hst.pull1
 obtain ⟨v2, w2, hra, hst⟩ := run_append elem_22 underlying22 hst hst.src1 (room_of hrm z) 22
 refine wl_run (v := v2) (w' := w2) z z (x_append z z hra) ?_
 refine wv (v2) z z z (wl_nil (tn (wp_ret (then_r ?_))))
 refine post_ret (vs := [v2]) results41 (rvs_cons (rv_tmp z) rvs_nil) ?_
 rw [ins_end (by rw [hln]; exact hc314)]
 exact ⟨_, z, hst.keep1⟩
}
 {
 refine wp_iff (cvb hc314) ?_
 have hkn : k ≠ n := fun h => by rw [h] at hc314; simp at hc314
 have hn0 : 0 < n := by omega
 have hc0 : css ≠ [] := fun h => by rw [h] at hn; simp at hn; omega
 refine wp_skip (tn (wp_seq (wp_seq (wrl ?_))))
 refine wv (.int .i64 (n : Int)) z z z (wv (.int .i64 (m : Int)) z z z (wv (.int .i64 ((n + m : Nat) : Int)) z z (ok_cast hw1 z) (wv (r0_0) z z z (wv (.int .i64 (sCap r0_0 : Int)) z z (x_cap z underlying22 hsv) (wv (.bool (decide (((n + m : Nat) : Int) > (sCap r0_0 : Int)))) z z z (wl_nil (tn ?_)))))))
 refine bsplit (decide (((n + m : Nat) : Int) > (sCap r0_0 : Int))) (fun hc315 => ?_) (fun hc315 => ?_)
 {
 refine wp_ift (cvb hc315) ?_
 refine wp_seq (wrl (wv (r0_0) z z z (wv (.int .i64 (k : Int)) z z z (wv ((slcV ty_api_Hold.sz r0_0 0 k)) z z (x_slice (lo := (0 : Nat)) (hi := (k : Nat)) underlying22 hs z hsv (by omega) (by omega) (by omega) .i64 .i64 (.inr ⟨z, z⟩) (.inl z)) (wv (.int .i64 (n : Int)) z z z (wv (.int .i64 (m : Int)) z z z (wv (.int .i64 ((n + m : Nat) : Int)) z z (ok_cast hw1 z) (wv (.int .i64 (k : Int)) z z z (wv (.int .i64 ((n + m - k : Nat) : Int)) z z (ok_cast hw3 z) ?_)))))))))
 obtain ⟨v2, w2, hra, hs2, zss, hzl, hst⟩ := run_app0 elem_22 underlying3 hst k (n + m - k) (by omega) (by have := of_decide_eq_true hc315; omega) (by rw [show k + (n + m - k) = n + m by omega]; exact hrb) hs0 22
 rw [show k + (n + m - k) = n + m by omega] at hs2
 refine wl_run (v := v2) (w' := w2) z z (x_append z z hra) ?_
 refine wv (v2) z z z (wl_nil (tn (wp_seq (wrl (wv (v2) z z z (wv (.int .i64 (k : Int)) z z z (wv ((slcV ty_api_Hold.sz v2 k (n + m))) z z (x_slice (lo := (k : Nat)) (hi := ((n + m) : Nat)) underlying22 hs z hs2 (by omega) (by omega) (by omega) .i64 .i64 (.inl z) (.inr ⟨z, z⟩)) (wv (r2_0) z z z ?_))))))))
 obtain ⟨w316, hr317, hst⟩ := run_copyRows (P := prog) (t2 := 22) (ty := 3) underlying22 hs hst hst.pull2 k m (N := n + m) (by first | omega | (simp only [List.length_append, List.length_take, List.length_drop]; omega)) (by first | omega | (simp only [List.length_append, List.length_take, List.length_drop]; omega)) (by omega) (by first | omega | (simp only [List.length_append, List.length_take, List.length_drop]; omega)) (ones_take hoq _)
 refine wl_run (v := .int .i64 (m : Nat)) (w' := w316) z z (x_copy z z hr317) ?_
 refine wl_nil (tn (wp_seq ?_))
 refine wp_region_St hst 9 [0, 1, 2, 3, 4, 5, 6, 7, 8] [0, 0, 0, 6, 15, 0, 0, 96, 255] [] z (by kernel_rfl) (by kernel_rfl) Try.mixed (by kernel_rfl) ?_
 refine wsr (v2) 0 z z z (by kernel_rfl) (fun w hst => z) (wsr (.int .i64 (k : Int)) 1 z z z (by kernel_rfl) (fun w hst => z) (wsr (.int .i64 (m : Int)) 2 z z z (by kernel_rfl) (fun w hst => z) (wsr (.int .i64 ((k + m : Nat) : Int)) 3 z z z (by kernel_rfl) (fun w hst => ok_cast hw2 z) (wsr ((slcV ty_api_Hold.sz v2 (k + m) (n + m))) 4 z z z (by kernel_rfl) (fun w hst => x_slice (lo := ((k + m) : Nat)) (hi := ((n + m) : Nat)) underlying22 hs z hs2 (by omega) (by omega) (by omega) .i64 .i64 (.inl z) (.inr ⟨z, z⟩)) (wsr (r0_0) 5 z z z (by kernel_rfl) (fun w hst => z) (wsr (.int .i64 (k : Int)) 6 z z z (by kernel_rfl) (fun w hst => z) (wsr ((slcV ty_api_Hold.sz r0_0 k n)) 7 z z z (by kernel_rfl) (fun w hst => x_slice (lo := (k : Nat)) (hi := (n : Nat)) underlying22 hs z hsv (by omega) (by omega) (by omega) .i64 .i64 (.inl z) (.inr ⟨z, z⟩)) ?_)))))))
 refine ws_e1 8 (by kernel_rfl) ?_
 refine nxe [] (by kernel_rfl) z z ?_
 clear hst
 intro w hst
 obtain ⟨w318, hr319, hst⟩ := run_copyRows (P := prog) (t2 := 22) (ty := 3) underlying22 hs hst (hst.pull1.row_part (l := k) (h := n) hk (by omega)) (k + m) (n - k) (N := n + m) (by first | omega | (simp only [List.length_append, List.length_take, List.length_drop]; omega)) (by first | omega | (simp only [List.length_append, List.length_take, List.length_drop]; omega)) (by omega) (by first | omega | (simp only [List.length_append, List.length_take, List.length_drop]; omega)) (ones_take (ones_drop (ones_take hoc _) _) _)
 refine we_run (v := .int .i64 ((n - k) : Nat)) (w' := w318) z (x_copy z z hr319) ?_
 refine ws_next (pend' := []) hst (by kernel_rfl) pk_nil ?_
 refine ws_nil ?_
 intro w hst
 refine tn (wp_seq (wrl (wv (v2) z z z (wv (v2) z z z (wl_nil (tn (wp_ret (then_r ?_))))))))
 refine post_ret (vs := [v2]) results41 (rvs_cons (rv_tmp z) rvs_nil) ?_
 rw [grow_rows hn hm' hk hzl] at hst
 exact ⟨_, z, (hst.own_close ((hr.take k).app (hq.app (hr.drop k)))).keep1⟩
}
 {
 refine wp_iff (cvb hc315) ?_
 have hup : n + m ≤ sCap r0_0 := by have := of_decide_eq_false hc315; omega
 obtain ⟨ess, hel, hem, hst'⟩ := hst.row_up (n + m) (by omega) hup hc0
 rw [show n + m - css.length = m by omega] at hel
 have hs2 : SliceV (upV r0_0 (n + m)) (n + m) := by have := hst'.row_form.2; rwa [List.length_append, hn, hel] at this
 clear hst
 have hst := hst'
 clear hst'
 refine wp_skip (tn (wp_seq (wrl ?_)))
 refine wv (r0_0) z z z (wv (.int .i64 (n : Int)) z z z (wv (.int .i64 (m : Int)) z z z (wv (.int .i64 ((n + m : Nat) : Int)) z z (ok_cast hw1 z) (wv ((upV r0_0 (n + m))) z z (x_sliceUp underlying22 hs z hsv z hup hn0) (wv ((upV r0_0 (n + m))) z z z (wl_nil (tn (wp_seq (wp_seq (wrl (wv (r2_0) z z z (wv ((upV r0_0 (n + m))) z z z (wv (.int .i64 (k : Int)) z z z (wv (.int .i64 (m : Int)) z z z (wv (.int .i64 ((k + m : Nat) : Int)) z z (ok_cast hw2 z) (wv ((slcV ty_api_Hold.sz (upV r0_0 (n + m)) (k + m) (n + m))) z z (x_slice (lo := ((k + m) : Nat)) (hi := ((n + m) : Nat)) underlying22 hs z hs2 (by omega) (by omega) (by omega) .i64 .i64 (.inl z) (.inr ⟨z, z⟩)) ?_))))))))))))))))
 refine wv (.bool false) z z (x_ext z z z (hov _) (run_overlaps z underlying22 hs hst.pull1 (k + m) (N := n + m) (by rw [List.length_append]; omega) (by omega) hq0 hs0)) (wv (.bool true) z z z (wl_nil (tn ?_)))
 refine wp_ift z ?_
 refine wp_seq ?_
 refine wp_region_St hst 9 [0, 1, 2, 3, 4, 5, 6, 7, 8] [0, 0, 0, 6, 15, 0, 0, 96, 255] [] z (by kernel_rfl) (by kernel_rfl) Try.mixed (by kernel_rfl) ?_
 refine wsr ((upV r0_0 (n + m))) 0 z z z (by kernel_rfl) (fun w hst => z) (wsr (.int .i64 (k : Int)) 1 z z z (by kernel_rfl) (fun w hst => z) (wsr (.int .i64 (m : Int)) 2 z z z (by kernel_rfl) (fun w hst => z) (wsr (.int .i64 ((k + m : Nat) : Int)) 3 z z z (by kernel_rfl) (fun w hst => ok_cast hw2 z) (wsr ((slcV ty_api_Hold.sz (upV r0_0 (n + m)) (k + m) (n + m))) 4 z z z (by kernel_rfl) (fun w hst => x_slice (lo := ((k + m) : Nat)) (hi := ((n + m) : Nat)) underlying22 hs z hs2 (by omega) (by omega) (by omega) .i64 .i64 (.inl z) (.inr ⟨z, z⟩)) (wsr ((upV r0_0 (n + m))) 5 z z z (by kernel_rfl) (fun w hst => z) (wsr (.int .i64 (k : Int)) 6 z z z (by kernel_rfl) (fun w hst => z) (wsr ((slcV ty_api_Hold.sz (upV r0_0 (n + m)) k (n + m))) 7 z z z (by kernel_rfl) (fun w hst => x_slice (lo := (k : Nat)) (hi := ((n + m) : Nat)) underlying22 hs z hs2 (by omega) (by omega) (by omega) .i64 .i64 (.inl z) (.inr ⟨z, z⟩)) ?_)))))))
 refine ws_e1 8 (by kernel_rfl) ?_
 refine nxe [] (by kernel_rfl) z z ?_
 clear hst
 intro w hst
 obtain ⟨w320, hr321, hst⟩ := run_copyRows (P := prog) (t2 := 22) (ty := 3) underlying22 hs hst (hst.row_part (l := k) (h := n + m) (by omega) (by rw [List.length_append]; omega)) (k + m) (n - k) (N := n + m) (by first | omega | (simp only [List.length_append, List.length_take, List.length_drop]; omega)) (by first | omega | (simp only [List.length_append, List.length_take, List.length_drop]; omega)) (by omega) (by first | omega | (simp only [List.length_append, List.length_take, List.length_drop]; omega)) (by rw [stay_src hn hm' hk hel]; exact ones_drop hoc _)
 refine we_run (v := .int .i64 ((n - k) : Nat)) (w' := w320) z (x_copy z z hr321) ?_
 refine ws_next (pend' := []) hst (by kernel_rfl) pk_nil ?_
 refine ws_nil ?_
 intro w hst
 refine tn (wp_seq (wrl (wv ((upV r0_0 (n + m))) z z z (wv (.int .i64 (k : Int)) z z z (wv ((slcV ty_api_Hold.sz (upV r0_0 (n + m)) k (n + m))) z z (x_slice (lo := (k : Nat)) (hi := ((n + m) : Nat)) underlying22 hs z hs2 (by omega) (by omega) (by omega) .i64 .i64 (.inl z) (.inr ⟨z, z⟩)) (wv (r2_0) z z z ?_))))))
 obtain ⟨w322, hr323, hst⟩ := run_copyRows (P := prog) (t2 := 22) (ty := 3) underlying22 hs hst hst.pull1 k m (N := n + m) (by first | omega | (simp only [List.length_append, List.length_take, List.length_drop]; omega)) (by first | omega | (simp only [List.length_append, List.length_take, List.length_drop]; omega)) (by omega) (by first | omega | (simp only [List.length_append, List.length_take, List.length_drop]; omega)) (ones_take hoq _)
 refine wl_run (v := .int .i64 (m : Nat)) (w' := w322) z z (x_copy z z hr323) ?_
 refine wl_nil (tn (wp_seq (wrl (wv ((upV r0_0 (n + m))) z z z (wv ((upV r0_0 (n + m))) z z z (wl_nil (tn (wp_ret (then_r ?_)))))))))
 refine post_ret (vs := [(upV r0_0 (n + m))]) results41 (rvs_cons (rv_tmp z) rvs_nil) ?_
 rw [stay_rows hn hm' hk hel] at hst
 exact ⟨_, z, (hst.own_close ((hr.take k).app (hq.app (hr.drop k)))).keep1⟩
}
}
}
}

theorem locks_Table_Take_ref {w0 w : World} {I : HL} {R : SP} {a0 : (Option locks_Table)} {p0 : Value} {a1 : api_Hold} {r1_0 : Value} {r1_1 : Value} {r1_2 : Value} {r1_3 : Value} (f1_0 : Rd tyF64 R I r1_0 a1.Gets) (f1_1 : Rd tyF2 R I r1_1 a1.Scans) (f1_2 : Rd tyF64 R I r1_2 a1.Puts) (f1_3 : Rd (tyInt .u8) R I r1_3 a1.Data) (hst : St w0 w I [objO at_locks_Table p0 a0] R) {r : (Int × (Option locks_Table))} (hm : locks_Table_Take a0 a1 = some r) :
  Calls prog 12 #[p0, .agg #[U6 a1.ID.Session, U6 a1.ID.Seq, U6 a1.Epoch, r1_0, r1_1, r1_2, r1_3]] w fun e w' => ∃ (I' : HL), e = .returned (.int .i64 r.1) ∧ I.le I' ∧ St w0 w' I' [objO at_locks_Table p0 r.2] R := by {
 rcases a0 with _ | o0
 {
 obtain ⟨rfl, hst'⟩ := objO_none hst
 clear hst
 have hst := hst'
 clear hst'
 dsimp only [locks_Table_Take] at hm
 refine calls_start (args := [.pointer none, .agg #[U6 a1.ID.Session, U6 a1.ID.Seq, U6 a1.Epoch, r1_0, r1_1, r1_2, r1_3]]) func12 z ntmps12 (Nat.le_of_ble_eq_true z) ?_
 have hI0 := HL.le.refl I
 refine wp_seq (wrl ?_)
 obtain ⟨b352, w353, ew354, eb355, hst⟩ := hst.box [U6 a1.ID.Session, U6 a1.ID.Seq, U6 a1.Epoch, r1_0, r1_1, r1_2, r1_3] 34
 refine wl_run (v := Pt b352 0) (w' := w353) z z (x_al (by kernel_rfl) ew354 eb355) ?_
 refine wv (.int .i64 (0:Int)) z z z (wl_nil (tn (wp_seq (wp_seq (wrl (wv (.pointer none) z z z (wv (.bool true) z z (by kernel_rfl) (wl_nil (tn ?_)))))))))
 refine wp_ift z ?_
 refine wp_seq (wrl (wv (.int .i64 (2:Int)) z z z (wl_nil (tn (wp_ret (then_r ?_))))))
 replace hst := hst.objO_nil at_locks_Table
 obtain rfl := some_inj hm
 refine post_ret (vs := [I6 (2:Int)]) results12 (rvs_cons (rv_tmp z) rvs_nil) ?_
 exact ⟨_, z, hI0, hst.keep1⟩
}
 {
 replace hst := objO_get hst
 dsimp only [locks_Table_Take] at hm
 refine calls_start (args := [p0, .agg #[U6 a1.ID.Session, U6 a1.ID.Seq, U6 a1.Epoch, r1_0, r1_1, r1_2, r1_3]]) func12 z ntmps12 (Nat.le_of_ble_eq_true z) ?_
 have hI0 := HL.le.refl I
 refine wp_seq (wrl ?_)
 obtain ⟨b357, w358, ew359, eb360, hst⟩ := hst.box [U6 a1.ID.Session, U6 a1.ID.Seq, U6 a1.Epoch, r1_0, r1_1, r1_2, r1_3] 34
 refine wl_run (v := Pt b357 0) (w' := w358) z z (x_al (by kernel_rfl) ew359 eb360) ?_
 refine wv (.int .i64 (0:Int)) z z z (wl_nil (tn (wp_seq (wp_seq (wrl (wv (p0) z z z ?_))))))
 replace hst := hst.pull1
 obtain ⟨b362, v363, rfl, hst'⟩ := at_locks_Table_open hst
 clear hst
 have hst := hst'
 clear hst'
 refine wv (.bool false) z z (by kernel_rfl) (wl_nil (tn ?_))
 refine wp_iff z ?_
 refine wp_skip (tn ?_)
 obtain ⟨y494, hm, hx495⟩ := joinO_some hm
 refine wp_cut (fun a w => ∃ (σ492 : Nat → Value), (locks_Table_Take_j0 a1 o0) () = some r ∧ a = Fr 74 (upd (upd σ492 0 (Pt b362 0)) 3 (Pt b357 0)) ∧ St w0 w I [at_locks_Table (Pt b362 0) o0, cells b357 [U6 a1.ID.Session, U6 a1.ID.Seq, U6 a1.Epoch, r1_0, r1_1, r1_2, r1_3]] R) ?_ ?_
 {
 refine wp_seq (wrl (wv (Pt b362 0) z z z (wv (Pt b362 0) z z z (wv (Pt b362 0) z z (x_field z underlying77 z sizeOf22 z) (wv (v363) z z (x_load z isAgg22 (hst.bc0 z)) (wv (.int .i64 ((o0.l).length : Int)) z z (x_len z underlying22 hst.sv1) (wv (.int .i64 (0:Int)) z z z (wl_nil (tn (wp_block ?_))))))))))
 obtain ⟨n446, hm⟩ := loopO_some hm
 refine wp_loop_n (fun n a w => ∃ (z444 : Int) (σ445 : Nat → Value), loopN (locks_Table_Take_l1 o0 a1) n z444 = some y494 ∧ a = Fr 74 (upd (upd (upd (upd (upd σ445 0 (Pt b362 0)) 3 (Pt b357 0)) 14 (v363)) 15 (.int .i64 ((o0.l).length : Int))) 16 (.int .i64 z444)) ∧ St w0 w I [cells b362 [v363], ownS ty_api_Hold v363 o0.l, cells b357 [U6 a1.ID.Session, U6 a1.ID.Seq, U6 a1.Epoch, r1_0, r1_1, r1_2, r1_3]] R) n446 ⟨(0:Int), _, hm, (fu 0 (Pt b362 0) z (fu 3 (Pt b357 0) z (fu 14 v363 z (fu 15 (.int .i64 ((o0.l).length : Int)) z (fu 16 (.int .i64 (0:Int)) z z))))), hst⟩ ?_
 rintro n452 _ w447 ⟨z444, σ445, hm, rfl, hst⟩
 obtain ⟨n449, y450, rfl, hm, hx451⟩ := loopN_some hm
 dsimp only [locks_Table_Take_l1] at hm
 refine wp_seq (wrl (wv (.bool (decide (z444 < ((o0.l).length : Int)))) z z z (wl_nil (tn (wp_seq ?_)))))
 refine bsplit (decide (z444 < ((o0.l).length : Int))) (fun hc453 => ?_) (fun hc453 => ?_)
 {
 replace hm := bif_t hc453 hm
 refine wp_ift (cvb hc453) ?_
 refine wp_skip (tn (wp_seq (wp_block (wp_seq (wrl ?_)))))
 obtain ⟨x454, hx455, hm⟩ := bind_some hm
 obtain ⟨h456, h457, hi458⟩ := geto_some hx455
 refine wv (.pointer (some (eAddr v363 (z444.toNat * 7 + 0)))) z z (x_index z z underlying22 sizeOf34 hst.sv1 h456 h457) ?_
 obtain ⟨cs459, hr460, hc461⟩ := hst.og1 hi458
 obtain ⟨v462, v465, v468, v471, rfl, f463, f466, f469, f472, -⟩ := hr460
 refine wv (.agg #[U6 x454.ID.Session, U6 x454.ID.Seq, U6 x454.Epoch, v462, v465, v468, v471]) z z (x_loadN (cs := [U6 x454.ID.Session, U6 x454.ID.Seq, U6 x454.Epoch, v462, v465, v468, v471]) z isAgg34 sizeOf34 (eCells (o := 0) hc461 z)) ?_
 obtain ⟨b478, w479, ew480, eb481, hst⟩ := hst.box [Zu, Zu, Zu, Zs, Zs, Zs, Zs] 34
 refine wl_run (v := Pt b478 0) (w' := w479) z z (x_al (by kernel_rfl) ew480 eb481) ?_
 obtain ⟨w483, hr484, hst⟩ := hst.bx [U6 x454.ID.Session, U6 x454.ID.Seq, U6 x454.Epoch, v462, v465, v468, v471] sizeOf34 z (oC z (oC z (oC z (oC (one_of_sliceV (ro_sliceV f463)) (oC (one_of_sliceV (ro_sliceV f466)) (oC (one_of_sliceV (ro_sliceV f469)) (oC (one_of_sliceV (ro_sliceV f472)) oN))))))) (by kernel_rfl)
 refine wl_unit z z (x_unit hr484) ?_
 refine wl_nil (tn (wp_seq (wrl (wv (Pt b478 0) z z (x_field z underlying34 z sizeOf29 z) (wv (.agg #[U6 x454.ID.Session, U6 x454.ID.Seq]) z z (x_loadN (cs := [U6 x454.ID.Session, U6 x454.ID.Seq]) z isAgg29 sizeOf29 (hst.bcs0 0 z)) (wv (Pt b357 0) z z (x_field z underlying34 z sizeOf29 z) (wv (.agg #[U6 a1.ID.Session, U6 a1.ID.Seq]) z z (x_loadN (cs := [U6 a1.ID.Session, U6 a1.ID.Seq]) z isAgg29 sizeOf29 (hst.bcs3 0 z)) (wv (.bool (!((x454.ID.Session == a1.ID.Session) && (x454.ID.Seq == a1.ID.Seq)))) z z (x_aggne2 z z (by kernel_rfl) underlying29 (by kernel_rfl) (by kernel_rfl) (by kernel_rfl) underlying27 underlying27 (fun _ _ _ => by kernel_rfl) (fun _ _ _ => by kernel_rfl)) (wv (.bool (!((x454.ID.Session == a1.ID.Session) && (x454.ID.Seq == a1.ID.Seq)))) z z z ?_)))))))))
 refine bsplit (!((x454.ID.Session == a1.ID.Session) && (x454.ID.Seq == a1.ID.Seq))) (fun hc485 => ?_) (fun hc485 => ?_)
 {
 replace hm := bif_t hc485 hm
 refine wv (.agg #[U6 x454.ID.Session, U6 x454.ID.Seq, U6 x454.Epoch, v462, v465, v468, v471]) ((wanted_eq z z z (cvb hc485)).trans z) z (x_loadN (cs := [U6 x454.ID.Session, U6 x454.ID.Seq, U6 x454.Epoch, v462, v465, v468, v471]) z isAgg34 sizeOf34 (hst.bcs0 0 z)) (wv (.agg #[U6 a1.ID.Session, U6 a1.ID.Seq, U6 a1.Epoch, r1_0, r1_1, r1_2, r1_3]) ((wanted_eq z z z (cvb hc485)).trans z) z (x_loadN (cs := [U6 a1.ID.Session, U6 a1.ID.Seq, U6 a1.Epoch, r1_0, r1_1, r1_2, r1_3]) z isAgg34 sizeOf34 (hst.bcs3 0 z)) ?_)
 obtain ⟨t486, ht487, hm⟩ := bind_some hm
 refine wl_call ((wanted_eq z z z (cvb hc485)).trans z) z (x_call call19 z (vs := [.agg #[U6 x454.ID.Session, U6 x454.ID.Seq, U6 x454.Epoch, v462, v465, v468, v471], .agg #[U6 a1.ID.Session, U6 a1.ID.Seq, U6 a1.Epoch, r1_0, r1_1, r1_2, r1_3]]) z) ?_
 refine (locks_Meet_ref (f463.mono ro_rd) (f466.mono ro_rd) (f469.mono ro_rd) (f472.mono ro_rd) (f1_0.mono (rd_weak _)) (f1_1.mono (rd_weak _)) (f1_2.mono (rd_weak _)) (f1_3.mono (rd_weak _)) hst.to0 ht487).mono ?_
 rintro _ w488 ⟨rfl, hst⟩
 refine ⟨_, z, ?_⟩
 replace hst := hst.of0
 refine wv (.bool t486) z z (x_pick_t hc485 z z) (wl_nil (tn ?_))
 refine bsplit t486 (fun hc491 => ?_) (fun hc491 => ?_)
 {
 replace hm := bif_t hc491 hm
 refine wp_ift (cvb hc491) ?_
 refine wp_seq (wrl (wv (.int .i64 (8:Int)) z z z (wl_nil (tn (wp_ret (blk_r (then_r (then_r ?_))))))))
 replace hm := inr_up hm hx451
 refine blk_r (then_r ?_)
 replace hm := inr_up hm hx495
 replace hst := hst.pull2.pull2
 replace hst := at_locks_Table_close (pv := Pt b362 0) (x := o0) hst z
 replace hst := objO_some hst
 obtain rfl := some_inj hm
 refine post_ret (vs := [I6 (8:Int)]) results12 (rvs_cons (rv_tmp z) rvs_nil) ?_
 exact ⟨_, z, hI0, hst.keep1⟩
}
 {
 replace hm := bif_f hc491 hm
 refine wp_iff (cvb hc491) ?_
 refine wp_skip (blk_n (tn (wrl ?_)))
 refine wv (.int .i64 (i64.wrap (z444 + (1:Int)))) z z z (wv (.int .i64 (i64.wrap (z444 + (1:Int)))) z z z (wl_nil (tn ?_)))
 replace hst := hst.pull3.pull3.pull3.keep3
 obtain rfl := some_inj hm
 exact ⟨_, Nat.lt_succ_self _, (i64.wrap (z444 + (1:Int))), _, hx451, (fu 0 (Pt b362 0) z (fu 3 (Pt b357 0) z (fu 14 v363 z (fu 15 (.int .i64 ((o0.l).length : Int)) z (fu 16 (.int .i64 (i64.wrap (z444 + (1:Int)))) z z))))), hst⟩
}
}
 {
 replace hm := bif_f hc485 hm
 refine wo hc485 z z z z z z (wo hc485 z z z z z z (wo hc485 z z z z z z (wv (.bool false) z z (x_pick_f hc485 z z) (wl_nil (tn ?_)))))
 refine wp_iff z ?_
 refine wp_skip (blk_n (tn (wrl ?_)))
 refine wv (.int .i64 (i64.wrap (z444 + (1:Int)))) z z z (wv (.int .i64 (i64.wrap (z444 + (1:Int)))) z z z (wl_nil (tn ?_)))
 replace hst := hst.pull3.pull3.pull3.keep3
 obtain rfl := some_inj hm
 exact ⟨_, Nat.lt_succ_self _, (i64.wrap (z444 + (1:Int))), _, hx451, (fu 0 (Pt b362 0) z (fu 3 (Pt b357 0) z (fu 14 v363 z (fu 15 (.int .i64 ((o0.l).length : Int)) z (fu 16 (.int .i64 (i64.wrap (z444 + (1:Int)))) z z))))), hst⟩
}
}
 {
 replace hm := bif_f hc453 hm
 refine wp_iff (cvb hc453) ?_
 refine wp_exit (then_x (then_x ?_))
 replace hm := inr_up hm hx451
 refine blk_x (tn ?_)
 replace hst := hst.pull1.pull1
 replace hst := at_locks_Table_close (pv := Pt b362 0) (x := o0) hst z
 replace hst := hst.pull1.pull1.keep2
 obtain rfl := some_inj hm
 exact ⟨_, hx495, (fu 0 (Pt b362 0) z (fu 3 (Pt b357 0) z z)), hst⟩
}
}
 {
 clear hst
 rintro _ w496 ⟨σ492, hm, rfl, hst⟩
 dsimp only [locks_Table_Take_j0] at hm
 refine wp_seq ?_
 refine wp_region_St hst 18 [0, 1, 2, 3, 4, 5, 6, 7, 8, 9, 10, 11, 12, 13, 14, 15, 16, 17] [0, 1, 0, 4, 0, 16, 48, 0, 128, 496, 0, 1024, 4080, 0, 8192, 32752, 65535, 131071] [] z (by kernel_rfl) (by kernel_rfl) Try.mixed (by kernel_rfl) ?_
 refine wsr (Pt b357 0) 0 z z z (by kernel_rfl) (fun w hst => x_field z underlying34 z sizeOf29 z) (wsr (.agg #[U6 a1.ID.Session, U6 a1.ID.Seq]) 1 z z z (by kernel_rfl) (fun w hst => x_loadN (cs := [U6 a1.ID.Session, U6 a1.ID.Seq]) z isAgg29 sizeOf29 (hst.bcs1 0 z)) (wsr (Pt b357 2) 2 z z z (by kernel_rfl) (fun w hst => x_field z underlying34 z sizeOf27 z) (wsr (.int .u64 a1.Epoch) 3 z z z (by kernel_rfl) (fun w hst => x_load z isAgg27 (hst.bc1 z)) (wsr (Pt b357 3) 4 z z z (by kernel_rfl) (fun w hst => x_field z underlying34 z sizeOf30 z) (wsr (r1_0) 5 z z z (by kernel_rfl) (fun w hst => x_load z isAgg30 (hst.bc1 z)) (wsr (Pt b357 4) 7 z z z (by kernel_rfl) (fun w hst => x_field z underlying34 z sizeOf31 z) (wsr (r1_1) 8 z z z (by kernel_rfl) (fun w hst => x_load z isAgg31 (hst.bc1 z)) (wsr (Pt b357 5) 10 z z z (by kernel_rfl) (fun w hst => x_field z underlying34 z sizeOf30 z) (wsr (r1_2) 11 z z z (by kernel_rfl) (fun w hst => x_load z isAgg30 (hst.bc1 z)) (wsr (Pt b357 6) 13 z z z (by kernel_rfl) (fun w hst => x_field z underlying34 z sizeOf32 z) (wsr (r1_3) 14 z z z (by kernel_rfl) (fun w hst => x_load z isAgg32 (hst.bc1 z)) ?_)))))))))))
 refine ws_e1 6 (by kernel_rfl) ?_
 refine nxe [9, 12, 15, 16, 17] (by kernel_rfl) z z ?_
 clear hst
 intro w hst
 obtain ⟨t497, ht498, hm⟩ := bind_some hm
 refine wec call37 [r1_0] z z ?_
 refine (slices_Clone_float64_float64_ref (f1_0.mono (rd_weak _)) hst.to0 ht498).mono ?_
 rintro _ w499 ⟨v502, rfl, hst⟩
 refine ⟨_, z, ?_⟩
 replace hst := hst.of1
 refine ws_next (pend' := [(14, r1_3), (13, Pt b357 6), (11, r1_2), (10, Pt b357 5), (8, r1_1), (7, Pt b357 4), (3, U6 a1.Epoch), (2, Pt b357 2), (1, .agg #[U6 a1.ID.Session, U6 a1.ID.Seq]), (0, Pt b357 0)]) hst (by kernel_rfl) (pkr z z (fun w hst => x_load z isAgg32 (hst.bc2 z)) (pkr z z (fun w hst => x_field z underlying34 z sizeOf32 z) (pkr z z (fun w hst => x_load z isAgg30 (hst.bc2 z)) (pkr z z (fun w hst => x_field z underlying34 z sizeOf30 z) (pkr z z (fun w hst => x_load z isAgg31 (hst.bc2 z)) (pkr z z (fun w hst => x_field z underlying34 z sizeOf31 z) (pkr z z (fun w hst => x_load z isAgg27 (hst.bc2 z)) (pkr z z (fun w hst => x_field z underlying34 z sizeOf27 z) (pkr z z (fun w hst => x_loadN (cs := [U6 a1.ID.Session, U6 a1.ID.Seq]) z isAgg29 sizeOf29 (hst.bcs2 0 z)) (pkr z z (fun w hst => x_field z underlying34 z sizeOf29 z) pk_nil)))))))))) ?_
 refine ws_e1 9 (by kernel_rfl) ?_
 refine nxe [12, 15, 16, 17] (by kernel_rfl) z z ?_
 clear hst
 intro w hst
 obtain ⟨t504, ht505, hm⟩ := bind_some hm
 refine wec call38 [r1_1] z z ?_
 refine (slices_Clone_2_float64_2_float64_ref (f1_1.mono (rd_weak _)) hst.to0 ht505).mono ?_
 rintro _ w506 ⟨v509, rfl, hst⟩
 refine ⟨_, z, ?_⟩
 replace hst := hst.of1
 refine ws_next (pend' := [(14, r1_3), (13, Pt b357 6), (11, r1_2), (10, Pt b357 5), (3, U6 a1.Epoch), (2, Pt b357 2), (1, .agg #[U6 a1.ID.Session, U6 a1.ID.Seq]), (0, Pt b357 0)]) hst (by kernel_rfl) (pkr z z (fun w hst => x_load z isAgg32 (hst.bc3 z)) (pkr z z (fun w hst => x_field z underlying34 z sizeOf32 z) (pkr z z (fun w hst => x_load z isAgg30 (hst.bc3 z)) (pkr z z (fun w hst => x_field z underlying34 z sizeOf30 z) (pkr z z (fun w hst => x_load z isAgg27 (hst.bc3 z)) (pkr z z (fun w hst => x_field z underlying34 z sizeOf27 z) (pkr z z (fun w hst => x_loadN (cs := [U6 a1.ID.Session, U6 a1.ID.Seq]) z isAgg29 sizeOf29 (hst.bcs3 0 z)) (pkr z z (fun w hst => x_field z underlying34 z sizeOf29 z) pk_nil)))))))) ?_
 refine ws_e1 12 (by kernel_rfl) ?_
 refine nxe [15, 16, 17] (by kernel_rfl) z z ?_
 clear hst
 intro w hst
 obtain ⟨t511, ht512, hm⟩ := bind_some hm
 refine wec call37 [r1_2] z z ?_
 refine (slices_Clone_float64_float64_ref (f1_2.mono (rd_weak _)) hst.to0 ht512).mono ?_
 rintro _ w513 ⟨v516, rfl, hst⟩
 refine ⟨_, z, ?_⟩
 replace hst := hst.of1
 refine ws_next (pend' := [(14, r1_3), (13, Pt b357 6), (3, U6 a1.Epoch), (2, Pt b357 2), (1, .agg #[U6 a1.ID.Session, U6 a1.ID.Seq]), (0, Pt b357 0)]) hst (by kernel_rfl) (pkr z z (fun w hst => x_load z isAgg32 (hst.bc4 z)) (pkr z z (fun w hst => x_field z underlying34 z sizeOf32 z) (pkr z z (fun w hst => x_load z isAgg27 (hst.bc4 z)) (pkr z z (fun w hst => x_field z underlying34 z sizeOf27 z) (pkr z z (fun w hst => x_loadN (cs := [U6 a1.ID.Session, U6 a1.ID.Seq]) z isAgg29 sizeOf29 (hst.bcs4 0 z)) (pkr z z (fun w hst => x_field z underlying34 z sizeOf29 z) pk_nil)))))) ?_
 refine ws_e1 15 (by kernel_rfl) ?_
 refine nxe [16, 17] (by kernel_rfl) z z ?_
 clear hst
 intro w hst
 obtain ⟨t518, ht519, hm⟩ := bind_some hm
 refine wec call39 [r1_3] z z ?_
 refine (slices_Clone_byte_byte_ref (f1_3.mono (rd_weak _)) hst.to0 ht519).mono ?_
 rintro _ w520 ⟨v523, rfl, hst⟩
 refine ⟨_, z, ?_⟩
 replace hst := hst.of1
 refine ws_next (pend' := [(3, U6 a1.Epoch), (2, Pt b357 2), (1, .agg #[U6 a1.ID.Session, U6 a1.ID.Seq]), (0, Pt b357 0)]) hst (by kernel_rfl) (pkr z z (fun w hst => x_load z isAgg27 (hst.bc5 z)) (pkr z z (fun w hst => x_field z underlying34 z sizeOf27 z) (pkr z z (fun w hst => x_loadN (cs := [U6 a1.ID.Session, U6 a1.ID.Seq]) z isAgg29 sizeOf29 (hst.bcs5 0 z)) (pkr z z (fun w hst => x_field z underlying34 z sizeOf29 z) pk_nil)))) ?_
 refine wsr (.agg #[U6 a1.ID.Session, U6 a1.ID.Seq, U6 a1.Epoch, v502, v509, v516, v523]) 16 rfl rfl rfl (by kernel_rfl) (fun w hst => by obtain ⟨_, _, hv_, _⟩ := hst.sv0; rw [hv_]; obtain ⟨_, _, hv_, _⟩ := hst.sv1; rw [hv_]; obtain ⟨_, _, hv_, _⟩ := hst.sv2; rw [hv_]; obtain ⟨_, _, hv_, _⟩ := hst.sv3; rw [hv_]; kernel_rfl) ?_
 refine ws_e1 17 (by kernel_rfl) ?_
 refine nxe [] (by kernel_rfl) z z ?_
 clear hst
 intro w hst
 replace hst := hst.pull5
 obtain ⟨w529, hr530, hst⟩ := hst.bx [U6 a1.ID.Session, U6 a1.ID.Seq, U6 a1.Epoch, v502, v509, v516, v523] sizeOf34 z (oC z (oC z (oC z (oC (one_of_sliceV hst.sv4) (oC (one_of_sliceV hst.sv3) (oC (one_of_sliceV hst.sv2) (oC (one_of_sliceV hst.sv1) oN))))))) (by kernel_rfl)
 refine we_unit z (x_unit hr530) ?_
 refine ws_next (pend' := []) hst (by kernel_rfl) pk_nil ?_
 refine ws_nil ?_
 intro w hst
 refine tn (wp_seq (wrl (wv (Pt b362 0) z z z (wv (Pt b357 0) z z (x_field z underlying34 z sizeOf29 z) (wv (.agg #[U6 a1.ID.Session, U6 a1.ID.Seq]) z z (x_loadN (cs := [U6 a1.ID.Session, U6 a1.ID.Seq]) z isAgg29 sizeOf29 (hst.bcs0 0 z)) ?_)))))
 replace hst := hst.pull5
 replace hst := objO_some hst
 obtain ⟨t531, ht532, hm⟩ := bind_some hm
 refine wc call40 [Pt b362 0, .agg #[U6 a1.ID.Session, U6 a1.ID.Seq]] z z z ?_
 refine (locks_Table_find_ref hst.to1 ht532).mono ?_
 rintro _ w533 ⟨rfl, hst⟩
 refine ⟨_, z, ?_⟩
 replace hst := hst.of1
 replace hst := objO_get hst
 refine wv (.tuple #[I6 t531.1, .bool t531.2]) z z z (wv (.int .i64 t531.1) z z z (wv (.bool t531.2) z z z (wv (.int .i64 t531.1) z z z (wv (.bool t531.2) z z z (wl_nil (tn (wp_seq (wp_seq (wrl (wv (.bool t531.2) z z z (wl_nil (tn ?_))))))))))))
 refine bsplit t531.2 (fun hc536 => ?_) (fun hc536 => ?_)
 {
 replace hm := bif_t hc536 hm
 refine wp_ift (cvb hc536) ?_
 obtain ⟨b537, v538, e540, hst'⟩ := at_locks_Table_open hst
 clear hst
 have e540 := ptr_inj e540
 subst e540
 have hst := hst'
 clear hst'
 refine wp_region_St hst 8 [0, 1, 2, 3, 4, 5, 6, 7] [0, 1, 3, 7, 0, 0, 63, 127] [] z (by kernel_rfl) (by kernel_rfl) Try.mixed (by kernel_rfl) ?_
 refine wsr (Pt b362 0) 0 z z z (by kernel_rfl) (fun w hst => z) (wsr (Pt b362 0) 1 z z z (by kernel_rfl) (fun w hst => z) (wsr (Pt b362 0) 2 z z z (by kernel_rfl) (fun w hst => x_field z underlying77 z sizeOf22 z) (wsr (v538) 3 z z z (by kernel_rfl) (fun w hst => x_load z isAgg22 (hst.bc0 z)) (wsr (.int .i64 t531.1) 4 z z z (by kernel_rfl) (fun w hst => z) (wsr (.agg #[U6 a1.ID.Session, U6 a1.ID.Seq, U6 a1.Epoch, v502, v509, v516, v523]) 5 z z z (by kernel_rfl) (fun w hst => x_loadN (cs := [U6 a1.ID.Session, U6 a1.ID.Seq, U6 a1.Epoch, v502, v509, v516, v523]) z isAgg34 sizeOf34 (hst.bcs2 0 z)) ?_)))))
 obtain ⟨x541, hx542, hm⟩ := bind_some hm
 obtain ⟨h543, h544, hi545⟩ := geto_some hx542
 refine wsr (.pointer (some (eAddr v538 (t531.1.toNat * 7 + 0)))) 6 z z z (by kernel_rfl) (fun w hst => x_index z z underlying22 sizeOf34 hst.sv1 h543 h544) ?_
 refine ws_e1 7 (by kernel_rfl) ?_
 refine nxe [] (by kernel_rfl) z z ?_
 clear hst
 intro w hst
 obtain ⟨cs546, hr547, hc548⟩ := hst.og1 hi545
 obtain ⟨v549, v552, v555, v558, rfl, f550, f553, f556, f559, -⟩ := hr547
 replace hst := hst.pull6
 obtain ⟨I561, hI562, f563, hst⟩ := hst.own_fix
 replace f1_0 := f1_0.mono (rd_le hI562)
 replace f1_1 := f1_1.mono (rd_le hI562)
 replace f1_2 := f1_2.mono (rd_le hI562)
 replace f1_3 := f1_3.mono (rd_le hI562)
 replace f550 := f550.mono (ro_le hI562)
 replace f553 := f553.mono (ro_le hI562)
 replace f556 := f556.mono (ro_le hI562)
 replace f559 := f559.mono (ro_le hI562)
 replace hI0 := hI0.trans hI562
 replace hst := hst.pull5
 obtain ⟨I564, hI565, f566, hst⟩ := hst.own_fix
 replace f1_0 := f1_0.mono (rd_le hI565)
 replace f1_1 := f1_1.mono (rd_le hI565)
 replace f1_2 := f1_2.mono (rd_le hI565)
 replace f1_3 := f1_3.mono (rd_le hI565)
 replace f550 := f550.mono (ro_le hI565)
 replace f553 := f553.mono (ro_le hI565)
 replace f556 := f556.mono (ro_le hI565)
 replace f559 := f559.mono (ro_le hI565)
 replace f563 := f563.mono (ro_le hI565)
 replace hI0 := hI0.trans hI565
 replace hst := hst.pull4
 obtain ⟨I567, hI568, f569, hst⟩ := hst.own_fix
 replace f1_0 := f1_0.mono (rd_le hI568)
 replace f1_1 := f1_1.mono (rd_le hI568)
 replace f1_2 := f1_2.mono (rd_le hI568)
 replace f1_3 := f1_3.mono (rd_le hI568)
 replace f550 := f550.mono (ro_le hI568)
 replace f553 := f553.mono (ro_le hI568)
 replace f556 := f556.mono (ro_le hI568)
 replace f559 := f559.mono (ro_le hI568)
 replace f563 := f563.mono (ro_le hI568)
 replace f566 := f566.mono (ro_le hI568)
 replace hI0 := hI0.trans hI568
 replace hst := hst.pull3
 obtain ⟨I570, hI571, f572, hst⟩ := hst.own_fix
 replace f1_0 := f1_0.mono (rd_le hI571)
 replace f1_1 := f1_1.mono (rd_le hI571)
 replace f1_2 := f1_2.mono (rd_le hI571)
 replace f1_3 := f1_3.mono (rd_le hI571)
 replace f550 := f550.mono (ro_le hI571)
 replace f553 := f553.mono (ro_le hI571)
 replace f556 := f556.mono (ro_le hI571)
 replace f559 := f559.mono (ro_le hI571)
 replace f563 := f563.mono (ro_le hI571)
 replace f566 := f566.mono (ro_le hI571)
 replace f569 := f569.mono (ro_le hI571)
 replace hI0 := hI0.trans hI571
 replace hst := hst.pull1
 obtain ⟨w573, hr574, hst⟩ := hst.own_store (P := prog) (t := 34) (y := ({ ID := a1.ID, Epoch := a1.Epoch, Gets := t497, Scans := t504, Puts := t511, Data := t518 } : api_Hold)) hi545 0 (.agg #[U6 a1.ID.Session, U6 a1.ID.Seq, U6 a1.Epoch, v502, v509, v516, v523]) sizeOf34 (Nat.le_of_ble_eq_true z) (oC z (oC z (oC z (oC (one_of_sliceV (ro_sliceV f563)) (oC (one_of_sliceV (ro_sliceV f566)) (oC (one_of_sliceV (ro_sliceV f569)) (oC (one_of_sliceV (ro_sliceV f572)) oN))))))) (fun cs h => ⟨_, _, _, _, setMany_all (ty_api_Hold.len h) z, f563, f566, f569, f572, one_of_sliceV (ro_sliceV f563), one_of_sliceV (ro_sliceV f566), one_of_sliceV (ro_sliceV f569), one_of_sliceV (ro_sliceV f572)⟩)
 have hi575 := set_get hi545 ({ ID := a1.ID, Epoch := a1.Epoch, Gets := t497, Scans := t504, Puts := t511, Data := t518 } : api_Hold)
 have h576 := set_lt h544 t531.1.toNat ({ ID := a1.ID, Epoch := a1.Epoch, Gets := t497, Scans := t504, Puts := t511, Data := t518 } : api_Hold)
 refine we_unit z (x_unit hr574) ?_
 refine ws_next (pend' := []) hst (by kernel_rfl) pk_nil ?_
 refine ws_nil ?_
 intro w hst
 refine tn (wp_seq (wrl (wv (.int .i64 (0:Int)) z z z (wl_nil (tn (wp_ret ?_))))))
 replace hst := hst.pull1
 replace hst := at_locks_Table_close (pv := Pt b362 0) (x := ({ l := (o0.l.set t531.1.toNat ({ ID := a1.ID, Epoch := a1.Epoch, Gets := t497, Scans := t504, Puts := t511, Data := t518 } : api_Hold)) } : locks_Table)) hst z
 replace hst := objO_some hst
 obtain rfl := some_inj hm
 refine post_ret (vs := [Zi]) results12 (rvs_cons (rv_tmp z) rvs_nil) ?_
 exact ⟨_, z, hI0, hst.keep1⟩
}
 {
 replace hm := bif_f hc536 hm
 refine wp_iff (cvb hc536) ?_
 obtain ⟨b577, v578, e580, hst'⟩ := at_locks_Table_open hst
 clear hst
 have e580 := ptr_inj e580
 subst e580
 have hst := hst'
 clear hst'
 refine wp_region_St hst 12 [0, 1, 2, 3, 4, 5, 6, 7, 8, 9, 10, 11] [0, 0, 2, 6, 14, 0, 0, 64, 254, 511, 1023, 2047] [] z (by kernel_rfl) (by kernel_rfl) Try.mixed (by kernel_rfl) ?_
 refine wsr (Pt b362 0) 0 z z z (by kernel_rfl) (fun w hst => z) (wsr (Pt b362 0) 1 z z z (by kernel_rfl) (fun w hst => z) (wsr (Pt b362 0) 2 z z z (by kernel_rfl) (fun w hst => z) (wsr (Pt b362 0) 3 z z z (by kernel_rfl) (fun w hst => x_field z underlying77 z sizeOf22 z) (wsr (v578) 4 z z z (by kernel_rfl) (fun w hst => x_load z isAgg22 (hst.bc0 z)) (wsr (.int .i64 t531.1) 5 z z z (by kernel_rfl) (fun w hst => z) (wsr (.agg #[U6 a1.ID.Session, U6 a1.ID.Seq, U6 a1.Epoch, v502, v509, v516, v523]) 6 z z z (by kernel_rfl) (fun w hst => x_loadN (cs := [U6 a1.ID.Session, U6 a1.ID.Seq, U6 a1.Epoch, v502, v509, v516, v523]) z isAgg34 sizeOf34 (hst.bcs2 0 z)) ?_))))))
 refine ws_e1 7 (by kernel_rfl) ?_
 refine nxe [8, 9, 10, 11] (by kernel_rfl) z z ?_
 clear hst
 intro w hst
 replace hst := hst.pull6
 obtain ⟨I585, hI586, f587, hst⟩ := hst.own_fix
 replace f1_0 := f1_0.mono (rd_le hI586)
 replace f1_1 := f1_1.mono (rd_le hI586)
 replace f1_2 := f1_2.mono (rd_le hI586)
 replace f1_3 := f1_3.mono (rd_le hI586)
 replace hI0 := hI0.trans hI586
 replace hst := hst.pull5
 obtain ⟨I588, hI589, f590, hst⟩ := hst.own_fix
 replace f1_0 := f1_0.mono (rd_le hI589)
 replace f1_1 := f1_1.mono (rd_le hI589)
 replace f1_2 := f1_2.mono (rd_le hI589)
 replace f1_3 := f1_3.mono (rd_le hI589)
 replace f587 := f587.mono (ro_le hI589)
 replace hI0 := hI0.trans hI589
 replace hst := hst.pull4
 obtain ⟨I591, hI592, f593, hst⟩ := hst.own_fix
 replace f1_0 := f1_0.mono (rd_le hI592)
 replace f1_1 := f1_1.mono (rd_le hI592)
 replace f1_2 := f1_2.mono (rd_le hI592)
 replace f1_3 := f1_3.mono (rd_le hI592)
 replace f587 := f587.mono (ro_le hI592)
 replace f590 := f590.mono (ro_le hI592)
 replace hI0 := hI0.trans hI592
 replace hst := hst.pull3
 obtain ⟨I594, hI595, f596, hst⟩ := hst.own_fix
 replace f1_0 := f1_0.mono (rd_le hI595)
 replace f1_1 := f1_1.mono (rd_le hI595)
 replace f1_2 := f1_2.mono (rd_le hI595)
 replace f1_3 := f1_3.mono (rd_le hI595)
 replace f587 := f587.mono (ro_le hI595)
 replace f590 := f590.mono (ro_le hI595)
 replace f593 := f593.mono (ro_le hI595)
 replace hI0 := hI0.trans hI595
 obtain ⟨b597, w598, ew599, eb600, hst⟩ := hst.lits (E := ty_api_Hold) (xs := [({ ID := a1.ID, Epoch := a1.Epoch, Gets := t497, Scans := t504, Puts := t511, Data := t518 } : api_Hold)]) [[U6 a1.ID.Session, U6 a1.ID.Seq, U6 a1.Epoch, v502, v509, v516, v523]] 34 1 z (Reps.cons ⟨_, _, _, _, z, f587, f590, f593, f596, one_of_sliceV (ro_sliceV f587), one_of_sliceV (ro_sliceV f590), one_of_sliceV (ro_sliceV f593), one_of_sliceV (ro_sliceV f596)⟩ Reps.nil)
 refine we_run (v := (.slice (some ⟨b597, 0, none⟩) 1 1)) (w' := w598) z (x_als (by kernel_rfl) ew599 eb600) ?_
 refine ws_next (pend' := [(5, I6 t531.1), (4, v578), (3, Pt b362 0), (2, Pt b362 0), (1, Pt b362 0), (0, Pt b362 0)]) hst (by kernel_rfl) (pkr z z (fun w hst => z) (pkr z z (fun w hst => x_load z isAgg22 (hst.bc1 z)) (pkr z z (fun w hst => x_field z underlying77 z sizeOf22 z) (pkr z z (fun w hst => z) (pkr z z (fun w hst => z) (pkr z z (fun w hst => z) pk_nil)))))) ?_
 refine ws_e1 8 (by kernel_rfl) ?_
 refine nxe [9, 10, 11] (by kernel_rfl) z z ?_
 clear hst
 intro w hst
 replace hst := hst.pull2
 obtain ⟨t602, ht603, hm⟩ := bind_some hm
 refine wec call41 [v578, I6 t531.1, (.slice (some ⟨b597, 0, none⟩) 1 1)] z z ?_
 refine (slices_Insert_api_Hold_api_Hold_ref hst.to2 ht603).mono ?_
 rintro _ w604 ⟨v607, rfl, hst⟩
 refine ⟨_, z, ?_⟩
 replace hst := hst.of1
 refine ws_next (pend' := [(0, Pt b362 0)]) hst (by kernel_rfl) (pkr z z (fun w hst => z) pk_nil) ?_
 refine wsr (Pt b362 0) 9 z z z (by kernel_rfl) (fun w hst => z) (wsr (Pt b362 0) 10 z z z (by kernel_rfl) (fun w hst => x_field z underlying77 z sizeOf22 z) ?_)
 refine ws_e1 11 (by kernel_rfl) ?_
 refine nxe [] (by kernel_rfl) z z ?_
 clear hst
 intro w hst
 replace hst := hst.pull1
 obtain ⟨w609, hr610, hst⟩ := hst.boxStore1 (P := prog) (t := 22) (cs' := [v607]) 0 v607 (one_of_sliceV hst.sv1) sizeOf22 z z
 refine we_unit z (x_unit hr610) ?_
 refine ws_next (pend' := []) hst (by kernel_rfl) pk_nil ?_
 refine ws_nil ?_
 intro w hst
 refine tn (wp_seq (wrl (wv (.int .i64 (0:Int)) z z z (wl_nil (tn (wp_ret ?_))))))
 replace hst := hst.pull1.pull1
 replace hst := at_locks_Table_close (pv := Pt b362 0) (x := ({ l := t602 } : locks_Table)) hst z
 replace hst := objO_some hst
 obtain rfl := some_inj hm
 refine post_ret (vs := [Zi]) results12 (rvs_cons (rv_tmp z) rvs_nil) ?_
 exact ⟨_, z, hI0, hst.keep1⟩
}
}
}
}

theorem locks_Table_Len_ref {w0 w : World} {I : HL} {R : SP} {a0 : (Option locks_Table)} {p0 : Value}  (hst : St w0 w I [objO at_locks_Table p0 a0] R) {r : (Int)} (hm : locks_Table_Len a0 = some r) :
  Calls prog 27 #[p0] w fun e w' => e = .returned (.int .i64 r) ∧ St w0 w' I [objO at_locks_Table p0 a0] R := by {
 rcases a0 with _ | o0
 {
 obtain ⟨rfl, hst'⟩ := objO_none hst
 clear hst
 have hst := hst'
 clear hst'
 dsimp only [locks_Table_Len] at hm
 refine calls_start (args := [.pointer none]) func27 z ntmps27 (Nat.le_of_ble_eq_true z) ?_
 refine wp_seq (wrl (wv (.int .i64 (0:Int)) z z z (wl_nil (tn (wp_seq (wp_seq (wrl (wv (.pointer none) z z z (wv (.bool true) z z (by kernel_rfl) (wl_nil (tn ?_)))))))))))
 refine wp_ift z ?_
 refine wp_seq (wrl (wv (.int .i64 (0:Int)) z z z (wl_nil (tn (wp_ret (then_r ?_))))))
 replace hst := hst.objO_nil at_locks_Table
 obtain rfl := some_inj hm
 refine post_ret (vs := [Zi]) results27 (rvs_cons (rv_tmp z) rvs_nil) ?_
 exact ⟨z, hst.keep1⟩
}
 {
 replace hst := objO_get hst
 dsimp only [locks_Table_Len] at hm
 refine calls_start (args := [p0]) func27 z ntmps27 (Nat.le_of_ble_eq_true z) ?_
 refine wp_seq (wrl (wv (.int .i64 (0:Int)) z z z (wl_nil (tn (wp_seq (wp_seq (wrl (wv (p0) z z z ?_))))))))
 obtain ⟨b108, v109, rfl, hst'⟩ := at_locks_Table_open hst
 clear hst
 have hst := hst'
 clear hst'
 refine wv (.bool false) z z (by kernel_rfl) (wl_nil (tn ?_))
 refine wp_iff z ?_
 refine wp_skip (tn (wp_seq (wrl ?_)))
 refine wv (Pt b108 0) z z z (wv (Pt b108 0) z z z (wv (Pt b108 0) z z (x_field z underlying77 z sizeOf22 z) (wv (v109) z z (x_load z isAgg22 (hst.bc0 z)) (wv (.int .i64 ((o0.l).length : Int)) z z (x_len z underlying22 hst.sv1) (wv (.int .i64 ((o0.l).length : Int)) z z z (wl_nil (tn (wp_ret ?_))))))))
 replace hst := hst.pull1.pull1
 replace hst := at_locks_Table_close (pv := Pt b108 0) (x := o0) hst z
 replace hst := objO_some hst
 obtain rfl := some_inj hm
 refine post_ret (vs := [I6 ((o0.l).length : Int)]) results27 (rvs_cons (rv_tmp z) rvs_nil) ?_
 exact ⟨z, hst.keep1⟩
}
}

theorem law12_awake_ref {w0 w : World} {I : HL} {R : SP}   (hst : St w0 w I [] R) {r : (Bool)} (hm : law12_awake = some r) :
  Calls prog 9 #[] w fun e w' => ∃ (I' : HL), e = .returned (.bool r) ∧ I.le I' ∧ St w0 w' I' [] R := by {
 unfold law12_awake at hm
 refine calls_start (args := []) func9 z ntmps9 (Nat.le_of_ble_eq_true z) ?_
 have hI0 := HL.le.refl I
 refine wp_seq (wrl (wv (.bool false) z z z (wl_nil (tn (wp_seq (wrl (wv (.agg #[U6 (1:Int), U6 (1:Int)]) z z (by kernel_rfl) ?_)))))))
 obtain ⟨b108, w109, ew110, eb111, hst⟩ := hst.lits (E := tyF64) (xs := [(4607182418800017408:Nat)]) [[F6 (4607182418800017408:Nat)]] 57 1 z (Reps.cons z Reps.nil)
 refine wl_run (v := (.slice (some ⟨b108, 0, none⟩) 1 1)) (w' := w109) z z (x_als (by kernel_rfl) ew110 eb111) ?_
 refine wv (.agg #[U6 (1:Int), U6 (1:Int), Zu, Zs, Zs, (.slice (some ⟨b108, 0, none⟩) 1 1), Zs]) z z (by kernel_rfl) ?_
 obtain ⟨b121, w122, ew123, eb124, hst⟩ := hst.box [Zu, Zu, Zu, Zs, Zs, Zs, Zs] 34
 refine wl_run (v := Pt b121 0) (w' := w122) z z (x_al (by kernel_rfl) ew123 eb124) ?_
 obtain ⟨w126, hr127, hst⟩ := hst.bx [U6 (1:Int), U6 (1:Int), Zu, Zs, Zs, (.slice (some ⟨b108, 0, none⟩) 1 1), Zs] sizeOf34 z (oC z (oC z (oC z (oC z (oC z (oC (one_of_sliceV hst.sv1) (oC z oN))))))) (by kernel_rfl)
 refine wl_unit z z (x_unit hr127) ?_
 refine wl_nil (tn (wp_seq (wrl (wv (.agg #[U6 (2:Int), U6 (1:Int)]) z z (by kernel_rfl) (wv (.agg #[Zf, F6 (4611686018427387904:Nat)]) z z (by kernel_rfl) ?_)))))
 obtain ⟨b128, w129, ew130, eb131, hst⟩ := hst.lits (E := tyF2) (xs := [((0:Nat), (4611686018427387904:Nat))]) [[Zf, F6 (4611686018427387904:Nat)]] 75 1 z (Reps.cons z Reps.nil)
 refine wl_run (v := (.slice (some ⟨b128, 0, none⟩) 1 1)) (w' := w129) z z (x_als (by kernel_rfl) ew130 eb131) ?_
 refine wv (.agg #[U6 (2:Int), U6 (1:Int), Zu, Zs, (.slice (some ⟨b128, 0, none⟩) 1 1), Zs, Zs]) z z (by kernel_rfl) ?_
 obtain ⟨b141, w142, ew143, eb144, hst⟩ := hst.box [Zu, Zu, Zu, Zs, Zs, Zs, Zs] 34
 refine wl_run (v := Pt b141 0) (w' := w142) z z (x_al (by kernel_rfl) ew143 eb144) ?_
 obtain ⟨w146, hr147, hst⟩ := hst.bx [U6 (2:Int), U6 (1:Int), Zu, Zs, (.slice (some ⟨b128, 0, none⟩) 1 1), Zs, Zs] sizeOf34 z (oC z (oC z (oC z (oC z (oC (one_of_sliceV hst.sv1) (oC z (oC z oN))))))) (by kernel_rfl)
 refine wl_unit z z (x_unit hr147) ?_
 refine wl_nil (tn (wp_seq (wrl ?_)))
 obtain ⟨t148, ht149, hm⟩ := bind_some hm
 refine wc call10 [] z z z ?_
 refine (locks_New_ref hst.to0 ht149).mono ?_
 rintro _ w150 ⟨v153, rfl, hst⟩
 refine ⟨_, z, ?_⟩
 replace hst := hst.of1
 refine wv (v153) z z z (wl_nil (tn (wp_seq (wrl (wv (.agg #[U6 (1:Int), U6 (1:Int), Zu, Zs, Zs, (.slice (some ⟨b108, 0, none⟩) 1 1), Zs]) z z (x_loadN (cs := [U6 (1:Int), U6 (1:Int), Zu, Zs, Zs, (.slice (some ⟨b108, 0, none⟩) 1 1), Zs]) z isAgg34 sizeOf34 (hst.bcs3 0 z)) (wv (.agg #[U6 (2:Int), U6 (1:Int), Zu, Zs, (.slice (some ⟨b128, 0, none⟩) 1 1), Zs, Zs]) z z (x_loadN (cs := [U6 (2:Int), U6 (1:Int), Zu, Zs, (.slice (some ⟨b128, 0, none⟩) 1 1), Zs, Zs]) z isAgg34 sizeOf34 (hst.bcs1 0 z)) ?_))))))
 have f155 : Ro tyF64 I (.slice none 0 0) [] := ro_nil
 have f156 : Ro tyF2 I (.slice none 0 0) [] := ro_nil
 have f157 : Ro (tyInt .u8) I (.slice none 0 0) [] := ro_nil
 have f158 : Ro tyF64 I (.slice none 0 0) [] := ro_nil
 have f159 : Ro tyF64 I (.slice none 0 0) [] := ro_nil
 have f160 : Ro (tyInt .u8) I (.slice none 0 0) [] := ro_nil
 replace hst := hst.pull4
 obtain ⟨css161, hq162, hst⟩ := hst.own_open
 replace hst := hst.pull3
 obtain ⟨css163, hq164, hst⟩ := hst.own_open
 obtain ⟨t165, ht166, hm⟩ := bind_some hm
 refine wc call19 [.agg #[U6 (1:Int), U6 (1:Int), Zu, Zs, Zs, (.slice (some ⟨b108, 0, none⟩) 1 1), Zs], .agg #[U6 (2:Int), U6 (1:Int), Zu, Zs, (.slice (some ⟨b128, 0, none⟩) 1 1), Zs, Zs]] z z z ?_
 refine (locks_Meet_ref (a0 := ({ ID := ({ Session := (1:Int), Seq := (1:Int) } : api_ID), Epoch := (0:Int), Gets := [], Scans := [], Puts := [(4607182418800017408:Nat)], Data := [] } : api_Hold)) (a1 := ({ ID := ({ Session := (2:Int), Seq := (1:Int) } : api_ID), Epoch := (0:Int), Gets := [], Scans := [((0:Nat), (4611686018427387904:Nat))], Puts := [], Data := [] } : api_Hold)) (f155.mono ro_rd) (f156.mono ro_rd) (hst.rdrow1 hq162) (f157.mono ro_rd) (f158.mono ro_rd) (hst.rdrow0 hq164) (f159.mono ro_rd) (f160.mono ro_rd) hst.to0 ht166).mono ?_
 rintro _ w167 ⟨rfl, hst⟩
 refine ⟨_, z, ?_⟩
 replace hst := hst.of0.pull1.own_close hq162
 replace hst := hst.pull1.own_close hq164
 refine wv (.bool t165) z z z ?_
 refine bsplit t165 (fun hc170 => ?_) (fun hc170 => ?_)
 {
 replace hm := bif_t hc170 hm
 refine wv (v153) ((wanted_eq z z z (cvb hc170)).trans z) z z (wv (.agg #[U6 (1:Int), U6 (1:Int), Zu, Zs, Zs, (.slice (some ⟨b108, 0, none⟩) 1 1), Zs]) ((wanted_eq z z z (cvb hc170)).trans z) z (x_loadN (cs := [U6 (1:Int), U6 (1:Int), Zu, Zs, Zs, (.slice (some ⟨b108, 0, none⟩) 1 1), Zs]) z isAgg34 sizeOf34 (hst.bcs4 0 z)) ?_)
 replace hst := hst.pull2
 replace hst := objO_some hst
 replace hst := hst.pull2
 obtain ⟨css171, hq172, hst⟩ := hst.own_open
 replace hst := hst.pull1
 obtain ⟨t173, ht174, hm⟩ := bind_some hm
 refine wl_call ((wanted_eq z z z (cvb hc170)).trans z) z (x_call call12 z (vs := [v153, .agg #[U6 (1:Int), U6 (1:Int), Zu, Zs, Zs, (.slice (some ⟨b108, 0, none⟩) 1 1), Zs]]) z) ?_
 refine (locks_Table_Take_ref (a1 := ({ ID := ({ Session := (1:Int), Seq := (1:Int) } : api_ID), Epoch := (0:Int), Gets := [], Scans := [], Puts := [(4607182418800017408:Nat)], Data := [] } : api_Hold)) (f155.mono ro_rd) (f156.mono ro_rd) (hst.sub.rdrow0 hq172) (f157.mono ro_rd) hst.to1 ht174).mono ?_
 rintro _ w175 ⟨I176, rfl, hI177, hst⟩
 refine ⟨_, z, ?_⟩
 replace hst := hst.of1
 replace f155 := f155.mono (ro_le hI177)
 replace f156 := f156.mono (ro_le hI177)
 replace f157 := f157.mono (ro_le hI177)
 replace f158 := f158.mono (ro_le hI177)
 replace f159 := f159.mono (ro_le hI177)
 replace f160 := f160.mono (ro_le hI177)
 replace hI0 := hI0.trans hI177
 replace hst := hst.pull1.own_close (hq172.imp fun _ _ => Ty.mono _ (ro_le hI177))
 replace hst := hst.pull1
 rcases he179 : t173.2 with _ | y178
 · rw [he179] at hm; cases hm
 rw [he179] at hm hst; dsimp only at hm; replace hst := objO_get hst
 refine wv (.bool (t173.1 == (0:Int))) ((wanted_eq z z z (cvb hc170)).trans z) z z (wv (.bool (t173.1 == (0:Int))) z z (x_pick_t hc170 z z) (wv (.bool (t173.1 == (0:Int))) z z z ?_))
 refine bsplit (t173.1 == (0:Int)) (fun hc180 => ?_) (fun hc180 => ?_)
 {
 replace hm := bif_t hc180 hm
 refine wv (v153) ((wanted_eq z z z (cvb hc180)).trans z) z z (wv (.agg #[U6 (2:Int), U6 (1:Int), Zu, Zs, (.slice (some ⟨b128, 0, none⟩) 1 1), Zs, Zs]) ((wanted_eq z z z (cvb hc180)).trans z) z (x_loadN (cs := [U6 (2:Int), U6 (1:Int), Zu, Zs, (.slice (some ⟨b128, 0, none⟩) 1 1), Zs, Zs]) z isAgg34 sizeOf34 (hst.bcs3 0 z)) ?_)
 replace hst := objO_some hst
 replace hst := hst.pull2
 obtain ⟨css181, hq182, hst⟩ := hst.own_open
 replace hst := hst.pull1
 obtain ⟨t183, ht184, hm⟩ := bind_some hm
 refine wl_call ((wanted_eq z z z (cvb hc180)).trans z) z (x_call call12 z (vs := [v153, .agg #[U6 (2:Int), U6 (1:Int), Zu, Zs, (.slice (some ⟨b128, 0, none⟩) 1 1), Zs, Zs]]) z) ?_
 refine (locks_Table_Take_ref (a1 := ({ ID := ({ Session := (2:Int), Seq := (1:Int) } : api_ID), Epoch := (0:Int), Gets := [], Scans := [((0:Nat), (4611686018427387904:Nat))], Puts := [], Data := [] } : api_Hold)) (f158.mono ro_rd) (hst.sub.rdrow0 hq182) (f159.mono ro_rd) (f160.mono ro_rd) hst.to1 ht184).mono ?_
 rintro _ w185 ⟨I186, rfl, hI187, hst⟩
 refine ⟨_, z, ?_⟩
 replace hst := hst.of1
 replace f155 := f155.mono (ro_le hI187)
 replace f156 := f156.mono (ro_le hI187)
 replace f157 := f157.mono (ro_le hI187)
 replace f158 := f158.mono (ro_le hI187)
 replace f159 := f159.mono (ro_le hI187)
 replace f160 := f160.mono (ro_le hI187)
 replace hI0 := hI0.trans hI187
 replace hst := hst.pull1.own_close (hq182.imp fun _ _ => Ty.mono _ (ro_le hI187))
 replace hst := hst.pull1
 rcases he189 : t183.2 with _ | y188
 · rw [he189] at hm; cases hm
 rw [he189] at hm hst; dsimp only at hm; replace hst := objO_get hst
 refine wv (.bool (t183.1 == (8:Int))) ((wanted_eq z z z (cvb hc180)).trans z) z z (wv (.bool (t183.1 == (8:Int))) z z (x_pick_t hc180 z z) (wv (.bool (t183.1 == (8:Int))) z z z ?_))
 refine bsplit (t183.1 == (8:Int)) (fun hc190 => ?_) (fun hc190 => ?_)
 {
 replace hm := bif_t hc190 hm
 refine wv (v153) ((wanted_eq z z z (cvb hc190)).trans z) z z ?_
 replace hst := objO_some hst
 obtain ⟨t191, ht192, hm⟩ := bind_some hm
 refine wl_call ((wanted_eq z z z (cvb hc190)).trans z) z (x_call call27 z (vs := [v153]) z) ?_
 refine (locks_Table_Len_ref hst.to1 ht192).mono ?_
 rintro _ w193 ⟨rfl, hst⟩
 refine ⟨_, z, ?_⟩
 replace hst := hst.of1
 replace hst := objO_get hst
 refine wv (.bool (t191 == (1:Int))) ((wanted_eq z z z (cvb hc190)).trans z) z z (wv (.bool (t191 == (1:Int))) z z (x_pick_t hc190 z z) (wv (.bool (t191 == (1:Int))) z z z (wl_nil (tn (wp_ret ?_)))))
 obtain rfl := some_inj hm
 refine post_ret (vs := [.bool (t191 == (1:Int))]) results9 (rvs_cons (rv_tmp z) rvs_nil) ?_
 exact ⟨_, z, hI0, hst.keep0⟩
}
 {
 replace hm := bif_f hc190 hm
 refine wo hc190 z z z z z z (wo hc190 z z z z z z (wo hc190 z z z z z z (wv (.bool false) z z (x_pick_f hc190 z z) (wv (.bool false) z z z (wl_nil (tn (wp_ret ?_)))))))
 obtain rfl := some_inj hm
 refine post_ret (vs := [.bool false]) results9 (rvs_cons (rv_tmp z) rvs_nil) ?_
 exact ⟨_, z, hI0, hst.keep0⟩
}
}
 {
 replace hm := bif_f hc180 hm
 refine wo hc180 z z z z z z (wo hc180 z z z z z z (wo hc180 z z z z z z (wo hc180 z z z z z z (wv (.bool false) z z (x_pick_f hc180 z z) (wv (.bool false) z z z (wz z z z z z z (wz z z z z z z (wz z z z z z z (wv (.bool false) z z (x_pick_f z z z) (wv (.bool false) z z z (wl_nil (tn (wp_ret ?_)))))))))))))
 obtain rfl := some_inj hm
 refine post_ret (vs := [.bool false]) results9 (rvs_cons (rv_tmp z) rvs_nil) ?_
 exact ⟨_, z, hI0, hst.keep0⟩
}
}
 {
 replace hm := bif_f hc170 hm
 refine wo hc170 z z z z z z (wo hc170 z z z z z z (wo hc170 z z z z z z (wo hc170 z z z z z z (wv (.bool false) z z (x_pick_f hc170 z z) (wv (.bool false) z z z (wz z z z z z z (wz z z z z z z (wz z z z z z z (wz z z z z z z (wv (.bool false) z z (x_pick_f z z z) (wv (.bool false) z z z (wz z z z z z z ?_))))))))))))
 refine wz z z z z z z (wz z z z z z z (wv (.bool false) z z (x_pick_f z z z) (wv (.bool false) z z z (wl_nil (tn (wp_ret ?_))))))
 obtain rfl := some_inj hm
 refine post_ret (vs := [.bool false]) results9 (rvs_cons (rv_tmp z) rvs_nil) ?_
 exact ⟨_, z, hI0, hst.keep0⟩
}
}

theorem law12_short_ref {w0 w : World} {I : HL} {R : SP} {a0 : api_Hold} {r0_0 : Value} {r0_1 : Value} {r0_2 : Value} {r0_3 : Value} (f0_0 : Rd tyF64 R I r0_0 a0.Gets) (f0_1 : Rd tyF2 R I r0_1 a0.Scans) (f0_2 : Rd tyF64 R I r0_2 a0.Puts) (f0_3 : Rd (tyInt .u8) R I r0_3 a0.Data) (hst : St w0 w I [] R) {r : (Bool)} (hm : law12_short a0 = some r) :
  Calls prog 11 #[.agg #[U6 a0.ID.Session, U6 a0.ID.Seq, U6 a0.Epoch, r0_0, r0_1, r0_2, r0_3]] w fun e w' => e = .returned (.bool r) ∧ St w0 w' I [] R := by {
 unfold law12_short at hm
 refine calls_start (args := [.agg #[U6 a0.ID.Session, U6 a0.ID.Seq, U6 a0.Epoch, r0_0, r0_1, r0_2, r0_3]]) func11 z ntmps11 (Nat.le_of_ble_eq_true z) ?_
 refine wp_seq (wrl ?_)
 obtain ⟨b47, w48, ew49, eb50, hst⟩ := hst.box [U6 a0.ID.Session, U6 a0.ID.Seq, U6 a0.Epoch, r0_0, r0_1, r0_2, r0_3] 34
 refine wl_run (v := Pt b47 0) (w' := w48) z z (x_al (by kernel_rfl) ew49 eb50) ?_
 refine wv (.bool false) z z z (wl_nil (tn (wp_seq (wrl (wv (Pt b47 3) z z (x_field z underlying34 z sizeOf30 z) (wv (r0_0) z z (x_load z isAgg30 (hst.bc0 z)) (wv (.int .i64 ((a0.Gets).length : Int)) z z (x_len z underlying30 (rd_sliceV f0_0)) (wv (.bool (decide (((a0.Gets).length : Int) ≤ (32:Int)))) z z z (wv (.bool (decide (((a0.Gets).length : Int) ≤ (32:Int)))) z z z ?_)))))))))
 refine bsplit (decide (((a0.Gets).length : Int) ≤ (32:Int))) (fun hc52 => ?_) (fun hc52 => ?_)
 {
 replace hm := bif_t hc52 hm
 refine wv (Pt b47 4) ((wanted_eq z z z (cvb hc52)).trans z) z (x_field z underlying34 z sizeOf31 z) (wv (r0_1) ((wanted_eq z z z (cvb hc52)).trans z) z (x_load z isAgg31 (hst.bc0 z)) (wv (.int .i64 ((a0.Scans).length : Int)) ((wanted_eq z z z (cvb hc52)).trans z) z (x_len z underlying31 (rd_sliceV f0_1)) (wv (.bool (decide (((a0.Scans).length : Int) ≤ (32:Int)))) ((wanted_eq z z z (cvb hc52)).trans z) z z (wv (.bool (decide (((a0.Scans).length : Int) ≤ (32:Int)))) z z (x_pick_t hc52 z z) (wv (.bool (decide (((a0.Scans).length : Int) ≤ (32:Int)))) z z z ?_)))))
 refine bsplit (decide (((a0.Scans).length : Int) ≤ (32:Int))) (fun hc53 => ?_) (fun hc53 => ?_)
 {
 replace hm := bif_t hc53 hm
 refine wv (Pt b47 5) ((wanted_eq z z z (cvb hc53)).trans z) z (x_field z underlying34 z sizeOf30 z) (wv (r0_2) ((wanted_eq z z z (cvb hc53)).trans z) z (x_load z isAgg30 (hst.bc0 z)) (wv (.int .i64 ((a0.Puts).length : Int)) ((wanted_eq z z z (cvb hc53)).trans z) z (x_len z underlying30 (rd_sliceV f0_2)) (wv (.bool (decide (((a0.Puts).length : Int) ≤ (32:Int)))) ((wanted_eq z z z (cvb hc53)).trans z) z z (wv (.bool (decide (((a0.Puts).length : Int) ≤ (32:Int)))) z z (x_pick_t hc53 z z) (wv (.bool (decide (((a0.Puts).length : Int) ≤ (32:Int)))) z z z ?_)))))
 refine bsplit (decide (((a0.Puts).length : Int) ≤ (32:Int))) (fun hc54 => ?_) (fun hc54 => ?_)
 {
 replace hm := bif_t hc54 hm
 refine wv (Pt b47 6) ((wanted_eq z z z (cvb hc54)).trans z) z (x_field z underlying34 z sizeOf32 z) (wv (r0_3) ((wanted_eq z z z (cvb hc54)).trans z) z (x_load z isAgg32 (hst.bc0 z)) (wv (.int .i64 ((a0.Data).length : Int)) ((wanted_eq z z z (cvb hc54)).trans z) z (x_len z underlying32 (rd_sliceV f0_3)) (wv (.bool (decide (((a0.Data).length : Int) ≤ (257:Int)))) ((wanted_eq z z z (cvb hc54)).trans z) z z (wv (.bool (decide (((a0.Data).length : Int) ≤ (257:Int)))) z z (x_pick_t hc54 z z) (wv (.bool (decide (((a0.Data).length : Int) ≤ (257:Int)))) z z z (wl_nil (tn (wp_ret ?_))))))))
 obtain rfl := some_inj hm
 refine post_ret (vs := [.bool (decide (((a0.Data).length : Int) ≤ (257:Int)))]) results11 (rvs_cons (rv_tmp z) rvs_nil) ?_
 exact ⟨z, hst.keep0⟩
}
 {
 replace hm := bif_f hc54 hm
 refine wo hc54 z z z z z z (wo hc54 z z z z z z (wo hc54 z z z z z z (wo hc54 z z z z z z (wv (.bool false) z z (x_pick_f hc54 z z) (wv (.bool false) z z z (wl_nil (tn (wp_ret ?_))))))))
 obtain rfl := some_inj hm
 refine post_ret (vs := [.bool false]) results11 (rvs_cons (rv_tmp z) rvs_nil) ?_
 exact ⟨z, hst.keep0⟩
}
}
 {
 replace hm := bif_f hc53 hm
 refine wo hc53 z z z z z z (wo hc53 z z z z z z (wo hc53 z z z z z z (wo hc53 z z z z z z (wv (.bool false) z z (x_pick_f hc53 z z) (wv (.bool false) z z z (wz z z z z z z (wz z z z z z z (wz z z z z z z (wz z z z z z z (wv (.bool false) z z (x_pick_f z z z) (wv (.bool false) z z z (wl_nil (tn (wp_ret ?_))))))))))))))
 obtain rfl := some_inj hm
 refine post_ret (vs := [.bool false]) results11 (rvs_cons (rv_tmp z) rvs_nil) ?_
 exact ⟨z, hst.keep0⟩
}
}
 {
 replace hm := bif_f hc52 hm
 refine wo hc52 z z z z z z (wo hc52 z z z z z z (wo hc52 z z z z z z (wo hc52 z z z z z z (wv (.bool false) z z (x_pick_f hc52 z z) (wv (.bool false) z z z (wz z z z z z z (wz z z z z z z (wz z z z z z z (wz z z z z z z (wv (.bool false) z z (x_pick_f z z z) (wv (.bool false) z z z (wz z z z z z z ?_))))))))))))
 refine wz z z z z z z (wz z z z z z z (wz z z z z z z (wv (.bool false) z z (x_pick_f z z z) (wv (.bool false) z z z (wl_nil (tn (wp_ret ?_)))))))
 obtain rfl := some_inj hm
 refine post_ret (vs := [.bool false]) results11 (rvs_cons (rv_tmp z) rvs_nil) ?_
 exact ⟨z, hst.keep0⟩
}
}

theorem ref12_Tape_Next_ref {w0 w : World} {I : HL} {R : SP} {a0 : ref12_Tape} {p0 : Value} {a1 : Int}  (hst : St w0 w I [at_ref12_Tape p0 a0] R) {r : (Int × ref12_Tape)} (hm : ref12_Tape_Next a0 a1 = some r) :
  Calls prog 20 #[p0, I6 a1] w fun e w' => e = .returned (.int .i64 r.1) ∧ St w0 w' I [at_ref12_Tape p0 r.2] R := by {
 unfold ref12_Tape_Next at hm
 refine calls_start (args := [p0, I6 a1]) func20 z ntmps20 (Nat.le_of_ble_eq_true z) ?_
 refine wp_seq (wrl (wv (.int .i64 (0:Int)) z z z (wl_nil (tn (wp_seq (wp_seq ?_))))))
 obtain ⟨b96, v97, ⟨rfl, f99⟩, hst'⟩ := at_ref12_Tape_open hst
 clear hst
 have hst := hst'
 clear hst'
 refine wq_regionS hst Try.mixed (by kernel_rfl) ?_
 refine wq_run (v := Pt b96 0) z z (fun w hst => z) ?_
 refine wq_run (v := Pt b96 0) z z (fun w hst => z) ?_
 refine wq_run (v := Pt b96 1) z z (fun w hst => x_field z underlying45 z sizeOf3 z) ?_
 refine wq_run (v := .int .i64 a0.I) z z (fun w hst => x_load z isAgg3 (hst.bc0 z)) ?_
 refine wq_run (v := Pt b96 0) z z (fun w hst => z) ?_
 refine wq_run (v := Pt b96 0) z z (fun w hst => z) ?_
 refine wq_run (v := Pt b96 0) z z (fun w hst => x_field z underlying45 z sizeOf32 z) ?_
 refine wq_run (v := v97) z z (fun w hst => x_load z isAgg32 (hst.bc0 z)) ?_
 refine wq_run (v := .int .i64 ((a0.L).length : Int)) z z (fun w hst => x_len z underlying32 (ro_sliceV f99)) ?_
 refine wq_run (v := .bool (decide (a0.I ≥ ((a0.L).length : Int)))) z z (fun w hst => z) ?_
 refine wq_nil ?_
 intro w hst
 refine tn ?_
 refine bsplit (decide (a0.I ≥ ((a0.L).length : Int))) (fun hc100 => ?_) (fun hc100 => ?_)
 {
 replace hm := bif_t hc100 hm
 refine wp_ift (cvb hc100) ?_
 refine wp_seq (wrl (wv (.int .i64 (0:Int)) z z z (wl_nil (tn (wp_ret (then_r ?_))))))
 replace hst := at_ref12_Tape_close (pv := Pt b96 0) (x := a0) hst ⟨z, f99⟩
 obtain rfl := some_inj hm
 refine post_ret (vs := [Zi]) results20 (rvs_cons (rv_tmp z) rvs_nil) ?_
 exact ⟨z, hst.keep1⟩
}
 {
 replace hm := bif_f hc100 hm
 refine wp_iff (cvb hc100) ?_
 refine wp_skip (tn (wp_seq (wrl ?_)))
 refine wv (Pt b96 0) z z z (wv (Pt b96 0) z z z (wv (Pt b96 1) z z (x_field z underlying45 z sizeOf3 z) (wv (.int .i64 a0.I) z z (x_load z isAgg3 (hst.bc0 z)) (wv (.int .i64 (i64.wrap (a0.I + (1:Int)))) z z z (wv (Pt b96 0) z z z (wv (Pt b96 1) z z (x_field z underlying45 z sizeOf3 z) ?_))))))
 obtain ⟨w101, hr102, hst⟩ := hst.by_ [v97, I6 (i64.wrap (a0.I + (1:Int)))] 1 (.int .i64 (i64.wrap (a0.I + (1:Int)))) sizeOf3 z (oC z oN) (by kernel_rfl)
 refine wl_unit z z (x_unit hr102) ?_
 refine wl_nil (tn (wp_seq ?_))
 refine wq_regionS hst Try.mixed (by kernel_rfl) ?_
 refine wq_run (v := Pt b96 0) z z (fun w hst => z) ?_
 refine wq_run (v := Pt b96 0) z z (fun w hst => z) ?_
 refine wq_run (v := Pt b96 0) z z (fun w hst => x_field z underlying45 z sizeOf32 z) ?_
 refine wq_run (v := v97) z z (fun w hst => x_load z isAgg32 (hst.bc0 z)) ?_
 refine wq_run (v := Pt b96 0) z z (fun w hst => z) ?_
 refine wq_run (v := Pt b96 0) z z (fun w hst => z) ?_
 refine wq_run (v := Pt b96 1) z z (fun w hst => x_field z underlying45 z sizeOf3 z) ?_
 refine wq_run (v := .int .i64 (i64.wrap (a0.I + (1:Int)))) z z (fun w hst => x_load z isAgg3 (hst.bc0 z)) ?_
 refine wq_run (v := .int .i64 (i64.wrap ((i64.wrap (a0.I + (1:Int))) - (1:Int)))) z z (fun w hst => z) ?_
 obtain ⟨x103, hx104, hm⟩ := bind_some hm
 obtain ⟨h105, h106, hi107⟩ := geto_some hx104
 refine wq_run (v := .pointer (some (eAddr v97 ((i64.wrap ((i64.wrap (a0.I + (1:Int))) - (1:Int))).toNat * 1 + 0)))) z z (fun w hst => x_index z z underlying32 sizeOf5 (ro_sliceV f99) h105 h106) ?_
 refine wq_run (v := .int .u8 x103) z z (fun w hst => x_load z isAgg5 (ro_load f99 hst hi107 (by rintro _ rfl; rfl))) ?_
 refine wq_run (v := .int .i64 (i64.wrap x103)) z z (fun w hst => by kernel_rfl) ?_
 refine wq_run (v := .int .i64 a1) z z (fun w hst => z) ?_
 obtain ⟨hg108, hm⟩ := gd_some hm
 refine wq_run (v := .int .i64 (Int.tmod (i64.wrap x103) a1)) z z (fun w hst => x_rem (not_t hg108) z z) ?_
 refine wq_run (v := .int .i64 (Int.tmod (i64.wrap x103) a1)) z z (fun w hst => z) ?_
 refine wq_nil ?_
 intro w hst
 refine tn (wp_ret ?_)
 replace hst := at_ref12_Tape_close (pv := Pt b96 0) (x := ({ L := a0.L, I := (i64.wrap (a0.I + (1:Int))) } : ref12_Tape)) hst ⟨z, f99⟩
 obtain rfl := some_inj hm
 refine post_ret (vs := [I6 (Int.tmod (i64.wrap x103) a1)]) results20 (rvs_cons (rv_tmp z) rvs_nil) ?_
 exact ⟨z, hst.keep1⟩
}
}

theorem ref12_Tape_Of_ref {w0 w : World} {I : HL} {R : SP} {a0 : ref12_Tape} {p0 : Value}  (hst : St w0 w I [at_ref12_Tape p0 a0] R) {r : (api_ID × ref12_Tape)} (hm : ref12_Tape_Of a0 = some r) :
  Calls prog 21 #[p0] w fun e w' => e = .returned (.agg #[U6 r.1.Session, U6 r.1.Seq]) ∧ St w0 w' I [at_ref12_Tape p0 r.2] R := by {
 unfold ref12_Tape_Of at hm
 refine calls_start (args := [p0]) func21 z ntmps21 (Nat.le_of_ble_eq_true z) ?_
 refine wp_seq (wrl ?_)
 obtain ⟨b94, w95, ew96, eb97, hst⟩ := hst.box [Zu, Zu] 29
 refine wl_run (v := Pt b94 0) (w' := w95) z z (x_al (by kernel_rfl) ew96 eb97) ?_
 refine wl_nil (tn (wp_seq (wrl (wv (p0) z z z ?_))))
 replace hst := hst.pull1
 obtain ⟨t99, ht100, hm⟩ := bind_some hm
 refine wc call20 [p0, I6 (4:Int)] z z z ?_
 refine (ref12_Tape_Next_ref hst.to1 ht100).mono ?_
 rintro _ w101 ⟨rfl, hst⟩
 refine ⟨_, z, ?_⟩
 replace hst := hst.of1
 refine wv (.int .u64 (u64.wrap t99.1)) z z (by kernel_rfl) (wv (p0) z z z ?_)
 obtain ⟨t104, ht105, hm⟩ := bind_some hm
 refine wc call20 [p0, I6 (4:Int)] z z z ?_
 refine (ref12_Tape_Next_ref hst.to1 ht105).mono ?_
 rintro _ w106 ⟨rfl, hst⟩
 refine ⟨_, z, ?_⟩
 replace hst := hst.of1
 refine wv (.int .i64 (i64.wrap ((1:Int) + t104.1))) z z z (wv (.int .u64 (u64.wrap (i64.wrap ((1:Int) + t104.1)))) z z (by kernel_rfl) (wv (.agg #[U6 (u64.wrap t99.1), U6 (u64.wrap (i64.wrap ((1:Int) + t104.1)))]) z z (by kernel_rfl) ?_))
 replace hst := hst.pull1
 obtain ⟨w109, hr110, hst⟩ := hst.bx [U6 (u64.wrap t99.1), U6 (u64.wrap (i64.wrap ((1:Int) + t104.1)))] sizeOf29 z (oC z (oC z oN)) (by kernel_rfl)
 refine wl_unit z z (x_unit hr110) ?_
 refine wl_nil (tn (wp_ret ?_))
 obtain rfl := some_inj hm
 refine post_ret (vs := [.agg #[U6 (u64.wrap t99.1), U6 (u64.wrap (i64.wrap ((1:Int) + t104.1)))]]) results21 (rvs_cons (rv_cell (cs := [U6 (u64.wrap t99.1), U6 (u64.wrap (i64.wrap ((1:Int) + t104.1)))]) z isAgg29 sizeOf29 (hst.bcs0 0 z)) rvs_nil) ?_
 replace hst := hst.pull1
 exact ⟨z, hst.keep1⟩
}

theorem ref12_small_ref {w0 w : World} {I : HL} {R : SP} {a0 : Int}  (hst : St w0 w I [] R) {r : (Nat)} (hm : ref12_small a0 = some r) :
  Calls prog 75 #[U1 a0] w fun e w' => e = .returned (.float .f64 r) ∧ St w0 w' I [] R := by {
 unfold ref12_small at hm
 refine calls_start (args := [U1 a0]) func75 z ntmps75 (Nat.le_of_ble_eq_true z) ?_
 refine wp_seq (wrl (wv (.float .f64 (0:Nat)) z z z (wl_nil (tn (wp_seq (wrl ?_))))))
 obtain ⟨b122, w123, ew124, eb125, hst⟩ := hst.lits (E := tyF64) (xs := [(0:Nat), (4607182418800017408:Nat), (13830554455654793216:Nat), (4612811918334230528:Nat), (9094988921128908188:Nat), (18318360957983683996:Nat), (4602678819172646912:Nat), (4613937818241073152:Nat)]) [[Zf], [F6 (4607182418800017408:Nat)], [F6 (13830554455654793216:Nat)], [F6 (4612811918334230528:Nat)], [F6 (9094988921128908188:Nat)], [F6 (18318360957983683996:Nat)], [F6 (4602678819172646912:Nat)], [F6 (4613937818241073152:Nat)]] 57 8 z (Reps.cons z (Reps.cons z (Reps.cons z (Reps.cons z (Reps.cons z (Reps.cons z (Reps.cons z (Reps.cons z Reps.nil))))))))
 refine wl_run (v := (.slice (some ⟨b122, 0, none⟩) 8 8)) (w' := w123) z z (x_als (by kernel_rfl) ew124 eb125) ?_
 refine wv ((.slice (some ⟨b122, 0, none⟩) 8 8)) z z z (wl_nil (tn (wp_seq (wrl (wv ((.slice (some ⟨b122, 0, none⟩) 8 8)) z z z (wv (.int .u8 a0) z z z (wv (.int .u8 (Int.tmod a0 (8:Int))) z z (x_rem (by decide) z z) ?_)))))))
 obtain ⟨x127, hx128, hm⟩ := bind_some hm
 obtain ⟨h129, h130, hi131⟩ := geto_some hx128
 refine wv (.pointer (some (eAddr (.slice (some ⟨b122, 0, none⟩) 8 8) ((Int.tmod a0 (8:Int)).toNat * 1 + 0)))) z z (x_index z z underlying30 sizeOf57 hst.sv0 h129 h130) (wv (.float .f64 x127) z z (x_load z isAgg57 (hst.ol0 hi131 (by rintro _ rfl; rfl))) (wv (.float .f64 x127) z z z (wl_nil (tn (wp_ret ?_)))))
 obtain rfl := some_inj hm
 refine post_ret (vs := [F6 x127]) results75 (rvs_cons (rv_tmp z) rvs_nil) ?_
 exact ⟨z, hst.keep0⟩
}

theorem ref12_Tape_Float_ref {w0 w : World} {I : HL} {R : SP} {a0 : ref12_Tape} {p0 : Value}  (hst : St w0 w I [at_ref12_Tape p0 a0] R) {r : (Nat × ref12_Tape)} (hm : ref12_Tape_Float a0 = some r) :
  Calls prog 44 #[p0] w fun e w' => e = .returned (.float .f64 r.1) ∧ St w0 w' I [at_ref12_Tape p0 r.2] R := by {
 unfold ref12_Tape_Float at hm
 refine calls_start (args := [p0]) func44 z ntmps44 (Nat.le_of_ble_eq_true z) ?_
 refine wp_seq (wrl (wv (.float .f64 (0:Nat)) z z z (wl_nil (tn (wp_seq (wrl (wv (p0) z z z ?_)))))))
 obtain ⟨t118, ht119, hm⟩ := bind_some hm
 refine wc call20 [p0, I6 (8:Int)] z z z ?_
 refine (ref12_Tape_Next_ref hst.to1 ht119).mono ?_
 rintro _ w120 ⟨rfl, hst⟩
 refine ⟨_, z, ?_⟩
 replace hst := hst.of1
 refine wv (.int .u8 (u8.wrap t118.1)) z z (by kernel_rfl) ?_
 obtain ⟨t123, ht124, hm⟩ := bind_some hm
 refine wc call75 [U1 (u8.wrap t118.1)] z z z ?_
 refine (ref12_small_ref hst.to0 ht124).mono ?_
 rintro _ w125 ⟨rfl, hst⟩
 refine ⟨_, z, ?_⟩
 replace hst := hst.of0
 refine wv (.float .f64 t123) z z z (wl_nil (tn (wp_ret ?_)))
 obtain rfl := some_inj hm
 refine post_ret (vs := [F6 t123]) results44 (rvs_cons (rv_tmp z) rvs_nil) ?_
 exact ⟨z, hst.keep1⟩
}

theorem ref12_Tape_Val_ref {w0 w : World} {I : HL} {R : SP} {a0 : ref12_Tape} {p0 : Value}  (hst : St w0 w I [at_ref12_Tape p0 a0] R) {r : ((List Int) × ref12_Tape)} (hm : ref12_Tape_Val a0 = some r) :
  Calls prog 45 #[p0] w fun e w' => ∃ (q0_0 : Value), e = .returned (q0_0) ∧ St w0 w' I [ownS (tyInt .u8) q0_0 r.1, at_ref12_Tape p0 r.2] R := by {
 unfold ref12_Tape_Val at hm
 refine calls_start (args := [p0]) func45 z ntmps45 (Nat.le_of_ble_eq_true z) ?_
 refine wp_seq (wrl (wv ((.slice none 0 0)) z z z (wl_nil (tn (wp_seq (wrl (wv ((.slice none 0 0)) z z z (wl_nil (tn (wp_seq (wrl (wv (p0) z z z ?_))))))))))))
 obtain ⟨t531, ht532, hm⟩ := bind_some hm
 refine wc call20 [p0, I6 (4:Int)] z z z ?_
 refine (ref12_Tape_Next_ref hst.to1 ht532).mono ?_
 rintro _ w533 ⟨rfl, hst⟩
 refine ⟨_, z, ?_⟩
 replace hst := hst.of1
 refine wv (.int .i64 t531.1) z z z (wl_nil (tn (wp_seq (wp_seq (wrl (wv (.int .i64 (0:Int)) z z z (wl_nil (tn (wp_block ?_)))))))))
 replace hst := hst.own_nil (tyInt .u8)
 obtain ⟨n595, hm⟩ := loopO_some hm
 refine wp_loop_n (fun n a w => ∃ (z589 : ref12_Tape) (z590 : (List Int)) (z593 : Int) (v591 : Value) (σ594 : Nat → Value), loopN (ref12_Tape_Val_l0 t531) n (z589, z590, z593) = some r ∧ a = Fr 21 (upd (upd (upd (upd σ594 0 (p0)) 3 (v591)) 4 (.int .i64 t531.1)) 5 (.int .i64 z593)) ∧ St w0 w I [ownS (tyInt .u8) v591 z590, at_ref12_Tape p0 z589] R) n595 ⟨t531.2, [], (0:Int), Zs, _, hm, (fu 0 p0 z (fu 3 (.slice none 0 0) z (fu 4 (.int .i64 t531.1) z (fu 5 (.int .i64 (0:Int)) z z)))), hst⟩ ?_
 rintro n601 _ w596 ⟨z589, z590, z593, v591, σ594, hm, rfl, hst⟩
 obtain ⟨n598, y599, rfl, hm, hx600⟩ := loopN_some hm
 dsimp only [ref12_Tape_Val_l0] at hm
 refine wp_seq (wp_seq (wrl (wv (.int .i64 z593) z z z (wv (.int .i64 t531.1) z z z (wv (.bool (decide (z593 < t531.1))) z z z (wl_nil (tn ?_)))))))
 refine bsplit (decide (z593 < t531.1)) (fun hc602 => ?_) (fun hc602 => ?_)
 {
 replace hm := bif_t hc602 hm
 refine wp_ift (cvb hc602) ?_
 refine wp_skip (tn (wp_seq (wp_block (wrl ?_))))
 refine wv (v591) z z z (wv (p0) z z z ?_)
 replace hst := hst.pull1
 obtain ⟨t603, ht604, hm⟩ := bind_some hm
 refine wc call20 [p0, I6 (26:Int)] z z z ?_
 refine (ref12_Tape_Next_ref hst.to1 ht604).mono ?_
 rintro _ w605 ⟨rfl, hst⟩
 refine ⟨_, z, ?_⟩
 replace hst := hst.of1
 refine wv (.int .i64 (i64.wrap ((97:Int) + t603.1))) z z z (wv (.int .u8 (u8.wrap (i64.wrap ((97:Int) + t603.1)))) z z (by kernel_rfl) ?_)
 obtain ⟨b608, w609, ew610, eb611, hst⟩ := hst.lits (E := (tyInt .u8)) (xs := [(u8.wrap (i64.wrap ((97:Int) + t603.1)))]) [[U1 (u8.wrap (i64.wrap ((97:Int) + t603.1)))]] 5 1 z (Reps.cons z Reps.nil)
 refine wl_run (v := (.slice (some ⟨b608, 0, none⟩) 1 1)) (w' := w609) z z (x_als (by kernel_rfl) ew610 eb611) ?_
 obtain ⟨hg613, hm⟩ := gd_some hm
 replace hst := hst.pull2
 obtain ⟨v614, w615, hr616, hst⟩ := run_append elem_32 underlying32 hst hst.src1 (room_of hg613 z) 32
 refine wl_run (v := v614) (w' := w615) z z (x_append z z hr616) ?_
 refine wv (v614) z z z (wl_nil (blk_n (tn (wrl (wv (.int .i64 z593) z z z (wv (.int .i64 (i64.wrap (z593 + (1:Int)))) z z z (wv (.int .i64 (i64.wrap (z593 + (1:Int)))) z z z (wl_nil (tn ?_)))))))))
 replace hst := hst.pull2.pull1.keep2
 obtain rfl := some_inj hm
 exact ⟨_, Nat.lt_succ_self _, t603.2, (z590 ++ ([(u8.wrap (i64.wrap ((97:Int) + t603.1)))])), (i64.wrap (z593 + (1:Int))), v614, _, hx600, (fu 0 p0 z (fu 3 v614 z (fu 4 (.int .i64 t531.1) z (fu 5 (.int .i64 (i64.wrap (z593 + (1:Int)))) z z)))), hst⟩
}
 {
 replace hm := bif_f hc602 hm
 refine wp_iff (cvb hc602) ?_
 refine wp_exit (then_x (then_x ?_))
 replace hm := inr_up hm hx600
 refine blk_x (tn (wp_seq (wrl ?_)))
 refine wv (v591) z z z (wv (v591) z z z (wl_nil (tn (wp_ret ?_))))
 obtain rfl := some_inj hm
 refine post_ret (vs := [v591]) results45 (rvs_cons (rv_tmp z) rvs_nil) ?_
 replace hst := hst.pull1.pull1
 exact ⟨v591, z, hst.keep2⟩
}
}

end Go.Proofs.Ytbdhhmnncknhhaa
