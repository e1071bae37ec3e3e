/- The Go functions refine their models, part 0. -/
import Derived.Test.YtkfifhkjdibadaaSessionRawT
set_option linter.unusedVariables false
set_option linter.unusedSimpArgs false
set_option maxRecDepth 100000
set_option maxHeartbeats 4000000
namespace Go.Proofs.Ytkfifhkjdibadaa
open Go Go.V
open _root_.Go.Proofs.Try IntKind
attribute [local irreducible] wpList Code.wp wpQuiet Calls bodyPost Oper.wp wpS Nx PendOK YieldsIn
theorem session_New_ref {w0 w : World} {I : HL} {R : SP}   (hst : St w0 w I [] R) {r : (session_Table)} (hm : session_New = some r) :
  Calls prog 8 #[] w fun e w' => ∃ (q0 : Value), e = .returned (q0) ∧ St w0 w' I [at_session_Table q0 r] R := by {
 unfold session_New at hm
 refine calls_start (args := []) func8 z ntmps8 (Nat.le_of_ble_eq_true z) ?_
 refine wp_seq (wrl (wv (.pointer none) z z z (wl_nil (tn (wp_seq (wrl (wv (.agg #[Zs]) z z (by kernel_rfl) ?_)))))))
 obtain ⟨b23, w24, ew25, eb26, hst⟩ := hst.box [Zs] 56
 refine wl_run (v := Pt b23 0) (w' := w24) z z (x_al (by kernel_rfl) ew25 eb26) ?_
 refine wv (Pt b23 0) z z z (wl_nil (tn (wp_ret ?_)))
 replace hst := hst.own_nil ty_session_row
 replace hst := hst.pull1
 replace hst := at_session_Table_close (pv := Pt b23 0) (x := ({ l := [] } : session_Table)) hst z
 obtain rfl := some_inj hm
 refine post_ret (vs := [Pt b23 0]) results8 (rvs_cons (rv_tmp z) rvs_nil) ?_
 exact ⟨.pointer (some ⟨b23, 0, none⟩), z, hst.keep1⟩
}

theorem cmp_isNaN_uint64_ref {w0 w : World} {I : HL} {R : SP} {a0 : Int}  (hst : St w0 w I [] R) {r : (Bool)} (hm : cmp_isNaN_uint64 a0 = some r) :
  Calls prog 53 #[U6 a0] w fun e w' => e = .returned (.bool r) ∧ St w0 w' I [] R := by {
 unfold cmp_isNaN_uint64 at hm
 refine calls_start (args := [U6 a0]) func53 z ntmps53 (Nat.le_of_ble_eq_true z) ?_
 refine wp_seq (wrl (wv (.bool false) z z z (wl_nil (tn (wp_seq (wrl (wv (.int .u64 a0) z z z (wv (.int .u64 a0) z z z (wv (.bool (a0 != a0)) z z z (wv (.bool (a0 != a0)) z z z (wl_nil (tn (wp_ret ?_)))))))))))))
 obtain rfl := some_inj hm
 refine post_ret (vs := [.bool (a0 != a0)]) results53 (rvs_cons (rv_tmp z) rvs_nil) ?_
 exact ⟨z, hst.keep0⟩
}

theorem cmp_Compare_uint64_ref {w0 w : World} {I : HL} {R : SP} {a0 : Int} {a1 : Int}  (hst : St w0 w I [] R) {r : (Int)} (hm : cmp_Compare_uint64 a0 a1 = some r) :
  Calls prog 40 #[U6 a0, U6 a1] w fun e w' => e = .returned (.int .i64 r) ∧ St w0 w' I [] R := by {
 unfold cmp_Compare_uint64 at hm
 refine calls_start (args := [U6 a0, U6 a1]) func40 z ntmps40 (Nat.le_of_ble_eq_true z) ?_
 refine wp_seq (wrl (wv (.int .i64 (0:Int)) z z z (wl_nil (tn (wp_seq (wrl (wv (.int .u64 a0) z z z ?_)))))))
 obtain ⟨t82, ht83, hm⟩ := bind_some hm
 refine wc call53 [U6 a0] z z z ?_
 refine (cmp_isNaN_uint64_ref hst.to0 ht83).mono ?_
 rintro _ w84 ⟨rfl, hst⟩
 refine ⟨_, z, ?_⟩
 replace hst := hst.of0
 refine wv (.bool t82) z z z (wl_nil (tn (wp_seq (wrl (wv (.int .u64 a1) z z z ?_)))))
 obtain ⟨t87, ht88, hm⟩ := bind_some hm
 refine wc call53 [U6 a1] z z z ?_
 refine (cmp_isNaN_uint64_ref hst.to0 ht88).mono ?_
 rintro _ w89 ⟨rfl, hst⟩
 refine ⟨_, z, ?_⟩
 replace hst := hst.of0
 refine wv (.bool t87) z z z (wl_nil (tn (wp_seq (wp_seq (wrl (wv (.bool t82) z z z (wl_nil (tn ?_))))))))
 refine bsplit t82 (fun hc92 => ?_) (fun hc92 => ?_)
 {
 replace hm := bif_t hc92 hm
 refine wp_ift (cvb hc92) ?_
 refine wp_seq (wp_seq (wrl (wv (.bool t87) z z z (wl_nil (tn ?_)))))
 refine bsplit t87 (fun hc93 => ?_) (fun hc93 => ?_)
 {
 replace hm := bif_t hc93 hm
 refine wp_ift (cvb hc93) ?_
 refine wp_seq (wrl (wv (.int .i64 (0:Int)) z z z (wl_nil (tn (wp_ret (then_r (then_r ?_)))))))
 obtain rfl := some_inj hm
 refine post_ret (vs := [Zi]) results40 (rvs_cons (rv_tmp z) rvs_nil) ?_
 exact ⟨z, hst.keep0⟩
}
 {
 replace hm := bif_f hc93 hm
 refine wp_iff (cvb hc93) ?_
 refine wp_skip (tn (wp_seq (wrl ?_)))
 refine wv (.int .i64 ((-1):Int)) z z z (wl_nil (tn (wp_ret (then_r ?_))))
 obtain rfl := some_inj hm
 refine post_ret (vs := [I6 ((-1):Int)]) results40 (rvs_cons (rv_tmp z) rvs_nil) ?_
 exact ⟨z, hst.keep0⟩
}
}
 {
 replace hm := bif_f hc92 hm
 refine wp_iff (cvb hc92) ?_
 refine wp_skip (tn (wp_seq (wp_seq (wrl ?_))))
 refine wv (.bool t87) z z z (wl_nil (tn ?_))
 refine bsplit t87 (fun hc94 => ?_) (fun hc94 => ?_)
 {
 replace hm := bif_t hc94 hm
 refine wp_ift (cvb hc94) ?_
 refine wp_seq (wrl (wv (.int .i64 (1:Int)) z z z (wl_nil (tn (wp_ret (then_r ?_))))))
 obtain rfl := some_inj hm
 refine post_ret (vs := [I6 (1:Int)]) results40 (rvs_cons (rv_tmp z) rvs_nil) ?_
 exact ⟨z, hst.keep0⟩
}
 {
 replace hm := bif_f hc94 hm
 refine wp_iff (cvb hc94) ?_
 refine wp_skip (tn (wp_seq (wp_seq (wrl ?_))))
 refine wv (.int .u64 a0) z z z (wv (.int .u64 a1) z z z (wv (.bool (decide (a0 < a1))) z z z (wl_nil (tn ?_))))
 refine bsplit (decide (a0 < a1)) (fun hc95 => ?_) (fun hc95 => ?_)
 {
 replace hm := bif_t hc95 hm
 refine wp_ift (cvb hc95) ?_
 refine wp_seq (wrl (wv (.int .i64 ((-1):Int)) z z z (wl_nil (tn (wp_ret (then_r ?_))))))
 obtain rfl := some_inj hm
 refine post_ret (vs := [I6 ((-1):Int)]) results40 (rvs_cons (rv_tmp z) rvs_nil) ?_
 exact ⟨z, hst.keep0⟩
}
 {
 replace hm := bif_f hc95 hm
 refine wp_iff (cvb hc95) ?_
 refine wp_skip (tn (wp_seq (wp_seq (wrl ?_))))
 refine wv (.int .u64 a0) z z z (wv (.int .u64 a1) z z z (wv (.bool (decide (a0 > a1))) z z z (wl_nil (tn ?_))))
 refine bsplit (decide (a0 > a1)) (fun hc96 => ?_) (fun hc96 => ?_)
 {
 replace hm := bif_t hc96 hm
 refine wp_ift (cvb hc96) ?_
 refine wp_seq (wrl (wv (.int .i64 (1:Int)) z z z (wl_nil (tn (wp_ret (then_r ?_))))))
 obtain rfl := some_inj hm
 refine post_ret (vs := [I6 (1:Int)]) results40 (rvs_cons (rv_tmp z) rvs_nil) ?_
 exact ⟨z, hst.keep0⟩
}
 {
 replace hm := bif_f hc96 hm
 refine wp_iff (cvb hc96) ?_
 refine wp_skip (tn (wp_seq (wrl ?_)))
 refine wv (.int .i64 (0:Int)) z z z (wl_nil (tn (wp_ret ?_)))
 obtain rfl := some_inj hm
 refine post_ret (vs := [Zi]) results40 (rvs_cons (rv_tmp z) rvs_nil) ?_
 exact ⟨z, hst.keep0⟩
}
}
}
}
}

theorem session_Table_find_1_ref {w0 w : World} {I : HL} {R : SP} {a0 : session_row} {r0_0 : Value} {r0_1 : Value} {a1 : Int} (f0_0 : Rd ty_api_Got R I r0_0 a0.r.Gots) (f0_1 : Rd (tySl ty_api_Pair) R I r0_1 a0.r.Scans) (hst : St w0 w I [] R) {r : (Int)} (hm : session_Table_find_1 a0 a1 = some r) :
  Calls prog 39 #[.agg #[U6 a0.session, U6 a0.seq, I6 a0.r.E, U6 a0.r.Epoch, U6 a0.r.Index, r0_0, r0_1], U6 a1] w fun e w' => e = .returned (.int .i64 r) ∧ St w0 w' I [] R := by {
 unfold session_Table_find_1 at hm
 refine calls_start (args := [.agg #[U6 a0.session, U6 a0.seq, I6 a0.r.E, U6 a0.r.Epoch, U6 a0.r.Index, r0_0, r0_1], U6 a1]) func39 z ntmps39 (Nat.le_of_ble_eq_true z) ?_
 refine wp_seq (wrl ?_)
 obtain ⟨b74, w75, ew76, eb77, hst⟩ := hst.box [U6 a0.session, U6 a0.seq, I6 a0.r.E, U6 a0.r.Epoch, U6 a0.r.Index, r0_0, r0_1] 71
 refine wl_run (v := Pt b74 0) (w' := w75) z z (x_al (by kernel_rfl) ew76 eb77) ?_
 refine wv (.int .i64 (0:Int)) z z z (wl_nil (tn (wp_seq (wrl (wv (Pt b74 0) z z (x_field z underlying71 z sizeOf30 z) (wv (.int .u64 a0.session) z z (x_load z isAgg30 (hst.bc0 z)) (wv (.int .u64 a1) z z z ?_)))))))
 obtain ⟨t79, ht80, hm⟩ := bind_some hm
 refine wc call40 [U6 a0.session, U6 a1] z z z ?_
 refine (cmp_Compare_uint64_ref hst.to0 ht80).mono ?_
 rintro _ w81 ⟨rfl, hst⟩
 refine ⟨_, z, ?_⟩
 replace hst := hst.of0
 refine wv (.int .i64 t79) z z z (wl_nil (tn (wp_ret ?_)))
 obtain rfl := some_inj hm
 refine post_ret (vs := [I6 t79]) results39 (rvs_cons (rv_tmp z) rvs_nil) ?_
 exact ⟨z, hst.keep0⟩
}

theorem session_Table_find_ref {w0 w : World} {I : HL} {R : SP} {a0 : (Option session_Table)} {p0 : Value} {a1 : Int}  (hst : St w0 w I [objO at_session_Table p0 a0] R) {r : (Int × Bool)} (hm : session_Table_find a0 a1 = some r) :
  Calls prog 23 #[p0, U6 a1] w fun e w' => e = .returned (.tuple #[I6 r.1, .bool r.2]) ∧ St w0 w' I [objO at_session_Table p0 a0] R := by {
 rcases a0 with _ | o0
 {
 obtain ⟨rfl, hst'⟩ := objO_none hst
 clear hst
 have hst := hst'
 clear hst'
 dsimp only [session_Table_find] at hm
 refine calls_start (args := [.pointer none, U6 a1]) func23 z ntmps23 (Nat.le_of_ble_eq_true z) ?_
 refine wp_seq (wrl (wv (.int .i64 (0:Int)) z z z (wv (.bool false) z z z (wl_nil (tn (wp_seq (wp_seq (wrl (wv (.pointer none) z z z (wv (.bool true) z z (by kernel_rfl) (wl_nil (tn ?_))))))))))))
 refine wp_ift z ?_
 refine wp_seq (wrl (wv (.int .i64 (0:Int)) z z z (wv (.bool false) z z z (wl_nil (tn (wp_ret (then_r ?_)))))))
 replace hst := hst.objO_nil at_session_Table
 obtain rfl := some_inj hm
 refine post_ret (vs := [Zi, .bool false]) results23 (rvs_cons (rv_tmp z) (rvs_cons (rv_tmp z) rvs_nil)) ?_
 exact ⟨z, hst.keep1⟩
}
 {
 replace hst := objO_get hst
 dsimp only [session_Table_find] at hm
 refine calls_start (args := [p0, U6 a1]) func23 z ntmps23 (Nat.le_of_ble_eq_true z) ?_
 refine wp_seq (wrl (wv (.int .i64 (0:Int)) z z z (wv (.bool false) z z z (wl_nil (tn (wp_seq (wp_seq (wrl (wv (p0) z z z ?_)))))))))
 obtain ⟨b153, v154, rfl, hst'⟩ := at_session_Table_open hst
 clear hst
 have hst := hst'
 clear hst'
 refine wv (.bool false) z z (by kernel_rfl) (wl_nil (tn ?_))
 refine wp_iff z ?_
 refine wp_skip (tn (wp_seq (wrl ?_)))
 refine wv (Pt b153 0) z z z (wv (Pt b153 0) z z z (wv (Pt b153 0) z z (x_field z underlying56 z sizeOf54 z) (wv (v154) z z (x_load z isAgg54 (hst.bc0 z)) (wv (.int .u64 a1) z z z ?_))))
 obtain ⟨y260, hq261, hm⟩ := bind_some hm
 refine wl_call z z (x_callv call38 (caps := []) z (vs := [v154, U6 a1, .func (.func 39) #[] #[]]) z) ?_
 refine Calls.mono (show Calls prog 38 #[v154, U6 a1, .func (.func 39) #[] #[]] _ (fun e w' => ∃ (z257 : Int) (z258 : Bool), y260 = (z257, z258) ∧ e = .returned (.tuple #[I6 z257, .bool z258]) ∧ St w0 w' I [cells b153 [v154], ownS ty_session_row v154 o0.l] R) from ?_) ?_
 {
 clear hm; have hm := hq261
 refine calls_start (args := [v154, U6 a1, .func (.func 39) #[] #[]]) func38 z ntmps38 (Nat.le_of_ble_eq_true z) ?_
 refine wp_seq (wrl (wv (.int .i64 (0:Int)) z z z (wv (.bool false) z z z (wl_nil (tn (wp_seq (wrl (wv (v154) z z z (wv (.int .i64 ((o0.l).length : Int)) z z (x_len z underlying54 hst.sv1) (wv (.int .i64 ((o0.l).length : Int)) z z z (wl_nil (tn (wp_seq (wrl (wv (.int .i64 ((o0.l).length : Int)) z z z (wv (.int .i64 (0:Int)) z z z (wv (.int .i64 ((o0.l).length : Int)) z z z (wl_nil (tn ?_)))))))))))))))))))
 obtain ⟨y234, hm, hx235⟩ := bind_some hm
 refine wp_cut (fun a w => ∃ (z231 : Int) (σ232 : Nat → Value), (session_Table_find_j0 o0 a1) z231 = some y260 ∧ a = Fr 49 (upd (upd (upd (upd (upd σ232 0 (v154)) 1 (.int .u64 a1)) 2 (.func (.func 39) #[] #[])) 8 (.int .i64 ((o0.l).length : Int))) 9 (.int .i64 z231)) ∧ St w0 w I [ownS ty_session_row v154 o0.l, cells b153 [v154]] R) ?_ ?_
 {
 refine wp_block ?_
 obtain ⟨n203, hm⟩ := loopO_some hm
 refine wp_loop_n (fun n a w => ∃ (z200 : Int) (z201 : Int) (σ202 : Nat → Value), loopN (session_Table_find_l1 o0 a1) n (z200, z201) = some y234 ∧ a = Fr 49 (upd (upd (upd (upd (upd (upd σ202 0 (v154)) 1 (.int .u64 a1)) 2 (.func (.func 39) #[] #[])) 8 (.int .i64 ((o0.l).length : Int))) 9 (.int .i64 z201)) 10 (.int .i64 z200)) ∧ St w0 w I [cells b153 [v154], ownS ty_session_row v154 o0.l] R) n203 ⟨((o0.l).length : Int), (0:Int), _, hm, (fu 0 v154 z (fu 1 (.int .u64 a1) z (fu 2 (.func (.func 39) #[] #[]) z (fu 8 (.int .i64 ((o0.l).length : Int)) z (fu 9 (.int .i64 (0:Int)) z (fu 10 (.int .i64 ((o0.l).length : Int)) z z)))))), hst⟩ ?_
 rintro n209 _ w204 ⟨z200, z201, σ202, hm, rfl, hst⟩
 obtain ⟨n206, y207, rfl, hm, hx208⟩ := loopN_some hm
 dsimp only [session_Table_find_l1] at hm
 refine wp_seq (wp_seq (wrl (wv (.int .i64 z201) z z z (wv (.int .i64 z200) z z z (wv (.bool (decide (z201 < z200))) z z z (wl_nil (tn ?_)))))))
 refine bsplit (decide (z201 < z200)) (fun hc210 => ?_) (fun hc210 => ?_)
 {
 replace hm := bif_t hc210 hm
 refine wp_ift (cvb hc210) ?_
 refine wp_skip (tn (wp_block (wp_seq (wrl ?_))))
 refine wv (.int .i64 z201) z z z (wv (.int .i64 z200) z z z (wv (.int .i64 (i64.wrap (z201 + z200))) z z z (wv (.int .u64 (u64.wrap (i64.wrap (z201 + z200)))) z z (by kernel_rfl) (wv (.int .u64 (iShr .u64 (u64.wrap (i64.wrap (z201 + z200))) (1:Int))) z z (x_shr (by decide) z z) (wv (.int .i64 (i64.wrap (iShr .u64 (u64.wrap (i64.wrap (z201 + z200))) (1:Int)))) z z (by kernel_rfl) (wv (.int .i64 (i64.wrap (iShr .u64 (u64.wrap (i64.wrap (z201 + z200))) (1:Int)))) z z z (wl_nil (tn (wp_seq (wrl (wv (.func (.func 39) #[] #[]) z z z (wv (v154) z z z (wv (.int .i64 (i64.wrap (iShr .u64 (u64.wrap (i64.wrap (z201 + z200))) (1:Int)))) z z z ?_)))))))))))))
 obtain ⟨x211, hx212, hm⟩ := bind_some hm
 obtain ⟨h213, h214, hi215⟩ := geto_some hx212
 refine wv (.pointer (some (eAddr v154 ((i64.wrap (iShr .u64 (u64.wrap (i64.wrap (z201 + z200))) (1:Int))).toNat * 7 + 0)))) z z (x_index z z underlying54 sizeOf71 hst.sv1 h213 h214) ?_
 obtain ⟨cs216, hr217, hc218⟩ := hst.og1 hi215
 obtain ⟨v219, v222, rfl, f220, f223, -⟩ := hr217
 refine wv (.agg #[U6 x211.session, U6 x211.seq, I6 x211.r.E, U6 x211.r.Epoch, U6 x211.r.Index, v219, v222]) z z (x_loadN (cs := [U6 x211.session, U6 x211.seq, I6 x211.r.E, U6 x211.r.Epoch, U6 x211.r.Index, v219, v222]) z isAgg71 sizeOf71 (eCells (o := 0) hc218 z)) (wv (.int .u64 a1) z z z ?_)
 obtain ⟨t225, ht226, hm⟩ := bind_some hm
 refine wl_call z z (x_callv call39 (caps := []) z (vs := [.agg #[U6 x211.session, U6 x211.seq, I6 x211.r.E, U6 x211.r.Epoch, U6 x211.r.Index, v219, v222], U6 a1]) z) ?_
 refine (session_Table_find_1_ref (f220.mono ro_rd) (f223.mono ro_rd) hst.to0 ht226).mono ?_
 rintro _ w227 ⟨rfl, hst⟩
 refine ⟨_, z, ?_⟩
 replace hst := hst.of0
 refine wv (.bool (decide (t225 < (0:Int)))) z z z (wl_nil (tn ?_))
 refine bsplit (decide (t225 < (0:Int))) (fun hc230 => ?_) (fun hc230 => ?_)
 {
 replace hm := bif_t hc230 hm
 refine wp_ift (cvb hc230) ?_
 refine wrl (wv (.int .i64 (i64.wrap (iShr .u64 (u64.wrap (i64.wrap (z201 + z200))) (1:Int)))) z z z (wv (.int .i64 (i64.wrap ((i64.wrap (iShr .u64 (u64.wrap (i64.wrap (z201 + z200))) (1:Int))) + (1:Int)))) z z z (wv (.int .i64 (i64.wrap ((i64.wrap (iShr .u64 (u64.wrap (i64.wrap (z201 + z200))) (1:Int))) + (1:Int)))) z z z (wl_nil (blk_n (tn ?_))))))
 replace hst := hst.pull1.pull1.keep2
 obtain rfl := some_inj hm
 exact ⟨_, Nat.lt_succ_self _, z200, (i64.wrap ((i64.wrap (iShr .u64 (u64.wrap (i64.wrap (z201 + z200))) (1:Int))) + (1:Int))), _, hx208, (fu 0 v154 z (fu 1 (.int .u64 a1) z (fu 2 (.func (.func 39) #[] #[]) z (fu 8 (.int .i64 ((o0.l).length : Int)) z (fu 9 (.int .i64 (i64.wrap ((i64.wrap (iShr .u64 (u64.wrap (i64.wrap (z201 + z200))) (1:Int))) + (1:Int)))) z (fu 10 (.int .i64 z200) z z)))))), hst⟩
}
 {
 replace hm := bif_f hc230 hm
 refine wp_iff (cvb hc230) ?_
 refine wrl (wv (.int .i64 (i64.wrap (iShr .u64 (u64.wrap (i64.wrap (z201 + z200))) (1:Int)))) z z z (wv (.int .i64 (i64.wrap (iShr .u64 (u64.wrap (i64.wrap (z201 + z200))) (1:Int)))) z z z (wl_nil (blk_n (tn ?_)))))
 replace hst := hst.pull1.pull1.keep2
 obtain rfl := some_inj hm
 exact ⟨_, Nat.lt_succ_self _, (i64.wrap (iShr .u64 (u64.wrap (i64.wrap (z201 + z200))) (1:Int))), z201, _, hx208, (fu 0 v154 z (fu 1 (.int .u64 a1) z (fu 2 (.func (.func 39) #[] #[]) z (fu 8 (.int .i64 ((o0.l).length : Int)) z (fu 9 (.int .i64 z201) z (fu 10 (.int .i64 (i64.wrap (iShr .u64 (u64.wrap (i64.wrap (z201 + z200))) (1:Int)))) z z)))))), hst⟩
}
}
 {
 replace hm := bif_f hc210 hm
 refine wp_iff (cvb hc210) ?_
 refine wp_exit (then_x (then_x ?_))
 replace hm := inr_up hm hx208
 refine blk_x (tn ?_)
 replace hst := hst.pull1.keep2
 obtain rfl := some_inj hm
 exact ⟨z201, _, hx235, (fu 0 v154 z (fu 1 (.int .u64 a1) z (fu 2 (.func (.func 39) #[] #[]) z (fu 8 (.int .i64 ((o0.l).length : Int)) z (fu 9 (.int .i64 z201) z z))))), hst⟩
}
}
 {
 clear hst
 rintro _ w236 ⟨z231, σ232, hm, rfl, hst⟩
 dsimp only [session_Table_find_j0] at hm
 refine wp_seq (wrl (wv (.int .i64 z231) z z z (wv (.int .i64 z231) z z z (wv (.int .i64 ((o0.l).length : Int)) z z z (wv (.bool (decide (z231 < ((o0.l).length : Int)))) z z z (wv (.bool (decide (z231 < ((o0.l).length : Int)))) z z z ?_))))))
 refine bsplit (decide (z231 < ((o0.l).length : Int))) (fun hc237 => ?_) (fun hc237 => ?_)
 {
 replace hm := bif_t hc237 hm
 refine wv (.func (.func 39) #[] #[]) ((wanted_eq z z z (cvb hc237)).trans z) z z (wv (v154) ((wanted_eq z z z (cvb hc237)).trans z) z z (wv (.int .i64 z231) ((wanted_eq z z z (cvb hc237)).trans z) z z ?_))
 obtain ⟨x238, hx239, hm⟩ := bind_some hm
 obtain ⟨h240, h241, hi242⟩ := geto_some hx239
 refine wv (.pointer (some (eAddr v154 (z231.toNat * 7 + 0)))) ((wanted_eq z z z (cvb hc237)).trans z) z (x_index z z underlying54 sizeOf71 hst.sv0 h240 h241) ?_
 obtain ⟨cs243, hr244, hc245⟩ := hst.og0 hi242
 obtain ⟨v246, v249, rfl, f247, f250, -⟩ := hr244
 refine wv (.agg #[U6 x238.session, U6 x238.seq, I6 x238.r.E, U6 x238.r.Epoch, U6 x238.r.Index, v246, v249]) ((wanted_eq z z z (cvb hc237)).trans z) z (x_loadN (cs := [U6 x238.session, U6 x238.seq, I6 x238.r.E, U6 x238.r.Epoch, U6 x238.r.Index, v246, v249]) z isAgg71 sizeOf71 (eCells (o := 0) hc245 z)) (wv (.int .u64 a1) ((wanted_eq z z z (cvb hc237)).trans z) z z ?_)
 obtain ⟨t252, ht253, hm⟩ := bind_some hm
 refine wl_call ((wanted_eq z z z (cvb hc237)).trans z) z (x_callv call39 (caps := []) z (vs := [.agg #[U6 x238.session, U6 x238.seq, I6 x238.r.E, U6 x238.r.Epoch, U6 x238.r.Index, v246, v249], U6 a1]) z) ?_
 refine (session_Table_find_1_ref (f247.mono ro_rd) (f250.mono ro_rd) hst.to0 ht253).mono ?_
 rintro _ w254 ⟨rfl, hst⟩
 refine ⟨_, z, ?_⟩
 replace hst := hst.of0
 refine wv (.bool (t252 == (0:Int))) ((wanted_eq z z z (cvb hc237)).trans z) z z (wv (.bool (t252 == (0:Int))) z z (x_pick_t hc237 z z) (wv (.int .i64 z231) z z z (wv (.bool (t252 == (0:Int))) z z z (wl_nil (tn (wp_ret ?_))))))
 refine post_ret (vs := [I6 z231, .bool (t252 == (0:Int))]) results38 (rvs_cons (rv_tmp z) (rvs_cons (rv_tmp z) rvs_nil)) ?_
 replace hst := hst.pull1.keep2
 obtain rfl := some_inj hm
 exact ⟨z231, (t252 == (0:Int)), z, z, hst⟩
}
 {
 replace hm := bif_f hc237 hm
 refine wo hc237 z z z z z z (wo hc237 z z z z z z (wo hc237 z z z z z z (wo hc237 z z z z z z (wo hc237 z z z z z z (wo hc237 z z z z z z (wo hc237 z z z z z z (wo hc237 z z z z z z (wv (.bool false) z z (x_pick_f hc237 z z) (wv (.int .i64 z231) z z z (wv (.bool false) z z z (wl_nil (tn (wp_ret ?_)))))))))))))
 refine post_ret (vs := [I6 z231, .bool false]) results38 (rvs_cons (rv_tmp z) (rvs_cons (rv_tmp z) rvs_nil)) ?_
 replace hst := hst.pull1.keep2
 obtain rfl := some_inj hm
 exact ⟨z231, false, z, z, hst⟩
}
}
}
 clear hst
 rintro _ w262 ⟨z257, z258, rfl, rfl, hst⟩
 refine ⟨_, z, ?_⟩
 try dsimp only at hm
 refine wv (.int .i64 z257) z z z (wv (.bool z258) z z z (wv (.int .i64 z257) z z z (wv (.bool z258) z z z (wl_nil (tn (wp_ret ?_))))))
 replace hst := hst.pull1.pull1
 replace hst := at_session_Table_close (pv := Pt b153 0) (x := o0) hst z
 replace hst := objO_some hst
 obtain rfl := some_inj hm
 refine post_ret (vs := [I6 z257, .bool z258]) results23 (rvs_cons (rv_tmp z) (rvs_cons (rv_tmp z) rvs_nil)) ?_
 exact ⟨z, hst.keep1⟩
}
}

theorem slices_Insert_session_row_session_row_ref {w0 w : World} {I : HL} {R : SP} {a0 : (List session_row)} {r0_0 : Value} {a1 : Int} {a2 : (List session_row)} {r2_0 : Value} (hst : St w0 w I [ownS ty_session_row r0_0 a0, ownS ty_session_row r2_0 a2] R) {r : (List session_row)} (hm : slices_Insert_session_row_session_row a0 a1 a2 = some r) :
  Calls prog 24 #[r0_0, I6 a1, r2_0] w fun e w' => ∃ (q0_0 : Value), e = .returned (q0_0) ∧ St w0 w' I [ownS ty_session_row q0_0 r] R := by {
 unfold slices_Insert_session_row_session_row at hm
 obtain ⟨hg, hm⟩ := gd_some hm
 obtain rfl := some_inj hm
 obtain ⟨hi0, hi1, hrm⟩ := insOK_of hg
 obtain ⟨k, rfl⟩ := Int.eq_ofNat_of_zero_le hi0
 have hsm := room_sum hrm
 have hk : k ≤ a0.length := by omega
 have hs : ∀ w : World, (sizeOf 71).run prog w = .ok ty_session_row.sz w := sizeOf71
 have hs0 : 0 < ty_session_row.sz := Nat.le_of_ble_eq_true rfl
 have hov : ∀ (args : Array Value) (w : World), (callFunc 41 args).run prog w = (Extern.SlicesOverlaps.overlaps #[54, 54] #[4] args >>= fun v => (pure (.value v) : Sem Next)).run prog w := by intro args w; kernel_rfl
 obtain ⟨css, hr, hst⟩ := hst.own_open
 replace hst := hst.pull1
 obtain ⟨dss, hq, hst⟩ := hst.own_open
 replace hst := hst.pull1
 obtain ⟨n, hn⟩ : ∃ n, css.length = n := ⟨_, rfl⟩
 obtain ⟨m, hm'⟩ : ∃ m, dss.length = m := ⟨_, rfl⟩
 have hln : a0.length = n := hr.1.trans hn
 have hlm : a2.length = m := hq.1.trans hm'
 rw [hln] at hsm hk
 rw [hlm] at hsm
 have hsv : SliceV r0_0 n := by have := hst.row_form.2; rwa [hn] at this
 have hsq : SliceV r2_0 m := by have := hst.pull1.row_form.2; rwa [hm'] at this
 have hoc := hr.ones
 have hoq := hq.ones
 have hw1 := wrap_add (a := n) (b := m) (by omega)
 have hw2 := wrap_add (a := k) (b := m) (by omega)
 have hw3 := wrap_sub (a := n + m) (b := k) (by omega) (by omega)
 have hrb := room_of (b := 88) hrm rfl
 rw [hln, hlm] at hrb
 refine calls_start (args := [r0_0, I6 (k : Int), r2_0]) func24 z ntmps24 (Nat.le_of_ble_eq_true z) ?_
 refine wp_seq (wrl (wv ((.slice none 0 0)) z z z (wl_nil (tn (wp_seq (wrl (wv (r0_0) z z z (wv (.int .i64 (k : Int)) z z z (wv ((slcV ty_session_row.sz r0_0 k n)) z z (x_slice (lo := (k : Nat)) (hi := (n : Nat)) underlying54 hs z hsv (by omega) (by omega) (by omega) .i64 .i64 (.inl z) (.inr ⟨z, z⟩)) (wl_nil (tn (wp_seq (wrl (wv (r2_0) z z z (wv (.int .i64 (m : Int)) z z (x_len z underlying54 hsq) (wv (.int .i64 (m : Int)) z z z (wl_nil (tn (wp_seq (wp_seq (wrl (wv (.int .i64 (m : Int)) z z z (wv (.bool ((m : Int) == (0:Int))) z z z ?_)))))))))))))))))))))))
 refine wl_nil (tn ?_)
 refine bsplit ((m : Int) == (0:Int)) (fun hc87 => ?_) (fun hc87 => ?_)
 {
 refine wp_ift (cvb hc87) ?_
 refine wp_seq (wrl (wv (r0_0) z z z (wv (r0_0) z z z (wl_nil (tn (wp_ret (then_r ?_)))))))
 refine post_ret (vs := [r0_0]) results24 (rvs_cons (rv_tmp z) rvs_nil) ?_
 rw [ins_nil (by rw [hlm]; exact hc87)]
 exact ⟨_, z, (hst.own_close hr).keep1⟩
}
 {
 refine wp_iff (cvb hc87) ?_
 have hm0 : m ≠ 0 := fun h => by rw [h] at hc87; cases hc87
 have hq0 : dss ≠ [] := fun h => hm0 (by rw [← hm', h]; rfl)
 refine wp_skip (tn (wp_seq (wrl ?_)))
 refine wv (r0_0) z z z (wv (.int .i64 (n : Int)) z z (x_len z underlying54 hsv) (wv (.int .i64 (n : Int)) z z z (wl_nil (tn (wp_seq (wp_seq (wrl (wv (.int .i64 (k : Int)) z z z (wv (.int .i64 (n : Int)) z z z (wv (.bool ((k : Int) == (n : Int))) z z z (wl_nil (tn ?_))))))))))))
 refine bsplit ((k : Int) == (n : Int)) (fun hc88 => ?_) (fun hc88 => ?_)
 {
 refine wp_ift (cvb hc88) ?_
 refine wp_seq (wrl (wv (r0_0) z z z (wv (r2_0) z z z ?_)))
 replace hst := (hst.own_close hr).pull1.own_close hq
 replace hst := hst.pull1
 obtain ⟨v2, w2, hra, hst⟩ := run_append elem_54 underlying54 hst hst.src1 (room_of hrm z) 54
 refine wl_run (v := v2) (w' := w2) z z (x_append z z hra) ?_
 refine wv (v2) z z z (wl_nil (tn (wp_ret (then_r ?_))))
 refine post_ret (vs := [v2]) results24 (rvs_cons (rv_tmp z) rvs_nil) ?_
 rw [ins_end (by rw [hln]; exact hc88)]
 exact ⟨_, z, hst.keep1⟩
}
 {
 refine wp_iff (cvb hc88) ?_
 have hkn : k ≠ n := fun h => by rw [h] at hc88; simp at hc88
 have hn0 : 0 < n := by omega
 have hc0 : css ≠ [] := fun h => by rw [h] at hn; simp at hn; omega
 refine wp_skip (tn (wp_seq (wp_seq (wrl ?_))))
 refine wv (.int .i64 (n : Int)) z z z (wv (.int .i64 (m : Int)) z z z (wv (.int .i64 ((n + m : Nat) : Int)) z z (ok_cast hw1 z) (wv (r0_0) z z z (wv (.int .i64 (sCap r0_0 : Int)) z z (x_cap z underlying54 hsv) (wv (.bool (decide (((n + m : Nat) : Int) > (sCap r0_0 : Int)))) z z z (wl_nil (tn ?_)))))))
 refine bsplit (decide (((n + m : Nat) : Int) > (sCap r0_0 : Int))) (fun hc89 => ?_) (fun hc89 => ?_)
 {
 refine wp_ift (cvb hc89) ?_
 refine wp_seq (wrl (wv (r0_0) z z z (wv (.int .i64 (k : Int)) z z z (wv ((slcV ty_session_row.sz r0_0 0 k)) z z (x_slice (lo := (0 : Nat)) (hi := (k : Nat)) underlying54 hs z hsv (by omega) (by omega) (by omega) .i64 .i64 (.inr ⟨z, z⟩) (.inl z)) (wv (.int .i64 (n : Int)) z z z (wv (.int .i64 (m : Int)) z z z (wv (.int .i64 ((n + m : Nat) : Int)) z z (ok_cast hw1 z) (wv (.int .i64 (k : Int)) z z z (wv (.int .i64 ((n + m - k : Nat) : Int)) z z (ok_cast hw3 z) ?_)))))))))
 obtain ⟨v2, w2, hra, hs2, zss, hzl, hst⟩ := run_app0 elem_54 underlying3 hst k (n + m - k) (by omega) (by have := of_decide_eq_true hc89; omega) (by rw [show k + (n + m - k) = n + m by omega]; exact hrb) hs0 54
 rw [show k + (n + m - k) = n + m by omega] at hs2
 refine wl_run (v := v2) (w' := w2) z z (x_append z z hra) ?_
 refine wv (v2) z z z (wl_nil (tn (wp_seq (wrl (wv (v2) z z z (wv (.int .i64 (k : Int)) z z z (wv ((slcV ty_session_row.sz v2 k (n + m))) z z (x_slice (lo := (k : Nat)) (hi := ((n + m) : Nat)) underlying54 hs z hs2 (by omega) (by omega) (by omega) .i64 .i64 (.inl z) (.inr ⟨z, z⟩)) (wv (r2_0) z z z ?_))))))))
 obtain ⟨w90, hr91, hst⟩ := run_copyRows (P := prog) (t2 := 54) (ty := 3) underlying54 hs hst hst.pull2 k m (N := n + m) (by first | omega | (simp only [List.length_append, List.length_take, List.length_drop]; omega)) (by first | omega | (simp only [List.length_append, List.length_take, List.length_drop]; omega)) (by omega) (by first | omega | (simp only [List.length_append, List.length_take, List.length_drop]; omega)) (ones_take hoq _)
 refine wl_run (v := .int .i64 (m : Nat)) (w' := w90) z z (x_copy z z hr91) ?_
 refine wl_nil (tn (wp_seq ?_))
 refine wp_region_St hst 9 [0, 1, 2, 3, 4, 5, 6, 7, 8] [0, 0, 0, 6, 15, 0, 0, 96, 255] [] z (by kernel_rfl) (by kernel_rfl) Try.mixed (by kernel_rfl) ?_
 refine wsr (v2) 0 z z z (by kernel_rfl) (fun w hst => z) (wsr (.int .i64 (k : Int)) 1 z z z (by kernel_rfl) (fun w hst => z) (wsr (.int .i64 (m : Int)) 2 z z z (by kernel_rfl) (fun w hst => z) (wsr (.int .i64 ((k + m : Nat) : Int)) 3 z z z (by kernel_rfl) (fun w hst => ok_cast hw2 z) (wsr ((slcV ty_session_row.sz v2 (k + m) (n + m))) 4 z z z (by kernel_rfl) (fun w hst => x_slice (lo := ((k + m) : Nat)) (hi := ((n + m) : Nat)) underlying54 hs z hs2 (by omega) (by omega) (by omega) .i64 .i64 (.inl z) (.inr ⟨z, z⟩)) (wsr (r0_0) 5 z z z (by kernel_rfl) (fun w hst => z) (wsr (.int .i64 (k : Int)) 6 z z z (by kernel_rfl) (fun w hst => z) (wsr ((slcV ty_session_row.sz r0_0 k n)) 7 z z z (by kernel_rfl) (fun w hst => x_slice (lo := (k : Nat)) (hi := (n : Nat)) underlying54 hs z hsv (by omega) (by omega) (by omega) .i64 .i64 (.inl z) (.inr ⟨z, z⟩)) ?_)))))))
 refine ws_e1 8 (by kernel_rfl) ?_
 refine nxe [] (by kernel_rfl) z z ?_
 clear hst
 intro w hst
 obtain ⟨w92, hr93, hst⟩ := run_copyRows (P := prog) (t2 := 54) (ty := 3) underlying54 hs hst (hst.pull1.row_part (l := k) (h := n) hk (by omega)) (k + m) (n - k) (N := n + m) (by first | omega | (simp only [List.length_append, List.length_take, List.length_drop]; omega)) (by first | omega | (simp only [List.length_append, List.length_take, List.length_drop]; omega)) (by omega) (by first | omega | (simp only [List.length_append, List.length_take, List.length_drop]; omega)) (ones_take (ones_drop (ones_take hoc _) _) _)
 refine we_run (v := .int .i64 ((n - k) : Nat)) (w' := w92) z (x_copy z z hr93) ?_
 refine ws_next (pend' := []) hst (by kernel_rfl) pk_nil ?_
 refine ws_nil ?_
 intro w hst
 refine tn (wp_seq (wrl (wv (v2) z z z (wv (v2) z z z (wl_nil (tn (wp_ret (then_r ?_))))))))
 refine post_ret (vs := [v2]) results24 (rvs_cons (rv_tmp z) rvs_nil) ?_
 rw [grow_rows hn hm' hk hzl] at hst
 exact ⟨_, z, (hst.own_close ((hr.take k).app (hq.app (hr.drop k)))).keep1⟩
}
 {
 refine wp_iff (cvb hc89) ?_
 have hup : n + m ≤ sCap r0_0 := by have := of_decide_eq_false hc89; omega
 obtain ⟨ess, hel, hem, hst'⟩ := hst.row_up (n + m) (by omega) hup hc0
 rw [show n + m - css.length = m by omega] at hel
 have hs2 : SliceV (upV r0_0 (n + m)) (n + m) := by have := hst'.row_form.2; rwa [List.length_append, hn, hel] at this
 clear hst
 have hst := hst'
 clear hst'
 refine wp_skip (tn (wp_seq (wrl ?_)))
 refine wv (r0_0) z z z (wv (.int .i64 (n : Int)) z z z (wv (.int .i64 (m : Int)) z z z (wv (.int .i64 ((n + m : Nat) : Int)) z z (ok_cast hw1 z) (wv ((upV r0_0 (n + m))) z z (x_sliceUp underlying54 hs z hsv z hup hn0) (wv ((upV r0_0 (n + m))) z z z (wl_nil (tn (wp_seq (wp_seq (wrl (wv (r2_0) z z z (wv ((upV r0_0 (n + m))) z z z (wv (.int .i64 (k : Int)) z z z (wv (.int .i64 (m : Int)) z z z (wv (.int .i64 ((k + m : Nat) : Int)) z z (ok_cast hw2 z) (wv ((slcV ty_session_row.sz (upV r0_0 (n + m)) (k + m) (n + m))) z z (x_slice (lo := ((k + m) : Nat)) (hi := ((n + m) : Nat)) underlying54 hs z hs2 (by omega) (by omega) (by omega) .i64 .i64 (.inl z) (.inr ⟨z, z⟩)) ?_))))))))))))))))
 refine wv (.bool false) z z (x_ext z z z (hov _) (run_overlaps z underlying54 hs hst.pull1 (k + m) (N := n + m) (by rw [List.length_append]; omega) (by omega) hq0 hs0)) (wv (.bool true) z z z (wl_nil (tn ?_)))
 refine wp_ift z ?_
 refine wp_seq ?_
 refine wp_region_St hst 9 [0, 1, 2, 3, 4, 5, 6, 7, 8] [0, 0, 0, 6, 15, 0, 0, 96, 255] [] z (by kernel_rfl) (by kernel_rfl) Try.mixed (by kernel_rfl) ?_
 refine wsr ((upV r0_0 (n + m))) 0 z z z (by kernel_rfl) (fun w hst => z) (wsr (.int .i64 (k : Int)) 1 z z z (by kernel_rfl) (fun w hst => z) (wsr (.int .i64 (m : Int)) 2 z z z (by kernel_rfl) (fun w hst => z) (wsr (.int .i64 ((k + m : Nat) : Int)) 3 z z z (by kernel_rfl) (fun w hst => ok_cast hw2 z) (wsr ((slcV ty_session_row.sz (upV r0_0 (n + m)) (k + m) (n + m))) 4 z z z (by kernel_rfl) (fun w hst => x_slice (lo := ((k + m) : Nat)) (hi := ((n + m) : Nat)) underlying54 hs z hs2 (by omega) (by omega) (by omega) .i64 .i64 (.inl z) (.inr ⟨z, z⟩)) (wsr ((upV r0_0 (n + m))) 5 z z z (by kernel_rfl) (fun w hst => z) (wsr (.int .i64 (k : Int)) 6 z z z (by kernel_rfl) (fun w hst => z) (wsr ((slcV ty_session_row.sz (upV r0_0 (n + m)) k (n + m))) 7 z z z (by kernel_rfl) (fun w hst => x_slice (lo := (k : Nat)) (hi := ((n + m) : Nat)) underlying54 hs z hs2 (by omega) (by omega) (by omega) .i64 .i64 (.inl z) (.inr ⟨z, z⟩)) ?_)))))))
 refine ws_e1 8 (by kernel_rfl) ?_
 refine nxe [] (by kernel_rfl) z z ?_
 clear hst
 intro w hst
 obtain ⟨w94, hr95, hst⟩ := run_copyRows (P := prog) (t2 := 54) (ty := 3) underlying54 hs hst (hst.row_part (l := k) (h := n + m) (by omega) (by rw [List.length_append]; omega)) (k + m) (n - k) (N := n + m) (by first | omega | (simp only [List.length_append, List.length_take, List.length_drop]; omega)) (by first | omega | (simp only [List.length_append, List.length_take, List.length_drop]; omega)) (by omega) (by first | omega | (simp only [List.length_append, List.length_take, List.length_drop]; omega)) (by rw [stay_src hn hm' hk hel]; exact ones_drop hoc _)
 refine we_run (v := .int .i64 ((n - k) : Nat)) (w' := w94) z (x_copy z z hr95) ?_
 refine ws_next (pend' := []) hst (by kernel_rfl) pk_nil ?_
 refine ws_nil ?_
 intro w hst
 refine tn (wp_seq (wrl (wv ((upV r0_0 (n + m))) z z z (wv (.int .i64 (k : Int)) z z z (wv ((slcV ty_session_row.sz (upV r0_0 (n + m)) k (n + m))) z z (x_slice (lo := (k : Nat)) (hi := ((n + m) : Nat)) underlying54 hs z hs2 (by omega) (by omega) (by omega) .i64 .i64 (.inl z) (.inr ⟨z, z⟩)) (wv (r2_0) z z z ?_))))))
 obtain ⟨w96, hr97, hst⟩ := run_copyRows (P := prog) (t2 := 54) (ty := 3) underlying54 hs hst hst.pull1 k m (N := n + m) (by first | omega | (simp only [List.length_append, List.length_take, List.length_drop]; omega)) (by first | omega | (simp only [List.length_append, List.length_take, List.length_drop]; omega)) (by omega) (by first | omega | (simp only [List.length_append, List.length_take, List.length_drop]; omega)) (ones_take hoq _)
 refine wl_run (v := .int .i64 (m : Nat)) (w' := w96) z z (x_copy z z hr97) ?_
 refine wl_nil (tn (wp_seq (wrl (wv ((upV r0_0 (n + m))) z z z (wv ((upV r0_0 (n + m))) z z z (wl_nil (tn (wp_ret (then_r ?_)))))))))
 refine post_ret (vs := [(upV r0_0 (n + m))]) results24 (rvs_cons (rv_tmp z) rvs_nil) ?_
 rw [stay_rows hn hm' hk hel] at hst
 exact ⟨_, z, (hst.own_close ((hr.take k).app (hq.app (hr.drop k)))).keep1⟩
}
}
}
}

theorem session_Table_Put_ref {w0 w : World} {I : HL} {R : SP} {a0 : (Option session_Table)} {p0 : Value} {a1 : Int} {a2 : Int} {a3 : api_Reply} {r3_0 : Value} {r3_1 : Value} (f3_0 : Ro ty_api_Got I r3_0 a3.Gots) (f3_1 : Ro (tySl ty_api_Pair) I r3_1 a3.Scans) (hst : St w0 w I [objO at_session_Table p0 a0] R) {r : (Int × (Option session_Table))} (hm : session_Table_Put a0 a1 a2 a3 = some r) :
  Calls prog 12 #[p0, U6 a1, U6 a2, .agg #[I6 a3.E, U6 a3.Epoch, U6 a3.Index, r3_0, r3_1]] w fun e w' => e = .returned (.int .i64 r.1) ∧ St w0 w' I [objO at_session_Table p0 r.2] R := by {
 rcases a0 with _ | o0
 {
 obtain ⟨rfl, hst'⟩ := objO_none hst
 clear hst
 have hst := hst'
 clear hst'
 dsimp only [session_Table_Put] at hm
 refine calls_start (args := [.pointer none, U6 a1, U6 a2, .agg #[I6 a3.E, U6 a3.Epoch, U6 a3.Index, r3_0, r3_1]]) func12 z ntmps12 (Nat.le_of_ble_eq_true z) ?_
 refine wp_seq (wrl ?_)
 obtain ⟨b152, w153, ew154, eb155, hst⟩ := hst.box [I6 a3.E, U6 a3.Epoch, U6 a3.Index, r3_0, r3_1] 36
 refine wl_run (v := Pt b152 0) (w' := w153) z z (x_al (by kernel_rfl) ew154 eb155) ?_
 refine wv (.int .i64 (0:Int)) z z z (wl_nil (tn (wp_seq (wp_block (wp_seq (wrl (wv (.pointer none) z z z (wv (.bool true) z z (by kernel_rfl) (wv (.bool true) z z z (wl_nil (tn ?_)))))))))))
 refine wp_ift z ?_
 refine wp_seq (wrl (wv (.int .i64 (2:Int)) z z z (wl_nil (tn (wp_ret (blk_r (then_r ?_)))))))
 replace hst := hst.objO_nil at_session_Table
 obtain rfl := some_inj hm
 refine post_ret (vs := [I6 (2:Int)]) results12 (rvs_cons (rv_tmp z) rvs_nil) ?_
 exact ⟨z, hst.keep1⟩
}
 {
 replace hst := objO_get hst
 dsimp only [session_Table_Put] at hm
 refine calls_start (args := [p0, U6 a1, U6 a2, .agg #[I6 a3.E, U6 a3.Epoch, U6 a3.Index, r3_0, r3_1]]) func12 z ntmps12 (Nat.le_of_ble_eq_true z) ?_
 refine wp_seq (wrl ?_)
 obtain ⟨b157, w158, ew159, eb160, hst⟩ := hst.box [I6 a3.E, U6 a3.Epoch, U6 a3.Index, r3_0, r3_1] 36
 refine wl_run (v := Pt b157 0) (w' := w158) z z (x_al (by kernel_rfl) ew159 eb160) ?_
 refine wv (.int .i64 (0:Int)) z z z (wl_nil (tn (wp_seq (wp_block (wp_seq (wrl (wv (p0) z z z ?_)))))))
 replace hst := hst.pull1
 obtain ⟨b162, v163, rfl, hst'⟩ := at_session_Table_open hst
 clear hst
 have hst := hst'
 clear hst'
 refine wv (.bool false) z z (by kernel_rfl) (wv (.bool false) z z z (wl_nil (tn ?_)))
 refine wp_iff z ?_
 refine wp_seq (wrl (wv (.int .u64 a2) z z z (wv (.bool (a2 == (0:Int))) z z z (wv (.bool (a2 == (0:Int))) z z z (wl_nil (tn ?_))))))
 refine bsplit (a2 == (0:Int)) (fun hc165 => ?_) (fun hc165 => ?_)
 {
 replace hm := bif_t hc165 hm
 refine wp_ift (cvb hc165) ?_
 refine wp_seq (wrl (wv (.int .i64 (1:Int)) z z z (wl_nil (tn (wp_ret (blk_r (then_r ?_)))))))
 replace hst := hst.pull1.pull1
 replace hst := at_session_Table_close (pv := Pt b162 0) (x := o0) hst z
 replace hst := objO_some hst
 obtain rfl := some_inj hm
 refine post_ret (vs := [I6 (1:Int)]) results12 (rvs_cons (rv_tmp z) rvs_nil) ?_
 exact ⟨z, hst.keep1⟩
}
 {
 replace hm := bif_f hc165 hm
 refine wp_iff (cvb hc165) ?_
 refine wp_skip (blk_n (tn (wp_seq (wrl ?_))))
 refine wv (Pt b162 0) z z z (wv (.int .u64 a1) z z z ?_)
 replace hst := hst.pull1.pull1
 replace hst := at_session_Table_close (pv := Pt b162 0) (x := o0) hst z
 replace hst := objO_some hst
 obtain ⟨t166, ht167, hm⟩ := bind_some hm
 refine wc call23 [Pt b162 0, U6 a1] z z z ?_
 refine (session_Table_find_ref hst.to1 ht167).mono ?_
 rintro _ w168 ⟨rfl, hst⟩
 refine ⟨_, z, ?_⟩
 replace hst := hst.of1
 replace hst := objO_get hst
 refine wv (.tuple #[I6 t166.1, .bool t166.2]) z z z (wv (.int .i64 t166.1) z z z (wv (.bool t166.2) z z z (wv (.int .i64 t166.1) z z z (wv (.bool t166.2) z z z (wl_nil (tn ?_))))))
 obtain ⟨y193, hm, hx194⟩ := joinO_some hm
 refine wp_cut (fun a w => ∃ (σ191 : Nat → Value), (session_Table_Put_j0 t166 o0 a1 a2 a3) () = some r ∧ a = Fr 66 (upd (upd (upd (upd (upd (upd σ191 0 (Pt b162 0)) 1 (.int .u64 a1)) 2 (.int .u64 a2)) 7 (Pt b157 0)) 9 (.int .i64 t166.1)) 10 (.bool t166.2)) ∧ St w0 w I [at_session_Table (Pt b162 0) o0, cells b157 [I6 a3.E, U6 a3.Epoch, U6 a3.Index, r3_0, r3_1]] R) ?_ ?_
 {
 refine wp_seq (wrl (wv (.bool t166.2) z z z (wv (.bool t166.2) z z z ?_)))
 refine bsplit t166.2 (fun hc171 => ?_) (fun hc171 => ?_)
 {
 replace hm := bif_t hc171 hm
 refine wv (Pt b162 0) ((wanted_eq z z z (cvb hc171)).trans z) z z ?_
 obtain ⟨b172, v173, e175, hst'⟩ := at_session_Table_open hst
 clear hst
 have e175 := ptr_inj e175
 subst e175
 have hst := hst'
 clear hst'
 refine wv (Pt b162 0) ((wanted_eq z z z (cvb hc171)).trans z) z z (wv (Pt b162 0) ((wanted_eq z z z (cvb hc171)).trans z) z (x_field z underlying56 z sizeOf54 z) (wv (v173) ((wanted_eq z z z (cvb hc171)).trans z) z (x_load z isAgg54 (hst.bc0 z)) (wv (.int .i64 t166.1) ((wanted_eq z z z (cvb hc171)).trans z) z z ?_)))
 obtain ⟨x176, hx177, hm⟩ := bind_some hm
 obtain ⟨h178, h179, hi180⟩ := geto_some hx177
 refine wv (.pointer (some (eAddr v173 (t166.1.toNat * 7 + 0)))) ((wanted_eq z z z (cvb hc171)).trans z) z (x_index z z underlying54 sizeOf71 hst.sv1 h178 h179) (wv (.pointer (some (eAddr v173 (t166.1.toNat * 7 + 1)))) ((wanted_eq z z z (cvb hc171)).trans z) z (x_field_e z underlying71 z sizeOf30 z) ?_)
 obtain ⟨cs181, hr182, hc183⟩ := hst.og1 hi180
 obtain ⟨v184, v187, rfl, f185, f188, -⟩ := hr182
 refine wv (.int .u64 x176.seq) ((wanted_eq z z z (cvb hc171)).trans z) z (x_load z isAgg30 (hc183 1 _ z)) (wv (.int .u64 a2) ((wanted_eq z z z (cvb hc171)).trans z) z z (wv (.bool (decide (x176.seq ≥ a2))) ((wanted_eq z z z (cvb hc171)).trans z) z z (wv (.bool (decide (x176.seq ≥ a2))) z z (x_pick_t hc171 z z) (wl_nil (tn ?_)))))
 refine bsplit (decide (x176.seq ≥ a2)) (fun hc190 => ?_) (fun hc190 => ?_)
 {
 replace hm := bif_t hc190 hm
 refine wp_ift (cvb hc190) ?_
 refine wp_seq (wrl (wv (.int .i64 (10:Int)) z z z (wl_nil (tn (wp_ret (then_r ?_))))))
 replace hm := inr_up hm hx194
 replace hst := hst.pull1.pull1
 replace hst := at_session_Table_close (pv := Pt b162 0) (x := o0) hst z
 replace hst := objO_some hst
 obtain rfl := some_inj hm
 refine post_ret (vs := [I6 (10:Int)]) results12 (rvs_cons (rv_tmp z) rvs_nil) ?_
 exact ⟨z, hst.keep1⟩
}
 {
 replace hm := bif_f hc190 hm
 refine wp_iff (cvb hc190) ?_
 refine wp_skip (tn ?_)
 replace hst := hst.pull1.pull1
 replace hst := at_session_Table_close (pv := Pt b162 0) (x := o0) hst z
 replace hst := hst.pull1.pull1.keep2
 obtain rfl := some_inj hm
 exact ⟨_, hx194, (fu 0 (Pt b162 0) z (fu 1 (.int .u64 a1) z (fu 2 (.int .u64 a2) z (fu 7 (Pt b157 0) z (fu 9 (.int .i64 t166.1) z (fu 10 (.bool t166.2) z z)))))), hst⟩
}
}
 {
 replace hm := bif_f hc171 hm
 refine wo hc171 z z z z z z (wo hc171 z z z z z z (wo hc171 z z z z z z (wo hc171 z z z z z z (wo hc171 z z z z z z (wo hc171 z z z z z z (wo hc171 z z z z z z (wo hc171 z z z z z z (wo hc171 z z z z z z (wo hc171 z z z z z z (wv (.bool false) z z (x_pick_f hc171 z z) (wl_nil (tn ?_))))))))))))
 refine wp_iff z ?_
 refine wp_skip (tn ?_)
 replace hst := hst.pull1.pull1.keep2
 obtain rfl := some_inj hm
 exact ⟨_, hx194, (fu 0 (Pt b162 0) z (fu 1 (.int .u64 a1) z (fu 2 (.int .u64 a2) z (fu 7 (Pt b157 0) z (fu 9 (.int .i64 t166.1) z (fu 10 (.bool t166.2) z z)))))), hst⟩
}
}
 {
 clear hst
 rintro _ w195 ⟨σ191, hm, rfl, hst⟩
 dsimp only [session_Table_Put_j0] at hm
 obtain ⟨y224, hm, hx225⟩ := bind_some hm
 refine wp_cut (fun a w => ∃ (z221 : session_Table) (σ222 : Nat → Value), (session_Table_Put_j1 t166 a2 a3) z221 = some r ∧ a = Fr 66 (upd (upd (upd (upd σ222 0 (Pt b162 0)) 2 (.int .u64 a2)) 7 (Pt b157 0)) 9 (.int .i64 t166.1)) ∧ St w0 w I [at_session_Table (Pt b162 0) z221, cells b157 [I6 a3.E, U6 a3.Epoch, U6 a3.Index, r3_0, r3_1]] R) ?_ ?_
 {
 refine wp_seq (wrl (wv (.bool t166.2) z z z (wv (.bool (!t166.2)) z z z (wl_nil (tn ?_)))))
 refine bsplit (!t166.2) (fun hc196 => ?_) (fun hc196 => ?_)
 {
 replace hm := bif_t hc196 hm
 refine wp_ift (cvb hc196) ?_
 refine wrl (wv (Pt b162 0) z z z (wv (Pt b162 0) z z z ?_))
 obtain ⟨b197, v198, e200, hst'⟩ := at_session_Table_open hst
 clear hst
 have e200 := ptr_inj e200
 subst e200
 have hst := hst'
 clear hst'
 refine wv (Pt b162 0) z z z (wv (Pt b162 0) z z (x_field z underlying56 z sizeOf54 z) (wv (v198) z z (x_load z isAgg54 (hst.bc0 z)) (wv (.int .i64 t166.1) z z z (wv (.int .u64 a1) z z z (wv (.agg #[U6 a1, Zu, Zi, Zu, Zu, Zs, Zs]) z z (by kernel_rfl) ?_)))))
 have f205 : Ro ty_api_Got I (.slice none 0 0) [] := ro_nil
 have f206 : Ro (tySl ty_api_Pair) I (.slice none 0 0) [] := ro_nil
 obtain ⟨b207, w208, ew209, eb210, hst⟩ := hst.lits (E := ty_session_row) (xs := [({ session := a1, seq := (0:Int), r := zero_api_Reply } : session_row)]) [[U6 a1, Zu, Zi, Zu, Zu, Zs, Zs]] 71 1 z (Reps.cons ⟨_, _, z, f205, f206, one_of_sliceV (ro_sliceV f205), one_of_sliceV (ro_sliceV f206)⟩ Reps.nil)
 refine wl_run (v := (.slice (some ⟨b207, 0, none⟩) 1 1)) (w' := w208) z z (x_als (by kernel_rfl) ew209 eb210) ?_
 replace hst := hst.pull2
 obtain ⟨t212, ht213, hm⟩ := bind_some hm
 refine wc call24 [v198, I6 t166.1, (.slice (some ⟨b207, 0, none⟩) 1 1)] z z z ?_
 refine (slices_Insert_session_row_session_row_ref hst.to2 ht213).mono ?_
 rintro _ w214 ⟨v217, rfl, hst⟩
 refine ⟨_, z, ?_⟩
 replace hst := hst.of1
 refine wv (Pt b162 0) z z z (wv (Pt b162 0) z z (x_field z underlying56 z sizeOf54 z) ?_)
 replace hst := hst.pull1
 obtain ⟨w219, hr220, hst⟩ := hst.boxStore1 (P := prog) (t := 54) (cs' := [v217]) 0 v217 (one_of_sliceV hst.sv1) sizeOf54 z z
 refine wl_unit z z (x_unit hr220) ?_
 refine wl_nil (tn ?_)
 replace hst := hst.pull1.pull1
 replace hst := at_session_Table_close (pv := Pt b162 0) (x := ({ l := t212 } : session_Table)) hst z
 replace hst := hst.pull1.pull1.keep2
 obtain rfl := some_inj hm
 exact ⟨({ l := t212 } : session_Table), _, hx225, (fu 0 (Pt b162 0) z (fu 2 (.int .u64 a2) z (fu 7 (Pt b157 0) z (fu 9 (.int .i64 t166.1) z z)))), hst⟩
}
 {
 replace hm := bif_f hc196 hm
 refine wp_iff (cvb hc196) ?_
 refine wp_skip (tn ?_)
 replace hst := hst.pull1.pull1.keep2
 obtain rfl := some_inj hm
 exact ⟨o0, _, hx225, (fu 0 (Pt b162 0) z (fu 2 (.int .u64 a2) z (fu 7 (Pt b157 0) z (fu 9 (.int .i64 t166.1) z z)))), hst⟩
}
}
 {
 clear hst
 rintro _ w226 ⟨z221, σ222, hm, rfl, hst⟩
 dsimp only [session_Table_Put_j1] at hm
 refine wp_seq ?_
 obtain ⟨b227, v228, e230, hst'⟩ := at_session_Table_open hst
 clear hst
 have e230 := ptr_inj e230
 subst e230
 have hst := hst'
 clear hst'
 refine wp_region_St hst 18 [0, 1, 2, 3, 4, 5, 6, 7, 8, 9, 10, 11, 12, 13, 14, 15, 16, 17] [0, 1, 3, 7, 0, 0, 32, 96, 224, 0, 0, 0, 1535, 5631, 13823, 32767, 65535, 131071] [] z (by kernel_rfl) (by kernel_rfl) Try.mixed (by kernel_rfl) ?_
 refine wsr (Pt b162 0) 0 z z z (by kernel_rfl) (fun w hst => z) (wsr (Pt b162 0) 1 z z z (by kernel_rfl) (fun w hst => z) (wsr (Pt b162 0) 2 z z z (by kernel_rfl) (fun w hst => x_field z underlying56 z sizeOf54 z) (wsr (v228) 3 z z z (by kernel_rfl) (fun w hst => x_load z isAgg54 (hst.bc0 z)) (wsr (.int .i64 t166.1) 4 z z z (by kernel_rfl) (fun w hst => z) (wsr (Pt b162 0) 5 z z z (by kernel_rfl) (fun w hst => z) (wsr (Pt b162 0) 6 z z z (by kernel_rfl) (fun w hst => z) (wsr (Pt b162 0) 7 z z z (by kernel_rfl) (fun w hst => x_field z underlying56 z sizeOf54 z) (wsr (v228) 8 z z z (by kernel_rfl) (fun w hst => x_load z isAgg54 (hst.bc0 z)) (wsr (.int .i64 t166.1) 9 z z z (by kernel_rfl) (fun w hst => z) (wsr (.int .u64 a2) 10 z z z (by kernel_rfl) (fun w hst => z) (wsr (.agg #[I6 a3.E, U6 a3.Epoch, U6 a3.Index, r3_0, r3_1]) 11 z z z (by kernel_rfl) (fun w hst => x_loadN (cs := [I6 a3.E, U6 a3.Epoch, U6 a3.Index, r3_0, r3_1]) z isAgg36 sizeOf36 (hst.bcs2 0 z)) ?_)))))))))))
 obtain ⟨x231, hx232, hm⟩ := bind_some hm
 obtain ⟨h233, h234, hi235⟩ := geto_some hx232
 refine wsr (.pointer (some (eAddr v228 (t166.1.toNat * 7 + 0)))) 12 z z z (by kernel_rfl) (fun w hst => x_index z z underlying54 sizeOf71 hst.sv1 h233 h234) (wsr (.pointer (some (eAddr v228 (t166.1.toNat * 7 + 1)))) 13 z z z (by kernel_rfl) (fun w hst => x_field_e z underlying71 z sizeOf30 z) ?_)
 refine ws_e1 14 (by kernel_rfl) ?_
 refine nxe [15, 16, 17] (by kernel_rfl) z z ?_
 clear hst
 intro w hst
 obtain ⟨cs236, hr237, hc238⟩ := hst.og1 hi235
 obtain ⟨v239, v242, rfl, f240, f243, -⟩ := hr237
 replace hst := hst.pull1
 obtain ⟨w245, hr246, hst⟩ := hst.own_store (P := prog) (t := 30) (y := ({ session := x231.session, seq := a2, r := x231.r } : session_row)) hi235 1 (.int .u64 a2) sizeOf30 (Nat.le_of_ble_eq_true z) (oC z oN) (by rintro _ ⟨u248, u249, rfl, f250, f251, o252, o253⟩; exact ⟨u248, u249, rfl, f250, f251, o252, o253⟩)
 have hi247 := set_get hi235 ({ session := x231.session, seq := a2, r := x231.r } : session_row)
 have h254 := set_lt h234 t166.1.toNat ({ session := x231.session, seq := a2, r := x231.r } : session_row)
 refine we_unit z (x_unit hr246) ?_
 refine ws_next (pend' := [(11, .agg #[I6 a3.E, U6 a3.Epoch, U6 a3.Index, r3_0, r3_1]), (9, I6 t166.1)]) hst (by kernel_rfl) (pkr z z (fun w hst => x_loadN (cs := [I6 a3.E, U6 a3.Epoch, U6 a3.Index, r3_0, r3_1]) z isAgg36 sizeOf36 (hst.bcs2 0 z)) (pkr z z (fun w hst => z) pk_nil)) ?_
 refine wsr (.pointer (some (eAddr v228 (t166.1.toNat * 7 + 0)))) 15 z z z (by kernel_rfl) (fun w hst => x_index z z underlying54 sizeOf71 hst.sv0 h233 h254) (wsr (.pointer (some (eAddr v228 (t166.1.toNat * 7 + 2)))) 16 z z z (by kernel_rfl) (fun w hst => x_field_e z underlying71 z sizeOf36 z) ?_)
 refine ws_e1 17 (by kernel_rfl) ?_
 refine nxe [] (by kernel_rfl) z z ?_
 clear hst
 intro w hst
 obtain ⟨cs255, hr256, hc257⟩ := hst.og0 hi247
 obtain ⟨v258, v261, rfl, f259, f262, -⟩ := hr256
 obtain ⟨w264, hr265, hst⟩ := hst.own_store (P := prog) (t := 36) (y := ({ session := ({ session := x231.session, seq := a2, r := x231.r } : session_row).session, seq := ({ session := x231.session, seq := a2, r := x231.r } : session_row).seq, r := a3 } : session_row)) hi247 2 (.agg #[I6 a3.E, U6 a3.Epoch, U6 a3.Index, r3_0, r3_1]) sizeOf36 (Nat.le_of_ble_eq_true z) (oC z (oC z (oC z (oC (one_of_sliceV (ro_sliceV f3_0)) (oC (one_of_sliceV (ro_sliceV f3_1)) oN))))) (by rintro _ ⟨u267, u268, rfl, f269, f270, o271, o272⟩; exact ⟨_, _, rfl, f3_0, f3_1, one_of_sliceV (ro_sliceV f3_0), one_of_sliceV (ro_sliceV f3_1)⟩)
 have hi266 := set_get hi247 ({ session := ({ session := x231.session, seq := a2, r := x231.r } : session_row).session, seq := ({ session := x231.session, seq := a2, r := x231.r } : session_row).seq, r := a3 } : session_row)
 have h273 := set_lt h254 t166.1.toNat ({ session := ({ session := x231.session, seq := a2, r := x231.r } : session_row).session, seq := ({ session := x231.session, seq := a2, r := x231.r } : session_row).seq, r := a3 } : session_row)
 refine we_unit z (x_unit hr265) ?_
 refine ws_next (pend' := []) hst (by kernel_rfl) pk_nil ?_
 refine ws_nil ?_
 intro w hst
 refine tn (wp_seq (wrl (wv (.int .i64 (0:Int)) z z z (wl_nil (tn (wp_ret ?_))))))
 replace hst := hst.pull1
 replace hst := at_session_Table_close (pv := Pt b162 0) (x := ({ l := ((z221.l.set t166.1.toNat ({ session := x231.session, seq := a2, r := x231.r } : session_row)).set t166.1.toNat ({ session := ({ session := x231.session, seq := a2, r := x231.r } : session_row).session, seq := ({ session := x231.session, seq := a2, r := x231.r } : session_row).seq, r := a3 } : session_row)) } : session_Table)) hst z
 replace hst := objO_some hst
 obtain rfl := some_inj hm
 refine post_ret (vs := [Zi]) results12 (rvs_cons (rv_tmp z) rvs_nil) ?_
 exact ⟨z, hst.keep1⟩
}
}
}
}
}

theorem session_Table_Get_ref {w0 w : World} {I : HL} {R : SP} {a0 : (Option session_Table)} {p0 : Value} {a1 : Int} {a2 : Int}  (hst : St w0 w I [objO at_session_Table p0 a0] R) {r : (api_Reply × Int)} (hm : session_Table_Get a0 a1 a2 = some r) :
  Calls prog 14 #[p0, U6 a1, U6 a2] w fun e w' => ∃ (I' : HL) (q0_0 : Value) (q0_1 : Value), e = .returned (.tuple #[.agg #[I6 r.1.E, U6 r.1.Epoch, U6 r.1.Index, q0_0, q0_1], I6 r.2]) ∧ I.le I' ∧ Ro ty_api_Got I' q0_0 r.1.Gots ∧ Ro (tySl ty_api_Pair) I' q0_1 r.1.Scans ∧ St w0 w' I' [objO at_session_Table p0 a0] R := by {
 rcases a0 with _ | o0
 {
 obtain ⟨rfl, hst'⟩ := objO_none hst
 clear hst
 have hst := hst'
 clear hst'
 dsimp only [session_Table_Get] at hm
 refine calls_start (args := [.pointer none, U6 a1, U6 a2]) func14 z ntmps14 (Nat.le_of_ble_eq_true z) ?_
 have hI0 := HL.le.refl I
 refine wp_seq (wrl ?_)
 obtain ⟨b102, w103, ew104, eb105, hst⟩ := hst.box [Zi, Zu, Zu, Zs, Zs] 36
 refine wl_run (v := Pt b102 0) (w' := w103) z z (x_al (by kernel_rfl) ew104 eb105) ?_
 refine wv (.int .i64 (0:Int)) z z z (wl_nil (tn (wp_seq (wrl (wv (.pointer none) z z z (wv (.int .u64 a1) z z z ?_))))))
 replace hst := hst.objO_nil at_session_Table
 obtain ⟨t108, ht109, hm⟩ := bind_some hm
 refine wc call23 [.pointer none, U6 a1] z z z ?_
 refine (session_Table_find_ref hst.to1 ht109).mono ?_
 rintro _ w110 ⟨rfl, hst⟩
 refine ⟨_, z, ?_⟩
 replace hst := hst.of1
 refine wv (.tuple #[I6 t108.1, .bool t108.2]) z z z (wv (.int .i64 t108.1) z z z (wv (.bool t108.2) z z z (wv (.int .i64 t108.1) z z z (wv (.bool t108.2) z z z (wl_nil (tn (wp_seq (wp_block (wp_seq (wrl (wv (.bool t108.2) z z z (wv (.bool (!t108.2)) z z z (wv (.bool (!t108.2)) z z z ?_)))))))))))))
 refine bsplit (!t108.2) (fun hc113 => ?_) (fun hc113 => ?_)
 {
 replace hm := bif_t hc113 hm
 refine wo hc113 z z z z z z (wo hc113 z z z z z z (wo hc113 z z z z z z (wo hc113 z z z z z z (wo hc113 z z z z z z (wo hc113 z z z z z z (wo hc113 z z z z z z (wo hc113 z z z z z z (wo hc113 z z z z z z (wo hc113 z z z z z z (wv (.bool true) z z (x_pick_t hc113 z z) (wv (.bool true) z z z (wl_nil (tn ?_)))))))))))))
 refine wp_ift z ?_
 refine wp_seq (wrl (wv (.agg #[Zi, Zu, Zu, Zs, Zs]) z z (by kernel_rfl) ?_))
 replace hst := hst.pull1
 obtain ⟨w116, hr117, hst⟩ := hst.bx [Zi, Zu, Zu, Zs, Zs] sizeOf36 z (oC z (oC z (oC z (oC z (oC z oN))))) (by kernel_rfl)
 refine wl_unit z z (x_unit hr117) ?_
 refine wv (.int .i64 (2:Int)) z z z (wl_nil (tn (wp_ret (blk_r (then_r ?_)))))
 have f118 : Ro ty_api_Got I (.slice none 0 0) [] := ro_nil
 have f119 : Ro (tySl ty_api_Pair) I (.slice none 0 0) [] := ro_nil
 replace hst := hst.objO_nil at_session_Table
 obtain rfl := some_inj hm
 refine post_ret (vs := [.agg #[Zi, Zu, Zu, Zs, Zs], I6 (2:Int)]) results14 (rvs_cons (rv_cell (cs := [Zi, Zu, Zu, Zs, Zs]) z isAgg36 sizeOf36 (hst.bcs1 0 z)) (rvs_cons (rv_tmp z) rvs_nil)) ?_
 exact ⟨_, Zs, Zs, z, hI0, f118, f119, hst.keep1⟩
}
 {
 replace hm := bif_f hc113 hm
 refine wv (.pointer none) ((wanted_eq z z z (cvb hc113)).trans z) z z ?_
 cases hm
}
}
 {
 replace hst := objO_get hst
 dsimp only [session_Table_Get] at hm
 refine calls_start (args := [p0, U6 a1, U6 a2]) func14 z ntmps14 (Nat.le_of_ble_eq_true z) ?_
 have hI0 := HL.le.refl I
 refine wp_seq (wrl ?_)
 obtain ⟨b122, w123, ew124, eb125, hst⟩ := hst.box [Zi, Zu, Zu, Zs, Zs] 36
 refine wl_run (v := Pt b122 0) (w' := w123) z z (x_al (by kernel_rfl) ew124 eb125) ?_
 refine wv (.int .i64 (0:Int)) z z z (wl_nil (tn (wp_seq (wrl (wv (p0) z z z (wv (.int .u64 a1) z z z ?_))))))
 replace hst := hst.pull1
 replace hst := objO_some hst
 obtain ⟨t127, ht128, hm⟩ := bind_some hm
 refine wc call23 [p0, U6 a1] z z z ?_
 refine (session_Table_find_ref hst.to1 ht128).mono ?_
 rintro _ w129 ⟨rfl, hst⟩
 refine ⟨_, z, ?_⟩
 replace hst := hst.of1
 replace hst := objO_get hst
 refine wv (.tuple #[I6 t127.1, .bool t127.2]) z z z (wv (.int .i64 t127.1) z z z (wv (.bool t127.2) z z z (wv (.int .i64 t127.1) z z z (wv (.bool t127.2) z z z (wl_nil (tn (wp_seq (wp_block (wp_seq (wrl (wv (.bool t127.2) z z z (wv (.bool (!t127.2)) z z z (wv (.bool (!t127.2)) z z z ?_)))))))))))))
 refine bsplit (!t127.2) (fun hc132 => ?_) (fun hc132 => ?_)
 {
 replace hm := bif_t hc132 hm
 refine wo hc132 z z z z z z (wo hc132 z z z z z z (wo hc132 z z z z z z (wo hc132 z z z z z z (wo hc132 z z z z z z (wo hc132 z z z z z z (wo hc132 z z z z z z (wo hc132 z z z z z z (wo hc132 z z z z z z (wo hc132 z z z z z z (wv (.bool true) z z (x_pick_t hc132 z z) (wv (.bool true) z z z (wl_nil (tn ?_)))))))))))))
 refine wp_ift z ?_
 refine wp_seq (wrl (wv (.agg #[Zi, Zu, Zu, Zs, Zs]) z z (by kernel_rfl) ?_))
 replace hst := hst.pull1
 obtain ⟨w135, hr136, hst⟩ := hst.bx [Zi, Zu, Zu, Zs, Zs] sizeOf36 z (oC z (oC z (oC z (oC z (oC z oN))))) (by kernel_rfl)
 refine wl_unit z z (x_unit hr136) ?_
 refine wv (.int .i64 (2:Int)) z z z (wl_nil (tn (wp_ret (blk_r (then_r ?_)))))
 have f137 : Ro ty_api_Got I (.slice none 0 0) [] := ro_nil
 have f138 : Ro (tySl ty_api_Pair) I (.slice none 0 0) [] := ro_nil
 replace hst := hst.pull1
 replace hst := objO_some hst
 obtain rfl := some_inj hm
 refine post_ret (vs := [.agg #[Zi, Zu, Zu, Zs, Zs], I6 (2:Int)]) results14 (rvs_cons (rv_cell (cs := [Zi, Zu, Zu, Zs, Zs]) z isAgg36 sizeOf36 (hst.bcs1 0 z)) (rvs_cons (rv_tmp z) rvs_nil)) ?_
 exact ⟨_, Zs, Zs, z, hI0, f137, f138, hst.keep1⟩
}
 {
 replace hm := bif_f hc132 hm
 refine wv (p0) ((wanted_eq z z z (cvb hc132)).trans z) z z ?_
 obtain ⟨b139, v140, rfl, hst'⟩ := at_session_Table_open hst
 clear hst
 have hst := hst'
 clear hst'
 refine wv (Pt b139 0) ((wanted_eq z z z (cvb hc132)).trans z) z z (wv (Pt b139 0) ((wanted_eq z z z (cvb hc132)).trans z) z (x_field z underlying56 z sizeOf54 z) (wv (v140) ((wanted_eq z z z (cvb hc132)).trans z) z (x_load z isAgg54 (hst.bc0 z)) (wv (.int .i64 t127.1) ((wanted_eq z z z (cvb hc132)).trans z) z z ?_)))
 obtain ⟨x142, hx143, hm⟩ := bind_some hm
 obtain ⟨h144, h145, hi146⟩ := geto_some hx143
 refine wv (.pointer (some (eAddr v140 (t127.1.toNat * 7 + 0)))) ((wanted_eq z z z (cvb hc132)).trans z) z (x_index z z underlying54 sizeOf71 hst.sv1 h144 h145) (wv (.pointer (some (eAddr v140 (t127.1.toNat * 7 + 1)))) ((wanted_eq z z z (cvb hc132)).trans z) z (x_field_e z underlying71 z sizeOf30 z) ?_)
 obtain ⟨cs147, hr148, hc149⟩ := hst.og1 hi146
 obtain ⟨v150, v153, rfl, f151, f154, -⟩ := hr148
 refine wv (.int .u64 x142.seq) ((wanted_eq z z z (cvb hc132)).trans z) z (x_load z isAgg30 (hc149 1 _ z)) (wv (.int .u64 a2) ((wanted_eq z z z (cvb hc132)).trans z) z z (wv (.bool (decide (x142.seq < a2))) ((wanted_eq z z z (cvb hc132)).trans z) z z (wv (.bool (decide (x142.seq < a2))) z z (x_pick_f hc132 z z) (wv (.bool (decide (x142.seq < a2))) z z z (wl_nil (tn ?_))))))
 refine bsplit (decide (x142.seq < a2)) (fun hc156 => ?_) (fun hc156 => ?_)
 {
 replace hm := bif_t hc156 hm
 refine wp_ift (cvb hc156) ?_
 refine wp_seq (wrl (wv (.agg #[Zi, Zu, Zu, Zs, Zs]) z z (by kernel_rfl) ?_))
 replace hst := hst.pull2
 obtain ⟨w159, hr160, hst⟩ := hst.bx [Zi, Zu, Zu, Zs, Zs] sizeOf36 z (oC z (oC z (oC z (oC z (oC z oN))))) (by kernel_rfl)
 refine wl_unit z z (x_unit hr160) ?_
 refine wv (.int .i64 (2:Int)) z z z (wl_nil (tn (wp_ret (blk_r (then_r ?_)))))
 have f161 : Ro ty_api_Got I (.slice none 0 0) [] := ro_nil
 have f162 : Ro (tySl ty_api_Pair) I (.slice none 0 0) [] := ro_nil
 replace hst := hst.pull2.pull2
 replace hst := at_session_Table_close (pv := Pt b139 0) (x := o0) hst z
 replace hst := objO_some hst
 obtain rfl := some_inj hm
 refine post_ret (vs := [.agg #[Zi, Zu, Zu, Zs, Zs], I6 (2:Int)]) results14 (rvs_cons (rv_cell (cs := [Zi, Zu, Zu, Zs, Zs]) z isAgg36 sizeOf36 (hst.bcs1 0 z)) (rvs_cons (rv_tmp z) rvs_nil)) ?_
 exact ⟨_, Zs, Zs, z, hI0, f161, f162, hst.keep1⟩
}
 {
 replace hm := bif_f hc156 hm
 refine wp_iff (cvb hc156) ?_
 refine wp_seq (wrl (wv (Pt b139 0) z z z (wv (Pt b139 0) z z z (wv (Pt b139 0) z z (x_field z underlying56 z sizeOf54 z) (wv (v140) z z (x_load z isAgg54 (hst.bc0 z)) (wv (.int .i64 t127.1) z z z (wv (.pointer (some (eAddr v140 (t127.1.toNat * 7 + 0)))) z z (x_index z z underlying54 sizeOf71 hst.sv1 h144 h145) (wv (.pointer (some (eAddr v140 (t127.1.toNat * 7 + 1)))) z z (x_field_e z underlying71 z sizeOf30 z) (wv (.int .u64 x142.seq) z z (x_load z isAgg30 (hc149 1 _ z)) (wv (.int .u64 a2) z z z (wv (.bool (decide (x142.seq > a2))) z z z (wv (.bool (decide (x142.seq > a2))) z z z (wl_nil (tn ?_))))))))))))))
 refine bsplit (decide (x142.seq > a2)) (fun hc163 => ?_) (fun hc163 => ?_)
 {
 replace hm := bif_t hc163 hm
 refine wp_ift (cvb hc163) ?_
 refine wp_seq (wrl (wv (.agg #[Zi, Zu, Zu, Zs, Zs]) z z (by kernel_rfl) ?_))
 replace hst := hst.pull2
 obtain ⟨w166, hr167, hst⟩ := hst.bx [Zi, Zu, Zu, Zs, Zs] sizeOf36 z (oC z (oC z (oC z (oC z (oC z oN))))) (by kernel_rfl)
 refine wl_unit z z (x_unit hr167) ?_
 refine wv (.int .i64 (10:Int)) z z z (wl_nil (tn (wp_ret (blk_r (then_r ?_)))))
 have f168 : Ro ty_api_Got I (.slice none 0 0) [] := ro_nil
 have f169 : Ro (tySl ty_api_Pair) I (.slice none 0 0) [] := ro_nil
 replace hst := hst.pull2.pull2
 replace hst := at_session_Table_close (pv := Pt b139 0) (x := o0) hst z
 replace hst := objO_some hst
 obtain rfl := some_inj hm
 refine post_ret (vs := [.agg #[Zi, Zu, Zu, Zs, Zs], I6 (10:Int)]) results14 (rvs_cons (rv_cell (cs := [Zi, Zu, Zu, Zs, Zs]) z isAgg36 sizeOf36 (hst.bcs1 0 z)) (rvs_cons (rv_tmp z) rvs_nil)) ?_
 exact ⟨_, Zs, Zs, z, hI0, f168, f169, hst.keep1⟩
}
 {
 replace hm := bif_f hc163 hm
 refine wp_iff (cvb hc163) ?_
 refine wp_skip (blk_n (tn (wp_seq (wrl ?_))))
 refine wv (Pt b139 0) z z z (wv (Pt b139 0) z z z (wv (Pt b139 0) z z (x_field z underlying56 z sizeOf54 z) (wv (v140) z z (x_load z isAgg54 (hst.bc0 z)) (wv (.int .i64 t127.1) z z z (wv (.pointer (some (eAddr v140 (t127.1.toNat * 7 + 0)))) z z (x_index z z underlying54 sizeOf71 hst.sv1 h144 h145) (wv (.pointer (some (eAddr v140 (t127.1.toNat * 7 + 2)))) z z (x_field_e z underlying71 z sizeOf36 z) (wv (.agg #[I6 x142.r.E, U6 x142.r.Epoch, U6 x142.r.Index, v150, v153]) z z (x_loadN (cs := [I6 x142.r.E, U6 x142.r.Epoch, U6 x142.r.Index, v150, v153]) z isAgg36 sizeOf36 (eCells (o := 2) hc149 z)) ?_)))))))
 replace hst := hst.pull2
 obtain ⟨w170, hr171, hst⟩ := hst.bx [I6 x142.r.E, U6 x142.r.Epoch, U6 x142.r.Index, v150, v153] sizeOf36 z (oC z (oC z (oC z (oC (one_of_sliceV (ro_sliceV f151)) (oC (one_of_sliceV (ro_sliceV f154)) oN))))) (by kernel_rfl)
 refine wl_unit z z (x_unit hr171) ?_
 refine wv (.int .i64 (0:Int)) z z z (wl_nil (tn (wp_ret ?_)))
 replace hst := hst.pull2.pull2
 replace hst := at_session_Table_close (pv := Pt b139 0) (x := o0) hst z
 replace hst := objO_some hst
 obtain rfl := some_inj hm
 refine post_ret (vs := [.agg #[I6 x142.r.E, U6 x142.r.Epoch, U6 x142.r.Index, v150, v153], Zi]) results14 (rvs_cons (rv_cell (cs := [I6 x142.r.E, U6 x142.r.Epoch, U6 x142.r.Index, v150, v153]) z isAgg36 sizeOf36 (hst.bcs1 0 z)) (rvs_cons (rv_tmp z) rvs_nil)) ?_
 exact ⟨_, v150, v153, z, hI0, f151, f154, hst.keep1⟩
}
}
}
}
}

theorem law14_awake_ref {w0 w : World} {I : HL} {R : SP}   (hst : St w0 w I [] R) {r : (Bool)} (hm : law14_awake = some r) :
  Calls prog 7 #[] w fun e w' => ∃ (I' : HL), e = .returned (.bool r) ∧ I.le I' ∧ St w0 w' I' [] R := by {
 unfold law14_awake at hm
 refine calls_start (args := []) func7 z ntmps7 (Nat.le_of_ble_eq_true z) ?_
 have hI0 := HL.le.refl I
 refine wp_seq (wrl (wv (.bool false) z z z (wl_nil (tn (wp_seq (wrl ?_))))))
 obtain ⟨t97, ht98, hm⟩ := bind_some hm
 refine wc call8 [] z z z ?_
 refine (session_New_ref hst.to0 ht98).mono ?_
 rintro _ w99 ⟨v102, rfl, hst⟩
 refine ⟨_, z, ?_⟩
 replace hst := hst.of1
 refine wv (v102) z z z (wl_nil (tn (wp_seq (wp_seq (wrl (wv (v102) z z z (wv (.agg #[Zi, U6 (9:Int), Zu, Zs, Zs]) z z (by kernel_rfl) ?_)))))))
 replace hst := objO_some hst
 have f106 : Ro ty_api_Got I (.slice none 0 0) [] := ro_nil
 have f107 : Ro (tySl ty_api_Pair) I (.slice none 0 0) [] := ro_nil
 obtain ⟨t108, ht109, hm⟩ := bind_some hm
 refine wc call12 [v102, U6 (1:Int), U6 (2:Int), .agg #[Zi, U6 (9:Int), Zu, Zs, Zs]] z z z ?_
 refine (session_Table_Put_ref f106 f107 hst.to1 ht109).mono ?_
 rintro _ w110 ⟨rfl, hst⟩
 refine ⟨_, z, ?_⟩
 replace hst := hst.of1
 rcases he114 : t108.2 with _ | y113
 · rw [he114] at hm; cases hm
 rw [he114] at hm hst; dsimp only at hm; replace hst := objO_get hst
 refine wv (.bool (t108.1 != (0:Int))) z z z (wl_nil (tn ?_))
 refine bsplit (t108.1 != (0:Int)) (fun hc115 => ?_) (fun hc115 => ?_)
 {
 replace hm := bif_t hc115 hm
 refine wp_ift (cvb hc115) ?_
 refine wp_seq (wrl (wv (.bool false) z z z (wl_nil (tn (wp_ret (then_r ?_))))))
 obtain rfl := some_inj hm
 refine post_ret (vs := [.bool false]) results7 (rvs_cons (rv_tmp z) rvs_nil) ?_
 exact ⟨_, z, hI0, hst.keep0⟩
}
 {
 replace hm := bif_f hc115 hm
 refine wp_iff (cvb hc115) ?_
 refine wp_skip (tn (wp_seq (wrl ?_)))
 refine wv (v102) z z z ?_
 replace hst := objO_some hst
 obtain ⟨t116, ht117, hm⟩ := bind_some hm
 refine wc call14 [v102, U6 (1:Int), U6 (2:Int)] z z z ?_
 refine (session_Table_Get_ref hst.to1 ht117).mono ?_
 rintro _ w118 ⟨I119, v121, v124, rfl, hI120, f123, f126, hst⟩
 refine ⟨_, z, ?_⟩
 replace hst := hst.of1
 replace f106 := f106.mono (ro_le hI120)
 replace f107 := f107.mono (ro_le hI120)
 replace hI0 := hI0.trans hI120
 replace hst := objO_get hst
 refine wv (.tuple #[.agg #[I6 t116.1.E, U6 t116.1.Epoch, U6 t116.1.Index, v121, v124], I6 t116.2]) z z z (wv (.agg #[I6 t116.1.E, U6 t116.1.Epoch, U6 t116.1.Index, v121, v124]) z z z (wv (.int .i64 t116.2) z z z ?_))
 obtain ⟨b129, w130, ew131, eb132, hst⟩ := hst.box [Zi, Zu, Zu, Zs, Zs] 36
 refine wl_run (v := Pt b129 0) (w' := w130) z z (x_al (by kernel_rfl) ew131 eb132) ?_
 obtain ⟨w134, hr135, hst⟩ := hst.bx [I6 t116.1.E, U6 t116.1.Epoch, U6 t116.1.Index, v121, v124] sizeOf36 z (oC z (oC z (oC z (oC (one_of_sliceV (ro_sliceV f123)) (oC (one_of_sliceV (ro_sliceV f126)) oN))))) (by kernel_rfl)
 refine wl_unit z z (x_unit hr135) ?_
 refine wv (.int .i64 t116.2) z z z (wl_nil (tn (wp_seq (wrl (wv (v102) z z z ?_)))))
 replace hst := hst.pull1
 replace hst := objO_some hst
 obtain ⟨t136, ht137, hm⟩ := bind_some hm
 refine wc call14 [v102, U6 (1:Int), U6 (1:Int)] z z z ?_
 refine (session_Table_Get_ref hst.to1 ht137).mono ?_
 rintro _ w138 ⟨I139, v141, v144, rfl, hI140, f143, f146, hst⟩
 refine ⟨_, z, ?_⟩
 replace hst := hst.of1
 replace f106 := f106.mono (ro_le hI140)
 replace f107 := f107.mono (ro_le hI140)
 replace f123 := f123.mono (ro_le hI140)
 replace f126 := f126.mono (ro_le hI140)
 replace hI0 := hI0.trans hI140
 replace hst := objO_get hst
 refine wv (.tuple #[.agg #[I6 t136.1.E, U6 t136.1.Epoch, U6 t136.1.Index, v141, v144], I6 t136.2]) z z z (wv (.agg #[I6 t136.1.E, U6 t136.1.Epoch, U6 t136.1.Index, v141, v144]) z z z (wv (.int .i64 t136.2) z z z ?_))
 obtain ⟨b149, w150, ew151, eb152, hst⟩ := hst.box [Zi, Zu, Zu, Zs, Zs] 36
 refine wl_run (v := Pt b149 0) (w' := w150) z z (x_al (by kernel_rfl) ew151 eb152) ?_
 obtain ⟨w154, hr155, hst⟩ := hst.bx [I6 t136.1.E, U6 t136.1.Epoch, U6 t136.1.Index, v141, v144] sizeOf36 z (oC z (oC z (oC z (oC (one_of_sliceV (ro_sliceV f143)) (oC (one_of_sliceV (ro_sliceV f146)) oN))))) (by kernel_rfl)
 refine wl_unit z z (x_unit hr155) ?_
 refine wv (.int .i64 t136.2) z z z (wl_nil (tn (wp_seq (wrl (wv (v102) z z z ?_)))))
 replace hst := hst.pull1
 replace hst := objO_some hst
 obtain ⟨t156, ht157, hm⟩ := bind_some hm
 refine wc call14 [v102, U6 (1:Int), U6 (3:Int)] z z z ?_
 refine (session_Table_Get_ref hst.to1 ht157).mono ?_
 rintro _ w158 ⟨I159, v161, v164, rfl, hI160, f163, f166, hst⟩
 refine ⟨_, z, ?_⟩
 replace hst := hst.of1
 replace f106 := f106.mono (ro_le hI160)
 replace f107 := f107.mono (ro_le hI160)
 replace f123 := f123.mono (ro_le hI160)
 replace f126 := f126.mono (ro_le hI160)
 replace f143 := f143.mono (ro_le hI160)
 replace f146 := f146.mono (ro_le hI160)
 replace hI0 := hI0.trans hI160
 replace hst := objO_get hst
 refine wv (.tuple #[.agg #[I6 t156.1.E, U6 t156.1.Epoch, U6 t156.1.Index, v161, v164], I6 t156.2]) z z z (wv (.agg #[I6 t156.1.E, U6 t156.1.Epoch, U6 t156.1.Index, v161, v164]) z z z (wv (.int .i64 t156.2) z z z ?_))
 obtain ⟨b169, w170, ew171, eb172, hst⟩ := hst.box [Zi, Zu, Zu, Zs, Zs] 36
 refine wl_run (v := Pt b169 0) (w' := w170) z z (x_al (by kernel_rfl) ew171 eb172) ?_
 obtain ⟨w174, hr175, hst⟩ := hst.bx [I6 t156.1.E, U6 t156.1.Epoch, U6 t156.1.Index, v161, v164] sizeOf36 z (oC z (oC z (oC z (oC (one_of_sliceV (ro_sliceV f163)) (oC (one_of_sliceV (ro_sliceV f166)) oN))))) (by kernel_rfl)
 refine wl_unit z z (x_unit hr175) ?_
 refine wv (.int .i64 t156.2) z z z (wl_nil (tn (wp_seq (wrl (wv (.int .i64 t116.2) z z z (wv (.bool (t116.2 == (0:Int))) z z z (wv (.bool (t116.2 == (0:Int))) z z z ?_)))))))
 refine bsplit (t116.2 == (0:Int)) (fun hc176 => ?_) (fun hc176 => ?_)
 {
 replace hm := bif_t hc176 hm
 refine wv (Pt b129 1) ((wanted_eq z z z (cvb hc176)).trans z) z (x_field z underlying36 z sizeOf30 z) (wv (.int .u64 t116.1.Epoch) ((wanted_eq z z z (cvb hc176)).trans z) z (x_load z isAgg30 (hst.bc3 z)) (wv (.bool (t116.1.Epoch == (9:Int))) ((wanted_eq z z z (cvb hc176)).trans z) z z (wv (.bool (t116.1.Epoch == (9:Int))) z z (x_pick_t hc176 z z) (wv (.bool (t116.1.Epoch == (9:Int))) z z z ?_))))
 refine bsplit (t116.1.Epoch == (9:Int)) (fun hc177 => ?_) (fun hc177 => ?_)
 {
 replace hm := bif_t hc177 hm
 refine wv (.int .i64 t136.2) ((wanted_eq z z z (cvb hc177)).trans z) z z (wv (.bool (t136.2 == (10:Int))) ((wanted_eq z z z (cvb hc177)).trans z) z z (wv (.bool (t136.2 == (10:Int))) z z (x_pick_t hc177 z z) (wv (.bool (t136.2 == (10:Int))) z z z ?_)))
 refine bsplit (t136.2 == (10:Int)) (fun hc178 => ?_) (fun hc178 => ?_)
 {
 replace hm := bif_t hc178 hm
 refine wv (.int .i64 t156.2) ((wanted_eq z z z (cvb hc178)).trans z) z z (wv (.bool (t156.2 == (2:Int))) ((wanted_eq z z z (cvb hc178)).trans z) z z (wv (.bool (t156.2 == (2:Int))) z z (x_pick_t hc178 z z) (wv (.bool (t156.2 == (2:Int))) z z z (wl_nil (tn (wp_ret ?_))))))
 obtain rfl := some_inj hm
 refine post_ret (vs := [.bool (t156.2 == (2:Int))]) results7 (rvs_cons (rv_tmp z) rvs_nil) ?_
 exact ⟨_, z, hI0, hst.keep0⟩
}
 {
 replace hm := bif_f hc178 hm
 refine wo hc178 z z z z z z (wo hc178 z z z z z z (wv (.bool false) z z (x_pick_f hc178 z z) (wv (.bool false) z z z (wl_nil (tn (wp_ret ?_))))))
 obtain rfl := some_inj hm
 refine post_ret (vs := [.bool false]) results7 (rvs_cons (rv_tmp z) rvs_nil) ?_
 exact ⟨_, z, hI0, hst.keep0⟩
}
}
 {
 replace hm := bif_f hc177 hm
 refine wo hc177 z z z z z z (wo hc177 z z z z z z (wv (.bool false) z z (x_pick_f hc177 z z) (wv (.bool false) z z z (wz z z z z z z (wz z z z z z z (wv (.bool false) z z (x_pick_f z z z) (wv (.bool false) z z z (wl_nil (tn (wp_ret ?_))))))))))
 obtain rfl := some_inj hm
 refine post_ret (vs := [.bool false]) results7 (rvs_cons (rv_tmp z) rvs_nil) ?_
 exact ⟨_, z, hI0, hst.keep0⟩
}
}
 {
 replace hm := bif_f hc176 hm
 refine wo hc176 z z z z z z (wo hc176 z z z z z z (wo hc176 z z z z z z (wv (.bool false) z z (x_pick_f hc176 z z) (wv (.bool false) z z z (wz z z z z z z (wz z z z z z z (wv (.bool false) z z (x_pick_f z z z) (wv (.bool false) z z z (wz z z z z z z (wz z z z z z z (wv (.bool false) z z (x_pick_f z z z) (wv (.bool false) z z z ?_))))))))))))
 refine wl_nil (tn (wp_ret ?_))
 obtain rfl := some_inj hm
 refine post_ret (vs := [.bool false]) results7 (rvs_cons (rv_tmp z) rvs_nil) ?_
 exact ⟨_, z, hI0, hst.keep0⟩
}
}
}

theorem session_Table_Len_ref {w0 w : World} {I : HL} {R : SP} {a0 : (Option session_Table)} {p0 : Value}  (hst : St w0 w I [objO at_session_Table p0 a0] R) {r : (Int)} (hm : session_Table_Len a0 = some r) :
  Calls prog 15 #[p0] w fun e w' => e = .returned (.int .i64 r) ∧ St w0 w' I [objO at_session_Table p0 a0] R := by {
 rcases a0 with _ | o0
 {
 obtain ⟨rfl, hst'⟩ := objO_none hst
 clear hst
 have hst := hst'
 clear hst'
 dsimp only [session_Table_Len] at hm
 refine calls_start (args := [.pointer none]) func15 z ntmps15 (Nat.le_of_ble_eq_true z) ?_
 refine wp_seq (wrl (wv (.int .i64 (0:Int)) z z z (wl_nil (tn (wp_seq (wp_seq (wrl (wv (.pointer none) z z z (wv (.bool true) z z (by kernel_rfl) (wl_nil (tn ?_)))))))))))
 refine wp_ift z ?_
 refine wp_seq (wrl (wv (.int .i64 (0:Int)) z z z (wl_nil (tn (wp_ret (then_r ?_))))))
 replace hst := hst.objO_nil at_session_Table
 obtain rfl := some_inj hm
 refine post_ret (vs := [Zi]) results15 (rvs_cons (rv_tmp z) rvs_nil) ?_
 exact ⟨z, hst.keep1⟩
}
 {
 replace hst := objO_get hst
 dsimp only [session_Table_Len] at hm
 refine calls_start (args := [p0]) func15 z ntmps15 (Nat.le_of_ble_eq_true z) ?_
 refine wp_seq (wrl (wv (.int .i64 (0:Int)) z z z (wl_nil (tn (wp_seq (wp_seq (wrl (wv (p0) z z z ?_))))))))
 obtain ⟨b111, v112, rfl, hst'⟩ := at_session_Table_open hst
 clear hst
 have hst := hst'
 clear hst'
 refine wv (.bool false) z z (by kernel_rfl) (wl_nil (tn ?_))
 refine wp_iff z ?_
 refine wp_skip (tn (wp_seq (wrl ?_)))
 refine wv (Pt b111 0) z z z (wv (Pt b111 0) z z z (wv (Pt b111 0) z z (x_field z underlying56 z sizeOf54 z) (wv (v112) z z (x_load z isAgg54 (hst.bc0 z)) (wv (.int .i64 ((o0.l).length : Int)) z z (x_len z underlying54 hst.sv1) (wv (.int .i64 ((o0.l).length : Int)) z z z (wl_nil (tn (wp_ret ?_))))))))
 replace hst := hst.pull1.pull1
 replace hst := at_session_Table_close (pv := Pt b111 0) (x := o0) hst z
 replace hst := objO_some hst
 obtain rfl := some_inj hm
 refine post_ret (vs := [I6 ((o0.l).length : Int)]) results15 (rvs_cons (rv_tmp z) rvs_nil) ?_
 exact ⟨z, hst.keep1⟩
}
}

theorem session_Table_Last_ref {w0 w : World} {I : HL} {R : SP} {a0 : (Option session_Table)} {p0 : Value} {a1 : Int}  (hst : St w0 w I [objO at_session_Table p0 a0] R) {r : (Int)} (hm : session_Table_Last a0 a1 = some r) :
  Calls prog 16 #[p0, U6 a1] w fun e w' => e = .returned (.int .u64 r) ∧ St w0 w' I [objO at_session_Table p0 a0] R := by {
 rcases a0 with _ | o0
 {
 obtain ⟨rfl, hst'⟩ := objO_none hst
 clear hst
 have hst := hst'
 clear hst'
 dsimp only [session_Table_Last] at hm
 refine calls_start (args := [.pointer none, U6 a1]) func16 z ntmps16 (Nat.le_of_ble_eq_true z) ?_
 refine wp_seq (wrl (wv (.int .u64 (0:Int)) z z z (wl_nil (tn (wp_seq (wrl (wv (.pointer none) z z z (wv (.int .u64 a1) z z z ?_))))))))
 replace hst := hst.objO_nil at_session_Table
 obtain ⟨t164, ht165, hm⟩ := bind_some hm
 refine wc call23 [.pointer none, U6 a1] z z z ?_
 refine (session_Table_find_ref hst.to1 ht165).mono ?_
 rintro _ w166 ⟨rfl, hst⟩
 refine ⟨_, z, ?_⟩
 replace hst := hst.of1
 refine wv (.tuple #[I6 t164.1, .bool t164.2]) z z z (wv (.int .i64 t164.1) z z z (wv (.bool t164.2) z z z (wv (.int .i64 t164.1) z z z (wv (.bool t164.2) z z z (wl_nil (tn (wp_seq (wp_seq (wrl (wv (.bool t164.2) z z z (wv (.bool (!t164.2)) z z z (wl_nil (tn ?_)))))))))))))
 refine bsplit (!t164.2) (fun hc169 => ?_) (fun hc169 => ?_)
 {
 replace hm := bif_t hc169 hm
 refine wp_ift (cvb hc169) ?_
 refine wp_seq (wrl (wv (.int .u64 (0:Int)) z z z (wl_nil (tn (wp_ret (then_r ?_))))))
 replace hst := hst.objO_nil at_session_Table
 obtain rfl := some_inj hm
 refine post_ret (vs := [Zu]) results16 (rvs_cons (rv_tmp z) rvs_nil) ?_
 exact ⟨z, hst.keep1⟩
}
 {
 replace hm := bif_f hc169 hm
 refine wp_iff (cvb hc169) ?_
 refine wp_skip (tn (wp_seq (wrl ?_)))
 refine wv (.pointer none) z z z ?_
 cases hm
}
}
 {
 replace hst := objO_get hst
 dsimp only [session_Table_Last] at hm
 refine calls_start (args := [p0, U6 a1]) func16 z ntmps16 (Nat.le_of_ble_eq_true z) ?_
 refine wp_seq (wrl (wv (.int .u64 (0:Int)) z z z (wl_nil (tn (wp_seq (wrl (wv (p0) z z z (wv (.int .u64 a1) z z z ?_))))))))
 replace hst := objO_some hst
 obtain ⟨t170, ht171, hm⟩ := bind_some hm
 refine wc call23 [p0, U6 a1] z z z ?_
 refine (session_Table_find_ref hst.to1 ht171).mono ?_
 rintro _ w172 ⟨rfl, hst⟩
 refine ⟨_, z, ?_⟩
 replace hst := hst.of1
 replace hst := objO_get hst
 refine wv (.tuple #[I6 t170.1, .bool t170.2]) z z z (wv (.int .i64 t170.1) z z z (wv (.bool t170.2) z z z (wv (.int .i64 t170.1) z z z (wv (.bool t170.2) z z z (wl_nil (tn (wp_seq (wp_seq (wrl (wv (.bool t170.2) z z z (wv (.bool (!t170.2)) z z z (wl_nil (tn ?_)))))))))))))
 refine bsplit (!t170.2) (fun hc175 => ?_) (fun hc175 => ?_)
 {
 replace hm := bif_t hc175 hm
 refine wp_ift (cvb hc175) ?_
 refine wp_seq (wrl (wv (.int .u64 (0:Int)) z z z (wl_nil (tn (wp_ret (then_r ?_))))))
 replace hst := objO_some hst
 obtain rfl := some_inj hm
 refine post_ret (vs := [Zu]) results16 (rvs_cons (rv_tmp z) rvs_nil) ?_
 exact ⟨z, hst.keep1⟩
}
 {
 replace hm := bif_f hc175 hm
 refine wp_iff (cvb hc175) ?_
 refine wp_skip (tn (wp_seq (wrl ?_)))
 refine wv (p0) z z z ?_
 obtain ⟨b176, v177, rfl, hst'⟩ := at_session_Table_open hst
 clear hst
 have hst := hst'
 clear hst'
 refine wv (Pt b176 0) z z z (wv (Pt b176 0) z z (x_field z underlying56 z sizeOf54 z) (wv (v177) z z (x_load z isAgg54 (hst.bc0 z)) (wv (.int .i64 t170.1) z z z ?_)))
 obtain ⟨x179, hx180, hm⟩ := bind_some hm
 obtain ⟨h181, h182, hi183⟩ := geto_some hx180
 refine wv (.pointer (some (eAddr v177 (t170.1.toNat * 7 + 0)))) z z (x_index z z underlying54 sizeOf71 hst.sv1 h181 h182) (wv (.pointer (some (eAddr v177 (t170.1.toNat * 7 + 1)))) z z (x_field_e z underlying71 z sizeOf30 z) ?_)
 obtain ⟨cs184, hr185, hc186⟩ := hst.og1 hi183
 obtain ⟨v187, v190, rfl, f188, f191, -⟩ := hr185
 refine wv (.int .u64 x179.seq) z z (x_load z isAgg30 (hc186 1 _ z)) (wv (.int .u64 x179.seq) z z z (wl_nil (tn (wp_ret ?_))))
 replace hst := hst.pull1.pull1
 replace hst := at_session_Table_close (pv := Pt b176 0) (x := o0) hst z
 replace hst := objO_some hst
 obtain rfl := some_inj hm
 refine post_ret (vs := [U6 x179.seq]) results16 (rvs_cons (rv_tmp z) rvs_nil) ?_
 exact ⟨z, hst.keep1⟩
}
}
}

theorem ref11_SameGots_ref {w0 w : World} {I : HL} {R : SP} {a0 : (List api_Got)} {r0_0 : Value} {a1 : (List api_Got)} {r1_0 : Value} (f0_0 : Rd ty_api_Got R I r0_0 a0) (f1_0 : Rd ty_api_Got R I r1_0 a1) (hst : St w0 w I [] R) {r : (Bool)} (hm : ref11_SameGots a0 a1 = some r) :
  Calls prog 25 #[r0_0, r1_0] w fun e w' => e = .returned (.bool r) ∧ St w0 w' I [] R := by {
 unfold ref11_SameGots at hm
 refine calls_start (args := [r0_0, r1_0]) func25 z ntmps25 (Nat.le_of_ble_eq_true z) ?_
 refine wp_seq (wrl (wv (.bool false) z z z (wl_nil (tn (wp_seq (wp_seq (wrl (wv (r0_0) z z z (wv (.int .i64 ((a0).length : Int)) z z (x_len z underlying33 (rd_sliceV f0_0)) (wv (r1_0) z z z (wv (.int .i64 ((a1).length : Int)) z z (x_len z underlying33 (rd_sliceV f1_0)) (wv (.bool (((a0).length : Int) != ((a1).length : Int))) z z z (wl_nil (tn ?_))))))))))))))
 refine bsplit (((a0).length : Int) != ((a1).length : Int)) (fun hc245 => ?_) (fun hc245 => ?_)
 {
 replace hm := bif_t hc245 hm
 refine wp_ift (cvb hc245) ?_
 refine wp_seq (wrl (wv (.bool false) z z z (wl_nil (tn (wp_ret (then_r ?_))))))
 obtain rfl := some_inj hm
 refine post_ret (vs := [.bool false]) results25 (rvs_cons (rv_tmp z) rvs_nil) ?_
 exact ⟨z, hst.keep0⟩
}
 {
 replace hm := bif_f hc245 hm
 refine wp_iff (cvb hc245) ?_
 refine wp_skip (tn (wp_seq (wp_seq (wrl ?_))))
 refine wv (.int .i64 (0:Int)) z z z (wl_nil (tn (wp_block ?_)))
 obtain ⟨n299, hm⟩ := loopO_some hm
 refine wp_loop_n (fun n a w => ∃ (z297 : Int) (σ298 : Nat → Value), loopN (ref11_SameGots_l0 a0 a1) n z297 = some r ∧ a = Fr 43 (upd (upd (upd σ298 0 (r0_0)) 1 (r1_0)) 5 (.int .i64 z297)) ∧ St w0 w I [] R) n299 ⟨(0:Int), _, hm, (fu 0 r0_0 z (fu 1 r1_0 z (fu 5 (.int .i64 (0:Int)) z z))), hst⟩ ?_
 rintro n305 _ w300 ⟨z297, σ298, hm, rfl, hst⟩
 obtain ⟨n302, y303, rfl, hm, hx304⟩ := loopN_some hm
 dsimp only [ref11_SameGots_l0] at hm
 refine wp_seq (wp_seq (wrl (wv (.int .i64 z297) z z z (wv (r0_0) z z z (wv (.int .i64 ((a0).length : Int)) z z (x_len z underlying33 (rd_sliceV f0_0)) (wv (.bool (decide (z297 < ((a0).length : Int)))) z z z (wl_nil (tn ?_))))))))
 refine bsplit (decide (z297 < ((a0).length : Int))) (fun hc306 => ?_) (fun hc306 => ?_)
 {
 replace hm := bif_t hc306 hm
 refine wp_ift (cvb hc306) ?_
 refine wp_skip (tn (wp_seq (wp_block (wp_seq ?_))))
 refine wq_regionS hst Try.mixed (by kernel_rfl) ?_
 refine wq_run (v := r0_0) z z (fun w hst => z) ?_
 refine wq_run (v := .int .i64 z297) z z (fun w hst => z) ?_
 obtain ⟨x307, hx308, hm⟩ := bind_some hm
 obtain ⟨h309, h310, hi311⟩ := geto_some hx308
 refine wq_run (v := .pointer (some (eAddr r0_0 (z297.toNat * 2 + 0)))) z z (fun w hst => x_index z z underlying33 sizeOf59 (rd_sliceV f0_0) h309 h310) ?_
 refine wq_run (v := .pointer (some (eAddr r0_0 (z297.toNat * 2 + 0)))) z z (fun w hst => x_field_e z underlying59 z sizeOf4 z) ?_
 obtain ⟨cs312, hr313, hc314⟩ := Rd.getF f0_0 hi311
 obtain ⟨v315, rfl, f316, -⟩ := hr313
 refine wq_run (v := .bool x307.Has) z z (fun w hst => x_load z isAgg4 ((hc314 (HL.le.refl _) hst) 0 _ z)) ?_
 refine wq_run (v := r1_0) z z (fun w hst => z) ?_
 refine wq_run (v := .int .i64 z297) z z (fun w hst => z) ?_
 obtain ⟨x318, hx319, hm⟩ := bind_some hm
 obtain ⟨h320, h321, hi322⟩ := geto_some hx319
 refine wq_run (v := .pointer (some (eAddr r1_0 (z297.toNat * 2 + 0)))) z z (fun w hst => x_index z z underlying33 sizeOf59 (rd_sliceV f1_0) h320 h321) ?_
 refine wq_run (v := .pointer (some (eAddr r1_0 (z297.toNat * 2 + 0)))) z z (fun w hst => x_field_e z underlying59 z sizeOf4 z) ?_
 obtain ⟨cs323, hr324, hc325⟩ := Rd.getF f1_0 hi322
 obtain ⟨v326, rfl, f327, -⟩ := hr324
 refine wq_run (v := .bool x318.Has) z z (fun w hst => x_load z isAgg4 ((hc325 (HL.le.refl _) hst) 0 _ z)) ?_
 refine wq_run (v := .bool (!(x307.Has == x318.Has))) z z (fun w hst => by kernel_rfl) ?_
 refine wq_run (v := .bool (!(x307.Has == x318.Has))) z z (fun w hst => z) ?_
 refine bsplit (!(x307.Has == x318.Has)) (fun hc329 => ?_) (fun hc329 => ?_)
 {
 replace hm := bif_t hc329 hm
 refine wq_off ((wanted_eq z z z (cvb hc329)).trans z) z ?_
 refine wq_off ((wanted_eq z z z (cvb hc329)).trans z) z ?_
 refine wq_off ((wanted_eq z z z (cvb hc329)).trans z) z ?_
 refine wq_off ((wanted_eq z z z (cvb hc329)).trans z) z ?_
 refine wq_off ((wanted_eq z z z (cvb hc329)).trans z) z ?_
 refine wq_off ((wanted_eq z z z (cvb hc329)).trans z) z ?_
 refine wq_off ((wanted_eq z z z (cvb hc329)).trans z) z ?_
 refine wq_off ((wanted_eq z z z (cvb hc329)).trans z) z ?_
 refine wq_off ((wanted_eq z z z (cvb hc329)).trans z) z ?_
 refine wq_off ((wanted_eq z z z (cvb hc329)).trans z) z ?_
 refine wq_off ((wanted_eq z z z (cvb hc329)).trans z) z ?_
 refine wq_off ((wanted_eq z z z (cvb hc329)).trans z) z ?_
 refine wq_off ((wanted_eq z z z (cvb hc329)).trans z) z ?_
 refine wq_run (v := .bool true) z z (fun w hst => x_pick_t hc329 z z) ?_
 refine wq_nil ?_
 intro w hst
 refine tn ?_
 refine wp_ift z ?_
 refine wp_seq (wrl (wv (.bool false) z z z (wl_nil (tn (wp_ret (blk_r (then_r (then_r ?_))))))))
 replace hm := inr_up hm hx304
 refine blk_r (then_r ?_)
 obtain rfl := some_inj hm
 refine post_ret (vs := [.bool false]) results25 (rvs_cons (rv_tmp z) rvs_nil) ?_
 exact ⟨z, hst.keep0⟩
}
 {
 replace hm := bif_f hc329 hm
 refine wq_run (v := r0_0) ((wanted_eq z z z (cvb hc329)).trans z) z (fun w hst => z) ?_
 refine wq_run (v := .int .i64 z297) ((wanted_eq z z z (cvb hc329)).trans z) z (fun w hst => z) ?_
 refine wq_run (v := .pointer (some (eAddr r0_0 (z297.toNat * 2 + 0)))) ((wanted_eq z z z (cvb hc329)).trans z) z (fun w hst => x_index z z underlying33 sizeOf59 (rd_sliceV f0_0) h309 h310) ?_
 refine wq_run (v := .pointer (some (eAddr r0_0 (z297.toNat * 2 + 1)))) ((wanted_eq z z z (cvb hc329)).trans z) z (fun w hst => x_field_e z underlying59 z sizeOf22 z) ?_
 refine wq_run (v := v315) ((wanted_eq z z z (cvb hc329)).trans z) z (fun w hst => x_load z isAgg22 ((hc314 (HL.le.refl _) hst) 1 _ z)) ?_
 refine wq_run (v := .string (toStr x307.Val)) ((wanted_eq z z z (cvb hc329)).trans z) z (fun w hst => x_tostr underlying22 underlying9 underlying5 z (Src.of_rd hst f316 flat_int)) ?_
 refine wq_run (v := r1_0) ((wanted_eq z z z (cvb hc329)).trans z) z (fun w hst => z) ?_
 refine wq_run (v := .int .i64 z297) ((wanted_eq z z z (cvb hc329)).trans z) z (fun w hst => z) ?_
 refine wq_run (v := .pointer (some (eAddr r1_0 (z297.toNat * 2 + 0)))) ((wanted_eq z z z (cvb hc329)).trans z) z (fun w hst => x_index z z underlying33 sizeOf59 (rd_sliceV f1_0) h320 h321) ?_
 refine wq_run (v := .pointer (some (eAddr r1_0 (z297.toNat * 2 + 1)))) ((wanted_eq z z z (cvb hc329)).trans z) z (fun w hst => x_field_e z underlying59 z sizeOf22 z) ?_
 refine wq_run (v := v326) ((wanted_eq z z z (cvb hc329)).trans z) z (fun w hst => x_load z isAgg22 ((hc325 (HL.le.refl _) hst) 1 _ z)) ?_
 refine wq_run (v := .string (toStr x318.Val)) ((wanted_eq z z z (cvb hc329)).trans z) z (fun w hst => x_tostr underlying22 underlying9 underlying5 z (Src.of_rd hst f327 flat_int)) ?_
 refine wq_run (v := .bool (!(sEq (toStr x307.Val) (toStr x318.Val)))) ((wanted_eq z z z (cvb hc329)).trans z) z (fun w hst => by kernel_rfl) ?_
 refine wq_run (v := .bool (!(sEq (toStr x307.Val) (toStr x318.Val)))) z z (fun w hst => x_pick_f hc329 z z) ?_
 refine wq_nil ?_
 intro w hst
 refine tn ?_
 refine bsplit (!(sEq (toStr x307.Val) (toStr x318.Val))) (fun hc330 => ?_) (fun hc330 => ?_)
 {
 replace hm := bif_t hc330 hm
 refine wp_ift (cvb hc330) ?_
 refine wp_seq (wrl (wv (.bool false) z z z (wl_nil (tn (wp_ret (blk_r (then_r (then_r ?_))))))))
 replace hm := inr_up hm hx304
 refine blk_r (then_r ?_)
 obtain rfl := some_inj hm
 refine post_ret (vs := [.bool false]) results25 (rvs_cons (rv_tmp z) rvs_nil) ?_
 exact ⟨z, hst.keep0⟩
}
 {
 replace hm := bif_f hc330 hm
 refine wp_iff (cvb hc330) ?_
 refine wp_skip (blk_n (tn (wrl ?_)))
 refine wv (.int .i64 z297) z z z (wv (.int .i64 (i64.wrap (z297 + (1:Int)))) z z z (wv (.int .i64 (i64.wrap (z297 + (1:Int)))) z z z (wl_nil (tn ?_))))
 replace hst := hst.keep0
 obtain rfl := some_inj hm
 exact ⟨_, Nat.lt_succ_self _, (i64.wrap (z297 + (1:Int))), _, hx304, (fu 0 r0_0 z (fu 1 r1_0 z (fu 5 (.int .i64 (i64.wrap (z297 + (1:Int)))) z z))), hst⟩
}
}
}
 {
 replace hm := bif_f hc306 hm
 refine wp_iff (cvb hc306) ?_
 refine wp_exit (then_x (then_x ?_))
 replace hm := inr_up hm hx304
 refine blk_x (tn (wp_seq (wrl ?_)))
 refine wv (.bool true) z z z (wl_nil (tn (wp_ret ?_)))
 obtain rfl := some_inj hm
 refine post_ret (vs := [.bool true]) results25 (rvs_cons (rv_tmp z) rvs_nil) ?_
 exact ⟨z, hst.keep0⟩
}
}
}

theorem math_Signbit_ref {w0 w : World} {I : HL} {R : SP} {a0 : Nat}  (hst : St w0 w I [] R) {r : (Bool)} (hm : math_Signbit a0 = some r) :
  Calls prog 60 #[F6 a0] w fun e w' => e = .returned (.bool r) ∧ St w0 w' I [] R := by {
 unfold math_Signbit at hm
 refine calls_start (args := [F6 a0]) func60 z ntmps60 (Nat.le_of_ble_eq_true z) ?_
 refine wp_seq (wrl (wv (.bool false) z z z (wl_nil (tn (wp_seq (wrl (wv (.float .f64 a0) z z z (wv (.int .u64 (Int.ofNat a0)) z z (by kernel_rfl) (wv (.int .i64 (i64.wrap (Int.ofNat a0))) z z (by kernel_rfl) (wv (.bool (decide ((i64.wrap (Int.ofNat a0)) < (0:Int)))) z z z (wv (.bool (decide ((i64.wrap (Int.ofNat a0)) < (0:Int)))) z z z (wl_nil (tn (wp_ret ?_))))))))))))))
 obtain rfl := some_inj hm
 refine post_ret (vs := [.bool (decide ((i64.wrap (Int.ofNat a0)) < (0:Int)))]) results60 (rvs_cons (rv_tmp z) rvs_nil) ?_
 exact ⟨z, hst.keep0⟩
}

theorem ref01_Ahead_ref {w0 w : World} {I : HL} {R : SP} {a0 : Nat} {a1 : Nat}  (hst : St w0 w I [] R) {r : (Bool)} (hm : ref01_Ahead a0 a1 = some r) :
  Calls prog 55 #[F6 a0, F6 a1] w fun e w' => e = .returned (.bool r) ∧ St w0 w' I [] R := by {
 unfold ref01_Ahead at hm
 refine calls_start (args := [F6 a0, F6 a1]) func55 z ntmps55 (Nat.le_of_ble_eq_true z) ?_
 refine wp_seq (wrl (wv (.bool false) z z z (wl_nil (tn (wp_seq (wp_seq (wrl (wv (.float .f64 a0) z z z (wv (.float .f64 a0) z z z (wv (.bool (fNe a0 a0)) z z z (wl_nil (tn ?_))))))))))))
 refine bsplit (fNe a0 a0) (fun hc187 => ?_) (fun hc187 => ?_)
 {
 replace hm := bif_t hc187 hm
 refine wp_ift (cvb hc187) ?_
 refine wp_seq (wrl (wv (.bool false) z z z (wl_nil (tn (wp_ret (then_r ?_))))))
 obtain rfl := some_inj hm
 refine post_ret (vs := [.bool false]) results55 (rvs_cons (rv_tmp z) rvs_nil) ?_
 exact ⟨z, hst.keep0⟩
}
 {
 replace hm := bif_f hc187 hm
 refine wp_iff (cvb hc187) ?_
 refine wp_skip (tn (wp_seq (wp_seq (wrl ?_))))
 refine wv (.float .f64 a1) z z z (wv (.float .f64 a1) z z z (wv (.bool (fNe a1 a1)) z z z (wl_nil (tn ?_))))
 refine bsplit (fNe a1 a1) (fun hc188 => ?_) (fun hc188 => ?_)
 {
 replace hm := bif_t hc188 hm
 refine wp_ift (cvb hc188) ?_
 refine wp_seq (wrl (wv (.bool true) z z z (wl_nil (tn (wp_ret (then_r ?_))))))
 obtain rfl := some_inj hm
 refine post_ret (vs := [.bool true]) results55 (rvs_cons (rv_tmp z) rvs_nil) ?_
 exact ⟨z, hst.keep0⟩
}
 {
 replace hm := bif_f hc188 hm
 refine wp_iff (cvb hc188) ?_
 refine wp_skip (tn ?_)
 obtain ⟨y204, hm, hx205⟩ := joinO_some hm
 refine wp_cut (fun a w => ∃ (σ202 : Nat → Value), (ref01_Ahead_j0 a0 a1) () = some r ∧ a = Fr 27 (upd (upd σ202 0 (.float .f64 a0)) 1 (.float .f64 a1)) ∧ St w0 w I [] R) ?_ ?_
 {
 refine wp_seq (wrl (wv (.float .f64 a0) z z z (wv (.bool (fEq a0 (0:Nat))) z z z (wv (.bool (fEq a0 (0:Nat))) z z z ?_))))
 refine bsplit (fEq a0 (0:Nat)) (fun hc189 => ?_) (fun hc189 => ?_)
 {
 replace hm := bif_t hc189 hm
 refine wv (.float .f64 a1) ((wanted_eq z z z (cvb hc189)).trans z) z z (wv (.bool (fEq a1 (0:Nat))) ((wanted_eq z z z (cvb hc189)).trans z) z z (wv (.bool (fEq a1 (0:Nat))) z z (x_pick_t hc189 z z) (wl_nil (tn ?_))))
 refine bsplit (fEq a1 (0:Nat)) (fun hc190 => ?_) (fun hc190 => ?_)
 {
 replace hm := bif_t hc190 hm
 refine wp_ift (cvb hc190) ?_
 refine wp_seq (wrl (wv (.float .f64 a0) z z z ?_))
 obtain ⟨t191, ht192, hm⟩ := bind_some hm
 refine wc call60 [F6 a0] z z z ?_
 refine (math_Signbit_ref hst.to0 ht192).mono ?_
 rintro _ w193 ⟨rfl, hst⟩
 refine ⟨_, z, ?_⟩
 replace hst := hst.of0
 refine wv (.bool t191) z z z ?_
 refine bsplit t191 (fun hc196 => ?_) (fun hc196 => ?_)
 {
 replace hm := bif_t hc196 hm
 refine wv (.float .f64 a1) ((wanted_eq z z z (cvb hc196)).trans z) z z ?_
 obtain ⟨t197, ht198, hm⟩ := bind_some hm
 refine wl_call ((wanted_eq z z z (cvb hc196)).trans z) z (x_call call60 z (vs := [F6 a1]) z) ?_
 refine (math_Signbit_ref hst.to0 ht198).mono ?_
 rintro _ w199 ⟨rfl, hst⟩
 refine ⟨_, z, ?_⟩
 replace hst := hst.of0
 refine wv (.bool (!t197)) ((wanted_eq z z z (cvb hc196)).trans z) z z (wv (.bool (!t197)) z z (x_pick_t hc196 z z) (wv (.bool (!t197)) z z z (wl_nil (tn (wp_ret (then_r ?_))))))
 replace hm := inr_up hm hx205
 obtain rfl := some_inj hm
 refine post_ret (vs := [.bool (!t197)]) results55 (rvs_cons (rv_tmp z) rvs_nil) ?_
 exact ⟨z, hst.keep0⟩
}
 {
 replace hm := bif_f hc196 hm
 refine wo hc196 z z z z z z (wo hc196 z z z z z z (wo hc196 z z z z z z (wv (.bool false) z z (x_pick_f hc196 z z) (wv (.bool false) z z z (wl_nil (tn (wp_ret (then_r ?_))))))))
 replace hm := inr_up hm hx205
 obtain rfl := some_inj hm
 refine post_ret (vs := [.bool false]) results55 (rvs_cons (rv_tmp z) rvs_nil) ?_
 exact ⟨z, hst.keep0⟩
}
}
 {
 replace hm := bif_f hc190 hm
 refine wp_iff (cvb hc190) ?_
 refine wp_skip (tn ?_)
 replace hst := hst.keep0
 obtain rfl := some_inj hm
 exact ⟨_, hx205, (fu 0 (.float .f64 a0) z (fu 1 (.float .f64 a1) z z)), hst⟩
}
}
 {
 replace hm := bif_f hc189 hm
 refine wo hc189 z z z z z z (wo hc189 z z z z z z (wv (.bool false) z z (x_pick_f hc189 z z) (wl_nil (tn ?_))))
 refine wp_iff z ?_
 refine wp_skip (tn ?_)
 replace hst := hst.keep0
 obtain rfl := some_inj hm
 exact ⟨_, hx205, (fu 0 (.float .f64 a0) z (fu 1 (.float .f64 a1) z z)), hst⟩
}
}
 {
 clear hst
 rintro _ w206 ⟨σ202, hm, rfl, hst⟩
 dsimp only [ref01_Ahead_j0] at hm
 refine wp_seq (wrl (wv (.float .f64 a0) z z z (wv (.float .f64 a1) z z z (wv (.bool (fLt a0 a1)) z z z (wv (.bool (fLt a0 a1)) z z z (wl_nil (tn (wp_ret ?_))))))))
 obtain rfl := some_inj hm
 refine post_ret (vs := [.bool (fLt a0 a1)]) results55 (rvs_cons (rv_tmp z) rvs_nil) ?_
 exact ⟨z, hst.keep0⟩
}
}
}
}

theorem ref01_Same_ref {w0 w : World} {I : HL} {R : SP} {a0 : Nat} {a1 : Nat}  (hst : St w0 w I [] R) {r : (Bool)} (hm : ref01_Same a0 a1 = some r) :
  Calls prog 43 #[F6 a0, F6 a1] w fun e w' => e = .returned (.bool r) ∧ St w0 w' I [] R := by {
 unfold ref01_Same at hm
 refine calls_start (args := [F6 a0, F6 a1]) func43 z ntmps43 (Nat.le_of_ble_eq_true z) ?_
 refine wp_seq (wrl (wv (.bool false) z z z (wl_nil (tn (wp_seq (wrl (wv (.float .f64 a0) z z z (wv (.float .f64 a1) z z z ?_))))))))
 obtain ⟨t178, ht179, hm⟩ := bind_some hm
 refine wc call55 [F6 a0, F6 a1] z z z ?_
 refine (ref01_Ahead_ref hst.to0 ht179).mono ?_
 rintro _ w180 ⟨rfl, hst⟩
 refine ⟨_, z, ?_⟩
 replace hst := hst.of0
 refine wv (.bool (!t178)) z z z (wv (.bool (!t178)) z z z ?_)
 refine bsplit (!t178) (fun hc183 => ?_) (fun hc183 => ?_)
 {
 replace hm := bif_t hc183 hm
 refine wv (.float .f64 a1) ((wanted_eq z z z (cvb hc183)).trans z) z z (wv (.float .f64 a0) ((wanted_eq z z z (cvb hc183)).trans z) z z ?_)
 obtain ⟨t184, ht185, hm⟩ := bind_some hm
 refine wl_call ((wanted_eq z z z (cvb hc183)).trans z) z (x_call call55 z (vs := [F6 a1, F6 a0]) z) ?_
 refine (ref01_Ahead_ref hst.to0 ht185).mono ?_
 rintro _ w186 ⟨rfl, hst⟩
 refine ⟨_, z, ?_⟩
 replace hst := hst.of0
 refine wv (.bool (!t184)) ((wanted_eq z z z (cvb hc183)).trans z) z z (wv (.bool (!t184)) z z (x_pick_t hc183 z z) (wv (.bool (!t184)) z z z (wl_nil (tn (wp_ret ?_)))))
 obtain rfl := some_inj hm
 refine post_ret (vs := [.bool (!t184)]) results43 (rvs_cons (rv_tmp z) rvs_nil) ?_
 exact ⟨z, hst.keep0⟩
}
 {
 replace hm := bif_f hc183 hm
 refine wo hc183 z z z z z z (wo hc183 z z z z z z (wo hc183 z z z z z z (wo hc183 z z z z z z (wv (.bool false) z z (x_pick_f hc183 z z) (wv (.bool false) z z z (wl_nil (tn (wp_ret ?_))))))))
 obtain rfl := some_inj hm
 refine post_ret (vs := [.bool false]) results43 (rvs_cons (rv_tmp z) rvs_nil) ?_
 exact ⟨z, hst.keep0⟩
}
}

theorem ref11_SamePairs_ref {w0 w : World} {I : HL} {R : SP} {a0 : (List api_Pair)} {r0_0 : Value} {a1 : (List api_Pair)} {r1_0 : Value} (f0_0 : Rd ty_api_Pair R I r0_0 a0) (f1_0 : Rd ty_api_Pair R I r1_0 a1) (hst : St w0 w I [] R) {r : (Bool)} (hm : ref11_SamePairs a0 a1 = some r) :
  Calls prog 26 #[r0_0, r1_0] w fun e w' => e = .returned (.bool r) ∧ St w0 w' I [] R := by {
 unfold ref11_SamePairs at hm
 refine calls_start (args := [r0_0, r1_0]) func26 z ntmps26 (Nat.le_of_ble_eq_true z) ?_
 refine wp_seq (wrl (wv (.bool false) z z z (wl_nil (tn (wp_seq (wp_seq (wrl (wv (r0_0) z z z (wv (.int .i64 ((a0).length : Int)) z z (x_len z underlying60 (rd_sliceV f0_0)) (wv (r1_0) z z z (wv (.int .i64 ((a1).length : Int)) z z (x_len z underlying60 (rd_sliceV f1_0)) (wv (.bool (((a0).length : Int) != ((a1).length : Int))) z z z (wl_nil (tn ?_))))))))))))))
 refine bsplit (((a0).length : Int) != ((a1).length : Int)) (fun hc304 => ?_) (fun hc304 => ?_)
 {
 replace hm := bif_t hc304 hm
 refine wp_ift (cvb hc304) ?_
 refine wp_seq (wrl (wv (.bool false) z z z (wl_nil (tn (wp_ret (then_r ?_))))))
 obtain rfl := some_inj hm
 refine post_ret (vs := [.bool false]) results26 (rvs_cons (rv_tmp z) rvs_nil) ?_
 exact ⟨z, hst.keep0⟩
}
 {
 replace hm := bif_f hc304 hm
 refine wp_iff (cvb hc304) ?_
 refine wp_skip (tn (wp_seq (wp_seq (wrl ?_))))
 refine wv (.int .i64 (0:Int)) z z z (wl_nil (tn (wp_block ?_)))
 obtain ⟨n392, hm⟩ := loopO_some hm
 refine wp_loop_n (fun n a w => ∃ (z390 : Int) (σ391 : Nat → Value), loopN (ref11_SamePairs_l0 a0 a1) n z390 = some r ∧ a = Fr 44 (upd (upd (upd σ391 0 (r0_0)) 1 (r1_0)) 5 (.int .i64 z390)) ∧ St w0 w I [] R) n392 ⟨(0:Int), _, hm, (fu 0 r0_0 z (fu 1 r1_0 z (fu 5 (.int .i64 (0:Int)) z z))), hst⟩ ?_
 rintro n398 _ w393 ⟨z390, σ391, hm, rfl, hst⟩
 obtain ⟨n395, y396, rfl, hm, hx397⟩ := loopN_some hm
 dsimp only [ref11_SamePairs_l0] at hm
 refine wp_seq (wp_seq (wrl (wv (.int .i64 z390) z z z (wv (r0_0) z z z (wv (.int .i64 ((a0).length : Int)) z z (x_len z underlying60 (rd_sliceV f0_0)) (wv (.bool (decide (z390 < ((a0).length : Int)))) z z z (wl_nil (tn ?_))))))))
 refine bsplit (decide (z390 < ((a0).length : Int))) (fun hc399 => ?_) (fun hc399 => ?_)
 {
 replace hm := bif_t hc399 hm
 refine wp_ift (cvb hc399) ?_
 refine wp_skip (tn (wp_seq (wp_block (wp_seq ?_))))
 refine wp_region_St hst 27 [0, 1, 2, 3, 4, 5, 6, 7, 8, 9, 10, 11, 12, 13, 14, 15, 16, 17, 18, 19, 20, 21, 22, 23, 24, 25, 26] [0, 0, 3, 7, 15, 0, 0, 96, 224, 480, 1023, 2047, 4095, 8191, 8191, 32767, 65535, 131071, 262143, 8191, 8191, 1581055, 3678207, 7872511, 16261119, 33554431, 67108863] [] z (by kernel_rfl) (by kernel_rfl) Try.mixed (by kernel_rfl) ?_
 refine wsr (r0_0) 0 z z z (by kernel_rfl) (fun w hst => z) (wsr (.int .i64 z390) 1 z z z (by kernel_rfl) (fun w hst => z) ?_)
 obtain ⟨x400, hx401, hm⟩ := bind_some hm
 obtain ⟨h402, h403, hi404⟩ := geto_some hx401
 refine wsr (.pointer (some (eAddr r0_0 (z390.toNat * 2 + 0)))) 2 z z z (by kernel_rfl) (fun w hst => x_index z z underlying60 sizeOf64 (rd_sliceV f0_0) h402 h403) (wsr (.pointer (some (eAddr r0_0 (z390.toNat * 2 + 0)))) 3 z z z (by kernel_rfl) (fun w hst => x_field_e z underlying64 z sizeOf61 z) ?_)
 obtain ⟨cs405, hr406, hc407⟩ := Rd.getF f0_0 hi404
 obtain ⟨v408, rfl, f409, -⟩ := hr406
 refine wsr (.float .f64 x400.At) 4 z z z (by kernel_rfl) (fun w hst => x_load z isAgg61 ((hc407 (HL.le.refl _) hst) 0 _ z)) (wsr (r1_0) 5 z z z (by kernel_rfl) (fun w hst => z) (wsr (.int .i64 z390) 6 z z z (by kernel_rfl) (fun w hst => z) ?_))
 obtain ⟨x411, hx412, hm⟩ := bind_some hm
 obtain ⟨h413, h414, hi415⟩ := geto_some hx412
 refine wsr (.pointer (some (eAddr r1_0 (z390.toNat * 2 + 0)))) 7 z z z (by kernel_rfl) (fun w hst => x_index z z underlying60 sizeOf64 (rd_sliceV f1_0) h413 h414) (wsr (.pointer (some (eAddr r1_0 (z390.toNat * 2 + 0)))) 8 z z z (by kernel_rfl) (fun w hst => x_field_e z underlying64 z sizeOf61 z) ?_)
 obtain ⟨cs416, hr417, hc418⟩ := Rd.getF f1_0 hi415
 obtain ⟨v419, rfl, f420, -⟩ := hr417
 refine wsr (.float .f64 x411.At) 9 z z z (by kernel_rfl) (fun w hst => x_load z isAgg61 ((hc418 (HL.le.refl _) hst) 0 _ z)) ?_
 refine ws_e1 10 (by kernel_rfl) ?_
 refine nxe [11, 12, 13, 14, 15, 16, 17, 18, 19, 20, 21, 22, 23, 24, 25, 26] (by kernel_rfl) z z ?_
 clear hst
 intro w hst
 obtain ⟨t422, ht423, hm⟩ := bind_some hm
 refine wec call43 [F6 x400.At, F6 x411.At] z z ?_
 refine (ref01_Same_ref hst.to0 ht423).mono ?_
 rintro _ w424 ⟨rfl, hst⟩
 refine ⟨_, z, ?_⟩
 replace hst := hst.of0
 refine ws_next (pend' := []) hst (by kernel_rfl) pk_nil ?_
 refine wsr (.bool (!t422)) 11 z z z (by kernel_rfl) (fun w hst => z) (wsr (.bool (!t422)) 12 z z z (by kernel_rfl) (fun w hst => z) ?_)
 refine bsplit (!t422) (fun hc427 => ?_) (fun hc427 => ?_)
 {
 replace hm := bif_t hc427 hm
 refine ws_q (v := undef) 13 [14, 15, 16, 17, 18, 19, 20, 21, 22, 23, 24, 25, 26] (by kernel_rfl) z z (yi_off ((wanted_eq z z z (cvb hc427)).trans z)) (ws_q (v := undef) 14 [15, 16, 17, 18, 19, 20, 21, 22, 23, 24, 25, 26] (by kernel_rfl) z z (yi_off ((wanted_eq z z z (cvb hc427)).trans z)) (ws_q (v := undef) 15 [16, 17, 18, 19, 20, 21, 22, 23, 24, 25, 26] (by kernel_rfl) z z (yi_off ((wanted_eq z z z (cvb hc427)).trans z)) (ws_q (v := undef) 16 [17, 18, 19, 20, 21, 22, 23, 24, 25, 26] (by kernel_rfl) z z (yi_off ((wanted_eq z z z (cvb hc427)).trans z)) (ws_q (v := undef) 17 [18, 19, 20, 21, 22, 23, 24, 25, 26] (by kernel_rfl) z z (yi_off ((wanted_eq z z z (cvb hc427)).trans z)) (ws_q (v := undef) 18 [19, 20, 21, 22, 23, 24, 25, 26] (by kernel_rfl) z z (yi_off ((wanted_eq z z z (cvb hc427)).trans z)) (ws_q (v := undef) 19 [20, 21, 22, 23, 24, 25, 26] (by kernel_rfl) z z (yi_off ((wanted_eq z z z (cvb hc427)).trans z)) (ws_q (v := undef) 20 [21, 22, 23, 24, 25, 26] (by kernel_rfl) z z (yi_off ((wanted_eq z z z (cvb hc427)).trans z)) (ws_q (v := undef) 21 [22, 23, 24, 25, 26] (by kernel_rfl) z z (yi_off ((wanted_eq z z z (cvb hc427)).trans z)) (ws_q (v := undef) 22 [23, 24, 25, 26] (by kernel_rfl) z z (yi_off ((wanted_eq z z z (cvb hc427)).trans z)) (ws_q (v := undef) 23 [24, 25, 26] (by kernel_rfl) z z (yi_off ((wanted_eq z z z (cvb hc427)).trans z)) (ws_q (v := undef) 24 [25, 26] (by kernel_rfl) z z (yi_off ((wanted_eq z z z (cvb hc427)).trans z)) (ws_q (v := undef) 25 [26] (by kernel_rfl) z z (yi_off ((wanted_eq z z z (cvb hc427)).trans z)) ?_))))))))))))
 refine wsr (.bool true) 26 z z z (by kernel_rfl) (fun w hst => x_pick_t hc427 z z) ?_
 refine ws_nil ?_
 intro w hst
 refine tn ?_
 refine wp_ift z ?_
 refine wp_seq (wrl (wv (.bool false) z z z (wl_nil (tn (wp_ret (blk_r (then_r (then_r ?_))))))))
 replace hm := inr_up hm hx397
 refine blk_r (then_r ?_)
 obtain rfl := some_inj hm
 refine post_ret (vs := [.bool false]) results26 (rvs_cons (rv_tmp z) rvs_nil) ?_
 exact ⟨z, hst.keep0⟩
}
 {
 replace hm := bif_f hc427 hm
 refine ws_q (v := r0_0) 13 [14, 15, 16, 17, 18, 19, 20, 21, 22, 23, 24, 25, 26] (by kernel_rfl) z z (yi_run ((wanted_eq z z z (cvb hc427)).trans z) (fun w hst => z)) (ws_q (v := .int .i64 z390) 14 [15, 16, 17, 18, 19, 20, 21, 22, 23, 24, 25, 26] (by kernel_rfl) z z (yi_run ((wanted_eq z z z (cvb hc427)).trans z) (fun w hst => z)) (ws_q (v := .pointer (some (eAddr r0_0 (z390.toNat * 2 + 0)))) 15 [16, 17, 18, 19, 20, 21, 22, 23, 24, 25, 26] (by kernel_rfl) z z (yi_run ((wanted_eq z z z (cvb hc427)).trans z) (fun w hst => x_index z z underlying60 sizeOf64 (rd_sliceV f0_0) h402 h403)) (ws_q (v := .pointer (some (eAddr r0_0 (z390.toNat * 2 + 1)))) 16 [17, 18, 19, 20, 21, 22, 23, 24, 25, 26] (by kernel_rfl) z z (yi_run ((wanted_eq z z z (cvb hc427)).trans z) (fun w hst => x_field_e z underlying64 z sizeOf22 z)) ?_)))
 obtain ⟨cs428, hr429, hc430⟩ := Rd.getF f0_0 hi404
 obtain ⟨v431, rfl, f432, -⟩ := hr429
 refine ws_q (v := v431) 17 [18, 19, 20, 21, 22, 23, 24, 25, 26] (by kernel_rfl) z z (yi_run ((wanted_eq z z z (cvb hc427)).trans z) (fun w hst => x_load z isAgg22 ((hc430 (HL.le.refl _) hst) 1 _ z))) (ws_q (v := .string (toStr x400.Val)) 18 [19, 20, 21, 22, 23, 24, 25, 26] (by kernel_rfl) z z (yi_run ((wanted_eq z z z (cvb hc427)).trans z) (fun w hst => x_tostr underlying22 underlying9 underlying5 z (Src.of_rd hst f432 flat_int))) (ws_q (v := r1_0) 19 [20, 21, 22, 23, 24, 25, 26] (by kernel_rfl) z z (yi_run ((wanted_eq z z z (cvb hc427)).trans z) (fun w hst => z)) (ws_q (v := .int .i64 z390) 20 [21, 22, 23, 24, 25, 26] (by kernel_rfl) z z (yi_run ((wanted_eq z z z (cvb hc427)).trans z) (fun w hst => z)) (ws_q (v := .pointer (some (eAddr r1_0 (z390.toNat * 2 + 0)))) 21 [22, 23, 24, 25, 26] (by kernel_rfl) z z (yi_run ((wanted_eq z z z (cvb hc427)).trans z) (fun w hst => x_index z z underlying60 sizeOf64 (rd_sliceV f1_0) h413 h414)) (ws_q (v := .pointer (some (eAddr r1_0 (z390.toNat * 2 + 1)))) 22 [23, 24, 25, 26] (by kernel_rfl) z z (yi_run ((wanted_eq z z z (cvb hc427)).trans z) (fun w hst => x_field_e z underlying64 z sizeOf22 z)) ?_)))))
 obtain ⟨cs434, hr435, hc436⟩ := Rd.getF f1_0 hi415
 obtain ⟨v437, rfl, f438, -⟩ := hr435
 refine ws_q (v := v437) 23 [24, 25, 26] (by kernel_rfl) z z (yi_run ((wanted_eq z z z (cvb hc427)).trans z) (fun w hst => x_load z isAgg22 ((hc436 (HL.le.refl _) hst) 1 _ z))) (ws_q (v := .string (toStr x411.Val)) 24 [25, 26] (by kernel_rfl) z z (yi_run ((wanted_eq z z z (cvb hc427)).trans z) (fun w hst => x_tostr underlying22 underlying9 underlying5 z (Src.of_rd hst f438 flat_int))) (ws_q (v := .bool (!(sEq (toStr x400.Val) (toStr x411.Val)))) 25 [26] (by kernel_rfl) z z (yi_run ((wanted_eq z z z (cvb hc427)).trans z) (fun w hst => by kernel_rfl)) (wsr (.bool (!(sEq (toStr x400.Val) (toStr x411.Val)))) 26 z z z (by kernel_rfl) (fun w hst => x_pick_f hc427 z z) ?_)))
 refine ws_nil ?_
 intro w hst
 refine tn ?_
 refine bsplit (!(sEq (toStr x400.Val) (toStr x411.Val))) (fun hc440 => ?_) (fun hc440 => ?_)
 {
 replace hm := bif_t hc440 hm
 refine wp_ift (cvb hc440) ?_
 refine wp_seq (wrl (wv (.bool false) z z z (wl_nil (tn (wp_ret (blk_r (then_r (then_r ?_))))))))
 replace hm := inr_up hm hx397
 refine blk_r (then_r ?_)
 obtain rfl := some_inj hm
 refine post_ret (vs := [.bool false]) results26 (rvs_cons (rv_tmp z) rvs_nil) ?_
 exact ⟨z, hst.keep0⟩
}
 {
 replace hm := bif_f hc440 hm
 refine wp_iff (cvb hc440) ?_
 refine wp_skip (blk_n (tn (wrl ?_)))
 refine wv (.int .i64 z390) z z z (wv (.int .i64 (i64.wrap (z390 + (1:Int)))) z z z (wv (.int .i64 (i64.wrap (z390 + (1:Int)))) z z z (wl_nil (tn ?_))))
 replace hst := hst.keep0
 obtain rfl := some_inj hm
 exact ⟨_, Nat.lt_succ_self _, (i64.wrap (z390 + (1:Int))), _, hx397, (fu 0 r0_0 z (fu 1 r1_0 z (fu 5 (.int .i64 (i64.wrap (z390 + (1:Int)))) z z))), hst⟩
}
}
}
 {
 replace hm := bif_f hc399 hm
 refine wp_iff (cvb hc399) ?_
 refine wp_exit (then_x (then_x ?_))
 replace hm := inr_up hm hx397
 refine blk_x (tn (wp_seq (wrl ?_)))
 refine wv (.bool true) z z z (wl_nil (tn (wp_ret ?_)))
 obtain rfl := some_inj hm
 refine post_ret (vs := [.bool true]) results26 (rvs_cons (rv_tmp z) rvs_nil) ?_
 exact ⟨z, hst.keep0⟩
}
}
}

theorem ref11_SameReply_ref {w0 w : World} {I : HL} {R : SP} {a0 : api_Reply} {r0_0 : Value} {r0_1 : Value} {a1 : api_Reply} {r1_0 : Value} {r1_1 : Value} (f0_0 : Rd ty_api_Got R I r0_0 a0.Gots) (f0_1 : Rd (tySl ty_api_Pair) R I r0_1 a0.Scans) (f1_0 : Rd ty_api_Got R I r1_0 a1.Gots) (f1_1 : Rd (tySl ty_api_Pair) R I r1_1 a1.Scans) (hst : St w0 w I [] R) {r : (Bool)} (hm : ref11_SameReply a0 a1 = some r) :
  Calls prog 17 #[.agg #[I6 a0.E, U6 a0.Epoch, U6 a0.Index, r0_0, r0_1], .agg #[I6 a1.E, U6 a1.Epoch, U6 a1.Index, r1_0, r1_1]] w fun e w' => e = .returned (.bool r) ∧ St w0 w' I [] R := by {
 unfold ref11_SameReply at hm
 refine calls_start (args := [.agg #[I6 a0.E, U6 a0.Epoch, U6 a0.Index, r0_0, r0_1], .agg #[I6 a1.E, U6 a1.Epoch, U6 a1.Index, r1_0, r1_1]]) func17 z ntmps17 (Nat.le_of_ble_eq_true z) ?_
 refine wp_seq (wrl ?_)
 obtain ⟨b263, w264, ew265, eb266, hst⟩ := hst.box [I6 a0.E, U6 a0.Epoch, U6 a0.Index, r0_0, r0_1] 36
 refine wl_run (v := Pt b263 0) (w' := w264) z z (x_al (by kernel_rfl) ew265 eb266) ?_
 obtain ⟨b268, w269, ew270, eb271, hst⟩ := hst.box [I6 a1.E, U6 a1.Epoch, U6 a1.Index, r1_0, r1_1] 36
 refine wl_run (v := Pt b268 0) (w' := w269) z z (x_al (by kernel_rfl) ew270 eb271) ?_
 refine wv (.bool false) z z z (wl_nil (tn (wp_seq (wp_seq (wrl (wv (Pt b263 0) z z (x_field z underlying36 z sizeOf32 z) (wv (.int .i64 a0.E) z z (x_load z isAgg32 (hst.bc1 z)) (wv (Pt b268 0) z z (x_field z underlying36 z sizeOf32 z) (wv (.int .i64 a1.E) z z (x_load z isAgg32 (hst.bc0 z)) (wv (.bool (a0.E != a1.E)) z z z (wv (.bool (a0.E != a1.E)) z z z ?_)))))))))))
 refine bsplit (a0.E != a1.E) (fun hc273 => ?_) (fun hc273 => ?_)
 {
 replace hm := bif_t hc273 hm
 refine wo hc273 z z z z z z (wo hc273 z z z z z z (wo hc273 z z z z z z (wo hc273 z z z z z z (wo hc273 z z z z z z (wv (.bool true) z z (x_pick_t hc273 z z) (wv (.bool true) z z z (wz z z z z z z (wz z z z z z z (wz z z z z z z (wz z z z z z z (wz z z z z z z (wv (.bool true) z z (x_pick_t z z z) ?_))))))))))))
 refine wv (.bool true) z z z (wz z z z z z z (wz z z z z z z (wz z z z z z z (wz z z z z z z (wz z z z z z z (wz z z z z z z (wv (.bool true) z z (x_pick_t z z z) (wv (.bool true) z z z (wz z z z z z z (wz z z z z z z (wz z z z z z z (wz z z z z z z ?_))))))))))))
 refine wz z z z z z z (wz z z z z z z (wz z z z z z z (wv (.bool true) z z (x_pick_t z z z) (wl_nil (tn ?_)))))
 refine wp_ift z ?_
 refine wp_seq (wrl (wv (.bool false) z z z (wl_nil (tn (wp_ret (then_r ?_))))))
 obtain rfl := some_inj hm
 refine post_ret (vs := [.bool false]) results17 (rvs_cons (rv_tmp z) rvs_nil) ?_
 exact ⟨z, hst.keep0⟩
}
 {
 replace hm := bif_f hc273 hm
 refine wv (Pt b263 1) ((wanted_eq z z z (cvb hc273)).trans z) z (x_field z underlying36 z sizeOf30 z) (wv (.int .u64 a0.Epoch) ((wanted_eq z z z (cvb hc273)).trans z) z (x_load z isAgg30 (hst.bc1 z)) (wv (Pt b268 1) ((wanted_eq z z z (cvb hc273)).trans z) z (x_field z underlying36 z sizeOf30 z) (wv (.int .u64 a1.Epoch) ((wanted_eq z z z (cvb hc273)).trans z) z (x_load z isAgg30 (hst.bc0 z)) (wv (.bool (a0.Epoch != a1.Epoch)) ((wanted_eq z z z (cvb hc273)).trans z) z z (wv (.bool (a0.Epoch != a1.Epoch)) z z (x_pick_f hc273 z z) (wv (.bool (a0.Epoch != a1.Epoch)) z z z ?_))))))
 refine bsplit (a0.Epoch != a1.Epoch) (fun hc274 => ?_) (fun hc274 => ?_)
 {
 replace hm := bif_t hc274 hm
 refine wo hc274 z z z z z z (wo hc274 z z z z z z (wo hc274 z z z z z z (wo hc274 z z z z z z (wo hc274 z z z z z z (wv (.bool true) z z (x_pick_t hc274 z z) (wv (.bool true) z z z (wz z z z z z z (wz z z z z z z (wz z z z z z z (wz z z z z z z (wz z z z z z z (wz z z z z z z ?_))))))))))))
 refine wv (.bool true) z z (x_pick_t z z z) (wv (.bool true) z z z (wz z z z z z z (wz z z z z z z (wz z z z z z z (wz z z z z z z (wz z z z z z z (wz z z z z z z (wz z z z z z z (wv (.bool true) z z (x_pick_t z z z) (wl_nil (tn ?_)))))))))))
 refine wp_ift z ?_
 refine wp_seq (wrl (wv (.bool false) z z z (wl_nil (tn (wp_ret (then_r ?_))))))
 obtain rfl := some_inj hm
 refine post_ret (vs := [.bool false]) results17 (rvs_cons (rv_tmp z) rvs_nil) ?_
 exact ⟨z, hst.keep0⟩
}
 {
 replace hm := bif_f hc274 hm
 refine wv (Pt b263 2) ((wanted_eq z z z (cvb hc274)).trans z) z (x_field z underlying36 z sizeOf30 z) (wv (.int .u64 a0.Index) ((wanted_eq z z z (cvb hc274)).trans z) z (x_load z isAgg30 (hst.bc1 z)) (wv (Pt b268 2) ((wanted_eq z z z (cvb hc274)).trans z) z (x_field z underlying36 z sizeOf30 z) (wv (.int .u64 a1.Index) ((wanted_eq z z z (cvb hc274)).trans z) z (x_load z isAgg30 (hst.bc0 z)) (wv (.bool (a0.Index != a1.Index)) ((wanted_eq z z z (cvb hc274)).trans z) z z (wv (.bool (a0.Index != a1.Index)) z z (x_pick_f hc274 z z) (wv (.bool (a0.Index != a1.Index)) z z z ?_))))))
 refine bsplit (a0.Index != a1.Index) (fun hc275 => ?_) (fun hc275 => ?_)
 {
 replace hm := bif_t hc275 hm
 refine wo hc275 z z z z z z (wo hc275 z z z z z z (wo hc275 z z z z z z (wo hc275 z z z z z z (wo hc275 z z z z z z (wo hc275 z z z z z z (wv (.bool true) z z (x_pick_t hc275 z z) (wv (.bool true) z z z (wz z z z z z z (wz z z z z z z (wz z z z z z z (wz z z z z z z (wz z z z z z z ?_))))))))))))
 refine wz z z z z z z (wz z z z z z z (wv (.bool true) z z (x_pick_t z z z) (wl_nil (tn ?_))))
 refine wp_ift z ?_
 refine wp_seq (wrl (wv (.bool false) z z z (wl_nil (tn (wp_ret (then_r ?_))))))
 obtain rfl := some_inj hm
 refine post_ret (vs := [.bool false]) results17 (rvs_cons (rv_tmp z) rvs_nil) ?_
 exact ⟨z, hst.keep0⟩
}
 {
 replace hm := bif_f hc275 hm
 refine wv (Pt b263 3) ((wanted_eq z z z (cvb hc275)).trans z) z (x_field z underlying36 z sizeOf33 z) (wv (r0_0) ((wanted_eq z z z (cvb hc275)).trans z) z (x_load z isAgg33 (hst.bc1 z)) (wv (Pt b268 3) ((wanted_eq z z z (cvb hc275)).trans z) z (x_field z underlying36 z sizeOf33 z) (wv (r1_0) ((wanted_eq z z z (cvb hc275)).trans z) z (x_load z isAgg33 (hst.bc0 z)) ?_)))
 obtain ⟨t276, ht277, hm⟩ := bind_some hm
 refine wl_call ((wanted_eq z z z (cvb hc275)).trans z) z (x_call call25 z (vs := [r0_0, r1_0]) z) ?_
 refine (ref11_SameGots_ref (f0_0.mono (rd_weak _)) (f1_0.mono (rd_weak _)) hst.to0 ht277).mono ?_
 rintro _ w278 ⟨rfl, hst⟩
 refine ⟨_, z, ?_⟩
 replace hst := hst.of0
 refine wv (.bool (!t276)) ((wanted_eq z z z (cvb hc275)).trans z) z z (wv (.bool (!t276)) z z (x_pick_f hc275 z z) (wv (.bool (!t276)) z z z ?_))
 refine bsplit (!t276) (fun hc281 => ?_) (fun hc281 => ?_)
 {
 replace hm := bif_t hc281 hm
 refine wo hc281 z z z z z z (wo hc281 z z z z z z (wo hc281 z z z z z z (wo hc281 z z z z z z (wo hc281 z z z z z z (wo hc281 z z z z z z (wo hc281 z z z z z z (wv (.bool true) z z (x_pick_t hc281 z z) (wl_nil (tn ?_)))))))))
 refine wp_ift z ?_
 refine wp_seq (wrl (wv (.bool false) z z z (wl_nil (tn (wp_ret (then_r ?_))))))
 obtain rfl := some_inj hm
 refine post_ret (vs := [.bool false]) results17 (rvs_cons (rv_tmp z) rvs_nil) ?_
 exact ⟨z, hst.keep0⟩
}
 {
 replace hm := bif_f hc281 hm
 refine wv (Pt b263 4) ((wanted_eq z z z (cvb hc281)).trans z) z (x_field z underlying36 z sizeOf34 z) (wv (r0_1) ((wanted_eq z z z (cvb hc281)).trans z) z (x_load z isAgg34 (hst.bc1 z)) (wv (.int .i64 ((a0.Scans).length : Int)) ((wanted_eq z z z (cvb hc281)).trans z) z (x_len z underlying34 (rd_sliceV f0_1)) (wv (Pt b268 4) ((wanted_eq z z z (cvb hc281)).trans z) z (x_field z underlying36 z sizeOf34 z) (wv (r1_1) ((wanted_eq z z z (cvb hc281)).trans z) z (x_load z isAgg34 (hst.bc0 z)) (wv (.int .i64 ((a1.Scans).length : Int)) ((wanted_eq z z z (cvb hc281)).trans z) z (x_len z underlying34 (rd_sliceV f1_1)) (wv (.bool (((a0.Scans).length : Int) != ((a1.Scans).length : Int))) ((wanted_eq z z z (cvb hc281)).trans z) z z (wv (.bool (((a0.Scans).length : Int) != ((a1.Scans).length : Int))) z z (x_pick_f hc281 z z) (wl_nil (tn ?_)))))))))
 refine bsplit (((a0.Scans).length : Int) != ((a1.Scans).length : Int)) (fun hc282 => ?_) (fun hc282 => ?_)
 {
 replace hm := bif_t hc282 hm
 refine wp_ift (cvb hc282) ?_
 refine wp_seq (wrl (wv (.bool false) z z z (wl_nil (tn (wp_ret (then_r ?_))))))
 obtain rfl := some_inj hm
 refine post_ret (vs := [.bool false]) results17 (rvs_cons (rv_tmp z) rvs_nil) ?_
 exact ⟨z, hst.keep0⟩
}
 {
 replace hm := bif_f hc282 hm
 refine wp_iff (cvb hc282) ?_
 refine wp_skip (tn (wp_seq (wp_seq (wrl ?_))))
 refine wv (.int .i64 (0:Int)) z z z (wl_nil (tn (wp_block ?_)))
 obtain ⟨n344, hm⟩ := loopO_some hm
 refine wp_loop_n (fun n a w => ∃ (z342 : Int) (σ343 : Nat → Value), loopN (ref11_SameReply_l0 a0 a1) n z342 = some r ∧ a = Fr 61 (upd (upd (upd σ343 2 (Pt b263 0)) 3 (Pt b268 0)) 5 (.int .i64 z342)) ∧ St w0 w I [cells b268 [I6 a1.E, U6 a1.Epoch, U6 a1.Index, r1_0, r1_1], cells b263 [I6 a0.E, U6 a0.Epoch, U6 a0.Index, r0_0, r0_1]] R) n344 ⟨(0:Int), _, hm, (fu 2 (Pt b263 0) z (fu 3 (Pt b268 0) z (fu 5 (.int .i64 (0:Int)) z z))), hst⟩ ?_
 rintro n350 _ w345 ⟨z342, σ343, hm, rfl, hst⟩
 obtain ⟨n347, y348, rfl, hm, hx349⟩ := loopN_some hm
 dsimp only [ref11_SameReply_l0] at hm
 refine wp_seq (wp_seq (wrl (wv (.int .i64 z342) z z z (wv (Pt b263 4) z z (x_field z underlying36 z sizeOf34 z) (wv (r0_1) z z (x_load z isAgg34 (hst.bc1 z)) (wv (.int .i64 ((a0.Scans).length : Int)) z z (x_len z underlying34 (rd_sliceV f0_1)) (wv (.bool (decide (z342 < ((a0.Scans).length : Int)))) z z z (wl_nil (tn ?_)))))))))
 refine bsplit (decide (z342 < ((a0.Scans).length : Int))) (fun hc351 => ?_) (fun hc351 => ?_)
 {
 replace hm := bif_t hc351 hm
 refine wp_ift (cvb hc351) ?_
 refine wp_skip (tn (wp_seq (wp_block (wp_seq ?_))))
 refine wp_region_St hst 12 [0, 1, 2, 3, 4, 5, 6, 7, 8, 9, 10, 11] [0, 1, 0, 7, 15, 0, 32, 0, 224, 480, 1023, 2047] [] z (by kernel_rfl) (by kernel_rfl) Try.mixed (by kernel_rfl) ?_
 refine wsr (Pt b263 4) 0 z z z (by kernel_rfl) (fun w hst => x_field z underlying36 z sizeOf34 z) (wsr (r0_1) 1 z z z (by kernel_rfl) (fun w hst => x_load z isAgg34 (hst.bc1 z)) (wsr (.int .i64 z342) 2 z z z (by kernel_rfl) (fun w hst => z) ?_))
 obtain ⟨x352, hx353, hm⟩ := bind_some hm
 obtain ⟨h354, h355, hi356⟩ := geto_some hx353
 refine wsr (.pointer (some (eAddr r0_1 (z342.toNat * 1 + 0)))) 3 z z z (by kernel_rfl) (fun w hst => x_index z z underlying34 sizeOf60 (rd_sliceV f0_1) h354 h355) ?_
 obtain ⟨cs357, hr358, hc359⟩ := Rd.getF f0_1 hi356
 obtain ⟨v360, rfl, f361, -⟩ := hr358
 refine wsr (v360) 4 z z z (by kernel_rfl) (fun w hst => x_load z isAgg60 ((hc359 (HL.le.refl _) hst) 0 _ z)) (wsr (Pt b268 4) 5 z z z (by kernel_rfl) (fun w hst => x_field z underlying36 z sizeOf34 z) (wsr (r1_1) 6 z z z (by kernel_rfl) (fun w hst => x_load z isAgg34 (hst.bc0 z)) (wsr (.int .i64 z342) 7 z z z (by kernel_rfl) (fun w hst => z) ?_)))
 obtain ⟨x363, hx364, hm⟩ := bind_some hm
 obtain ⟨h365, h366, hi367⟩ := geto_some hx364
 refine wsr (.pointer (some (eAddr r1_1 (z342.toNat * 1 + 0)))) 8 z z z (by kernel_rfl) (fun w hst => x_index z z underlying34 sizeOf60 (rd_sliceV f1_1) h365 h366) ?_
 obtain ⟨cs368, hr369, hc370⟩ := Rd.getF f1_1 hi367
 obtain ⟨v371, rfl, f372, -⟩ := hr369
 refine wsr (v371) 9 z z z (by kernel_rfl) (fun w hst => x_load z isAgg60 ((hc370 (HL.le.refl _) hst) 0 _ z)) ?_
 refine ws_e1 10 (by kernel_rfl) ?_
 refine nxe [11] (by kernel_rfl) z z ?_
 clear hst
 intro w hst
 obtain ⟨t374, ht375, hm⟩ := bind_some hm
 refine wec call26 [v360, v371] z z ?_
 refine (ref11_SamePairs_ref (f361.mono (rd_weak _)) (f372.mono (rd_weak _)) hst.to0 ht375).mono ?_
 rintro _ w376 ⟨rfl, hst⟩
 refine ⟨_, z, ?_⟩
 replace hst := hst.of0
 refine ws_next (pend' := []) hst (by kernel_rfl) pk_nil ?_
 refine wsr (.bool (!t374)) 11 z z z (by kernel_rfl) (fun w hst => z) ?_
 refine ws_nil ?_
 intro w hst
 refine tn ?_
 refine bsplit (!t374) (fun hc379 => ?_) (fun hc379 => ?_)
 {
 replace hm := bif_t hc379 hm
 refine wp_ift (cvb hc379) ?_
 refine wp_seq (wrl (wv (.bool false) z z z (wl_nil (tn (wp_ret (blk_r (then_r (then_r ?_))))))))
 replace hm := inr_up hm hx349
 refine blk_r (then_r ?_)
 obtain rfl := some_inj hm
 refine post_ret (vs := [.bool false]) results17 (rvs_cons (rv_tmp z) rvs_nil) ?_
 exact ⟨z, hst.keep0⟩
}
 {
 replace hm := bif_f hc379 hm
 refine wp_iff (cvb hc379) ?_
 refine wp_skip (blk_n (tn (wrl ?_)))
 refine wv (.int .i64 z342) z z z (wv (.int .i64 (i64.wrap (z342 + (1:Int)))) z z z (wv (.int .i64 (i64.wrap (z342 + (1:Int)))) z z z (wl_nil (tn ?_))))
 replace hst := hst.pull1.pull1.keep2
 obtain rfl := some_inj hm
 exact ⟨_, Nat.lt_succ_self _, (i64.wrap (z342 + (1:Int))), _, hx349, (fu 2 (Pt b263 0) z (fu 3 (Pt b268 0) z (fu 5 (.int .i64 (i64.wrap (z342 + (1:Int)))) z z))), hst⟩
}
}
 {
 replace hm := bif_f hc351 hm
 refine wp_iff (cvb hc351) ?_
 refine wp_exit (then_x (then_x ?_))
 replace hm := inr_up hm hx349
 refine blk_x (tn (wp_seq (wrl ?_)))
 refine wv (.bool true) z z z (wl_nil (tn (wp_ret ?_)))
 obtain rfl := some_inj hm
 refine post_ret (vs := [.bool true]) results17 (rvs_cons (rv_tmp z) rvs_nil) ?_
 exact ⟨z, hst.keep0⟩
}
}
}
}
}
}
}

theorem law14_SessionRaw_ref {w0 w : World} {I : HL} {R : SP} {a0 : Int} {a1 : Int} {a2 : Int} {a3 : api_Reply} {r3_0 : Value} {r3_1 : Value} {a4 : api_Reply} {r4_0 : Value} {r4_1 : Value} {a5 : Bool} (f3_0 : Ro ty_api_Got I r3_0 a3.Gots) (f3_1 : Ro (tySl ty_api_Pair) I r3_1 a3.Scans) (f4_0 : Ro ty_api_Got I r4_0 a4.Gots) (f4_1 : Ro (tySl ty_api_Pair) I r4_1 a4.Scans) (hst : St w0 w I [] R) {r : (Bool)} (hm : law14_SessionRaw a0 a1 a2 a3 a4 a5 = some r) :
  Calls prog 4 #[U6 a0, U6 a1, U6 a2, .agg #[I6 a3.E, U6 a3.Epoch, U6 a3.Index, r3_0, r3_1], .agg #[I6 a4.E, U6 a4.Epoch, U6 a4.Index, r4_0, r4_1], .bool a5] w fun e w' => ∃ (I' : HL), e = .returned (.bool r) ∧ I.le I' ∧ St w0 w' I' [] R := by {
 unfold law14_SessionRaw at hm
 refine calls_start (args := [U6 a0, U6 a1, U6 a2, .agg #[I6 a3.E, U6 a3.Epoch, U6 a3.Index, r3_0, r3_1], .agg #[I6 a4.E, U6 a4.Epoch, U6 a4.Index, r4_0, r4_1], .bool a5]) func4 z ntmps4 (Nat.le_of_ble_eq_true z) ?_
 have hI0 := HL.le.refl I
 refine wp_seq (wrl ?_)
 obtain ⟨b147, w148, ew149, eb150, hst⟩ := hst.box [I6 a3.E, U6 a3.Epoch, U6 a3.Index, r3_0, r3_1] 36
 refine wl_run (v := Pt b147 0) (w' := w148) z z (x_al (by kernel_rfl) ew149 eb150) ?_
 obtain ⟨b152, w153, ew154, eb155, hst⟩ := hst.box [I6 a4.E, U6 a4.Epoch, U6 a4.Index, r4_0, r4_1] 36
 refine wl_run (v := Pt b152 0) (w' := w153) z z (x_al (by kernel_rfl) ew154 eb155) ?_
 refine wv (.bool false) z z z (wl_nil (tn (wp_seq (wp_seq (wrl ?_)))))
 obtain ⟨t157, ht158, hm⟩ := bind_some hm
 refine wc call7 [] z z z ?_
 refine (law14_awake_ref hst.to0 ht158).mono ?_
 rintro _ w159 ⟨I160, rfl, hI161, hst⟩
 refine ⟨_, z, ?_⟩
 replace hst := hst.of0
 replace f3_0 := f3_0.mono (ro_le hI161)
 replace f3_1 := f3_1.mono (ro_le hI161)
 replace f4_0 := f4_0.mono (ro_le hI161)
 replace f4_1 := f4_1.mono (ro_le hI161)
 replace hI0 := hI0.trans hI161
 refine wv (.bool (!t157)) z z z (wv (.bool (!t157)) z z z ?_)
 refine bsplit (!t157) (fun hc162 => ?_) (fun hc162 => ?_)
 {
 replace hm := bif_t hc162 hm
 refine wo hc162 z z z z z z (wo hc162 z z z z z z (wo hc162 z z z z z z (wo hc162 z z z z z z (wo hc162 z z z z z z (wo hc162 z z z z z z (wo hc162 z z z z z z (wo hc162 z z z z z z (wo hc162 z z z z z z (wo hc162 z z z z z z (wo hc162 z z z z z z (wo hc162 z z z z z z (wo hc162 z z z z z z ?_))))))))))))
 refine wo hc162 z z z z z z (wo hc162 z z z z z z (wo hc162 z z z z z z (wv (.bool true) z z (x_pick_t hc162 z z) (wl_nil (tn ?_)))))
 refine wp_ift z ?_
 refine wp_seq (wrl ?_)
 obtain ⟨t163, ht164, hm⟩ := bind_some hm
 refine wc call7 [] z z z ?_
 refine (law14_awake_ref hst.to0 ht164).mono ?_
 rintro _ w165 ⟨I166, rfl, hI167, hst⟩
 refine ⟨_, z, ?_⟩
 replace hst := hst.of0
 replace f3_0 := f3_0.mono (ro_le hI167)
 replace f3_1 := f3_1.mono (ro_le hI167)
 replace f4_0 := f4_0.mono (ro_le hI167)
 replace f4_1 := f4_1.mono (ro_le hI167)
 replace hI0 := hI0.trans hI167
 refine wv (.bool t163) z z z (wl_nil (tn (wp_ret (then_r ?_))))
 obtain rfl := some_inj hm
 refine post_ret (vs := [.bool t163]) results4 (rvs_cons (rv_tmp z) rvs_nil) ?_
 exact ⟨_, z, hI0, hst.keep0⟩
}
 {
 replace hm := bif_f hc162 hm
 refine wv (Pt b147 3) ((wanted_eq z z z (cvb hc162)).trans z) z (x_field z underlying36 z sizeOf33 z) (wv (r3_0) ((wanted_eq z z z (cvb hc162)).trans z) z (x_load z isAgg33 (hst.bc1 z)) (wv (.int .i64 ((a3.Gots).length : Int)) ((wanted_eq z z z (cvb hc162)).trans z) z (x_len z underlying33 (ro_sliceV f3_0)) (wv (Pt b147 4) ((wanted_eq z z z (cvb hc162)).trans z) z (x_field z underlying36 z sizeOf34 z) (wv (r3_1) ((wanted_eq z z z (cvb hc162)).trans z) z (x_load z isAgg34 (hst.bc1 z)) (wv (.int .i64 ((a3.Scans).length : Int)) ((wanted_eq z z z (cvb hc162)).trans z) z (x_len z underlying34 (ro_sliceV f3_1)) (wv (.int .i64 (i64.wrap (((a3.Gots).length : Int) + ((a3.Scans).length : Int)))) ((wanted_eq z z z (cvb hc162)).trans z) z z (wv (Pt b152 3) ((wanted_eq z z z (cvb hc162)).trans z) z (x_field z underlying36 z sizeOf33 z) (wv (r4_0) ((wanted_eq z z z (cvb hc162)).trans z) z (x_load z isAgg33 (hst.bc0 z)) (wv (.int .i64 ((a4.Gots).length : Int)) ((wanted_eq z z z (cvb hc162)).trans z) z (x_len z underlying33 (ro_sliceV f4_0)) (wv (.int .i64 (i64.wrap ((i64.wrap (((a3.Gots).length : Int) + ((a3.Scans).length : Int))) + ((a4.Gots).length : Int)))) ((wanted_eq z z z (cvb hc162)).trans z) z z (wv (Pt b152 4) ((wanted_eq z z z (cvb hc162)).trans z) z (x_field z underlying36 z sizeOf34 z) (wv (r4_1) ((wanted_eq z z z (cvb hc162)).trans z) z (x_load z isAgg34 (hst.bc0 z)) ?_))))))))))))
 refine wv (.int .i64 ((a4.Scans).length : Int)) ((wanted_eq z z z (cvb hc162)).trans z) z (x_len z underlying34 (ro_sliceV f4_1)) (wv (.int .i64 (i64.wrap ((i64.wrap ((i64.wrap (((a3.Gots).length : Int) + ((a3.Scans).length : Int))) + ((a4.Gots).length : Int))) + ((a4.Scans).length : Int)))) ((wanted_eq z z z (cvb hc162)).trans z) z z (wv (.bool (decide ((i64.wrap ((i64.wrap ((i64.wrap (((a3.Gots).length : Int) + ((a3.Scans).length : Int))) + ((a4.Gots).length : Int))) + ((a4.Scans).length : Int))) > (100:Int)))) ((wanted_eq z z z (cvb hc162)).trans z) z z (wv (.bool (decide ((i64.wrap ((i64.wrap ((i64.wrap (((a3.Gots).length : Int) + ((a3.Scans).length : Int))) + ((a4.Gots).length : Int))) + ((a4.Scans).length : Int))) > (100:Int)))) z z (x_pick_f hc162 z z) (wl_nil (tn ?_)))))
 refine bsplit (decide ((i64.wrap ((i64.wrap ((i64.wrap (((a3.Gots).length : Int) + ((a3.Scans).length : Int))) + ((a4.Gots).length : Int))) + ((a4.Scans).length : Int))) > (100:Int))) (fun hc168 => ?_) (fun hc168 => ?_)
 {
 replace hm := bif_t hc168 hm
 refine wp_ift (cvb hc168) ?_
 refine wp_seq (wrl ?_)
 obtain ⟨t169, ht170, hm⟩ := bind_some hm
 refine wc call7 [] z z z ?_
 refine (law14_awake_ref hst.to0 ht170).mono ?_
 rintro _ w171 ⟨I172, rfl, hI173, hst⟩
 refine ⟨_, z, ?_⟩
 replace hst := hst.of0
 replace f3_0 := f3_0.mono (ro_le hI173)
 replace f3_1 := f3_1.mono (ro_le hI173)
 replace f4_0 := f4_0.mono (ro_le hI173)
 replace f4_1 := f4_1.mono (ro_le hI173)
 replace hI0 := hI0.trans hI173
 refine wv (.bool t169) z z z (wl_nil (tn (wp_ret (then_r ?_))))
 obtain rfl := some_inj hm
 refine post_ret (vs := [.bool t169]) results4 (rvs_cons (rv_tmp z) rvs_nil) ?_
 exact ⟨_, z, hI0, hst.keep0⟩
}
 {
 replace hm := bif_f hc168 hm
 refine wp_iff (cvb hc168) ?_
 refine wp_skip (tn ?_)
 obtain ⟨y179, hm, hx180⟩ := bind_some hm
 refine wp_cut (fun a w => ∃ (z175 : Int) (z176 : Int) (σ177 : Nat → Value), (law14_SessionRaw_j0 a0 a3 a4) (z175, z176) = some r ∧ a = Fr 118 (upd (upd (upd (upd (upd σ177 0 (.int .u64 a0)) 1 (.int .u64 z175)) 2 (.int .u64 z176)) 9 (Pt b147 0)) 10 (Pt b152 0)) ∧ St w0 w I160 [cells b147 [I6 a3.E, U6 a3.Epoch, U6 a3.Index, r3_0, r3_1], cells b152 [I6 a4.E, U6 a4.Epoch, U6 a4.Index, r4_0, r4_1]] R) ?_ ?_
 {
 refine wp_seq (wrl (wv (.bool a5) z z z (wl_nil (tn ?_))))
 refine bsplit a5 (fun hc174 => ?_) (fun hc174 => ?_)
 {
 replace hm := bif_t hc174 hm
 refine wp_ift (cvb hc174) ?_
 refine wp_seq (wrl (wv (.int .u64 a1) z z z (wv (.int .u64 (Int.tmod a1 (4:Int))) z z (x_rem (by decide) z z) (wv (.int .u64 (Int.tmod a1 (4:Int))) z z z (wl_nil (tn (wrl (wv (.int .u64 a2) z z z (wv (.int .u64 (Int.tmod a2 (4:Int))) z z (x_rem (by decide) z z) (wv (.int .u64 (Int.tmod a2 (4:Int))) z z z (wl_nil (tn ?_))))))))))))
 replace hst := hst.pull1.keep2
 obtain rfl := some_inj hm
 exact ⟨(Int.tmod a1 (4:Int)), (Int.tmod a2 (4:Int)), _, hx180, (fu 0 (.int .u64 a0) z (fu 1 (.int .u64 (Int.tmod a1 (4:Int))) z (fu 2 (.int .u64 (Int.tmod a2 (4:Int))) z (fu 9 (Pt b147 0) z (fu 10 (Pt b152 0) z z))))), hst⟩
}
 {
 replace hm := bif_f hc174 hm
 refine wp_iff (cvb hc174) ?_
 refine wp_skip (tn ?_)
 replace hst := hst.pull1.keep2
 obtain rfl := some_inj hm
 exact ⟨a1, a2, _, hx180, (fu 0 (.int .u64 a0) z (fu 1 (.int .u64 a1) z (fu 2 (.int .u64 a2) z (fu 9 (Pt b147 0) z (fu 10 (Pt b152 0) z z))))), hst⟩
}
}
 {
 clear hst
 rintro _ w181 ⟨z175, z176, σ177, hm, rfl, hst⟩
 dsimp only [law14_SessionRaw_j0] at hm
 refine wp_seq (wrl ?_)
 obtain ⟨t182, ht183, hm⟩ := bind_some hm
 refine wc call8 [] z z z ?_
 refine (session_New_ref hst.to0 ht183).mono ?_
 rintro _ w184 ⟨v187, rfl, hst⟩
 refine ⟨_, z, ?_⟩
 replace hst := hst.of1
 refine wv (v187) z z z (wl_nil (tn (wp_seq (wrl (wv (v187) z z z (wv (.int .u64 a0) z z z (wv (.int .u64 z175) z z z (wv (.agg #[I6 a3.E, U6 a3.Epoch, U6 a3.Index, r3_0, r3_1]) z z (x_loadN (cs := [I6 a3.E, U6 a3.Epoch, U6 a3.Index, r3_0, r3_1]) z isAgg36 sizeOf36 (hst.bcs1 0 z)) ?_))))))))
 replace hst := objO_some hst
 obtain ⟨t189, ht190, hm⟩ := bind_some hm
 refine wc call12 [v187, U6 a0, U6 z175, .agg #[I6 a3.E, U6 a3.Epoch, U6 a3.Index, r3_0, r3_1]] z z z ?_
 refine (session_Table_Put_ref f3_0 f3_1 hst.to1 ht190).mono ?_
 rintro _ w191 ⟨rfl, hst⟩
 refine ⟨_, z, ?_⟩
 replace hst := hst.of1
 rcases he195 : t189.2 with _ | y194
 · rw [he195] at hm; cases hm
 rw [he195] at hm hst; dsimp only at hm; replace hst := objO_get hst
 refine wv (.int .i64 t189.1) z z z (wl_nil (tn (wp_seq (wrl (wv (v187) z z z (wv (.int .u64 a0) z z z (wv (.int .u64 z176) z z z (wv (.agg #[I6 a4.E, U6 a4.Epoch, U6 a4.Index, r4_0, r4_1]) z z (x_loadN (cs := [I6 a4.E, U6 a4.Epoch, U6 a4.Index, r4_0, r4_1]) z isAgg36 sizeOf36 (hst.bcs2 0 z)) ?_))))))))
 replace hst := objO_some hst
 obtain ⟨t196, ht197, hm⟩ := bind_some hm
 refine wc call12 [v187, U6 a0, U6 z176, .agg #[I6 a4.E, U6 a4.Epoch, U6 a4.Index, r4_0, r4_1]] z z z ?_
 refine (session_Table_Put_ref f4_0 f4_1 hst.to1 ht197).mono ?_
 rintro _ w198 ⟨rfl, hst⟩
 refine ⟨_, z, ?_⟩
 replace hst := hst.of1
 rcases he202 : t196.2 with _ | y201
 · rw [he202] at hm; cases hm
 rw [he202] at hm hst; dsimp only at hm; replace hst := objO_get hst
 refine wv (.int .i64 t196.1) z z z (wl_nil (tn ?_))
 obtain ⟨y208, hm, hx209⟩ := joinO_some hm
 refine wp_cut (fun a w => ∃ (σ206 : Nat → Value), (law14_SessionRaw_j1 z176 z175 y201 a0 t196 a3 a4) () = some r ∧ a = Fr 118 (upd (upd (upd (upd (upd (upd (upd σ206 0 (.int .u64 a0)) 1 (.int .u64 z175)) 2 (.int .u64 z176)) 9 (Pt b147 0)) 10 (Pt b152 0)) 13 (v187)) 15 (.int .i64 t196.1)) ∧ St w0 w I160 [cells b147 [I6 a3.E, U6 a3.Epoch, U6 a3.Index, r3_0, r3_1], cells b152 [I6 a4.E, U6 a4.Epoch, U6 a4.Index, r4_0, r4_1], at_session_Table v187 y201] R) ?_ ?_
 {
 refine wp_seq (wrl (wv (.int .i64 t189.1) z z z (wv (.bool (t189.1 == (0:Int))) z z z (wv (.int .u64 z175) z z z (wv (.bool (z175 != (0:Int))) z z z (wv (.bool (!((t189.1 == (0:Int)) == (z175 != (0:Int))))) z z (by kernel_rfl) (wv (.bool (!((t189.1 == (0:Int)) == (z175 != (0:Int))))) z z z ?_)))))))
 refine bsplit (!((t189.1 == (0:Int)) == (z175 != (0:Int)))) (fun hc203 => ?_) (fun hc203 => ?_)
 {
 replace hm := bif_t hc203 hm
 refine wo hc203 z z z z z z (wo hc203 z z z z z z (wo hc203 z z z z z z (wl_off (wanted_undef z z z z) z (wl_off (wanted_undef z z z z) z (wo hc203 z z z z z z (wv (.bool true) z z (x_pick_t hc203 z z) (wl_nil (tn ?_))))))))
 refine wp_ift z ?_
 refine wp_seq (wrl (wv (.bool false) z z z (wl_nil (tn (wp_ret (then_r ?_))))))
 replace hm := inr_up hm hx209
 obtain rfl := some_inj hm
 refine post_ret (vs := [.bool false]) results4 (rvs_cons (rv_tmp z) rvs_nil) ?_
 exact ⟨_, z, hI0, hst.keep0⟩
}
 {
 replace hm := bif_f hc203 hm
 refine wv (.int .u64 z175) ((wanted_eq z z z (cvb hc203)).trans z) z z (wv (.bool (z175 == (0:Int))) ((wanted_eq z z z (cvb hc203)).trans z) z z (wv (.bool (z175 == (0:Int))) ((wanted_eq z z z (cvb hc203)).trans z) z z ?_))
 refine bsplit (z175 == (0:Int)) (fun hc204 => ?_) (fun hc204 => ?_)
 {
 replace hm := bif_t hc204 hm
 refine wv (.int .i64 t189.1) ((wanted_eq z z z (cvb hc204)).trans z) z z (wv (.bool (t189.1 != (1:Int))) ((wanted_eq z z z (cvb hc204)).trans z) z z (wv (.bool (t189.1 != (1:Int))) ((wanted_eq z z z (cvb hc203)).trans z) z (x_pick_t hc204 z z) (wv (.bool (t189.1 != (1:Int))) z z (x_pick_f hc203 z z) (wl_nil (tn ?_)))))
 refine bsplit (t189.1 != (1:Int)) (fun hc205 => ?_) (fun hc205 => ?_)
 {
 replace hm := bif_t hc205 hm
 refine wp_ift (cvb hc205) ?_
 refine wp_seq (wrl (wv (.bool false) z z z (wl_nil (tn (wp_ret (then_r ?_))))))
 replace hm := inr_up hm hx209
 obtain rfl := some_inj hm
 refine post_ret (vs := [.bool false]) results4 (rvs_cons (rv_tmp z) rvs_nil) ?_
 exact ⟨_, z, hI0, hst.keep0⟩
}
 {
 replace hm := bif_f hc205 hm
 refine wp_iff (cvb hc205) ?_
 refine wp_skip (tn ?_)
 replace hst := hst.pull2.pull2.keep3
 obtain rfl := some_inj hm
 exact ⟨_, hx209, (fu 0 (.int .u64 a0) z (fu 1 (.int .u64 z175) z (fu 2 (.int .u64 z176) z (fu 9 (Pt b147 0) z (fu 10 (Pt b152 0) z (fu 13 v187 z (fu 15 (.int .i64 t196.1) z z))))))), hst⟩
}
}
 {
 replace hm := bif_f hc204 hm
 refine wo hc204 z z z z z z (wo hc204 z z z z z z (wv (.bool false) ((wanted_eq z z z (cvb hc203)).trans z) z (x_pick_f hc204 z z) (wv (.bool false) z z (x_pick_f hc203 z z) (wl_nil (tn ?_)))))
 refine wp_iff z ?_
 refine wp_skip (tn ?_)
 replace hst := hst.pull2.pull2.keep3
 obtain rfl := some_inj hm
 exact ⟨_, hx209, (fu 0 (.int .u64 a0) z (fu 1 (.int .u64 z175) z (fu 2 (.int .u64 z176) z (fu 9 (Pt b147 0) z (fu 10 (Pt b152 0) z (fu 13 v187 z (fu 15 (.int .i64 t196.1) z z))))))), hst⟩
}
}
}
 {
 clear hst
 rintro _ w210 ⟨σ206, hm, rfl, hst⟩
 dsimp only [law14_SessionRaw_j1] at hm
 refine wp_seq (wrl (wv (.int .i64 (0:Int)) z z z (wl_nil (tn ?_))))
 obtain ⟨y216, hm, hx217⟩ := bind_some hm
 refine wp_cut (fun a w => ∃ (z213 : Int) (σ214 : Nat → Value), (law14_SessionRaw_j2 z176 z175 y201 a0 t196 a3 a4) z213 = some r ∧ a = Fr 118 (upd (upd (upd (upd (upd (upd (upd (upd σ214 0 (.int .u64 a0)) 1 (.int .u64 z175)) 2 (.int .u64 z176)) 9 (Pt b147 0)) 10 (Pt b152 0)) 13 (v187)) 15 (.int .i64 t196.1)) 16 (.int .i64 z213)) ∧ St w0 w I160 [cells b147 [I6 a3.E, U6 a3.Epoch, U6 a3.Index, r3_0, r3_1], cells b152 [I6 a4.E, U6 a4.Epoch, U6 a4.Index, r4_0, r4_1], at_session_Table v187 y201] R) ?_ ?_
 {
 refine wp_seq (wrl (wv (.int .u64 z176) z z z (wv (.bool (z176 == (0:Int))) z z z (wl_nil (tn ?_)))))
 refine bsplit (z176 == (0:Int)) (fun hc211 => ?_) (fun hc211 => ?_)
 {
 replace hm := bif_t hc211 hm
 refine wp_ift (cvb hc211) ?_
 refine wrl (wv (.int .i64 (1:Int)) z z z (wl_nil (tn ?_)))
 replace hst := hst.pull2.pull2.pull2.keep3
 obtain rfl := some_inj hm
 exact ⟨(1:Int), _, hx217, (fu 0 (.int .u64 a0) z (fu 1 (.int .u64 z175) z (fu 2 (.int .u64 z176) z (fu 9 (Pt b147 0) z (fu 10 (Pt b152 0) z (fu 13 v187 z (fu 15 (.int .i64 t196.1) z (fu 16 (.int .i64 (1:Int)) z z)))))))), hst⟩
}
 {
 replace hm := bif_f hc211 hm
 refine wp_iff (cvb hc211) ?_
 refine wp_seq (wrl (wv (.int .u64 z176) z z z (wv (.int .u64 z175) z z z (wv (.bool (decide (z176 ≤ z175))) z z z (wl_nil (tn ?_))))))
 refine bsplit (decide (z176 ≤ z175)) (fun hc212 => ?_) (fun hc212 => ?_)
 {
 replace hm := bif_t hc212 hm
 refine wp_ift (cvb hc212) ?_
 refine wrl (wv (.int .i64 (10:Int)) z z z (wl_nil (tn ?_)))
 replace hst := hst.pull2.pull2.pull2.keep3
 obtain rfl := some_inj hm
 exact ⟨(10:Int), _, hx217, (fu 0 (.int .u64 a0) z (fu 1 (.int .u64 z175) z (fu 2 (.int .u64 z176) z (fu 9 (Pt b147 0) z (fu 10 (Pt b152 0) z (fu 13 v187 z (fu 15 (.int .i64 t196.1) z (fu 16 (.int .i64 (10:Int)) z z)))))))), hst⟩
}
 {
 replace hm := bif_f hc212 hm
 refine wp_iff (cvb hc212) ?_
 refine wp_skip (tn ?_)
 replace hst := hst.pull2.pull2.pull2.keep3
 obtain rfl := some_inj hm
 exact ⟨(0:Int), _, hx217, (fu 0 (.int .u64 a0) z (fu 1 (.int .u64 z175) z (fu 2 (.int .u64 z176) z (fu 9 (Pt b147 0) z (fu 10 (Pt b152 0) z (fu 13 v187 z (fu 15 (.int .i64 t196.1) z (fu 16 (.int .i64 (0:Int)) z z)))))))), hst⟩
}
}
}
 {
 clear hst
 rintro _ w218 ⟨z213, σ214, hm, rfl, hst⟩
 dsimp only [law14_SessionRaw_j2] at hm
 refine wp_seq (wrl (wv (.int .u64 z175) z z z (wv (.int .u64 z175) z z z (wl_nil (tn ?_)))))
 obtain ⟨y223, hm, hx224⟩ := bind_some hm
 refine wp_cut (fun a w => ∃ (z220 : Int) (σ221 : Nat → Value), (law14_SessionRaw_j3 y201 a0 t196 z213 a3 a4) z220 = some r ∧ a = Fr 118 (upd (upd (upd (upd (upd (upd (upd σ221 0 (.int .u64 a0)) 9 (Pt b147 0)) 10 (Pt b152 0)) 13 (v187)) 15 (.int .i64 t196.1)) 16 (.int .i64 z213)) 17 (.int .u64 z220)) ∧ St w0 w I160 [cells b147 [I6 a3.E, U6 a3.Epoch, U6 a3.Index, r3_0, r3_1], cells b152 [I6 a4.E, U6 a4.Epoch, U6 a4.Index, r4_0, r4_1], at_session_Table v187 y201] R) ?_ ?_
 {
 refine wp_seq (wrl (wv (.int .i64 z213) z z z (wv (.bool (z213 == (0:Int))) z z z (wl_nil (tn ?_)))))
 refine bsplit (z213 == (0:Int)) (fun hc219 => ?_) (fun hc219 => ?_)
 {
 replace hm := bif_t hc219 hm
 refine wp_ift (cvb hc219) ?_
 refine wrl (wv (.int .u64 z176) z z z (wv (.int .u64 z176) z z z (wl_nil (tn ?_))))
 replace hst := hst.pull2.pull2.pull2.keep3
 obtain rfl := some_inj hm
 exact ⟨z176, _, hx224, (fu 0 (.int .u64 a0) z (fu 9 (Pt b147 0) z (fu 10 (Pt b152 0) z (fu 13 v187 z (fu 15 (.int .i64 t196.1) z (fu 16 (.int .i64 z213) z (fu 17 (.int .u64 z176) z z))))))), hst⟩
}
 {
 replace hm := bif_f hc219 hm
 refine wp_iff (cvb hc219) ?_
 refine wp_skip (tn ?_)
 replace hst := hst.pull2.pull2.pull2.keep3
 obtain rfl := some_inj hm
 exact ⟨z175, _, hx224, (fu 0 (.int .u64 a0) z (fu 9 (Pt b147 0) z (fu 10 (Pt b152 0) z (fu 13 v187 z (fu 15 (.int .i64 t196.1) z (fu 16 (.int .i64 z213) z (fu 17 (.int .u64 z175) z z))))))), hst⟩
}
}
 {
 clear hst
 rintro _ w225 ⟨z220, σ221, hm, rfl, hst⟩
 dsimp only [law14_SessionRaw_j3] at hm
 refine wp_seq (wrl (wv (v187) z z z (wv (.int .u64 a0) z z z (wv (.int .u64 z220) z z z ?_))))
 replace hst := hst.pull2
 replace hst := objO_some hst
 obtain ⟨t226, ht227, hm⟩ := bind_some hm
 refine wc call14 [v187, U6 a0, U6 z220] z z z ?_
 refine (session_Table_Get_ref hst.to1 ht227).mono ?_
 rintro _ w228 ⟨I229, v231, v234, rfl, hI230, f233, f236, hst⟩
 refine ⟨_, z, ?_⟩
 replace hst := hst.of1
 replace f3_0 := f3_0.mono (ro_le hI230)
 replace f3_1 := f3_1.mono (ro_le hI230)
 replace f4_0 := f4_0.mono (ro_le hI230)
 replace f4_1 := f4_1.mono (ro_le hI230)
 replace hI0 := hI0.trans hI230
 replace hst := objO_get hst
 refine wv (.tuple #[.agg #[I6 t226.1.E, U6 t226.1.Epoch, U6 t226.1.Index, v231, v234], I6 t226.2]) z z z (wv (.agg #[I6 t226.1.E, U6 t226.1.Epoch, U6 t226.1.Index, v231, v234]) z z z (wv (.int .i64 t226.2) z z z ?_))
 obtain ⟨b239, w240, ew241, eb242, hst⟩ := hst.box [Zi, Zu, Zu, Zs, Zs] 36
 refine wl_run (v := Pt b239 0) (w' := w240) z z (x_al (by kernel_rfl) ew241 eb242) ?_
 obtain ⟨w244, hr245, hst⟩ := hst.bx [I6 t226.1.E, U6 t226.1.Epoch, U6 t226.1.Index, v231, v234] sizeOf36 z (oC z (oC z (oC z (oC (one_of_sliceV (ro_sliceV f233)) (oC (one_of_sliceV (ro_sliceV f236)) oN))))) (by kernel_rfl)
 refine wl_unit z z (x_unit hr245) ?_
 refine wv (.int .i64 t226.2) z z z (wl_nil (tn (wp_seq (wp_seq (wrl (wv (.int .u64 z220) z z z (wv (.bool (z220 == (0:Int))) z z z (wl_nil (tn ?_)))))))))
 refine bsplit (z220 == (0:Int)) (fun hc246 => ?_) (fun hc246 => ?_)
 {
 replace hm := bif_t hc246 hm
 refine wp_ift (cvb hc246) ?_
 refine wp_seq (wrl (wv (.int .i64 t196.1) z z z (wv (.int .i64 z213) z z z (wv (.bool (t196.1 == z213)) z z z (wv (.bool (t196.1 == z213)) z z z ?_)))))
 refine bsplit (t196.1 == z213) (fun hc247 => ?_) (fun hc247 => ?_)
 {
 replace hm := bif_t hc247 hm
 refine wv (v187) ((wanted_eq z z z (cvb hc247)).trans z) z z ?_
 replace hst := hst.pull1
 replace hst := objO_some hst
 obtain ⟨t248, ht249, hm⟩ := bind_some hm
 refine wl_call ((wanted_eq z z z (cvb hc247)).trans z) z (x_call call15 z (vs := [v187]) z) ?_
 refine (session_Table_Len_ref hst.to1 ht249).mono ?_
 rintro _ w250 ⟨rfl, hst⟩
 refine ⟨_, z, ?_⟩
 replace hst := hst.of1
 replace hst := objO_get hst
 refine wv (.bool (t248 == (0:Int))) ((wanted_eq z z z (cvb hc247)).trans z) z z (wv (.bool (t248 == (0:Int))) z z (x_pick_t hc247 z z) (wv (.bool (t248 == (0:Int))) z z z (wl_nil (tn (wp_ret (then_r ?_))))))
 obtain rfl := some_inj hm
 refine post_ret (vs := [.bool (t248 == (0:Int))]) results4 (rvs_cons (rv_tmp z) rvs_nil) ?_
 exact ⟨_, z, hI0, hst.keep0⟩
}
 {
 replace hm := bif_f hc247 hm
 refine wo hc247 z z z z z z (wo hc247 z z z z z z (wo hc247 z z z z z z (wv (.bool false) z z (x_pick_f hc247 z z) (wv (.bool false) z z z (wl_nil (tn (wp_ret (then_r ?_))))))))
 obtain rfl := some_inj hm
 refine post_ret (vs := [.bool false]) results4 (rvs_cons (rv_tmp z) rvs_nil) ?_
 exact ⟨_, z, hI0, hst.keep0⟩
}
}
 {
 replace hm := bif_f hc246 hm
 refine wp_iff (cvb hc246) ?_
 refine wp_skip (tn ?_)
 obtain ⟨y269, hm, hx270⟩ := bind_some hm
 refine wp_cut (fun a w => ∃ (z256 : Int) (z257 : Int) (z258 : Int) (z261 : (List api_Got)) (z265 : (List (List api_Pair))) (v260 : Value) (v264 : Value) (σ267 : Nat → Value), (law14_SessionRaw_j4 t196 z213 y201 a0 z220 t226) (z256, z257, z258, z261, z265) = some r ∧ a = Fr 118 (upd (upd (upd (upd (upd (upd (upd (upd σ267 0 (.int .u64 a0)) 10 (Pt b152 0)) 13 (v187)) 15 (.int .i64 t196.1)) 16 (.int .i64 z213)) 17 (.int .u64 z220)) 18 (Pt b239 0)) 19 (.int .i64 t226.2)) ∧ Ro ty_api_Got I229 v260 z261 ∧ Ro (tySl ty_api_Pair) I229 v264 z265 ∧ St w0 w I229 [cells b152 [I6 z256, U6 z257, U6 z258, v260, v264], at_session_Table v187 y201, cells b239 [I6 t226.1.E, U6 t226.1.Epoch, U6 t226.1.Index, v231, v234]] R) ?_ ?_
 {
 refine wp_seq (wrl (wv (.int .i64 z213) z z z (wv (.bool (z213 != (0:Int))) z z z (wl_nil (tn ?_)))))
 refine bsplit (z213 != (0:Int)) (fun hc253 => ?_) (fun hc253 => ?_)
 {
 replace hm := bif_t hc253 hm
 refine wp_ift (cvb hc253) ?_
 refine wrl (wv (.agg #[I6 a3.E, U6 a3.Epoch, U6 a3.Index, r3_0, r3_1]) z z (x_loadN (cs := [I6 a3.E, U6 a3.Epoch, U6 a3.Index, r3_0, r3_1]) z isAgg36 sizeOf36 (hst.bcs2 0 z)) ?_)
 replace hst := hst.pull3
 obtain ⟨w254, hr255, hst⟩ := hst.bx [I6 a3.E, U6 a3.Epoch, U6 a3.Index, r3_0, r3_1] sizeOf36 z (oC z (oC z (oC z (oC (one_of_sliceV (ro_sliceV f3_0)) (oC (one_of_sliceV (ro_sliceV f3_1)) oN))))) (by kernel_rfl)
 refine wl_unit z z (x_unit hr255) ?_
 refine wl_nil (tn ?_)
 replace hst := hst.pull1.pull2.pull2.keep3
 obtain rfl := some_inj hm
 exact ⟨a3.E, a3.Epoch, a3.Index, a3.Gots, a3.Scans, r3_0, r3_1, _, hx270, (fu 0 (.int .u64 a0) z (fu 10 (Pt b152 0) z (fu 13 v187 z (fu 15 (.int .i64 t196.1) z (fu 16 (.int .i64 z213) z (fu 17 (.int .u64 z220) z (fu 18 (Pt b239 0) z (fu 19 (.int .i64 t226.2) z z)))))))), f3_0, f3_1, hst⟩
}
 {
 replace hm := bif_f hc253 hm
 refine wp_iff (cvb hc253) ?_
 refine wp_skip (tn ?_)
 replace hst := hst.pull1.pull3.keep3
 obtain rfl := some_inj hm
 exact ⟨a4.E, a4.Epoch, a4.Index, a4.Gots, a4.Scans, r4_0, r4_1, _, hx270, (fu 0 (.int .u64 a0) z (fu 10 (Pt b152 0) z (fu 13 v187 z (fu 15 (.int .i64 t196.1) z (fu 16 (.int .i64 z213) z (fu 17 (.int .u64 z220) z (fu 18 (Pt b239 0) z (fu 19 (.int .i64 t226.2) z z)))))))), f4_0, f4_1, hst⟩
}
}
 {
 clear hst
 rintro _ w271 ⟨z256, z257, z258, z261, z265, v260, v264, σ267, hm, rfl, f262, f266, hst⟩
 dsimp only [law14_SessionRaw_j4] at hm
 refine wp_seq (wrl (wv (.int .i64 t196.1) z z z (wv (.int .i64 z213) z z z (wv (.bool (t196.1 == z213)) z z z (wv (.bool (t196.1 == z213)) z z z ?_)))))
 refine bsplit (t196.1 == z213) (fun hc272 => ?_) (fun hc272 => ?_)
 {
 replace hm := bif_t hc272 hm
 refine wv (v187) ((wanted_eq z z z (cvb hc272)).trans z) z z (wv (.int .u64 a0) ((wanted_eq z z z (cvb hc272)).trans z) z z ?_)
 replace hst := hst.pull1
 replace hst := objO_some hst
 obtain ⟨t273, ht274, hm⟩ := bind_some hm
 refine wl_call ((wanted_eq z z z (cvb hc272)).trans z) z (x_call call16 z (vs := [v187, U6 a0]) z) ?_
 refine (session_Table_Last_ref hst.to1 ht274).mono ?_
 rintro _ w275 ⟨rfl, hst⟩
 refine ⟨_, z, ?_⟩
 replace hst := hst.of1
 replace hst := objO_get hst
 refine wv (.int .u64 z220) ((wanted_eq z z z (cvb hc272)).trans z) z z (wv (.bool (t273 == z220)) ((wanted_eq z z z (cvb hc272)).trans z) z z (wv (.bool (t273 == z220)) z z (x_pick_t hc272 z z) (wv (.bool (t273 == z220)) z z z ?_)))
 refine bsplit (t273 == z220) (fun hc278 => ?_) (fun hc278 => ?_)
 {
 replace hm := bif_t hc278 hm
 refine wv (.int .i64 t226.2) ((wanted_eq z z z (cvb hc278)).trans z) z z (wv (.bool (t226.2 == (0:Int))) ((wanted_eq z z z (cvb hc278)).trans z) z z (wv (.bool (t226.2 == (0:Int))) z z (x_pick_t hc278 z z) (wv (.bool (t226.2 == (0:Int))) z z z ?_)))
 refine bsplit (t226.2 == (0:Int)) (fun hc279 => ?_) (fun hc279 => ?_)
 {
 replace hm := bif_t hc279 hm
 refine wv (.agg #[I6 t226.1.E, U6 t226.1.Epoch, U6 t226.1.Index, v231, v234]) ((wanted_eq z z z (cvb hc279)).trans z) z (x_loadN (cs := [I6 t226.1.E, U6 t226.1.Epoch, U6 t226.1.Index, v231, v234]) z isAgg36 sizeOf36 (hst.bcs2 0 z)) (wv (.agg #[I6 z256, U6 z257, U6 z258, v260, v264]) ((wanted_eq z z z (cvb hc279)).trans z) z (x_loadN (cs := [I6 z256, U6 z257, U6 z258, v260, v264]) z isAgg36 sizeOf36 (hst.bcs1 0 z)) ?_)
 obtain ⟨t280, ht281, hm⟩ := bind_some hm
 refine wl_call ((wanted_eq z z z (cvb hc279)).trans z) z (x_call call17 z (vs := [.agg #[I6 t226.1.E, U6 t226.1.Epoch, U6 t226.1.Index, v231, v234], .agg #[I6 z256, U6 z257, U6 z258, v260, v264]]) z) ?_
 refine (ref11_SameReply_ref (f233.mono ro_rd) (f236.mono ro_rd) (f262.mono ro_rd) (f266.mono ro_rd) hst.to0 ht281).mono ?_
 rintro _ w282 ⟨rfl, hst⟩
 refine ⟨_, z, ?_⟩
 replace hst := hst.of0
 refine wv (.bool t280) z z (x_pick_t hc279 z z) (wv (.bool t280) z z z (wl_nil (tn (wp_ret ?_))))
 obtain rfl := some_inj hm
 refine post_ret (vs := [.bool t280]) results4 (rvs_cons (rv_tmp z) rvs_nil) ?_
 exact ⟨_, z, hI0, hst.keep0⟩
}
 {
 replace hm := bif_f hc279 hm
 refine wo hc279 z z z z z z (wo hc279 z z z z z z (wo hc279 z z z z z z (wv (.bool false) z z (x_pick_f hc279 z z) (wv (.bool false) z z z (wl_nil (tn (wp_ret ?_)))))))
 obtain rfl := some_inj hm
 refine post_ret (vs := [.bool false]) results4 (rvs_cons (rv_tmp z) rvs_nil) ?_
 exact ⟨_, z, hI0, hst.keep0⟩
}
}
 {
 replace hm := bif_f hc278 hm
 refine wo hc278 z z z z z z (wo hc278 z z z z z z (wv (.bool false) z z (x_pick_f hc278 z z) (wv (.bool false) z z z (wz z z z z z z (wz z z z z z z (wz z z z z z z (wv (.bool false) z z (x_pick_f z z z) (wv (.bool false) z z z (wl_nil (tn (wp_ret ?_)))))))))))
 obtain rfl := some_inj hm
 refine post_ret (vs := [.bool false]) results4 (rvs_cons (rv_tmp z) rvs_nil) ?_
 exact ⟨_, z, hI0, hst.keep0⟩
}
}
 {
 replace hm := bif_f hc272 hm
 refine wo hc272 z z z z z z (wo hc272 z z z z z z (wo hc272 z z z z z z (wo hc272 z z z z z z (wo hc272 z z z z z z (wv (.bool false) z z (x_pick_f hc272 z z) (wv (.bool false) z z z (wz z z z z z z (wz z z z z z z (wv (.bool false) z z (x_pick_f z z z) (wv (.bool false) z z z (wz z z z z z z (wz z z z z z z ?_))))))))))))
 refine wz z z z z z z (wv (.bool false) z z (x_pick_f z z z) (wv (.bool false) z z z (wl_nil (tn (wp_ret ?_)))))
 obtain rfl := some_inj hm
 refine post_ret (vs := [.bool false]) results4 (rvs_cons (rv_tmp z) rvs_nil) ?_
 exact ⟨_, z, hI0, hst.keep0⟩
}
}
}
}
}
}
}
}
}
}

end Go.Proofs.Ytkfifhkjdibadaa
