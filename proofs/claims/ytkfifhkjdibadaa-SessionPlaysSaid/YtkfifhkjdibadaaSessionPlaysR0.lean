/- The Go functions refine their models, part 0. -/
import Derived.Test.YtkfifhkjdibadaaSessionPlaysT
set_option linter.unusedVariables false
set_option linter.unusedSimpArgs false
set_option maxRecDepth 100000
set_option maxHeartbeats 4000000
namespace Go.Proofs.Ytkfifhkjdibadaa
open Go Go.V
open _root_.Go.Proofs.Try IntKind
attribute [local irreducible] wpList Code.wp wpQuiet Calls bodyPost Oper.wp wpS Nx PendOK YieldsIn
theorem session_New_ref {w0 w : World} {I : HL} {R : SP}   (hst : St w0 w I [] R) {r : (session_Table)} (hm : session_New = some r) :
  Calls prog 8 #[] w fun e w' => ∃ (q0 : Value), e = .returned (q0) ∧ St w0 w' I [at_session_Table q0 r] R := by {
 unfold session_New at hm
 refine calls_start (args := []) func8 z ntmps8 (Nat.le_of_ble_eq_true z) ?_
 refine wp_seq (wrl (wv (.pointer none) z z z (wl_nil (tn (wp_seq (wrl (wv (.agg #[Zs]) z z (by kernel_rfl) ?_)))))))
 obtain ⟨b10, w11, ew12, eb13, hst⟩ := hst.box [Zs] 56
 refine wl_run (v := Pt b10 0) (w' := w11) z z (x_al (by kernel_rfl) ew12 eb13) ?_
 refine wv (Pt b10 0) z z z (wl_nil (tn (wp_ret ?_)))
 replace hst := hst.own_nil ty_session_row
 replace hst := hst.pull1
 replace hst := at_session_Table_close (pv := Pt b10 0) (x := ({ l := [] } : session_Table)) hst z
 obtain rfl := some_inj hm
 refine post_ret (vs := [Pt b10 0]) results8 (rvs_cons (rv_tmp z) rvs_nil) ?_
 exact ⟨.pointer (some ⟨b10, 0, none⟩), z, hst.keep1⟩
}

theorem cmp_isNaN_uint64_ref {w0 w : World} {I : HL} {R : SP} {a0 : Int}  (hst : St w0 w I [] R) {r : (Bool)} (hm : cmp_isNaN_uint64 a0 = some r) :
  Calls prog 53 #[U6 a0] w fun e w' => e = .returned (.bool r) ∧ St w0 w' I [] R := by {
 unfold cmp_isNaN_uint64 at hm
 refine calls_start (args := [U6 a0]) func53 z ntmps53 (Nat.le_of_ble_eq_true z) ?_
 refine wp_seq (wrl (wv (.bool false) z z z (wl_nil (tn (wp_seq (wrl (wv (.int .u64 a0) z z z (wv (.int .u64 a0) z z z (wv (.bool (a0 != a0)) z z z (wv (.bool (a0 != a0)) z z z (wl_nil (tn (wp_ret ?_)))))))))))))
 obtain rfl := some_inj hm
 refine post_ret (vs := [.bool (a0 != a0)]) results53 (rvs_cons (rv_tmp z) rvs_nil) ?_
 exact ⟨z, hst.keep0⟩
}

theorem cmp_Compare_uint64_ref {w0 w : World} {I : HL} {R : SP} {a0 : Int} {a1 : Int}  (hst : St w0 w I [] R) {r : (Int)} (hm : cmp_Compare_uint64 a0 a1 = some r) :
  Calls prog 40 #[U6 a0, U6 a1] w fun e w' => e = .returned (.int .i64 r) ∧ St w0 w' I [] R := by {
 unfold cmp_Compare_uint64 at hm
 refine calls_start (args := [U6 a0, U6 a1]) func40 z ntmps40 (Nat.le_of_ble_eq_true z) ?_
 refine wp_seq (wrl (wv (.int .i64 (0:Int)) z z z (wl_nil (tn (wp_seq (wrl (wv (.int .u64 a0) z z z ?_)))))))
 obtain ⟨t69, ht70, hm⟩ := bind_some hm
 refine wc call53 [U6 a0] z z z ?_
 refine (cmp_isNaN_uint64_ref hst.to0 ht70).mono ?_
 rintro _ w71 ⟨rfl, hst⟩
 refine ⟨_, z, ?_⟩
 replace hst := hst.of0
 refine wv (.bool t69) z z z (wl_nil (tn (wp_seq (wrl (wv (.int .u64 a1) z z z ?_)))))
 obtain ⟨t74, ht75, hm⟩ := bind_some hm
 refine wc call53 [U6 a1] z z z ?_
 refine (cmp_isNaN_uint64_ref hst.to0 ht75).mono ?_
 rintro _ w76 ⟨rfl, hst⟩
 refine ⟨_, z, ?_⟩
 replace hst := hst.of0
 refine wv (.bool t74) z z z (wl_nil (tn (wp_seq (wp_seq (wrl (wv (.bool t69) z z z (wl_nil (tn ?_))))))))
 refine bsplit t69 (fun hc79 => ?_) (fun hc79 => ?_)
 {
 replace hm := bif_t hc79 hm
 refine wp_ift (cvb hc79) ?_
 refine wp_seq (wp_seq (wrl (wv (.bool t74) z z z (wl_nil (tn ?_)))))
 refine bsplit t74 (fun hc80 => ?_) (fun hc80 => ?_)
 {
 replace hm := bif_t hc80 hm
 refine wp_ift (cvb hc80) ?_
 refine wp_seq (wrl (wv (.int .i64 (0:Int)) z z z (wl_nil (tn (wp_ret (then_r (then_r ?_)))))))
 obtain rfl := some_inj hm
 refine post_ret (vs := [Zi]) results40 (rvs_cons (rv_tmp z) rvs_nil) ?_
 exact ⟨z, hst.keep0⟩
}
 {
 replace hm := bif_f hc80 hm
 refine wp_iff (cvb hc80) ?_
 refine wp_skip (tn (wp_seq (wrl ?_)))
 refine wv (.int .i64 ((-1):Int)) z z z (wl_nil (tn (wp_ret (then_r ?_))))
 obtain rfl := some_inj hm
 refine post_ret (vs := [I6 ((-1):Int)]) results40 (rvs_cons (rv_tmp z) rvs_nil) ?_
 exact ⟨z, hst.keep0⟩
}
}
 {
 replace hm := bif_f hc79 hm
 refine wp_iff (cvb hc79) ?_
 refine wp_skip (tn (wp_seq (wp_seq (wrl ?_))))
 refine wv (.bool t74) z z z (wl_nil (tn ?_))
 refine bsplit t74 (fun hc81 => ?_) (fun hc81 => ?_)
 {
 replace hm := bif_t hc81 hm
 refine wp_ift (cvb hc81) ?_
 refine wp_seq (wrl (wv (.int .i64 (1:Int)) z z z (wl_nil (tn (wp_ret (then_r ?_))))))
 obtain rfl := some_inj hm
 refine post_ret (vs := [I6 (1:Int)]) results40 (rvs_cons (rv_tmp z) rvs_nil) ?_
 exact ⟨z, hst.keep0⟩
}
 {
 replace hm := bif_f hc81 hm
 refine wp_iff (cvb hc81) ?_
 refine wp_skip (tn (wp_seq (wp_seq (wrl ?_))))
 refine wv (.int .u64 a0) z z z (wv (.int .u64 a1) z z z (wv (.bool (decide (a0 < a1))) z z z (wl_nil (tn ?_))))
 refine bsplit (decide (a0 < a1)) (fun hc82 => ?_) (fun hc82 => ?_)
 {
 replace hm := bif_t hc82 hm
 refine wp_ift (cvb hc82) ?_
 refine wp_seq (wrl (wv (.int .i64 ((-1):Int)) z z z (wl_nil (tn (wp_ret (then_r ?_))))))
 obtain rfl := some_inj hm
 refine post_ret (vs := [I6 ((-1):Int)]) results40 (rvs_cons (rv_tmp z) rvs_nil) ?_
 exact ⟨z, hst.keep0⟩
}
 {
 replace hm := bif_f hc82 hm
 refine wp_iff (cvb hc82) ?_
 refine wp_skip (tn (wp_seq (wp_seq (wrl ?_))))
 refine wv (.int .u64 a0) z z z (wv (.int .u64 a1) z z z (wv (.bool (decide (a0 > a1))) z z z (wl_nil (tn ?_))))
 refine bsplit (decide (a0 > a1)) (fun hc83 => ?_) (fun hc83 => ?_)
 {
 replace hm := bif_t hc83 hm
 refine wp_ift (cvb hc83) ?_
 refine wp_seq (wrl (wv (.int .i64 (1:Int)) z z z (wl_nil (tn (wp_ret (then_r ?_))))))
 obtain rfl := some_inj hm
 refine post_ret (vs := [I6 (1:Int)]) results40 (rvs_cons (rv_tmp z) rvs_nil) ?_
 exact ⟨z, hst.keep0⟩
}
 {
 replace hm := bif_f hc83 hm
 refine wp_iff (cvb hc83) ?_
 refine wp_skip (tn (wp_seq (wrl ?_)))
 refine wv (.int .i64 (0:Int)) z z z (wl_nil (tn (wp_ret ?_)))
 obtain rfl := some_inj hm
 refine post_ret (vs := [Zi]) results40 (rvs_cons (rv_tmp z) rvs_nil) ?_
 exact ⟨z, hst.keep0⟩
}
}
}
}
}

theorem session_Table_find_1_ref {w0 w : World} {I : HL} {R : SP} {a0 : session_row} {r0_0 : Value} {r0_1 : Value} {a1 : Int} (f0_0 : Rd ty_api_Got R I r0_0 a0.r.Gots) (f0_1 : Rd (tySl ty_api_Pair) R I r0_1 a0.r.Scans) (hst : St w0 w I [] R) {r : (Int)} (hm : session_Table_find_1 a0 a1 = some r) :
  Calls prog 39 #[.agg #[U6 a0.session, U6 a0.seq, I6 a0.r.E, U6 a0.r.Epoch, U6 a0.r.Index, r0_0, r0_1], U6 a1] w fun e w' => e = .returned (.int .i64 r) ∧ St w0 w' I [] R := by {
 unfold session_Table_find_1 at hm
 refine calls_start (args := [.agg #[U6 a0.session, U6 a0.seq, I6 a0.r.E, U6 a0.r.Epoch, U6 a0.r.Index, r0_0, r0_1], U6 a1]) func39 z ntmps39 (Nat.le_of_ble_eq_true z) ?_
 refine wp_seq (wrl ?_)
 obtain ⟨b61, w62, ew63, eb64, hst⟩ := hst.box [U6 a0.session, U6 a0.seq, I6 a0.r.E, U6 a0.r.Epoch, U6 a0.r.Index, r0_0, r0_1] 71
 refine wl_run (v := Pt b61 0) (w' := w62) z z (x_al (by kernel_rfl) ew63 eb64) ?_
 refine wv (.int .i64 (0:Int)) z z z (wl_nil (tn (wp_seq (wrl (wv (Pt b61 0) z z (x_field z underlying71 z sizeOf30 z) (wv (.int .u64 a0.session) z z (x_load z isAgg30 (hst.bc0 z)) (wv (.int .u64 a1) z z z ?_)))))))
 obtain ⟨t66, ht67, hm⟩ := bind_some hm
 refine wc call40 [U6 a0.session, U6 a1] z z z ?_
 refine (cmp_Compare_uint64_ref hst.to0 ht67).mono ?_
 rintro _ w68 ⟨rfl, hst⟩
 refine ⟨_, z, ?_⟩
 replace hst := hst.of0
 refine wv (.int .i64 t66) z z z (wl_nil (tn (wp_ret ?_)))
 obtain rfl := some_inj hm
 refine post_ret (vs := [I6 t66]) results39 (rvs_cons (rv_tmp z) rvs_nil) ?_
 exact ⟨z, hst.keep0⟩
}

theorem session_Table_find_ref {w0 w : World} {I : HL} {R : SP} {a0 : (Option session_Table)} {p0 : Value} {a1 : Int}  (hst : St w0 w I [objO at_session_Table p0 a0] R) {r : (Int × Bool)} (hm : session_Table_find a0 a1 = some r) :
  Calls prog 23 #[p0, U6 a1] w fun e w' => e = .returned (.tuple #[I6 r.1, .bool r.2]) ∧ St w0 w' I [objO at_session_Table p0 a0] R := by {
 rcases a0 with _ | o0
 {
 obtain ⟨rfl, hst'⟩ := objO_none hst
 clear hst
 have hst := hst'
 clear hst'
 dsimp only [session_Table_find] at hm
 refine calls_start (args := [.pointer none, U6 a1]) func23 z ntmps23 (Nat.le_of_ble_eq_true z) ?_
 refine wp_seq (wrl (wv (.int .i64 (0:Int)) z z z (wv (.bool false) z z z (wl_nil (tn (wp_seq (wp_seq (wrl (wv (.pointer none) z z z (wv (.bool true) z z (by kernel_rfl) (wl_nil (tn ?_))))))))))))
 refine wp_ift z ?_
 refine wp_seq (wrl (wv (.int .i64 (0:Int)) z z z (wv (.bool false) z z z (wl_nil (tn (wp_ret (then_r ?_)))))))
 replace hst := hst.objO_nil at_session_Table
 obtain rfl := some_inj hm
 refine post_ret (vs := [Zi, .bool false]) results23 (rvs_cons (rv_tmp z) (rvs_cons (rv_tmp z) rvs_nil)) ?_
 exact ⟨z, hst.keep1⟩
}
 {
 replace hst := objO_get hst
 dsimp only [session_Table_find] at hm
 refine calls_start (args := [p0, U6 a1]) func23 z ntmps23 (Nat.le_of_ble_eq_true z) ?_
 refine wp_seq (wrl (wv (.int .i64 (0:Int)) z z z (wv (.bool false) z z z (wl_nil (tn (wp_seq (wp_seq (wrl (wv (p0) z z z ?_)))))))))
 obtain ⟨b140, v141, rfl, hst'⟩ := at_session_Table_open hst
 clear hst
 have hst := hst'
 clear hst'
 refine wv (.bool false) z z (by kernel_rfl) (wl_nil (tn ?_))
 refine wp_iff z ?_
 refine wp_skip (tn (wp_seq (wrl ?_)))
 refine wv (Pt b140 0) z z z (wv (Pt b140 0) z z z (wv (Pt b140 0) z z (x_field z underlying56 z sizeOf54 z) (wv (v141) z z (x_load z isAgg54 (hst.bc0 z)) (wv (.int .u64 a1) z z z ?_))))
 obtain ⟨y247, hq248, hm⟩ := bind_some hm
 refine wl_call z z (x_callv call38 (caps := []) z (vs := [v141, U6 a1, .func (.func 39) #[] #[]]) z) ?_
 refine Calls.mono (show Calls prog 38 #[v141, U6 a1, .func (.func 39) #[] #[]] _ (fun e w' => ∃ (z244 : Int) (z245 : Bool), y247 = (z244, z245) ∧ e = .returned (.tuple #[I6 z244, .bool z245]) ∧ St w0 w' I [cells b140 [v141], ownS ty_session_row v141 o0.l] R) from ?_) ?_
 {
 clear hm; have hm := hq248
 refine calls_start (args := [v141, U6 a1, .func (.func 39) #[] #[]]) func38 z ntmps38 (Nat.le_of_ble_eq_true z) ?_
 refine wp_seq (wrl (wv (.int .i64 (0:Int)) z z z (wv (.bool false) z z z (wl_nil (tn (wp_seq (wrl (wv (v141) z z z (wv (.int .i64 ((o0.l).length : Int)) z z (x_len z underlying54 hst.sv1) (wv (.int .i64 ((o0.l).length : Int)) z z z (wl_nil (tn (wp_seq (wrl (wv (.int .i64 ((o0.l).length : Int)) z z z (wv (.int .i64 (0:Int)) z z z (wv (.int .i64 ((o0.l).length : Int)) z z z (wl_nil (tn ?_)))))))))))))))))))
 obtain ⟨y221, hm, hx222⟩ := bind_some hm
 refine wp_cut (fun a w => ∃ (z218 : Int) (σ219 : Nat → Value), (session_Table_find_j0 o0 a1) z218 = some y247 ∧ a = Fr 49 (upd (upd (upd (upd (upd σ219 0 (v141)) 1 (.int .u64 a1)) 2 (.func (.func 39) #[] #[])) 8 (.int .i64 ((o0.l).length : Int))) 9 (.int .i64 z218)) ∧ St w0 w I [ownS ty_session_row v141 o0.l, cells b140 [v141]] R) ?_ ?_
 {
 refine wp_block ?_
 obtain ⟨n190, hm⟩ := loopO_some hm
 refine wp_loop_n (fun n a w => ∃ (z187 : Int) (z188 : Int) (σ189 : Nat → Value), loopN (session_Table_find_l1 o0 a1) n (z187, z188) = some y221 ∧ a = Fr 49 (upd (upd (upd (upd (upd (upd σ189 0 (v141)) 1 (.int .u64 a1)) 2 (.func (.func 39) #[] #[])) 8 (.int .i64 ((o0.l).length : Int))) 9 (.int .i64 z188)) 10 (.int .i64 z187)) ∧ St w0 w I [cells b140 [v141], ownS ty_session_row v141 o0.l] R) n190 ⟨((o0.l).length : Int), (0:Int), _, hm, (fu 0 v141 z (fu 1 (.int .u64 a1) z (fu 2 (.func (.func 39) #[] #[]) z (fu 8 (.int .i64 ((o0.l).length : Int)) z (fu 9 (.int .i64 (0:Int)) z (fu 10 (.int .i64 ((o0.l).length : Int)) z z)))))), hst⟩ ?_
 rintro n196 _ w191 ⟨z187, z188, σ189, hm, rfl, hst⟩
 obtain ⟨n193, y194, rfl, hm, hx195⟩ := loopN_some hm
 dsimp only [session_Table_find_l1] at hm
 refine wp_seq (wp_seq (wrl (wv (.int .i64 z188) z z z (wv (.int .i64 z187) z z z (wv (.bool (decide (z188 < z187))) z z z (wl_nil (tn ?_)))))))
 refine bsplit (decide (z188 < z187)) (fun hc197 => ?_) (fun hc197 => ?_)
 {
 replace hm := bif_t hc197 hm
 refine wp_ift (cvb hc197) ?_
 refine wp_skip (tn (wp_block (wp_seq (wrl ?_))))
 refine wv (.int .i64 z188) z z z (wv (.int .i64 z187) z z z (wv (.int .i64 (i64.wrap (z188 + z187))) z z z (wv (.int .u64 (u64.wrap (i64.wrap (z188 + z187)))) z z (by kernel_rfl) (wv (.int .u64 (iShr .u64 (u64.wrap (i64.wrap (z188 + z187))) (1:Int))) z z (x_shr (by decide) z z) (wv (.int .i64 (i64.wrap (iShr .u64 (u64.wrap (i64.wrap (z188 + z187))) (1:Int)))) z z (by kernel_rfl) (wv (.int .i64 (i64.wrap (iShr .u64 (u64.wrap (i64.wrap (z188 + z187))) (1:Int)))) z z z (wl_nil (tn (wp_seq (wrl (wv (.func (.func 39) #[] #[]) z z z (wv (v141) z z z (wv (.int .i64 (i64.wrap (iShr .u64 (u64.wrap (i64.wrap (z188 + z187))) (1:Int)))) z z z ?_)))))))))))))
 obtain ⟨x198, hx199, hm⟩ := bind_some hm
 obtain ⟨h200, h201, hi202⟩ := geto_some hx199
 refine wv (.pointer (some (eAddr v141 ((i64.wrap (iShr .u64 (u64.wrap (i64.wrap (z188 + z187))) (1:Int))).toNat * 7 + 0)))) z z (x_index z z underlying54 sizeOf71 hst.sv1 h200 h201) ?_
 obtain ⟨cs203, hr204, hc205⟩ := hst.og1 hi202
 obtain ⟨v206, v209, rfl, f207, f210, -⟩ := hr204
 refine wv (.agg #[U6 x198.session, U6 x198.seq, I6 x198.r.E, U6 x198.r.Epoch, U6 x198.r.Index, v206, v209]) z z (x_loadN (cs := [U6 x198.session, U6 x198.seq, I6 x198.r.E, U6 x198.r.Epoch, U6 x198.r.Index, v206, v209]) z isAgg71 sizeOf71 (eCells (o := 0) hc205 z)) (wv (.int .u64 a1) z z z ?_)
 obtain ⟨t212, ht213, hm⟩ := bind_some hm
 refine wl_call z z (x_callv call39 (caps := []) z (vs := [.agg #[U6 x198.session, U6 x198.seq, I6 x198.r.E, U6 x198.r.Epoch, U6 x198.r.Index, v206, v209], U6 a1]) z) ?_
 refine (session_Table_find_1_ref (f207.mono ro_rd) (f210.mono ro_rd) hst.to0 ht213).mono ?_
 rintro _ w214 ⟨rfl, hst⟩
 refine ⟨_, z, ?_⟩
 replace hst := hst.of0
 refine wv (.bool (decide (t212 < (0:Int)))) z z z (wl_nil (tn ?_))
 refine bsplit (decide (t212 < (0:Int))) (fun hc217 => ?_) (fun hc217 => ?_)
 {
 replace hm := bif_t hc217 hm
 refine wp_ift (cvb hc217) ?_
 refine wrl (wv (.int .i64 (i64.wrap (iShr .u64 (u64.wrap (i64.wrap (z188 + z187))) (1:Int)))) z z z (wv (.int .i64 (i64.wrap ((i64.wrap (iShr .u64 (u64.wrap (i64.wrap (z188 + z187))) (1:Int))) + (1:Int)))) z z z (wv (.int .i64 (i64.wrap ((i64.wrap (iShr .u64 (u64.wrap (i64.wrap (z188 + z187))) (1:Int))) + (1:Int)))) z z z (wl_nil (blk_n (tn ?_))))))
 replace hst := hst.pull1.pull1.keep2
 obtain rfl := some_inj hm
 exact ⟨_, Nat.lt_succ_self _, z187, (i64.wrap ((i64.wrap (iShr .u64 (u64.wrap (i64.wrap (z188 + z187))) (1:Int))) + (1:Int))), _, hx195, (fu 0 v141 z (fu 1 (.int .u64 a1) z (fu 2 (.func (.func 39) #[] #[]) z (fu 8 (.int .i64 ((o0.l).length : Int)) z (fu 9 (.int .i64 (i64.wrap ((i64.wrap (iShr .u64 (u64.wrap (i64.wrap (z188 + z187))) (1:Int))) + (1:Int)))) z (fu 10 (.int .i64 z187) z z)))))), hst⟩
}
 {
 replace hm := bif_f hc217 hm
 refine wp_iff (cvb hc217) ?_
 refine wrl (wv (.int .i64 (i64.wrap (iShr .u64 (u64.wrap (i64.wrap (z188 + z187))) (1:Int)))) z z z (wv (.int .i64 (i64.wrap (iShr .u64 (u64.wrap (i64.wrap (z188 + z187))) (1:Int)))) z z z (wl_nil (blk_n (tn ?_)))))
 replace hst := hst.pull1.pull1.keep2
 obtain rfl := some_inj hm
 exact ⟨_, Nat.lt_succ_self _, (i64.wrap (iShr .u64 (u64.wrap (i64.wrap (z188 + z187))) (1:Int))), z188, _, hx195, (fu 0 v141 z (fu 1 (.int .u64 a1) z (fu 2 (.func (.func 39) #[] #[]) z (fu 8 (.int .i64 ((o0.l).length : Int)) z (fu 9 (.int .i64 z188) z (fu 10 (.int .i64 (i64.wrap (iShr .u64 (u64.wrap (i64.wrap (z188 + z187))) (1:Int)))) z z)))))), hst⟩
}
}
 {
 replace hm := bif_f hc197 hm
 refine wp_iff (cvb hc197) ?_
 refine wp_exit (then_x (then_x ?_))
 replace hm := inr_up hm hx195
 refine blk_x (tn ?_)
 replace hst := hst.pull1.keep2
 obtain rfl := some_inj hm
 exact ⟨z188, _, hx222, (fu 0 v141 z (fu 1 (.int .u64 a1) z (fu 2 (.func (.func 39) #[] #[]) z (fu 8 (.int .i64 ((o0.l).length : Int)) z (fu 9 (.int .i64 z188) z z))))), hst⟩
}
}
 {
 clear hst
 rintro _ w223 ⟨z218, σ219, hm, rfl, hst⟩
 dsimp only [session_Table_find_j0] at hm
 refine wp_seq (wrl (wv (.int .i64 z218) z z z (wv (.int .i64 z218) z z z (wv (.int .i64 ((o0.l).length : Int)) z z z (wv (.bool (decide (z218 < ((o0.l).length : Int)))) z z z (wv (.bool (decide (z218 < ((o0.l).length : Int)))) z z z ?_))))))
 refine bsplit (decide (z218 < ((o0.l).length : Int))) (fun hc224 => ?_) (fun hc224 => ?_)
 {
 replace hm := bif_t hc224 hm
 refine wv (.func (.func 39) #[] #[]) ((wanted_eq z z z (cvb hc224)).trans z) z z (wv (v141) ((wanted_eq z z z (cvb hc224)).trans z) z z (wv (.int .i64 z218) ((wanted_eq z z z (cvb hc224)).trans z) z z ?_))
 obtain ⟨x225, hx226, hm⟩ := bind_some hm
 obtain ⟨h227, h228, hi229⟩ := geto_some hx226
 refine wv (.pointer (some (eAddr v141 (z218.toNat * 7 + 0)))) ((wanted_eq z z z (cvb hc224)).trans z) z (x_index z z underlying54 sizeOf71 hst.sv0 h227 h228) ?_
 obtain ⟨cs230, hr231, hc232⟩ := hst.og0 hi229
 obtain ⟨v233, v236, rfl, f234, f237, -⟩ := hr231
 refine wv (.agg #[U6 x225.session, U6 x225.seq, I6 x225.r.E, U6 x225.r.Epoch, U6 x225.r.Index, v233, v236]) ((wanted_eq z z z (cvb hc224)).trans z) z (x_loadN (cs := [U6 x225.session, U6 x225.seq, I6 x225.r.E, U6 x225.r.Epoch, U6 x225.r.Index, v233, v236]) z isAgg71 sizeOf71 (eCells (o := 0) hc232 z)) (wv (.int .u64 a1) ((wanted_eq z z z (cvb hc224)).trans z) z z ?_)
 obtain ⟨t239, ht240, hm⟩ := bind_some hm
 refine wl_call ((wanted_eq z z z (cvb hc224)).trans z) z (x_callv call39 (caps := []) z (vs := [.agg #[U6 x225.session, U6 x225.seq, I6 x225.r.E, U6 x225.r.Epoch, U6 x225.r.Index, v233, v236], U6 a1]) z) ?_
 refine (session_Table_find_1_ref (f234.mono ro_rd) (f237.mono ro_rd) hst.to0 ht240).mono ?_
 rintro _ w241 ⟨rfl, hst⟩
 refine ⟨_, z, ?_⟩
 replace hst := hst.of0
 refine wv (.bool (t239 == (0:Int))) ((wanted_eq z z z (cvb hc224)).trans z) z z (wv (.bool (t239 == (0:Int))) z z (x_pick_t hc224 z z) (wv (.int .i64 z218) z z z (wv (.bool (t239 == (0:Int))) z z z (wl_nil (tn (wp_ret ?_))))))
 refine post_ret (vs := [I6 z218, .bool (t239 == (0:Int))]) results38 (rvs_cons (rv_tmp z) (rvs_cons (rv_tmp z) rvs_nil)) ?_
 replace hst := hst.pull1.keep2
 obtain rfl := some_inj hm
 exact ⟨z218, (t239 == (0:Int)), z, z, hst⟩
}
 {
 replace hm := bif_f hc224 hm
 refine wo hc224 z z z z z z (wo hc224 z z z z z z (wo hc224 z z z z z z (wo hc224 z z z z z z (wo hc224 z z z z z z (wo hc224 z z z z z z (wo hc224 z z z z z z (wo hc224 z z z z z z (wv (.bool false) z z (x_pick_f hc224 z z) (wv (.int .i64 z218) z z z (wv (.bool false) z z z (wl_nil (tn (wp_ret ?_)))))))))))))
 refine post_ret (vs := [I6 z218, .bool false]) results38 (rvs_cons (rv_tmp z) (rvs_cons (rv_tmp z) rvs_nil)) ?_
 replace hst := hst.pull1.keep2
 obtain rfl := some_inj hm
 exact ⟨z218, false, z, z, hst⟩
}
}
}
 clear hst
 rintro _ w249 ⟨z244, z245, rfl, rfl, hst⟩
 refine ⟨_, z, ?_⟩
 try dsimp only at hm
 refine wv (.int .i64 z244) z z z (wv (.bool z245) z z z (wv (.int .i64 z244) z z z (wv (.bool z245) z z z (wl_nil (tn (wp_ret ?_))))))
 replace hst := hst.pull1.pull1
 replace hst := at_session_Table_close (pv := Pt b140 0) (x := o0) hst z
 replace hst := objO_some hst
 obtain rfl := some_inj hm
 refine post_ret (vs := [I6 z244, .bool z245]) results23 (rvs_cons (rv_tmp z) (rvs_cons (rv_tmp z) rvs_nil)) ?_
 exact ⟨z, hst.keep1⟩
}
}

theorem slices_Insert_session_row_session_row_ref {w0 w : World} {I : HL} {R : SP} {a0 : (List session_row)} {r0_0 : Value} {a1 : Int} {a2 : (List session_row)} {r2_0 : Value} (hst : St w0 w I [ownS ty_session_row r0_0 a0, ownS ty_session_row r2_0 a2] R) {r : (List session_row)} (hm : slices_Insert_session_row_session_row a0 a1 a2 = some r) :
  Calls prog 24 #[r0_0, I6 a1, r2_0] w fun e w' => ∃ (q0_0 : Value), e = .returned (q0_0) ∧ St w0 w' I [ownS ty_session_row q0_0 r] R := by {
 unfold slices_Insert_session_row_session_row at hm
 obtain ⟨hg, hm⟩ := gd_some hm
 obtain rfl := some_inj hm
 obtain ⟨hi0, hi1, hrm⟩ := insOK_of hg
 obtain ⟨k, rfl⟩ := Int.eq_ofNat_of_zero_le hi0
 have hsm := room_sum hrm
 have hk : k ≤ a0.length := by omega
 have hs : ∀ w : World, (sizeOf 71).run prog w = .ok ty_session_row.sz w := sizeOf71
 have hs0 : 0 < ty_session_row.sz := Nat.le_of_ble_eq_true rfl
 have hov : ∀ (args : Array Value) (w : World), (callFunc 41 args).run prog w = (Extern.SlicesOverlaps.overlaps #[54, 54] #[4] args >>= fun v => (pure (.value v) : Sem Next)).run prog w := by intro args w; kernel_rfl
 obtain ⟨css, hr, hst⟩ := hst.own_open
 replace hst := hst.pull1
 obtain ⟨dss, hq, hst⟩ := hst.own_open
 replace hst := hst.pull1
 obtain ⟨n, hn⟩ : ∃ n, css.length = n := ⟨_, rfl⟩
 obtain ⟨m, hm'⟩ : ∃ m, dss.length = m := ⟨_, rfl⟩
 have hln : a0.length = n := hr.1.trans hn
 have hlm : a2.length = m := hq.1.trans hm'
 rw [hln] at hsm hk
 rw [hlm] at hsm
 have hsv : SliceV r0_0 n := by have := hst.row_form.2; rwa [hn] at this
 have hsq : SliceV r2_0 m := by have := hst.pull1.row_form.2; rwa [hm'] at this
 have hoc := hr.ones
 have hoq := hq.ones
 have hw1 := wrap_add (a := n) (b := m) (by omega)
 have hw2 := wrap_add (a := k) (b := m) (by omega)
 have hw3 := wrap_sub (a := n + m) (b := k) (by omega) (by omega)
 have hrb := room_of (b := 88) hrm rfl
 rw [hln, hlm] at hrb
 refine calls_start (args := [r0_0, I6 (k : Int), r2_0]) func24 z ntmps24 (Nat.le_of_ble_eq_true z) ?_
 refine wp_seq (wrl (wv ((.slice none 0 0)) z z z (wl_nil (tn (wp_seq (wrl (wv (r0_0) z z z (wv (.int .i64 (k : Int)) z z z (wv ((slcV ty_session_row.sz r0_0 k n)) z z (x_slice (lo := (k : Nat)) (hi := (n : Nat)) underlying54 hs z hsv (by omega) (by omega) (by omega) .i64 .i64 (.inl z) (.inr ⟨z, z⟩)) (wl_nil (tn (wp_seq (wrl (wv (r2_0) z z z (wv (.int .i64 (m : Int)) z z (x_len z underlying54 hsq) (wv (.int .i64 (m : Int)) z z z (wl_nil (tn (wp_seq (wp_seq (wrl (wv (.int .i64 (m : Int)) z z z (wv (.bool ((m : Int) == (0:Int))) z z z ?_)))))))))))))))))))))))
 refine wl_nil (tn ?_)
 refine bsplit ((m : Int) == (0:Int)) (fun hc74 => ?_) (fun hc74 => ?_)
 {
 refine wp_ift (cvb hc74) ?_
 refine wp_seq (wrl (wv (r0_0) z z z (wv (r0_0) z z z (wl_nil (tn (wp_ret (then_r ?_)))))))
 refine post_ret (vs := [r0_0]) results24 (rvs_cons (rv_tmp z) rvs_nil) ?_
 rw [ins_nil (by rw [hlm]; exact hc74)]
 exact ⟨_, z, (hst.own_close hr).keep1⟩
}
 {
 refine wp_iff (cvb hc74) ?_
 have hm0 : m ≠ 0 := fun h => by rw [h] at hc74; cases hc74
 have hq0 : dss ≠ [] := fun h => hm0 (by rw [← hm', h]; rfl)
 refine wp_skip (tn (wp_seq (wrl ?_)))
 refine wv (r0_0) z z z (wv (.int .i64 (n : Int)) z z (x_len z underlying54 hsv) (wv (.int .i64 (n : Int)) z z z (wl_nil (tn (wp_seq (wp_seq (wrl (wv (.int .i64 (k : Int)) z z z (wv (.int .i64 (n : Int)) z z z (wv (.bool ((k : Int) == (n : Int))) z z z (wl_nil (tn ?_))))))))))))
 refine bsplit ((k : Int) == (n : Int)) (fun hc75 => ?_) (fun hc75 => ?_)
 {
 refine wp_ift (cvb hc75) ?_
 refine wp_seq (wrl (wv (r0_0) z z z (wv (r2_0) z z z ?_)))
 replace hst := (hst.own_close hr).pull1.own_close hq
 replace hst := hst.pull1
 obtain ⟨v2, w2, hra, hst⟩ := run_append elem_54 underlying54 hst hst.src1 (room_of hrm z) 54
 refine wl_run (v := v2) (w' := w2) z z (x_append z z hra) ?_
 refine wv (v2) z z z (wl_nil (tn (wp_ret (then_r ?_))))
 refine post_ret (vs := [v2]) results24 (rvs_cons (rv_tmp z) rvs_nil) ?_
 rw [ins_end (by rw [hln]; exact hc75)]
 exact ⟨_, z, hst.keep1⟩
}
 {
 refine wp_iff (cvb hc75) ?_
 have hkn : k ≠ n := fun h => by rw [h] at hc75; simp at hc75
 have hn0 : 0 < n := by omega
 have hc0 : css ≠ [] := fun h => by rw [h] at hn; simp at hn; omega
 refine wp_skip (tn (wp_seq (wp_seq (wrl ?_))))
 refine wv (.int .i64 (n : Int)) z z z (wv (.int .i64 (m : Int)) z z z (wv (.int .i64 ((n + m : Nat) : Int)) z z (ok_cast hw1 z) (wv (r0_0) z z z (wv (.int .i64 (sCap r0_0 : Int)) z z (x_cap z underlying54 hsv) (wv (.bool (decide (((n + m : Nat) : Int) > (sCap r0_0 : Int)))) z z z (wl_nil (tn ?_)))))))
 refine bsplit (decide (((n + m : Nat) : Int) > (sCap r0_0 : Int))) (fun hc76 => ?_) (fun hc76 => ?_)
 {
 refine wp_ift (cvb hc76) ?_
 refine wp_seq (wrl (wv (r0_0) z z z (wv (.int .i64 (k : Int)) z z z (wv ((slcV ty_session_row.sz r0_0 0 k)) z z (x_slice (lo := (0 : Nat)) (hi := (k : Nat)) underlying54 hs z hsv (by omega) (by omega) (by omega) .i64 .i64 (.inr ⟨z, z⟩) (.inl z)) (wv (.int .i64 (n : Int)) z z z (wv (.int .i64 (m : Int)) z z z (wv (.int .i64 ((n + m : Nat) : Int)) z z (ok_cast hw1 z) (wv (.int .i64 (k : Int)) z z z (wv (.int .i64 ((n + m - k : Nat) : Int)) z z (ok_cast hw3 z) ?_)))))))))
 obtain ⟨v2, w2, hra, hs2, zss, hzl, hst⟩ := run_app0 elem_54 underlying3 hst k (n + m - k) (by omega) (by have := of_decide_eq_true hc76; omega) (by rw [show k + (n + m - k) = n + m by omega]; exact hrb) hs0 54
 rw [show k + (n + m - k) = n + m by omega] at hs2
 refine wl_run (v := v2) (w' := w2) z z (x_append z z hra) ?_
 refine wv (v2) z z z (wl_nil (tn (wp_seq (wrl (wv (v2) z z z (wv (.int .i64 (k : Int)) z z z (wv ((slcV ty_session_row.sz v2 k (n + m))) z z (x_slice (lo := (k : Nat)) (hi := ((n + m) : Nat)) underlying54 hs z hs2 (by omega) (by omega) (by omega) .i64 .i64 (.inl z) (.inr ⟨z, z⟩)) (wv (r2_0) z z z ?_))))))))
 obtain ⟨w77, hr78, hst⟩ := run_copyRows (P := prog) (t2 := 54) (ty := 3) underlying54 hs hst hst.pull2 k m (N := n + m) (by first | omega | (simp only [List.length_append, List.length_take, List.length_drop]; omega)) (by first | omega | (simp only [List.length_append, List.length_take, List.length_drop]; omega)) (by omega) (by first | omega | (simp only [List.length_append, List.length_take, List.length_drop]; omega)) (ones_take hoq _)
 refine wl_run (v := .int .i64 (m : Nat)) (w' := w77) z z (x_copy z z hr78) ?_
 refine wl_nil (tn (wp_seq ?_))
 refine wp_region_St hst 9 [0, 1, 2, 3, 4, 5, 6, 7, 8] [0, 0, 0, 6, 15, 0, 0, 96, 255] [] z (by kernel_rfl) (by kernel_rfl) Try.mixed (by kernel_rfl) ?_
 refine wsr (v2) 0 z z z (by kernel_rfl) (fun w hst => z) (wsr (.int .i64 (k : Int)) 1 z z z (by kernel_rfl) (fun w hst => z) (wsr (.int .i64 (m : Int)) 2 z z z (by kernel_rfl) (fun w hst => z) (wsr (.int .i64 ((k + m : Nat) : Int)) 3 z z z (by kernel_rfl) (fun w hst => ok_cast hw2 z) (wsr ((slcV ty_session_row.sz v2 (k + m) (n + m))) 4 z z z (by kernel_rfl) (fun w hst => x_slice (lo := ((k + m) : Nat)) (hi := ((n + m) : Nat)) underlying54 hs z hs2 (by omega) (by omega) (by omega) .i64 .i64 (.inl z) (.inr ⟨z, z⟩)) (wsr (r0_0) 5 z z z (by kernel_rfl) (fun w hst => z) (wsr (.int .i64 (k : Int)) 6 z z z (by kernel_rfl) (fun w hst => z) (wsr ((slcV ty_session_row.sz r0_0 k n)) 7 z z z (by kernel_rfl) (fun w hst => x_slice (lo := (k : Nat)) (hi := (n : Nat)) underlying54 hs z hsv (by omega) (by omega) (by omega) .i64 .i64 (.inl z) (.inr ⟨z, z⟩)) ?_)))))))
 refine ws_e1 8 (by kernel_rfl) ?_
 refine nxe [] (by kernel_rfl) z z ?_
 clear hst
 intro w hst
 obtain ⟨w79, hr80, hst⟩ := run_copyRows (P := prog) (t2 := 54) (ty := 3) underlying54 hs hst (hst.pull1.row_part (l := k) (h := n) hk (by omega)) (k + m) (n - k) (N := n + m) (by first | omega | (simp only [List.length_append, List.length_take, List.length_drop]; omega)) (by first | omega | (simp only [List.length_append, List.length_take, List.length_drop]; omega)) (by omega) (by first | omega | (simp only [List.length_append, List.length_take, List.length_drop]; omega)) (ones_take (ones_drop (ones_take hoc _) _) _)
 refine we_run (v := .int .i64 ((n - k) : Nat)) (w' := w79) z (x_copy z z hr80) ?_
 refine ws_next (pend' := []) hst (by kernel_rfl) pk_nil ?_
 refine ws_nil ?_
 intro w hst
 refine tn (wp_seq (wrl (wv (v2) z z z (wv (v2) z z z (wl_nil (tn (wp_ret (then_r ?_))))))))
 refine post_ret (vs := [v2]) results24 (rvs_cons (rv_tmp z) rvs_nil) ?_
 rw [grow_rows hn hm' hk hzl] at hst
 exact ⟨_, z, (hst.own_close ((hr.take k).app (hq.app (hr.drop k)))).keep1⟩
}
 {
 refine wp_iff (cvb hc76) ?_
 have hup : n + m ≤ sCap r0_0 := by have := of_decide_eq_false hc76; omega
 obtain ⟨ess, hel, hem, hst'⟩ := hst.row_up (n + m) (by omega) hup hc0
 rw [show n + m - css.length = m by omega] at hel
 have hs2 : SliceV (upV r0_0 (n + m)) (n + m) := by have := hst'.row_form.2; rwa [List.length_append, hn, hel] at this
 clear hst
 have hst := hst'
 clear hst'
 refine wp_skip (tn (wp_seq (wrl ?_)))
 refine wv (r0_0) z z z (wv (.int .i64 (n : Int)) z z z (wv (.int .i64 (m : Int)) z z z (wv (.int .i64 ((n + m : Nat) : Int)) z z (ok_cast hw1 z) (wv ((upV r0_0 (n + m))) z z (x_sliceUp underlying54 hs z hsv z hup hn0) (wv ((upV r0_0 (n + m))) z z z (wl_nil (tn (wp_seq (wp_seq (wrl (wv (r2_0) z z z (wv ((upV r0_0 (n + m))) z z z (wv (.int .i64 (k : Int)) z z z (wv (.int .i64 (m : Int)) z z z (wv (.int .i64 ((k + m : Nat) : Int)) z z (ok_cast hw2 z) (wv ((slcV ty_session_row.sz (upV r0_0 (n + m)) (k + m) (n + m))) z z (x_slice (lo := ((k + m) : Nat)) (hi := ((n + m) : Nat)) underlying54 hs z hs2 (by omega) (by omega) (by omega) .i64 .i64 (.inl z) (.inr ⟨z, z⟩)) ?_))))))))))))))))
 refine wv (.bool false) z z (x_ext z z z (hov _) (run_overlaps z underlying54 hs hst.pull1 (k + m) (N := n + m) (by rw [List.length_append]; omega) (by omega) hq0 hs0)) (wv (.bool true) z z z (wl_nil (tn ?_)))
 refine wp_ift z ?_
 refine wp_seq ?_
 refine wp_region_St hst 9 [0, 1, 2, 3, 4, 5, 6, 7, 8] [0, 0, 0, 6, 15, 0, 0, 96, 255] [] z (by kernel_rfl) (by kernel_rfl) Try.mixed (by kernel_rfl) ?_
 refine wsr ((upV r0_0 (n + m))) 0 z z z (by kernel_rfl) (fun w hst => z) (wsr (.int .i64 (k : Int)) 1 z z z (by kernel_rfl) (fun w hst => z) (wsr (.int .i64 (m : Int)) 2 z z z (by kernel_rfl) (fun w hst => z) (wsr (.int .i64 ((k + m : Nat) : Int)) 3 z z z (by kernel_rfl) (fun w hst => ok_cast hw2 z) (wsr ((slcV ty_session_row.sz (upV r0_0 (n + m)) (k + m) (n + m))) 4 z z z (by kernel_rfl) (fun w hst => x_slice (lo := ((k + m) : Nat)) (hi := ((n + m) : Nat)) underlying54 hs z hs2 (by omega) (by omega) (by omega) .i64 .i64 (.inl z) (.inr ⟨z, z⟩)) (wsr ((upV r0_0 (n + m))) 5 z z z (by kernel_rfl) (fun w hst => z) (wsr (.int .i64 (k : Int)) 6 z z z (by kernel_rfl) (fun w hst => z) (wsr ((slcV ty_session_row.sz (upV r0_0 (n + m)) k (n + m))) 7 z z z (by kernel_rfl) (fun w hst => x_slice (lo := (k : Nat)) (hi := ((n + m) : Nat)) underlying54 hs z hs2 (by omega) (by omega) (by omega) .i64 .i64 (.inl z) (.inr ⟨z, z⟩)) ?_)))))))
 refine ws_e1 8 (by kernel_rfl) ?_
 refine nxe [] (by kernel_rfl) z z ?_
 clear hst
 intro w hst
 obtain ⟨w81, hr82, hst⟩ := run_copyRows (P := prog) (t2 := 54) (ty := 3) underlying54 hs hst (hst.row_part (l := k) (h := n + m) (by omega) (by rw [List.length_append]; omega)) (k + m) (n - k) (N := n + m) (by first | omega | (simp only [List.length_append, List.length_take, List.length_drop]; omega)) (by first | omega | (simp only [List.length_append, List.length_take, List.length_drop]; omega)) (by omega) (by first | omega | (simp only [List.length_append, List.length_take, List.length_drop]; omega)) (by rw [stay_src hn hm' hk hel]; exact ones_drop hoc _)
 refine we_run (v := .int .i64 ((n - k) : Nat)) (w' := w81) z (x_copy z z hr82) ?_
 refine ws_next (pend' := []) hst (by kernel_rfl) pk_nil ?_
 refine ws_nil ?_
 intro w hst
 refine tn (wp_seq (wrl (wv ((upV r0_0 (n + m))) z z z (wv (.int .i64 (k : Int)) z z z (wv ((slcV ty_session_row.sz (upV r0_0 (n + m)) k (n + m))) z z (x_slice (lo := (k : Nat)) (hi := ((n + m) : Nat)) underlying54 hs z hs2 (by omega) (by omega) (by omega) .i64 .i64 (.inl z) (.inr ⟨z, z⟩)) (wv (r2_0) z z z ?_))))))
 obtain ⟨w83, hr84, hst⟩ := run_copyRows (P := prog) (t2 := 54) (ty := 3) underlying54 hs hst hst.pull1 k m (N := n + m) (by first | omega | (simp only [List.length_append, List.length_take, List.length_drop]; omega)) (by first | omega | (simp only [List.length_append, List.length_take, List.length_drop]; omega)) (by omega) (by first | omega | (simp only [List.length_append, List.length_take, List.length_drop]; omega)) (ones_take hoq _)
 refine wl_run (v := .int .i64 (m : Nat)) (w' := w83) z z (x_copy z z hr84) ?_
 refine wl_nil (tn (wp_seq (wrl (wv ((upV r0_0 (n + m))) z z z (wv ((upV r0_0 (n + m))) z z z (wl_nil (tn (wp_ret (then_r ?_)))))))))
 refine post_ret (vs := [(upV r0_0 (n + m))]) results24 (rvs_cons (rv_tmp z) rvs_nil) ?_
 rw [stay_rows hn hm' hk hel] at hst
 exact ⟨_, z, (hst.own_close ((hr.take k).app (hq.app (hr.drop k)))).keep1⟩
}
}
}
}

theorem session_Table_Put_ref {w0 w : World} {I : HL} {R : SP} {a0 : (Option session_Table)} {p0 : Value} {a1 : Int} {a2 : Int} {a3 : api_Reply} {r3_0 : Value} {r3_1 : Value} (f3_0 : Ro ty_api_Got I r3_0 a3.Gots) (f3_1 : Ro (tySl ty_api_Pair) I r3_1 a3.Scans) (hst : St w0 w I [objO at_session_Table p0 a0] R) {r : (Int × (Option session_Table))} (hm : session_Table_Put a0 a1 a2 a3 = some r) :
  Calls prog 12 #[p0, U6 a1, U6 a2, .agg #[I6 a3.E, U6 a3.Epoch, U6 a3.Index, r3_0, r3_1]] w fun e w' => e = .returned (.int .i64 r.1) ∧ St w0 w' I [objO at_session_Table p0 r.2] R := by {
 rcases a0 with _ | o0
 {
 obtain ⟨rfl, hst'⟩ := objO_none hst
 clear hst
 have hst := hst'
 clear hst'
 dsimp only [session_Table_Put] at hm
 refine calls_start (args := [.pointer none, U6 a1, U6 a2, .agg #[I6 a3.E, U6 a3.Epoch, U6 a3.Index, r3_0, r3_1]]) func12 z ntmps12 (Nat.le_of_ble_eq_true z) ?_
 refine wp_seq (wrl ?_)
 obtain ⟨b139, w140, ew141, eb142, hst⟩ := hst.box [I6 a3.E, U6 a3.Epoch, U6 a3.Index, r3_0, r3_1] 36
 refine wl_run (v := Pt b139 0) (w' := w140) z z (x_al (by kernel_rfl) ew141 eb142) ?_
 refine wv (.int .i64 (0:Int)) z z z (wl_nil (tn (wp_seq (wp_block (wp_seq (wrl (wv (.pointer none) z z z (wv (.bool true) z z (by kernel_rfl) (wv (.bool true) z z z (wl_nil (tn ?_)))))))))))
 refine wp_ift z ?_
 refine wp_seq (wrl (wv (.int .i64 (2:Int)) z z z (wl_nil (tn (wp_ret (blk_r (then_r ?_)))))))
 replace hst := hst.objO_nil at_session_Table
 obtain rfl := some_inj hm
 refine post_ret (vs := [I6 (2:Int)]) results12 (rvs_cons (rv_tmp z) rvs_nil) ?_
 exact ⟨z, hst.keep1⟩
}
 {
 replace hst := objO_get hst
 dsimp only [session_Table_Put] at hm
 refine calls_start (args := [p0, U6 a1, U6 a2, .agg #[I6 a3.E, U6 a3.Epoch, U6 a3.Index, r3_0, r3_1]]) func12 z ntmps12 (Nat.le_of_ble_eq_true z) ?_
 refine wp_seq (wrl ?_)
 obtain ⟨b144, w145, ew146, eb147, hst⟩ := hst.box [I6 a3.E, U6 a3.Epoch, U6 a3.Index, r3_0, r3_1] 36
 refine wl_run (v := Pt b144 0) (w' := w145) z z (x_al (by kernel_rfl) ew146 eb147) ?_
 refine wv (.int .i64 (0:Int)) z z z (wl_nil (tn (wp_seq (wp_block (wp_seq (wrl (wv (p0) z z z ?_)))))))
 replace hst := hst.pull1
 obtain ⟨b149, v150, rfl, hst'⟩ := at_session_Table_open hst
 clear hst
 have hst := hst'
 clear hst'
 refine wv (.bool false) z z (by kernel_rfl) (wv (.bool false) z z z (wl_nil (tn ?_)))
 refine wp_iff z ?_
 refine wp_seq (wrl (wv (.int .u64 a2) z z z (wv (.bool (a2 == (0:Int))) z z z (wv (.bool (a2 == (0:Int))) z z z (wl_nil (tn ?_))))))
 refine bsplit (a2 == (0:Int)) (fun hc152 => ?_) (fun hc152 => ?_)
 {
 replace hm := bif_t hc152 hm
 refine wp_ift (cvb hc152) ?_
 refine wp_seq (wrl (wv (.int .i64 (1:Int)) z z z (wl_nil (tn (wp_ret (blk_r (then_r ?_)))))))
 replace hst := hst.pull1.pull1
 replace hst := at_session_Table_close (pv := Pt b149 0) (x := o0) hst z
 replace hst := objO_some hst
 obtain rfl := some_inj hm
 refine post_ret (vs := [I6 (1:Int)]) results12 (rvs_cons (rv_tmp z) rvs_nil) ?_
 exact ⟨z, hst.keep1⟩
}
 {
 replace hm := bif_f hc152 hm
 refine wp_iff (cvb hc152) ?_
 refine wp_skip (blk_n (tn (wp_seq (wrl ?_))))
 refine wv (Pt b149 0) z z z (wv (.int .u64 a1) z z z ?_)
 replace hst := hst.pull1.pull1
 replace hst := at_session_Table_close (pv := Pt b149 0) (x := o0) hst z
 replace hst := objO_some hst
 obtain ⟨t153, ht154, hm⟩ := bind_some hm
 refine wc call23 [Pt b149 0, U6 a1] z z z ?_
 refine (session_Table_find_ref hst.to1 ht154).mono ?_
 rintro _ w155 ⟨rfl, hst⟩
 refine ⟨_, z, ?_⟩
 replace hst := hst.of1
 replace hst := objO_get hst
 refine wv (.tuple #[I6 t153.1, .bool t153.2]) z z z (wv (.int .i64 t153.1) z z z (wv (.bool t153.2) z z z (wv (.int .i64 t153.1) z z z (wv (.bool t153.2) z z z (wl_nil (tn ?_))))))
 obtain ⟨y180, hm, hx181⟩ := joinO_some hm
 refine wp_cut (fun a w => ∃ (σ178 : Nat → Value), (session_Table_Put_j0 t153 o0 a1 a2 a3) () = some r ∧ a = Fr 66 (upd (upd (upd (upd (upd (upd σ178 0 (Pt b149 0)) 1 (.int .u64 a1)) 2 (.int .u64 a2)) 7 (Pt b144 0)) 9 (.int .i64 t153.1)) 10 (.bool t153.2)) ∧ St w0 w I [at_session_Table (Pt b149 0) o0, cells b144 [I6 a3.E, U6 a3.Epoch, U6 a3.Index, r3_0, r3_1]] R) ?_ ?_
 {
 refine wp_seq (wrl (wv (.bool t153.2) z z z (wv (.bool t153.2) z z z ?_)))
 refine bsplit t153.2 (fun hc158 => ?_) (fun hc158 => ?_)
 {
 replace hm := bif_t hc158 hm
 refine wv (Pt b149 0) ((wanted_eq z z z (cvb hc158)).trans z) z z ?_
 obtain ⟨b159, v160, e162, hst'⟩ := at_session_Table_open hst
 clear hst
 have e162 := ptr_inj e162
 subst e162
 have hst := hst'
 clear hst'
 refine wv (Pt b149 0) ((wanted_eq z z z (cvb hc158)).trans z) z z (wv (Pt b149 0) ((wanted_eq z z z (cvb hc158)).trans z) z (x_field z underlying56 z sizeOf54 z) (wv (v160) ((wanted_eq z z z (cvb hc158)).trans z) z (x_load z isAgg54 (hst.bc0 z)) (wv (.int .i64 t153.1) ((wanted_eq z z z (cvb hc158)).trans z) z z ?_)))
 obtain ⟨x163, hx164, hm⟩ := bind_some hm
 obtain ⟨h165, h166, hi167⟩ := geto_some hx164
 refine wv (.pointer (some (eAddr v160 (t153.1.toNat * 7 + 0)))) ((wanted_eq z z z (cvb hc158)).trans z) z (x_index z z underlying54 sizeOf71 hst.sv1 h165 h166) (wv (.pointer (some (eAddr v160 (t153.1.toNat * 7 + 1)))) ((wanted_eq z z z (cvb hc158)).trans z) z (x_field_e z underlying71 z sizeOf30 z) ?_)
 obtain ⟨cs168, hr169, hc170⟩ := hst.og1 hi167
 obtain ⟨v171, v174, rfl, f172, f175, -⟩ := hr169
 refine wv (.int .u64 x163.seq) ((wanted_eq z z z (cvb hc158)).trans z) z (x_load z isAgg30 (hc170 1 _ z)) (wv (.int .u64 a2) ((wanted_eq z z z (cvb hc158)).trans z) z z (wv (.bool (decide (x163.seq ≥ a2))) ((wanted_eq z z z (cvb hc158)).trans z) z z (wv (.bool (decide (x163.seq ≥ a2))) z z (x_pick_t hc158 z z) (wl_nil (tn ?_)))))
 refine bsplit (decide (x163.seq ≥ a2)) (fun hc177 => ?_) (fun hc177 => ?_)
 {
 replace hm := bif_t hc177 hm
 refine wp_ift (cvb hc177) ?_
 refine wp_seq (wrl (wv (.int .i64 (10:Int)) z z z (wl_nil (tn (wp_ret (then_r ?_))))))
 replace hm := inr_up hm hx181
 replace hst := hst.pull1.pull1
 replace hst := at_session_Table_close (pv := Pt b149 0) (x := o0) hst z
 replace hst := objO_some hst
 obtain rfl := some_inj hm
 refine post_ret (vs := [I6 (10:Int)]) results12 (rvs_cons (rv_tmp z) rvs_nil) ?_
 exact ⟨z, hst.keep1⟩
}
 {
 replace hm := bif_f hc177 hm
 refine wp_iff (cvb hc177) ?_
 refine wp_skip (tn ?_)
 replace hst := hst.pull1.pull1
 replace hst := at_session_Table_close (pv := Pt b149 0) (x := o0) hst z
 replace hst := hst.pull1.pull1.keep2
 obtain rfl := some_inj hm
 exact ⟨_, hx181, (fu 0 (Pt b149 0) z (fu 1 (.int .u64 a1) z (fu 2 (.int .u64 a2) z (fu 7 (Pt b144 0) z (fu 9 (.int .i64 t153.1) z (fu 10 (.bool t153.2) z z)))))), hst⟩
}
}
 {
 replace hm := bif_f hc158 hm
 refine wo hc158 z z z z z z (wo hc158 z z z z z z (wo hc158 z z z z z z (wo hc158 z z z z z z (wo hc158 z z z z z z (wo hc158 z z z z z z (wo hc158 z z z z z z (wo hc158 z z z z z z (wo hc158 z z z z z z (wo hc158 z z z z z z (wv (.bool false) z z (x_pick_f hc158 z z) (wl_nil (tn ?_))))))))))))
 refine wp_iff z ?_
 refine wp_skip (tn ?_)
 replace hst := hst.pull1.pull1.keep2
 obtain rfl := some_inj hm
 exact ⟨_, hx181, (fu 0 (Pt b149 0) z (fu 1 (.int .u64 a1) z (fu 2 (.int .u64 a2) z (fu 7 (Pt b144 0) z (fu 9 (.int .i64 t153.1) z (fu 10 (.bool t153.2) z z)))))), hst⟩
}
}
 {
 clear hst
 rintro _ w182 ⟨σ178, hm, rfl, hst⟩
 dsimp only [session_Table_Put_j0] at hm
 obtain ⟨y211, hm, hx212⟩ := bind_some hm
 refine wp_cut (fun a w => ∃ (z208 : session_Table) (σ209 : Nat → Value), (session_Table_Put_j1 t153 a2 a3) z208 = some r ∧ a = Fr 66 (upd (upd (upd (upd σ209 0 (Pt b149 0)) 2 (.int .u64 a2)) 7 (Pt b144 0)) 9 (.int .i64 t153.1)) ∧ St w0 w I [at_session_Table (Pt b149 0) z208, cells b144 [I6 a3.E, U6 a3.Epoch, U6 a3.Index, r3_0, r3_1]] R) ?_ ?_
 {
 refine wp_seq (wrl (wv (.bool t153.2) z z z (wv (.bool (!t153.2)) z z z (wl_nil (tn ?_)))))
 refine bsplit (!t153.2) (fun hc183 => ?_) (fun hc183 => ?_)
 {
 replace hm := bif_t hc183 hm
 refine wp_ift (cvb hc183) ?_
 refine wrl (wv (Pt b149 0) z z z (wv (Pt b149 0) z z z ?_))
 obtain ⟨b184, v185, e187, hst'⟩ := at_session_Table_open hst
 clear hst
 have e187 := ptr_inj e187
 subst e187
 have hst := hst'
 clear hst'
 refine wv (Pt b149 0) z z z (wv (Pt b149 0) z z (x_field z underlying56 z sizeOf54 z) (wv (v185) z z (x_load z isAgg54 (hst.bc0 z)) (wv (.int .i64 t153.1) z z z (wv (.int .u64 a1) z z z (wv (.agg #[U6 a1, Zu, Zi, Zu, Zu, Zs, Zs]) z z (by kernel_rfl) ?_)))))
 have f192 : Ro ty_api_Got I (.slice none 0 0) [] := ro_nil
 have f193 : Ro (tySl ty_api_Pair) I (.slice none 0 0) [] := ro_nil
 obtain ⟨b194, w195, ew196, eb197, hst⟩ := hst.lits (E := ty_session_row) (xs := [({ session := a1, seq := (0:Int), r := zero_api_Reply } : session_row)]) [[U6 a1, Zu, Zi, Zu, Zu, Zs, Zs]] 71 1 z (Reps.cons ⟨_, _, z, f192, f193, one_of_sliceV (ro_sliceV f192), one_of_sliceV (ro_sliceV f193)⟩ Reps.nil)
 refine wl_run (v := (.slice (some ⟨b194, 0, none⟩) 1 1)) (w' := w195) z z (x_als (by kernel_rfl) ew196 eb197) ?_
 replace hst := hst.pull2
 obtain ⟨t199, ht200, hm⟩ := bind_some hm
 refine wc call24 [v185, I6 t153.1, (.slice (some ⟨b194, 0, none⟩) 1 1)] z z z ?_
 refine (slices_Insert_session_row_session_row_ref hst.to2 ht200).mono ?_
 rintro _ w201 ⟨v204, rfl, hst⟩
 refine ⟨_, z, ?_⟩
 replace hst := hst.of1
 refine wv (Pt b149 0) z z z (wv (Pt b149 0) z z (x_field z underlying56 z sizeOf54 z) ?_)
 replace hst := hst.pull1
 obtain ⟨w206, hr207, hst⟩ := hst.boxStore1 (P := prog) (t := 54) (cs' := [v204]) 0 v204 (one_of_sliceV hst.sv1) sizeOf54 z z
 refine wl_unit z z (x_unit hr207) ?_
 refine wl_nil (tn ?_)
 replace hst := hst.pull1.pull1
 replace hst := at_session_Table_close (pv := Pt b149 0) (x := ({ l := t199 } : session_Table)) hst z
 replace hst := hst.pull1.pull1.keep2
 obtain rfl := some_inj hm
 exact ⟨({ l := t199 } : session_Table), _, hx212, (fu 0 (Pt b149 0) z (fu 2 (.int .u64 a2) z (fu 7 (Pt b144 0) z (fu 9 (.int .i64 t153.1) z z)))), hst⟩
}
 {
 replace hm := bif_f hc183 hm
 refine wp_iff (cvb hc183) ?_
 refine wp_skip (tn ?_)
 replace hst := hst.pull1.pull1.keep2
 obtain rfl := some_inj hm
 exact ⟨o0, _, hx212, (fu 0 (Pt b149 0) z (fu 2 (.int .u64 a2) z (fu 7 (Pt b144 0) z (fu 9 (.int .i64 t153.1) z z)))), hst⟩
}
}
 {
 clear hst
 rintro _ w213 ⟨z208, σ209, hm, rfl, hst⟩
 dsimp only [session_Table_Put_j1] at hm
 refine wp_seq ?_
 obtain ⟨b214, v215, e217, hst'⟩ := at_session_Table_open hst
 clear hst
 have e217 := ptr_inj e217
 subst e217
 have hst := hst'
 clear hst'
 refine wp_region_St hst 18 [0, 1, 2, 3, 4, 5, 6, 7, 8, 9, 10, 11, 12, 13, 14, 15, 16, 17] [0, 1, 3, 7, 0, 0, 32, 96, 224, 0, 0, 0, 1535, 5631, 13823, 32767, 65535, 131071] [] z (by kernel_rfl) (by kernel_rfl) Try.mixed (by kernel_rfl) ?_
 refine wsr (Pt b149 0) 0 z z z (by kernel_rfl) (fun w hst => z) (wsr (Pt b149 0) 1 z z z (by kernel_rfl) (fun w hst => z) (wsr (Pt b149 0) 2 z z z (by kernel_rfl) (fun w hst => x_field z underlying56 z sizeOf54 z) (wsr (v215) 3 z z z (by kernel_rfl) (fun w hst => x_load z isAgg54 (hst.bc0 z)) (wsr (.int .i64 t153.1) 4 z z z (by kernel_rfl) (fun w hst => z) (wsr (Pt b149 0) 5 z z z (by kernel_rfl) (fun w hst => z) (wsr (Pt b149 0) 6 z z z (by kernel_rfl) (fun w hst => z) (wsr (Pt b149 0) 7 z z z (by kernel_rfl) (fun w hst => x_field z underlying56 z sizeOf54 z) (wsr (v215) 8 z z z (by kernel_rfl) (fun w hst => x_load z isAgg54 (hst.bc0 z)) (wsr (.int .i64 t153.1) 9 z z z (by kernel_rfl) (fun w hst => z) (wsr (.int .u64 a2) 10 z z z (by kernel_rfl) (fun w hst => z) (wsr (.agg #[I6 a3.E, U6 a3.Epoch, U6 a3.Index, r3_0, r3_1]) 11 z z z (by kernel_rfl) (fun w hst => x_loadN (cs := [I6 a3.E, U6 a3.Epoch, U6 a3.Index, r3_0, r3_1]) z isAgg36 sizeOf36 (hst.bcs2 0 z)) ?_)))))))))))
 obtain ⟨x218, hx219, hm⟩ := bind_some hm
 obtain ⟨h220, h221, hi222⟩ := geto_some hx219
 refine wsr (.pointer (some (eAddr v215 (t153.1.toNat * 7 + 0)))) 12 z z z (by kernel_rfl) (fun w hst => x_index z z underlying54 sizeOf71 hst.sv1 h220 h221) (wsr (.pointer (some (eAddr v215 (t153.1.toNat * 7 + 1)))) 13 z z z (by kernel_rfl) (fun w hst => x_field_e z underlying71 z sizeOf30 z) ?_)
 refine ws_e1 14 (by kernel_rfl) ?_
 refine nxe [15, 16, 17] (by kernel_rfl) z z ?_
 clear hst
 intro w hst
 obtain ⟨cs223, hr224, hc225⟩ := hst.og1 hi222
 obtain ⟨v226, v229, rfl, f227, f230, -⟩ := hr224
 replace hst := hst.pull1
 obtain ⟨w232, hr233, hst⟩ := hst.own_store (P := prog) (t := 30) (y := ({ session := x218.session, seq := a2, r := x218.r } : session_row)) hi222 1 (.int .u64 a2) sizeOf30 (Nat.le_of_ble_eq_true z) (oC z oN) (by rintro _ ⟨u235, u236, rfl, f237, f238, o239, o240⟩; exact ⟨u235, u236, rfl, f237, f238, o239, o240⟩)
 have hi234 := set_get hi222 ({ session := x218.session, seq := a2, r := x218.r } : session_row)
 have h241 := set_lt h221 t153.1.toNat ({ session := x218.session, seq := a2, r := x218.r } : session_row)
 refine we_unit z (x_unit hr233) ?_
 refine ws_next (pend' := [(11, .agg #[I6 a3.E, U6 a3.Epoch, U6 a3.Index, r3_0, r3_1]), (9, I6 t153.1)]) hst (by kernel_rfl) (pkr z z (fun w hst => x_loadN (cs := [I6 a3.E, U6 a3.Epoch, U6 a3.Index, r3_0, r3_1]) z isAgg36 sizeOf36 (hst.bcs2 0 z)) (pkr z z (fun w hst => z) pk_nil)) ?_
 refine wsr (.pointer (some (eAddr v215 (t153.1.toNat * 7 + 0)))) 15 z z z (by kernel_rfl) (fun w hst => x_index z z underlying54 sizeOf71 hst.sv0 h220 h241) (wsr (.pointer (some (eAddr v215 (t153.1.toNat * 7 + 2)))) 16 z z z (by kernel_rfl) (fun w hst => x_field_e z underlying71 z sizeOf36 z) ?_)
 refine ws_e1 17 (by kernel_rfl) ?_
 refine nxe [] (by kernel_rfl) z z ?_
 clear hst
 intro w hst
 obtain ⟨cs242, hr243, hc244⟩ := hst.og0 hi234
 obtain ⟨v245, v248, rfl, f246, f249, -⟩ := hr243
 obtain ⟨w251, hr252, hst⟩ := hst.own_store (P := prog) (t := 36) (y := ({ session := ({ session := x218.session, seq := a2, r := x218.r } : session_row).session, seq := ({ session := x218.session, seq := a2, r := x218.r } : session_row).seq, r := a3 } : session_row)) hi234 2 (.agg #[I6 a3.E, U6 a3.Epoch, U6 a3.Index, r3_0, r3_1]) sizeOf36 (Nat.le_of_ble_eq_true z) (oC z (oC z (oC z (oC (one_of_sliceV (ro_sliceV f3_0)) (oC (one_of_sliceV (ro_sliceV f3_1)) oN))))) (by rintro _ ⟨u254, u255, rfl, f256, f257, o258, o259⟩; exact ⟨_, _, rfl, f3_0, f3_1, one_of_sliceV (ro_sliceV f3_0), one_of_sliceV (ro_sliceV f3_1)⟩)
 have hi253 := set_get hi234 ({ session := ({ session := x218.session, seq := a2, r := x218.r } : session_row).session, seq := ({ session := x218.session, seq := a2, r := x218.r } : session_row).seq, r := a3 } : session_row)
 have h260 := set_lt h241 t153.1.toNat ({ session := ({ session := x218.session, seq := a2, r := x218.r } : session_row).session, seq := ({ session := x218.session, seq := a2, r := x218.r } : session_row).seq, r := a3 } : session_row)
 refine we_unit z (x_unit hr252) ?_
 refine ws_next (pend' := []) hst (by kernel_rfl) pk_nil ?_
 refine ws_nil ?_
 intro w hst
 refine tn (wp_seq (wrl (wv (.int .i64 (0:Int)) z z z (wl_nil (tn (wp_ret ?_))))))
 replace hst := hst.pull1
 replace hst := at_session_Table_close (pv := Pt b149 0) (x := ({ l := ((z208.l.set t153.1.toNat ({ session := x218.session, seq := a2, r := x218.r } : session_row)).set t153.1.toNat ({ session := ({ session := x218.session, seq := a2, r := x218.r } : session_row).session, seq := ({ session := x218.session, seq := a2, r := x218.r } : session_row).seq, r := a3 } : session_row)) } : session_Table)) hst z
 replace hst := objO_some hst
 obtain rfl := some_inj hm
 refine post_ret (vs := [Zi]) results12 (rvs_cons (rv_tmp z) rvs_nil) ?_
 exact ⟨z, hst.keep1⟩
}
}
}
}
}

theorem session_Table_Get_ref {w0 w : World} {I : HL} {R : SP} {a0 : (Option session_Table)} {p0 : Value} {a1 : Int} {a2 : Int}  (hst : St w0 w I [objO at_session_Table p0 a0] R) {r : (api_Reply × Int)} (hm : session_Table_Get a0 a1 a2 = some r) :
  Calls prog 14 #[p0, U6 a1, U6 a2] w fun e w' => ∃ (I' : HL) (q0_0 : Value) (q0_1 : Value), e = .returned (.tuple #[.agg #[I6 r.1.E, U6 r.1.Epoch, U6 r.1.Index, q0_0, q0_1], I6 r.2]) ∧ I.le I' ∧ Ro ty_api_Got I' q0_0 r.1.Gots ∧ Ro (tySl ty_api_Pair) I' q0_1 r.1.Scans ∧ St w0 w' I' [objO at_session_Table p0 a0] R := by {
 rcases a0 with _ | o0
 {
 obtain ⟨rfl, hst'⟩ := objO_none hst
 clear hst
 have hst := hst'
 clear hst'
 dsimp only [session_Table_Get] at hm
 refine calls_start (args := [.pointer none, U6 a1, U6 a2]) func14 z ntmps14 (Nat.le_of_ble_eq_true z) ?_
 have hI0 := HL.le.refl I
 refine wp_seq (wrl ?_)
 obtain ⟨b89, w90, ew91, eb92, hst⟩ := hst.box [Zi, Zu, Zu, Zs, Zs] 36
 refine wl_run (v := Pt b89 0) (w' := w90) z z (x_al (by kernel_rfl) ew91 eb92) ?_
 refine wv (.int .i64 (0:Int)) z z z (wl_nil (tn (wp_seq (wrl (wv (.pointer none) z z z (wv (.int .u64 a1) z z z ?_))))))
 replace hst := hst.objO_nil at_session_Table
 obtain ⟨t95, ht96, hm⟩ := bind_some hm
 refine wc call23 [.pointer none, U6 a1] z z z ?_
 refine (session_Table_find_ref hst.to1 ht96).mono ?_
 rintro _ w97 ⟨rfl, hst⟩
 refine ⟨_, z, ?_⟩
 replace hst := hst.of1
 refine wv (.tuple #[I6 t95.1, .bool t95.2]) z z z (wv (.int .i64 t95.1) z z z (wv (.bool t95.2) z z z (wv (.int .i64 t95.1) z z z (wv (.bool t95.2) z z z (wl_nil (tn (wp_seq (wp_block (wp_seq (wrl (wv (.bool t95.2) z z z (wv (.bool (!t95.2)) z z z (wv (.bool (!t95.2)) z z z ?_)))))))))))))
 refine bsplit (!t95.2) (fun hc100 => ?_) (fun hc100 => ?_)
 {
 replace hm := bif_t hc100 hm
 refine wo hc100 z z z z z z (wo hc100 z z z z z z (wo hc100 z z z z z z (wo hc100 z z z z z z (wo hc100 z z z z z z (wo hc100 z z z z z z (wo hc100 z z z z z z (wo hc100 z z z z z z (wo hc100 z z z z z z (wo hc100 z z z z z z (wv (.bool true) z z (x_pick_t hc100 z z) (wv (.bool true) z z z (wl_nil (tn ?_)))))))))))))
 refine wp_ift z ?_
 refine wp_seq (wrl (wv (.agg #[Zi, Zu, Zu, Zs, Zs]) z z (by kernel_rfl) ?_))
 replace hst := hst.pull1
 obtain ⟨w103, hr104, hst⟩ := hst.bx [Zi, Zu, Zu, Zs, Zs] sizeOf36 z (oC z (oC z (oC z (oC z (oC z oN))))) (by kernel_rfl)
 refine wl_unit z z (x_unit hr104) ?_
 refine wv (.int .i64 (2:Int)) z z z (wl_nil (tn (wp_ret (blk_r (then_r ?_)))))
 have f105 : Ro ty_api_Got I (.slice none 0 0) [] := ro_nil
 have f106 : Ro (tySl ty_api_Pair) I (.slice none 0 0) [] := ro_nil
 replace hst := hst.objO_nil at_session_Table
 obtain rfl := some_inj hm
 refine post_ret (vs := [.agg #[Zi, Zu, Zu, Zs, Zs], I6 (2:Int)]) results14 (rvs_cons (rv_cell (cs := [Zi, Zu, Zu, Zs, Zs]) z isAgg36 sizeOf36 (hst.bcs1 0 z)) (rvs_cons (rv_tmp z) rvs_nil)) ?_
 exact ⟨_, Zs, Zs, z, hI0, f105, f106, hst.keep1⟩
}
 {
 replace hm := bif_f hc100 hm
 refine wv (.pointer none) ((wanted_eq z z z (cvb hc100)).trans z) z z ?_
 cases hm
}
}
 {
 replace hst := objO_get hst
 dsimp only [session_Table_Get] at hm
 refine calls_start (args := [p0, U6 a1, U6 a2]) func14 z ntmps14 (Nat.le_of_ble_eq_true z) ?_
 have hI0 := HL.le.refl I
 refine wp_seq (wrl ?_)
 obtain ⟨b109, w110, ew111, eb112, hst⟩ := hst.box [Zi, Zu, Zu, Zs, Zs] 36
 refine wl_run (v := Pt b109 0) (w' := w110) z z (x_al (by kernel_rfl) ew111 eb112) ?_
 refine wv (.int .i64 (0:Int)) z z z (wl_nil (tn (wp_seq (wrl (wv (p0) z z z (wv (.int .u64 a1) z z z ?_))))))
 replace hst := hst.pull1
 replace hst := objO_some hst
 obtain ⟨t114, ht115, hm⟩ := bind_some hm
 refine wc call23 [p0, U6 a1] z z z ?_
 refine (session_Table_find_ref hst.to1 ht115).mono ?_
 rintro _ w116 ⟨rfl, hst⟩
 refine ⟨_, z, ?_⟩
 replace hst := hst.of1
 replace hst := objO_get hst
 refine wv (.tuple #[I6 t114.1, .bool t114.2]) z z z (wv (.int .i64 t114.1) z z z (wv (.bool t114.2) z z z (wv (.int .i64 t114.1) z z z (wv (.bool t114.2) z z z (wl_nil (tn (wp_seq (wp_block (wp_seq (wrl (wv (.bool t114.2) z z z (wv (.bool (!t114.2)) z z z (wv (.bool (!t114.2)) z z z ?_)))))))))))))
 refine bsplit (!t114.2) (fun hc119 => ?_) (fun hc119 => ?_)
 {
 replace hm := bif_t hc119 hm
 refine wo hc119 z z z z z z (wo hc119 z z z z z z (wo hc119 z z z z z z (wo hc119 z z z z z z (wo hc119 z z z z z z (wo hc119 z z z z z z (wo hc119 z z z z z z (wo hc119 z z z z z z (wo hc119 z z z z z z (wo hc119 z z z z z z (wv (.bool true) z z (x_pick_t hc119 z z) (wv (.bool true) z z z (wl_nil (tn ?_)))))))))))))
 refine wp_ift z ?_
 refine wp_seq (wrl (wv (.agg #[Zi, Zu, Zu, Zs, Zs]) z z (by kernel_rfl) ?_))
 replace hst := hst.pull1
 obtain ⟨w122, hr123, hst⟩ := hst.bx [Zi, Zu, Zu, Zs, Zs] sizeOf36 z (oC z (oC z (oC z (oC z (oC z oN))))) (by kernel_rfl)
 refine wl_unit z z (x_unit hr123) ?_
 refine wv (.int .i64 (2:Int)) z z z (wl_nil (tn (wp_ret (blk_r (then_r ?_)))))
 have f124 : Ro ty_api_Got I (.slice none 0 0) [] := ro_nil
 have f125 : Ro (tySl ty_api_Pair) I (.slice none 0 0) [] := ro_nil
 replace hst := hst.pull1
 replace hst := objO_some hst
 obtain rfl := some_inj hm
 refine post_ret (vs := [.agg #[Zi, Zu, Zu, Zs, Zs], I6 (2:Int)]) results14 (rvs_cons (rv_cell (cs := [Zi, Zu, Zu, Zs, Zs]) z isAgg36 sizeOf36 (hst.bcs1 0 z)) (rvs_cons (rv_tmp z) rvs_nil)) ?_
 exact ⟨_, Zs, Zs, z, hI0, f124, f125, hst.keep1⟩
}
 {
 replace hm := bif_f hc119 hm
 refine wv (p0) ((wanted_eq z z z (cvb hc119)).trans z) z z ?_
 obtain ⟨b126, v127, rfl, hst'⟩ := at_session_Table_open hst
 clear hst
 have hst := hst'
 clear hst'
 refine wv (Pt b126 0) ((wanted_eq z z z (cvb hc119)).trans z) z z (wv (Pt b126 0) ((wanted_eq z z z (cvb hc119)).trans z) z (x_field z underlying56 z sizeOf54 z) (wv (v127) ((wanted_eq z z z (cvb hc119)).trans z) z (x_load z isAgg54 (hst.bc0 z)) (wv (.int .i64 t114.1) ((wanted_eq z z z (cvb hc119)).trans z) z z ?_)))
 obtain ⟨x129, hx130, hm⟩ := bind_some hm
 obtain ⟨h131, h132, hi133⟩ := geto_some hx130
 refine wv (.pointer (some (eAddr v127 (t114.1.toNat * 7 + 0)))) ((wanted_eq z z z (cvb hc119)).trans z) z (x_index z z underlying54 sizeOf71 hst.sv1 h131 h132) (wv (.pointer (some (eAddr v127 (t114.1.toNat * 7 + 1)))) ((wanted_eq z z z (cvb hc119)).trans z) z (x_field_e z underlying71 z sizeOf30 z) ?_)
 obtain ⟨cs134, hr135, hc136⟩ := hst.og1 hi133
 obtain ⟨v137, v140, rfl, f138, f141, -⟩ := hr135
 refine wv (.int .u64 x129.seq) ((wanted_eq z z z (cvb hc119)).trans z) z (x_load z isAgg30 (hc136 1 _ z)) (wv (.int .u64 a2) ((wanted_eq z z z (cvb hc119)).trans z) z z (wv (.bool (decide (x129.seq < a2))) ((wanted_eq z z z (cvb hc119)).trans z) z z (wv (.bool (decide (x129.seq < a2))) z z (x_pick_f hc119 z z) (wv (.bool (decide (x129.seq < a2))) z z z (wl_nil (tn ?_))))))
 refine bsplit (decide (x129.seq < a2)) (fun hc143 => ?_) (fun hc143 => ?_)
 {
 replace hm := bif_t hc143 hm
 refine wp_ift (cvb hc143) ?_
 refine wp_seq (wrl (wv (.agg #[Zi, Zu, Zu, Zs, Zs]) z z (by kernel_rfl) ?_))
 replace hst := hst.pull2
 obtain ⟨w146, hr147, hst⟩ := hst.bx [Zi, Zu, Zu, Zs, Zs] sizeOf36 z (oC z (oC z (oC z (oC z (oC z oN))))) (by kernel_rfl)
 refine wl_unit z z (x_unit hr147) ?_
 refine wv (.int .i64 (2:Int)) z z z (wl_nil (tn (wp_ret (blk_r (then_r ?_)))))
 have f148 : Ro ty_api_Got I (.slice none 0 0) [] := ro_nil
 have f149 : Ro (tySl ty_api_Pair) I (.slice none 0 0) [] := ro_nil
 replace hst := hst.pull2.pull2
 replace hst := at_session_Table_close (pv := Pt b126 0) (x := o0) hst z
 replace hst := objO_some hst
 obtain rfl := some_inj hm
 refine post_ret (vs := [.agg #[Zi, Zu, Zu, Zs, Zs], I6 (2:Int)]) results14 (rvs_cons (rv_cell (cs := [Zi, Zu, Zu, Zs, Zs]) z isAgg36 sizeOf36 (hst.bcs1 0 z)) (rvs_cons (rv_tmp z) rvs_nil)) ?_
 exact ⟨_, Zs, Zs, z, hI0, f148, f149, hst.keep1⟩
}
 {
 replace hm := bif_f hc143 hm
 refine wp_iff (cvb hc143) ?_
 refine wp_seq (wrl (wv (Pt b126 0) z z z (wv (Pt b126 0) z z z (wv (Pt b126 0) z z (x_field z underlying56 z sizeOf54 z) (wv (v127) z z (x_load z isAgg54 (hst.bc0 z)) (wv (.int .i64 t114.1) z z z (wv (.pointer (some (eAddr v127 (t114.1.toNat * 7 + 0)))) z z (x_index z z underlying54 sizeOf71 hst.sv1 h131 h132) (wv (.pointer (some (eAddr v127 (t114.1.toNat * 7 + 1)))) z z (x_field_e z underlying71 z sizeOf30 z) (wv (.int .u64 x129.seq) z z (x_load z isAgg30 (hc136 1 _ z)) (wv (.int .u64 a2) z z z (wv (.bool (decide (x129.seq > a2))) z z z (wv (.bool (decide (x129.seq > a2))) z z z (wl_nil (tn ?_))))))))))))))
 refine bsplit (decide (x129.seq > a2)) (fun hc150 => ?_) (fun hc150 => ?_)
 {
 replace hm := bif_t hc150 hm
 refine wp_ift (cvb hc150) ?_
 refine wp_seq (wrl (wv (.agg #[Zi, Zu, Zu, Zs, Zs]) z z (by kernel_rfl) ?_))
 replace hst := hst.pull2
 obtain ⟨w153, hr154, hst⟩ := hst.bx [Zi, Zu, Zu, Zs, Zs] sizeOf36 z (oC z (oC z (oC z (oC z (oC z oN))))) (by kernel_rfl)
 refine wl_unit z z (x_unit hr154) ?_
 refine wv (.int .i64 (10:Int)) z z z (wl_nil (tn (wp_ret (blk_r (then_r ?_)))))
 have f155 : Ro ty_api_Got I (.slice none 0 0) [] := ro_nil
 have f156 : Ro (tySl ty_api_Pair) I (.slice none 0 0) [] := ro_nil
 replace hst := hst.pull2.pull2
 replace hst := at_session_Table_close (pv := Pt b126 0) (x := o0) hst z
 replace hst := objO_some hst
 obtain rfl := some_inj hm
 refine post_ret (vs := [.agg #[Zi, Zu, Zu, Zs, Zs], I6 (10:Int)]) results14 (rvs_cons (rv_cell (cs := [Zi, Zu, Zu, Zs, Zs]) z isAgg36 sizeOf36 (hst.bcs1 0 z)) (rvs_cons (rv_tmp z) rvs_nil)) ?_
 exact ⟨_, Zs, Zs, z, hI0, f155, f156, hst.keep1⟩
}
 {
 replace hm := bif_f hc150 hm
 refine wp_iff (cvb hc150) ?_
 refine wp_skip (blk_n (tn (wp_seq (wrl ?_))))
 refine wv (Pt b126 0) z z z (wv (Pt b126 0) z z z (wv (Pt b126 0) z z (x_field z underlying56 z sizeOf54 z) (wv (v127) z z (x_load z isAgg54 (hst.bc0 z)) (wv (.int .i64 t114.1) z z z (wv (.pointer (some (eAddr v127 (t114.1.toNat * 7 + 0)))) z z (x_index z z underlying54 sizeOf71 hst.sv1 h131 h132) (wv (.pointer (some (eAddr v127 (t114.1.toNat * 7 + 2)))) z z (x_field_e z underlying71 z sizeOf36 z) (wv (.agg #[I6 x129.r.E, U6 x129.r.Epoch, U6 x129.r.Index, v137, v140]) z z (x_loadN (cs := [I6 x129.r.E, U6 x129.r.Epoch, U6 x129.r.Index, v137, v140]) z isAgg36 sizeOf36 (eCells (o := 2) hc136 z)) ?_)))))))
 replace hst := hst.pull2
 obtain ⟨w157, hr158, hst⟩ := hst.bx [I6 x129.r.E, U6 x129.r.Epoch, U6 x129.r.Index, v137, v140] sizeOf36 z (oC z (oC z (oC z (oC (one_of_sliceV (ro_sliceV f138)) (oC (one_of_sliceV (ro_sliceV f141)) oN))))) (by kernel_rfl)
 refine wl_unit z z (x_unit hr158) ?_
 refine wv (.int .i64 (0:Int)) z z z (wl_nil (tn (wp_ret ?_)))
 replace hst := hst.pull2.pull2
 replace hst := at_session_Table_close (pv := Pt b126 0) (x := o0) hst z
 replace hst := objO_some hst
 obtain rfl := some_inj hm
 refine post_ret (vs := [.agg #[I6 x129.r.E, U6 x129.r.Epoch, U6 x129.r.Index, v137, v140], Zi]) results14 (rvs_cons (rv_cell (cs := [I6 x129.r.E, U6 x129.r.Epoch, U6 x129.r.Index, v137, v140]) z isAgg36 sizeOf36 (hst.bcs1 0 z)) (rvs_cons (rv_tmp z) rvs_nil)) ?_
 exact ⟨_, v137, v140, z, hI0, f138, f141, hst.keep1⟩
}
}
}
}
}

theorem law14_awake_ref {w0 w : World} {I : HL} {R : SP}   (hst : St w0 w I [] R) {r : (Bool)} (hm : law14_awake = some r) :
  Calls prog 7 #[] w fun e w' => ∃ (I' : HL), e = .returned (.bool r) ∧ I.le I' ∧ St w0 w' I' [] R := by {
 unfold law14_awake at hm
 refine calls_start (args := []) func7 z ntmps7 (Nat.le_of_ble_eq_true z) ?_
 have hI0 := HL.le.refl I
 refine wp_seq (wrl (wv (.bool false) z z z (wl_nil (tn (wp_seq (wrl ?_))))))
 obtain ⟨t84, ht85, hm⟩ := bind_some hm
 refine wc call8 [] z z z ?_
 refine (session_New_ref hst.to0 ht85).mono ?_
 rintro _ w86 ⟨v89, rfl, hst⟩
 refine ⟨_, z, ?_⟩
 replace hst := hst.of1
 refine wv (v89) z z z (wl_nil (tn (wp_seq (wp_seq (wrl (wv (v89) z z z (wv (.agg #[Zi, U6 (9:Int), Zu, Zs, Zs]) z z (by kernel_rfl) ?_)))))))
 replace hst := objO_some hst
 have f93 : Ro ty_api_Got I (.slice none 0 0) [] := ro_nil
 have f94 : Ro (tySl ty_api_Pair) I (.slice none 0 0) [] := ro_nil
 obtain ⟨t95, ht96, hm⟩ := bind_some hm
 refine wc call12 [v89, U6 (1:Int), U6 (2:Int), .agg #[Zi, U6 (9:Int), Zu, Zs, Zs]] z z z ?_
 refine (session_Table_Put_ref f93 f94 hst.to1 ht96).mono ?_
 rintro _ w97 ⟨rfl, hst⟩
 refine ⟨_, z, ?_⟩
 replace hst := hst.of1
 rcases he101 : t95.2 with _ | y100
 · rw [he101] at hm; cases hm
 rw [he101] at hm hst; dsimp only at hm; replace hst := objO_get hst
 refine wv (.bool (t95.1 != (0:Int))) z z z (wl_nil (tn ?_))
 refine bsplit (t95.1 != (0:Int)) (fun hc102 => ?_) (fun hc102 => ?_)
 {
 replace hm := bif_t hc102 hm
 refine wp_ift (cvb hc102) ?_
 refine wp_seq (wrl (wv (.bool false) z z z (wl_nil (tn (wp_ret (then_r ?_))))))
 obtain rfl := some_inj hm
 refine post_ret (vs := [.bool false]) results7 (rvs_cons (rv_tmp z) rvs_nil) ?_
 exact ⟨_, z, hI0, hst.keep0⟩
}
 {
 replace hm := bif_f hc102 hm
 refine wp_iff (cvb hc102) ?_
 refine wp_skip (tn (wp_seq (wrl ?_)))
 refine wv (v89) z z z ?_
 replace hst := objO_some hst
 obtain ⟨t103, ht104, hm⟩ := bind_some hm
 refine wc call14 [v89, U6 (1:Int), U6 (2:Int)] z z z ?_
 refine (session_Table_Get_ref hst.to1 ht104).mono ?_
 rintro _ w105 ⟨I106, v108, v111, rfl, hI107, f110, f113, hst⟩
 refine ⟨_, z, ?_⟩
 replace hst := hst.of1
 replace f93 := f93.mono (ro_le hI107)
 replace f94 := f94.mono (ro_le hI107)
 replace hI0 := hI0.trans hI107
 replace hst := objO_get hst
 refine wv (.tuple #[.agg #[I6 t103.1.E, U6 t103.1.Epoch, U6 t103.1.Index, v108, v111], I6 t103.2]) z z z (wv (.agg #[I6 t103.1.E, U6 t103.1.Epoch, U6 t103.1.Index, v108, v111]) z z z (wv (.int .i64 t103.2) z z z ?_))
 obtain ⟨b116, w117, ew118, eb119, hst⟩ := hst.box [Zi, Zu, Zu, Zs, Zs] 36
 refine wl_run (v := Pt b116 0) (w' := w117) z z (x_al (by kernel_rfl) ew118 eb119) ?_
 obtain ⟨w121, hr122, hst⟩ := hst.bx [I6 t103.1.E, U6 t103.1.Epoch, U6 t103.1.Index, v108, v111] sizeOf36 z (oC z (oC z (oC z (oC (one_of_sliceV (ro_sliceV f110)) (oC (one_of_sliceV (ro_sliceV f113)) oN))))) (by kernel_rfl)
 refine wl_unit z z (x_unit hr122) ?_
 refine wv (.int .i64 t103.2) z z z (wl_nil (tn (wp_seq (wrl (wv (v89) z z z ?_)))))
 replace hst := hst.pull1
 replace hst := objO_some hst
 obtain ⟨t123, ht124, hm⟩ := bind_some hm
 refine wc call14 [v89, U6 (1:Int), U6 (1:Int)] z z z ?_
 refine (session_Table_Get_ref hst.to1 ht124).mono ?_
 rintro _ w125 ⟨I126, v128, v131, rfl, hI127, f130, f133, hst⟩
 refine ⟨_, z, ?_⟩
 replace hst := hst.of1
 replace f93 := f93.mono (ro_le hI127)
 replace f94 := f94.mono (ro_le hI127)
 replace f110 := f110.mono (ro_le hI127)
 replace f113 := f113.mono (ro_le hI127)
 replace hI0 := hI0.trans hI127
 replace hst := objO_get hst
 refine wv (.tuple #[.agg #[I6 t123.1.E, U6 t123.1.Epoch, U6 t123.1.Index, v128, v131], I6 t123.2]) z z z (wv (.agg #[I6 t123.1.E, U6 t123.1.Epoch, U6 t123.1.Index, v128, v131]) z z z (wv (.int .i64 t123.2) z z z ?_))
 obtain ⟨b136, w137, ew138, eb139, hst⟩ := hst.box [Zi, Zu, Zu, Zs, Zs] 36
 refine wl_run (v := Pt b136 0) (w' := w137) z z (x_al (by kernel_rfl) ew138 eb139) ?_
 obtain ⟨w141, hr142, hst⟩ := hst.bx [I6 t123.1.E, U6 t123.1.Epoch, U6 t123.1.Index, v128, v131] sizeOf36 z (oC z (oC z (oC z (oC (one_of_sliceV (ro_sliceV f130)) (oC (one_of_sliceV (ro_sliceV f133)) oN))))) (by kernel_rfl)
 refine wl_unit z z (x_unit hr142) ?_
 refine wv (.int .i64 t123.2) z z z (wl_nil (tn (wp_seq (wrl (wv (v89) z z z ?_)))))
 replace hst := hst.pull1
 replace hst := objO_some hst
 obtain ⟨t143, ht144, hm⟩ := bind_some hm
 refine wc call14 [v89, U6 (1:Int), U6 (3:Int)] z z z ?_
 refine (session_Table_Get_ref hst.to1 ht144).mono ?_
 rintro _ w145 ⟨I146, v148, v151, rfl, hI147, f150, f153, hst⟩
 refine ⟨_, z, ?_⟩
 replace hst := hst.of1
 replace f93 := f93.mono (ro_le hI147)
 replace f94 := f94.mono (ro_le hI147)
 replace f110 := f110.mono (ro_le hI147)
 replace f113 := f113.mono (ro_le hI147)
 replace f130 := f130.mono (ro_le hI147)
 replace f133 := f133.mono (ro_le hI147)
 replace hI0 := hI0.trans hI147
 replace hst := objO_get hst
 refine wv (.tuple #[.agg #[I6 t143.1.E, U6 t143.1.Epoch, U6 t143.1.Index, v148, v151], I6 t143.2]) z z z (wv (.agg #[I6 t143.1.E, U6 t143.1.Epoch, U6 t143.1.Index, v148, v151]) z z z (wv (.int .i64 t143.2) z z z ?_))
 obtain ⟨b156, w157, ew158, eb159, hst⟩ := hst.box [Zi, Zu, Zu, Zs, Zs] 36
 refine wl_run (v := Pt b156 0) (w' := w157) z z (x_al (by kernel_rfl) ew158 eb159) ?_
 obtain ⟨w161, hr162, hst⟩ := hst.bx [I6 t143.1.E, U6 t143.1.Epoch, U6 t143.1.Index, v148, v151] sizeOf36 z (oC z (oC z (oC z (oC (one_of_sliceV (ro_sliceV f150)) (oC (one_of_sliceV (ro_sliceV f153)) oN))))) (by kernel_rfl)
 refine wl_unit z z (x_unit hr162) ?_
 refine wv (.int .i64 t143.2) z z z (wl_nil (tn (wp_seq (wrl (wv (.int .i64 t103.2) z z z (wv (.bool (t103.2 == (0:Int))) z z z (wv (.bool (t103.2 == (0:Int))) z z z ?_)))))))
 refine bsplit (t103.2 == (0:Int)) (fun hc163 => ?_) (fun hc163 => ?_)
 {
 replace hm := bif_t hc163 hm
 refine wv (Pt b116 1) ((wanted_eq z z z (cvb hc163)).trans z) z (x_field z underlying36 z sizeOf30 z) (wv (.int .u64 t103.1.Epoch) ((wanted_eq z z z (cvb hc163)).trans z) z (x_load z isAgg30 (hst.bc3 z)) (wv (.bool (t103.1.Epoch == (9:Int))) ((wanted_eq z z z (cvb hc163)).trans z) z z (wv (.bool (t103.1.Epoch == (9:Int))) z z (x_pick_t hc163 z z) (wv (.bool (t103.1.Epoch == (9:Int))) z z z ?_))))
 refine bsplit (t103.1.Epoch == (9:Int)) (fun hc164 => ?_) (fun hc164 => ?_)
 {
 replace hm := bif_t hc164 hm
 refine wv (.int .i64 t123.2) ((wanted_eq z z z (cvb hc164)).trans z) z z (wv (.bool (t123.2 == (10:Int))) ((wanted_eq z z z (cvb hc164)).trans z) z z (wv (.bool (t123.2 == (10:Int))) z z (x_pick_t hc164 z z) (wv (.bool (t123.2 == (10:Int))) z z z ?_)))
 refine bsplit (t123.2 == (10:Int)) (fun hc165 => ?_) (fun hc165 => ?_)
 {
 replace hm := bif_t hc165 hm
 refine wv (.int .i64 t143.2) ((wanted_eq z z z (cvb hc165)).trans z) z z (wv (.bool (t143.2 == (2:Int))) ((wanted_eq z z z (cvb hc165)).trans z) z z (wv (.bool (t143.2 == (2:Int))) z z (x_pick_t hc165 z z) (wv (.bool (t143.2 == (2:Int))) z z z (wl_nil (tn (wp_ret ?_))))))
 obtain rfl := some_inj hm
 refine post_ret (vs := [.bool (t143.2 == (2:Int))]) results7 (rvs_cons (rv_tmp z) rvs_nil) ?_
 exact ⟨_, z, hI0, hst.keep0⟩
}
 {
 replace hm := bif_f hc165 hm
 refine wo hc165 z z z z z z (wo hc165 z z z z z z (wv (.bool false) z z (x_pick_f hc165 z z) (wv (.bool false) z z z (wl_nil (tn (wp_ret ?_))))))
 obtain rfl := some_inj hm
 refine post_ret (vs := [.bool false]) results7 (rvs_cons (rv_tmp z) rvs_nil) ?_
 exact ⟨_, z, hI0, hst.keep0⟩
}
}
 {
 replace hm := bif_f hc164 hm
 refine wo hc164 z z z z z z (wo hc164 z z z z z z (wv (.bool false) z z (x_pick_f hc164 z z) (wv (.bool false) z z z (wz z z z z z z (wz z z z z z z (wv (.bool false) z z (x_pick_f z z z) (wv (.bool false) z z z (wl_nil (tn (wp_ret ?_))))))))))
 obtain rfl := some_inj hm
 refine post_ret (vs := [.bool false]) results7 (rvs_cons (rv_tmp z) rvs_nil) ?_
 exact ⟨_, z, hI0, hst.keep0⟩
}
}
 {
 replace hm := bif_f hc163 hm
 refine wo hc163 z z z z z z (wo hc163 z z z z z z (wo hc163 z z z z z z (wv (.bool false) z z (x_pick_f hc163 z z) (wv (.bool false) z z z (wz z z z z z z (wz z z z z z z (wv (.bool false) z z (x_pick_f z z z) (wv (.bool false) z z z (wz z z z z z z (wz z z z z z z (wv (.bool false) z z (x_pick_f z z z) (wv (.bool false) z z z ?_))))))))))))
 refine wl_nil (tn (wp_ret ?_))
 obtain rfl := some_inj hm
 refine post_ret (vs := [.bool false]) results7 (rvs_cons (rv_tmp z) rvs_nil) ?_
 exact ⟨_, z, hI0, hst.keep0⟩
}
}
}

theorem ref12_Tape_Next_ref {w0 w : World} {I : HL} {R : SP} {a0 : ref12_Tape} {p0 : Value} {a1 : Int}  (hst : St w0 w I [at_ref12_Tape p0 a0] R) {r : (Int × ref12_Tape)} (hm : ref12_Tape_Next a0 a1 = some r) :
  Calls prog 9 #[p0, I6 a1] w fun e w' => e = .returned (.int .i64 r.1) ∧ St w0 w' I [at_ref12_Tape p0 r.2] R := by {
 unfold ref12_Tape_Next at hm
 refine calls_start (args := [p0, I6 a1]) func9 z ntmps9 (Nat.le_of_ble_eq_true z) ?_
 refine wp_seq (wrl (wv (.int .i64 (0:Int)) z z z (wl_nil (tn (wp_seq (wp_seq ?_))))))
 obtain ⟨b49, v50, ⟨rfl, f52⟩, hst'⟩ := at_ref12_Tape_open hst
 clear hst
 have hst := hst'
 clear hst'
 refine wq_regionS hst Try.mixed (by kernel_rfl) ?_
 refine wq_run (v := Pt b49 0) z z (fun w hst => z) ?_
 refine wq_run (v := Pt b49 0) z z (fun w hst => z) ?_
 refine wq_run (v := Pt b49 1) z z (fun w hst => x_field z underlying26 z sizeOf3 z) ?_
 refine wq_run (v := .int .i64 a0.I) z z (fun w hst => x_load z isAgg3 (hst.bc0 z)) ?_
 refine wq_run (v := Pt b49 0) z z (fun w hst => z) ?_
 refine wq_run (v := Pt b49 0) z z (fun w hst => z) ?_
 refine wq_run (v := Pt b49 0) z z (fun w hst => x_field z underlying26 z sizeOf22 z) ?_
 refine wq_run (v := v50) z z (fun w hst => x_load z isAgg22 (hst.bc0 z)) ?_
 refine wq_run (v := .int .i64 ((a0.L).length : Int)) z z (fun w hst => x_len z underlying22 (ro_sliceV f52)) ?_
 refine wq_run (v := .bool (decide (a0.I ≥ ((a0.L).length : Int)))) z z (fun w hst => z) ?_
 refine wq_nil ?_
 intro w hst
 refine tn ?_
 refine bsplit (decide (a0.I ≥ ((a0.L).length : Int))) (fun hc53 => ?_) (fun hc53 => ?_)
 {
 replace hm := bif_t hc53 hm
 refine wp_ift (cvb hc53) ?_
 refine wp_seq (wrl (wv (.int .i64 (0:Int)) z z z (wl_nil (tn (wp_ret (then_r ?_))))))
 replace hst := at_ref12_Tape_close (pv := Pt b49 0) (x := a0) hst ⟨z, f52⟩
 obtain rfl := some_inj hm
 refine post_ret (vs := [Zi]) results9 (rvs_cons (rv_tmp z) rvs_nil) ?_
 exact ⟨z, hst.keep1⟩
}
 {
 replace hm := bif_f hc53 hm
 refine wp_iff (cvb hc53) ?_
 refine wp_skip (tn (wp_seq (wrl ?_)))
 refine wv (Pt b49 0) z z z (wv (Pt b49 0) z z z (wv (Pt b49 1) z z (x_field z underlying26 z sizeOf3 z) (wv (.int .i64 a0.I) z z (x_load z isAgg3 (hst.bc0 z)) (wv (.int .i64 (i64.wrap (a0.I + (1:Int)))) z z z (wv (Pt b49 0) z z z (wv (Pt b49 1) z z (x_field z underlying26 z sizeOf3 z) ?_))))))
 obtain ⟨w54, hr55, hst⟩ := hst.by_ [v50, I6 (i64.wrap (a0.I + (1:Int)))] 1 (.int .i64 (i64.wrap (a0.I + (1:Int)))) sizeOf3 z (oC z oN) (by kernel_rfl)
 refine wl_unit z z (x_unit hr55) ?_
 refine wl_nil (tn (wp_seq ?_))
 refine wq_regionS hst Try.mixed (by kernel_rfl) ?_
 refine wq_run (v := Pt b49 0) z z (fun w hst => z) ?_
 refine wq_run (v := Pt b49 0) z z (fun w hst => z) ?_
 refine wq_run (v := Pt b49 0) z z (fun w hst => x_field z underlying26 z sizeOf22 z) ?_
 refine wq_run (v := v50) z z (fun w hst => x_load z isAgg22 (hst.bc0 z)) ?_
 refine wq_run (v := Pt b49 0) z z (fun w hst => z) ?_
 refine wq_run (v := Pt b49 0) z z (fun w hst => z) ?_
 refine wq_run (v := Pt b49 1) z z (fun w hst => x_field z underlying26 z sizeOf3 z) ?_
 refine wq_run (v := .int .i64 (i64.wrap (a0.I + (1:Int)))) z z (fun w hst => x_load z isAgg3 (hst.bc0 z)) ?_
 refine wq_run (v := .int .i64 (i64.wrap ((i64.wrap (a0.I + (1:Int))) - (1:Int)))) z z (fun w hst => z) ?_
 obtain ⟨x56, hx57, hm⟩ := bind_some hm
 obtain ⟨h58, h59, hi60⟩ := geto_some hx57
 refine wq_run (v := .pointer (some (eAddr v50 ((i64.wrap ((i64.wrap (a0.I + (1:Int))) - (1:Int))).toNat * 1 + 0)))) z z (fun w hst => x_index z z underlying22 sizeOf5 (ro_sliceV f52) h58 h59) ?_
 refine wq_run (v := .int .u8 x56) z z (fun w hst => x_load z isAgg5 (ro_load f52 hst hi60 (by rintro _ rfl; rfl))) ?_
 refine wq_run (v := .int .i64 (i64.wrap x56)) z z (fun w hst => by kernel_rfl) ?_
 refine wq_run (v := .int .i64 a1) z z (fun w hst => z) ?_
 obtain ⟨hg61, hm⟩ := gd_some hm
 refine wq_run (v := .int .i64 (Int.tmod (i64.wrap x56) a1)) z z (fun w hst => x_rem (not_t hg61) z z) ?_
 refine wq_run (v := .int .i64 (Int.tmod (i64.wrap x56) a1)) z z (fun w hst => z) ?_
 refine wq_nil ?_
 intro w hst
 refine tn (wp_ret ?_)
 replace hst := at_ref12_Tape_close (pv := Pt b49 0) (x := ({ L := a0.L, I := (i64.wrap (a0.I + (1:Int))) } : ref12_Tape)) hst ⟨z, f52⟩
 obtain rfl := some_inj hm
 refine post_ret (vs := [I6 (Int.tmod (i64.wrap x56) a1)]) results9 (rvs_cons (rv_tmp z) rvs_nil) ?_
 exact ⟨z, hst.keep1⟩
}
}

theorem ref12_Tape_Val_ref {w0 w : World} {I : HL} {R : SP} {a0 : ref12_Tape} {p0 : Value}  (hst : St w0 w I [at_ref12_Tape p0 a0] R) {r : ((List Int) × ref12_Tape)} (hm : ref12_Tape_Val a0 = some r) :
  Calls prog 20 #[p0] w fun e w' => ∃ (q0_0 : Value), e = .returned (q0_0) ∧ St w0 w' I [ownS (tyInt .u8) q0_0 r.1, at_ref12_Tape p0 r.2] R := by {
 unfold ref12_Tape_Val at hm
 refine calls_start (args := [p0]) func20 z ntmps20 (Nat.le_of_ble_eq_true z) ?_
 refine wp_seq (wrl (wv ((.slice none 0 0)) z z z (wl_nil (tn (wp_seq (wrl (wv ((.slice none 0 0)) z z z (wl_nil (tn (wp_seq (wrl (wv (p0) z z z ?_))))))))))))
 obtain ⟨t262, ht263, hm⟩ := bind_some hm
 refine wc call9 [p0, I6 (4:Int)] z z z ?_
 refine (ref12_Tape_Next_ref hst.to1 ht263).mono ?_
 rintro _ w264 ⟨rfl, hst⟩
 refine ⟨_, z, ?_⟩
 replace hst := hst.of1
 refine wv (.int .i64 t262.1) z z z (wl_nil (tn (wp_seq (wp_seq (wrl (wv (.int .i64 (0:Int)) z z z (wl_nil (tn (wp_block ?_)))))))))
 replace hst := hst.own_nil (tyInt .u8)
 obtain ⟨n323, hm⟩ := loopO_some hm
 refine wp_loop_n (fun n a w => ∃ (z317 : ref12_Tape) (z318 : (List Int)) (z321 : Int) (v319 : Value) (σ322 : Nat → Value), loopN (ref12_Tape_Val_l0 t262) n (z317, z318, z321) = some r ∧ a = Fr 21 (upd (upd (upd (upd σ322 0 (p0)) 3 (v319)) 4 (.int .i64 t262.1)) 5 (.int .i64 z321)) ∧ St w0 w I [ownS (tyInt .u8) v319 z318, at_ref12_Tape p0 z317] R) n323 ⟨t262.2, [], (0:Int), Zs, _, hm, (fu 0 p0 z (fu 3 (.slice none 0 0) z (fu 4 (.int .i64 t262.1) z (fu 5 (.int .i64 (0:Int)) z z)))), hst⟩ ?_
 rintro n329 _ w324 ⟨z317, z318, z321, v319, σ322, hm, rfl, hst⟩
 obtain ⟨n326, y327, rfl, hm, hx328⟩ := loopN_some hm
 dsimp only [ref12_Tape_Val_l0] at hm
 refine wp_seq (wp_seq (wrl (wv (.int .i64 z321) z z z (wv (.int .i64 t262.1) z z z (wv (.bool (decide (z321 < t262.1))) z z z (wl_nil (tn ?_)))))))
 refine bsplit (decide (z321 < t262.1)) (fun hc330 => ?_) (fun hc330 => ?_)
 {
 replace hm := bif_t hc330 hm
 refine wp_ift (cvb hc330) ?_
 refine wp_skip (tn (wp_seq (wp_block (wrl ?_))))
 refine wv (v319) z z z (wv (p0) z z z ?_)
 replace hst := hst.pull1
 obtain ⟨t331, ht332, hm⟩ := bind_some hm
 refine wc call9 [p0, I6 (26:Int)] z z z ?_
 refine (ref12_Tape_Next_ref hst.to1 ht332).mono ?_
 rintro _ w333 ⟨rfl, hst⟩
 refine ⟨_, z, ?_⟩
 replace hst := hst.of1
 refine wv (.int .i64 (i64.wrap ((97:Int) + t331.1))) z z z (wv (.int .u8 (u8.wrap (i64.wrap ((97:Int) + t331.1)))) z z (by kernel_rfl) ?_)
 obtain ⟨b336, w337, ew338, eb339, hst⟩ := hst.lits (E := (tyInt .u8)) (xs := [(u8.wrap (i64.wrap ((97:Int) + t331.1)))]) [[U1 (u8.wrap (i64.wrap ((97:Int) + t331.1)))]] 5 1 z (Reps.cons z Reps.nil)
 refine wl_run (v := (.slice (some ⟨b336, 0, none⟩) 1 1)) (w' := w337) z z (x_als (by kernel_rfl) ew338 eb339) ?_
 obtain ⟨hg341, hm⟩ := gd_some hm
 replace hst := hst.pull2
 obtain ⟨v342, w343, hr344, hst⟩ := run_append elem_22 underlying22 hst hst.src1 (room_of hg341 z) 22
 refine wl_run (v := v342) (w' := w343) z z (x_append z z hr344) ?_
 refine wv (v342) z z z (wl_nil (blk_n (tn (wrl (wv (.int .i64 z321) z z z (wv (.int .i64 (i64.wrap (z321 + (1:Int)))) z z z (wv (.int .i64 (i64.wrap (z321 + (1:Int)))) z z z (wl_nil (tn ?_)))))))))
 replace hst := hst.pull2.pull1.keep2
 obtain rfl := some_inj hm
 exact ⟨_, Nat.lt_succ_self _, t331.2, (z318 ++ ([(u8.wrap (i64.wrap ((97:Int) + t331.1)))])), (i64.wrap (z321 + (1:Int))), v342, _, hx328, (fu 0 p0 z (fu 3 v342 z (fu 4 (.int .i64 t262.1) z (fu 5 (.int .i64 (i64.wrap (z321 + (1:Int)))) z z)))), hst⟩
}
 {
 replace hm := bif_f hc330 hm
 refine wp_iff (cvb hc330) ?_
 refine wp_exit (then_x (then_x ?_))
 replace hm := inr_up hm hx328
 refine blk_x (tn (wp_seq (wrl ?_)))
 refine wv (v319) z z z (wv (v319) z z z (wl_nil (tn (wp_ret ?_))))
 obtain rfl := some_inj hm
 refine post_ret (vs := [v319]) results20 (rvs_cons (rv_tmp z) rvs_nil) ?_
 replace hst := hst.pull1.pull1
 exact ⟨v319, z, hst.keep2⟩
}
}

theorem ref12_small_ref {w0 w : World} {I : HL} {R : SP} {a0 : Int}  (hst : St w0 w I [] R) {r : (Nat)} (hm : ref12_small a0 = some r) :
  Calls prog 37 #[U1 a0] w fun e w' => e = .returned (.float .f64 r) ∧ St w0 w' I [] R := by {
 unfold ref12_small at hm
 refine calls_start (args := [U1 a0]) func37 z ntmps37 (Nat.le_of_ble_eq_true z) ?_
 refine wp_seq (wrl (wv (.float .f64 (0:Nat)) z z z (wl_nil (tn (wp_seq (wrl ?_))))))
 obtain ⟨b347, w348, ew349, eb350, hst⟩ := hst.lits (E := tyF64) (xs := [(0:Nat), (4607182418800017408:Nat), (13830554455654793216:Nat), (4612811918334230528:Nat), (9094988921128908188:Nat), (18318360957983683996:Nat), (4602678819172646912:Nat), (4613937818241073152:Nat)]) [[Zf], [F6 (4607182418800017408:Nat)], [F6 (13830554455654793216:Nat)], [F6 (4612811918334230528:Nat)], [F6 (9094988921128908188:Nat)], [F6 (18318360957983683996:Nat)], [F6 (4602678819172646912:Nat)], [F6 (4613937818241073152:Nat)]] 61 8 z (Reps.cons z (Reps.cons z (Reps.cons z (Reps.cons z (Reps.cons z (Reps.cons z (Reps.cons z (Reps.cons z Reps.nil))))))))
 refine wl_run (v := (.slice (some ⟨b347, 0, none⟩) 8 8)) (w' := w348) z z (x_als (by kernel_rfl) ew349 eb350) ?_
 refine wv ((.slice (some ⟨b347, 0, none⟩) 8 8)) z z z (wl_nil (tn (wp_seq (wrl (wv ((.slice (some ⟨b347, 0, none⟩) 8 8)) z z z (wv (.int .u8 a0) z z z (wv (.int .u8 (Int.tmod a0 (8:Int))) z z (x_rem (by decide) z z) ?_)))))))
 obtain ⟨x352, hx353, hm⟩ := bind_some hm
 obtain ⟨h354, h355, hi356⟩ := geto_some hx353
 refine wv (.pointer (some (eAddr (.slice (some ⟨b347, 0, none⟩) 8 8) ((Int.tmod a0 (8:Int)).toNat * 1 + 0)))) z z (x_index z z underlying100 sizeOf61 hst.sv0 h354 h355) (wv (.float .f64 x352) z z (x_load z isAgg61 (hst.ol0 hi356 (by rintro _ rfl; rfl))) (wv (.float .f64 x352) z z z (wl_nil (tn (wp_ret ?_)))))
 obtain rfl := some_inj hm
 refine post_ret (vs := [F6 x352]) results37 (rvs_cons (rv_tmp z) rvs_nil) ?_
 exact ⟨z, hst.keep0⟩
}

theorem ref12_Tape_Float_ref {w0 w : World} {I : HL} {R : SP} {a0 : ref12_Tape} {p0 : Value}  (hst : St w0 w I [at_ref12_Tape p0 a0] R) {r : (Nat × ref12_Tape)} (hm : ref12_Tape_Float a0 = some r) :
  Calls prog 21 #[p0] w fun e w' => e = .returned (.float .f64 r.1) ∧ St w0 w' I [at_ref12_Tape p0 r.2] R := by {
 unfold ref12_Tape_Float at hm
 refine calls_start (args := [p0]) func21 z ntmps21 (Nat.le_of_ble_eq_true z) ?_
 refine wp_seq (wrl (wv (.float .f64 (0:Nat)) z z z (wl_nil (tn (wp_seq (wrl (wv (p0) z z z ?_)))))))
 obtain ⟨t343, ht344, hm⟩ := bind_some hm
 refine wc call9 [p0, I6 (8:Int)] z z z ?_
 refine (ref12_Tape_Next_ref hst.to1 ht344).mono ?_
 rintro _ w345 ⟨rfl, hst⟩
 refine ⟨_, z, ?_⟩
 replace hst := hst.of1
 refine wv (.int .u8 (u8.wrap t343.1)) z z (by kernel_rfl) ?_
 obtain ⟨t348, ht349, hm⟩ := bind_some hm
 refine wc call37 [U1 (u8.wrap t343.1)] z z z ?_
 refine (ref12_small_ref hst.to0 ht349).mono ?_
 rintro _ w350 ⟨rfl, hst⟩
 refine ⟨_, z, ?_⟩
 replace hst := hst.of0
 refine wv (.float .f64 t348) z z z (wl_nil (tn (wp_ret ?_)))
 obtain rfl := some_inj hm
 refine post_ret (vs := [F6 t348]) results21 (rvs_cons (rv_tmp z) rvs_nil) ?_
 exact ⟨z, hst.keep1⟩
}

theorem ref13_OfReply_ref {w0 w : World} {I : HL} {R : SP} {a0 : ref12_Tape} {p0 : Value}  (hst : St w0 w I [at_ref12_Tape p0 a0] R) {r : (api_Reply × ref12_Tape)} (hm : ref13_OfReply a0 = some r) :
  Calls prog 10 #[p0] w fun e w' => ∃ (I' : HL) (q0_0 : Value) (q0_1 : Value), e = .returned (.agg #[I6 r.1.E, U6 r.1.Epoch, U6 r.1.Index, q0_0, q0_1]) ∧ I.le I' ∧ St w0 w' I' [ownS ty_api_Got q0_0 r.1.Gots, ownS (tySl ty_api_Pair) q0_1 r.1.Scans, at_ref12_Tape p0 r.2] R := by {
 unfold ref13_OfReply at hm
 refine calls_start (args := [p0]) func10 z ntmps10 (Nat.le_of_ble_eq_true z) ?_
 have hI0 := HL.le.refl I
 refine wp_seq (wrl ?_)
 obtain ⟨b987, w988, ew989, eb990, hst⟩ := hst.box [Zi, Zu, Zu, Zs, Zs] 36
 refine wl_run (v := Pt b987 0) (w' := w988) z z (x_al (by kernel_rfl) ew989 eb990) ?_
 refine wl_nil (tn (wp_seq (wrl ?_)))
 obtain ⟨b992, w993, ew994, eb995, hst⟩ := hst.lits (E := (tyInt .i64)) (xs := [(0:Int), (0:Int), (0:Int), (8:Int), (9:Int), (3:Int)]) [[Zi], [Zi], [Zi], [I6 (8:Int)], [I6 (9:Int)], [I6 (3:Int)]] 32 6 z (Reps.cons z (Reps.cons z (Reps.cons z (Reps.cons z (Reps.cons z (Reps.cons z Reps.nil))))))
 refine wl_run (v := (.slice (some ⟨b992, 0, none⟩) 6 6)) (w' := w993) z z (x_als (by kernel_rfl) ew994 eb995) ?_
 refine wv ((.slice (some ⟨b992, 0, none⟩) 6 6)) z z z (wl_nil (tn (wp_seq ?_)))
 obtain ⟨y1104, hm, hx1105⟩ := bind_some hm
 refine wp_mid (fun a w => ∃ (z1096 : ref12_Tape) (z1099 : Int) (z1100 : Int) (z1101 : Int) (b1098 : Nat) (σ1102 : Nat → Value), (ref13_OfReply_j0) (z1096, z1099, z1100, z1101) = some r ∧ a = Fr 72 (upd (upd (upd σ1102 0 (p0)) 2 (Pt b987 0)) 4 (Pt b1098 0)) ∧ St w0 w I [at_ref12_Tape p0 z1096, cells b987 [Zi, Zu, Zu, Zs, Zs], cells b1098 [I6 z1099, U6 z1100, U6 z1101, Zs, Zs]] R) ?_ ?_
 {
 refine wp_region_St hst 14 [0, 1, 2, 3, 4, 5, 6, 7, 8, 9, 10, 11, 12, 13] [0, 0, 2, 7, 15, 0, 38, 102, 0, 358, 870, 2047, 0, 8191] [] z (by kernel_rfl) (by kernel_rfl) Try.mixed (by kernel_rfl) ?_
 refine wsr ((.slice (some ⟨b992, 0, none⟩) 6 6)) 0 z z z (by kernel_rfl) (fun w hst => z) (wsr (p0) 1 z z z (by kernel_rfl) (fun w hst => z) (wsr (p0) 5 z z z (by kernel_rfl) (fun w hst => z) (wsr (p0) 8 z z z (by kernel_rfl) (fun w hst => z) ?_)))
 refine ws_e2 2 12 (by kernel_rfl) ?_ ?_
 {
 refine nxe [3, 4, 6, 7, 9, 10, 11, 12, 13] (by kernel_rfl) z z ?_
 clear hst
 intro w hst
 replace hst := hst.pull2
 obtain ⟨t997, ht998, hm⟩ := bind_some hm
 refine wec call9 [p0, I6 (6:Int)] z z ?_
 refine (ref12_Tape_Next_ref hst.to1 ht998).mono ?_
 rintro _ w999 ⟨rfl, hst⟩
 refine ⟨_, z, ?_⟩
 replace hst := hst.of1
 refine ws_next (pend' := [(8, p0), (5, p0), (0, (.slice (some ⟨b992, 0, none⟩) 6 6))]) hst (by kernel_rfl) (pkr z z (fun w hst => z) (pkr z z (fun w hst => z) (pkr z z (fun w hst => z) pk_nil))) ?_
 obtain ⟨x1002, hx1003, hm⟩ := bind_some hm
 obtain ⟨h1004, h1005, hi1006⟩ := geto_some hx1003
 refine wsr (.pointer (some (eAddr (.slice (some ⟨b992, 0, none⟩) 6 6) (t997.1.toNat * 1 + 0)))) 3 z z z (by kernel_rfl) (fun w hst => x_index z z underlying57 sizeOf32 hst.sv1 h1004 h1005) (wsr (.int .i64 x1002) 4 z z z (by kernel_rfl) (fun w hst => x_load z isAgg32 (hst.ol1 hi1006 (by rintro _ rfl; rfl))) ?_)
 refine ws_e2 6 12 (by kernel_rfl) ?_ ?_
 {
 refine nxe [7, 9, 10, 11, 12, 13] (by kernel_rfl) z z ?_
 clear hst
 intro w hst
 obtain ⟨t1007, ht1008, hm⟩ := bind_some hm
 refine wec call9 [p0, I6 (4:Int)] z z ?_
 refine (ref12_Tape_Next_ref hst.to1 ht1008).mono ?_
 rintro _ w1009 ⟨rfl, hst⟩
 refine ⟨_, z, ?_⟩
 replace hst := hst.of1
 refine ws_next (pend' := [(4, I6 x1002), (3, .pointer (some (eAddr (.slice (some ⟨b992, 0, none⟩) 6 6) (t997.1.toNat * 1 + 0)))), (8, p0), (0, (.slice (some ⟨b992, 0, none⟩) 6 6))]) hst (by kernel_rfl) (pkr z z (fun w hst => x_load z isAgg32 (hst.ol1 hi1006 (by rintro _ rfl; rfl))) (pkr z z (fun w hst => x_index z z underlying57 sizeOf32 hst.sv1 h1004 h1005) (pkr z z (fun w hst => z) (pkr z z (fun w hst => z) pk_nil)))) ?_
 refine wsr (.int .u64 (u64.wrap t1007.1)) 7 z z z (by kernel_rfl) (fun w hst => by kernel_rfl) ?_
 refine ws_e2 9 12 (by kernel_rfl) ?_ ?_
 {
 refine nxe [10, 11, 12, 13] (by kernel_rfl) z z ?_
 clear hst
 intro w hst
 obtain ⟨t1012, ht1013, hm⟩ := bind_some hm
 refine wec call9 [p0, I6 (9:Int)] z z ?_
 refine (ref12_Tape_Next_ref hst.to1 ht1013).mono ?_
 rintro _ w1014 ⟨rfl, hst⟩
 refine ⟨_, z, ?_⟩
 replace hst := hst.of1
 refine ws_next (pend' := [(7, U6 (u64.wrap t1007.1)), (4, I6 x1002), (3, .pointer (some (eAddr (.slice (some ⟨b992, 0, none⟩) 6 6) (t997.1.toNat * 1 + 0)))), (0, (.slice (some ⟨b992, 0, none⟩) 6 6))]) hst (by kernel_rfl) (pkr z z (fun w hst => by kernel_rfl) (pkr z z (fun w hst => x_load z isAgg32 (hst.ol1 hi1006 (by rintro _ rfl; rfl))) (pkr z z (fun w hst => x_index z z underlying57 sizeOf32 hst.sv1 h1004 h1005) (pkr z z (fun w hst => z) pk_nil)))) ?_
 refine wsr (.int .u64 (u64.wrap t1012.1)) 10 z z z (by kernel_rfl) (fun w hst => by kernel_rfl) (wsr (.agg #[I6 x1002, U6 (u64.wrap t1007.1), U6 (u64.wrap t1012.1), Zs, Zs]) 11 z z z (by kernel_rfl) (fun w hst => by kernel_rfl) ?_)
 refine ws_e1 12 (by kernel_rfl) ?_
 refine nxe [13] (by kernel_rfl) z z ?_
 clear hst
 intro w hst
 obtain ⟨b1021, w1022, ew1023, eb1024, hst⟩ := hst.box [Zi, Zu, Zu, Zs, Zs] 36
 refine we_run (v := Pt b1021 0) (w' := w1022) z (x_al (by kernel_rfl) ew1023 eb1024) ?_
 refine ws_next (pend' := [(11, .agg #[I6 x1002, U6 (u64.wrap t1007.1), U6 (u64.wrap t1012.1), Zs, Zs]), (10, U6 (u64.wrap t1012.1)), (7, U6 (u64.wrap t1007.1)), (4, I6 x1002), (3, .pointer (some (eAddr (.slice (some ⟨b992, 0, none⟩) 6 6) (t997.1.toNat * 1 + 0)))), (0, (.slice (some ⟨b992, 0, none⟩) 6 6))]) hst (by kernel_rfl) (pkr z z (fun w hst => by kernel_rfl) (pkr z z (fun w hst => by kernel_rfl) (pkr z z (fun w hst => by kernel_rfl) (pkr z z (fun w hst => x_load z isAgg32 (hst.ol2 hi1006 (by rintro _ rfl; rfl))) (pkr z z (fun w hst => x_index z z underlying57 sizeOf32 hst.sv2 h1004 h1005) (pkr z z (fun w hst => z) pk_nil)))))) ?_
 refine ws_e1 13 (by kernel_rfl) ?_
 refine nxe [] (by kernel_rfl) z z ?_
 clear hst
 intro w hst
 obtain ⟨w1026, hr1027, hst⟩ := hst.bx [I6 x1002, U6 (u64.wrap t1007.1), U6 (u64.wrap t1012.1), Zs, Zs] sizeOf36 z (oC z (oC z (oC z (oC z (oC z oN))))) (by kernel_rfl)
 refine we_unit z (x_unit hr1027) ?_
 refine ws_next (pend' := []) hst (by kernel_rfl) pk_nil ?_
 refine ws_nil ?_
 intro w hst
 refine ⟨z, ?_⟩
 replace hst := hst.pull3.pull2.keep3
 obtain rfl := some_inj hm
 exact ⟨t1012.2, x1002, (u64.wrap t1007.1), (u64.wrap t1012.1), b1021, _, hx1105, (fu 0 p0 z (fu 2 (Pt b987 0) z (fu 4 (Pt b1021 0) z z))), hst⟩
}
 {
 refine nxe [9, 10, 11, 13] (by kernel_rfl) z z ?_
 clear hst
 intro w hst
 obtain ⟨b1030, w1031, ew1032, eb1033, hst⟩ := hst.box [Zi, Zu, Zu, Zs, Zs] 36
 refine we_run (v := Pt b1030 0) (w' := w1031) z (x_al (by kernel_rfl) ew1032 eb1033) ?_
 refine ws_next (pend' := [(7, U6 (u64.wrap t1007.1)), (4, I6 x1002), (3, .pointer (some (eAddr (.slice (some ⟨b992, 0, none⟩) 6 6) (t997.1.toNat * 1 + 0)))), (8, p0), (0, (.slice (some ⟨b992, 0, none⟩) 6 6))]) hst (by kernel_rfl) (pkr z z (fun w hst => by kernel_rfl) (pkr z z (fun w hst => x_load z isAgg32 (hst.ol2 hi1006 (by rintro _ rfl; rfl))) (pkr z z (fun w hst => x_index z z underlying57 sizeOf32 hst.sv2 h1004 h1005) (pkr z z (fun w hst => z) (pkr z z (fun w hst => z) pk_nil))))) ?_
 refine ws_e1 9 (by kernel_rfl) ?_
 refine nxe [10, 11, 13] (by kernel_rfl) z z ?_
 clear hst
 intro w hst
 replace hst := hst.pull1
 obtain ⟨t1035, ht1036, hm⟩ := bind_some hm
 refine wec call9 [p0, I6 (9:Int)] z z ?_
 refine (ref12_Tape_Next_ref hst.to1 ht1036).mono ?_
 rintro _ w1037 ⟨rfl, hst⟩
 refine ⟨_, z, ?_⟩
 replace hst := hst.of1
 refine ws_next (pend' := [(7, U6 (u64.wrap t1007.1)), (4, I6 x1002), (3, .pointer (some (eAddr (.slice (some ⟨b992, 0, none⟩) 6 6) (t997.1.toNat * 1 + 0)))), (0, (.slice (some ⟨b992, 0, none⟩) 6 6))]) hst (by kernel_rfl) (pkr z z (fun w hst => by kernel_rfl) (pkr z z (fun w hst => x_load z isAgg32 (hst.ol2 hi1006 (by rintro _ rfl; rfl))) (pkr z z (fun w hst => x_index z z underlying57 sizeOf32 hst.sv2 h1004 h1005) (pkr z z (fun w hst => z) pk_nil)))) ?_
 refine wsr (.int .u64 (u64.wrap t1035.1)) 10 z z z (by kernel_rfl) (fun w hst => by kernel_rfl) (wsr (.agg #[I6 x1002, U6 (u64.wrap t1007.1), U6 (u64.wrap t1035.1), Zs, Zs]) 11 z z z (by kernel_rfl) (fun w hst => by kernel_rfl) ?_)
 refine ws_e1 13 (by kernel_rfl) ?_
 refine nxe [] (by kernel_rfl) z z ?_
 clear hst
 intro w hst
 replace hst := hst.pull1
 obtain ⟨w1042, hr1043, hst⟩ := hst.bx [I6 x1002, U6 (u64.wrap t1007.1), U6 (u64.wrap t1035.1), Zs, Zs] sizeOf36 z (oC z (oC z (oC z (oC z (oC z oN))))) (by kernel_rfl)
 refine we_unit z (x_unit hr1043) ?_
 refine ws_next (pend' := []) hst (by kernel_rfl) pk_nil ?_
 refine ws_nil ?_
 intro w hst
 refine ⟨z, ?_⟩
 replace hst := hst.pull3.pull2.keep3
 obtain rfl := some_inj hm
 exact ⟨t1035.2, x1002, (u64.wrap t1007.1), (u64.wrap t1035.1), b1030, _, hx1105, (fu 0 p0 z (fu 2 (Pt b987 0) z (fu 4 (Pt b1030 0) z z))), hst⟩
}
}
 {
 refine nxe [6, 7, 9, 10, 11, 13] (by kernel_rfl) z z ?_
 clear hst
 intro w hst
 obtain ⟨b1046, w1047, ew1048, eb1049, hst⟩ := hst.box [Zi, Zu, Zu, Zs, Zs] 36
 refine we_run (v := Pt b1046 0) (w' := w1047) z (x_al (by kernel_rfl) ew1048 eb1049) ?_
 refine ws_next (pend' := [(4, I6 x1002), (3, .pointer (some (eAddr (.slice (some ⟨b992, 0, none⟩) 6 6) (t997.1.toNat * 1 + 0)))), (8, p0), (5, p0), (0, (.slice (some ⟨b992, 0, none⟩) 6 6))]) hst (by kernel_rfl) (pkr z z (fun w hst => x_load z isAgg32 (hst.ol2 hi1006 (by rintro _ rfl; rfl))) (pkr z z (fun w hst => x_index z z underlying57 sizeOf32 hst.sv2 h1004 h1005) (pkr z z (fun w hst => z) (pkr z z (fun w hst => z) (pkr z z (fun w hst => z) pk_nil))))) ?_
 refine ws_e1 6 (by kernel_rfl) ?_
 refine nxe [7, 9, 10, 11, 13] (by kernel_rfl) z z ?_
 clear hst
 intro w hst
 replace hst := hst.pull1
 obtain ⟨t1051, ht1052, hm⟩ := bind_some hm
 refine wec call9 [p0, I6 (4:Int)] z z ?_
 refine (ref12_Tape_Next_ref hst.to1 ht1052).mono ?_
 rintro _ w1053 ⟨rfl, hst⟩
 refine ⟨_, z, ?_⟩
 replace hst := hst.of1
 refine ws_next (pend' := [(4, I6 x1002), (3, .pointer (some (eAddr (.slice (some ⟨b992, 0, none⟩) 6 6) (t997.1.toNat * 1 + 0)))), (8, p0), (0, (.slice (some ⟨b992, 0, none⟩) 6 6))]) hst (by kernel_rfl) (pkr z z (fun w hst => x_load z isAgg32 (hst.ol2 hi1006 (by rintro _ rfl; rfl))) (pkr z z (fun w hst => x_index z z underlying57 sizeOf32 hst.sv2 h1004 h1005) (pkr z z (fun w hst => z) (pkr z z (fun w hst => z) pk_nil)))) ?_
 refine wsr (.int .u64 (u64.wrap t1051.1)) 7 z z z (by kernel_rfl) (fun w hst => by kernel_rfl) ?_
 refine ws_e1 9 (by kernel_rfl) ?_
 refine nxe [10, 11, 13] (by kernel_rfl) z z ?_
 clear hst
 intro w hst
 obtain ⟨t1056, ht1057, hm⟩ := bind_some hm
 refine wec call9 [p0, I6 (9:Int)] z z ?_
 refine (ref12_Tape_Next_ref hst.to1 ht1057).mono ?_
 rintro _ w1058 ⟨rfl, hst⟩
 refine ⟨_, z, ?_⟩
 replace hst := hst.of1
 refine ws_next (pend' := [(7, U6 (u64.wrap t1051.1)), (4, I6 x1002), (3, .pointer (some (eAddr (.slice (some ⟨b992, 0, none⟩) 6 6) (t997.1.toNat * 1 + 0)))), (0, (.slice (some ⟨b992, 0, none⟩) 6 6))]) hst (by kernel_rfl) (pkr z z (fun w hst => by kernel_rfl) (pkr z z (fun w hst => x_load z isAgg32 (hst.ol2 hi1006 (by rintro _ rfl; rfl))) (pkr z z (fun w hst => x_index z z underlying57 sizeOf32 hst.sv2 h1004 h1005) (pkr z z (fun w hst => z) pk_nil)))) ?_
 refine wsr (.int .u64 (u64.wrap t1056.1)) 10 z z z (by kernel_rfl) (fun w hst => by kernel_rfl) (wsr (.agg #[I6 x1002, U6 (u64.wrap t1051.1), U6 (u64.wrap t1056.1), Zs, Zs]) 11 z z z (by kernel_rfl) (fun w hst => by kernel_rfl) ?_)
 refine ws_e1 13 (by kernel_rfl) ?_
 refine nxe [] (by kernel_rfl) z z ?_
 clear hst
 intro w hst
 replace hst := hst.pull1
 obtain ⟨w1063, hr1064, hst⟩ := hst.bx [I6 x1002, U6 (u64.wrap t1051.1), U6 (u64.wrap t1056.1), Zs, Zs] sizeOf36 z (oC z (oC z (oC z (oC z (oC z oN))))) (by kernel_rfl)
 refine we_unit z (x_unit hr1064) ?_
 refine ws_next (pend' := []) hst (by kernel_rfl) pk_nil ?_
 refine ws_nil ?_
 intro w hst
 refine ⟨z, ?_⟩
 replace hst := hst.pull3.pull2.keep3
 obtain rfl := some_inj hm
 exact ⟨t1056.2, x1002, (u64.wrap t1051.1), (u64.wrap t1056.1), b1046, _, hx1105, (fu 0 p0 z (fu 2 (Pt b987 0) z (fu 4 (Pt b1046 0) z z))), hst⟩
}
}
 {
 refine nxe [2, 3, 4, 6, 7, 9, 10, 11, 13] (by kernel_rfl) z z ?_
 clear hst
 intro w hst
 obtain ⟨b1067, w1068, ew1069, eb1070, hst⟩ := hst.box [Zi, Zu, Zu, Zs, Zs] 36
 refine we_run (v := Pt b1067 0) (w' := w1068) z (x_al (by kernel_rfl) ew1069 eb1070) ?_
 refine ws_next (pend' := [(8, p0), (5, p0), (1, p0), (0, (.slice (some ⟨b992, 0, none⟩) 6 6))]) hst (by kernel_rfl) (pkr z z (fun w hst => z) (pkr z z (fun w hst => z) (pkr z z (fun w hst => z) (pkr z z (fun w hst => z) pk_nil)))) ?_
 refine ws_e1 2 (by kernel_rfl) ?_
 refine nxe [3, 4, 6, 7, 9, 10, 11, 13] (by kernel_rfl) z z ?_
 clear hst
 intro w hst
 replace hst := hst.pull3
 obtain ⟨t1072, ht1073, hm⟩ := bind_some hm
 refine wec call9 [p0, I6 (6:Int)] z z ?_
 refine (ref12_Tape_Next_ref hst.to1 ht1073).mono ?_
 rintro _ w1074 ⟨rfl, hst⟩
 refine ⟨_, z, ?_⟩
 replace hst := hst.of1
 refine ws_next (pend' := [(8, p0), (5, p0), (0, (.slice (some ⟨b992, 0, none⟩) 6 6))]) hst (by kernel_rfl) (pkr z z (fun w hst => z) (pkr z z (fun w hst => z) (pkr z z (fun w hst => z) pk_nil))) ?_
 obtain ⟨x1077, hx1078, hm⟩ := bind_some hm
 obtain ⟨h1079, h1080, hi1081⟩ := geto_some hx1078
 refine wsr (.pointer (some (eAddr (.slice (some ⟨b992, 0, none⟩) 6 6) (t1072.1.toNat * 1 + 0)))) 3 z z z (by kernel_rfl) (fun w hst => x_index z z underlying57 sizeOf32 hst.sv2 h1079 h1080) (wsr (.int .i64 x1077) 4 z z z (by kernel_rfl) (fun w hst => x_load z isAgg32 (hst.ol2 hi1081 (by rintro _ rfl; rfl))) ?_)
 refine ws_e1 6 (by kernel_rfl) ?_
 refine nxe [7, 9, 10, 11, 13] (by kernel_rfl) z z ?_
 clear hst
 intro w hst
 obtain ⟨t1082, ht1083, hm⟩ := bind_some hm
 refine wec call9 [p0, I6 (4:Int)] z z ?_
 refine (ref12_Tape_Next_ref hst.to1 ht1083).mono ?_
 rintro _ w1084 ⟨rfl, hst⟩
 refine ⟨_, z, ?_⟩
 replace hst := hst.of1
 refine ws_next (pend' := [(4, I6 x1077), (3, .pointer (some (eAddr (.slice (some ⟨b992, 0, none⟩) 6 6) (t1072.1.toNat * 1 + 0)))), (8, p0), (0, (.slice (some ⟨b992, 0, none⟩) 6 6))]) hst (by kernel_rfl) (pkr z z (fun w hst => x_load z isAgg32 (hst.ol2 hi1081 (by rintro _ rfl; rfl))) (pkr z z (fun w hst => x_index z z underlying57 sizeOf32 hst.sv2 h1079 h1080) (pkr z z (fun w hst => z) (pkr z z (fun w hst => z) pk_nil)))) ?_
 refine wsr (.int .u64 (u64.wrap t1082.1)) 7 z z z (by kernel_rfl) (fun w hst => by kernel_rfl) ?_
 refine ws_e1 9 (by kernel_rfl) ?_
 refine nxe [10, 11, 13] (by kernel_rfl) z z ?_
 clear hst
 intro w hst
 obtain ⟨t1087, ht1088, hm⟩ := bind_some hm
 refine wec call9 [p0, I6 (9:Int)] z z ?_
 refine (ref12_Tape_Next_ref hst.to1 ht1088).mono ?_
 rintro _ w1089 ⟨rfl, hst⟩
 refine ⟨_, z, ?_⟩
 replace hst := hst.of1
 refine ws_next (pend' := [(7, U6 (u64.wrap t1082.1)), (4, I6 x1077), (3, .pointer (some (eAddr (.slice (some ⟨b992, 0, none⟩) 6 6) (t1072.1.toNat * 1 + 0)))), (0, (.slice (some ⟨b992, 0, none⟩) 6 6))]) hst (by kernel_rfl) (pkr z z (fun w hst => by kernel_rfl) (pkr z z (fun w hst => x_load z isAgg32 (hst.ol2 hi1081 (by rintro _ rfl; rfl))) (pkr z z (fun w hst => x_index z z underlying57 sizeOf32 hst.sv2 h1079 h1080) (pkr z z (fun w hst => z) pk_nil)))) ?_
 refine wsr (.int .u64 (u64.wrap t1087.1)) 10 z z z (by kernel_rfl) (fun w hst => by kernel_rfl) (wsr (.agg #[I6 x1077, U6 (u64.wrap t1082.1), U6 (u64.wrap t1087.1), Zs, Zs]) 11 z z z (by kernel_rfl) (fun w hst => by kernel_rfl) ?_)
 refine ws_e1 13 (by kernel_rfl) ?_
 refine nxe [] (by kernel_rfl) z z ?_
 clear hst
 intro w hst
 replace hst := hst.pull1
 obtain ⟨w1094, hr1095, hst⟩ := hst.bx [I6 x1077, U6 (u64.wrap t1082.1), U6 (u64.wrap t1087.1), Zs, Zs] sizeOf36 z (oC z (oC z (oC z (oC z (oC z oN))))) (by kernel_rfl)
 refine we_unit z (x_unit hr1095) ?_
 refine ws_next (pend' := []) hst (by kernel_rfl) pk_nil ?_
 refine ws_nil ?_
 intro w hst
 refine ⟨z, ?_⟩
 replace hst := hst.pull3.pull2.keep3
 obtain rfl := some_inj hm
 exact ⟨t1087.2, x1077, (u64.wrap t1082.1), (u64.wrap t1087.1), b1067, _, hx1105, (fu 0 p0 z (fu 2 (Pt b987 0) z (fu 4 (Pt b1067 0) z z))), hst⟩
}
}
 {
 clear hst
 rintro _ w1106 ⟨z1096, z1099, z1100, z1101, b1098, σ1102, hm, rfl, hst⟩
 dsimp only [ref13_OfReply_j0] at hm
 refine tn (wp_seq (wrl (wv (p0) z z z ?_)))
 obtain ⟨t1107, ht1108, hm⟩ := bind_some hm
 refine wc call9 [p0, I6 (3:Int)] z z z ?_
 refine (ref12_Tape_Next_ref hst.to1 ht1108).mono ?_
 rintro _ w1109 ⟨rfl, hst⟩
 refine ⟨_, z, ?_⟩
 replace hst := hst.of1
 refine wv (.int .i64 t1107.1) z z z (wl_nil (tn ?_))
 obtain ⟨y1254, hm, hx1255⟩ := bind_some hm
 refine wp_cut (fun a w => ∃ (I1251 : HL) (z1247 : ref12_Tape) (z1250 : (List api_Got)) (v1249 : Value) (σ1252 : Nat → Value), (ref13_OfReply_j1 z1099 z1100 z1101) (z1247, z1250) = some r ∧ a = Fr 72 (upd (upd (upd σ1252 0 (p0)) 2 (Pt b987 0)) 4 (Pt b1098 0)) ∧ I.le I1251 ∧ St w0 w I1251 [at_ref12_Tape p0 z1247, cells b987 [Zi, Zu, Zu, Zs, Zs], cells b1098 [I6 z1099, U6 z1100, U6 z1101, v1249, Zs], ownS ty_api_Got v1249 z1250] R) ?_ ?_
 {
 have hL1256 := HL.le.refl I
 refine wp_seq (wrl (wv (.int .i64 (0:Int)) z z z (wl_nil (tn (wp_block ?_)))))
 replace hst := hst.own_nil ty_api_Got
 obtain ⟨n1211, hm⟩ := loopO_some hm
 refine wp_loop_n (fun n a w => ∃ (I1209 : HL) (z1204 : (List api_Got)) (z1207 : ref12_Tape) (z1208 : Int) (v1205 : Value) (σ1210 : Nat → Value), loopN (ref13_OfReply_l2 t1107) n (z1204, z1207, z1208) = some y1254 ∧ a = Fr 72 (upd (upd (upd (upd (upd σ1210 0 (p0)) 2 (Pt b987 0)) 4 (Pt b1098 0)) 5 (.int .i64 t1107.1)) 6 (.int .i64 z1208)) ∧ I.le I1209 ∧ St w0 w I1209 [ownS ty_api_Got v1205 z1204, at_ref12_Tape p0 z1207, cells b987 [Zi, Zu, Zu, Zs, Zs], cells b1098 [I6 z1099, U6 z1100, U6 z1101, v1205, Zs]] R) n1211 ⟨_, [], t1107.2, (0:Int), Zs, _, hm, (fu 0 p0 z (fu 2 (Pt b987 0) z (fu 4 (Pt b1098 0) z (fu 5 (.int .i64 t1107.1) z (fu 6 (.int .i64 (0:Int)) z z))))), (HL.le.refl _), hst⟩ ?_
 rintro n1217 _ w1212 ⟨I1209, z1204, z1207, z1208, v1205, σ1210, hm, rfl, hL1213, hst⟩
 obtain ⟨n1214, y1215, rfl, hm, hx1216⟩ := loopN_some hm
 dsimp only [ref13_OfReply_l2] at hm
 replace hI0 := hI0.trans hL1213
 replace hL1256 := hL1256.trans hL1213
 refine wp_seq (wp_seq (wrl (wv (.int .i64 z1208) z z z (wv (.int .i64 t1107.1) z z z (wv (.bool (decide (z1208 < t1107.1))) z z z (wl_nil (tn ?_)))))))
 refine bsplit (decide (z1208 < t1107.1)) (fun hc1218 => ?_) (fun hc1218 => ?_)
 {
 replace hm := bif_t hc1218 hm
 refine wp_ift (cvb hc1218) ?_
 refine wp_skip (tn (wp_seq (wp_block ?_)))
 refine wp_region_St hst 12 [0, 1, 2, 3, 4, 5, 6, 7, 8, 9, 10, 11] [0, 1, 0, 4, 12, 0, 44, 124, 252, 511, 1023, 2047] [] z (by kernel_rfl) (by kernel_rfl) Try.mixed (by kernel_rfl) ?_
 refine wsr (Pt b1098 3) 0 z z z (by kernel_rfl) (fun w hst => x_field z underlying36 z sizeOf33 z) (wsr (v1205) 1 z z z (by kernel_rfl) (fun w hst => x_load z isAgg33 (hst.bc3 z)) (wsr (p0) 2 z z z (by kernel_rfl) (fun w hst => z) (wsr (p0) 5 z z z (by kernel_rfl) (fun w hst => z) ?_)))
 refine ws_e1 3 (by kernel_rfl) ?_
 refine nxe [4, 6, 7, 8, 9, 10, 11] (by kernel_rfl) z z ?_
 clear hst
 intro w hst
 replace hst := hst.pull1
 obtain ⟨t1219, ht1220, hm⟩ := bind_some hm
 refine wec call9 [p0, I6 (2:Int)] z z ?_
 refine (ref12_Tape_Next_ref hst.to1 ht1220).mono ?_
 rintro _ w1221 ⟨rfl, hst⟩
 refine ⟨_, z, ?_⟩
 replace hst := hst.of1
 refine ws_next (pend' := [(5, p0), (1, v1205), (0, Pt b1098 3)]) hst (by kernel_rfl) (pkr z z (fun w hst => z) (pkr z z (fun w hst => x_load z isAgg33 (hst.bc3 z)) (pkr z z (fun w hst => x_field z underlying36 z sizeOf33 z) pk_nil))) ?_
 refine wsr (.bool (t1219.1 == (0:Int))) 4 z z z (by kernel_rfl) (fun w hst => z) ?_
 refine ws_e1 6 (by kernel_rfl) ?_
 refine nxe [7, 8, 9, 10, 11] (by kernel_rfl) z z ?_
 clear hst
 intro w hst
 obtain ⟨t1224, ht1225, hm⟩ := bind_some hm
 refine wec call20 [p0] z z ?_
 refine (ref12_Tape_Val_ref hst.to1 ht1225).mono ?_
 rintro _ w1226 ⟨v1229, rfl, hst⟩
 refine ⟨_, z, ?_⟩
 replace hst := hst.of2
 refine ws_next (pend' := [(4, .bool (t1219.1 == (0:Int))), (1, v1205), (0, Pt b1098 3)]) hst (by kernel_rfl) (pkr z z (fun w hst => z) (pkr z z (fun w hst => x_load z isAgg33 (hst.bc4 z)) (pkr z z (fun w hst => x_field z underlying36 z sizeOf33 z) pk_nil))) ?_
 refine wsr (.agg #[.bool (t1219.1 == (0:Int)), v1229]) 7 rfl rfl rfl (by kernel_rfl) (fun w hst => by obtain ⟨_, _, hv_, _⟩ := hst.sv0; rw [hv_]; kernel_rfl) ?_
 refine ws_e1 8 (by kernel_rfl) ?_
 refine nxe [9, 10, 11] (by kernel_rfl) z z ?_
 clear hst
 intro w hst
 obtain ⟨I1233, hI1234, f1235, hst⟩ := hst.own_fix
 replace hI0 := hI0.trans hI1234
 replace hL1256 := hL1256.trans hI1234
 replace hL1213 := hL1213.trans hI1234
 obtain ⟨b1236, w1237, ew1238, eb1239, hst⟩ := hst.lits (E := ty_api_Got) (xs := [({ Has := (t1219.1 == (0:Int)), Val := t1224.1 } : api_Got)]) [[.bool (t1219.1 == (0:Int)), v1229]] 59 1 z (Reps.cons ⟨_, z, f1235, one_of_sliceV (ro_sliceV f1235)⟩ Reps.nil)
 refine we_run (v := (.slice (some ⟨b1236, 0, none⟩) 1 1)) (w' := w1237) z (x_als (by kernel_rfl) ew1238 eb1239) ?_
 refine ws_next (pend' := [(1, v1205), (0, Pt b1098 3)]) hst (by kernel_rfl) (pkr z z (fun w hst => x_load z isAgg33 (hst.bc4 z)) (pkr z z (fun w hst => x_field z underlying36 z sizeOf33 z) pk_nil)) ?_
 refine ws_e1 9 (by kernel_rfl) ?_
 refine nxe [10, 11] (by kernel_rfl) z z ?_
 clear hst
 intro w hst
 obtain ⟨hg1241, hm⟩ := gd_some hm
 replace hst := hst.pull2
 obtain ⟨v1242, w1243, hr1244, hst⟩ := run_append elem_33 underlying33 hst hst.src1 (room_of hg1241 z) 33
 refine we_run (v := v1242) (w' := w1243) z (x_append z z hr1244) ?_
 refine ws_next (pend' := []) hst (by kernel_rfl) pk_nil ?_
 refine wsr (Pt b1098 3) 10 z z z (by kernel_rfl) (fun w hst => x_field z underlying36 z sizeOf33 z) ?_
 refine ws_e1 11 (by kernel_rfl) ?_
 refine nxe [] (by kernel_rfl) z z ?_
 clear hst
 intro w hst
 replace hst := hst.pull4
 obtain ⟨w1245, hr1246, hst⟩ := hst.boxStore1 (P := prog) (t := 33) (cs' := [I6 z1099, U6 z1100, U6 z1101, v1242, Zs]) 3 v1242 (one_of_sliceV hst.sv1) sizeOf33 z z
 refine we_unit z (x_unit hr1246) ?_
 refine ws_next (pend' := []) hst (by kernel_rfl) pk_nil ?_
 refine ws_nil ?_
 intro w hst
 refine blk_n (tn (wrl ?_))
 refine wv (.int .i64 z1208) z z z (wv (.int .i64 (i64.wrap (z1208 + (1:Int)))) z z z (wv (.int .i64 (i64.wrap (z1208 + (1:Int)))) z z z (wl_nil (tn ?_))))
 replace hst := hst.pull4.pull4.pull3.keep4
 obtain rfl := some_inj hm
 exact ⟨_, Nat.lt_succ_self _, _, (z1204 ++ ([({ Has := (t1219.1 == (0:Int)), Val := t1224.1 } : api_Got)])), t1224.2, (i64.wrap (z1208 + (1:Int))), v1242, _, hx1216, (fu 0 p0 z (fu 2 (Pt b987 0) z (fu 4 (Pt b1098 0) z (fu 5 (.int .i64 t1107.1) z (fu 6 (.int .i64 (i64.wrap (z1208 + (1:Int)))) z z))))), hL1213, hst⟩
}
 {
 replace hm := bif_f hc1218 hm
 refine wp_iff (cvb hc1218) ?_
 refine wp_exit (then_x (then_x ?_))
 replace hm := inr_up hm hx1216
 refine blk_x (tn ?_)
 replace hst := hst.pull3.pull3.pull3.keep4
 obtain rfl := some_inj hm
 exact ⟨_, z1207, z1204, v1205, _, hx1255, (fu 0 p0 z (fu 2 (Pt b987 0) z (fu 4 (Pt b1098 0) z z))), hL1256, hst⟩
}
}
 {
 clear hst
 rintro _ w1257 ⟨I1251, z1247, z1250, v1249, σ1252, hm, rfl, hL1253, hst⟩
 dsimp only [ref13_OfReply_j1] at hm
 replace hI0 := hI0.trans hL1253
 refine wp_seq (wrl (wv (p0) z z z ?_))
 obtain ⟨t1258, ht1259, hm⟩ := bind_some hm
 refine wc call9 [p0, I6 (3:Int)] z z z ?_
 refine (ref12_Tape_Next_ref hst.to1 ht1259).mono ?_
 rintro _ w1260 ⟨rfl, hst⟩
 refine ⟨_, z, ?_⟩
 replace hst := hst.of1
 refine wv (.int .i64 (i64.wrap (Int.tdiv t1258.1 (2:Int)))) z z (x_quo (by decide) z z) (wv (.int .i64 (i64.wrap (Int.tdiv t1258.1 (2:Int)))) z z z (wl_nil (tn (wp_seq (wp_seq (wrl (wv (.int .i64 (0:Int)) z z z (wl_nil (tn (wp_block ?_))))))))))
 replace hst := hst.own_nil (tySl ty_api_Pair)
 obtain ⟨n1755, hm⟩ := loopO_some hm
 refine wp_loop_n (fun n a w => ∃ (I1753 : HL) (z1748 : (List (List api_Pair))) (z1751 : ref12_Tape) (z1752 : Int) (v1749 : Value) (σ1754 : Nat → Value), loopN (ref13_OfReply_l3 t1258 z1099 z1100 z1101 z1250) n (z1748, z1751, z1752) = some r ∧ a = Fr 72 (upd (upd (upd (upd (upd σ1754 0 (p0)) 2 (Pt b987 0)) 4 (Pt b1098 0)) 5 (.int .i64 (i64.wrap (Int.tdiv t1258.1 (2:Int))))) 7 (.int .i64 z1752)) ∧ I1251.le I1753 ∧ St w0 w I1753 [ownS (tySl ty_api_Pair) v1749 z1748, at_ref12_Tape p0 z1751, cells b987 [Zi, Zu, Zu, Zs, Zs], cells b1098 [I6 z1099, U6 z1100, U6 z1101, v1249, v1749], ownS ty_api_Got v1249 z1250] R) n1755 ⟨_, [], t1258.2, (0:Int), Zs, _, hm, (fu 0 p0 z (fu 2 (Pt b987 0) z (fu 4 (Pt b1098 0) z (fu 5 (.int .i64 (i64.wrap (Int.tdiv t1258.1 (2:Int)))) z (fu 7 (.int .i64 (0:Int)) z z))))), (HL.le.refl _), hst⟩ ?_
 rintro n1761 _ w1756 ⟨I1753, z1748, z1751, z1752, v1749, σ1754, hm, rfl, hL1757, hst⟩
 obtain ⟨n1758, y1759, rfl, hm, hx1760⟩ := loopN_some hm
 dsimp only [ref13_OfReply_l3] at hm
 replace hI0 := hI0.trans hL1757
 refine wp_seq (wp_seq (wrl (wv (.int .i64 z1752) z z z (wv (.int .i64 (i64.wrap (Int.tdiv t1258.1 (2:Int)))) z z z (wv (.bool (decide (z1752 < (i64.wrap (Int.tdiv t1258.1 (2:Int)))))) z z z (wl_nil (tn ?_)))))))
 refine bsplit (decide (z1752 < (i64.wrap (Int.tdiv t1258.1 (2:Int))))) (fun hc1762 => ?_) (fun hc1762 => ?_)
 {
 replace hm := bif_t hc1762 hm
 refine wp_ift (cvb hc1762) ?_
 refine wp_skip (tn (wp_seq (wp_block (wp_seq (wrl ?_)))))
 refine wv ((.slice none 0 0)) z z z (wl_nil (tn (wp_seq (wrl (wv (p0) z z z ?_)))))
 replace hst := hst.pull1
 obtain ⟨t1764, ht1765, hm⟩ := bind_some hm
 refine wc call9 [p0, I6 (3:Int)] z z z ?_
 refine (ref12_Tape_Next_ref hst.to1 ht1765).mono ?_
 rintro _ w1766 ⟨rfl, hst⟩
 refine ⟨_, z, ?_⟩
 replace hst := hst.of1
 refine wv (.int .i64 t1764.1) z z z (wl_nil (tn ?_))
 obtain ⟨y1903, hm, hx1904⟩ := bind_some hm
 refine wp_cut (fun a w => ∃ (I1900 : HL) (z1896 : ref12_Tape) (z1899 : (List api_Pair)) (v1898 : Value) (σ1901 : Nat → Value), (ref13_OfReply_j4 z1748 z1752) (z1896, z1899) = some y1759 ∧ a = Fr 72 (upd (upd (upd (upd (upd (upd σ1901 0 (p0)) 2 (Pt b987 0)) 4 (Pt b1098 0)) 5 (.int .i64 (i64.wrap (Int.tdiv t1258.1 (2:Int))))) 7 (.int .i64 z1752)) 8 (v1898)) ∧ I1753.le I1900 ∧ St w0 w I1900 [at_ref12_Tape p0 z1896, cells b987 [Zi, Zu, Zu, Zs, Zs], cells b1098 [I6 z1099, U6 z1100, U6 z1101, v1249, v1749], ownS ty_api_Got v1249 z1250, ownS (tySl ty_api_Pair) v1749 z1748, ownS ty_api_Pair v1898 z1899] R) ?_ ?_
 {
 have hL1905 := HL.le.refl I1753
 refine wp_seq (wrl (wv (.int .i64 (0:Int)) z z z (wl_nil (tn (wp_block ?_)))))
 replace hst := hst.own_nil ty_api_Pair
 obtain ⟨n1862, hm⟩ := loopO_some hm
 refine wp_loop_n (fun n a w => ∃ (I1860 : HL) (z1855 : ref12_Tape) (z1856 : Int) (z1857 : (List api_Pair)) (v1858 : Value) (σ1861 : Nat → Value), loopN (ref13_OfReply_l5 t1764) n (z1855, z1856, z1857) = some y1903 ∧ a = Fr 72 (upd (upd (upd (upd (upd (upd (upd (upd σ1861 0 (p0)) 2 (Pt b987 0)) 4 (Pt b1098 0)) 5 (.int .i64 (i64.wrap (Int.tdiv t1258.1 (2:Int))))) 7 (.int .i64 z1752)) 8 (v1858)) 9 (.int .i64 t1764.1)) 10 (.int .i64 z1856)) ∧ I1753.le I1860 ∧ St w0 w I1860 [ownS ty_api_Pair v1858 z1857, at_ref12_Tape p0 z1855, ownS (tySl ty_api_Pair) v1749 z1748, cells b987 [Zi, Zu, Zu, Zs, Zs], cells b1098 [I6 z1099, U6 z1100, U6 z1101, v1249, v1749], ownS ty_api_Got v1249 z1250] R) n1862 ⟨_, t1764.2, (0:Int), [], Zs, _, hm, (fu 0 p0 z (fu 2 (Pt b987 0) z (fu 4 (Pt b1098 0) z (fu 5 (.int .i64 (i64.wrap (Int.tdiv t1258.1 (2:Int)))) z (fu 7 (.int .i64 z1752) z (fu 8 (.slice none 0 0) z (fu 9 (.int .i64 t1764.1) z (fu 10 (.int .i64 (0:Int)) z z)))))))), (HL.le.refl _), hst⟩ ?_
 rintro n1868 _ w1863 ⟨I1860, z1855, z1856, z1857, v1858, σ1861, hm, rfl, hL1864, hst⟩
 obtain ⟨n1865, y1866, rfl, hm, hx1867⟩ := loopN_some hm
 dsimp only [ref13_OfReply_l5] at hm
 replace hI0 := hI0.trans hL1864
 replace hL1757 := hL1757.trans hL1864
 replace hL1905 := hL1905.trans hL1864
 refine wp_seq (wp_seq (wrl (wv (.int .i64 z1856) z z z (wv (.int .i64 t1764.1) z z z (wv (.bool (decide (z1856 < t1764.1))) z z z (wl_nil (tn ?_)))))))
 refine bsplit (decide (z1856 < t1764.1)) (fun hc1869 => ?_) (fun hc1869 => ?_)
 {
 replace hm := bif_t hc1869 hm
 refine wp_ift (cvb hc1869) ?_
 refine wp_skip (tn (wp_seq (wp_block (wrl ?_))))
 refine wv (v1858) z z z (wv (p0) z z z ?_)
 replace hst := hst.pull1
 obtain ⟨t1870, ht1871, hm⟩ := bind_some hm
 refine wc call21 [p0] z z z ?_
 refine (ref12_Tape_Float_ref hst.to1 ht1871).mono ?_
 rintro _ w1872 ⟨rfl, hst⟩
 refine ⟨_, z, ?_⟩
 replace hst := hst.of1
 refine wv (p0) z z z ?_
 obtain ⟨t1875, ht1876, hm⟩ := bind_some hm
 refine wc call20 [p0] z z z ?_
 refine (ref12_Tape_Val_ref hst.to1 ht1876).mono ?_
 rintro _ w1877 ⟨v1880, rfl, hst⟩
 refine ⟨_, z, ?_⟩
 replace hst := hst.of2
 refine wv (.agg #[F6 t1870.1, v1880]) z z (by obtain ⟨_, _, hv_, _⟩ := hst.sv0; rw [hv_]; kernel_rfl) ?_
 obtain ⟨I1884, hI1885, f1886, hst⟩ := hst.own_fix
 replace hI0 := hI0.trans hI1885
 replace hL1757 := hL1757.trans hI1885
 replace hL1905 := hL1905.trans hI1885
 replace hL1864 := hL1864.trans hI1885
 obtain ⟨b1887, w1888, ew1889, eb1890, hst⟩ := hst.lits (E := ty_api_Pair) (xs := [({ At := t1870.1, Val := t1875.1 } : api_Pair)]) [[F6 t1870.1, v1880]] 64 1 z (Reps.cons ⟨_, z, f1886, one_of_sliceV (ro_sliceV f1886)⟩ Reps.nil)
 refine wl_run (v := (.slice (some ⟨b1887, 0, none⟩) 1 1)) (w' := w1888) z z (x_als (by kernel_rfl) ew1889 eb1890) ?_
 obtain ⟨hg1892, hm⟩ := gd_some hm
 replace hst := hst.pull2
 obtain ⟨v1893, w1894, hr1895, hst⟩ := run_append elem_60 underlying60 hst hst.src1 (room_of hg1892 z) 60
 refine wl_run (v := v1893) (w' := w1894) z z (x_append z z hr1895) ?_
 refine wv (v1893) z z z (wl_nil (blk_n (tn (wrl (wv (.int .i64 z1856) z z z (wv (.int .i64 (i64.wrap (z1856 + (1:Int)))) z z z (wv (.int .i64 (i64.wrap (z1856 + (1:Int)))) z z z (wl_nil (tn ?_)))))))))
 replace hst := hst.pull6.pull6.pull6.pull6.pull6.pull5.keep6
 obtain rfl := some_inj hm
 exact ⟨_, Nat.lt_succ_self _, _, t1875.2, (i64.wrap (z1856 + (1:Int))), (z1857 ++ ([({ At := t1870.1, Val := t1875.1 } : api_Pair)])), v1893, _, hx1867, (fu 0 p0 z (fu 2 (Pt b987 0) z (fu 4 (Pt b1098 0) z (fu 5 (.int .i64 (i64.wrap (Int.tdiv t1258.1 (2:Int)))) z (fu 7 (.int .i64 z1752) z (fu 8 v1893 z (fu 9 (.int .i64 t1764.1) z (fu 10 (.int .i64 (i64.wrap (z1856 + (1:Int)))) z z)))))))), hL1864, hst⟩
}
 {
 replace hm := bif_f hc1869 hm
 refine wp_iff (cvb hc1869) ?_
 refine wp_exit (then_x (then_x ?_))
 replace hm := inr_up hm hx1867
 refine blk_x (tn ?_)
 replace hst := hst.pull2.pull5.pull5.pull5.pull5.keep6
 obtain rfl := some_inj hm
 exact ⟨_, z1855, z1857, v1858, _, hx1904, (fu 0 p0 z (fu 2 (Pt b987 0) z (fu 4 (Pt b1098 0) z (fu 5 (.int .i64 (i64.wrap (Int.tdiv t1258.1 (2:Int)))) z (fu 7 (.int .i64 z1752) z (fu 8 v1858 z z)))))), hL1905, hst⟩
}
}
 {
 clear hst
 rintro _ w1906 ⟨I1900, z1896, z1899, v1898, σ1901, hm, rfl, hL1902, hst⟩
 dsimp only [ref13_OfReply_j4] at hm
 replace hI0 := hI0.trans hL1902
 replace hL1757 := hL1757.trans hL1902
 refine wrl (wv (Pt b1098 4) z z (x_field z underlying36 z sizeOf34 z) (wv (v1749) z z (x_load z isAgg34 (hst.bc2 z)) (wv (v1898) z z z ?_)))
 replace hst := hst.pull5
 obtain ⟨I1908, hI1909, f1910, hst⟩ := hst.own_fix
 replace hI0 := hI0.trans hI1909
 replace hL1757 := hL1757.trans hI1909
 obtain ⟨b1911, w1912, ew1913, eb1914, hst⟩ := hst.lits (E := (tySl ty_api_Pair)) (xs := [z1899]) [[v1898]] 60 1 z (Reps.cons ⟨_, z, f1910, one_of_sliceV (ro_sliceV f1910)⟩ Reps.nil)
 refine wl_run (v := (.slice (some ⟨b1911, 0, none⟩) 1 1)) (w' := w1912) z z (x_als (by obtain ⟨_, _, hv_, _⟩ := (ro_sliceV f1910); rw [hv_]; kernel_rfl) ew1913 eb1914) ?_
 obtain ⟨hg1916, hm⟩ := gd_some hm
 replace hst := hst.pull5
 obtain ⟨v1917, w1918, hr1919, hst⟩ := run_append elem_34 underlying34 hst hst.src1 (room_of hg1916 z) 34
 refine wl_run (v := v1917) (w' := w1918) z z (x_append z z hr1919) ?_
 refine wv (Pt b1098 4) z z (x_field z underlying36 z sizeOf34 z) ?_
 replace hst := hst.pull4
 obtain ⟨w1920, hr1921, hst⟩ := hst.boxStore1 (P := prog) (t := 34) (cs' := [I6 z1099, U6 z1100, U6 z1101, v1249, v1917]) 4 v1917 (one_of_sliceV hst.sv1) sizeOf34 z z
 refine wl_unit z z (x_unit hr1921) ?_
 refine wl_nil (blk_n (tn (wrl (wv (.int .i64 z1752) z z z (wv (.int .i64 (i64.wrap (z1752 + (1:Int)))) z z z (wv (.int .i64 (i64.wrap (z1752 + (1:Int)))) z z z (wl_nil (tn ?_))))))))
 replace hst := hst.pull5.pull1.pull5.pull5.pull4.keep5
 obtain rfl := some_inj hm
 exact ⟨_, Nat.lt_succ_self _, _, (z1748 ++ ([z1899])), z1896, (i64.wrap (z1752 + (1:Int))), v1917, _, hx1760, (fu 0 p0 z (fu 2 (Pt b987 0) z (fu 4 (Pt b1098 0) z (fu 5 (.int .i64 (i64.wrap (Int.tdiv t1258.1 (2:Int)))) z (fu 7 (.int .i64 (i64.wrap (z1752 + (1:Int)))) z z))))), hL1757, hst⟩
}
}
 {
 replace hm := bif_f hc1762 hm
 refine wp_iff (cvb hc1762) ?_
 refine wp_exit (then_x (then_x ?_))
 replace hm := inr_up hm hx1760
 refine blk_x (tn (wp_seq (wrl ?_)))
 refine wv (.agg #[I6 z1099, U6 z1100, U6 z1101, v1249, v1749]) z z (x_loadN (cs := [I6 z1099, U6 z1100, U6 z1101, v1249, v1749]) z isAgg36 sizeOf36 (hst.bcs3 0 z)) ?_
 replace hst := hst.pull2
 obtain ⟨w1922, hr1923, hst⟩ := hst.bx [I6 z1099, U6 z1100, U6 z1101, v1249, v1749] sizeOf36 z (oC z (oC z (oC z (oC (one_of_sliceV hst.sv4) (oC (one_of_sliceV hst.sv1) oN))))) (by kernel_rfl)
 refine wl_unit z z (x_unit hr1923) ?_
 refine wl_nil (tn (wp_ret ?_))
 obtain rfl := some_inj hm
 refine post_ret (vs := [.agg #[I6 z1099, U6 z1100, U6 z1101, v1249, v1749]]) results10 (rvs_cons (rv_cell (cs := [I6 z1099, U6 z1100, U6 z1101, v1249, v1749]) z isAgg36 sizeOf36 (hst.bcs0 0 z)) rvs_nil) ?_
 replace hst := hst.pull2.pull2.pull4
 exact ⟨_, v1249, v1749, z, hI0, hst.keep3⟩
}
}
}
}

theorem ref11_Last_ref {w0 w : World} {I : HL} {R : SP} {a0 : (List ref11_Answer)} {r0_0 : Value} {a1 : Int} (f0_0 : Ro ty_ref11_Answer I r0_0 a0) (hst : St w0 w I [] R) {r : (ref11_Answer)} (hm : ref11_Last a0 a1 = some r) :
  Calls prog 22 #[r0_0, U6 a1] w fun e w' => ∃ (I' : HL) (q0_0 : Value) (q0_1 : Value), e = .returned (.agg #[U6 r.Session, U6 r.Seq, I6 r.R.E, U6 r.R.Epoch, U6 r.R.Index, q0_0, q0_1]) ∧ I.le I' ∧ Ro ty_api_Got I' q0_0 r.R.Gots ∧ Ro (tySl ty_api_Pair) I' q0_1 r.R.Scans ∧ St w0 w' I' [] R := by {
 unfold ref11_Last at hm
 refine calls_start (args := [r0_0, U6 a1]) func22 z ntmps22 (Nat.le_of_ble_eq_true z) ?_
 have hI0 := HL.le.refl I
 refine wp_seq (wrl ?_)
 obtain ⟨b151, w152, ew153, eb154, hst⟩ := hst.box [Zu, Zu, Zi, Zu, Zu, Zs, Zs] 66
 refine wl_run (v := Pt b151 0) (w' := w152) z z (x_al (by kernel_rfl) ew153 eb154) ?_
 refine wl_nil (tn (wp_seq (wp_seq (wrl (wv (.int .i64 (0:Int)) z z z (wl_nil (tn (wp_block ?_))))))))
 obtain ⟨n195, hm⟩ := loopO_some hm
 refine wp_loop_n (fun n a w => ∃ (z193 : Int) (σ194 : Nat → Value), loopN (ref11_Last_l0 a0 a1) n z193 = some r ∧ a = Fr 25 (upd (upd (upd (upd σ194 0 (r0_0)) 1 (.int .u64 a1)) 4 (Pt b151 0)) 5 (.int .i64 z193)) ∧ St w0 w I [cells b151 [Zu, Zu, Zi, Zu, Zu, Zs, Zs]] R) n195 ⟨(0:Int), _, hm, (fu 0 r0_0 z (fu 1 (.int .u64 a1) z (fu 4 (Pt b151 0) z (fu 5 (.int .i64 (0:Int)) z z)))), hst⟩ ?_
 rintro n201 _ w196 ⟨z193, σ194, hm, rfl, hst⟩
 obtain ⟨n198, y199, rfl, hm, hx200⟩ := loopN_some hm
 dsimp only [ref11_Last_l0] at hm
 refine wp_seq (wp_seq (wrl (wv (.int .i64 z193) z z z (wv (r0_0) z z z (wv (.int .i64 ((a0).length : Int)) z z (x_len z underlying29 (ro_sliceV f0_0)) (wv (.bool (decide (z193 < ((a0).length : Int)))) z z z (wl_nil (tn ?_))))))))
 refine bsplit (decide (z193 < ((a0).length : Int))) (fun hc202 => ?_) (fun hc202 => ?_)
 {
 replace hm := bif_t hc202 hm
 refine wp_ift (cvb hc202) ?_
 refine wp_skip (tn (wp_seq (wp_block (wp_seq (wrl ?_)))))
 refine wv (r0_0) z z z (wv (.int .i64 z193) z z z ?_)
 obtain ⟨x203, hx204, hm⟩ := bind_some hm
 obtain ⟨h205, h206, hi207⟩ := geto_some hx204
 refine wv (.pointer (some (eAddr r0_0 (z193.toNat * 7 + 0)))) z z (x_index z z underlying29 sizeOf66 (ro_sliceV f0_0) h205 h206) (wv (.pointer (some (eAddr r0_0 (z193.toNat * 7 + 0)))) z z (x_field_e z underlying66 z sizeOf30 z) ?_)
 obtain ⟨cs208, hr209, hc210⟩ := Ro.getF f0_0 hi207
 obtain ⟨v211, v214, rfl, f212, f215, -⟩ := hr209
 refine wv (.int .u64 x203.Session) z z (x_load z isAgg30 ((hc210 (HL.le.refl _) hst) 0 _ z)) (wv (.int .u64 a1) z z z (wv (.bool (x203.Session == a1)) z z z (wl_nil (tn ?_))))
 refine bsplit (x203.Session == a1) (fun hc217 => ?_) (fun hc217 => ?_)
 {
 replace hm := bif_t hc217 hm
 refine wp_ift (cvb hc217) ?_
 refine wp_seq (wrl (wv (r0_0) z z z (wv (.int .i64 z193) z z z (wv (.pointer (some (eAddr r0_0 (z193.toNat * 7 + 0)))) z z (x_index z z underlying29 sizeOf66 (ro_sliceV f0_0) h205 h206) (wv (.agg #[U6 x203.Session, U6 x203.Seq, I6 x203.R.E, U6 x203.R.Epoch, U6 x203.R.Index, v211, v214]) z z (x_loadN (cs := [U6 x203.Session, U6 x203.Seq, I6 x203.R.E, U6 x203.R.Epoch, U6 x203.R.Index, v211, v214]) z isAgg66 sizeOf66 (eCells (o := 0) (hc210 (HL.le.refl _) hst) z)) ?_)))))
 obtain ⟨w218, hr219, hst⟩ := hst.bx [U6 x203.Session, U6 x203.Seq, I6 x203.R.E, U6 x203.R.Epoch, U6 x203.R.Index, v211, v214] sizeOf66 z (oC z (oC z (oC z (oC z (oC z (oC (one_of_sliceV (ro_sliceV f212)) (oC (one_of_sliceV (ro_sliceV f215)) oN))))))) (by kernel_rfl)
 refine wl_unit z z (x_unit hr219) ?_
 refine wl_nil (tn (wp_ret (blk_r (then_r (then_r ?_)))))
 replace hm := inr_up hm hx200
 refine blk_r (then_r ?_)
 obtain rfl := some_inj hm
 refine post_ret (vs := [.agg #[U6 x203.Session, U6 x203.Seq, I6 x203.R.E, U6 x203.R.Epoch, U6 x203.R.Index, v211, v214]]) results22 (rvs_cons (rv_cell (cs := [U6 x203.Session, U6 x203.Seq, I6 x203.R.E, U6 x203.R.Epoch, U6 x203.R.Index, v211, v214]) z isAgg66 sizeOf66 (hst.bcs0 0 z)) rvs_nil) ?_
 exact ⟨_, v211, v214, z, hI0, f212, f215, hst.keep0⟩
}
 {
 replace hm := bif_f hc217 hm
 refine wp_iff (cvb hc217) ?_
 refine wp_skip (blk_n (tn (wrl ?_)))
 refine wv (.int .i64 z193) z z z (wv (.int .i64 (i64.wrap (z193 + (1:Int)))) z z z (wv (.int .i64 (i64.wrap (z193 + (1:Int)))) z z z (wl_nil (tn ?_))))
 replace hst := hst.keep1
 obtain rfl := some_inj hm
 exact ⟨_, Nat.lt_succ_self _, (i64.wrap (z193 + (1:Int))), _, hx200, (fu 0 r0_0 z (fu 1 (.int .u64 a1) z (fu 4 (Pt b151 0) z (fu 5 (.int .i64 (i64.wrap (z193 + (1:Int)))) z z)))), hst⟩
}
}
 {
 replace hm := bif_f hc202 hm
 refine wp_iff (cvb hc202) ?_
 refine wp_exit (then_x (then_x ?_))
 replace hm := inr_up hm hx200
 refine blk_x (tn (wp_seq (wrl ?_)))
 refine wv (.int .u64 a1) z z z (wv (.agg #[U6 a1, Zu, Zi, Zu, Zu, Zs, Zs]) z z (by kernel_rfl) ?_)
 obtain ⟨w222, hr223, hst⟩ := hst.bx [U6 a1, Zu, Zi, Zu, Zu, Zs, Zs] sizeOf66 z (oC z (oC z (oC z (oC z (oC z (oC z (oC z oN))))))) (by kernel_rfl)
 refine wl_unit z z (x_unit hr223) ?_
 refine wl_nil (tn (wp_ret ?_))
 have f224 : Ro ty_api_Got I (.slice none 0 0) [] := ro_nil
 have f225 : Ro (tySl ty_api_Pair) I (.slice none 0 0) [] := ro_nil
 obtain rfl := some_inj hm
 refine post_ret (vs := [.agg #[U6 a1, Zu, Zi, Zu, Zu, Zs, Zs]]) results22 (rvs_cons (rv_cell (cs := [U6 a1, Zu, Zi, Zu, Zu, Zs, Zs]) z isAgg66 sizeOf66 (hst.bcs0 0 z)) rvs_nil) ?_
 exact ⟨_, Zs, Zs, z, hI0, f224, f225, hst.keep0⟩
}
}

theorem ref11_Tell_ref {w0 w : World} {I : HL} {R : SP} {a0 : (List ref11_Answer)} {r0_0 : Value} {a1 : Int} {a2 : Int} {a3 : api_Reply} {r3_0 : Value} {r3_1 : Value} (f0_0 : Ro ty_ref11_Answer I r0_0 a0) (f3_0 : Ro ty_api_Got I r3_0 a3.Gots) (f3_1 : Ro (tySl ty_api_Pair) I r3_1 a3.Scans) (hst : St w0 w I [] R) {r : ((List ref11_Answer) × Int)} (hm : ref11_Tell a0 a1 a2 a3 = some r) :
  Calls prog 11 #[r0_0, U6 a1, U6 a2, .agg #[I6 a3.E, U6 a3.Epoch, U6 a3.Index, r3_0, r3_1]] w fun e w' => ∃ (I' : HL) (q0_0 : Value), e = .returned (.tuple #[q0_0, I6 r.2]) ∧ I.le I' ∧ Ro ty_ref11_Answer I' q0_0 r.1 ∧ St w0 w' I' [] R := by {
 unfold ref11_Tell at hm
 refine calls_start (args := [r0_0, U6 a1, U6 a2, .agg #[I6 a3.E, U6 a3.Epoch, U6 a3.Index, r3_0, r3_1]]) func11 z ntmps11 (Nat.le_of_ble_eq_true z) ?_
 have hI0 := HL.le.refl I
 refine wp_seq (wrl ?_)
 obtain ⟨b193, w194, ew195, eb196, hst⟩ := hst.box [I6 a3.E, U6 a3.Epoch, U6 a3.Index, r3_0, r3_1] 36
 refine wl_run (v := Pt b193 0) (w' := w194) z z (x_al (by kernel_rfl) ew195 eb196) ?_
 refine wv ((.slice none 0 0)) z z z (wv (.int .i64 (0:Int)) z z z (wl_nil (tn (wp_seq (wp_seq (wrl (wv (.int .u64 a2) z z z (wv (.bool (a2 == (0:Int))) z z z (wl_nil (tn ?_))))))))))
 refine bsplit (a2 == (0:Int)) (fun hc199 => ?_) (fun hc199 => ?_)
 {
 replace hm := bif_t hc199 hm
 refine wp_ift (cvb hc199) ?_
 refine wp_seq (wrl (wv (r0_0) z z z (wv (r0_0) z z z (wv (.int .i64 (1:Int)) z z z (wl_nil (tn (wp_ret (then_r ?_))))))))
 obtain rfl := some_inj hm
 refine post_ret (vs := [r0_0, I6 (1:Int)]) results11 (rvs_cons (rv_tmp z) (rvs_cons (rv_tmp z) rvs_nil)) ?_
 exact ⟨_, r0_0, z, hI0, f0_0, hst.keep0⟩
}
 {
 replace hm := bif_f hc199 hm
 refine wp_iff (cvb hc199) ?_
 refine wp_skip (tn (wp_seq (wp_seq (wrl ?_))))
 refine wv (r0_0) z z z (wv (.int .u64 a1) z z z ?_)
 obtain ⟨t200, ht201, hm⟩ := bind_some hm
 refine wc call22 [r0_0, U6 a1] z z z ?_
 refine (ref11_Last_ref f0_0 hst.to0 ht201).mono ?_
 rintro _ w202 ⟨I203, v205, v208, rfl, hI204, f207, f210, hst⟩
 refine ⟨_, z, ?_⟩
 replace hst := hst.of0
 replace f0_0 := f0_0.mono (ro_le hI204)
 replace f3_0 := f3_0.mono (ro_le hI204)
 replace f3_1 := f3_1.mono (ro_le hI204)
 replace hI0 := hI0.trans hI204
 refine wv (.int .u64 t200.Seq) z z (by obtain ⟨_, _, hv_, _⟩ := (ro_sliceV f210); rw [hv_]; obtain ⟨_, _, hv_, _⟩ := (ro_sliceV f207); rw [hv_]; kernel_rfl) (wv (.int .u64 a2) z z z (wv (.bool (decide (t200.Seq ≥ a2))) z z z (wl_nil (tn ?_))))
 refine bsplit (decide (t200.Seq ≥ a2)) (fun hc211 => ?_) (fun hc211 => ?_)
 {
 replace hm := bif_t hc211 hm
 refine wp_ift (cvb hc211) ?_
 refine wp_seq (wrl (wv (r0_0) z z z (wv (r0_0) z z z (wv (.int .i64 (10:Int)) z z z (wl_nil (tn (wp_ret (then_r ?_))))))))
 obtain rfl := some_inj hm
 refine post_ret (vs := [r0_0, I6 (10:Int)]) results11 (rvs_cons (rv_tmp z) (rvs_cons (rv_tmp z) rvs_nil)) ?_
 exact ⟨_, r0_0, z, hI0, f0_0, hst.keep0⟩
}
 {
 replace hm := bif_f hc211 hm
 refine wp_iff (cvb hc211) ?_
 refine wp_skip (tn (wp_seq (wrl ?_)))
 refine wv (.int .u64 a1) z z z (wv (.int .u64 a2) z z z (wv (.agg #[I6 a3.E, U6 a3.Epoch, U6 a3.Index, r3_0, r3_1]) z z (x_loadN (cs := [I6 a3.E, U6 a3.Epoch, U6 a3.Index, r3_0, r3_1]) z isAgg36 sizeOf36 (hst.bcs0 0 z)) (wv (.agg #[U6 a1, U6 a2, I6 a3.E, U6 a3.Epoch, U6 a3.Index, r3_0, r3_1]) z z (by kernel_rfl) ?_)))
 obtain ⟨b216, w217, ew218, eb219, hst⟩ := hst.lits (E := ty_ref11_Answer) (xs := [({ Session := a1, Seq := a2, R := a3 } : ref11_Answer)]) [[U6 a1, U6 a2, I6 a3.E, U6 a3.Epoch, U6 a3.Index, r3_0, r3_1]] 66 1 z (Reps.cons ⟨_, _, z, f3_0, f3_1, one_of_sliceV (ro_sliceV f3_0), one_of_sliceV (ro_sliceV f3_1)⟩ Reps.nil)
 refine wl_run (v := (.slice (some ⟨b216, 0, none⟩) 1 1)) (w' := w217) z z (x_als (by kernel_rfl) ew218 eb219) ?_
 refine wv ((.slice (some ⟨b216, 0, none⟩) 1 1)) z z z (wl_nil (tn (wp_seq (wp_seq (wrl (wv (.int .i64 (0:Int)) z z z (wl_nil (tn (wp_block ?_)))))))))
 replace hst := hst.pull1.sub
 obtain ⟨n284, hm⟩ := loopO_some hm
 refine wp_loop_n (fun n a w => ∃ (z279 : (List ref11_Answer)) (z282 : Int) (v280 : Value) (σ283 : Nat → Value), loopN (ref11_Tell_l0 a0 a1) n (z279, z282) = some r ∧ a = Fr 48 (upd (upd (upd (upd σ283 0 (r0_0)) 1 (.int .u64 a1)) 10 (v280)) 11 (.int .i64 z282)) ∧ St w0 w I203 [ownS ty_ref11_Answer v280 z279] R) n284 ⟨[({ Session := a1, Seq := a2, R := a3 } : ref11_Answer)], (0:Int), (.slice (some ⟨b216, 0, none⟩) 1 1), _, hm, (fu 0 r0_0 z (fu 1 (.int .u64 a1) z (fu 10 (.slice (some ⟨b216, 0, none⟩) 1 1) z (fu 11 (.int .i64 (0:Int)) z z)))), hst⟩ ?_
 rintro n290 _ w285 ⟨z279, z282, v280, σ283, hm, rfl, hst⟩
 obtain ⟨n287, y288, rfl, hm, hx289⟩ := loopN_some hm
 dsimp only [ref11_Tell_l0] at hm
 refine wp_seq (wp_seq (wrl (wv (.int .i64 z282) z z z (wv (r0_0) z z z (wv (.int .i64 ((a0).length : Int)) z z (x_len z underlying29 (ro_sliceV f0_0)) (wv (.bool (decide (z282 < ((a0).length : Int)))) z z z (wl_nil (tn ?_))))))))
 refine bsplit (decide (z282 < ((a0).length : Int))) (fun hc291 => ?_) (fun hc291 => ?_)
 {
 replace hm := bif_t hc291 hm
 refine wp_ift (cvb hc291) ?_
 refine wp_skip (tn (wp_seq (wp_block (wp_seq (wrl ?_)))))
 refine wv (r0_0) z z z (wv (.int .i64 z282) z z z ?_)
 obtain ⟨x292, hx293, hm⟩ := bind_some hm
 obtain ⟨h294, h295, hi296⟩ := geto_some hx293
 refine wv (.pointer (some (eAddr r0_0 (z282.toNat * 7 + 0)))) z z (x_index z z underlying29 sizeOf66 (ro_sliceV f0_0) h294 h295) (wv (.pointer (some (eAddr r0_0 (z282.toNat * 7 + 0)))) z z (x_field_e z underlying66 z sizeOf30 z) ?_)
 obtain ⟨cs297, hr298, hc299⟩ := Ro.getF f0_0 hi296
 obtain ⟨v300, v303, rfl, f301, f304, -⟩ := hr298
 refine wv (.int .u64 x292.Session) z z (x_load z isAgg30 ((hc299 (HL.le.refl _) hst) 0 _ z)) (wv (.int .u64 a1) z z z (wv (.bool (x292.Session != a1)) z z z (wl_nil (tn ?_))))
 refine bsplit (x292.Session != a1) (fun hc306 => ?_) (fun hc306 => ?_)
 {
 replace hm := bif_t hc306 hm
 refine wp_ift (cvb hc306) ?_
 refine wrl (wv (v280) z z z (wv (r0_0) z z z (wv (.int .i64 z282) z z z (wv (.pointer (some (eAddr r0_0 (z282.toNat * 7 + 0)))) z z (x_index z z underlying29 sizeOf66 (ro_sliceV f0_0) h294 h295) (wv (.agg #[U6 x292.Session, U6 x292.Seq, I6 x292.R.E, U6 x292.R.Epoch, U6 x292.R.Index, v300, v303]) z z (x_loadN (cs := [U6 x292.Session, U6 x292.Seq, I6 x292.R.E, U6 x292.R.Epoch, U6 x292.R.Index, v300, v303]) z isAgg66 sizeOf66 (eCells (o := 0) (hc299 (HL.le.refl _) hst) z)) ?_)))))
 obtain ⟨b309, w310, ew311, eb312, hst⟩ := hst.lits (E := ty_ref11_Answer) (xs := [x292]) [[U6 x292.Session, U6 x292.Seq, I6 x292.R.E, U6 x292.R.Epoch, U6 x292.R.Index, v300, v303]] 66 1 z (Reps.cons ⟨_, _, z, f301, f304, one_of_sliceV (ro_sliceV f301), one_of_sliceV (ro_sliceV f304)⟩ Reps.nil)
 refine wl_run (v := (.slice (some ⟨b309, 0, none⟩) 1 1)) (w' := w310) z z (x_als (by kernel_rfl) ew311 eb312) ?_
 obtain ⟨hg314, hm⟩ := gd_some hm
 replace hst := hst.pull1
 obtain ⟨v315, w316, hr317, hst⟩ := run_append elem_29 underlying29 hst hst.src1 (room_of hg314 z) 29
 refine wl_run (v := v315) (w' := w316) z z (x_append z z hr317) ?_
 refine wv (v315) z z z (wl_nil (blk_n (tn (wrl (wv (.int .i64 z282) z z z (wv (.int .i64 (i64.wrap (z282 + (1:Int)))) z z z (wv (.int .i64 (i64.wrap (z282 + (1:Int)))) z z z (wl_nil (tn ?_)))))))))
 replace hst := hst.keep1
 obtain rfl := some_inj hm
 exact ⟨_, Nat.lt_succ_self _, (z279 ++ ([x292])), (i64.wrap (z282 + (1:Int))), v315, _, hx289, (fu 0 r0_0 z (fu 1 (.int .u64 a1) z (fu 10 v315 z (fu 11 (.int .i64 (i64.wrap (z282 + (1:Int)))) z z)))), hst⟩
}
 {
 replace hm := bif_f hc306 hm
 refine wp_iff (cvb hc306) ?_
 refine wp_skip (blk_n (tn (wrl ?_)))
 refine wv (.int .i64 z282) z z z (wv (.int .i64 (i64.wrap (z282 + (1:Int)))) z z z (wv (.int .i64 (i64.wrap (z282 + (1:Int)))) z z z (wl_nil (tn ?_))))
 replace hst := hst.keep1
 obtain rfl := some_inj hm
 exact ⟨_, Nat.lt_succ_self _, z279, (i64.wrap (z282 + (1:Int))), v280, _, hx289, (fu 0 r0_0 z (fu 1 (.int .u64 a1) z (fu 10 v280 z (fu 11 (.int .i64 (i64.wrap (z282 + (1:Int)))) z z)))), hst⟩
}
}
 {
 replace hm := bif_f hc291 hm
 refine wp_iff (cvb hc291) ?_
 refine wp_exit (then_x (then_x ?_))
 replace hm := inr_up hm hx289
 refine blk_x (tn (wp_seq (wrl ?_)))
 refine wv (v280) z z z (wv (v280) z z z (wv (.int .i64 (0:Int)) z z z (wl_nil (tn (wp_ret ?_)))))
 obtain ⟨I318, hI319, f320, hst⟩ := hst.own_fix
 replace f0_0 := f0_0.mono (ro_le hI319)
 replace f3_0 := f3_0.mono (ro_le hI319)
 replace f3_1 := f3_1.mono (ro_le hI319)
 replace f207 := f207.mono (ro_le hI319)
 replace f210 := f210.mono (ro_le hI319)
 replace hI0 := hI0.trans hI319
 obtain rfl := some_inj hm
 refine post_ret (vs := [v280, Zi]) results11 (rvs_cons (rv_tmp z) (rvs_cons (rv_tmp z) rvs_nil)) ?_
 exact ⟨_, v280, z, hI0, f320, hst.keep0⟩
}
}
}
}

theorem session_Table_Len_ref {w0 w : World} {I : HL} {R : SP} {a0 : (Option session_Table)} {p0 : Value}  (hst : St w0 w I [objO at_session_Table p0 a0] R) {r : (Int)} (hm : session_Table_Len a0 = some r) :
  Calls prog 15 #[p0] w fun e w' => e = .returned (.int .i64 r) ∧ St w0 w' I [objO at_session_Table p0 a0] R := by {
 rcases a0 with _ | o0
 {
 obtain ⟨rfl, hst'⟩ := objO_none hst
 clear hst
 have hst := hst'
 clear hst'
 dsimp only [session_Table_Len] at hm
 refine calls_start (args := [.pointer none]) func15 z ntmps15 (Nat.le_of_ble_eq_true z) ?_
 refine wp_seq (wrl (wv (.int .i64 (0:Int)) z z z (wl_nil (tn (wp_seq (wp_seq (wrl (wv (.pointer none) z z z (wv (.bool true) z z (by kernel_rfl) (wl_nil (tn ?_)))))))))))
 refine wp_ift z ?_
 refine wp_seq (wrl (wv (.int .i64 (0:Int)) z z z (wl_nil (tn (wp_ret (then_r ?_))))))
 replace hst := hst.objO_nil at_session_Table
 obtain rfl := some_inj hm
 refine post_ret (vs := [Zi]) results15 (rvs_cons (rv_tmp z) rvs_nil) ?_
 exact ⟨z, hst.keep1⟩
}
 {
 replace hst := objO_get hst
 dsimp only [session_Table_Len] at hm
 refine calls_start (args := [p0]) func15 z ntmps15 (Nat.le_of_ble_eq_true z) ?_
 refine wp_seq (wrl (wv (.int .i64 (0:Int)) z z z (wl_nil (tn (wp_seq (wp_seq (wrl (wv (p0) z z z ?_))))))))
 obtain ⟨b92, v93, rfl, hst'⟩ := at_session_Table_open hst
 clear hst
 have hst := hst'
 clear hst'
 refine wv (.bool false) z z (by kernel_rfl) (wl_nil (tn ?_))
 refine wp_iff z ?_
 refine wp_skip (tn (wp_seq (wrl ?_)))
 refine wv (Pt b92 0) z z z (wv (Pt b92 0) z z z (wv (Pt b92 0) z z (x_field z underlying56 z sizeOf54 z) (wv (v93) z z (x_load z isAgg54 (hst.bc0 z)) (wv (.int .i64 ((o0.l).length : Int)) z z (x_len z underlying54 hst.sv1) (wv (.int .i64 ((o0.l).length : Int)) z z z (wl_nil (tn (wp_ret ?_))))))))
 replace hst := hst.pull1.pull1
 replace hst := at_session_Table_close (pv := Pt b92 0) (x := o0) hst z
 replace hst := objO_some hst
 obtain rfl := some_inj hm
 refine post_ret (vs := [I6 ((o0.l).length : Int)]) results15 (rvs_cons (rv_tmp z) rvs_nil) ?_
 exact ⟨z, hst.keep1⟩
}
}

theorem session_Table_Last_ref {w0 w : World} {I : HL} {R : SP} {a0 : (Option session_Table)} {p0 : Value} {a1 : Int}  (hst : St w0 w I [objO at_session_Table p0 a0] R) {r : (Int)} (hm : session_Table_Last a0 a1 = some r) :
  Calls prog 16 #[p0, U6 a1] w fun e w' => e = .returned (.int .u64 r) ∧ St w0 w' I [objO at_session_Table p0 a0] R := by {
 rcases a0 with _ | o0
 {
 obtain ⟨rfl, hst'⟩ := objO_none hst
 clear hst
 have hst := hst'
 clear hst'
 dsimp only [session_Table_Last] at hm
 refine calls_start (args := [.pointer none, U6 a1]) func16 z ntmps16 (Nat.le_of_ble_eq_true z) ?_
 refine wp_seq (wrl (wv (.int .u64 (0:Int)) z z z (wl_nil (tn (wp_seq (wrl (wv (.pointer none) z z z (wv (.int .u64 a1) z z z ?_))))))))
 replace hst := hst.objO_nil at_session_Table
 obtain ⟨t147, ht148, hm⟩ := bind_some hm
 refine wc call23 [.pointer none, U6 a1] z z z ?_
 refine (session_Table_find_ref hst.to1 ht148).mono ?_
 rintro _ w149 ⟨rfl, hst⟩
 refine ⟨_, z, ?_⟩
 replace hst := hst.of1
 refine wv (.tuple #[I6 t147.1, .bool t147.2]) z z z (wv (.int .i64 t147.1) z z z (wv (.bool t147.2) z z z (wv (.int .i64 t147.1) z z z (wv (.bool t147.2) z z z (wl_nil (tn (wp_seq (wp_seq (wrl (wv (.bool t147.2) z z z (wv (.bool (!t147.2)) z z z (wl_nil (tn ?_)))))))))))))
 refine bsplit (!t147.2) (fun hc152 => ?_) (fun hc152 => ?_)
 {
 replace hm := bif_t hc152 hm
 refine wp_ift (cvb hc152) ?_
 refine wp_seq (wrl (wv (.int .u64 (0:Int)) z z z (wl_nil (tn (wp_ret (then_r ?_))))))
 replace hst := hst.objO_nil at_session_Table
 obtain rfl := some_inj hm
 refine post_ret (vs := [Zu]) results16 (rvs_cons (rv_tmp z) rvs_nil) ?_
 exact ⟨z, hst.keep1⟩
}
 {
 replace hm := bif_f hc152 hm
 refine wp_iff (cvb hc152) ?_
 refine wp_skip (tn (wp_seq (wrl ?_)))
 refine wv (.pointer none) z z z ?_
 cases hm
}
}
 {
 replace hst := objO_get hst
 dsimp only [session_Table_Last] at hm
 refine calls_start (args := [p0, U6 a1]) func16 z ntmps16 (Nat.le_of_ble_eq_true z) ?_
 refine wp_seq (wrl (wv (.int .u64 (0:Int)) z z z (wl_nil (tn (wp_seq (wrl (wv (p0) z z z (wv (.int .u64 a1) z z z ?_))))))))
 replace hst := objO_some hst
 obtain ⟨t153, ht154, hm⟩ := bind_some hm
 refine wc call23 [p0, U6 a1] z z z ?_
 refine (session_Table_find_ref hst.to1 ht154).mono ?_
 rintro _ w155 ⟨rfl, hst⟩
 refine ⟨_, z, ?_⟩
 replace hst := hst.of1
 replace hst := objO_get hst
 refine wv (.tuple #[I6 t153.1, .bool t153.2]) z z z (wv (.int .i64 t153.1) z z z (wv (.bool t153.2) z z z (wv (.int .i64 t153.1) z z z (wv (.bool t153.2) z z z (wl_nil (tn (wp_seq (wp_seq (wrl (wv (.bool t153.2) z z z (wv (.bool (!t153.2)) z z z (wl_nil (tn ?_)))))))))))))
 refine bsplit (!t153.2) (fun hc158 => ?_) (fun hc158 => ?_)
 {
 replace hm := bif_t hc158 hm
 refine wp_ift (cvb hc158) ?_
 refine wp_seq (wrl (wv (.int .u64 (0:Int)) z z z (wl_nil (tn (wp_ret (then_r ?_))))))
 replace hst := objO_some hst
 obtain rfl := some_inj hm
 refine post_ret (vs := [Zu]) results16 (rvs_cons (rv_tmp z) rvs_nil) ?_
 exact ⟨z, hst.keep1⟩
}
 {
 replace hm := bif_f hc158 hm
 refine wp_iff (cvb hc158) ?_
 refine wp_skip (tn (wp_seq (wrl ?_)))
 refine wv (p0) z z z ?_
 obtain ⟨b159, v160, rfl, hst'⟩ := at_session_Table_open hst
 clear hst
 have hst := hst'
 clear hst'
 refine wv (Pt b159 0) z z z (wv (Pt b159 0) z z (x_field z underlying56 z sizeOf54 z) (wv (v160) z z (x_load z isAgg54 (hst.bc0 z)) (wv (.int .i64 t153.1) z z z ?_)))
 obtain ⟨x162, hx163, hm⟩ := bind_some hm
 obtain ⟨h164, h165, hi166⟩ := geto_some hx163
 refine wv (.pointer (some (eAddr v160 (t153.1.toNat * 7 + 0)))) z z (x_index z z underlying54 sizeOf71 hst.sv1 h164 h165) (wv (.pointer (some (eAddr v160 (t153.1.toNat * 7 + 1)))) z z (x_field_e z underlying71 z sizeOf30 z) ?_)
 obtain ⟨cs167, hr168, hc169⟩ := hst.og1 hi166
 obtain ⟨v170, v173, rfl, f171, f174, -⟩ := hr168
 refine wv (.int .u64 x162.seq) z z (x_load z isAgg30 (hc169 1 _ z)) (wv (.int .u64 x162.seq) z z z (wl_nil (tn (wp_ret ?_))))
 replace hst := hst.pull1.pull1
 replace hst := at_session_Table_close (pv := Pt b159 0) (x := o0) hst z
 replace hst := objO_some hst
 obtain rfl := some_inj hm
 refine post_ret (vs := [U6 x162.seq]) results16 (rvs_cons (rv_tmp z) rvs_nil) ?_
 exact ⟨z, hst.keep1⟩
}
}
}

theorem ref11_SameGots_ref {w0 w : World} {I : HL} {R : SP} {a0 : (List api_Got)} {r0_0 : Value} {a1 : (List api_Got)} {r1_0 : Value} (f0_0 : Rd ty_api_Got R I r0_0 a0) (f1_0 : Rd ty_api_Got R I r1_0 a1) (hst : St w0 w I [] R) {r : (Bool)} (hm : ref11_SameGots a0 a1 = some r) :
  Calls prog 25 #[r0_0, r1_0] w fun e w' => e = .returned (.bool r) ∧ St w0 w' I [] R := by {
 unfold ref11_SameGots at hm
 refine calls_start (args := [r0_0, r1_0]) func25 z ntmps25 (Nat.le_of_ble_eq_true z) ?_
 refine wp_seq (wrl (wv (.bool false) z z z (wl_nil (tn (wp_seq (wp_seq (wrl (wv (r0_0) z z z (wv (.int .i64 ((a0).length : Int)) z z (x_len z underlying33 (rd_sliceV f0_0)) (wv (r1_0) z z z (wv (.int .i64 ((a1).length : Int)) z z (x_len z underlying33 (rd_sliceV f1_0)) (wv (.bool (((a0).length : Int) != ((a1).length : Int))) z z z (wl_nil (tn ?_))))))))))))))
 refine bsplit (((a0).length : Int) != ((a1).length : Int)) (fun hc265 => ?_) (fun hc265 => ?_)
 {
 replace hm := bif_t hc265 hm
 refine wp_ift (cvb hc265) ?_
 refine wp_seq (wrl (wv (.bool false) z z z (wl_nil (tn (wp_ret (then_r ?_))))))
 obtain rfl := some_inj hm
 refine post_ret (vs := [.bool false]) results25 (rvs_cons (rv_tmp z) rvs_nil) ?_
 exact ⟨z, hst.keep0⟩
}
 {
 replace hm := bif_f hc265 hm
 refine wp_iff (cvb hc265) ?_
 refine wp_skip (tn (wp_seq (wp_seq (wrl ?_))))
 refine wv (.int .i64 (0:Int)) z z z (wl_nil (tn (wp_block ?_)))
 obtain ⟨n319, hm⟩ := loopO_some hm
 refine wp_loop_n (fun n a w => ∃ (z317 : Int) (σ318 : Nat → Value), loopN (ref11_SameGots_l0 a0 a1) n z317 = some r ∧ a = Fr 43 (upd (upd (upd σ318 0 (r0_0)) 1 (r1_0)) 5 (.int .i64 z317)) ∧ St w0 w I [] R) n319 ⟨(0:Int), _, hm, (fu 0 r0_0 z (fu 1 r1_0 z (fu 5 (.int .i64 (0:Int)) z z))), hst⟩ ?_
 rintro n325 _ w320 ⟨z317, σ318, hm, rfl, hst⟩
 obtain ⟨n322, y323, rfl, hm, hx324⟩ := loopN_some hm
 dsimp only [ref11_SameGots_l0] at hm
 refine wp_seq (wp_seq (wrl (wv (.int .i64 z317) z z z (wv (r0_0) z z z (wv (.int .i64 ((a0).length : Int)) z z (x_len z underlying33 (rd_sliceV f0_0)) (wv (.bool (decide (z317 < ((a0).length : Int)))) z z z (wl_nil (tn ?_))))))))
 refine bsplit (decide (z317 < ((a0).length : Int))) (fun hc326 => ?_) (fun hc326 => ?_)
 {
 replace hm := bif_t hc326 hm
 refine wp_ift (cvb hc326) ?_
 refine wp_skip (tn (wp_seq (wp_block (wp_seq ?_))))
 refine wq_regionS hst Try.mixed (by kernel_rfl) ?_
 refine wq_run (v := r0_0) z z (fun w hst => z) ?_
 refine wq_run (v := .int .i64 z317) z z (fun w hst => z) ?_
 obtain ⟨x327, hx328, hm⟩ := bind_some hm
 obtain ⟨h329, h330, hi331⟩ := geto_some hx328
 refine wq_run (v := .pointer (some (eAddr r0_0 (z317.toNat * 2 + 0)))) z z (fun w hst => x_index z z underlying33 sizeOf59 (rd_sliceV f0_0) h329 h330) ?_
 refine wq_run (v := .pointer (some (eAddr r0_0 (z317.toNat * 2 + 0)))) z z (fun w hst => x_field_e z underlying59 z sizeOf4 z) ?_
 obtain ⟨cs332, hr333, hc334⟩ := Rd.getF f0_0 hi331
 obtain ⟨v335, rfl, f336, -⟩ := hr333
 refine wq_run (v := .bool x327.Has) z z (fun w hst => x_load z isAgg4 ((hc334 (HL.le.refl _) hst) 0 _ z)) ?_
 refine wq_run (v := r1_0) z z (fun w hst => z) ?_
 refine wq_run (v := .int .i64 z317) z z (fun w hst => z) ?_
 obtain ⟨x338, hx339, hm⟩ := bind_some hm
 obtain ⟨h340, h341, hi342⟩ := geto_some hx339
 refine wq_run (v := .pointer (some (eAddr r1_0 (z317.toNat * 2 + 0)))) z z (fun w hst => x_index z z underlying33 sizeOf59 (rd_sliceV f1_0) h340 h341) ?_
 refine wq_run (v := .pointer (some (eAddr r1_0 (z317.toNat * 2 + 0)))) z z (fun w hst => x_field_e z underlying59 z sizeOf4 z) ?_
 obtain ⟨cs343, hr344, hc345⟩ := Rd.getF f1_0 hi342
 obtain ⟨v346, rfl, f347, -⟩ := hr344
 refine wq_run (v := .bool x338.Has) z z (fun w hst => x_load z isAgg4 ((hc345 (HL.le.refl _) hst) 0 _ z)) ?_
 refine wq_run (v := .bool (!(x327.Has == x338.Has))) z z (fun w hst => by kernel_rfl) ?_
 refine wq_run (v := .bool (!(x327.Has == x338.Has))) z z (fun w hst => z) ?_
 refine bsplit (!(x327.Has == x338.Has)) (fun hc349 => ?_) (fun hc349 => ?_)
 {
 replace hm := bif_t hc349 hm
 refine wq_off ((wanted_eq z z z (cvb hc349)).trans z) z ?_
 refine wq_off ((wanted_eq z z z (cvb hc349)).trans z) z ?_
 refine wq_off ((wanted_eq z z z (cvb hc349)).trans z) z ?_
 refine wq_off ((wanted_eq z z z (cvb hc349)).trans z) z ?_
 refine wq_off ((wanted_eq z z z (cvb hc349)).trans z) z ?_
 refine wq_off ((wanted_eq z z z (cvb hc349)).trans z) z ?_
 refine wq_off ((wanted_eq z z z (cvb hc349)).trans z) z ?_
 refine wq_off ((wanted_eq z z z (cvb hc349)).trans z) z ?_
 refine wq_off ((wanted_eq z z z (cvb hc349)).trans z) z ?_
 refine wq_off ((wanted_eq z z z (cvb hc349)).trans z) z ?_
 refine wq_off ((wanted_eq z z z (cvb hc349)).trans z) z ?_
 refine wq_off ((wanted_eq z z z (cvb hc349)).trans z) z ?_
 refine wq_off ((wanted_eq z z z (cvb hc349)).trans z) z ?_
 refine wq_run (v := .bool true) z z (fun w hst => x_pick_t hc349 z z) ?_
 refine wq_nil ?_
 intro w hst
 refine tn ?_
 refine wp_ift z ?_
 refine wp_seq (wrl (wv (.bool false) z z z (wl_nil (tn (wp_ret (blk_r (then_r (then_r ?_))))))))
 replace hm := inr_up hm hx324
 refine blk_r (then_r ?_)
 obtain rfl := some_inj hm
 refine post_ret (vs := [.bool false]) results25 (rvs_cons (rv_tmp z) rvs_nil) ?_
 exact ⟨z, hst.keep0⟩
}
 {
 replace hm := bif_f hc349 hm
 refine wq_run (v := r0_0) ((wanted_eq z z z (cvb hc349)).trans z) z (fun w hst => z) ?_
 refine wq_run (v := .int .i64 z317) ((wanted_eq z z z (cvb hc349)).trans z) z (fun w hst => z) ?_
 refine wq_run (v := .pointer (some (eAddr r0_0 (z317.toNat * 2 + 0)))) ((wanted_eq z z z (cvb hc349)).trans z) z (fun w hst => x_index z z underlying33 sizeOf59 (rd_sliceV f0_0) h329 h330) ?_
 refine wq_run (v := .pointer (some (eAddr r0_0 (z317.toNat * 2 + 1)))) ((wanted_eq z z z (cvb hc349)).trans z) z (fun w hst => x_field_e z underlying59 z sizeOf22 z) ?_
 refine wq_run (v := v335) ((wanted_eq z z z (cvb hc349)).trans z) z (fun w hst => x_load z isAgg22 ((hc334 (HL.le.refl _) hst) 1 _ z)) ?_
 refine wq_run (v := .string (toStr x327.Val)) ((wanted_eq z z z (cvb hc349)).trans z) z (fun w hst => x_tostr underlying22 underlying9 underlying5 z (Src.of_rd hst f336 flat_int)) ?_
 refine wq_run (v := r1_0) ((wanted_eq z z z (cvb hc349)).trans z) z (fun w hst => z) ?_
 refine wq_run (v := .int .i64 z317) ((wanted_eq z z z (cvb hc349)).trans z) z (fun w hst => z) ?_
 refine wq_run (v := .pointer (some (eAddr r1_0 (z317.toNat * 2 + 0)))) ((wanted_eq z z z (cvb hc349)).trans z) z (fun w hst => x_index z z underlying33 sizeOf59 (rd_sliceV f1_0) h340 h341) ?_
 refine wq_run (v := .pointer (some (eAddr r1_0 (z317.toNat * 2 + 1)))) ((wanted_eq z z z (cvb hc349)).trans z) z (fun w hst => x_field_e z underlying59 z sizeOf22 z) ?_
 refine wq_run (v := v346) ((wanted_eq z z z (cvb hc349)).trans z) z (fun w hst => x_load z isAgg22 ((hc345 (HL.le.refl _) hst) 1 _ z)) ?_
 refine wq_run (v := .string (toStr x338.Val)) ((wanted_eq z z z (cvb hc349)).trans z) z (fun w hst => x_tostr underlying22 underlying9 underlying5 z (Src.of_rd hst f347 flat_int)) ?_
 refine wq_run (v := .bool (!(sEq (toStr x327.Val) (toStr x338.Val)))) ((wanted_eq z z z (cvb hc349)).trans z) z (fun w hst => by kernel_rfl) ?_
 refine wq_run (v := .bool (!(sEq (toStr x327.Val) (toStr x338.Val)))) z z (fun w hst => x_pick_f hc349 z z) ?_
 refine wq_nil ?_
 intro w hst
 refine tn ?_
 refine bsplit (!(sEq (toStr x327.Val) (toStr x338.Val))) (fun hc350 => ?_) (fun hc350 => ?_)
 {
 replace hm := bif_t hc350 hm
 refine wp_ift (cvb hc350) ?_
 refine wp_seq (wrl (wv (.bool false) z z z (wl_nil (tn (wp_ret (blk_r (then_r (then_r ?_))))))))
 replace hm := inr_up hm hx324
 refine blk_r (then_r ?_)
 obtain rfl := some_inj hm
 refine post_ret (vs := [.bool false]) results25 (rvs_cons (rv_tmp z) rvs_nil) ?_
 exact ⟨z, hst.keep0⟩
}
 {
 replace hm := bif_f hc350 hm
 refine wp_iff (cvb hc350) ?_
 refine wp_skip (blk_n (tn (wrl ?_)))
 refine wv (.int .i64 z317) z z z (wv (.int .i64 (i64.wrap (z317 + (1:Int)))) z z z (wv (.int .i64 (i64.wrap (z317 + (1:Int)))) z z z (wl_nil (tn ?_))))
 replace hst := hst.keep0
 obtain rfl := some_inj hm
 exact ⟨_, Nat.lt_succ_self _, (i64.wrap (z317 + (1:Int))), _, hx324, (fu 0 r0_0 z (fu 1 r1_0 z (fu 5 (.int .i64 (i64.wrap (z317 + (1:Int)))) z z))), hst⟩
}
}
}
 {
 replace hm := bif_f hc326 hm
 refine wp_iff (cvb hc326) ?_
 refine wp_exit (then_x (then_x ?_))
 replace hm := inr_up hm hx324
 refine blk_x (tn (wp_seq (wrl ?_)))
 refine wv (.bool true) z z z (wl_nil (tn (wp_ret ?_)))
 obtain rfl := some_inj hm
 refine post_ret (vs := [.bool true]) results25 (rvs_cons (rv_tmp z) rvs_nil) ?_
 exact ⟨z, hst.keep0⟩
}
}
}

theorem math_Signbit_ref {w0 w : World} {I : HL} {R : SP} {a0 : Nat}  (hst : St w0 w I [] R) {r : (Bool)} (hm : math_Signbit a0 = some r) :
  Calls prog 60 #[F6 a0] w fun e w' => e = .returned (.bool r) ∧ St w0 w' I [] R := by {
 unfold math_Signbit at hm
 refine calls_start (args := [F6 a0]) func60 z ntmps60 (Nat.le_of_ble_eq_true z) ?_
 refine wp_seq (wrl (wv (.bool false) z z z (wl_nil (tn (wp_seq (wrl (wv (.float .f64 a0) z z z (wv (.int .u64 (Int.ofNat a0)) z z (by kernel_rfl) (wv (.int .i64 (i64.wrap (Int.ofNat a0))) z z (by kernel_rfl) (wv (.bool (decide ((i64.wrap (Int.ofNat a0)) < (0:Int)))) z z z (wv (.bool (decide ((i64.wrap (Int.ofNat a0)) < (0:Int)))) z z z (wl_nil (tn (wp_ret ?_))))))))))))))
 obtain rfl := some_inj hm
 refine post_ret (vs := [.bool (decide ((i64.wrap (Int.ofNat a0)) < (0:Int)))]) results60 (rvs_cons (rv_tmp z) rvs_nil) ?_
 exact ⟨z, hst.keep0⟩
}

theorem ref01_Ahead_ref {w0 w : World} {I : HL} {R : SP} {a0 : Nat} {a1 : Nat}  (hst : St w0 w I [] R) {r : (Bool)} (hm : ref01_Ahead a0 a1 = some r) :
  Calls prog 55 #[F6 a0, F6 a1] w fun e w' => e = .returned (.bool r) ∧ St w0 w' I [] R := by {
 unfold ref01_Ahead at hm
 refine calls_start (args := [F6 a0, F6 a1]) func55 z ntmps55 (Nat.le_of_ble_eq_true z) ?_
 refine wp_seq (wrl (wv (.bool false) z z z (wl_nil (tn (wp_seq (wp_seq (wrl (wv (.float .f64 a0) z z z (wv (.float .f64 a0) z z z (wv (.bool (fNe a0 a0)) z z z (wl_nil (tn ?_))))))))))))
 refine bsplit (fNe a0 a0) (fun hc207 => ?_) (fun hc207 => ?_)
 {
 replace hm := bif_t hc207 hm
 refine wp_ift (cvb hc207) ?_
 refine wp_seq (wrl (wv (.bool false) z z z (wl_nil (tn (wp_ret (then_r ?_))))))
 obtain rfl := some_inj hm
 refine post_ret (vs := [.bool false]) results55 (rvs_cons (rv_tmp z) rvs_nil) ?_
 exact ⟨z, hst.keep0⟩
}
 {
 replace hm := bif_f hc207 hm
 refine wp_iff (cvb hc207) ?_
 refine wp_skip (tn (wp_seq (wp_seq (wrl ?_))))
 refine wv (.float .f64 a1) z z z (wv (.float .f64 a1) z z z (wv (.bool (fNe a1 a1)) z z z (wl_nil (tn ?_))))
 refine bsplit (fNe a1 a1) (fun hc208 => ?_) (fun hc208 => ?_)
 {
 replace hm := bif_t hc208 hm
 refine wp_ift (cvb hc208) ?_
 refine wp_seq (wrl (wv (.bool true) z z z (wl_nil (tn (wp_ret (then_r ?_))))))
 obtain rfl := some_inj hm
 refine post_ret (vs := [.bool true]) results55 (rvs_cons (rv_tmp z) rvs_nil) ?_
 exact ⟨z, hst.keep0⟩
}
 {
 replace hm := bif_f hc208 hm
 refine wp_iff (cvb hc208) ?_
 refine wp_skip (tn ?_)
 obtain ⟨y224, hm, hx225⟩ := joinO_some hm
 refine wp_cut (fun a w => ∃ (σ222 : Nat → Value), (ref01_Ahead_j0 a0 a1) () = some r ∧ a = Fr 27 (upd (upd σ222 0 (.float .f64 a0)) 1 (.float .f64 a1)) ∧ St w0 w I [] R) ?_ ?_
 {
 refine wp_seq (wrl (wv (.float .f64 a0) z z z (wv (.bool (fEq a0 (0:Nat))) z z z (wv (.bool (fEq a0 (0:Nat))) z z z ?_))))
 refine bsplit (fEq a0 (0:Nat)) (fun hc209 => ?_) (fun hc209 => ?_)
 {
 replace hm := bif_t hc209 hm
 refine wv (.float .f64 a1) ((wanted_eq z z z (cvb hc209)).trans z) z z (wv (.bool (fEq a1 (0:Nat))) ((wanted_eq z z z (cvb hc209)).trans z) z z (wv (.bool (fEq a1 (0:Nat))) z z (x_pick_t hc209 z z) (wl_nil (tn ?_))))
 refine bsplit (fEq a1 (0:Nat)) (fun hc210 => ?_) (fun hc210 => ?_)
 {
 replace hm := bif_t hc210 hm
 refine wp_ift (cvb hc210) ?_
 refine wp_seq (wrl (wv (.float .f64 a0) z z z ?_))
 obtain ⟨t211, ht212, hm⟩ := bind_some hm
 refine wc call60 [F6 a0] z z z ?_
 refine (math_Signbit_ref hst.to0 ht212).mono ?_
 rintro _ w213 ⟨rfl, hst⟩
 refine ⟨_, z, ?_⟩
 replace hst := hst.of0
 refine wv (.bool t211) z z z ?_
 refine bsplit t211 (fun hc216 => ?_) (fun hc216 => ?_)
 {
 replace hm := bif_t hc216 hm
 refine wv (.float .f64 a1) ((wanted_eq z z z (cvb hc216)).trans z) z z ?_
 obtain ⟨t217, ht218, hm⟩ := bind_some hm
 refine wl_call ((wanted_eq z z z (cvb hc216)).trans z) z (x_call call60 z (vs := [F6 a1]) z) ?_
 refine (math_Signbit_ref hst.to0 ht218).mono ?_
 rintro _ w219 ⟨rfl, hst⟩
 refine ⟨_, z, ?_⟩
 replace hst := hst.of0
 refine wv (.bool (!t217)) ((wanted_eq z z z (cvb hc216)).trans z) z z (wv (.bool (!t217)) z z (x_pick_t hc216 z z) (wv (.bool (!t217)) z z z (wl_nil (tn (wp_ret (then_r ?_))))))
 replace hm := inr_up hm hx225
 obtain rfl := some_inj hm
 refine post_ret (vs := [.bool (!t217)]) results55 (rvs_cons (rv_tmp z) rvs_nil) ?_
 exact ⟨z, hst.keep0⟩
}
 {
 replace hm := bif_f hc216 hm
 refine wo hc216 z z z z z z (wo hc216 z z z z z z (wo hc216 z z z z z z (wv (.bool false) z z (x_pick_f hc216 z z) (wv (.bool false) z z z (wl_nil (tn (wp_ret (then_r ?_))))))))
 replace hm := inr_up hm hx225
 obtain rfl := some_inj hm
 refine post_ret (vs := [.bool false]) results55 (rvs_cons (rv_tmp z) rvs_nil) ?_
 exact ⟨z, hst.keep0⟩
}
}
 {
 replace hm := bif_f hc210 hm
 refine wp_iff (cvb hc210) ?_
 refine wp_skip (tn ?_)
 replace hst := hst.keep0
 obtain rfl := some_inj hm
 exact ⟨_, hx225, (fu 0 (.float .f64 a0) z (fu 1 (.float .f64 a1) z z)), hst⟩
}
}
 {
 replace hm := bif_f hc209 hm
 refine wo hc209 z z z z z z (wo hc209 z z z z z z (wv (.bool false) z z (x_pick_f hc209 z z) (wl_nil (tn ?_))))
 refine wp_iff z ?_
 refine wp_skip (tn ?_)
 replace hst := hst.keep0
 obtain rfl := some_inj hm
 exact ⟨_, hx225, (fu 0 (.float .f64 a0) z (fu 1 (.float .f64 a1) z z)), hst⟩
}
}
 {
 clear hst
 rintro _ w226 ⟨σ222, hm, rfl, hst⟩
 dsimp only [ref01_Ahead_j0] at hm
 refine wp_seq (wrl (wv (.float .f64 a0) z z z (wv (.float .f64 a1) z z z (wv (.bool (fLt a0 a1)) z z z (wv (.bool (fLt a0 a1)) z z z (wl_nil (tn (wp_ret ?_))))))))
 obtain rfl := some_inj hm
 refine post_ret (vs := [.bool (fLt a0 a1)]) results55 (rvs_cons (rv_tmp z) rvs_nil) ?_
 exact ⟨z, hst.keep0⟩
}
}
}
}

theorem ref01_Same_ref {w0 w : World} {I : HL} {R : SP} {a0 : Nat} {a1 : Nat}  (hst : St w0 w I [] R) {r : (Bool)} (hm : ref01_Same a0 a1 = some r) :
  Calls prog 43 #[F6 a0, F6 a1] w fun e w' => e = .returned (.bool r) ∧ St w0 w' I [] R := by {
 unfold ref01_Same at hm
 refine calls_start (args := [F6 a0, F6 a1]) func43 z ntmps43 (Nat.le_of_ble_eq_true z) ?_
 refine wp_seq (wrl (wv (.bool false) z z z (wl_nil (tn (wp_seq (wrl (wv (.float .f64 a0) z z z (wv (.float .f64 a1) z z z ?_))))))))
 obtain ⟨t198, ht199, hm⟩ := bind_some hm
 refine wc call55 [F6 a0, F6 a1] z z z ?_
 refine (ref01_Ahead_ref hst.to0 ht199).mono ?_
 rintro _ w200 ⟨rfl, hst⟩
 refine ⟨_, z, ?_⟩
 replace hst := hst.of0
 refine wv (.bool (!t198)) z z z (wv (.bool (!t198)) z z z ?_)
 refine bsplit (!t198) (fun hc203 => ?_) (fun hc203 => ?_)
 {
 replace hm := bif_t hc203 hm
 refine wv (.float .f64 a1) ((wanted_eq z z z (cvb hc203)).trans z) z z (wv (.float .f64 a0) ((wanted_eq z z z (cvb hc203)).trans z) z z ?_)
 obtain ⟨t204, ht205, hm⟩ := bind_some hm
 refine wl_call ((wanted_eq z z z (cvb hc203)).trans z) z (x_call call55 z (vs := [F6 a1, F6 a0]) z) ?_
 refine (ref01_Ahead_ref hst.to0 ht205).mono ?_
 rintro _ w206 ⟨rfl, hst⟩
 refine ⟨_, z, ?_⟩
 replace hst := hst.of0
 refine wv (.bool (!t204)) ((wanted_eq z z z (cvb hc203)).trans z) z z (wv (.bool (!t204)) z z (x_pick_t hc203 z z) (wv (.bool (!t204)) z z z (wl_nil (tn (wp_ret ?_)))))
 obtain rfl := some_inj hm
 refine post_ret (vs := [.bool (!t204)]) results43 (rvs_cons (rv_tmp z) rvs_nil) ?_
 exact ⟨z, hst.keep0⟩
}
 {
 replace hm := bif_f hc203 hm
 refine wo hc203 z z z z z z (wo hc203 z z z z z z (wo hc203 z z z z z z (wo hc203 z z z z z z (wv (.bool false) z z (x_pick_f hc203 z z) (wv (.bool false) z z z (wl_nil (tn (wp_ret ?_))))))))
 obtain rfl := some_inj hm
 refine post_ret (vs := [.bool false]) results43 (rvs_cons (rv_tmp z) rvs_nil) ?_
 exact ⟨z, hst.keep0⟩
}
}

theorem ref11_SamePairs_ref {w0 w : World} {I : HL} {R : SP} {a0 : (List api_Pair)} {r0_0 : Value} {a1 : (List api_Pair)} {r1_0 : Value} (f0_0 : Rd ty_api_Pair R I r0_0 a0) (f1_0 : Rd ty_api_Pair R I r1_0 a1) (hst : St w0 w I [] R) {r : (Bool)} (hm : ref11_SamePairs a0 a1 = some r) :
  Calls prog 26 #[r0_0, r1_0] w fun e w' => e = .returned (.bool r) ∧ St w0 w' I [] R := by {
 unfold ref11_SamePairs at hm
 refine calls_start (args := [r0_0, r1_0]) func26 z ntmps26 (Nat.le_of_ble_eq_true z) ?_
 refine wp_seq (wrl (wv (.bool false) z z z (wl_nil (tn (wp_seq (wp_seq (wrl (wv (r0_0) z z z (wv (.int .i64 ((a0).length : Int)) z z (x_len z underlying60 (rd_sliceV f0_0)) (wv (r1_0) z z z (wv (.int .i64 ((a1).length : Int)) z z (x_len z underlying60 (rd_sliceV f1_0)) (wv (.bool (((a0).length : Int) != ((a1).length : Int))) z z z (wl_nil (tn ?_))))))))))))))
 refine bsplit (((a0).length : Int) != ((a1).length : Int)) (fun hc324 => ?_) (fun hc324 => ?_)
 {
 replace hm := bif_t hc324 hm
 refine wp_ift (cvb hc324) ?_
 refine wp_seq (wrl (wv (.bool false) z z z (wl_nil (tn (wp_ret (then_r ?_))))))
 obtain rfl := some_inj hm
 refine post_ret (vs := [.bool false]) results26 (rvs_cons (rv_tmp z) rvs_nil) ?_
 exact ⟨z, hst.keep0⟩
}
 {
 replace hm := bif_f hc324 hm
 refine wp_iff (cvb hc324) ?_
 refine wp_skip (tn (wp_seq (wp_seq (wrl ?_))))
 refine wv (.int .i64 (0:Int)) z z z (wl_nil (tn (wp_block ?_)))
 obtain ⟨n412, hm⟩ := loopO_some hm
 refine wp_loop_n (fun n a w => ∃ (z410 : Int) (σ411 : Nat → Value), loopN (ref11_SamePairs_l0 a0 a1) n z410 = some r ∧ a = Fr 44 (upd (upd (upd σ411 0 (r0_0)) 1 (r1_0)) 5 (.int .i64 z410)) ∧ St w0 w I [] R) n412 ⟨(0:Int), _, hm, (fu 0 r0_0 z (fu 1 r1_0 z (fu 5 (.int .i64 (0:Int)) z z))), hst⟩ ?_
 rintro n418 _ w413 ⟨z410, σ411, hm, rfl, hst⟩
 obtain ⟨n415, y416, rfl, hm, hx417⟩ := loopN_some hm
 dsimp only [ref11_SamePairs_l0] at hm
 refine wp_seq (wp_seq (wrl (wv (.int .i64 z410) z z z (wv (r0_0) z z z (wv (.int .i64 ((a0).length : Int)) z z (x_len z underlying60 (rd_sliceV f0_0)) (wv (.bool (decide (z410 < ((a0).length : Int)))) z z z (wl_nil (tn ?_))))))))
 refine bsplit (decide (z410 < ((a0).length : Int))) (fun hc419 => ?_) (fun hc419 => ?_)
 {
 replace hm := bif_t hc419 hm
 refine wp_ift (cvb hc419) ?_
 refine wp_skip (tn (wp_seq (wp_block (wp_seq ?_))))
 refine wp_region_St hst 27 [0, 1, 2, 3, 4, 5, 6, 7, 8, 9, 10, 11, 12, 13, 14, 15, 16, 17, 18, 19, 20, 21, 22, 23, 24, 25, 26] [0, 0, 3, 7, 15, 0, 0, 96, 224, 480, 1023, 2047, 4095, 8191, 8191, 32767, 65535, 131071, 262143, 8191, 8191, 1581055, 3678207, 7872511, 16261119, 33554431, 67108863] [] z (by kernel_rfl) (by kernel_rfl) Try.mixed (by kernel_rfl) ?_
 refine wsr (r0_0) 0 z z z (by kernel_rfl) (fun w hst => z) (wsr (.int .i64 z410) 1 z z z (by kernel_rfl) (fun w hst => z) ?_)
 obtain ⟨x420, hx421, hm⟩ := bind_some hm
 obtain ⟨h422, h423, hi424⟩ := geto_some hx421
 refine wsr (.pointer (some (eAddr r0_0 (z410.toNat * 2 + 0)))) 2 z z z (by kernel_rfl) (fun w hst => x_index z z underlying60 sizeOf64 (rd_sliceV f0_0) h422 h423) (wsr (.pointer (some (eAddr r0_0 (z410.toNat * 2 + 0)))) 3 z z z (by kernel_rfl) (fun w hst => x_field_e z underlying64 z sizeOf61 z) ?_)
 obtain ⟨cs425, hr426, hc427⟩ := Rd.getF f0_0 hi424
 obtain ⟨v428, rfl, f429, -⟩ := hr426
 refine wsr (.float .f64 x420.At) 4 z z z (by kernel_rfl) (fun w hst => x_load z isAgg61 ((hc427 (HL.le.refl _) hst) 0 _ z)) (wsr (r1_0) 5 z z z (by kernel_rfl) (fun w hst => z) (wsr (.int .i64 z410) 6 z z z (by kernel_rfl) (fun w hst => z) ?_))
 obtain ⟨x431, hx432, hm⟩ := bind_some hm
 obtain ⟨h433, h434, hi435⟩ := geto_some hx432
 refine wsr (.pointer (some (eAddr r1_0 (z410.toNat * 2 + 0)))) 7 z z z (by kernel_rfl) (fun w hst => x_index z z underlying60 sizeOf64 (rd_sliceV f1_0) h433 h434) (wsr (.pointer (some (eAddr r1_0 (z410.toNat * 2 + 0)))) 8 z z z (by kernel_rfl) (fun w hst => x_field_e z underlying64 z sizeOf61 z) ?_)
 obtain ⟨cs436, hr437, hc438⟩ := Rd.getF f1_0 hi435
 obtain ⟨v439, rfl, f440, -⟩ := hr437
 refine wsr (.float .f64 x431.At) 9 z z z (by kernel_rfl) (fun w hst => x_load z isAgg61 ((hc438 (HL.le.refl _) hst) 0 _ z)) ?_
 refine ws_e1 10 (by kernel_rfl) ?_
 refine nxe [11, 12, 13, 14, 15, 16, 17, 18, 19, 20, 21, 22, 23, 24, 25, 26] (by kernel_rfl) z z ?_
 clear hst
 intro w hst
 obtain ⟨t442, ht443, hm⟩ := bind_some hm
 refine wec call43 [F6 x420.At, F6 x431.At] z z ?_
 refine (ref01_Same_ref hst.to0 ht443).mono ?_
 rintro _ w444 ⟨rfl, hst⟩
 refine ⟨_, z, ?_⟩
 replace hst := hst.of0
 refine ws_next (pend' := []) hst (by kernel_rfl) pk_nil ?_
 refine wsr (.bool (!t442)) 11 z z z (by kernel_rfl) (fun w hst => z) (wsr (.bool (!t442)) 12 z z z (by kernel_rfl) (fun w hst => z) ?_)
 refine bsplit (!t442) (fun hc447 => ?_) (fun hc447 => ?_)
 {
 replace hm := bif_t hc447 hm
 refine ws_q (v := undef) 13 [14, 15, 16, 17, 18, 19, 20, 21, 22, 23, 24, 25, 26] (by kernel_rfl) z z (yi_off ((wanted_eq z z z (cvb hc447)).trans z)) (ws_q (v := undef) 14 [15, 16, 17, 18, 19, 20, 21, 22, 23, 24, 25, 26] (by kernel_rfl) z z (yi_off ((wanted_eq z z z (cvb hc447)).trans z)) (ws_q (v := undef) 15 [16, 17, 18, 19, 20, 21, 22, 23, 24, 25, 26] (by kernel_rfl) z z (yi_off ((wanted_eq z z z (cvb hc447)).trans z)) (ws_q (v := undef) 16 [17, 18, 19, 20, 21, 22, 23, 24, 25, 26] (by kernel_rfl) z z (yi_off ((wanted_eq z z z (cvb hc447)).trans z)) (ws_q (v := undef) 17 [18, 19, 20, 21, 22, 23, 24, 25, 26] (by kernel_rfl) z z (yi_off ((wanted_eq z z z (cvb hc447)).trans z)) (ws_q (v := undef) 18 [19, 20, 21, 22, 23, 24, 25, 26] (by kernel_rfl) z z (yi_off ((wanted_eq z z z (cvb hc447)).trans z)) (ws_q (v := undef) 19 [20, 21, 22, 23, 24, 25, 26] (by kernel_rfl) z z (yi_off ((wanted_eq z z z (cvb hc447)).trans z)) (ws_q (v := undef) 20 [21, 22, 23, 24, 25, 26] (by kernel_rfl) z z (yi_off ((wanted_eq z z z (cvb hc447)).trans z)) (ws_q (v := undef) 21 [22, 23, 24, 25, 26] (by kernel_rfl) z z (yi_off ((wanted_eq z z z (cvb hc447)).trans z)) (ws_q (v := undef) 22 [23, 24, 25, 26] (by kernel_rfl) z z (yi_off ((wanted_eq z z z (cvb hc447)).trans z)) (ws_q (v := undef) 23 [24, 25, 26] (by kernel_rfl) z z (yi_off ((wanted_eq z z z (cvb hc447)).trans z)) (ws_q (v := undef) 24 [25, 26] (by kernel_rfl) z z (yi_off ((wanted_eq z z z (cvb hc447)).trans z)) (ws_q (v := undef) 25 [26] (by kernel_rfl) z z (yi_off ((wanted_eq z z z (cvb hc447)).trans z)) ?_))))))))))))
 refine wsr (.bool true) 26 z z z (by kernel_rfl) (fun w hst => x_pick_t hc447 z z) ?_
 refine ws_nil ?_
 intro w hst
 refine tn ?_
 refine wp_ift z ?_
 refine wp_seq (wrl (wv (.bool false) z z z (wl_nil (tn (wp_ret (blk_r (then_r (then_r ?_))))))))
 replace hm := inr_up hm hx417
 refine blk_r (then_r ?_)
 obtain rfl := some_inj hm
 refine post_ret (vs := [.bool false]) results26 (rvs_cons (rv_tmp z) rvs_nil) ?_
 exact ⟨z, hst.keep0⟩
}
 {
 replace hm := bif_f hc447 hm
 refine ws_q (v := r0_0) 13 [14, 15, 16, 17, 18, 19, 20, 21, 22, 23, 24, 25, 26] (by kernel_rfl) z z (yi_run ((wanted_eq z z z (cvb hc447)).trans z) (fun w hst => z)) (ws_q (v := .int .i64 z410) 14 [15, 16, 17, 18, 19, 20, 21, 22, 23, 24, 25, 26] (by kernel_rfl) z z (yi_run ((wanted_eq z z z (cvb hc447)).trans z) (fun w hst => z)) (ws_q (v := .pointer (some (eAddr r0_0 (z410.toNat * 2 + 0)))) 15 [16, 17, 18, 19, 20, 21, 22, 23, 24, 25, 26] (by kernel_rfl) z z (yi_run ((wanted_eq z z z (cvb hc447)).trans z) (fun w hst => x_index z z underlying60 sizeOf64 (rd_sliceV f0_0) h422 h423)) (ws_q (v := .pointer (some (eAddr r0_0 (z410.toNat * 2 + 1)))) 16 [17, 18, 19, 20, 21, 22, 23, 24, 25, 26] (by kernel_rfl) z z (yi_run ((wanted_eq z z z (cvb hc447)).trans z) (fun w hst => x_field_e z underlying64 z sizeOf22 z)) ?_)))
 obtain ⟨cs448, hr449, hc450⟩ := Rd.getF f0_0 hi424
 obtain ⟨v451, rfl, f452, -⟩ := hr449
 refine ws_q (v := v451) 17 [18, 19, 20, 21, 22, 23, 24, 25, 26] (by kernel_rfl) z z (yi_run ((wanted_eq z z z (cvb hc447)).trans z) (fun w hst => x_load z isAgg22 ((hc450 (HL.le.refl _) hst) 1 _ z))) (ws_q (v := .string (toStr x420.Val)) 18 [19, 20, 21, 22, 23, 24, 25, 26] (by kernel_rfl) z z (yi_run ((wanted_eq z z z (cvb hc447)).trans z) (fun w hst => x_tostr underlying22 underlying9 underlying5 z (Src.of_rd hst f452 flat_int))) (ws_q (v := r1_0) 19 [20, 21, 22, 23, 24, 25, 26] (by kernel_rfl) z z (yi_run ((wanted_eq z z z (cvb hc447)).trans z) (fun w hst => z)) (ws_q (v := .int .i64 z410) 20 [21, 22, 23, 24, 25, 26] (by kernel_rfl) z z (yi_run ((wanted_eq z z z (cvb hc447)).trans z) (fun w hst => z)) (ws_q (v := .pointer (some (eAddr r1_0 (z410.toNat * 2 + 0)))) 21 [22, 23, 24, 25, 26] (by kernel_rfl) z z (yi_run ((wanted_eq z z z (cvb hc447)).trans z) (fun w hst => x_index z z underlying60 sizeOf64 (rd_sliceV f1_0) h433 h434)) (ws_q (v := .pointer (some (eAddr r1_0 (z410.toNat * 2 + 1)))) 22 [23, 24, 25, 26] (by kernel_rfl) z z (yi_run ((wanted_eq z z z (cvb hc447)).trans z) (fun w hst => x_field_e z underlying64 z sizeOf22 z)) ?_)))))
 obtain ⟨cs454, hr455, hc456⟩ := Rd.getF f1_0 hi435
 obtain ⟨v457, rfl, f458, -⟩ := hr455
 refine ws_q (v := v457) 23 [24, 25, 26] (by kernel_rfl) z z (yi_run ((wanted_eq z z z (cvb hc447)).trans z) (fun w hst => x_load z isAgg22 ((hc456 (HL.le.refl _) hst) 1 _ z))) (ws_q (v := .string (toStr x431.Val)) 24 [25, 26] (by kernel_rfl) z z (yi_run ((wanted_eq z z z (cvb hc447)).trans z) (fun w hst => x_tostr underlying22 underlying9 underlying5 z (Src.of_rd hst f458 flat_int))) (ws_q (v := .bool (!(sEq (toStr x420.Val) (toStr x431.Val)))) 25 [26] (by kernel_rfl) z z (yi_run ((wanted_eq z z z (cvb hc447)).trans z) (fun w hst => by kernel_rfl)) (wsr (.bool (!(sEq (toStr x420.Val) (toStr x431.Val)))) 26 z z z (by kernel_rfl) (fun w hst => x_pick_f hc447 z z) ?_)))
 refine ws_nil ?_
 intro w hst
 refine tn ?_
 refine bsplit (!(sEq (toStr x420.Val) (toStr x431.Val))) (fun hc460 => ?_) (fun hc460 => ?_)
 {
 replace hm := bif_t hc460 hm
 refine wp_ift (cvb hc460) ?_
 refine wp_seq (wrl (wv (.bool false) z z z (wl_nil (tn (wp_ret (blk_r (then_r (then_r ?_))))))))
 replace hm := inr_up hm hx417
 refine blk_r (then_r ?_)
 obtain rfl := some_inj hm
 refine post_ret (vs := [.bool false]) results26 (rvs_cons (rv_tmp z) rvs_nil) ?_
 exact ⟨z, hst.keep0⟩
}
 {
 replace hm := bif_f hc460 hm
 refine wp_iff (cvb hc460) ?_
 refine wp_skip (blk_n (tn (wrl ?_)))
 refine wv (.int .i64 z410) z z z (wv (.int .i64 (i64.wrap (z410 + (1:Int)))) z z z (wv (.int .i64 (i64.wrap (z410 + (1:Int)))) z z z (wl_nil (tn ?_))))
 replace hst := hst.keep0
 obtain rfl := some_inj hm
 exact ⟨_, Nat.lt_succ_self _, (i64.wrap (z410 + (1:Int))), _, hx417, (fu 0 r0_0 z (fu 1 r1_0 z (fu 5 (.int .i64 (i64.wrap (z410 + (1:Int)))) z z))), hst⟩
}
}
}
 {
 replace hm := bif_f hc419 hm
 refine wp_iff (cvb hc419) ?_
 refine wp_exit (then_x (then_x ?_))
 replace hm := inr_up hm hx417
 refine blk_x (tn (wp_seq (wrl ?_)))
 refine wv (.bool true) z z z (wl_nil (tn (wp_ret ?_)))
 obtain rfl := some_inj hm
 refine post_ret (vs := [.bool true]) results26 (rvs_cons (rv_tmp z) rvs_nil) ?_
 exact ⟨z, hst.keep0⟩
}
}
}

end Go.Proofs.Ytkfifhkjdibadaa
