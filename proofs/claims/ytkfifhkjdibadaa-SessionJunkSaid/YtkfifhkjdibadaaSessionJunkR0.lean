/- The Go functions refine their models, part 0. -/
import Derived.Test.YtkfifhkjdibadaaSessionJunkT
set_option linter.unusedVariables false
set_option linter.unusedSimpArgs false
set_option maxRecDepth 100000
set_option maxHeartbeats 4000000
namespace Go.Proofs.Ytkfifhkjdibadaa
open Go Go.V
open _root_.Go.Proofs.Try IntKind
attribute [local irreducible] wpList Code.wp wpQuiet Calls bodyPost Oper.wp wpS Nx PendOK YieldsIn
theorem session_New_ref {w0 w : World} {I : HL} {R : SP}   (hst : St w0 w I [] R) {r : (session_Table)} (hm : session_New = some r) :
  Calls prog 8 #[] w fun e w' => ∃ (q0 : Value), e = .returned (q0) ∧ St w0 w' I [at_session_Table q0 r] R := by {
 unfold session_New at hm
 refine calls_start (args := []) func8 z ntmps8 (Nat.le_of_ble_eq_true z) ?_
 refine wp_seq (wrl (wv (.pointer none) z z z (wl_nil (tn (wp_seq (wrl (wv (.agg #[Zs]) z z (by kernel_rfl) ?_)))))))
 obtain ⟨b11, w12, ew13, eb14, hst⟩ := hst.box [Zs] 56
 refine wl_run (v := Pt b11 0) (w' := w12) z z (x_al (by kernel_rfl) ew13 eb14) ?_
 refine wv (Pt b11 0) z z z (wl_nil (tn (wp_ret ?_)))
 replace hst := hst.own_nil ty_session_row
 replace hst := hst.pull1
 replace hst := at_session_Table_close (pv := Pt b11 0) (x := ({ l := [] } : session_Table)) hst z
 obtain rfl := some_inj hm
 refine post_ret (vs := [Pt b11 0]) results8 (rvs_cons (rv_tmp z) rvs_nil) ?_
 exact ⟨.pointer (some ⟨b11, 0, none⟩), z, hst.keep1⟩
}

theorem cmp_isNaN_uint64_ref {w0 w : World} {I : HL} {R : SP} {a0 : Int}  (hst : St w0 w I [] R) {r : (Bool)} (hm : cmp_isNaN_uint64 a0 = some r) :
  Calls prog 53 #[U6 a0] w fun e w' => e = .returned (.bool r) ∧ St w0 w' I [] R := by {
 unfold cmp_isNaN_uint64 at hm
 refine calls_start (args := [U6 a0]) func53 z ntmps53 (Nat.le_of_ble_eq_true z) ?_
 refine wp_seq (wrl (wv (.bool false) z z z (wl_nil (tn (wp_seq (wrl (wv (.int .u64 a0) z z z (wv (.int .u64 a0) z z z (wv (.bool (a0 != a0)) z z z (wv (.bool (a0 != a0)) z z z (wl_nil (tn (wp_ret ?_)))))))))))))
 obtain rfl := some_inj hm
 refine post_ret (vs := [.bool (a0 != a0)]) results53 (rvs_cons (rv_tmp z) rvs_nil) ?_
 exact ⟨z, hst.keep0⟩
}

theorem cmp_Compare_uint64_ref {w0 w : World} {I : HL} {R : SP} {a0 : Int} {a1 : Int}  (hst : St w0 w I [] R) {r : (Int)} (hm : cmp_Compare_uint64 a0 a1 = some r) :
  Calls prog 40 #[U6 a0, U6 a1] w fun e w' => e = .returned (.int .i64 r) ∧ St w0 w' I [] R := by {
 unfold cmp_Compare_uint64 at hm
 refine calls_start (args := [U6 a0, U6 a1]) func40 z ntmps40 (Nat.le_of_ble_eq_true z) ?_
 refine wp_seq (wrl (wv (.int .i64 (0:Int)) z z z (wl_nil (tn (wp_seq (wrl (wv (.int .u64 a0) z z z ?_)))))))
 obtain ⟨t70, ht71, hm⟩ := bind_some hm
 refine wc call53 [U6 a0] z z z ?_
 refine (cmp_isNaN_uint64_ref hst.to0 ht71).mono ?_
 rintro _ w72 ⟨rfl, hst⟩
 refine ⟨_, z, ?_⟩
 replace hst := hst.of0
 refine wv (.bool t70) z z z (wl_nil (tn (wp_seq (wrl (wv (.int .u64 a1) z z z ?_)))))
 obtain ⟨t75, ht76, hm⟩ := bind_some hm
 refine wc call53 [U6 a1] z z z ?_
 refine (cmp_isNaN_uint64_ref hst.to0 ht76).mono ?_
 rintro _ w77 ⟨rfl, hst⟩
 refine ⟨_, z, ?_⟩
 replace hst := hst.of0
 refine wv (.bool t75) z z z (wl_nil (tn (wp_seq (wp_seq (wrl (wv (.bool t70) z z z (wl_nil (tn ?_))))))))
 refine bsplit t70 (fun hc80 => ?_) (fun hc80 => ?_)
 {
 replace hm := bif_t hc80 hm
 refine wp_ift (cvb hc80) ?_
 refine wp_seq (wp_seq (wrl (wv (.bool t75) z z z (wl_nil (tn ?_)))))
 refine bsplit t75 (fun hc81 => ?_) (fun hc81 => ?_)
 {
 replace hm := bif_t hc81 hm
 refine wp_ift (cvb hc81) ?_
 refine wp_seq (wrl (wv (.int .i64 (0:Int)) z z z (wl_nil (tn (wp_ret (then_r (then_r ?_)))))))
 obtain rfl := some_inj hm
 refine post_ret (vs := [Zi]) results40 (rvs_cons (rv_tmp z) rvs_nil) ?_
 exact ⟨z, hst.keep0⟩
}
 {
 replace hm := bif_f hc81 hm
 refine wp_iff (cvb hc81) ?_
 refine wp_skip (tn (wp_seq (wrl ?_)))
 refine wv (.int .i64 ((-1):Int)) z z z (wl_nil (tn (wp_ret (then_r ?_))))
 obtain rfl := some_inj hm
 refine post_ret (vs := [I6 ((-1):Int)]) results40 (rvs_cons (rv_tmp z) rvs_nil) ?_
 exact ⟨z, hst.keep0⟩
}
}
 {
 replace hm := bif_f hc80 hm
 refine wp_iff (cvb hc80) ?_
 refine wp_skip (tn (wp_seq (wp_seq (wrl ?_))))
 refine wv (.bool t75) z z z (wl_nil (tn ?_))
 refine bsplit t75 (fun hc82 => ?_) (fun hc82 => ?_)
 {
 replace hm := bif_t hc82 hm
 refine wp_ift (cvb hc82) ?_
 refine wp_seq (wrl (wv (.int .i64 (1:Int)) z z z (wl_nil (tn (wp_ret (then_r ?_))))))
 obtain rfl := some_inj hm
 refine post_ret (vs := [I6 (1:Int)]) results40 (rvs_cons (rv_tmp z) rvs_nil) ?_
 exact ⟨z, hst.keep0⟩
}
 {
 replace hm := bif_f hc82 hm
 refine wp_iff (cvb hc82) ?_
 refine wp_skip (tn (wp_seq (wp_seq (wrl ?_))))
 refine wv (.int .u64 a0) z z z (wv (.int .u64 a1) z z z (wv (.bool (decide (a0 < a1))) z z z (wl_nil (tn ?_))))
 refine bsplit (decide (a0 < a1)) (fun hc83 => ?_) (fun hc83 => ?_)
 {
 replace hm := bif_t hc83 hm
 refine wp_ift (cvb hc83) ?_
 refine wp_seq (wrl (wv (.int .i64 ((-1):Int)) z z z (wl_nil (tn (wp_ret (then_r ?_))))))
 obtain rfl := some_inj hm
 refine post_ret (vs := [I6 ((-1):Int)]) results40 (rvs_cons (rv_tmp z) rvs_nil) ?_
 exact ⟨z, hst.keep0⟩
}
 {
 replace hm := bif_f hc83 hm
 refine wp_iff (cvb hc83) ?_
 refine wp_skip (tn (wp_seq (wp_seq (wrl ?_))))
 refine wv (.int .u64 a0) z z z (wv (.int .u64 a1) z z z (wv (.bool (decide (a0 > a1))) z z z (wl_nil (tn ?_))))
 refine bsplit (decide (a0 > a1)) (fun hc84 => ?_) (fun hc84 => ?_)
 {
 replace hm := bif_t hc84 hm
 refine wp_ift (cvb hc84) ?_
 refine wp_seq (wrl (wv (.int .i64 (1:Int)) z z z (wl_nil (tn (wp_ret (then_r ?_))))))
 obtain rfl := some_inj hm
 refine post_ret (vs := [I6 (1:Int)]) results40 (rvs_cons (rv_tmp z) rvs_nil) ?_
 exact ⟨z, hst.keep0⟩
}
 {
 replace hm := bif_f hc84 hm
 refine wp_iff (cvb hc84) ?_
 refine wp_skip (tn (wp_seq (wrl ?_)))
 refine wv (.int .i64 (0:Int)) z z z (wl_nil (tn (wp_ret ?_)))
 obtain rfl := some_inj hm
 refine post_ret (vs := [Zi]) results40 (rvs_cons (rv_tmp z) rvs_nil) ?_
 exact ⟨z, hst.keep0⟩
}
}
}
}
}

theorem session_Table_find_1_ref {w0 w : World} {I : HL} {R : SP} {a0 : session_row} {r0_0 : Value} {r0_1 : Value} {a1 : Int} (f0_0 : Rd ty_api_Got R I r0_0 a0.r.Gots) (f0_1 : Rd (tySl ty_api_Pair) R I r0_1 a0.r.Scans) (hst : St w0 w I [] R) {r : (Int)} (hm : session_Table_find_1 a0 a1 = some r) :
  Calls prog 39 #[.agg #[U6 a0.session, U6 a0.seq, I6 a0.r.E, U6 a0.r.Epoch, U6 a0.r.Index, r0_0, r0_1], U6 a1] w fun e w' => e = .returned (.int .i64 r) ∧ St w0 w' I [] R := by {
 unfold session_Table_find_1 at hm
 refine calls_start (args := [.agg #[U6 a0.session, U6 a0.seq, I6 a0.r.E, U6 a0.r.Epoch, U6 a0.r.Index, r0_0, r0_1], U6 a1]) func39 z ntmps39 (Nat.le_of_ble_eq_true z) ?_
 refine wp_seq (wrl ?_)
 obtain ⟨b62, w63, ew64, eb65, hst⟩ := hst.box [U6 a0.session, U6 a0.seq, I6 a0.r.E, U6 a0.r.Epoch, U6 a0.r.Index, r0_0, r0_1] 71
 refine wl_run (v := Pt b62 0) (w' := w63) z z (x_al (by kernel_rfl) ew64 eb65) ?_
 refine wv (.int .i64 (0:Int)) z z z (wl_nil (tn (wp_seq (wrl (wv (Pt b62 0) z z (x_field z underlying71 z sizeOf30 z) (wv (.int .u64 a0.session) z z (x_load z isAgg30 (hst.bc0 z)) (wv (.int .u64 a1) z z z ?_)))))))
 obtain ⟨t67, ht68, hm⟩ := bind_some hm
 refine wc call40 [U6 a0.session, U6 a1] z z z ?_
 refine (cmp_Compare_uint64_ref hst.to0 ht68).mono ?_
 rintro _ w69 ⟨rfl, hst⟩
 refine ⟨_, z, ?_⟩
 replace hst := hst.of0
 refine wv (.int .i64 t67) z z z (wl_nil (tn (wp_ret ?_)))
 obtain rfl := some_inj hm
 refine post_ret (vs := [I6 t67]) results39 (rvs_cons (rv_tmp z) rvs_nil) ?_
 exact ⟨z, hst.keep0⟩
}

theorem session_Table_find_ref {w0 w : World} {I : HL} {R : SP} {a0 : (Option session_Table)} {p0 : Value} {a1 : Int}  (hst : St w0 w I [objO at_session_Table p0 a0] R) {r : (Int × Bool)} (hm : session_Table_find a0 a1 = some r) :
  Calls prog 23 #[p0, U6 a1] w fun e w' => e = .returned (.tuple #[I6 r.1, .bool r.2]) ∧ St w0 w' I [objO at_session_Table p0 a0] R := by {
 rcases a0 with _ | o0
 {
 obtain ⟨rfl, hst'⟩ := objO_none hst
 clear hst
 have hst := hst'
 clear hst'
 dsimp only [session_Table_find] at hm
 refine calls_start (args := [.pointer none, U6 a1]) func23 z ntmps23 (Nat.le_of_ble_eq_true z) ?_
 refine wp_seq (wrl (wv (.int .i64 (0:Int)) z z z (wv (.bool false) z z z (wl_nil (tn (wp_seq (wp_seq (wrl (wv (.pointer none) z z z (wv (.bool true) z z (by kernel_rfl) (wl_nil (tn ?_))))))))))))
 refine wp_ift z ?_
 refine wp_seq (wrl (wv (.int .i64 (0:Int)) z z z (wv (.bool false) z z z (wl_nil (tn (wp_ret (then_r ?_)))))))
 replace hst := hst.objO_nil at_session_Table
 obtain rfl := some_inj hm
 refine post_ret (vs := [Zi, .bool false]) results23 (rvs_cons (rv_tmp z) (rvs_cons (rv_tmp z) rvs_nil)) ?_
 exact ⟨z, hst.keep1⟩
}
 {
 replace hst := objO_get hst
 dsimp only [session_Table_find] at hm
 refine calls_start (args := [p0, U6 a1]) func23 z ntmps23 (Nat.le_of_ble_eq_true z) ?_
 refine wp_seq (wrl (wv (.int .i64 (0:Int)) z z z (wv (.bool false) z z z (wl_nil (tn (wp_seq (wp_seq (wrl (wv (p0) z z z ?_)))))))))
 obtain ⟨b141, v142, rfl, hst'⟩ := at_session_Table_open hst
 clear hst
 have hst := hst'
 clear hst'
 refine wv (.bool false) z z (by kernel_rfl) (wl_nil (tn ?_))
 refine wp_iff z ?_
 refine wp_skip (tn (wp_seq (wrl ?_)))
 refine wv (Pt b141 0) z z z (wv (Pt b141 0) z z z (wv (Pt b141 0) z z (x_field z underlying56 z sizeOf54 z) (wv (v142) z z (x_load z isAgg54 (hst.bc0 z)) (wv (.int .u64 a1) z z z ?_))))
 obtain ⟨y248, hq249, hm⟩ := bind_some hm
 refine wl_call z z (x_callv call38 (caps := []) z (vs := [v142, U6 a1, .func (.func 39) #[] #[]]) z) ?_
 refine Calls.mono (show Calls prog 38 #[v142, U6 a1, .func (.func 39) #[] #[]] _ (fun e w' => ∃ (z245 : Int) (z246 : Bool), y248 = (z245, z246) ∧ e = .returned (.tuple #[I6 z245, .bool z246]) ∧ St w0 w' I [cells b141 [v142], ownS ty_session_row v142 o0.l] R) from ?_) ?_
 {
 clear hm; have hm := hq249
 refine calls_start (args := [v142, U6 a1, .func (.func 39) #[] #[]]) func38 z ntmps38 (Nat.le_of_ble_eq_true z) ?_
 refine wp_seq (wrl (wv (.int .i64 (0:Int)) z z z (wv (.bool false) z z z (wl_nil (tn (wp_seq (wrl (wv (v142) z z z (wv (.int .i64 ((o0.l).length : Int)) z z (x_len z underlying54 hst.sv1) (wv (.int .i64 ((o0.l).length : Int)) z z z (wl_nil (tn (wp_seq (wrl (wv (.int .i64 ((o0.l).length : Int)) z z z (wv (.int .i64 (0:Int)) z z z (wv (.int .i64 ((o0.l).length : Int)) z z z (wl_nil (tn ?_)))))))))))))))))))
 obtain ⟨y222, hm, hx223⟩ := bind_some hm
 refine wp_cut (fun a w => ∃ (z219 : Int) (σ220 : Nat → Value), (session_Table_find_j0 o0 a1) z219 = some y248 ∧ a = Fr 49 (upd (upd (upd (upd (upd σ220 0 (v142)) 1 (.int .u64 a1)) 2 (.func (.func 39) #[] #[])) 8 (.int .i64 ((o0.l).length : Int))) 9 (.int .i64 z219)) ∧ St w0 w I [ownS ty_session_row v142 o0.l, cells b141 [v142]] R) ?_ ?_
 {
 refine wp_block ?_
 obtain ⟨n191, hm⟩ := loopO_some hm
 refine wp_loop_n (fun n a w => ∃ (z188 : Int) (z189 : Int) (σ190 : Nat → Value), loopN (session_Table_find_l1 o0 a1) n (z188, z189) = some y222 ∧ a = Fr 49 (upd (upd (upd (upd (upd (upd σ190 0 (v142)) 1 (.int .u64 a1)) 2 (.func (.func 39) #[] #[])) 8 (.int .i64 ((o0.l).length : Int))) 9 (.int .i64 z189)) 10 (.int .i64 z188)) ∧ St w0 w I [cells b141 [v142], ownS ty_session_row v142 o0.l] R) n191 ⟨((o0.l).length : Int), (0:Int), _, hm, (fu 0 v142 z (fu 1 (.int .u64 a1) z (fu 2 (.func (.func 39) #[] #[]) z (fu 8 (.int .i64 ((o0.l).length : Int)) z (fu 9 (.int .i64 (0:Int)) z (fu 10 (.int .i64 ((o0.l).length : Int)) z z)))))), hst⟩ ?_
 rintro n197 _ w192 ⟨z188, z189, σ190, hm, rfl, hst⟩
 obtain ⟨n194, y195, rfl, hm, hx196⟩ := loopN_some hm
 dsimp only [session_Table_find_l1] at hm
 refine wp_seq (wp_seq (wrl (wv (.int .i64 z189) z z z (wv (.int .i64 z188) z z z (wv (.bool (decide (z189 < z188))) z z z (wl_nil (tn ?_)))))))
 refine bsplit (decide (z189 < z188)) (fun hc198 => ?_) (fun hc198 => ?_)
 {
 replace hm := bif_t hc198 hm
 refine wp_ift (cvb hc198) ?_
 refine wp_skip (tn (wp_block (wp_seq (wrl ?_))))
 refine wv (.int .i64 z189) z z z (wv (.int .i64 z188) z z z (wv (.int .i64 (i64.wrap (z189 + z188))) z z z (wv (.int .u64 (u64.wrap (i64.wrap (z189 + z188)))) z z (by kernel_rfl) (wv (.int .u64 (iShr .u64 (u64.wrap (i64.wrap (z189 + z188))) (1:Int))) z z (x_shr (by decide) z z) (wv (.int .i64 (i64.wrap (iShr .u64 (u64.wrap (i64.wrap (z189 + z188))) (1:Int)))) z z (by kernel_rfl) (wv (.int .i64 (i64.wrap (iShr .u64 (u64.wrap (i64.wrap (z189 + z188))) (1:Int)))) z z z (wl_nil (tn (wp_seq (wrl (wv (.func (.func 39) #[] #[]) z z z (wv (v142) z z z (wv (.int .i64 (i64.wrap (iShr .u64 (u64.wrap (i64.wrap (z189 + z188))) (1:Int)))) z z z ?_)))))))))))))
 obtain ⟨x199, hx200, hm⟩ := bind_some hm
 obtain ⟨h201, h202, hi203⟩ := geto_some hx200
 refine wv (.pointer (some (eAddr v142 ((i64.wrap (iShr .u64 (u64.wrap (i64.wrap (z189 + z188))) (1:Int))).toNat * 7 + 0)))) z z (x_index z z underlying54 sizeOf71 hst.sv1 h201 h202) ?_
 obtain ⟨cs204, hr205, hc206⟩ := hst.og1 hi203
 obtain ⟨v207, v210, rfl, f208, f211, -⟩ := hr205
 refine wv (.agg #[U6 x199.session, U6 x199.seq, I6 x199.r.E, U6 x199.r.Epoch, U6 x199.r.Index, v207, v210]) z z (x_loadN (cs := [U6 x199.session, U6 x199.seq, I6 x199.r.E, U6 x199.r.Epoch, U6 x199.r.Index, v207, v210]) z isAgg71 sizeOf71 (eCells (o := 0) hc206 z)) (wv (.int .u64 a1) z z z ?_)
 obtain ⟨t213, ht214, hm⟩ := bind_some hm
 refine wl_call z z (x_callv call39 (caps := []) z (vs := [.agg #[U6 x199.session, U6 x199.seq, I6 x199.r.E, U6 x199.r.Epoch, U6 x199.r.Index, v207, v210], U6 a1]) z) ?_
 refine (session_Table_find_1_ref (f208.mono ro_rd) (f211.mono ro_rd) hst.to0 ht214).mono ?_
 rintro _ w215 ⟨rfl, hst⟩
 refine ⟨_, z, ?_⟩
 replace hst := hst.of0
 refine wv (.bool (decide (t213 < (0:Int)))) z z z (wl_nil (tn ?_))
 refine bsplit (decide (t213 < (0:Int))) (fun hc218 => ?_) (fun hc218 => ?_)
 {
 replace hm := bif_t hc218 hm
 refine wp_ift (cvb hc218) ?_
 refine wrl (wv (.int .i64 (i64.wrap (iShr .u64 (u64.wrap (i64.wrap (z189 + z188))) (1:Int)))) z z z (wv (.int .i64 (i64.wrap ((i64.wrap (iShr .u64 (u64.wrap (i64.wrap (z189 + z188))) (1:Int))) + (1:Int)))) z z z (wv (.int .i64 (i64.wrap ((i64.wrap (iShr .u64 (u64.wrap (i64.wrap (z189 + z188))) (1:Int))) + (1:Int)))) z z z (wl_nil (blk_n (tn ?_))))))
 replace hst := hst.pull1.pull1.keep2
 obtain rfl := some_inj hm
 exact ⟨_, Nat.lt_succ_self _, z188, (i64.wrap ((i64.wrap (iShr .u64 (u64.wrap (i64.wrap (z189 + z188))) (1:Int))) + (1:Int))), _, hx196, (fu 0 v142 z (fu 1 (.int .u64 a1) z (fu 2 (.func (.func 39) #[] #[]) z (fu 8 (.int .i64 ((o0.l).length : Int)) z (fu 9 (.int .i64 (i64.wrap ((i64.wrap (iShr .u64 (u64.wrap (i64.wrap (z189 + z188))) (1:Int))) + (1:Int)))) z (fu 10 (.int .i64 z188) z z)))))), hst⟩
}
 {
 replace hm := bif_f hc218 hm
 refine wp_iff (cvb hc218) ?_
 refine wrl (wv (.int .i64 (i64.wrap (iShr .u64 (u64.wrap (i64.wrap (z189 + z188))) (1:Int)))) z z z (wv (.int .i64 (i64.wrap (iShr .u64 (u64.wrap (i64.wrap (z189 + z188))) (1:Int)))) z z z (wl_nil (blk_n (tn ?_)))))
 replace hst := hst.pull1.pull1.keep2
 obtain rfl := some_inj hm
 exact ⟨_, Nat.lt_succ_self _, (i64.wrap (iShr .u64 (u64.wrap (i64.wrap (z189 + z188))) (1:Int))), z189, _, hx196, (fu 0 v142 z (fu 1 (.int .u64 a1) z (fu 2 (.func (.func 39) #[] #[]) z (fu 8 (.int .i64 ((o0.l).length : Int)) z (fu 9 (.int .i64 z189) z (fu 10 (.int .i64 (i64.wrap (iShr .u64 (u64.wrap (i64.wrap (z189 + z188))) (1:Int)))) z z)))))), hst⟩
}
}
 {
 replace hm := bif_f hc198 hm
 refine wp_iff (cvb hc198) ?_
 refine wp_exit (then_x (then_x ?_))
 replace hm := inr_up hm hx196
 refine blk_x (tn ?_)
 replace hst := hst.pull1.keep2
 obtain rfl := some_inj hm
 exact ⟨z189, _, hx223, (fu 0 v142 z (fu 1 (.int .u64 a1) z (fu 2 (.func (.func 39) #[] #[]) z (fu 8 (.int .i64 ((o0.l).length : Int)) z (fu 9 (.int .i64 z189) z z))))), hst⟩
}
}
 {
 clear hst
 rintro _ w224 ⟨z219, σ220, hm, rfl, hst⟩
 dsimp only [session_Table_find_j0] at hm
 refine wp_seq (wrl (wv (.int .i64 z219) z z z (wv (.int .i64 z219) z z z (wv (.int .i64 ((o0.l).length : Int)) z z z (wv (.bool (decide (z219 < ((o0.l).length : Int)))) z z z (wv (.bool (decide (z219 < ((o0.l).length : Int)))) z z z ?_))))))
 refine bsplit (decide (z219 < ((o0.l).length : Int))) (fun hc225 => ?_) (fun hc225 => ?_)
 {
 replace hm := bif_t hc225 hm
 refine wv (.func (.func 39) #[] #[]) ((wanted_eq z z z (cvb hc225)).trans z) z z (wv (v142) ((wanted_eq z z z (cvb hc225)).trans z) z z (wv (.int .i64 z219) ((wanted_eq z z z (cvb hc225)).trans z) z z ?_))
 obtain ⟨x226, hx227, hm⟩ := bind_some hm
 obtain ⟨h228, h229, hi230⟩ := geto_some hx227
 refine wv (.pointer (some (eAddr v142 (z219.toNat * 7 + 0)))) ((wanted_eq z z z (cvb hc225)).trans z) z (x_index z z underlying54 sizeOf71 hst.sv0 h228 h229) ?_
 obtain ⟨cs231, hr232, hc233⟩ := hst.og0 hi230
 obtain ⟨v234, v237, rfl, f235, f238, -⟩ := hr232
 refine wv (.agg #[U6 x226.session, U6 x226.seq, I6 x226.r.E, U6 x226.r.Epoch, U6 x226.r.Index, v234, v237]) ((wanted_eq z z z (cvb hc225)).trans z) z (x_loadN (cs := [U6 x226.session, U6 x226.seq, I6 x226.r.E, U6 x226.r.Epoch, U6 x226.r.Index, v234, v237]) z isAgg71 sizeOf71 (eCells (o := 0) hc233 z)) (wv (.int .u64 a1) ((wanted_eq z z z (cvb hc225)).trans z) z z ?_)
 obtain ⟨t240, ht241, hm⟩ := bind_some hm
 refine wl_call ((wanted_eq z z z (cvb hc225)).trans z) z (x_callv call39 (caps := []) z (vs := [.agg #[U6 x226.session, U6 x226.seq, I6 x226.r.E, U6 x226.r.Epoch, U6 x226.r.Index, v234, v237], U6 a1]) z) ?_
 refine (session_Table_find_1_ref (f235.mono ro_rd) (f238.mono ro_rd) hst.to0 ht241).mono ?_
 rintro _ w242 ⟨rfl, hst⟩
 refine ⟨_, z, ?_⟩
 replace hst := hst.of0
 refine wv (.bool (t240 == (0:Int))) ((wanted_eq z z z (cvb hc225)).trans z) z z (wv (.bool (t240 == (0:Int))) z z (x_pick_t hc225 z z) (wv (.int .i64 z219) z z z (wv (.bool (t240 == (0:Int))) z z z (wl_nil (tn (wp_ret ?_))))))
 refine post_ret (vs := [I6 z219, .bool (t240 == (0:Int))]) results38 (rvs_cons (rv_tmp z) (rvs_cons (rv_tmp z) rvs_nil)) ?_
 replace hst := hst.pull1.keep2
 obtain rfl := some_inj hm
 exact ⟨z219, (t240 == (0:Int)), z, z, hst⟩
}
 {
 replace hm := bif_f hc225 hm
 refine wo hc225 z z z z z z (wo hc225 z z z z z z (wo hc225 z z z z z z (wo hc225 z z z z z z (wo hc225 z z z z z z (wo hc225 z z z z z z (wo hc225 z z z z z z (wo hc225 z z z z z z (wv (.bool false) z z (x_pick_f hc225 z z) (wv (.int .i64 z219) z z z (wv (.bool false) z z z (wl_nil (tn (wp_ret ?_)))))))))))))
 refine post_ret (vs := [I6 z219, .bool false]) results38 (rvs_cons (rv_tmp z) (rvs_cons (rv_tmp z) rvs_nil)) ?_
 replace hst := hst.pull1.keep2
 obtain rfl := some_inj hm
 exact ⟨z219, false, z, z, hst⟩
}
}
}
 clear hst
 rintro _ w250 ⟨z245, z246, rfl, rfl, hst⟩
 refine ⟨_, z, ?_⟩
 try dsimp only at hm
 refine wv (.int .i64 z245) z z z (wv (.bool z246) z z z (wv (.int .i64 z245) z z z (wv (.bool z246) z z z (wl_nil (tn (wp_ret ?_))))))
 replace hst := hst.pull1.pull1
 replace hst := at_session_Table_close (pv := Pt b141 0) (x := o0) hst z
 replace hst := objO_some hst
 obtain rfl := some_inj hm
 refine post_ret (vs := [I6 z245, .bool z246]) results23 (rvs_cons (rv_tmp z) (rvs_cons (rv_tmp z) rvs_nil)) ?_
 exact ⟨z, hst.keep1⟩
}
}

theorem slices_Insert_session_row_session_row_ref {w0 w : World} {I : HL} {R : SP} {a0 : (List session_row)} {r0_0 : Value} {a1 : Int} {a2 : (List session_row)} {r2_0 : Value} (hst : St w0 w I [ownS ty_session_row r0_0 a0, ownS ty_session_row r2_0 a2] R) {r : (List session_row)} (hm : slices_Insert_session_row_session_row a0 a1 a2 = some r) :
  Calls prog 24 #[r0_0, I6 a1, r2_0] w fun e w' => ∃ (q0_0 : Value), e = .returned (q0_0) ∧ St w0 w' I [ownS ty_session_row q0_0 r] R := by {
 unfold slices_Insert_session_row_session_row at hm
 obtain ⟨hg, hm⟩ := gd_some hm
 obtain rfl := some_inj hm
 obtain ⟨hi0, hi1, hrm⟩ := insOK_of hg
 obtain ⟨k, rfl⟩ := Int.eq_ofNat_of_zero_le hi0
 have hsm := room_sum hrm
 have hk : k ≤ a0.length := by omega
 have hs : ∀ w : World, (sizeOf 71).run prog w = .ok ty_session_row.sz w := sizeOf71
 have hs0 : 0 < ty_session_row.sz := Nat.le_of_ble_eq_true rfl
 have hov : ∀ (args : Array Value) (w : World), (callFunc 41 args).run prog w = (Extern.SlicesOverlaps.overlaps #[54, 54] #[4] args >>= fun v => (pure (.value v) : Sem Next)).run prog w := by intro args w; kernel_rfl
 obtain ⟨css, hr, hst⟩ := hst.own_open
 replace hst := hst.pull1
 obtain ⟨dss, hq, hst⟩ := hst.own_open
 replace hst := hst.pull1
 obtain ⟨n, hn⟩ : ∃ n, css.length = n := ⟨_, rfl⟩
 obtain ⟨m, hm'⟩ : ∃ m, dss.length = m := ⟨_, rfl⟩
 have hln : a0.length = n := hr.1.trans hn
 have hlm : a2.length = m := hq.1.trans hm'
 rw [hln] at hsm hk
 rw [hlm] at hsm
 have hsv : SliceV r0_0 n := by have := hst.row_form.2; rwa [hn] at this
 have hsq : SliceV r2_0 m := by have := hst.pull1.row_form.2; rwa [hm'] at this
 have hoc := hr.ones
 have hoq := hq.ones
 have hw1 := wrap_add (a := n) (b := m) (by omega)
 have hw2 := wrap_add (a := k) (b := m) (by omega)
 have hw3 := wrap_sub (a := n + m) (b := k) (by omega) (by omega)
 have hrb := room_of (b := 88) hrm rfl
 rw [hln, hlm] at hrb
 refine calls_start (args := [r0_0, I6 (k : Int), r2_0]) func24 z ntmps24 (Nat.le_of_ble_eq_true z) ?_
 refine wp_seq (wrl (wv ((.slice none 0 0)) z z z (wl_nil (tn (wp_seq (wrl (wv (r0_0) z z z (wv (.int .i64 (k : Int)) z z z (wv ((slcV ty_session_row.sz r0_0 k n)) z z (x_slice (lo := (k : Nat)) (hi := (n : Nat)) underlying54 hs z hsv (by omega) (by omega) (by omega) .i64 .i64 (.inl z) (.inr ⟨z, z⟩)) (wl_nil (tn (wp_seq (wrl (wv (r2_0) z z z (wv (.int .i64 (m : Int)) z z (x_len z underlying54 hsq) (wv (.int .i64 (m : Int)) z z z (wl_nil (tn (wp_seq (wp_seq (wrl (wv (.int .i64 (m : Int)) z z z (wv (.bool ((m : Int) == (0:Int))) z z z ?_)))))))))))))))))))))))
 refine wl_nil (tn ?_)
 refine bsplit ((m : Int) == (0:Int)) (fun hc75 => ?_) (fun hc75 => ?_)
 {
 refine wp_ift (cvb hc75) ?_
 refine wp_seq (wrl (wv (r0_0) z z z (wv (r0_0) z z z (wl_nil (tn (wp_ret (then_r ?_)))))))
 refine post_ret (vs := [r0_0]) results24 (rvs_cons (rv_tmp z) rvs_nil) ?_
 rw [ins_nil (by rw [hlm]; exact hc75)]
 exact ⟨_, z, (hst.own_close hr).keep1⟩
}
 {
 refine wp_iff (cvb hc75) ?_
 have hm0 : m ≠ 0 := fun h => by rw [h] at hc75; cases hc75
 have hq0 : dss ≠ [] := fun h => hm0 (by rw [← hm', h]; rfl)
 refine wp_skip (tn (wp_seq (wrl ?_)))
 refine wv (r0_0) z z z (wv (.int .i64 (n : Int)) z z (x_len z underlying54 hsv) (wv (.int .i64 (n : Int)) z z z (wl_nil (tn (wp_seq (wp_seq (wrl (wv (.int .i64 (k : Int)) z z z (wv (.int .i64 (n : Int)) z z z (wv (.bool ((k : Int) == (n : Int))) z z z (wl_nil (tn ?_))))))))))))
 refine bsplit ((k : Int) == (n : Int)) (fun hc76 => ?_) (fun hc76 => ?_)
 {
 refine wp_ift (cvb hc76) ?_
 refine wp_seq (wrl (wv (r0_0) z z z (wv (r2_0) z z z ?_)))
 replace hst := (hst.own_close hr).pull1.own_close hq
 replace hst := hst.pull1
 obtain ⟨v2, w2, hra, hst⟩ := run_append elem_54 underlying54 hst hst.src1 (room_of hrm z) 54
 refine wl_run (v := v2) (w' := w2) z z (x_append z z hra) ?_
 refine wv (v2) z z z (wl_nil (tn (wp_ret (then_r ?_))))
 refine post_ret (vs := [v2]) results24 (rvs_cons (rv_tmp z) rvs_nil) ?_
 rw [ins_end (by rw [hln]; exact hc76)]
 exact ⟨_, z, hst.keep1⟩
}
 {
 refine wp_iff (cvb hc76) ?_
 have hkn : k ≠ n := fun h => by rw [h] at hc76; simp at hc76
 have hn0 : 0 < n := by omega
 have hc0 : css ≠ [] := fun h => by rw [h] at hn; simp at hn; omega
 refine wp_skip (tn (wp_seq (wp_seq (wrl ?_))))
 refine wv (.int .i64 (n : Int)) z z z (wv (.int .i64 (m : Int)) z z z (wv (.int .i64 ((n + m : Nat) : Int)) z z (ok_cast hw1 z) (wv (r0_0) z z z (wv (.int .i64 (sCap r0_0 : Int)) z z (x_cap z underlying54 hsv) (wv (.bool (decide (((n + m : Nat) : Int) > (sCap r0_0 : Int)))) z z z (wl_nil (tn ?_)))))))
 refine bsplit (decide (((n + m : Nat) : Int) > (sCap r0_0 : Int))) (fun hc77 => ?_) (fun hc77 => ?_)
 {
 refine wp_ift (cvb hc77) ?_
 refine wp_seq (wrl (wv (r0_0) z z z (wv (.int .i64 (k : Int)) z z z (wv ((slcV ty_session_row.sz r0_0 0 k)) z z (x_slice (lo := (0 : Nat)) (hi := (k : Nat)) underlying54 hs z hsv (by omega) (by omega) (by omega) .i64 .i64 (.inr ⟨z, z⟩) (.inl z)) (wv (.int .i64 (n : Int)) z z z (wv (.int .i64 (m : Int)) z z z (wv (.int .i64 ((n + m : Nat) : Int)) z z (ok_cast hw1 z) (wv (.int .i64 (k : Int)) z z z (wv (.int .i64 ((n + m - k : Nat) : Int)) z z (ok_cast hw3 z) ?_)))))))))
 obtain ⟨v2, w2, hra, hs2, zss, hzl, hst⟩ := run_app0 elem_54 underlying3 hst k (n + m - k) (by omega) (by have := of_decide_eq_true hc77; omega) (by rw [show k + (n + m - k) = n + m by omega]; exact hrb) hs0 54
 rw [show k + (n + m - k) = n + m by omega] at hs2
 refine wl_run (v := v2) (w' := w2) z z (x_append z z hra) ?_
 refine wv (v2) z z z (wl_nil (tn (wp_seq (wrl (wv (v2) z z z (wv (.int .i64 (k : Int)) z z z (wv ((slcV ty_session_row.sz v2 k (n + m))) z z (x_slice (lo := (k : Nat)) (hi := ((n + m) : Nat)) underlying54 hs z hs2 (by omega) (by omega) (by omega) .i64 .i64 (.inl z) (.inr ⟨z, z⟩)) (wv (r2_0) z z z ?_))))))))
 obtain ⟨w78, hr79, hst⟩ := run_copyRows (P := prog) (t2 := 54) (ty := 3) underlying54 hs hst hst.pull2 k m (N := n + m) (by first | omega | (simp only [List.length_append, List.length_take, List.length_drop]; omega)) (by first | omega | (simp only [List.length_append, List.length_take, List.length_drop]; omega)) (by omega) (by first | omega | (simp only [List.length_append, List.length_take, List.length_drop]; omega)) (ones_take hoq _)
 refine wl_run (v := .int .i64 (m : Nat)) (w' := w78) z z (x_copy z z hr79) ?_
 refine wl_nil (tn (wp_seq ?_))
 refine wp_region_St hst 9 [0, 1, 2, 3, 4, 5, 6, 7, 8] [0, 0, 0, 6, 15, 0, 0, 96, 255] [] z (by kernel_rfl) (by kernel_rfl) Try.mixed (by kernel_rfl) ?_
 refine wsr (v2) 0 z z z (by kernel_rfl) (fun w hst => z) (wsr (.int .i64 (k : Int)) 1 z z z (by kernel_rfl) (fun w hst => z) (wsr (.int .i64 (m : Int)) 2 z z z (by kernel_rfl) (fun w hst => z) (wsr (.int .i64 ((k + m : Nat) : Int)) 3 z z z (by kernel_rfl) (fun w hst => ok_cast hw2 z) (wsr ((slcV ty_session_row.sz v2 (k + m) (n + m))) 4 z z z (by kernel_rfl) (fun w hst => x_slice (lo := ((k + m) : Nat)) (hi := ((n + m) : Nat)) underlying54 hs z hs2 (by omega) (by omega) (by omega) .i64 .i64 (.inl z) (.inr ⟨z, z⟩)) (wsr (r0_0) 5 z z z (by kernel_rfl) (fun w hst => z) (wsr (.int .i64 (k : Int)) 6 z z z (by kernel_rfl) (fun w hst => z) (wsr ((slcV ty_session_row.sz r0_0 k n)) 7 z z z (by kernel_rfl) (fun w hst => x_slice (lo := (k : Nat)) (hi := (n : Nat)) underlying54 hs z hsv (by omega) (by omega) (by omega) .i64 .i64 (.inl z) (.inr ⟨z, z⟩)) ?_)))))))
 refine ws_e1 8 (by kernel_rfl) ?_
 refine nxe [] (by kernel_rfl) z z ?_
 clear hst
 intro w hst
 obtain ⟨w80, hr81, hst⟩ := run_copyRows (P := prog) (t2 := 54) (ty := 3) underlying54 hs hst (hst.pull1.row_part (l := k) (h := n) hk (by omega)) (k + m) (n - k) (N := n + m) (by first | omega | (simp only [List.length_append, List.length_take, List.length_drop]; omega)) (by first | omega | (simp only [List.length_append, List.length_take, List.length_drop]; omega)) (by omega) (by first | omega | (simp only [List.length_append, List.length_take, List.length_drop]; omega)) (ones_take (ones_drop (ones_take hoc _) _) _)
 refine we_run (v := .int .i64 ((n - k) : Nat)) (w' := w80) z (x_copy z z hr81) ?_
 refine ws_next (pend' := []) hst (by kernel_rfl) pk_nil ?_
 refine ws_nil ?_
 intro w hst
 refine tn (wp_seq (wrl (wv (v2) z z z (wv (v2) z z z (wl_nil (tn (wp_ret (then_r ?_))))))))
 refine post_ret (vs := [v2]) results24 (rvs_cons (rv_tmp z) rvs_nil) ?_
 rw [grow_rows hn hm' hk hzl] at hst
 exact ⟨_, z, (hst.own_close ((hr.take k).app (hq.app (hr.drop k)))).keep1⟩
}
 {
 refine wp_iff (cvb hc77) ?_
 have hup : n + m ≤ sCap r0_0 := by have := of_decide_eq_false hc77; omega
 obtain ⟨ess, hel, hem, hst'⟩ := hst.row_up (n + m) (by omega) hup hc0
 rw [show n + m - css.length = m by omega] at hel
 have hs2 : SliceV (upV r0_0 (n + m)) (n + m) := by have := hst'.row_form.2; rwa [List.length_append, hn, hel] at this
 clear hst
 have hst := hst'
 clear hst'
 refine wp_skip (tn (wp_seq (wrl ?_)))
 refine wv (r0_0) z z z (wv (.int .i64 (n : Int)) z z z (wv (.int .i64 (m : Int)) z z z (wv (.int .i64 ((n + m : Nat) : Int)) z z (ok_cast hw1 z) (wv ((upV r0_0 (n + m))) z z (x_sliceUp underlying54 hs z hsv z hup hn0) (wv ((upV r0_0 (n + m))) z z z (wl_nil (tn (wp_seq (wp_seq (wrl (wv (r2_0) z z z (wv ((upV r0_0 (n + m))) z z z (wv (.int .i64 (k : Int)) z z z (wv (.int .i64 (m : Int)) z z z (wv (.int .i64 ((k + m : Nat) : Int)) z z (ok_cast hw2 z) (wv ((slcV ty_session_row.sz (upV r0_0 (n + m)) (k + m) (n + m))) z z (x_slice (lo := ((k + m) : Nat)) (hi := ((n + m) : Nat)) underlying54 hs z hs2 (by omega) (by omega) (by omega) .i64 .i64 (.inl z) (.inr ⟨z, z⟩)) ?_))))))))))))))))
 refine wv (.bool false) z z (x_ext z z z (hov _) (run_overlaps z underlying54 hs hst.pull1 (k + m) (N := n + m) (by rw [List.length_append]; omega) (by omega) hq0 hs0)) (wv (.bool true) z z z (wl_nil (tn ?_)))
 refine wp_ift z ?_
 refine wp_seq ?_
 refine wp_region_St hst 9 [0, 1, 2, 3, 4, 5, 6, 7, 8] [0, 0, 0, 6, 15, 0, 0, 96, 255] [] z (by kernel_rfl) (by kernel_rfl) Try.mixed (by kernel_rfl) ?_
 refine wsr ((upV r0_0 (n + m))) 0 z z z (by kernel_rfl) (fun w hst => z) (wsr (.int .i64 (k : Int)) 1 z z z (by kernel_rfl) (fun w hst => z) (wsr (.int .i64 (m : Int)) 2 z z z (by kernel_rfl) (fun w hst => z) (wsr (.int .i64 ((k + m : Nat) : Int)) 3 z z z (by kernel_rfl) (fun w hst => ok_cast hw2 z) (wsr ((slcV ty_session_row.sz (upV r0_0 (n + m)) (k + m) (n + m))) 4 z z z (by kernel_rfl) (fun w hst => x_slice (lo := ((k + m) : Nat)) (hi := ((n + m) : Nat)) underlying54 hs z hs2 (by omega) (by omega) (by omega) .i64 .i64 (.inl z) (.inr ⟨z, z⟩)) (wsr ((upV r0_0 (n + m))) 5 z z z (by kernel_rfl) (fun w hst => z) (wsr (.int .i64 (k : Int)) 6 z z z (by kernel_rfl) (fun w hst => z) (wsr ((slcV ty_session_row.sz (upV r0_0 (n + m)) k (n + m))) 7 z z z (by kernel_rfl) (fun w hst => x_slice (lo := (k : Nat)) (hi := ((n + m) : Nat)) underlying54 hs z hs2 (by omega) (by omega) (by omega) .i64 .i64 (.inl z) (.inr ⟨z, z⟩)) ?_)))))))
 refine ws_e1 8 (by kernel_rfl) ?_
 refine nxe [] (by kernel_rfl) z z ?_
 clear hst
 intro w hst
 obtain ⟨w82, hr83, hst⟩ := run_copyRows (P := prog) (t2 := 54) (ty := 3) underlying54 hs hst (hst.row_part (l := k) (h := n + m) (by omega) (by rw [List.length_append]; omega)) (k + m) (n - k) (N := n + m) (by first | omega | (simp only [List.length_append, List.length_take, List.length_drop]; omega)) (by first | omega | (simp only [List.length_append, List.length_take, List.length_drop]; omega)) (by omega) (by first | omega | (simp only [List.length_append, List.length_take, List.length_drop]; omega)) (by rw [stay_src hn hm' hk hel]; exact ones_drop hoc _)
 refine we_run (v := .int .i64 ((n - k) : Nat)) (w' := w82) z (x_copy z z hr83) ?_
 refine ws_next (pend' := []) hst (by kernel_rfl) pk_nil ?_
 refine ws_nil ?_
 intro w hst
 refine tn (wp_seq (wrl (wv ((upV r0_0 (n + m))) z z z (wv (.int .i64 (k : Int)) z z z (wv ((slcV ty_session_row.sz (upV r0_0 (n + m)) k (n + m))) z z (x_slice (lo := (k : Nat)) (hi := ((n + m) : Nat)) underlying54 hs z hs2 (by omega) (by omega) (by omega) .i64 .i64 (.inl z) (.inr ⟨z, z⟩)) (wv (r2_0) z z z ?_))))))
 obtain ⟨w84, hr85, hst⟩ := run_copyRows (P := prog) (t2 := 54) (ty := 3) underlying54 hs hst hst.pull1 k m (N := n + m) (by first | omega | (simp only [List.length_append, List.length_take, List.length_drop]; omega)) (by first | omega | (simp only [List.length_append, List.length_take, List.length_drop]; omega)) (by omega) (by first | omega | (simp only [List.length_append, List.length_take, List.length_drop]; omega)) (ones_take hoq _)
 refine wl_run (v := .int .i64 (m : Nat)) (w' := w84) z z (x_copy z z hr85) ?_
 refine wl_nil (tn (wp_seq (wrl (wv ((upV r0_0 (n + m))) z z z (wv ((upV r0_0 (n + m))) z z z (wl_nil (tn (wp_ret (then_r ?_)))))))))
 refine post_ret (vs := [(upV r0_0 (n + m))]) results24 (rvs_cons (rv_tmp z) rvs_nil) ?_
 rw [stay_rows hn hm' hk hel] at hst
 exact ⟨_, z, (hst.own_close ((hr.take k).app (hq.app (hr.drop k)))).keep1⟩
}
}
}
}

theorem session_Table_Put_ref {w0 w : World} {I : HL} {R : SP} {a0 : (Option session_Table)} {p0 : Value} {a1 : Int} {a2 : Int} {a3 : api_Reply} {r3_0 : Value} {r3_1 : Value} (f3_0 : Ro ty_api_Got I r3_0 a3.Gots) (f3_1 : Ro (tySl ty_api_Pair) I r3_1 a3.Scans) (hst : St w0 w I [objO at_session_Table p0 a0] R) {r : (Int × (Option session_Table))} (hm : session_Table_Put a0 a1 a2 a3 = some r) :
  Calls prog 12 #[p0, U6 a1, U6 a2, .agg #[I6 a3.E, U6 a3.Epoch, U6 a3.Index, r3_0, r3_1]] w fun e w' => e = .returned (.int .i64 r.1) ∧ St w0 w' I [objO at_session_Table p0 r.2] R := by {
 rcases a0 with _ | o0
 {
 obtain ⟨rfl, hst'⟩ := objO_none hst
 clear hst
 have hst := hst'
 clear hst'
 dsimp only [session_Table_Put] at hm
 refine calls_start (args := [.pointer none, U6 a1, U6 a2, .agg #[I6 a3.E, U6 a3.Epoch, U6 a3.Index, r3_0, r3_1]]) func12 z ntmps12 (Nat.le_of_ble_eq_true z) ?_
 refine wp_seq (wrl ?_)
 obtain ⟨b140, w141, ew142, eb143, hst⟩ := hst.box [I6 a3.E, U6 a3.Epoch, U6 a3.Index, r3_0, r3_1] 36
 refine wl_run (v := Pt b140 0) (w' := w141) z z (x_al (by kernel_rfl) ew142 eb143) ?_
 refine wv (.int .i64 (0:Int)) z z z (wl_nil (tn (wp_seq (wp_block (wp_seq (wrl (wv (.pointer none) z z z (wv (.bool true) z z (by kernel_rfl) (wv (.bool true) z z z (wl_nil (tn ?_)))))))))))
 refine wp_ift z ?_
 refine wp_seq (wrl (wv (.int .i64 (2:Int)) z z z (wl_nil (tn (wp_ret (blk_r (then_r ?_)))))))
 replace hst := hst.objO_nil at_session_Table
 obtain rfl := some_inj hm
 refine post_ret (vs := [I6 (2:Int)]) results12 (rvs_cons (rv_tmp z) rvs_nil) ?_
 exact ⟨z, hst.keep1⟩
}
 {
 replace hst := objO_get hst
 dsimp only [session_Table_Put] at hm
 refine calls_start (args := [p0, U6 a1, U6 a2, .agg #[I6 a3.E, U6 a3.Epoch, U6 a3.Index, r3_0, r3_1]]) func12 z ntmps12 (Nat.le_of_ble_eq_true z) ?_
 refine wp_seq (wrl ?_)
 obtain ⟨b145, w146, ew147, eb148, hst⟩ := hst.box [I6 a3.E, U6 a3.Epoch, U6 a3.Index, r3_0, r3_1] 36
 refine wl_run (v := Pt b145 0) (w' := w146) z z (x_al (by kernel_rfl) ew147 eb148) ?_
 refine wv (.int .i64 (0:Int)) z z z (wl_nil (tn (wp_seq (wp_block (wp_seq (wrl (wv (p0) z z z ?_)))))))
 replace hst := hst.pull1
 obtain ⟨b150, v151, rfl, hst'⟩ := at_session_Table_open hst
 clear hst
 have hst := hst'
 clear hst'
 refine wv (.bool false) z z (by kernel_rfl) (wv (.bool false) z z z (wl_nil (tn ?_)))
 refine wp_iff z ?_
 refine wp_seq (wrl (wv (.int .u64 a2) z z z (wv (.bool (a2 == (0:Int))) z z z (wv (.bool (a2 == (0:Int))) z z z (wl_nil (tn ?_))))))
 refine bsplit (a2 == (0:Int)) (fun hc153 => ?_) (fun hc153 => ?_)
 {
 replace hm := bif_t hc153 hm
 refine wp_ift (cvb hc153) ?_
 refine wp_seq (wrl (wv (.int .i64 (1:Int)) z z z (wl_nil (tn (wp_ret (blk_r (then_r ?_)))))))
 replace hst := hst.pull1.pull1
 replace hst := at_session_Table_close (pv := Pt b150 0) (x := o0) hst z
 replace hst := objO_some hst
 obtain rfl := some_inj hm
 refine post_ret (vs := [I6 (1:Int)]) results12 (rvs_cons (rv_tmp z) rvs_nil) ?_
 exact ⟨z, hst.keep1⟩
}
 {
 replace hm := bif_f hc153 hm
 refine wp_iff (cvb hc153) ?_
 refine wp_skip (blk_n (tn (wp_seq (wrl ?_))))
 refine wv (Pt b150 0) z z z (wv (.int .u64 a1) z z z ?_)
 replace hst := hst.pull1.pull1
 replace hst := at_session_Table_close (pv := Pt b150 0) (x := o0) hst z
 replace hst := objO_some hst
 obtain ⟨t154, ht155, hm⟩ := bind_some hm
 refine wc call23 [Pt b150 0, U6 a1] z z z ?_
 refine (session_Table_find_ref hst.to1 ht155).mono ?_
 rintro _ w156 ⟨rfl, hst⟩
 refine ⟨_, z, ?_⟩
 replace hst := hst.of1
 replace hst := objO_get hst
 refine wv (.tuple #[I6 t154.1, .bool t154.2]) z z z (wv (.int .i64 t154.1) z z z (wv (.bool t154.2) z z z (wv (.int .i64 t154.1) z z z (wv (.bool t154.2) z z z (wl_nil (tn ?_))))))
 obtain ⟨y181, hm, hx182⟩ := joinO_some hm
 refine wp_cut (fun a w => ∃ (σ179 : Nat → Value), (session_Table_Put_j0 t154 o0 a1 a2 a3) () = some r ∧ a = Fr 66 (upd (upd (upd (upd (upd (upd σ179 0 (Pt b150 0)) 1 (.int .u64 a1)) 2 (.int .u64 a2)) 7 (Pt b145 0)) 9 (.int .i64 t154.1)) 10 (.bool t154.2)) ∧ St w0 w I [at_session_Table (Pt b150 0) o0, cells b145 [I6 a3.E, U6 a3.Epoch, U6 a3.Index, r3_0, r3_1]] R) ?_ ?_
 {
 refine wp_seq (wrl (wv (.bool t154.2) z z z (wv (.bool t154.2) z z z ?_)))
 refine bsplit t154.2 (fun hc159 => ?_) (fun hc159 => ?_)
 {
 replace hm := bif_t hc159 hm
 refine wv (Pt b150 0) ((wanted_eq z z z (cvb hc159)).trans z) z z ?_
 obtain ⟨b160, v161, e163, hst'⟩ := at_session_Table_open hst
 clear hst
 have e163 := ptr_inj e163
 subst e163
 have hst := hst'
 clear hst'
 refine wv (Pt b150 0) ((wanted_eq z z z (cvb hc159)).trans z) z z (wv (Pt b150 0) ((wanted_eq z z z (cvb hc159)).trans z) z (x_field z underlying56 z sizeOf54 z) (wv (v161) ((wanted_eq z z z (cvb hc159)).trans z) z (x_load z isAgg54 (hst.bc0 z)) (wv (.int .i64 t154.1) ((wanted_eq z z z (cvb hc159)).trans z) z z ?_)))
 obtain ⟨x164, hx165, hm⟩ := bind_some hm
 obtain ⟨h166, h167, hi168⟩ := geto_some hx165
 refine wv (.pointer (some (eAddr v161 (t154.1.toNat * 7 + 0)))) ((wanted_eq z z z (cvb hc159)).trans z) z (x_index z z underlying54 sizeOf71 hst.sv1 h166 h167) (wv (.pointer (some (eAddr v161 (t154.1.toNat * 7 + 1)))) ((wanted_eq z z z (cvb hc159)).trans z) z (x_field_e z underlying71 z sizeOf30 z) ?_)
 obtain ⟨cs169, hr170, hc171⟩ := hst.og1 hi168
 obtain ⟨v172, v175, rfl, f173, f176, -⟩ := hr170
 refine wv (.int .u64 x164.seq) ((wanted_eq z z z (cvb hc159)).trans z) z (x_load z isAgg30 (hc171 1 _ z)) (wv (.int .u64 a2) ((wanted_eq z z z (cvb hc159)).trans z) z z (wv (.bool (decide (x164.seq ≥ a2))) ((wanted_eq z z z (cvb hc159)).trans z) z z (wv (.bool (decide (x164.seq ≥ a2))) z z (x_pick_t hc159 z z) (wl_nil (tn ?_)))))
 refine bsplit (decide (x164.seq ≥ a2)) (fun hc178 => ?_) (fun hc178 => ?_)
 {
 replace hm := bif_t hc178 hm
 refine wp_ift (cvb hc178) ?_
 refine wp_seq (wrl (wv (.int .i64 (10:Int)) z z z (wl_nil (tn (wp_ret (then_r ?_))))))
 replace hm := inr_up hm hx182
 replace hst := hst.pull1.pull1
 replace hst := at_session_Table_close (pv := Pt b150 0) (x := o0) hst z
 replace hst := objO_some hst
 obtain rfl := some_inj hm
 refine post_ret (vs := [I6 (10:Int)]) results12 (rvs_cons (rv_tmp z) rvs_nil) ?_
 exact ⟨z, hst.keep1⟩
}
 {
 replace hm := bif_f hc178 hm
 refine wp_iff (cvb hc178) ?_
 refine wp_skip (tn ?_)
 replace hst := hst.pull1.pull1
 replace hst := at_session_Table_close (pv := Pt b150 0) (x := o0) hst z
 replace hst := hst.pull1.pull1.keep2
 obtain rfl := some_inj hm
 exact ⟨_, hx182, (fu 0 (Pt b150 0) z (fu 1 (.int .u64 a1) z (fu 2 (.int .u64 a2) z (fu 7 (Pt b145 0) z (fu 9 (.int .i64 t154.1) z (fu 10 (.bool t154.2) z z)))))), hst⟩
}
}
 {
 replace hm := bif_f hc159 hm
 refine wo hc159 z z z z z z (wo hc159 z z z z z z (wo hc159 z z z z z z (wo hc159 z z z z z z (wo hc159 z z z z z z (wo hc159 z z z z z z (wo hc159 z z z z z z (wo hc159 z z z z z z (wo hc159 z z z z z z (wo hc159 z z z z z z (wv (.bool false) z z (x_pick_f hc159 z z) (wl_nil (tn ?_))))))))))))
 refine wp_iff z ?_
 refine wp_skip (tn ?_)
 replace hst := hst.pull1.pull1.keep2
 obtain rfl := some_inj hm
 exact ⟨_, hx182, (fu 0 (Pt b150 0) z (fu 1 (.int .u64 a1) z (fu 2 (.int .u64 a2) z (fu 7 (Pt b145 0) z (fu 9 (.int .i64 t154.1) z (fu 10 (.bool t154.2) z z)))))), hst⟩
}
}
 {
 clear hst
 rintro _ w183 ⟨σ179, hm, rfl, hst⟩
 dsimp only [session_Table_Put_j0] at hm
 obtain ⟨y212, hm, hx213⟩ := bind_some hm
 refine wp_cut (fun a w => ∃ (z209 : session_Table) (σ210 : Nat → Value), (session_Table_Put_j1 t154 a2 a3) z209 = some r ∧ a = Fr 66 (upd (upd (upd (upd σ210 0 (Pt b150 0)) 2 (.int .u64 a2)) 7 (Pt b145 0)) 9 (.int .i64 t154.1)) ∧ St w0 w I [at_session_Table (Pt b150 0) z209, cells b145 [I6 a3.E, U6 a3.Epoch, U6 a3.Index, r3_0, r3_1]] R) ?_ ?_
 {
 refine wp_seq (wrl (wv (.bool t154.2) z z z (wv (.bool (!t154.2)) z z z (wl_nil (tn ?_)))))
 refine bsplit (!t154.2) (fun hc184 => ?_) (fun hc184 => ?_)
 {
 replace hm := bif_t hc184 hm
 refine wp_ift (cvb hc184) ?_
 refine wrl (wv (Pt b150 0) z z z (wv (Pt b150 0) z z z ?_))
 obtain ⟨b185, v186, e188, hst'⟩ := at_session_Table_open hst
 clear hst
 have e188 := ptr_inj e188
 subst e188
 have hst := hst'
 clear hst'
 refine wv (Pt b150 0) z z z (wv (Pt b150 0) z z (x_field z underlying56 z sizeOf54 z) (wv (v186) z z (x_load z isAgg54 (hst.bc0 z)) (wv (.int .i64 t154.1) z z z (wv (.int .u64 a1) z z z (wv (.agg #[U6 a1, Zu, Zi, Zu, Zu, Zs, Zs]) z z (by kernel_rfl) ?_)))))
 have f193 : Ro ty_api_Got I (.slice none 0 0) [] := ro_nil
 have f194 : Ro (tySl ty_api_Pair) I (.slice none 0 0) [] := ro_nil
 obtain ⟨b195, w196, ew197, eb198, hst⟩ := hst.lits (E := ty_session_row) (xs := [({ session := a1, seq := (0:Int), r := zero_api_Reply } : session_row)]) [[U6 a1, Zu, Zi, Zu, Zu, Zs, Zs]] 71 1 z (Reps.cons ⟨_, _, z, f193, f194, one_of_sliceV (ro_sliceV f193), one_of_sliceV (ro_sliceV f194)⟩ Reps.nil)
 refine wl_run (v := (.slice (some ⟨b195, 0, none⟩) 1 1)) (w' := w196) z z (x_als (by kernel_rfl) ew197 eb198) ?_
 replace hst := hst.pull2
 obtain ⟨t200, ht201, hm⟩ := bind_some hm
 refine wc call24 [v186, I6 t154.1, (.slice (some ⟨b195, 0, none⟩) 1 1)] z z z ?_
 refine (slices_Insert_session_row_session_row_ref hst.to2 ht201).mono ?_
 rintro _ w202 ⟨v205, rfl, hst⟩
 refine ⟨_, z, ?_⟩
 replace hst := hst.of1
 refine wv (Pt b150 0) z z z (wv (Pt b150 0) z z (x_field z underlying56 z sizeOf54 z) ?_)
 replace hst := hst.pull1
 obtain ⟨w207, hr208, hst⟩ := hst.boxStore1 (P := prog) (t := 54) (cs' := [v205]) 0 v205 (one_of_sliceV hst.sv1) sizeOf54 z z
 refine wl_unit z z (x_unit hr208) ?_
 refine wl_nil (tn ?_)
 replace hst := hst.pull1.pull1
 replace hst := at_session_Table_close (pv := Pt b150 0) (x := ({ l := t200 } : session_Table)) hst z
 replace hst := hst.pull1.pull1.keep2
 obtain rfl := some_inj hm
 exact ⟨({ l := t200 } : session_Table), _, hx213, (fu 0 (Pt b150 0) z (fu 2 (.int .u64 a2) z (fu 7 (Pt b145 0) z (fu 9 (.int .i64 t154.1) z z)))), hst⟩
}
 {
 replace hm := bif_f hc184 hm
 refine wp_iff (cvb hc184) ?_
 refine wp_skip (tn ?_)
 replace hst := hst.pull1.pull1.keep2
 obtain rfl := some_inj hm
 exact ⟨o0, _, hx213, (fu 0 (Pt b150 0) z (fu 2 (.int .u64 a2) z (fu 7 (Pt b145 0) z (fu 9 (.int .i64 t154.1) z z)))), hst⟩
}
}
 {
 clear hst
 rintro _ w214 ⟨z209, σ210, hm, rfl, hst⟩
 dsimp only [session_Table_Put_j1] at hm
 refine wp_seq ?_
 obtain ⟨b215, v216, e218, hst'⟩ := at_session_Table_open hst
 clear hst
 have e218 := ptr_inj e218
 subst e218
 have hst := hst'
 clear hst'
 refine wp_region_St hst 18 [0, 1, 2, 3, 4, 5, 6, 7, 8, 9, 10, 11, 12, 13, 14, 15, 16, 17] [0, 1, 3, 7, 0, 0, 32, 96, 224, 0, 0, 0, 1535, 5631, 13823, 32767, 65535, 131071] [] z (by kernel_rfl) (by kernel_rfl) Try.mixed (by kernel_rfl) ?_
 refine wsr (Pt b150 0) 0 z z z (by kernel_rfl) (fun w hst => z) (wsr (Pt b150 0) 1 z z z (by kernel_rfl) (fun w hst => z) (wsr (Pt b150 0) 2 z z z (by kernel_rfl) (fun w hst => x_field z underlying56 z sizeOf54 z) (wsr (v216) 3 z z z (by kernel_rfl) (fun w hst => x_load z isAgg54 (hst.bc0 z)) (wsr (.int .i64 t154.1) 4 z z z (by kernel_rfl) (fun w hst => z) (wsr (Pt b150 0) 5 z z z (by kernel_rfl) (fun w hst => z) (wsr (Pt b150 0) 6 z z z (by kernel_rfl) (fun w hst => z) (wsr (Pt b150 0) 7 z z z (by kernel_rfl) (fun w hst => x_field z underlying56 z sizeOf54 z) (wsr (v216) 8 z z z (by kernel_rfl) (fun w hst => x_load z isAgg54 (hst.bc0 z)) (wsr (.int .i64 t154.1) 9 z z z (by kernel_rfl) (fun w hst => z) (wsr (.int .u64 a2) 10 z z z (by kernel_rfl) (fun w hst => z) (wsr (.agg #[I6 a3.E, U6 a3.Epoch, U6 a3.Index, r3_0, r3_1]) 11 z z z (by kernel_rfl) (fun w hst => x_loadN (cs := [I6 a3.E, U6 a3.Epoch, U6 a3.Index, r3_0, r3_1]) z isAgg36 sizeOf36 (hst.bcs2 0 z)) ?_)))))))))))
 obtain ⟨x219, hx220, hm⟩ := bind_some hm
 obtain ⟨h221, h222, hi223⟩ := geto_some hx220
 refine wsr (.pointer (some (eAddr v216 (t154.1.toNat * 7 + 0)))) 12 z z z (by kernel_rfl) (fun w hst => x_index z z underlying54 sizeOf71 hst.sv1 h221 h222) (wsr (.pointer (some (eAddr v216 (t154.1.toNat * 7 + 1)))) 13 z z z (by kernel_rfl) (fun w hst => x_field_e z underlying71 z sizeOf30 z) ?_)
 refine ws_e1 14 (by kernel_rfl) ?_
 refine nxe [15, 16, 17] (by kernel_rfl) z z ?_
 clear hst
 intro w hst
 obtain ⟨cs224, hr225, hc226⟩ := hst.og1 hi223
 obtain ⟨v227, v230, rfl, f228, f231, -⟩ := hr225
 replace hst := hst.pull1
 obtain ⟨w233, hr234, hst⟩ := hst.own_store (P := prog) (t := 30) (y := ({ session := x219.session, seq := a2, r := x219.r } : session_row)) hi223 1 (.int .u64 a2) sizeOf30 (Nat.le_of_ble_eq_true z) (oC z oN) (by rintro _ ⟨u236, u237, rfl, f238, f239, o240, o241⟩; exact ⟨u236, u237, rfl, f238, f239, o240, o241⟩)
 have hi235 := set_get hi223 ({ session := x219.session, seq := a2, r := x219.r } : session_row)
 have h242 := set_lt h222 t154.1.toNat ({ session := x219.session, seq := a2, r := x219.r } : session_row)
 refine we_unit z (x_unit hr234) ?_
 refine ws_next (pend' := [(11, .agg #[I6 a3.E, U6 a3.Epoch, U6 a3.Index, r3_0, r3_1]), (9, I6 t154.1)]) hst (by kernel_rfl) (pkr z z (fun w hst => x_loadN (cs := [I6 a3.E, U6 a3.Epoch, U6 a3.Index, r3_0, r3_1]) z isAgg36 sizeOf36 (hst.bcs2 0 z)) (pkr z z (fun w hst => z) pk_nil)) ?_
 refine wsr (.pointer (some (eAddr v216 (t154.1.toNat * 7 + 0)))) 15 z z z (by kernel_rfl) (fun w hst => x_index z z underlying54 sizeOf71 hst.sv0 h221 h242) (wsr (.pointer (some (eAddr v216 (t154.1.toNat * 7 + 2)))) 16 z z z (by kernel_rfl) (fun w hst => x_field_e z underlying71 z sizeOf36 z) ?_)
 refine ws_e1 17 (by kernel_rfl) ?_
 refine nxe [] (by kernel_rfl) z z ?_
 clear hst
 intro w hst
 obtain ⟨cs243, hr244, hc245⟩ := hst.og0 hi235
 obtain ⟨v246, v249, rfl, f247, f250, -⟩ := hr244
 obtain ⟨w252, hr253, hst⟩ := hst.own_store (P := prog) (t := 36) (y := ({ session := ({ session := x219.session, seq := a2, r := x219.r } : session_row).session, seq := ({ session := x219.session, seq := a2, r := x219.r } : session_row).seq, r := a3 } : session_row)) hi235 2 (.agg #[I6 a3.E, U6 a3.Epoch, U6 a3.Index, r3_0, r3_1]) sizeOf36 (Nat.le_of_ble_eq_true z) (oC z (oC z (oC z (oC (one_of_sliceV (ro_sliceV f3_0)) (oC (one_of_sliceV (ro_sliceV f3_1)) oN))))) (by rintro _ ⟨u255, u256, rfl, f257, f258, o259, o260⟩; exact ⟨_, _, rfl, f3_0, f3_1, one_of_sliceV (ro_sliceV f3_0), one_of_sliceV (ro_sliceV f3_1)⟩)
 have hi254 := set_get hi235 ({ session := ({ session := x219.session, seq := a2, r := x219.r } : session_row).session, seq := ({ session := x219.session, seq := a2, r := x219.r } : session_row).seq, r := a3 } : session_row)
 have h261 := set_lt h242 t154.1.toNat ({ session := ({ session := x219.session, seq := a2, r := x219.r } : session_row).session, seq := ({ session := x219.session, seq := a2, r := x219.r } : session_row).seq, r := a3 } : session_row)
 refine we_unit z (x_unit hr253) ?_
 refine ws_next (pend' := []) hst (by kernel_rfl) pk_nil ?_
 refine ws_nil ?_
 intro w hst
 refine tn (wp_seq (wrl (wv (.int .i64 (0:Int)) z z z (wl_nil (tn (wp_ret ?_))))))
 replace hst := hst.pull1
 replace hst := at_session_Table_close (pv := Pt b150 0) (x := ({ l := ((z209.l.set t154.1.toNat ({ session := x219.session, seq := a2, r := x219.r } : session_row)).set t154.1.toNat ({ session := ({ session := x219.session, seq := a2, r := x219.r } : session_row).session, seq := ({ session := x219.session, seq := a2, r := x219.r } : session_row).seq, r := a3 } : session_row)) } : session_Table)) hst z
 replace hst := objO_some hst
 obtain rfl := some_inj hm
 refine post_ret (vs := [Zi]) results12 (rvs_cons (rv_tmp z) rvs_nil) ?_
 exact ⟨z, hst.keep1⟩
}
}
}
}
}

theorem session_Table_Get_ref {w0 w : World} {I : HL} {R : SP} {a0 : (Option session_Table)} {p0 : Value} {a1 : Int} {a2 : Int}  (hst : St w0 w I [objO at_session_Table p0 a0] R) {r : (api_Reply × Int)} (hm : session_Table_Get a0 a1 a2 = some r) :
  Calls prog 14 #[p0, U6 a1, U6 a2] w fun e w' => ∃ (I' : HL) (q0_0 : Value) (q0_1 : Value), e = .returned (.tuple #[.agg #[I6 r.1.E, U6 r.1.Epoch, U6 r.1.Index, q0_0, q0_1], I6 r.2]) ∧ I.le I' ∧ Ro ty_api_Got I' q0_0 r.1.Gots ∧ Ro (tySl ty_api_Pair) I' q0_1 r.1.Scans ∧ St w0 w' I' [objO at_session_Table p0 a0] R := by {
 rcases a0 with _ | o0
 {
 obtain ⟨rfl, hst'⟩ := objO_none hst
 clear hst
 have hst := hst'
 clear hst'
 dsimp only [session_Table_Get] at hm
 refine calls_start (args := [.pointer none, U6 a1, U6 a2]) func14 z ntmps14 (Nat.le_of_ble_eq_true z) ?_
 have hI0 := HL.le.refl I
 refine wp_seq (wrl ?_)
 obtain ⟨b90, w91, ew92, eb93, hst⟩ := hst.box [Zi, Zu, Zu, Zs, Zs] 36
 refine wl_run (v := Pt b90 0) (w' := w91) z z (x_al (by kernel_rfl) ew92 eb93) ?_
 refine wv (.int .i64 (0:Int)) z z z (wl_nil (tn (wp_seq (wrl (wv (.pointer none) z z z (wv (.int .u64 a1) z z z ?_))))))
 replace hst := hst.objO_nil at_session_Table
 obtain ⟨t96, ht97, hm⟩ := bind_some hm
 refine wc call23 [.pointer none, U6 a1] z z z ?_
 refine (session_Table_find_ref hst.to1 ht97).mono ?_
 rintro _ w98 ⟨rfl, hst⟩
 refine ⟨_, z, ?_⟩
 replace hst := hst.of1
 refine wv (.tuple #[I6 t96.1, .bool t96.2]) z z z (wv (.int .i64 t96.1) z z z (wv (.bool t96.2) z z z (wv (.int .i64 t96.1) z z z (wv (.bool t96.2) z z z (wl_nil (tn (wp_seq (wp_block (wp_seq (wrl (wv (.bool t96.2) z z z (wv (.bool (!t96.2)) z z z (wv (.bool (!t96.2)) z z z ?_)))))))))))))
 refine bsplit (!t96.2) (fun hc101 => ?_) (fun hc101 => ?_)
 {
 replace hm := bif_t hc101 hm
 refine wo hc101 z z z z z z (wo hc101 z z z z z z (wo hc101 z z z z z z (wo hc101 z z z z z z (wo hc101 z z z z z z (wo hc101 z z z z z z (wo hc101 z z z z z z (wo hc101 z z z z z z (wo hc101 z z z z z z (wo hc101 z z z z z z (wv (.bool true) z z (x_pick_t hc101 z z) (wv (.bool true) z z z (wl_nil (tn ?_)))))))))))))
 refine wp_ift z ?_
 refine wp_seq (wrl (wv (.agg #[Zi, Zu, Zu, Zs, Zs]) z z (by kernel_rfl) ?_))
 replace hst := hst.pull1
 obtain ⟨w104, hr105, hst⟩ := hst.bx [Zi, Zu, Zu, Zs, Zs] sizeOf36 z (oC z (oC z (oC z (oC z (oC z oN))))) (by kernel_rfl)
 refine wl_unit z z (x_unit hr105) ?_
 refine wv (.int .i64 (2:Int)) z z z (wl_nil (tn (wp_ret (blk_r (then_r ?_)))))
 have f106 : Ro ty_api_Got I (.slice none 0 0) [] := ro_nil
 have f107 : Ro (tySl ty_api_Pair) I (.slice none 0 0) [] := ro_nil
 replace hst := hst.objO_nil at_session_Table
 obtain rfl := some_inj hm
 refine post_ret (vs := [.agg #[Zi, Zu, Zu, Zs, Zs], I6 (2:Int)]) results14 (rvs_cons (rv_cell (cs := [Zi, Zu, Zu, Zs, Zs]) z isAgg36 sizeOf36 (hst.bcs1 0 z)) (rvs_cons (rv_tmp z) rvs_nil)) ?_
 exact ⟨_, Zs, Zs, z, hI0, f106, f107, hst.keep1⟩
}
 {
 replace hm := bif_f hc101 hm
 refine wv (.pointer none) ((wanted_eq z z z (cvb hc101)).trans z) z z ?_
 cases hm
}
}
 {
 replace hst := objO_get hst
 dsimp only [session_Table_Get] at hm
 refine calls_start (args := [p0, U6 a1, U6 a2]) func14 z ntmps14 (Nat.le_of_ble_eq_true z) ?_
 have hI0 := HL.le.refl I
 refine wp_seq (wrl ?_)
 obtain ⟨b110, w111, ew112, eb113, hst⟩ := hst.box [Zi, Zu, Zu, Zs, Zs] 36
 refine wl_run (v := Pt b110 0) (w' := w111) z z (x_al (by kernel_rfl) ew112 eb113) ?_
 refine wv (.int .i64 (0:Int)) z z z (wl_nil (tn (wp_seq (wrl (wv (p0) z z z (wv (.int .u64 a1) z z z ?_))))))
 replace hst := hst.pull1
 replace hst := objO_some hst
 obtain ⟨t115, ht116, hm⟩ := bind_some hm
 refine wc call23 [p0, U6 a1] z z z ?_
 refine (session_Table_find_ref hst.to1 ht116).mono ?_
 rintro _ w117 ⟨rfl, hst⟩
 refine ⟨_, z, ?_⟩
 replace hst := hst.of1
 replace hst := objO_get hst
 refine wv (.tuple #[I6 t115.1, .bool t115.2]) z z z (wv (.int .i64 t115.1) z z z (wv (.bool t115.2) z z z (wv (.int .i64 t115.1) z z z (wv (.bool t115.2) z z z (wl_nil (tn (wp_seq (wp_block (wp_seq (wrl (wv (.bool t115.2) z z z (wv (.bool (!t115.2)) z z z (wv (.bool (!t115.2)) z z z ?_)))))))))))))
 refine bsplit (!t115.2) (fun hc120 => ?_) (fun hc120 => ?_)
 {
 replace hm := bif_t hc120 hm
 refine wo hc120 z z z z z z (wo hc120 z z z z z z (wo hc120 z z z z z z (wo hc120 z z z z z z (wo hc120 z z z z z z (wo hc120 z z z z z z (wo hc120 z z z z z z (wo hc120 z z z z z z (wo hc120 z z z z z z (wo hc120 z z z z z z (wv (.bool true) z z (x_pick_t hc120 z z) (wv (.bool true) z z z (wl_nil (tn ?_)))))))))))))
 refine wp_ift z ?_
 refine wp_seq (wrl (wv (.agg #[Zi, Zu, Zu, Zs, Zs]) z z (by kernel_rfl) ?_))
 replace hst := hst.pull1
 obtain ⟨w123, hr124, hst⟩ := hst.bx [Zi, Zu, Zu, Zs, Zs] sizeOf36 z (oC z (oC z (oC z (oC z (oC z oN))))) (by kernel_rfl)
 refine wl_unit z z (x_unit hr124) ?_
 refine wv (.int .i64 (2:Int)) z z z (wl_nil (tn (wp_ret (blk_r (then_r ?_)))))
 have f125 : Ro ty_api_Got I (.slice none 0 0) [] := ro_nil
 have f126 : Ro (tySl ty_api_Pair) I (.slice none 0 0) [] := ro_nil
 replace hst := hst.pull1
 replace hst := objO_some hst
 obtain rfl := some_inj hm
 refine post_ret (vs := [.agg #[Zi, Zu, Zu, Zs, Zs], I6 (2:Int)]) results14 (rvs_cons (rv_cell (cs := [Zi, Zu, Zu, Zs, Zs]) z isAgg36 sizeOf36 (hst.bcs1 0 z)) (rvs_cons (rv_tmp z) rvs_nil)) ?_
 exact ⟨_, Zs, Zs, z, hI0, f125, f126, hst.keep1⟩
}
 {
 replace hm := bif_f hc120 hm
 refine wv (p0) ((wanted_eq z z z (cvb hc120)).trans z) z z ?_
 obtain ⟨b127, v128, rfl, hst'⟩ := at_session_Table_open hst
 clear hst
 have hst := hst'
 clear hst'
 refine wv (Pt b127 0) ((wanted_eq z z z (cvb hc120)).trans z) z z (wv (Pt b127 0) ((wanted_eq z z z (cvb hc120)).trans z) z (x_field z underlying56 z sizeOf54 z) (wv (v128) ((wanted_eq z z z (cvb hc120)).trans z) z (x_load z isAgg54 (hst.bc0 z)) (wv (.int .i64 t115.1) ((wanted_eq z z z (cvb hc120)).trans z) z z ?_)))
 obtain ⟨x130, hx131, hm⟩ := bind_some hm
 obtain ⟨h132, h133, hi134⟩ := geto_some hx131
 refine wv (.pointer (some (eAddr v128 (t115.1.toNat * 7 + 0)))) ((wanted_eq z z z (cvb hc120)).trans z) z (x_index z z underlying54 sizeOf71 hst.sv1 h132 h133) (wv (.pointer (some (eAddr v128 (t115.1.toNat * 7 + 1)))) ((wanted_eq z z z (cvb hc120)).trans z) z (x_field_e z underlying71 z sizeOf30 z) ?_)
 obtain ⟨cs135, hr136, hc137⟩ := hst.og1 hi134
 obtain ⟨v138, v141, rfl, f139, f142, -⟩ := hr136
 refine wv (.int .u64 x130.seq) ((wanted_eq z z z (cvb hc120)).trans z) z (x_load z isAgg30 (hc137 1 _ z)) (wv (.int .u64 a2) ((wanted_eq z z z (cvb hc120)).trans z) z z (wv (.bool (decide (x130.seq < a2))) ((wanted_eq z z z (cvb hc120)).trans z) z z (wv (.bool (decide (x130.seq < a2))) z z (x_pick_f hc120 z z) (wv (.bool (decide (x130.seq < a2))) z z z (wl_nil (tn ?_))))))
 refine bsplit (decide (x130.seq < a2)) (fun hc144 => ?_) (fun hc144 => ?_)
 {
 replace hm := bif_t hc144 hm
 refine wp_ift (cvb hc144) ?_
 refine wp_seq (wrl (wv (.agg #[Zi, Zu, Zu, Zs, Zs]) z z (by kernel_rfl) ?_))
 replace hst := hst.pull2
 obtain ⟨w147, hr148, hst⟩ := hst.bx [Zi, Zu, Zu, Zs, Zs] sizeOf36 z (oC z (oC z (oC z (oC z (oC z oN))))) (by kernel_rfl)
 refine wl_unit z z (x_unit hr148) ?_
 refine wv (.int .i64 (2:Int)) z z z (wl_nil (tn (wp_ret (blk_r (then_r ?_)))))
 have f149 : Ro ty_api_Got I (.slice none 0 0) [] := ro_nil
 have f150 : Ro (tySl ty_api_Pair) I (.slice none 0 0) [] := ro_nil
 replace hst := hst.pull2.pull2
 replace hst := at_session_Table_close (pv := Pt b127 0) (x := o0) hst z
 replace hst := objO_some hst
 obtain rfl := some_inj hm
 refine post_ret (vs := [.agg #[Zi, Zu, Zu, Zs, Zs], I6 (2:Int)]) results14 (rvs_cons (rv_cell (cs := [Zi, Zu, Zu, Zs, Zs]) z isAgg36 sizeOf36 (hst.bcs1 0 z)) (rvs_cons (rv_tmp z) rvs_nil)) ?_
 exact ⟨_, Zs, Zs, z, hI0, f149, f150, hst.keep1⟩
}
 {
 replace hm := bif_f hc144 hm
 refine wp_iff (cvb hc144) ?_
 refine wp_seq (wrl (wv (Pt b127 0) z z z (wv (Pt b127 0) z z z (wv (Pt b127 0) z z (x_field z underlying56 z sizeOf54 z) (wv (v128) z z (x_load z isAgg54 (hst.bc0 z)) (wv (.int .i64 t115.1) z z z (wv (.pointer (some (eAddr v128 (t115.1.toNat * 7 + 0)))) z z (x_index z z underlying54 sizeOf71 hst.sv1 h132 h133) (wv (.pointer (some (eAddr v128 (t115.1.toNat * 7 + 1)))) z z (x_field_e z underlying71 z sizeOf30 z) (wv (.int .u64 x130.seq) z z (x_load z isAgg30 (hc137 1 _ z)) (wv (.int .u64 a2) z z z (wv (.bool (decide (x130.seq > a2))) z z z (wv (.bool (decide (x130.seq > a2))) z z z (wl_nil (tn ?_))))))))))))))
 refine bsplit (decide (x130.seq > a2)) (fun hc151 => ?_) (fun hc151 => ?_)
 {
 replace hm := bif_t hc151 hm
 refine wp_ift (cvb hc151) ?_
 refine wp_seq (wrl (wv (.agg #[Zi, Zu, Zu, Zs, Zs]) z z (by kernel_rfl) ?_))
 replace hst := hst.pull2
 obtain ⟨w154, hr155, hst⟩ := hst.bx [Zi, Zu, Zu, Zs, Zs] sizeOf36 z (oC z (oC z (oC z (oC z (oC z oN))))) (by kernel_rfl)
 refine wl_unit z z (x_unit hr155) ?_
 refine wv (.int .i64 (10:Int)) z z z (wl_nil (tn (wp_ret (blk_r (then_r ?_)))))
 have f156 : Ro ty_api_Got I (.slice none 0 0) [] := ro_nil
 have f157 : Ro (tySl ty_api_Pair) I (.slice none 0 0) [] := ro_nil
 replace hst := hst.pull2.pull2
 replace hst := at_session_Table_close (pv := Pt b127 0) (x := o0) hst z
 replace hst := objO_some hst
 obtain rfl := some_inj hm
 refine post_ret (vs := [.agg #[Zi, Zu, Zu, Zs, Zs], I6 (10:Int)]) results14 (rvs_cons (rv_cell (cs := [Zi, Zu, Zu, Zs, Zs]) z isAgg36 sizeOf36 (hst.bcs1 0 z)) (rvs_cons (rv_tmp z) rvs_nil)) ?_
 exact ⟨_, Zs, Zs, z, hI0, f156, f157, hst.keep1⟩
}
 {
 replace hm := bif_f hc151 hm
 refine wp_iff (cvb hc151) ?_
 refine wp_skip (blk_n (tn (wp_seq (wrl ?_))))
 refine wv (Pt b127 0) z z z (wv (Pt b127 0) z z z (wv (Pt b127 0) z z (x_field z underlying56 z sizeOf54 z) (wv (v128) z z (x_load z isAgg54 (hst.bc0 z)) (wv (.int .i64 t115.1) z z z (wv (.pointer (some (eAddr v128 (t115.1.toNat * 7 + 0)))) z z (x_index z z underlying54 sizeOf71 hst.sv1 h132 h133) (wv (.pointer (some (eAddr v128 (t115.1.toNat * 7 + 2)))) z z (x_field_e z underlying71 z sizeOf36 z) (wv (.agg #[I6 x130.r.E, U6 x130.r.Epoch, U6 x130.r.Index, v138, v141]) z z (x_loadN (cs := [I6 x130.r.E, U6 x130.r.Epoch, U6 x130.r.Index, v138, v141]) z isAgg36 sizeOf36 (eCells (o := 2) hc137 z)) ?_)))))))
 replace hst := hst.pull2
 obtain ⟨w158, hr159, hst⟩ := hst.bx [I6 x130.r.E, U6 x130.r.Epoch, U6 x130.r.Index, v138, v141] sizeOf36 z (oC z (oC z (oC z (oC (one_of_sliceV (ro_sliceV f139)) (oC (one_of_sliceV (ro_sliceV f142)) oN))))) (by kernel_rfl)
 refine wl_unit z z (x_unit hr159) ?_
 refine wv (.int .i64 (0:Int)) z z z (wl_nil (tn (wp_ret ?_)))
 replace hst := hst.pull2.pull2
 replace hst := at_session_Table_close (pv := Pt b127 0) (x := o0) hst z
 replace hst := objO_some hst
 obtain rfl := some_inj hm
 refine post_ret (vs := [.agg #[I6 x130.r.E, U6 x130.r.Epoch, U6 x130.r.Index, v138, v141], Zi]) results14 (rvs_cons (rv_cell (cs := [I6 x130.r.E, U6 x130.r.Epoch, U6 x130.r.Index, v138, v141]) z isAgg36 sizeOf36 (hst.bcs1 0 z)) (rvs_cons (rv_tmp z) rvs_nil)) ?_
 exact ⟨_, v138, v141, z, hI0, f139, f142, hst.keep1⟩
}
}
}
}
}

theorem law14_awake_ref {w0 w : World} {I : HL} {R : SP}   (hst : St w0 w I [] R) {r : (Bool)} (hm : law14_awake = some r) :
  Calls prog 7 #[] w fun e w' => ∃ (I' : HL), e = .returned (.bool r) ∧ I.le I' ∧ St w0 w' I' [] R := by {
 unfold law14_awake at hm
 refine calls_start (args := []) func7 z ntmps7 (Nat.le_of_ble_eq_true z) ?_
 have hI0 := HL.le.refl I
 refine wp_seq (wrl (wv (.bool false) z z z (wl_nil (tn (wp_seq (wrl ?_))))))
 obtain ⟨t85, ht86, hm⟩ := bind_some hm
 refine wc call8 [] z z z ?_
 refine (session_New_ref hst.to0 ht86).mono ?_
 rintro _ w87 ⟨v90, rfl, hst⟩
 refine ⟨_, z, ?_⟩
 replace hst := hst.of1
 refine wv (v90) z z z (wl_nil (tn (wp_seq (wp_seq (wrl (wv (v90) z z z (wv (.agg #[Zi, U6 (9:Int), Zu, Zs, Zs]) z z (by kernel_rfl) ?_)))))))
 replace hst := objO_some hst
 have f94 : Ro ty_api_Got I (.slice none 0 0) [] := ro_nil
 have f95 : Ro (tySl ty_api_Pair) I (.slice none 0 0) [] := ro_nil
 obtain ⟨t96, ht97, hm⟩ := bind_some hm
 refine wc call12 [v90, U6 (1:Int), U6 (2:Int), .agg #[Zi, U6 (9:Int), Zu, Zs, Zs]] z z z ?_
 refine (session_Table_Put_ref f94 f95 hst.to1 ht97).mono ?_
 rintro _ w98 ⟨rfl, hst⟩
 refine ⟨_, z, ?_⟩
 replace hst := hst.of1
 rcases he102 : t96.2 with _ | y101
 · rw [he102] at hm; cases hm
 rw [he102] at hm hst; dsimp only at hm; replace hst := objO_get hst
 refine wv (.bool (t96.1 != (0:Int))) z z z (wl_nil (tn ?_))
 refine bsplit (t96.1 != (0:Int)) (fun hc103 => ?_) (fun hc103 => ?_)
 {
 replace hm := bif_t hc103 hm
 refine wp_ift (cvb hc103) ?_
 refine wp_seq (wrl (wv (.bool false) z z z (wl_nil (tn (wp_ret (then_r ?_))))))
 obtain rfl := some_inj hm
 refine post_ret (vs := [.bool false]) results7 (rvs_cons (rv_tmp z) rvs_nil) ?_
 exact ⟨_, z, hI0, hst.keep0⟩
}
 {
 replace hm := bif_f hc103 hm
 refine wp_iff (cvb hc103) ?_
 refine wp_skip (tn (wp_seq (wrl ?_)))
 refine wv (v90) z z z ?_
 replace hst := objO_some hst
 obtain ⟨t104, ht105, hm⟩ := bind_some hm
 refine wc call14 [v90, U6 (1:Int), U6 (2:Int)] z z z ?_
 refine (session_Table_Get_ref hst.to1 ht105).mono ?_
 rintro _ w106 ⟨I107, v109, v112, rfl, hI108, f111, f114, hst⟩
 refine ⟨_, z, ?_⟩
 replace hst := hst.of1
 replace f94 := f94.mono (ro_le hI108)
 replace f95 := f95.mono (ro_le hI108)
 replace hI0 := hI0.trans hI108
 replace hst := objO_get hst
 refine wv (.tuple #[.agg #[I6 t104.1.E, U6 t104.1.Epoch, U6 t104.1.Index, v109, v112], I6 t104.2]) z z z (wv (.agg #[I6 t104.1.E, U6 t104.1.Epoch, U6 t104.1.Index, v109, v112]) z z z (wv (.int .i64 t104.2) z z z ?_))
 obtain ⟨b117, w118, ew119, eb120, hst⟩ := hst.box [Zi, Zu, Zu, Zs, Zs] 36
 refine wl_run (v := Pt b117 0) (w' := w118) z z (x_al (by kernel_rfl) ew119 eb120) ?_
 obtain ⟨w122, hr123, hst⟩ := hst.bx [I6 t104.1.E, U6 t104.1.Epoch, U6 t104.1.Index, v109, v112] sizeOf36 z (oC z (oC z (oC z (oC (one_of_sliceV (ro_sliceV f111)) (oC (one_of_sliceV (ro_sliceV f114)) oN))))) (by kernel_rfl)
 refine wl_unit z z (x_unit hr123) ?_
 refine wv (.int .i64 t104.2) z z z (wl_nil (tn (wp_seq (wrl (wv (v90) z z z ?_)))))
 replace hst := hst.pull1
 replace hst := objO_some hst
 obtain ⟨t124, ht125, hm⟩ := bind_some hm
 refine wc call14 [v90, U6 (1:Int), U6 (1:Int)] z z z ?_
 refine (session_Table_Get_ref hst.to1 ht125).mono ?_
 rintro _ w126 ⟨I127, v129, v132, rfl, hI128, f131, f134, hst⟩
 refine ⟨_, z, ?_⟩
 replace hst := hst.of1
 replace f94 := f94.mono (ro_le hI128)
 replace f95 := f95.mono (ro_le hI128)
 replace f111 := f111.mono (ro_le hI128)
 replace f114 := f114.mono (ro_le hI128)
 replace hI0 := hI0.trans hI128
 replace hst := objO_get hst
 refine wv (.tuple #[.agg #[I6 t124.1.E, U6 t124.1.Epoch, U6 t124.1.Index, v129, v132], I6 t124.2]) z z z (wv (.agg #[I6 t124.1.E, U6 t124.1.Epoch, U6 t124.1.Index, v129, v132]) z z z (wv (.int .i64 t124.2) z z z ?_))
 obtain ⟨b137, w138, ew139, eb140, hst⟩ := hst.box [Zi, Zu, Zu, Zs, Zs] 36
 refine wl_run (v := Pt b137 0) (w' := w138) z z (x_al (by kernel_rfl) ew139 eb140) ?_
 obtain ⟨w142, hr143, hst⟩ := hst.bx [I6 t124.1.E, U6 t124.1.Epoch, U6 t124.1.Index, v129, v132] sizeOf36 z (oC z (oC z (oC z (oC (one_of_sliceV (ro_sliceV f131)) (oC (one_of_sliceV (ro_sliceV f134)) oN))))) (by kernel_rfl)
 refine wl_unit z z (x_unit hr143) ?_
 refine wv (.int .i64 t124.2) z z z (wl_nil (tn (wp_seq (wrl (wv (v90) z z z ?_)))))
 replace hst := hst.pull1
 replace hst := objO_some hst
 obtain ⟨t144, ht145, hm⟩ := bind_some hm
 refine wc call14 [v90, U6 (1:Int), U6 (3:Int)] z z z ?_
 refine (session_Table_Get_ref hst.to1 ht145).mono ?_
 rintro _ w146 ⟨I147, v149, v152, rfl, hI148, f151, f154, hst⟩
 refine ⟨_, z, ?_⟩
 replace hst := hst.of1
 replace f94 := f94.mono (ro_le hI148)
 replace f95 := f95.mono (ro_le hI148)
 replace f111 := f111.mono (ro_le hI148)
 replace f114 := f114.mono (ro_le hI148)
 replace f131 := f131.mono (ro_le hI148)
 replace f134 := f134.mono (ro_le hI148)
 replace hI0 := hI0.trans hI148
 replace hst := objO_get hst
 refine wv (.tuple #[.agg #[I6 t144.1.E, U6 t144.1.Epoch, U6 t144.1.Index, v149, v152], I6 t144.2]) z z z (wv (.agg #[I6 t144.1.E, U6 t144.1.Epoch, U6 t144.1.Index, v149, v152]) z z z (wv (.int .i64 t144.2) z z z ?_))
 obtain ⟨b157, w158, ew159, eb160, hst⟩ := hst.box [Zi, Zu, Zu, Zs, Zs] 36
 refine wl_run (v := Pt b157 0) (w' := w158) z z (x_al (by kernel_rfl) ew159 eb160) ?_
 obtain ⟨w162, hr163, hst⟩ := hst.bx [I6 t144.1.E, U6 t144.1.Epoch, U6 t144.1.Index, v149, v152] sizeOf36 z (oC z (oC z (oC z (oC (one_of_sliceV (ro_sliceV f151)) (oC (one_of_sliceV (ro_sliceV f154)) oN))))) (by kernel_rfl)
 refine wl_unit z z (x_unit hr163) ?_
 refine wv (.int .i64 t144.2) z z z (wl_nil (tn (wp_seq (wrl (wv (.int .i64 t104.2) z z z (wv (.bool (t104.2 == (0:Int))) z z z (wv (.bool (t104.2 == (0:Int))) z z z ?_)))))))
 refine bsplit (t104.2 == (0:Int)) (fun hc164 => ?_) (fun hc164 => ?_)
 {
 replace hm := bif_t hc164 hm
 refine wv (Pt b117 1) ((wanted_eq z z z (cvb hc164)).trans z) z (x_field z underlying36 z sizeOf30 z) (wv (.int .u64 t104.1.Epoch) ((wanted_eq z z z (cvb hc164)).trans z) z (x_load z isAgg30 (hst.bc3 z)) (wv (.bool (t104.1.Epoch == (9:Int))) ((wanted_eq z z z (cvb hc164)).trans z) z z (wv (.bool (t104.1.Epoch == (9:Int))) z z (x_pick_t hc164 z z) (wv (.bool (t104.1.Epoch == (9:Int))) z z z ?_))))
 refine bsplit (t104.1.Epoch == (9:Int)) (fun hc165 => ?_) (fun hc165 => ?_)
 {
 replace hm := bif_t hc165 hm
 refine wv (.int .i64 t124.2) ((wanted_eq z z z (cvb hc165)).trans z) z z (wv (.bool (t124.2 == (10:Int))) ((wanted_eq z z z (cvb hc165)).trans z) z z (wv (.bool (t124.2 == (10:Int))) z z (x_pick_t hc165 z z) (wv (.bool (t124.2 == (10:Int))) z z z ?_)))
 refine bsplit (t124.2 == (10:Int)) (fun hc166 => ?_) (fun hc166 => ?_)
 {
 replace hm := bif_t hc166 hm
 refine wv (.int .i64 t144.2) ((wanted_eq z z z (cvb hc166)).trans z) z z (wv (.bool (t144.2 == (2:Int))) ((wanted_eq z z z (cvb hc166)).trans z) z z (wv (.bool (t144.2 == (2:Int))) z z (x_pick_t hc166 z z) (wv (.bool (t144.2 == (2:Int))) z z z (wl_nil (tn (wp_ret ?_))))))
 obtain rfl := some_inj hm
 refine post_ret (vs := [.bool (t144.2 == (2:Int))]) results7 (rvs_cons (rv_tmp z) rvs_nil) ?_
 exact ⟨_, z, hI0, hst.keep0⟩
}
 {
 replace hm := bif_f hc166 hm
 refine wo hc166 z z z z z z (wo hc166 z z z z z z (wv (.bool false) z z (x_pick_f hc166 z z) (wv (.bool false) z z z (wl_nil (tn (wp_ret ?_))))))
 obtain rfl := some_inj hm
 refine post_ret (vs := [.bool false]) results7 (rvs_cons (rv_tmp z) rvs_nil) ?_
 exact ⟨_, z, hI0, hst.keep0⟩
}
}
 {
 replace hm := bif_f hc165 hm
 refine wo hc165 z z z z z z (wo hc165 z z z z z z (wv (.bool false) z z (x_pick_f hc165 z z) (wv (.bool false) z z z (wz z z z z z z (wz z z z z z z (wv (.bool false) z z (x_pick_f z z z) (wv (.bool false) z z z (wl_nil (tn (wp_ret ?_))))))))))
 obtain rfl := some_inj hm
 refine post_ret (vs := [.bool false]) results7 (rvs_cons (rv_tmp z) rvs_nil) ?_
 exact ⟨_, z, hI0, hst.keep0⟩
}
}
 {
 replace hm := bif_f hc164 hm
 refine wo hc164 z z z z z z (wo hc164 z z z z z z (wo hc164 z z z z z z (wv (.bool false) z z (x_pick_f hc164 z z) (wv (.bool false) z z z (wz z z z z z z (wz z z z z z z (wv (.bool false) z z (x_pick_f z z z) (wv (.bool false) z z z (wz z z z z z z (wz z z z z z z (wv (.bool false) z z (x_pick_f z z z) (wv (.bool false) z z z ?_))))))))))))
 refine wl_nil (tn (wp_ret ?_))
 obtain rfl := some_inj hm
 refine post_ret (vs := [.bool false]) results7 (rvs_cons (rv_tmp z) rvs_nil) ?_
 exact ⟨_, z, hI0, hst.keep0⟩
}
}
}

theorem octet_Read_ref {w0 w : World} {I : HL} {R : SP} {a0 : (List Int)} {r0_0 : Value} (f0_0 : Ro (tyInt .u8) I r0_0 a0) (hst : St w0 w I [] R) {r : (octet_Reader)} (hm : octet_Read a0 = some r) :
  Calls prog 27 #[r0_0] w fun e w' => ∃ (q0 : Value), e = .returned (q0) ∧ St w0 w' I [at_octet_Reader q0 r] R := by {
 unfold octet_Read at hm
 refine calls_start (args := [r0_0]) func27 z ntmps27 (Nat.le_of_ble_eq_true z) ?_
 refine wp_seq (wrl (wv (.pointer none) z z z (wl_nil (tn (wp_seq (wrl (wv (r0_0) z z z (wv (.agg #[r0_0, .bool false]) z z (by obtain ⟨_, _, hv_, _⟩ := (ro_sliceV f0_0); rw [hv_]; kernel_rfl) ?_))))))))
 obtain ⟨b36, w37, ew38, eb39, hst⟩ := hst.box [r0_0, .bool false] 93
 refine wl_run (v := Pt b36 0) (w' := w37) z z (x_al (by kernel_rfl) ew38 eb39) ?_
 refine wv (Pt b36 0) z z z (wl_nil (tn (wp_ret ?_)))
 replace hst := at_octet_Reader_close (pv := Pt b36 0) (x := ({ p := a0, bad := false } : octet_Reader)) hst ⟨z, f0_0⟩
 obtain rfl := some_inj hm
 refine post_ret (vs := [Pt b36 0]) results27 (rvs_cons (rv_tmp z) rvs_nil) ?_
 exact ⟨.pointer (some ⟨b36, 0, none⟩), z, hst.keep1⟩
}

theorem octet_Reader_Bad_ref {w0 w : World} {I : HL} {R : SP} {a0 : octet_Reader} {p0 : Value}  (hst : St w0 w I [at_octet_Reader p0 a0] R) {r : (Bool)} (hm : octet_Reader_Bad a0 = some r) :
  Calls prog 45 #[p0] w fun e w' => e = .returned (.bool r) ∧ St w0 w' I [at_octet_Reader p0 a0] R := by {
 unfold octet_Reader_Bad at hm
 refine calls_start (args := [p0]) func45 z ntmps45 (Nat.le_of_ble_eq_true z) ?_
 refine wp_seq (wrl (wv (.bool false) z z z (wl_nil (tn (wp_seq (wrl (wv (p0) z z z ?_)))))))
 obtain ⟨b48, v49, ⟨rfl, f51⟩, hst'⟩ := at_octet_Reader_open hst
 clear hst
 have hst := hst'
 clear hst'
 refine wv (.bool false) z z (by kernel_rfl) (wv (.bool false) z z z (wv (Pt b48 0) ((wanted_eq z z z z).trans z) z z (wv (Pt b48 0) ((wanted_eq z z z z).trans z) z z (wv (Pt b48 1) ((wanted_eq z z z z).trans z) z (x_field z underlying93 z sizeOf4 z) (wv (.bool a0.bad) ((wanted_eq z z z z).trans z) z (x_load z isAgg4 (hst.bc0 z)) (wv (.bool a0.bad) z z (x_pick_f z z z) (wv (.bool a0.bad) z z z (wl_nil (tn (wp_ret ?_))))))))))
 replace hst := at_octet_Reader_close (pv := Pt b48 0) (x := a0) hst ⟨z, f51⟩
 obtain rfl := some_inj hm
 refine post_ret (vs := [.bool a0.bad]) results45 (rvs_cons (rv_tmp z) rvs_nil) ?_
 exact ⟨z, hst.keep1⟩
}

theorem octet_Reader_Left_ref {w0 w : World} {I : HL} {R : SP} {a0 : octet_Reader} {p0 : Value}  (hst : St w0 w I [at_octet_Reader p0 a0] R) {r : (Int)} (hm : octet_Reader_Left a0 = some r) :
  Calls prog 29 #[p0] w fun e w' => e = .returned (.int .i64 r) ∧ St w0 w' I [at_octet_Reader p0 a0] R := by {
 unfold octet_Reader_Left at hm
 refine calls_start (args := [p0]) func29 z ntmps29 (Nat.le_of_ble_eq_true z) ?_
 refine wp_seq (wrl (wv (.int .i64 (0:Int)) z z z (wl_nil (tn (wp_seq (wp_seq (wrl (wv (p0) z z z ?_))))))))
 obtain ⟨t53, ht54, hm⟩ := bind_some hm
 refine wc call45 [p0] z z z ?_
 refine (octet_Reader_Bad_ref hst.to1 ht54).mono ?_
 rintro _ w55 ⟨rfl, hst⟩
 refine ⟨_, z, ?_⟩
 replace hst := hst.of1
 refine wl_nil (tn ?_)
 refine bsplit t53 (fun hc58 => ?_) (fun hc58 => ?_)
 {
 replace hm := bif_t hc58 hm
 refine wp_ift (cvb hc58) ?_
 refine wp_seq (wrl (wv (.int .i64 (0:Int)) z z z (wl_nil (tn (wp_ret (then_r ?_))))))
 obtain rfl := some_inj hm
 refine post_ret (vs := [Zi]) results29 (rvs_cons (rv_tmp z) rvs_nil) ?_
 exact ⟨z, hst.keep1⟩
}
 {
 replace hm := bif_f hc58 hm
 refine wp_iff (cvb hc58) ?_
 refine wp_skip (tn (wp_seq (wrl ?_)))
 refine wv (p0) z z z ?_
 obtain ⟨b59, v60, ⟨rfl, f62⟩, hst'⟩ := at_octet_Reader_open hst
 clear hst
 have hst := hst'
 clear hst'
 refine wv (Pt b59 0) z z z (wv (Pt b59 0) z z (x_field z underlying93 z sizeOf22 z) (wv (v60) z z (x_load z isAgg22 (hst.bc0 z)) (wv (.int .i64 ((a0.p).length : Int)) z z (x_len z underlying22 (ro_sliceV f62)) (wv (.int .i64 ((a0.p).length : Int)) z z z (wl_nil (tn (wp_ret ?_)))))))
 replace hst := at_octet_Reader_close (pv := Pt b59 0) (x := a0) hst ⟨z, f62⟩
 obtain rfl := some_inj hm
 refine post_ret (vs := [I6 ((a0.p).length : Int)]) results29 (rvs_cons (rv_tmp z) rvs_nil) ?_
 exact ⟨z, hst.keep1⟩
}
}

theorem octet_Reader_spoil_ref {w0 w : World} {I : HL} {R : SP} {a0 : octet_Reader} {p0 : Value}  (hst : St w0 w I [at_octet_Reader p0 a0] R) {r : (octet_Reader)} (hm : octet_Reader_spoil a0 = some r) :
  Calls prog 44 #[p0] w fun e w' => e = .returned (.tuple #[]) ∧ St w0 w' I [at_octet_Reader p0 r] R := by {
 unfold octet_Reader_spoil at hm
 refine calls_start (args := [p0]) func44 z ntmps44 (Nat.le_of_ble_eq_true z) ?_
 refine wp_seq (wrl (wv (p0) z z z ?_))
 obtain ⟨b61, v62, ⟨rfl, f64⟩, hst'⟩ := at_octet_Reader_open hst
 clear hst
 have hst := hst'
 clear hst'
 refine wv (.bool true) z z (by kernel_rfl) (wl_nil (tn ?_))
 refine wp_ift z ?_
 refine wrl (wv (Pt b61 0) z z z (wv (Pt b61 0) z z z (wv (Pt b61 1) z z (x_field z underlying93 z sizeOf4 z) ?_)))
 obtain ⟨w65, hr66, hst⟩ := hst.by_ [v62, .bool true] 1 (.bool true) sizeOf4 z (oC z oN) (by kernel_rfl)
 refine wl_unit z z (x_unit hr66) ?_
 refine wl_nil ?_
 replace hst := at_octet_Reader_close (pv := Pt b61 0) (x := ({ p := a0.p, bad := true } : octet_Reader)) hst ⟨z, f64⟩
 obtain rfl := some_inj hm
 refine post_end (vs := []) results44 rvs_nil ?_
 exact ⟨z, hst.keep1⟩
}

theorem octet_Reader_Num_ref {w0 w : World} {I : HL} {R : SP} {a0 : octet_Reader} {p0 : Value} {a1 : Int}  (hst : St w0 w I [at_octet_Reader p0 a0] R) {r : (Int × octet_Reader)} (hm : octet_Reader_Num a0 a1 = some r) :
  Calls prog 30 #[p0, I6 a1] w fun e w' => e = .returned (.int .u64 r.1) ∧ St w0 w' I [at_octet_Reader p0 r.2] R := by {
 unfold octet_Reader_Num at hm
 refine calls_start (args := [p0, I6 a1]) func30 z ntmps30 (Nat.le_of_ble_eq_true z) ?_
 refine wp_seq (wrl (wv (.int .u64 (0:Int)) z z z (wl_nil (tn (wp_seq (wp_seq (wrl (wv (p0) z z z ?_))))))))
 obtain ⟨b138, v139, ⟨rfl, f141⟩, hst'⟩ := at_octet_Reader_open hst
 clear hst
 have hst := hst'
 clear hst'
 refine wv (.bool false) z z (by kernel_rfl) (wv (.bool false) z z z (wv (Pt b138 0) ((wanted_eq z z z z).trans z) z z (wv (Pt b138 0) ((wanted_eq z z z z).trans z) z z (wv (Pt b138 1) ((wanted_eq z z z z).trans z) z (x_field z underlying93 z sizeOf4 z) (wv (.bool a0.bad) ((wanted_eq z z z z).trans z) z (x_load z isAgg4 (hst.bc0 z)) (wv (.bool a0.bad) z z (x_pick_f z z z) (wv (.bool a0.bad) z z z ?_)))))))
 refine bsplit a0.bad (fun hc142 => ?_) (fun hc142 => ?_)
 {
 replace hm := bif_t hc142 hm
 refine wo hc142 z z z z z z (wo hc142 z z z z z z (wv (.bool true) z z (x_pick_t hc142 z z) (wv (.bool true) z z z (wz z z z z z z (wz z z z z z z (wz z z z z z z (wz z z z z z z (wz z z z z z z (wz z z z z z z (wz z z z z z z (wv (.bool true) z z (x_pick_t z z z) (wl_nil (tn ?_)))))))))))))
 refine wp_ift z ?_
 refine wp_seq (wrl (wv (Pt b138 0) z z z ?_))
 replace hst := at_octet_Reader_close (pv := Pt b138 0) (x := a0) hst ⟨z, f141⟩
 obtain ⟨t143, ht144, hm⟩ := bind_some hm
 refine wc call44 [Pt b138 0] z z z ?_
 refine (octet_Reader_spoil_ref hst.to1 ht144).mono ?_
 rintro _ w145 ⟨rfl, hst⟩
 refine ⟨_, z, ?_⟩
 replace hst := hst.of1
 refine wl_nil (tn (wp_seq (wrl (wv (.int .u64 (0:Int)) z z z (wl_nil (tn (wp_ret (then_r ?_))))))))
 obtain rfl := some_inj hm
 refine post_ret (vs := [Zu]) results30 (rvs_cons (rv_tmp z) rvs_nil) ?_
 exact ⟨z, hst.keep1⟩
}
 {
 replace hm := bif_f hc142 hm
 refine wv (.int .i64 a1) ((wanted_eq z z z (cvb hc142)).trans z) z z (wv (.bool (decide (a1 < (0:Int)))) ((wanted_eq z z z (cvb hc142)).trans z) z z (wv (.bool (decide (a1 < (0:Int)))) z z (x_pick_f hc142 z z) (wv (.bool (decide (a1 < (0:Int)))) z z z ?_)))
 refine bsplit (decide (a1 < (0:Int))) (fun hc148 => ?_) (fun hc148 => ?_)
 {
 replace hm := bif_t hc148 hm
 refine wo hc148 z z z z z z (wo hc148 z z z z z z (wo hc148 z z z z z z (wo hc148 z z z z z z (wo hc148 z z z z z z (wo hc148 z z z z z z (wo hc148 z z z z z z (wv (.bool true) z z (x_pick_t hc148 z z) (wl_nil (tn ?_)))))))))
 refine wp_ift z ?_
 refine wp_seq (wrl (wv (Pt b138 0) z z z ?_))
 replace hst := at_octet_Reader_close (pv := Pt b138 0) (x := a0) hst ⟨z, f141⟩
 obtain ⟨t149, ht150, hm⟩ := bind_some hm
 refine wc call44 [Pt b138 0] z z z ?_
 refine (octet_Reader_spoil_ref hst.to1 ht150).mono ?_
 rintro _ w151 ⟨rfl, hst⟩
 refine ⟨_, z, ?_⟩
 replace hst := hst.of1
 refine wl_nil (tn (wp_seq (wrl (wv (.int .u64 (0:Int)) z z z (wl_nil (tn (wp_ret (then_r ?_))))))))
 obtain rfl := some_inj hm
 refine post_ret (vs := [Zu]) results30 (rvs_cons (rv_tmp z) rvs_nil) ?_
 exact ⟨z, hst.keep1⟩
}
 {
 replace hm := bif_f hc148 hm
 refine wv (Pt b138 0) ((wanted_eq z z z (cvb hc148)).trans z) z z (wv (Pt b138 0) ((wanted_eq z z z (cvb hc148)).trans z) z z (wv (Pt b138 0) ((wanted_eq z z z (cvb hc148)).trans z) z (x_field z underlying93 z sizeOf22 z) (wv (v139) ((wanted_eq z z z (cvb hc148)).trans z) z (x_load z isAgg22 (hst.bc0 z)) (wv (.int .i64 ((a0.p).length : Int)) ((wanted_eq z z z (cvb hc148)).trans z) z (x_len z underlying22 (ro_sliceV f141)) (wv (.int .i64 a1) ((wanted_eq z z z (cvb hc148)).trans z) z z (wv (.bool (decide (((a0.p).length : Int) < a1))) ((wanted_eq z z z (cvb hc148)).trans z) z z (wv (.bool (decide (((a0.p).length : Int) < a1))) z z (x_pick_f hc148 z z) (wl_nil (tn ?_)))))))))
 refine bsplit (decide (((a0.p).length : Int) < a1)) (fun hc154 => ?_) (fun hc154 => ?_)
 {
 replace hm := bif_t hc154 hm
 refine wp_ift (cvb hc154) ?_
 refine wp_seq (wrl (wv (Pt b138 0) z z z ?_))
 replace hst := at_octet_Reader_close (pv := Pt b138 0) (x := a0) hst ⟨z, f141⟩
 obtain ⟨t155, ht156, hm⟩ := bind_some hm
 refine wc call44 [Pt b138 0] z z z ?_
 refine (octet_Reader_spoil_ref hst.to1 ht156).mono ?_
 rintro _ w157 ⟨rfl, hst⟩
 refine ⟨_, z, ?_⟩
 replace hst := hst.of1
 refine wl_nil (tn (wp_seq (wrl (wv (.int .u64 (0:Int)) z z z (wl_nil (tn (wp_ret (then_r ?_))))))))
 obtain rfl := some_inj hm
 refine post_ret (vs := [Zu]) results30 (rvs_cons (rv_tmp z) rvs_nil) ?_
 exact ⟨z, hst.keep1⟩
}
 {
 replace hm := bif_f hc154 hm
 refine wp_iff (cvb hc154) ?_
 refine wp_skip (tn (wp_seq (wrl ?_)))
 refine wv (.int .u64 (0:Int)) z z z (wl_nil (tn ?_))
 obtain ⟨y211, hm, hx212⟩ := bind_some hm
 refine wp_cut (fun a w => ∃ (z208 : Int) (σ209 : Nat → Value), (octet_Reader_Num_j0 a0 a1) z208 = some r ∧ a = Fr 59 (upd (upd (upd σ209 0 (Pt b138 0)) 1 (.int .i64 a1)) 5 (.int .u64 z208)) ∧ St w0 w I [at_octet_Reader (Pt b138 0) a0] R) ?_ ?_
 {
 refine wp_seq (wrl (wv (.int .i64 a1) z z z (wv (.int .i64 (if (8:Int) < a1 then (8:Int) else a1)) z z (by kernel_rfl) (wv (.int .i64 (0:Int)) z z z (wl_nil (tn (wp_block ?_)))))))
 replace hst := at_octet_Reader_close (pv := Pt b138 0) (x := a0) hst ⟨z, f141⟩
 obtain ⟨n189, hm⟩ := loopO_some hm
 refine wp_loop_n (fun n a w => ∃ (z186 : Int) (z187 : Int) (σ188 : Nat → Value), loopN (octet_Reader_Num_l1 a1 a0) n (z186, z187) = some y211 ∧ a = Fr 59 (upd (upd (upd (upd (upd σ188 0 (Pt b138 0)) 1 (.int .i64 a1)) 5 (.int .u64 z187)) 31 (.int .i64 (if (8:Int) < a1 then (8:Int) else a1))) 32 (.int .i64 z186)) ∧ St w0 w I [at_octet_Reader (Pt b138 0) a0] R) n189 ⟨(0:Int), (0:Int), _, hm, (fu 0 (Pt b138 0) z (fu 1 (.int .i64 a1) z (fu 5 (.int .u64 (0:Int)) z (fu 31 (.int .i64 (if (8:Int) < a1 then (8:Int) else a1)) z (fu 32 (.int .i64 (0:Int)) z z))))), hst⟩ ?_
 rintro n195 _ w190 ⟨z186, z187, σ188, hm, rfl, hst⟩
 obtain ⟨n192, y193, rfl, hm, hx194⟩ := loopN_some hm
 dsimp only [octet_Reader_Num_l1] at hm
 refine wp_seq (wrl (wv (.bool (decide (z186 < (if (8:Int) < a1 then (8:Int) else a1)))) z z z (wl_nil (tn (wp_seq ?_)))))
 refine bsplit (decide (z186 < (if (8:Int) < a1 then (8:Int) else a1))) (fun hc196 => ?_) (fun hc196 => ?_)
 {
 replace hm := bif_t hc196 hm
 refine wp_ift (cvb hc196) ?_
 refine wp_skip (tn (wp_seq (wp_block (wp_seq (wrl ?_)))))
 refine wv (.int .i64 z186) z z z (wv (.int .i64 z186) z z z (wl_nil (tn (wrl (wv (.int .u64 z187) z z z (wv (Pt b138 0) z z z ?_))))))
 obtain ⟨b197, v198, ⟨e201, f200⟩, hst'⟩ := at_octet_Reader_open hst
 clear hst
 have e201 := ptr_inj e201
 subst e201
 have hst := hst'
 clear hst'
 refine wv (Pt b138 0) z z z (wv (Pt b138 0) z z (x_field z underlying93 z sizeOf22 z) (wv (v198) z z (x_load z isAgg22 (hst.bc0 z)) (wv (.int .i64 z186) z z z ?_)))
 obtain ⟨x202, hx203, hm⟩ := bind_some hm
 obtain ⟨h204, h205, hi206⟩ := geto_some hx203
 refine wv (.pointer (some (eAddr v198 (z186.toNat * 1 + 0)))) z z (x_index z z underlying22 sizeOf5 (ro_sliceV f200) h204 h205) (wv (.int .u8 x202) z z (x_load z isAgg5 (ro_load f200 hst hi206 (by rintro _ rfl; rfl))) (wv (.int .u64 (u64.wrap x202)) z z (by kernel_rfl) (wv (.int .i64 z186) z z z (wv (.int .i64 (i64.wrap ((8:Int) * z186))) z z z ?_))))
 obtain ⟨hg207, hm⟩ := gd_some hm
 refine wv (.int .u64 (iShl .u64 (u64.wrap x202) (i64.wrap ((8:Int) * z186)))) z z (x_shl (of_decide_eq_true hg207) z z) (wv (.int .u64 (bOr .u64 z187 (iShl .u64 (u64.wrap x202) (i64.wrap ((8:Int) * z186))))) z z z (wv (.int .u64 (bOr .u64 z187 (iShl .u64 (u64.wrap x202) (i64.wrap ((8:Int) * z186))))) z z z (wl_nil (blk_n (tn (wrl (wv (.int .i64 (i64.wrap (z186 + (1:Int)))) z z z (wv (.int .i64 (i64.wrap (z186 + (1:Int)))) z z z (wl_nil (tn ?_))))))))))
 replace hst := at_octet_Reader_close (pv := Pt b138 0) (x := a0) hst ⟨z, f200⟩
 replace hst := hst.keep1
 obtain rfl := some_inj hm
 exact ⟨_, Nat.lt_succ_self _, (i64.wrap (z186 + (1:Int))), (bOr .u64 z187 (iShl .u64 (u64.wrap x202) (i64.wrap ((8:Int) * z186)))), _, hx194, (fu 0 (Pt b138 0) z (fu 1 (.int .i64 a1) z (fu 5 (.int .u64 (bOr .u64 z187 (iShl .u64 (u64.wrap x202) (i64.wrap ((8:Int) * z186))))) z (fu 31 (.int .i64 (if (8:Int) < a1 then (8:Int) else a1)) z (fu 32 (.int .i64 (i64.wrap (z186 + (1:Int)))) z z))))), hst⟩
}
 {
 replace hm := bif_f hc196 hm
 refine wp_iff (cvb hc196) ?_
 refine wp_exit (then_x (then_x ?_))
 replace hm := inr_up hm hx194
 refine blk_x (tn ?_)
 replace hst := hst.keep1
 obtain rfl := some_inj hm
 exact ⟨z187, _, hx212, (fu 0 (Pt b138 0) z (fu 1 (.int .i64 a1) z (fu 5 (.int .u64 z187) z z))), hst⟩
}
}
 {
 clear hst
 rintro _ w213 ⟨z208, σ209, hm, rfl, hst⟩
 dsimp only [octet_Reader_Num_j0] at hm
 refine wp_seq (wrl (wv (Pt b138 0) z z z (wv (Pt b138 0) z z z ?_)))
 obtain ⟨b214, v215, ⟨e218, f217⟩, hst'⟩ := at_octet_Reader_open hst
 clear hst
 have e218 := ptr_inj e218
 subst e218
 have hst := hst'
 clear hst'
 refine wv (Pt b138 0) z z z (wv (Pt b138 0) z z (x_field z underlying93 z sizeOf22 z) (wv (v215) z z (x_load z isAgg22 (hst.bc0 z)) (wv (.int .i64 a1) z z z ?_)))
 obtain ⟨hg219, hm⟩ := gd_some hm
 obtain ⟨h220, h221, h222⟩ := fits_of hg219
 have f224 : Ro (tyInt .u8) I (slcV 1 v215 a1.toNat (((a0.p).length : Nat) : Int).toNat) (subs a0.p a1 (((a0.p).length : Nat) : Int)) := Ro.part f217 h221 h222 h220
 refine wv ((slcV 1 v215 a1.toNat (((a0.p).length : Nat) : Int).toNat)) z z (x_slice underlying22 sizeOf5 z (ro_sliceV f217) h220 h221 h222 .i64 .i64 (.inl z) (.inr ⟨z, z⟩)) (wv (Pt b138 0) z z z (wv (Pt b138 0) z z (x_field z underlying93 z sizeOf22 z) ?_))
 obtain ⟨w225, hr226, hst⟩ := hst.boxStore1 (P := prog) (t := 22) (cs' := [(slcV 1 v215 a1.toNat (((a0.p).length : Nat) : Int).toNat), .bool a0.bad]) 0 (slcV 1 v215 a1.toNat (((a0.p).length : Nat) : Int).toNat) (one_of_sliceV (ro_sliceV f224)) sizeOf22 z z
 refine wl_unit z z (x_unit hr226) ?_
 refine wl_nil (tn (wp_seq (wrl (wv (.int .u64 z208) z z z (wv (.int .u64 z208) z z z (wl_nil (tn (wp_ret ?_))))))))
 replace hst := at_octet_Reader_close (pv := Pt b138 0) (x := ({ p := (subs a0.p a1 (((a0.p).length : Nat) : Int)), bad := a0.bad } : octet_Reader)) hst ⟨z, f224⟩
 obtain rfl := some_inj hm
 refine post_ret (vs := [U6 z208]) results30 (rvs_cons (rv_tmp z) rvs_nil) ?_
 exact ⟨z, hst.keep1⟩
}
}
}
}
}

theorem octet_Reader_Count_ref {w0 w : World} {I : HL} {R : SP} {a0 : octet_Reader} {p0 : Value} {a1 : Int}  (hst : St w0 w I [at_octet_Reader p0 a0] R) {r : (Int × octet_Reader)} (hm : octet_Reader_Count a0 a1 = some r) :
  Calls prog 28 #[p0, I6 a1] w fun e w' => e = .returned (.int .i64 r.1) ∧ St w0 w' I [at_octet_Reader p0 r.2] R := by {
 unfold octet_Reader_Count at hm
 refine calls_start (args := [p0, I6 a1]) func28 z ntmps28 (Nat.le_of_ble_eq_true z) ?_
 refine wp_seq (wrl (wv (.int .i64 (0:Int)) z z z (wl_nil (tn (wp_seq (wrl (wv (p0) z z z ?_)))))))
 obtain ⟨t65, ht66, hm⟩ := bind_some hm
 refine wc call30 [p0, I6 (4:Int)] z z z ?_
 refine (octet_Reader_Num_ref hst.to1 ht66).mono ?_
 rintro _ w67 ⟨rfl, hst⟩
 refine ⟨_, z, ?_⟩
 replace hst := hst.of1
 refine wv (.int .u64 t65.1) z z z (wl_nil (tn (wp_seq (wp_seq (wrl (wv (.int .i64 a1) z z z (wv (.bool (decide (a1 < (0:Int)))) z z z (wv (.bool (decide (a1 < (0:Int)))) z z z ?_))))))))
 refine bsplit (decide (a1 < (0:Int))) (fun hc70 => ?_) (fun hc70 => ?_)
 {
 replace hm := bif_t hc70 hm
 refine wo hc70 z z z z z z (wo hc70 z z z z z z (wo hc70 z z z z z z (wo hc70 z z z z z z (wv (.bool true) z z (x_pick_t hc70 z z) (wl_nil (tn ?_))))))
 refine wp_ift z ?_
 refine wp_seq (wrl (wv (p0) z z z ?_))
 obtain ⟨t71, ht72, hm⟩ := bind_some hm
 refine wc call44 [p0] z z z ?_
 refine (octet_Reader_spoil_ref hst.to1 ht72).mono ?_
 rintro _ w73 ⟨rfl, hst⟩
 refine ⟨_, z, ?_⟩
 replace hst := hst.of1
 refine wl_nil (tn (wp_seq (wrl (wv (.int .i64 (0:Int)) z z z (wl_nil (tn (wp_ret (then_r ?_))))))))
 obtain rfl := some_inj hm
 refine post_ret (vs := [Zi]) results28 (rvs_cons (rv_tmp z) rvs_nil) ?_
 exact ⟨z, hst.keep1⟩
}
 {
 replace hm := bif_f hc70 hm
 refine wv (.int .u64 t65.1) ((wanted_eq z z z (cvb hc70)).trans z) z z (wv (.int .i64 a1) ((wanted_eq z z z (cvb hc70)).trans z) z z (wv (.int .u64 (u64.wrap a1)) ((wanted_eq z z z (cvb hc70)).trans z) z (by kernel_rfl) (wv (.bool (decide (t65.1 > (u64.wrap a1)))) ((wanted_eq z z z (cvb hc70)).trans z) z z (wv (.bool (decide (t65.1 > (u64.wrap a1)))) z z (x_pick_f hc70 z z) (wl_nil (tn ?_))))))
 refine bsplit (decide (t65.1 > (u64.wrap a1))) (fun hc76 => ?_) (fun hc76 => ?_)
 {
 replace hm := bif_t hc76 hm
 refine wp_ift (cvb hc76) ?_
 refine wp_seq (wrl (wv (p0) z z z ?_))
 obtain ⟨t77, ht78, hm⟩ := bind_some hm
 refine wc call44 [p0] z z z ?_
 refine (octet_Reader_spoil_ref hst.to1 ht78).mono ?_
 rintro _ w79 ⟨rfl, hst⟩
 refine ⟨_, z, ?_⟩
 replace hst := hst.of1
 refine wl_nil (tn (wp_seq (wrl (wv (.int .i64 (0:Int)) z z z (wl_nil (tn (wp_ret (then_r ?_))))))))
 obtain rfl := some_inj hm
 refine post_ret (vs := [Zi]) results28 (rvs_cons (rv_tmp z) rvs_nil) ?_
 exact ⟨z, hst.keep1⟩
}
 {
 replace hm := bif_f hc76 hm
 refine wp_iff (cvb hc76) ?_
 refine wp_skip (tn (wp_seq (wrl ?_)))
 refine wv (.int .u64 t65.1) z z z (wv (.int .i64 (i64.wrap t65.1)) z z (by kernel_rfl) (wv (.int .i64 (i64.wrap t65.1)) z z z (wl_nil (tn (wp_ret ?_)))))
 obtain rfl := some_inj hm
 refine post_ret (vs := [I6 (i64.wrap t65.1)]) results28 (rvs_cons (rv_tmp z) rvs_nil) ?_
 exact ⟨z, hst.keep1⟩
}
}
}

theorem octet_Reader_Flag_ref {w0 w : World} {I : HL} {R : SP} {a0 : octet_Reader} {p0 : Value}  (hst : St w0 w I [at_octet_Reader p0 a0] R) {r : (Bool × octet_Reader)} (hm : octet_Reader_Flag a0 = some r) :
  Calls prog 46 #[p0] w fun e w' => e = .returned (.bool r.1) ∧ St w0 w' I [at_octet_Reader p0 r.2] R := by {
 unfold octet_Reader_Flag at hm
 refine calls_start (args := [p0]) func46 z ntmps46 (Nat.le_of_ble_eq_true z) ?_
 refine wp_seq (wrl (wv (.bool false) z z z (wl_nil (tn (wp_seq (wrl (wv (p0) z z z ?_)))))))
 obtain ⟨t115, ht116, hm⟩ := bind_some hm
 refine wc call30 [p0, I6 (1:Int)] z z z ?_
 refine (octet_Reader_Num_ref hst.to1 ht116).mono ?_
 rintro _ w117 ⟨rfl, hst⟩
 refine ⟨_, z, ?_⟩
 replace hst := hst.of1
 refine wv (.int .u64 t115.1) z z z (wl_nil (tn (wp_seq (wp_seq (wrl (wv (.int .u64 t115.1) z z z (wv (.bool (decide (t115.1 > (1:Int)))) z z z (wl_nil (tn ?_)))))))))
 refine bsplit (decide (t115.1 > (1:Int))) (fun hc120 => ?_) (fun hc120 => ?_)
 {
 replace hm := bif_t hc120 hm
 refine wp_ift (cvb hc120) ?_
 refine wp_seq (wrl (wv (p0) z z z ?_))
 obtain ⟨t121, ht122, hm⟩ := bind_some hm
 refine wc call44 [p0] z z z ?_
 refine (octet_Reader_spoil_ref hst.to1 ht122).mono ?_
 rintro _ w123 ⟨rfl, hst⟩
 refine ⟨_, z, ?_⟩
 replace hst := hst.of1
 refine wl_nil (tn (wp_seq (wrl (wv (.bool false) z z z (wl_nil (tn (wp_ret (then_r ?_))))))))
 obtain rfl := some_inj hm
 refine post_ret (vs := [.bool false]) results46 (rvs_cons (rv_tmp z) rvs_nil) ?_
 exact ⟨z, hst.keep1⟩
}
 {
 replace hm := bif_f hc120 hm
 refine wp_iff (cvb hc120) ?_
 refine wp_skip (tn (wp_seq (wrl ?_)))
 refine wv (.int .u64 t115.1) z z z (wv (.bool (t115.1 == (1:Int))) z z z (wv (.bool (t115.1 == (1:Int))) z z z (wl_nil (tn (wp_ret ?_)))))
 obtain rfl := some_inj hm
 refine post_ret (vs := [.bool (t115.1 == (1:Int))]) results46 (rvs_cons (rv_tmp z) rvs_nil) ?_
 exact ⟨z, hst.keep1⟩
}
}

theorem octet_Reader_Bytes_ref {w0 w : World} {I : HL} {R : SP} {a0 : octet_Reader} {p0 : Value} {a1 : Int}  (hst : St w0 w I [at_octet_Reader p0 a0] R) {r : ((List Int) × octet_Reader)} (hm : octet_Reader_Bytes a0 a1 = some r) :
  Calls prog 47 #[p0, I6 a1] w fun e w' => ∃ (q0_0 : Value), e = .returned (q0_0) ∧ St w0 w' I [ownS (tyInt .u8) q0_0 r.1, at_octet_Reader p0 r.2] R := by {
 unfold octet_Reader_Bytes at hm
 refine calls_start (args := [p0, I6 a1]) func47 z ntmps47 (Nat.le_of_ble_eq_true z) ?_
 refine wp_seq (wrl (wv ((.slice none 0 0)) z z z (wl_nil (tn (wp_seq (wrl (wv (p0) z z z ?_)))))))
 obtain ⟨t162, ht163, hm⟩ := bind_some hm
 refine wc call30 [p0, I6 (4:Int)] z z z ?_
 refine (octet_Reader_Num_ref hst.to1 ht163).mono ?_
 rintro _ w164 ⟨rfl, hst⟩
 refine ⟨_, z, ?_⟩
 replace hst := hst.of1
 refine wv (.int .u64 t162.1) z z z (wl_nil (tn (wp_seq (wp_seq (wrl (wv (p0) z z z ?_))))))
 obtain ⟨b167, v168, ⟨rfl, f170⟩, hst'⟩ := at_octet_Reader_open hst
 clear hst
 have hst := hst'
 clear hst'
 refine wv (.bool false) z z (by kernel_rfl) (wv (.bool false) z z z (wv (Pt b167 0) ((wanted_eq z z z z).trans z) z z (wv (Pt b167 0) ((wanted_eq z z z z).trans z) z z (wv (Pt b167 1) ((wanted_eq z z z z).trans z) z (x_field z underlying93 z sizeOf4 z) (wv (.bool t162.2.bad) ((wanted_eq z z z z).trans z) z (x_load z isAgg4 (hst.bc0 z)) (wv (.bool t162.2.bad) z z (x_pick_f z z z) (wv (.bool t162.2.bad) z z z ?_)))))))
 refine bsplit t162.2.bad (fun hc171 => ?_) (fun hc171 => ?_)
 {
 replace hm := bif_t hc171 hm
 refine wo hc171 z z z z z z (wo hc171 z z z z z z (wv (.bool true) z z (x_pick_t hc171 z z) (wv (.bool true) z z z (wz z z z z z z (wz z z z z z z (wz z z z z z z (wz z z z z z z (wv (.bool true) z z (x_pick_t z z z) (wv (.bool true) z z z (wz z z z z z z (wz z z z z z z (wz z z z z z z ?_))))))))))))
 refine wz z z z z z z (wz z z z z z z (wz z z z z z z (wz z z z z z z (wz z z z z z z (wv (.bool true) z z (x_pick_t z z z) (wl_nil (tn ?_)))))))
 refine wp_ift z ?_
 refine wp_seq (wrl (wv (Pt b167 0) z z z ?_))
 replace hst := at_octet_Reader_close (pv := Pt b167 0) (x := t162.2) hst ⟨z, f170⟩
 obtain ⟨t172, ht173, hm⟩ := bind_some hm
 refine wc call44 [Pt b167 0] z z z ?_
 refine (octet_Reader_spoil_ref hst.to1 ht173).mono ?_
 rintro _ w174 ⟨rfl, hst⟩
 refine ⟨_, z, ?_⟩
 replace hst := hst.of1
 refine wl_nil (tn (wp_seq (wrl (wv ((.slice none 0 0)) z z z (wl_nil (tn (wp_ret (then_r ?_))))))))
 replace hst := hst.own_nil (tyInt .u8)
 obtain rfl := some_inj hm
 refine post_ret (vs := [Zs]) results47 (rvs_cons (rv_tmp z) rvs_nil) ?_
 replace hst := hst.pull1.pull1
 exact ⟨(.slice none 0 0), z, hst.keep2⟩
}
 {
 replace hm := bif_f hc171 hm
 refine wv (.int .i64 a1) ((wanted_eq z z z (cvb hc171)).trans z) z z (wv (.bool (decide (a1 < (0:Int)))) ((wanted_eq z z z (cvb hc171)).trans z) z z (wv (.bool (decide (a1 < (0:Int)))) z z (x_pick_f hc171 z z) (wv (.bool (decide (a1 < (0:Int)))) z z z ?_)))
 refine bsplit (decide (a1 < (0:Int))) (fun hc178 => ?_) (fun hc178 => ?_)
 {
 replace hm := bif_t hc178 hm
 refine wo hc178 z z z z z z (wo hc178 z z z z z z (wo hc178 z z z z z z (wo hc178 z z z z z z (wv (.bool true) z z (x_pick_t hc178 z z) (wv (.bool true) z z z (wz z z z z z z (wz z z z z z z (wz z z z z z z (wz z z z z z z (wz z z z z z z (wz z z z z z z (wz z z z z z z ?_))))))))))))
 refine wz z z z z z z (wv (.bool true) z z (x_pick_t z z z) (wl_nil (tn ?_)))
 refine wp_ift z ?_
 refine wp_seq (wrl (wv (Pt b167 0) z z z ?_))
 replace hst := at_octet_Reader_close (pv := Pt b167 0) (x := t162.2) hst ⟨z, f170⟩
 obtain ⟨t179, ht180, hm⟩ := bind_some hm
 refine wc call44 [Pt b167 0] z z z ?_
 refine (octet_Reader_spoil_ref hst.to1 ht180).mono ?_
 rintro _ w181 ⟨rfl, hst⟩
 refine ⟨_, z, ?_⟩
 replace hst := hst.of1
 refine wl_nil (tn (wp_seq (wrl (wv ((.slice none 0 0)) z z z (wl_nil (tn (wp_ret (then_r ?_))))))))
 replace hst := hst.own_nil (tyInt .u8)
 obtain rfl := some_inj hm
 refine post_ret (vs := [Zs]) results47 (rvs_cons (rv_tmp z) rvs_nil) ?_
 replace hst := hst.pull1.pull1
 exact ⟨(.slice none 0 0), z, hst.keep2⟩
}
 {
 replace hm := bif_f hc178 hm
 refine wv (.int .u64 t162.1) ((wanted_eq z z z (cvb hc178)).trans z) z z (wv (.int .i64 a1) ((wanted_eq z z z (cvb hc178)).trans z) z z (wv (.int .u64 (u64.wrap a1)) ((wanted_eq z z z (cvb hc178)).trans z) z (by kernel_rfl) (wv (.bool (decide (t162.1 > (u64.wrap a1)))) ((wanted_eq z z z (cvb hc178)).trans z) z z (wv (.bool (decide (t162.1 > (u64.wrap a1)))) z z (x_pick_f hc178 z z) (wv (.bool (decide (t162.1 > (u64.wrap a1)))) z z z ?_)))))
 refine bsplit (decide (t162.1 > (u64.wrap a1))) (fun hc185 => ?_) (fun hc185 => ?_)
 {
 replace hm := bif_t hc185 hm
 refine wo hc185 z z z z z z (wo hc185 z z z z z z (wo hc185 z z z z z z (wo hc185 z z z z z z (wo hc185 z z z z z z (wo hc185 z z z z z z (wo hc185 z z z z z z (wo hc185 z z z z z z (wv (.bool true) z z (x_pick_t hc185 z z) (wl_nil (tn ?_))))))))))
 refine wp_ift z ?_
 refine wp_seq (wrl (wv (Pt b167 0) z z z ?_))
 replace hst := at_octet_Reader_close (pv := Pt b167 0) (x := t162.2) hst ⟨z, f170⟩
 obtain ⟨t186, ht187, hm⟩ := bind_some hm
 refine wc call44 [Pt b167 0] z z z ?_
 refine (octet_Reader_spoil_ref hst.to1 ht187).mono ?_
 rintro _ w188 ⟨rfl, hst⟩
 refine ⟨_, z, ?_⟩
 replace hst := hst.of1
 refine wl_nil (tn (wp_seq (wrl (wv ((.slice none 0 0)) z z z (wl_nil (tn (wp_ret (then_r ?_))))))))
 replace hst := hst.own_nil (tyInt .u8)
 obtain rfl := some_inj hm
 refine post_ret (vs := [Zs]) results47 (rvs_cons (rv_tmp z) rvs_nil) ?_
 replace hst := hst.pull1.pull1
 exact ⟨(.slice none 0 0), z, hst.keep2⟩
}
 {
 replace hm := bif_f hc185 hm
 refine wv (.int .u64 t162.1) ((wanted_eq z z z (cvb hc185)).trans z) z z (wv (Pt b167 0) ((wanted_eq z z z (cvb hc185)).trans z) z z (wv (Pt b167 0) ((wanted_eq z z z (cvb hc185)).trans z) z z (wv (Pt b167 0) ((wanted_eq z z z (cvb hc185)).trans z) z (x_field z underlying93 z sizeOf22 z) (wv (v168) ((wanted_eq z z z (cvb hc185)).trans z) z (x_load z isAgg22 (hst.bc0 z)) (wv (.int .i64 ((t162.2.p).length : Int)) ((wanted_eq z z z (cvb hc185)).trans z) z (x_len z underlying22 (ro_sliceV f170)) (wv (.int .u64 (u64.wrap ((t162.2.p).length : Int))) ((wanted_eq z z z (cvb hc185)).trans z) z (by kernel_rfl) (wv (.bool (decide (t162.1 > (u64.wrap ((t162.2.p).length : Int))))) ((wanted_eq z z z (cvb hc185)).trans z) z z (wv (.bool (decide (t162.1 > (u64.wrap ((t162.2.p).length : Int))))) z z (x_pick_f hc185 z z) (wl_nil (tn ?_))))))))))
 refine bsplit (decide (t162.1 > (u64.wrap ((t162.2.p).length : Int)))) (fun hc192 => ?_) (fun hc192 => ?_)
 {
 replace hm := bif_t hc192 hm
 refine wp_ift (cvb hc192) ?_
 refine wp_seq (wrl (wv (Pt b167 0) z z z ?_))
 replace hst := at_octet_Reader_close (pv := Pt b167 0) (x := t162.2) hst ⟨z, f170⟩
 obtain ⟨t193, ht194, hm⟩ := bind_some hm
 refine wc call44 [Pt b167 0] z z z ?_
 refine (octet_Reader_spoil_ref hst.to1 ht194).mono ?_
 rintro _ w195 ⟨rfl, hst⟩
 refine ⟨_, z, ?_⟩
 replace hst := hst.of1
 refine wl_nil (tn (wp_seq (wrl (wv ((.slice none 0 0)) z z z (wl_nil (tn (wp_ret (then_r ?_))))))))
 replace hst := hst.own_nil (tyInt .u8)
 obtain rfl := some_inj hm
 refine post_ret (vs := [Zs]) results47 (rvs_cons (rv_tmp z) rvs_nil) ?_
 replace hst := hst.pull1.pull1
 exact ⟨(.slice none 0 0), z, hst.keep2⟩
}
 {
 replace hm := bif_f hc192 hm
 refine wp_iff (cvb hc192) ?_
 refine wp_skip (tn (wp_seq (wrl ?_)))
 refine wv (Pt b167 0) z z z (wv (Pt b167 0) z z z (wv (Pt b167 0) z z (x_field z underlying93 z sizeOf22 z) (wv (v168) z z (x_load z isAgg22 (hst.bc0 z)) (wv (.int .u64 t162.1) z z z ?_))))
 obtain ⟨hg199, hm⟩ := gd_some hm
 obtain ⟨h200, h201, h202⟩ := fits_of hg199
 have f204 : Ro (tyInt .u8) I (slcV 1 v168 (0:Int).toNat t162.1.toNat) (subs t162.2.p (0:Int) t162.1) := Ro.part f170 h201 h202 h200
 refine wv ((slcV 1 v168 (0:Int).toNat t162.1.toNat)) z z (x_slice underlying22 sizeOf5 z (ro_sliceV f170) h200 h201 h202 .i64 .u64 (.inr ⟨z, z⟩) (.inl z)) ?_
 replace hst := hst.own_nil (tyInt .u8)
 obtain ⟨hg206, hm⟩ := gd_some hm
 obtain ⟨v207, w208, hr209, hst⟩ := run_append elem_22 underlying22 hst (Src.of_ro hst f204) (room_of hg206 z) 22
 replace hst := St.nil_app hst
 refine wl_run (v := v207) (w' := w208) z z (x_append z z hr209) ?_
 refine wv (v207) z z z (wl_nil (tn (wp_seq (wrl (wv (Pt b167 0) z z z (wv (Pt b167 0) z z z (wv (Pt b167 0) z z z (wv (Pt b167 0) z z (x_field z underlying93 z sizeOf22 z) (wv (v168) z z (x_load z isAgg22 (hst.bc1 z)) (wv (.int .u64 t162.1) z z z ?_))))))))))
 obtain ⟨hg210, hm⟩ := gd_some hm
 obtain ⟨h211, h212, h213⟩ := fits_of hg210
 have f215 : Ro (tyInt .u8) I (slcV 1 v168 t162.1.toNat (((t162.2.p).length : Nat) : Int).toNat) (subs t162.2.p t162.1 (((t162.2.p).length : Nat) : Int)) := Ro.part f170 h212 h213 h211
 refine wv ((slcV 1 v168 t162.1.toNat (((t162.2.p).length : Nat) : Int).toNat)) z z (x_slice underlying22 sizeOf5 z (ro_sliceV f170) h211 h212 h213 .u64 .i64 (.inl z) (.inr ⟨z, z⟩)) (wv (Pt b167 0) z z z (wv (Pt b167 0) z z (x_field z underlying93 z sizeOf22 z) ?_))
 replace hst := hst.pull1
 obtain ⟨w216, hr217, hst⟩ := hst.boxStore1 (P := prog) (t := 22) (cs' := [(slcV 1 v168 t162.1.toNat (((t162.2.p).length : Nat) : Int).toNat), .bool t162.2.bad]) 0 (slcV 1 v168 t162.1.toNat (((t162.2.p).length : Nat) : Int).toNat) (one_of_sliceV (ro_sliceV f215)) sizeOf22 z z
 refine wl_unit z z (x_unit hr217) ?_
 refine wl_nil (tn (wp_seq (wrl (wv (v207) z z z (wv (v207) z z z (wl_nil (tn (wp_ret ?_))))))))
 replace hst := at_octet_Reader_close (pv := Pt b167 0) (x := ({ p := (subs t162.2.p t162.1 (((t162.2.p).length : Nat) : Int)), bad := t162.2.bad } : octet_Reader)) hst ⟨z, f215⟩
 obtain rfl := some_inj hm
 refine post_ret (vs := [v207]) results47 (rvs_cons (rv_tmp z) rvs_nil) ?_
 replace hst := hst.pull1
 exact ⟨v207, z, hst.keep2⟩
}
}
}
}
}

theorem number_Back_ref {w0 w : World} {I : HL} {R : SP} {a0 : Int}  (hst : St w0 w I [] R) {r : (Nat)} (hm : number_Back a0 = some r) :
  Calls prog 48 #[U6 a0] w fun e w' => e = .returned (.float .f64 r) ∧ St w0 w' I [] R := by {
 unfold number_Back at hm
 refine calls_start (args := [U6 a0]) func48 z ntmps48 (Nat.le_of_ble_eq_true z) ?_
 refine wp_seq (wrl (wv (.float .f64 (0:Nat)) z z z (wl_nil (tn (wp_seq (wp_seq (wrl (wv (.int .u64 a0) z z z (wv (.int .u64 (iShr .u64 a0 (63:Int))) z z (x_shr (by decide) z z) (wv (.bool ((iShr .u64 a0 (63:Int)) == (1:Int))) z z z (wl_nil (tn ?_))))))))))))
 refine bsplit ((iShr .u64 a0 (63:Int)) == (1:Int)) (fun hc266 => ?_) (fun hc266 => ?_)
 {
 replace hm := bif_t hc266 hm
 refine wp_ift (cvb hc266) ?_
 refine wp_seq (wrl (wv (.int .u64 a0) z z z (wv (.int .u64 (bAndNot .u64 a0 (9223372036854775808:Int))) z z z (wv (.float .f64 (Int.toNat (bAndNot .u64 a0 (9223372036854775808:Int)))) z z (by kernel_rfl) (wv (.float .f64 (Int.toNat (bAndNot .u64 a0 (9223372036854775808:Int)))) z z z (wl_nil (tn (wp_ret (then_r ?_)))))))))
 obtain rfl := some_inj hm
 refine post_ret (vs := [F6 (Int.toNat (bAndNot .u64 a0 (9223372036854775808:Int)))]) results48 (rvs_cons (rv_tmp z) rvs_nil) ?_
 exact ⟨z, hst.keep0⟩
}
 {
 replace hm := bif_f hc266 hm
 refine wp_iff (cvb hc266) ?_
 refine wp_skip (tn (wp_seq (wrl ?_)))
 refine wv (.int .u64 a0) z z z (wv (.int .u64 (bXor .u64 ((18446744073709551615):Int) a0)) z z (by kernel_rfl) (wv (.float .f64 (Int.toNat (bXor .u64 ((18446744073709551615):Int) a0))) z z (by kernel_rfl) (wv (.float .f64 (Int.toNat (bXor .u64 ((18446744073709551615):Int) a0))) z z z (wl_nil (tn (wp_ret ?_))))))
 obtain rfl := some_inj hm
 refine post_ret (vs := [F6 (Int.toNat (bXor .u64 ((18446744073709551615):Int) a0))]) results48 (rvs_cons (rv_tmp z) rvs_nil) ?_
 exact ⟨z, hst.keep0⟩
}
}

theorem command_ReadReply_ref {w0 w : World} {I : HL} {R : SP} {a0 : octet_Reader} {p0 : Value}  (hst : St w0 w I [at_octet_Reader p0 a0] R) {r : (api_Reply × octet_Reader)} (hm : command_ReadReply a0 = some r) :
  Calls prog 31 #[p0] w fun e w' => ∃ (I' : HL) (q0_0 : Value) (q0_1 : Value), e = .returned (.agg #[I6 r.1.E, U6 r.1.Epoch, U6 r.1.Index, q0_0, q0_1]) ∧ I.le I' ∧ St w0 w' I' [ownS ty_api_Got q0_0 r.1.Gots, ownS (tySl ty_api_Pair) q0_1 r.1.Scans, at_octet_Reader p0 r.2] R := by {
 unfold command_ReadReply at hm
 refine calls_start (args := [p0]) func31 z ntmps31 (Nat.le_of_ble_eq_true z) ?_
 have hI0 := HL.le.refl I
 refine wp_seq (wrl ?_)
 obtain ⟨b996, w997, ew998, eb999, hst⟩ := hst.box [Zi, Zu, Zu, Zs, Zs] 36
 refine wl_run (v := Pt b996 0) (w' := w997) z z (x_al (by kernel_rfl) ew998 eb999) ?_
 refine wl_nil (tn (wp_seq (wrl (wv (p0) z z z ?_))))
 replace hst := hst.pull1
 obtain ⟨t1001, ht1002, hm⟩ := bind_some hm
 refine wc call30 [p0, I6 (1:Int)] z z z ?_
 refine (octet_Reader_Num_ref hst.to1 ht1002).mono ?_
 rintro _ w1003 ⟨rfl, hst⟩
 refine ⟨_, z, ?_⟩
 replace hst := hst.of1
 refine wv (.int .i64 (i64.wrap t1001.1)) z z (by kernel_rfl) (wv (p0) z z z ?_)
 obtain ⟨t1006, ht1007, hm⟩ := bind_some hm
 refine wc call30 [p0, I6 (8:Int)] z z z ?_
 refine (octet_Reader_Num_ref hst.to1 ht1007).mono ?_
 rintro _ w1008 ⟨rfl, hst⟩
 refine ⟨_, z, ?_⟩
 replace hst := hst.of1
 refine wv (p0) z z z ?_
 obtain ⟨t1011, ht1012, hm⟩ := bind_some hm
 refine wc call30 [p0, I6 (8:Int)] z z z ?_
 refine (octet_Reader_Num_ref hst.to1 ht1012).mono ?_
 rintro _ w1013 ⟨rfl, hst⟩
 refine ⟨_, z, ?_⟩
 replace hst := hst.of1
 refine wv (.agg #[I6 (i64.wrap t1001.1), U6 t1006.1, U6 t1011.1, Zs, Zs]) z z (by kernel_rfl) ?_
 obtain ⟨b1020, w1021, ew1022, eb1023, hst⟩ := hst.box [Zi, Zu, Zu, Zs, Zs] 36
 refine wl_run (v := Pt b1020 0) (w' := w1021) z z (x_al (by kernel_rfl) ew1022 eb1023) ?_
 obtain ⟨w1025, hr1026, hst⟩ := hst.bx [I6 (i64.wrap t1001.1), U6 t1006.1, U6 t1011.1, Zs, Zs] sizeOf36 z (oC z (oC z (oC z (oC z (oC z oN))))) (by kernel_rfl)
 refine wl_unit z z (x_unit hr1026) ?_
 refine wl_nil (tn ?_)
 obtain ⟨y1174, hm, hx1175⟩ := bind_some hm
 refine wp_cut (fun a w => ∃ (I1171 : HL) (z1167 : octet_Reader) (z1170 : (List api_Got)) (v1169 : Value) (σ1172 : Nat → Value), (command_ReadReply_j0 t1001 t1006 t1011) (z1167, z1170) = some r ∧ a = Fr 54 (upd (upd (upd σ1172 0 (p0)) 2 (Pt b996 0)) 3 (Pt b1020 0)) ∧ I.le I1171 ∧ St w0 w I1171 [at_octet_Reader p0 z1167, cells b996 [Zi, Zu, Zu, Zs, Zs], cells b1020 [I6 (i64.wrap t1001.1), U6 t1006.1, U6 t1011.1, v1169, Zs], ownS ty_api_Got v1169 z1170] R) ?_ ?_
 {
 have hL1176 := HL.le.refl I
 refine wp_seq (wrl (wv (p0) z z z ?_))
 replace hst := hst.pull1
 obtain ⟨t1027, ht1028, hm⟩ := bind_some hm
 refine wc call28 [p0, I6 (32:Int)] z z z ?_
 refine (octet_Reader_Count_ref hst.to1 ht1028).mono ?_
 rintro _ w1029 ⟨rfl, hst⟩
 refine ⟨_, z, ?_⟩
 replace hst := hst.of1
 refine wv (.int .i64 (0:Int)) z z z (wl_nil (tn (wp_block ?_)))
 replace hst := hst.own_nil ty_api_Got
 obtain ⟨n1131, hm⟩ := loopO_some hm
 refine wp_loop_n (fun n a w => ∃ (I1129 : HL) (z1124 : (List api_Got)) (z1127 : octet_Reader) (z1128 : Int) (v1125 : Value) (σ1130 : Nat → Value), loopN (command_ReadReply_l1 t1027) n (z1124, z1127, z1128) = some y1174 ∧ a = Fr 54 (upd (upd (upd (upd (upd σ1130 0 (p0)) 2 (Pt b996 0)) 3 (Pt b1020 0)) 14 (.int .i64 t1027.1)) 15 (.int .i64 z1128)) ∧ I.le I1129 ∧ St w0 w I1129 [ownS ty_api_Got v1125 z1124, at_octet_Reader p0 z1127, cells b1020 [I6 (i64.wrap t1001.1), U6 t1006.1, U6 t1011.1, v1125, Zs], cells b996 [Zi, Zu, Zu, Zs, Zs]] R) n1131 ⟨_, [], t1027.2, (0:Int), Zs, _, hm, (fu 0 p0 z (fu 2 (Pt b996 0) z (fu 3 (Pt b1020 0) z (fu 14 (.int .i64 t1027.1) z (fu 15 (.int .i64 (0:Int)) z z))))), (HL.le.refl _), hst⟩ ?_
 rintro n1137 _ w1132 ⟨I1129, z1124, z1127, z1128, v1125, σ1130, hm, rfl, hL1133, hst⟩
 obtain ⟨n1134, y1135, rfl, hm, hx1136⟩ := loopN_some hm
 dsimp only [command_ReadReply_l1] at hm
 replace hI0 := hI0.trans hL1133
 replace hL1176 := hL1176.trans hL1133
 refine wp_seq (wrl (wv (.bool (decide (z1128 < t1027.1))) z z z (wl_nil (tn (wp_seq ?_)))))
 refine bsplit (decide (z1128 < t1027.1)) (fun hc1138 => ?_) (fun hc1138 => ?_)
 {
 replace hm := bif_t hc1138 hm
 refine wp_ift (cvb hc1138) ?_
 refine wp_skip (tn (wp_seq (wp_block ?_)))
 refine wp_region_St hst 11 [0, 1, 2, 3, 4, 5, 6, 7, 8, 9, 10] [0, 1, 0, 4, 0, 28, 60, 124, 255, 511, 1023] [] z (by kernel_rfl) (by kernel_rfl) Try.mixed (by kernel_rfl) ?_
 refine wsr (Pt b1020 3) 0 z z z (by kernel_rfl) (fun w hst => x_field z underlying36 z sizeOf33 z) (wsr (v1125) 1 z z z (by kernel_rfl) (fun w hst => x_load z isAgg33 (hst.bc2 z)) (wsr (p0) 2 z z z (by kernel_rfl) (fun w hst => z) (wsr (p0) 4 z z z (by kernel_rfl) (fun w hst => z) ?_)))
 refine ws_e1 3 (by kernel_rfl) ?_
 refine nxe [5, 6, 7, 8, 9, 10] (by kernel_rfl) z z ?_
 clear hst
 intro w hst
 replace hst := hst.pull1
 obtain ⟨t1139, ht1140, hm⟩ := bind_some hm
 refine wec call46 [p0] z z ?_
 refine (octet_Reader_Flag_ref hst.to1 ht1140).mono ?_
 rintro _ w1141 ⟨rfl, hst⟩
 refine ⟨_, z, ?_⟩
 replace hst := hst.of1
 refine ws_next (pend' := [(4, p0), (1, v1125), (0, Pt b1020 3)]) hst (by kernel_rfl) (pkr z z (fun w hst => z) (pkr z z (fun w hst => x_load z isAgg33 (hst.bc2 z)) (pkr z z (fun w hst => x_field z underlying36 z sizeOf33 z) pk_nil))) ?_
 refine ws_e1 5 (by kernel_rfl) ?_
 refine nxe [6, 7, 8, 9, 10] (by kernel_rfl) z z ?_
 clear hst
 intro w hst
 obtain ⟨t1144, ht1145, hm⟩ := bind_some hm
 refine wec call47 [p0, I6 (256:Int)] z z ?_
 refine (octet_Reader_Bytes_ref hst.to1 ht1145).mono ?_
 rintro _ w1146 ⟨v1149, rfl, hst⟩
 refine ⟨_, z, ?_⟩
 replace hst := hst.of2
 refine ws_next (pend' := [(1, v1125), (0, Pt b1020 3)]) hst (by kernel_rfl) (pkr z z (fun w hst => x_load z isAgg33 (hst.bc3 z)) (pkr z z (fun w hst => x_field z underlying36 z sizeOf33 z) pk_nil)) ?_
 refine wsr (.agg #[.bool t1139.1, v1149]) 6 rfl rfl rfl (by kernel_rfl) (fun w hst => by obtain ⟨_, _, hv_, _⟩ := hst.sv0; rw [hv_]; kernel_rfl) ?_
 refine ws_e1 7 (by kernel_rfl) ?_
 refine nxe [8, 9, 10] (by kernel_rfl) z z ?_
 clear hst
 intro w hst
 obtain ⟨I1153, hI1154, f1155, hst⟩ := hst.own_fix
 replace hI0 := hI0.trans hI1154
 replace hL1176 := hL1176.trans hI1154
 replace hL1133 := hL1133.trans hI1154
 obtain ⟨b1156, w1157, ew1158, eb1159, hst⟩ := hst.lits (E := ty_api_Got) (xs := [({ Has := t1139.1, Val := t1144.1 } : api_Got)]) [[.bool t1139.1, v1149]] 59 1 z (Reps.cons ⟨_, z, f1155, one_of_sliceV (ro_sliceV f1155)⟩ Reps.nil)
 refine we_run (v := (.slice (some ⟨b1156, 0, none⟩) 1 1)) (w' := w1157) z (x_als (by kernel_rfl) ew1158 eb1159) ?_
 refine ws_next (pend' := [(1, v1125), (0, Pt b1020 3)]) hst (by kernel_rfl) (pkr z z (fun w hst => x_load z isAgg33 (hst.bc3 z)) (pkr z z (fun w hst => x_field z underlying36 z sizeOf33 z) pk_nil)) ?_
 refine ws_e1 8 (by kernel_rfl) ?_
 refine nxe [9, 10] (by kernel_rfl) z z ?_
 clear hst
 intro w hst
 obtain ⟨hg1161, hm⟩ := gd_some hm
 replace hst := hst.pull2
 obtain ⟨v1162, w1163, hr1164, hst⟩ := run_append elem_33 underlying33 hst hst.src1 (room_of hg1161 z) 33
 refine we_run (v := v1162) (w' := w1163) z (x_append z z hr1164) ?_
 refine ws_next (pend' := []) hst (by kernel_rfl) pk_nil ?_
 refine wsr (Pt b1020 3) 9 z z z (by kernel_rfl) (fun w hst => x_field z underlying36 z sizeOf33 z) ?_
 refine ws_e1 10 (by kernel_rfl) ?_
 refine nxe [] (by kernel_rfl) z z ?_
 clear hst
 intro w hst
 replace hst := hst.pull3
 obtain ⟨w1165, hr1166, hst⟩ := hst.boxStore1 (P := prog) (t := 33) (cs' := [I6 (i64.wrap t1001.1), U6 t1006.1, U6 t1011.1, v1162, Zs]) 3 v1162 (one_of_sliceV hst.sv1) sizeOf33 z z
 refine we_unit z (x_unit hr1166) ?_
 refine ws_next (pend' := []) hst (by kernel_rfl) pk_nil ?_
 refine ws_nil ?_
 intro w hst
 refine blk_n (tn (wrl ?_))
 refine wv (.int .i64 (i64.wrap (z1128 + (1:Int)))) z z z (wv (.int .i64 (i64.wrap (z1128 + (1:Int)))) z z z (wl_nil (tn ?_)))
 replace hst := hst.pull4.pull1.pull4.pull3.keep4
 obtain rfl := some_inj hm
 exact ⟨_, Nat.lt_succ_self _, _, (z1124 ++ ([({ Has := t1139.1, Val := t1144.1 } : api_Got)])), t1144.2, (i64.wrap (z1128 + (1:Int))), v1162, _, hx1136, (fu 0 p0 z (fu 2 (Pt b996 0) z (fu 3 (Pt b1020 0) z (fu 14 (.int .i64 t1027.1) z (fu 15 (.int .i64 (i64.wrap (z1128 + (1:Int)))) z z))))), hL1133, hst⟩
}
 {
 replace hm := bif_f hc1138 hm
 refine wp_iff (cvb hc1138) ?_
 refine wp_exit (then_x (then_x ?_))
 replace hm := inr_up hm hx1136
 refine blk_x (tn ?_)
 replace hst := hst.pull2.pull3.pull3.keep4
 obtain rfl := some_inj hm
 exact ⟨_, z1127, z1124, v1125, _, hx1175, (fu 0 p0 z (fu 2 (Pt b996 0) z (fu 3 (Pt b1020 0) z z))), hL1176, hst⟩
}
}
 {
 clear hst
 rintro _ w1177 ⟨I1171, z1167, z1170, v1169, σ1172, hm, rfl, hL1173, hst⟩
 dsimp only [command_ReadReply_j0] at hm
 replace hI0 := hI0.trans hL1173
 refine wp_seq (wp_seq (wrl (wv (p0) z z z ?_)))
 obtain ⟨t1178, ht1179, hm⟩ := bind_some hm
 refine wc call28 [p0, I6 (32:Int)] z z z ?_
 refine (octet_Reader_Count_ref hst.to1 ht1179).mono ?_
 rintro _ w1180 ⟨rfl, hst⟩
 refine ⟨_, z, ?_⟩
 replace hst := hst.of1
 refine wv (.int .i64 (0:Int)) z z z (wl_nil (tn (wp_block ?_)))
 replace hst := hst.own_nil (tySl ty_api_Pair)
 obtain ⟨n1735, hm⟩ := loopO_some hm
 refine wp_loop_n (fun n a w => ∃ (I1733 : HL) (z1728 : (List (List api_Pair))) (z1731 : octet_Reader) (z1732 : Int) (v1729 : Value) (σ1734 : Nat → Value), loopN (command_ReadReply_l2 t1178 t1001 t1006 t1011 z1170) n (z1728, z1731, z1732) = some r ∧ a = Fr 54 (upd (upd (upd (upd (upd σ1734 0 (p0)) 2 (Pt b996 0)) 3 (Pt b1020 0)) 29 (.int .i64 t1178.1)) 30 (.int .i64 z1732)) ∧ I1171.le I1733 ∧ St w0 w I1733 [ownS (tySl ty_api_Pair) v1729 z1728, at_octet_Reader p0 z1731, cells b996 [Zi, Zu, Zu, Zs, Zs], cells b1020 [I6 (i64.wrap t1001.1), U6 t1006.1, U6 t1011.1, v1169, v1729], ownS ty_api_Got v1169 z1170] R) n1735 ⟨_, [], t1178.2, (0:Int), Zs, _, hm, (fu 0 p0 z (fu 2 (Pt b996 0) z (fu 3 (Pt b1020 0) z (fu 29 (.int .i64 t1178.1) z (fu 30 (.int .i64 (0:Int)) z z))))), (HL.le.refl _), hst⟩ ?_
 rintro n1741 _ w1736 ⟨I1733, z1728, z1731, z1732, v1729, σ1734, hm, rfl, hL1737, hst⟩
 obtain ⟨n1738, y1739, rfl, hm, hx1740⟩ := loopN_some hm
 dsimp only [command_ReadReply_l2] at hm
 replace hI0 := hI0.trans hL1737
 refine wp_seq (wrl (wv (.bool (decide (z1732 < t1178.1))) z z z (wl_nil (tn (wp_seq ?_)))))
 refine bsplit (decide (z1732 < t1178.1)) (fun hc1742 => ?_) (fun hc1742 => ?_)
 {
 replace hm := bif_t hc1742 hm
 refine wp_ift (cvb hc1742) ?_
 refine wp_skip (tn (wp_seq (wp_block (wp_seq (wrl ?_)))))
 refine wv ((.slice none 0 0)) z z z (wl_nil (tn ?_))
 obtain ⟨y1903, hm, hx1904⟩ := bind_some hm
 refine wp_cut (fun a w => ∃ (I1900 : HL) (z1896 : octet_Reader) (z1899 : (List api_Pair)) (v1898 : Value) (σ1901 : Nat → Value), (command_ReadReply_j3 z1728 z1732) (z1896, z1899) = some y1739 ∧ a = Fr 54 (upd (upd (upd (upd (upd (upd σ1901 0 (p0)) 2 (Pt b996 0)) 3 (Pt b1020 0)) 4 (v1898)) 29 (.int .i64 t1178.1)) 30 (.int .i64 z1732)) ∧ I1733.le I1900 ∧ St w0 w I1900 [at_octet_Reader p0 z1896, cells b996 [Zi, Zu, Zu, Zs, Zs], cells b1020 [I6 (i64.wrap t1001.1), U6 t1006.1, U6 t1011.1, v1169, v1729], ownS ty_api_Got v1169 z1170, ownS (tySl ty_api_Pair) v1729 z1728, ownS ty_api_Pair v1898 z1899] R) ?_ ?_
 {
 have hL1905 := HL.le.refl I1733
 refine wp_seq (wrl (wv (p0) z z z ?_))
 replace hst := hst.pull1
 obtain ⟨t1744, ht1745, hm⟩ := bind_some hm
 refine wc call28 [p0, I6 (64:Int)] z z z ?_
 refine (octet_Reader_Count_ref hst.to1 ht1745).mono ?_
 rintro _ w1746 ⟨rfl, hst⟩
 refine ⟨_, z, ?_⟩
 replace hst := hst.of1
 refine wv (.int .i64 (0:Int)) z z z (wl_nil (tn (wp_block ?_)))
 replace hst := hst.own_nil ty_api_Pair
 obtain ⟨n1857, hm⟩ := loopO_some hm
 refine wp_loop_n (fun n a w => ∃ (I1855 : HL) (z1850 : octet_Reader) (z1851 : Int) (z1852 : (List api_Pair)) (v1853 : Value) (σ1856 : Nat → Value), loopN (command_ReadReply_l4 t1744) n (z1850, z1851, z1852) = some y1903 ∧ a = Fr 54 (upd (upd (upd (upd (upd (upd (upd (upd σ1856 0 (p0)) 2 (Pt b996 0)) 3 (Pt b1020 0)) 4 (v1853)) 29 (.int .i64 t1178.1)) 30 (.int .i64 z1732)) 33 (.int .i64 t1744.1)) 34 (.int .i64 z1851)) ∧ I1733.le I1855 ∧ St w0 w I1855 [ownS ty_api_Pair v1853 z1852, at_octet_Reader p0 z1850, ownS (tySl ty_api_Pair) v1729 z1728, cells b996 [Zi, Zu, Zu, Zs, Zs], cells b1020 [I6 (i64.wrap t1001.1), U6 t1006.1, U6 t1011.1, v1169, v1729], ownS ty_api_Got v1169 z1170] R) n1857 ⟨_, t1744.2, (0:Int), [], Zs, _, hm, (fu 0 p0 z (fu 2 (Pt b996 0) z (fu 3 (Pt b1020 0) z (fu 4 (.slice none 0 0) z (fu 29 (.int .i64 t1178.1) z (fu 30 (.int .i64 z1732) z (fu 33 (.int .i64 t1744.1) z (fu 34 (.int .i64 (0:Int)) z z)))))))), (HL.le.refl _), hst⟩ ?_
 rintro n1863 _ w1858 ⟨I1855, z1850, z1851, z1852, v1853, σ1856, hm, rfl, hL1859, hst⟩
 obtain ⟨n1860, y1861, rfl, hm, hx1862⟩ := loopN_some hm
 dsimp only [command_ReadReply_l4] at hm
 replace hI0 := hI0.trans hL1859
 replace hL1737 := hL1737.trans hL1859
 replace hL1905 := hL1905.trans hL1859
 refine wp_seq (wrl (wv (.bool (decide (z1851 < t1744.1))) z z z (wl_nil (tn (wp_seq ?_)))))
 refine bsplit (decide (z1851 < t1744.1)) (fun hc1864 => ?_) (fun hc1864 => ?_)
 {
 replace hm := bif_t hc1864 hm
 refine wp_ift (cvb hc1864) ?_
 refine wp_skip (tn (wp_seq (wp_block (wrl ?_))))
 refine wv (v1853) z z z (wv (p0) z z z ?_)
 replace hst := hst.pull1
 obtain ⟨t1865, ht1866, hm⟩ := bind_some hm
 refine wc call30 [p0, I6 (8:Int)] z z z ?_
 refine (octet_Reader_Num_ref hst.to1 ht1866).mono ?_
 rintro _ w1867 ⟨rfl, hst⟩
 refine ⟨_, z, ?_⟩
 replace hst := hst.of1
 obtain ⟨t1870, ht1871, hm⟩ := bind_some hm
 refine wc call48 [U6 t1865.1] z z z ?_
 refine (number_Back_ref hst.to0 ht1871).mono ?_
 rintro _ w1872 ⟨rfl, hst⟩
 refine ⟨_, z, ?_⟩
 replace hst := hst.of0
 refine wv (p0) z z z ?_
 obtain ⟨t1875, ht1876, hm⟩ := bind_some hm
 refine wc call47 [p0, I6 (256:Int)] z z z ?_
 refine (octet_Reader_Bytes_ref hst.to1 ht1876).mono ?_
 rintro _ w1877 ⟨v1880, rfl, hst⟩
 refine ⟨_, z, ?_⟩
 replace hst := hst.of2
 refine wv (.agg #[F6 t1870, v1880]) z z (by obtain ⟨_, _, hv_, _⟩ := hst.sv0; rw [hv_]; kernel_rfl) ?_
 obtain ⟨I1884, hI1885, f1886, hst⟩ := hst.own_fix
 replace hI0 := hI0.trans hI1885
 replace hL1737 := hL1737.trans hI1885
 replace hL1905 := hL1905.trans hI1885
 replace hL1859 := hL1859.trans hI1885
 obtain ⟨b1887, w1888, ew1889, eb1890, hst⟩ := hst.lits (E := ty_api_Pair) (xs := [({ At := t1870, Val := t1875.1 } : api_Pair)]) [[F6 t1870, v1880]] 64 1 z (Reps.cons ⟨_, z, f1886, one_of_sliceV (ro_sliceV f1886)⟩ Reps.nil)
 refine wl_run (v := (.slice (some ⟨b1887, 0, none⟩) 1 1)) (w' := w1888) z z (x_als (by kernel_rfl) ew1889 eb1890) ?_
 obtain ⟨hg1892, hm⟩ := gd_some hm
 replace hst := hst.pull2
 obtain ⟨v1893, w1894, hr1895, hst⟩ := run_append elem_60 underlying60 hst hst.src1 (room_of hg1892 z) 60
 refine wl_run (v := v1893) (w' := w1894) z z (x_append z z hr1895) ?_
 refine wv (v1893) z z z (wl_nil (blk_n (tn (wrl (wv (.int .i64 (i64.wrap (z1851 + (1:Int)))) z z z (wv (.int .i64 (i64.wrap (z1851 + (1:Int)))) z z z (wl_nil (tn ?_))))))))
 replace hst := hst.pull6.pull6.pull6.pull6.pull6.pull5.keep6
 obtain rfl := some_inj hm
 exact ⟨_, Nat.lt_succ_self _, _, t1875.2, (i64.wrap (z1851 + (1:Int))), (z1852 ++ ([({ At := t1870, Val := t1875.1 } : api_Pair)])), v1893, _, hx1862, (fu 0 p0 z (fu 2 (Pt b996 0) z (fu 3 (Pt b1020 0) z (fu 4 v1893 z (fu 29 (.int .i64 t1178.1) z (fu 30 (.int .i64 z1732) z (fu 33 (.int .i64 t1744.1) z (fu 34 (.int .i64 (i64.wrap (z1851 + (1:Int)))) z z)))))))), hL1859, hst⟩
}
 {
 replace hm := bif_f hc1864 hm
 refine wp_iff (cvb hc1864) ?_
 refine wp_exit (then_x (then_x ?_))
 replace hm := inr_up hm hx1862
 refine blk_x (tn ?_)
 replace hst := hst.pull2.pull5.pull5.pull5.pull5.keep6
 obtain rfl := some_inj hm
 exact ⟨_, z1850, z1852, v1853, _, hx1904, (fu 0 p0 z (fu 2 (Pt b996 0) z (fu 3 (Pt b1020 0) z (fu 4 v1853 z (fu 29 (.int .i64 t1178.1) z (fu 30 (.int .i64 z1732) z z)))))), hL1905, hst⟩
}
}
 {
 clear hst
 rintro _ w1906 ⟨I1900, z1896, z1899, v1898, σ1901, hm, rfl, hL1902, hst⟩
 dsimp only [command_ReadReply_j3] at hm
 replace hI0 := hI0.trans hL1902
 replace hL1737 := hL1737.trans hL1902
 refine wrl (wv (Pt b1020 4) z z (x_field z underlying36 z sizeOf34 z) (wv (v1729) z z (x_load z isAgg34 (hst.bc2 z)) (wv (v1898) z z z ?_)))
 replace hst := hst.pull5
 obtain ⟨I1908, hI1909, f1910, hst⟩ := hst.own_fix
 replace hI0 := hI0.trans hI1909
 replace hL1737 := hL1737.trans hI1909
 obtain ⟨b1911, w1912, ew1913, eb1914, hst⟩ := hst.lits (E := (tySl ty_api_Pair)) (xs := [z1899]) [[v1898]] 60 1 z (Reps.cons ⟨_, z, f1910, one_of_sliceV (ro_sliceV f1910)⟩ Reps.nil)
 refine wl_run (v := (.slice (some ⟨b1911, 0, none⟩) 1 1)) (w' := w1912) z z (x_als (by obtain ⟨_, _, hv_, _⟩ := (ro_sliceV f1910); rw [hv_]; kernel_rfl) ew1913 eb1914) ?_
 obtain ⟨hg1916, hm⟩ := gd_some hm
 replace hst := hst.pull5
 obtain ⟨v1917, w1918, hr1919, hst⟩ := run_append elem_34 underlying34 hst hst.src1 (room_of hg1916 z) 34
 refine wl_run (v := v1917) (w' := w1918) z z (x_append z z hr1919) ?_
 refine wv (Pt b1020 4) z z (x_field z underlying36 z sizeOf34 z) ?_
 replace hst := hst.pull4
 obtain ⟨w1920, hr1921, hst⟩ := hst.boxStore1 (P := prog) (t := 34) (cs' := [I6 (i64.wrap t1001.1), U6 t1006.1, U6 t1011.1, v1169, v1917]) 4 v1917 (one_of_sliceV hst.sv1) sizeOf34 z z
 refine wl_unit z z (x_unit hr1921) ?_
 refine wl_nil (blk_n (tn (wrl (wv (.int .i64 (i64.wrap (z1732 + (1:Int)))) z z z (wv (.int .i64 (i64.wrap (z1732 + (1:Int)))) z z z (wl_nil (tn ?_)))))))
 replace hst := hst.pull5.pull1.pull5.pull5.pull4.keep5
 obtain rfl := some_inj hm
 exact ⟨_, Nat.lt_succ_self _, _, (z1728 ++ ([z1899])), z1896, (i64.wrap (z1732 + (1:Int))), v1917, _, hx1740, (fu 0 p0 z (fu 2 (Pt b996 0) z (fu 3 (Pt b1020 0) z (fu 29 (.int .i64 t1178.1) z (fu 30 (.int .i64 (i64.wrap (z1732 + (1:Int)))) z z))))), hL1737, hst⟩
}
}
 {
 replace hm := bif_f hc1742 hm
 refine wp_iff (cvb hc1742) ?_
 refine wp_exit (then_x (then_x ?_))
 replace hm := inr_up hm hx1740
 refine blk_x (tn (wp_seq (wrl ?_)))
 refine wv (.agg #[I6 (i64.wrap t1001.1), U6 t1006.1, U6 t1011.1, v1169, v1729]) z z (x_loadN (cs := [I6 (i64.wrap t1001.1), U6 t1006.1, U6 t1011.1, v1169, v1729]) z isAgg36 sizeOf36 (hst.bcs3 0 z)) ?_
 replace hst := hst.pull2
 obtain ⟨w1922, hr1923, hst⟩ := hst.bx [I6 (i64.wrap t1001.1), U6 t1006.1, U6 t1011.1, v1169, v1729] sizeOf36 z (oC z (oC z (oC z (oC (one_of_sliceV hst.sv4) (oC (one_of_sliceV hst.sv1) oN))))) (by kernel_rfl)
 refine wl_unit z z (x_unit hr1923) ?_
 refine wl_nil (tn (wp_ret ?_))
 obtain rfl := some_inj hm
 refine post_ret (vs := [.agg #[I6 (i64.wrap t1001.1), U6 t1006.1, U6 t1011.1, v1169, v1729]]) results31 (rvs_cons (rv_cell (cs := [I6 (i64.wrap t1001.1), U6 t1006.1, U6 t1011.1, v1169, v1729]) z isAgg36 sizeOf36 (hst.bcs0 0 z)) rvs_nil) ?_
 replace hst := hst.pull2.pull2.pull4
 exact ⟨_, v1169, v1729, z, hI0, hst.keep3⟩
}
}
}

theorem octet_Reader_End_ref {w0 w : World} {I : HL} {R : SP} {a0 : octet_Reader} {p0 : Value}  (hst : St w0 w I [at_octet_Reader p0 a0] R) {r : (Bool)} (hm : octet_Reader_End a0 = some r) :
  Calls prog 32 #[p0] w fun e w' => e = .returned (.bool r) ∧ St w0 w' I [at_octet_Reader p0 a0] R := by {
 unfold octet_Reader_End at hm
 refine calls_start (args := [p0]) func32 z ntmps32 (Nat.le_of_ble_eq_true z) ?_
 refine wp_seq (wrl (wv (.bool false) z z z (wl_nil (tn (wp_seq (wrl (wv (p0) z z z ?_)))))))
 obtain ⟨t327, ht328, hm⟩ := bind_some hm
 refine wc call45 [p0] z z z ?_
 refine (octet_Reader_Bad_ref hst.to1 ht328).mono ?_
 rintro _ w329 ⟨rfl, hst⟩
 refine ⟨_, z, ?_⟩
 replace hst := hst.of1
 refine wv (.bool (!t327)) z z z (wv (.bool (!t327)) z z z ?_)
 refine bsplit (!t327) (fun hc332 => ?_) (fun hc332 => ?_)
 {
 replace hm := bif_t hc332 hm
 refine wv (p0) ((wanted_eq z z z (cvb hc332)).trans z) z z ?_
 obtain ⟨b333, v334, ⟨rfl, f336⟩, hst'⟩ := at_octet_Reader_open hst
 clear hst
 have hst := hst'
 clear hst'
 refine wv (Pt b333 0) ((wanted_eq z z z (cvb hc332)).trans z) z z (wv (Pt b333 0) ((wanted_eq z z z (cvb hc332)).trans z) z (x_field z underlying93 z sizeOf22 z) (wv (v334) ((wanted_eq z z z (cvb hc332)).trans z) z (x_load z isAgg22 (hst.bc0 z)) (wv (.int .i64 ((a0.p).length : Int)) ((wanted_eq z z z (cvb hc332)).trans z) z (x_len z underlying22 (ro_sliceV f336)) (wv (.bool (((a0.p).length : Int) == (0:Int))) ((wanted_eq z z z (cvb hc332)).trans z) z z (wv (.bool (((a0.p).length : Int) == (0:Int))) z z (x_pick_t hc332 z z) (wv (.bool (((a0.p).length : Int) == (0:Int))) z z z (wl_nil (tn (wp_ret ?_)))))))))
 replace hst := at_octet_Reader_close (pv := Pt b333 0) (x := a0) hst ⟨z, f336⟩
 obtain rfl := some_inj hm
 refine post_ret (vs := [.bool (((a0.p).length : Int) == (0:Int))]) results32 (rvs_cons (rv_tmp z) rvs_nil) ?_
 exact ⟨z, hst.keep1⟩
}
 {
 replace hm := bif_f hc332 hm
 refine wo hc332 z z z z z z (wo hc332 z z z z z z (wo hc332 z z z z z z (wo hc332 z z z z z z (wo hc332 z z z z z z (wo hc332 z z z z z z (wv (.bool false) z z (x_pick_f hc332 z z) (wv (.bool false) z z z (wl_nil (tn (wp_ret ?_))))))))))
 obtain rfl := some_inj hm
 refine post_ret (vs := [.bool false]) results32 (rvs_cons (rv_tmp z) rvs_nil) ?_
 exact ⟨z, hst.keep1⟩
}
}

theorem session_Table_Len_ref {w0 w : World} {I : HL} {R : SP} {a0 : (Option session_Table)} {p0 : Value}  (hst : St w0 w I [objO at_session_Table p0 a0] R) {r : (Int)} (hm : session_Table_Len a0 = some r) :
  Calls prog 15 #[p0] w fun e w' => e = .returned (.int .i64 r) ∧ St w0 w' I [objO at_session_Table p0 a0] R := by {
 rcases a0 with _ | o0
 {
 obtain ⟨rfl, hst'⟩ := objO_none hst
 clear hst
 have hst := hst'
 clear hst'
 dsimp only [session_Table_Len] at hm
 refine calls_start (args := [.pointer none]) func15 z ntmps15 (Nat.le_of_ble_eq_true z) ?_
 refine wp_seq (wrl (wv (.int .i64 (0:Int)) z z z (wl_nil (tn (wp_seq (wp_seq (wrl (wv (.pointer none) z z z (wv (.bool true) z z (by kernel_rfl) (wl_nil (tn ?_)))))))))))
 refine wp_ift z ?_
 refine wp_seq (wrl (wv (.int .i64 (0:Int)) z z z (wl_nil (tn (wp_ret (then_r ?_))))))
 replace hst := hst.objO_nil at_session_Table
 obtain rfl := some_inj hm
 refine post_ret (vs := [Zi]) results15 (rvs_cons (rv_tmp z) rvs_nil) ?_
 exact ⟨z, hst.keep1⟩
}
 {
 replace hst := objO_get hst
 dsimp only [session_Table_Len] at hm
 refine calls_start (args := [p0]) func15 z ntmps15 (Nat.le_of_ble_eq_true z) ?_
 refine wp_seq (wrl (wv (.int .i64 (0:Int)) z z z (wl_nil (tn (wp_seq (wp_seq (wrl (wv (p0) z z z ?_))))))))
 obtain ⟨b335, v336, rfl, hst'⟩ := at_session_Table_open hst
 clear hst
 have hst := hst'
 clear hst'
 refine wv (.bool false) z z (by kernel_rfl) (wl_nil (tn ?_))
 refine wp_iff z ?_
 refine wp_skip (tn (wp_seq (wrl ?_)))
 refine wv (Pt b335 0) z z z (wv (Pt b335 0) z z z (wv (Pt b335 0) z z (x_field z underlying56 z sizeOf54 z) (wv (v336) z z (x_load z isAgg54 (hst.bc0 z)) (wv (.int .i64 ((o0.l).length : Int)) z z (x_len z underlying54 hst.sv1) (wv (.int .i64 ((o0.l).length : Int)) z z z (wl_nil (tn (wp_ret ?_))))))))
 replace hst := hst.pull1.pull1
 replace hst := at_session_Table_close (pv := Pt b335 0) (x := o0) hst z
 replace hst := objO_some hst
 obtain rfl := some_inj hm
 refine post_ret (vs := [I6 ((o0.l).length : Int)]) results15 (rvs_cons (rv_tmp z) rvs_nil) ?_
 exact ⟨z, hst.keep1⟩
}
}

theorem octet_Writer_lay_ref {w0 w : World} {I : HL} {R : SP} {a0 : octet_Writer} {p0 : Value} {a1 : (List Int)} {r1_0 : Value} (f1_0 : Rd (tyInt .u8) R I r1_0 a1) (hst : St w0 w I [at_octet_Writer p0 a0] R) {r : (octet_Writer)} (hm : octet_Writer_lay a0 a1 = some r) :
  Calls prog 49 #[p0, r1_0] w fun e w' => e = .returned (p0) ∧ St w0 w' I [at_octet_Writer p0 r] R := by {
 unfold octet_Writer_lay at hm
 refine calls_start (args := [p0, r1_0]) func49 z ntmps49 (Nat.le_of_ble_eq_true z) ?_
 refine wp_seq (wrl (wv (.pointer none) z z z (wl_nil (tn (wp_seq (wrl (wv (p0) z z z (wv (p0) z z z ?_))))))))
 obtain ⟨b357, v358, rfl, hst'⟩ := at_octet_Writer_open hst
 clear hst
 have hst := hst'
 clear hst'
 refine wv (Pt b357 0) z z z (wv (Pt b357 0) z z (x_field z underlying82 z sizeOf22 z) (wv (v358) z z (x_load z isAgg22 (hst.bc0 z)) (wv (r1_0) z z z ?_)))
 obtain ⟨hg360, hm⟩ := gd_some hm
 replace hst := hst.pull1
 obtain ⟨v361, w362, hr363, hst⟩ := run_append elem_22 underlying22 hst (Src.of_rd hst f1_0 flat_int) (room_of hg360 z) 22
 refine wl_run (v := v361) (w' := w362) z z (x_append z z hr363) ?_
 refine wv (Pt b357 0) z z z (wv (Pt b357 0) z z (x_field z underlying82 z sizeOf22 z) ?_)
 replace hst := hst.pull1
 obtain ⟨w364, hr365, hst⟩ := hst.boxStore1 (P := prog) (t := 22) (cs' := [v361]) 0 v361 (one_of_sliceV hst.sv1) sizeOf22 z z
 refine wl_unit z z (x_unit hr365) ?_
 refine wl_nil (tn (wp_seq (wrl (wv (Pt b357 0) z z z (wv (Pt b357 0) z z z (wl_nil (tn (wp_ret ?_))))))))
 replace hst := hst.pull1.pull1
 replace hst := at_octet_Writer_close (pv := Pt b357 0) (x := ({ p := (a0.p ++ a1) } : octet_Writer)) hst z
 obtain rfl := some_inj hm
 refine post_ret (vs := [Pt b357 0]) results49 (rvs_cons (rv_tmp z) rvs_nil) ?_
 exact ⟨z, hst.keep1⟩
}

theorem octet_Writer_Num_ref {w0 w : World} {I : HL} {R : SP} {a0 : octet_Writer} {p0 : Value} {a1 : Int} {a2 : Int}  (hst : St w0 w I [at_octet_Writer p0 a0] R) {r : (octet_Writer)} (hm : octet_Writer_Num a0 a1 a2 = some r) :
  Calls prog 34 #[p0, U6 a1, I6 a2] w fun e w' => e = .returned (p0) ∧ St w0 w' I [at_octet_Writer p0 r] R := by {
 unfold octet_Writer_Num at hm
 refine calls_start (args := [p0, U6 a1, I6 a2]) func34 z ntmps34 (Nat.le_of_ble_eq_true z) ?_
 refine wp_seq (wrl (wv (.pointer none) z z z (wl_nil (tn (wp_seq (wp_seq (wrl (wv (.int .i64 a2) z z z (wv (.int .i64 (0:Int)) z z z (wl_nil (tn (wp_block ?_))))))))))))
 obtain ⟨n425, hm⟩ := loopO_some hm
 refine wp_loop_n (fun n a w => ∃ (z422 : octet_Writer) (z423 : Int) (σ424 : Nat → Value), loopN (octet_Writer_Num_l0 a2 a1) n (z422, z423) = some r ∧ a = Fr 22 (upd (upd (upd (upd σ424 0 (p0)) 1 (.int .u64 a1)) 8 (.int .i64 a2)) 9 (.int .i64 z423)) ∧ St w0 w I [at_octet_Writer p0 z422] R) n425 ⟨a0, (0:Int), _, hm, (fu 0 p0 z (fu 1 (.int .u64 a1) z (fu 8 (.int .i64 a2) z (fu 9 (.int .i64 (0:Int)) z z)))), hst⟩ ?_
 rintro n431 _ w426 ⟨z422, z423, σ424, hm, rfl, hst⟩
 obtain ⟨n428, y429, rfl, hm, hx430⟩ := loopN_some hm
 dsimp only [octet_Writer_Num_l0] at hm
 refine wp_seq (wrl (wv (.bool (decide (z423 < a2))) z z z (wl_nil (tn (wp_seq ?_)))))
 refine bsplit (decide (z423 < a2)) (fun hc432 => ?_) (fun hc432 => ?_)
 {
 replace hm := bif_t hc432 hm
 refine wp_ift (cvb hc432) ?_
 refine wp_skip (tn (wp_seq (wp_block (wp_seq (wrl ?_)))))
 refine wv (.int .i64 z423) z z z (wv (.int .i64 z423) z z z (wl_nil (tn (wrl (wv (p0) z z z (wv (.int .u64 a1) z z z (wv (.int .i64 z423) z z z (wv (.int .i64 (i64.wrap ((8:Int) * z423))) z z z ?_))))))))
 obtain ⟨hg433, hm⟩ := gd_some hm
 refine wv (.int .u64 (iShr .u64 a1 (i64.wrap ((8:Int) * z423)))) z z (x_shr (of_decide_eq_true hg433) z z) (wv (.int .u8 (u8.wrap (iShr .u64 a1 (i64.wrap ((8:Int) * z423))))) z z (by kernel_rfl) ?_)
 obtain ⟨b434, w435, ew436, eb437, hst⟩ := hst.lits (E := (tyInt .u8)) (xs := [(u8.wrap (iShr .u64 a1 (i64.wrap ((8:Int) * z423))))]) [[U1 (u8.wrap (iShr .u64 a1 (i64.wrap ((8:Int) * z423))))]] 5 1 z (Reps.cons z Reps.nil)
 refine wl_run (v := (.slice (some ⟨b434, 0, none⟩) 1 1)) (w' := w435) z z (x_als (by kernel_rfl) ew436 eb437) ?_
 obtain ⟨css439, hq440, hst⟩ := hst.own_open
 replace hst := hst.pull1
 obtain ⟨t441, ht442, hm⟩ := bind_some hm
 refine wc call49 [p0, (.slice (some ⟨b434, 0, none⟩) 1 1)] z z z ?_
 refine (octet_Writer_lay_ref (hst.sub.rdrow0 hq440) hst.to1 ht442).mono ?_
 rintro _ w443 ⟨rfl, hst⟩
 refine ⟨_, z, ?_⟩
 replace hst := hst.of1.pull1.own_close hq440
 refine wl_nil (blk_n (tn (wrl (wv (.int .i64 (i64.wrap (z423 + (1:Int)))) z z z (wv (.int .i64 (i64.wrap (z423 + (1:Int)))) z z z (wl_nil (tn ?_)))))))
 replace hst := hst.pull1.keep1
 obtain rfl := some_inj hm
 exact ⟨_, Nat.lt_succ_self _, t441, (i64.wrap (z423 + (1:Int))), _, hx430, (fu 0 p0 z (fu 1 (.int .u64 a1) z (fu 8 (.int .i64 a2) z (fu 9 (.int .i64 (i64.wrap (z423 + (1:Int)))) z z)))), hst⟩
}
 {
 replace hm := bif_f hc432 hm
 refine wp_iff (cvb hc432) ?_
 refine wp_exit (then_x (then_x ?_))
 replace hm := inr_up hm hx430
 refine blk_x (tn (wp_seq (wrl ?_)))
 refine wv (p0) z z z (wv (p0) z z z (wl_nil (tn (wp_ret ?_))))
 obtain rfl := some_inj hm
 refine post_ret (vs := [p0]) results34 (rvs_cons (rv_tmp z) rvs_nil) ?_
 exact ⟨z, hst.keep1⟩
}
}

theorem octet_Writer_Done_ref {w0 w : World} {I : HL} {R : SP} {a0 : octet_Writer} {p0 : Value}  (hst : St w0 w I [at_octet_Writer p0 a0] R) {r : ((List Int))} (hm : octet_Writer_Done a0 = some r) :
  Calls prog 36 #[p0] w fun e w' => ∃ (q0_0 : Value), e = .returned (q0_0) ∧ St w0 w' I [ownS (tyInt .u8) q0_0 r] R := by {
 unfold octet_Writer_Done at hm
 refine calls_start (args := [p0]) func36 z ntmps36 (Nat.le_of_ble_eq_true z) ?_
 refine wp_seq (wrl (wv ((.slice none 0 0)) z z z (wl_nil (tn (wp_seq (wrl (wv (p0) z z z ?_)))))))
 obtain ⟨b364, v365, rfl, hst'⟩ := at_octet_Writer_open hst
 clear hst
 have hst := hst'
 clear hst'
 refine wv (Pt b364 0) z z z (wv (Pt b364 0) z z (x_field z underlying82 z sizeOf22 z) (wv (v365) z z (x_load z isAgg22 (hst.bc0 z)) (wv (v365) z z z (wl_nil (tn (wp_ret ?_))))))
 obtain rfl := some_inj hm
 refine post_ret (vs := [v365]) results36 (rvs_cons (rv_tmp z) rvs_nil) ?_
 replace hst := hst.pull1
 exact ⟨v365, z, hst.keep1⟩
}

theorem octet_Writer_Flag_ref {w0 w : World} {I : HL} {R : SP} {a0 : octet_Writer} {p0 : Value} {a1 : Bool}  (hst : St w0 w I [at_octet_Writer p0 a0] R) {r : (octet_Writer)} (hm : octet_Writer_Flag a0 a1 = some r) :
  Calls prog 50 #[p0, .bool a1] w fun e w' => e = .returned (p0) ∧ St w0 w' I [at_octet_Writer p0 r] R := by {
 unfold octet_Writer_Flag at hm
 refine calls_start (args := [p0, .bool a1]) func50 z ntmps50 (Nat.le_of_ble_eq_true z) ?_
 refine wp_seq (wrl (wv (.pointer none) z z z (wl_nil (tn (wp_seq (wp_seq (wrl (wv (.bool a1) z z z (wl_nil (tn ?_))))))))))
 refine bsplit a1 (fun hc487 => ?_) (fun hc487 => ?_)
 {
 replace hm := bif_t hc487 hm
 refine wp_ift (cvb hc487) ?_
 refine wp_seq (wrl (wv (p0) z z z ?_))
 obtain ⟨t488, ht489, hm⟩ := bind_some hm
 refine wc call34 [p0, U6 (1:Int), I6 (1:Int)] z z z ?_
 refine (octet_Writer_Num_ref hst.to1 ht489).mono ?_
 rintro _ w490 ⟨rfl, hst⟩
 refine ⟨_, z, ?_⟩
 replace hst := hst.of1
 refine wv (p0) z z z (wl_nil (tn (wp_ret (then_r ?_))))
 obtain rfl := some_inj hm
 refine post_ret (vs := [p0]) results50 (rvs_cons (rv_tmp z) rvs_nil) ?_
 exact ⟨z, hst.keep1⟩
}
 {
 replace hm := bif_f hc487 hm
 refine wp_iff (cvb hc487) ?_
 refine wp_skip (tn (wp_seq (wrl ?_)))
 refine wv (p0) z z z ?_
 obtain ⟨t493, ht494, hm⟩ := bind_some hm
 refine wc call34 [p0, Zu, I6 (1:Int)] z z z ?_
 refine (octet_Writer_Num_ref hst.to1 ht494).mono ?_
 rintro _ w495 ⟨rfl, hst⟩
 refine ⟨_, z, ?_⟩
 replace hst := hst.of1
 refine wv (p0) z z z (wl_nil (tn (wp_ret ?_)))
 obtain rfl := some_inj hm
 refine post_ret (vs := [p0]) results50 (rvs_cons (rv_tmp z) rvs_nil) ?_
 exact ⟨z, hst.keep1⟩
}
}

theorem octet_Writer_Bytes_ref {w0 w : World} {I : HL} {R : SP} {a0 : octet_Writer} {p0 : Value} {a1 : (List Int)} {r1_0 : Value} (f1_0 : Rd (tyInt .u8) R I r1_0 a1) (hst : St w0 w I [at_octet_Writer p0 a0] R) {r : (octet_Writer)} (hm : octet_Writer_Bytes a0 a1 = some r) :
  Calls prog 51 #[p0, r1_0] w fun e w' => e = .returned (p0) ∧ St w0 w' I [at_octet_Writer p0 r] R := by {
 unfold octet_Writer_Bytes at hm
 refine calls_start (args := [p0, r1_0]) func51 z ntmps51 (Nat.le_of_ble_eq_true z) ?_
 refine wp_seq (wrl (wv (.pointer none) z z z (wl_nil (tn (wp_seq (wrl (wv (p0) z z z (wv (r1_0) z z z (wv (.int .i64 ((a1).length : Int)) z z (x_len z underlying22 (rd_sliceV f1_0)) (wv (.int .u64 (u64.wrap ((a1).length : Int))) z z (by kernel_rfl) ?_))))))))))
 obtain ⟨t488, ht489, hm⟩ := bind_some hm
 refine wc call34 [p0, U6 (u64.wrap ((a1).length : Int)), I6 (4:Int)] z z z ?_
 refine (octet_Writer_Num_ref hst.to1 ht489).mono ?_
 rintro _ w490 ⟨rfl, hst⟩
 refine ⟨_, z, ?_⟩
 replace hst := hst.of1
 refine wv (r1_0) z z z ?_
 obtain ⟨t493, ht494, hm⟩ := bind_some hm
 refine wc call49 [p0, r1_0] z z z ?_
 refine (octet_Writer_lay_ref (f1_0.mono (rd_weak _)) hst.to1 ht494).mono ?_
 rintro _ w495 ⟨rfl, hst⟩
 refine ⟨_, z, ?_⟩
 replace hst := hst.of1
 refine wv (p0) z z z (wl_nil (tn (wp_ret ?_)))
 obtain rfl := some_inj hm
 refine post_ret (vs := [p0]) results51 (rvs_cons (rv_tmp z) rvs_nil) ?_
 exact ⟨z, hst.keep1⟩
}

theorem math_IsNaN_ref {w0 w : World} {I : HL} {R : SP} {a0 : Nat}  (hst : St w0 w I [] R) {r : (Bool)} (hm : math_IsNaN a0 = some r) :
  Calls prog 57 #[F6 a0] w fun e w' => e = .returned (.bool r) ∧ St w0 w' I [] R := by {
 unfold math_IsNaN at hm
 refine calls_start (args := [F6 a0]) func57 z ntmps57 (Nat.le_of_ble_eq_true z) ?_
 refine wp_seq (wrl (wv (.bool false) z z z (wl_nil (tn (wp_seq (wrl (wv (.float .f64 a0) z z z (wv (.float .f64 a0) z z z (wv (.bool (fNe a0 a0)) z z z (wv (.bool (fNe a0 a0)) z z z (wl_nil (tn (wp_ret ?_)))))))))))))
 obtain rfl := some_inj hm
 refine post_ret (vs := [.bool (fNe a0 a0)]) results57 (rvs_cons (rv_tmp z) rvs_nil) ?_
 exact ⟨z, hst.keep0⟩
}

theorem number_Rank_ref {w0 w : World} {I : HL} {R : SP} {a0 : Nat}  (hst : St w0 w I [] R) {r : (Int)} (hm : number_Rank a0 = some r) :
  Calls prog 52 #[F6 a0] w fun e w' => e = .returned (.int .u64 r) ∧ St w0 w' I [] R := by {
 unfold number_Rank at hm
 refine calls_start (args := [F6 a0]) func52 z ntmps52 (Nat.le_of_ble_eq_true z) ?_
 refine wp_seq (wrl (wv (.int .u64 (0:Int)) z z z (wl_nil (tn (wp_seq (wp_seq (wrl (wv (.float .f64 a0) z z z ?_))))))))
 obtain ⟨t611, ht612, hm⟩ := bind_some hm
 refine wc call57 [F6 a0] z z z ?_
 refine (math_IsNaN_ref hst.to0 ht612).mono ?_
 rintro _ w613 ⟨rfl, hst⟩
 refine ⟨_, z, ?_⟩
 replace hst := hst.of0
 refine wl_nil (tn ?_)
 refine bsplit t611 (fun hc616 => ?_) (fun hc616 => ?_)
 {
 replace hm := bif_t hc616 hm
 refine wp_ift (cvb hc616) ?_
 refine wp_seq (wrl (wv (.int .u64 (18446744073709551615:Int)) z z z (wl_nil (tn (wp_ret (then_r ?_))))))
 obtain rfl := some_inj hm
 refine post_ret (vs := [U6 (18446744073709551615:Int)]) results52 (rvs_cons (rv_tmp z) rvs_nil) ?_
 exact ⟨z, hst.keep0⟩
}
 {
 replace hm := bif_f hc616 hm
 refine wp_iff (cvb hc616) ?_
 refine wp_skip (tn (wp_seq (wrl ?_)))
 refine wv (.float .f64 a0) z z z (wv (.int .u64 (Int.ofNat a0)) z z (by kernel_rfl) (wv (.int .u64 (Int.ofNat a0)) z z z (wl_nil (tn (wp_seq (wp_seq (wrl (wv (.int .u64 (Int.ofNat a0)) z z z (wv (.int .u64 (iShr .u64 (Int.ofNat a0) (63:Int))) z z (x_shr (by decide) z z) (wv (.bool ((iShr .u64 (Int.ofNat a0) (63:Int)) == (1:Int))) z z z (wl_nil (tn ?_))))))))))))
 refine bsplit ((iShr .u64 (Int.ofNat a0) (63:Int)) == (1:Int)) (fun hc617 => ?_) (fun hc617 => ?_)
 {
 replace hm := bif_t hc617 hm
 refine wp_ift (cvb hc617) ?_
 refine wp_seq (wrl (wv (.int .u64 (Int.ofNat a0)) z z z (wv (.int .u64 (bXor .u64 ((18446744073709551615):Int) (Int.ofNat a0))) z z (by kernel_rfl) (wv (.int .u64 (bXor .u64 ((18446744073709551615):Int) (Int.ofNat a0))) z z z (wl_nil (tn (wp_ret (then_r ?_))))))))
 obtain rfl := some_inj hm
 refine post_ret (vs := [U6 (bXor .u64 ((18446744073709551615):Int) (Int.ofNat a0))]) results52 (rvs_cons (rv_tmp z) rvs_nil) ?_
 exact ⟨z, hst.keep0⟩
}
 {
 replace hm := bif_f hc617 hm
 refine wp_iff (cvb hc617) ?_
 refine wp_skip (tn (wp_seq (wrl ?_)))
 refine wv (.int .u64 (Int.ofNat a0)) z z z (wv (.int .u64 (bOr .u64 (Int.ofNat a0) (9223372036854775808:Int))) z z z (wv (.int .u64 (bOr .u64 (Int.ofNat a0) (9223372036854775808:Int))) z z z (wl_nil (tn (wp_ret ?_)))))
 obtain rfl := some_inj hm
 refine post_ret (vs := [U6 (bOr .u64 (Int.ofNat a0) (9223372036854775808:Int))]) results52 (rvs_cons (rv_tmp z) rvs_nil) ?_
 exact ⟨z, hst.keep0⟩
}
}
}

theorem command_LayReply_ref {w0 w : World} {I : HL} {R : SP} {a0 : octet_Writer} {p0 : Value} {a1 : api_Reply} {r1_0 : Value} {r1_1 : Value} (f1_0 : Rd ty_api_Got R I r1_0 a1.Gots) (f1_1 : Rd (tySl ty_api_Pair) R I r1_1 a1.Scans) (hst : St w0 w I [at_octet_Writer p0 a0] R) {r : (octet_Writer)} (hm : command_LayReply a0 a1 = some r) :
  Calls prog 35 #[p0, .agg #[I6 a1.E, U6 a1.Epoch, U6 a1.Index, r1_0, r1_1]] w fun e w' => e = .returned (.tuple #[]) ∧ St w0 w' I [at_octet_Writer p0 r] R := by {
 unfold command_LayReply at hm
 refine calls_start (args := [p0, .agg #[I6 a1.E, U6 a1.Epoch, U6 a1.Index, r1_0, r1_1]]) func35 z ntmps35 (Nat.le_of_ble_eq_true z) ?_
 refine wp_seq (wrl ?_)
 obtain ⟨b984, w985, ew986, eb987, hst⟩ := hst.box [I6 a1.E, U6 a1.Epoch, U6 a1.Index, r1_0, r1_1] 36
 refine wl_run (v := Pt b984 0) (w' := w985) z z (x_al (by kernel_rfl) ew986 eb987) ?_
 refine wl_nil (tn (wp_seq ?_))
 refine wp_region_St hst 16 [0, 1, 2, 3, 4, 5, 6, 7, 8, 9, 10, 11, 12, 13, 14, 15] [0, 0, 2, 6, 15, 0, 32, 127, 0, 256, 1023, 0, 2048, 6144, 14336, 32767] [] z (by kernel_rfl) (by kernel_rfl) Try.mixed (by kernel_rfl) ?_
 refine wsr (p0) 0 z z z (by kernel_rfl) (fun w hst => z) (wsr (Pt b984 0) 1 z z z (by kernel_rfl) (fun w hst => x_field z underlying36 z sizeOf32 z) (wsr (.int .i64 a1.E) 2 z z z (by kernel_rfl) (fun w hst => x_load z isAgg32 (hst.bc0 z)) (wsr (.int .u64 (u64.wrap a1.E)) 3 z z z (by kernel_rfl) (fun w hst => by kernel_rfl) (wsr (Pt b984 1) 5 z z z (by kernel_rfl) (fun w hst => x_field z underlying36 z sizeOf30 z) (wsr (.int .u64 a1.Epoch) 6 z z z (by kernel_rfl) (fun w hst => x_load z isAgg30 (hst.bc0 z)) (wsr (Pt b984 2) 8 z z z (by kernel_rfl) (fun w hst => x_field z underlying36 z sizeOf30 z) (wsr (.int .u64 a1.Index) 9 z z z (by kernel_rfl) (fun w hst => x_load z isAgg30 (hst.bc0 z)) (wsr (Pt b984 3) 11 z z z (by kernel_rfl) (fun w hst => x_field z underlying36 z sizeOf33 z) (wsr (r1_0) 12 z z z (by kernel_rfl) (fun w hst => x_load z isAgg33 (hst.bc0 z)) (wsr (.int .i64 ((a1.Gots).length : Int)) 13 z z z (by kernel_rfl) (fun w hst => x_len z underlying33 (rd_sliceV f1_0)) (wsr (.int .u64 (u64.wrap ((a1.Gots).length : Int))) 14 z z z (by kernel_rfl) (fun w hst => by kernel_rfl) ?_)))))))))))
 refine ws_e1 4 (by kernel_rfl) ?_
 refine nxe [7, 10, 15] (by kernel_rfl) z z ?_
 clear hst
 intro w hst
 replace hst := hst.pull1
 obtain ⟨t989, ht990, hm⟩ := bind_some hm
 refine wec call34 [p0, U6 (u64.wrap a1.E), I6 (1:Int)] z z ?_
 refine (octet_Writer_Num_ref hst.to1 ht990).mono ?_
 rintro _ w991 ⟨rfl, hst⟩
 refine ⟨_, z, ?_⟩
 replace hst := hst.of1
 refine ws_next (pend' := [(14, U6 (u64.wrap ((a1.Gots).length : Int))), (13, I6 ((a1.Gots).length : Int)), (12, r1_0), (11, Pt b984 3), (9, U6 a1.Index), (8, Pt b984 2), (6, U6 a1.Epoch), (5, Pt b984 1)]) hst (by kernel_rfl) (pkr z z (fun w hst => by kernel_rfl) (pkr z z (fun w hst => x_len z underlying33 (rd_sliceV f1_0)) (pkr z z (fun w hst => x_load z isAgg33 (hst.bc1 z)) (pkr z z (fun w hst => x_field z underlying36 z sizeOf33 z) (pkr z z (fun w hst => x_load z isAgg30 (hst.bc1 z)) (pkr z z (fun w hst => x_field z underlying36 z sizeOf30 z) (pkr z z (fun w hst => x_load z isAgg30 (hst.bc1 z)) (pkr z z (fun w hst => x_field z underlying36 z sizeOf30 z) pk_nil)))))))) ?_
 refine ws_e1 7 (by kernel_rfl) ?_
 refine nxe [10, 15] (by kernel_rfl) z z ?_
 clear hst
 intro w hst
 obtain ⟨t994, ht995, hm⟩ := bind_some hm
 refine wec call34 [p0, U6 a1.Epoch, I6 (8:Int)] z z ?_
 refine (octet_Writer_Num_ref hst.to1 ht995).mono ?_
 rintro _ w996 ⟨rfl, hst⟩
 refine ⟨_, z, ?_⟩
 replace hst := hst.of1
 refine ws_next (pend' := [(14, U6 (u64.wrap ((a1.Gots).length : Int))), (13, I6 ((a1.Gots).length : Int)), (12, r1_0), (11, Pt b984 3), (9, U6 a1.Index), (8, Pt b984 2)]) hst (by kernel_rfl) (pkr z z (fun w hst => by kernel_rfl) (pkr z z (fun w hst => x_len z underlying33 (rd_sliceV f1_0)) (pkr z z (fun w hst => x_load z isAgg33 (hst.bc1 z)) (pkr z z (fun w hst => x_field z underlying36 z sizeOf33 z) (pkr z z (fun w hst => x_load z isAgg30 (hst.bc1 z)) (pkr z z (fun w hst => x_field z underlying36 z sizeOf30 z) pk_nil)))))) ?_
 refine ws_e1 10 (by kernel_rfl) ?_
 refine nxe [15] (by kernel_rfl) z z ?_
 clear hst
 intro w hst
 obtain ⟨t999, ht1000, hm⟩ := bind_some hm
 refine wec call34 [p0, U6 a1.Index, I6 (8:Int)] z z ?_
 refine (octet_Writer_Num_ref hst.to1 ht1000).mono ?_
 rintro _ w1001 ⟨rfl, hst⟩
 refine ⟨_, z, ?_⟩
 replace hst := hst.of1
 refine ws_next (pend' := [(14, U6 (u64.wrap ((a1.Gots).length : Int))), (13, I6 ((a1.Gots).length : Int)), (12, r1_0), (11, Pt b984 3)]) hst (by kernel_rfl) (pkr z z (fun w hst => by kernel_rfl) (pkr z z (fun w hst => x_len z underlying33 (rd_sliceV f1_0)) (pkr z z (fun w hst => x_load z isAgg33 (hst.bc1 z)) (pkr z z (fun w hst => x_field z underlying36 z sizeOf33 z) pk_nil)))) ?_
 refine ws_e1 15 (by kernel_rfl) ?_
 refine nxe [] (by kernel_rfl) z z ?_
 clear hst
 intro w hst
 obtain ⟨t1004, ht1005, hm⟩ := bind_some hm
 refine wec call34 [p0, U6 (u64.wrap ((a1.Gots).length : Int)), I6 (4:Int)] z z ?_
 refine (octet_Writer_Num_ref hst.to1 ht1005).mono ?_
 rintro _ w1006 ⟨rfl, hst⟩
 refine ⟨_, z, ?_⟩
 replace hst := hst.of1
 refine ws_next (pend' := []) hst (by kernel_rfl) pk_nil ?_
 refine ws_nil ?_
 intro w hst
 refine tn ?_
 obtain ⟨y1114, hm, hx1115⟩ := bind_some hm
 refine wp_cut (fun a w => ∃ (z1111 : octet_Writer) (σ1112 : Nat → Value), (command_LayReply_j0 a1) z1111 = some r ∧ a = Fr 75 (upd (upd σ1112 0 (p0)) 3 (Pt b984 0)) ∧ St w0 w I [at_octet_Writer p0 z1111, cells b984 [I6 a1.E, U6 a1.Epoch, U6 a1.Index, r1_0, r1_1]] R) ?_ ?_
 {
 refine wp_seq (wrl (wv (Pt b984 3) z z (x_field z underlying36 z sizeOf33 z) (wv (r1_0) z z (x_load z isAgg33 (hst.bc1 z)) (wv (.int .i64 ((a1.Gots).length : Int)) z z (x_len z underlying33 (rd_sliceV f1_0)) (wv (.int .i64 (0:Int)) z z z (wl_nil (tn (wp_block ?_))))))))
 obtain ⟨n1074, hm⟩ := loopO_some hm
 refine wp_loop_n (fun n a w => ∃ (z1071 : octet_Writer) (z1072 : Int) (σ1073 : Nat → Value), loopN (command_LayReply_l1 a1) n (z1071, z1072) = some y1114 ∧ a = Fr 75 (upd (upd (upd (upd (upd σ1073 0 (p0)) 3 (Pt b984 0)) 27 (r1_0)) 28 (.int .i64 ((a1.Gots).length : Int))) 29 (.int .i64 z1072)) ∧ St w0 w I [at_octet_Writer p0 z1071, cells b984 [I6 a1.E, U6 a1.Epoch, U6 a1.Index, r1_0, r1_1]] R) n1074 ⟨t1004, (0:Int), _, hm, (fu 0 p0 z (fu 3 (Pt b984 0) z (fu 27 r1_0 z (fu 28 (.int .i64 ((a1.Gots).length : Int)) z (fu 29 (.int .i64 (0:Int)) z z))))), hst⟩ ?_
 rintro n1080 _ w1075 ⟨z1071, z1072, σ1073, hm, rfl, hst⟩
 obtain ⟨n1077, y1078, rfl, hm, hx1079⟩ := loopN_some hm
 dsimp only [command_LayReply_l1] at hm
 refine wp_seq (wrl (wv (.bool (decide (z1072 < ((a1.Gots).length : Int)))) z z z (wl_nil (tn (wp_seq ?_)))))
 refine bsplit (decide (z1072 < ((a1.Gots).length : Int))) (fun hc1081 => ?_) (fun hc1081 => ?_)
 {
 replace hm := bif_t hc1081 hm
 refine wp_ift (cvb hc1081) ?_
 refine wp_skip (tn (wp_seq (wp_block (wp_seq (wrl ?_)))))
 obtain ⟨x1082, hx1083, hm⟩ := bind_some hm
 obtain ⟨h1084, h1085, hi1086⟩ := geto_some hx1083
 refine wv (.pointer (some (eAddr r1_0 (z1072.toNat * 2 + 0)))) z z (x_index z z underlying33 sizeOf59 (rd_sliceV f1_0) h1084 h1085) ?_
 obtain ⟨cs1087, hr1088, hc1089⟩ := Rd.getF f1_0 hi1086
 obtain ⟨v1090, rfl, f1091, -⟩ := hr1088
 refine wv (.agg #[.bool x1082.Has, v1090]) z z (x_loadN (cs := [.bool x1082.Has, v1090]) z isAgg59 sizeOf59 (eCells (o := 0) (hc1089 (HL.le.refl _) hst) z)) ?_
 obtain ⟨b1094, w1095, ew1096, eb1097, hst⟩ := hst.box [.bool false, Zs] 59
 refine wl_run (v := Pt b1094 0) (w' := w1095) z z (x_al (by kernel_rfl) ew1096 eb1097) ?_
 obtain ⟨w1099, hr1100, hst⟩ := hst.bx [.bool x1082.Has, v1090] sizeOf59 z (oC z (oC (one_of_sliceV (rd_sliceV f1091)) oN)) (by kernel_rfl)
 refine wl_unit z z (x_unit hr1100) ?_
 refine wl_nil (tn ?_)
 refine wp_region_St hst 7 [0, 1, 2, 3, 4, 5, 6] [0, 0, 2, 7, 0, 16, 63] [] z (by kernel_rfl) (by kernel_rfl) Try.mixed (by kernel_rfl) ?_
 refine wsr (p0) 0 z z z (by kernel_rfl) (fun w hst => z) (wsr (Pt b1094 0) 1 z z z (by kernel_rfl) (fun w hst => x_field z underlying59 z sizeOf4 z) (wsr (.bool x1082.Has) 2 z z z (by kernel_rfl) (fun w hst => x_load z isAgg4 (hst.bc0 z)) (wsr (Pt b1094 1) 4 z z z (by kernel_rfl) (fun w hst => x_field z underlying59 z sizeOf22 z) (wsr (v1090) 5 z z z (by kernel_rfl) (fun w hst => x_load z isAgg22 (hst.bc0 z)) ?_))))
 refine ws_e1 3 (by kernel_rfl) ?_
 refine nxe [6] (by kernel_rfl) z z ?_
 clear hst
 intro w hst
 replace hst := hst.pull1
 obtain ⟨t1101, ht1102, hm⟩ := bind_some hm
 refine wec call50 [p0, .bool x1082.Has] z z ?_
 refine (octet_Writer_Flag_ref hst.to1 ht1102).mono ?_
 rintro _ w1103 ⟨rfl, hst⟩
 refine ⟨_, z, ?_⟩
 replace hst := hst.of1
 refine ws_next (pend' := [(5, v1090), (4, Pt b1094 1)]) hst (by kernel_rfl) (pkr z z (fun w hst => x_load z isAgg22 (hst.bc1 z)) (pkr z z (fun w hst => x_field z underlying59 z sizeOf22 z) pk_nil)) ?_
 refine ws_e1 6 (by kernel_rfl) ?_
 refine nxe [] (by kernel_rfl) z z ?_
 clear hst
 intro w hst
 obtain ⟨t1106, ht1107, hm⟩ := bind_some hm
 refine wec call51 [p0, v1090] z z ?_
 refine (octet_Writer_Bytes_ref (f1091.mono (rd_weak _)) hst.to1 ht1107).mono ?_
 rintro _ w1108 ⟨rfl, hst⟩
 refine ⟨_, z, ?_⟩
 replace hst := hst.of1
 refine ws_next (pend' := []) hst (by kernel_rfl) pk_nil ?_
 refine ws_nil ?_
 intro w hst
 refine blk_n (tn (wrl ?_))
 refine wv (.int .i64 (i64.wrap (z1072 + (1:Int)))) z z z (wv (.int .i64 (i64.wrap (z1072 + (1:Int)))) z z z (wl_nil (tn ?_)))
 replace hst := hst.pull2.pull1.keep2
 obtain rfl := some_inj hm
 exact ⟨_, Nat.lt_succ_self _, t1106, (i64.wrap (z1072 + (1:Int))), _, hx1079, (fu 0 p0 z (fu 3 (Pt b984 0) z (fu 27 r1_0 z (fu 28 (.int .i64 ((a1.Gots).length : Int)) z (fu 29 (.int .i64 (i64.wrap (z1072 + (1:Int)))) z z))))), hst⟩
}
 {
 replace hm := bif_f hc1081 hm
 refine wp_iff (cvb hc1081) ?_
 refine wp_exit (then_x (then_x ?_))
 replace hm := inr_up hm hx1079
 refine blk_x (tn ?_)
 replace hst := hst.pull1.pull1.keep2
 obtain rfl := some_inj hm
 exact ⟨z1071, _, hx1115, (fu 0 p0 z (fu 3 (Pt b984 0) z z)), hst⟩
}
}
 {
 clear hst
 rintro _ w1116 ⟨z1111, σ1112, hm, rfl, hst⟩
 dsimp only [command_LayReply_j0] at hm
 refine wp_seq (wrl (wv (p0) z z z (wv (Pt b984 4) z z (x_field z underlying36 z sizeOf34 z) (wv (r1_1) z z (x_load z isAgg34 (hst.bc1 z)) (wv (.int .i64 ((a1.Scans).length : Int)) z z (x_len z underlying34 (rd_sliceV f1_1)) (wv (.int .u64 (u64.wrap ((a1.Scans).length : Int))) z z (by kernel_rfl) ?_))))))
 obtain ⟨t1117, ht1118, hm⟩ := bind_some hm
 refine wc call34 [p0, U6 (u64.wrap ((a1.Scans).length : Int)), I6 (4:Int)] z z z ?_
 refine (octet_Writer_Num_ref hst.to1 ht1118).mono ?_
 rintro _ w1119 ⟨rfl, hst⟩
 refine ⟨_, z, ?_⟩
 replace hst := hst.of1
 refine wl_nil (tn (wp_seq (wrl (wv (Pt b984 4) z z (x_field z underlying36 z sizeOf34 z) (wv (r1_1) z z (x_load z isAgg34 (hst.bc1 z)) (wv (.int .i64 ((a1.Scans).length : Int)) z z (x_len z underlying34 (rd_sliceV f1_1)) (wv (.int .i64 (0:Int)) z z z (wl_nil (tn (wp_block ?_))))))))))
 replace hst := hst.pull1.sub
 obtain ⟨n1395, hm⟩ := loopO_some hm
 refine wp_loop_n (fun n a w => ∃ (z1392 : octet_Writer) (z1393 : Int) (σ1394 : Nat → Value), loopN (command_LayReply_l2 a1) n (z1392, z1393) = some r ∧ a = Fr 75 (upd (upd (upd (upd σ1394 0 (p0)) 48 (r1_1)) 49 (.int .i64 ((a1.Scans).length : Int))) 50 (.int .i64 z1393)) ∧ St w0 w I [at_octet_Writer p0 z1392] R) n1395 ⟨t1117, (0:Int), _, hm, (fu 0 p0 z (fu 48 r1_1 z (fu 49 (.int .i64 ((a1.Scans).length : Int)) z (fu 50 (.int .i64 (0:Int)) z z)))), hst⟩ ?_
 rintro n1401 _ w1396 ⟨z1392, z1393, σ1394, hm, rfl, hst⟩
 obtain ⟨n1398, y1399, rfl, hm, hx1400⟩ := loopN_some hm
 dsimp only [command_LayReply_l2] at hm
 refine wp_seq (wrl (wv (.bool (decide (z1393 < ((a1.Scans).length : Int)))) z z z (wl_nil (tn (wp_seq ?_)))))
 refine bsplit (decide (z1393 < ((a1.Scans).length : Int))) (fun hc1402 => ?_) (fun hc1402 => ?_)
 {
 replace hm := bif_t hc1402 hm
 refine wp_ift (cvb hc1402) ?_
 refine wp_skip (tn (wp_seq (wp_block (wp_seq (wrl ?_)))))
 obtain ⟨x1403, hx1404, hm⟩ := bind_some hm
 obtain ⟨h1405, h1406, hi1407⟩ := geto_some hx1404
 refine wv (.pointer (some (eAddr r1_1 (z1393.toNat * 1 + 0)))) z z (x_index z z underlying34 sizeOf60 (rd_sliceV f1_1) h1405 h1406) ?_
 obtain ⟨cs1408, hr1409, hc1410⟩ := Rd.getF f1_1 hi1407
 obtain ⟨v1411, rfl, f1412, -⟩ := hr1409
 refine wv (v1411) z z (x_load z isAgg60 ((hc1410 (HL.le.refl _) hst) 0 _ z)) (wv (v1411) z z z (wl_nil (tn (wp_seq (wrl (wv (p0) z z z (wv (v1411) z z z (wv (.int .i64 ((x1403).length : Int)) z z (x_len z underlying60 (rd_sliceV f1412)) (wv (.int .u64 (u64.wrap ((x1403).length : Int))) z z (by kernel_rfl) ?_)))))))))
 obtain ⟨t1414, ht1415, hm⟩ := bind_some hm
 refine wc call34 [p0, U6 (u64.wrap ((x1403).length : Int)), I6 (4:Int)] z z z ?_
 refine (octet_Writer_Num_ref hst.to1 ht1415).mono ?_
 rintro _ w1416 ⟨rfl, hst⟩
 refine ⟨_, z, ?_⟩
 replace hst := hst.of1
 refine wl_nil (tn (wp_seq (wrl (wv (v1411) z z z (wv (.int .i64 ((x1403).length : Int)) z z (x_len z underlying60 (rd_sliceV f1412)) (wv (.int .i64 (0:Int)) z z z (wl_nil (tn (wp_block ?_)))))))))
 obtain ⟨n1494, hm⟩ := loopO_some hm
 refine wp_loop_n (fun n a w => ∃ (z1491 : octet_Writer) (z1492 : Int) (σ1493 : Nat → Value), loopN (command_LayReply_l3 x1403 z1393) n (z1491, z1492) = some y1399 ∧ a = Fr 75 (upd (upd (upd (upd (upd (upd (upd σ1493 0 (p0)) 48 (r1_1)) 49 (.int .i64 ((a1.Scans).length : Int))) 50 (.int .i64 z1393)) 59 (v1411)) 60 (.int .i64 ((x1403).length : Int))) 61 (.int .i64 z1492)) ∧ St w0 w I [at_octet_Writer p0 z1491] R) n1494 ⟨t1414, (0:Int), _, hm, (fu 0 p0 z (fu 48 r1_1 z (fu 49 (.int .i64 ((a1.Scans).length : Int)) z (fu 50 (.int .i64 z1393) z (fu 59 v1411 z (fu 60 (.int .i64 ((x1403).length : Int)) z (fu 61 (.int .i64 (0:Int)) z z))))))), hst⟩ ?_
 rintro n1500 _ w1495 ⟨z1491, z1492, σ1493, hm, rfl, hst⟩
 obtain ⟨n1497, y1498, rfl, hm, hx1499⟩ := loopN_some hm
 dsimp only [command_LayReply_l3] at hm
 refine wp_seq (wrl (wv (.bool (decide (z1492 < ((x1403).length : Int)))) z z z (wl_nil (tn (wp_seq ?_)))))
 refine bsplit (decide (z1492 < ((x1403).length : Int))) (fun hc1501 => ?_) (fun hc1501 => ?_)
 {
 replace hm := bif_t hc1501 hm
 refine wp_ift (cvb hc1501) ?_
 refine wp_skip (tn (wp_seq (wp_block (wp_seq (wrl ?_)))))
 obtain ⟨x1502, hx1503, hm⟩ := bind_some hm
 obtain ⟨h1504, h1505, hi1506⟩ := geto_some hx1503
 refine wv (.pointer (some (eAddr v1411 (z1492.toNat * 2 + 0)))) z z (x_index z z underlying60 sizeOf64 (rd_sliceV f1412) h1504 h1505) ?_
 obtain ⟨cs1507, hr1508, hc1509⟩ := Rd.getF f1412 hi1506
 obtain ⟨v1510, rfl, f1511, -⟩ := hr1508
 refine wv (.agg #[F6 x1502.At, v1510]) z z (x_loadN (cs := [F6 x1502.At, v1510]) z isAgg64 sizeOf64 (eCells (o := 0) (hc1509 (HL.le.refl _) hst) z)) ?_
 obtain ⟨b1514, w1515, ew1516, eb1517, hst⟩ := hst.box [Zf, Zs] 64
 refine wl_run (v := Pt b1514 0) (w' := w1515) z z (x_al (by kernel_rfl) ew1516 eb1517) ?_
 obtain ⟨w1519, hr1520, hst⟩ := hst.bx [F6 x1502.At, v1510] sizeOf64 z (oC z (oC (one_of_sliceV (rd_sliceV f1511)) oN)) (by kernel_rfl)
 refine wl_unit z z (x_unit hr1520) ?_
 refine wl_nil (tn ?_)
 refine wp_region_St hst 8 [0, 1, 2, 3, 4, 5, 6, 7] [0, 0, 2, 6, 15, 0, 32, 127] [] z (by kernel_rfl) (by kernel_rfl) Try.mixed (by kernel_rfl) ?_
 refine wsr (p0) 0 z z z (by kernel_rfl) (fun w hst => z) (wsr (Pt b1514 0) 1 z z z (by kernel_rfl) (fun w hst => x_field z underlying64 z sizeOf61 z) (wsr (.float .f64 x1502.At) 2 z z z (by kernel_rfl) (fun w hst => x_load z isAgg61 (hst.bc0 z)) (wsr (Pt b1514 1) 5 z z z (by kernel_rfl) (fun w hst => x_field z underlying64 z sizeOf22 z) (wsr (v1510) 6 z z z (by kernel_rfl) (fun w hst => x_load z isAgg22 (hst.bc0 z)) ?_))))
 refine ws_e1 3 (by kernel_rfl) ?_
 refine nxe [4, 7] (by kernel_rfl) z z ?_
 clear hst
 intro w hst
 obtain ⟨t1521, ht1522, hm⟩ := bind_some hm
 refine wec call52 [F6 x1502.At] z z ?_
 refine (number_Rank_ref hst.to0 ht1522).mono ?_
 rintro _ w1523 ⟨rfl, hst⟩
 refine ⟨_, z, ?_⟩
 replace hst := hst.of0
 refine ws_next (pend' := [(6, v1510), (5, Pt b1514 1), (0, p0)]) hst (by kernel_rfl) (pkr z z (fun w hst => x_load z isAgg22 (hst.bc0 z)) (pkr z z (fun w hst => x_field z underlying64 z sizeOf22 z) (pkr z z (fun w hst => z) pk_nil))) ?_
 refine ws_e1 4 (by kernel_rfl) ?_
 refine nxe [7] (by kernel_rfl) z z ?_
 clear hst
 intro w hst
 replace hst := hst.pull1
 obtain ⟨t1526, ht1527, hm⟩ := bind_some hm
 refine wec call34 [p0, U6 t1521, I6 (8:Int)] z z ?_
 refine (octet_Writer_Num_ref hst.to1 ht1527).mono ?_
 rintro _ w1528 ⟨rfl, hst⟩
 refine ⟨_, z, ?_⟩
 replace hst := hst.of1
 refine ws_next (pend' := [(6, v1510), (5, Pt b1514 1)]) hst (by kernel_rfl) (pkr z z (fun w hst => x_load z isAgg22 (hst.bc1 z)) (pkr z z (fun w hst => x_field z underlying64 z sizeOf22 z) pk_nil)) ?_
 refine ws_e1 7 (by kernel_rfl) ?_
 refine nxe [] (by kernel_rfl) z z ?_
 clear hst
 intro w hst
 obtain ⟨t1531, ht1532, hm⟩ := bind_some hm
 refine wec call51 [p0, v1510] z z ?_
 refine (octet_Writer_Bytes_ref (f1511.mono (rd_weak _)) hst.to1 ht1532).mono ?_
 rintro _ w1533 ⟨rfl, hst⟩
 refine ⟨_, z, ?_⟩
 replace hst := hst.of1
 refine ws_next (pend' := []) hst (by kernel_rfl) pk_nil ?_
 refine ws_nil ?_
 intro w hst
 refine blk_n (tn (wrl ?_))
 refine wv (.int .i64 (i64.wrap (z1492 + (1:Int)))) z z z (wv (.int .i64 (i64.wrap (z1492 + (1:Int)))) z z z (wl_nil (tn ?_)))
 replace hst := hst.keep1
 obtain rfl := some_inj hm
 exact ⟨_, Nat.lt_succ_self _, t1531, (i64.wrap (z1492 + (1:Int))), _, hx1499, (fu 0 p0 z (fu 48 r1_1 z (fu 49 (.int .i64 ((a1.Scans).length : Int)) z (fu 50 (.int .i64 z1393) z (fu 59 v1411 z (fu 60 (.int .i64 ((x1403).length : Int)) z (fu 61 (.int .i64 (i64.wrap (z1492 + (1:Int)))) z z))))))), hst⟩
}
 {
 replace hm := bif_f hc1501 hm
 refine wp_iff (cvb hc1501) ?_
 refine wp_exit (then_x (then_x ?_))
 replace hm := inr_up hm hx1499
 refine blk_x (blk_n (tn (wrl ?_)))
 refine wv (.int .i64 (i64.wrap (z1393 + (1:Int)))) z z z (wv (.int .i64 (i64.wrap (z1393 + (1:Int)))) z z z (wl_nil (tn ?_)))
 replace hst := hst.keep1
 obtain rfl := some_inj hm
 exact ⟨_, Nat.lt_succ_self _, z1491, (i64.wrap (z1393 + (1:Int))), _, hx1400, (fu 0 p0 z (fu 48 r1_1 z (fu 49 (.int .i64 ((a1.Scans).length : Int)) z (fu 50 (.int .i64 (i64.wrap (z1393 + (1:Int)))) z z)))), hst⟩
}
}
 {
 replace hm := bif_f hc1402 hm
 refine wp_iff (cvb hc1402) ?_
 refine wp_exit (then_x (then_x ?_))
 replace hm := inr_up hm hx1400
 refine blk_x ?_
 obtain rfl := some_inj hm
 refine post_end (vs := []) results35 rvs_nil ?_
 exact ⟨z, hst.keep1⟩
}
}
}

end Go.Proofs.Ytkfifhkjdibadaa
