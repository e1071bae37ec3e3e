/- The Go functions refine their models, part 0. -/
import Derived.Test.YtgnkkopjkgdieaaGreatLaneReadsT
set_option linter.unusedVariables false
set_option linter.unusedSimpArgs false
set_option maxRecDepth 100000
set_option maxHeartbeats 4000000
namespace Go.Proofs.YtgnkkopjkgdieaaGreat
open Go Go.V
open _root_.Go.Proofs.Tryz IntKind
attribute [local irreducible] wpList Code.wp wpQuiet Calls bodyPost Oper.wp wpS Nx PendOK YieldsIn
theorem mvcc_New_ref {w0 w : World} {I : HL} {R : SP}   (hst : St w0 w I [] R) {r : (mvcc_Store)} (hm : mvcc_New = some r) :
  Calls prog 43 #[] w fun e w' => ∃ (q0 : Value), e = .returned (q0) ∧ St w0 w' I [at_mvcc_Store q0 r] R := by {
 unfold mvcc_New at hm
 refine calls_start (args := []) func43 z ntmps43 (Nat.le_of_ble_eq_true z) ?_
 refine wp_seq (wrl (wv (.pointer none) z z z (wl_nil (tn (wp_seq (wrl (wv (.agg #[Zs]) z z (by kernel_rfl) ?_)))))))
 obtain ⟨b10, w11, ew12, eb13, hst⟩ := hst.box [Zs] 201
 refine wl_run (v := Pt b10 0) (w' := w11) z z (x_al (by kernel_rfl) ew12 eb13) ?_
 refine wv (Pt b10 0) z z z (wl_nil (tn (wp_ret ?_)))
 replace hst := hst.nest_nil nest_mvcc_row
 replace hst := hst.pull1
 replace hst := at_mvcc_Store_close (pv := Pt b10 0) (x := ({ rows := [] } : mvcc_Store)) hst z
 obtain rfl := some_inj hm
 refine post_ret (vs := [Pt b10 0]) results43 (rvs_cons (rv_tmp z) rvs_nil) ?_
 exact ⟨.pointer (some ⟨b10, 0, none⟩), z, hst.keep1⟩
}

theorem locks_New_ref {w0 w : World} {I : HL} {R : SP}   (hst : St w0 w I [] R) {r : (locks_Table)} (hm : locks_New = some r) :
  Calls prog 44 #[] w fun e w' => ∃ (q0 : Value), e = .returned (q0) ∧ St w0 w' I [at_locks_Table q0 r] R := by {
 unfold locks_New at hm
 refine calls_start (args := []) func44 z ntmps44 (Nat.le_of_ble_eq_true z) ?_
 refine wp_seq (wrl (wv (.pointer none) z z z (wl_nil (tn (wp_seq (wrl (wv (.agg #[Zs]) z z (by kernel_rfl) ?_)))))))
 obtain ⟨b17, w18, ew19, eb20, hst⟩ := hst.box [Zs] 203
 refine wl_run (v := Pt b17 0) (w' := w18) z z (x_al (by kernel_rfl) ew19 eb20) ?_
 refine wv (Pt b17 0) z z z (wl_nil (tn (wp_ret ?_)))
 replace hst := hst.own_nil ty_api_Hold
 replace hst := hst.pull1
 replace hst := at_locks_Table_close (pv := Pt b17 0) (x := ({ l := [] } : locks_Table)) hst z
 obtain rfl := some_inj hm
 refine post_ret (vs := [Pt b17 0]) results44 (rvs_cons (rv_tmp z) rvs_nil) ?_
 exact ⟨.pointer (some ⟨b17, 0, none⟩), z, hst.keep1⟩
}

theorem session_New_ref {w0 w : World} {I : HL} {R : SP}   (hst : St w0 w I [] R) {r : (session_Table)} (hm : session_New = some r) :
  Calls prog 45 #[] w fun e w' => ∃ (q0 : Value), e = .returned (q0) ∧ St w0 w' I [at_session_Table q0 r] R := by {
 unfold session_New at hm
 refine calls_start (args := []) func45 z ntmps45 (Nat.le_of_ble_eq_true z) ?_
 refine wp_seq (wrl (wv (.pointer none) z z z (wl_nil (tn (wp_seq (wrl (wv (.agg #[Zs]) z z (by kernel_rfl) ?_)))))))
 obtain ⟨b24, w25, ew26, eb27, hst⟩ := hst.box [Zs] 206
 refine wl_run (v := Pt b24 0) (w' := w25) z z (x_al (by kernel_rfl) ew26 eb27) ?_
 refine wv (Pt b24 0) z z z (wl_nil (tn (wp_ret ?_)))
 replace hst := hst.own_nil ty_session_row
 replace hst := hst.pull1
 replace hst := at_session_Table_close (pv := Pt b24 0) (x := ({ l := [] } : session_Table)) hst z
 obtain rfl := some_inj hm
 refine post_ret (vs := [Pt b24 0]) results45 (rvs_cons (rv_tmp z) rvs_nil) ?_
 exact ⟨.pointer (some ⟨b24, 0, none⟩), z, hst.keep1⟩
}

theorem policy_New_ref {w0 w : World} {I : HL} {R : SP}   (hst : St w0 w I [] R) {r : (policy_Book)} (hm : policy_New = some r) :
  Calls prog 46 #[] w fun e w' => ∃ (q0 : Value), e = .returned (q0) ∧ St w0 w' I [at_policy_Book q0 r] R := by {
 unfold policy_New at hm
 refine calls_start (args := []) func46 z ntmps46 (Nat.le_of_ble_eq_true z) ?_
 refine wp_seq (wrl (wv (.pointer none) z z z (wl_nil (tn (wp_seq (wrl (wv (.agg #[Zs]) z z (by kernel_rfl) ?_)))))))
 obtain ⟨b31, w32, ew33, eb34, hst⟩ := hst.box [Zs] 209
 refine wl_run (v := Pt b31 0) (w' := w32) z z (x_al (by kernel_rfl) ew33 eb34) ?_
 refine wv (Pt b31 0) z z z (wl_nil (tn (wp_ret ?_)))
 replace hst := hst.own_nil ty_policy_line
 replace hst := hst.pull1
 replace hst := at_policy_Book_close (pv := Pt b31 0) (x := ({ l := [] } : policy_Book)) hst z
 obtain rfl := some_inj hm
 refine post_ret (vs := [Pt b31 0]) results46 (rvs_cons (rv_tmp z) rvs_nil) ?_
 exact ⟨.pointer (some ⟨b31, 0, none⟩), z, hst.keep1⟩
}

theorem lane_New_ref {w0 w : World} {I : HL} {R : SP} {a0 : Int}  (hst : St w0 w I [] R) {r : (lane_State)} (hm : lane_New a0 = some r) :
  Calls prog 13 #[I6 a0] w fun e w' => ∃ (q0 : Value), e = .returned (q0) ∧ St w0 w' I [at_lane_State q0 r] R := by {
 unfold lane_New at hm
 refine calls_start (args := [I6 a0]) func13 z ntmps13 (Nat.le_of_ble_eq_true z) ?_
 refine wp_seq (wrl (wv (.pointer none) z z z (wl_nil (tn (wp_seq (wrl (wv (.int .i64 a0) z z z ?_)))))))
 obtain ⟨t50, ht51, hm⟩ := bind_some hm
 refine wc call43 [] z z z ?_
 refine (mvcc_New_ref hst.to0 ht51).mono ?_
 rintro _ w52 ⟨v55, rfl, hst⟩
 refine ⟨_, z, ?_⟩
 replace hst := hst.of1
 obtain ⟨t57, ht58, hm⟩ := bind_some hm
 refine wc call44 [] z z z ?_
 refine (locks_New_ref hst.to0 ht58).mono ?_
 rintro _ w59 ⟨v62, rfl, hst⟩
 refine ⟨_, z, ?_⟩
 replace hst := hst.of1
 obtain ⟨t64, ht65, hm⟩ := bind_some hm
 refine wc call45 [] z z z ?_
 refine (session_New_ref hst.to0 ht65).mono ?_
 rintro _ w66 ⟨v69, rfl, hst⟩
 refine ⟨_, z, ?_⟩
 replace hst := hst.of1
 obtain ⟨t71, ht72, hm⟩ := bind_some hm
 refine wc call46 [] z z z ?_
 refine (policy_New_ref hst.to0 ht72).mono ?_
 rintro _ w73 ⟨v76, rfl, hst⟩
 refine ⟨_, z, ?_⟩
 replace hst := hst.of1.pull3
 obtain ⟨b81, v82, rfl, hst'⟩ := at_mvcc_Store_open hst
 clear hst
 have hst := hst'
 clear hst'
 replace hst := hst.pull4
 obtain ⟨b84, v85, rfl, hst'⟩ := at_locks_Table_open hst
 clear hst
 have hst := hst'
 clear hst'
 replace hst := hst.pull5
 obtain ⟨b87, v88, rfl, hst'⟩ := at_session_Table_open hst
 clear hst
 have hst := hst'
 clear hst'
 replace hst := hst.pull6
 obtain ⟨b90, v91, rfl, hst'⟩ := at_policy_Book_open hst
 clear hst
 have hst := hst'
 clear hst'
 refine wv (.agg #[I6 a0, U6 (1:Int), Pt b81 0, Pt b84 0, Pt b87 0, Pt b90 0, Zs, Zs, Zs]) z z (by kernel_rfl) ?_
 obtain ⟨b93, w94, ew95, eb96, hst⟩ := hst.box [I6 a0, U6 (1:Int), Pt b81 0, Pt b84 0, Pt b87 0, Pt b90 0, Zs, Zs, Zs] 111
 refine wl_run (v := Pt b93 0) (w' := w94) z z (x_al (by kernel_rfl) ew95 eb96) ?_
 refine wv (Pt b93 0) z z z (wl_nil (tn (wp_ret ?_)))
 replace hst := hst.pull8.pull8
 replace hst := at_mvcc_Store_close (pv := Pt b81 0) (x := t50) hst z
 replace hst := objO_some hst
 replace hst := hst.pull7.pull7
 replace hst := at_locks_Table_close (pv := Pt b84 0) (x := t57) hst z
 replace hst := objO_some hst
 replace hst := hst.pull6.pull6
 replace hst := at_session_Table_close (pv := Pt b87 0) (x := t64) hst z
 replace hst := objO_some hst
 replace hst := hst.pull5.pull5
 replace hst := at_policy_Book_close (pv := Pt b90 0) (x := t71) hst z
 replace hst := objO_some hst
 replace hst := hst.own_nil ty_api_Decision
 replace hst := hst.own_nil ty_api_Item
 replace hst := hst.own_nil ty_lane_used
 replace hst := hst.pull1.pull2.pull3.pull4.pull5.pull6.pull7
 replace hst := at_lane_State_close (pv := Pt b93 0) (x := ({ wide := a0, epoch := (1:Int), store := (some t50), locks := (some t57), last := (some t64), book := (some t71), open_ := [], out := [], used := [] } : lane_State)) hst z
 obtain rfl := some_inj hm
 refine post_ret (vs := [Pt b93 0]) results13 (rvs_cons (rv_tmp z) rvs_nil) ?_
 exact ⟨.pointer (some ⟨b93, 0, none⟩), z, hst.keep1⟩
}

theorem locks_Table_Until_ref {w0 w : World} {I : HL} {R : SP} {a0 : (Option locks_Table)} {p0 : Value} {a1 : Int}  (hst : St w0 w I [objO at_locks_Table p0 a0] R) {r : (Bool)} (hm : locks_Table_Until a0 a1 = some r) :
  Calls prog 154 #[p0, U6 a1] w fun e w' => e = .returned (.bool r) ∧ St w0 w' I [objO at_locks_Table p0 a0] R := by {
 rcases a0 with _ | o0
 {
 obtain ⟨rfl, hst'⟩ := objO_none hst
 clear hst
 have hst := hst'
 clear hst'
 dsimp only [locks_Table_Until] at hm
 refine calls_start (args := [.pointer none, U6 a1]) func154 z ntmps154 (Nat.le_of_ble_eq_true z) ?_
 refine wp_seq (wrl ?_)
 obtain ⟨b220, w221, ew222, eb223, hst⟩ := hst.box [U6 a1] 26
 refine wl_run (v := Pt b220 0) (w' := w221) z z (x_al (by kernel_rfl) ew222 eb223) ?_
 refine wv (.bool false) z z z (wl_nil (tn (wp_seq (wrl (wv (.pointer none) z z z (wv (.bool false) z z (by kernel_rfl) (wv (.bool false) z z z (wz z z z z z z (wz z z z z z z (wz z z z z z z (wz z z z z z z (wz z z z z z z (wz z z z z z z (wv (.bool false) z z (x_pick_f z z z) (wv (.bool false) z z z ?_)))))))))))))))
 refine wl_nil (tn (wp_ret ?_))
 replace hst := hst.objO_nil at_locks_Table
 obtain rfl := some_inj hm
 refine post_ret (vs := [.bool false]) results154 (rvs_cons (rv_tmp z) rvs_nil) ?_
 exact ⟨z, hst.keep1⟩
}
 {
 replace hst := objO_get hst
 dsimp only [locks_Table_Until] at hm
 refine calls_start (args := [p0, U6 a1]) func154 z ntmps154 (Nat.le_of_ble_eq_true z) ?_
 refine wp_seq (wrl ?_)
 obtain ⟨b225, w226, ew227, eb228, hst⟩ := hst.box [U6 a1] 26
 refine wl_run (v := Pt b225 0) (w' := w226) z z (x_al (by kernel_rfl) ew227 eb228) ?_
 refine wv (.bool false) z z z (wl_nil (tn (wp_seq (wrl (wv (p0) z z z ?_)))))
 replace hst := hst.pull1
 obtain ⟨b230, v231, rfl, hst'⟩ := at_locks_Table_open hst
 clear hst
 have hst := hst'
 clear hst'
 refine wv (.bool true) z z (by kernel_rfl) (wv (.bool true) z z z (wv (Pt b230 0) ((wanted_eq z z z z).trans z) z z (wv (Pt b230 0) ((wanted_eq z z z z).trans z) z z (wv (Pt b230 0) ((wanted_eq z z z z).trans z) z (x_field z underlying203 z sizeOf125 z) (wv (v231) ((wanted_eq z z z z).trans z) z (x_load z isAgg125 (hst.bc0 z)) (wv (.func (.func 204) #[] #[Pt b225 0]) ((wanted_eq z z z z).trans z) z (by kernel_rfl) ?_))))))
 obtain ⟨y343, hq344, hm⟩ := bind_some hm
 refine wl_call ((wanted_eq z z z z).trans z) z (x_callv call203 (caps := []) z (vs := [v231, .func (.func 204) #[] #[Pt b225 0]]) z) ?_
 refine Calls.mono (show Calls prog 203 #[v231, .func (.func 204) #[] #[Pt b225 0]] _ (fun e w' => ∃ (z341 : Bool), z341 = y343 ∧ e = .returned (.bool z341) ∧ St w0 w' I [cells b230 [v231], ownS ty_api_Hold v231 o0.l, cells b225 [U6 a1]] R) from ?_) ?_
 {
 clear hm; have hm := hq344
 refine calls_start (args := [v231, .func (.func 204) #[] #[Pt b225 0]]) func203 z ntmps203 (Nat.le_of_ble_eq_true z) ?_
 refine wp_seq (wrl (wv (.bool false) z z z (wl_nil (tn (wp_seq (wrl (wv (v231) z z z (wv (.func (.func 204) #[] #[Pt b225 0]) z z z ?_))))))))
 obtain ⟨y338, hq339, hm⟩ := bind_some hm
 refine wl_call z z (x_callv call222 (caps := []) z (vs := [v231, .func (.func 204) #[] #[Pt b225 0]]) z) ?_
 refine Calls.mono (show Calls prog 222 #[v231, .func (.func 204) #[] #[Pt b225 0]] _ (fun e w' => ∃ (z336 : Int), z336 = y338 ∧ e = .returned (.int .i64 z336) ∧ St w0 w' I [cells b230 [v231], ownS ty_api_Hold v231 o0.l, cells b225 [U6 a1]] R) from ?_) ?_
 {
 clear hm; have hm := hq339
 refine calls_start (args := [v231, .func (.func 204) #[] #[Pt b225 0]]) func222 z ntmps222 (Nat.le_of_ble_eq_true z) ?_
 refine wp_seq (wrl (wv (.int .i64 (0:Int)) z z z (wl_nil (tn (wp_seq (wp_seq (wrl (wv (v231) z z z (wv (.int .i64 ((o0.l).length : Int)) z z (x_len z underlying125 hst.sv1) (wv (.int .i64 (0:Int)) z z z (wl_nil (tn (wp_block ?_)))))))))))))
 obtain ⟨n298, hm⟩ := loopO_some hm
 refine wp_loop_n (fun n a w => ∃ (z296 : Int) (σ297 : Nat → Value), loopN (locks_Table_Until_l0 o0 a1) n z296 = some y338 ∧ a = Fr 19 (upd (upd (upd (upd σ297 0 (v231)) 1 (.func (.func 204) #[] #[Pt b225 0])) 7 (.int .i64 ((o0.l).length : Int))) 8 (.int .i64 z296)) ∧ St w0 w I [cells b230 [v231], ownS ty_api_Hold v231 o0.l, cells b225 [U6 a1]] R) n298 ⟨(0:Int), _, hm, (fu 0 v231 z (fu 1 (.func (.func 204) #[] #[Pt b225 0]) z (fu 7 (.int .i64 ((o0.l).length : Int)) z (fu 8 (.int .i64 (0:Int)) z z)))), hst⟩ ?_
 rintro n304 _ w299 ⟨z296, σ297, hm, rfl, hst⟩
 obtain ⟨n301, y302, rfl, hm, hx303⟩ := loopN_some hm
 dsimp only [locks_Table_Until_l0] at hm
 refine wp_seq (wrl (wv (.bool (decide (z296 < ((o0.l).length : Int)))) z z z (wl_nil (tn (wp_seq ?_)))))
 refine bsplit (decide (z296 < ((o0.l).length : Int))) (fun hc305 => ?_) (fun hc305 => ?_)
 {
 replace hm := bif_t hc305 hm
 refine wp_ift (cvb hc305) ?_
 refine wp_skip (tn (wp_seq (wp_block (wp_seq (wrl ?_)))))
 refine wv (.int .i64 z296) z z z (wv (.int .i64 z296) z z z (wl_nil (tn (wp_seq (wrl (wv (.func (.func 204) #[] #[Pt b225 0]) z z z (wv (v231) z z z (wv (.int .i64 z296) z z z ?_))))))))
 obtain ⟨x306, hx307, hm⟩ := bind_some hm
 obtain ⟨h308, h309, hi310⟩ := geto_some hx307
 refine wv (.pointer (some (eAddr v231 (z296.toNat * 7 + 0)))) z z (x_index z z underlying125 sizeOf46 hst.sv1 h308 h309) ?_
 obtain ⟨cs311, hr312, hc313⟩ := hst.og1 hi310
 obtain ⟨v314, v317, v320, v323, rfl, f315, f318, f321, f324, -⟩ := hr312
 refine wv (.agg #[U6 x306.ID.Session, U6 x306.ID.Seq, U6 x306.Epoch, v314, v317, v320, v323]) z z (x_loadN (cs := [U6 x306.ID.Session, U6 x306.ID.Seq, U6 x306.Epoch, v314, v317, v320, v323]) z isAgg46 sizeOf46 (eCells (o := 0) hc313 z)) ?_
 obtain ⟨y332, hq333, hm⟩ := bind_some hm
 refine wl_call z z (x_callv call204 (caps := [Pt b225 0]) z (vs := [.agg #[U6 x306.ID.Session, U6 x306.ID.Seq, U6 x306.Epoch, v314, v317, v320, v323]]) z) ?_
 refine Calls.mono (show Calls prog 204 #[.agg #[U6 x306.ID.Session, U6 x306.ID.Seq, U6 x306.Epoch, v314, v317, v320, v323], Pt b225 0] _ (fun e w' => () = y332 ∧ e = .returned (.bool (decide (x306.Epoch ≤ a1))) ∧ St w0 w' I [cells b230 [v231], ownS ty_api_Hold v231 o0.l, cells b225 [U6 a1]] R) from ?_) ?_
 {
 clear hm; have hm := hq333
 refine calls_start (args := [.agg #[U6 x306.ID.Session, U6 x306.ID.Seq, U6 x306.Epoch, v314, v317, v320, v323], Pt b225 0]) func204 z ntmps204 (Nat.le_of_ble_eq_true z) ?_
 refine wp_seq (wrl ?_)
 obtain ⟨b326, w327, ew328, eb329, hst⟩ := hst.box [U6 x306.ID.Session, U6 x306.ID.Seq, U6 x306.Epoch, v314, v317, v320, v323] 46
 refine wl_run (v := Pt b326 0) (w' := w327) z z (x_al (by kernel_rfl) ew328 eb329) ?_
 refine wv (.bool false) z z z (wl_nil (tn (wp_seq (wrl (wv (Pt b326 2) z z (x_field z underlying46 z sizeOf26 z) (wv (.int .u64 x306.Epoch) z z (x_load z isAgg26 (hst.bc0 z)) (wv (.int .u64 a1) z z (x_load z isAgg26 (hst.bc3 z)) (wv (.bool (decide (x306.Epoch ≤ a1))) z z z (wv (.bool (decide (x306.Epoch ≤ a1))) z z z (wl_nil (tn (wp_ret ?_))))))))))))
 refine post_ret (vs := [.bool (decide (x306.Epoch ≤ a1))]) results204 (rvs_cons (rv_tmp z) rvs_nil) ?_
 replace hst := hst.pull3.pull3.pull3.keep3
 obtain rfl := some_inj hm
 exact ⟨z, z, hst⟩
}
 clear hst
 rintro _ w334 ⟨rfl, rfl, hst⟩
 refine ⟨_, z, ?_⟩
 try dsimp only at hm
 refine wl_nil (tn ?_)
 refine bsplit (decide (x306.Epoch ≤ a1)) (fun hc335 => ?_) (fun hc335 => ?_)
 {
 replace hm := bif_t hc335 hm
 refine wp_ift (cvb hc335) ?_
 refine wp_seq (wrl (wv (.int .i64 z296) z z z (wv (.int .i64 z296) z z z (wl_nil (tn (wp_ret (blk_r (then_r (then_r ?_)))))))))
 replace hm := inr_up hm hx303
 refine blk_r (then_r ?_)
 refine post_ret (vs := [I6 z296]) results222 (rvs_cons (rv_tmp z) rvs_nil) ?_
 replace hst := hst.pull2.pull2.pull2.keep3
 obtain rfl := some_inj hm
 exact ⟨z296, z, z, hst⟩
}
 {
 replace hm := bif_f hc335 hm
 refine wp_iff (cvb hc335) ?_
 refine wp_skip (blk_n (tn (wrl ?_)))
 refine wv (.int .i64 (i64.wrap (z296 + (1:Int)))) z z z (wv (.int .i64 (i64.wrap (z296 + (1:Int)))) z z z (wl_nil (tn ?_)))
 replace hst := hst.pull2.pull2.pull2.keep3
 obtain rfl := some_inj hm
 exact ⟨_, Nat.lt_succ_self _, (i64.wrap (z296 + (1:Int))), _, hx303, (fu 0 v231 z (fu 1 (.func (.func 204) #[] #[Pt b225 0]) z (fu 7 (.int .i64 ((o0.l).length : Int)) z (fu 8 (.int .i64 (i64.wrap (z296 + (1:Int)))) z z)))), hst⟩
}
}
 {
 replace hm := bif_f hc305 hm
 refine wp_iff (cvb hc305) ?_
 refine wp_exit (then_x (then_x ?_))
 replace hm := inr_up hm hx303
 refine blk_x (tn (wp_seq (wrl ?_)))
 refine wv (.int .i64 ((-1):Int)) z z z (wl_nil (tn (wp_ret ?_)))
 refine post_ret (vs := [I6 ((-1):Int)]) results222 (rvs_cons (rv_tmp z) rvs_nil) ?_
 replace hst := hst.pull2.pull2.pull2.keep3
 obtain rfl := some_inj hm
 exact ⟨((-1):Int), z, z, hst⟩
}
}
 clear hst
 rintro _ w340 ⟨z336, rfl, rfl, hst⟩
 refine ⟨_, z, ?_⟩
 try dsimp only at hm
 refine wv (.bool (decide (z336 ≥ (0:Int)))) z z z (wv (.bool (decide (z336 ≥ (0:Int)))) z z z (wl_nil (tn (wp_ret ?_))))
 refine post_ret (vs := [.bool (decide (z336 ≥ (0:Int)))]) results203 (rvs_cons (rv_tmp z) rvs_nil) ?_
 replace hst := hst.pull2.pull2.pull2.keep3
 obtain rfl := some_inj hm
 exact ⟨(decide (z336 ≥ (0:Int))), z, z, hst⟩
}
 clear hst
 rintro _ w345 ⟨z341, rfl, rfl, hst⟩
 refine ⟨_, z, ?_⟩
 try dsimp only at hm
 refine wv (.bool z341) z z (x_pick_t z z z) (wv (.bool z341) z z z (wl_nil (tn (wp_ret ?_))))
 replace hst := hst.pull1.pull1
 replace hst := at_locks_Table_close (pv := Pt b230 0) (x := o0) hst z
 replace hst := objO_some hst
 obtain rfl := some_inj hm
 refine post_ret (vs := [.bool z341]) results154 (rvs_cons (rv_tmp z) rvs_nil) ?_
 exact ⟨z, hst.keep1⟩
}
}

theorem lane_State_May_ref {w0 w : World} {I : HL} {R : SP} {a0 : (Option lane_State)} {p0 : Value}  (hst : St w0 w I [objO at_lane_State p0 a0] R) {r : (Bool)} (hm : lane_State_May a0 = some r) :
  Calls prog 85 #[p0] w fun e w' => e = .returned (.bool r) ∧ St w0 w' I [objO at_lane_State p0 a0] R := by {
 rcases a0 with _ | o0
 {
 obtain ⟨rfl, hst'⟩ := objO_none hst
 clear hst
 have hst := hst'
 clear hst'
 dsimp only [lane_State_May] at hm
 refine calls_start (args := [.pointer none]) func85 z ntmps85 (Nat.le_of_ble_eq_true z) ?_
 refine wp_seq (wrl (wv (.bool false) z z z (wl_nil (tn (wp_seq ?_)))))
 refine wp_region_St hst 15 [0, 1, 2, 3, 4, 5, 6, 7, 8, 9, 10, 11, 12, 13, 14] [0, 1, 3, 7, 15, 31, 63, 7, 135, 391, 903, 2047, 4095, 8191, 16383] [] z (by kernel_rfl) (by kernel_rfl) Tryz.mixed (by kernel_rfl) ?_
 refine wsr (.pointer none) 0 z z z (by kernel_rfl) (fun w hst => z) (wsr (.bool false) 1 z z z (by kernel_rfl) (fun w hst => by kernel_rfl) (wsr (.bool false) 2 z z z (by kernel_rfl) (fun w hst => z) (ws_q (v := undef) 3 [4, 5, 6, 7, 8, 9, 10, 11, 12, 13, 14] (by kernel_rfl) z z (yi_off ((wanted_eq z z z z).trans z)) (ws_q (v := undef) 4 [5, 6, 7, 8, 9, 10, 11, 12, 13, 14] (by kernel_rfl) z z (yi_off ((wanted_eq z z z z).trans z)) (ws_q (v := undef) 5 [6, 7, 8, 9, 10, 11, 12, 13, 14] (by kernel_rfl) z z (yi_off ((wanted_eq z z z z).trans z)) (ws_q (v := undef) 6 [7, 8, 9, 10, 11, 12, 13, 14] (by kernel_rfl) z z (yi_off ((wanted_eq z z z z).trans z)) (ws_q (v := undef) 7 [8, 9, 10, 11, 12, 13, 14] (by kernel_rfl) z z (yi_off ((wanted_eq z z z z).trans z)) (ws_q (v := undef) 8 [9, 10, 11, 12, 13, 14] (by kernel_rfl) z z (yi_off ((wanted_eq z z z z).trans z)) (ws_q (v := undef) 9 [10, 11, 12, 13, 14] (by kernel_rfl) z z (yi_off ((wanted_eq z z z z).trans z)) (ws_q (v := undef) 10 [11, 12, 13, 14] (by kernel_rfl) z z (yi_off ((wanted_eq z z z z).trans z)) (ws_q (v := undef) 11 [12, 13, 14] (by kernel_rfl) z z (yi_off ((wanted_eq z z z z).trans z)) (ws_q (v := undef) 12 [13, 14] (by kernel_rfl) z z (yi_off ((wanted_eq z z z z).trans z)) ?_))))))))))))
 refine wsr (.bool false) 13 z z z (by kernel_rfl) (fun w hst => x_pick_f z z z) (wsr (.bool false) 14 z z z (by kernel_rfl) (fun w hst => z) ?_)
 refine ws_nil ?_
 intro w hst
 refine tn (wp_ret ?_)
 replace hst := hst.objO_nil at_lane_State
 obtain rfl := some_inj hm
 refine post_ret (vs := [.bool false]) results85 (rvs_cons (rv_tmp z) rvs_nil) ?_
 exact ⟨z, hst.keep1⟩
}
 {
 replace hst := objO_get hst
 dsimp only [lane_State_May] at hm
 refine calls_start (args := [p0]) func85 z ntmps85 (Nat.le_of_ble_eq_true z) ?_
 refine wp_seq (wrl (wv (.bool false) z z z (wl_nil (tn (wp_seq ?_)))))
 obtain ⟨b113, v114, v116, v118, v120, v122, v124, v126, rfl, hst'⟩ := at_lane_State_open hst
 clear hst
 have hst := hst'
 clear hst'
 refine wp_region_St hst 15 [0, 1, 2, 3, 4, 5, 6, 7, 8, 9, 10, 11, 12, 13, 14] [0, 1, 3, 7, 15, 31, 63, 7, 135, 391, 903, 2047, 4095, 8191, 16383] [] z (by kernel_rfl) (by kernel_rfl) Tryz.mixed (by kernel_rfl) ?_
 refine wsr (Pt b113 0) 0 z z z (by kernel_rfl) (fun w hst => z) (wsr (.bool true) 1 z z z (by kernel_rfl) (fun w hst => by kernel_rfl) (wsr (.bool true) 2 z z z (by kernel_rfl) (fun w hst => z) (ws_q (v := Pt b113 0) 3 [4, 5, 6, 7, 8, 9, 10, 11, 12, 13, 14] (by kernel_rfl) z z (yi_run ((wanted_eq z z z z).trans z) (fun w hst => z)) (ws_q (v := Pt b113 0) 4 [5, 6, 7, 8, 9, 10, 11, 12, 13, 14] (by kernel_rfl) z z (yi_run ((wanted_eq z z z z).trans z) (fun w hst => z)) (ws_q (v := Pt b113 3) 5 [6, 7, 8, 9, 10, 11, 12, 13, 14] (by kernel_rfl) z z (yi_run ((wanted_eq z z z z).trans z) (fun w hst => x_field z underlying111 z sizeOf103 z)) (ws_q (v := v116) 6 [7, 8, 9, 10, 11, 12, 13, 14] (by kernel_rfl) z z (yi_run ((wanted_eq z z z z).trans z) (fun w hst => x_load z isAgg103 (hst.bc0 z))) (ws_q (v := Pt b113 0) 7 [8, 9, 10, 11, 12, 13, 14] (by kernel_rfl) z z (yi_run ((wanted_eq z z z z).trans z) (fun w hst => z)) (ws_q (v := Pt b113 0) 8 [9, 10, 11, 12, 13, 14] (by kernel_rfl) z z (yi_run ((wanted_eq z z z z).trans z) (fun w hst => z)) (ws_q (v := Pt b113 1) 9 [10, 11, 12, 13, 14] (by kernel_rfl) z z (yi_run ((wanted_eq z z z z).trans z) (fun w hst => x_field z underlying111 z sizeOf26 z)) (ws_q (v := .int .u64 o0.epoch) 10 [11, 12, 13, 14] (by kernel_rfl) z z (yi_run ((wanted_eq z z z z).trans z) (fun w hst => x_load z isAgg26 (hst.bc0 z))) ?_))))))))))
 refine ws_e1 11 (by kernel_rfl) ?_
 refine nxe [12, 13, 14] (by kernel_rfl) z ((wanted_eq z z z z).trans z) ?_
 clear hst
 intro w hst
 replace hst := hst.pull2
 obtain ⟨t128, ht129, hm⟩ := bind_some hm
 refine wec call154 [v116, U6 o0.epoch] z z ?_
 refine (locks_Table_Until_ref hst.to1 ht129).mono ?_
 rintro _ w130 ⟨rfl, hst⟩
 refine ⟨_, z, ?_⟩
 replace hst := hst.of1
 refine ws_next (pend' := []) hst (by kernel_rfl) pk_nil ?_
 refine ws_q (v := .bool (!t128)) 12 [13, 14] (by kernel_rfl) z z (yi_run ((wanted_eq z z z z).trans z) (fun w hst => z)) (wsr (.bool (!t128)) 13 z z z (by kernel_rfl) (fun w hst => x_pick_t z z z) (wsr (.bool (!t128)) 14 z z z (by kernel_rfl) (fun w hst => z) ?_))
 refine ws_nil ?_
 intro w hst
 refine tn (wp_ret ?_)
 replace hst := hst.pull7.pull7.pull7.pull7.pull7.pull5.pull7.pull7
 replace hst := at_lane_State_close (pv := Pt b113 0) (x := o0) hst z
 replace hst := objO_some hst
 obtain rfl := some_inj hm
 refine post_ret (vs := [.bool (!t128)]) results85 (rvs_cons (rv_tmp z) rvs_nil) ?_
 exact ⟨z, hst.keep1⟩
}
}

theorem slices_Clone_mvcc_Version_mvcc_Version_ref {w0 w : World} {I : HL} {R : SP} {a0 : (List mvcc_Version)} {r0_0 : Value} (f0_0 : RdO ty_mvcc_Version R I r0_0 a0) (hst : St w0 w I [] R) {r : (List mvcc_Version)} (hm : slices_Clone_mvcc_Version_mvcc_Version a0 = some r) :
  Calls prog 181 #[r0_0] w fun e w' => ∃ (q0_0 : Value), e = .returned (q0_0) ∧ St w0 w' I [ownS ty_mvcc_Version q0_0 r] R := by {
 unfold slices_Clone_mvcc_Version_mvcc_Version at hm
 obtain ⟨hg, hm⟩ := gd_some hm
 obtain rfl := some_inj hm
 have hsv := rdo_sliceV f0_0
 refine calls_start (args := [r0_0]) func181 z ntmps181 (Nat.le_of_ble_eq_true z) ?_
 refine wp_seq (wrl (wv ((.slice none 0 0)) z z z (wl_nil (tn (wp_seq (wp_seq (wrl (wv (r0_0) z z z (wv (.bool (isNil r0_0)) z z (x_slnil z hsv z underlying238) (wl_nil (tn ?_)))))))))))
 refine bsplit (isNil r0_0) (fun hc210 => ?_) (fun hc210 => ?_)
 {
 refine wp_ift (cvb hc210) ?_
 refine wp_seq (wrl (wv ((.slice none 0 0)) z z z (wl_nil (tn (wp_ret (then_r ?_))))))
 refine post_ret (vs := [Zs]) results181 (rvs_cons (rv_tmp z) rvs_nil) ?_
 obtain rfl := List.eq_nil_of_length_eq_zero (isNil_len hsv hc210)
 exact ⟨_, z, (hst.own_nil ty_mvcc_Version).keep1⟩
}
 {
 refine wp_iff (cvb hc210) ?_
 refine wp_skip (tn (wp_seq (wrl ?_)))
 obtain ⟨b, w1, ew, eb, hst⟩ := hst.lits (E := ty_mvcc_Version) (xs := []) [] 214 0 z Reps.nil
 refine wl_run (v := (.slice (some ⟨b, 0, none⟩) 0 0)) (w' := w1) z z (x_als (by kernel_rfl) ew eb) ?_
 refine wv (r0_0) z z z ?_
 obtain ⟨v2, w2, hr, hst⟩ := run_append elem_238 underlying238 hst (Src.of_rdo hst f0_0) (room_of hg z) 238
 refine wl_run (v := v2) (w' := w2) z z (x_append z z hr) ?_
 refine wv (v2) z z z (wl_nil (tn (wp_ret ?_)))
 refine post_ret (vs := [v2]) results181 (rvs_cons (rv_tmp z) rvs_nil) ?_
 rw [List.nil_append] at hst
 exact ⟨_, z, hst.keep1⟩
}
}

theorem mvcc_Store_Trim_ref {w0 w : World} {I : HL} {R : SP} {a0 : (Option mvcc_Store)} {p0 : Value} {a1 : Int}  (hst : St w0 w I [objO at_mvcc_Store p0 a0] R) {r : ((Option mvcc_Store))} (hm : mvcc_Store_Trim a0 a1 = some r) :
  Calls prog 121 #[p0, U6 a1] w fun e w' => ∃ (I' : HL), e = .returned (.tuple #[]) ∧ I.le I' ∧ St w0 w' I' [objO at_mvcc_Store p0 r] R := by {
 rcases a0 with _ | o0
 {
 obtain ⟨rfl, hst'⟩ := objO_none hst
 clear hst
 have hst := hst'
 clear hst'
 dsimp only [mvcc_Store_Trim] at hm
 refine calls_start (args := [.pointer none, U6 a1]) func121 z ntmps121 (Nat.le_of_ble_eq_true z) ?_
 have hI0 := HL.le.refl I
 refine wp_seq (wrl ?_)
 obtain ⟨b548, w549, ew550, eb551, hst⟩ := hst.box [U6 a1] 26
 refine wl_run (v := Pt b548 0) (w' := w549) z z (x_al (by kernel_rfl) ew550 eb551) ?_
 refine wl_nil (tn (wp_seq (wp_seq (wrl (wv (.pointer none) z z z (wv (.bool true) z z (by kernel_rfl) (wl_nil (tn ?_))))))))
 refine wp_ift z ?_
 refine wp_ret (then_r ?_)
 replace hst := hst.objO_nil at_mvcc_Store
 obtain rfl := some_inj hm
 refine post_ret (vs := []) results121 rvs_nil ?_
 exact ⟨_, z, hI0, hst.keep1⟩
}
 {
 replace hst := objO_get hst
 dsimp only [mvcc_Store_Trim] at hm
 refine calls_start (args := [p0, U6 a1]) func121 z ntmps121 (Nat.le_of_ble_eq_true z) ?_
 have hI0 := HL.le.refl I
 refine wp_seq (wrl ?_)
 obtain ⟨b553, w554, ew555, eb556, hst⟩ := hst.box [U6 a1] 26
 refine wl_run (v := Pt b553 0) (w' := w554) z z (x_al (by kernel_rfl) ew555 eb556) ?_
 refine wl_nil (tn (wp_seq (wp_seq (wrl (wv (p0) z z z ?_)))))
 replace hst := hst.pull1
 obtain ⟨b558, v559, rfl, hst'⟩ := at_mvcc_Store_open hst
 clear hst
 have hst := hst'
 clear hst'
 refine wv (.bool false) z z (by kernel_rfl) (wl_nil (tn ?_))
 refine wp_iff z ?_
 refine wp_skip (tn (wp_seq (wrl ?_)))
 refine wv ((.slice none 0 0)) z z z (wl_nil (tn ?_))
 obtain ⟨y936, hm, hx937⟩ := bind_some hm
 refine wp_cut (fun a w => ∃ (I933 : HL) (z932 : (List mvcc_row)) (v931 : Value) (σ934 : Nat → Value), (mvcc_Store_Trim_j0) z932 = some r ∧ a = Fr 57 (upd (upd σ934 0 (Pt b558 0)) 4 (v931)) ∧ I.le I933 ∧ Ro ty_mvcc_row I933 v559 o0.rows ∧ St w0 w I933 [cells b558 [v559], ownN nest_mvcc_row v931 z932] R) ?_ ?_
 {
 have hL938 := HL.le.refl I
 refine wp_seq (wrl (wv (Pt b558 0) z z z (wv (Pt b558 0) z z z (wv (Pt b558 0) z z (x_field z underlying201 z sizeOf199 z) ?_))))
 replace hst := hst.pull1
 obtain ⟨I562, hI563, f564, hst⟩ := hst.nest_fix (E2 := ty_mvcc_row) z nestrep_mvcc_row
 replace hI0 := hI0.trans hI563
 replace hL938 := hL938.trans hI563
 refine wv (v559) z z (x_load z isAgg199 (hst.bc0 z)) (wv (.int .i64 ((o0.rows).length : Int)) z z (x_len z underlying199 (ro_sliceV f564)) (wv (.int .i64 (0:Int)) z z z (wl_nil (tn (wp_block ?_)))))
 replace hst := hst.nest_nil nest_mvcc_row
 obtain ⟨n835, hm⟩ := loopO_some hm
 refine wp_loop_n (fun n a w => ∃ (z830 : Int) (z831 : (List mvcc_row)) (v832 : Value) (σ834 : Nat → Value), loopN (mvcc_Store_Trim_l1 o0) n (z830, z831) = some y936 ∧ a = Fr 57 (upd (upd (upd (upd (upd (upd σ834 0 (Pt b558 0)) 3 (Pt b553 0)) 4 (v832)) 14 (v559)) 15 (.int .i64 ((o0.rows).length : Int))) 16 (.int .i64 z830)) ∧ St w0 w I562 [ownN nest_mvcc_row v832 z831, cells b558 [v559], cells b553 [U6 a1]] R) n835 ⟨(0:Int), [], Zs, _, hm, (fu 0 (Pt b558 0) z (fu 3 (Pt b553 0) z (fu 4 (.slice none 0 0) z (fu 14 v559 z (fu 15 (.int .i64 ((o0.rows).length : Int)) z (fu 16 (.int .i64 (0:Int)) z z)))))), hst⟩ ?_
 rintro n841 _ w836 ⟨z830, z831, v832, σ834, hm, rfl, hst⟩
 obtain ⟨n838, y839, rfl, hm, hx840⟩ := loopN_some hm
 dsimp only [mvcc_Store_Trim_l1] at hm
 refine wp_seq (wrl (wv (.bool (decide (z830 < ((o0.rows).length : Int)))) z z z (wl_nil (tn (wp_seq ?_)))))
 refine bsplit (decide (z830 < ((o0.rows).length : Int))) (fun hc842 => ?_) (fun hc842 => ?_)
 {
 replace hm := bif_t hc842 hm
 refine wp_ift (cvb hc842) ?_
 refine wp_skip (tn (wp_seq (wp_block (wp_seq (wrl ?_)))))
 obtain ⟨x843, hx844, hm⟩ := bind_some hm
 obtain ⟨h845, h846, hi847⟩ := geto_some hx844
 refine wv (.pointer (some (eAddr v559 (z830.toNat * 2 + 0)))) z z (x_index z z underlying199 sizeOf240 (ro_sliceV f564) h845 h846) ?_
 obtain ⟨cs848, hr849, hc850⟩ := Ro.getF f564 hi847
 obtain ⟨v851, rfl, f852, -⟩ := hr849
 refine wv (.agg #[U6 x843.rank, v851]) z z (x_loadN (cs := [U6 x843.rank, v851]) z isAgg240 sizeOf240 (eCells (o := 0) (hc850 (HL.le.refl _) hst) z)) ?_
 obtain ⟨b855, w856, ew857, eb858, hst⟩ := hst.box [Zu, Zs] 240
 refine wl_run (v := Pt b855 0) (w' := w856) z z (x_al (by kernel_rfl) ew857 eb858) ?_
 obtain ⟨w860, hr861, hst⟩ := hst.bx [U6 x843.rank, v851] sizeOf240 z (oC z (oC (one_of_sliceV (ro_sliceV f852)) oN)) (by kernel_rfl)
 refine wl_unit z z (x_unit hr861) ?_
 refine wl_nil (tn (wp_seq (wrl (wv (Pt b855 1) z z (x_field z underlying240 z sizeOf238 z) (wv (v851) z z (x_load z isAgg238 (hst.bc0 z)) (wv (.int .i64 ((x843.l).length : Int)) z z (x_len z underlying238 (ro_sliceV f852)) (wv (.func (.func 180) #[] #[Pt b855 0, Pt b553 0]) z z (by kernel_rfl) ?_)))))))
 obtain ⟨y873, hq874, hm⟩ := bind_some hm
 refine wl_call z z (x_callv call179 (caps := []) z (vs := [I6 ((x843.l).length : Int), .func (.func 180) #[] #[Pt b855 0, Pt b553 0]]) z) ?_
 refine Calls.mono (show Calls prog 179 #[I6 ((x843.l).length : Int), .func (.func 180) #[] #[Pt b855 0, Pt b553 0]] _ (fun e w' => () = y873 ∧ e = .returned (.int .i64 (0:Int)) ∧ St w0 w' I562 [cells b558 [v559], cells b553 [U6 a1], ownN nest_mvcc_row v832 z831, cells b855 [U6 x843.rank, v851]] R) from ?_) ?_
 {
 clear hm; have hm := hq874
 refine calls_start (args := [I6 ((x843.l).length : Int), .func (.func 180) #[] #[Pt b855 0, Pt b553 0]]) func179 z ntmps179 (Nat.le_of_ble_eq_true z) ?_
 refine wp_seq (wrl (wv (.int .i64 (0:Int)) z z z (wl_nil (tn (wp_seq (wrl (wv (.int .i64 ((x843.l).length : Int)) z z z (wv (.int .i64 (0:Int)) z z z (wv (.int .i64 ((x843.l).length : Int)) z z z (wl_nil (tn (wp_seq (wp_block ?_)))))))))))))
 obtain ⟨n864, hm⟩ := loopO_some hm
 refine wp_loop_n (fun n a w => ∃ (σ863 : Nat → Value), loopN (mvcc_Store_Trim_l2 x843) n () = some y873 ∧ a = Fr 26 (upd (upd (upd σ863 1 (.func (.func 180) #[] #[Pt b855 0, Pt b553 0])) 5 (.int .i64 (0:Int))) 6 (.int .i64 ((x843.l).length : Int))) ∧ St w0 w I562 [cells b855 [U6 x843.rank, v851], ownN nest_mvcc_row v832 z831, cells b558 [v559], cells b553 [U6 a1]] R) n864 ⟨_, hm, (fu 1 (.func (.func 180) #[] #[Pt b855 0, Pt b553 0]) z (fu 5 (.int .i64 (0:Int)) z (fu 6 (.int .i64 ((x843.l).length : Int)) z z))), hst⟩ ?_
 rintro n870 _ w865 ⟨σ863, hm, rfl, hst⟩
 obtain ⟨n867, y868, rfl, hm, hx869⟩ := loopN_some hm
 dsimp only [mvcc_Store_Trim_l2] at hm
 refine wp_seq (wp_seq (wrl (wv (.int .i64 (0:Int)) z z z (wv (.int .i64 ((x843.l).length : Int)) z z z (wv (.bool (decide ((0:Int) < ((x843.l).length : Int)))) z z z (wl_nil (tn ?_)))))))
 refine bsplit (decide ((0:Int) < ((x843.l).length : Int))) (fun hc871 => ?_) (fun hc871 => ?_)
 {
 replace hm := bif_t hc871 hm
 refine wp_ift (cvb hc871) ?_
 refine wp_skip (tn (wp_block (wp_seq (wrl ?_))))
 refine wv (.int .i64 (0:Int)) z z z (wv (.int .i64 ((x843.l).length : Int)) z z z (wv (.int .i64 (i64.wrap ((0:Int) + ((x843.l).length : Int)))) z z z (wv (.int .u64 (u64.wrap (i64.wrap ((0:Int) + ((x843.l).length : Int))))) z z (by kernel_rfl) (wv (.int .u64 (iShr .u64 (u64.wrap (i64.wrap ((0:Int) + ((x843.l).length : Int)))) (1:Int))) z z (x_shr (by decide) z z) (wv (.int .i64 (i64.wrap (iShr .u64 (u64.wrap (i64.wrap ((0:Int) + ((x843.l).length : Int)))) (1:Int)))) z z (by kernel_rfl) (wv (.int .i64 (i64.wrap (iShr .u64 (u64.wrap (i64.wrap ((0:Int) + ((x843.l).length : Int)))) (1:Int)))) z z z (wl_nil (tn (wp_seq (wrl (wv (.func (.func 180) #[] #[Pt b855 0, Pt b553 0]) z z z (wv (.int .i64 (i64.wrap (iShr .u64 (u64.wrap (i64.wrap ((0:Int) + ((x843.l).length : Int)))) (1:Int)))) z z z ?_))))))))))))
 cases hm
}
 {
 replace hm := bif_f hc871 hm
 refine wp_iff (cvb hc871) ?_
 refine wp_exit (then_x (then_x ?_))
 replace hm := inr_up hm hx869
 refine blk_x (tn (wp_seq (wrl ?_)))
 refine wv (.int .i64 (0:Int)) z z z (wv (.int .i64 (0:Int)) z z z (wl_nil (tn (wp_ret ?_))))
 refine post_ret (vs := [Zi]) results179 (rvs_cons (rv_tmp z) rvs_nil) ?_
 replace hst := hst.pull1.pull3.pull3.keep4
 obtain rfl := some_inj hm
 exact ⟨z, z, hst⟩
}
}
 clear hst
 rintro _ w875 ⟨rfl, rfl, hst⟩
 refine ⟨_, z, ?_⟩
 try dsimp only at hm
 refine wv (.int .i64 (0:Int)) z z z (wl_nil (tn (wp_seq (wrl (wv (Pt b855 1) z z (x_field z underlying240 z sizeOf238 z) (wv (v851) z z (x_load z isAgg238 (hst.bc3 z)) (wv (.int .i64 (0:Int)) z z z (wv (.int .i64 (i64.wrap ((0:Int) - (1:Int)))) z z z (wv (.int .i64 (if (0:Int) > (i64.wrap ((0:Int) - (1:Int))) then (0:Int) else (i64.wrap ((0:Int) - (1:Int))))) z z (by kernel_rfl) ?_)))))))))
 obtain ⟨hg876, hm⟩ := gd_some hm
 obtain ⟨h877, h878, h879⟩ := fits_of hg876
 have f881 : Ro ty_mvcc_Version I562 (slcV 4 v851 (if (0:Int) > (i64.wrap ((0:Int) - (1:Int))) then (0:Int) else (i64.wrap ((0:Int) - (1:Int)))).toNat (((x843.l).length : Nat) : Int).toNat) (subs x843.l (if (0:Int) > (i64.wrap ((0:Int) - (1:Int))) then (0:Int) else (i64.wrap ((0:Int) - (1:Int)))) (((x843.l).length : Nat) : Int)) := Ro.part f852 h878 h879 h877
 refine wv ((slcV 4 v851 (if (0:Int) > (i64.wrap ((0:Int) - (1:Int))) then (0:Int) else (i64.wrap ((0:Int) - (1:Int)))).toNat (((x843.l).length : Nat) : Int).toNat)) z z (x_slice underlying238 sizeOf214 z (ro_sliceV f852) h877 h878 h879 .i64 .i64 (.inl z) (.inr ⟨z, z⟩)) ?_
 obtain ⟨t882, ht883, hm⟩ := bind_some hm
 refine wc call181 [(slcV 4 v851 (if (0:Int) > (i64.wrap ((0:Int) - (1:Int))) then (0:Int) else (i64.wrap ((0:Int) - (1:Int)))).toNat (((x843.l).length : Nat) : Int).toNat)] z z z ?_
 refine (slices_Clone_mvcc_Version_mvcc_Version_ref (RdO.of_ro f881 _) hst.to0 ht883).mono ?_
 rintro _ w884 ⟨v887, rfl, hst⟩
 refine ⟨_, z, ?_⟩
 replace hst := hst.of1
 refine wv (v887) z z z (wl_nil (tn ?_))
 obtain ⟨y912, hm, hx913⟩ := bind_some hm
 refine wp_cut (fun a w => ∃ (z909 : (List mvcc_Version)) (v908 : Value) (σ910 : Nat → Value), (mvcc_Store_Trim_j3 z831 x843 z830) z909 = some y839 ∧ a = Fr 57 (upd (upd (upd (upd (upd (upd (upd (upd σ910 0 (Pt b558 0)) 3 (Pt b553 0)) 4 (v832)) 6 (Pt b855 0)) 8 (v908)) 14 (v559)) 15 (.int .i64 ((o0.rows).length : Int))) 16 (.int .i64 z830)) ∧ St w0 w I562 [cells b558 [v559], cells b553 [U6 a1], ownN nest_mvcc_row v832 z831, cells b855 [U6 x843.rank, v851], ownS ty_mvcc_Version v908 z909] R) ?_ ?_
 {
 refine wp_seq (wrl (wv (.int .i64 (0:Int)) z z z (wv (.bool (decide ((0:Int) > (0:Int)))) z z z (wv (.bool (decide ((0:Int) > (0:Int)))) z z z ?_))))
 refine bsplit (decide ((0:Int) > (0:Int))) (fun hc889 => ?_) (fun hc889 => ?_)
 {
 replace hm := bif_t hc889 hm
 refine wv (v887) ((wanted_eq z z z (cvb hc889)).trans z) z z ?_
 obtain ⟨x890, hx891, hm⟩ := bind_some hm
 obtain ⟨h892, h893, hi894⟩ := geto_some hx891
 refine wv (.pointer (some (eAddr v887 ((0:Int).toNat * 4 + 0)))) ((wanted_eq z z z (cvb hc889)).trans z) z (x_index z z underlying238 sizeOf214 hst.sv0 h892 h893) (wv (.pointer (some (eAddr v887 ((0:Int).toNat * 4 + 2)))) ((wanted_eq z z z (cvb hc889)).trans z) z (x_field_e z underlying214 z sizeOf4 z) ?_)
 obtain ⟨cs895, hr896, hc897⟩ := hst.og0 hi894
 obtain ⟨v898, rfl, f899, -⟩ := hr896
 refine wv (.bool x890.Del) ((wanted_eq z z z (cvb hc889)).trans z) z (x_load z isAgg4 (hc897 2 _ z)) (wv (.bool x890.Del) z z (x_pick_t hc889 z z) (wl_nil (tn ?_)))
 refine bsplit x890.Del (fun hc901 => ?_) (fun hc901 => ?_)
 {
 replace hm := bif_t hc901 hm
 refine wp_ift (cvb hc901) ?_
 refine wrl (wv (v887) z z z ?_)
 obtain ⟨hg902, hm⟩ := gd_some hm
 obtain ⟨h903, h904, h905⟩ := fits_of hg902
 refine wv ((slcV 4 v887 (1:Int).toNat (((t882).length : Nat) : Int).toNat)) z z (x_slice underlying238 sizeOf214 z hst.sv0 h903 h904 h905 .i64 .i64 (.inl z) (.inr ⟨z, z⟩)) ?_
 replace hst := hst.own_part h904 h905 h903
 refine wv ((slcV 4 v887 (1:Int).toNat (((t882).length : Nat) : Int).toNat)) z z z (wl_nil (tn ?_))
 replace hst := hst.pull4.pull4.pull4.pull4.keep5
 obtain rfl := some_inj hm
 exact ⟨(subs t882 (1:Int) (((t882).length : Nat) : Int)), (slcV 4 v887 (1:Int).toNat (((t882).length : Nat) : Int).toNat), _, hx913, (fu 0 (Pt b558 0) z (fu 3 (Pt b553 0) z (fu 4 v832 z (fu 6 (Pt b855 0) z (fu 8 (slcV 4 v887 (1:Int).toNat (((t882).length : Nat) : Int).toNat) z (fu 14 v559 z (fu 15 (.int .i64 ((o0.rows).length : Int)) z (fu 16 (.int .i64 z830) z z)))))))), hst⟩
}
 {
 replace hm := bif_f hc901 hm
 refine wp_iff (cvb hc901) ?_
 refine wp_skip (tn ?_)
 replace hst := hst.pull4.pull4.pull4.pull4.keep5
 obtain rfl := some_inj hm
 exact ⟨t882, v887, _, hx913, (fu 0 (Pt b558 0) z (fu 3 (Pt b553 0) z (fu 4 v832 z (fu 6 (Pt b855 0) z (fu 8 v887 z (fu 14 v559 z (fu 15 (.int .i64 ((o0.rows).length : Int)) z (fu 16 (.int .i64 z830) z z)))))))), hst⟩
}
}
 {
 replace hm := bif_f hc889 hm
 refine wo hc889 z z z z z z (wo hc889 z z z z z z (wo hc889 z z z z z z (wo hc889 z z z z z z (wv (.bool false) z z (x_pick_f hc889 z z) (wl_nil (tn ?_))))))
 refine wp_iff z ?_
 refine wp_skip (tn ?_)
 replace hst := hst.pull4.pull4.pull4.pull4.keep5
 obtain rfl := some_inj hm
 exact ⟨t882, v887, _, hx913, (fu 0 (Pt b558 0) z (fu 3 (Pt b553 0) z (fu 4 v832 z (fu 6 (Pt b855 0) z (fu 8 v887 z (fu 14 v559 z (fu 15 (.int .i64 ((o0.rows).length : Int)) z (fu 16 (.int .i64 z830) z z)))))))), hst⟩
}
}
 {
 clear hst
 rintro _ w914 ⟨z909, v908, σ910, hm, rfl, hst⟩
 dsimp only [mvcc_Store_Trim_j3] at hm
 refine wp_seq (wrl (wv (v908) z z z (wv (.int .i64 ((z909).length : Int)) z z (x_len z underlying238 hst.sv4) (wv (.bool (decide (((z909).length : Int) > (0:Int)))) z z z (wl_nil (tn ?_))))))
 refine bsplit (decide (((z909).length : Int) > (0:Int))) (fun hc915 => ?_) (fun hc915 => ?_)
 {
 replace hm := bif_t hc915 hm
 refine wp_ift (cvb hc915) ?_
 refine wrl (wv (v832) z z z (wv (Pt b855 0) z z (x_field z underlying240 z sizeOf26 z) (wv (.int .u64 x843.rank) z z (x_load z isAgg26 (hst.bc3 z)) (wv (v908) z z z (wv (.agg #[U6 x843.rank, v908]) z z (by obtain ⟨_, _, hv_, _⟩ := hst.sv4; rw [hv_]; kernel_rfl) ?_)))))
 replace hst := hst.pull4
 have hv923 := hst.sv0
 obtain ⟨b918, w919, ew920, eb921, hst⟩ := hst.nest_one (N := nest_mvcc_row) (x := ({ rank := x843.rank, l := z909 } : mvcc_row)) 240
 refine wl_run (v := (.slice (some ⟨b918, 0, none⟩) 1 1)) (w' := w919) z z (x_als (by obtain ⟨_, _, hv_, _⟩ := hv923; rw [hv_]; kernel_rfl) ew920 eb921) ?_
 obtain ⟨hg924, hm⟩ := gd_some hm
 replace hst := hst.pull3.pull1.pull1
 obtain ⟨v925, w926, hr927, hst⟩ := run_appN (N := nest_mvcc_row) elemN_199 underlying199 hst (room_of hg924 z) 199
 refine wl_run (v := v925) (w' := w926) z z (x_append z z hr927) ?_
 refine wv (v925) z z z (wl_nil (blk_n (tn (wrl (wv (.int .i64 (i64.wrap (z830 + (1:Int)))) z z z (wv (.int .i64 (i64.wrap (z830 + (1:Int)))) z z z (wl_nil (tn ?_))))))))
 replace hst := hst.pull2.pull2.pull2.keep3
 obtain rfl := some_inj hm
 exact ⟨_, Nat.lt_succ_self _, (i64.wrap (z830 + (1:Int))), (z831 ++ ([({ rank := x843.rank, l := z909 } : mvcc_row)])), v925, _, hx840, (fu 0 (Pt b558 0) z (fu 3 (Pt b553 0) z (fu 4 v925 z (fu 14 v559 z (fu 15 (.int .i64 ((o0.rows).length : Int)) z (fu 16 (.int .i64 (i64.wrap (z830 + (1:Int)))) z z)))))), hst⟩
}
 {
 replace hm := bif_f hc915 hm
 refine wp_iff (cvb hc915) ?_
 refine wp_skip (blk_n (tn (wrl ?_)))
 refine wv (.int .i64 (i64.wrap (z830 + (1:Int)))) z z z (wv (.int .i64 (i64.wrap (z830 + (1:Int)))) z z z (wl_nil (tn ?_)))
 replace hst := hst.pull1.pull1.pull2.keep3
 obtain rfl := some_inj hm
 exact ⟨_, Nat.lt_succ_self _, (i64.wrap (z830 + (1:Int))), z831, v832, _, hx840, (fu 0 (Pt b558 0) z (fu 3 (Pt b553 0) z (fu 4 v832 z (fu 14 v559 z (fu 15 (.int .i64 ((o0.rows).length : Int)) z (fu 16 (.int .i64 (i64.wrap (z830 + (1:Int)))) z z)))))), hst⟩
}
}
}
 {
 replace hm := bif_f hc842 hm
 refine wp_iff (cvb hc842) ?_
 refine wp_exit (then_x (then_x ?_))
 replace hm := inr_up hm hx840
 refine blk_x (tn ?_)
 replace hst := hst.pull1.keep2
 obtain rfl := some_inj hm
 exact ⟨_, z831, v832, _, hx937, (fu 0 (Pt b558 0) z (fu 4 v832 z z)), hL938, f564, hst⟩
}
}
 {
 clear hst
 rintro _ w939 ⟨I933, z932, v931, σ934, hm, rfl, hL935, f929, hst⟩
 dsimp only [mvcc_Store_Trim_j0] at hm
 replace hI0 := hI0.trans hL935
 refine wrl (wv (Pt b558 0) z z z (wv (v931) z z z (wv (Pt b558 0) z z z (wv (Pt b558 0) z z (x_field z underlying201 z sizeOf199 z) ?_))))
 obtain ⟨w940, hr941, hst⟩ := hst.boxStore1 (P := prog) (t := 199) (cs' := [v931]) 0 v931 (one_of_sliceV (hst.nestsv 1 z)) sizeOf199 z z
 refine wl_unit z z (x_unit hr941) ?_
 refine wl_nil ?_
 replace hst := hst.pull1.pull1
 replace hst := at_mvcc_Store_close (pv := Pt b558 0) (x := ({ rows := z932 } : mvcc_Store)) hst z
 replace hst := objO_some hst
 obtain rfl := some_inj hm
 refine post_end (vs := []) results121 rvs_nil ?_
 exact ⟨_, z, hI0, hst.keep1⟩
}
}
}

theorem lane_State_shut_ref {w0 w : World} {I : HL} {R : SP} {a0 : (Option lane_State)} {p0 : Value} {a1 : api_Command} {r1_0 : Value} {r1_1 : Value} {r1_2 : Value} {r1_3 : Value} {r1_4 : Value} {r1_5 : Value} {r1_6 : Value} {r1_7 : Value} (f1_0 : Rd tyF64 R I r1_0 a1.Hold.Gets) (f1_1 : Rd tyF2 R I r1_1 a1.Hold.Scans) (f1_2 : Rd tyF64 R I r1_2 a1.Hold.Puts) (f1_3 : Rd (tyInt .u8) R I r1_3 a1.Hold.Data) (f1_4 : Rd ty_api_Write R I r1_4 a1.Writes) (f1_5 : Rd ty_api_Got R I r1_5 a1.R.Gots) (f1_6 : Rd (tySl ty_api_Pair) R I r1_6 a1.R.Scans) (f1_7 : Rd ty_api_Part R I r1_7 a1.Parts) (hst : St w0 w I [objO at_lane_State p0 a0] R) {r : (api_Effect × (Option lane_State))} (hm : lane_State_shut a0 a1 = some r) :
  Calls prog 47 #[p0, .agg #[U1 a1.Kind, U6 a1.ID.Session, U6 a1.ID.Seq, U6 a1.Epoch, U6 a1.Index, I6 a1.E, U6 a1.Hold.ID.Session, U6 a1.Hold.ID.Seq, U6 a1.Hold.Epoch, r1_0, r1_1, r1_2, r1_3, r1_4, I6 a1.R.E, U6 a1.R.Epoch, U6 a1.R.Index, r1_5, r1_6, U6 a1.Shards, r1_7, U6 a1.Rule.ID, I6 a1.Rule.From, I6 a1.Rule.To, F6 a1.Rule.Lo, F6 a1.Rule.Hi, U6 a1.Rule.Authority, I6 a1.Rule.Quota, .bool a1.On]] w fun e w' => ∃ (q0_0 : Value) (q0_1 : Value), e = .returned (.agg #[U1 r.1.Kind, U6 r.1.ID.Session, U6 r.1.ID.Seq, I6 r.1.R.E, U6 r.1.R.Epoch, U6 r.1.R.Index, q0_0, q0_1]) ∧ St w0 w' I [ownS ty_api_Got q0_0 r.1.R.Gots, ownS (tySl ty_api_Pair) q0_1 r.1.R.Scans, objO at_lane_State p0 r.2] R := by {
 rcases a0 with _ | o0
 {
 obtain ⟨rfl, hst'⟩ := objO_none hst
 clear hst
 have hst := hst'
 clear hst'
 dsimp only [lane_State_shut] at hm
 refine calls_start (args := [.pointer none, .agg #[U1 a1.Kind, U6 a1.ID.Session, U6 a1.ID.Seq, U6 a1.Epoch, U6 a1.Index, I6 a1.E, U6 a1.Hold.ID.Session, U6 a1.Hold.ID.Seq, U6 a1.Hold.Epoch, r1_0, r1_1, r1_2, r1_3, r1_4, I6 a1.R.E, U6 a1.R.Epoch, U6 a1.R.Index, r1_5, r1_6, U6 a1.Shards, r1_7, U6 a1.Rule.ID, I6 a1.Rule.From, I6 a1.Rule.To, F6 a1.Rule.Lo, F6 a1.Rule.Hi, U6 a1.Rule.Authority, I6 a1.Rule.Quota, .bool a1.On]]) func47 z ntmps47 (Nat.le_of_ble_eq_true z) ?_
 refine wp_seq (wrl ?_)
 obtain ⟨b165, w166, ew167, eb168, hst⟩ := hst.box [U1 a1.Kind, U6 a1.ID.Session, U6 a1.ID.Seq, U6 a1.Epoch, U6 a1.Index, I6 a1.E, U6 a1.Hold.ID.Session, U6 a1.Hold.ID.Seq, U6 a1.Hold.Epoch, r1_0, r1_1, r1_2, r1_3, r1_4, I6 a1.R.E, U6 a1.R.Epoch, U6 a1.R.Index, r1_5, r1_6, U6 a1.Shards, r1_7, U6 a1.Rule.ID, I6 a1.Rule.From, I6 a1.Rule.To, F6 a1.Rule.Lo, F6 a1.Rule.Hi, U6 a1.Rule.Authority, I6 a1.Rule.Quota, .bool a1.On] 49
 refine wl_run (v := Pt b165 0) (w' := w166) z z (x_al (by kernel_rfl) ew167 eb168) ?_
 obtain ⟨b172, w173, ew174, eb175, hst⟩ := hst.box [Zb, Zu, Zu, Zi, Zu, Zu, Zs, Zs] 35
 refine wl_run (v := Pt b172 0) (w' := w173) z z (x_al (by kernel_rfl) ew174 eb175) ?_
 refine wl_nil (tn (wp_seq (wp_seq ?_)))
 refine wp_region_St hst 12 [0, 1, 2, 3, 4, 5, 6, 7, 8, 9, 10, 11] [0, 1, 0, 4, 12, 28, 63, 127, 255, 511, 1023, 2047] [] z (by kernel_rfl) (by kernel_rfl) Tryz.mixed (by kernel_rfl) ?_
 refine wsr (Pt b165 3) 0 z z z (by kernel_rfl) (fun w hst => x_field z underlying49 z sizeOf26 z) (wsr (.int .u64 a1.Epoch) 1 z z z (by kernel_rfl) (fun w hst => x_load z isAgg26 (hst.bc1 z)) (wsr (.pointer none) 2 z z z (by kernel_rfl) (fun w hst => z) ?_))
 cases hm
}
 {
 replace hst := objO_get hst
 dsimp only [lane_State_shut] at hm
 refine calls_start (args := [p0, .agg #[U1 a1.Kind, U6 a1.ID.Session, U6 a1.ID.Seq, U6 a1.Epoch, U6 a1.Index, I6 a1.E, U6 a1.Hold.ID.Session, U6 a1.Hold.ID.Seq, U6 a1.Hold.Epoch, r1_0, r1_1, r1_2, r1_3, r1_4, I6 a1.R.E, U6 a1.R.Epoch, U6 a1.R.Index, r1_5, r1_6, U6 a1.Shards, r1_7, U6 a1.Rule.ID, I6 a1.Rule.From, I6 a1.Rule.To, F6 a1.Rule.Lo, F6 a1.Rule.Hi, U6 a1.Rule.Authority, I6 a1.Rule.Quota, .bool a1.On]]) func47 z ntmps47 (Nat.le_of_ble_eq_true z) ?_
 refine wp_seq (wrl ?_)
 obtain ⟨b177, w178, ew179, eb180, hst⟩ := hst.box [U1 a1.Kind, U6 a1.ID.Session, U6 a1.ID.Seq, U6 a1.Epoch, U6 a1.Index, I6 a1.E, U6 a1.Hold.ID.Session, U6 a1.Hold.ID.Seq, U6 a1.Hold.Epoch, r1_0, r1_1, r1_2, r1_3, r1_4, I6 a1.R.E, U6 a1.R.Epoch, U6 a1.R.Index, r1_5, r1_6, U6 a1.Shards, r1_7, U6 a1.Rule.ID, I6 a1.Rule.From, I6 a1.Rule.To, F6 a1.Rule.Lo, F6 a1.Rule.Hi, U6 a1.Rule.Authority, I6 a1.Rule.Quota, .bool a1.On] 49
 refine wl_run (v := Pt b177 0) (w' := w178) z z (x_al (by kernel_rfl) ew179 eb180) ?_
 obtain ⟨b184, w185, ew186, eb187, hst⟩ := hst.box [Zb, Zu, Zu, Zi, Zu, Zu, Zs, Zs] 35
 refine wl_run (v := Pt b184 0) (w' := w185) z z (x_al (by kernel_rfl) ew186 eb187) ?_
 refine wl_nil (tn (wp_seq (wp_seq ?_)))
 replace hst := hst.pull2
 obtain ⟨b189, v190, v192, v194, v196, v198, v200, v202, rfl, hst'⟩ := at_lane_State_open hst
 clear hst
 have hst := hst'
 clear hst'
 refine wp_region_St hst 12 [0, 1, 2, 3, 4, 5, 6, 7, 8, 9, 10, 11] [0, 1, 0, 4, 12, 28, 63, 127, 255, 511, 1023, 2047] [] z (by kernel_rfl) (by kernel_rfl) Tryz.mixed (by kernel_rfl) ?_
 refine wsr (Pt b177 3) 0 z z z (by kernel_rfl) (fun w hst => x_field z underlying49 z sizeOf26 z) (wsr (.int .u64 a1.Epoch) 1 z z z (by kernel_rfl) (fun w hst => x_load z isAgg26 (hst.bc9 z)) (wsr (Pt b189 0) 2 z z z (by kernel_rfl) (fun w hst => z) (wsr (Pt b189 0) 3 z z z (by kernel_rfl) (fun w hst => z) (wsr (Pt b189 1) 4 z z z (by kernel_rfl) (fun w hst => x_field z underlying111 z sizeOf26 z) (wsr (.int .u64 o0.epoch) 5 z z z (by kernel_rfl) (fun w hst => x_load z isAgg26 (hst.bc0 z)) (wsr (.bool (a1.Epoch != o0.epoch)) 6 z z z (by kernel_rfl) (fun w hst => z) (wsr (.bool (a1.Epoch != o0.epoch)) 7 z z z (by kernel_rfl) (fun w hst => z) ?_)))))))
 refine bsplit (a1.Epoch != o0.epoch) (fun hc204 => ?_) (fun hc204 => ?_)
 {
 replace hm := bif_t hc204 hm
 refine ws_q (v := undef) 8 [9, 10, 11] (by kernel_rfl) z z (yi_off ((wanted_eq z z z (cvb hc204)).trans z)) (ws_q (v := undef) 9 [10, 11] (by kernel_rfl) z z (yi_off ((wanted_eq z z z (cvb hc204)).trans z)) (ws_q (v := undef) 10 [11] (by kernel_rfl) z z (yi_off ((wanted_eq z z z (cvb hc204)).trans z)) (wsr (.bool true) 11 z z z (by kernel_rfl) (fun w hst => x_pick_t hc204 z z) ?_)))
 refine ws_nil ?_
 intro w hst
 refine tn ?_
 refine wp_ift z ?_
 refine wp_seq (wrl (wv (.agg #[Zb, Zu, Zu, Zi, Zu, Zu, Zs, Zs]) z z (by kernel_rfl) ?_))
 replace hst := hst.pull8
 obtain ⟨w207, hr208, hst⟩ := hst.bx [Zb, Zu, Zu, Zi, Zu, Zu, Zs, Zs] sizeOf35 z (oC z (oC z (oC z (oC z (oC z (oC z (oC z (oC z oN)))))))) (by kernel_rfl)
 refine wl_unit z z (x_unit hr208) ?_
 refine wl_nil (tn (wp_ret (then_r ?_)))
 replace hst := hst.own_nil ty_api_Got
 replace hst := hst.own_nil (tySl ty_api_Pair)
 replace hst := hst.pull10.pull10.pull10.pull10.pull10.pull10.pull10.pull10
 replace hst := at_lane_State_close (pv := Pt b189 0) (x := o0) hst z
 replace hst := objO_some hst
 obtain rfl := some_inj hm
 refine post_ret (vs := [.agg #[Zb, Zu, Zu, Zi, Zu, Zu, Zs, Zs]]) results47 (rvs_cons (rv_cell (cs := [Zb, Zu, Zu, Zi, Zu, Zu, Zs, Zs]) z isAgg35 sizeOf35 (hst.bcs3 0 z)) rvs_nil) ?_
 replace hst := hst.pull1.pull2
 exact ⟨(.slice none 0 0), Zs, z, hst.keep3⟩
}
 {
 replace hm := bif_f hc204 hm
 refine ws_q (v := Pt b189 0) 8 [9, 10, 11] (by kernel_rfl) z z (yi_run ((wanted_eq z z z (cvb hc204)).trans z) (fun w hst => z)) ?_
 refine ws_e1 9 (by kernel_rfl) ?_
 refine nxe [10, 11] (by kernel_rfl) z ((wanted_eq z z z (cvb hc204)).trans z) ?_
 clear hst
 intro w hst
 replace hst := hst.pull7.pull7.pull7.pull7.pull7.pull7.pull7.pull7
 replace hst := at_lane_State_close (pv := Pt b189 0) (x := o0) hst z
 replace hst := objO_some hst
 obtain ⟨t209, ht210, hm⟩ := bind_some hm
 refine wec call85 [Pt b189 0] z z ?_
 refine (lane_State_May_ref hst.to1 ht210).mono ?_
 rintro _ w211 ⟨rfl, hst⟩
 refine ⟨_, z, ?_⟩
 replace hst := hst.of1
 replace hst := objO_get hst
 refine ws_next (pend' := []) hst (by kernel_rfl) pk_nil ?_
 refine ws_q (v := .bool (!t209)) 10 [11] (by kernel_rfl) z z (yi_run ((wanted_eq z z z (cvb hc204)).trans z) (fun w hst => z)) (wsr (.bool (!t209)) 11 z z z (by kernel_rfl) (fun w hst => x_pick_f hc204 z z) ?_)
 refine ws_nil ?_
 intro w hst
 refine tn ?_
 refine bsplit (!t209) (fun hc214 => ?_) (fun hc214 => ?_)
 {
 replace hm := bif_t hc214 hm
 refine wp_ift (cvb hc214) ?_
 refine wp_seq (wrl (wv (.agg #[Zb, Zu, Zu, Zi, Zu, Zu, Zs, Zs]) z z (by kernel_rfl) ?_))
 replace hst := hst.pull1
 obtain ⟨w217, hr218, hst⟩ := hst.bx [Zb, Zu, Zu, Zi, Zu, Zu, Zs, Zs] sizeOf35 z (oC z (oC z (oC z (oC z (oC z (oC z (oC z (oC z oN)))))))) (by kernel_rfl)
 refine wl_unit z z (x_unit hr218) ?_
 refine wl_nil (tn (wp_ret (then_r ?_)))
 replace hst := hst.own_nil ty_api_Got
 replace hst := hst.own_nil (tySl ty_api_Pair)
 replace hst := hst.pull3
 replace hst := objO_some hst
 obtain rfl := some_inj hm
 refine post_ret (vs := [.agg #[Zb, Zu, Zu, Zi, Zu, Zu, Zs, Zs]]) results47 (rvs_cons (rv_cell (cs := [Zb, Zu, Zu, Zi, Zu, Zu, Zs, Zs]) z isAgg35 sizeOf35 (hst.bcs3 0 z)) rvs_nil) ?_
 replace hst := hst.pull1.pull2
 exact ⟨(.slice none 0 0), Zs, z, hst.keep3⟩
}
 {
 replace hm := bif_f hc214 hm
 refine wp_iff (cvb hc214) ?_
 refine wp_skip (tn (wp_seq (wrl ?_)))
 refine wv (Pt b189 0) z z z ?_
 obtain ⟨b219, v220, v222, v224, v226, v228, v230, v232, e234, hst'⟩ := at_lane_State_open hst
 clear hst
 have e234 := ptr_inj e234
 subst e234
 have hst := hst'
 clear hst'
 refine wv (Pt b189 0) z z z (wv (Pt b189 1) z z (x_field z underlying111 z sizeOf26 z) (wv (.int .u64 o0.epoch) z z (x_load z isAgg26 (hst.bc0 z)) (wv (.int .u64 (u64.wrap (o0.epoch + (1:Int)))) z z z (wv (Pt b189 0) z z z (wv (Pt b189 1) z z (x_field z underlying111 z sizeOf26 z) ?_)))))
 obtain ⟨w235, hr236, hst⟩ := hst.by_ [I6 o0.wide, U6 (u64.wrap (o0.epoch + (1:Int))), v220, v222, v224, v226, v228, v230, v232] 1 (.int .u64 (u64.wrap (o0.epoch + (1:Int)))) sizeOf26 z (oC z oN) (by kernel_rfl)
 refine wl_unit z z (x_unit hr236) ?_
 refine wl_nil (tn (wp_seq (wp_seq (wrl (wv (Pt b189 0) z z z (wv (Pt b189 0) z z z (wv (Pt b189 1) z z (x_field z underlying111 z sizeOf26 z) (wv (.int .u64 (u64.wrap (o0.epoch + (1:Int)))) z z (x_load z isAgg26 (hst.bc0 z)) (wv (.bool (decide ((u64.wrap (o0.epoch + (1:Int))) > (9:Int)))) z z z (wl_nil (tn ?_)))))))))))
 refine bsplit (decide ((u64.wrap (o0.epoch + (1:Int))) > (9:Int))) (fun hc237 => ?_) (fun hc237 => ?_)
 {
 replace hm := bif_t hc237 hm
 refine wp_ift (cvb hc237) ?_
 refine wp_region_St hst 11 [0, 1, 2, 3, 4, 5, 6, 7, 8, 9, 10] [0, 1, 3, 7, 0, 16, 48, 112, 240, 496, 1023] [] z (by kernel_rfl) (by kernel_rfl) Tryz.mixed (by kernel_rfl) ?_
 refine wsr (Pt b189 0) 0 z z z (by kernel_rfl) (fun w hst => z) (wsr (Pt b189 0) 1 z z z (by kernel_rfl) (fun w hst => z) (wsr (Pt b189 2) 2 z z z (by kernel_rfl) (fun w hst => x_field z underlying111 z sizeOf101 z) (wsr (v220) 3 z z z (by kernel_rfl) (fun w hst => x_load z isAgg101 (hst.bc0 z)) (wsr (Pt b189 0) 4 z z z (by kernel_rfl) (fun w hst => z) (wsr (Pt b189 0) 5 z z z (by kernel_rfl) (fun w hst => z) (wsr (Pt b189 1) 6 z z z (by kernel_rfl) (fun w hst => x_field z underlying111 z sizeOf26 z) (wsr (.int .u64 (u64.wrap (o0.epoch + (1:Int)))) 7 z z z (by kernel_rfl) (fun w hst => x_load z isAgg26 (hst.bc0 z)) (wsr (.int .u64 (u64.wrap ((u64.wrap (o0.epoch + (1:Int))) - (1:Int)))) 8 z z z (by kernel_rfl) (fun w hst => z) (wsr (.int .u64 (u64.wrap ((u64.wrap ((u64.wrap (o0.epoch + (1:Int))) - (1:Int))) - (8:Int)))) 9 z z z (by kernel_rfl) (fun w hst => z) ?_)))))))))
 refine ws_e1 10 (by kernel_rfl) ?_
 cases hm
}
 {
 replace hm := bif_f hc237 hm
 refine wp_iff (cvb hc237) ?_
 refine wp_skip (tn (wp_seq (wrl ?_)))
 refine wv (.agg #[U1 (1:Int), Zu, Zu, Zi, Zu, Zu, Zs, Zs]) z z (by kernel_rfl) ?_
 replace hst := hst.pull8
 obtain ⟨w240, hr241, hst⟩ := hst.bx [U1 (1:Int), Zu, Zu, Zi, Zu, Zu, Zs, Zs] sizeOf35 z (oC z (oC z (oC z (oC z (oC z (oC z (oC z (oC z oN)))))))) (by kernel_rfl)
 refine wl_unit z z (x_unit hr241) ?_
 refine wl_nil (tn (wp_ret ?_))
 replace hst := hst.own_nil ty_api_Got
 replace hst := hst.own_nil (tySl ty_api_Pair)
 replace hst := hst.pull10.pull10.pull10.pull10.pull10.pull10.pull10.pull10
 replace hst := at_lane_State_close (pv := Pt b189 0) (x := ({ wide := o0.wide, epoch := (u64.wrap (o0.epoch + (1:Int))), store := o0.store, locks := o0.locks, last := o0.last, book := o0.book, open_ := o0.open_, out := o0.out, used := o0.used } : lane_State)) hst z
 replace hst := objO_some hst
 obtain rfl := some_inj hm
 refine post_ret (vs := [.agg #[U1 (1:Int), Zu, Zu, Zi, Zu, Zu, Zs, Zs]]) results47 (rvs_cons (rv_cell (cs := [U1 (1:Int), Zu, Zu, Zi, Zu, Zu, Zs, Zs]) z isAgg35 sizeOf35 (hst.bcs3 0 z)) rvs_nil) ?_
 replace hst := hst.pull1.pull2
 exact ⟨(.slice none 0 0), Zs, z, hst.keep3⟩
}
}
}
}
}

theorem cmp_isNaN_uint64_ref {w0 w : World} {I : HL} {R : SP} {a0 : Int}  (hst : St w0 w I [] R) {r : (Bool)} (hm : cmp_isNaN_uint64 a0 = some r) :
  Calls prog 190 #[U6 a0] w fun e w' => e = .returned (.bool r) ∧ St w0 w' I [] R := by {
 unfold cmp_isNaN_uint64 at hm
 refine calls_start (args := [U6 a0]) func190 z ntmps190 (Nat.le_of_ble_eq_true z) ?_
 refine wp_seq (wrl (wv (.bool false) z z z (wl_nil (tn (wp_seq (wrl (wv (.int .u64 a0) z z z (wv (.int .u64 a0) z z z (wv (.bool (a0 != a0)) z z z (wv (.bool (a0 != a0)) z z z (wl_nil (tn (wp_ret ?_)))))))))))))
 obtain rfl := some_inj hm
 refine post_ret (vs := [.bool (a0 != a0)]) results190 (rvs_cons (rv_tmp z) rvs_nil) ?_
 exact ⟨z, hst.keep0⟩
}

theorem cmp_Compare_uint64_ref {w0 w : World} {I : HL} {R : SP} {a0 : Int} {a1 : Int}  (hst : St w0 w I [] R) {r : (Int)} (hm : cmp_Compare_uint64 a0 a1 = some r) :
  Calls prog 131 #[U6 a0, U6 a1] w fun e w' => e = .returned (.int .i64 r) ∧ St w0 w' I [] R := by {
 unfold cmp_Compare_uint64 at hm
 refine calls_start (args := [U6 a0, U6 a1]) func131 z ntmps131 (Nat.le_of_ble_eq_true z) ?_
 refine wp_seq (wrl (wv (.int .i64 (0:Int)) z z z (wl_nil (tn (wp_seq (wrl (wv (.int .u64 a0) z z z ?_)))))))
 obtain ⟨t232, ht233, hm⟩ := bind_some hm
 refine wc call190 [U6 a0] z z z ?_
 refine (cmp_isNaN_uint64_ref hst.to0 ht233).mono ?_
 rintro _ w234 ⟨rfl, hst⟩
 refine ⟨_, z, ?_⟩
 replace hst := hst.of0
 refine wv (.bool t232) z z z (wl_nil (tn (wp_seq (wrl (wv (.int .u64 a1) z z z ?_)))))
 obtain ⟨t237, ht238, hm⟩ := bind_some hm
 refine wc call190 [U6 a1] z z z ?_
 refine (cmp_isNaN_uint64_ref hst.to0 ht238).mono ?_
 rintro _ w239 ⟨rfl, hst⟩
 refine ⟨_, z, ?_⟩
 replace hst := hst.of0
 refine wv (.bool t237) z z z (wl_nil (tn (wp_seq (wp_seq (wrl (wv (.bool t232) z z z (wl_nil (tn ?_))))))))
 refine bsplit t232 (fun hc242 => ?_) (fun hc242 => ?_)
 {
 replace hm := bif_t hc242 hm
 refine wp_ift (cvb hc242) ?_
 refine wp_seq (wp_seq (wrl (wv (.bool t237) z z z (wl_nil (tn ?_)))))
 refine bsplit t237 (fun hc243 => ?_) (fun hc243 => ?_)
 {
 replace hm := bif_t hc243 hm
 refine wp_ift (cvb hc243) ?_
 refine wp_seq (wrl (wv (.int .i64 (0:Int)) z z z (wl_nil (tn (wp_ret (then_r (then_r ?_)))))))
 obtain rfl := some_inj hm
 refine post_ret (vs := [Zi]) results131 (rvs_cons (rv_tmp z) rvs_nil) ?_
 exact ⟨z, hst.keep0⟩
}
 {
 replace hm := bif_f hc243 hm
 refine wp_iff (cvb hc243) ?_
 refine wp_skip (tn (wp_seq (wrl ?_)))
 refine wv (.int .i64 ((-1):Int)) z z z (wl_nil (tn (wp_ret (then_r ?_))))
 obtain rfl := some_inj hm
 refine post_ret (vs := [I6 ((-1):Int)]) results131 (rvs_cons (rv_tmp z) rvs_nil) ?_
 exact ⟨z, hst.keep0⟩
}
}
 {
 replace hm := bif_f hc242 hm
 refine wp_iff (cvb hc242) ?_
 refine wp_skip (tn (wp_seq (wp_seq (wrl ?_))))
 refine wv (.bool t237) z z z (wl_nil (tn ?_))
 refine bsplit t237 (fun hc244 => ?_) (fun hc244 => ?_)
 {
 replace hm := bif_t hc244 hm
 refine wp_ift (cvb hc244) ?_
 refine wp_seq (wrl (wv (.int .i64 (1:Int)) z z z (wl_nil (tn (wp_ret (then_r ?_))))))
 obtain rfl := some_inj hm
 refine post_ret (vs := [I6 (1:Int)]) results131 (rvs_cons (rv_tmp z) rvs_nil) ?_
 exact ⟨z, hst.keep0⟩
}
 {
 replace hm := bif_f hc244 hm
 refine wp_iff (cvb hc244) ?_
 refine wp_skip (tn (wp_seq (wp_seq (wrl ?_))))
 refine wv (.int .u64 a0) z z z (wv (.int .u64 a1) z z z (wv (.bool (decide (a0 < a1))) z z z (wl_nil (tn ?_))))
 refine bsplit (decide (a0 < a1)) (fun hc245 => ?_) (fun hc245 => ?_)
 {
 replace hm := bif_t hc245 hm
 refine wp_ift (cvb hc245) ?_
 refine wp_seq (wrl (wv (.int .i64 ((-1):Int)) z z z (wl_nil (tn (wp_ret (then_r ?_))))))
 obtain rfl := some_inj hm
 refine post_ret (vs := [I6 ((-1):Int)]) results131 (rvs_cons (rv_tmp z) rvs_nil) ?_
 exact ⟨z, hst.keep0⟩
}
 {
 replace hm := bif_f hc245 hm
 refine wp_iff (cvb hc245) ?_
 refine wp_skip (tn (wp_seq (wp_seq (wrl ?_))))
 refine wv (.int .u64 a0) z z z (wv (.int .u64 a1) z z z (wv (.bool (decide (a0 > a1))) z z z (wl_nil (tn ?_))))
 refine bsplit (decide (a0 > a1)) (fun hc246 => ?_) (fun hc246 => ?_)
 {
 replace hm := bif_t hc246 hm
 refine wp_ift (cvb hc246) ?_
 refine wp_seq (wrl (wv (.int .i64 (1:Int)) z z z (wl_nil (tn (wp_ret (then_r ?_))))))
 obtain rfl := some_inj hm
 refine post_ret (vs := [I6 (1:Int)]) results131 (rvs_cons (rv_tmp z) rvs_nil) ?_
 exact ⟨z, hst.keep0⟩
}
 {
 replace hm := bif_f hc246 hm
 refine wp_iff (cvb hc246) ?_
 refine wp_skip (tn (wp_seq (wrl ?_)))
 refine wv (.int .i64 (0:Int)) z z z (wl_nil (tn (wp_ret ?_)))
 obtain rfl := some_inj hm
 refine post_ret (vs := [Zi]) results131 (rvs_cons (rv_tmp z) rvs_nil) ?_
 exact ⟨z, hst.keep0⟩
}
}
}
}
}

theorem cmp_Or_int_ref {w0 w : World} {I : HL} {R : SP} {a0 : (List Int)} {r0_0 : Value} (f0_0 : Rd (tyInt .i64) R I r0_0 a0) (hst : St w0 w I [] R) {r : (Int)} (hm : cmp_Or_int a0 = some r) :
  Calls prog 130 #[r0_0] w fun e w' => e = .returned (.int .i64 r) ∧ St w0 w' I [] R := by {
 unfold cmp_Or_int at hm
 refine calls_start (args := [r0_0]) func130 z ntmps130 (Nat.le_of_ble_eq_true z) ?_
 refine wp_seq (wrl (wv (.int .i64 (0:Int)) z z z (wl_nil (tn (wp_seq (wrl (wv (.int .i64 (0:Int)) z z z (wl_nil (tn (wp_seq (wp_seq (wrl (wv (r0_0) z z z (wv (.int .i64 ((a0).length : Int)) z z (x_len z underlying276 (rd_sliceV f0_0)) (wv (.int .i64 (0:Int)) z z z (wl_nil (tn (wp_block ?_))))))))))))))))))
 obtain ⟨n267, hm⟩ := loopO_some hm
 refine wp_loop_n (fun n a w => ∃ (z265 : Int) (σ266 : Nat → Value), loopN (cmp_Or_int_l0 a0) n z265 = some r ∧ a = Fr 18 (upd (upd (upd (upd σ266 3 (.int .i64 (0:Int))) 6 (r0_0)) 7 (.int .i64 ((a0).length : Int))) 8 (.int .i64 z265)) ∧ St w0 w I [] R) n267 ⟨(0:Int), _, hm, (fu 3 (.int .i64 (0:Int)) z (fu 6 r0_0 z (fu 7 (.int .i64 ((a0).length : Int)) z (fu 8 (.int .i64 (0:Int)) z z)))), hst⟩ ?_
 rintro n273 _ w268 ⟨z265, σ266, hm, rfl, hst⟩
 obtain ⟨n270, y271, rfl, hm, hx272⟩ := loopN_some hm
 dsimp only [cmp_Or_int_l0] at hm
 refine wp_seq (wrl (wv (.bool (decide (z265 < ((a0).length : Int)))) z z z (wl_nil (tn (wp_seq ?_)))))
 refine bsplit (decide (z265 < ((a0).length : Int))) (fun hc274 => ?_) (fun hc274 => ?_)
 {
 replace hm := bif_t hc274 hm
 refine wp_ift (cvb hc274) ?_
 refine wp_skip (tn (wp_seq (wp_block (wp_seq (wrl ?_)))))
 obtain ⟨x275, hx276, hm⟩ := bind_some hm
 obtain ⟨h277, h278, hi279⟩ := geto_some hx276
 refine wv (.pointer (some (eAddr r0_0 (z265.toNat * 1 + 0)))) z z (x_index z z underlying276 sizeOf3 (rd_sliceV f0_0) h277 h278) (wv (.int .i64 x275) z z (x_load z isAgg3 (rd_load f0_0 (HL.le.refl _) hst hi279 (by rintro _ rfl; rfl))) (wv (.int .i64 x275) z z z (wl_nil (tn (wp_seq (wrl (wv (.int .i64 x275) z z z (wv (.int .i64 (0:Int)) z z z (wv (.bool (x275 != (0:Int))) z z z (wl_nil (tn ?_)))))))))))
 refine bsplit (x275 != (0:Int)) (fun hc280 => ?_) (fun hc280 => ?_)
 {
 replace hm := bif_t hc280 hm
 refine wp_ift (cvb hc280) ?_
 refine wp_seq (wrl (wv (.int .i64 x275) z z z (wv (.int .i64 x275) z z z (wl_nil (tn (wp_ret (blk_r (then_r (then_r ?_)))))))))
 replace hm := inr_up hm hx272
 refine blk_r (then_r ?_)
 obtain rfl := some_inj hm
 refine post_ret (vs := [I6 x275]) results130 (rvs_cons (rv_tmp z) rvs_nil) ?_
 exact ⟨z, hst.keep0⟩
}
 {
 replace hm := bif_f hc280 hm
 refine wp_iff (cvb hc280) ?_
 refine wp_skip (blk_n (tn (wrl ?_)))
 refine wv (.int .i64 (i64.wrap (z265 + (1:Int)))) z z z (wv (.int .i64 (i64.wrap (z265 + (1:Int)))) z z z (wl_nil (tn ?_)))
 replace hst := hst.keep0
 obtain rfl := some_inj hm
 exact ⟨_, Nat.lt_succ_self _, (i64.wrap (z265 + (1:Int))), _, hx272, (fu 3 (.int .i64 (0:Int)) z (fu 6 r0_0 z (fu 7 (.int .i64 ((a0).length : Int)) z (fu 8 (.int .i64 (i64.wrap (z265 + (1:Int)))) z z)))), hst⟩
}
}
 {
 replace hm := bif_f hc274 hm
 refine wp_iff (cvb hc274) ?_
 refine wp_exit (then_x (then_x ?_))
 replace hm := inr_up hm hx272
 refine blk_x (tn (wp_seq (wrl ?_)))
 refine wv (.int .i64 (0:Int)) z z z (wv (.int .i64 (0:Int)) z z z (wl_nil (tn (wp_ret ?_))))
 obtain rfl := some_inj hm
 refine post_ret (vs := [Zi]) results130 (rvs_cons (rv_tmp z) rvs_nil) ?_
 exact ⟨z, hst.keep0⟩
}
}

theorem locks_compare_ref {w0 w : World} {I : HL} {R : SP} {a0 : api_Hold} {r0_0 : Value} {r0_1 : Value} {r0_2 : Value} {r0_3 : Value} {a1 : api_ID} (f0_0 : Rd tyF64 R I r0_0 a0.Gets) (f0_1 : Rd tyF2 R I r0_1 a0.Scans) (f0_2 : Rd tyF64 R I r0_2 a0.Puts) (f0_3 : Rd (tyInt .u8) R I r0_3 a0.Data) (hst : St w0 w I [] R) {r : (Int)} (hm : locks_compare a0 a1 = some r) :
  Calls prog 160 #[.agg #[U6 a0.ID.Session, U6 a0.ID.Seq, U6 a0.Epoch, r0_0, r0_1, r0_2, r0_3], .agg #[U6 a1.Session, U6 a1.Seq]] w fun e w' => e = .returned (.int .i64 r) ∧ St w0 w' I [] R := by {
 unfold locks_compare at hm
 refine calls_start (args := [.agg #[U6 a0.ID.Session, U6 a0.ID.Seq, U6 a0.Epoch, r0_0, r0_1, r0_2, r0_3], .agg #[U6 a1.Session, U6 a1.Seq]]) func160 z ntmps160 (Nat.le_of_ble_eq_true z) ?_
 refine wp_seq (wrl ?_)
 obtain ⟨b243, w244, ew245, eb246, hst⟩ := hst.box [U6 a0.ID.Session, U6 a0.ID.Seq, U6 a0.Epoch, r0_0, r0_1, r0_2, r0_3] 46
 refine wl_run (v := Pt b243 0) (w' := w244) z z (x_al (by kernel_rfl) ew245 eb246) ?_
 obtain ⟨b248, w249, ew250, eb251, hst⟩ := hst.box [U6 a1.Session, U6 a1.Seq] 28
 refine wl_run (v := Pt b248 0) (w' := w249) z z (x_al (by kernel_rfl) ew250 eb251) ?_
 refine wv (.int .i64 (0:Int)) z z z (wl_nil (tn (wp_seq ?_)))
 refine wp_region_St hst 15 [0, 1, 2, 3, 4, 5, 6, 7, 8, 9, 10, 11, 12, 13, 14] [0, 1, 3, 0, 8, 31, 0, 64, 192, 0, 512, 2047, 4095, 8191, 16383] [] z (by kernel_rfl) (by kernel_rfl) Tryz.mixed (by kernel_rfl) ?_
 refine wsr (Pt b243 0) 0 z z z (by kernel_rfl) (fun w hst => x_field z underlying46 z sizeOf28 z) (wsr (Pt b243 0) 1 z z z (by kernel_rfl) (fun w hst => x_field z underlying28 z sizeOf26 z) (wsr (.int .u64 a0.ID.Session) 2 z z z (by kernel_rfl) (fun w hst => x_load z isAgg26 (hst.bc1 z)) (wsr (Pt b248 0) 3 z z z (by kernel_rfl) (fun w hst => x_field z underlying28 z sizeOf26 z) (wsr (.int .u64 a1.Session) 4 z z z (by kernel_rfl) (fun w hst => x_load z isAgg26 (hst.bc0 z)) (wsr (Pt b243 0) 6 z z z (by kernel_rfl) (fun w hst => x_field z underlying46 z sizeOf28 z) (wsr (Pt b243 1) 7 z z z (by kernel_rfl) (fun w hst => x_field z underlying28 z sizeOf26 z) (wsr (.int .u64 a0.ID.Seq) 8 z z z (by kernel_rfl) (fun w hst => x_load z isAgg26 (hst.bc1 z)) (wsr (Pt b248 1) 9 z z z (by kernel_rfl) (fun w hst => x_field z underlying28 z sizeOf26 z) (wsr (.int .u64 a1.Seq) 10 z z z (by kernel_rfl) (fun w hst => x_load z isAgg26 (hst.bc0 z)) ?_)))))))))
 refine ws_e1 5 (by kernel_rfl) ?_
 refine nxe [11, 12, 13, 14] (by kernel_rfl) z z ?_
 clear hst
 intro w hst
 obtain ⟨t253, ht254, hm⟩ := bind_some hm
 refine wec call131 [U6 a0.ID.Session, U6 a1.Session] z z ?_
 refine (cmp_Compare_uint64_ref hst.to0 ht254).mono ?_
 rintro _ w255 ⟨rfl, hst⟩
 refine ⟨_, z, ?_⟩
 replace hst := hst.of0
 refine ws_next (pend' := [(10, U6 a1.Seq), (9, Pt b248 1), (8, U6 a0.ID.Seq), (7, Pt b243 1), (6, Pt b243 0)]) hst (by kernel_rfl) (pkr z z (fun w hst => x_load z isAgg26 (hst.bc0 z)) (pkr z z (fun w hst => x_field z underlying28 z sizeOf26 z) (pkr z z (fun w hst => x_load z isAgg26 (hst.bc1 z)) (pkr z z (fun w hst => x_field z underlying28 z sizeOf26 z) (pkr z z (fun w hst => x_field z underlying46 z sizeOf28 z) pk_nil))))) ?_
 refine ws_e1 11 (by kernel_rfl) ?_
 refine nxe [12, 13, 14] (by kernel_rfl) z z ?_
 clear hst
 intro w hst
 obtain ⟨t258, ht259, hm⟩ := bind_some hm
 refine wec call131 [U6 a0.ID.Seq, U6 a1.Seq] z z ?_
 refine (cmp_Compare_uint64_ref hst.to0 ht259).mono ?_
 rintro _ w260 ⟨rfl, hst⟩
 refine ⟨_, z, ?_⟩
 replace hst := hst.of0
 refine ws_next (pend' := []) hst (by kernel_rfl) pk_nil ?_
 refine ws_e1 12 (by kernel_rfl) ?_
 refine nxe [13, 14] (by kernel_rfl) z z ?_
 clear hst
 intro w hst
 obtain ⟨b263, w264, ew265, eb266, hst⟩ := hst.lits (E := (tyInt .i64)) (xs := [t253, t258]) [[I6 t253], [I6 t258]] 3 2 z (Reps.cons z (Reps.cons z Reps.nil))
 refine we_run (v := (.slice (some ⟨b263, 0, none⟩) 2 2)) (w' := w264) z (x_als (by kernel_rfl) ew265 eb266) ?_
 refine ws_next (pend' := []) hst (by kernel_rfl) pk_nil ?_
 refine ws_e1 13 (by kernel_rfl) ?_
 refine nxe [14] (by kernel_rfl) z z ?_
 clear hst
 intro w hst
 obtain ⟨css268, hq269, hst⟩ := hst.own_open
 obtain ⟨t270, ht271, hm⟩ := bind_some hm
 refine wec call130 [(.slice (some ⟨b263, 0, none⟩) 2 2)] z z ?_
 refine (cmp_Or_int_ref (hst.rdrow0 hq269) hst.to0 ht271).mono ?_
 rintro _ w272 ⟨rfl, hst⟩
 refine ⟨_, z, ?_⟩
 replace hst := hst.of0.own_close hq269
 refine ws_next (pend' := []) hst (by kernel_rfl) pk_nil ?_
 refine wsr (.int .i64 t270) 14 z z z (by kernel_rfl) (fun w hst => z) ?_
 refine ws_nil ?_
 intro w hst
 refine tn (wp_ret ?_)
 obtain rfl := some_inj hm
 refine post_ret (vs := [I6 t270]) results160 (rvs_cons (rv_tmp z) rvs_nil) ?_
 exact ⟨z, hst.keep0⟩
}

theorem locks_Table_find_ref {w0 w : World} {I : HL} {R : SP} {a0 : (Option locks_Table)} {p0 : Value} {a1 : api_ID}  (hst : St w0 w I [objO at_locks_Table p0 a0] R) {r : (Int × Bool)} (hm : locks_Table_find a0 a1 = some r) :
  Calls prog 135 #[p0, .agg #[U6 a1.Session, U6 a1.Seq]] w fun e w' => e = .returned (.tuple #[I6 r.1, .bool r.2]) ∧ St w0 w' I [objO at_locks_Table p0 a0] R := by {
 rcases a0 with _ | o0
 {
 obtain ⟨rfl, hst'⟩ := objO_none hst
 clear hst
 have hst := hst'
 clear hst'
 dsimp only [locks_Table_find] at hm
 refine calls_start (args := [.pointer none, .agg #[U6 a1.Session, U6 a1.Seq]]) func135 z ntmps135 (Nat.le_of_ble_eq_true z) ?_
 refine wp_seq (wrl ?_)
 obtain ⟨b320, w321, ew322, eb323, hst⟩ := hst.box [U6 a1.Session, U6 a1.Seq] 28
 refine wl_run (v := Pt b320 0) (w' := w321) z z (x_al (by kernel_rfl) ew322 eb323) ?_
 refine wv (.int .i64 (0:Int)) z z z (wv (.bool false) z z z (wl_nil (tn (wp_seq (wp_seq (wrl (wv (.pointer none) z z z (wv (.bool true) z z (by kernel_rfl) (wl_nil (tn ?_))))))))))
 refine wp_ift z ?_
 refine wp_seq (wrl (wv (.int .i64 (0:Int)) z z z (wv (.bool false) z z z (wl_nil (tn (wp_ret (then_r ?_)))))))
 replace hst := hst.objO_nil at_locks_Table
 obtain rfl := some_inj hm
 refine post_ret (vs := [Zi, .bool false]) results135 (rvs_cons (rv_tmp z) (rvs_cons (rv_tmp z) rvs_nil)) ?_
 exact ⟨z, hst.keep1⟩
}
 {
 replace hst := objO_get hst
 dsimp only [locks_Table_find] at hm
 refine calls_start (args := [p0, .agg #[U6 a1.Session, U6 a1.Seq]]) func135 z ntmps135 (Nat.le_of_ble_eq_true z) ?_
 refine wp_seq (wrl ?_)
 obtain ⟨b325, w326, ew327, eb328, hst⟩ := hst.box [U6 a1.Session, U6 a1.Seq] 28
 refine wl_run (v := Pt b325 0) (w' := w326) z z (x_al (by kernel_rfl) ew327 eb328) ?_
 refine wv (.int .i64 (0:Int)) z z z (wv (.bool false) z z z (wl_nil (tn (wp_seq (wp_seq (wrl (wv (p0) z z z ?_)))))))
 replace hst := hst.pull1
 obtain ⟨b330, v331, rfl, hst'⟩ := at_locks_Table_open hst
 clear hst
 have hst := hst'
 clear hst'
 refine wv (.bool false) z z (by kernel_rfl) (wl_nil (tn ?_))
 refine wp_iff z ?_
 refine wp_skip (tn (wp_seq ?_))
 refine wp_region_St hst 10 [0, 1, 2, 3, 4, 5, 6, 7, 8, 9] [0, 1, 3, 7, 0, 31, 63, 63, 255, 511] [] z (by kernel_rfl) (by kernel_rfl) Tryz.mixed (by kernel_rfl) ?_
 refine wsr (Pt b330 0) 0 z z z (by kernel_rfl) (fun w hst => z) (wsr (Pt b330 0) 1 z z z (by kernel_rfl) (fun w hst => z) (wsr (Pt b330 0) 2 z z z (by kernel_rfl) (fun w hst => x_field z underlying203 z sizeOf125 z) (wsr (v331) 3 z z z (by kernel_rfl) (fun w hst => x_load z isAgg125 (hst.bc0 z)) (wsr (.agg #[U6 a1.Session, U6 a1.Seq]) 4 z z z (by kernel_rfl) (fun w hst => x_loadN (cs := [U6 a1.Session, U6 a1.Seq]) z isAgg28 sizeOf28 (hst.bcs2 0 z)) ?_))))
 refine ws_e1 5 (by kernel_rfl) ?_
 refine nxe [6, 7, 8, 9] (by kernel_rfl) z z ?_
 clear hst
 intro w hst
 obtain ⟨y474, hq475, hm⟩ := bind_some hm
 refine we_call z (x_callv call193 (caps := []) z (vs := [v331, .agg #[U6 a1.Session, U6 a1.Seq], .func (.func 160) #[] #[]]) z) ?_
 refine Calls.mono (show Calls prog 193 #[v331, .agg #[U6 a1.Session, U6 a1.Seq], .func (.func 160) #[] #[]] _ (fun e w' => ∃ (z471 : Int) (z472 : Bool), (z471, z472) = y474 ∧ e = .returned (.tuple #[I6 z471, .bool z472]) ∧ St w0 w' I [cells b330 [v331], ownS ty_api_Hold v331 o0.l, cells b325 [U6 a1.Session, U6 a1.Seq]] R) from ?_) ?_
 {
 clear hm; have hm := hq475
 refine calls_start (args := [v331, .agg #[U6 a1.Session, U6 a1.Seq], .func (.func 160) #[] #[]]) func193 z ntmps193 (Nat.le_of_ble_eq_true z) ?_
 refine wp_seq (wrl ?_)
 obtain ⟨b333, w334, ew335, eb336, hst⟩ := hst.box [U6 a1.Session, U6 a1.Seq] 28
 refine wl_run (v := Pt b333 0) (w' := w334) z z (x_al (by kernel_rfl) ew335 eb336) ?_
 refine wv (.int .i64 (0:Int)) z z z (wv (.bool false) z z z (wl_nil (tn (wp_seq (wrl (wv (v331) z z z (wv (.int .i64 ((o0.l).length : Int)) z z (x_len z underlying125 hst.sv2) (wv (.int .i64 ((o0.l).length : Int)) z z z (wl_nil (tn (wp_seq (wrl (wv (.int .i64 ((o0.l).length : Int)) z z z (wv (.int .i64 (0:Int)) z z z (wv (.int .i64 ((o0.l).length : Int)) z z z (wl_nil (tn ?_)))))))))))))))))
 obtain ⟨y440, hm, hx441⟩ := bind_some hm
 refine wp_cut (fun a w => ∃ (z437 : Int) (σ438 : Nat → Value), (locks_Table_find_j0 o0 a1) z437 = some y474 ∧ a = Fr 49 (upd (upd (upd (upd (upd σ438 0 (v331)) 2 (.func (.func 160) #[] #[])) 4 (Pt b333 0)) 8 (.int .i64 ((o0.l).length : Int))) 9 (.int .i64 z437)) ∧ St w0 w I [ownS ty_api_Hold v331 o0.l, cells b333 [U6 a1.Session, U6 a1.Seq], cells b330 [v331], cells b325 [U6 a1.Session, U6 a1.Seq]] R) ?_ ?_
 {
 refine wp_block ?_
 obtain ⟨n401, hm⟩ := loopO_some hm
 refine wp_loop_n (fun n a w => ∃ (z398 : Int) (z399 : Int) (σ400 : Nat → Value), loopN (locks_Table_find_l1 o0 a1) n (z398, z399) = some y440 ∧ a = Fr 49 (upd (upd (upd (upd (upd (upd σ400 0 (v331)) 2 (.func (.func 160) #[] #[])) 4 (Pt b333 0)) 8 (.int .i64 ((o0.l).length : Int))) 9 (.int .i64 z399)) 10 (.int .i64 z398)) ∧ St w0 w I [cells b333 [U6 a1.Session, U6 a1.Seq], cells b330 [v331], ownS ty_api_Hold v331 o0.l, cells b325 [U6 a1.Session, U6 a1.Seq]] R) n401 ⟨((o0.l).length : Int), (0:Int), _, hm, (fu 0 v331 z (fu 2 (.func (.func 160) #[] #[]) z (fu 4 (Pt b333 0) z (fu 8 (.int .i64 ((o0.l).length : Int)) z (fu 9 (.int .i64 (0:Int)) z (fu 10 (.int .i64 ((o0.l).length : Int)) z z)))))), hst⟩ ?_
 rintro n407 _ w402 ⟨z398, z399, σ400, hm, rfl, hst⟩
 obtain ⟨n404, y405, rfl, hm, hx406⟩ := loopN_some hm
 dsimp only [locks_Table_find_l1] at hm
 refine wp_seq (wp_seq (wrl (wv (.int .i64 z399) z z z (wv (.int .i64 z398) z z z (wv (.bool (decide (z399 < z398))) z z z (wl_nil (tn ?_)))))))
 refine bsplit (decide (z399 < z398)) (fun hc408 => ?_) (fun hc408 => ?_)
 {
 replace hm := bif_t hc408 hm
 refine wp_ift (cvb hc408) ?_
 refine wp_skip (tn (wp_block (wp_seq (wrl ?_))))
 refine wv (.int .i64 z399) z z z (wv (.int .i64 z398) z z z (wv (.int .i64 (i64.wrap (z399 + z398))) z z z (wv (.int .u64 (u64.wrap (i64.wrap (z399 + z398)))) z z (by kernel_rfl) (wv (.int .u64 (iShr .u64 (u64.wrap (i64.wrap (z399 + z398))) (1:Int))) z z (x_shr (by decide) z z) (wv (.int .i64 (i64.wrap (iShr .u64 (u64.wrap (i64.wrap (z399 + z398))) (1:Int)))) z z (by kernel_rfl) (wv (.int .i64 (i64.wrap (iShr .u64 (u64.wrap (i64.wrap (z399 + z398))) (1:Int)))) z z z (wl_nil (tn (wp_seq ?_)))))))))
 replace hst := hst.pull2
 obtain ⟨css409, hq410, hst⟩ := hst.own_open
 refine wp_region_St hst 8 [0, 1, 2, 3, 4, 5, 6, 7] [0, 0, 0, 6, 14, 0, 63, 127] [] z (by kernel_rfl) (by kernel_rfl) Tryz.mixed (by kernel_rfl) ?_
 refine wsr (.func (.func 160) #[] #[]) 0 z z z (by kernel_rfl) (fun w hst => z) (wsr (v331) 1 z z z (by kernel_rfl) (fun w hst => z) (wsr (.int .i64 (i64.wrap (iShr .u64 (u64.wrap (i64.wrap (z399 + z398))) (1:Int)))) 2 z z z (by kernel_rfl) (fun w hst => z) ?_))
 obtain ⟨x411, hx412, hm⟩ := bind_some hm
 obtain ⟨h413, h414, hi415⟩ := geto_some hx412
 refine wsr (.pointer (some (eAddr v331 ((i64.wrap (iShr .u64 (u64.wrap (i64.wrap (z399 + z398))) (1:Int))).toNat * 7 + 0)))) 3 z z z (by kernel_rfl) (fun w hst => x_index z z underlying125 sizeOf46 (hst.rsv 0 z hq410) h413 h414) ?_
 obtain ⟨cs416, hc418, hr417⟩ := Reps.get hq410 hi415
 obtain ⟨v419, v422, v425, v428, rfl, f420, f423, f426, f429, -⟩ := hr417
 refine wsr (.agg #[U6 x411.ID.Session, U6 x411.ID.Seq, U6 x411.Epoch, v419, v422, v425, v428]) 4 z z z (by kernel_rfl) (fun w hst => x_loadN (cs := [U6 x411.ID.Session, U6 x411.ID.Seq, U6 x411.Epoch, v419, v422, v425, v428]) z isAgg46 sizeOf46 (eCells (o := 0) (hst.rcell 0 z hc418) z)) (wsr (.agg #[U6 a1.Session, U6 a1.Seq]) 5 z z z (by kernel_rfl) (fun w hst => x_loadN (cs := [U6 a1.Session, U6 a1.Seq]) z isAgg28 sizeOf28 (hst.bcs1 0 z)) ?_)
 refine ws_e1 6 (by kernel_rfl) ?_
 refine nxe [7] (by kernel_rfl) z z ?_
 clear hst
 intro w hst
 obtain ⟨t431, ht432, hm⟩ := bind_some hm
 refine we_call z (x_callv call160 (caps := []) z (vs := [.agg #[U6 x411.ID.Session, U6 x411.ID.Seq, U6 x411.Epoch, v419, v422, v425, v428], .agg #[U6 a1.Session, U6 a1.Seq]]) z) ?_
 refine (locks_compare_ref (f420.mono ro_rd) (f423.mono ro_rd) (f426.mono ro_rd) (f429.mono ro_rd) hst.to0 ht432).mono ?_
 rintro _ w433 ⟨rfl, hst⟩
 refine ⟨_, z, ?_⟩
 replace hst := hst.of0
 refine ws_next (pend' := []) hst (by kernel_rfl) pk_nil ?_
 refine wsr (.bool (decide (t431 < (0:Int)))) 7 z z z (by kernel_rfl) (fun w hst => z) ?_
 refine ws_nil ?_
 intro w hst
 replace hst := hst.own_close hq410
 refine tn ?_
 refine bsplit (decide (t431 < (0:Int))) (fun hc436 => ?_) (fun hc436 => ?_)
 {
 replace hm := bif_t hc436 hm
 refine wp_ift (cvb hc436) ?_
 refine wrl (wv (.int .i64 (i64.wrap (iShr .u64 (u64.wrap (i64.wrap (z399 + z398))) (1:Int)))) z z z (wv (.int .i64 (i64.wrap ((i64.wrap (iShr .u64 (u64.wrap (i64.wrap (z399 + z398))) (1:Int))) + (1:Int)))) z z z (wv (.int .i64 (i64.wrap ((i64.wrap (iShr .u64 (u64.wrap (i64.wrap (z399 + z398))) (1:Int))) + (1:Int)))) z z z (wl_nil (blk_n (tn ?_))))))
 replace hst := hst.pull3.pull1.pull3.pull3.keep4
 obtain rfl := some_inj hm
 exact ⟨_, Nat.lt_succ_self _, z398, (i64.wrap ((i64.wrap (iShr .u64 (u64.wrap (i64.wrap (z399 + z398))) (1:Int))) + (1:Int))), _, hx406, (fu 0 v331 z (fu 2 (.func (.func 160) #[] #[]) z (fu 4 (Pt b333 0) z (fu 8 (.int .i64 ((o0.l).length : Int)) z (fu 9 (.int .i64 (i64.wrap ((i64.wrap (iShr .u64 (u64.wrap (i64.wrap (z399 + z398))) (1:Int))) + (1:Int)))) z (fu 10 (.int .i64 z398) z z)))))), hst⟩
}
 {
 replace hm := bif_f hc436 hm
 refine wp_iff (cvb hc436) ?_
 refine wrl (wv (.int .i64 (i64.wrap (iShr .u64 (u64.wrap (i64.wrap (z399 + z398))) (1:Int)))) z z z (wv (.int .i64 (i64.wrap (iShr .u64 (u64.wrap (i64.wrap (z399 + z398))) (1:Int)))) z z z (wl_nil (blk_n (tn ?_)))))
 replace hst := hst.pull3.pull1.pull3.pull3.keep4
 obtain rfl := some_inj hm
 exact ⟨_, Nat.lt_succ_self _, (i64.wrap (iShr .u64 (u64.wrap (i64.wrap (z399 + z398))) (1:Int))), z399, _, hx406, (fu 0 v331 z (fu 2 (.func (.func 160) #[] #[]) z (fu 4 (Pt b333 0) z (fu 8 (.int .i64 ((o0.l).length : Int)) z (fu 9 (.int .i64 z399) z (fu 10 (.int .i64 (i64.wrap (iShr .u64 (u64.wrap (i64.wrap (z399 + z398))) (1:Int)))) z z)))))), hst⟩
}
}
 {
 replace hm := bif_f hc408 hm
 refine wp_iff (cvb hc408) ?_
 refine wp_exit (then_x (then_x ?_))
 replace hm := inr_up hm hx406
 refine blk_x (tn ?_)
 replace hst := hst.pull3.pull2.pull2.pull3.keep4
 obtain rfl := some_inj hm
 exact ⟨z399, _, hx441, (fu 0 v331 z (fu 2 (.func (.func 160) #[] #[]) z (fu 4 (Pt b333 0) z (fu 8 (.int .i64 ((o0.l).length : Int)) z (fu 9 (.int .i64 z399) z z))))), hst⟩
}
}
 {
 clear hst
 rintro _ w442 ⟨z437, σ438, hm, rfl, hst⟩
 dsimp only [locks_Table_find_j0] at hm
 refine wp_seq ?_
 obtain ⟨css443, hq444, hst⟩ := hst.own_open
 refine wp_region_St hst 16 [0, 1, 2, 3, 4, 5, 6, 7, 8, 9, 10, 11, 12, 13, 14, 15] [0, 0, 0, 6, 14, 30, 30, 30, 222, 478, 30, 2046, 4094, 8190, 4095, 32767] [] z (by kernel_rfl) (by kernel_rfl) Tryz.mixed (by kernel_rfl) ?_
 refine wsr (.int .i64 z437) 0 z z z (by kernel_rfl) (fun w hst => z) (wsr (.int .i64 z437) 1 z z z (by kernel_rfl) (fun w hst => z) (wsr (.int .i64 ((o0.l).length : Int)) 2 z z z (by kernel_rfl) (fun w hst => z) (wsr (.bool (decide (z437 < ((o0.l).length : Int)))) 3 z z z (by kernel_rfl) (fun w hst => z) (wsr (.bool (decide (z437 < ((o0.l).length : Int)))) 4 z z z (by kernel_rfl) (fun w hst => z) ?_))))
 refine bsplit (decide (z437 < ((o0.l).length : Int))) (fun hc445 => ?_) (fun hc445 => ?_)
 {
 replace hm := bif_t hc445 hm
 refine ws_q (v := .func (.func 160) #[] #[]) 5 [6, 7, 8, 9, 10, 11, 12, 13, 14, 15] (by kernel_rfl) z z (yi_run ((wanted_eq z z z (cvb hc445)).trans z) (fun w hst => z)) (ws_q (v := v331) 6 [7, 8, 9, 10, 11, 12, 13, 14, 15] (by kernel_rfl) z z (yi_run ((wanted_eq z z z (cvb hc445)).trans z) (fun w hst => z)) (ws_q (v := .int .i64 z437) 7 [8, 9, 10, 11, 12, 13, 14, 15] (by kernel_rfl) z z (yi_run ((wanted_eq z z z (cvb hc445)).trans z) (fun w hst => z)) ?_))
 obtain ⟨x446, hx447, hm⟩ := bind_some hm
 obtain ⟨h448, h449, hi450⟩ := geto_some hx447
 refine ws_q (v := .pointer (some (eAddr v331 (z437.toNat * 7 + 0)))) 8 [9, 10, 11, 12, 13, 14, 15] (by kernel_rfl) z z (yi_run ((wanted_eq z z z (cvb hc445)).trans z) (fun w hst => x_index z z underlying125 sizeOf46 (hst.rsv 0 z hq444) h448 h449)) ?_
 obtain ⟨cs451, hc453, hr452⟩ := Reps.get hq444 hi450
 obtain ⟨v454, v457, v460, v463, rfl, f455, f458, f461, f464, -⟩ := hr452
 refine ws_q (v := .agg #[U6 x446.ID.Session, U6 x446.ID.Seq, U6 x446.Epoch, v454, v457, v460, v463]) 9 [10, 11, 12, 13, 14, 15] (by kernel_rfl) z z (yi_run ((wanted_eq z z z (cvb hc445)).trans z) (fun w hst => x_loadN (cs := [U6 x446.ID.Session, U6 x446.ID.Seq, U6 x446.Epoch, v454, v457, v460, v463]) z isAgg46 sizeOf46 (eCells (o := 0) (hst.rcell 0 z hc453) z))) (ws_q (v := .agg #[U6 a1.Session, U6 a1.Seq]) 10 [11, 12, 13, 14, 15] (by kernel_rfl) z z (yi_run ((wanted_eq z z z (cvb hc445)).trans z) (fun w hst => x_loadN (cs := [U6 a1.Session, U6 a1.Seq]) z isAgg28 sizeOf28 (hst.bcs1 0 z))) ?_)
 refine ws_e1 11 (by kernel_rfl) ?_
 refine nxe [12, 13, 14, 15] (by kernel_rfl) z ((wanted_eq z z z (cvb hc445)).trans z) ?_
 clear hst
 intro w hst
 obtain ⟨t466, ht467, hm⟩ := bind_some hm
 refine we_call z (x_callv call160 (caps := []) z (vs := [.agg #[U6 x446.ID.Session, U6 x446.ID.Seq, U6 x446.Epoch, v454, v457, v460, v463], .agg #[U6 a1.Session, U6 a1.Seq]]) z) ?_
 refine (locks_compare_ref (f455.mono ro_rd) (f458.mono ro_rd) (f461.mono ro_rd) (f464.mono ro_rd) hst.to0 ht467).mono ?_
 rintro _ w468 ⟨rfl, hst⟩
 refine ⟨_, z, ?_⟩
 replace hst := hst.of0
 refine ws_next (pend' := [(0, I6 z437)]) hst (by kernel_rfl) (pkr z z (fun w hst => z) pk_nil) ?_
 refine ws_q (v := .bool (t466 == (0:Int))) 12 [13, 14, 15] (by kernel_rfl) z z (yi_run ((wanted_eq z z z (cvb hc445)).trans z) (fun w hst => z)) (wsr (.bool (t466 == (0:Int))) 13 z z z (by kernel_rfl) (fun w hst => x_pick_t hc445 z z) (wsr (.int .i64 z437) 14 z z z (by kernel_rfl) (fun w hst => z) (wsr (.bool (t466 == (0:Int))) 15 z z z (by kernel_rfl) (fun w hst => z) ?_)))
 refine ws_nil ?_
 intro w hst
 replace hst := hst.own_close hq444
 refine tn (wp_ret ?_)
 refine post_ret (vs := [I6 z437, .bool (t466 == (0:Int))]) results193 (rvs_cons (rv_tmp z) (rvs_cons (rv_tmp z) rvs_nil)) ?_
 replace hst := hst.pull3.pull1.pull3.keep3
 obtain rfl := some_inj hm
 exact ⟨z437, (t466 == (0:Int)), z, z, hst⟩
}
 {
 replace hm := bif_f hc445 hm
 refine ws_q (v := undef) 5 [6, 7, 8, 9, 10, 11, 12, 13, 14, 15] (by kernel_rfl) z z (yi_off ((wanted_eq z z z (cvb hc445)).trans z)) (ws_q (v := undef) 6 [7, 8, 9, 10, 11, 12, 13, 14, 15] (by kernel_rfl) z z (yi_off ((wanted_eq z z z (cvb hc445)).trans z)) (ws_q (v := undef) 7 [8, 9, 10, 11, 12, 13, 14, 15] (by kernel_rfl) z z (yi_off ((wanted_eq z z z (cvb hc445)).trans z)) (ws_q (v := undef) 8 [9, 10, 11, 12, 13, 14, 15] (by kernel_rfl) z z (yi_off ((wanted_eq z z z (cvb hc445)).trans z)) (ws_q (v := undef) 9 [10, 11, 12, 13, 14, 15] (by kernel_rfl) z z (yi_off ((wanted_eq z z z (cvb hc445)).trans z)) (ws_q (v := undef) 10 [11, 12, 13, 14, 15] (by kernel_rfl) z z (yi_off ((wanted_eq z z z (cvb hc445)).trans z)) (ws_q (v := undef) 11 [12, 13, 14, 15] (by kernel_rfl) z z (yi_off ((wanted_eq z z z (cvb hc445)).trans z)) (ws_q (v := undef) 12 [13, 14, 15] (by kernel_rfl) z z (yi_off ((wanted_eq z z z (cvb hc445)).trans z)) (wsr (.bool false) 13 z z z (by kernel_rfl) (fun w hst => x_pick_f hc445 z z) (wsr (.int .i64 z437) 14 z z z (by kernel_rfl) (fun w hst => z) (wsr (.bool false) 15 z z z (by kernel_rfl) (fun w hst => z) ?_))))))))))
 refine ws_nil ?_
 intro w hst
 replace hst := hst.own_close hq444
 refine tn (wp_ret ?_)
 refine post_ret (vs := [I6 z437, .bool false]) results193 (rvs_cons (rv_tmp z) (rvs_cons (rv_tmp z) rvs_nil)) ?_
 replace hst := hst.pull3.pull1.pull3.keep3
 obtain rfl := some_inj hm
 exact ⟨z437, false, z, z, hst⟩
}
}
}
 clear hst
 rintro _ w476 ⟨z471, z472, rfl, rfl, hst⟩
 refine ⟨_, z, ?_⟩
 try dsimp only at hm
 refine ws_next (pend' := []) hst (by kernel_rfl) pk_nil ?_
 refine wsr (.int .i64 z471) 6 z z z (by kernel_rfl) (fun w hst => z) (wsr (.bool z472) 7 z z z (by kernel_rfl) (fun w hst => z) (wsr (.int .i64 z471) 8 z z z (by kernel_rfl) (fun w hst => z) (wsr (.bool z472) 9 z z z (by kernel_rfl) (fun w hst => z) ?_)))
 refine ws_nil ?_
 intro w hst
 refine tn (wp_ret ?_)
 replace hst := hst.pull1.pull1
 replace hst := at_locks_Table_close (pv := Pt b330 0) (x := o0) hst z
 replace hst := objO_some hst
 obtain rfl := some_inj hm
 refine post_ret (vs := [I6 z471, .bool z472]) results135 (rvs_cons (rv_tmp z) (rvs_cons (rv_tmp z) rvs_nil)) ?_
 exact ⟨z, hst.keep1⟩
}
}

theorem locks_Table_Get_ref {w0 w : World} {I : HL} {R : SP} {a0 : (Option locks_Table)} {p0 : Value} {a1 : api_ID}  (hst : St w0 w I [objO at_locks_Table p0 a0] R) {r : (api_Hold × Bool)} (hm : locks_Table_Get a0 a1 = some r) :
  Calls prog 56 #[p0, .agg #[U6 a1.Session, U6 a1.Seq]] w fun e w' => ∃ (I' : HL) (q0_0 : Value) (q0_1 : Value) (q0_2 : Value) (q0_3 : Value), e = .returned (.tuple #[.agg #[U6 r.1.ID.Session, U6 r.1.ID.Seq, U6 r.1.Epoch, q0_0, q0_1, q0_2, q0_3], .bool r.2]) ∧ I.le I' ∧ Ro tyF64 I' q0_0 r.1.Gets ∧ Ro tyF2 I' q0_1 r.1.Scans ∧ Ro tyF64 I' q0_2 r.1.Puts ∧ Ro (tyInt .u8) I' q0_3 r.1.Data ∧ St w0 w' I' [objO at_locks_Table p0 a0] R := by {
 rcases a0 with _ | o0
 {
 obtain ⟨rfl, hst'⟩ := objO_none hst
 clear hst
 have hst := hst'
 clear hst'
 dsimp only [locks_Table_Get] at hm
 refine calls_start (args := [.pointer none, .agg #[U6 a1.Session, U6 a1.Seq]]) func56 z ntmps56 (Nat.le_of_ble_eq_true z) ?_
 have hI0 := HL.le.refl I
 refine wp_seq (wrl ?_)
 obtain ⟨b226, w227, ew228, eb229, hst⟩ := hst.box [U6 a1.Session, U6 a1.Seq] 28
 refine wl_run (v := Pt b226 0) (w' := w227) z z (x_al (by kernel_rfl) ew228 eb229) ?_
 obtain ⟨b235, w236, ew237, eb238, hst⟩ := hst.box [Zu, Zu, Zu, Zs, Zs, Zs, Zs] 46
 refine wl_run (v := Pt b235 0) (w' := w236) z z (x_al (by kernel_rfl) ew237 eb238) ?_
 refine wv (.bool false) z z z (wl_nil (tn (wp_seq (wrl (wv (.pointer none) z z z (wv (.agg #[U6 a1.Session, U6 a1.Seq]) z z (x_loadN (cs := [U6 a1.Session, U6 a1.Seq]) z isAgg28 sizeOf28 (hst.bcs1 0 z)) ?_))))))
 replace hst := hst.objO_nil at_locks_Table
 obtain ⟨t241, ht242, hm⟩ := bind_some hm
 refine wc call135 [.pointer none, .agg #[U6 a1.Session, U6 a1.Seq]] z z z ?_
 refine (locks_Table_find_ref hst.to1 ht242).mono ?_
 rintro _ w243 ⟨rfl, hst⟩
 refine ⟨_, z, ?_⟩
 replace hst := hst.of1
 refine wv (.tuple #[I6 t241.1, .bool t241.2]) z z z (wv (.int .i64 t241.1) z z z (wv (.bool t241.2) z z z (wv (.int .i64 t241.1) z z z (wv (.bool t241.2) z z z (wl_nil (tn (wp_seq (wp_seq (wrl (wv (.bool t241.2) z z z (wv (.bool (!t241.2)) z z z (wl_nil (tn ?_)))))))))))))
 refine bsplit (!t241.2) (fun hc246 => ?_) (fun hc246 => ?_)
 {
 replace hm := bif_t hc246 hm
 refine wp_ift (cvb hc246) ?_
 refine wp_seq (wrl (wv (.agg #[Zu, Zu, Zu, Zs, Zs, Zs, Zs]) z z (by kernel_rfl) ?_))
 replace hst := hst.pull1
 obtain ⟨w251, hr252, hst⟩ := hst.bx [Zu, Zu, Zu, Zs, Zs, Zs, Zs] sizeOf46 z (oC z (oC z (oC z (oC z (oC z (oC z (oC z oN))))))) (by kernel_rfl)
 refine wl_unit z z (x_unit hr252) ?_
 refine wv (.bool false) z z z (wl_nil (tn (wp_ret (then_r ?_))))
 have f253 : Ro tyF64 I (.slice none 0 0) [] := ro_nil
 have f254 : Ro tyF2 I (.slice none 0 0) [] := ro_nil
 have f255 : Ro tyF64 I (.slice none 0 0) [] := ro_nil
 have f256 : Ro (tyInt .u8) I (.slice none 0 0) [] := ro_nil
 replace hst := hst.objO_nil at_locks_Table
 obtain rfl := some_inj hm
 refine post_ret (vs := [.agg #[Zu, Zu, Zu, Zs, Zs, Zs, Zs], .bool false]) results56 (rvs_cons (rv_cell (cs := [Zu, Zu, Zu, Zs, Zs, Zs, Zs]) z isAgg46 sizeOf46 (hst.bcs1 0 z)) (rvs_cons (rv_tmp z) rvs_nil)) ?_
 exact ⟨_, Zs, Zs, Zs, Zs, z, hI0, f253, f254, f255, f256, hst.keep1⟩
}
 {
 replace hm := bif_f hc246 hm
 refine wp_iff (cvb hc246) ?_
 refine wp_skip (tn (wp_seq (wrl ?_)))
 refine wv (.pointer none) z z z ?_
 cases hm
}
}
 {
 replace hst := objO_get hst
 dsimp only [locks_Table_Get] at hm
 refine calls_start (args := [p0, .agg #[U6 a1.Session, U6 a1.Seq]]) func56 z ntmps56 (Nat.le_of_ble_eq_true z) ?_
 have hI0 := HL.le.refl I
 refine wp_seq (wrl ?_)
 obtain ⟨b257, w258, ew259, eb260, hst⟩ := hst.box [U6 a1.Session, U6 a1.Seq] 28
 refine wl_run (v := Pt b257 0) (w' := w258) z z (x_al (by kernel_rfl) ew259 eb260) ?_
 obtain ⟨b266, w267, ew268, eb269, hst⟩ := hst.box [Zu, Zu, Zu, Zs, Zs, Zs, Zs] 46
 refine wl_run (v := Pt b266 0) (w' := w267) z z (x_al (by kernel_rfl) ew268 eb269) ?_
 refine wv (.bool false) z z z (wl_nil (tn (wp_seq (wrl (wv (p0) z z z (wv (.agg #[U6 a1.Session, U6 a1.Seq]) z z (x_loadN (cs := [U6 a1.Session, U6 a1.Seq]) z isAgg28 sizeOf28 (hst.bcs1 0 z)) ?_))))))
 replace hst := hst.pull2
 replace hst := objO_some hst
 obtain ⟨t271, ht272, hm⟩ := bind_some hm
 refine wc call135 [p0, .agg #[U6 a1.Session, U6 a1.Seq]] z z z ?_
 refine (locks_Table_find_ref hst.to1 ht272).mono ?_
 rintro _ w273 ⟨rfl, hst⟩
 refine ⟨_, z, ?_⟩
 replace hst := hst.of1
 replace hst := objO_get hst
 refine wv (.tuple #[I6 t271.1, .bool t271.2]) z z z (wv (.int .i64 t271.1) z z z (wv (.bool t271.2) z z z (wv (.int .i64 t271.1) z z z (wv (.bool t271.2) z z z (wl_nil (tn (wp_seq (wp_seq (wrl (wv (.bool t271.2) z z z (wv (.bool (!t271.2)) z z z (wl_nil (tn ?_)))))))))))))
 refine bsplit (!t271.2) (fun hc276 => ?_) (fun hc276 => ?_)
 {
 replace hm := bif_t hc276 hm
 refine wp_ift (cvb hc276) ?_
 refine wp_seq (wrl (wv (.agg #[Zu, Zu, Zu, Zs, Zs, Zs, Zs]) z z (by kernel_rfl) ?_))
 replace hst := hst.pull1
 obtain ⟨w281, hr282, hst⟩ := hst.bx [Zu, Zu, Zu, Zs, Zs, Zs, Zs] sizeOf46 z (oC z (oC z (oC z (oC z (oC z (oC z (oC z oN))))))) (by kernel_rfl)
 refine wl_unit z z (x_unit hr282) ?_
 refine wv (.bool false) z z z (wl_nil (tn (wp_ret (then_r ?_))))
 have f283 : Ro tyF64 I (.slice none 0 0) [] := ro_nil
 have f284 : Ro tyF2 I (.slice none 0 0) [] := ro_nil
 have f285 : Ro tyF64 I (.slice none 0 0) [] := ro_nil
 have f286 : Ro (tyInt .u8) I (.slice none 0 0) [] := ro_nil
 replace hst := hst.pull1
 replace hst := objO_some hst
 obtain rfl := some_inj hm
 refine post_ret (vs := [.agg #[Zu, Zu, Zu, Zs, Zs, Zs, Zs], .bool false]) results56 (rvs_cons (rv_cell (cs := [Zu, Zu, Zu, Zs, Zs, Zs, Zs]) z isAgg46 sizeOf46 (hst.bcs1 0 z)) (rvs_cons (rv_tmp z) rvs_nil)) ?_
 exact ⟨_, Zs, Zs, Zs, Zs, z, hI0, f283, f284, f285, f286, hst.keep1⟩
}
 {
 replace hm := bif_f hc276 hm
 refine wp_iff (cvb hc276) ?_
 refine wp_skip (tn (wp_seq (wrl ?_)))
 refine wv (p0) z z z ?_
 obtain ⟨b287, v288, rfl, hst'⟩ := at_locks_Table_open hst
 clear hst
 have hst := hst'
 clear hst'
 refine wv (Pt b287 0) z z z (wv (Pt b287 0) z z (x_field z underlying203 z sizeOf125 z) (wv (v288) z z (x_load z isAgg125 (hst.bc0 z)) (wv (.int .i64 t271.1) z z z ?_)))
 obtain ⟨x290, hx291, hm⟩ := bind_some hm
 obtain ⟨h292, h293, hi294⟩ := geto_some hx291
 refine wv (.pointer (some (eAddr v288 (t271.1.toNat * 7 + 0)))) z z (x_index z z underlying125 sizeOf46 hst.sv1 h292 h293) ?_
 obtain ⟨cs295, hr296, hc297⟩ := hst.og1 hi294
 obtain ⟨v298, v301, v304, v307, rfl, f299, f302, f305, f308, -⟩ := hr296
 refine wv (.agg #[U6 x290.ID.Session, U6 x290.ID.Seq, U6 x290.Epoch, v298, v301, v304, v307]) z z (x_loadN (cs := [U6 x290.ID.Session, U6 x290.ID.Seq, U6 x290.Epoch, v298, v301, v304, v307]) z isAgg46 sizeOf46 (eCells (o := 0) hc297 z)) ?_
 replace hst := hst.pull2
 obtain ⟨w310, hr311, hst⟩ := hst.bx [U6 x290.ID.Session, U6 x290.ID.Seq, U6 x290.Epoch, v298, v301, v304, v307] sizeOf46 z (oC z (oC z (oC z (oC (one_of_sliceV (ro_sliceV f299)) (oC (one_of_sliceV (ro_sliceV f302)) (oC (one_of_sliceV (ro_sliceV f305)) (oC (one_of_sliceV (ro_sliceV f308)) oN))))))) (by kernel_rfl)
 refine wl_unit z z (x_unit hr311) ?_
 refine wv (.bool true) z z z (wl_nil (tn (wp_ret ?_)))
 replace hst := hst.pull2.pull2
 replace hst := at_locks_Table_close (pv := Pt b287 0) (x := o0) hst z
 replace hst := objO_some hst
 obtain rfl := some_inj hm
 refine post_ret (vs := [.agg #[U6 x290.ID.Session, U6 x290.ID.Seq, U6 x290.Epoch, v298, v301, v304, v307], .bool true]) results56 (rvs_cons (rv_cell (cs := [U6 x290.ID.Session, U6 x290.ID.Seq, U6 x290.Epoch, v298, v301, v304, v307]) z isAgg46 sizeOf46 (hst.bcs1 0 z)) (rvs_cons (rv_tmp z) rvs_nil)) ?_
 exact ⟨_, v298, v301, v304, v307, z, hI0, f299, f302, f305, f308, hst.keep1⟩
}
}
}

theorem math_IsNaN_ref {w0 w : World} {I : HL} {R : SP} {a0 : Nat}  (hst : St w0 w I [] R) {r : (Bool)} (hm : math_IsNaN a0 = some r) :
  Calls prog 177 #[F6 a0] w fun e w' => e = .returned (.bool r) ∧ St w0 w' I [] R := by {
 unfold math_IsNaN at hm
 refine calls_start (args := [F6 a0]) func177 z ntmps177 (Nat.le_of_ble_eq_true z) ?_
 refine wp_seq (wrl (wv (.bool false) z z z (wl_nil (tn (wp_seq (wrl (wv (.float .f64 a0) z z z (wv (.float .f64 a0) z z z (wv (.bool (fNe a0 a0)) z z z (wv (.bool (fNe a0 a0)) z z z (wl_nil (tn (wp_ret ?_)))))))))))))
 obtain rfl := some_inj hm
 refine post_ret (vs := [.bool (fNe a0 a0)]) results177 (rvs_cons (rv_tmp z) rvs_nil) ?_
 exact ⟨z, hst.keep0⟩
}

theorem number_Rank_ref {w0 w : World} {I : HL} {R : SP} {a0 : Nat}  (hst : St w0 w I [] R) {r : (Int)} (hm : number_Rank a0 = some r) :
  Calls prog 118 #[F6 a0] w fun e w' => e = .returned (.int .u64 r) ∧ St w0 w' I [] R := by {
 unfold number_Rank at hm
 refine calls_start (args := [F6 a0]) func118 z ntmps118 (Nat.le_of_ble_eq_true z) ?_
 refine wp_seq (wrl (wv (.int .u64 (0:Int)) z z z (wl_nil (tn (wp_seq (wp_seq (wrl (wv (.float .f64 a0) z z z ?_))))))))
 obtain ⟨t271, ht272, hm⟩ := bind_some hm
 refine wc call177 [F6 a0] z z z ?_
 refine (math_IsNaN_ref hst.to0 ht272).mono ?_
 rintro _ w273 ⟨rfl, hst⟩
 refine ⟨_, z, ?_⟩
 replace hst := hst.of0
 refine wl_nil (tn ?_)
 refine bsplit t271 (fun hc276 => ?_) (fun hc276 => ?_)
 {
 replace hm := bif_t hc276 hm
 refine wp_ift (cvb hc276) ?_
 refine wp_seq (wrl (wv (.int .u64 (18446744073709551615:Int)) z z z (wl_nil (tn (wp_ret (then_r ?_))))))
 obtain rfl := some_inj hm
 refine post_ret (vs := [U6 (18446744073709551615:Int)]) results118 (rvs_cons (rv_tmp z) rvs_nil) ?_
 exact ⟨z, hst.keep0⟩
}
 {
 replace hm := bif_f hc276 hm
 refine wp_iff (cvb hc276) ?_
 refine wp_skip (tn (wp_seq (wrl ?_)))
 refine wv (.float .f64 a0) z z z (wv (.int .u64 (Int.ofNat a0)) z z (by kernel_rfl) (wv (.int .u64 (Int.ofNat a0)) z z z (wl_nil (tn (wp_seq (wp_seq (wrl (wv (.int .u64 (Int.ofNat a0)) z z z (wv (.int .u64 (iShr .u64 (Int.ofNat a0) (63:Int))) z z (x_shr (by decide) z z) (wv (.bool ((iShr .u64 (Int.ofNat a0) (63:Int)) == (1:Int))) z z z (wl_nil (tn ?_))))))))))))
 refine bsplit ((iShr .u64 (Int.ofNat a0) (63:Int)) == (1:Int)) (fun hc277 => ?_) (fun hc277 => ?_)
 {
 replace hm := bif_t hc277 hm
 refine wp_ift (cvb hc277) ?_
 refine wp_seq (wrl (wv (.int .u64 (Int.ofNat a0)) z z z (wv (.int .u64 (bXor .u64 ((18446744073709551615):Int) (Int.ofNat a0))) z z (by kernel_rfl) (wv (.int .u64 (bXor .u64 ((18446744073709551615):Int) (Int.ofNat a0))) z z z (wl_nil (tn (wp_ret (then_r ?_))))))))
 obtain rfl := some_inj hm
 refine post_ret (vs := [U6 (bXor .u64 ((18446744073709551615):Int) (Int.ofNat a0))]) results118 (rvs_cons (rv_tmp z) rvs_nil) ?_
 exact ⟨z, hst.keep0⟩
}
 {
 replace hm := bif_f hc277 hm
 refine wp_iff (cvb hc277) ?_
 refine wp_skip (tn (wp_seq (wrl ?_)))
 refine wv (.int .u64 (Int.ofNat a0)) z z z (wv (.int .u64 (bOr .u64 (Int.ofNat a0) (9223372036854775808:Int))) z z z (wv (.int .u64 (bOr .u64 (Int.ofNat a0) (9223372036854775808:Int))) z z z (wl_nil (tn (wp_ret ?_)))))
 obtain rfl := some_inj hm
 refine post_ret (vs := [U6 (bOr .u64 (Int.ofNat a0) (9223372036854775808:Int))]) results118 (rvs_cons (rv_tmp z) rvs_nil) ?_
 exact ⟨z, hst.keep0⟩
}
}
}

theorem number_Same_ref {w0 w : World} {I : HL} {R : SP} {a0 : Nat} {a1 : Nat}  (hst : St w0 w I [] R) {r : (Bool)} (hm : number_Same a0 a1 = some r) :
  Calls prog 137 #[F6 a0, F6 a1] w fun e w' => e = .returned (.bool r) ∧ St w0 w' I [] R := by {
 unfold number_Same at hm
 refine calls_start (args := [F6 a0, F6 a1]) func137 z ntmps137 (Nat.le_of_ble_eq_true z) ?_
 refine wp_seq (wrl (wv (.bool false) z z z (wl_nil (tn (wp_seq (wrl (wv (.float .f64 a0) z z z ?_)))))))
 obtain ⟨t274, ht275, hm⟩ := bind_some hm
 refine wc call118 [F6 a0] z z z ?_
 refine (number_Rank_ref hst.to0 ht275).mono ?_
 rintro _ w276 ⟨rfl, hst⟩
 refine ⟨_, z, ?_⟩
 replace hst := hst.of0
 refine wv (.float .f64 a1) z z z ?_
 obtain ⟨t279, ht280, hm⟩ := bind_some hm
 refine wc call118 [F6 a1] z z z ?_
 refine (number_Rank_ref hst.to0 ht280).mono ?_
 rintro _ w281 ⟨rfl, hst⟩
 refine ⟨_, z, ?_⟩
 replace hst := hst.of0
 refine wv (.bool (t274 == t279)) z z z (wv (.bool (t274 == t279)) z z z (wl_nil (tn (wp_ret ?_))))
 obtain rfl := some_inj hm
 refine post_ret (vs := [.bool (t274 == t279)]) results137 (rvs_cons (rv_tmp z) rvs_nil) ?_
 exact ⟨z, hst.keep0⟩
}

theorem locks_Same_1_ref {w0 w : World} {I : HL} {R : SP} {a0 : (Nat × Nat)} {a1 : (Nat × Nat)}  (hst : St w0 w I [] R) {r : (Bool)} (hm : locks_Same_1 a0 a1 = some r) :
  Calls prog 136 #[.agg #[F6 a0.1, F6 a0.2], .agg #[F6 a1.1, F6 a1.2]] w fun e w' => e = .returned (.bool r) ∧ St w0 w' I [] R := by {
 unfold locks_Same_1 at hm
 refine calls_start (args := [.agg #[F6 a0.1, F6 a0.2], .agg #[F6 a1.1, F6 a1.2]]) func136 z ntmps136 (Nat.le_of_ble_eq_true z) ?_
 refine wp_seq (wrl ?_)
 obtain ⟨b367, w368, ew369, eb370, hst⟩ := hst.box [F6 a0.1, F6 a0.2] 80
 refine wl_run (v := Pt b367 0) (w' := w368) z z (x_al (by kernel_rfl) ew369 eb370) ?_
 obtain ⟨b372, w373, ew374, eb375, hst⟩ := hst.box [F6 a1.1, F6 a1.2] 80
 refine wl_run (v := Pt b372 0) (w' := w373) z z (x_al (by kernel_rfl) ew374 eb375) ?_
 refine wv (.bool false) z z z (wl_nil (tn (wp_seq (wrl (wv (Pt b367 0) z z (x_index_arr (i := (0:Int)) z z underlying80 sizeOf37 (by decide) (by decide)) (wv (.float .f64 a0.1) z z (x_load z isAgg37 (hst.bc1 z)) (wv (Pt b372 0) z z (x_index_arr (i := (0:Int)) z z underlying80 sizeOf37 (by decide) (by decide)) (wv (.float .f64 a1.1) z z (x_load z isAgg37 (hst.bc0 z)) ?_))))))))
 obtain ⟨t377, ht378, hm⟩ := bind_some hm
 refine wc call137 [F6 a0.1, F6 a1.1] z z z ?_
 refine (number_Same_ref hst.to0 ht378).mono ?_
 rintro _ w379 ⟨rfl, hst⟩
 refine ⟨_, z, ?_⟩
 replace hst := hst.of0
 refine wv (.bool t377) z z z ?_
 refine bsplit t377 (fun hc382 => ?_) (fun hc382 => ?_)
 {
 replace hm := bif_t hc382 hm
 refine wv (Pt b367 1) ((wanted_eq z z z (cvb hc382)).trans z) z (x_index_arr (i := (1:Int)) z z underlying80 sizeOf37 (by decide) (by decide)) (wv (.float .f64 a0.2) ((wanted_eq z z z (cvb hc382)).trans z) z (x_load z isAgg37 (hst.bc1 z)) (wv (Pt b372 1) ((wanted_eq z z z (cvb hc382)).trans z) z (x_index_arr (i := (1:Int)) z z underlying80 sizeOf37 (by decide) (by decide)) (wv (.float .f64 a1.2) ((wanted_eq z z z (cvb hc382)).trans z) z (x_load z isAgg37 (hst.bc0 z)) ?_)))
 obtain ⟨t383, ht384, hm⟩ := bind_some hm
 refine wl_call ((wanted_eq z z z (cvb hc382)).trans z) z (x_call call137 z (vs := [F6 a0.2, F6 a1.2]) z) ?_
 refine (number_Same_ref hst.to0 ht384).mono ?_
 rintro _ w385 ⟨rfl, hst⟩
 refine ⟨_, z, ?_⟩
 replace hst := hst.of0
 refine wv (.bool t383) z z (x_pick_t hc382 z z) (wv (.bool t383) z z z (wl_nil (tn (wp_ret ?_))))
 obtain rfl := some_inj hm
 refine post_ret (vs := [.bool t383]) results136 (rvs_cons (rv_tmp z) rvs_nil) ?_
 exact ⟨z, hst.keep0⟩
}
 {
 replace hm := bif_f hc382 hm
 refine wo hc382 z z z z z z (wo hc382 z z z z z z (wo hc382 z z z z z z (wo hc382 z z z z z z (wo hc382 z z z z z z (wv (.bool false) z z (x_pick_f hc382 z z) (wv (.bool false) z z z (wl_nil (tn (wp_ret ?_)))))))))
 obtain rfl := some_inj hm
 refine post_ret (vs := [.bool false]) results136 (rvs_cons (rv_tmp z) rvs_nil) ?_
 exact ⟨z, hst.keep0⟩
}
}

theorem slices_Equal_byte_byte_ref {w0 w : World} {I : HL} {R : SP} {a0 : (List Int)} {r0_0 : Value} {a1 : (List Int)} {r1_0 : Value} (f0_0 : Rd (tyInt .u8) R I r0_0 a0) (f1_0 : Rd (tyInt .u8) R I r1_0 a1) (hst : St w0 w I [] R) {r : (Bool)} (hm : slices_Equal_byte_byte a0 a1 = some r) :
  Calls prog 110 #[r0_0, r1_0] w fun e w' => e = .returned (.bool r) ∧ St w0 w' I [] R := by {
 unfold slices_Equal_byte_byte at hm
 refine calls_start (args := [r0_0, r1_0]) func110 z ntmps110 (Nat.le_of_ble_eq_true z) ?_
 refine wp_seq (wrl (wv (.bool false) z z z (wl_nil (tn (wp_seq (wp_seq (wrl (wv (r0_0) z z z (wv (.int .i64 ((a0).length : Int)) z z (x_len z underlying22 (rd_sliceV f0_0)) (wv (r1_0) z z z (wv (.int .i64 ((a1).length : Int)) z z (x_len z underlying22 (rd_sliceV f1_0)) (wv (.bool (((a0).length : Int) != ((a1).length : Int))) z z z (wl_nil (tn ?_))))))))))))))
 refine bsplit (((a0).length : Int) != ((a1).length : Int)) (fun hc549 => ?_) (fun hc549 => ?_)
 {
 replace hm := bif_t hc549 hm
 refine wp_ift (cvb hc549) ?_
 refine wp_seq (wrl (wv (.bool false) z z z (wl_nil (tn (wp_ret (then_r ?_))))))
 obtain rfl := some_inj hm
 refine post_ret (vs := [.bool false]) results110 (rvs_cons (rv_tmp z) rvs_nil) ?_
 exact ⟨z, hst.keep0⟩
}
 {
 replace hm := bif_f hc549 hm
 refine wp_iff (cvb hc549) ?_
 refine wp_skip (tn (wp_seq (wp_seq (wrl ?_))))
 refine wv (r0_0) z z z (wv (.int .i64 ((a0).length : Int)) z z (x_len z underlying22 (rd_sliceV f0_0)) (wv (.int .i64 (0:Int)) z z z (wl_nil (tn (wp_block ?_)))))
 obtain ⟨n577, hm⟩ := loopO_some hm
 refine wp_loop_n (fun n a w => ∃ (z575 : Int) (σ576 : Nat → Value), loopN (slices_Equal_byte_byte_l0 a0 a1) n z575 = some r ∧ a = Fr 26 (upd (upd (upd (upd σ576 0 (r0_0)) 1 (r1_0)) 12 (.int .i64 ((a0).length : Int))) 13 (.int .i64 z575)) ∧ St w0 w I [] R) n577 ⟨(0:Int), _, hm, (fu 0 r0_0 z (fu 1 r1_0 z (fu 12 (.int .i64 ((a0).length : Int)) z (fu 13 (.int .i64 (0:Int)) z z)))), hst⟩ ?_
 rintro n583 _ w578 ⟨z575, σ576, hm, rfl, hst⟩
 obtain ⟨n580, y581, rfl, hm, hx582⟩ := loopN_some hm
 dsimp only [slices_Equal_byte_byte_l0] at hm
 refine wp_seq (wrl (wv (.bool (decide (z575 < ((a0).length : Int)))) z z z (wl_nil (tn (wp_seq ?_)))))
 refine bsplit (decide (z575 < ((a0).length : Int))) (fun hc584 => ?_) (fun hc584 => ?_)
 {
 replace hm := bif_t hc584 hm
 refine wp_ift (cvb hc584) ?_
 refine wp_skip (tn (wp_seq (wp_block (wp_seq (wrl ?_)))))
 refine wv (.int .i64 z575) z z z (wv (.int .i64 z575) z z z (wl_nil (tn (wp_seq ?_))))
 refine wq_regionS hst Tryz.mixed (by kernel_rfl) ?_
 refine wq_run (v := r0_0) z z (fun w hst => z) ?_
 refine wq_run (v := .int .i64 z575) z z (fun w hst => z) ?_
 obtain ⟨x585, hx586, hm⟩ := bind_some hm
 obtain ⟨h587, h588, hi589⟩ := geto_some hx586
 refine wq_run (v := .pointer (some (eAddr r0_0 (z575.toNat * 1 + 0)))) z z (fun w hst => x_index z z underlying22 sizeOf5 (rd_sliceV f0_0) h587 h588) ?_
 refine wq_run (v := .int .u8 x585) z z (fun w hst => x_load z isAgg5 (rd_load f0_0 (HL.le.refl _) hst hi589 (by rintro _ rfl; rfl))) ?_
 refine wq_run (v := r1_0) z z (fun w hst => z) ?_
 refine wq_run (v := .int .i64 z575) z z (fun w hst => z) ?_
 obtain ⟨x590, hx591, hm⟩ := bind_some hm
 obtain ⟨h592, h593, hi594⟩ := geto_some hx591
 refine wq_run (v := .pointer (some (eAddr r1_0 (z575.toNat * 1 + 0)))) z z (fun w hst => x_index z z underlying22 sizeOf5 (rd_sliceV f1_0) h592 h593) ?_
 refine wq_run (v := .int .u8 x590) z z (fun w hst => x_load z isAgg5 (rd_load f1_0 (HL.le.refl _) hst hi594 (by rintro _ rfl; rfl))) ?_
 refine wq_run (v := .bool (x585 != x590)) z z (fun w hst => z) ?_
 refine wq_nil ?_
 intro w hst
 refine tn ?_
 refine bsplit (x585 != x590) (fun hc595 => ?_) (fun hc595 => ?_)
 {
 replace hm := bif_t hc595 hm
 refine wp_ift (cvb hc595) ?_
 refine wp_seq (wrl (wv (.bool false) z z z (wl_nil (tn (wp_ret (blk_r (then_r (then_r ?_))))))))
 replace hm := inr_up hm hx582
 refine blk_r (then_r ?_)
 obtain rfl := some_inj hm
 refine post_ret (vs := [.bool false]) results110 (rvs_cons (rv_tmp z) rvs_nil) ?_
 exact ⟨z, hst.keep0⟩
}
 {
 replace hm := bif_f hc595 hm
 refine wp_iff (cvb hc595) ?_
 refine wp_skip (blk_n (tn (wrl ?_)))
 refine wv (.int .i64 (i64.wrap (z575 + (1:Int)))) z z z (wv (.int .i64 (i64.wrap (z575 + (1:Int)))) z z z (wl_nil (tn ?_)))
 replace hst := hst.keep0
 obtain rfl := some_inj hm
 exact ⟨_, Nat.lt_succ_self _, (i64.wrap (z575 + (1:Int))), _, hx582, (fu 0 r0_0 z (fu 1 r1_0 z (fu 12 (.int .i64 ((a0).length : Int)) z (fu 13 (.int .i64 (i64.wrap (z575 + (1:Int)))) z z)))), hst⟩
}
}
 {
 replace hm := bif_f hc584 hm
 refine wp_iff (cvb hc584) ?_
 refine wp_exit (then_x (then_x ?_))
 replace hm := inr_up hm hx582
 refine blk_x (tn (wp_seq (wrl ?_)))
 refine wv (.bool true) z z z (wl_nil (tn (wp_ret ?_)))
 obtain rfl := some_inj hm
 refine post_ret (vs := [.bool true]) results110 (rvs_cons (rv_tmp z) rvs_nil) ?_
 exact ⟨z, hst.keep0⟩
}
}
}

theorem locks_Same_ref {w0 w : World} {I : HL} {R : SP} {a0 : api_Hold} {r0_0 : Value} {r0_1 : Value} {r0_2 : Value} {r0_3 : Value} {a1 : api_Hold} {r1_0 : Value} {r1_1 : Value} {r1_2 : Value} {r1_3 : Value} (f0_0 : Rd tyF64 R I r0_0 a0.Gets) (f0_1 : Rd tyF2 R I r0_1 a0.Scans) (f0_2 : Rd tyF64 R I r0_2 a0.Puts) (f0_3 : Rd (tyInt .u8) R I r0_3 a0.Data) (f1_0 : Rd tyF64 R I r1_0 a1.Gets) (f1_1 : Rd tyF2 R I r1_1 a1.Scans) (f1_2 : Rd tyF64 R I r1_2 a1.Puts) (f1_3 : Rd (tyInt .u8) R I r1_3 a1.Data) (hst : St w0 w I [] R) {r : (Bool)} (hm : locks_Same a0 a1 = some r) :
  Calls prog 57 #[.agg #[U6 a0.ID.Session, U6 a0.ID.Seq, U6 a0.Epoch, r0_0, r0_1, r0_2, r0_3], .agg #[U6 a1.ID.Session, U6 a1.ID.Seq, U6 a1.Epoch, r1_0, r1_1, r1_2, r1_3]] w fun e w' => e = .returned (.bool r) ∧ St w0 w' I [] R := by {
 unfold locks_Same at hm
 refine calls_start (args := [.agg #[U6 a0.ID.Session, U6 a0.ID.Seq, U6 a0.Epoch, r0_0, r0_1, r0_2, r0_3], .agg #[U6 a1.ID.Session, U6 a1.ID.Seq, U6 a1.Epoch, r1_0, r1_1, r1_2, r1_3]]) func57 z ntmps57 (Nat.le_of_ble_eq_true z) ?_
 refine wp_seq (wrl ?_)
 obtain ⟨b511, w512, ew513, eb514, hst⟩ := hst.box [U6 a0.ID.Session, U6 a0.ID.Seq, U6 a0.Epoch, r0_0, r0_1, r0_2, r0_3] 46
 refine wl_run (v := Pt b511 0) (w' := w512) z z (x_al (by kernel_rfl) ew513 eb514) ?_
 obtain ⟨b516, w517, ew518, eb519, hst⟩ := hst.box [U6 a1.ID.Session, U6 a1.ID.Seq, U6 a1.Epoch, r1_0, r1_1, r1_2, r1_3] 46
 refine wl_run (v := Pt b516 0) (w' := w517) z z (x_al (by kernel_rfl) ew518 eb519) ?_
 refine wv (.bool false) z z z (wl_nil (tn (wp_seq (wrl (wv (.func (.func 136) #[] #[]) z z z (wl_nil (tn (wp_seq (wrl (wv (Pt b511 0) z z (x_field z underlying46 z sizeOf28 z) (wv (.agg #[U6 a0.ID.Session, U6 a0.ID.Seq]) z z (x_loadN (cs := [U6 a0.ID.Session, U6 a0.ID.Seq]) z isAgg28 sizeOf28 (hst.bcs1 0 z)) (wv (Pt b516 0) z z (x_field z underlying46 z sizeOf28 z) (wv (.agg #[U6 a1.ID.Session, U6 a1.ID.Seq]) z z (x_loadN (cs := [U6 a1.ID.Session, U6 a1.ID.Seq]) z isAgg28 sizeOf28 (hst.bcs0 0 z)) (wv (.bool ((a0.ID.Session == a1.ID.Session) && (a0.ID.Seq == a1.ID.Seq))) z z (x_aggeq2 z z (by kernel_rfl) underlying28 (by kernel_rfl) (by kernel_rfl) (by kernel_rfl) underlying26 underlying26 (fun _ _ _ => by kernel_rfl) (fun _ _ _ => by kernel_rfl)) (wv (.bool ((a0.ID.Session == a1.ID.Session) && (a0.ID.Seq == a1.ID.Seq))) z z z ?_)))))))))))))))
 refine bsplit ((a0.ID.Session == a1.ID.Session) && (a0.ID.Seq == a1.ID.Seq)) (fun hc521 => ?_) (fun hc521 => ?_)
 {
 replace hm := bif_t hc521 hm
 refine wv (Pt b511 2) ((wanted_eq z z z (cvb hc521)).trans z) z (x_field z underlying46 z sizeOf26 z) (wv (.int .u64 a0.Epoch) ((wanted_eq z z z (cvb hc521)).trans z) z (x_load z isAgg26 (hst.bc1 z)) (wv (Pt b516 2) ((wanted_eq z z z (cvb hc521)).trans z) z (x_field z underlying46 z sizeOf26 z) (wv (.int .u64 a1.Epoch) ((wanted_eq z z z (cvb hc521)).trans z) z (x_load z isAgg26 (hst.bc0 z)) (wv (.bool (a0.Epoch == a1.Epoch)) ((wanted_eq z z z (cvb hc521)).trans z) z z (wv (.bool (a0.Epoch == a1.Epoch)) z z (x_pick_t hc521 z z) (wv (.bool (a0.Epoch == a1.Epoch)) z z z ?_))))))
 refine bsplit (a0.Epoch == a1.Epoch) (fun hc522 => ?_) (fun hc522 => ?_)
 {
 replace hm := bif_t hc522 hm
 refine wv (Pt b511 3) ((wanted_eq z z z (cvb hc522)).trans z) z (x_field z underlying46 z sizeOf43 z) (wv (r0_0) ((wanted_eq z z z (cvb hc522)).trans z) z (x_load z isAgg43 (hst.bc1 z)) (wv (Pt b516 3) ((wanted_eq z z z (cvb hc522)).trans z) z (x_field z underlying46 z sizeOf43 z) (wv (r1_0) ((wanted_eq z z z (cvb hc522)).trans z) z (x_load z isAgg43 (hst.bc0 z)) ?_)))
 obtain ⟨y587, hq588, hm⟩ := bind_some hm
 refine wl_call ((wanted_eq z z z (cvb hc522)).trans z) z (x_callv call138 (caps := []) z (vs := [r0_0, r1_0, .func (.func 137) #[] #[]]) z) ?_
 refine Calls.mono (show Calls prog 138 #[r0_0, r1_0, .func (.func 137) #[] #[]] _ (fun e w' => ∃ (z585 : Bool), z585 = y587 ∧ e = .returned (.bool z585) ∧ St w0 w' I [cells b511 [U6 a0.ID.Session, U6 a0.ID.Seq, U6 a0.Epoch, r0_0, r0_1, r0_2, r0_3], cells b516 [U6 a1.ID.Session, U6 a1.ID.Seq, U6 a1.Epoch, r1_0, r1_1, r1_2, r1_3]] R) from ?_) ?_
 {
 clear hm; have hm := hq588
 refine calls_start (args := [r0_0, r1_0, .func (.func 137) #[] #[]]) func138 z ntmps138 (Nat.le_of_ble_eq_true z) ?_
 refine wp_seq (wrl (wv (.bool false) z z z (wl_nil (tn (wp_seq (wp_seq (wrl (wv (r0_0) z z z (wv (.int .i64 ((a0.Gets).length : Int)) z z (x_len z underlying43 (rd_sliceV f0_0)) (wv (r1_0) z z z (wv (.int .i64 ((a1.Gets).length : Int)) z z (x_len z underlying43 (rd_sliceV f1_0)) (wv (.bool (((a0.Gets).length : Int) != ((a1.Gets).length : Int))) z z z (wl_nil (tn ?_))))))))))))))
 refine bsplit (((a0.Gets).length : Int) != ((a1.Gets).length : Int)) (fun hc523 => ?_) (fun hc523 => ?_)
 {
 replace hm := bif_t hc523 hm
 refine wp_ift (cvb hc523) ?_
 refine wp_seq (wrl (wv (.bool false) z z z (wl_nil (tn (wp_ret (then_r ?_))))))
 refine post_ret (vs := [.bool false]) results138 (rvs_cons (rv_tmp z) rvs_nil) ?_
 replace hst := hst.pull1.keep2
 obtain rfl := some_inj hm
 exact ⟨false, z, z, hst⟩
}
 {
 replace hm := bif_f hc523 hm
 refine wp_iff (cvb hc523) ?_
 refine wp_skip (tn (wp_seq (wp_seq (wrl ?_))))
 refine wv (r0_0) z z z (wv (.int .i64 ((a0.Gets).length : Int)) z z (x_len z underlying43 (rd_sliceV f0_0)) (wv (.int .i64 (0:Int)) z z z (wl_nil (tn (wp_block ?_)))))
 obtain ⟨n561, hm⟩ := loopO_some hm
 refine wp_loop_n (fun n a w => ∃ (z559 : Int) (σ560 : Nat → Value), loopN (locks_Same_l0 a0 a1) n z559 = some y587 ∧ a = Fr 32 (upd (upd (upd (upd (upd σ560 1 (r1_0)) 2 (.func (.func 137) #[] #[])) 15 (r0_0)) 16 (.int .i64 ((a0.Gets).length : Int))) 17 (.int .i64 z559)) ∧ St w0 w I [cells b516 [U6 a1.ID.Session, U6 a1.ID.Seq, U6 a1.Epoch, r1_0, r1_1, r1_2, r1_3], cells b511 [U6 a0.ID.Session, U6 a0.ID.Seq, U6 a0.Epoch, r0_0, r0_1, r0_2, r0_3]] R) n561 ⟨(0:Int), _, hm, (fu 1 r1_0 z (fu 2 (.func (.func 137) #[] #[]) z (fu 15 r0_0 z (fu 16 (.int .i64 ((a0.Gets).length : Int)) z (fu 17 (.int .i64 (0:Int)) z z))))), hst⟩ ?_
 rintro n567 _ w562 ⟨z559, σ560, hm, rfl, hst⟩
 obtain ⟨n564, y565, rfl, hm, hx566⟩ := loopN_some hm
 dsimp only [locks_Same_l0] at hm
 refine wp_seq (wrl (wv (.bool (decide (z559 < ((a0.Gets).length : Int)))) z z z (wl_nil (tn (wp_seq ?_)))))
 refine bsplit (decide (z559 < ((a0.Gets).length : Int))) (fun hc568 => ?_) (fun hc568 => ?_)
 {
 replace hm := bif_t hc568 hm
 refine wp_ift (cvb hc568) ?_
 refine wp_skip (tn (wp_seq (wp_block (wp_seq (wrl ?_)))))
 refine wv (.int .i64 z559) z z z ?_
 obtain ⟨x569, hx570, hm⟩ := bind_some hm
 obtain ⟨h571, h572, hi573⟩ := geto_some hx570
 refine wv (.pointer (some (eAddr r0_0 (z559.toNat * 1 + 0)))) z z (x_index z z underlying43 sizeOf37 (rd_sliceV f0_0) h571 h572) (wv (.float .f64 x569) z z (x_load z isAgg37 (rd_load f0_0 (HL.le.refl _) hst hi573 (by rintro _ rfl; rfl))) (wv (.int .i64 z559) z z z (wv (.float .f64 x569) z z z (wl_nil (tn (wp_seq (wrl (wv (r1_0) z z z (wv (.int .i64 z559) z z z ?_)))))))))
 obtain ⟨x574, hx575, hm⟩ := bind_some hm
 obtain ⟨h576, h577, hi578⟩ := geto_some hx575
 refine wv (.pointer (some (eAddr r1_0 (z559.toNat * 1 + 0)))) z z (x_index z z underlying43 sizeOf37 (rd_sliceV f1_0) h576 h577) (wv (.float .f64 x574) z z (x_load z isAgg37 (rd_load f1_0 (HL.le.refl _) hst hi578 (by rintro _ rfl; rfl))) (wv (.float .f64 x574) z z z (wl_nil (tn (wp_seq (wrl (wv (.func (.func 137) #[] #[]) z z z (wv (.float .f64 x569) z z z (wv (.float .f64 x574) z z z ?_)))))))))
 obtain ⟨t579, ht580, hm⟩ := bind_some hm
 refine wl_call z z (x_callv call137 (caps := []) z (vs := [F6 x569, F6 x574]) z) ?_
 refine (number_Same_ref hst.to0 ht580).mono ?_
 rintro _ w581 ⟨rfl, hst⟩
 refine ⟨_, z, ?_⟩
 replace hst := hst.of0
 refine wv (.bool (!t579)) z z z (wl_nil (tn ?_))
 refine bsplit (!t579) (fun hc584 => ?_) (fun hc584 => ?_)
 {
 replace hm := bif_t hc584 hm
 refine wp_ift (cvb hc584) ?_
 refine wp_seq (wrl (wv (.bool false) z z z (wl_nil (tn (wp_ret (blk_r (then_r (then_r ?_))))))))
 replace hm := inr_up hm hx566
 refine blk_r (then_r ?_)
 refine post_ret (vs := [.bool false]) results138 (rvs_cons (rv_tmp z) rvs_nil) ?_
 replace hst := hst.pull1.keep2
 obtain rfl := some_inj hm
 exact ⟨false, z, z, hst⟩
}
 {
 replace hm := bif_f hc584 hm
 refine wp_iff (cvb hc584) ?_
 refine wp_skip (blk_n (tn (wrl ?_)))
 refine wv (.int .i64 (i64.wrap (z559 + (1:Int)))) z z z (wv (.int .i64 (i64.wrap (z559 + (1:Int)))) z z z (wl_nil (tn ?_)))
 replace hst := hst.pull1.pull1.keep2
 obtain rfl := some_inj hm
 exact ⟨_, Nat.lt_succ_self _, (i64.wrap (z559 + (1:Int))), _, hx566, (fu 1 r1_0 z (fu 2 (.func (.func 137) #[] #[]) z (fu 15 r0_0 z (fu 16 (.int .i64 ((a0.Gets).length : Int)) z (fu 17 (.int .i64 (i64.wrap (z559 + (1:Int)))) z z))))), hst⟩
}
}
 {
 replace hm := bif_f hc568 hm
 refine wp_iff (cvb hc568) ?_
 refine wp_exit (then_x (then_x ?_))
 replace hm := inr_up hm hx566
 refine blk_x (tn (wp_seq (wrl ?_)))
 refine wv (.bool true) z z z (wl_nil (tn (wp_ret ?_)))
 refine post_ret (vs := [.bool true]) results138 (rvs_cons (rv_tmp z) rvs_nil) ?_
 replace hst := hst.pull1.keep2
 obtain rfl := some_inj hm
 exact ⟨true, z, z, hst⟩
}
}
}
 clear hst
 rintro _ w589 ⟨z585, rfl, rfl, hst⟩
 refine ⟨_, z, ?_⟩
 try dsimp only at hm
 refine wv (.bool z585) z z (x_pick_t hc522 z z) (wv (.bool z585) z z z ?_)
 refine bsplit z585 (fun hc590 => ?_) (fun hc590 => ?_)
 {
 replace hm := bif_t hc590 hm
 refine wv (Pt b511 4) ((wanted_eq z z z (cvb hc590)).trans z) z (x_field z underlying46 z sizeOf44 z) (wv (r0_1) ((wanted_eq z z z (cvb hc590)).trans z) z (x_load z isAgg44 (hst.bc0 z)) (wv (Pt b516 4) ((wanted_eq z z z (cvb hc590)).trans z) z (x_field z underlying46 z sizeOf44 z) (wv (r1_1) ((wanted_eq z z z (cvb hc590)).trans z) z (x_load z isAgg44 (hst.bc1 z)) (wv (.func (.func 136) #[] #[]) ((wanted_eq z z z (cvb hc590)).trans z) z z ?_))))
 obtain ⟨y697, hq698, hm⟩ := bind_some hm
 refine wl_call ((wanted_eq z z z (cvb hc590)).trans z) z (x_callv call139 (caps := []) z (vs := [r0_1, r1_1, .func (.func 136) #[] #[]]) z) ?_
 refine Calls.mono (show Calls prog 139 #[r0_1, r1_1, .func (.func 136) #[] #[]] _ (fun e w' => ∃ (z695 : Bool), z695 = y697 ∧ e = .returned (.bool z695) ∧ St w0 w' I [cells b511 [U6 a0.ID.Session, U6 a0.ID.Seq, U6 a0.Epoch, r0_0, r0_1, r0_2, r0_3], cells b516 [U6 a1.ID.Session, U6 a1.ID.Seq, U6 a1.Epoch, r1_0, r1_1, r1_2, r1_3]] R) from ?_) ?_
 {
 clear hm; have hm := hq698
 refine calls_start (args := [r0_1, r1_1, .func (.func 136) #[] #[]]) func139 z ntmps139 (Nat.le_of_ble_eq_true z) ?_
 refine wp_seq (wrl (wv (.bool false) z z z (wl_nil (tn (wp_seq (wp_seq (wrl (wv (r0_1) z z z (wv (.int .i64 ((a0.Scans).length : Int)) z z (x_len z underlying44 (rd_sliceV f0_1)) (wv (r1_1) z z z (wv (.int .i64 ((a1.Scans).length : Int)) z z (x_len z underlying44 (rd_sliceV f1_1)) (wv (.bool (((a0.Scans).length : Int) != ((a1.Scans).length : Int))) z z z (wl_nil (tn ?_))))))))))))))
 refine bsplit (((a0.Scans).length : Int) != ((a1.Scans).length : Int)) (fun hc591 => ?_) (fun hc591 => ?_)
 {
 replace hm := bif_t hc591 hm
 refine wp_ift (cvb hc591) ?_
 refine wp_seq (wrl (wv (.bool false) z z z (wl_nil (tn (wp_ret (then_r ?_))))))
 refine post_ret (vs := [.bool false]) results139 (rvs_cons (rv_tmp z) rvs_nil) ?_
 replace hst := hst.pull1.pull1.keep2
 obtain rfl := some_inj hm
 exact ⟨false, z, z, hst⟩
}
 {
 replace hm := bif_f hc591 hm
 refine wp_iff (cvb hc591) ?_
 refine wp_skip (tn (wp_seq (wp_seq (wrl ?_))))
 refine wv (r0_1) z z z (wv (.int .i64 ((a0.Scans).length : Int)) z z (x_len z underlying44 (rd_sliceV f0_1)) (wv (.int .i64 (0:Int)) z z z (wl_nil (tn (wp_block ?_)))))
 obtain ⟨n657, hm⟩ := loopO_some hm
 refine wp_loop_n (fun n a w => ∃ (z655 : Int) (σ656 : Nat → Value), loopN (locks_Same_l1 a0 a1) n z655 = some y697 ∧ a = Fr 32 (upd (upd (upd (upd (upd σ656 1 (r1_1)) 2 (.func (.func 136) #[] #[])) 15 (r0_1)) 16 (.int .i64 ((a0.Scans).length : Int))) 17 (.int .i64 z655)) ∧ St w0 w I [cells b511 [U6 a0.ID.Session, U6 a0.ID.Seq, U6 a0.Epoch, r0_0, r0_1, r0_2, r0_3], cells b516 [U6 a1.ID.Session, U6 a1.ID.Seq, U6 a1.Epoch, r1_0, r1_1, r1_2, r1_3]] R) n657 ⟨(0:Int), _, hm, (fu 1 r1_1 z (fu 2 (.func (.func 136) #[] #[]) z (fu 15 r0_1 z (fu 16 (.int .i64 ((a0.Scans).length : Int)) z (fu 17 (.int .i64 (0:Int)) z z))))), hst⟩ ?_
 rintro n663 _ w658 ⟨z655, σ656, hm, rfl, hst⟩
 obtain ⟨n660, y661, rfl, hm, hx662⟩ := loopN_some hm
 dsimp only [locks_Same_l1] at hm
 refine wp_seq (wrl (wv (.bool (decide (z655 < ((a0.Scans).length : Int)))) z z z (wl_nil (tn (wp_seq ?_)))))
 refine bsplit (decide (z655 < ((a0.Scans).length : Int))) (fun hc664 => ?_) (fun hc664 => ?_)
 {
 replace hm := bif_t hc664 hm
 refine wp_ift (cvb hc664) ?_
 refine wp_skip (tn (wp_seq (wp_block (wp_seq (wrl ?_)))))
 refine wv (.int .i64 z655) z z z ?_
 obtain ⟨x665, hx666, hm⟩ := bind_some hm
 obtain ⟨h667, h668, hi669⟩ := geto_some hx666
 refine wv (.pointer (some (eAddr r0_1 (z655.toNat * 2 + 0)))) z z (x_index z z underlying44 sizeOf80 (rd_sliceV f0_1) h667 h668) (wv (.agg #[F6 x665.1, F6 x665.2]) z z (x_loadN (cs := [F6 x665.1, F6 x665.2]) z isAgg80 sizeOf80 (rd_loadN f0_1 (HL.le.refl _) hst hi669 0 (by rintro _ rfl; rfl))) ?_)
 obtain ⟨b670, w671, ew672, eb673, hst⟩ := hst.box [Zf, Zf] 80
 refine wl_run (v := Pt b670 0) (w' := w671) z z (x_al (by kernel_rfl) ew672 eb673) ?_
 refine wv (.int .i64 z655) z z z ?_
 obtain ⟨w675, hr676, hst⟩ := hst.bx [F6 x665.1, F6 x665.2] sizeOf80 z (oC z (oC z oN)) (by kernel_rfl)
 refine wl_unit z z (x_unit hr676) ?_
 refine wl_nil (tn (wp_seq (wrl (wv (r1_1) z z z (wv (.int .i64 z655) z z z ?_)))))
 obtain ⟨x677, hx678, hm⟩ := bind_some hm
 obtain ⟨h679, h680, hi681⟩ := geto_some hx678
 refine wv (.pointer (some (eAddr r1_1 (z655.toNat * 2 + 0)))) z z (x_index z z underlying44 sizeOf80 (rd_sliceV f1_1) h679 h680) (wv (.agg #[F6 x677.1, F6 x677.2]) z z (x_loadN (cs := [F6 x677.1, F6 x677.2]) z isAgg80 sizeOf80 (rd_loadN f1_1 (HL.le.refl _) hst hi681 0 (by rintro _ rfl; rfl))) ?_)
 obtain ⟨b682, w683, ew684, eb685, hst⟩ := hst.box [Zf, Zf] 80
 refine wl_run (v := Pt b682 0) (w' := w683) z z (x_al (by kernel_rfl) ew684 eb685) ?_
 obtain ⟨w687, hr688, hst⟩ := hst.bx [F6 x677.1, F6 x677.2] sizeOf80 z (oC z (oC z oN)) (by kernel_rfl)
 refine wl_unit z z (x_unit hr688) ?_
 refine wl_nil (tn (wp_seq (wrl (wv (.func (.func 136) #[] #[]) z z z (wv (.agg #[F6 x665.1, F6 x665.2]) z z (x_loadN (cs := [F6 x665.1, F6 x665.2]) z isAgg80 sizeOf80 (hst.bcs1 0 z)) (wv (.agg #[F6 x677.1, F6 x677.2]) z z (x_loadN (cs := [F6 x677.1, F6 x677.2]) z isAgg80 sizeOf80 (hst.bcs0 0 z)) ?_))))))
 obtain ⟨t689, ht690, hm⟩ := bind_some hm
 refine wl_call z z (x_callv call136 (caps := []) z (vs := [.agg #[F6 x665.1, F6 x665.2], .agg #[F6 x677.1, F6 x677.2]]) z) ?_
 refine (locks_Same_1_ref hst.to0 ht690).mono ?_
 rintro _ w691 ⟨rfl, hst⟩
 refine ⟨_, z, ?_⟩
 replace hst := hst.of0
 refine wv (.bool (!t689)) z z z (wl_nil (tn ?_))
 refine bsplit (!t689) (fun hc694 => ?_) (fun hc694 => ?_)
 {
 replace hm := bif_t hc694 hm
 refine wp_ift (cvb hc694) ?_
 refine wp_seq (wrl (wv (.bool false) z z z (wl_nil (tn (wp_ret (blk_r (then_r (then_r ?_))))))))
 replace hm := inr_up hm hx662
 refine blk_r (then_r ?_)
 refine post_ret (vs := [.bool false]) results139 (rvs_cons (rv_tmp z) rvs_nil) ?_
 replace hst := hst.pull3.pull3.keep2
 obtain rfl := some_inj hm
 exact ⟨false, z, z, hst⟩
}
 {
 replace hm := bif_f hc694 hm
 refine wp_iff (cvb hc694) ?_
 refine wp_skip (blk_n (tn (wrl ?_)))
 refine wv (.int .i64 (i64.wrap (z655 + (1:Int)))) z z z (wv (.int .i64 (i64.wrap (z655 + (1:Int)))) z z z (wl_nil (tn ?_)))
 replace hst := hst.pull3.pull3.keep2
 obtain rfl := some_inj hm
 exact ⟨_, Nat.lt_succ_self _, (i64.wrap (z655 + (1:Int))), _, hx662, (fu 1 r1_1 z (fu 2 (.func (.func 136) #[] #[]) z (fu 15 r0_1 z (fu 16 (.int .i64 ((a0.Scans).length : Int)) z (fu 17 (.int .i64 (i64.wrap (z655 + (1:Int)))) z z))))), hst⟩
}
}
 {
 replace hm := bif_f hc664 hm
 refine wp_iff (cvb hc664) ?_
 refine wp_exit (then_x (then_x ?_))
 replace hm := inr_up hm hx662
 refine blk_x (tn (wp_seq (wrl ?_)))
 refine wv (.bool true) z z z (wl_nil (tn (wp_ret ?_)))
 refine post_ret (vs := [.bool true]) results139 (rvs_cons (rv_tmp z) rvs_nil) ?_
 replace hst := hst.pull1.pull1.keep2
 obtain rfl := some_inj hm
 exact ⟨true, z, z, hst⟩
}
}
}
 clear hst
 rintro _ w699 ⟨z695, rfl, rfl, hst⟩
 refine ⟨_, z, ?_⟩
 try dsimp only at hm
 refine wv (.bool z695) z z (x_pick_t hc590 z z) (wv (.bool z695) z z z ?_)
 refine bsplit z695 (fun hc700 => ?_) (fun hc700 => ?_)
 {
 replace hm := bif_t hc700 hm
 refine wv (Pt b511 5) ((wanted_eq z z z (cvb hc700)).trans z) z (x_field z underlying46 z sizeOf43 z) (wv (r0_2) ((wanted_eq z z z (cvb hc700)).trans z) z (x_load z isAgg43 (hst.bc0 z)) (wv (Pt b516 5) ((wanted_eq z z z (cvb hc700)).trans z) z (x_field z underlying46 z sizeOf43 z) (wv (r1_2) ((wanted_eq z z z (cvb hc700)).trans z) z (x_load z isAgg43 (hst.bc1 z)) ?_)))
 obtain ⟨y765, hq766, hm⟩ := bind_some hm
 refine wl_call ((wanted_eq z z z (cvb hc700)).trans z) z (x_callv call138 (caps := []) z (vs := [r0_2, r1_2, .func (.func 137) #[] #[]]) z) ?_
 refine Calls.mono (show Calls prog 138 #[r0_2, r1_2, .func (.func 137) #[] #[]] _ (fun e w' => ∃ (z763 : Bool), z763 = y765 ∧ e = .returned (.bool z763) ∧ St w0 w' I [cells b511 [U6 a0.ID.Session, U6 a0.ID.Seq, U6 a0.Epoch, r0_0, r0_1, r0_2, r0_3], cells b516 [U6 a1.ID.Session, U6 a1.ID.Seq, U6 a1.Epoch, r1_0, r1_1, r1_2, r1_3]] R) from ?_) ?_
 {
 clear hm; have hm := hq766
 refine calls_start (args := [r0_2, r1_2, .func (.func 137) #[] #[]]) func138 z ntmps138 (Nat.le_of_ble_eq_true z) ?_
 refine wp_seq (wrl (wv (.bool false) z z z (wl_nil (tn (wp_seq (wp_seq (wrl (wv (r0_2) z z z (wv (.int .i64 ((a0.Puts).length : Int)) z z (x_len z underlying43 (rd_sliceV f0_2)) (wv (r1_2) z z z (wv (.int .i64 ((a1.Puts).length : Int)) z z (x_len z underlying43 (rd_sliceV f1_2)) (wv (.bool (((a0.Puts).length : Int) != ((a1.Puts).length : Int))) z z z (wl_nil (tn ?_))))))))))))))
 refine bsplit (((a0.Puts).length : Int) != ((a1.Puts).length : Int)) (fun hc701 => ?_) (fun hc701 => ?_)
 {
 replace hm := bif_t hc701 hm
 refine wp_ift (cvb hc701) ?_
 refine wp_seq (wrl (wv (.bool false) z z z (wl_nil (tn (wp_ret (then_r ?_))))))
 refine post_ret (vs := [.bool false]) results138 (rvs_cons (rv_tmp z) rvs_nil) ?_
 replace hst := hst.pull1.pull1.keep2
 obtain rfl := some_inj hm
 exact ⟨false, z, z, hst⟩
}
 {
 replace hm := bif_f hc701 hm
 refine wp_iff (cvb hc701) ?_
 refine wp_skip (tn (wp_seq (wp_seq (wrl ?_))))
 refine wv (r0_2) z z z (wv (.int .i64 ((a0.Puts).length : Int)) z z (x_len z underlying43 (rd_sliceV f0_2)) (wv (.int .i64 (0:Int)) z z z (wl_nil (tn (wp_block ?_)))))
 obtain ⟨n739, hm⟩ := loopO_some hm
 refine wp_loop_n (fun n a w => ∃ (z737 : Int) (σ738 : Nat → Value), loopN (locks_Same_l2 a0 a1) n z737 = some y765 ∧ a = Fr 32 (upd (upd (upd (upd (upd σ738 1 (r1_2)) 2 (.func (.func 137) #[] #[])) 15 (r0_2)) 16 (.int .i64 ((a0.Puts).length : Int))) 17 (.int .i64 z737)) ∧ St w0 w I [cells b511 [U6 a0.ID.Session, U6 a0.ID.Seq, U6 a0.Epoch, r0_0, r0_1, r0_2, r0_3], cells b516 [U6 a1.ID.Session, U6 a1.ID.Seq, U6 a1.Epoch, r1_0, r1_1, r1_2, r1_3]] R) n739 ⟨(0:Int), _, hm, (fu 1 r1_2 z (fu 2 (.func (.func 137) #[] #[]) z (fu 15 r0_2 z (fu 16 (.int .i64 ((a0.Puts).length : Int)) z (fu 17 (.int .i64 (0:Int)) z z))))), hst⟩ ?_
 rintro n745 _ w740 ⟨z737, σ738, hm, rfl, hst⟩
 obtain ⟨n742, y743, rfl, hm, hx744⟩ := loopN_some hm
 dsimp only [locks_Same_l2] at hm
 refine wp_seq (wrl (wv (.bool (decide (z737 < ((a0.Puts).length : Int)))) z z z (wl_nil (tn (wp_seq ?_)))))
 refine bsplit (decide (z737 < ((a0.Puts).length : Int))) (fun hc746 => ?_) (fun hc746 => ?_)
 {
 replace hm := bif_t hc746 hm
 refine wp_ift (cvb hc746) ?_
 refine wp_skip (tn (wp_seq (wp_block (wp_seq (wrl ?_)))))
 refine wv (.int .i64 z737) z z z ?_
 obtain ⟨x747, hx748, hm⟩ := bind_some hm
 obtain ⟨h749, h750, hi751⟩ := geto_some hx748
 refine wv (.pointer (some (eAddr r0_2 (z737.toNat * 1 + 0)))) z z (x_index z z underlying43 sizeOf37 (rd_sliceV f0_2) h749 h750) (wv (.float .f64 x747) z z (x_load z isAgg37 (rd_load f0_2 (HL.le.refl _) hst hi751 (by rintro _ rfl; rfl))) (wv (.int .i64 z737) z z z (wv (.float .f64 x747) z z z (wl_nil (tn (wp_seq (wrl (wv (r1_2) z z z (wv (.int .i64 z737) z z z ?_)))))))))
 obtain ⟨x752, hx753, hm⟩ := bind_some hm
 obtain ⟨h754, h755, hi756⟩ := geto_some hx753
 refine wv (.pointer (some (eAddr r1_2 (z737.toNat * 1 + 0)))) z z (x_index z z underlying43 sizeOf37 (rd_sliceV f1_2) h754 h755) (wv (.float .f64 x752) z z (x_load z isAgg37 (rd_load f1_2 (HL.le.refl _) hst hi756 (by rintro _ rfl; rfl))) (wv (.float .f64 x752) z z z (wl_nil (tn (wp_seq (wrl (wv (.func (.func 137) #[] #[]) z z z (wv (.float .f64 x747) z z z (wv (.float .f64 x752) z z z ?_)))))))))
 obtain ⟨t757, ht758, hm⟩ := bind_some hm
 refine wl_call z z (x_callv call137 (caps := []) z (vs := [F6 x747, F6 x752]) z) ?_
 refine (number_Same_ref hst.to0 ht758).mono ?_
 rintro _ w759 ⟨rfl, hst⟩
 refine ⟨_, z, ?_⟩
 replace hst := hst.of0
 refine wv (.bool (!t757)) z z z (wl_nil (tn ?_))
 refine bsplit (!t757) (fun hc762 => ?_) (fun hc762 => ?_)
 {
 replace hm := bif_t hc762 hm
 refine wp_ift (cvb hc762) ?_
 refine wp_seq (wrl (wv (.bool false) z z z (wl_nil (tn (wp_ret (blk_r (then_r (then_r ?_))))))))
 replace hm := inr_up hm hx744
 refine blk_r (then_r ?_)
 refine post_ret (vs := [.bool false]) results138 (rvs_cons (rv_tmp z) rvs_nil) ?_
 replace hst := hst.pull1.pull1.keep2
 obtain rfl := some_inj hm
 exact ⟨false, z, z, hst⟩
}
 {
 replace hm := bif_f hc762 hm
 refine wp_iff (cvb hc762) ?_
 refine wp_skip (blk_n (tn (wrl ?_)))
 refine wv (.int .i64 (i64.wrap (z737 + (1:Int)))) z z z (wv (.int .i64 (i64.wrap (z737 + (1:Int)))) z z z (wl_nil (tn ?_)))
 replace hst := hst.pull1.pull1.keep2
 obtain rfl := some_inj hm
 exact ⟨_, Nat.lt_succ_self _, (i64.wrap (z737 + (1:Int))), _, hx744, (fu 1 r1_2 z (fu 2 (.func (.func 137) #[] #[]) z (fu 15 r0_2 z (fu 16 (.int .i64 ((a0.Puts).length : Int)) z (fu 17 (.int .i64 (i64.wrap (z737 + (1:Int)))) z z))))), hst⟩
}
}
 {
 replace hm := bif_f hc746 hm
 refine wp_iff (cvb hc746) ?_
 refine wp_exit (then_x (then_x ?_))
 replace hm := inr_up hm hx744
 refine blk_x (tn (wp_seq (wrl ?_)))
 refine wv (.bool true) z z z (wl_nil (tn (wp_ret ?_)))
 refine post_ret (vs := [.bool true]) results138 (rvs_cons (rv_tmp z) rvs_nil) ?_
 replace hst := hst.pull1.pull1.keep2
 obtain rfl := some_inj hm
 exact ⟨true, z, z, hst⟩
}
}
}
 clear hst
 rintro _ w767 ⟨z763, rfl, rfl, hst⟩
 refine ⟨_, z, ?_⟩
 try dsimp only at hm
 refine wv (.bool z763) z z (x_pick_t hc700 z z) (wv (.bool z763) z z z ?_)
 refine bsplit z763 (fun hc768 => ?_) (fun hc768 => ?_)
 {
 replace hm := bif_t hc768 hm
 refine wv (Pt b511 6) ((wanted_eq z z z (cvb hc768)).trans z) z (x_field z underlying46 z sizeOf22 z) (wv (r0_3) ((wanted_eq z z z (cvb hc768)).trans z) z (x_load z isAgg22 (hst.bc0 z)) (wv (Pt b516 6) ((wanted_eq z z z (cvb hc768)).trans z) z (x_field z underlying46 z sizeOf22 z) (wv (r1_3) ((wanted_eq z z z (cvb hc768)).trans z) z (x_load z isAgg22 (hst.bc1 z)) ?_)))
 obtain ⟨t769, ht770, hm⟩ := bind_some hm
 refine wl_call ((wanted_eq z z z (cvb hc768)).trans z) z (x_call call110 z (vs := [r0_3, r1_3]) z) ?_
 refine (slices_Equal_byte_byte_ref (f0_3.mono (rd_weak _)) (f1_3.mono (rd_weak _)) hst.to0 ht770).mono ?_
 rintro _ w771 ⟨rfl, hst⟩
 refine ⟨_, z, ?_⟩
 replace hst := hst.of0
 refine wv (.bool t769) z z (x_pick_t hc768 z z) (wv (.bool t769) z z z (wl_nil (tn (wp_ret ?_))))
 obtain rfl := some_inj hm
 refine post_ret (vs := [.bool t769]) results57 (rvs_cons (rv_tmp z) rvs_nil) ?_
 exact ⟨z, hst.keep0⟩
}
 {
 replace hm := bif_f hc768 hm
 refine wo hc768 z z z z z z (wo hc768 z z z z z z (wo hc768 z z z z z z (wo hc768 z z z z z z (wo hc768 z z z z z z (wv (.bool false) z z (x_pick_f hc768 z z) (wv (.bool false) z z z (wl_nil (tn (wp_ret ?_)))))))))
 obtain rfl := some_inj hm
 refine post_ret (vs := [.bool false]) results57 (rvs_cons (rv_tmp z) rvs_nil) ?_
 exact ⟨z, hst.keep0⟩
}
}
 {
 replace hm := bif_f hc700 hm
 refine wo hc700 z z z z z z (wo hc700 z z z z z z (wo hc700 z z z z z z (wo hc700 z z z z z z (wo hc700 z z z z z z (wv (.bool false) z z (x_pick_f hc700 z z) (wv (.bool false) z z z (wz z z z z z z (wz z z z z z z (wz z z z z z z (wz z z z z z z (wz z z z z z z (wv (.bool false) z z (x_pick_f z z z) ?_))))))))))))
 refine wv (.bool false) z z z (wl_nil (tn (wp_ret ?_)))
 obtain rfl := some_inj hm
 refine post_ret (vs := [.bool false]) results57 (rvs_cons (rv_tmp z) rvs_nil) ?_
 exact ⟨z, hst.keep0⟩
}
}
 {
 replace hm := bif_f hc590 hm
 refine wo hc590 z z z z z z (wo hc590 z z z z z z (wo hc590 z z z z z z (wo hc590 z z z z z z (wo hc590 z z z z z z (wo hc590 z z z z z z (wv (.bool false) z z (x_pick_f hc590 z z) (wv (.bool false) z z z (wz z z z z z z (wz z z z z z z (wz z z z z z z (wz z z z z z z (wz z z z z z z ?_))))))))))))
 refine wv (.bool false) z z (x_pick_f z z z) (wv (.bool false) z z z (wz z z z z z z (wz z z z z z z (wz z z z z z z (wz z z z z z z (wz z z z z z z (wv (.bool false) z z (x_pick_f z z z) (wv (.bool false) z z z (wl_nil (tn (wp_ret ?_)))))))))))
 obtain rfl := some_inj hm
 refine post_ret (vs := [.bool false]) results57 (rvs_cons (rv_tmp z) rvs_nil) ?_
 exact ⟨z, hst.keep0⟩
}
}
 {
 replace hm := bif_f hc522 hm
 refine wo hc522 z z z z z z (wo hc522 z z z z z z (wo hc522 z z z z z z (wo hc522 z z z z z z (wo hc522 z z z z z z (wv (.bool false) z z (x_pick_f hc522 z z) (wv (.bool false) z z z (wz z z z z z z (wz z z z z z z (wz z z z z z z (wz z z z z z z (wz z z z z z z (wz z z z z z z ?_))))))))))))
 refine wv (.bool false) z z (x_pick_f z z z) (wv (.bool false) z z z (wz z z z z z z (wz z z z z z z (wz z z z z z z (wz z z z z z z (wz z z z z z z (wv (.bool false) z z (x_pick_f z z z) (wv (.bool false) z z z (wz z z z z z z (wz z z z z z z (wz z z z z z z (wz z z z z z z ?_))))))))))))
 refine wz z z z z z z (wv (.bool false) z z (x_pick_f z z z) (wv (.bool false) z z z (wl_nil (tn (wp_ret ?_)))))
 obtain rfl := some_inj hm
 refine post_ret (vs := [.bool false]) results57 (rvs_cons (rv_tmp z) rvs_nil) ?_
 exact ⟨z, hst.keep0⟩
}
}
 {
 replace hm := bif_f hc521 hm
 refine wo hc521 z z z z z z (wo hc521 z z z z z z (wo hc521 z z z z z z (wo hc521 z z z z z z (wo hc521 z z z z z z (wv (.bool false) z z (x_pick_f hc521 z z) (wv (.bool false) z z z (wz z z z z z z (wz z z z z z z (wz z z z z z z (wz z z z z z z (wz z z z z z z (wv (.bool false) z z (x_pick_f z z z) ?_))))))))))))
 refine wv (.bool false) z z z (wz z z z z z z (wz z z z z z z (wz z z z z z z (wz z z z z z z (wz z z z z z z (wz z z z z z z (wv (.bool false) z z (x_pick_f z z z) (wv (.bool false) z z z (wz z z z z z z (wz z z z z z z (wz z z z z z z (wz z z z z z z ?_))))))))))))
 refine wz z z z z z z (wv (.bool false) z z (x_pick_f z z z) (wv (.bool false) z z z (wz z z z z z z (wz z z z z z z (wz z z z z z z (wz z z z z z z (wz z z z z z z (wv (.bool false) z z (x_pick_f z z z) (wv (.bool false) z z z (wl_nil (tn (wp_ret ?_))))))))))))
 obtain rfl := some_inj hm
 refine post_ret (vs := [.bool false]) results57 (rvs_cons (rv_tmp z) rvs_nil) ?_
 exact ⟨z, hst.keep0⟩
}
}

theorem number_Within_ref {w0 w : World} {I : HL} {R : SP} {a0 : Nat} {a1 : Nat} {a2 : Nat}  (hst : St w0 w I [] R) {r : (Bool)} (hm : number_Within a0 a1 a2 = some r) :
  Calls prog 215 #[F6 a0, F6 a1, F6 a2] w fun e w' => e = .returned (.bool r) ∧ St w0 w' I [] R := by {
 unfold number_Within at hm
 refine calls_start (args := [F6 a0, F6 a1, F6 a2]) func215 z ntmps215 (Nat.le_of_ble_eq_true z) ?_
 refine wp_seq (wrl (wv (.bool false) z z z (wl_nil (tn (wp_seq (wrl (wv (.float .f64 a1) z z z ?_)))))))
 obtain ⟨t399, ht400, hm⟩ := bind_some hm
 refine wc call118 [F6 a1] z z z ?_
 refine (number_Rank_ref hst.to0 ht400).mono ?_
 rintro _ w401 ⟨rfl, hst⟩
 refine ⟨_, z, ?_⟩
 replace hst := hst.of0
 refine wv (.float .f64 a0) z z z ?_
 obtain ⟨t404, ht405, hm⟩ := bind_some hm
 refine wc call118 [F6 a0] z z z ?_
 refine (number_Rank_ref hst.to0 ht405).mono ?_
 rintro _ w406 ⟨rfl, hst⟩
 refine ⟨_, z, ?_⟩
 replace hst := hst.of0
 refine wv (.bool (decide (t399 ≤ t404))) z z z (wv (.bool (decide (t399 ≤ t404))) z z z ?_)
 refine bsplit (decide (t399 ≤ t404)) (fun hc409 => ?_) (fun hc409 => ?_)
 {
 replace hm := bif_t hc409 hm
 refine wv (.float .f64 a0) ((wanted_eq z z z (cvb hc409)).trans z) z z ?_
 obtain ⟨t410, ht411, hm⟩ := bind_some hm
 refine wl_call ((wanted_eq z z z (cvb hc409)).trans z) z (x_call call118 z (vs := [F6 a0]) z) ?_
 refine (number_Rank_ref hst.to0 ht411).mono ?_
 rintro _ w412 ⟨rfl, hst⟩
 refine ⟨_, z, ?_⟩
 replace hst := hst.of0
 refine wv (.float .f64 a2) ((wanted_eq z z z (cvb hc409)).trans z) z z ?_
 obtain ⟨t415, ht416, hm⟩ := bind_some hm
 refine wl_call ((wanted_eq z z z (cvb hc409)).trans z) z (x_call call118 z (vs := [F6 a2]) z) ?_
 refine (number_Rank_ref hst.to0 ht416).mono ?_
 rintro _ w417 ⟨rfl, hst⟩
 refine ⟨_, z, ?_⟩
 replace hst := hst.of0
 refine wv (.bool (decide (t410 ≤ t415))) ((wanted_eq z z z (cvb hc409)).trans z) z z (wv (.bool (decide (t410 ≤ t415))) z z (x_pick_t hc409 z z) (wv (.bool (decide (t410 ≤ t415))) z z z (wl_nil (tn (wp_ret ?_)))))
 obtain rfl := some_inj hm
 refine post_ret (vs := [.bool (decide (t410 ≤ t415))]) results215 (rvs_cons (rv_tmp z) rvs_nil) ?_
 exact ⟨z, hst.keep0⟩
}
 {
 replace hm := bif_f hc409 hm
 refine wo hc409 z z z z z z (wo hc409 z z z z z z (wo hc409 z z z z z z (wo hc409 z z z z z z (wo hc409 z z z z z z (wv (.bool false) z z (x_pick_f hc409 z z) (wv (.bool false) z z z (wl_nil (tn (wp_ret ?_)))))))))
 obtain rfl := some_inj hm
 refine post_ret (vs := [.bool false]) results215 (rvs_cons (rv_tmp z) rvs_nil) ?_
 exact ⟨z, hst.keep0⟩
}
}

theorem locks_writes_ref {w0 w : World} {I : HL} {R : SP} {a0 : api_Hold} {r0_0 : Value} {r0_1 : Value} {r0_2 : Value} {r0_3 : Value} {a1 : Nat} {a2 : Nat} (f0_0 : Rd tyF64 R I r0_0 a0.Gets) (f0_1 : Rd tyF2 R I r0_1 a0.Scans) (f0_2 : Rd tyF64 R I r0_2 a0.Puts) (f0_3 : Rd (tyInt .u8) R I r0_3 a0.Data) (hst : St w0 w I [] R) {r : (Bool)} (hm : locks_writes a0 a1 a2 = some r) :
  Calls prog 194 #[.agg #[U6 a0.ID.Session, U6 a0.ID.Seq, U6 a0.Epoch, r0_0, r0_1, r0_2, r0_3], F6 a1, F6 a2] w fun e w' => e = .returned (.bool r) ∧ St w0 w' I [] R := by {
 unfold locks_writes at hm
 refine calls_start (args := [.agg #[U6 a0.ID.Session, U6 a0.ID.Seq, U6 a0.Epoch, r0_0, r0_1, r0_2, r0_3], F6 a1, F6 a2]) func194 z ntmps194 (Nat.le_of_ble_eq_true z) ?_
 refine wp_seq (wrl ?_)
 obtain ⟨b447, w448, ew449, eb450, hst⟩ := hst.box [U6 a0.ID.Session, U6 a0.ID.Seq, U6 a0.Epoch, r0_0, r0_1, r0_2, r0_3] 46
 refine wl_run (v := Pt b447 0) (w' := w448) z z (x_al (by kernel_rfl) ew449 eb450) ?_
 obtain ⟨b452, w453, ew454, eb455, hst⟩ := hst.box [F6 a1] 37
 refine wl_run (v := Pt b452 0) (w' := w453) z z (x_al (by kernel_rfl) ew454 eb455) ?_
 obtain ⟨b457, w458, ew459, eb460, hst⟩ := hst.box [F6 a2] 37
 refine wl_run (v := Pt b457 0) (w' := w458) z z (x_al (by kernel_rfl) ew459 eb460) ?_
 refine wv (.bool false) z z z (wl_nil (tn (wp_seq (wrl (wv (Pt b447 5) z z (x_field z underlying46 z sizeOf43 z) (wv (r0_2) z z (x_load z isAgg43 (hst.bc2 z)) (wv (.func (.func 214) #[] #[Pt b452 0, Pt b457 0]) z z (by kernel_rfl) ?_)))))))
 obtain ⟨y530, hq531, hm⟩ := bind_some hm
 refine wl_call z z (x_callv call213 (caps := []) z (vs := [r0_2, .func (.func 214) #[] #[Pt b452 0, Pt b457 0]]) z) ?_
 refine Calls.mono (show Calls prog 213 #[r0_2, .func (.func 214) #[] #[Pt b452 0, Pt b457 0]] _ (fun e w' => ∃ (z528 : Bool), z528 = y530 ∧ e = .returned (.bool z528) ∧ St w0 w' I [cells b447 [U6 a0.ID.Session, U6 a0.ID.Seq, U6 a0.Epoch, r0_0, r0_1, r0_2, r0_3], cells b452 [F6 a1], cells b457 [F6 a2]] R) from ?_) ?_
 {
 clear hm; have hm := hq531
 refine calls_start (args := [r0_2, .func (.func 214) #[] #[Pt b452 0, Pt b457 0]]) func213 z ntmps213 (Nat.le_of_ble_eq_true z) ?_
 refine wp_seq (wrl (wv (.bool false) z z z (wl_nil (tn (wp_seq (wrl (wv (r0_2) z z z (wv (.func (.func 214) #[] #[Pt b452 0, Pt b457 0]) z z z ?_))))))))
 obtain ⟨y525, hq526, hm⟩ := bind_some hm
 refine wl_call z z (x_callv call228 (caps := []) z (vs := [r0_2, .func (.func 214) #[] #[Pt b452 0, Pt b457 0]]) z) ?_
 refine Calls.mono (show Calls prog 228 #[r0_2, .func (.func 214) #[] #[Pt b452 0, Pt b457 0]] _ (fun e w' => ∃ (z523 : Int), z523 = y525 ∧ e = .returned (.int .i64 z523) ∧ St w0 w' I [cells b447 [U6 a0.ID.Session, U6 a0.ID.Seq, U6 a0.Epoch, r0_0, r0_1, r0_2, r0_3], cells b452 [F6 a1], cells b457 [F6 a2]] R) from ?_) ?_
 {
 clear hm; have hm := hq526
 refine calls_start (args := [r0_2, .func (.func 214) #[] #[Pt b452 0, Pt b457 0]]) func228 z ntmps228 (Nat.le_of_ble_eq_true z) ?_
 refine wp_seq (wrl (wv (.int .i64 (0:Int)) z z z (wl_nil (tn (wp_seq (wp_seq (wrl (wv (r0_2) z z z (wv (.int .i64 ((a0.Puts).length : Int)) z z (x_len z underlying43 (rd_sliceV f0_2)) (wv (.int .i64 (0:Int)) z z z (wl_nil (tn (wp_block ?_)))))))))))))
 obtain ⟨n499, hm⟩ := loopO_some hm
 refine wp_loop_n (fun n a w => ∃ (z497 : Int) (σ498 : Nat → Value), loopN (locks_writes_l0 a0 a1 a2) n z497 = some y525 ∧ a = Fr 19 (upd (upd (upd (upd σ498 0 (r0_2)) 1 (.func (.func 214) #[] #[Pt b452 0, Pt b457 0])) 7 (.int .i64 ((a0.Puts).length : Int))) 8 (.int .i64 z497)) ∧ St w0 w I [cells b457 [F6 a2], cells b452 [F6 a1], cells b447 [U6 a0.ID.Session, U6 a0.ID.Seq, U6 a0.Epoch, r0_0, r0_1, r0_2, r0_3]] R) n499 ⟨(0:Int), _, hm, (fu 0 r0_2 z (fu 1 (.func (.func 214) #[] #[Pt b452 0, Pt b457 0]) z (fu 7 (.int .i64 ((a0.Puts).length : Int)) z (fu 8 (.int .i64 (0:Int)) z z)))), hst⟩ ?_
 rintro n505 _ w500 ⟨z497, σ498, hm, rfl, hst⟩
 obtain ⟨n502, y503, rfl, hm, hx504⟩ := loopN_some hm
 dsimp only [locks_writes_l0] at hm
 refine wp_seq (wrl (wv (.bool (decide (z497 < ((a0.Puts).length : Int)))) z z z (wl_nil (tn (wp_seq ?_)))))
 refine bsplit (decide (z497 < ((a0.Puts).length : Int))) (fun hc506 => ?_) (fun hc506 => ?_)
 {
 replace hm := bif_t hc506 hm
 refine wp_ift (cvb hc506) ?_
 refine wp_skip (tn (wp_seq (wp_block (wp_seq (wrl ?_)))))
 refine wv (.int .i64 z497) z z z (wv (.int .i64 z497) z z z (wl_nil (tn (wp_seq (wrl (wv (.func (.func 214) #[] #[Pt b452 0, Pt b457 0]) z z z (wv (r0_2) z z z (wv (.int .i64 z497) z z z ?_))))))))
 obtain ⟨x507, hx508, hm⟩ := bind_some hm
 obtain ⟨h509, h510, hi511⟩ := geto_some hx508
 refine wv (.pointer (some (eAddr r0_2 (z497.toNat * 1 + 0)))) z z (x_index z z underlying43 sizeOf37 (rd_sliceV f0_2) h509 h510) (wv (.float .f64 x507) z z (x_load z isAgg37 (rd_load f0_2 (HL.le.refl _) hst hi511 (by rintro _ rfl; rfl))) ?_)
 obtain ⟨y519, hq520, hm⟩ := bind_some hm
 refine wl_call z z (x_callv call214 (caps := [Pt b452 0, Pt b457 0]) z (vs := [F6 x507]) z) ?_
 refine Calls.mono (show Calls prog 214 #[F6 x507, Pt b452 0, Pt b457 0] _ (fun e w' => ∃ (z517 : Bool), z517 = y519 ∧ e = .returned (.bool z517) ∧ St w0 w' I [cells b447 [U6 a0.ID.Session, U6 a0.ID.Seq, U6 a0.Epoch, r0_0, r0_1, r0_2, r0_3], cells b452 [F6 a1], cells b457 [F6 a2]] R) from ?_) ?_
 {
 clear hm; have hm := hq520
 refine calls_start (args := [F6 x507, Pt b452 0, Pt b457 0]) func214 z ntmps214 (Nat.le_of_ble_eq_true z) ?_
 refine wp_seq (wrl (wv (.bool false) z z z (wl_nil (tn (wp_seq (wrl (wv (.float .f64 x507) z z z (wv (.float .f64 a1) z z (x_load z isAgg37 (hst.bc1 z)) (wv (.float .f64 a2) z z (x_load z isAgg37 (hst.bc0 z)) ?_)))))))))
 obtain ⟨t512, ht513, hm⟩ := bind_some hm
 refine wc call215 [F6 x507, F6 a1, F6 a2] z z z ?_
 refine (number_Within_ref hst.to0 ht513).mono ?_
 rintro _ w514 ⟨rfl, hst⟩
 refine ⟨_, z, ?_⟩
 replace hst := hst.of0
 refine wv (.bool t512) z z z (wl_nil (tn (wp_ret ?_)))
 refine post_ret (vs := [.bool t512]) results214 (rvs_cons (rv_tmp z) rvs_nil) ?_
 replace hst := hst.pull1.pull2.keep3
 obtain rfl := some_inj hm
 exact ⟨t512, z, z, hst⟩
}
 clear hst
 rintro _ w521 ⟨z517, rfl, rfl, hst⟩
 refine ⟨_, z, ?_⟩
 try dsimp only at hm
 refine wl_nil (tn ?_)
 refine bsplit z517 (fun hc522 => ?_) (fun hc522 => ?_)
 {
 replace hm := bif_t hc522 hm
 refine wp_ift (cvb hc522) ?_
 refine wp_seq (wrl (wv (.int .i64 z497) z z z (wv (.int .i64 z497) z z z (wl_nil (tn (wp_ret (blk_r (then_r (then_r ?_)))))))))
 replace hm := inr_up hm hx504
 refine blk_r (then_r ?_)
 refine post_ret (vs := [I6 z497]) results228 (rvs_cons (rv_tmp z) rvs_nil) ?_
 replace hst := hst.pull2.pull2.pull2.keep3
 obtain rfl := some_inj hm
 exact ⟨z497, z, z, hst⟩
}
 {
 replace hm := bif_f hc522 hm
 refine wp_iff (cvb hc522) ?_
 refine wp_skip (blk_n (tn (wrl ?_)))
 refine wv (.int .i64 (i64.wrap (z497 + (1:Int)))) z z z (wv (.int .i64 (i64.wrap (z497 + (1:Int)))) z z z (wl_nil (tn ?_)))
 replace hst := hst.pull1.pull2.keep3
 obtain rfl := some_inj hm
 exact ⟨_, Nat.lt_succ_self _, (i64.wrap (z497 + (1:Int))), _, hx504, (fu 0 r0_2 z (fu 1 (.func (.func 214) #[] #[Pt b452 0, Pt b457 0]) z (fu 7 (.int .i64 ((a0.Puts).length : Int)) z (fu 8 (.int .i64 (i64.wrap (z497 + (1:Int)))) z z)))), hst⟩
}
}
 {
 replace hm := bif_f hc506 hm
 refine wp_iff (cvb hc506) ?_
 refine wp_exit (then_x (then_x ?_))
 replace hm := inr_up hm hx504
 refine blk_x (tn (wp_seq (wrl ?_)))
 refine wv (.int .i64 ((-1):Int)) z z z (wl_nil (tn (wp_ret ?_)))
 refine post_ret (vs := [I6 ((-1):Int)]) results228 (rvs_cons (rv_tmp z) rvs_nil) ?_
 replace hst := hst.pull1.pull2.keep3
 obtain rfl := some_inj hm
 exact ⟨((-1):Int), z, z, hst⟩
}
}
 clear hst
 rintro _ w527 ⟨z523, rfl, rfl, hst⟩
 refine ⟨_, z, ?_⟩
 try dsimp only at hm
 refine wv (.bool (decide (z523 ≥ (0:Int)))) z z z (wv (.bool (decide (z523 ≥ (0:Int)))) z z z (wl_nil (tn (wp_ret ?_))))
 refine post_ret (vs := [.bool (decide (z523 ≥ (0:Int)))]) results213 (rvs_cons (rv_tmp z) rvs_nil) ?_
 replace hst := hst.pull2.pull2.pull2.keep3
 obtain rfl := some_inj hm
 exact ⟨(decide (z523 ≥ (0:Int))), z, z, hst⟩
}
 clear hst
 rintro _ w532 ⟨z528, rfl, rfl, hst⟩
 refine ⟨_, z, ?_⟩
 try dsimp only at hm
 refine wv (.bool z528) z z z (wl_nil (tn (wp_ret ?_)))
 obtain rfl := some_inj hm
 refine post_ret (vs := [.bool z528]) results194 (rvs_cons (rv_tmp z) rvs_nil) ?_
 exact ⟨z, hst.keep0⟩
}

theorem locks_reads_ref {w0 w : World} {I : HL} {R : SP} {a0 : api_Hold} {r0_0 : Value} {r0_1 : Value} {r0_2 : Value} {r0_3 : Value} {a1 : Nat} (f0_0 : Rd tyF64 R I r0_0 a0.Gets) (f0_1 : Rd tyF2 R I r0_1 a0.Scans) (f0_2 : Rd tyF64 R I r0_2 a0.Puts) (f0_3 : Rd (tyInt .u8) R I r0_3 a0.Data) (hst : St w0 w I [] R) {r : (Bool)} (hm : locks_reads a0 a1 = some r) :
  Calls prog 195 #[.agg #[U6 a0.ID.Session, U6 a0.ID.Seq, U6 a0.Epoch, r0_0, r0_1, r0_2, r0_3], F6 a1] w fun e w' => e = .returned (.bool r) ∧ St w0 w' I [] R := by {
 unfold locks_reads at hm
 refine calls_start (args := [.agg #[U6 a0.ID.Session, U6 a0.ID.Seq, U6 a0.Epoch, r0_0, r0_1, r0_2, r0_3], F6 a1]) func195 z ntmps195 (Nat.le_of_ble_eq_true z) ?_
 refine wp_seq (wrl ?_)
 obtain ⟨b535, w536, ew537, eb538, hst⟩ := hst.box [U6 a0.ID.Session, U6 a0.ID.Seq, U6 a0.Epoch, r0_0, r0_1, r0_2, r0_3] 46
 refine wl_run (v := Pt b535 0) (w' := w536) z z (x_al (by kernel_rfl) ew537 eb538) ?_
 obtain ⟨b540, w541, ew542, eb543, hst⟩ := hst.box [F6 a1] 37
 refine wl_run (v := Pt b540 0) (w' := w541) z z (x_al (by kernel_rfl) ew542 eb543) ?_
 refine wv (.bool false) z z z (wl_nil (tn (wp_seq (wrl (wv (Pt b535 3) z z (x_field z underlying46 z sizeOf43 z) (wv (r0_0) z z (x_load z isAgg43 (hst.bc1 z)) (wv (.func (.func 216) #[] #[Pt b540 0]) z z (by kernel_rfl) ?_)))))))
 obtain ⟨y613, hq614, hm⟩ := bind_some hm
 refine wl_call z z (x_callv call213 (caps := []) z (vs := [r0_0, .func (.func 216) #[] #[Pt b540 0]]) z) ?_
 refine Calls.mono (show Calls prog 213 #[r0_0, .func (.func 216) #[] #[Pt b540 0]] _ (fun e w' => ∃ (z611 : Bool), z611 = y613 ∧ e = .returned (.bool z611) ∧ St w0 w' I [cells b535 [U6 a0.ID.Session, U6 a0.ID.Seq, U6 a0.Epoch, r0_0, r0_1, r0_2, r0_3], cells b540 [F6 a1]] R) from ?_) ?_
 {
 clear hm; have hm := hq614
 refine calls_start (args := [r0_0, .func (.func 216) #[] #[Pt b540 0]]) func213 z ntmps213 (Nat.le_of_ble_eq_true z) ?_
 refine wp_seq (wrl (wv (.bool false) z z z (wl_nil (tn (wp_seq (wrl (wv (r0_0) z z z (wv (.func (.func 216) #[] #[Pt b540 0]) z z z ?_))))))))
 obtain ⟨y608, hq609, hm⟩ := bind_some hm
 refine wl_call z z (x_callv call228 (caps := []) z (vs := [r0_0, .func (.func 216) #[] #[Pt b540 0]]) z) ?_
 refine Calls.mono (show Calls prog 228 #[r0_0, .func (.func 216) #[] #[Pt b540 0]] _ (fun e w' => ∃ (z606 : Int), z606 = y608 ∧ e = .returned (.int .i64 z606) ∧ St w0 w' I [cells b535 [U6 a0.ID.Session, U6 a0.ID.Seq, U6 a0.Epoch, r0_0, r0_1, r0_2, r0_3], cells b540 [F6 a1]] R) from ?_) ?_
 {
 clear hm; have hm := hq609
 refine calls_start (args := [r0_0, .func (.func 216) #[] #[Pt b540 0]]) func228 z ntmps228 (Nat.le_of_ble_eq_true z) ?_
 refine wp_seq (wrl (wv (.int .i64 (0:Int)) z z z (wl_nil (tn (wp_seq (wp_seq (wrl (wv (r0_0) z z z (wv (.int .i64 ((a0.Gets).length : Int)) z z (x_len z underlying43 (rd_sliceV f0_0)) (wv (.int .i64 (0:Int)) z z z (wl_nil (tn (wp_block ?_)))))))))))))
 obtain ⟨n582, hm⟩ := loopO_some hm
 refine wp_loop_n (fun n a w => ∃ (z580 : Int) (σ581 : Nat → Value), loopN (locks_reads_l0 a0 a1) n z580 = some y608 ∧ a = Fr 19 (upd (upd (upd (upd σ581 0 (r0_0)) 1 (.func (.func 216) #[] #[Pt b540 0])) 7 (.int .i64 ((a0.Gets).length : Int))) 8 (.int .i64 z580)) ∧ St w0 w I [cells b540 [F6 a1], cells b535 [U6 a0.ID.Session, U6 a0.ID.Seq, U6 a0.Epoch, r0_0, r0_1, r0_2, r0_3]] R) n582 ⟨(0:Int), _, hm, (fu 0 r0_0 z (fu 1 (.func (.func 216) #[] #[Pt b540 0]) z (fu 7 (.int .i64 ((a0.Gets).length : Int)) z (fu 8 (.int .i64 (0:Int)) z z)))), hst⟩ ?_
 rintro n588 _ w583 ⟨z580, σ581, hm, rfl, hst⟩
 obtain ⟨n585, y586, rfl, hm, hx587⟩ := loopN_some hm
 dsimp only [locks_reads_l0] at hm
 refine wp_seq (wrl (wv (.bool (decide (z580 < ((a0.Gets).length : Int)))) z z z (wl_nil (tn (wp_seq ?_)))))
 refine bsplit (decide (z580 < ((a0.Gets).length : Int))) (fun hc589 => ?_) (fun hc589 => ?_)
 {
 replace hm := bif_t hc589 hm
 refine wp_ift (cvb hc589) ?_
 refine wp_skip (tn (wp_seq (wp_block (wp_seq (wrl ?_)))))
 refine wv (.int .i64 z580) z z z (wv (.int .i64 z580) z z z (wl_nil (tn (wp_seq (wrl (wv (.func (.func 216) #[] #[Pt b540 0]) z z z (wv (r0_0) z z z (wv (.int .i64 z580) z z z ?_))))))))
 obtain ⟨x590, hx591, hm⟩ := bind_some hm
 obtain ⟨h592, h593, hi594⟩ := geto_some hx591
 refine wv (.pointer (some (eAddr r0_0 (z580.toNat * 1 + 0)))) z z (x_index z z underlying43 sizeOf37 (rd_sliceV f0_0) h592 h593) (wv (.float .f64 x590) z z (x_load z isAgg37 (rd_load f0_0 (HL.le.refl _) hst hi594 (by rintro _ rfl; rfl))) ?_)
 obtain ⟨y602, hq603, hm⟩ := bind_some hm
 refine wl_call z z (x_callv call216 (caps := [Pt b540 0]) z (vs := [F6 x590]) z) ?_
 refine Calls.mono (show Calls prog 216 #[F6 x590, Pt b540 0] _ (fun e w' => ∃ (z600 : Bool), z600 = y602 ∧ e = .returned (.bool z600) ∧ St w0 w' I [cells b535 [U6 a0.ID.Session, U6 a0.ID.Seq, U6 a0.Epoch, r0_0, r0_1, r0_2, r0_3], cells b540 [F6 a1]] R) from ?_) ?_
 {
 clear hm; have hm := hq603
 refine calls_start (args := [F6 x590, Pt b540 0]) func216 z ntmps216 (Nat.le_of_ble_eq_true z) ?_
 refine wp_seq (wrl (wv (.bool false) z z z (wl_nil (tn (wp_seq (wrl (wv (.float .f64 a1) z z (x_load z isAgg37 (hst.bc0 z)) (wv (.float .f64 x590) z z z ?_))))))))
 obtain ⟨t595, ht596, hm⟩ := bind_some hm
 refine wc call137 [F6 a1, F6 x590] z z z ?_
 refine (number_Same_ref hst.to0 ht596).mono ?_
 rintro _ w597 ⟨rfl, hst⟩
 refine ⟨_, z, ?_⟩
 replace hst := hst.of0
 refine wv (.bool t595) z z z (wl_nil (tn (wp_ret ?_)))
 refine post_ret (vs := [.bool t595]) results216 (rvs_cons (rv_tmp z) rvs_nil) ?_
 replace hst := hst.pull1.keep2
 obtain rfl := some_inj hm
 exact ⟨t595, z, z, hst⟩
}
 clear hst
 rintro _ w604 ⟨z600, rfl, rfl, hst⟩
 refine ⟨_, z, ?_⟩
 try dsimp only at hm
 refine wl_nil (tn ?_)
 refine bsplit z600 (fun hc605 => ?_) (fun hc605 => ?_)
 {
 replace hm := bif_t hc605 hm
 refine wp_ift (cvb hc605) ?_
 refine wp_seq (wrl (wv (.int .i64 z580) z z z (wv (.int .i64 z580) z z z (wl_nil (tn (wp_ret (blk_r (then_r (then_r ?_)))))))))
 replace hm := inr_up hm hx587
 refine blk_r (then_r ?_)
 refine post_ret (vs := [I6 z580]) results228 (rvs_cons (rv_tmp z) rvs_nil) ?_
 replace hst := hst.pull1.pull1.keep2
 obtain rfl := some_inj hm
 exact ⟨z580, z, z, hst⟩
}
 {
 replace hm := bif_f hc605 hm
 refine wp_iff (cvb hc605) ?_
 refine wp_skip (blk_n (tn (wrl ?_)))
 refine wv (.int .i64 (i64.wrap (z580 + (1:Int)))) z z z (wv (.int .i64 (i64.wrap (z580 + (1:Int)))) z z z (wl_nil (tn ?_)))
 replace hst := hst.pull1.keep2
 obtain rfl := some_inj hm
 exact ⟨_, Nat.lt_succ_self _, (i64.wrap (z580 + (1:Int))), _, hx587, (fu 0 r0_0 z (fu 1 (.func (.func 216) #[] #[Pt b540 0]) z (fu 7 (.int .i64 ((a0.Gets).length : Int)) z (fu 8 (.int .i64 (i64.wrap (z580 + (1:Int)))) z z)))), hst⟩
}
}
 {
 replace hm := bif_f hc589 hm
 refine wp_iff (cvb hc589) ?_
 refine wp_exit (then_x (then_x ?_))
 replace hm := inr_up hm hx587
 refine blk_x (tn (wp_seq (wrl ?_)))
 refine wv (.int .i64 ((-1):Int)) z z z (wl_nil (tn (wp_ret ?_)))
 refine post_ret (vs := [I6 ((-1):Int)]) results228 (rvs_cons (rv_tmp z) rvs_nil) ?_
 replace hst := hst.pull1.keep2
 obtain rfl := some_inj hm
 exact ⟨((-1):Int), z, z, hst⟩
}
}
 clear hst
 rintro _ w610 ⟨z606, rfl, rfl, hst⟩
 refine ⟨_, z, ?_⟩
 try dsimp only at hm
 refine wv (.bool (decide (z606 ≥ (0:Int)))) z z z (wv (.bool (decide (z606 ≥ (0:Int)))) z z z (wl_nil (tn (wp_ret ?_))))
 refine post_ret (vs := [.bool (decide (z606 ≥ (0:Int)))]) results213 (rvs_cons (rv_tmp z) rvs_nil) ?_
 replace hst := hst.pull1.pull1.keep2
 obtain rfl := some_inj hm
 exact ⟨(decide (z606 ≥ (0:Int))), z, z, hst⟩
}
 clear hst
 rintro _ w615 ⟨z611, rfl, rfl, hst⟩
 refine ⟨_, z, ?_⟩
 try dsimp only at hm
 refine wv (.bool z611) z z z ?_
 refine bsplit z611 (fun hc616 => ?_) (fun hc616 => ?_)
 {
 replace hm := bif_t hc616 hm
 refine wo hc616 z z z z z z (wo hc616 z z z z z z (wo hc616 z z z z z z (wo hc616 z z z z z z (wv (.bool true) z z (x_pick_t hc616 z z) (wv (.bool true) z z z (wl_nil (tn (wp_ret ?_))))))))
 obtain rfl := some_inj hm
 refine post_ret (vs := [.bool true]) results195 (rvs_cons (rv_tmp z) rvs_nil) ?_
 exact ⟨z, hst.keep0⟩
}
 {
 replace hm := bif_f hc616 hm
 refine wv (Pt b535 4) ((wanted_eq z z z (cvb hc616)).trans z) z (x_field z underlying46 z sizeOf44 z) (wv (r0_1) ((wanted_eq z z z (cvb hc616)).trans z) z (x_load z isAgg44 (hst.bc0 z)) (wv (.func (.func 218) #[] #[Pt b540 0]) ((wanted_eq z z z (cvb hc616)).trans z) z (by kernel_rfl) ?_))
 obtain ⟨y700, hq701, hm⟩ := bind_some hm
 refine wl_call ((wanted_eq z z z (cvb hc616)).trans z) z (x_callv call217 (caps := []) z (vs := [r0_1, .func (.func 218) #[] #[Pt b540 0]]) z) ?_
 refine Calls.mono (show Calls prog 217 #[r0_1, .func (.func 218) #[] #[Pt b540 0]] _ (fun e w' => ∃ (z698 : Bool), z698 = y700 ∧ e = .returned (.bool z698) ∧ St w0 w' I [cells b535 [U6 a0.ID.Session, U6 a0.ID.Seq, U6 a0.Epoch, r0_0, r0_1, r0_2, r0_3], cells b540 [F6 a1]] R) from ?_) ?_
 {
 clear hm; have hm := hq701
 refine calls_start (args := [r0_1, .func (.func 218) #[] #[Pt b540 0]]) func217 z ntmps217 (Nat.le_of_ble_eq_true z) ?_
 refine wp_seq (wrl (wv (.bool false) z z z (wl_nil (tn (wp_seq (wrl (wv (r0_1) z z z (wv (.func (.func 218) #[] #[Pt b540 0]) z z z ?_))))))))
 obtain ⟨y695, hq696, hm⟩ := bind_some hm
 refine wl_call z z (x_callv call229 (caps := []) z (vs := [r0_1, .func (.func 218) #[] #[Pt b540 0]]) z) ?_
 refine Calls.mono (show Calls prog 229 #[r0_1, .func (.func 218) #[] #[Pt b540 0]] _ (fun e w' => ∃ (z693 : Int), z693 = y695 ∧ e = .returned (.int .i64 z693) ∧ St w0 w' I [cells b535 [U6 a0.ID.Session, U6 a0.ID.Seq, U6 a0.Epoch, r0_0, r0_1, r0_2, r0_3], cells b540 [F6 a1]] R) from ?_) ?_
 {
 clear hm; have hm := hq696
 refine calls_start (args := [r0_1, .func (.func 218) #[] #[Pt b540 0]]) func229 z ntmps229 (Nat.le_of_ble_eq_true z) ?_
 refine wp_seq (wrl (wv (.int .i64 (0:Int)) z z z (wl_nil (tn (wp_seq (wp_seq (wrl (wv (r0_1) z z z (wv (.int .i64 ((a0.Scans).length : Int)) z z (x_len z underlying44 (rd_sliceV f0_1)) (wv (.int .i64 (0:Int)) z z z (wl_nil (tn (wp_block ?_)))))))))))))
 obtain ⟨n664, hm⟩ := loopO_some hm
 refine wp_loop_n (fun n a w => ∃ (z662 : Int) (σ663 : Nat → Value), loopN (locks_reads_l1 a0 a1) n z662 = some y695 ∧ a = Fr 19 (upd (upd (upd (upd σ663 0 (r0_1)) 1 (.func (.func 218) #[] #[Pt b540 0])) 7 (.int .i64 ((a0.Scans).length : Int))) 8 (.int .i64 z662)) ∧ St w0 w I [cells b535 [U6 a0.ID.Session, U6 a0.ID.Seq, U6 a0.Epoch, r0_0, r0_1, r0_2, r0_3], cells b540 [F6 a1]] R) n664 ⟨(0:Int), _, hm, (fu 0 r0_1 z (fu 1 (.func (.func 218) #[] #[Pt b540 0]) z (fu 7 (.int .i64 ((a0.Scans).length : Int)) z (fu 8 (.int .i64 (0:Int)) z z)))), hst⟩ ?_
 rintro n670 _ w665 ⟨z662, σ663, hm, rfl, hst⟩
 obtain ⟨n667, y668, rfl, hm, hx669⟩ := loopN_some hm
 dsimp only [locks_reads_l1] at hm
 refine wp_seq (wrl (wv (.bool (decide (z662 < ((a0.Scans).length : Int)))) z z z (wl_nil (tn (wp_seq ?_)))))
 refine bsplit (decide (z662 < ((a0.Scans).length : Int))) (fun hc671 => ?_) (fun hc671 => ?_)
 {
 replace hm := bif_t hc671 hm
 refine wp_ift (cvb hc671) ?_
 refine wp_skip (tn (wp_seq (wp_block (wp_seq (wrl ?_)))))
 refine wv (.int .i64 z662) z z z (wv (.int .i64 z662) z z z (wl_nil (tn (wp_seq (wrl (wv (.func (.func 218) #[] #[Pt b540 0]) z z z (wv (r0_1) z z z (wv (.int .i64 z662) z z z ?_))))))))
 obtain ⟨x672, hx673, hm⟩ := bind_some hm
 obtain ⟨h674, h675, hi676⟩ := geto_some hx673
 refine wv (.pointer (some (eAddr r0_1 (z662.toNat * 2 + 0)))) z z (x_index z z underlying44 sizeOf80 (rd_sliceV f0_1) h674 h675) (wv (.agg #[F6 x672.1, F6 x672.2]) z z (x_loadN (cs := [F6 x672.1, F6 x672.2]) z isAgg80 sizeOf80 (rd_loadN f0_1 (HL.le.refl _) hst hi676 0 (by rintro _ rfl; rfl))) ?_)
 obtain ⟨y689, hq690, hm⟩ := bind_some hm
 refine wl_call z z (x_callv call218 (caps := [Pt b540 0]) z (vs := [.agg #[F6 x672.1, F6 x672.2]]) z) ?_
 refine Calls.mono (show Calls prog 218 #[.agg #[F6 x672.1, F6 x672.2], Pt b540 0] _ (fun e w' => ∃ (z687 : Bool), z687 = y689 ∧ e = .returned (.bool z687) ∧ St w0 w' I [cells b535 [U6 a0.ID.Session, U6 a0.ID.Seq, U6 a0.Epoch, r0_0, r0_1, r0_2, r0_3], cells b540 [F6 a1]] R) from ?_) ?_
 {
 clear hm; have hm := hq690
 refine calls_start (args := [.agg #[F6 x672.1, F6 x672.2], Pt b540 0]) func218 z ntmps218 (Nat.le_of_ble_eq_true z) ?_
 refine wp_seq (wrl ?_)
 obtain ⟨b677, w678, ew679, eb680, hst⟩ := hst.box [F6 x672.1, F6 x672.2] 80
 refine wl_run (v := Pt b677 0) (w' := w678) z z (x_al (by kernel_rfl) ew679 eb680) ?_
 refine wv (.bool false) z z z (wl_nil (tn (wp_seq (wrl (wv (.float .f64 a1) z z (x_load z isAgg37 (hst.bc2 z)) (wv (Pt b677 0) z z (x_index_arr (i := (0:Int)) z z underlying80 sizeOf37 (by decide) (by decide)) (wv (.float .f64 x672.1) z z (x_load z isAgg37 (hst.bc0 z)) (wv (Pt b677 1) z z (x_index_arr (i := (1:Int)) z z underlying80 sizeOf37 (by decide) (by decide)) (wv (.float .f64 x672.2) z z (x_load z isAgg37 (hst.bc0 z)) ?_)))))))))
 obtain ⟨t682, ht683, hm⟩ := bind_some hm
 refine wc call215 [F6 a1, F6 x672.1, F6 x672.2] z z z ?_
 refine (number_Within_ref hst.to0 ht683).mono ?_
 rintro _ w684 ⟨rfl, hst⟩
 refine ⟨_, z, ?_⟩
 replace hst := hst.of0
 refine wv (.bool t682) z z z (wl_nil (tn (wp_ret ?_)))
 refine post_ret (vs := [.bool t682]) results218 (rvs_cons (rv_tmp z) rvs_nil) ?_
 replace hst := hst.pull2.pull2.keep2
 obtain rfl := some_inj hm
 exact ⟨t682, z, z, hst⟩
}
 clear hst
 rintro _ w691 ⟨z687, rfl, rfl, hst⟩
 refine ⟨_, z, ?_⟩
 try dsimp only at hm
 refine wl_nil (tn ?_)
 refine bsplit z687 (fun hc692 => ?_) (fun hc692 => ?_)
 {
 replace hm := bif_t hc692 hm
 refine wp_ift (cvb hc692) ?_
 refine wp_seq (wrl (wv (.int .i64 z662) z z z (wv (.int .i64 z662) z z z (wl_nil (tn (wp_ret (blk_r (then_r (then_r ?_)))))))))
 replace hm := inr_up hm hx669
 refine blk_r (then_r ?_)
 refine post_ret (vs := [I6 z662]) results229 (rvs_cons (rv_tmp z) rvs_nil) ?_
 replace hst := hst.pull1.pull1.keep2
 obtain rfl := some_inj hm
 exact ⟨z662, z, z, hst⟩
}
 {
 replace hm := bif_f hc692 hm
 refine wp_iff (cvb hc692) ?_
 refine wp_skip (blk_n (tn (wrl ?_)))
 refine wv (.int .i64 (i64.wrap (z662 + (1:Int)))) z z z (wv (.int .i64 (i64.wrap (z662 + (1:Int)))) z z z (wl_nil (tn ?_)))
 replace hst := hst.pull1.pull1.keep2
 obtain rfl := some_inj hm
 exact ⟨_, Nat.lt_succ_self _, (i64.wrap (z662 + (1:Int))), _, hx669, (fu 0 r0_1 z (fu 1 (.func (.func 218) #[] #[Pt b540 0]) z (fu 7 (.int .i64 ((a0.Scans).length : Int)) z (fu 8 (.int .i64 (i64.wrap (z662 + (1:Int)))) z z)))), hst⟩
}
}
 {
 replace hm := bif_f hc671 hm
 refine wp_iff (cvb hc671) ?_
 refine wp_exit (then_x (then_x ?_))
 replace hm := inr_up hm hx669
 refine blk_x (tn (wp_seq (wrl ?_)))
 refine wv (.int .i64 ((-1):Int)) z z z (wl_nil (tn (wp_ret ?_)))
 refine post_ret (vs := [I6 ((-1):Int)]) results229 (rvs_cons (rv_tmp z) rvs_nil) ?_
 replace hst := hst.pull1.pull1.keep2
 obtain rfl := some_inj hm
 exact ⟨((-1):Int), z, z, hst⟩
}
}
 clear hst
 rintro _ w697 ⟨z693, rfl, rfl, hst⟩
 refine ⟨_, z, ?_⟩
 try dsimp only at hm
 refine wv (.bool (decide (z693 ≥ (0:Int)))) z z z (wv (.bool (decide (z693 ≥ (0:Int)))) z z z (wl_nil (tn (wp_ret ?_))))
 refine post_ret (vs := [.bool (decide (z693 ≥ (0:Int)))]) results217 (rvs_cons (rv_tmp z) rvs_nil) ?_
 replace hst := hst.pull1.pull1.keep2
 obtain rfl := some_inj hm
 exact ⟨(decide (z693 ≥ (0:Int))), z, z, hst⟩
}
 clear hst
 rintro _ w702 ⟨z698, rfl, rfl, hst⟩
 refine ⟨_, z, ?_⟩
 try dsimp only at hm
 refine wv (.bool z698) z z (x_pick_f hc616 z z) (wv (.bool z698) z z z (wl_nil (tn (wp_ret ?_))))
 obtain rfl := some_inj hm
 refine post_ret (vs := [.bool z698]) results195 (rvs_cons (rv_tmp z) rvs_nil) ?_
 exact ⟨z, hst.keep0⟩
}
}

end Go.Proofs.YtgnkkopjkgdieaaGreat
