/- The Go functions refine their models, part 0. -/
import Derived.Test.YtgnkkopjkgdieaaGreatLaneInnerT
set_option linter.unusedVariables false
set_option linter.unusedSimpArgs false
set_option maxRecDepth 100000
set_option maxHeartbeats 4000000
namespace Go.Proofs.YtgnkkopjkgdieaaGreat
open Go Go.V
open _root_.Go.Proofs.Tryz IntKind
attribute [local irreducible] wpList Code.wp wpQuiet Calls bodyPost Oper.wp wpS Nx PendOK YieldsIn
theorem mvcc_New_ref {w0 w : World} {I : HL} {R : SP}   (hst : St w0 w I [] R) {r : (mvcc_Store)} (hm : mvcc_New = some r) :
  Calls prog 43 #[] w fun e w' => ∃ (q0 : Value), e = .returned (q0) ∧ St w0 w' I [at_mvcc_Store q0 r] R := by {
 unfold mvcc_New at hm
 refine calls_start (args := []) func43 z ntmps43 (Nat.le_of_ble_eq_true z) ?_
 refine wp_seq (wrl (wv (.pointer none) z z z (wl_nil (tn (wp_seq (wrl (wv (.agg #[Zs]) z z (by kernel_rfl) ?_)))))))
 obtain ⟨b16, w17, ew18, eb19, hst⟩ := hst.box [Zs] 201
 refine wl_run (v := Pt b16 0) (w' := w17) z z (x_al (by kernel_rfl) ew18 eb19) ?_
 refine wv (Pt b16 0) z z z (wl_nil (tn (wp_ret ?_)))
 replace hst := hst.nest_nil nest_mvcc_row
 replace hst := hst.pull1
 replace hst := at_mvcc_Store_close (pv := Pt b16 0) (x := ({ rows := [] } : mvcc_Store)) hst z
 obtain rfl := some_inj hm
 refine post_ret (vs := [Pt b16 0]) results43 (rvs_cons (rv_tmp z) rvs_nil) ?_
 exact ⟨.pointer (some ⟨b16, 0, none⟩), z, hst.keep1⟩
}

theorem locks_New_ref {w0 w : World} {I : HL} {R : SP}   (hst : St w0 w I [] R) {r : (locks_Table)} (hm : locks_New = some r) :
  Calls prog 44 #[] w fun e w' => ∃ (q0 : Value), e = .returned (q0) ∧ St w0 w' I [at_locks_Table q0 r] R := by {
 unfold locks_New at hm
 refine calls_start (args := []) func44 z ntmps44 (Nat.le_of_ble_eq_true z) ?_
 refine wp_seq (wrl (wv (.pointer none) z z z (wl_nil (tn (wp_seq (wrl (wv (.agg #[Zs]) z z (by kernel_rfl) ?_)))))))
 obtain ⟨b23, w24, ew25, eb26, hst⟩ := hst.box [Zs] 203
 refine wl_run (v := Pt b23 0) (w' := w24) z z (x_al (by kernel_rfl) ew25 eb26) ?_
 refine wv (Pt b23 0) z z z (wl_nil (tn (wp_ret ?_)))
 replace hst := hst.own_nil ty_api_Hold
 replace hst := hst.pull1
 replace hst := at_locks_Table_close (pv := Pt b23 0) (x := ({ l := [] } : locks_Table)) hst z
 obtain rfl := some_inj hm
 refine post_ret (vs := [Pt b23 0]) results44 (rvs_cons (rv_tmp z) rvs_nil) ?_
 exact ⟨.pointer (some ⟨b23, 0, none⟩), z, hst.keep1⟩
}

theorem session_New_ref {w0 w : World} {I : HL} {R : SP}   (hst : St w0 w I [] R) {r : (session_Table)} (hm : session_New = some r) :
  Calls prog 45 #[] w fun e w' => ∃ (q0 : Value), e = .returned (q0) ∧ St w0 w' I [at_session_Table q0 r] R := by {
 unfold session_New at hm
 refine calls_start (args := []) func45 z ntmps45 (Nat.le_of_ble_eq_true z) ?_
 refine wp_seq (wrl (wv (.pointer none) z z z (wl_nil (tn (wp_seq (wrl (wv (.agg #[Zs]) z z (by kernel_rfl) ?_)))))))
 obtain ⟨b30, w31, ew32, eb33, hst⟩ := hst.box [Zs] 206
 refine wl_run (v := Pt b30 0) (w' := w31) z z (x_al (by kernel_rfl) ew32 eb33) ?_
 refine wv (Pt b30 0) z z z (wl_nil (tn (wp_ret ?_)))
 replace hst := hst.own_nil ty_session_row
 replace hst := hst.pull1
 replace hst := at_session_Table_close (pv := Pt b30 0) (x := ({ l := [] } : session_Table)) hst z
 obtain rfl := some_inj hm
 refine post_ret (vs := [Pt b30 0]) results45 (rvs_cons (rv_tmp z) rvs_nil) ?_
 exact ⟨.pointer (some ⟨b30, 0, none⟩), z, hst.keep1⟩
}

theorem policy_New_ref {w0 w : World} {I : HL} {R : SP}   (hst : St w0 w I [] R) {r : (policy_Book)} (hm : policy_New = some r) :
  Calls prog 46 #[] w fun e w' => ∃ (q0 : Value), e = .returned (q0) ∧ St w0 w' I [at_policy_Book q0 r] R := by {
 unfold policy_New at hm
 refine calls_start (args := []) func46 z ntmps46 (Nat.le_of_ble_eq_true z) ?_
 refine wp_seq (wrl (wv (.pointer none) z z z (wl_nil (tn (wp_seq (wrl (wv (.agg #[Zs]) z z (by kernel_rfl) ?_)))))))
 obtain ⟨b37, w38, ew39, eb40, hst⟩ := hst.box [Zs] 209
 refine wl_run (v := Pt b37 0) (w' := w38) z z (x_al (by kernel_rfl) ew39 eb40) ?_
 refine wv (Pt b37 0) z z z (wl_nil (tn (wp_ret ?_)))
 replace hst := hst.own_nil ty_policy_line
 replace hst := hst.pull1
 replace hst := at_policy_Book_close (pv := Pt b37 0) (x := ({ l := [] } : policy_Book)) hst z
 obtain rfl := some_inj hm
 refine post_ret (vs := [Pt b37 0]) results46 (rvs_cons (rv_tmp z) rvs_nil) ?_
 exact ⟨.pointer (some ⟨b37, 0, none⟩), z, hst.keep1⟩
}

theorem lane_New_ref {w0 w : World} {I : HL} {R : SP} {a0 : Int}  (hst : St w0 w I [] R) {r : (lane_State)} (hm : lane_New a0 = some r) :
  Calls prog 13 #[I6 a0] w fun e w' => ∃ (q0 : Value), e = .returned (q0) ∧ St w0 w' I [at_lane_State q0 r] R := by {
 unfold lane_New at hm
 refine calls_start (args := [I6 a0]) func13 z ntmps13 (Nat.le_of_ble_eq_true z) ?_
 refine wp_seq (wrl (wv (.pointer none) z z z (wl_nil (tn (wp_seq (wrl (wv (.int .i64 a0) z z z ?_)))))))
 obtain ⟨t56, ht57, hm⟩ := bind_some hm
 refine wc call43 [] z z z ?_
 refine (mvcc_New_ref hst.to0 ht57).mono ?_
 rintro _ w58 ⟨v61, rfl, hst⟩
 refine ⟨_, z, ?_⟩
 replace hst := hst.of1
 obtain ⟨t63, ht64, hm⟩ := bind_some hm
 refine wc call44 [] z z z ?_
 refine (locks_New_ref hst.to0 ht64).mono ?_
 rintro _ w65 ⟨v68, rfl, hst⟩
 refine ⟨_, z, ?_⟩
 replace hst := hst.of1
 obtain ⟨t70, ht71, hm⟩ := bind_some hm
 refine wc call45 [] z z z ?_
 refine (session_New_ref hst.to0 ht71).mono ?_
 rintro _ w72 ⟨v75, rfl, hst⟩
 refine ⟨_, z, ?_⟩
 replace hst := hst.of1
 obtain ⟨t77, ht78, hm⟩ := bind_some hm
 refine wc call46 [] z z z ?_
 refine (policy_New_ref hst.to0 ht78).mono ?_
 rintro _ w79 ⟨v82, rfl, hst⟩
 refine ⟨_, z, ?_⟩
 replace hst := hst.of1.pull3
 obtain ⟨b87, v88, rfl, hst'⟩ := at_mvcc_Store_open hst
 clear hst
 have hst := hst'
 clear hst'
 replace hst := hst.pull4
 obtain ⟨b90, v91, rfl, hst'⟩ := at_locks_Table_open hst
 clear hst
 have hst := hst'
 clear hst'
 replace hst := hst.pull5
 obtain ⟨b93, v94, rfl, hst'⟩ := at_session_Table_open hst
 clear hst
 have hst := hst'
 clear hst'
 replace hst := hst.pull6
 obtain ⟨b96, v97, rfl, hst'⟩ := at_policy_Book_open hst
 clear hst
 have hst := hst'
 clear hst'
 refine wv (.agg #[I6 a0, U6 (1:Int), Pt b87 0, Pt b90 0, Pt b93 0, Pt b96 0, Zs, Zs, Zs]) z z (by kernel_rfl) ?_
 obtain ⟨b99, w100, ew101, eb102, hst⟩ := hst.box [I6 a0, U6 (1:Int), Pt b87 0, Pt b90 0, Pt b93 0, Pt b96 0, Zs, Zs, Zs] 111
 refine wl_run (v := Pt b99 0) (w' := w100) z z (x_al (by kernel_rfl) ew101 eb102) ?_
 refine wv (Pt b99 0) z z z (wl_nil (tn (wp_ret ?_)))
 replace hst := hst.pull8.pull8
 replace hst := at_mvcc_Store_close (pv := Pt b87 0) (x := t56) hst z
 replace hst := objO_some hst
 replace hst := hst.pull7.pull7
 replace hst := at_locks_Table_close (pv := Pt b90 0) (x := t63) hst z
 replace hst := objO_some hst
 replace hst := hst.pull6.pull6
 replace hst := at_session_Table_close (pv := Pt b93 0) (x := t70) hst z
 replace hst := objO_some hst
 replace hst := hst.pull5.pull5
 replace hst := at_policy_Book_close (pv := Pt b96 0) (x := t77) hst z
 replace hst := objO_some hst
 replace hst := hst.own_nil ty_api_Decision
 replace hst := hst.own_nil ty_api_Item
 replace hst := hst.own_nil ty_lane_used
 replace hst := hst.pull1.pull2.pull3.pull4.pull5.pull6.pull7
 replace hst := at_lane_State_close (pv := Pt b99 0) (x := ({ wide := a0, epoch := (1:Int), store := (some t56), locks := (some t63), last := (some t70), book := (some t77), open_ := [], out := [], used := [] } : lane_State)) hst z
 obtain rfl := some_inj hm
 refine post_ret (vs := [Pt b99 0]) results13 (rvs_cons (rv_tmp z) rvs_nil) ?_
 exact ⟨.pointer (some ⟨b99, 0, none⟩), z, hst.keep1⟩
}

theorem locks_Table_Until_ref {w0 w : World} {I : HL} {R : SP} {a0 : (Option locks_Table)} {p0 : Value} {a1 : Int}  (hst : St w0 w I [objO at_locks_Table p0 a0] R) {r : (Bool)} (hm : locks_Table_Until a0 a1 = some r) :
  Calls prog 154 #[p0, U6 a1] w fun e w' => e = .returned (.bool r) ∧ St w0 w' I [objO at_locks_Table p0 a0] R := by {
 rcases a0 with _ | o0
 {
 obtain ⟨rfl, hst'⟩ := objO_none hst
 clear hst
 have hst := hst'
 clear hst'
 dsimp only [locks_Table_Until] at hm
 refine calls_start (args := [.pointer none, U6 a1]) func154 z ntmps154 (Nat.le_of_ble_eq_true z) ?_
 refine wp_seq (wrl ?_)
 obtain ⟨b233, w234, ew235, eb236, hst⟩ := hst.box [U6 a1] 26
 refine wl_run (v := Pt b233 0) (w' := w234) z z (x_al (by kernel_rfl) ew235 eb236) ?_
 refine wv (.bool false) z z z (wl_nil (tn (wp_seq (wrl (wv (.pointer none) z z z (wv (.bool false) z z (by kernel_rfl) (wv (.bool false) z z z (wz z z z z z z (wz z z z z z z (wz z z z z z z (wz z z z z z z (wz z z z z z z (wz z z z z z z (wv (.bool false) z z (x_pick_f z z z) (wv (.bool false) z z z ?_)))))))))))))))
 refine wl_nil (tn (wp_ret ?_))
 replace hst := hst.objO_nil at_locks_Table
 obtain rfl := some_inj hm
 refine post_ret (vs := [.bool false]) results154 (rvs_cons (rv_tmp z) rvs_nil) ?_
 exact ⟨z, hst.keep1⟩
}
 {
 replace hst := objO_get hst
 dsimp only [locks_Table_Until] at hm
 refine calls_start (args := [p0, U6 a1]) func154 z ntmps154 (Nat.le_of_ble_eq_true z) ?_
 refine wp_seq (wrl ?_)
 obtain ⟨b238, w239, ew240, eb241, hst⟩ := hst.box [U6 a1] 26
 refine wl_run (v := Pt b238 0) (w' := w239) z z (x_al (by kernel_rfl) ew240 eb241) ?_
 refine wv (.bool false) z z z (wl_nil (tn (wp_seq (wrl (wv (p0) z z z ?_)))))
 replace hst := hst.pull1
 obtain ⟨b243, v244, rfl, hst'⟩ := at_locks_Table_open hst
 clear hst
 have hst := hst'
 clear hst'
 refine wv (.bool true) z z (by kernel_rfl) (wv (.bool true) z z z (wv (Pt b243 0) ((wanted_eq z z z z).trans z) z z (wv (Pt b243 0) ((wanted_eq z z z z).trans z) z z (wv (Pt b243 0) ((wanted_eq z z z z).trans z) z (x_field z underlying203 z sizeOf125 z) (wv (v244) ((wanted_eq z z z z).trans z) z (x_load z isAgg125 (hst.bc0 z)) (wv (.func (.func 204) #[] #[Pt b238 0]) ((wanted_eq z z z z).trans z) z (by kernel_rfl) ?_))))))
 obtain ⟨y356, hq357, hm⟩ := bind_some hm
 refine wl_call ((wanted_eq z z z z).trans z) z (x_callv call203 (caps := []) z (vs := [v244, .func (.func 204) #[] #[Pt b238 0]]) z) ?_
 refine Calls.mono (show Calls prog 203 #[v244, .func (.func 204) #[] #[Pt b238 0]] _ (fun e w' => ∃ (z354 : Bool), z354 = y356 ∧ e = .returned (.bool z354) ∧ St w0 w' I [cells b243 [v244], ownS ty_api_Hold v244 o0.l, cells b238 [U6 a1]] R) from ?_) ?_
 {
 clear hm; have hm := hq357
 refine calls_start (args := [v244, .func (.func 204) #[] #[Pt b238 0]]) func203 z ntmps203 (Nat.le_of_ble_eq_true z) ?_
 refine wp_seq (wrl (wv (.bool false) z z z (wl_nil (tn (wp_seq (wrl (wv (v244) z z z (wv (.func (.func 204) #[] #[Pt b238 0]) z z z ?_))))))))
 obtain ⟨y351, hq352, hm⟩ := bind_some hm
 refine wl_call z z (x_callv call222 (caps := []) z (vs := [v244, .func (.func 204) #[] #[Pt b238 0]]) z) ?_
 refine Calls.mono (show Calls prog 222 #[v244, .func (.func 204) #[] #[Pt b238 0]] _ (fun e w' => ∃ (z349 : Int), z349 = y351 ∧ e = .returned (.int .i64 z349) ∧ St w0 w' I [cells b243 [v244], ownS ty_api_Hold v244 o0.l, cells b238 [U6 a1]] R) from ?_) ?_
 {
 clear hm; have hm := hq352
 refine calls_start (args := [v244, .func (.func 204) #[] #[Pt b238 0]]) func222 z ntmps222 (Nat.le_of_ble_eq_true z) ?_
 refine wp_seq (wrl (wv (.int .i64 (0:Int)) z z z (wl_nil (tn (wp_seq (wp_seq (wrl (wv (v244) z z z (wv (.int .i64 ((o0.l).length : Int)) z z (x_len z underlying125 hst.sv1) (wv (.int .i64 (0:Int)) z z z (wl_nil (tn (wp_block ?_)))))))))))))
 obtain ⟨n311, hm⟩ := loopO_some hm
 refine wp_loop_n (fun n a w => ∃ (z309 : Int) (σ310 : Nat → Value), loopN (locks_Table_Until_l0 o0 a1) n z309 = some y351 ∧ a = Fr 19 (upd (upd (upd (upd σ310 0 (v244)) 1 (.func (.func 204) #[] #[Pt b238 0])) 7 (.int .i64 ((o0.l).length : Int))) 8 (.int .i64 z309)) ∧ St w0 w I [cells b243 [v244], ownS ty_api_Hold v244 o0.l, cells b238 [U6 a1]] R) n311 ⟨(0:Int), _, hm, (fu 0 v244 z (fu 1 (.func (.func 204) #[] #[Pt b238 0]) z (fu 7 (.int .i64 ((o0.l).length : Int)) z (fu 8 (.int .i64 (0:Int)) z z)))), hst⟩ ?_
 rintro n317 _ w312 ⟨z309, σ310, hm, rfl, hst⟩
 obtain ⟨n314, y315, rfl, hm, hx316⟩ := loopN_some hm
 dsimp only [locks_Table_Until_l0] at hm
 refine wp_seq (wrl (wv (.bool (decide (z309 < ((o0.l).length : Int)))) z z z (wl_nil (tn (wp_seq ?_)))))
 refine bsplit (decide (z309 < ((o0.l).length : Int))) (fun hc318 => ?_) (fun hc318 => ?_)
 {
 replace hm := bif_t hc318 hm
 refine wp_ift (cvb hc318) ?_
 refine wp_skip (tn (wp_seq (wp_block (wp_seq (wrl ?_)))))
 refine wv (.int .i64 z309) z z z (wv (.int .i64 z309) z z z (wl_nil (tn (wp_seq (wrl (wv (.func (.func 204) #[] #[Pt b238 0]) z z z (wv (v244) z z z (wv (.int .i64 z309) z z z ?_))))))))
 obtain ⟨x319, hx320, hm⟩ := bind_some hm
 obtain ⟨h321, h322, hi323⟩ := geto_some hx320
 refine wv (.pointer (some (eAddr v244 (z309.toNat * 7 + 0)))) z z (x_index z z underlying125 sizeOf46 hst.sv1 h321 h322) ?_
 obtain ⟨cs324, hr325, hc326⟩ := hst.og1 hi323
 obtain ⟨v327, v330, v333, v336, rfl, f328, f331, f334, f337, -⟩ := hr325
 refine wv (.agg #[U6 x319.ID.Session, U6 x319.ID.Seq, U6 x319.Epoch, v327, v330, v333, v336]) z z (x_loadN (cs := [U6 x319.ID.Session, U6 x319.ID.Seq, U6 x319.Epoch, v327, v330, v333, v336]) z isAgg46 sizeOf46 (eCells (o := 0) hc326 z)) ?_
 obtain ⟨y345, hq346, hm⟩ := bind_some hm
 refine wl_call z z (x_callv call204 (caps := [Pt b238 0]) z (vs := [.agg #[U6 x319.ID.Session, U6 x319.ID.Seq, U6 x319.Epoch, v327, v330, v333, v336]]) z) ?_
 refine Calls.mono (show Calls prog 204 #[.agg #[U6 x319.ID.Session, U6 x319.ID.Seq, U6 x319.Epoch, v327, v330, v333, v336], Pt b238 0] _ (fun e w' => () = y345 ∧ e = .returned (.bool (decide (x319.Epoch ≤ a1))) ∧ St w0 w' I [cells b243 [v244], ownS ty_api_Hold v244 o0.l, cells b238 [U6 a1]] R) from ?_) ?_
 {
 clear hm; have hm := hq346
 refine calls_start (args := [.agg #[U6 x319.ID.Session, U6 x319.ID.Seq, U6 x319.Epoch, v327, v330, v333, v336], Pt b238 0]) func204 z ntmps204 (Nat.le_of_ble_eq_true z) ?_
 refine wp_seq (wrl ?_)
 obtain ⟨b339, w340, ew341, eb342, hst⟩ := hst.box [U6 x319.ID.Session, U6 x319.ID.Seq, U6 x319.Epoch, v327, v330, v333, v336] 46
 refine wl_run (v := Pt b339 0) (w' := w340) z z (x_al (by kernel_rfl) ew341 eb342) ?_
 refine wv (.bool false) z z z (wl_nil (tn (wp_seq (wrl (wv (Pt b339 2) z z (x_field z underlying46 z sizeOf26 z) (wv (.int .u64 x319.Epoch) z z (x_load z isAgg26 (hst.bc0 z)) (wv (.int .u64 a1) z z (x_load z isAgg26 (hst.bc3 z)) (wv (.bool (decide (x319.Epoch ≤ a1))) z z z (wv (.bool (decide (x319.Epoch ≤ a1))) z z z (wl_nil (tn (wp_ret ?_))))))))))))
 refine post_ret (vs := [.bool (decide (x319.Epoch ≤ a1))]) results204 (rvs_cons (rv_tmp z) rvs_nil) ?_
 replace hst := hst.pull3.pull3.pull3.keep3
 obtain rfl := some_inj hm
 exact ⟨z, z, hst⟩
}
 clear hst
 rintro _ w347 ⟨rfl, rfl, hst⟩
 refine ⟨_, z, ?_⟩
 try dsimp only at hm
 refine wl_nil (tn ?_)
 refine bsplit (decide (x319.Epoch ≤ a1)) (fun hc348 => ?_) (fun hc348 => ?_)
 {
 replace hm := bif_t hc348 hm
 refine wp_ift (cvb hc348) ?_
 refine wp_seq (wrl (wv (.int .i64 z309) z z z (wv (.int .i64 z309) z z z (wl_nil (tn (wp_ret (blk_r (then_r (then_r ?_)))))))))
 replace hm := inr_up hm hx316
 refine blk_r (then_r ?_)
 refine post_ret (vs := [I6 z309]) results222 (rvs_cons (rv_tmp z) rvs_nil) ?_
 replace hst := hst.pull2.pull2.pull2.keep3
 obtain rfl := some_inj hm
 exact ⟨z309, z, z, hst⟩
}
 {
 replace hm := bif_f hc348 hm
 refine wp_iff (cvb hc348) ?_
 refine wp_skip (blk_n (tn (wrl ?_)))
 refine wv (.int .i64 (i64.wrap (z309 + (1:Int)))) z z z (wv (.int .i64 (i64.wrap (z309 + (1:Int)))) z z z (wl_nil (tn ?_)))
 replace hst := hst.pull2.pull2.pull2.keep3
 obtain rfl := some_inj hm
 exact ⟨_, Nat.lt_succ_self _, (i64.wrap (z309 + (1:Int))), _, hx316, (fu 0 v244 z (fu 1 (.func (.func 204) #[] #[Pt b238 0]) z (fu 7 (.int .i64 ((o0.l).length : Int)) z (fu 8 (.int .i64 (i64.wrap (z309 + (1:Int)))) z z)))), hst⟩
}
}
 {
 replace hm := bif_f hc318 hm
 refine wp_iff (cvb hc318) ?_
 refine wp_exit (then_x (then_x ?_))
 replace hm := inr_up hm hx316
 refine blk_x (tn (wp_seq (wrl ?_)))
 refine wv (.int .i64 ((-1):Int)) z z z (wl_nil (tn (wp_ret ?_)))
 refine post_ret (vs := [I6 ((-1):Int)]) results222 (rvs_cons (rv_tmp z) rvs_nil) ?_
 replace hst := hst.pull2.pull2.pull2.keep3
 obtain rfl := some_inj hm
 exact ⟨((-1):Int), z, z, hst⟩
}
}
 clear hst
 rintro _ w353 ⟨z349, rfl, rfl, hst⟩
 refine ⟨_, z, ?_⟩
 try dsimp only at hm
 refine wv (.bool (decide (z349 ≥ (0:Int)))) z z z (wv (.bool (decide (z349 ≥ (0:Int)))) z z z (wl_nil (tn (wp_ret ?_))))
 refine post_ret (vs := [.bool (decide (z349 ≥ (0:Int)))]) results203 (rvs_cons (rv_tmp z) rvs_nil) ?_
 replace hst := hst.pull2.pull2.pull2.keep3
 obtain rfl := some_inj hm
 exact ⟨(decide (z349 ≥ (0:Int))), z, z, hst⟩
}
 clear hst
 rintro _ w358 ⟨z354, rfl, rfl, hst⟩
 refine ⟨_, z, ?_⟩
 try dsimp only at hm
 refine wv (.bool z354) z z (x_pick_t z z z) (wv (.bool z354) z z z (wl_nil (tn (wp_ret ?_))))
 replace hst := hst.pull1.pull1
 replace hst := at_locks_Table_close (pv := Pt b243 0) (x := o0) hst z
 replace hst := objO_some hst
 obtain rfl := some_inj hm
 refine post_ret (vs := [.bool z354]) results154 (rvs_cons (rv_tmp z) rvs_nil) ?_
 exact ⟨z, hst.keep1⟩
}
}

theorem lane_State_May_ref {w0 w : World} {I : HL} {R : SP} {a0 : (Option lane_State)} {p0 : Value}  (hst : St w0 w I [objO at_lane_State p0 a0] R) {r : (Bool)} (hm : lane_State_May a0 = some r) :
  Calls prog 85 #[p0] w fun e w' => e = .returned (.bool r) ∧ St w0 w' I [objO at_lane_State p0 a0] R := by {
 rcases a0 with _ | o0
 {
 obtain ⟨rfl, hst'⟩ := objO_none hst
 clear hst
 have hst := hst'
 clear hst'
 dsimp only [lane_State_May] at hm
 refine calls_start (args := [.pointer none]) func85 z ntmps85 (Nat.le_of_ble_eq_true z) ?_
 refine wp_seq (wrl (wv (.bool false) z z z (wl_nil (tn (wp_seq ?_)))))
 refine wp_region_St hst 15 [0, 1, 2, 3, 4, 5, 6, 7, 8, 9, 10, 11, 12, 13, 14] [0, 1, 3, 7, 15, 31, 63, 7, 135, 391, 903, 2047, 4095, 8191, 16383] [] z (by kernel_rfl) (by kernel_rfl) Tryz.mixed (by kernel_rfl) ?_
 refine wsr (.pointer none) 0 z z z (by kernel_rfl) (fun w hst => z) (wsr (.bool false) 1 z z z (by kernel_rfl) (fun w hst => by kernel_rfl) (wsr (.bool false) 2 z z z (by kernel_rfl) (fun w hst => z) (ws_q (v := undef) 3 [4, 5, 6, 7, 8, 9, 10, 11, 12, 13, 14] (by kernel_rfl) z z (yi_off ((wanted_eq z z z z).trans z)) (ws_q (v := undef) 4 [5, 6, 7, 8, 9, 10, 11, 12, 13, 14] (by kernel_rfl) z z (yi_off ((wanted_eq z z z z).trans z)) (ws_q (v := undef) 5 [6, 7, 8, 9, 10, 11, 12, 13, 14] (by kernel_rfl) z z (yi_off ((wanted_eq z z z z).trans z)) (ws_q (v := undef) 6 [7, 8, 9, 10, 11, 12, 13, 14] (by kernel_rfl) z z (yi_off ((wanted_eq z z z z).trans z)) (ws_q (v := undef) 7 [8, 9, 10, 11, 12, 13, 14] (by kernel_rfl) z z (yi_off ((wanted_eq z z z z).trans z)) (ws_q (v := undef) 8 [9, 10, 11, 12, 13, 14] (by kernel_rfl) z z (yi_off ((wanted_eq z z z z).trans z)) (ws_q (v := undef) 9 [10, 11, 12, 13, 14] (by kernel_rfl) z z (yi_off ((wanted_eq z z z z).trans z)) (ws_q (v := undef) 10 [11, 12, 13, 14] (by kernel_rfl) z z (yi_off ((wanted_eq z z z z).trans z)) (ws_q (v := undef) 11 [12, 13, 14] (by kernel_rfl) z z (yi_off ((wanted_eq z z z z).trans z)) (ws_q (v := undef) 12 [13, 14] (by kernel_rfl) z z (yi_off ((wanted_eq z z z z).trans z)) ?_))))))))))))
 refine wsr (.bool false) 13 z z z (by kernel_rfl) (fun w hst => x_pick_f z z z) (wsr (.bool false) 14 z z z (by kernel_rfl) (fun w hst => z) ?_)
 refine ws_nil ?_
 intro w hst
 refine tn (wp_ret ?_)
 replace hst := hst.objO_nil at_lane_State
 obtain rfl := some_inj hm
 refine post_ret (vs := [.bool false]) results85 (rvs_cons (rv_tmp z) rvs_nil) ?_
 exact ⟨z, hst.keep1⟩
}
 {
 replace hst := objO_get hst
 dsimp only [lane_State_May] at hm
 refine calls_start (args := [p0]) func85 z ntmps85 (Nat.le_of_ble_eq_true z) ?_
 refine wp_seq (wrl (wv (.bool false) z z z (wl_nil (tn (wp_seq ?_)))))
 obtain ⟨b126, v127, v129, v131, v133, v135, v137, v139, rfl, hst'⟩ := at_lane_State_open hst
 clear hst
 have hst := hst'
 clear hst'
 refine wp_region_St hst 15 [0, 1, 2, 3, 4, 5, 6, 7, 8, 9, 10, 11, 12, 13, 14] [0, 1, 3, 7, 15, 31, 63, 7, 135, 391, 903, 2047, 4095, 8191, 16383] [] z (by kernel_rfl) (by kernel_rfl) Tryz.mixed (by kernel_rfl) ?_
 refine wsr (Pt b126 0) 0 z z z (by kernel_rfl) (fun w hst => z) (wsr (.bool true) 1 z z z (by kernel_rfl) (fun w hst => by kernel_rfl) (wsr (.bool true) 2 z z z (by kernel_rfl) (fun w hst => z) (ws_q (v := Pt b126 0) 3 [4, 5, 6, 7, 8, 9, 10, 11, 12, 13, 14] (by kernel_rfl) z z (yi_run ((wanted_eq z z z z).trans z) (fun w hst => z)) (ws_q (v := Pt b126 0) 4 [5, 6, 7, 8, 9, 10, 11, 12, 13, 14] (by kernel_rfl) z z (yi_run ((wanted_eq z z z z).trans z) (fun w hst => z)) (ws_q (v := Pt b126 3) 5 [6, 7, 8, 9, 10, 11, 12, 13, 14] (by kernel_rfl) z z (yi_run ((wanted_eq z z z z).trans z) (fun w hst => x_field z underlying111 z sizeOf103 z)) (ws_q (v := v129) 6 [7, 8, 9, 10, 11, 12, 13, 14] (by kernel_rfl) z z (yi_run ((wanted_eq z z z z).trans z) (fun w hst => x_load z isAgg103 (hst.bc0 z))) (ws_q (v := Pt b126 0) 7 [8, 9, 10, 11, 12, 13, 14] (by kernel_rfl) z z (yi_run ((wanted_eq z z z z).trans z) (fun w hst => z)) (ws_q (v := Pt b126 0) 8 [9, 10, 11, 12, 13, 14] (by kernel_rfl) z z (yi_run ((wanted_eq z z z z).trans z) (fun w hst => z)) (ws_q (v := Pt b126 1) 9 [10, 11, 12, 13, 14] (by kernel_rfl) z z (yi_run ((wanted_eq z z z z).trans z) (fun w hst => x_field z underlying111 z sizeOf26 z)) (ws_q (v := .int .u64 o0.epoch) 10 [11, 12, 13, 14] (by kernel_rfl) z z (yi_run ((wanted_eq z z z z).trans z) (fun w hst => x_load z isAgg26 (hst.bc0 z))) ?_))))))))))
 refine ws_e1 11 (by kernel_rfl) ?_
 refine nxe [12, 13, 14] (by kernel_rfl) z ((wanted_eq z z z z).trans z) ?_
 clear hst
 intro w hst
 replace hst := hst.pull2
 obtain ⟨t141, ht142, hm⟩ := bind_some hm
 refine wec call154 [v129, U6 o0.epoch] z z ?_
 refine (locks_Table_Until_ref hst.to1 ht142).mono ?_
 rintro _ w143 ⟨rfl, hst⟩
 refine ⟨_, z, ?_⟩
 replace hst := hst.of1
 refine ws_next (pend' := []) hst (by kernel_rfl) pk_nil ?_
 refine ws_q (v := .bool (!t141)) 12 [13, 14] (by kernel_rfl) z z (yi_run ((wanted_eq z z z z).trans z) (fun w hst => z)) (wsr (.bool (!t141)) 13 z z z (by kernel_rfl) (fun w hst => x_pick_t z z z) (wsr (.bool (!t141)) 14 z z z (by kernel_rfl) (fun w hst => z) ?_))
 refine ws_nil ?_
 intro w hst
 refine tn (wp_ret ?_)
 replace hst := hst.pull7.pull7.pull7.pull7.pull7.pull5.pull7.pull7
 replace hst := at_lane_State_close (pv := Pt b126 0) (x := o0) hst z
 replace hst := objO_some hst
 obtain rfl := some_inj hm
 refine post_ret (vs := [.bool (!t141)]) results85 (rvs_cons (rv_tmp z) rvs_nil) ?_
 exact ⟨z, hst.keep1⟩
}
}

theorem slices_Clone_mvcc_Version_mvcc_Version_ref {w0 w : World} {I : HL} {R : SP} {a0 : (List mvcc_Version)} {r0_0 : Value} (f0_0 : RdO ty_mvcc_Version R I r0_0 a0) (hst : St w0 w I [] R) {r : (List mvcc_Version)} (hm : slices_Clone_mvcc_Version_mvcc_Version a0 = some r) :
  Calls prog 181 #[r0_0] w fun e w' => ∃ (q0_0 : Value), e = .returned (q0_0) ∧ St w0 w' I [ownS ty_mvcc_Version q0_0 r] R := by {
 unfold slices_Clone_mvcc_Version_mvcc_Version at hm
 obtain ⟨hg, hm⟩ := gd_some hm
 obtain rfl := some_inj hm
 have hsv := rdo_sliceV f0_0
 refine calls_start (args := [r0_0]) func181 z ntmps181 (Nat.le_of_ble_eq_true z) ?_
 refine wp_seq (wrl (wv ((.slice none 0 0)) z z z (wl_nil (tn (wp_seq (wp_seq (wrl (wv (r0_0) z z z (wv (.bool (isNil r0_0)) z z (x_slnil z hsv z underlying238) (wl_nil (tn ?_)))))))))))
 refine bsplit (isNil r0_0) (fun hc280 => ?_) (fun hc280 => ?_)
 {
 refine wp_ift (cvb hc280) ?_
 refine wp_seq (wrl (wv ((.slice none 0 0)) z z z (wl_nil (tn (wp_ret (then_r ?_))))))
 refine post_ret (vs := [Zs]) results181 (rvs_cons (rv_tmp z) rvs_nil) ?_
 obtain rfl := List.eq_nil_of_length_eq_zero (isNil_len hsv hc280)
 exact ⟨_, z, (hst.own_nil ty_mvcc_Version).keep1⟩
}
 {
 refine wp_iff (cvb hc280) ?_
 refine wp_skip (tn (wp_seq (wrl ?_)))
 obtain ⟨b, w1, ew, eb, hst⟩ := hst.lits (E := ty_mvcc_Version) (xs := []) [] 214 0 z Reps.nil
 refine wl_run (v := (.slice (some ⟨b, 0, none⟩) 0 0)) (w' := w1) z z (x_als (by kernel_rfl) ew eb) ?_
 refine wv (r0_0) z z z ?_
 obtain ⟨v2, w2, hr, hst⟩ := run_append elem_238 underlying238 hst (Src.of_rdo hst f0_0) (room_of hg z) 238
 refine wl_run (v := v2) (w' := w2) z z (x_append z z hr) ?_
 refine wv (v2) z z z (wl_nil (tn (wp_ret ?_)))
 refine post_ret (vs := [v2]) results181 (rvs_cons (rv_tmp z) rvs_nil) ?_
 rw [List.nil_append] at hst
 exact ⟨_, z, hst.keep1⟩
}
}

theorem mvcc_Store_Trim_ref {w0 w : World} {I : HL} {R : SP} {a0 : (Option mvcc_Store)} {p0 : Value} {a1 : Int}  (hst : St w0 w I [objO at_mvcc_Store p0 a0] R) {r : ((Option mvcc_Store))} (hm : mvcc_Store_Trim a0 a1 = some r) :
  Calls prog 121 #[p0, U6 a1] w fun e w' => ∃ (I' : HL), e = .returned (.tuple #[]) ∧ I.le I' ∧ St w0 w' I' [objO at_mvcc_Store p0 r] R := by {
 rcases a0 with _ | o0
 {
 obtain ⟨rfl, hst'⟩ := objO_none hst
 clear hst
 have hst := hst'
 clear hst'
 dsimp only [mvcc_Store_Trim] at hm
 refine calls_start (args := [.pointer none, U6 a1]) func121 z ntmps121 (Nat.le_of_ble_eq_true z) ?_
 have hI0 := HL.le.refl I
 refine wp_seq (wrl ?_)
 obtain ⟨b789, w790, ew791, eb792, hst⟩ := hst.box [U6 a1] 26
 refine wl_run (v := Pt b789 0) (w' := w790) z z (x_al (by kernel_rfl) ew791 eb792) ?_
 refine wl_nil (tn (wp_seq (wp_seq (wrl (wv (.pointer none) z z z (wv (.bool true) z z (by kernel_rfl) (wl_nil (tn ?_))))))))
 refine wp_ift z ?_
 refine wp_ret (then_r ?_)
 replace hst := hst.objO_nil at_mvcc_Store
 obtain rfl := some_inj hm
 refine post_ret (vs := []) results121 rvs_nil ?_
 exact ⟨_, z, hI0, hst.keep1⟩
}
 {
 replace hst := objO_get hst
 dsimp only [mvcc_Store_Trim] at hm
 refine calls_start (args := [p0, U6 a1]) func121 z ntmps121 (Nat.le_of_ble_eq_true z) ?_
 have hI0 := HL.le.refl I
 refine wp_seq (wrl ?_)
 obtain ⟨b794, w795, ew796, eb797, hst⟩ := hst.box [U6 a1] 26
 refine wl_run (v := Pt b794 0) (w' := w795) z z (x_al (by kernel_rfl) ew796 eb797) ?_
 refine wl_nil (tn (wp_seq (wp_seq (wrl (wv (p0) z z z ?_)))))
 replace hst := hst.pull1
 obtain ⟨b799, v800, rfl, hst'⟩ := at_mvcc_Store_open hst
 clear hst
 have hst := hst'
 clear hst'
 refine wv (.bool false) z z (by kernel_rfl) (wl_nil (tn ?_))
 refine wp_iff z ?_
 refine wp_skip (tn (wp_seq (wrl ?_)))
 refine wv ((.slice none 0 0)) z z z (wl_nil (tn ?_))
 obtain ⟨y1405, hm, hx1406⟩ := bind_some hm
 refine wp_cut (fun a w => ∃ (I1402 : HL) (z1401 : (List mvcc_row)) (v1400 : Value) (σ1403 : Nat → Value), (mvcc_Store_Trim_j0) z1401 = some r ∧ a = Fr 57 (upd (upd σ1403 0 (Pt b799 0)) 4 (v1400)) ∧ I.le I1402 ∧ Ro ty_mvcc_row I1402 v800 o0.rows ∧ St w0 w I1402 [cells b799 [v800], ownN nest_mvcc_row v1400 z1401] R) ?_ ?_
 {
 have hL1407 := HL.le.refl I
 refine wp_seq (wrl (wv (Pt b799 0) z z z (wv (Pt b799 0) z z z (wv (Pt b799 0) z z (x_field z underlying201 z sizeOf199 z) ?_))))
 replace hst := hst.pull1
 obtain ⟨I803, hI804, f805, hst⟩ := hst.nest_fix (E2 := ty_mvcc_row) z nestrep_mvcc_row
 replace hI0 := hI0.trans hI804
 replace hL1407 := hL1407.trans hI804
 refine wv (v800) z z (x_load z isAgg199 (hst.bc0 z)) (wv (.int .i64 ((o0.rows).length : Int)) z z (x_len z underlying199 (ro_sliceV f805)) (wv (.int .i64 (0:Int)) z z z (wl_nil (tn (wp_block ?_)))))
 replace hst := hst.nest_nil nest_mvcc_row
 obtain ⟨n1247, hm⟩ := loopO_some hm
 refine wp_loop_n (fun n a w => ∃ (z1242 : Int) (z1243 : (List mvcc_row)) (v1244 : Value) (σ1246 : Nat → Value), loopN (mvcc_Store_Trim_l1 o0 a1) n (z1242, z1243) = some y1405 ∧ a = Fr 57 (upd (upd (upd (upd (upd (upd σ1246 0 (Pt b799 0)) 3 (Pt b794 0)) 4 (v1244)) 14 (v800)) 15 (.int .i64 ((o0.rows).length : Int))) 16 (.int .i64 z1242)) ∧ St w0 w I803 [ownN nest_mvcc_row v1244 z1243, cells b799 [v800], cells b794 [U6 a1]] R) n1247 ⟨(0:Int), [], Zs, _, hm, (fu 0 (Pt b799 0) z (fu 3 (Pt b794 0) z (fu 4 (.slice none 0 0) z (fu 14 v800 z (fu 15 (.int .i64 ((o0.rows).length : Int)) z (fu 16 (.int .i64 (0:Int)) z z)))))), hst⟩ ?_
 rintro n1253 _ w1248 ⟨z1242, z1243, v1244, σ1246, hm, rfl, hst⟩
 obtain ⟨n1250, y1251, rfl, hm, hx1252⟩ := loopN_some hm
 dsimp only [mvcc_Store_Trim_l1] at hm
 refine wp_seq (wrl (wv (.bool (decide (z1242 < ((o0.rows).length : Int)))) z z z (wl_nil (tn (wp_seq ?_)))))
 refine bsplit (decide (z1242 < ((o0.rows).length : Int))) (fun hc1254 => ?_) (fun hc1254 => ?_)
 {
 replace hm := bif_t hc1254 hm
 refine wp_ift (cvb hc1254) ?_
 refine wp_skip (tn (wp_seq (wp_block (wp_seq (wrl ?_)))))
 obtain ⟨x1255, hx1256, hm⟩ := bind_some hm
 obtain ⟨h1257, h1258, hi1259⟩ := geto_some hx1256
 refine wv (.pointer (some (eAddr v800 (z1242.toNat * 2 + 0)))) z z (x_index z z underlying199 sizeOf240 (ro_sliceV f805) h1257 h1258) ?_
 obtain ⟨cs1260, hr1261, hc1262⟩ := Ro.getF f805 hi1259
 obtain ⟨v1263, rfl, f1264, -⟩ := hr1261
 refine wv (.agg #[U6 x1255.rank, v1263]) z z (x_loadN (cs := [U6 x1255.rank, v1263]) z isAgg240 sizeOf240 (eCells (o := 0) (hc1262 (HL.le.refl _) hst) z)) ?_
 obtain ⟨b1267, w1268, ew1269, eb1270, hst⟩ := hst.box [Zu, Zs] 240
 refine wl_run (v := Pt b1267 0) (w' := w1268) z z (x_al (by kernel_rfl) ew1269 eb1270) ?_
 obtain ⟨w1272, hr1273, hst⟩ := hst.bx [U6 x1255.rank, v1263] sizeOf240 z (oC z (oC (one_of_sliceV (ro_sliceV f1264)) oN)) (by kernel_rfl)
 refine wl_unit z z (x_unit hr1273) ?_
 refine wl_nil (tn (wp_seq (wrl (wv (Pt b1267 1) z z (x_field z underlying240 z sizeOf238 z) (wv (v1263) z z (x_load z isAgg238 (hst.bc0 z)) (wv (.int .i64 ((x1255.l).length : Int)) z z (x_len z underlying238 (ro_sliceV f1264)) (wv (.func (.func 180) #[] #[Pt b1267 0, Pt b794 0]) z z (by kernel_rfl) ?_)))))))
 obtain ⟨y1342, hq1343, hm⟩ := bind_some hm
 refine wl_call z z (x_callv call179 (caps := []) z (vs := [I6 ((x1255.l).length : Int), .func (.func 180) #[] #[Pt b1267 0, Pt b794 0]]) z) ?_
 refine Calls.mono (show Calls prog 179 #[I6 ((x1255.l).length : Int), .func (.func 180) #[] #[Pt b1267 0, Pt b794 0]] _ (fun e w' => ∃ (z1340 : Int), z1340 = y1342 ∧ e = .returned (.int .i64 z1340) ∧ St w0 w' I803 [cells b799 [v800], cells b794 [U6 a1], ownN nest_mvcc_row v1244 z1243, cells b1267 [U6 x1255.rank, v1263]] R) from ?_) ?_
 {
 clear hm; have hm := hq1343
 refine calls_start (args := [I6 ((x1255.l).length : Int), .func (.func 180) #[] #[Pt b1267 0, Pt b794 0]]) func179 z ntmps179 (Nat.le_of_ble_eq_true z) ?_
 refine wp_seq (wrl (wv (.int .i64 (0:Int)) z z z (wl_nil (tn (wp_seq (wrl (wv (.int .i64 ((x1255.l).length : Int)) z z z (wv (.int .i64 (0:Int)) z z z (wv (.int .i64 ((x1255.l).length : Int)) z z z (wl_nil (tn (wp_seq (wp_block ?_)))))))))))))
 obtain ⟨n1315, hm⟩ := loopO_some hm
 refine wp_loop_n (fun n a w => ∃ (z1312 : Int) (z1313 : Int) (σ1314 : Nat → Value), loopN (mvcc_Store_Trim_l2 x1255 a1) n (z1312, z1313) = some y1342 ∧ a = Fr 26 (upd (upd (upd σ1314 1 (.func (.func 180) #[] #[Pt b1267 0, Pt b794 0])) 5 (.int .i64 z1312)) 6 (.int .i64 z1313)) ∧ St w0 w I803 [cells b1267 [U6 x1255.rank, v1263], ownN nest_mvcc_row v1244 z1243, cells b799 [v800], cells b794 [U6 a1]] R) n1315 ⟨(0:Int), ((x1255.l).length : Int), _, hm, (fu 1 (.func (.func 180) #[] #[Pt b1267 0, Pt b794 0]) z (fu 5 (.int .i64 (0:Int)) z (fu 6 (.int .i64 ((x1255.l).length : Int)) z z))), hst⟩ ?_
 rintro n1321 _ w1316 ⟨z1312, z1313, σ1314, hm, rfl, hst⟩
 obtain ⟨n1318, y1319, rfl, hm, hx1320⟩ := loopN_some hm
 dsimp only [mvcc_Store_Trim_l2] at hm
 refine wp_seq (wp_seq (wrl (wv (.int .i64 z1312) z z z (wv (.int .i64 z1313) z z z (wv (.bool (decide (z1312 < z1313))) z z z (wl_nil (tn ?_)))))))
 refine bsplit (decide (z1312 < z1313)) (fun hc1322 => ?_) (fun hc1322 => ?_)
 {
 replace hm := bif_t hc1322 hm
 refine wp_ift (cvb hc1322) ?_
 refine wp_skip (tn (wp_block (wp_seq (wrl ?_))))
 refine wv (.int .i64 z1312) z z z (wv (.int .i64 z1313) z z z (wv (.int .i64 (i64.wrap (z1312 + z1313))) z z z (wv (.int .u64 (u64.wrap (i64.wrap (z1312 + z1313)))) z z (by kernel_rfl) (wv (.int .u64 (iShr .u64 (u64.wrap (i64.wrap (z1312 + z1313))) (1:Int))) z z (x_shr (by decide) z z) (wv (.int .i64 (i64.wrap (iShr .u64 (u64.wrap (i64.wrap (z1312 + z1313))) (1:Int)))) z z (by kernel_rfl) (wv (.int .i64 (i64.wrap (iShr .u64 (u64.wrap (i64.wrap (z1312 + z1313))) (1:Int)))) z z z (wl_nil (tn (wp_seq (wrl (wv (.func (.func 180) #[] #[Pt b1267 0, Pt b794 0]) z z z (wv (.int .i64 (i64.wrap (iShr .u64 (u64.wrap (i64.wrap (z1312 + z1313))) (1:Int)))) z z z ?_))))))))))))
 obtain ⟨y1336, hq1337, hm⟩ := bind_some hm
 refine wl_call z z (x_callv call180 (caps := [Pt b1267 0, Pt b794 0]) z (vs := [I6 (i64.wrap (iShr .u64 (u64.wrap (i64.wrap (z1312 + z1313))) (1:Int)))]) z) ?_
 refine Calls.mono (show Calls prog 180 #[I6 (i64.wrap (iShr .u64 (u64.wrap (i64.wrap (z1312 + z1313))) (1:Int))), Pt b1267 0, Pt b794 0] _ (fun e w' => ∃ (z1334 : Bool), z1334 = y1336 ∧ e = .returned (.bool z1334) ∧ St w0 w' I803 [cells b799 [v800], cells b794 [U6 a1], ownN nest_mvcc_row v1244 z1243, cells b1267 [U6 x1255.rank, v1263]] R) from ?_) ?_
 {
 clear hm; have hm := hq1337
 refine calls_start (args := [I6 (i64.wrap (iShr .u64 (u64.wrap (i64.wrap (z1312 + z1313))) (1:Int))), Pt b1267 0, Pt b794 0]) func180 z ntmps180 (Nat.le_of_ble_eq_true z) ?_
 refine wp_seq (wrl (wv (.bool false) z z z (wl_nil (tn (wp_seq ?_)))))
 refine wq_regionS hst Tryz.mixed (by kernel_rfl) ?_
 refine wq_run (v := Pt b1267 1) z z (fun w hst => x_field z underlying240 z sizeOf238 z) ?_
 refine wq_run (v := v1263) z z (fun w hst => x_load z isAgg238 (hst.bc0 z)) ?_
 refine wq_run (v := .int .i64 (i64.wrap (iShr .u64 (u64.wrap (i64.wrap (z1312 + z1313))) (1:Int)))) z z (fun w hst => z) ?_
 obtain ⟨x1323, hx1324, hm⟩ := bind_some hm
 obtain ⟨h1325, h1326, hi1327⟩ := geto_some hx1324
 refine wq_run (v := .pointer (some (eAddr v1263 ((i64.wrap (iShr .u64 (u64.wrap (i64.wrap (z1312 + z1313))) (1:Int))).toNat * 4 + 0)))) z z (fun w hst => x_index z z underlying238 sizeOf214 (ro_sliceV f1264) h1325 h1326) ?_
 refine wq_run (v := .pointer (some (eAddr v1263 ((i64.wrap (iShr .u64 (u64.wrap (i64.wrap (z1312 + z1313))) (1:Int))).toNat * 4 + 0)))) z z (fun w hst => x_field_e z underlying214 z sizeOf26 z) ?_
 obtain ⟨cs1328, hr1329, hc1330⟩ := Ro.getF f1264 hi1327
 obtain ⟨v1331, rfl, f1332, -⟩ := hr1329
 refine wq_run (v := .int .u64 x1323.Epoch) z z (fun w hst => x_load z isAgg26 ((hc1330 (HL.le.refl _) hst) 0 _ z)) ?_
 refine wq_run (v := .int .u64 a1) z z (fun w hst => x_load z isAgg26 (hst.bc3 z)) ?_
 refine wq_run (v := .bool (decide (x1323.Epoch > a1))) z z (fun w hst => z) ?_
 refine wq_run (v := .bool (decide (x1323.Epoch > a1))) z z (fun w hst => z) ?_
 refine wq_nil ?_
 intro w hst
 refine tn (wp_ret ?_)
 refine post_ret (vs := [.bool (decide (x1323.Epoch > a1))]) results180 (rvs_cons (rv_tmp z) rvs_nil) ?_
 replace hst := hst.pull1.pull3.pull3.keep4
 obtain rfl := some_inj hm
 exact ⟨(decide (x1323.Epoch > a1)), z, z, hst⟩
}
 clear hst
 rintro _ w1338 ⟨z1334, rfl, rfl, hst⟩
 refine ⟨_, z, ?_⟩
 try dsimp only at hm
 refine wv (.bool (!z1334)) z z z (wl_nil (tn ?_))
 refine bsplit (!z1334) (fun hc1339 => ?_) (fun hc1339 => ?_)
 {
 replace hm := bif_t hc1339 hm
 refine wp_ift (cvb hc1339) ?_
 refine wrl (wv (.int .i64 (i64.wrap (iShr .u64 (u64.wrap (i64.wrap (z1312 + z1313))) (1:Int)))) z z z (wv (.int .i64 (i64.wrap ((i64.wrap (iShr .u64 (u64.wrap (i64.wrap (z1312 + z1313))) (1:Int))) + (1:Int)))) z z z (wv (.int .i64 (i64.wrap ((i64.wrap (iShr .u64 (u64.wrap (i64.wrap (z1312 + z1313))) (1:Int))) + (1:Int)))) z z z (wl_nil (blk_n (tn ?_))))))
 replace hst := hst.pull1.pull1.pull2.pull3.keep4
 obtain rfl := some_inj hm
 exact ⟨_, Nat.lt_succ_self _, (i64.wrap ((i64.wrap (iShr .u64 (u64.wrap (i64.wrap (z1312 + z1313))) (1:Int))) + (1:Int))), z1313, _, hx1320, (fu 1 (.func (.func 180) #[] #[Pt b1267 0, Pt b794 0]) z (fu 5 (.int .i64 (i64.wrap ((i64.wrap (iShr .u64 (u64.wrap (i64.wrap (z1312 + z1313))) (1:Int))) + (1:Int)))) z (fu 6 (.int .i64 z1313) z z))), hst⟩
}
 {
 replace hm := bif_f hc1339 hm
 refine wp_iff (cvb hc1339) ?_
 refine wrl (wv (.int .i64 (i64.wrap (iShr .u64 (u64.wrap (i64.wrap (z1312 + z1313))) (1:Int)))) z z z (wv (.int .i64 (i64.wrap (iShr .u64 (u64.wrap (i64.wrap (z1312 + z1313))) (1:Int)))) z z z (wl_nil (blk_n (tn ?_)))))
 replace hst := hst.pull1.pull1.pull2.pull3.keep4
 obtain rfl := some_inj hm
 exact ⟨_, Nat.lt_succ_self _, z1312, (i64.wrap (iShr .u64 (u64.wrap (i64.wrap (z1312 + z1313))) (1:Int))), _, hx1320, (fu 1 (.func (.func 180) #[] #[Pt b1267 0, Pt b794 0]) z (fu 5 (.int .i64 z1312) z (fu 6 (.int .i64 (i64.wrap (iShr .u64 (u64.wrap (i64.wrap (z1312 + z1313))) (1:Int)))) z z))), hst⟩
}
}
 {
 replace hm := bif_f hc1322 hm
 refine wp_iff (cvb hc1322) ?_
 refine wp_exit (then_x (then_x ?_))
 replace hm := inr_up hm hx1320
 refine blk_x (tn (wp_seq (wrl ?_)))
 refine wv (.int .i64 z1312) z z z (wv (.int .i64 z1312) z z z (wl_nil (tn (wp_ret ?_))))
 refine post_ret (vs := [I6 z1312]) results179 (rvs_cons (rv_tmp z) rvs_nil) ?_
 replace hst := hst.pull1.pull3.pull3.keep4
 obtain rfl := some_inj hm
 exact ⟨z1312, z, z, hst⟩
}
}
 clear hst
 rintro _ w1344 ⟨z1340, rfl, rfl, hst⟩
 refine ⟨_, z, ?_⟩
 try dsimp only at hm
 refine wv (.int .i64 z1340) z z z (wl_nil (tn (wp_seq (wrl (wv (Pt b1267 1) z z (x_field z underlying240 z sizeOf238 z) (wv (v1263) z z (x_load z isAgg238 (hst.bc3 z)) (wv (.int .i64 z1340) z z z (wv (.int .i64 (i64.wrap (z1340 - (1:Int)))) z z z (wv (.int .i64 (if (0:Int) > (i64.wrap (z1340 - (1:Int))) then (0:Int) else (i64.wrap (z1340 - (1:Int))))) z z (by kernel_rfl) ?_)))))))))
 obtain ⟨hg1345, hm⟩ := gd_some hm
 obtain ⟨h1346, h1347, h1348⟩ := fits_of hg1345
 have f1350 : Ro ty_mvcc_Version I803 (slcV 4 v1263 (if (0:Int) > (i64.wrap (z1340 - (1:Int))) then (0:Int) else (i64.wrap (z1340 - (1:Int)))).toNat (((x1255.l).length : Nat) : Int).toNat) (subs x1255.l (if (0:Int) > (i64.wrap (z1340 - (1:Int))) then (0:Int) else (i64.wrap (z1340 - (1:Int)))) (((x1255.l).length : Nat) : Int)) := Ro.part f1264 h1347 h1348 h1346
 refine wv ((slcV 4 v1263 (if (0:Int) > (i64.wrap (z1340 - (1:Int))) then (0:Int) else (i64.wrap (z1340 - (1:Int)))).toNat (((x1255.l).length : Nat) : Int).toNat)) z z (x_slice underlying238 sizeOf214 z (ro_sliceV f1264) h1346 h1347 h1348 .i64 .i64 (.inl z) (.inr ⟨z, z⟩)) ?_
 obtain ⟨t1351, ht1352, hm⟩ := bind_some hm
 refine wc call181 [(slcV 4 v1263 (if (0:Int) > (i64.wrap (z1340 - (1:Int))) then (0:Int) else (i64.wrap (z1340 - (1:Int)))).toNat (((x1255.l).length : Nat) : Int).toNat)] z z z ?_
 refine (slices_Clone_mvcc_Version_mvcc_Version_ref (RdO.of_ro f1350 _) hst.to0 ht1352).mono ?_
 rintro _ w1353 ⟨v1356, rfl, hst⟩
 refine ⟨_, z, ?_⟩
 replace hst := hst.of1
 refine wv (v1356) z z z (wl_nil (tn ?_))
 obtain ⟨y1381, hm, hx1382⟩ := bind_some hm
 refine wp_cut (fun a w => ∃ (z1378 : (List mvcc_Version)) (v1377 : Value) (σ1379 : Nat → Value), (mvcc_Store_Trim_j3 z1243 x1255 z1242) z1378 = some y1251 ∧ a = Fr 57 (upd (upd (upd (upd (upd (upd (upd (upd σ1379 0 (Pt b799 0)) 3 (Pt b794 0)) 4 (v1244)) 6 (Pt b1267 0)) 8 (v1377)) 14 (v800)) 15 (.int .i64 ((o0.rows).length : Int))) 16 (.int .i64 z1242)) ∧ St w0 w I803 [cells b799 [v800], cells b794 [U6 a1], ownN nest_mvcc_row v1244 z1243, cells b1267 [U6 x1255.rank, v1263], ownS ty_mvcc_Version v1377 z1378] R) ?_ ?_
 {
 refine wp_seq (wrl (wv (.int .i64 z1340) z z z (wv (.bool (decide (z1340 > (0:Int)))) z z z (wv (.bool (decide (z1340 > (0:Int)))) z z z ?_))))
 refine bsplit (decide (z1340 > (0:Int))) (fun hc1358 => ?_) (fun hc1358 => ?_)
 {
 replace hm := bif_t hc1358 hm
 refine wv (v1356) ((wanted_eq z z z (cvb hc1358)).trans z) z z ?_
 obtain ⟨x1359, hx1360, hm⟩ := bind_some hm
 obtain ⟨h1361, h1362, hi1363⟩ := geto_some hx1360
 refine wv (.pointer (some (eAddr v1356 ((0:Int).toNat * 4 + 0)))) ((wanted_eq z z z (cvb hc1358)).trans z) z (x_index z z underlying238 sizeOf214 hst.sv0 h1361 h1362) (wv (.pointer (some (eAddr v1356 ((0:Int).toNat * 4 + 2)))) ((wanted_eq z z z (cvb hc1358)).trans z) z (x_field_e z underlying214 z sizeOf4 z) ?_)
 obtain ⟨cs1364, hr1365, hc1366⟩ := hst.og0 hi1363
 obtain ⟨v1367, rfl, f1368, -⟩ := hr1365
 refine wv (.bool x1359.Del) ((wanted_eq z z z (cvb hc1358)).trans z) z (x_load z isAgg4 (hc1366 2 _ z)) (wv (.bool x1359.Del) z z (x_pick_t hc1358 z z) (wl_nil (tn ?_)))
 refine bsplit x1359.Del (fun hc1370 => ?_) (fun hc1370 => ?_)
 {
 replace hm := bif_t hc1370 hm
 refine wp_ift (cvb hc1370) ?_
 refine wrl (wv (v1356) z z z ?_)
 obtain ⟨hg1371, hm⟩ := gd_some hm
 obtain ⟨h1372, h1373, h1374⟩ := fits_of hg1371
 refine wv ((slcV 4 v1356 (1:Int).toNat (((t1351).length : Nat) : Int).toNat)) z z (x_slice underlying238 sizeOf214 z hst.sv0 h1372 h1373 h1374 .i64 .i64 (.inl z) (.inr ⟨z, z⟩)) ?_
 replace hst := hst.own_part h1373 h1374 h1372
 refine wv ((slcV 4 v1356 (1:Int).toNat (((t1351).length : Nat) : Int).toNat)) z z z (wl_nil (tn ?_))
 replace hst := hst.pull4.pull4.pull4.pull4.keep5
 obtain rfl := some_inj hm
 exact ⟨(subs t1351 (1:Int) (((t1351).length : Nat) : Int)), (slcV 4 v1356 (1:Int).toNat (((t1351).length : Nat) : Int).toNat), _, hx1382, (fu 0 (Pt b799 0) z (fu 3 (Pt b794 0) z (fu 4 v1244 z (fu 6 (Pt b1267 0) z (fu 8 (slcV 4 v1356 (1:Int).toNat (((t1351).length : Nat) : Int).toNat) z (fu 14 v800 z (fu 15 (.int .i64 ((o0.rows).length : Int)) z (fu 16 (.int .i64 z1242) z z)))))))), hst⟩
}
 {
 replace hm := bif_f hc1370 hm
 refine wp_iff (cvb hc1370) ?_
 refine wp_skip (tn ?_)
 replace hst := hst.pull4.pull4.pull4.pull4.keep5
 obtain rfl := some_inj hm
 exact ⟨t1351, v1356, _, hx1382, (fu 0 (Pt b799 0) z (fu 3 (Pt b794 0) z (fu 4 v1244 z (fu 6 (Pt b1267 0) z (fu 8 v1356 z (fu 14 v800 z (fu 15 (.int .i64 ((o0.rows).length : Int)) z (fu 16 (.int .i64 z1242) z z)))))))), hst⟩
}
}
 {
 replace hm := bif_f hc1358 hm
 refine wo hc1358 z z z z z z (wo hc1358 z z z z z z (wo hc1358 z z z z z z (wo hc1358 z z z z z z (wv (.bool false) z z (x_pick_f hc1358 z z) (wl_nil (tn ?_))))))
 refine wp_iff z ?_
 refine wp_skip (tn ?_)
 replace hst := hst.pull4.pull4.pull4.pull4.keep5
 obtain rfl := some_inj hm
 exact ⟨t1351, v1356, _, hx1382, (fu 0 (Pt b799 0) z (fu 3 (Pt b794 0) z (fu 4 v1244 z (fu 6 (Pt b1267 0) z (fu 8 v1356 z (fu 14 v800 z (fu 15 (.int .i64 ((o0.rows).length : Int)) z (fu 16 (.int .i64 z1242) z z)))))))), hst⟩
}
}
 {
 clear hst
 rintro _ w1383 ⟨z1378, v1377, σ1379, hm, rfl, hst⟩
 dsimp only [mvcc_Store_Trim_j3] at hm
 refine wp_seq (wrl (wv (v1377) z z z (wv (.int .i64 ((z1378).length : Int)) z z (x_len z underlying238 hst.sv4) (wv (.bool (decide (((z1378).length : Int) > (0:Int)))) z z z (wl_nil (tn ?_))))))
 refine bsplit (decide (((z1378).length : Int) > (0:Int))) (fun hc1384 => ?_) (fun hc1384 => ?_)
 {
 replace hm := bif_t hc1384 hm
 refine wp_ift (cvb hc1384) ?_
 refine wrl (wv (v1244) z z z (wv (Pt b1267 0) z z (x_field z underlying240 z sizeOf26 z) (wv (.int .u64 x1255.rank) z z (x_load z isAgg26 (hst.bc3 z)) (wv (v1377) z z z (wv (.agg #[U6 x1255.rank, v1377]) z z (by obtain ⟨_, _, hv_, _⟩ := hst.sv4; rw [hv_]; kernel_rfl) ?_)))))
 replace hst := hst.pull4
 have hv1392 := hst.sv0
 obtain ⟨b1387, w1388, ew1389, eb1390, hst⟩ := hst.nest_one (N := nest_mvcc_row) (x := ({ rank := x1255.rank, l := z1378 } : mvcc_row)) 240
 refine wl_run (v := (.slice (some ⟨b1387, 0, none⟩) 1 1)) (w' := w1388) z z (x_als (by obtain ⟨_, _, hv_, _⟩ := hv1392; rw [hv_]; kernel_rfl) ew1389 eb1390) ?_
 obtain ⟨hg1393, hm⟩ := gd_some hm
 replace hst := hst.pull3.pull1.pull1
 obtain ⟨v1394, w1395, hr1396, hst⟩ := run_appN (N := nest_mvcc_row) elemN_199 underlying199 hst (room_of hg1393 z) 199
 refine wl_run (v := v1394) (w' := w1395) z z (x_append z z hr1396) ?_
 refine wv (v1394) z z z (wl_nil (blk_n (tn (wrl (wv (.int .i64 (i64.wrap (z1242 + (1:Int)))) z z z (wv (.int .i64 (i64.wrap (z1242 + (1:Int)))) z z z (wl_nil (tn ?_))))))))
 replace hst := hst.pull2.pull2.pull2.keep3
 obtain rfl := some_inj hm
 exact ⟨_, Nat.lt_succ_self _, (i64.wrap (z1242 + (1:Int))), (z1243 ++ ([({ rank := x1255.rank, l := z1378 } : mvcc_row)])), v1394, _, hx1252, (fu 0 (Pt b799 0) z (fu 3 (Pt b794 0) z (fu 4 v1394 z (fu 14 v800 z (fu 15 (.int .i64 ((o0.rows).length : Int)) z (fu 16 (.int .i64 (i64.wrap (z1242 + (1:Int)))) z z)))))), hst⟩
}
 {
 replace hm := bif_f hc1384 hm
 refine wp_iff (cvb hc1384) ?_
 refine wp_skip (blk_n (tn (wrl ?_)))
 refine wv (.int .i64 (i64.wrap (z1242 + (1:Int)))) z z z (wv (.int .i64 (i64.wrap (z1242 + (1:Int)))) z z z (wl_nil (tn ?_)))
 replace hst := hst.pull1.pull1.pull2.keep3
 obtain rfl := some_inj hm
 exact ⟨_, Nat.lt_succ_self _, (i64.wrap (z1242 + (1:Int))), z1243, v1244, _, hx1252, (fu 0 (Pt b799 0) z (fu 3 (Pt b794 0) z (fu 4 v1244 z (fu 14 v800 z (fu 15 (.int .i64 ((o0.rows).length : Int)) z (fu 16 (.int .i64 (i64.wrap (z1242 + (1:Int)))) z z)))))), hst⟩
}
}
}
 {
 replace hm := bif_f hc1254 hm
 refine wp_iff (cvb hc1254) ?_
 refine wp_exit (then_x (then_x ?_))
 replace hm := inr_up hm hx1252
 refine blk_x (tn ?_)
 replace hst := hst.pull1.keep2
 obtain rfl := some_inj hm
 exact ⟨_, z1243, v1244, _, hx1406, (fu 0 (Pt b799 0) z (fu 4 v1244 z z)), hL1407, f805, hst⟩
}
}
 {
 clear hst
 rintro _ w1408 ⟨I1402, z1401, v1400, σ1403, hm, rfl, hL1404, f1398, hst⟩
 dsimp only [mvcc_Store_Trim_j0] at hm
 replace hI0 := hI0.trans hL1404
 refine wrl (wv (Pt b799 0) z z z (wv (v1400) z z z (wv (Pt b799 0) z z z (wv (Pt b799 0) z z (x_field z underlying201 z sizeOf199 z) ?_))))
 obtain ⟨w1409, hr1410, hst⟩ := hst.boxStore1 (P := prog) (t := 199) (cs' := [v1400]) 0 v1400 (one_of_sliceV (hst.nestsv 1 z)) sizeOf199 z z
 refine wl_unit z z (x_unit hr1410) ?_
 refine wl_nil ?_
 replace hst := hst.pull1.pull1
 replace hst := at_mvcc_Store_close (pv := Pt b799 0) (x := ({ rows := z1401 } : mvcc_Store)) hst z
 replace hst := objO_some hst
 obtain rfl := some_inj hm
 refine post_end (vs := []) results121 rvs_nil ?_
 exact ⟨_, z, hI0, hst.keep1⟩
}
}
}

theorem lane_State_shut_ref {w0 w : World} {I : HL} {R : SP} {a0 : (Option lane_State)} {p0 : Value} {a1 : api_Command} {r1_0 : Value} {r1_1 : Value} {r1_2 : Value} {r1_3 : Value} {r1_4 : Value} {r1_5 : Value} {r1_6 : Value} {r1_7 : Value} (f1_0 : Rd tyF64 R I r1_0 a1.Hold.Gets) (f1_1 : Rd tyF2 R I r1_1 a1.Hold.Scans) (f1_2 : Rd tyF64 R I r1_2 a1.Hold.Puts) (f1_3 : Rd (tyInt .u8) R I r1_3 a1.Hold.Data) (f1_4 : Rd ty_api_Write R I r1_4 a1.Writes) (f1_5 : Rd ty_api_Got R I r1_5 a1.R.Gots) (f1_6 : Rd (tySl ty_api_Pair) R I r1_6 a1.R.Scans) (f1_7 : Rd ty_api_Part R I r1_7 a1.Parts) (hst : St w0 w I [objO at_lane_State p0 a0] R) {r : (api_Effect × (Option lane_State))} (hm : lane_State_shut a0 a1 = some r) :
  Calls prog 47 #[p0, .agg #[U1 a1.Kind, U6 a1.ID.Session, U6 a1.ID.Seq, U6 a1.Epoch, U6 a1.Index, I6 a1.E, U6 a1.Hold.ID.Session, U6 a1.Hold.ID.Seq, U6 a1.Hold.Epoch, r1_0, r1_1, r1_2, r1_3, r1_4, I6 a1.R.E, U6 a1.R.Epoch, U6 a1.R.Index, r1_5, r1_6, U6 a1.Shards, r1_7, U6 a1.Rule.ID, I6 a1.Rule.From, I6 a1.Rule.To, F6 a1.Rule.Lo, F6 a1.Rule.Hi, U6 a1.Rule.Authority, I6 a1.Rule.Quota, .bool a1.On]] w fun e w' => ∃ (I' : HL) (q0_0 : Value) (q0_1 : Value), e = .returned (.agg #[U1 r.1.Kind, U6 r.1.ID.Session, U6 r.1.ID.Seq, I6 r.1.R.E, U6 r.1.R.Epoch, U6 r.1.R.Index, q0_0, q0_1]) ∧ I.le I' ∧ St w0 w' I' [ownS ty_api_Got q0_0 r.1.R.Gots, ownS (tySl ty_api_Pair) q0_1 r.1.R.Scans, objO at_lane_State p0 r.2] R := by {
 rcases a0 with _ | o0
 {
 obtain ⟨rfl, hst'⟩ := objO_none hst
 clear hst
 have hst := hst'
 clear hst'
 dsimp only [lane_State_shut] at hm
 refine calls_start (args := [.pointer none, .agg #[U1 a1.Kind, U6 a1.ID.Session, U6 a1.ID.Seq, U6 a1.Epoch, U6 a1.Index, I6 a1.E, U6 a1.Hold.ID.Session, U6 a1.Hold.ID.Seq, U6 a1.Hold.Epoch, r1_0, r1_1, r1_2, r1_3, r1_4, I6 a1.R.E, U6 a1.R.Epoch, U6 a1.R.Index, r1_5, r1_6, U6 a1.Shards, r1_7, U6 a1.Rule.ID, I6 a1.Rule.From, I6 a1.Rule.To, F6 a1.Rule.Lo, F6 a1.Rule.Hi, U6 a1.Rule.Authority, I6 a1.Rule.Quota, .bool a1.On]]) func47 z ntmps47 (Nat.le_of_ble_eq_true z) ?_
 have hI0 := HL.le.refl I
 refine wp_seq (wrl ?_)
 obtain ⟨b187, w188, ew189, eb190, hst⟩ := hst.box [U1 a1.Kind, U6 a1.ID.Session, U6 a1.ID.Seq, U6 a1.Epoch, U6 a1.Index, I6 a1.E, U6 a1.Hold.ID.Session, U6 a1.Hold.ID.Seq, U6 a1.Hold.Epoch, r1_0, r1_1, r1_2, r1_3, r1_4, I6 a1.R.E, U6 a1.R.Epoch, U6 a1.R.Index, r1_5, r1_6, U6 a1.Shards, r1_7, U6 a1.Rule.ID, I6 a1.Rule.From, I6 a1.Rule.To, F6 a1.Rule.Lo, F6 a1.Rule.Hi, U6 a1.Rule.Authority, I6 a1.Rule.Quota, .bool a1.On] 49
 refine wl_run (v := Pt b187 0) (w' := w188) z z (x_al (by kernel_rfl) ew189 eb190) ?_
 obtain ⟨b194, w195, ew196, eb197, hst⟩ := hst.box [Zb, Zu, Zu, Zi, Zu, Zu, Zs, Zs] 35
 refine wl_run (v := Pt b194 0) (w' := w195) z z (x_al (by kernel_rfl) ew196 eb197) ?_
 refine wl_nil (tn (wp_seq (wp_seq ?_)))
 refine wp_region_St hst 12 [0, 1, 2, 3, 4, 5, 6, 7, 8, 9, 10, 11] [0, 1, 0, 4, 12, 28, 63, 127, 255, 511, 1023, 2047] [] z (by kernel_rfl) (by kernel_rfl) Tryz.mixed (by kernel_rfl) ?_
 refine wsr (Pt b187 3) 0 z z z (by kernel_rfl) (fun w hst => x_field z underlying49 z sizeOf26 z) (wsr (.int .u64 a1.Epoch) 1 z z z (by kernel_rfl) (fun w hst => x_load z isAgg26 (hst.bc1 z)) (wsr (.pointer none) 2 z z z (by kernel_rfl) (fun w hst => z) ?_))
 cases hm
}
 {
 replace hst := objO_get hst
 dsimp only [lane_State_shut] at hm
 refine calls_start (args := [p0, .agg #[U1 a1.Kind, U6 a1.ID.Session, U6 a1.ID.Seq, U6 a1.Epoch, U6 a1.Index, I6 a1.E, U6 a1.Hold.ID.Session, U6 a1.Hold.ID.Seq, U6 a1.Hold.Epoch, r1_0, r1_1, r1_2, r1_3, r1_4, I6 a1.R.E, U6 a1.R.Epoch, U6 a1.R.Index, r1_5, r1_6, U6 a1.Shards, r1_7, U6 a1.Rule.ID, I6 a1.Rule.From, I6 a1.Rule.To, F6 a1.Rule.Lo, F6 a1.Rule.Hi, U6 a1.Rule.Authority, I6 a1.Rule.Quota, .bool a1.On]]) func47 z ntmps47 (Nat.le_of_ble_eq_true z) ?_
 have hI0 := HL.le.refl I
 refine wp_seq (wrl ?_)
 obtain ⟨b199, w200, ew201, eb202, hst⟩ := hst.box [U1 a1.Kind, U6 a1.ID.Session, U6 a1.ID.Seq, U6 a1.Epoch, U6 a1.Index, I6 a1.E, U6 a1.Hold.ID.Session, U6 a1.Hold.ID.Seq, U6 a1.Hold.Epoch, r1_0, r1_1, r1_2, r1_3, r1_4, I6 a1.R.E, U6 a1.R.Epoch, U6 a1.R.Index, r1_5, r1_6, U6 a1.Shards, r1_7, U6 a1.Rule.ID, I6 a1.Rule.From, I6 a1.Rule.To, F6 a1.Rule.Lo, F6 a1.Rule.Hi, U6 a1.Rule.Authority, I6 a1.Rule.Quota, .bool a1.On] 49
 refine wl_run (v := Pt b199 0) (w' := w200) z z (x_al (by kernel_rfl) ew201 eb202) ?_
 obtain ⟨b206, w207, ew208, eb209, hst⟩ := hst.box [Zb, Zu, Zu, Zi, Zu, Zu, Zs, Zs] 35
 refine wl_run (v := Pt b206 0) (w' := w207) z z (x_al (by kernel_rfl) ew208 eb209) ?_
 refine wl_nil (tn (wp_seq (wp_seq ?_)))
 replace hst := hst.pull2
 obtain ⟨b211, v212, v214, v216, v218, v220, v222, v224, rfl, hst'⟩ := at_lane_State_open hst
 clear hst
 have hst := hst'
 clear hst'
 refine wp_region_St hst 12 [0, 1, 2, 3, 4, 5, 6, 7, 8, 9, 10, 11] [0, 1, 0, 4, 12, 28, 63, 127, 255, 511, 1023, 2047] [] z (by kernel_rfl) (by kernel_rfl) Tryz.mixed (by kernel_rfl) ?_
 refine wsr (Pt b199 3) 0 z z z (by kernel_rfl) (fun w hst => x_field z underlying49 z sizeOf26 z) (wsr (.int .u64 a1.Epoch) 1 z z z (by kernel_rfl) (fun w hst => x_load z isAgg26 (hst.bc9 z)) (wsr (Pt b211 0) 2 z z z (by kernel_rfl) (fun w hst => z) (wsr (Pt b211 0) 3 z z z (by kernel_rfl) (fun w hst => z) (wsr (Pt b211 1) 4 z z z (by kernel_rfl) (fun w hst => x_field z underlying111 z sizeOf26 z) (wsr (.int .u64 o0.epoch) 5 z z z (by kernel_rfl) (fun w hst => x_load z isAgg26 (hst.bc0 z)) (wsr (.bool (a1.Epoch != o0.epoch)) 6 z z z (by kernel_rfl) (fun w hst => z) (wsr (.bool (a1.Epoch != o0.epoch)) 7 z z z (by kernel_rfl) (fun w hst => z) ?_)))))))
 refine bsplit (a1.Epoch != o0.epoch) (fun hc226 => ?_) (fun hc226 => ?_)
 {
 replace hm := bif_t hc226 hm
 refine ws_q (v := undef) 8 [9, 10, 11] (by kernel_rfl) z z (yi_off ((wanted_eq z z z (cvb hc226)).trans z)) (ws_q (v := undef) 9 [10, 11] (by kernel_rfl) z z (yi_off ((wanted_eq z z z (cvb hc226)).trans z)) (ws_q (v := undef) 10 [11] (by kernel_rfl) z z (yi_off ((wanted_eq z z z (cvb hc226)).trans z)) (wsr (.bool true) 11 z z z (by kernel_rfl) (fun w hst => x_pick_t hc226 z z) ?_)))
 refine ws_nil ?_
 intro w hst
 refine tn ?_
 refine wp_ift z ?_
 refine wp_seq (wrl (wv (.agg #[Zb, Zu, Zu, Zi, Zu, Zu, Zs, Zs]) z z (by kernel_rfl) ?_))
 replace hst := hst.pull8
 obtain ⟨w229, hr230, hst⟩ := hst.bx [Zb, Zu, Zu, Zi, Zu, Zu, Zs, Zs] sizeOf35 z (oC z (oC z (oC z (oC z (oC z (oC z (oC z (oC z oN)))))))) (by kernel_rfl)
 refine wl_unit z z (x_unit hr230) ?_
 refine wl_nil (tn (wp_ret (then_r ?_)))
 replace hst := hst.own_nil ty_api_Got
 replace hst := hst.own_nil (tySl ty_api_Pair)
 replace hst := hst.pull10.pull10.pull10.pull10.pull10.pull10.pull10.pull10
 replace hst := at_lane_State_close (pv := Pt b211 0) (x := o0) hst z
 replace hst := objO_some hst
 obtain rfl := some_inj hm
 refine post_ret (vs := [.agg #[Zb, Zu, Zu, Zi, Zu, Zu, Zs, Zs]]) results47 (rvs_cons (rv_cell (cs := [Zb, Zu, Zu, Zi, Zu, Zu, Zs, Zs]) z isAgg35 sizeOf35 (hst.bcs3 0 z)) rvs_nil) ?_
 replace hst := hst.pull1.pull2
 exact ⟨_, Zs, Zs, z, hI0, hst.keep3⟩
}
 {
 replace hm := bif_f hc226 hm
 refine ws_q (v := Pt b211 0) 8 [9, 10, 11] (by kernel_rfl) z z (yi_run ((wanted_eq z z z (cvb hc226)).trans z) (fun w hst => z)) ?_
 refine ws_e1 9 (by kernel_rfl) ?_
 refine nxe [10, 11] (by kernel_rfl) z ((wanted_eq z z z (cvb hc226)).trans z) ?_
 clear hst
 intro w hst
 replace hst := hst.pull7.pull7.pull7.pull7.pull7.pull7.pull7.pull7
 replace hst := at_lane_State_close (pv := Pt b211 0) (x := o0) hst z
 replace hst := objO_some hst
 obtain ⟨t231, ht232, hm⟩ := bind_some hm
 refine wec call85 [Pt b211 0] z z ?_
 refine (lane_State_May_ref hst.to1 ht232).mono ?_
 rintro _ w233 ⟨rfl, hst⟩
 refine ⟨_, z, ?_⟩
 replace hst := hst.of1
 replace hst := objO_get hst
 refine ws_next (pend' := []) hst (by kernel_rfl) pk_nil ?_
 refine ws_q (v := .bool (!t231)) 10 [11] (by kernel_rfl) z z (yi_run ((wanted_eq z z z (cvb hc226)).trans z) (fun w hst => z)) (wsr (.bool (!t231)) 11 z z z (by kernel_rfl) (fun w hst => x_pick_f hc226 z z) ?_)
 refine ws_nil ?_
 intro w hst
 refine tn ?_
 refine bsplit (!t231) (fun hc236 => ?_) (fun hc236 => ?_)
 {
 replace hm := bif_t hc236 hm
 refine wp_ift (cvb hc236) ?_
 refine wp_seq (wrl (wv (.agg #[Zb, Zu, Zu, Zi, Zu, Zu, Zs, Zs]) z z (by kernel_rfl) ?_))
 replace hst := hst.pull1
 obtain ⟨w239, hr240, hst⟩ := hst.bx [Zb, Zu, Zu, Zi, Zu, Zu, Zs, Zs] sizeOf35 z (oC z (oC z (oC z (oC z (oC z (oC z (oC z (oC z oN)))))))) (by kernel_rfl)
 refine wl_unit z z (x_unit hr240) ?_
 refine wl_nil (tn (wp_ret (then_r ?_)))
 replace hst := hst.own_nil ty_api_Got
 replace hst := hst.own_nil (tySl ty_api_Pair)
 replace hst := hst.pull3
 replace hst := objO_some hst
 obtain rfl := some_inj hm
 refine post_ret (vs := [.agg #[Zb, Zu, Zu, Zi, Zu, Zu, Zs, Zs]]) results47 (rvs_cons (rv_cell (cs := [Zb, Zu, Zu, Zi, Zu, Zu, Zs, Zs]) z isAgg35 sizeOf35 (hst.bcs3 0 z)) rvs_nil) ?_
 replace hst := hst.pull1.pull2
 exact ⟨_, Zs, Zs, z, hI0, hst.keep3⟩
}
 {
 replace hm := bif_f hc236 hm
 refine wp_iff (cvb hc236) ?_
 refine wp_skip (tn (wp_seq (wrl ?_)))
 refine wv (Pt b211 0) z z z ?_
 obtain ⟨b241, v242, v244, v246, v248, v250, v252, v254, e256, hst'⟩ := at_lane_State_open hst
 clear hst
 have e256 := ptr_inj e256
 subst e256
 have hst := hst'
 clear hst'
 refine wv (Pt b211 0) z z z (wv (Pt b211 1) z z (x_field z underlying111 z sizeOf26 z) (wv (.int .u64 o0.epoch) z z (x_load z isAgg26 (hst.bc0 z)) (wv (.int .u64 (u64.wrap (o0.epoch + (1:Int)))) z z z (wv (Pt b211 0) z z z (wv (Pt b211 1) z z (x_field z underlying111 z sizeOf26 z) ?_)))))
 obtain ⟨w257, hr258, hst⟩ := hst.by_ [I6 o0.wide, U6 (u64.wrap (o0.epoch + (1:Int))), v242, v244, v246, v248, v250, v252, v254] 1 (.int .u64 (u64.wrap (o0.epoch + (1:Int)))) sizeOf26 z (oC z oN) (by kernel_rfl)
 refine wl_unit z z (x_unit hr258) ?_
 refine wl_nil (tn (wp_seq (wp_seq (wrl (wv (Pt b211 0) z z z (wv (Pt b211 0) z z z (wv (Pt b211 1) z z (x_field z underlying111 z sizeOf26 z) (wv (.int .u64 (u64.wrap (o0.epoch + (1:Int)))) z z (x_load z isAgg26 (hst.bc0 z)) (wv (.bool (decide ((u64.wrap (o0.epoch + (1:Int))) > (9:Int)))) z z z (wl_nil (tn ?_)))))))))))
 refine bsplit (decide ((u64.wrap (o0.epoch + (1:Int))) > (9:Int))) (fun hc259 => ?_) (fun hc259 => ?_)
 {
 replace hm := bif_t hc259 hm
 refine wp_ift (cvb hc259) ?_
 refine wp_region_St hst 11 [0, 1, 2, 3, 4, 5, 6, 7, 8, 9, 10] [0, 1, 3, 7, 0, 16, 48, 112, 240, 496, 1023] [] z (by kernel_rfl) (by kernel_rfl) Tryz.mixed (by kernel_rfl) ?_
 refine wsr (Pt b211 0) 0 z z z (by kernel_rfl) (fun w hst => z) (wsr (Pt b211 0) 1 z z z (by kernel_rfl) (fun w hst => z) (wsr (Pt b211 2) 2 z z z (by kernel_rfl) (fun w hst => x_field z underlying111 z sizeOf101 z) (wsr (v242) 3 z z z (by kernel_rfl) (fun w hst => x_load z isAgg101 (hst.bc0 z)) (wsr (Pt b211 0) 4 z z z (by kernel_rfl) (fun w hst => z) (wsr (Pt b211 0) 5 z z z (by kernel_rfl) (fun w hst => z) (wsr (Pt b211 1) 6 z z z (by kernel_rfl) (fun w hst => x_field z underlying111 z sizeOf26 z) (wsr (.int .u64 (u64.wrap (o0.epoch + (1:Int)))) 7 z z z (by kernel_rfl) (fun w hst => x_load z isAgg26 (hst.bc0 z)) (wsr (.int .u64 (u64.wrap ((u64.wrap (o0.epoch + (1:Int))) - (1:Int)))) 8 z z z (by kernel_rfl) (fun w hst => z) (wsr (.int .u64 (u64.wrap ((u64.wrap ((u64.wrap (o0.epoch + (1:Int))) - (1:Int))) - (8:Int)))) 9 z z z (by kernel_rfl) (fun w hst => z) ?_)))))))))
 refine ws_e1 10 (by kernel_rfl) ?_
 refine nxe [] (by kernel_rfl) z z ?_
 clear hst
 intro w hst
 replace hst := hst.pull1
 obtain ⟨t260, ht261, hm⟩ := bind_some hm
 refine wec call121 [v242, U6 (u64.wrap ((u64.wrap ((u64.wrap (o0.epoch + (1:Int))) - (1:Int))) - (8:Int)))] z z ?_
 refine (mvcc_Store_Trim_ref hst.to1 ht261).mono ?_
 rintro _ w262 ⟨I263, rfl, hI264, hst⟩
 refine ⟨_, z, ?_⟩
 replace hst := hst.of1
 replace f1_0 := f1_0.mono (rd_le hI264)
 replace f1_1 := f1_1.mono (rd_le hI264)
 replace f1_2 := f1_2.mono (rd_le hI264)
 replace f1_3 := f1_3.mono (rd_le hI264)
 replace f1_4 := f1_4.mono (rd_le hI264)
 replace f1_5 := f1_5.mono (rd_le hI264)
 replace f1_6 := f1_6.mono (rd_le hI264)
 replace f1_7 := f1_7.mono (rd_le hI264)
 replace hI0 := hI0.trans hI264
 refine ws_next (pend' := []) hst (by kernel_rfl) pk_nil ?_
 refine ws_nil ?_
 intro w hst
 refine tn (wp_seq (wrl (wv (.agg #[U1 (1:Int), Zu, Zu, Zi, Zu, Zu, Zs, Zs]) z z (by kernel_rfl) ?_)))
 replace hst := hst.pull8
 obtain ⟨w267, hr268, hst⟩ := hst.bx [U1 (1:Int), Zu, Zu, Zi, Zu, Zu, Zs, Zs] sizeOf35 z (oC z (oC z (oC z (oC z (oC z (oC z (oC z (oC z oN)))))))) (by kernel_rfl)
 refine wl_unit z z (x_unit hr268) ?_
 refine wl_nil (tn (wp_ret ?_))
 replace hst := hst.own_nil ty_api_Got
 replace hst := hst.own_nil (tySl ty_api_Pair)
 replace hst := hst.pull10.pull10.pull10.pull10.pull10.pull10.pull9.pull10
 replace hst := at_lane_State_close (pv := Pt b211 0) (x := ({ wide := o0.wide, epoch := (u64.wrap (o0.epoch + (1:Int))), store := t260, locks := o0.locks, last := o0.last, book := o0.book, open_ := o0.open_, out := o0.out, used := o0.used } : lane_State)) hst z
 replace hst := objO_some hst
 obtain rfl := some_inj hm
 refine post_ret (vs := [.agg #[U1 (1:Int), Zu, Zu, Zi, Zu, Zu, Zs, Zs]]) results47 (rvs_cons (rv_cell (cs := [U1 (1:Int), Zu, Zu, Zi, Zu, Zu, Zs, Zs]) z isAgg35 sizeOf35 (hst.bcs3 0 z)) rvs_nil) ?_
 replace hst := hst.pull1.pull2
 exact ⟨_, Zs, Zs, z, hI0, hst.keep3⟩
}
 {
 replace hm := bif_f hc259 hm
 refine wp_iff (cvb hc259) ?_
 refine wp_skip (tn (wp_seq (wrl ?_)))
 refine wv (.agg #[U1 (1:Int), Zu, Zu, Zi, Zu, Zu, Zs, Zs]) z z (by kernel_rfl) ?_
 replace hst := hst.pull8
 obtain ⟨w271, hr272, hst⟩ := hst.bx [U1 (1:Int), Zu, Zu, Zi, Zu, Zu, Zs, Zs] sizeOf35 z (oC z (oC z (oC z (oC z (oC z (oC z (oC z (oC z oN)))))))) (by kernel_rfl)
 refine wl_unit z z (x_unit hr272) ?_
 refine wl_nil (tn (wp_ret ?_))
 replace hst := hst.own_nil ty_api_Got
 replace hst := hst.own_nil (tySl ty_api_Pair)
 replace hst := hst.pull10.pull10.pull10.pull10.pull10.pull10.pull10.pull10
 replace hst := at_lane_State_close (pv := Pt b211 0) (x := ({ wide := o0.wide, epoch := (u64.wrap (o0.epoch + (1:Int))), store := o0.store, locks := o0.locks, last := o0.last, book := o0.book, open_ := o0.open_, out := o0.out, used := o0.used } : lane_State)) hst z
 replace hst := objO_some hst
 obtain rfl := some_inj hm
 refine post_ret (vs := [.agg #[U1 (1:Int), Zu, Zu, Zi, Zu, Zu, Zs, Zs]]) results47 (rvs_cons (rv_cell (cs := [U1 (1:Int), Zu, Zu, Zi, Zu, Zu, Zs, Zs]) z isAgg35 sizeOf35 (hst.bcs3 0 z)) rvs_nil) ?_
 replace hst := hst.pull1.pull2
 exact ⟨_, Zs, Zs, z, hI0, hst.keep3⟩
}
}
}
}
}

theorem cmp_isNaN_uint64_ref {w0 w : World} {I : HL} {R : SP} {a0 : Int}  (hst : St w0 w I [] R) {r : (Bool)} (hm : cmp_isNaN_uint64 a0 = some r) :
  Calls prog 190 #[U6 a0] w fun e w' => e = .returned (.bool r) ∧ St w0 w' I [] R := by {
 unfold cmp_isNaN_uint64 at hm
 refine calls_start (args := [U6 a0]) func190 z ntmps190 (Nat.le_of_ble_eq_true z) ?_
 refine wp_seq (wrl (wv (.bool false) z z z (wl_nil (tn (wp_seq (wrl (wv (.int .u64 a0) z z z (wv (.int .u64 a0) z z z (wv (.bool (a0 != a0)) z z z (wv (.bool (a0 != a0)) z z z (wl_nil (tn (wp_ret ?_)))))))))))))
 obtain rfl := some_inj hm
 refine post_ret (vs := [.bool (a0 != a0)]) results190 (rvs_cons (rv_tmp z) rvs_nil) ?_
 exact ⟨z, hst.keep0⟩
}

theorem cmp_Compare_uint64_ref {w0 w : World} {I : HL} {R : SP} {a0 : Int} {a1 : Int}  (hst : St w0 w I [] R) {r : (Int)} (hm : cmp_Compare_uint64 a0 a1 = some r) :
  Calls prog 131 #[U6 a0, U6 a1] w fun e w' => e = .returned (.int .i64 r) ∧ St w0 w' I [] R := by {
 unfold cmp_Compare_uint64 at hm
 refine calls_start (args := [U6 a0, U6 a1]) func131 z ntmps131 (Nat.le_of_ble_eq_true z) ?_
 refine wp_seq (wrl (wv (.int .i64 (0:Int)) z z z (wl_nil (tn (wp_seq (wrl (wv (.int .u64 a0) z z z ?_)))))))
 obtain ⟨t245, ht246, hm⟩ := bind_some hm
 refine wc call190 [U6 a0] z z z ?_
 refine (cmp_isNaN_uint64_ref hst.to0 ht246).mono ?_
 rintro _ w247 ⟨rfl, hst⟩
 refine ⟨_, z, ?_⟩
 replace hst := hst.of0
 refine wv (.bool t245) z z z (wl_nil (tn (wp_seq (wrl (wv (.int .u64 a1) z z z ?_)))))
 obtain ⟨t250, ht251, hm⟩ := bind_some hm
 refine wc call190 [U6 a1] z z z ?_
 refine (cmp_isNaN_uint64_ref hst.to0 ht251).mono ?_
 rintro _ w252 ⟨rfl, hst⟩
 refine ⟨_, z, ?_⟩
 replace hst := hst.of0
 refine wv (.bool t250) z z z (wl_nil (tn (wp_seq (wp_seq (wrl (wv (.bool t245) z z z (wl_nil (tn ?_))))))))
 refine bsplit t245 (fun hc255 => ?_) (fun hc255 => ?_)
 {
 replace hm := bif_t hc255 hm
 refine wp_ift (cvb hc255) ?_
 refine wp_seq (wp_seq (wrl (wv (.bool t250) z z z (wl_nil (tn ?_)))))
 refine bsplit t250 (fun hc256 => ?_) (fun hc256 => ?_)
 {
 replace hm := bif_t hc256 hm
 refine wp_ift (cvb hc256) ?_
 refine wp_seq (wrl (wv (.int .i64 (0:Int)) z z z (wl_nil (tn (wp_ret (then_r (then_r ?_)))))))
 obtain rfl := some_inj hm
 refine post_ret (vs := [Zi]) results131 (rvs_cons (rv_tmp z) rvs_nil) ?_
 exact ⟨z, hst.keep0⟩
}
 {
 replace hm := bif_f hc256 hm
 refine wp_iff (cvb hc256) ?_
 refine wp_skip (tn (wp_seq (wrl ?_)))
 refine wv (.int .i64 ((-1):Int)) z z z (wl_nil (tn (wp_ret (then_r ?_))))
 obtain rfl := some_inj hm
 refine post_ret (vs := [I6 ((-1):Int)]) results131 (rvs_cons (rv_tmp z) rvs_nil) ?_
 exact ⟨z, hst.keep0⟩
}
}
 {
 replace hm := bif_f hc255 hm
 refine wp_iff (cvb hc255) ?_
 refine wp_skip (tn (wp_seq (wp_seq (wrl ?_))))
 refine wv (.bool t250) z z z (wl_nil (tn ?_))
 refine bsplit t250 (fun hc257 => ?_) (fun hc257 => ?_)
 {
 replace hm := bif_t hc257 hm
 refine wp_ift (cvb hc257) ?_
 refine wp_seq (wrl (wv (.int .i64 (1:Int)) z z z (wl_nil (tn (wp_ret (then_r ?_))))))
 obtain rfl := some_inj hm
 refine post_ret (vs := [I6 (1:Int)]) results131 (rvs_cons (rv_tmp z) rvs_nil) ?_
 exact ⟨z, hst.keep0⟩
}
 {
 replace hm := bif_f hc257 hm
 refine wp_iff (cvb hc257) ?_
 refine wp_skip (tn (wp_seq (wp_seq (wrl ?_))))
 refine wv (.int .u64 a0) z z z (wv (.int .u64 a1) z z z (wv (.bool (decide (a0 < a1))) z z z (wl_nil (tn ?_))))
 refine bsplit (decide (a0 < a1)) (fun hc258 => ?_) (fun hc258 => ?_)
 {
 replace hm := bif_t hc258 hm
 refine wp_ift (cvb hc258) ?_
 refine wp_seq (wrl (wv (.int .i64 ((-1):Int)) z z z (wl_nil (tn (wp_ret (then_r ?_))))))
 obtain rfl := some_inj hm
 refine post_ret (vs := [I6 ((-1):Int)]) results131 (rvs_cons (rv_tmp z) rvs_nil) ?_
 exact ⟨z, hst.keep0⟩
}
 {
 replace hm := bif_f hc258 hm
 refine wp_iff (cvb hc258) ?_
 refine wp_skip (tn (wp_seq (wp_seq (wrl ?_))))
 refine wv (.int .u64 a0) z z z (wv (.int .u64 a1) z z z (wv (.bool (decide (a0 > a1))) z z z (wl_nil (tn ?_))))
 refine bsplit (decide (a0 > a1)) (fun hc259 => ?_) (fun hc259 => ?_)
 {
 replace hm := bif_t hc259 hm
 refine wp_ift (cvb hc259) ?_
 refine wp_seq (wrl (wv (.int .i64 (1:Int)) z z z (wl_nil (tn (wp_ret (then_r ?_))))))
 obtain rfl := some_inj hm
 refine post_ret (vs := [I6 (1:Int)]) results131 (rvs_cons (rv_tmp z) rvs_nil) ?_
 exact ⟨z, hst.keep0⟩
}
 {
 replace hm := bif_f hc259 hm
 refine wp_iff (cvb hc259) ?_
 refine wp_skip (tn (wp_seq (wrl ?_)))
 refine wv (.int .i64 (0:Int)) z z z (wl_nil (tn (wp_ret ?_)))
 obtain rfl := some_inj hm
 refine post_ret (vs := [Zi]) results131 (rvs_cons (rv_tmp z) rvs_nil) ?_
 exact ⟨z, hst.keep0⟩
}
}
}
}
}

theorem cmp_Or_int_ref {w0 w : World} {I : HL} {R : SP} {a0 : (List Int)} {r0_0 : Value} (f0_0 : Rd (tyInt .i64) R I r0_0 a0) (hst : St w0 w I [] R) {r : (Int)} (hm : cmp_Or_int a0 = some r) :
  Calls prog 130 #[r0_0] w fun e w' => e = .returned (.int .i64 r) ∧ St w0 w' I [] R := by {
 unfold cmp_Or_int at hm
 refine calls_start (args := [r0_0]) func130 z ntmps130 (Nat.le_of_ble_eq_true z) ?_
 refine wp_seq (wrl (wv (.int .i64 (0:Int)) z z z (wl_nil (tn (wp_seq (wrl (wv (.int .i64 (0:Int)) z z z (wl_nil (tn (wp_seq (wp_seq (wrl (wv (r0_0) z z z (wv (.int .i64 ((a0).length : Int)) z z (x_len z underlying276 (rd_sliceV f0_0)) (wv (.int .i64 (0:Int)) z z z (wl_nil (tn (wp_block ?_))))))))))))))))))
 obtain ⟨n280, hm⟩ := loopO_some hm
 refine wp_loop_n (fun n a w => ∃ (z278 : Int) (σ279 : Nat → Value), loopN (cmp_Or_int_l0 a0) n z278 = some r ∧ a = Fr 18 (upd (upd (upd (upd σ279 3 (.int .i64 (0:Int))) 6 (r0_0)) 7 (.int .i64 ((a0).length : Int))) 8 (.int .i64 z278)) ∧ St w0 w I [] R) n280 ⟨(0:Int), _, hm, (fu 3 (.int .i64 (0:Int)) z (fu 6 r0_0 z (fu 7 (.int .i64 ((a0).length : Int)) z (fu 8 (.int .i64 (0:Int)) z z)))), hst⟩ ?_
 rintro n286 _ w281 ⟨z278, σ279, hm, rfl, hst⟩
 obtain ⟨n283, y284, rfl, hm, hx285⟩ := loopN_some hm
 dsimp only [cmp_Or_int_l0] at hm
 refine wp_seq (wrl (wv (.bool (decide (z278 < ((a0).length : Int)))) z z z (wl_nil (tn (wp_seq ?_)))))
 refine bsplit (decide (z278 < ((a0).length : Int))) (fun hc287 => ?_) (fun hc287 => ?_)
 {
 replace hm := bif_t hc287 hm
 refine wp_ift (cvb hc287) ?_
 refine wp_skip (tn (wp_seq (wp_block (wp_seq (wrl ?_)))))
 obtain ⟨x288, hx289, hm⟩ := bind_some hm
 obtain ⟨h290, h291, hi292⟩ := geto_some hx289
 refine wv (.pointer (some (eAddr r0_0 (z278.toNat * 1 + 0)))) z z (x_index z z underlying276 sizeOf3 (rd_sliceV f0_0) h290 h291) (wv (.int .i64 x288) z z (x_load z isAgg3 (rd_load f0_0 (HL.le.refl _) hst hi292 (by rintro _ rfl; rfl))) (wv (.int .i64 x288) z z z (wl_nil (tn (wp_seq (wrl (wv (.int .i64 x288) z z z (wv (.int .i64 (0:Int)) z z z (wv (.bool (x288 != (0:Int))) z z z (wl_nil (tn ?_)))))))))))
 refine bsplit (x288 != (0:Int)) (fun hc293 => ?_) (fun hc293 => ?_)
 {
 replace hm := bif_t hc293 hm
 refine wp_ift (cvb hc293) ?_
 refine wp_seq (wrl (wv (.int .i64 x288) z z z (wv (.int .i64 x288) z z z (wl_nil (tn (wp_ret (blk_r (then_r (then_r ?_)))))))))
 replace hm := inr_up hm hx285
 refine blk_r (then_r ?_)
 obtain rfl := some_inj hm
 refine post_ret (vs := [I6 x288]) results130 (rvs_cons (rv_tmp z) rvs_nil) ?_
 exact ⟨z, hst.keep0⟩
}
 {
 replace hm := bif_f hc293 hm
 refine wp_iff (cvb hc293) ?_
 refine wp_skip (blk_n (tn (wrl ?_)))
 refine wv (.int .i64 (i64.wrap (z278 + (1:Int)))) z z z (wv (.int .i64 (i64.wrap (z278 + (1:Int)))) z z z (wl_nil (tn ?_)))
 replace hst := hst.keep0
 obtain rfl := some_inj hm
 exact ⟨_, Nat.lt_succ_self _, (i64.wrap (z278 + (1:Int))), _, hx285, (fu 3 (.int .i64 (0:Int)) z (fu 6 r0_0 z (fu 7 (.int .i64 ((a0).length : Int)) z (fu 8 (.int .i64 (i64.wrap (z278 + (1:Int)))) z z)))), hst⟩
}
}
 {
 replace hm := bif_f hc287 hm
 refine wp_iff (cvb hc287) ?_
 refine wp_exit (then_x (then_x ?_))
 replace hm := inr_up hm hx285
 refine blk_x (tn (wp_seq (wrl ?_)))
 refine wv (.int .i64 (0:Int)) z z z (wv (.int .i64 (0:Int)) z z z (wl_nil (tn (wp_ret ?_))))
 obtain rfl := some_inj hm
 refine post_ret (vs := [Zi]) results130 (rvs_cons (rv_tmp z) rvs_nil) ?_
 exact ⟨z, hst.keep0⟩
}
}

theorem locks_compare_ref {w0 w : World} {I : HL} {R : SP} {a0 : api_Hold} {r0_0 : Value} {r0_1 : Value} {r0_2 : Value} {r0_3 : Value} {a1 : api_ID} (f0_0 : Rd tyF64 R I r0_0 a0.Gets) (f0_1 : Rd tyF2 R I r0_1 a0.Scans) (f0_2 : Rd tyF64 R I r0_2 a0.Puts) (f0_3 : Rd (tyInt .u8) R I r0_3 a0.Data) (hst : St w0 w I [] R) {r : (Int)} (hm : locks_compare a0 a1 = some r) :
  Calls prog 160 #[.agg #[U6 a0.ID.Session, U6 a0.ID.Seq, U6 a0.Epoch, r0_0, r0_1, r0_2, r0_3], .agg #[U6 a1.Session, U6 a1.Seq]] w fun e w' => e = .returned (.int .i64 r) ∧ St w0 w' I [] R := by {
 unfold locks_compare at hm
 refine calls_start (args := [.agg #[U6 a0.ID.Session, U6 a0.ID.Seq, U6 a0.Epoch, r0_0, r0_1, r0_2, r0_3], .agg #[U6 a1.Session, U6 a1.Seq]]) func160 z ntmps160 (Nat.le_of_ble_eq_true z) ?_
 refine wp_seq (wrl ?_)
 obtain ⟨b256, w257, ew258, eb259, hst⟩ := hst.box [U6 a0.ID.Session, U6 a0.ID.Seq, U6 a0.Epoch, r0_0, r0_1, r0_2, r0_3] 46
 refine wl_run (v := Pt b256 0) (w' := w257) z z (x_al (by kernel_rfl) ew258 eb259) ?_
 obtain ⟨b261, w262, ew263, eb264, hst⟩ := hst.box [U6 a1.Session, U6 a1.Seq] 28
 refine wl_run (v := Pt b261 0) (w' := w262) z z (x_al (by kernel_rfl) ew263 eb264) ?_
 refine wv (.int .i64 (0:Int)) z z z (wl_nil (tn (wp_seq ?_)))
 refine wp_region_St hst 15 [0, 1, 2, 3, 4, 5, 6, 7, 8, 9, 10, 11, 12, 13, 14] [0, 1, 3, 0, 8, 31, 0, 64, 192, 0, 512, 2047, 4095, 8191, 16383] [] z (by kernel_rfl) (by kernel_rfl) Tryz.mixed (by kernel_rfl) ?_
 refine wsr (Pt b256 0) 0 z z z (by kernel_rfl) (fun w hst => x_field z underlying46 z sizeOf28 z) (wsr (Pt b256 0) 1 z z z (by kernel_rfl) (fun w hst => x_field z underlying28 z sizeOf26 z) (wsr (.int .u64 a0.ID.Session) 2 z z z (by kernel_rfl) (fun w hst => x_load z isAgg26 (hst.bc1 z)) (wsr (Pt b261 0) 3 z z z (by kernel_rfl) (fun w hst => x_field z underlying28 z sizeOf26 z) (wsr (.int .u64 a1.Session) 4 z z z (by kernel_rfl) (fun w hst => x_load z isAgg26 (hst.bc0 z)) (wsr (Pt b256 0) 6 z z z (by kernel_rfl) (fun w hst => x_field z underlying46 z sizeOf28 z) (wsr (Pt b256 1) 7 z z z (by kernel_rfl) (fun w hst => x_field z underlying28 z sizeOf26 z) (wsr (.int .u64 a0.ID.Seq) 8 z z z (by kernel_rfl) (fun w hst => x_load z isAgg26 (hst.bc1 z)) (wsr (Pt b261 1) 9 z z z (by kernel_rfl) (fun w hst => x_field z underlying28 z sizeOf26 z) (wsr (.int .u64 a1.Seq) 10 z z z (by kernel_rfl) (fun w hst => x_load z isAgg26 (hst.bc0 z)) ?_)))))))))
 refine ws_e1 5 (by kernel_rfl) ?_
 refine nxe [11, 12, 13, 14] (by kernel_rfl) z z ?_
 clear hst
 intro w hst
 obtain ⟨t266, ht267, hm⟩ := bind_some hm
 refine wec call131 [U6 a0.ID.Session, U6 a1.Session] z z ?_
 refine (cmp_Compare_uint64_ref hst.to0 ht267).mono ?_
 rintro _ w268 ⟨rfl, hst⟩
 refine ⟨_, z, ?_⟩
 replace hst := hst.of0
 refine ws_next (pend' := [(10, U6 a1.Seq), (9, Pt b261 1), (8, U6 a0.ID.Seq), (7, Pt b256 1), (6, Pt b256 0)]) hst (by kernel_rfl) (pkr z z (fun w hst => x_load z isAgg26 (hst.bc0 z)) (pkr z z (fun w hst => x_field z underlying28 z sizeOf26 z) (pkr z z (fun w hst => x_load z isAgg26 (hst.bc1 z)) (pkr z z (fun w hst => x_field z underlying28 z sizeOf26 z) (pkr z z (fun w hst => x_field z underlying46 z sizeOf28 z) pk_nil))))) ?_
 refine ws_e1 11 (by kernel_rfl) ?_
 refine nxe [12, 13, 14] (by kernel_rfl) z z ?_
 clear hst
 intro w hst
 obtain ⟨t271, ht272, hm⟩ := bind_some hm
 refine wec call131 [U6 a0.ID.Seq, U6 a1.Seq] z z ?_
 refine (cmp_Compare_uint64_ref hst.to0 ht272).mono ?_
 rintro _ w273 ⟨rfl, hst⟩
 refine ⟨_, z, ?_⟩
 replace hst := hst.of0
 refine ws_next (pend' := []) hst (by kernel_rfl) pk_nil ?_
 refine ws_e1 12 (by kernel_rfl) ?_
 refine nxe [13, 14] (by kernel_rfl) z z ?_
 clear hst
 intro w hst
 obtain ⟨b276, w277, ew278, eb279, hst⟩ := hst.lits (E := (tyInt .i64)) (xs := [t266, t271]) [[I6 t266], [I6 t271]] 3 2 z (Reps.cons z (Reps.cons z Reps.nil))
 refine we_run (v := (.slice (some ⟨b276, 0, none⟩) 2 2)) (w' := w277) z (x_als (by kernel_rfl) ew278 eb279) ?_
 refine ws_next (pend' := []) hst (by kernel_rfl) pk_nil ?_
 refine ws_e1 13 (by kernel_rfl) ?_
 refine nxe [14] (by kernel_rfl) z z ?_
 clear hst
 intro w hst
 obtain ⟨css281, hq282, hst⟩ := hst.own_open
 obtain ⟨t283, ht284, hm⟩ := bind_some hm
 refine wec call130 [(.slice (some ⟨b276, 0, none⟩) 2 2)] z z ?_
 refine (cmp_Or_int_ref (hst.rdrow0 hq282) hst.to0 ht284).mono ?_
 rintro _ w285 ⟨rfl, hst⟩
 refine ⟨_, z, ?_⟩
 replace hst := hst.of0.own_close hq282
 refine ws_next (pend' := []) hst (by kernel_rfl) pk_nil ?_
 refine wsr (.int .i64 t283) 14 z z z (by kernel_rfl) (fun w hst => z) ?_
 refine ws_nil ?_
 intro w hst
 refine tn (wp_ret ?_)
 obtain rfl := some_inj hm
 refine post_ret (vs := [I6 t283]) results160 (rvs_cons (rv_tmp z) rvs_nil) ?_
 exact ⟨z, hst.keep0⟩
}

theorem locks_Table_find_ref {w0 w : World} {I : HL} {R : SP} {a0 : (Option locks_Table)} {p0 : Value} {a1 : api_ID}  (hst : St w0 w I [objO at_locks_Table p0 a0] R) {r : (Int × Bool)} (hm : locks_Table_find a0 a1 = some r) :
  Calls prog 135 #[p0, .agg #[U6 a1.Session, U6 a1.Seq]] w fun e w' => e = .returned (.tuple #[I6 r.1, .bool r.2]) ∧ St w0 w' I [objO at_locks_Table p0 a0] R := by {
 rcases a0 with _ | o0
 {
 obtain ⟨rfl, hst'⟩ := objO_none hst
 clear hst
 have hst := hst'
 clear hst'
 dsimp only [locks_Table_find] at hm
 refine calls_start (args := [.pointer none, .agg #[U6 a1.Session, U6 a1.Seq]]) func135 z ntmps135 (Nat.le_of_ble_eq_true z) ?_
 refine wp_seq (wrl ?_)
 obtain ⟨b333, w334, ew335, eb336, hst⟩ := hst.box [U6 a1.Session, U6 a1.Seq] 28
 refine wl_run (v := Pt b333 0) (w' := w334) z z (x_al (by kernel_rfl) ew335 eb336) ?_
 refine wv (.int .i64 (0:Int)) z z z (wv (.bool false) z z z (wl_nil (tn (wp_seq (wp_seq (wrl (wv (.pointer none) z z z (wv (.bool true) z z (by kernel_rfl) (wl_nil (tn ?_))))))))))
 refine wp_ift z ?_
 refine wp_seq (wrl (wv (.int .i64 (0:Int)) z z z (wv (.bool false) z z z (wl_nil (tn (wp_ret (then_r ?_)))))))
 replace hst := hst.objO_nil at_locks_Table
 obtain rfl := some_inj hm
 refine post_ret (vs := [Zi, .bool false]) results135 (rvs_cons (rv_tmp z) (rvs_cons (rv_tmp z) rvs_nil)) ?_
 exact ⟨z, hst.keep1⟩
}
 {
 replace hst := objO_get hst
 dsimp only [locks_Table_find] at hm
 refine calls_start (args := [p0, .agg #[U6 a1.Session, U6 a1.Seq]]) func135 z ntmps135 (Nat.le_of_ble_eq_true z) ?_
 refine wp_seq (wrl ?_)
 obtain ⟨b338, w339, ew340, eb341, hst⟩ := hst.box [U6 a1.Session, U6 a1.Seq] 28
 refine wl_run (v := Pt b338 0) (w' := w339) z z (x_al (by kernel_rfl) ew340 eb341) ?_
 refine wv (.int .i64 (0:Int)) z z z (wv (.bool false) z z z (wl_nil (tn (wp_seq (wp_seq (wrl (wv (p0) z z z ?_)))))))
 replace hst := hst.pull1
 obtain ⟨b343, v344, rfl, hst'⟩ := at_locks_Table_open hst
 clear hst
 have hst := hst'
 clear hst'
 refine wv (.bool false) z z (by kernel_rfl) (wl_nil (tn ?_))
 refine wp_iff z ?_
 refine wp_skip (tn (wp_seq ?_))
 refine wp_region_St hst 10 [0, 1, 2, 3, 4, 5, 6, 7, 8, 9] [0, 1, 3, 7, 0, 31, 63, 63, 255, 511] [] z (by kernel_rfl) (by kernel_rfl) Tryz.mixed (by kernel_rfl) ?_
 refine wsr (Pt b343 0) 0 z z z (by kernel_rfl) (fun w hst => z) (wsr (Pt b343 0) 1 z z z (by kernel_rfl) (fun w hst => z) (wsr (Pt b343 0) 2 z z z (by kernel_rfl) (fun w hst => x_field z underlying203 z sizeOf125 z) (wsr (v344) 3 z z z (by kernel_rfl) (fun w hst => x_load z isAgg125 (hst.bc0 z)) (wsr (.agg #[U6 a1.Session, U6 a1.Seq]) 4 z z z (by kernel_rfl) (fun w hst => x_loadN (cs := [U6 a1.Session, U6 a1.Seq]) z isAgg28 sizeOf28 (hst.bcs2 0 z)) ?_))))
 refine ws_e1 5 (by kernel_rfl) ?_
 refine nxe [6, 7, 8, 9] (by kernel_rfl) z z ?_
 clear hst
 intro w hst
 obtain ⟨y487, hq488, hm⟩ := bind_some hm
 refine we_call z (x_callv call193 (caps := []) z (vs := [v344, .agg #[U6 a1.Session, U6 a1.Seq], .func (.func 160) #[] #[]]) z) ?_
 refine Calls.mono (show Calls prog 193 #[v344, .agg #[U6 a1.Session, U6 a1.Seq], .func (.func 160) #[] #[]] _ (fun e w' => ∃ (z484 : Int) (z485 : Bool), (z484, z485) = y487 ∧ e = .returned (.tuple #[I6 z484, .bool z485]) ∧ St w0 w' I [cells b343 [v344], ownS ty_api_Hold v344 o0.l, cells b338 [U6 a1.Session, U6 a1.Seq]] R) from ?_) ?_
 {
 clear hm; have hm := hq488
 refine calls_start (args := [v344, .agg #[U6 a1.Session, U6 a1.Seq], .func (.func 160) #[] #[]]) func193 z ntmps193 (Nat.le_of_ble_eq_true z) ?_
 refine wp_seq (wrl ?_)
 obtain ⟨b346, w347, ew348, eb349, hst⟩ := hst.box [U6 a1.Session, U6 a1.Seq] 28
 refine wl_run (v := Pt b346 0) (w' := w347) z z (x_al (by kernel_rfl) ew348 eb349) ?_
 refine wv (.int .i64 (0:Int)) z z z (wv (.bool false) z z z (wl_nil (tn (wp_seq (wrl (wv (v344) z z z (wv (.int .i64 ((o0.l).length : Int)) z z (x_len z underlying125 hst.sv2) (wv (.int .i64 ((o0.l).length : Int)) z z z (wl_nil (tn (wp_seq (wrl (wv (.int .i64 ((o0.l).length : Int)) z z z (wv (.int .i64 (0:Int)) z z z (wv (.int .i64 ((o0.l).length : Int)) z z z (wl_nil (tn ?_)))))))))))))))))
 obtain ⟨y453, hm, hx454⟩ := bind_some hm
 refine wp_cut (fun a w => ∃ (z450 : Int) (σ451 : Nat → Value), (locks_Table_find_j0 o0 a1) z450 = some y487 ∧ a = Fr 49 (upd (upd (upd (upd (upd σ451 0 (v344)) 2 (.func (.func 160) #[] #[])) 4 (Pt b346 0)) 8 (.int .i64 ((o0.l).length : Int))) 9 (.int .i64 z450)) ∧ St w0 w I [ownS ty_api_Hold v344 o0.l, cells b346 [U6 a1.Session, U6 a1.Seq], cells b343 [v344], cells b338 [U6 a1.Session, U6 a1.Seq]] R) ?_ ?_
 {
 refine wp_block ?_
 obtain ⟨n414, hm⟩ := loopO_some hm
 refine wp_loop_n (fun n a w => ∃ (z411 : Int) (z412 : Int) (σ413 : Nat → Value), loopN (locks_Table_find_l1 o0 a1) n (z411, z412) = some y453 ∧ a = Fr 49 (upd (upd (upd (upd (upd (upd σ413 0 (v344)) 2 (.func (.func 160) #[] #[])) 4 (Pt b346 0)) 8 (.int .i64 ((o0.l).length : Int))) 9 (.int .i64 z412)) 10 (.int .i64 z411)) ∧ St w0 w I [cells b346 [U6 a1.Session, U6 a1.Seq], cells b343 [v344], ownS ty_api_Hold v344 o0.l, cells b338 [U6 a1.Session, U6 a1.Seq]] R) n414 ⟨((o0.l).length : Int), (0:Int), _, hm, (fu 0 v344 z (fu 2 (.func (.func 160) #[] #[]) z (fu 4 (Pt b346 0) z (fu 8 (.int .i64 ((o0.l).length : Int)) z (fu 9 (.int .i64 (0:Int)) z (fu 10 (.int .i64 ((o0.l).length : Int)) z z)))))), hst⟩ ?_
 rintro n420 _ w415 ⟨z411, z412, σ413, hm, rfl, hst⟩
 obtain ⟨n417, y418, rfl, hm, hx419⟩ := loopN_some hm
 dsimp only [locks_Table_find_l1] at hm
 refine wp_seq (wp_seq (wrl (wv (.int .i64 z412) z z z (wv (.int .i64 z411) z z z (wv (.bool (decide (z412 < z411))) z z z (wl_nil (tn ?_)))))))
 refine bsplit (decide (z412 < z411)) (fun hc421 => ?_) (fun hc421 => ?_)
 {
 replace hm := bif_t hc421 hm
 refine wp_ift (cvb hc421) ?_
 refine wp_skip (tn (wp_block (wp_seq (wrl ?_))))
 refine wv (.int .i64 z412) z z z (wv (.int .i64 z411) z z z (wv (.int .i64 (i64.wrap (z412 + z411))) z z z (wv (.int .u64 (u64.wrap (i64.wrap (z412 + z411)))) z z (by kernel_rfl) (wv (.int .u64 (iShr .u64 (u64.wrap (i64.wrap (z412 + z411))) (1:Int))) z z (x_shr (by decide) z z) (wv (.int .i64 (i64.wrap (iShr .u64 (u64.wrap (i64.wrap (z412 + z411))) (1:Int)))) z z (by kernel_rfl) (wv (.int .i64 (i64.wrap (iShr .u64 (u64.wrap (i64.wrap (z412 + z411))) (1:Int)))) z z z (wl_nil (tn (wp_seq ?_)))))))))
 replace hst := hst.pull2
 obtain ⟨css422, hq423, hst⟩ := hst.own_open
 refine wp_region_St hst 8 [0, 1, 2, 3, 4, 5, 6, 7] [0, 0, 0, 6, 14, 0, 63, 127] [] z (by kernel_rfl) (by kernel_rfl) Tryz.mixed (by kernel_rfl) ?_
 refine wsr (.func (.func 160) #[] #[]) 0 z z z (by kernel_rfl) (fun w hst => z) (wsr (v344) 1 z z z (by kernel_rfl) (fun w hst => z) (wsr (.int .i64 (i64.wrap (iShr .u64 (u64.wrap (i64.wrap (z412 + z411))) (1:Int)))) 2 z z z (by kernel_rfl) (fun w hst => z) ?_))
 obtain ⟨x424, hx425, hm⟩ := bind_some hm
 obtain ⟨h426, h427, hi428⟩ := geto_some hx425
 refine wsr (.pointer (some (eAddr v344 ((i64.wrap (iShr .u64 (u64.wrap (i64.wrap (z412 + z411))) (1:Int))).toNat * 7 + 0)))) 3 z z z (by kernel_rfl) (fun w hst => x_index z z underlying125 sizeOf46 (hst.rsv 0 z hq423) h426 h427) ?_
 obtain ⟨cs429, hc431, hr430⟩ := Reps.get hq423 hi428
 obtain ⟨v432, v435, v438, v441, rfl, f433, f436, f439, f442, -⟩ := hr430
 refine wsr (.agg #[U6 x424.ID.Session, U6 x424.ID.Seq, U6 x424.Epoch, v432, v435, v438, v441]) 4 z z z (by kernel_rfl) (fun w hst => x_loadN (cs := [U6 x424.ID.Session, U6 x424.ID.Seq, U6 x424.Epoch, v432, v435, v438, v441]) z isAgg46 sizeOf46 (eCells (o := 0) (hst.rcell 0 z hc431) z)) (wsr (.agg #[U6 a1.Session, U6 a1.Seq]) 5 z z z (by kernel_rfl) (fun w hst => x_loadN (cs := [U6 a1.Session, U6 a1.Seq]) z isAgg28 sizeOf28 (hst.bcs1 0 z)) ?_)
 refine ws_e1 6 (by kernel_rfl) ?_
 refine nxe [7] (by kernel_rfl) z z ?_
 clear hst
 intro w hst
 obtain ⟨t444, ht445, hm⟩ := bind_some hm
 refine we_call z (x_callv call160 (caps := []) z (vs := [.agg #[U6 x424.ID.Session, U6 x424.ID.Seq, U6 x424.Epoch, v432, v435, v438, v441], .agg #[U6 a1.Session, U6 a1.Seq]]) z) ?_
 refine (locks_compare_ref (f433.mono ro_rd) (f436.mono ro_rd) (f439.mono ro_rd) (f442.mono ro_rd) hst.to0 ht445).mono ?_
 rintro _ w446 ⟨rfl, hst⟩
 refine ⟨_, z, ?_⟩
 replace hst := hst.of0
 refine ws_next (pend' := []) hst (by kernel_rfl) pk_nil ?_
 refine wsr (.bool (decide (t444 < (0:Int)))) 7 z z z (by kernel_rfl) (fun w hst => z) ?_
 refine ws_nil ?_
 intro w hst
 replace hst := hst.own_close hq423
 refine tn ?_
 refine bsplit (decide (t444 < (0:Int))) (fun hc449 => ?_) (fun hc449 => ?_)
 {
 replace hm := bif_t hc449 hm
 refine wp_ift (cvb hc449) ?_
 refine wrl (wv (.int .i64 (i64.wrap (iShr .u64 (u64.wrap (i64.wrap (z412 + z411))) (1:Int)))) z z z (wv (.int .i64 (i64.wrap ((i64.wrap (iShr .u64 (u64.wrap (i64.wrap (z412 + z411))) (1:Int))) + (1:Int)))) z z z (wv (.int .i64 (i64.wrap ((i64.wrap (iShr .u64 (u64.wrap (i64.wrap (z412 + z411))) (1:Int))) + (1:Int)))) z z z (wl_nil (blk_n (tn ?_))))))
 replace hst := hst.pull3.pull1.pull3.pull3.keep4
 obtain rfl := some_inj hm
 exact ⟨_, Nat.lt_succ_self _, z411, (i64.wrap ((i64.wrap (iShr .u64 (u64.wrap (i64.wrap (z412 + z411))) (1:Int))) + (1:Int))), _, hx419, (fu 0 v344 z (fu 2 (.func (.func 160) #[] #[]) z (fu 4 (Pt b346 0) z (fu 8 (.int .i64 ((o0.l).length : Int)) z (fu 9 (.int .i64 (i64.wrap ((i64.wrap (iShr .u64 (u64.wrap (i64.wrap (z412 + z411))) (1:Int))) + (1:Int)))) z (fu 10 (.int .i64 z411) z z)))))), hst⟩
}
 {
 replace hm := bif_f hc449 hm
 refine wp_iff (cvb hc449) ?_
 refine wrl (wv (.int .i64 (i64.wrap (iShr .u64 (u64.wrap (i64.wrap (z412 + z411))) (1:Int)))) z z z (wv (.int .i64 (i64.wrap (iShr .u64 (u64.wrap (i64.wrap (z412 + z411))) (1:Int)))) z z z (wl_nil (blk_n (tn ?_)))))
 replace hst := hst.pull3.pull1.pull3.pull3.keep4
 obtain rfl := some_inj hm
 exact ⟨_, Nat.lt_succ_self _, (i64.wrap (iShr .u64 (u64.wrap (i64.wrap (z412 + z411))) (1:Int))), z412, _, hx419, (fu 0 v344 z (fu 2 (.func (.func 160) #[] #[]) z (fu 4 (Pt b346 0) z (fu 8 (.int .i64 ((o0.l).length : Int)) z (fu 9 (.int .i64 z412) z (fu 10 (.int .i64 (i64.wrap (iShr .u64 (u64.wrap (i64.wrap (z412 + z411))) (1:Int)))) z z)))))), hst⟩
}
}
 {
 replace hm := bif_f hc421 hm
 refine wp_iff (cvb hc421) ?_
 refine wp_exit (then_x (then_x ?_))
 replace hm := inr_up hm hx419
 refine blk_x (tn ?_)
 replace hst := hst.pull3.pull2.pull2.pull3.keep4
 obtain rfl := some_inj hm
 exact ⟨z412, _, hx454, (fu 0 v344 z (fu 2 (.func (.func 160) #[] #[]) z (fu 4 (Pt b346 0) z (fu 8 (.int .i64 ((o0.l).length : Int)) z (fu 9 (.int .i64 z412) z z))))), hst⟩
}
}
 {
 clear hst
 rintro _ w455 ⟨z450, σ451, hm, rfl, hst⟩
 dsimp only [locks_Table_find_j0] at hm
 refine wp_seq ?_
 obtain ⟨css456, hq457, hst⟩ := hst.own_open
 refine wp_region_St hst 16 [0, 1, 2, 3, 4, 5, 6, 7, 8, 9, 10, 11, 12, 13, 14, 15] [0, 0, 0, 6, 14, 30, 30, 30, 222, 478, 30, 2046, 4094, 8190, 4095, 32767] [] z (by kernel_rfl) (by kernel_rfl) Tryz.mixed (by kernel_rfl) ?_
 refine wsr (.int .i64 z450) 0 z z z (by kernel_rfl) (fun w hst => z) (wsr (.int .i64 z450) 1 z z z (by kernel_rfl) (fun w hst => z) (wsr (.int .i64 ((o0.l).length : Int)) 2 z z z (by kernel_rfl) (fun w hst => z) (wsr (.bool (decide (z450 < ((o0.l).length : Int)))) 3 z z z (by kernel_rfl) (fun w hst => z) (wsr (.bool (decide (z450 < ((o0.l).length : Int)))) 4 z z z (by kernel_rfl) (fun w hst => z) ?_))))
 refine bsplit (decide (z450 < ((o0.l).length : Int))) (fun hc458 => ?_) (fun hc458 => ?_)
 {
 replace hm := bif_t hc458 hm
 refine ws_q (v := .func (.func 160) #[] #[]) 5 [6, 7, 8, 9, 10, 11, 12, 13, 14, 15] (by kernel_rfl) z z (yi_run ((wanted_eq z z z (cvb hc458)).trans z) (fun w hst => z)) (ws_q (v := v344) 6 [7, 8, 9, 10, 11, 12, 13, 14, 15] (by kernel_rfl) z z (yi_run ((wanted_eq z z z (cvb hc458)).trans z) (fun w hst => z)) (ws_q (v := .int .i64 z450) 7 [8, 9, 10, 11, 12, 13, 14, 15] (by kernel_rfl) z z (yi_run ((wanted_eq z z z (cvb hc458)).trans z) (fun w hst => z)) ?_))
 obtain ⟨x459, hx460, hm⟩ := bind_some hm
 obtain ⟨h461, h462, hi463⟩ := geto_some hx460
 refine ws_q (v := .pointer (some (eAddr v344 (z450.toNat * 7 + 0)))) 8 [9, 10, 11, 12, 13, 14, 15] (by kernel_rfl) z z (yi_run ((wanted_eq z z z (cvb hc458)).trans z) (fun w hst => x_index z z underlying125 sizeOf46 (hst.rsv 0 z hq457) h461 h462)) ?_
 obtain ⟨cs464, hc466, hr465⟩ := Reps.get hq457 hi463
 obtain ⟨v467, v470, v473, v476, rfl, f468, f471, f474, f477, -⟩ := hr465
 refine ws_q (v := .agg #[U6 x459.ID.Session, U6 x459.ID.Seq, U6 x459.Epoch, v467, v470, v473, v476]) 9 [10, 11, 12, 13, 14, 15] (by kernel_rfl) z z (yi_run ((wanted_eq z z z (cvb hc458)).trans z) (fun w hst => x_loadN (cs := [U6 x459.ID.Session, U6 x459.ID.Seq, U6 x459.Epoch, v467, v470, v473, v476]) z isAgg46 sizeOf46 (eCells (o := 0) (hst.rcell 0 z hc466) z))) (ws_q (v := .agg #[U6 a1.Session, U6 a1.Seq]) 10 [11, 12, 13, 14, 15] (by kernel_rfl) z z (yi_run ((wanted_eq z z z (cvb hc458)).trans z) (fun w hst => x_loadN (cs := [U6 a1.Session, U6 a1.Seq]) z isAgg28 sizeOf28 (hst.bcs1 0 z))) ?_)
 refine ws_e1 11 (by kernel_rfl) ?_
 refine nxe [12, 13, 14, 15] (by kernel_rfl) z ((wanted_eq z z z (cvb hc458)).trans z) ?_
 clear hst
 intro w hst
 obtain ⟨t479, ht480, hm⟩ := bind_some hm
 refine we_call z (x_callv call160 (caps := []) z (vs := [.agg #[U6 x459.ID.Session, U6 x459.ID.Seq, U6 x459.Epoch, v467, v470, v473, v476], .agg #[U6 a1.Session, U6 a1.Seq]]) z) ?_
 refine (locks_compare_ref (f468.mono ro_rd) (f471.mono ro_rd) (f474.mono ro_rd) (f477.mono ro_rd) hst.to0 ht480).mono ?_
 rintro _ w481 ⟨rfl, hst⟩
 refine ⟨_, z, ?_⟩
 replace hst := hst.of0
 refine ws_next (pend' := [(0, I6 z450)]) hst (by kernel_rfl) (pkr z z (fun w hst => z) pk_nil) ?_
 refine ws_q (v := .bool (t479 == (0:Int))) 12 [13, 14, 15] (by kernel_rfl) z z (yi_run ((wanted_eq z z z (cvb hc458)).trans z) (fun w hst => z)) (wsr (.bool (t479 == (0:Int))) 13 z z z (by kernel_rfl) (fun w hst => x_pick_t hc458 z z) (wsr (.int .i64 z450) 14 z z z (by kernel_rfl) (fun w hst => z) (wsr (.bool (t479 == (0:Int))) 15 z z z (by kernel_rfl) (fun w hst => z) ?_)))
 refine ws_nil ?_
 intro w hst
 replace hst := hst.own_close hq457
 refine tn (wp_ret ?_)
 refine post_ret (vs := [I6 z450, .bool (t479 == (0:Int))]) results193 (rvs_cons (rv_tmp z) (rvs_cons (rv_tmp z) rvs_nil)) ?_
 replace hst := hst.pull3.pull1.pull3.keep3
 obtain rfl := some_inj hm
 exact ⟨z450, (t479 == (0:Int)), z, z, hst⟩
}
 {
 replace hm := bif_f hc458 hm
 refine ws_q (v := undef) 5 [6, 7, 8, 9, 10, 11, 12, 13, 14, 15] (by kernel_rfl) z z (yi_off ((wanted_eq z z z (cvb hc458)).trans z)) (ws_q (v := undef) 6 [7, 8, 9, 10, 11, 12, 13, 14, 15] (by kernel_rfl) z z (yi_off ((wanted_eq z z z (cvb hc458)).trans z)) (ws_q (v := undef) 7 [8, 9, 10, 11, 12, 13, 14, 15] (by kernel_rfl) z z (yi_off ((wanted_eq z z z (cvb hc458)).trans z)) (ws_q (v := undef) 8 [9, 10, 11, 12, 13, 14, 15] (by kernel_rfl) z z (yi_off ((wanted_eq z z z (cvb hc458)).trans z)) (ws_q (v := undef) 9 [10, 11, 12, 13, 14, 15] (by kernel_rfl) z z (yi_off ((wanted_eq z z z (cvb hc458)).trans z)) (ws_q (v := undef) 10 [11, 12, 13, 14, 15] (by kernel_rfl) z z (yi_off ((wanted_eq z z z (cvb hc458)).trans z)) (ws_q (v := undef) 11 [12, 13, 14, 15] (by kernel_rfl) z z (yi_off ((wanted_eq z z z (cvb hc458)).trans z)) (ws_q (v := undef) 12 [13, 14, 15] (by kernel_rfl) z z (yi_off ((wanted_eq z z z (cvb hc458)).trans z)) (wsr (.bool false) 13 z z z (by kernel_rfl) (fun w hst => x_pick_f hc458 z z) (wsr (.int .i64 z450) 14 z z z (by kernel_rfl) (fun w hst => z) (wsr (.bool false) 15 z z z (by kernel_rfl) (fun w hst => z) ?_))))))))))
 refine ws_nil ?_
 intro w hst
 replace hst := hst.own_close hq457
 refine tn (wp_ret ?_)
 refine post_ret (vs := [I6 z450, .bool false]) results193 (rvs_cons (rv_tmp z) (rvs_cons (rv_tmp z) rvs_nil)) ?_
 replace hst := hst.pull3.pull1.pull3.keep3
 obtain rfl := some_inj hm
 exact ⟨z450, false, z, z, hst⟩
}
}
}
 clear hst
 rintro _ w489 ⟨z484, z485, rfl, rfl, hst⟩
 refine ⟨_, z, ?_⟩
 try dsimp only at hm
 refine ws_next (pend' := []) hst (by kernel_rfl) pk_nil ?_
 refine wsr (.int .i64 z484) 6 z z z (by kernel_rfl) (fun w hst => z) (wsr (.bool z485) 7 z z z (by kernel_rfl) (fun w hst => z) (wsr (.int .i64 z484) 8 z z z (by kernel_rfl) (fun w hst => z) (wsr (.bool z485) 9 z z z (by kernel_rfl) (fun w hst => z) ?_)))
 refine ws_nil ?_
 intro w hst
 refine tn (wp_ret ?_)
 replace hst := hst.pull1.pull1
 replace hst := at_locks_Table_close (pv := Pt b343 0) (x := o0) hst z
 replace hst := objO_some hst
 obtain rfl := some_inj hm
 refine post_ret (vs := [I6 z484, .bool z485]) results135 (rvs_cons (rv_tmp z) (rvs_cons (rv_tmp z) rvs_nil)) ?_
 exact ⟨z, hst.keep1⟩
}
}

theorem locks_Table_Get_ref {w0 w : World} {I : HL} {R : SP} {a0 : (Option locks_Table)} {p0 : Value} {a1 : api_ID}  (hst : St w0 w I [objO at_locks_Table p0 a0] R) {r : (api_Hold × Bool)} (hm : locks_Table_Get a0 a1 = some r) :
  Calls prog 56 #[p0, .agg #[U6 a1.Session, U6 a1.Seq]] w fun e w' => ∃ (I' : HL) (q0_0 : Value) (q0_1 : Value) (q0_2 : Value) (q0_3 : Value), e = .returned (.tuple #[.agg #[U6 r.1.ID.Session, U6 r.1.ID.Seq, U6 r.1.Epoch, q0_0, q0_1, q0_2, q0_3], .bool r.2]) ∧ I.le I' ∧ Ro tyF64 I' q0_0 r.1.Gets ∧ Ro tyF2 I' q0_1 r.1.Scans ∧ Ro tyF64 I' q0_2 r.1.Puts ∧ Ro (tyInt .u8) I' q0_3 r.1.Data ∧ St w0 w' I' [objO at_locks_Table p0 a0] R := by {
 rcases a0 with _ | o0
 {
 obtain ⟨rfl, hst'⟩ := objO_none hst
 clear hst
 have hst := hst'
 clear hst'
 dsimp only [locks_Table_Get] at hm
 refine calls_start (args := [.pointer none, .agg #[U6 a1.Session, U6 a1.Seq]]) func56 z ntmps56 (Nat.le_of_ble_eq_true z) ?_
 have hI0 := HL.le.refl I
 refine wp_seq (wrl ?_)
 obtain ⟨b239, w240, ew241, eb242, hst⟩ := hst.box [U6 a1.Session, U6 a1.Seq] 28
 refine wl_run (v := Pt b239 0) (w' := w240) z z (x_al (by kernel_rfl) ew241 eb242) ?_
 obtain ⟨b248, w249, ew250, eb251, hst⟩ := hst.box [Zu, Zu, Zu, Zs, Zs, Zs, Zs] 46
 refine wl_run (v := Pt b248 0) (w' := w249) z z (x_al (by kernel_rfl) ew250 eb251) ?_
 refine wv (.bool false) z z z (wl_nil (tn (wp_seq (wrl (wv (.pointer none) z z z (wv (.agg #[U6 a1.Session, U6 a1.Seq]) z z (x_loadN (cs := [U6 a1.Session, U6 a1.Seq]) z isAgg28 sizeOf28 (hst.bcs1 0 z)) ?_))))))
 replace hst := hst.objO_nil at_locks_Table
 obtain ⟨t254, ht255, hm⟩ := bind_some hm
 refine wc call135 [.pointer none, .agg #[U6 a1.Session, U6 a1.Seq]] z z z ?_
 refine (locks_Table_find_ref hst.to1 ht255).mono ?_
 rintro _ w256 ⟨rfl, hst⟩
 refine ⟨_, z, ?_⟩
 replace hst := hst.of1
 refine wv (.tuple #[I6 t254.1, .bool t254.2]) z z z (wv (.int .i64 t254.1) z z z (wv (.bool t254.2) z z z (wv (.int .i64 t254.1) z z z (wv (.bool t254.2) z z z (wl_nil (tn (wp_seq (wp_seq (wrl (wv (.bool t254.2) z z z (wv (.bool (!t254.2)) z z z (wl_nil (tn ?_)))))))))))))
 refine bsplit (!t254.2) (fun hc259 => ?_) (fun hc259 => ?_)
 {
 replace hm := bif_t hc259 hm
 refine wp_ift (cvb hc259) ?_
 refine wp_seq (wrl (wv (.agg #[Zu, Zu, Zu, Zs, Zs, Zs, Zs]) z z (by kernel_rfl) ?_))
 replace hst := hst.pull1
 obtain ⟨w264, hr265, hst⟩ := hst.bx [Zu, Zu, Zu, Zs, Zs, Zs, Zs] sizeOf46 z (oC z (oC z (oC z (oC z (oC z (oC z (oC z oN))))))) (by kernel_rfl)
 refine wl_unit z z (x_unit hr265) ?_
 refine wv (.bool false) z z z (wl_nil (tn (wp_ret (then_r ?_))))
 have f266 : Ro tyF64 I (.slice none 0 0) [] := ro_nil
 have f267 : Ro tyF2 I (.slice none 0 0) [] := ro_nil
 have f268 : Ro tyF64 I (.slice none 0 0) [] := ro_nil
 have f269 : Ro (tyInt .u8) I (.slice none 0 0) [] := ro_nil
 replace hst := hst.objO_nil at_locks_Table
 obtain rfl := some_inj hm
 refine post_ret (vs := [.agg #[Zu, Zu, Zu, Zs, Zs, Zs, Zs], .bool false]) results56 (rvs_cons (rv_cell (cs := [Zu, Zu, Zu, Zs, Zs, Zs, Zs]) z isAgg46 sizeOf46 (hst.bcs1 0 z)) (rvs_cons (rv_tmp z) rvs_nil)) ?_
 exact ⟨_, Zs, Zs, Zs, Zs, z, hI0, f266, f267, f268, f269, hst.keep1⟩
}
 {
 replace hm := bif_f hc259 hm
 refine wp_iff (cvb hc259) ?_
 refine wp_skip (tn (wp_seq (wrl ?_)))
 refine wv (.pointer none) z z z ?_
 cases hm
}
}
 {
 replace hst := objO_get hst
 dsimp only [locks_Table_Get] at hm
 refine calls_start (args := [p0, .agg #[U6 a1.Session, U6 a1.Seq]]) func56 z ntmps56 (Nat.le_of_ble_eq_true z) ?_
 have hI0 := HL.le.refl I
 refine wp_seq (wrl ?_)
 obtain ⟨b270, w271, ew272, eb273, hst⟩ := hst.box [U6 a1.Session, U6 a1.Seq] 28
 refine wl_run (v := Pt b270 0) (w' := w271) z z (x_al (by kernel_rfl) ew272 eb273) ?_
 obtain ⟨b279, w280, ew281, eb282, hst⟩ := hst.box [Zu, Zu, Zu, Zs, Zs, Zs, Zs] 46
 refine wl_run (v := Pt b279 0) (w' := w280) z z (x_al (by kernel_rfl) ew281 eb282) ?_
 refine wv (.bool false) z z z (wl_nil (tn (wp_seq (wrl (wv (p0) z z z (wv (.agg #[U6 a1.Session, U6 a1.Seq]) z z (x_loadN (cs := [U6 a1.Session, U6 a1.Seq]) z isAgg28 sizeOf28 (hst.bcs1 0 z)) ?_))))))
 replace hst := hst.pull2
 replace hst := objO_some hst
 obtain ⟨t284, ht285, hm⟩ := bind_some hm
 refine wc call135 [p0, .agg #[U6 a1.Session, U6 a1.Seq]] z z z ?_
 refine (locks_Table_find_ref hst.to1 ht285).mono ?_
 rintro _ w286 ⟨rfl, hst⟩
 refine ⟨_, z, ?_⟩
 replace hst := hst.of1
 replace hst := objO_get hst
 refine wv (.tuple #[I6 t284.1, .bool t284.2]) z z z (wv (.int .i64 t284.1) z z z (wv (.bool t284.2) z z z (wv (.int .i64 t284.1) z z z (wv (.bool t284.2) z z z (wl_nil (tn (wp_seq (wp_seq (wrl (wv (.bool t284.2) z z z (wv (.bool (!t284.2)) z z z (wl_nil (tn ?_)))))))))))))
 refine bsplit (!t284.2) (fun hc289 => ?_) (fun hc289 => ?_)
 {
 replace hm := bif_t hc289 hm
 refine wp_ift (cvb hc289) ?_
 refine wp_seq (wrl (wv (.agg #[Zu, Zu, Zu, Zs, Zs, Zs, Zs]) z z (by kernel_rfl) ?_))
 replace hst := hst.pull1
 obtain ⟨w294, hr295, hst⟩ := hst.bx [Zu, Zu, Zu, Zs, Zs, Zs, Zs] sizeOf46 z (oC z (oC z (oC z (oC z (oC z (oC z (oC z oN))))))) (by kernel_rfl)
 refine wl_unit z z (x_unit hr295) ?_
 refine wv (.bool false) z z z (wl_nil (tn (wp_ret (then_r ?_))))
 have f296 : Ro tyF64 I (.slice none 0 0) [] := ro_nil
 have f297 : Ro tyF2 I (.slice none 0 0) [] := ro_nil
 have f298 : Ro tyF64 I (.slice none 0 0) [] := ro_nil
 have f299 : Ro (tyInt .u8) I (.slice none 0 0) [] := ro_nil
 replace hst := hst.pull1
 replace hst := objO_some hst
 obtain rfl := some_inj hm
 refine post_ret (vs := [.agg #[Zu, Zu, Zu, Zs, Zs, Zs, Zs], .bool false]) results56 (rvs_cons (rv_cell (cs := [Zu, Zu, Zu, Zs, Zs, Zs, Zs]) z isAgg46 sizeOf46 (hst.bcs1 0 z)) (rvs_cons (rv_tmp z) rvs_nil)) ?_
 exact ⟨_, Zs, Zs, Zs, Zs, z, hI0, f296, f297, f298, f299, hst.keep1⟩
}
 {
 replace hm := bif_f hc289 hm
 refine wp_iff (cvb hc289) ?_
 refine wp_skip (tn (wp_seq (wrl ?_)))
 refine wv (p0) z z z ?_
 obtain ⟨b300, v301, rfl, hst'⟩ := at_locks_Table_open hst
 clear hst
 have hst := hst'
 clear hst'
 refine wv (Pt b300 0) z z z (wv (Pt b300 0) z z (x_field z underlying203 z sizeOf125 z) (wv (v301) z z (x_load z isAgg125 (hst.bc0 z)) (wv (.int .i64 t284.1) z z z ?_)))
 obtain ⟨x303, hx304, hm⟩ := bind_some hm
 obtain ⟨h305, h306, hi307⟩ := geto_some hx304
 refine wv (.pointer (some (eAddr v301 (t284.1.toNat * 7 + 0)))) z z (x_index z z underlying125 sizeOf46 hst.sv1 h305 h306) ?_
 obtain ⟨cs308, hr309, hc310⟩ := hst.og1 hi307
 obtain ⟨v311, v314, v317, v320, rfl, f312, f315, f318, f321, -⟩ := hr309
 refine wv (.agg #[U6 x303.ID.Session, U6 x303.ID.Seq, U6 x303.Epoch, v311, v314, v317, v320]) z z (x_loadN (cs := [U6 x303.ID.Session, U6 x303.ID.Seq, U6 x303.Epoch, v311, v314, v317, v320]) z isAgg46 sizeOf46 (eCells (o := 0) hc310 z)) ?_
 replace hst := hst.pull2
 obtain ⟨w323, hr324, hst⟩ := hst.bx [U6 x303.ID.Session, U6 x303.ID.Seq, U6 x303.Epoch, v311, v314, v317, v320] sizeOf46 z (oC z (oC z (oC z (oC (one_of_sliceV (ro_sliceV f312)) (oC (one_of_sliceV (ro_sliceV f315)) (oC (one_of_sliceV (ro_sliceV f318)) (oC (one_of_sliceV (ro_sliceV f321)) oN))))))) (by kernel_rfl)
 refine wl_unit z z (x_unit hr324) ?_
 refine wv (.bool true) z z z (wl_nil (tn (wp_ret ?_)))
 replace hst := hst.pull2.pull2
 replace hst := at_locks_Table_close (pv := Pt b300 0) (x := o0) hst z
 replace hst := objO_some hst
 obtain rfl := some_inj hm
 refine post_ret (vs := [.agg #[U6 x303.ID.Session, U6 x303.ID.Seq, U6 x303.Epoch, v311, v314, v317, v320], .bool true]) results56 (rvs_cons (rv_cell (cs := [U6 x303.ID.Session, U6 x303.ID.Seq, U6 x303.Epoch, v311, v314, v317, v320]) z isAgg46 sizeOf46 (hst.bcs1 0 z)) (rvs_cons (rv_tmp z) rvs_nil)) ?_
 exact ⟨_, v311, v314, v317, v320, z, hI0, f312, f315, f318, f321, hst.keep1⟩
}
}
}

theorem math_IsNaN_ref {w0 w : World} {I : HL} {R : SP} {a0 : Nat}  (hst : St w0 w I [] R) {r : (Bool)} (hm : math_IsNaN a0 = some r) :
  Calls prog 177 #[F6 a0] w fun e w' => e = .returned (.bool r) ∧ St w0 w' I [] R := by {
 unfold math_IsNaN at hm
 refine calls_start (args := [F6 a0]) func177 z ntmps177 (Nat.le_of_ble_eq_true z) ?_
 refine wp_seq (wrl (wv (.bool false) z z z (wl_nil (tn (wp_seq (wrl (wv (.float .f64 a0) z z z (wv (.float .f64 a0) z z z (wv (.bool (fNe a0 a0)) z z z (wv (.bool (fNe a0 a0)) z z z (wl_nil (tn (wp_ret ?_)))))))))))))
 obtain rfl := some_inj hm
 refine post_ret (vs := [.bool (fNe a0 a0)]) results177 (rvs_cons (rv_tmp z) rvs_nil) ?_
 exact ⟨z, hst.keep0⟩
}

theorem number_Rank_ref {w0 w : World} {I : HL} {R : SP} {a0 : Nat}  (hst : St w0 w I [] R) {r : (Int)} (hm : number_Rank a0 = some r) :
  Calls prog 118 #[F6 a0] w fun e w' => e = .returned (.int .u64 r) ∧ St w0 w' I [] R := by {
 unfold number_Rank at hm
 refine calls_start (args := [F6 a0]) func118 z ntmps118 (Nat.le_of_ble_eq_true z) ?_
 refine wp_seq (wrl (wv (.int .u64 (0:Int)) z z z (wl_nil (tn (wp_seq (wp_seq (wrl (wv (.float .f64 a0) z z z ?_))))))))
 obtain ⟨t284, ht285, hm⟩ := bind_some hm
 refine wc call177 [F6 a0] z z z ?_
 refine (math_IsNaN_ref hst.to0 ht285).mono ?_
 rintro _ w286 ⟨rfl, hst⟩
 refine ⟨_, z, ?_⟩
 replace hst := hst.of0
 refine wl_nil (tn ?_)
 refine bsplit t284 (fun hc289 => ?_) (fun hc289 => ?_)
 {
 replace hm := bif_t hc289 hm
 refine wp_ift (cvb hc289) ?_
 refine wp_seq (wrl (wv (.int .u64 (18446744073709551615:Int)) z z z (wl_nil (tn (wp_ret (then_r ?_))))))
 obtain rfl := some_inj hm
 refine post_ret (vs := [U6 (18446744073709551615:Int)]) results118 (rvs_cons (rv_tmp z) rvs_nil) ?_
 exact ⟨z, hst.keep0⟩
}
 {
 replace hm := bif_f hc289 hm
 refine wp_iff (cvb hc289) ?_
 refine wp_skip (tn (wp_seq (wrl ?_)))
 refine wv (.float .f64 a0) z z z (wv (.int .u64 (Int.ofNat a0)) z z (by kernel_rfl) (wv (.int .u64 (Int.ofNat a0)) z z z (wl_nil (tn (wp_seq (wp_seq (wrl (wv (.int .u64 (Int.ofNat a0)) z z z (wv (.int .u64 (iShr .u64 (Int.ofNat a0) (63:Int))) z z (x_shr (by decide) z z) (wv (.bool ((iShr .u64 (Int.ofNat a0) (63:Int)) == (1:Int))) z z z (wl_nil (tn ?_))))))))))))
 refine bsplit ((iShr .u64 (Int.ofNat a0) (63:Int)) == (1:Int)) (fun hc290 => ?_) (fun hc290 => ?_)
 {
 replace hm := bif_t hc290 hm
 refine wp_ift (cvb hc290) ?_
 refine wp_seq (wrl (wv (.int .u64 (Int.ofNat a0)) z z z (wv (.int .u64 (bXor .u64 ((18446744073709551615):Int) (Int.ofNat a0))) z z (by kernel_rfl) (wv (.int .u64 (bXor .u64 ((18446744073709551615):Int) (Int.ofNat a0))) z z z (wl_nil (tn (wp_ret (then_r ?_))))))))
 obtain rfl := some_inj hm
 refine post_ret (vs := [U6 (bXor .u64 ((18446744073709551615):Int) (Int.ofNat a0))]) results118 (rvs_cons (rv_tmp z) rvs_nil) ?_
 exact ⟨z, hst.keep0⟩
}
 {
 replace hm := bif_f hc290 hm
 refine wp_iff (cvb hc290) ?_
 refine wp_skip (tn (wp_seq (wrl ?_)))
 refine wv (.int .u64 (Int.ofNat a0)) z z z (wv (.int .u64 (bOr .u64 (Int.ofNat a0) (9223372036854775808:Int))) z z z (wv (.int .u64 (bOr .u64 (Int.ofNat a0) (9223372036854775808:Int))) z z z (wl_nil (tn (wp_ret ?_)))))
 obtain rfl := some_inj hm
 refine post_ret (vs := [U6 (bOr .u64 (Int.ofNat a0) (9223372036854775808:Int))]) results118 (rvs_cons (rv_tmp z) rvs_nil) ?_
 exact ⟨z, hst.keep0⟩
}
}
}

theorem number_Same_ref {w0 w : World} {I : HL} {R : SP} {a0 : Nat} {a1 : Nat}  (hst : St w0 w I [] R) {r : (Bool)} (hm : number_Same a0 a1 = some r) :
  Calls prog 137 #[F6 a0, F6 a1] w fun e w' => e = .returned (.bool r) ∧ St w0 w' I [] R := by {
 unfold number_Same at hm
 refine calls_start (args := [F6 a0, F6 a1]) func137 z ntmps137 (Nat.le_of_ble_eq_true z) ?_
 refine wp_seq (wrl (wv (.bool false) z z z (wl_nil (tn (wp_seq (wrl (wv (.float .f64 a0) z z z ?_)))))))
 obtain ⟨t287, ht288, hm⟩ := bind_some hm
 refine wc call118 [F6 a0] z z z ?_
 refine (number_Rank_ref hst.to0 ht288).mono ?_
 rintro _ w289 ⟨rfl, hst⟩
 refine ⟨_, z, ?_⟩
 replace hst := hst.of0
 refine wv (.float .f64 a1) z z z ?_
 obtain ⟨t292, ht293, hm⟩ := bind_some hm
 refine wc call118 [F6 a1] z z z ?_
 refine (number_Rank_ref hst.to0 ht293).mono ?_
 rintro _ w294 ⟨rfl, hst⟩
 refine ⟨_, z, ?_⟩
 replace hst := hst.of0
 refine wv (.bool (t287 == t292)) z z z (wv (.bool (t287 == t292)) z z z (wl_nil (tn (wp_ret ?_))))
 obtain rfl := some_inj hm
 refine post_ret (vs := [.bool (t287 == t292)]) results137 (rvs_cons (rv_tmp z) rvs_nil) ?_
 exact ⟨z, hst.keep0⟩
}

theorem locks_Same_1_ref {w0 w : World} {I : HL} {R : SP} {a0 : (Nat × Nat)} {a1 : (Nat × Nat)}  (hst : St w0 w I [] R) {r : (Bool)} (hm : locks_Same_1 a0 a1 = some r) :
  Calls prog 136 #[.agg #[F6 a0.1, F6 a0.2], .agg #[F6 a1.1, F6 a1.2]] w fun e w' => e = .returned (.bool r) ∧ St w0 w' I [] R := by {
 unfold locks_Same_1 at hm
 refine calls_start (args := [.agg #[F6 a0.1, F6 a0.2], .agg #[F6 a1.1, F6 a1.2]]) func136 z ntmps136 (Nat.le_of_ble_eq_true z) ?_
 refine wp_seq (wrl ?_)
 obtain ⟨b380, w381, ew382, eb383, hst⟩ := hst.box [F6 a0.1, F6 a0.2] 80
 refine wl_run (v := Pt b380 0) (w' := w381) z z (x_al (by kernel_rfl) ew382 eb383) ?_
 obtain ⟨b385, w386, ew387, eb388, hst⟩ := hst.box [F6 a1.1, F6 a1.2] 80
 refine wl_run (v := Pt b385 0) (w' := w386) z z (x_al (by kernel_rfl) ew387 eb388) ?_
 refine wv (.bool false) z z z (wl_nil (tn (wp_seq (wrl (wv (Pt b380 0) z z (x_index_arr (i := (0:Int)) z z underlying80 sizeOf37 (by decide) (by decide)) (wv (.float .f64 a0.1) z z (x_load z isAgg37 (hst.bc1 z)) (wv (Pt b385 0) z z (x_index_arr (i := (0:Int)) z z underlying80 sizeOf37 (by decide) (by decide)) (wv (.float .f64 a1.1) z z (x_load z isAgg37 (hst.bc0 z)) ?_))))))))
 obtain ⟨t390, ht391, hm⟩ := bind_some hm
 refine wc call137 [F6 a0.1, F6 a1.1] z z z ?_
 refine (number_Same_ref hst.to0 ht391).mono ?_
 rintro _ w392 ⟨rfl, hst⟩
 refine ⟨_, z, ?_⟩
 replace hst := hst.of0
 refine wv (.bool t390) z z z ?_
 refine bsplit t390 (fun hc395 => ?_) (fun hc395 => ?_)
 {
 replace hm := bif_t hc395 hm
 refine wv (Pt b380 1) ((wanted_eq z z z (cvb hc395)).trans z) z (x_index_arr (i := (1:Int)) z z underlying80 sizeOf37 (by decide) (by decide)) (wv (.float .f64 a0.2) ((wanted_eq z z z (cvb hc395)).trans z) z (x_load z isAgg37 (hst.bc1 z)) (wv (Pt b385 1) ((wanted_eq z z z (cvb hc395)).trans z) z (x_index_arr (i := (1:Int)) z z underlying80 sizeOf37 (by decide) (by decide)) (wv (.float .f64 a1.2) ((wanted_eq z z z (cvb hc395)).trans z) z (x_load z isAgg37 (hst.bc0 z)) ?_)))
 obtain ⟨t396, ht397, hm⟩ := bind_some hm
 refine wl_call ((wanted_eq z z z (cvb hc395)).trans z) z (x_call call137 z (vs := [F6 a0.2, F6 a1.2]) z) ?_
 refine (number_Same_ref hst.to0 ht397).mono ?_
 rintro _ w398 ⟨rfl, hst⟩
 refine ⟨_, z, ?_⟩
 replace hst := hst.of0
 refine wv (.bool t396) z z (x_pick_t hc395 z z) (wv (.bool t396) z z z (wl_nil (tn (wp_ret ?_))))
 obtain rfl := some_inj hm
 refine post_ret (vs := [.bool t396]) results136 (rvs_cons (rv_tmp z) rvs_nil) ?_
 exact ⟨z, hst.keep0⟩
}
 {
 replace hm := bif_f hc395 hm
 refine wo hc395 z z z z z z (wo hc395 z z z z z z (wo hc395 z z z z z z (wo hc395 z z z z z z (wo hc395 z z z z z z (wv (.bool false) z z (x_pick_f hc395 z z) (wv (.bool false) z z z (wl_nil (tn (wp_ret ?_)))))))))
 obtain rfl := some_inj hm
 refine post_ret (vs := [.bool false]) results136 (rvs_cons (rv_tmp z) rvs_nil) ?_
 exact ⟨z, hst.keep0⟩
}
}

theorem slices_Equal_byte_byte_ref {w0 w : World} {I : HL} {R : SP} {a0 : (List Int)} {r0_0 : Value} {a1 : (List Int)} {r1_0 : Value} (f0_0 : Rd (tyInt .u8) R I r0_0 a0) (f1_0 : Rd (tyInt .u8) R I r1_0 a1) (hst : St w0 w I [] R) {r : (Bool)} (hm : slices_Equal_byte_byte a0 a1 = some r) :
  Calls prog 110 #[r0_0, r1_0] w fun e w' => e = .returned (.bool r) ∧ St w0 w' I [] R := by {
 unfold slices_Equal_byte_byte at hm
 refine calls_start (args := [r0_0, r1_0]) func110 z ntmps110 (Nat.le_of_ble_eq_true z) ?_
 refine wp_seq (wrl (wv (.bool false) z z z (wl_nil (tn (wp_seq (wp_seq (wrl (wv (r0_0) z z z (wv (.int .i64 ((a0).length : Int)) z z (x_len z underlying22 (rd_sliceV f0_0)) (wv (r1_0) z z z (wv (.int .i64 ((a1).length : Int)) z z (x_len z underlying22 (rd_sliceV f1_0)) (wv (.bool (((a0).length : Int) != ((a1).length : Int))) z z z (wl_nil (tn ?_))))))))))))))
 refine bsplit (((a0).length : Int) != ((a1).length : Int)) (fun hc562 => ?_) (fun hc562 => ?_)
 {
 replace hm := bif_t hc562 hm
 refine wp_ift (cvb hc562) ?_
 refine wp_seq (wrl (wv (.bool false) z z z (wl_nil (tn (wp_ret (then_r ?_))))))
 obtain rfl := some_inj hm
 refine post_ret (vs := [.bool false]) results110 (rvs_cons (rv_tmp z) rvs_nil) ?_
 exact ⟨z, hst.keep0⟩
}
 {
 replace hm := bif_f hc562 hm
 refine wp_iff (cvb hc562) ?_
 refine wp_skip (tn (wp_seq (wp_seq (wrl ?_))))
 refine wv (r0_0) z z z (wv (.int .i64 ((a0).length : Int)) z z (x_len z underlying22 (rd_sliceV f0_0)) (wv (.int .i64 (0:Int)) z z z (wl_nil (tn (wp_block ?_)))))
 obtain ⟨n590, hm⟩ := loopO_some hm
 refine wp_loop_n (fun n a w => ∃ (z588 : Int) (σ589 : Nat → Value), loopN (slices_Equal_byte_byte_l0 a0 a1) n z588 = some r ∧ a = Fr 26 (upd (upd (upd (upd σ589 0 (r0_0)) 1 (r1_0)) 12 (.int .i64 ((a0).length : Int))) 13 (.int .i64 z588)) ∧ St w0 w I [] R) n590 ⟨(0:Int), _, hm, (fu 0 r0_0 z (fu 1 r1_0 z (fu 12 (.int .i64 ((a0).length : Int)) z (fu 13 (.int .i64 (0:Int)) z z)))), hst⟩ ?_
 rintro n596 _ w591 ⟨z588, σ589, hm, rfl, hst⟩
 obtain ⟨n593, y594, rfl, hm, hx595⟩ := loopN_some hm
 dsimp only [slices_Equal_byte_byte_l0] at hm
 refine wp_seq (wrl (wv (.bool (decide (z588 < ((a0).length : Int)))) z z z (wl_nil (tn (wp_seq ?_)))))
 refine bsplit (decide (z588 < ((a0).length : Int))) (fun hc597 => ?_) (fun hc597 => ?_)
 {
 replace hm := bif_t hc597 hm
 refine wp_ift (cvb hc597) ?_
 refine wp_skip (tn (wp_seq (wp_block (wp_seq (wrl ?_)))))
 refine wv (.int .i64 z588) z z z (wv (.int .i64 z588) z z z (wl_nil (tn (wp_seq ?_))))
 refine wq_regionS hst Tryz.mixed (by kernel_rfl) ?_
 refine wq_run (v := r0_0) z z (fun w hst => z) ?_
 refine wq_run (v := .int .i64 z588) z z (fun w hst => z) ?_
 obtain ⟨x598, hx599, hm⟩ := bind_some hm
 obtain ⟨h600, h601, hi602⟩ := geto_some hx599
 refine wq_run (v := .pointer (some (eAddr r0_0 (z588.toNat * 1 + 0)))) z z (fun w hst => x_index z z underlying22 sizeOf5 (rd_sliceV f0_0) h600 h601) ?_
 refine wq_run (v := .int .u8 x598) z z (fun w hst => x_load z isAgg5 (rd_load f0_0 (HL.le.refl _) hst hi602 (by rintro _ rfl; rfl))) ?_
 refine wq_run (v := r1_0) z z (fun w hst => z) ?_
 refine wq_run (v := .int .i64 z588) z z (fun w hst => z) ?_
 obtain ⟨x603, hx604, hm⟩ := bind_some hm
 obtain ⟨h605, h606, hi607⟩ := geto_some hx604
 refine wq_run (v := .pointer (some (eAddr r1_0 (z588.toNat * 1 + 0)))) z z (fun w hst => x_index z z underlying22 sizeOf5 (rd_sliceV f1_0) h605 h606) ?_
 refine wq_run (v := .int .u8 x603) z z (fun w hst => x_load z isAgg5 (rd_load f1_0 (HL.le.refl _) hst hi607 (by rintro _ rfl; rfl))) ?_
 refine wq_run (v := .bool (x598 != x603)) z z (fun w hst => z) ?_
 refine wq_nil ?_
 intro w hst
 refine tn ?_
 refine bsplit (x598 != x603) (fun hc608 => ?_) (fun hc608 => ?_)
 {
 replace hm := bif_t hc608 hm
 refine wp_ift (cvb hc608) ?_
 refine wp_seq (wrl (wv (.bool false) z z z (wl_nil (tn (wp_ret (blk_r (then_r (then_r ?_))))))))
 replace hm := inr_up hm hx595
 refine blk_r (then_r ?_)
 obtain rfl := some_inj hm
 refine post_ret (vs := [.bool false]) results110 (rvs_cons (rv_tmp z) rvs_nil) ?_
 exact ⟨z, hst.keep0⟩
}
 {
 replace hm := bif_f hc608 hm
 refine wp_iff (cvb hc608) ?_
 refine wp_skip (blk_n (tn (wrl ?_)))
 refine wv (.int .i64 (i64.wrap (z588 + (1:Int)))) z z z (wv (.int .i64 (i64.wrap (z588 + (1:Int)))) z z z (wl_nil (tn ?_)))
 replace hst := hst.keep0
 obtain rfl := some_inj hm
 exact ⟨_, Nat.lt_succ_self _, (i64.wrap (z588 + (1:Int))), _, hx595, (fu 0 r0_0 z (fu 1 r1_0 z (fu 12 (.int .i64 ((a0).length : Int)) z (fu 13 (.int .i64 (i64.wrap (z588 + (1:Int)))) z z)))), hst⟩
}
}
 {
 replace hm := bif_f hc597 hm
 refine wp_iff (cvb hc597) ?_
 refine wp_exit (then_x (then_x ?_))
 replace hm := inr_up hm hx595
 refine blk_x (tn (wp_seq (wrl ?_)))
 refine wv (.bool true) z z z (wl_nil (tn (wp_ret ?_)))
 obtain rfl := some_inj hm
 refine post_ret (vs := [.bool true]) results110 (rvs_cons (rv_tmp z) rvs_nil) ?_
 exact ⟨z, hst.keep0⟩
}
}
}

theorem locks_Same_ref {w0 w : World} {I : HL} {R : SP} {a0 : api_Hold} {r0_0 : Value} {r0_1 : Value} {r0_2 : Value} {r0_3 : Value} {a1 : api_Hold} {r1_0 : Value} {r1_1 : Value} {r1_2 : Value} {r1_3 : Value} (f0_0 : Rd tyF64 R I r0_0 a0.Gets) (f0_1 : Rd tyF2 R I r0_1 a0.Scans) (f0_2 : Rd tyF64 R I r0_2 a0.Puts) (f0_3 : Rd (tyInt .u8) R I r0_3 a0.Data) (f1_0 : Rd tyF64 R I r1_0 a1.Gets) (f1_1 : Rd tyF2 R I r1_1 a1.Scans) (f1_2 : Rd tyF64 R I r1_2 a1.Puts) (f1_3 : Rd (tyInt .u8) R I r1_3 a1.Data) (hst : St w0 w I [] R) {r : (Bool)} (hm : locks_Same a0 a1 = some r) :
  Calls prog 57 #[.agg #[U6 a0.ID.Session, U6 a0.ID.Seq, U6 a0.Epoch, r0_0, r0_1, r0_2, r0_3], .agg #[U6 a1.ID.Session, U6 a1.ID.Seq, U6 a1.Epoch, r1_0, r1_1, r1_2, r1_3]] w fun e w' => e = .returned (.bool r) ∧ St w0 w' I [] R := by {
 unfold locks_Same at hm
 refine calls_start (args := [.agg #[U6 a0.ID.Session, U6 a0.ID.Seq, U6 a0.Epoch, r0_0, r0_1, r0_2, r0_3], .agg #[U6 a1.ID.Session, U6 a1.ID.Seq, U6 a1.Epoch, r1_0, r1_1, r1_2, r1_3]]) func57 z ntmps57 (Nat.le_of_ble_eq_true z) ?_
 refine wp_seq (wrl ?_)
 obtain ⟨b524, w525, ew526, eb527, hst⟩ := hst.box [U6 a0.ID.Session, U6 a0.ID.Seq, U6 a0.Epoch, r0_0, r0_1, r0_2, r0_3] 46
 refine wl_run (v := Pt b524 0) (w' := w525) z z (x_al (by kernel_rfl) ew526 eb527) ?_
 obtain ⟨b529, w530, ew531, eb532, hst⟩ := hst.box [U6 a1.ID.Session, U6 a1.ID.Seq, U6 a1.Epoch, r1_0, r1_1, r1_2, r1_3] 46
 refine wl_run (v := Pt b529 0) (w' := w530) z z (x_al (by kernel_rfl) ew531 eb532) ?_
 refine wv (.bool false) z z z (wl_nil (tn (wp_seq (wrl (wv (.func (.func 136) #[] #[]) z z z (wl_nil (tn (wp_seq (wrl (wv (Pt b524 0) z z (x_field z underlying46 z sizeOf28 z) (wv (.agg #[U6 a0.ID.Session, U6 a0.ID.Seq]) z z (x_loadN (cs := [U6 a0.ID.Session, U6 a0.ID.Seq]) z isAgg28 sizeOf28 (hst.bcs1 0 z)) (wv (Pt b529 0) z z (x_field z underlying46 z sizeOf28 z) (wv (.agg #[U6 a1.ID.Session, U6 a1.ID.Seq]) z z (x_loadN (cs := [U6 a1.ID.Session, U6 a1.ID.Seq]) z isAgg28 sizeOf28 (hst.bcs0 0 z)) (wv (.bool ((a0.ID.Session == a1.ID.Session) && (a0.ID.Seq == a1.ID.Seq))) z z (x_aggeq2 z z (by kernel_rfl) underlying28 (by kernel_rfl) (by kernel_rfl) (by kernel_rfl) underlying26 underlying26 (fun _ _ _ => by kernel_rfl) (fun _ _ _ => by kernel_rfl)) (wv (.bool ((a0.ID.Session == a1.ID.Session) && (a0.ID.Seq == a1.ID.Seq))) z z z ?_)))))))))))))))
 refine bsplit ((a0.ID.Session == a1.ID.Session) && (a0.ID.Seq == a1.ID.Seq)) (fun hc534 => ?_) (fun hc534 => ?_)
 {
 replace hm := bif_t hc534 hm
 refine wv (Pt b524 2) ((wanted_eq z z z (cvb hc534)).trans z) z (x_field z underlying46 z sizeOf26 z) (wv (.int .u64 a0.Epoch) ((wanted_eq z z z (cvb hc534)).trans z) z (x_load z isAgg26 (hst.bc1 z)) (wv (Pt b529 2) ((wanted_eq z z z (cvb hc534)).trans z) z (x_field z underlying46 z sizeOf26 z) (wv (.int .u64 a1.Epoch) ((wanted_eq z z z (cvb hc534)).trans z) z (x_load z isAgg26 (hst.bc0 z)) (wv (.bool (a0.Epoch == a1.Epoch)) ((wanted_eq z z z (cvb hc534)).trans z) z z (wv (.bool (a0.Epoch == a1.Epoch)) z z (x_pick_t hc534 z z) (wv (.bool (a0.Epoch == a1.Epoch)) z z z ?_))))))
 refine bsplit (a0.Epoch == a1.Epoch) (fun hc535 => ?_) (fun hc535 => ?_)
 {
 replace hm := bif_t hc535 hm
 refine wv (Pt b524 3) ((wanted_eq z z z (cvb hc535)).trans z) z (x_field z underlying46 z sizeOf43 z) (wv (r0_0) ((wanted_eq z z z (cvb hc535)).trans z) z (x_load z isAgg43 (hst.bc1 z)) (wv (Pt b529 3) ((wanted_eq z z z (cvb hc535)).trans z) z (x_field z underlying46 z sizeOf43 z) (wv (r1_0) ((wanted_eq z z z (cvb hc535)).trans z) z (x_load z isAgg43 (hst.bc0 z)) ?_)))
 obtain ⟨y600, hq601, hm⟩ := bind_some hm
 refine wl_call ((wanted_eq z z z (cvb hc535)).trans z) z (x_callv call138 (caps := []) z (vs := [r0_0, r1_0, .func (.func 137) #[] #[]]) z) ?_
 refine Calls.mono (show Calls prog 138 #[r0_0, r1_0, .func (.func 137) #[] #[]] _ (fun e w' => ∃ (z598 : Bool), z598 = y600 ∧ e = .returned (.bool z598) ∧ St w0 w' I [cells b524 [U6 a0.ID.Session, U6 a0.ID.Seq, U6 a0.Epoch, r0_0, r0_1, r0_2, r0_3], cells b529 [U6 a1.ID.Session, U6 a1.ID.Seq, U6 a1.Epoch, r1_0, r1_1, r1_2, r1_3]] R) from ?_) ?_
 {
 clear hm; have hm := hq601
 refine calls_start (args := [r0_0, r1_0, .func (.func 137) #[] #[]]) func138 z ntmps138 (Nat.le_of_ble_eq_true z) ?_
 refine wp_seq (wrl (wv (.bool false) z z z (wl_nil (tn (wp_seq (wp_seq (wrl (wv (r0_0) z z z (wv (.int .i64 ((a0.Gets).length : Int)) z z (x_len z underlying43 (rd_sliceV f0_0)) (wv (r1_0) z z z (wv (.int .i64 ((a1.Gets).length : Int)) z z (x_len z underlying43 (rd_sliceV f1_0)) (wv (.bool (((a0.Gets).length : Int) != ((a1.Gets).length : Int))) z z z (wl_nil (tn ?_))))))))))))))
 refine bsplit (((a0.Gets).length : Int) != ((a1.Gets).length : Int)) (fun hc536 => ?_) (fun hc536 => ?_)
 {
 replace hm := bif_t hc536 hm
 refine wp_ift (cvb hc536) ?_
 refine wp_seq (wrl (wv (.bool false) z z z (wl_nil (tn (wp_ret (then_r ?_))))))
 refine post_ret (vs := [.bool false]) results138 (rvs_cons (rv_tmp z) rvs_nil) ?_
 replace hst := hst.pull1.keep2
 obtain rfl := some_inj hm
 exact ⟨false, z, z, hst⟩
}
 {
 replace hm := bif_f hc536 hm
 refine wp_iff (cvb hc536) ?_
 refine wp_skip (tn (wp_seq (wp_seq (wrl ?_))))
 refine wv (r0_0) z z z (wv (.int .i64 ((a0.Gets).length : Int)) z z (x_len z underlying43 (rd_sliceV f0_0)) (wv (.int .i64 (0:Int)) z z z (wl_nil (tn (wp_block ?_)))))
 obtain ⟨n574, hm⟩ := loopO_some hm
 refine wp_loop_n (fun n a w => ∃ (z572 : Int) (σ573 : Nat → Value), loopN (locks_Same_l0 a0 a1) n z572 = some y600 ∧ a = Fr 32 (upd (upd (upd (upd (upd σ573 1 (r1_0)) 2 (.func (.func 137) #[] #[])) 15 (r0_0)) 16 (.int .i64 ((a0.Gets).length : Int))) 17 (.int .i64 z572)) ∧ St w0 w I [cells b529 [U6 a1.ID.Session, U6 a1.ID.Seq, U6 a1.Epoch, r1_0, r1_1, r1_2, r1_3], cells b524 [U6 a0.ID.Session, U6 a0.ID.Seq, U6 a0.Epoch, r0_0, r0_1, r0_2, r0_3]] R) n574 ⟨(0:Int), _, hm, (fu 1 r1_0 z (fu 2 (.func (.func 137) #[] #[]) z (fu 15 r0_0 z (fu 16 (.int .i64 ((a0.Gets).length : Int)) z (fu 17 (.int .i64 (0:Int)) z z))))), hst⟩ ?_
 rintro n580 _ w575 ⟨z572, σ573, hm, rfl, hst⟩
 obtain ⟨n577, y578, rfl, hm, hx579⟩ := loopN_some hm
 dsimp only [locks_Same_l0] at hm
 refine wp_seq (wrl (wv (.bool (decide (z572 < ((a0.Gets).length : Int)))) z z z (wl_nil (tn (wp_seq ?_)))))
 refine bsplit (decide (z572 < ((a0.Gets).length : Int))) (fun hc581 => ?_) (fun hc581 => ?_)
 {
 replace hm := bif_t hc581 hm
 refine wp_ift (cvb hc581) ?_
 refine wp_skip (tn (wp_seq (wp_block (wp_seq (wrl ?_)))))
 refine wv (.int .i64 z572) z z z ?_
 obtain ⟨x582, hx583, hm⟩ := bind_some hm
 obtain ⟨h584, h585, hi586⟩ := geto_some hx583
 refine wv (.pointer (some (eAddr r0_0 (z572.toNat * 1 + 0)))) z z (x_index z z underlying43 sizeOf37 (rd_sliceV f0_0) h584 h585) (wv (.float .f64 x582) z z (x_load z isAgg37 (rd_load f0_0 (HL.le.refl _) hst hi586 (by rintro _ rfl; rfl))) (wv (.int .i64 z572) z z z (wv (.float .f64 x582) z z z (wl_nil (tn (wp_seq (wrl (wv (r1_0) z z z (wv (.int .i64 z572) z z z ?_)))))))))
 obtain ⟨x587, hx588, hm⟩ := bind_some hm
 obtain ⟨h589, h590, hi591⟩ := geto_some hx588
 refine wv (.pointer (some (eAddr r1_0 (z572.toNat * 1 + 0)))) z z (x_index z z underlying43 sizeOf37 (rd_sliceV f1_0) h589 h590) (wv (.float .f64 x587) z z (x_load z isAgg37 (rd_load f1_0 (HL.le.refl _) hst hi591 (by rintro _ rfl; rfl))) (wv (.float .f64 x587) z z z (wl_nil (tn (wp_seq (wrl (wv (.func (.func 137) #[] #[]) z z z (wv (.float .f64 x582) z z z (wv (.float .f64 x587) z z z ?_)))))))))
 obtain ⟨t592, ht593, hm⟩ := bind_some hm
 refine wl_call z z (x_callv call137 (caps := []) z (vs := [F6 x582, F6 x587]) z) ?_
 refine (number_Same_ref hst.to0 ht593).mono ?_
 rintro _ w594 ⟨rfl, hst⟩
 refine ⟨_, z, ?_⟩
 replace hst := hst.of0
 refine wv (.bool (!t592)) z z z (wl_nil (tn ?_))
 refine bsplit (!t592) (fun hc597 => ?_) (fun hc597 => ?_)
 {
 replace hm := bif_t hc597 hm
 refine wp_ift (cvb hc597) ?_
 refine wp_seq (wrl (wv (.bool false) z z z (wl_nil (tn (wp_ret (blk_r (then_r (then_r ?_))))))))
 replace hm := inr_up hm hx579
 refine blk_r (then_r ?_)
 refine post_ret (vs := [.bool false]) results138 (rvs_cons (rv_tmp z) rvs_nil) ?_
 replace hst := hst.pull1.keep2
 obtain rfl := some_inj hm
 exact ⟨false, z, z, hst⟩
}
 {
 replace hm := bif_f hc597 hm
 refine wp_iff (cvb hc597) ?_
 refine wp_skip (blk_n (tn (wrl ?_)))
 refine wv (.int .i64 (i64.wrap (z572 + (1:Int)))) z z z (wv (.int .i64 (i64.wrap (z572 + (1:Int)))) z z z (wl_nil (tn ?_)))
 replace hst := hst.pull1.pull1.keep2
 obtain rfl := some_inj hm
 exact ⟨_, Nat.lt_succ_self _, (i64.wrap (z572 + (1:Int))), _, hx579, (fu 1 r1_0 z (fu 2 (.func (.func 137) #[] #[]) z (fu 15 r0_0 z (fu 16 (.int .i64 ((a0.Gets).length : Int)) z (fu 17 (.int .i64 (i64.wrap (z572 + (1:Int)))) z z))))), hst⟩
}
}
 {
 replace hm := bif_f hc581 hm
 refine wp_iff (cvb hc581) ?_
 refine wp_exit (then_x (then_x ?_))
 replace hm := inr_up hm hx579
 refine blk_x (tn (wp_seq (wrl ?_)))
 refine wv (.bool true) z z z (wl_nil (tn (wp_ret ?_)))
 refine post_ret (vs := [.bool true]) results138 (rvs_cons (rv_tmp z) rvs_nil) ?_
 replace hst := hst.pull1.keep2
 obtain rfl := some_inj hm
 exact ⟨true, z, z, hst⟩
}
}
}
 clear hst
 rintro _ w602 ⟨z598, rfl, rfl, hst⟩
 refine ⟨_, z, ?_⟩
 try dsimp only at hm
 refine wv (.bool z598) z z (x_pick_t hc535 z z) (wv (.bool z598) z z z ?_)
 refine bsplit z598 (fun hc603 => ?_) (fun hc603 => ?_)
 {
 replace hm := bif_t hc603 hm
 refine wv (Pt b524 4) ((wanted_eq z z z (cvb hc603)).trans z) z (x_field z underlying46 z sizeOf44 z) (wv (r0_1) ((wanted_eq z z z (cvb hc603)).trans z) z (x_load z isAgg44 (hst.bc0 z)) (wv (Pt b529 4) ((wanted_eq z z z (cvb hc603)).trans z) z (x_field z underlying46 z sizeOf44 z) (wv (r1_1) ((wanted_eq z z z (cvb hc603)).trans z) z (x_load z isAgg44 (hst.bc1 z)) (wv (.func (.func 136) #[] #[]) ((wanted_eq z z z (cvb hc603)).trans z) z z ?_))))
 obtain ⟨y710, hq711, hm⟩ := bind_some hm
 refine wl_call ((wanted_eq z z z (cvb hc603)).trans z) z (x_callv call139 (caps := []) z (vs := [r0_1, r1_1, .func (.func 136) #[] #[]]) z) ?_
 refine Calls.mono (show Calls prog 139 #[r0_1, r1_1, .func (.func 136) #[] #[]] _ (fun e w' => ∃ (z708 : Bool), z708 = y710 ∧ e = .returned (.bool z708) ∧ St w0 w' I [cells b524 [U6 a0.ID.Session, U6 a0.ID.Seq, U6 a0.Epoch, r0_0, r0_1, r0_2, r0_3], cells b529 [U6 a1.ID.Session, U6 a1.ID.Seq, U6 a1.Epoch, r1_0, r1_1, r1_2, r1_3]] R) from ?_) ?_
 {
 clear hm; have hm := hq711
 refine calls_start (args := [r0_1, r1_1, .func (.func 136) #[] #[]]) func139 z ntmps139 (Nat.le_of_ble_eq_true z) ?_
 refine wp_seq (wrl (wv (.bool false) z z z (wl_nil (tn (wp_seq (wp_seq (wrl (wv (r0_1) z z z (wv (.int .i64 ((a0.Scans).length : Int)) z z (x_len z underlying44 (rd_sliceV f0_1)) (wv (r1_1) z z z (wv (.int .i64 ((a1.Scans).length : Int)) z z (x_len z underlying44 (rd_sliceV f1_1)) (wv (.bool (((a0.Scans).length : Int) != ((a1.Scans).length : Int))) z z z (wl_nil (tn ?_))))))))))))))
 refine bsplit (((a0.Scans).length : Int) != ((a1.Scans).length : Int)) (fun hc604 => ?_) (fun hc604 => ?_)
 {
 replace hm := bif_t hc604 hm
 refine wp_ift (cvb hc604) ?_
 refine wp_seq (wrl (wv (.bool false) z z z (wl_nil (tn (wp_ret (then_r ?_))))))
 refine post_ret (vs := [.bool false]) results139 (rvs_cons (rv_tmp z) rvs_nil) ?_
 replace hst := hst.pull1.pull1.keep2
 obtain rfl := some_inj hm
 exact ⟨false, z, z, hst⟩
}
 {
 replace hm := bif_f hc604 hm
 refine wp_iff (cvb hc604) ?_
 refine wp_skip (tn (wp_seq (wp_seq (wrl ?_))))
 refine wv (r0_1) z z z (wv (.int .i64 ((a0.Scans).length : Int)) z z (x_len z underlying44 (rd_sliceV f0_1)) (wv (.int .i64 (0:Int)) z z z (wl_nil (tn (wp_block ?_)))))
 obtain ⟨n670, hm⟩ := loopO_some hm
 refine wp_loop_n (fun n a w => ∃ (z668 : Int) (σ669 : Nat → Value), loopN (locks_Same_l1 a0 a1) n z668 = some y710 ∧ a = Fr 32 (upd (upd (upd (upd (upd σ669 1 (r1_1)) 2 (.func (.func 136) #[] #[])) 15 (r0_1)) 16 (.int .i64 ((a0.Scans).length : Int))) 17 (.int .i64 z668)) ∧ St w0 w I [cells b524 [U6 a0.ID.Session, U6 a0.ID.Seq, U6 a0.Epoch, r0_0, r0_1, r0_2, r0_3], cells b529 [U6 a1.ID.Session, U6 a1.ID.Seq, U6 a1.Epoch, r1_0, r1_1, r1_2, r1_3]] R) n670 ⟨(0:Int), _, hm, (fu 1 r1_1 z (fu 2 (.func (.func 136) #[] #[]) z (fu 15 r0_1 z (fu 16 (.int .i64 ((a0.Scans).length : Int)) z (fu 17 (.int .i64 (0:Int)) z z))))), hst⟩ ?_
 rintro n676 _ w671 ⟨z668, σ669, hm, rfl, hst⟩
 obtain ⟨n673, y674, rfl, hm, hx675⟩ := loopN_some hm
 dsimp only [locks_Same_l1] at hm
 refine wp_seq (wrl (wv (.bool (decide (z668 < ((a0.Scans).length : Int)))) z z z (wl_nil (tn (wp_seq ?_)))))
 refine bsplit (decide (z668 < ((a0.Scans).length : Int))) (fun hc677 => ?_) (fun hc677 => ?_)
 {
 replace hm := bif_t hc677 hm
 refine wp_ift (cvb hc677) ?_
 refine wp_skip (tn (wp_seq (wp_block (wp_seq (wrl ?_)))))
 refine wv (.int .i64 z668) z z z ?_
 obtain ⟨x678, hx679, hm⟩ := bind_some hm
 obtain ⟨h680, h681, hi682⟩ := geto_some hx679
 refine wv (.pointer (some (eAddr r0_1 (z668.toNat * 2 + 0)))) z z (x_index z z underlying44 sizeOf80 (rd_sliceV f0_1) h680 h681) (wv (.agg #[F6 x678.1, F6 x678.2]) z z (x_loadN (cs := [F6 x678.1, F6 x678.2]) z isAgg80 sizeOf80 (rd_loadN f0_1 (HL.le.refl _) hst hi682 0 (by rintro _ rfl; rfl))) ?_)
 obtain ⟨b683, w684, ew685, eb686, hst⟩ := hst.box [Zf, Zf] 80
 refine wl_run (v := Pt b683 0) (w' := w684) z z (x_al (by kernel_rfl) ew685 eb686) ?_
 refine wv (.int .i64 z668) z z z ?_
 obtain ⟨w688, hr689, hst⟩ := hst.bx [F6 x678.1, F6 x678.2] sizeOf80 z (oC z (oC z oN)) (by kernel_rfl)
 refine wl_unit z z (x_unit hr689) ?_
 refine wl_nil (tn (wp_seq (wrl (wv (r1_1) z z z (wv (.int .i64 z668) z z z ?_)))))
 obtain ⟨x690, hx691, hm⟩ := bind_some hm
 obtain ⟨h692, h693, hi694⟩ := geto_some hx691
 refine wv (.pointer (some (eAddr r1_1 (z668.toNat * 2 + 0)))) z z (x_index z z underlying44 sizeOf80 (rd_sliceV f1_1) h692 h693) (wv (.agg #[F6 x690.1, F6 x690.2]) z z (x_loadN (cs := [F6 x690.1, F6 x690.2]) z isAgg80 sizeOf80 (rd_loadN f1_1 (HL.le.refl _) hst hi694 0 (by rintro _ rfl; rfl))) ?_)
 obtain ⟨b695, w696, ew697, eb698, hst⟩ := hst.box [Zf, Zf] 80
 refine wl_run (v := Pt b695 0) (w' := w696) z z (x_al (by kernel_rfl) ew697 eb698) ?_
 obtain ⟨w700, hr701, hst⟩ := hst.bx [F6 x690.1, F6 x690.2] sizeOf80 z (oC z (oC z oN)) (by kernel_rfl)
 refine wl_unit z z (x_unit hr701) ?_
 refine wl_nil (tn (wp_seq (wrl (wv (.func (.func 136) #[] #[]) z z z (wv (.agg #[F6 x678.1, F6 x678.2]) z z (x_loadN (cs := [F6 x678.1, F6 x678.2]) z isAgg80 sizeOf80 (hst.bcs1 0 z)) (wv (.agg #[F6 x690.1, F6 x690.2]) z z (x_loadN (cs := [F6 x690.1, F6 x690.2]) z isAgg80 sizeOf80 (hst.bcs0 0 z)) ?_))))))
 obtain ⟨t702, ht703, hm⟩ := bind_some hm
 refine wl_call z z (x_callv call136 (caps := []) z (vs := [.agg #[F6 x678.1, F6 x678.2], .agg #[F6 x690.1, F6 x690.2]]) z) ?_
 refine (locks_Same_1_ref hst.to0 ht703).mono ?_
 rintro _ w704 ⟨rfl, hst⟩
 refine ⟨_, z, ?_⟩
 replace hst := hst.of0
 refine wv (.bool (!t702)) z z z (wl_nil (tn ?_))
 refine bsplit (!t702) (fun hc707 => ?_) (fun hc707 => ?_)
 {
 replace hm := bif_t hc707 hm
 refine wp_ift (cvb hc707) ?_
 refine wp_seq (wrl (wv (.bool false) z z z (wl_nil (tn (wp_ret (blk_r (then_r (then_r ?_))))))))
 replace hm := inr_up hm hx675
 refine blk_r (then_r ?_)
 refine post_ret (vs := [.bool false]) results139 (rvs_cons (rv_tmp z) rvs_nil) ?_
 replace hst := hst.pull3.pull3.keep2
 obtain rfl := some_inj hm
 exact ⟨false, z, z, hst⟩
}
 {
 replace hm := bif_f hc707 hm
 refine wp_iff (cvb hc707) ?_
 refine wp_skip (blk_n (tn (wrl ?_)))
 refine wv (.int .i64 (i64.wrap (z668 + (1:Int)))) z z z (wv (.int .i64 (i64.wrap (z668 + (1:Int)))) z z z (wl_nil (tn ?_)))
 replace hst := hst.pull3.pull3.keep2
 obtain rfl := some_inj hm
 exact ⟨_, Nat.lt_succ_self _, (i64.wrap (z668 + (1:Int))), _, hx675, (fu 1 r1_1 z (fu 2 (.func (.func 136) #[] #[]) z (fu 15 r0_1 z (fu 16 (.int .i64 ((a0.Scans).length : Int)) z (fu 17 (.int .i64 (i64.wrap (z668 + (1:Int)))) z z))))), hst⟩
}
}
 {
 replace hm := bif_f hc677 hm
 refine wp_iff (cvb hc677) ?_
 refine wp_exit (then_x (then_x ?_))
 replace hm := inr_up hm hx675
 refine blk_x (tn (wp_seq (wrl ?_)))
 refine wv (.bool true) z z z (wl_nil (tn (wp_ret ?_)))
 refine post_ret (vs := [.bool true]) results139 (rvs_cons (rv_tmp z) rvs_nil) ?_
 replace hst := hst.pull1.pull1.keep2
 obtain rfl := some_inj hm
 exact ⟨true, z, z, hst⟩
}
}
}
 clear hst
 rintro _ w712 ⟨z708, rfl, rfl, hst⟩
 refine ⟨_, z, ?_⟩
 try dsimp only at hm
 refine wv (.bool z708) z z (x_pick_t hc603 z z) (wv (.bool z708) z z z ?_)
 refine bsplit z708 (fun hc713 => ?_) (fun hc713 => ?_)
 {
 replace hm := bif_t hc713 hm
 refine wv (Pt b524 5) ((wanted_eq z z z (cvb hc713)).trans z) z (x_field z underlying46 z sizeOf43 z) (wv (r0_2) ((wanted_eq z z z (cvb hc713)).trans z) z (x_load z isAgg43 (hst.bc0 z)) (wv (Pt b529 5) ((wanted_eq z z z (cvb hc713)).trans z) z (x_field z underlying46 z sizeOf43 z) (wv (r1_2) ((wanted_eq z z z (cvb hc713)).trans z) z (x_load z isAgg43 (hst.bc1 z)) ?_)))
 obtain ⟨y778, hq779, hm⟩ := bind_some hm
 refine wl_call ((wanted_eq z z z (cvb hc713)).trans z) z (x_callv call138 (caps := []) z (vs := [r0_2, r1_2, .func (.func 137) #[] #[]]) z) ?_
 refine Calls.mono (show Calls prog 138 #[r0_2, r1_2, .func (.func 137) #[] #[]] _ (fun e w' => ∃ (z776 : Bool), z776 = y778 ∧ e = .returned (.bool z776) ∧ St w0 w' I [cells b524 [U6 a0.ID.Session, U6 a0.ID.Seq, U6 a0.Epoch, r0_0, r0_1, r0_2, r0_3], cells b529 [U6 a1.ID.Session, U6 a1.ID.Seq, U6 a1.Epoch, r1_0, r1_1, r1_2, r1_3]] R) from ?_) ?_
 {
 clear hm; have hm := hq779
 refine calls_start (args := [r0_2, r1_2, .func (.func 137) #[] #[]]) func138 z ntmps138 (Nat.le_of_ble_eq_true z) ?_
 refine wp_seq (wrl (wv (.bool false) z z z (wl_nil (tn (wp_seq (wp_seq (wrl (wv (r0_2) z z z (wv (.int .i64 ((a0.Puts).length : Int)) z z (x_len z underlying43 (rd_sliceV f0_2)) (wv (r1_2) z z z (wv (.int .i64 ((a1.Puts).length : Int)) z z (x_len z underlying43 (rd_sliceV f1_2)) (wv (.bool (((a0.Puts).length : Int) != ((a1.Puts).length : Int))) z z z (wl_nil (tn ?_))))))))))))))
 refine bsplit (((a0.Puts).length : Int) != ((a1.Puts).length : Int)) (fun hc714 => ?_) (fun hc714 => ?_)
 {
 replace hm := bif_t hc714 hm
 refine wp_ift (cvb hc714) ?_
 refine wp_seq (wrl (wv (.bool false) z z z (wl_nil (tn (wp_ret (then_r ?_))))))
 refine post_ret (vs := [.bool false]) results138 (rvs_cons (rv_tmp z) rvs_nil) ?_
 replace hst := hst.pull1.pull1.keep2
 obtain rfl := some_inj hm
 exact ⟨false, z, z, hst⟩
}
 {
 replace hm := bif_f hc714 hm
 refine wp_iff (cvb hc714) ?_
 refine wp_skip (tn (wp_seq (wp_seq (wrl ?_))))
 refine wv (r0_2) z z z (wv (.int .i64 ((a0.Puts).length : Int)) z z (x_len z underlying43 (rd_sliceV f0_2)) (wv (.int .i64 (0:Int)) z z z (wl_nil (tn (wp_block ?_)))))
 obtain ⟨n752, hm⟩ := loopO_some hm
 refine wp_loop_n (fun n a w => ∃ (z750 : Int) (σ751 : Nat → Value), loopN (locks_Same_l2 a0 a1) n z750 = some y778 ∧ a = Fr 32 (upd (upd (upd (upd (upd σ751 1 (r1_2)) 2 (.func (.func 137) #[] #[])) 15 (r0_2)) 16 (.int .i64 ((a0.Puts).length : Int))) 17 (.int .i64 z750)) ∧ St w0 w I [cells b524 [U6 a0.ID.Session, U6 a0.ID.Seq, U6 a0.Epoch, r0_0, r0_1, r0_2, r0_3], cells b529 [U6 a1.ID.Session, U6 a1.ID.Seq, U6 a1.Epoch, r1_0, r1_1, r1_2, r1_3]] R) n752 ⟨(0:Int), _, hm, (fu 1 r1_2 z (fu 2 (.func (.func 137) #[] #[]) z (fu 15 r0_2 z (fu 16 (.int .i64 ((a0.Puts).length : Int)) z (fu 17 (.int .i64 (0:Int)) z z))))), hst⟩ ?_
 rintro n758 _ w753 ⟨z750, σ751, hm, rfl, hst⟩
 obtain ⟨n755, y756, rfl, hm, hx757⟩ := loopN_some hm
 dsimp only [locks_Same_l2] at hm
 refine wp_seq (wrl (wv (.bool (decide (z750 < ((a0.Puts).length : Int)))) z z z (wl_nil (tn (wp_seq ?_)))))
 refine bsplit (decide (z750 < ((a0.Puts).length : Int))) (fun hc759 => ?_) (fun hc759 => ?_)
 {
 replace hm := bif_t hc759 hm
 refine wp_ift (cvb hc759) ?_
 refine wp_skip (tn (wp_seq (wp_block (wp_seq (wrl ?_)))))
 refine wv (.int .i64 z750) z z z ?_
 obtain ⟨x760, hx761, hm⟩ := bind_some hm
 obtain ⟨h762, h763, hi764⟩ := geto_some hx761
 refine wv (.pointer (some (eAddr r0_2 (z750.toNat * 1 + 0)))) z z (x_index z z underlying43 sizeOf37 (rd_sliceV f0_2) h762 h763) (wv (.float .f64 x760) z z (x_load z isAgg37 (rd_load f0_2 (HL.le.refl _) hst hi764 (by rintro _ rfl; rfl))) (wv (.int .i64 z750) z z z (wv (.float .f64 x760) z z z (wl_nil (tn (wp_seq (wrl (wv (r1_2) z z z (wv (.int .i64 z750) z z z ?_)))))))))
 obtain ⟨x765, hx766, hm⟩ := bind_some hm
 obtain ⟨h767, h768, hi769⟩ := geto_some hx766
 refine wv (.pointer (some (eAddr r1_2 (z750.toNat * 1 + 0)))) z z (x_index z z underlying43 sizeOf37 (rd_sliceV f1_2) h767 h768) (wv (.float .f64 x765) z z (x_load z isAgg37 (rd_load f1_2 (HL.le.refl _) hst hi769 (by rintro _ rfl; rfl))) (wv (.float .f64 x765) z z z (wl_nil (tn (wp_seq (wrl (wv (.func (.func 137) #[] #[]) z z z (wv (.float .f64 x760) z z z (wv (.float .f64 x765) z z z ?_)))))))))
 obtain ⟨t770, ht771, hm⟩ := bind_some hm
 refine wl_call z z (x_callv call137 (caps := []) z (vs := [F6 x760, F6 x765]) z) ?_
 refine (number_Same_ref hst.to0 ht771).mono ?_
 rintro _ w772 ⟨rfl, hst⟩
 refine ⟨_, z, ?_⟩
 replace hst := hst.of0
 refine wv (.bool (!t770)) z z z (wl_nil (tn ?_))
 refine bsplit (!t770) (fun hc775 => ?_) (fun hc775 => ?_)
 {
 replace hm := bif_t hc775 hm
 refine wp_ift (cvb hc775) ?_
 refine wp_seq (wrl (wv (.bool false) z z z (wl_nil (tn (wp_ret (blk_r (then_r (then_r ?_))))))))
 replace hm := inr_up hm hx757
 refine blk_r (then_r ?_)
 refine post_ret (vs := [.bool false]) results138 (rvs_cons (rv_tmp z) rvs_nil) ?_
 replace hst := hst.pull1.pull1.keep2
 obtain rfl := some_inj hm
 exact ⟨false, z, z, hst⟩
}
 {
 replace hm := bif_f hc775 hm
 refine wp_iff (cvb hc775) ?_
 refine wp_skip (blk_n (tn (wrl ?_)))
 refine wv (.int .i64 (i64.wrap (z750 + (1:Int)))) z z z (wv (.int .i64 (i64.wrap (z750 + (1:Int)))) z z z (wl_nil (tn ?_)))
 replace hst := hst.pull1.pull1.keep2
 obtain rfl := some_inj hm
 exact ⟨_, Nat.lt_succ_self _, (i64.wrap (z750 + (1:Int))), _, hx757, (fu 1 r1_2 z (fu 2 (.func (.func 137) #[] #[]) z (fu 15 r0_2 z (fu 16 (.int .i64 ((a0.Puts).length : Int)) z (fu 17 (.int .i64 (i64.wrap (z750 + (1:Int)))) z z))))), hst⟩
}
}
 {
 replace hm := bif_f hc759 hm
 refine wp_iff (cvb hc759) ?_
 refine wp_exit (then_x (then_x ?_))
 replace hm := inr_up hm hx757
 refine blk_x (tn (wp_seq (wrl ?_)))
 refine wv (.bool true) z z z (wl_nil (tn (wp_ret ?_)))
 refine post_ret (vs := [.bool true]) results138 (rvs_cons (rv_tmp z) rvs_nil) ?_
 replace hst := hst.pull1.pull1.keep2
 obtain rfl := some_inj hm
 exact ⟨true, z, z, hst⟩
}
}
}
 clear hst
 rintro _ w780 ⟨z776, rfl, rfl, hst⟩
 refine ⟨_, z, ?_⟩
 try dsimp only at hm
 refine wv (.bool z776) z z (x_pick_t hc713 z z) (wv (.bool z776) z z z ?_)
 refine bsplit z776 (fun hc781 => ?_) (fun hc781 => ?_)
 {
 replace hm := bif_t hc781 hm
 refine wv (Pt b524 6) ((wanted_eq z z z (cvb hc781)).trans z) z (x_field z underlying46 z sizeOf22 z) (wv (r0_3) ((wanted_eq z z z (cvb hc781)).trans z) z (x_load z isAgg22 (hst.bc0 z)) (wv (Pt b529 6) ((wanted_eq z z z (cvb hc781)).trans z) z (x_field z underlying46 z sizeOf22 z) (wv (r1_3) ((wanted_eq z z z (cvb hc781)).trans z) z (x_load z isAgg22 (hst.bc1 z)) ?_)))
 obtain ⟨t782, ht783, hm⟩ := bind_some hm
 refine wl_call ((wanted_eq z z z (cvb hc781)).trans z) z (x_call call110 z (vs := [r0_3, r1_3]) z) ?_
 refine (slices_Equal_byte_byte_ref (f0_3.mono (rd_weak _)) (f1_3.mono (rd_weak _)) hst.to0 ht783).mono ?_
 rintro _ w784 ⟨rfl, hst⟩
 refine ⟨_, z, ?_⟩
 replace hst := hst.of0
 refine wv (.bool t782) z z (x_pick_t hc781 z z) (wv (.bool t782) z z z (wl_nil (tn (wp_ret ?_))))
 obtain rfl := some_inj hm
 refine post_ret (vs := [.bool t782]) results57 (rvs_cons (rv_tmp z) rvs_nil) ?_
 exact ⟨z, hst.keep0⟩
}
 {
 replace hm := bif_f hc781 hm
 refine wo hc781 z z z z z z (wo hc781 z z z z z z (wo hc781 z z z z z z (wo hc781 z z z z z z (wo hc781 z z z z z z (wv (.bool false) z z (x_pick_f hc781 z z) (wv (.bool false) z z z (wl_nil (tn (wp_ret ?_)))))))))
 obtain rfl := some_inj hm
 refine post_ret (vs := [.bool false]) results57 (rvs_cons (rv_tmp z) rvs_nil) ?_
 exact ⟨z, hst.keep0⟩
}
}
 {
 replace hm := bif_f hc713 hm
 refine wo hc713 z z z z z z (wo hc713 z z z z z z (wo hc713 z z z z z z (wo hc713 z z z z z z (wo hc713 z z z z z z (wv (.bool false) z z (x_pick_f hc713 z z) (wv (.bool false) z z z (wz z z z z z z (wz z z z z z z (wz z z z z z z (wz z z z z z z (wz z z z z z z (wv (.bool false) z z (x_pick_f z z z) ?_))))))))))))
 refine wv (.bool false) z z z (wl_nil (tn (wp_ret ?_)))
 obtain rfl := some_inj hm
 refine post_ret (vs := [.bool false]) results57 (rvs_cons (rv_tmp z) rvs_nil) ?_
 exact ⟨z, hst.keep0⟩
}
}
 {
 replace hm := bif_f hc603 hm
 refine wo hc603 z z z z z z (wo hc603 z z z z z z (wo hc603 z z z z z z (wo hc603 z z z z z z (wo hc603 z z z z z z (wo hc603 z z z z z z (wv (.bool false) z z (x_pick_f hc603 z z) (wv (.bool false) z z z (wz z z z z z z (wz z z z z z z (wz z z z z z z (wz z z z z z z (wz z z z z z z ?_))))))))))))
 refine wv (.bool false) z z (x_pick_f z z z) (wv (.bool false) z z z (wz z z z z z z (wz z z z z z z (wz z z z z z z (wz z z z z z z (wz z z z z z z (wv (.bool false) z z (x_pick_f z z z) (wv (.bool false) z z z (wl_nil (tn (wp_ret ?_)))))))))))
 obtain rfl := some_inj hm
 refine post_ret (vs := [.bool false]) results57 (rvs_cons (rv_tmp z) rvs_nil) ?_
 exact ⟨z, hst.keep0⟩
}
}
 {
 replace hm := bif_f hc535 hm
 refine wo hc535 z z z z z z (wo hc535 z z z z z z (wo hc535 z z z z z z (wo hc535 z z z z z z (wo hc535 z z z z z z (wv (.bool false) z z (x_pick_f hc535 z z) (wv (.bool false) z z z (wz z z z z z z (wz z z z z z z (wz z z z z z z (wz z z z z z z (wz z z z z z z (wz z z z z z z ?_))))))))))))
 refine wv (.bool false) z z (x_pick_f z z z) (wv (.bool false) z z z (wz z z z z z z (wz z z z z z z (wz z z z z z z (wz z z z z z z (wz z z z z z z (wv (.bool false) z z (x_pick_f z z z) (wv (.bool false) z z z (wz z z z z z z (wz z z z z z z (wz z z z z z z (wz z z z z z z ?_))))))))))))
 refine wz z z z z z z (wv (.bool false) z z (x_pick_f z z z) (wv (.bool false) z z z (wl_nil (tn (wp_ret ?_)))))
 obtain rfl := some_inj hm
 refine post_ret (vs := [.bool false]) results57 (rvs_cons (rv_tmp z) rvs_nil) ?_
 exact ⟨z, hst.keep0⟩
}
}
 {
 replace hm := bif_f hc534 hm
 refine wo hc534 z z z z z z (wo hc534 z z z z z z (wo hc534 z z z z z z (wo hc534 z z z z z z (wo hc534 z z z z z z (wv (.bool false) z z (x_pick_f hc534 z z) (wv (.bool false) z z z (wz z z z z z z (wz z z z z z z (wz z z z z z z (wz z z z z z z (wz z z z z z z (wv (.bool false) z z (x_pick_f z z z) ?_))))))))))))
 refine wv (.bool false) z z z (wz z z z z z z (wz z z z z z z (wz z z z z z z (wz z z z z z z (wz z z z z z z (wz z z z z z z (wv (.bool false) z z (x_pick_f z z z) (wv (.bool false) z z z (wz z z z z z z (wz z z z z z z (wz z z z z z z (wz z z z z z z ?_))))))))))))
 refine wz z z z z z z (wv (.bool false) z z (x_pick_f z z z) (wv (.bool false) z z z (wz z z z z z z (wz z z z z z z (wz z z z z z z (wz z z z z z z (wz z z z z z z (wv (.bool false) z z (x_pick_f z z z) (wv (.bool false) z z z (wl_nil (tn (wp_ret ?_))))))))))))
 obtain rfl := some_inj hm
 refine post_ret (vs := [.bool false]) results57 (rvs_cons (rv_tmp z) rvs_nil) ?_
 exact ⟨z, hst.keep0⟩
}
}

theorem number_Within_ref {w0 w : World} {I : HL} {R : SP} {a0 : Nat} {a1 : Nat} {a2 : Nat}  (hst : St w0 w I [] R) {r : (Bool)} (hm : number_Within a0 a1 a2 = some r) :
  Calls prog 215 #[F6 a0, F6 a1, F6 a2] w fun e w' => e = .returned (.bool r) ∧ St w0 w' I [] R := by {
 unfold number_Within at hm
 refine calls_start (args := [F6 a0, F6 a1, F6 a2]) func215 z ntmps215 (Nat.le_of_ble_eq_true z) ?_
 refine wp_seq (wrl (wv (.bool false) z z z (wl_nil (tn (wp_seq (wrl (wv (.float .f64 a1) z z z ?_)))))))
 obtain ⟨t412, ht413, hm⟩ := bind_some hm
 refine wc call118 [F6 a1] z z z ?_
 refine (number_Rank_ref hst.to0 ht413).mono ?_
 rintro _ w414 ⟨rfl, hst⟩
 refine ⟨_, z, ?_⟩
 replace hst := hst.of0
 refine wv (.float .f64 a0) z z z ?_
 obtain ⟨t417, ht418, hm⟩ := bind_some hm
 refine wc call118 [F6 a0] z z z ?_
 refine (number_Rank_ref hst.to0 ht418).mono ?_
 rintro _ w419 ⟨rfl, hst⟩
 refine ⟨_, z, ?_⟩
 replace hst := hst.of0
 refine wv (.bool (decide (t412 ≤ t417))) z z z (wv (.bool (decide (t412 ≤ t417))) z z z ?_)
 refine bsplit (decide (t412 ≤ t417)) (fun hc422 => ?_) (fun hc422 => ?_)
 {
 replace hm := bif_t hc422 hm
 refine wv (.float .f64 a0) ((wanted_eq z z z (cvb hc422)).trans z) z z ?_
 obtain ⟨t423, ht424, hm⟩ := bind_some hm
 refine wl_call ((wanted_eq z z z (cvb hc422)).trans z) z (x_call call118 z (vs := [F6 a0]) z) ?_
 refine (number_Rank_ref hst.to0 ht424).mono ?_
 rintro _ w425 ⟨rfl, hst⟩
 refine ⟨_, z, ?_⟩
 replace hst := hst.of0
 refine wv (.float .f64 a2) ((wanted_eq z z z (cvb hc422)).trans z) z z ?_
 obtain ⟨t428, ht429, hm⟩ := bind_some hm
 refine wl_call ((wanted_eq z z z (cvb hc422)).trans z) z (x_call call118 z (vs := [F6 a2]) z) ?_
 refine (number_Rank_ref hst.to0 ht429).mono ?_
 rintro _ w430 ⟨rfl, hst⟩
 refine ⟨_, z, ?_⟩
 replace hst := hst.of0
 refine wv (.bool (decide (t423 ≤ t428))) ((wanted_eq z z z (cvb hc422)).trans z) z z (wv (.bool (decide (t423 ≤ t428))) z z (x_pick_t hc422 z z) (wv (.bool (decide (t423 ≤ t428))) z z z (wl_nil (tn (wp_ret ?_)))))
 obtain rfl := some_inj hm
 refine post_ret (vs := [.bool (decide (t423 ≤ t428))]) results215 (rvs_cons (rv_tmp z) rvs_nil) ?_
 exact ⟨z, hst.keep0⟩
}
 {
 replace hm := bif_f hc422 hm
 refine wo hc422 z z z z z z (wo hc422 z z z z z z (wo hc422 z z z z z z (wo hc422 z z z z z z (wo hc422 z z z z z z (wv (.bool false) z z (x_pick_f hc422 z z) (wv (.bool false) z z z (wl_nil (tn (wp_ret ?_)))))))))
 obtain rfl := some_inj hm
 refine post_ret (vs := [.bool false]) results215 (rvs_cons (rv_tmp z) rvs_nil) ?_
 exact ⟨z, hst.keep0⟩
}
}

theorem locks_writes_ref {w0 w : World} {I : HL} {R : SP} {a0 : api_Hold} {r0_0 : Value} {r0_1 : Value} {r0_2 : Value} {r0_3 : Value} {a1 : Nat} {a2 : Nat} (f0_0 : Rd tyF64 R I r0_0 a0.Gets) (f0_1 : Rd tyF2 R I r0_1 a0.Scans) (f0_2 : Rd tyF64 R I r0_2 a0.Puts) (f0_3 : Rd (tyInt .u8) R I r0_3 a0.Data) (hst : St w0 w I [] R) {r : (Bool)} (hm : locks_writes a0 a1 a2 = some r) :
  Calls prog 194 #[.agg #[U6 a0.ID.Session, U6 a0.ID.Seq, U6 a0.Epoch, r0_0, r0_1, r0_2, r0_3], F6 a1, F6 a2] w fun e w' => e = .returned (.bool r) ∧ St w0 w' I [] R := by {
 unfold locks_writes at hm
 refine calls_start (args := [.agg #[U6 a0.ID.Session, U6 a0.ID.Seq, U6 a0.Epoch, r0_0, r0_1, r0_2, r0_3], F6 a1, F6 a2]) func194 z ntmps194 (Nat.le_of_ble_eq_true z) ?_
 refine wp_seq (wrl ?_)
 obtain ⟨b460, w461, ew462, eb463, hst⟩ := hst.box [U6 a0.ID.Session, U6 a0.ID.Seq, U6 a0.Epoch, r0_0, r0_1, r0_2, r0_3] 46
 refine wl_run (v := Pt b460 0) (w' := w461) z z (x_al (by kernel_rfl) ew462 eb463) ?_
 obtain ⟨b465, w466, ew467, eb468, hst⟩ := hst.box [F6 a1] 37
 refine wl_run (v := Pt b465 0) (w' := w466) z z (x_al (by kernel_rfl) ew467 eb468) ?_
 obtain ⟨b470, w471, ew472, eb473, hst⟩ := hst.box [F6 a2] 37
 refine wl_run (v := Pt b470 0) (w' := w471) z z (x_al (by kernel_rfl) ew472 eb473) ?_
 refine wv (.bool false) z z z (wl_nil (tn (wp_seq (wrl (wv (Pt b460 5) z z (x_field z underlying46 z sizeOf43 z) (wv (r0_2) z z (x_load z isAgg43 (hst.bc2 z)) (wv (.func (.func 214) #[] #[Pt b465 0, Pt b470 0]) z z (by kernel_rfl) ?_)))))))
 obtain ⟨y543, hq544, hm⟩ := bind_some hm
 refine wl_call z z (x_callv call213 (caps := []) z (vs := [r0_2, .func (.func 214) #[] #[Pt b465 0, Pt b470 0]]) z) ?_
 refine Calls.mono (show Calls prog 213 #[r0_2, .func (.func 214) #[] #[Pt b465 0, Pt b470 0]] _ (fun e w' => ∃ (z541 : Bool), z541 = y543 ∧ e = .returned (.bool z541) ∧ St w0 w' I [cells b460 [U6 a0.ID.Session, U6 a0.ID.Seq, U6 a0.Epoch, r0_0, r0_1, r0_2, r0_3], cells b465 [F6 a1], cells b470 [F6 a2]] R) from ?_) ?_
 {
 clear hm; have hm := hq544
 refine calls_start (args := [r0_2, .func (.func 214) #[] #[Pt b465 0, Pt b470 0]]) func213 z ntmps213 (Nat.le_of_ble_eq_true z) ?_
 refine wp_seq (wrl (wv (.bool false) z z z (wl_nil (tn (wp_seq (wrl (wv (r0_2) z z z (wv (.func (.func 214) #[] #[Pt b465 0, Pt b470 0]) z z z ?_))))))))
 obtain ⟨y538, hq539, hm⟩ := bind_some hm
 refine wl_call z z (x_callv call228 (caps := []) z (vs := [r0_2, .func (.func 214) #[] #[Pt b465 0, Pt b470 0]]) z) ?_
 refine Calls.mono (show Calls prog 228 #[r0_2, .func (.func 214) #[] #[Pt b465 0, Pt b470 0]] _ (fun e w' => ∃ (z536 : Int), z536 = y538 ∧ e = .returned (.int .i64 z536) ∧ St w0 w' I [cells b460 [U6 a0.ID.Session, U6 a0.ID.Seq, U6 a0.Epoch, r0_0, r0_1, r0_2, r0_3], cells b465 [F6 a1], cells b470 [F6 a2]] R) from ?_) ?_
 {
 clear hm; have hm := hq539
 refine calls_start (args := [r0_2, .func (.func 214) #[] #[Pt b465 0, Pt b470 0]]) func228 z ntmps228 (Nat.le_of_ble_eq_true z) ?_
 refine wp_seq (wrl (wv (.int .i64 (0:Int)) z z z (wl_nil (tn (wp_seq (wp_seq (wrl (wv (r0_2) z z z (wv (.int .i64 ((a0.Puts).length : Int)) z z (x_len z underlying43 (rd_sliceV f0_2)) (wv (.int .i64 (0:Int)) z z z (wl_nil (tn (wp_block ?_)))))))))))))
 obtain ⟨n512, hm⟩ := loopO_some hm
 refine wp_loop_n (fun n a w => ∃ (z510 : Int) (σ511 : Nat → Value), loopN (locks_writes_l0 a0 a1 a2) n z510 = some y538 ∧ a = Fr 19 (upd (upd (upd (upd σ511 0 (r0_2)) 1 (.func (.func 214) #[] #[Pt b465 0, Pt b470 0])) 7 (.int .i64 ((a0.Puts).length : Int))) 8 (.int .i64 z510)) ∧ St w0 w I [cells b470 [F6 a2], cells b465 [F6 a1], cells b460 [U6 a0.ID.Session, U6 a0.ID.Seq, U6 a0.Epoch, r0_0, r0_1, r0_2, r0_3]] R) n512 ⟨(0:Int), _, hm, (fu 0 r0_2 z (fu 1 (.func (.func 214) #[] #[Pt b465 0, Pt b470 0]) z (fu 7 (.int .i64 ((a0.Puts).length : Int)) z (fu 8 (.int .i64 (0:Int)) z z)))), hst⟩ ?_
 rintro n518 _ w513 ⟨z510, σ511, hm, rfl, hst⟩
 obtain ⟨n515, y516, rfl, hm, hx517⟩ := loopN_some hm
 dsimp only [locks_writes_l0] at hm
 refine wp_seq (wrl (wv (.bool (decide (z510 < ((a0.Puts).length : Int)))) z z z (wl_nil (tn (wp_seq ?_)))))
 refine bsplit (decide (z510 < ((a0.Puts).length : Int))) (fun hc519 => ?_) (fun hc519 => ?_)
 {
 replace hm := bif_t hc519 hm
 refine wp_ift (cvb hc519) ?_
 refine wp_skip (tn (wp_seq (wp_block (wp_seq (wrl ?_)))))
 refine wv (.int .i64 z510) z z z (wv (.int .i64 z510) z z z (wl_nil (tn (wp_seq (wrl (wv (.func (.func 214) #[] #[Pt b465 0, Pt b470 0]) z z z (wv (r0_2) z z z (wv (.int .i64 z510) z z z ?_))))))))
 obtain ⟨x520, hx521, hm⟩ := bind_some hm
 obtain ⟨h522, h523, hi524⟩ := geto_some hx521
 refine wv (.pointer (some (eAddr r0_2 (z510.toNat * 1 + 0)))) z z (x_index z z underlying43 sizeOf37 (rd_sliceV f0_2) h522 h523) (wv (.float .f64 x520) z z (x_load z isAgg37 (rd_load f0_2 (HL.le.refl _) hst hi524 (by rintro _ rfl; rfl))) ?_)
 obtain ⟨y532, hq533, hm⟩ := bind_some hm
 refine wl_call z z (x_callv call214 (caps := [Pt b465 0, Pt b470 0]) z (vs := [F6 x520]) z) ?_
 refine Calls.mono (show Calls prog 214 #[F6 x520, Pt b465 0, Pt b470 0] _ (fun e w' => ∃ (z530 : Bool), z530 = y532 ∧ e = .returned (.bool z530) ∧ St w0 w' I [cells b460 [U6 a0.ID.Session, U6 a0.ID.Seq, U6 a0.Epoch, r0_0, r0_1, r0_2, r0_3], cells b465 [F6 a1], cells b470 [F6 a2]] R) from ?_) ?_
 {
 clear hm; have hm := hq533
 refine calls_start (args := [F6 x520, Pt b465 0, Pt b470 0]) func214 z ntmps214 (Nat.le_of_ble_eq_true z) ?_
 refine wp_seq (wrl (wv (.bool false) z z z (wl_nil (tn (wp_seq (wrl (wv (.float .f64 x520) z z z (wv (.float .f64 a1) z z (x_load z isAgg37 (hst.bc1 z)) (wv (.float .f64 a2) z z (x_load z isAgg37 (hst.bc0 z)) ?_)))))))))
 obtain ⟨t525, ht526, hm⟩ := bind_some hm
 refine wc call215 [F6 x520, F6 a1, F6 a2] z z z ?_
 refine (number_Within_ref hst.to0 ht526).mono ?_
 rintro _ w527 ⟨rfl, hst⟩
 refine ⟨_, z, ?_⟩
 replace hst := hst.of0
 refine wv (.bool t525) z z z (wl_nil (tn (wp_ret ?_)))
 refine post_ret (vs := [.bool t525]) results214 (rvs_cons (rv_tmp z) rvs_nil) ?_
 replace hst := hst.pull1.pull2.keep3
 obtain rfl := some_inj hm
 exact ⟨t525, z, z, hst⟩
}
 clear hst
 rintro _ w534 ⟨z530, rfl, rfl, hst⟩
 refine ⟨_, z, ?_⟩
 try dsimp only at hm
 refine wl_nil (tn ?_)
 refine bsplit z530 (fun hc535 => ?_) (fun hc535 => ?_)
 {
 replace hm := bif_t hc535 hm
 refine wp_ift (cvb hc535) ?_
 refine wp_seq (wrl (wv (.int .i64 z510) z z z (wv (.int .i64 z510) z z z (wl_nil (tn (wp_ret (blk_r (then_r (then_r ?_)))))))))
 replace hm := inr_up hm hx517
 refine blk_r (then_r ?_)
 refine post_ret (vs := [I6 z510]) results228 (rvs_cons (rv_tmp z) rvs_nil) ?_
 replace hst := hst.pull2.pull2.pull2.keep3
 obtain rfl := some_inj hm
 exact ⟨z510, z, z, hst⟩
}
 {
 replace hm := bif_f hc535 hm
 refine wp_iff (cvb hc535) ?_
 refine wp_skip (blk_n (tn (wrl ?_)))
 refine wv (.int .i64 (i64.wrap (z510 + (1:Int)))) z z z (wv (.int .i64 (i64.wrap (z510 + (1:Int)))) z z z (wl_nil (tn ?_)))
 replace hst := hst.pull1.pull2.keep3
 obtain rfl := some_inj hm
 exact ⟨_, Nat.lt_succ_self _, (i64.wrap (z510 + (1:Int))), _, hx517, (fu 0 r0_2 z (fu 1 (.func (.func 214) #[] #[Pt b465 0, Pt b470 0]) z (fu 7 (.int .i64 ((a0.Puts).length : Int)) z (fu 8 (.int .i64 (i64.wrap (z510 + (1:Int)))) z z)))), hst⟩
}
}
 {
 replace hm := bif_f hc519 hm
 refine wp_iff (cvb hc519) ?_
 refine wp_exit (then_x (then_x ?_))
 replace hm := inr_up hm hx517
 refine blk_x (tn (wp_seq (wrl ?_)))
 refine wv (.int .i64 ((-1):Int)) z z z (wl_nil (tn (wp_ret ?_)))
 refine post_ret (vs := [I6 ((-1):Int)]) results228 (rvs_cons (rv_tmp z) rvs_nil) ?_
 replace hst := hst.pull1.pull2.keep3
 obtain rfl := some_inj hm
 exact ⟨((-1):Int), z, z, hst⟩
}
}
 clear hst
 rintro _ w540 ⟨z536, rfl, rfl, hst⟩
 refine ⟨_, z, ?_⟩
 try dsimp only at hm
 refine wv (.bool (decide (z536 ≥ (0:Int)))) z z z (wv (.bool (decide (z536 ≥ (0:Int)))) z z z (wl_nil (tn (wp_ret ?_))))
 refine post_ret (vs := [.bool (decide (z536 ≥ (0:Int)))]) results213 (rvs_cons (rv_tmp z) rvs_nil) ?_
 replace hst := hst.pull2.pull2.pull2.keep3
 obtain rfl := some_inj hm
 exact ⟨(decide (z536 ≥ (0:Int))), z, z, hst⟩
}
 clear hst
 rintro _ w545 ⟨z541, rfl, rfl, hst⟩
 refine ⟨_, z, ?_⟩
 try dsimp only at hm
 refine wv (.bool z541) z z z (wl_nil (tn (wp_ret ?_)))
 obtain rfl := some_inj hm
 refine post_ret (vs := [.bool z541]) results194 (rvs_cons (rv_tmp z) rvs_nil) ?_
 exact ⟨z, hst.keep0⟩
}

end Go.Proofs.YtgnkkopjkgdieaaGreat
