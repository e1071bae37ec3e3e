/- The Go functions refine their models, part 0. -/
import Derived.Test.YtgnkkopjkgdieaaGreatLaneHoldsT
set_option linter.unusedVariables false
set_option linter.unusedSimpArgs false
set_option maxRecDepth 100000
set_option maxHeartbeats 4000000
namespace Go.Proofs.YtgnkkopjkgdieaaGreat
open Go Go.V
open _root_.Go.Proofs.Tryz IntKind
attribute [local irreducible] wpList Code.wp wpQuiet Calls bodyPost Oper.wp wpS Nx PendOK YieldsIn
theorem mvcc_New_ref {w0 w : World} {I : HL} {R : SP}   (hst : St w0 w I [] R) {r : (mvcc_Store)} (hm : mvcc_New = some r) :
  Calls prog 43 #[] w fun e w' => ∃ (q0 : Value), e = .returned (q0) ∧ St w0 w' I [at_mvcc_Store q0 r] R := by {
 unfold mvcc_New at hm
 refine calls_start (args := []) func43 z ntmps43 (Nat.le_of_ble_eq_true z) ?_
 refine wp_seq (wrl (wv (.pointer none) z z z (wl_nil (tn (wp_seq (wrl (wv (.agg #[Zs]) z z (by kernel_rfl) ?_)))))))
 obtain ⟨b9, w10, ew11, eb12, hst⟩ := hst.box [Zs] 201
 refine wl_run (v := Pt b9 0) (w' := w10) z z (x_al (by kernel_rfl) ew11 eb12) ?_
 refine wv (Pt b9 0) z z z (wl_nil (tn (wp_ret ?_)))
 replace hst := hst.nest_nil nest_mvcc_row
 replace hst := hst.pull1
 replace hst := at_mvcc_Store_close (pv := Pt b9 0) (x := ({ rows := [] } : mvcc_Store)) hst z
 obtain rfl := some_inj hm
 refine post_ret (vs := [Pt b9 0]) results43 (rvs_cons (rv_tmp z) rvs_nil) ?_
 exact ⟨.pointer (some ⟨b9, 0, none⟩), z, hst.keep1⟩
}

theorem locks_New_ref {w0 w : World} {I : HL} {R : SP}   (hst : St w0 w I [] R) {r : (locks_Table)} (hm : locks_New = some r) :
  Calls prog 44 #[] w fun e w' => ∃ (q0 : Value), e = .returned (q0) ∧ St w0 w' I [at_locks_Table q0 r] R := by {
 unfold locks_New at hm
 refine calls_start (args := []) func44 z ntmps44 (Nat.le_of_ble_eq_true z) ?_
 refine wp_seq (wrl (wv (.pointer none) z z z (wl_nil (tn (wp_seq (wrl (wv (.agg #[Zs]) z z (by kernel_rfl) ?_)))))))
 obtain ⟨b16, w17, ew18, eb19, hst⟩ := hst.box [Zs] 203
 refine wl_run (v := Pt b16 0) (w' := w17) z z (x_al (by kernel_rfl) ew18 eb19) ?_
 refine wv (Pt b16 0) z z z (wl_nil (tn (wp_ret ?_)))
 replace hst := hst.own_nil ty_api_Hold
 replace hst := hst.pull1
 replace hst := at_locks_Table_close (pv := Pt b16 0) (x := ({ l := [] } : locks_Table)) hst z
 obtain rfl := some_inj hm
 refine post_ret (vs := [Pt b16 0]) results44 (rvs_cons (rv_tmp z) rvs_nil) ?_
 exact ⟨.pointer (some ⟨b16, 0, none⟩), z, hst.keep1⟩
}

theorem session_New_ref {w0 w : World} {I : HL} {R : SP}   (hst : St w0 w I [] R) {r : (session_Table)} (hm : session_New = some r) :
  Calls prog 45 #[] w fun e w' => ∃ (q0 : Value), e = .returned (q0) ∧ St w0 w' I [at_session_Table q0 r] R := by {
 unfold session_New at hm
 refine calls_start (args := []) func45 z ntmps45 (Nat.le_of_ble_eq_true z) ?_
 refine wp_seq (wrl (wv (.pointer none) z z z (wl_nil (tn (wp_seq (wrl (wv (.agg #[Zs]) z z (by kernel_rfl) ?_)))))))
 obtain ⟨b23, w24, ew25, eb26, hst⟩ := hst.box [Zs] 206
 refine wl_run (v := Pt b23 0) (w' := w24) z z (x_al (by kernel_rfl) ew25 eb26) ?_
 refine wv (Pt b23 0) z z z (wl_nil (tn (wp_ret ?_)))
 replace hst := hst.own_nil ty_session_row
 replace hst := hst.pull1
 replace hst := at_session_Table_close (pv := Pt b23 0) (x := ({ l := [] } : session_Table)) hst z
 obtain rfl := some_inj hm
 refine post_ret (vs := [Pt b23 0]) results45 (rvs_cons (rv_tmp z) rvs_nil) ?_
 exact ⟨.pointer (some ⟨b23, 0, none⟩), z, hst.keep1⟩
}

theorem policy_New_ref {w0 w : World} {I : HL} {R : SP}   (hst : St w0 w I [] R) {r : (policy_Book)} (hm : policy_New = some r) :
  Calls prog 46 #[] w fun e w' => ∃ (q0 : Value), e = .returned (q0) ∧ St w0 w' I [at_policy_Book q0 r] R := by {
 unfold policy_New at hm
 refine calls_start (args := []) func46 z ntmps46 (Nat.le_of_ble_eq_true z) ?_
 refine wp_seq (wrl (wv (.pointer none) z z z (wl_nil (tn (wp_seq (wrl (wv (.agg #[Zs]) z z (by kernel_rfl) ?_)))))))
 obtain ⟨b30, w31, ew32, eb33, hst⟩ := hst.box [Zs] 209
 refine wl_run (v := Pt b30 0) (w' := w31) z z (x_al (by kernel_rfl) ew32 eb33) ?_
 refine wv (Pt b30 0) z z z (wl_nil (tn (wp_ret ?_)))
 replace hst := hst.own_nil ty_policy_line
 replace hst := hst.pull1
 replace hst := at_policy_Book_close (pv := Pt b30 0) (x := ({ l := [] } : policy_Book)) hst z
 obtain rfl := some_inj hm
 refine post_ret (vs := [Pt b30 0]) results46 (rvs_cons (rv_tmp z) rvs_nil) ?_
 exact ⟨.pointer (some ⟨b30, 0, none⟩), z, hst.keep1⟩
}

theorem lane_New_ref {w0 w : World} {I : HL} {R : SP} {a0 : Int}  (hst : St w0 w I [] R) {r : (lane_State)} (hm : lane_New a0 = some r) :
  Calls prog 13 #[I6 a0] w fun e w' => ∃ (q0 : Value), e = .returned (q0) ∧ St w0 w' I [at_lane_State q0 r] R := by {
 unfold lane_New at hm
 refine calls_start (args := [I6 a0]) func13 z ntmps13 (Nat.le_of_ble_eq_true z) ?_
 refine wp_seq (wrl (wv (.pointer none) z z z (wl_nil (tn (wp_seq (wrl (wv (.int .i64 a0) z z z ?_)))))))
 obtain ⟨t49, ht50, hm⟩ := bind_some hm
 refine wc call43 [] z z z ?_
 refine (mvcc_New_ref hst.to0 ht50).mono ?_
 rintro _ w51 ⟨v54, rfl, hst⟩
 refine ⟨_, z, ?_⟩
 replace hst := hst.of1
 obtain ⟨t56, ht57, hm⟩ := bind_some hm
 refine wc call44 [] z z z ?_
 refine (locks_New_ref hst.to0 ht57).mono ?_
 rintro _ w58 ⟨v61, rfl, hst⟩
 refine ⟨_, z, ?_⟩
 replace hst := hst.of1
 obtain ⟨t63, ht64, hm⟩ := bind_some hm
 refine wc call45 [] z z z ?_
 refine (session_New_ref hst.to0 ht64).mono ?_
 rintro _ w65 ⟨v68, rfl, hst⟩
 refine ⟨_, z, ?_⟩
 replace hst := hst.of1
 obtain ⟨t70, ht71, hm⟩ := bind_some hm
 refine wc call46 [] z z z ?_
 refine (policy_New_ref hst.to0 ht71).mono ?_
 rintro _ w72 ⟨v75, rfl, hst⟩
 refine ⟨_, z, ?_⟩
 replace hst := hst.of1.pull3
 obtain ⟨b80, v81, rfl, hst'⟩ := at_mvcc_Store_open hst
 clear hst
 have hst := hst'
 clear hst'
 replace hst := hst.pull4
 obtain ⟨b83, v84, rfl, hst'⟩ := at_locks_Table_open hst
 clear hst
 have hst := hst'
 clear hst'
 replace hst := hst.pull5
 obtain ⟨b86, v87, rfl, hst'⟩ := at_session_Table_open hst
 clear hst
 have hst := hst'
 clear hst'
 replace hst := hst.pull6
 obtain ⟨b89, v90, rfl, hst'⟩ := at_policy_Book_open hst
 clear hst
 have hst := hst'
 clear hst'
 refine wv (.agg #[I6 a0, U6 (1:Int), Pt b80 0, Pt b83 0, Pt b86 0, Pt b89 0, Zs, Zs, Zs]) z z (by kernel_rfl) ?_
 obtain ⟨b92, w93, ew94, eb95, hst⟩ := hst.box [I6 a0, U6 (1:Int), Pt b80 0, Pt b83 0, Pt b86 0, Pt b89 0, Zs, Zs, Zs] 111
 refine wl_run (v := Pt b92 0) (w' := w93) z z (x_al (by kernel_rfl) ew94 eb95) ?_
 refine wv (Pt b92 0) z z z (wl_nil (tn (wp_ret ?_)))
 replace hst := hst.pull8.pull8
 replace hst := at_mvcc_Store_close (pv := Pt b80 0) (x := t49) hst z
 replace hst := objO_some hst
 replace hst := hst.pull7.pull7
 replace hst := at_locks_Table_close (pv := Pt b83 0) (x := t56) hst z
 replace hst := objO_some hst
 replace hst := hst.pull6.pull6
 replace hst := at_session_Table_close (pv := Pt b86 0) (x := t63) hst z
 replace hst := objO_some hst
 replace hst := hst.pull5.pull5
 replace hst := at_policy_Book_close (pv := Pt b89 0) (x := t70) hst z
 replace hst := objO_some hst
 replace hst := hst.own_nil ty_api_Decision
 replace hst := hst.own_nil ty_api_Item
 replace hst := hst.own_nil ty_lane_used
 replace hst := hst.pull1.pull2.pull3.pull4.pull5.pull6.pull7
 replace hst := at_lane_State_close (pv := Pt b92 0) (x := ({ wide := a0, epoch := (1:Int), store := (some t49), locks := (some t56), last := (some t63), book := (some t70), open_ := [], out := [], used := [] } : lane_State)) hst z
 obtain rfl := some_inj hm
 refine post_ret (vs := [Pt b92 0]) results13 (rvs_cons (rv_tmp z) rvs_nil) ?_
 exact ⟨.pointer (some ⟨b92, 0, none⟩), z, hst.keep1⟩
}

theorem cmp_isNaN_uint64_ref {w0 w : World} {I : HL} {R : SP} {a0 : Int}  (hst : St w0 w I [] R) {r : (Bool)} (hm : cmp_isNaN_uint64 a0 = some r) :
  Calls prog 190 #[U6 a0] w fun e w' => e = .returned (.bool r) ∧ St w0 w' I [] R := by {
 unfold cmp_isNaN_uint64 at hm
 refine calls_start (args := [U6 a0]) func190 z ntmps190 (Nat.le_of_ble_eq_true z) ?_
 refine wp_seq (wrl (wv (.bool false) z z z (wl_nil (tn (wp_seq (wrl (wv (.int .u64 a0) z z z (wv (.int .u64 a0) z z z (wv (.bool (a0 != a0)) z z z (wv (.bool (a0 != a0)) z z z (wl_nil (tn (wp_ret ?_)))))))))))))
 obtain rfl := some_inj hm
 refine post_ret (vs := [.bool (a0 != a0)]) results190 (rvs_cons (rv_tmp z) rvs_nil) ?_
 exact ⟨z, hst.keep0⟩
}

theorem cmp_Compare_uint64_ref {w0 w : World} {I : HL} {R : SP} {a0 : Int} {a1 : Int}  (hst : St w0 w I [] R) {r : (Int)} (hm : cmp_Compare_uint64 a0 a1 = some r) :
  Calls prog 131 #[U6 a0, U6 a1] w fun e w' => e = .returned (.int .i64 r) ∧ St w0 w' I [] R := by {
 unfold cmp_Compare_uint64 at hm
 refine calls_start (args := [U6 a0, U6 a1]) func131 z ntmps131 (Nat.le_of_ble_eq_true z) ?_
 refine wp_seq (wrl (wv (.int .i64 (0:Int)) z z z (wl_nil (tn (wp_seq (wrl (wv (.int .u64 a0) z z z ?_)))))))
 obtain ⟨t164, ht165, hm⟩ := bind_some hm
 refine wc call190 [U6 a0] z z z ?_
 refine (cmp_isNaN_uint64_ref hst.to0 ht165).mono ?_
 rintro _ w166 ⟨rfl, hst⟩
 refine ⟨_, z, ?_⟩
 replace hst := hst.of0
 refine wv (.bool t164) z z z (wl_nil (tn (wp_seq (wrl (wv (.int .u64 a1) z z z ?_)))))
 obtain ⟨t169, ht170, hm⟩ := bind_some hm
 refine wc call190 [U6 a1] z z z ?_
 refine (cmp_isNaN_uint64_ref hst.to0 ht170).mono ?_
 rintro _ w171 ⟨rfl, hst⟩
 refine ⟨_, z, ?_⟩
 replace hst := hst.of0
 refine wv (.bool t169) z z z (wl_nil (tn (wp_seq (wp_seq (wrl (wv (.bool t164) z z z (wl_nil (tn ?_))))))))
 refine bsplit t164 (fun hc174 => ?_) (fun hc174 => ?_)
 {
 replace hm := bif_t hc174 hm
 refine wp_ift (cvb hc174) ?_
 refine wp_seq (wp_seq (wrl (wv (.bool t169) z z z (wl_nil (tn ?_)))))
 refine bsplit t169 (fun hc175 => ?_) (fun hc175 => ?_)
 {
 replace hm := bif_t hc175 hm
 refine wp_ift (cvb hc175) ?_
 refine wp_seq (wrl (wv (.int .i64 (0:Int)) z z z (wl_nil (tn (wp_ret (then_r (then_r ?_)))))))
 obtain rfl := some_inj hm
 refine post_ret (vs := [Zi]) results131 (rvs_cons (rv_tmp z) rvs_nil) ?_
 exact ⟨z, hst.keep0⟩
}
 {
 replace hm := bif_f hc175 hm
 refine wp_iff (cvb hc175) ?_
 refine wp_skip (tn (wp_seq (wrl ?_)))
 refine wv (.int .i64 ((-1):Int)) z z z (wl_nil (tn (wp_ret (then_r ?_))))
 obtain rfl := some_inj hm
 refine post_ret (vs := [I6 ((-1):Int)]) results131 (rvs_cons (rv_tmp z) rvs_nil) ?_
 exact ⟨z, hst.keep0⟩
}
}
 {
 replace hm := bif_f hc174 hm
 refine wp_iff (cvb hc174) ?_
 refine wp_skip (tn (wp_seq (wp_seq (wrl ?_))))
 refine wv (.bool t169) z z z (wl_nil (tn ?_))
 refine bsplit t169 (fun hc176 => ?_) (fun hc176 => ?_)
 {
 replace hm := bif_t hc176 hm
 refine wp_ift (cvb hc176) ?_
 refine wp_seq (wrl (wv (.int .i64 (1:Int)) z z z (wl_nil (tn (wp_ret (then_r ?_))))))
 obtain rfl := some_inj hm
 refine post_ret (vs := [I6 (1:Int)]) results131 (rvs_cons (rv_tmp z) rvs_nil) ?_
 exact ⟨z, hst.keep0⟩
}
 {
 replace hm := bif_f hc176 hm
 refine wp_iff (cvb hc176) ?_
 refine wp_skip (tn (wp_seq (wp_seq (wrl ?_))))
 refine wv (.int .u64 a0) z z z (wv (.int .u64 a1) z z z (wv (.bool (decide (a0 < a1))) z z z (wl_nil (tn ?_))))
 refine bsplit (decide (a0 < a1)) (fun hc177 => ?_) (fun hc177 => ?_)
 {
 replace hm := bif_t hc177 hm
 refine wp_ift (cvb hc177) ?_
 refine wp_seq (wrl (wv (.int .i64 ((-1):Int)) z z z (wl_nil (tn (wp_ret (then_r ?_))))))
 obtain rfl := some_inj hm
 refine post_ret (vs := [I6 ((-1):Int)]) results131 (rvs_cons (rv_tmp z) rvs_nil) ?_
 exact ⟨z, hst.keep0⟩
}
 {
 replace hm := bif_f hc177 hm
 refine wp_iff (cvb hc177) ?_
 refine wp_skip (tn (wp_seq (wp_seq (wrl ?_))))
 refine wv (.int .u64 a0) z z z (wv (.int .u64 a1) z z z (wv (.bool (decide (a0 > a1))) z z z (wl_nil (tn ?_))))
 refine bsplit (decide (a0 > a1)) (fun hc178 => ?_) (fun hc178 => ?_)
 {
 replace hm := bif_t hc178 hm
 refine wp_ift (cvb hc178) ?_
 refine wp_seq (wrl (wv (.int .i64 (1:Int)) z z z (wl_nil (tn (wp_ret (then_r ?_))))))
 obtain rfl := some_inj hm
 refine post_ret (vs := [I6 (1:Int)]) results131 (rvs_cons (rv_tmp z) rvs_nil) ?_
 exact ⟨z, hst.keep0⟩
}
 {
 replace hm := bif_f hc178 hm
 refine wp_iff (cvb hc178) ?_
 refine wp_skip (tn (wp_seq (wrl ?_)))
 refine wv (.int .i64 (0:Int)) z z z (wl_nil (tn (wp_ret ?_)))
 obtain rfl := some_inj hm
 refine post_ret (vs := [Zi]) results131 (rvs_cons (rv_tmp z) rvs_nil) ?_
 exact ⟨z, hst.keep0⟩
}
}
}
}
}

theorem cmp_Or_int_ref {w0 w : World} {I : HL} {R : SP} {a0 : (List Int)} {r0_0 : Value} (f0_0 : Rd (tyInt .i64) R I r0_0 a0) (hst : St w0 w I [] R) {r : (Int)} (hm : cmp_Or_int a0 = some r) :
  Calls prog 130 #[r0_0] w fun e w' => e = .returned (.int .i64 r) ∧ St w0 w' I [] R := by {
 unfold cmp_Or_int at hm
 refine calls_start (args := [r0_0]) func130 z ntmps130 (Nat.le_of_ble_eq_true z) ?_
 refine wp_seq (wrl (wv (.int .i64 (0:Int)) z z z (wl_nil (tn (wp_seq (wrl (wv (.int .i64 (0:Int)) z z z (wl_nil (tn (wp_seq (wp_seq (wrl (wv (r0_0) z z z (wv (.int .i64 ((a0).length : Int)) z z (x_len z underlying276 (rd_sliceV f0_0)) (wv (.int .i64 (0:Int)) z z z (wl_nil (tn (wp_block ?_))))))))))))))))))
 obtain ⟨n199, hm⟩ := loopO_some hm
 refine wp_loop_n (fun n a w => ∃ (z197 : Int) (σ198 : Nat → Value), loopN (cmp_Or_int_l0 a0) n z197 = some r ∧ a = Fr 18 (upd (upd (upd (upd σ198 3 (.int .i64 (0:Int))) 6 (r0_0)) 7 (.int .i64 ((a0).length : Int))) 8 (.int .i64 z197)) ∧ St w0 w I [] R) n199 ⟨(0:Int), _, hm, (fu 3 (.int .i64 (0:Int)) z (fu 6 r0_0 z (fu 7 (.int .i64 ((a0).length : Int)) z (fu 8 (.int .i64 (0:Int)) z z)))), hst⟩ ?_
 rintro n205 _ w200 ⟨z197, σ198, hm, rfl, hst⟩
 obtain ⟨n202, y203, rfl, hm, hx204⟩ := loopN_some hm
 dsimp only [cmp_Or_int_l0] at hm
 refine wp_seq (wrl (wv (.bool (decide (z197 < ((a0).length : Int)))) z z z (wl_nil (tn (wp_seq ?_)))))
 refine bsplit (decide (z197 < ((a0).length : Int))) (fun hc206 => ?_) (fun hc206 => ?_)
 {
 replace hm := bif_t hc206 hm
 refine wp_ift (cvb hc206) ?_
 refine wp_skip (tn (wp_seq (wp_block (wp_seq (wrl ?_)))))
 obtain ⟨x207, hx208, hm⟩ := bind_some hm
 obtain ⟨h209, h210, hi211⟩ := geto_some hx208
 refine wv (.pointer (some (eAddr r0_0 (z197.toNat * 1 + 0)))) z z (x_index z z underlying276 sizeOf3 (rd_sliceV f0_0) h209 h210) (wv (.int .i64 x207) z z (x_load z isAgg3 (rd_load f0_0 (HL.le.refl _) hst hi211 (by rintro _ rfl; rfl))) (wv (.int .i64 x207) z z z (wl_nil (tn (wp_seq (wrl (wv (.int .i64 x207) z z z (wv (.int .i64 (0:Int)) z z z (wv (.bool (x207 != (0:Int))) z z z (wl_nil (tn ?_)))))))))))
 refine bsplit (x207 != (0:Int)) (fun hc212 => ?_) (fun hc212 => ?_)
 {
 replace hm := bif_t hc212 hm
 refine wp_ift (cvb hc212) ?_
 refine wp_seq (wrl (wv (.int .i64 x207) z z z (wv (.int .i64 x207) z z z (wl_nil (tn (wp_ret (blk_r (then_r (then_r ?_)))))))))
 replace hm := inr_up hm hx204
 refine blk_r (then_r ?_)
 obtain rfl := some_inj hm
 refine post_ret (vs := [I6 x207]) results130 (rvs_cons (rv_tmp z) rvs_nil) ?_
 exact ⟨z, hst.keep0⟩
}
 {
 replace hm := bif_f hc212 hm
 refine wp_iff (cvb hc212) ?_
 refine wp_skip (blk_n (tn (wrl ?_)))
 refine wv (.int .i64 (i64.wrap (z197 + (1:Int)))) z z z (wv (.int .i64 (i64.wrap (z197 + (1:Int)))) z z z (wl_nil (tn ?_)))
 replace hst := hst.keep0
 obtain rfl := some_inj hm
 exact ⟨_, Nat.lt_succ_self _, (i64.wrap (z197 + (1:Int))), _, hx204, (fu 3 (.int .i64 (0:Int)) z (fu 6 r0_0 z (fu 7 (.int .i64 ((a0).length : Int)) z (fu 8 (.int .i64 (i64.wrap (z197 + (1:Int)))) z z)))), hst⟩
}
}
 {
 replace hm := bif_f hc206 hm
 refine wp_iff (cvb hc206) ?_
 refine wp_exit (then_x (then_x ?_))
 replace hm := inr_up hm hx204
 refine blk_x (tn (wp_seq (wrl ?_)))
 refine wv (.int .i64 (0:Int)) z z z (wv (.int .i64 (0:Int)) z z z (wl_nil (tn (wp_ret ?_))))
 obtain rfl := some_inj hm
 refine post_ret (vs := [Zi]) results130 (rvs_cons (rv_tmp z) rvs_nil) ?_
 exact ⟨z, hst.keep0⟩
}
}

theorem locks_compare_ref {w0 w : World} {I : HL} {R : SP} {a0 : api_Hold} {r0_0 : Value} {r0_1 : Value} {r0_2 : Value} {r0_3 : Value} {a1 : api_ID} (f0_0 : Rd tyF64 R I r0_0 a0.Gets) (f0_1 : Rd tyF2 R I r0_1 a0.Scans) (f0_2 : Rd tyF64 R I r0_2 a0.Puts) (f0_3 : Rd (tyInt .u8) R I r0_3 a0.Data) (hst : St w0 w I [] R) {r : (Int)} (hm : locks_compare a0 a1 = some r) :
  Calls prog 160 #[.agg #[U6 a0.ID.Session, U6 a0.ID.Seq, U6 a0.Epoch, r0_0, r0_1, r0_2, r0_3], .agg #[U6 a1.Session, U6 a1.Seq]] w fun e w' => e = .returned (.int .i64 r) ∧ St w0 w' I [] R := by {
 unfold locks_compare at hm
 refine calls_start (args := [.agg #[U6 a0.ID.Session, U6 a0.ID.Seq, U6 a0.Epoch, r0_0, r0_1, r0_2, r0_3], .agg #[U6 a1.Session, U6 a1.Seq]]) func160 z ntmps160 (Nat.le_of_ble_eq_true z) ?_
 refine wp_seq (wrl ?_)
 obtain ⟨b175, w176, ew177, eb178, hst⟩ := hst.box [U6 a0.ID.Session, U6 a0.ID.Seq, U6 a0.Epoch, r0_0, r0_1, r0_2, r0_3] 46
 refine wl_run (v := Pt b175 0) (w' := w176) z z (x_al (by kernel_rfl) ew177 eb178) ?_
 obtain ⟨b180, w181, ew182, eb183, hst⟩ := hst.box [U6 a1.Session, U6 a1.Seq] 28
 refine wl_run (v := Pt b180 0) (w' := w181) z z (x_al (by kernel_rfl) ew182 eb183) ?_
 refine wv (.int .i64 (0:Int)) z z z (wl_nil (tn (wp_seq ?_)))
 refine wp_region_St hst 15 [0, 1, 2, 3, 4, 5, 6, 7, 8, 9, 10, 11, 12, 13, 14] [0, 1, 3, 0, 8, 31, 0, 64, 192, 0, 512, 2047, 4095, 8191, 16383] [] z (by kernel_rfl) (by kernel_rfl) Tryz.mixed (by kernel_rfl) ?_
 refine wsr (Pt b175 0) 0 z z z (by kernel_rfl) (fun w hst => x_field z underlying46 z sizeOf28 z) (wsr (Pt b175 0) 1 z z z (by kernel_rfl) (fun w hst => x_field z underlying28 z sizeOf26 z) (wsr (.int .u64 a0.ID.Session) 2 z z z (by kernel_rfl) (fun w hst => x_load z isAgg26 (hst.bc1 z)) (wsr (Pt b180 0) 3 z z z (by kernel_rfl) (fun w hst => x_field z underlying28 z sizeOf26 z) (wsr (.int .u64 a1.Session) 4 z z z (by kernel_rfl) (fun w hst => x_load z isAgg26 (hst.bc0 z)) (wsr (Pt b175 0) 6 z z z (by kernel_rfl) (fun w hst => x_field z underlying46 z sizeOf28 z) (wsr (Pt b175 1) 7 z z z (by kernel_rfl) (fun w hst => x_field z underlying28 z sizeOf26 z) (wsr (.int .u64 a0.ID.Seq) 8 z z z (by kernel_rfl) (fun w hst => x_load z isAgg26 (hst.bc1 z)) (wsr (Pt b180 1) 9 z z z (by kernel_rfl) (fun w hst => x_field z underlying28 z sizeOf26 z) (wsr (.int .u64 a1.Seq) 10 z z z (by kernel_rfl) (fun w hst => x_load z isAgg26 (hst.bc0 z)) ?_)))))))))
 refine ws_e1 5 (by kernel_rfl) ?_
 refine nxe [11, 12, 13, 14] (by kernel_rfl) z z ?_
 clear hst
 intro w hst
 obtain ⟨t185, ht186, hm⟩ := bind_some hm
 refine wec call131 [U6 a0.ID.Session, U6 a1.Session] z z ?_
 refine (cmp_Compare_uint64_ref hst.to0 ht186).mono ?_
 rintro _ w187 ⟨rfl, hst⟩
 refine ⟨_, z, ?_⟩
 replace hst := hst.of0
 refine ws_next (pend' := [(10, U6 a1.Seq), (9, Pt b180 1), (8, U6 a0.ID.Seq), (7, Pt b175 1), (6, Pt b175 0)]) hst (by kernel_rfl) (pkr z z (fun w hst => x_load z isAgg26 (hst.bc0 z)) (pkr z z (fun w hst => x_field z underlying28 z sizeOf26 z) (pkr z z (fun w hst => x_load z isAgg26 (hst.bc1 z)) (pkr z z (fun w hst => x_field z underlying28 z sizeOf26 z) (pkr z z (fun w hst => x_field z underlying46 z sizeOf28 z) pk_nil))))) ?_
 refine ws_e1 11 (by kernel_rfl) ?_
 refine nxe [12, 13, 14] (by kernel_rfl) z z ?_
 clear hst
 intro w hst
 obtain ⟨t190, ht191, hm⟩ := bind_some hm
 refine wec call131 [U6 a0.ID.Seq, U6 a1.Seq] z z ?_
 refine (cmp_Compare_uint64_ref hst.to0 ht191).mono ?_
 rintro _ w192 ⟨rfl, hst⟩
 refine ⟨_, z, ?_⟩
 replace hst := hst.of0
 refine ws_next (pend' := []) hst (by kernel_rfl) pk_nil ?_
 refine ws_e1 12 (by kernel_rfl) ?_
 refine nxe [13, 14] (by kernel_rfl) z z ?_
 clear hst
 intro w hst
 obtain ⟨b195, w196, ew197, eb198, hst⟩ := hst.lits (E := (tyInt .i64)) (xs := [t185, t190]) [[I6 t185], [I6 t190]] 3 2 z (Reps.cons z (Reps.cons z Reps.nil))
 refine we_run (v := (.slice (some ⟨b195, 0, none⟩) 2 2)) (w' := w196) z (x_als (by kernel_rfl) ew197 eb198) ?_
 refine ws_next (pend' := []) hst (by kernel_rfl) pk_nil ?_
 refine ws_e1 13 (by kernel_rfl) ?_
 refine nxe [14] (by kernel_rfl) z z ?_
 clear hst
 intro w hst
 obtain ⟨css200, hq201, hst⟩ := hst.own_open
 obtain ⟨t202, ht203, hm⟩ := bind_some hm
 refine wec call130 [(.slice (some ⟨b195, 0, none⟩) 2 2)] z z ?_
 refine (cmp_Or_int_ref (hst.rdrow0 hq201) hst.to0 ht203).mono ?_
 rintro _ w204 ⟨rfl, hst⟩
 refine ⟨_, z, ?_⟩
 replace hst := hst.of0.own_close hq201
 refine ws_next (pend' := []) hst (by kernel_rfl) pk_nil ?_
 refine wsr (.int .i64 t202) 14 z z z (by kernel_rfl) (fun w hst => z) ?_
 refine ws_nil ?_
 intro w hst
 refine tn (wp_ret ?_)
 obtain rfl := some_inj hm
 refine post_ret (vs := [I6 t202]) results160 (rvs_cons (rv_tmp z) rvs_nil) ?_
 exact ⟨z, hst.keep0⟩
}

theorem locks_Table_find_ref {w0 w : World} {I : HL} {R : SP} {a0 : (Option locks_Table)} {p0 : Value} {a1 : api_ID}  (hst : St w0 w I [objO at_locks_Table p0 a0] R) {r : (Int × Bool)} (hm : locks_Table_find a0 a1 = some r) :
  Calls prog 135 #[p0, .agg #[U6 a1.Session, U6 a1.Seq]] w fun e w' => e = .returned (.tuple #[I6 r.1, .bool r.2]) ∧ St w0 w' I [objO at_locks_Table p0 a0] R := by {
 rcases a0 with _ | o0
 {
 obtain ⟨rfl, hst'⟩ := objO_none hst
 clear hst
 have hst := hst'
 clear hst'
 dsimp only [locks_Table_find] at hm
 refine calls_start (args := [.pointer none, .agg #[U6 a1.Session, U6 a1.Seq]]) func135 z ntmps135 (Nat.le_of_ble_eq_true z) ?_
 refine wp_seq (wrl ?_)
 obtain ⟨b252, w253, ew254, eb255, hst⟩ := hst.box [U6 a1.Session, U6 a1.Seq] 28
 refine wl_run (v := Pt b252 0) (w' := w253) z z (x_al (by kernel_rfl) ew254 eb255) ?_
 refine wv (.int .i64 (0:Int)) z z z (wv (.bool false) z z z (wl_nil (tn (wp_seq (wp_seq (wrl (wv (.pointer none) z z z (wv (.bool true) z z (by kernel_rfl) (wl_nil (tn ?_))))))))))
 refine wp_ift z ?_
 refine wp_seq (wrl (wv (.int .i64 (0:Int)) z z z (wv (.bool false) z z z (wl_nil (tn (wp_ret (then_r ?_)))))))
 replace hst := hst.objO_nil at_locks_Table
 obtain rfl := some_inj hm
 refine post_ret (vs := [Zi, .bool false]) results135 (rvs_cons (rv_tmp z) (rvs_cons (rv_tmp z) rvs_nil)) ?_
 exact ⟨z, hst.keep1⟩
}
 {
 replace hst := objO_get hst
 dsimp only [locks_Table_find] at hm
 refine calls_start (args := [p0, .agg #[U6 a1.Session, U6 a1.Seq]]) func135 z ntmps135 (Nat.le_of_ble_eq_true z) ?_
 refine wp_seq (wrl ?_)
 obtain ⟨b257, w258, ew259, eb260, hst⟩ := hst.box [U6 a1.Session, U6 a1.Seq] 28
 refine wl_run (v := Pt b257 0) (w' := w258) z z (x_al (by kernel_rfl) ew259 eb260) ?_
 refine wv (.int .i64 (0:Int)) z z z (wv (.bool false) z z z (wl_nil (tn (wp_seq (wp_seq (wrl (wv (p0) z z z ?_)))))))
 replace hst := hst.pull1
 obtain ⟨b262, v263, rfl, hst'⟩ := at_locks_Table_open hst
 clear hst
 have hst := hst'
 clear hst'
 refine wv (.bool false) z z (by kernel_rfl) (wl_nil (tn ?_))
 refine wp_iff z ?_
 refine wp_skip (tn (wp_seq ?_))
 refine wp_region_St hst 10 [0, 1, 2, 3, 4, 5, 6, 7, 8, 9] [0, 1, 3, 7, 0, 31, 63, 63, 255, 511] [] z (by kernel_rfl) (by kernel_rfl) Tryz.mixed (by kernel_rfl) ?_
 refine wsr (Pt b262 0) 0 z z z (by kernel_rfl) (fun w hst => z) (wsr (Pt b262 0) 1 z z z (by kernel_rfl) (fun w hst => z) (wsr (Pt b262 0) 2 z z z (by kernel_rfl) (fun w hst => x_field z underlying203 z sizeOf125 z) (wsr (v263) 3 z z z (by kernel_rfl) (fun w hst => x_load z isAgg125 (hst.bc0 z)) (wsr (.agg #[U6 a1.Session, U6 a1.Seq]) 4 z z z (by kernel_rfl) (fun w hst => x_loadN (cs := [U6 a1.Session, U6 a1.Seq]) z isAgg28 sizeOf28 (hst.bcs2 0 z)) ?_))))
 refine ws_e1 5 (by kernel_rfl) ?_
 refine nxe [6, 7, 8, 9] (by kernel_rfl) z z ?_
 clear hst
 intro w hst
 obtain ⟨y406, hq407, hm⟩ := bind_some hm
 refine we_call z (x_callv call193 (caps := []) z (vs := [v263, .agg #[U6 a1.Session, U6 a1.Seq], .func (.func 160) #[] #[]]) z) ?_
 refine Calls.mono (show Calls prog 193 #[v263, .agg #[U6 a1.Session, U6 a1.Seq], .func (.func 160) #[] #[]] _ (fun e w' => ∃ (z403 : Int) (z404 : Bool), (z403, z404) = y406 ∧ e = .returned (.tuple #[I6 z403, .bool z404]) ∧ St w0 w' I [cells b262 [v263], ownS ty_api_Hold v263 o0.l, cells b257 [U6 a1.Session, U6 a1.Seq]] R) from ?_) ?_
 {
 clear hm; have hm := hq407
 refine calls_start (args := [v263, .agg #[U6 a1.Session, U6 a1.Seq], .func (.func 160) #[] #[]]) func193 z ntmps193 (Nat.le_of_ble_eq_true z) ?_
 refine wp_seq (wrl ?_)
 obtain ⟨b265, w266, ew267, eb268, hst⟩ := hst.box [U6 a1.Session, U6 a1.Seq] 28
 refine wl_run (v := Pt b265 0) (w' := w266) z z (x_al (by kernel_rfl) ew267 eb268) ?_
 refine wv (.int .i64 (0:Int)) z z z (wv (.bool false) z z z (wl_nil (tn (wp_seq (wrl (wv (v263) z z z (wv (.int .i64 ((o0.l).length : Int)) z z (x_len z underlying125 hst.sv2) (wv (.int .i64 ((o0.l).length : Int)) z z z (wl_nil (tn (wp_seq (wrl (wv (.int .i64 ((o0.l).length : Int)) z z z (wv (.int .i64 (0:Int)) z z z (wv (.int .i64 ((o0.l).length : Int)) z z z (wl_nil (tn ?_)))))))))))))))))
 obtain ⟨y372, hm, hx373⟩ := bind_some hm
 refine wp_cut (fun a w => ∃ (z369 : Int) (σ370 : Nat → Value), (locks_Table_find_j0 o0 a1) z369 = some y406 ∧ a = Fr 49 (upd (upd (upd (upd (upd σ370 0 (v263)) 2 (.func (.func 160) #[] #[])) 4 (Pt b265 0)) 8 (.int .i64 ((o0.l).length : Int))) 9 (.int .i64 z369)) ∧ St w0 w I [ownS ty_api_Hold v263 o0.l, cells b265 [U6 a1.Session, U6 a1.Seq], cells b262 [v263], cells b257 [U6 a1.Session, U6 a1.Seq]] R) ?_ ?_
 {
 refine wp_block ?_
 obtain ⟨n333, hm⟩ := loopO_some hm
 refine wp_loop_n (fun n a w => ∃ (z330 : Int) (z331 : Int) (σ332 : Nat → Value), loopN (locks_Table_find_l1 o0 a1) n (z330, z331) = some y372 ∧ a = Fr 49 (upd (upd (upd (upd (upd (upd σ332 0 (v263)) 2 (.func (.func 160) #[] #[])) 4 (Pt b265 0)) 8 (.int .i64 ((o0.l).length : Int))) 9 (.int .i64 z331)) 10 (.int .i64 z330)) ∧ St w0 w I [cells b265 [U6 a1.Session, U6 a1.Seq], cells b262 [v263], ownS ty_api_Hold v263 o0.l, cells b257 [U6 a1.Session, U6 a1.Seq]] R) n333 ⟨((o0.l).length : Int), (0:Int), _, hm, (fu 0 v263 z (fu 2 (.func (.func 160) #[] #[]) z (fu 4 (Pt b265 0) z (fu 8 (.int .i64 ((o0.l).length : Int)) z (fu 9 (.int .i64 (0:Int)) z (fu 10 (.int .i64 ((o0.l).length : Int)) z z)))))), hst⟩ ?_
 rintro n339 _ w334 ⟨z330, z331, σ332, hm, rfl, hst⟩
 obtain ⟨n336, y337, rfl, hm, hx338⟩ := loopN_some hm
 dsimp only [locks_Table_find_l1] at hm
 refine wp_seq (wp_seq (wrl (wv (.int .i64 z331) z z z (wv (.int .i64 z330) z z z (wv (.bool (decide (z331 < z330))) z z z (wl_nil (tn ?_)))))))
 refine bsplit (decide (z331 < z330)) (fun hc340 => ?_) (fun hc340 => ?_)
 {
 replace hm := bif_t hc340 hm
 refine wp_ift (cvb hc340) ?_
 refine wp_skip (tn (wp_block (wp_seq (wrl ?_))))
 refine wv (.int .i64 z331) z z z (wv (.int .i64 z330) z z z (wv (.int .i64 (i64.wrap (z331 + z330))) z z z (wv (.int .u64 (u64.wrap (i64.wrap (z331 + z330)))) z z (by kernel_rfl) (wv (.int .u64 (iShr .u64 (u64.wrap (i64.wrap (z331 + z330))) (1:Int))) z z (x_shr (by decide) z z) (wv (.int .i64 (i64.wrap (iShr .u64 (u64.wrap (i64.wrap (z331 + z330))) (1:Int)))) z z (by kernel_rfl) (wv (.int .i64 (i64.wrap (iShr .u64 (u64.wrap (i64.wrap (z331 + z330))) (1:Int)))) z z z (wl_nil (tn (wp_seq ?_)))))))))
 replace hst := hst.pull2
 obtain ⟨css341, hq342, hst⟩ := hst.own_open
 refine wp_region_St hst 8 [0, 1, 2, 3, 4, 5, 6, 7] [0, 0, 0, 6, 14, 0, 63, 127] [] z (by kernel_rfl) (by kernel_rfl) Tryz.mixed (by kernel_rfl) ?_
 refine wsr (.func (.func 160) #[] #[]) 0 z z z (by kernel_rfl) (fun w hst => z) (wsr (v263) 1 z z z (by kernel_rfl) (fun w hst => z) (wsr (.int .i64 (i64.wrap (iShr .u64 (u64.wrap (i64.wrap (z331 + z330))) (1:Int)))) 2 z z z (by kernel_rfl) (fun w hst => z) ?_))
 obtain ⟨x343, hx344, hm⟩ := bind_some hm
 obtain ⟨h345, h346, hi347⟩ := geto_some hx344
 refine wsr (.pointer (some (eAddr v263 ((i64.wrap (iShr .u64 (u64.wrap (i64.wrap (z331 + z330))) (1:Int))).toNat * 7 + 0)))) 3 z z z (by kernel_rfl) (fun w hst => x_index z z underlying125 sizeOf46 (hst.rsv 0 z hq342) h345 h346) ?_
 obtain ⟨cs348, hc350, hr349⟩ := Reps.get hq342 hi347
 obtain ⟨v351, v354, v357, v360, rfl, f352, f355, f358, f361, -⟩ := hr349
 refine wsr (.agg #[U6 x343.ID.Session, U6 x343.ID.Seq, U6 x343.Epoch, v351, v354, v357, v360]) 4 z z z (by kernel_rfl) (fun w hst => x_loadN (cs := [U6 x343.ID.Session, U6 x343.ID.Seq, U6 x343.Epoch, v351, v354, v357, v360]) z isAgg46 sizeOf46 (eCells (o := 0) (hst.rcell 0 z hc350) z)) (wsr (.agg #[U6 a1.Session, U6 a1.Seq]) 5 z z z (by kernel_rfl) (fun w hst => x_loadN (cs := [U6 a1.Session, U6 a1.Seq]) z isAgg28 sizeOf28 (hst.bcs1 0 z)) ?_)
 refine ws_e1 6 (by kernel_rfl) ?_
 refine nxe [7] (by kernel_rfl) z z ?_
 clear hst
 intro w hst
 obtain ⟨t363, ht364, hm⟩ := bind_some hm
 refine we_call z (x_callv call160 (caps := []) z (vs := [.agg #[U6 x343.ID.Session, U6 x343.ID.Seq, U6 x343.Epoch, v351, v354, v357, v360], .agg #[U6 a1.Session, U6 a1.Seq]]) z) ?_
 refine (locks_compare_ref (f352.mono ro_rd) (f355.mono ro_rd) (f358.mono ro_rd) (f361.mono ro_rd) hst.to0 ht364).mono ?_
 rintro _ w365 ⟨rfl, hst⟩
 refine ⟨_, z, ?_⟩
 replace hst := hst.of0
 refine ws_next (pend' := []) hst (by kernel_rfl) pk_nil ?_
 refine wsr (.bool (decide (t363 < (0:Int)))) 7 z z z (by kernel_rfl) (fun w hst => z) ?_
 refine ws_nil ?_
 intro w hst
 replace hst := hst.own_close hq342
 refine tn ?_
 refine bsplit (decide (t363 < (0:Int))) (fun hc368 => ?_) (fun hc368 => ?_)
 {
 replace hm := bif_t hc368 hm
 refine wp_ift (cvb hc368) ?_
 refine wrl (wv (.int .i64 (i64.wrap (iShr .u64 (u64.wrap (i64.wrap (z331 + z330))) (1:Int)))) z z z (wv (.int .i64 (i64.wrap ((i64.wrap (iShr .u64 (u64.wrap (i64.wrap (z331 + z330))) (1:Int))) + (1:Int)))) z z z (wv (.int .i64 (i64.wrap ((i64.wrap (iShr .u64 (u64.wrap (i64.wrap (z331 + z330))) (1:Int))) + (1:Int)))) z z z (wl_nil (blk_n (tn ?_))))))
 replace hst := hst.pull3.pull1.pull3.pull3.keep4
 obtain rfl := some_inj hm
 exact ⟨_, Nat.lt_succ_self _, z330, (i64.wrap ((i64.wrap (iShr .u64 (u64.wrap (i64.wrap (z331 + z330))) (1:Int))) + (1:Int))), _, hx338, (fu 0 v263 z (fu 2 (.func (.func 160) #[] #[]) z (fu 4 (Pt b265 0) z (fu 8 (.int .i64 ((o0.l).length : Int)) z (fu 9 (.int .i64 (i64.wrap ((i64.wrap (iShr .u64 (u64.wrap (i64.wrap (z331 + z330))) (1:Int))) + (1:Int)))) z (fu 10 (.int .i64 z330) z z)))))), hst⟩
}
 {
 replace hm := bif_f hc368 hm
 refine wp_iff (cvb hc368) ?_
 refine wrl (wv (.int .i64 (i64.wrap (iShr .u64 (u64.wrap (i64.wrap (z331 + z330))) (1:Int)))) z z z (wv (.int .i64 (i64.wrap (iShr .u64 (u64.wrap (i64.wrap (z331 + z330))) (1:Int)))) z z z (wl_nil (blk_n (tn ?_)))))
 replace hst := hst.pull3.pull1.pull3.pull3.keep4
 obtain rfl := some_inj hm
 exact ⟨_, Nat.lt_succ_self _, (i64.wrap (iShr .u64 (u64.wrap (i64.wrap (z331 + z330))) (1:Int))), z331, _, hx338, (fu 0 v263 z (fu 2 (.func (.func 160) #[] #[]) z (fu 4 (Pt b265 0) z (fu 8 (.int .i64 ((o0.l).length : Int)) z (fu 9 (.int .i64 z331) z (fu 10 (.int .i64 (i64.wrap (iShr .u64 (u64.wrap (i64.wrap (z331 + z330))) (1:Int)))) z z)))))), hst⟩
}
}
 {
 replace hm := bif_f hc340 hm
 refine wp_iff (cvb hc340) ?_
 refine wp_exit (then_x (then_x ?_))
 replace hm := inr_up hm hx338
 refine blk_x (tn ?_)
 replace hst := hst.pull3.pull2.pull2.pull3.keep4
 obtain rfl := some_inj hm
 exact ⟨z331, _, hx373, (fu 0 v263 z (fu 2 (.func (.func 160) #[] #[]) z (fu 4 (Pt b265 0) z (fu 8 (.int .i64 ((o0.l).length : Int)) z (fu 9 (.int .i64 z331) z z))))), hst⟩
}
}
 {
 clear hst
 rintro _ w374 ⟨z369, σ370, hm, rfl, hst⟩
 dsimp only [locks_Table_find_j0] at hm
 refine wp_seq ?_
 obtain ⟨css375, hq376, hst⟩ := hst.own_open
 refine wp_region_St hst 16 [0, 1, 2, 3, 4, 5, 6, 7, 8, 9, 10, 11, 12, 13, 14, 15] [0, 0, 0, 6, 14, 30, 30, 30, 222, 478, 30, 2046, 4094, 8190, 4095, 32767] [] z (by kernel_rfl) (by kernel_rfl) Tryz.mixed (by kernel_rfl) ?_
 refine wsr (.int .i64 z369) 0 z z z (by kernel_rfl) (fun w hst => z) (wsr (.int .i64 z369) 1 z z z (by kernel_rfl) (fun w hst => z) (wsr (.int .i64 ((o0.l).length : Int)) 2 z z z (by kernel_rfl) (fun w hst => z) (wsr (.bool (decide (z369 < ((o0.l).length : Int)))) 3 z z z (by kernel_rfl) (fun w hst => z) (wsr (.bool (decide (z369 < ((o0.l).length : Int)))) 4 z z z (by kernel_rfl) (fun w hst => z) ?_))))
 refine bsplit (decide (z369 < ((o0.l).length : Int))) (fun hc377 => ?_) (fun hc377 => ?_)
 {
 replace hm := bif_t hc377 hm
 refine ws_q (v := .func (.func 160) #[] #[]) 5 [6, 7, 8, 9, 10, 11, 12, 13, 14, 15] (by kernel_rfl) z z (yi_run ((wanted_eq z z z (cvb hc377)).trans z) (fun w hst => z)) (ws_q (v := v263) 6 [7, 8, 9, 10, 11, 12, 13, 14, 15] (by kernel_rfl) z z (yi_run ((wanted_eq z z z (cvb hc377)).trans z) (fun w hst => z)) (ws_q (v := .int .i64 z369) 7 [8, 9, 10, 11, 12, 13, 14, 15] (by kernel_rfl) z z (yi_run ((wanted_eq z z z (cvb hc377)).trans z) (fun w hst => z)) ?_))
 obtain ⟨x378, hx379, hm⟩ := bind_some hm
 obtain ⟨h380, h381, hi382⟩ := geto_some hx379
 refine ws_q (v := .pointer (some (eAddr v263 (z369.toNat * 7 + 0)))) 8 [9, 10, 11, 12, 13, 14, 15] (by kernel_rfl) z z (yi_run ((wanted_eq z z z (cvb hc377)).trans z) (fun w hst => x_index z z underlying125 sizeOf46 (hst.rsv 0 z hq376) h380 h381)) ?_
 obtain ⟨cs383, hc385, hr384⟩ := Reps.get hq376 hi382
 obtain ⟨v386, v389, v392, v395, rfl, f387, f390, f393, f396, -⟩ := hr384
 refine ws_q (v := .agg #[U6 x378.ID.Session, U6 x378.ID.Seq, U6 x378.Epoch, v386, v389, v392, v395]) 9 [10, 11, 12, 13, 14, 15] (by kernel_rfl) z z (yi_run ((wanted_eq z z z (cvb hc377)).trans z) (fun w hst => x_loadN (cs := [U6 x378.ID.Session, U6 x378.ID.Seq, U6 x378.Epoch, v386, v389, v392, v395]) z isAgg46 sizeOf46 (eCells (o := 0) (hst.rcell 0 z hc385) z))) (ws_q (v := .agg #[U6 a1.Session, U6 a1.Seq]) 10 [11, 12, 13, 14, 15] (by kernel_rfl) z z (yi_run ((wanted_eq z z z (cvb hc377)).trans z) (fun w hst => x_loadN (cs := [U6 a1.Session, U6 a1.Seq]) z isAgg28 sizeOf28 (hst.bcs1 0 z))) ?_)
 refine ws_e1 11 (by kernel_rfl) ?_
 refine nxe [12, 13, 14, 15] (by kernel_rfl) z ((wanted_eq z z z (cvb hc377)).trans z) ?_
 clear hst
 intro w hst
 obtain ⟨t398, ht399, hm⟩ := bind_some hm
 refine we_call z (x_callv call160 (caps := []) z (vs := [.agg #[U6 x378.ID.Session, U6 x378.ID.Seq, U6 x378.Epoch, v386, v389, v392, v395], .agg #[U6 a1.Session, U6 a1.Seq]]) z) ?_
 refine (locks_compare_ref (f387.mono ro_rd) (f390.mono ro_rd) (f393.mono ro_rd) (f396.mono ro_rd) hst.to0 ht399).mono ?_
 rintro _ w400 ⟨rfl, hst⟩
 refine ⟨_, z, ?_⟩
 replace hst := hst.of0
 refine ws_next (pend' := [(0, I6 z369)]) hst (by kernel_rfl) (pkr z z (fun w hst => z) pk_nil) ?_
 refine ws_q (v := .bool (t398 == (0:Int))) 12 [13, 14, 15] (by kernel_rfl) z z (yi_run ((wanted_eq z z z (cvb hc377)).trans z) (fun w hst => z)) (wsr (.bool (t398 == (0:Int))) 13 z z z (by kernel_rfl) (fun w hst => x_pick_t hc377 z z) (wsr (.int .i64 z369) 14 z z z (by kernel_rfl) (fun w hst => z) (wsr (.bool (t398 == (0:Int))) 15 z z z (by kernel_rfl) (fun w hst => z) ?_)))
 refine ws_nil ?_
 intro w hst
 replace hst := hst.own_close hq376
 refine tn (wp_ret ?_)
 refine post_ret (vs := [I6 z369, .bool (t398 == (0:Int))]) results193 (rvs_cons (rv_tmp z) (rvs_cons (rv_tmp z) rvs_nil)) ?_
 replace hst := hst.pull3.pull1.pull3.keep3
 obtain rfl := some_inj hm
 exact ⟨z369, (t398 == (0:Int)), z, z, hst⟩
}
 {
 replace hm := bif_f hc377 hm
 refine ws_q (v := undef) 5 [6, 7, 8, 9, 10, 11, 12, 13, 14, 15] (by kernel_rfl) z z (yi_off ((wanted_eq z z z (cvb hc377)).trans z)) (ws_q (v := undef) 6 [7, 8, 9, 10, 11, 12, 13, 14, 15] (by kernel_rfl) z z (yi_off ((wanted_eq z z z (cvb hc377)).trans z)) (ws_q (v := undef) 7 [8, 9, 10, 11, 12, 13, 14, 15] (by kernel_rfl) z z (yi_off ((wanted_eq z z z (cvb hc377)).trans z)) (ws_q (v := undef) 8 [9, 10, 11, 12, 13, 14, 15] (by kernel_rfl) z z (yi_off ((wanted_eq z z z (cvb hc377)).trans z)) (ws_q (v := undef) 9 [10, 11, 12, 13, 14, 15] (by kernel_rfl) z z (yi_off ((wanted_eq z z z (cvb hc377)).trans z)) (ws_q (v := undef) 10 [11, 12, 13, 14, 15] (by kernel_rfl) z z (yi_off ((wanted_eq z z z (cvb hc377)).trans z)) (ws_q (v := undef) 11 [12, 13, 14, 15] (by kernel_rfl) z z (yi_off ((wanted_eq z z z (cvb hc377)).trans z)) (ws_q (v := undef) 12 [13, 14, 15] (by kernel_rfl) z z (yi_off ((wanted_eq z z z (cvb hc377)).trans z)) (wsr (.bool false) 13 z z z (by kernel_rfl) (fun w hst => x_pick_f hc377 z z) (wsr (.int .i64 z369) 14 z z z (by kernel_rfl) (fun w hst => z) (wsr (.bool false) 15 z z z (by kernel_rfl) (fun w hst => z) ?_))))))))))
 refine ws_nil ?_
 intro w hst
 replace hst := hst.own_close hq376
 refine tn (wp_ret ?_)
 refine post_ret (vs := [I6 z369, .bool false]) results193 (rvs_cons (rv_tmp z) (rvs_cons (rv_tmp z) rvs_nil)) ?_
 replace hst := hst.pull3.pull1.pull3.keep3
 obtain rfl := some_inj hm
 exact ⟨z369, false, z, z, hst⟩
}
}
}
 clear hst
 rintro _ w408 ⟨z403, z404, rfl, rfl, hst⟩
 refine ⟨_, z, ?_⟩
 try dsimp only at hm
 refine ws_next (pend' := []) hst (by kernel_rfl) pk_nil ?_
 refine wsr (.int .i64 z403) 6 z z z (by kernel_rfl) (fun w hst => z) (wsr (.bool z404) 7 z z z (by kernel_rfl) (fun w hst => z) (wsr (.int .i64 z403) 8 z z z (by kernel_rfl) (fun w hst => z) (wsr (.bool z404) 9 z z z (by kernel_rfl) (fun w hst => z) ?_)))
 refine ws_nil ?_
 intro w hst
 refine tn (wp_ret ?_)
 replace hst := hst.pull1.pull1
 replace hst := at_locks_Table_close (pv := Pt b262 0) (x := o0) hst z
 replace hst := objO_some hst
 obtain rfl := some_inj hm
 refine post_ret (vs := [I6 z403, .bool z404]) results135 (rvs_cons (rv_tmp z) (rvs_cons (rv_tmp z) rvs_nil)) ?_
 exact ⟨z, hst.keep1⟩
}
}

theorem locks_Table_Get_ref {w0 w : World} {I : HL} {R : SP} {a0 : (Option locks_Table)} {p0 : Value} {a1 : api_ID}  (hst : St w0 w I [objO at_locks_Table p0 a0] R) {r : (api_Hold × Bool)} (hm : locks_Table_Get a0 a1 = some r) :
  Calls prog 56 #[p0, .agg #[U6 a1.Session, U6 a1.Seq]] w fun e w' => ∃ (I' : HL) (q0_0 : Value) (q0_1 : Value) (q0_2 : Value) (q0_3 : Value), e = .returned (.tuple #[.agg #[U6 r.1.ID.Session, U6 r.1.ID.Seq, U6 r.1.Epoch, q0_0, q0_1, q0_2, q0_3], .bool r.2]) ∧ I.le I' ∧ Ro tyF64 I' q0_0 r.1.Gets ∧ Ro tyF2 I' q0_1 r.1.Scans ∧ Ro tyF64 I' q0_2 r.1.Puts ∧ Ro (tyInt .u8) I' q0_3 r.1.Data ∧ St w0 w' I' [objO at_locks_Table p0 a0] R := by {
 rcases a0 with _ | o0
 {
 obtain ⟨rfl, hst'⟩ := objO_none hst
 clear hst
 have hst := hst'
 clear hst'
 dsimp only [locks_Table_Get] at hm
 refine calls_start (args := [.pointer none, .agg #[U6 a1.Session, U6 a1.Seq]]) func56 z ntmps56 (Nat.le_of_ble_eq_true z) ?_
 have hI0 := HL.le.refl I
 refine wp_seq (wrl ?_)
 obtain ⟨b158, w159, ew160, eb161, hst⟩ := hst.box [U6 a1.Session, U6 a1.Seq] 28
 refine wl_run (v := Pt b158 0) (w' := w159) z z (x_al (by kernel_rfl) ew160 eb161) ?_
 obtain ⟨b167, w168, ew169, eb170, hst⟩ := hst.box [Zu, Zu, Zu, Zs, Zs, Zs, Zs] 46
 refine wl_run (v := Pt b167 0) (w' := w168) z z (x_al (by kernel_rfl) ew169 eb170) ?_
 refine wv (.bool false) z z z (wl_nil (tn (wp_seq (wrl (wv (.pointer none) z z z (wv (.agg #[U6 a1.Session, U6 a1.Seq]) z z (x_loadN (cs := [U6 a1.Session, U6 a1.Seq]) z isAgg28 sizeOf28 (hst.bcs1 0 z)) ?_))))))
 replace hst := hst.objO_nil at_locks_Table
 obtain ⟨t173, ht174, hm⟩ := bind_some hm
 refine wc call135 [.pointer none, .agg #[U6 a1.Session, U6 a1.Seq]] z z z ?_
 refine (locks_Table_find_ref hst.to1 ht174).mono ?_
 rintro _ w175 ⟨rfl, hst⟩
 refine ⟨_, z, ?_⟩
 replace hst := hst.of1
 refine wv (.tuple #[I6 t173.1, .bool t173.2]) z z z (wv (.int .i64 t173.1) z z z (wv (.bool t173.2) z z z (wv (.int .i64 t173.1) z z z (wv (.bool t173.2) z z z (wl_nil (tn (wp_seq (wp_seq (wrl (wv (.bool t173.2) z z z (wv (.bool (!t173.2)) z z z (wl_nil (tn ?_)))))))))))))
 refine bsplit (!t173.2) (fun hc178 => ?_) (fun hc178 => ?_)
 {
 replace hm := bif_t hc178 hm
 refine wp_ift (cvb hc178) ?_
 refine wp_seq (wrl (wv (.agg #[Zu, Zu, Zu, Zs, Zs, Zs, Zs]) z z (by kernel_rfl) ?_))
 replace hst := hst.pull1
 obtain ⟨w183, hr184, hst⟩ := hst.bx [Zu, Zu, Zu, Zs, Zs, Zs, Zs] sizeOf46 z (oC z (oC z (oC z (oC z (oC z (oC z (oC z oN))))))) (by kernel_rfl)
 refine wl_unit z z (x_unit hr184) ?_
 refine wv (.bool false) z z z (wl_nil (tn (wp_ret (then_r ?_))))
 have f185 : Ro tyF64 I (.slice none 0 0) [] := ro_nil
 have f186 : Ro tyF2 I (.slice none 0 0) [] := ro_nil
 have f187 : Ro tyF64 I (.slice none 0 0) [] := ro_nil
 have f188 : Ro (tyInt .u8) I (.slice none 0 0) [] := ro_nil
 replace hst := hst.objO_nil at_locks_Table
 obtain rfl := some_inj hm
 refine post_ret (vs := [.agg #[Zu, Zu, Zu, Zs, Zs, Zs, Zs], .bool false]) results56 (rvs_cons (rv_cell (cs := [Zu, Zu, Zu, Zs, Zs, Zs, Zs]) z isAgg46 sizeOf46 (hst.bcs1 0 z)) (rvs_cons (rv_tmp z) rvs_nil)) ?_
 exact ⟨_, Zs, Zs, Zs, Zs, z, hI0, f185, f186, f187, f188, hst.keep1⟩
}
 {
 replace hm := bif_f hc178 hm
 refine wp_iff (cvb hc178) ?_
 refine wp_skip (tn (wp_seq (wrl ?_)))
 refine wv (.pointer none) z z z ?_
 cases hm
}
}
 {
 replace hst := objO_get hst
 dsimp only [locks_Table_Get] at hm
 refine calls_start (args := [p0, .agg #[U6 a1.Session, U6 a1.Seq]]) func56 z ntmps56 (Nat.le_of_ble_eq_true z) ?_
 have hI0 := HL.le.refl I
 refine wp_seq (wrl ?_)
 obtain ⟨b189, w190, ew191, eb192, hst⟩ := hst.box [U6 a1.Session, U6 a1.Seq] 28
 refine wl_run (v := Pt b189 0) (w' := w190) z z (x_al (by kernel_rfl) ew191 eb192) ?_
 obtain ⟨b198, w199, ew200, eb201, hst⟩ := hst.box [Zu, Zu, Zu, Zs, Zs, Zs, Zs] 46
 refine wl_run (v := Pt b198 0) (w' := w199) z z (x_al (by kernel_rfl) ew200 eb201) ?_
 refine wv (.bool false) z z z (wl_nil (tn (wp_seq (wrl (wv (p0) z z z (wv (.agg #[U6 a1.Session, U6 a1.Seq]) z z (x_loadN (cs := [U6 a1.Session, U6 a1.Seq]) z isAgg28 sizeOf28 (hst.bcs1 0 z)) ?_))))))
 replace hst := hst.pull2
 replace hst := objO_some hst
 obtain ⟨t203, ht204, hm⟩ := bind_some hm
 refine wc call135 [p0, .agg #[U6 a1.Session, U6 a1.Seq]] z z z ?_
 refine (locks_Table_find_ref hst.to1 ht204).mono ?_
 rintro _ w205 ⟨rfl, hst⟩
 refine ⟨_, z, ?_⟩
 replace hst := hst.of1
 replace hst := objO_get hst
 refine wv (.tuple #[I6 t203.1, .bool t203.2]) z z z (wv (.int .i64 t203.1) z z z (wv (.bool t203.2) z z z (wv (.int .i64 t203.1) z z z (wv (.bool t203.2) z z z (wl_nil (tn (wp_seq (wp_seq (wrl (wv (.bool t203.2) z z z (wv (.bool (!t203.2)) z z z (wl_nil (tn ?_)))))))))))))
 refine bsplit (!t203.2) (fun hc208 => ?_) (fun hc208 => ?_)
 {
 replace hm := bif_t hc208 hm
 refine wp_ift (cvb hc208) ?_
 refine wp_seq (wrl (wv (.agg #[Zu, Zu, Zu, Zs, Zs, Zs, Zs]) z z (by kernel_rfl) ?_))
 replace hst := hst.pull1
 obtain ⟨w213, hr214, hst⟩ := hst.bx [Zu, Zu, Zu, Zs, Zs, Zs, Zs] sizeOf46 z (oC z (oC z (oC z (oC z (oC z (oC z (oC z oN))))))) (by kernel_rfl)
 refine wl_unit z z (x_unit hr214) ?_
 refine wv (.bool false) z z z (wl_nil (tn (wp_ret (then_r ?_))))
 have f215 : Ro tyF64 I (.slice none 0 0) [] := ro_nil
 have f216 : Ro tyF2 I (.slice none 0 0) [] := ro_nil
 have f217 : Ro tyF64 I (.slice none 0 0) [] := ro_nil
 have f218 : Ro (tyInt .u8) I (.slice none 0 0) [] := ro_nil
 replace hst := hst.pull1
 replace hst := objO_some hst
 obtain rfl := some_inj hm
 refine post_ret (vs := [.agg #[Zu, Zu, Zu, Zs, Zs, Zs, Zs], .bool false]) results56 (rvs_cons (rv_cell (cs := [Zu, Zu, Zu, Zs, Zs, Zs, Zs]) z isAgg46 sizeOf46 (hst.bcs1 0 z)) (rvs_cons (rv_tmp z) rvs_nil)) ?_
 exact ⟨_, Zs, Zs, Zs, Zs, z, hI0, f215, f216, f217, f218, hst.keep1⟩
}
 {
 replace hm := bif_f hc208 hm
 refine wp_iff (cvb hc208) ?_
 refine wp_skip (tn (wp_seq (wrl ?_)))
 refine wv (p0) z z z ?_
 obtain ⟨b219, v220, rfl, hst'⟩ := at_locks_Table_open hst
 clear hst
 have hst := hst'
 clear hst'
 refine wv (Pt b219 0) z z z (wv (Pt b219 0) z z (x_field z underlying203 z sizeOf125 z) (wv (v220) z z (x_load z isAgg125 (hst.bc0 z)) (wv (.int .i64 t203.1) z z z ?_)))
 obtain ⟨x222, hx223, hm⟩ := bind_some hm
 obtain ⟨h224, h225, hi226⟩ := geto_some hx223
 refine wv (.pointer (some (eAddr v220 (t203.1.toNat * 7 + 0)))) z z (x_index z z underlying125 sizeOf46 hst.sv1 h224 h225) ?_
 obtain ⟨cs227, hr228, hc229⟩ := hst.og1 hi226
 obtain ⟨v230, v233, v236, v239, rfl, f231, f234, f237, f240, -⟩ := hr228
 refine wv (.agg #[U6 x222.ID.Session, U6 x222.ID.Seq, U6 x222.Epoch, v230, v233, v236, v239]) z z (x_loadN (cs := [U6 x222.ID.Session, U6 x222.ID.Seq, U6 x222.Epoch, v230, v233, v236, v239]) z isAgg46 sizeOf46 (eCells (o := 0) hc229 z)) ?_
 replace hst := hst.pull2
 obtain ⟨w242, hr243, hst⟩ := hst.bx [U6 x222.ID.Session, U6 x222.ID.Seq, U6 x222.Epoch, v230, v233, v236, v239] sizeOf46 z (oC z (oC z (oC z (oC (one_of_sliceV (ro_sliceV f231)) (oC (one_of_sliceV (ro_sliceV f234)) (oC (one_of_sliceV (ro_sliceV f237)) (oC (one_of_sliceV (ro_sliceV f240)) oN))))))) (by kernel_rfl)
 refine wl_unit z z (x_unit hr243) ?_
 refine wv (.bool true) z z z (wl_nil (tn (wp_ret ?_)))
 replace hst := hst.pull2.pull2
 replace hst := at_locks_Table_close (pv := Pt b219 0) (x := o0) hst z
 replace hst := objO_some hst
 obtain rfl := some_inj hm
 refine post_ret (vs := [.agg #[U6 x222.ID.Session, U6 x222.ID.Seq, U6 x222.Epoch, v230, v233, v236, v239], .bool true]) results56 (rvs_cons (rv_cell (cs := [U6 x222.ID.Session, U6 x222.ID.Seq, U6 x222.Epoch, v230, v233, v236, v239]) z isAgg46 sizeOf46 (hst.bcs1 0 z)) (rvs_cons (rv_tmp z) rvs_nil)) ?_
 exact ⟨_, v230, v233, v236, v239, z, hI0, f231, f234, f237, f240, hst.keep1⟩
}
}
}

theorem math_IsNaN_ref {w0 w : World} {I : HL} {R : SP} {a0 : Nat}  (hst : St w0 w I [] R) {r : (Bool)} (hm : math_IsNaN a0 = some r) :
  Calls prog 177 #[F6 a0] w fun e w' => e = .returned (.bool r) ∧ St w0 w' I [] R := by {
 unfold math_IsNaN at hm
 refine calls_start (args := [F6 a0]) func177 z ntmps177 (Nat.le_of_ble_eq_true z) ?_
 refine wp_seq (wrl (wv (.bool false) z z z (wl_nil (tn (wp_seq (wrl (wv (.float .f64 a0) z z z (wv (.float .f64 a0) z z z (wv (.bool (fNe a0 a0)) z z z (wv (.bool (fNe a0 a0)) z z z (wl_nil (tn (wp_ret ?_)))))))))))))
 obtain rfl := some_inj hm
 refine post_ret (vs := [.bool (fNe a0 a0)]) results177 (rvs_cons (rv_tmp z) rvs_nil) ?_
 exact ⟨z, hst.keep0⟩
}

theorem number_Rank_ref {w0 w : World} {I : HL} {R : SP} {a0 : Nat}  (hst : St w0 w I [] R) {r : (Int)} (hm : number_Rank a0 = some r) :
  Calls prog 118 #[F6 a0] w fun e w' => e = .returned (.int .u64 r) ∧ St w0 w' I [] R := by {
 unfold number_Rank at hm
 refine calls_start (args := [F6 a0]) func118 z ntmps118 (Nat.le_of_ble_eq_true z) ?_
 refine wp_seq (wrl (wv (.int .u64 (0:Int)) z z z (wl_nil (tn (wp_seq (wp_seq (wrl (wv (.float .f64 a0) z z z ?_))))))))
 obtain ⟨t203, ht204, hm⟩ := bind_some hm
 refine wc call177 [F6 a0] z z z ?_
 refine (math_IsNaN_ref hst.to0 ht204).mono ?_
 rintro _ w205 ⟨rfl, hst⟩
 refine ⟨_, z, ?_⟩
 replace hst := hst.of0
 refine wl_nil (tn ?_)
 refine bsplit t203 (fun hc208 => ?_) (fun hc208 => ?_)
 {
 replace hm := bif_t hc208 hm
 refine wp_ift (cvb hc208) ?_
 refine wp_seq (wrl (wv (.int .u64 (18446744073709551615:Int)) z z z (wl_nil (tn (wp_ret (then_r ?_))))))
 obtain rfl := some_inj hm
 refine post_ret (vs := [U6 (18446744073709551615:Int)]) results118 (rvs_cons (rv_tmp z) rvs_nil) ?_
 exact ⟨z, hst.keep0⟩
}
 {
 replace hm := bif_f hc208 hm
 refine wp_iff (cvb hc208) ?_
 refine wp_skip (tn (wp_seq (wrl ?_)))
 refine wv (.float .f64 a0) z z z (wv (.int .u64 (Int.ofNat a0)) z z (by kernel_rfl) (wv (.int .u64 (Int.ofNat a0)) z z z (wl_nil (tn (wp_seq (wp_seq (wrl (wv (.int .u64 (Int.ofNat a0)) z z z (wv (.int .u64 (iShr .u64 (Int.ofNat a0) (63:Int))) z z (x_shr (by decide) z z) (wv (.bool ((iShr .u64 (Int.ofNat a0) (63:Int)) == (1:Int))) z z z (wl_nil (tn ?_))))))))))))
 refine bsplit ((iShr .u64 (Int.ofNat a0) (63:Int)) == (1:Int)) (fun hc209 => ?_) (fun hc209 => ?_)
 {
 replace hm := bif_t hc209 hm
 refine wp_ift (cvb hc209) ?_
 refine wp_seq (wrl (wv (.int .u64 (Int.ofNat a0)) z z z (wv (.int .u64 (bXor .u64 ((18446744073709551615):Int) (Int.ofNat a0))) z z (by kernel_rfl) (wv (.int .u64 (bXor .u64 ((18446744073709551615):Int) (Int.ofNat a0))) z z z (wl_nil (tn (wp_ret (then_r ?_))))))))
 obtain rfl := some_inj hm
 refine post_ret (vs := [U6 (bXor .u64 ((18446744073709551615):Int) (Int.ofNat a0))]) results118 (rvs_cons (rv_tmp z) rvs_nil) ?_
 exact ⟨z, hst.keep0⟩
}
 {
 replace hm := bif_f hc209 hm
 refine wp_iff (cvb hc209) ?_
 refine wp_skip (tn (wp_seq (wrl ?_)))
 refine wv (.int .u64 (Int.ofNat a0)) z z z (wv (.int .u64 (bOr .u64 (Int.ofNat a0) (9223372036854775808:Int))) z z z (wv (.int .u64 (bOr .u64 (Int.ofNat a0) (9223372036854775808:Int))) z z z (wl_nil (tn (wp_ret ?_)))))
 obtain rfl := some_inj hm
 refine post_ret (vs := [U6 (bOr .u64 (Int.ofNat a0) (9223372036854775808:Int))]) results118 (rvs_cons (rv_tmp z) rvs_nil) ?_
 exact ⟨z, hst.keep0⟩
}
}
}

theorem number_Same_ref {w0 w : World} {I : HL} {R : SP} {a0 : Nat} {a1 : Nat}  (hst : St w0 w I [] R) {r : (Bool)} (hm : number_Same a0 a1 = some r) :
  Calls prog 137 #[F6 a0, F6 a1] w fun e w' => e = .returned (.bool r) ∧ St w0 w' I [] R := by {
 unfold number_Same at hm
 refine calls_start (args := [F6 a0, F6 a1]) func137 z ntmps137 (Nat.le_of_ble_eq_true z) ?_
 refine wp_seq (wrl (wv (.bool false) z z z (wl_nil (tn (wp_seq (wrl (wv (.float .f64 a0) z z z ?_)))))))
 obtain ⟨t206, ht207, hm⟩ := bind_some hm
 refine wc call118 [F6 a0] z z z ?_
 refine (number_Rank_ref hst.to0 ht207).mono ?_
 rintro _ w208 ⟨rfl, hst⟩
 refine ⟨_, z, ?_⟩
 replace hst := hst.of0
 refine wv (.float .f64 a1) z z z ?_
 obtain ⟨t211, ht212, hm⟩ := bind_some hm
 refine wc call118 [F6 a1] z z z ?_
 refine (number_Rank_ref hst.to0 ht212).mono ?_
 rintro _ w213 ⟨rfl, hst⟩
 refine ⟨_, z, ?_⟩
 replace hst := hst.of0
 refine wv (.bool (t206 == t211)) z z z (wv (.bool (t206 == t211)) z z z (wl_nil (tn (wp_ret ?_))))
 obtain rfl := some_inj hm
 refine post_ret (vs := [.bool (t206 == t211)]) results137 (rvs_cons (rv_tmp z) rvs_nil) ?_
 exact ⟨z, hst.keep0⟩
}

theorem locks_Same_1_ref {w0 w : World} {I : HL} {R : SP} {a0 : (Nat × Nat)} {a1 : (Nat × Nat)}  (hst : St w0 w I [] R) {r : (Bool)} (hm : locks_Same_1 a0 a1 = some r) :
  Calls prog 136 #[.agg #[F6 a0.1, F6 a0.2], .agg #[F6 a1.1, F6 a1.2]] w fun e w' => e = .returned (.bool r) ∧ St w0 w' I [] R := by {
 unfold locks_Same_1 at hm
 refine calls_start (args := [.agg #[F6 a0.1, F6 a0.2], .agg #[F6 a1.1, F6 a1.2]]) func136 z ntmps136 (Nat.le_of_ble_eq_true z) ?_
 refine wp_seq (wrl ?_)
 obtain ⟨b299, w300, ew301, eb302, hst⟩ := hst.box [F6 a0.1, F6 a0.2] 80
 refine wl_run (v := Pt b299 0) (w' := w300) z z (x_al (by kernel_rfl) ew301 eb302) ?_
 obtain ⟨b304, w305, ew306, eb307, hst⟩ := hst.box [F6 a1.1, F6 a1.2] 80
 refine wl_run (v := Pt b304 0) (w' := w305) z z (x_al (by kernel_rfl) ew306 eb307) ?_
 refine wv (.bool false) z z z (wl_nil (tn (wp_seq (wrl (wv (Pt b299 0) z z (x_index_arr (i := (0:Int)) z z underlying80 sizeOf37 (by decide) (by decide)) (wv (.float .f64 a0.1) z z (x_load z isAgg37 (hst.bc1 z)) (wv (Pt b304 0) z z (x_index_arr (i := (0:Int)) z z underlying80 sizeOf37 (by decide) (by decide)) (wv (.float .f64 a1.1) z z (x_load z isAgg37 (hst.bc0 z)) ?_))))))))
 obtain ⟨t309, ht310, hm⟩ := bind_some hm
 refine wc call137 [F6 a0.1, F6 a1.1] z z z ?_
 refine (number_Same_ref hst.to0 ht310).mono ?_
 rintro _ w311 ⟨rfl, hst⟩
 refine ⟨_, z, ?_⟩
 replace hst := hst.of0
 refine wv (.bool t309) z z z ?_
 refine bsplit t309 (fun hc314 => ?_) (fun hc314 => ?_)
 {
 replace hm := bif_t hc314 hm
 refine wv (Pt b299 1) ((wanted_eq z z z (cvb hc314)).trans z) z (x_index_arr (i := (1:Int)) z z underlying80 sizeOf37 (by decide) (by decide)) (wv (.float .f64 a0.2) ((wanted_eq z z z (cvb hc314)).trans z) z (x_load z isAgg37 (hst.bc1 z)) (wv (Pt b304 1) ((wanted_eq z z z (cvb hc314)).trans z) z (x_index_arr (i := (1:Int)) z z underlying80 sizeOf37 (by decide) (by decide)) (wv (.float .f64 a1.2) ((wanted_eq z z z (cvb hc314)).trans z) z (x_load z isAgg37 (hst.bc0 z)) ?_)))
 obtain ⟨t315, ht316, hm⟩ := bind_some hm
 refine wl_call ((wanted_eq z z z (cvb hc314)).trans z) z (x_call call137 z (vs := [F6 a0.2, F6 a1.2]) z) ?_
 refine (number_Same_ref hst.to0 ht316).mono ?_
 rintro _ w317 ⟨rfl, hst⟩
 refine ⟨_, z, ?_⟩
 replace hst := hst.of0
 refine wv (.bool t315) z z (x_pick_t hc314 z z) (wv (.bool t315) z z z (wl_nil (tn (wp_ret ?_))))
 obtain rfl := some_inj hm
 refine post_ret (vs := [.bool t315]) results136 (rvs_cons (rv_tmp z) rvs_nil) ?_
 exact ⟨z, hst.keep0⟩
}
 {
 replace hm := bif_f hc314 hm
 refine wo hc314 z z z z z z (wo hc314 z z z z z z (wo hc314 z z z z z z (wo hc314 z z z z z z (wo hc314 z z z z z z (wv (.bool false) z z (x_pick_f hc314 z z) (wv (.bool false) z z z (wl_nil (tn (wp_ret ?_)))))))))
 obtain rfl := some_inj hm
 refine post_ret (vs := [.bool false]) results136 (rvs_cons (rv_tmp z) rvs_nil) ?_
 exact ⟨z, hst.keep0⟩
}
}

theorem slices_Equal_byte_byte_ref {w0 w : World} {I : HL} {R : SP} {a0 : (List Int)} {r0_0 : Value} {a1 : (List Int)} {r1_0 : Value} (f0_0 : Rd (tyInt .u8) R I r0_0 a0) (f1_0 : Rd (tyInt .u8) R I r1_0 a1) (hst : St w0 w I [] R) {r : (Bool)} (hm : slices_Equal_byte_byte a0 a1 = some r) :
  Calls prog 110 #[r0_0, r1_0] w fun e w' => e = .returned (.bool r) ∧ St w0 w' I [] R := by {
 unfold slices_Equal_byte_byte at hm
 refine calls_start (args := [r0_0, r1_0]) func110 z ntmps110 (Nat.le_of_ble_eq_true z) ?_
 refine wp_seq (wrl (wv (.bool false) z z z (wl_nil (tn (wp_seq (wp_seq (wrl (wv (r0_0) z z z (wv (.int .i64 ((a0).length : Int)) z z (x_len z underlying22 (rd_sliceV f0_0)) (wv (r1_0) z z z (wv (.int .i64 ((a1).length : Int)) z z (x_len z underlying22 (rd_sliceV f1_0)) (wv (.bool (((a0).length : Int) != ((a1).length : Int))) z z z (wl_nil (tn ?_))))))))))))))
 refine bsplit (((a0).length : Int) != ((a1).length : Int)) (fun hc481 => ?_) (fun hc481 => ?_)
 {
 replace hm := bif_t hc481 hm
 refine wp_ift (cvb hc481) ?_
 refine wp_seq (wrl (wv (.bool false) z z z (wl_nil (tn (wp_ret (then_r ?_))))))
 obtain rfl := some_inj hm
 refine post_ret (vs := [.bool false]) results110 (rvs_cons (rv_tmp z) rvs_nil) ?_
 exact ⟨z, hst.keep0⟩
}
 {
 replace hm := bif_f hc481 hm
 refine wp_iff (cvb hc481) ?_
 refine wp_skip (tn (wp_seq (wp_seq (wrl ?_))))
 refine wv (r0_0) z z z (wv (.int .i64 ((a0).length : Int)) z z (x_len z underlying22 (rd_sliceV f0_0)) (wv (.int .i64 (0:Int)) z z z (wl_nil (tn (wp_block ?_)))))
 obtain ⟨n509, hm⟩ := loopO_some hm
 refine wp_loop_n (fun n a w => ∃ (z507 : Int) (σ508 : Nat → Value), loopN (slices_Equal_byte_byte_l0 a0 a1) n z507 = some r ∧ a = Fr 26 (upd (upd (upd (upd σ508 0 (r0_0)) 1 (r1_0)) 12 (.int .i64 ((a0).length : Int))) 13 (.int .i64 z507)) ∧ St w0 w I [] R) n509 ⟨(0:Int), _, hm, (fu 0 r0_0 z (fu 1 r1_0 z (fu 12 (.int .i64 ((a0).length : Int)) z (fu 13 (.int .i64 (0:Int)) z z)))), hst⟩ ?_
 rintro n515 _ w510 ⟨z507, σ508, hm, rfl, hst⟩
 obtain ⟨n512, y513, rfl, hm, hx514⟩ := loopN_some hm
 dsimp only [slices_Equal_byte_byte_l0] at hm
 refine wp_seq (wrl (wv (.bool (decide (z507 < ((a0).length : Int)))) z z z (wl_nil (tn (wp_seq ?_)))))
 refine bsplit (decide (z507 < ((a0).length : Int))) (fun hc516 => ?_) (fun hc516 => ?_)
 {
 replace hm := bif_t hc516 hm
 refine wp_ift (cvb hc516) ?_
 refine wp_skip (tn (wp_seq (wp_block (wp_seq (wrl ?_)))))
 refine wv (.int .i64 z507) z z z (wv (.int .i64 z507) z z z (wl_nil (tn (wp_seq ?_))))
 refine wq_regionS hst Tryz.mixed (by kernel_rfl) ?_
 refine wq_run (v := r0_0) z z (fun w hst => z) ?_
 refine wq_run (v := .int .i64 z507) z z (fun w hst => z) ?_
 obtain ⟨x517, hx518, hm⟩ := bind_some hm
 obtain ⟨h519, h520, hi521⟩ := geto_some hx518
 refine wq_run (v := .pointer (some (eAddr r0_0 (z507.toNat * 1 + 0)))) z z (fun w hst => x_index z z underlying22 sizeOf5 (rd_sliceV f0_0) h519 h520) ?_
 refine wq_run (v := .int .u8 x517) z z (fun w hst => x_load z isAgg5 (rd_load f0_0 (HL.le.refl _) hst hi521 (by rintro _ rfl; rfl))) ?_
 refine wq_run (v := r1_0) z z (fun w hst => z) ?_
 refine wq_run (v := .int .i64 z507) z z (fun w hst => z) ?_
 obtain ⟨x522, hx523, hm⟩ := bind_some hm
 obtain ⟨h524, h525, hi526⟩ := geto_some hx523
 refine wq_run (v := .pointer (some (eAddr r1_0 (z507.toNat * 1 + 0)))) z z (fun w hst => x_index z z underlying22 sizeOf5 (rd_sliceV f1_0) h524 h525) ?_
 refine wq_run (v := .int .u8 x522) z z (fun w hst => x_load z isAgg5 (rd_load f1_0 (HL.le.refl _) hst hi526 (by rintro _ rfl; rfl))) ?_
 refine wq_run (v := .bool (x517 != x522)) z z (fun w hst => z) ?_
 refine wq_nil ?_
 intro w hst
 refine tn ?_
 refine bsplit (x517 != x522) (fun hc527 => ?_) (fun hc527 => ?_)
 {
 replace hm := bif_t hc527 hm
 refine wp_ift (cvb hc527) ?_
 refine wp_seq (wrl (wv (.bool false) z z z (wl_nil (tn (wp_ret (blk_r (then_r (then_r ?_))))))))
 replace hm := inr_up hm hx514
 refine blk_r (then_r ?_)
 obtain rfl := some_inj hm
 refine post_ret (vs := [.bool false]) results110 (rvs_cons (rv_tmp z) rvs_nil) ?_
 exact ⟨z, hst.keep0⟩
}
 {
 replace hm := bif_f hc527 hm
 refine wp_iff (cvb hc527) ?_
 refine wp_skip (blk_n (tn (wrl ?_)))
 refine wv (.int .i64 (i64.wrap (z507 + (1:Int)))) z z z (wv (.int .i64 (i64.wrap (z507 + (1:Int)))) z z z (wl_nil (tn ?_)))
 replace hst := hst.keep0
 obtain rfl := some_inj hm
 exact ⟨_, Nat.lt_succ_self _, (i64.wrap (z507 + (1:Int))), _, hx514, (fu 0 r0_0 z (fu 1 r1_0 z (fu 12 (.int .i64 ((a0).length : Int)) z (fu 13 (.int .i64 (i64.wrap (z507 + (1:Int)))) z z)))), hst⟩
}
}
 {
 replace hm := bif_f hc516 hm
 refine wp_iff (cvb hc516) ?_
 refine wp_exit (then_x (then_x ?_))
 replace hm := inr_up hm hx514
 refine blk_x (tn (wp_seq (wrl ?_)))
 refine wv (.bool true) z z z (wl_nil (tn (wp_ret ?_)))
 obtain rfl := some_inj hm
 refine post_ret (vs := [.bool true]) results110 (rvs_cons (rv_tmp z) rvs_nil) ?_
 exact ⟨z, hst.keep0⟩
}
}
}

theorem locks_Same_ref {w0 w : World} {I : HL} {R : SP} {a0 : api_Hold} {r0_0 : Value} {r0_1 : Value} {r0_2 : Value} {r0_3 : Value} {a1 : api_Hold} {r1_0 : Value} {r1_1 : Value} {r1_2 : Value} {r1_3 : Value} (f0_0 : Rd tyF64 R I r0_0 a0.Gets) (f0_1 : Rd tyF2 R I r0_1 a0.Scans) (f0_2 : Rd tyF64 R I r0_2 a0.Puts) (f0_3 : Rd (tyInt .u8) R I r0_3 a0.Data) (f1_0 : Rd tyF64 R I r1_0 a1.Gets) (f1_1 : Rd tyF2 R I r1_1 a1.Scans) (f1_2 : Rd tyF64 R I r1_2 a1.Puts) (f1_3 : Rd (tyInt .u8) R I r1_3 a1.Data) (hst : St w0 w I [] R) {r : (Bool)} (hm : locks_Same a0 a1 = some r) :
  Calls prog 57 #[.agg #[U6 a0.ID.Session, U6 a0.ID.Seq, U6 a0.Epoch, r0_0, r0_1, r0_2, r0_3], .agg #[U6 a1.ID.Session, U6 a1.ID.Seq, U6 a1.Epoch, r1_0, r1_1, r1_2, r1_3]] w fun e w' => e = .returned (.bool r) ∧ St w0 w' I [] R := by {
 unfold locks_Same at hm
 refine calls_start (args := [.agg #[U6 a0.ID.Session, U6 a0.ID.Seq, U6 a0.Epoch, r0_0, r0_1, r0_2, r0_3], .agg #[U6 a1.ID.Session, U6 a1.ID.Seq, U6 a1.Epoch, r1_0, r1_1, r1_2, r1_3]]) func57 z ntmps57 (Nat.le_of_ble_eq_true z) ?_
 refine wp_seq (wrl ?_)
 obtain ⟨b443, w444, ew445, eb446, hst⟩ := hst.box [U6 a0.ID.Session, U6 a0.ID.Seq, U6 a0.Epoch, r0_0, r0_1, r0_2, r0_3] 46
 refine wl_run (v := Pt b443 0) (w' := w444) z z (x_al (by kernel_rfl) ew445 eb446) ?_
 obtain ⟨b448, w449, ew450, eb451, hst⟩ := hst.box [U6 a1.ID.Session, U6 a1.ID.Seq, U6 a1.Epoch, r1_0, r1_1, r1_2, r1_3] 46
 refine wl_run (v := Pt b448 0) (w' := w449) z z (x_al (by kernel_rfl) ew450 eb451) ?_
 refine wv (.bool false) z z z (wl_nil (tn (wp_seq (wrl (wv (.func (.func 136) #[] #[]) z z z (wl_nil (tn (wp_seq (wrl (wv (Pt b443 0) z z (x_field z underlying46 z sizeOf28 z) (wv (.agg #[U6 a0.ID.Session, U6 a0.ID.Seq]) z z (x_loadN (cs := [U6 a0.ID.Session, U6 a0.ID.Seq]) z isAgg28 sizeOf28 (hst.bcs1 0 z)) (wv (Pt b448 0) z z (x_field z underlying46 z sizeOf28 z) (wv (.agg #[U6 a1.ID.Session, U6 a1.ID.Seq]) z z (x_loadN (cs := [U6 a1.ID.Session, U6 a1.ID.Seq]) z isAgg28 sizeOf28 (hst.bcs0 0 z)) (wv (.bool ((a0.ID.Session == a1.ID.Session) && (a0.ID.Seq == a1.ID.Seq))) z z (x_aggeq2 z z (by kernel_rfl) underlying28 (by kernel_rfl) (by kernel_rfl) (by kernel_rfl) underlying26 underlying26 (fun _ _ _ => by kernel_rfl) (fun _ _ _ => by kernel_rfl)) (wv (.bool ((a0.ID.Session == a1.ID.Session) && (a0.ID.Seq == a1.ID.Seq))) z z z ?_)))))))))))))))
 refine bsplit ((a0.ID.Session == a1.ID.Session) && (a0.ID.Seq == a1.ID.Seq)) (fun hc453 => ?_) (fun hc453 => ?_)
 {
 replace hm := bif_t hc453 hm
 refine wv (Pt b443 2) ((wanted_eq z z z (cvb hc453)).trans z) z (x_field z underlying46 z sizeOf26 z) (wv (.int .u64 a0.Epoch) ((wanted_eq z z z (cvb hc453)).trans z) z (x_load z isAgg26 (hst.bc1 z)) (wv (Pt b448 2) ((wanted_eq z z z (cvb hc453)).trans z) z (x_field z underlying46 z sizeOf26 z) (wv (.int .u64 a1.Epoch) ((wanted_eq z z z (cvb hc453)).trans z) z (x_load z isAgg26 (hst.bc0 z)) (wv (.bool (a0.Epoch == a1.Epoch)) ((wanted_eq z z z (cvb hc453)).trans z) z z (wv (.bool (a0.Epoch == a1.Epoch)) z z (x_pick_t hc453 z z) (wv (.bool (a0.Epoch == a1.Epoch)) z z z ?_))))))
 refine bsplit (a0.Epoch == a1.Epoch) (fun hc454 => ?_) (fun hc454 => ?_)
 {
 replace hm := bif_t hc454 hm
 refine wv (Pt b443 3) ((wanted_eq z z z (cvb hc454)).trans z) z (x_field z underlying46 z sizeOf43 z) (wv (r0_0) ((wanted_eq z z z (cvb hc454)).trans z) z (x_load z isAgg43 (hst.bc1 z)) (wv (Pt b448 3) ((wanted_eq z z z (cvb hc454)).trans z) z (x_field z underlying46 z sizeOf43 z) (wv (r1_0) ((wanted_eq z z z (cvb hc454)).trans z) z (x_load z isAgg43 (hst.bc0 z)) ?_)))
 obtain ⟨y519, hq520, hm⟩ := bind_some hm
 refine wl_call ((wanted_eq z z z (cvb hc454)).trans z) z (x_callv call138 (caps := []) z (vs := [r0_0, r1_0, .func (.func 137) #[] #[]]) z) ?_
 refine Calls.mono (show Calls prog 138 #[r0_0, r1_0, .func (.func 137) #[] #[]] _ (fun e w' => ∃ (z517 : Bool), z517 = y519 ∧ e = .returned (.bool z517) ∧ St w0 w' I [cells b443 [U6 a0.ID.Session, U6 a0.ID.Seq, U6 a0.Epoch, r0_0, r0_1, r0_2, r0_3], cells b448 [U6 a1.ID.Session, U6 a1.ID.Seq, U6 a1.Epoch, r1_0, r1_1, r1_2, r1_3]] R) from ?_) ?_
 {
 clear hm; have hm := hq520
 refine calls_start (args := [r0_0, r1_0, .func (.func 137) #[] #[]]) func138 z ntmps138 (Nat.le_of_ble_eq_true z) ?_
 refine wp_seq (wrl (wv (.bool false) z z z (wl_nil (tn (wp_seq (wp_seq (wrl (wv (r0_0) z z z (wv (.int .i64 ((a0.Gets).length : Int)) z z (x_len z underlying43 (rd_sliceV f0_0)) (wv (r1_0) z z z (wv (.int .i64 ((a1.Gets).length : Int)) z z (x_len z underlying43 (rd_sliceV f1_0)) (wv (.bool (((a0.Gets).length : Int) != ((a1.Gets).length : Int))) z z z (wl_nil (tn ?_))))))))))))))
 refine bsplit (((a0.Gets).length : Int) != ((a1.Gets).length : Int)) (fun hc455 => ?_) (fun hc455 => ?_)
 {
 replace hm := bif_t hc455 hm
 refine wp_ift (cvb hc455) ?_
 refine wp_seq (wrl (wv (.bool false) z z z (wl_nil (tn (wp_ret (then_r ?_))))))
 refine post_ret (vs := [.bool false]) results138 (rvs_cons (rv_tmp z) rvs_nil) ?_
 replace hst := hst.pull1.keep2
 obtain rfl := some_inj hm
 exact ⟨false, z, z, hst⟩
}
 {
 replace hm := bif_f hc455 hm
 refine wp_iff (cvb hc455) ?_
 refine wp_skip (tn (wp_seq (wp_seq (wrl ?_))))
 refine wv (r0_0) z z z (wv (.int .i64 ((a0.Gets).length : Int)) z z (x_len z underlying43 (rd_sliceV f0_0)) (wv (.int .i64 (0:Int)) z z z (wl_nil (tn (wp_block ?_)))))
 obtain ⟨n493, hm⟩ := loopO_some hm
 refine wp_loop_n (fun n a w => ∃ (z491 : Int) (σ492 : Nat → Value), loopN (locks_Same_l0 a0 a1) n z491 = some y519 ∧ a = Fr 32 (upd (upd (upd (upd (upd σ492 1 (r1_0)) 2 (.func (.func 137) #[] #[])) 15 (r0_0)) 16 (.int .i64 ((a0.Gets).length : Int))) 17 (.int .i64 z491)) ∧ St w0 w I [cells b448 [U6 a1.ID.Session, U6 a1.ID.Seq, U6 a1.Epoch, r1_0, r1_1, r1_2, r1_3], cells b443 [U6 a0.ID.Session, U6 a0.ID.Seq, U6 a0.Epoch, r0_0, r0_1, r0_2, r0_3]] R) n493 ⟨(0:Int), _, hm, (fu 1 r1_0 z (fu 2 (.func (.func 137) #[] #[]) z (fu 15 r0_0 z (fu 16 (.int .i64 ((a0.Gets).length : Int)) z (fu 17 (.int .i64 (0:Int)) z z))))), hst⟩ ?_
 rintro n499 _ w494 ⟨z491, σ492, hm, rfl, hst⟩
 obtain ⟨n496, y497, rfl, hm, hx498⟩ := loopN_some hm
 dsimp only [locks_Same_l0] at hm
 refine wp_seq (wrl (wv (.bool (decide (z491 < ((a0.Gets).length : Int)))) z z z (wl_nil (tn (wp_seq ?_)))))
 refine bsplit (decide (z491 < ((a0.Gets).length : Int))) (fun hc500 => ?_) (fun hc500 => ?_)
 {
 replace hm := bif_t hc500 hm
 refine wp_ift (cvb hc500) ?_
 refine wp_skip (tn (wp_seq (wp_block (wp_seq (wrl ?_)))))
 refine wv (.int .i64 z491) z z z ?_
 obtain ⟨x501, hx502, hm⟩ := bind_some hm
 obtain ⟨h503, h504, hi505⟩ := geto_some hx502
 refine wv (.pointer (some (eAddr r0_0 (z491.toNat * 1 + 0)))) z z (x_index z z underlying43 sizeOf37 (rd_sliceV f0_0) h503 h504) (wv (.float .f64 x501) z z (x_load z isAgg37 (rd_load f0_0 (HL.le.refl _) hst hi505 (by rintro _ rfl; rfl))) (wv (.int .i64 z491) z z z (wv (.float .f64 x501) z z z (wl_nil (tn (wp_seq (wrl (wv (r1_0) z z z (wv (.int .i64 z491) z z z ?_)))))))))
 obtain ⟨x506, hx507, hm⟩ := bind_some hm
 obtain ⟨h508, h509, hi510⟩ := geto_some hx507
 refine wv (.pointer (some (eAddr r1_0 (z491.toNat * 1 + 0)))) z z (x_index z z underlying43 sizeOf37 (rd_sliceV f1_0) h508 h509) (wv (.float .f64 x506) z z (x_load z isAgg37 (rd_load f1_0 (HL.le.refl _) hst hi510 (by rintro _ rfl; rfl))) (wv (.float .f64 x506) z z z (wl_nil (tn (wp_seq (wrl (wv (.func (.func 137) #[] #[]) z z z (wv (.float .f64 x501) z z z (wv (.float .f64 x506) z z z ?_)))))))))
 obtain ⟨t511, ht512, hm⟩ := bind_some hm
 refine wl_call z z (x_callv call137 (caps := []) z (vs := [F6 x501, F6 x506]) z) ?_
 refine (number_Same_ref hst.to0 ht512).mono ?_
 rintro _ w513 ⟨rfl, hst⟩
 refine ⟨_, z, ?_⟩
 replace hst := hst.of0
 refine wv (.bool (!t511)) z z z (wl_nil (tn ?_))
 refine bsplit (!t511) (fun hc516 => ?_) (fun hc516 => ?_)
 {
 replace hm := bif_t hc516 hm
 refine wp_ift (cvb hc516) ?_
 refine wp_seq (wrl (wv (.bool false) z z z (wl_nil (tn (wp_ret (blk_r (then_r (then_r ?_))))))))
 replace hm := inr_up hm hx498
 refine blk_r (then_r ?_)
 refine post_ret (vs := [.bool false]) results138 (rvs_cons (rv_tmp z) rvs_nil) ?_
 replace hst := hst.pull1.keep2
 obtain rfl := some_inj hm
 exact ⟨false, z, z, hst⟩
}
 {
 replace hm := bif_f hc516 hm
 refine wp_iff (cvb hc516) ?_
 refine wp_skip (blk_n (tn (wrl ?_)))
 refine wv (.int .i64 (i64.wrap (z491 + (1:Int)))) z z z (wv (.int .i64 (i64.wrap (z491 + (1:Int)))) z z z (wl_nil (tn ?_)))
 replace hst := hst.pull1.pull1.keep2
 obtain rfl := some_inj hm
 exact ⟨_, Nat.lt_succ_self _, (i64.wrap (z491 + (1:Int))), _, hx498, (fu 1 r1_0 z (fu 2 (.func (.func 137) #[] #[]) z (fu 15 r0_0 z (fu 16 (.int .i64 ((a0.Gets).length : Int)) z (fu 17 (.int .i64 (i64.wrap (z491 + (1:Int)))) z z))))), hst⟩
}
}
 {
 replace hm := bif_f hc500 hm
 refine wp_iff (cvb hc500) ?_
 refine wp_exit (then_x (then_x ?_))
 replace hm := inr_up hm hx498
 refine blk_x (tn (wp_seq (wrl ?_)))
 refine wv (.bool true) z z z (wl_nil (tn (wp_ret ?_)))
 refine post_ret (vs := [.bool true]) results138 (rvs_cons (rv_tmp z) rvs_nil) ?_
 replace hst := hst.pull1.keep2
 obtain rfl := some_inj hm
 exact ⟨true, z, z, hst⟩
}
}
}
 clear hst
 rintro _ w521 ⟨z517, rfl, rfl, hst⟩
 refine ⟨_, z, ?_⟩
 try dsimp only at hm
 refine wv (.bool z517) z z (x_pick_t hc454 z z) (wv (.bool z517) z z z ?_)
 refine bsplit z517 (fun hc522 => ?_) (fun hc522 => ?_)
 {
 replace hm := bif_t hc522 hm
 refine wv (Pt b443 4) ((wanted_eq z z z (cvb hc522)).trans z) z (x_field z underlying46 z sizeOf44 z) (wv (r0_1) ((wanted_eq z z z (cvb hc522)).trans z) z (x_load z isAgg44 (hst.bc0 z)) (wv (Pt b448 4) ((wanted_eq z z z (cvb hc522)).trans z) z (x_field z underlying46 z sizeOf44 z) (wv (r1_1) ((wanted_eq z z z (cvb hc522)).trans z) z (x_load z isAgg44 (hst.bc1 z)) (wv (.func (.func 136) #[] #[]) ((wanted_eq z z z (cvb hc522)).trans z) z z ?_))))
 obtain ⟨y629, hq630, hm⟩ := bind_some hm
 refine wl_call ((wanted_eq z z z (cvb hc522)).trans z) z (x_callv call139 (caps := []) z (vs := [r0_1, r1_1, .func (.func 136) #[] #[]]) z) ?_
 refine Calls.mono (show Calls prog 139 #[r0_1, r1_1, .func (.func 136) #[] #[]] _ (fun e w' => ∃ (z627 : Bool), z627 = y629 ∧ e = .returned (.bool z627) ∧ St w0 w' I [cells b443 [U6 a0.ID.Session, U6 a0.ID.Seq, U6 a0.Epoch, r0_0, r0_1, r0_2, r0_3], cells b448 [U6 a1.ID.Session, U6 a1.ID.Seq, U6 a1.Epoch, r1_0, r1_1, r1_2, r1_3]] R) from ?_) ?_
 {
 clear hm; have hm := hq630
 refine calls_start (args := [r0_1, r1_1, .func (.func 136) #[] #[]]) func139 z ntmps139 (Nat.le_of_ble_eq_true z) ?_
 refine wp_seq (wrl (wv (.bool false) z z z (wl_nil (tn (wp_seq (wp_seq (wrl (wv (r0_1) z z z (wv (.int .i64 ((a0.Scans).length : Int)) z z (x_len z underlying44 (rd_sliceV f0_1)) (wv (r1_1) z z z (wv (.int .i64 ((a1.Scans).length : Int)) z z (x_len z underlying44 (rd_sliceV f1_1)) (wv (.bool (((a0.Scans).length : Int) != ((a1.Scans).length : Int))) z z z (wl_nil (tn ?_))))))))))))))
 refine bsplit (((a0.Scans).length : Int) != ((a1.Scans).length : Int)) (fun hc523 => ?_) (fun hc523 => ?_)
 {
 replace hm := bif_t hc523 hm
 refine wp_ift (cvb hc523) ?_
 refine wp_seq (wrl (wv (.bool false) z z z (wl_nil (tn (wp_ret (then_r ?_))))))
 refine post_ret (vs := [.bool false]) results139 (rvs_cons (rv_tmp z) rvs_nil) ?_
 replace hst := hst.pull1.pull1.keep2
 obtain rfl := some_inj hm
 exact ⟨false, z, z, hst⟩
}
 {
 replace hm := bif_f hc523 hm
 refine wp_iff (cvb hc523) ?_
 refine wp_skip (tn (wp_seq (wp_seq (wrl ?_))))
 refine wv (r0_1) z z z (wv (.int .i64 ((a0.Scans).length : Int)) z z (x_len z underlying44 (rd_sliceV f0_1)) (wv (.int .i64 (0:Int)) z z z (wl_nil (tn (wp_block ?_)))))
 obtain ⟨n589, hm⟩ := loopO_some hm
 refine wp_loop_n (fun n a w => ∃ (z587 : Int) (σ588 : Nat → Value), loopN (locks_Same_l1 a0 a1) n z587 = some y629 ∧ a = Fr 32 (upd (upd (upd (upd (upd σ588 1 (r1_1)) 2 (.func (.func 136) #[] #[])) 15 (r0_1)) 16 (.int .i64 ((a0.Scans).length : Int))) 17 (.int .i64 z587)) ∧ St w0 w I [cells b443 [U6 a0.ID.Session, U6 a0.ID.Seq, U6 a0.Epoch, r0_0, r0_1, r0_2, r0_3], cells b448 [U6 a1.ID.Session, U6 a1.ID.Seq, U6 a1.Epoch, r1_0, r1_1, r1_2, r1_3]] R) n589 ⟨(0:Int), _, hm, (fu 1 r1_1 z (fu 2 (.func (.func 136) #[] #[]) z (fu 15 r0_1 z (fu 16 (.int .i64 ((a0.Scans).length : Int)) z (fu 17 (.int .i64 (0:Int)) z z))))), hst⟩ ?_
 rintro n595 _ w590 ⟨z587, σ588, hm, rfl, hst⟩
 obtain ⟨n592, y593, rfl, hm, hx594⟩ := loopN_some hm
 dsimp only [locks_Same_l1] at hm
 refine wp_seq (wrl (wv (.bool (decide (z587 < ((a0.Scans).length : Int)))) z z z (wl_nil (tn (wp_seq ?_)))))
 refine bsplit (decide (z587 < ((a0.Scans).length : Int))) (fun hc596 => ?_) (fun hc596 => ?_)
 {
 replace hm := bif_t hc596 hm
 refine wp_ift (cvb hc596) ?_
 refine wp_skip (tn (wp_seq (wp_block (wp_seq (wrl ?_)))))
 refine wv (.int .i64 z587) z z z ?_
 obtain ⟨x597, hx598, hm⟩ := bind_some hm
 obtain ⟨h599, h600, hi601⟩ := geto_some hx598
 refine wv (.pointer (some (eAddr r0_1 (z587.toNat * 2 + 0)))) z z (x_index z z underlying44 sizeOf80 (rd_sliceV f0_1) h599 h600) (wv (.agg #[F6 x597.1, F6 x597.2]) z z (x_loadN (cs := [F6 x597.1, F6 x597.2]) z isAgg80 sizeOf80 (rd_loadN f0_1 (HL.le.refl _) hst hi601 0 (by rintro _ rfl; rfl))) ?_)
 obtain ⟨b602, w603, ew604, eb605, hst⟩ := hst.box [Zf, Zf] 80
 refine wl_run (v := Pt b602 0) (w' := w603) z z (x_al (by kernel_rfl) ew604 eb605) ?_
 refine wv (.int .i64 z587) z z z ?_
 obtain ⟨w607, hr608, hst⟩ := hst.bx [F6 x597.1, F6 x597.2] sizeOf80 z (oC z (oC z oN)) (by kernel_rfl)
 refine wl_unit z z (x_unit hr608) ?_
 refine wl_nil (tn (wp_seq (wrl (wv (r1_1) z z z (wv (.int .i64 z587) z z z ?_)))))
 obtain ⟨x609, hx610, hm⟩ := bind_some hm
 obtain ⟨h611, h612, hi613⟩ := geto_some hx610
 refine wv (.pointer (some (eAddr r1_1 (z587.toNat * 2 + 0)))) z z (x_index z z underlying44 sizeOf80 (rd_sliceV f1_1) h611 h612) (wv (.agg #[F6 x609.1, F6 x609.2]) z z (x_loadN (cs := [F6 x609.1, F6 x609.2]) z isAgg80 sizeOf80 (rd_loadN f1_1 (HL.le.refl _) hst hi613 0 (by rintro _ rfl; rfl))) ?_)
 obtain ⟨b614, w615, ew616, eb617, hst⟩ := hst.box [Zf, Zf] 80
 refine wl_run (v := Pt b614 0) (w' := w615) z z (x_al (by kernel_rfl) ew616 eb617) ?_
 obtain ⟨w619, hr620, hst⟩ := hst.bx [F6 x609.1, F6 x609.2] sizeOf80 z (oC z (oC z oN)) (by kernel_rfl)
 refine wl_unit z z (x_unit hr620) ?_
 refine wl_nil (tn (wp_seq (wrl (wv (.func (.func 136) #[] #[]) z z z (wv (.agg #[F6 x597.1, F6 x597.2]) z z (x_loadN (cs := [F6 x597.1, F6 x597.2]) z isAgg80 sizeOf80 (hst.bcs1 0 z)) (wv (.agg #[F6 x609.1, F6 x609.2]) z z (x_loadN (cs := [F6 x609.1, F6 x609.2]) z isAgg80 sizeOf80 (hst.bcs0 0 z)) ?_))))))
 obtain ⟨t621, ht622, hm⟩ := bind_some hm
 refine wl_call z z (x_callv call136 (caps := []) z (vs := [.agg #[F6 x597.1, F6 x597.2], .agg #[F6 x609.1, F6 x609.2]]) z) ?_
 refine (locks_Same_1_ref hst.to0 ht622).mono ?_
 rintro _ w623 ⟨rfl, hst⟩
 refine ⟨_, z, ?_⟩
 replace hst := hst.of0
 refine wv (.bool (!t621)) z z z (wl_nil (tn ?_))
 refine bsplit (!t621) (fun hc626 => ?_) (fun hc626 => ?_)
 {
 replace hm := bif_t hc626 hm
 refine wp_ift (cvb hc626) ?_
 refine wp_seq (wrl (wv (.bool false) z z z (wl_nil (tn (wp_ret (blk_r (then_r (then_r ?_))))))))
 replace hm := inr_up hm hx594
 refine blk_r (then_r ?_)
 refine post_ret (vs := [.bool false]) results139 (rvs_cons (rv_tmp z) rvs_nil) ?_
 replace hst := hst.pull3.pull3.keep2
 obtain rfl := some_inj hm
 exact ⟨false, z, z, hst⟩
}
 {
 replace hm := bif_f hc626 hm
 refine wp_iff (cvb hc626) ?_
 refine wp_skip (blk_n (tn (wrl ?_)))
 refine wv (.int .i64 (i64.wrap (z587 + (1:Int)))) z z z (wv (.int .i64 (i64.wrap (z587 + (1:Int)))) z z z (wl_nil (tn ?_)))
 replace hst := hst.pull3.pull3.keep2
 obtain rfl := some_inj hm
 exact ⟨_, Nat.lt_succ_self _, (i64.wrap (z587 + (1:Int))), _, hx594, (fu 1 r1_1 z (fu 2 (.func (.func 136) #[] #[]) z (fu 15 r0_1 z (fu 16 (.int .i64 ((a0.Scans).length : Int)) z (fu 17 (.int .i64 (i64.wrap (z587 + (1:Int)))) z z))))), hst⟩
}
}
 {
 replace hm := bif_f hc596 hm
 refine wp_iff (cvb hc596) ?_
 refine wp_exit (then_x (then_x ?_))
 replace hm := inr_up hm hx594
 refine blk_x (tn (wp_seq (wrl ?_)))
 refine wv (.bool true) z z z (wl_nil (tn (wp_ret ?_)))
 refine post_ret (vs := [.bool true]) results139 (rvs_cons (rv_tmp z) rvs_nil) ?_
 replace hst := hst.pull1.pull1.keep2
 obtain rfl := some_inj hm
 exact ⟨true, z, z, hst⟩
}
}
}
 clear hst
 rintro _ w631 ⟨z627, rfl, rfl, hst⟩
 refine ⟨_, z, ?_⟩
 try dsimp only at hm
 refine wv (.bool z627) z z (x_pick_t hc522 z z) (wv (.bool z627) z z z ?_)
 refine bsplit z627 (fun hc632 => ?_) (fun hc632 => ?_)
 {
 replace hm := bif_t hc632 hm
 refine wv (Pt b443 5) ((wanted_eq z z z (cvb hc632)).trans z) z (x_field z underlying46 z sizeOf43 z) (wv (r0_2) ((wanted_eq z z z (cvb hc632)).trans z) z (x_load z isAgg43 (hst.bc0 z)) (wv (Pt b448 5) ((wanted_eq z z z (cvb hc632)).trans z) z (x_field z underlying46 z sizeOf43 z) (wv (r1_2) ((wanted_eq z z z (cvb hc632)).trans z) z (x_load z isAgg43 (hst.bc1 z)) ?_)))
 obtain ⟨y697, hq698, hm⟩ := bind_some hm
 refine wl_call ((wanted_eq z z z (cvb hc632)).trans z) z (x_callv call138 (caps := []) z (vs := [r0_2, r1_2, .func (.func 137) #[] #[]]) z) ?_
 refine Calls.mono (show Calls prog 138 #[r0_2, r1_2, .func (.func 137) #[] #[]] _ (fun e w' => ∃ (z695 : Bool), z695 = y697 ∧ e = .returned (.bool z695) ∧ St w0 w' I [cells b443 [U6 a0.ID.Session, U6 a0.ID.Seq, U6 a0.Epoch, r0_0, r0_1, r0_2, r0_3], cells b448 [U6 a1.ID.Session, U6 a1.ID.Seq, U6 a1.Epoch, r1_0, r1_1, r1_2, r1_3]] R) from ?_) ?_
 {
 clear hm; have hm := hq698
 refine calls_start (args := [r0_2, r1_2, .func (.func 137) #[] #[]]) func138 z ntmps138 (Nat.le_of_ble_eq_true z) ?_
 refine wp_seq (wrl (wv (.bool false) z z z (wl_nil (tn (wp_seq (wp_seq (wrl (wv (r0_2) z z z (wv (.int .i64 ((a0.Puts).length : Int)) z z (x_len z underlying43 (rd_sliceV f0_2)) (wv (r1_2) z z z (wv (.int .i64 ((a1.Puts).length : Int)) z z (x_len z underlying43 (rd_sliceV f1_2)) (wv (.bool (((a0.Puts).length : Int) != ((a1.Puts).length : Int))) z z z (wl_nil (tn ?_))))))))))))))
 refine bsplit (((a0.Puts).length : Int) != ((a1.Puts).length : Int)) (fun hc633 => ?_) (fun hc633 => ?_)
 {
 replace hm := bif_t hc633 hm
 refine wp_ift (cvb hc633) ?_
 refine wp_seq (wrl (wv (.bool false) z z z (wl_nil (tn (wp_ret (then_r ?_))))))
 refine post_ret (vs := [.bool false]) results138 (rvs_cons (rv_tmp z) rvs_nil) ?_
 replace hst := hst.pull1.pull1.keep2
 obtain rfl := some_inj hm
 exact ⟨false, z, z, hst⟩
}
 {
 replace hm := bif_f hc633 hm
 refine wp_iff (cvb hc633) ?_
 refine wp_skip (tn (wp_seq (wp_seq (wrl ?_))))
 refine wv (r0_2) z z z (wv (.int .i64 ((a0.Puts).length : Int)) z z (x_len z underlying43 (rd_sliceV f0_2)) (wv (.int .i64 (0:Int)) z z z (wl_nil (tn (wp_block ?_)))))
 obtain ⟨n671, hm⟩ := loopO_some hm
 refine wp_loop_n (fun n a w => ∃ (z669 : Int) (σ670 : Nat → Value), loopN (locks_Same_l2 a0 a1) n z669 = some y697 ∧ a = Fr 32 (upd (upd (upd (upd (upd σ670 1 (r1_2)) 2 (.func (.func 137) #[] #[])) 15 (r0_2)) 16 (.int .i64 ((a0.Puts).length : Int))) 17 (.int .i64 z669)) ∧ St w0 w I [cells b443 [U6 a0.ID.Session, U6 a0.ID.Seq, U6 a0.Epoch, r0_0, r0_1, r0_2, r0_3], cells b448 [U6 a1.ID.Session, U6 a1.ID.Seq, U6 a1.Epoch, r1_0, r1_1, r1_2, r1_3]] R) n671 ⟨(0:Int), _, hm, (fu 1 r1_2 z (fu 2 (.func (.func 137) #[] #[]) z (fu 15 r0_2 z (fu 16 (.int .i64 ((a0.Puts).length : Int)) z (fu 17 (.int .i64 (0:Int)) z z))))), hst⟩ ?_
 rintro n677 _ w672 ⟨z669, σ670, hm, rfl, hst⟩
 obtain ⟨n674, y675, rfl, hm, hx676⟩ := loopN_some hm
 dsimp only [locks_Same_l2] at hm
 refine wp_seq (wrl (wv (.bool (decide (z669 < ((a0.Puts).length : Int)))) z z z (wl_nil (tn (wp_seq ?_)))))
 refine bsplit (decide (z669 < ((a0.Puts).length : Int))) (fun hc678 => ?_) (fun hc678 => ?_)
 {
 replace hm := bif_t hc678 hm
 refine wp_ift (cvb hc678) ?_
 refine wp_skip (tn (wp_seq (wp_block (wp_seq (wrl ?_)))))
 refine wv (.int .i64 z669) z z z ?_
 obtain ⟨x679, hx680, hm⟩ := bind_some hm
 obtain ⟨h681, h682, hi683⟩ := geto_some hx680
 refine wv (.pointer (some (eAddr r0_2 (z669.toNat * 1 + 0)))) z z (x_index z z underlying43 sizeOf37 (rd_sliceV f0_2) h681 h682) (wv (.float .f64 x679) z z (x_load z isAgg37 (rd_load f0_2 (HL.le.refl _) hst hi683 (by rintro _ rfl; rfl))) (wv (.int .i64 z669) z z z (wv (.float .f64 x679) z z z (wl_nil (tn (wp_seq (wrl (wv (r1_2) z z z (wv (.int .i64 z669) z z z ?_)))))))))
 obtain ⟨x684, hx685, hm⟩ := bind_some hm
 obtain ⟨h686, h687, hi688⟩ := geto_some hx685
 refine wv (.pointer (some (eAddr r1_2 (z669.toNat * 1 + 0)))) z z (x_index z z underlying43 sizeOf37 (rd_sliceV f1_2) h686 h687) (wv (.float .f64 x684) z z (x_load z isAgg37 (rd_load f1_2 (HL.le.refl _) hst hi688 (by rintro _ rfl; rfl))) (wv (.float .f64 x684) z z z (wl_nil (tn (wp_seq (wrl (wv (.func (.func 137) #[] #[]) z z z (wv (.float .f64 x679) z z z (wv (.float .f64 x684) z z z ?_)))))))))
 obtain ⟨t689, ht690, hm⟩ := bind_some hm
 refine wl_call z z (x_callv call137 (caps := []) z (vs := [F6 x679, F6 x684]) z) ?_
 refine (number_Same_ref hst.to0 ht690).mono ?_
 rintro _ w691 ⟨rfl, hst⟩
 refine ⟨_, z, ?_⟩
 replace hst := hst.of0
 refine wv (.bool (!t689)) z z z (wl_nil (tn ?_))
 refine bsplit (!t689) (fun hc694 => ?_) (fun hc694 => ?_)
 {
 replace hm := bif_t hc694 hm
 refine wp_ift (cvb hc694) ?_
 refine wp_seq (wrl (wv (.bool false) z z z (wl_nil (tn (wp_ret (blk_r (then_r (then_r ?_))))))))
 replace hm := inr_up hm hx676
 refine blk_r (then_r ?_)
 refine post_ret (vs := [.bool false]) results138 (rvs_cons (rv_tmp z) rvs_nil) ?_
 replace hst := hst.pull1.pull1.keep2
 obtain rfl := some_inj hm
 exact ⟨false, z, z, hst⟩
}
 {
 replace hm := bif_f hc694 hm
 refine wp_iff (cvb hc694) ?_
 refine wp_skip (blk_n (tn (wrl ?_)))
 refine wv (.int .i64 (i64.wrap (z669 + (1:Int)))) z z z (wv (.int .i64 (i64.wrap (z669 + (1:Int)))) z z z (wl_nil (tn ?_)))
 replace hst := hst.pull1.pull1.keep2
 obtain rfl := some_inj hm
 exact ⟨_, Nat.lt_succ_self _, (i64.wrap (z669 + (1:Int))), _, hx676, (fu 1 r1_2 z (fu 2 (.func (.func 137) #[] #[]) z (fu 15 r0_2 z (fu 16 (.int .i64 ((a0.Puts).length : Int)) z (fu 17 (.int .i64 (i64.wrap (z669 + (1:Int)))) z z))))), hst⟩
}
}
 {
 replace hm := bif_f hc678 hm
 refine wp_iff (cvb hc678) ?_
 refine wp_exit (then_x (then_x ?_))
 replace hm := inr_up hm hx676
 refine blk_x (tn (wp_seq (wrl ?_)))
 refine wv (.bool true) z z z (wl_nil (tn (wp_ret ?_)))
 refine post_ret (vs := [.bool true]) results138 (rvs_cons (rv_tmp z) rvs_nil) ?_
 replace hst := hst.pull1.pull1.keep2
 obtain rfl := some_inj hm
 exact ⟨true, z, z, hst⟩
}
}
}
 clear hst
 rintro _ w699 ⟨z695, rfl, rfl, hst⟩
 refine ⟨_, z, ?_⟩
 try dsimp only at hm
 refine wv (.bool z695) z z (x_pick_t hc632 z z) (wv (.bool z695) z z z ?_)
 refine bsplit z695 (fun hc700 => ?_) (fun hc700 => ?_)
 {
 replace hm := bif_t hc700 hm
 refine wv (Pt b443 6) ((wanted_eq z z z (cvb hc700)).trans z) z (x_field z underlying46 z sizeOf22 z) (wv (r0_3) ((wanted_eq z z z (cvb hc700)).trans z) z (x_load z isAgg22 (hst.bc0 z)) (wv (Pt b448 6) ((wanted_eq z z z (cvb hc700)).trans z) z (x_field z underlying46 z sizeOf22 z) (wv (r1_3) ((wanted_eq z z z (cvb hc700)).trans z) z (x_load z isAgg22 (hst.bc1 z)) ?_)))
 obtain ⟨t701, ht702, hm⟩ := bind_some hm
 refine wl_call ((wanted_eq z z z (cvb hc700)).trans z) z (x_call call110 z (vs := [r0_3, r1_3]) z) ?_
 refine (slices_Equal_byte_byte_ref (f0_3.mono (rd_weak _)) (f1_3.mono (rd_weak _)) hst.to0 ht702).mono ?_
 rintro _ w703 ⟨rfl, hst⟩
 refine ⟨_, z, ?_⟩
 replace hst := hst.of0
 refine wv (.bool t701) z z (x_pick_t hc700 z z) (wv (.bool t701) z z z (wl_nil (tn (wp_ret ?_))))
 obtain rfl := some_inj hm
 refine post_ret (vs := [.bool t701]) results57 (rvs_cons (rv_tmp z) rvs_nil) ?_
 exact ⟨z, hst.keep0⟩
}
 {
 replace hm := bif_f hc700 hm
 refine wo hc700 z z z z z z (wo hc700 z z z z z z (wo hc700 z z z z z z (wo hc700 z z z z z z (wo hc700 z z z z z z (wv (.bool false) z z (x_pick_f hc700 z z) (wv (.bool false) z z z (wl_nil (tn (wp_ret ?_)))))))))
 obtain rfl := some_inj hm
 refine post_ret (vs := [.bool false]) results57 (rvs_cons (rv_tmp z) rvs_nil) ?_
 exact ⟨z, hst.keep0⟩
}
}
 {
 replace hm := bif_f hc632 hm
 refine wo hc632 z z z z z z (wo hc632 z z z z z z (wo hc632 z z z z z z (wo hc632 z z z z z z (wo hc632 z z z z z z (wv (.bool false) z z (x_pick_f hc632 z z) (wv (.bool false) z z z (wz z z z z z z (wz z z z z z z (wz z z z z z z (wz z z z z z z (wz z z z z z z (wv (.bool false) z z (x_pick_f z z z) ?_))))))))))))
 refine wv (.bool false) z z z (wl_nil (tn (wp_ret ?_)))
 obtain rfl := some_inj hm
 refine post_ret (vs := [.bool false]) results57 (rvs_cons (rv_tmp z) rvs_nil) ?_
 exact ⟨z, hst.keep0⟩
}
}
 {
 replace hm := bif_f hc522 hm
 refine wo hc522 z z z z z z (wo hc522 z z z z z z (wo hc522 z z z z z z (wo hc522 z z z z z z (wo hc522 z z z z z z (wo hc522 z z z z z z (wv (.bool false) z z (x_pick_f hc522 z z) (wv (.bool false) z z z (wz z z z z z z (wz z z z z z z (wz z z z z z z (wz z z z z z z (wz z z z z z z ?_))))))))))))
 refine wv (.bool false) z z (x_pick_f z z z) (wv (.bool false) z z z (wz z z z z z z (wz z z z z z z (wz z z z z z z (wz z z z z z z (wz z z z z z z (wv (.bool false) z z (x_pick_f z z z) (wv (.bool false) z z z (wl_nil (tn (wp_ret ?_)))))))))))
 obtain rfl := some_inj hm
 refine post_ret (vs := [.bool false]) results57 (rvs_cons (rv_tmp z) rvs_nil) ?_
 exact ⟨z, hst.keep0⟩
}
}
 {
 replace hm := bif_f hc454 hm
 refine wo hc454 z z z z z z (wo hc454 z z z z z z (wo hc454 z z z z z z (wo hc454 z z z z z z (wo hc454 z z z z z z (wv (.bool false) z z (x_pick_f hc454 z z) (wv (.bool false) z z z (wz z z z z z z (wz z z z z z z (wz z z z z z z (wz z z z z z z (wz z z z z z z (wz z z z z z z ?_))))))))))))
 refine wv (.bool false) z z (x_pick_f z z z) (wv (.bool false) z z z (wz z z z z z z (wz z z z z z z (wz z z z z z z (wz z z z z z z (wz z z z z z z (wv (.bool false) z z (x_pick_f z z z) (wv (.bool false) z z z (wz z z z z z z (wz z z z z z z (wz z z z z z z (wz z z z z z z ?_))))))))))))
 refine wz z z z z z z (wv (.bool false) z z (x_pick_f z z z) (wv (.bool false) z z z (wl_nil (tn (wp_ret ?_)))))
 obtain rfl := some_inj hm
 refine post_ret (vs := [.bool false]) results57 (rvs_cons (rv_tmp z) rvs_nil) ?_
 exact ⟨z, hst.keep0⟩
}
}
 {
 replace hm := bif_f hc453 hm
 refine wo hc453 z z z z z z (wo hc453 z z z z z z (wo hc453 z z z z z z (wo hc453 z z z z z z (wo hc453 z z z z z z (wv (.bool false) z z (x_pick_f hc453 z z) (wv (.bool false) z z z (wz z z z z z z (wz z z z z z z (wz z z z z z z (wz z z z z z z (wz z z z z z z (wv (.bool false) z z (x_pick_f z z z) ?_))))))))))))
 refine wv (.bool false) z z z (wz z z z z z z (wz z z z z z z (wz z z z z z z (wz z z z z z z (wz z z z z z z (wz z z z z z z (wv (.bool false) z z (x_pick_f z z z) (wv (.bool false) z z z (wz z z z z z z (wz z z z z z z (wz z z z z z z (wz z z z z z z ?_))))))))))))
 refine wz z z z z z z (wv (.bool false) z z (x_pick_f z z z) (wv (.bool false) z z z (wz z z z z z z (wz z z z z z z (wz z z z z z z (wz z z z z z z (wz z z z z z z (wv (.bool false) z z (x_pick_f z z z) (wv (.bool false) z z z (wl_nil (tn (wp_ret ?_))))))))))))
 obtain rfl := some_inj hm
 refine post_ret (vs := [.bool false]) results57 (rvs_cons (rv_tmp z) rvs_nil) ?_
 exact ⟨z, hst.keep0⟩
}
}

theorem number_Within_ref {w0 w : World} {I : HL} {R : SP} {a0 : Nat} {a1 : Nat} {a2 : Nat}  (hst : St w0 w I [] R) {r : (Bool)} (hm : number_Within a0 a1 a2 = some r) :
  Calls prog 215 #[F6 a0, F6 a1, F6 a2] w fun e w' => e = .returned (.bool r) ∧ St w0 w' I [] R := by {
 unfold number_Within at hm
 refine calls_start (args := [F6 a0, F6 a1, F6 a2]) func215 z ntmps215 (Nat.le_of_ble_eq_true z) ?_
 refine wp_seq (wrl (wv (.bool false) z z z (wl_nil (tn (wp_seq (wrl (wv (.float .f64 a1) z z z ?_)))))))
 obtain ⟨t331, ht332, hm⟩ := bind_some hm
 refine wc call118 [F6 a1] z z z ?_
 refine (number_Rank_ref hst.to0 ht332).mono ?_
 rintro _ w333 ⟨rfl, hst⟩
 refine ⟨_, z, ?_⟩
 replace hst := hst.of0
 refine wv (.float .f64 a0) z z z ?_
 obtain ⟨t336, ht337, hm⟩ := bind_some hm
 refine wc call118 [F6 a0] z z z ?_
 refine (number_Rank_ref hst.to0 ht337).mono ?_
 rintro _ w338 ⟨rfl, hst⟩
 refine ⟨_, z, ?_⟩
 replace hst := hst.of0
 refine wv (.bool (decide (t331 ≤ t336))) z z z (wv (.bool (decide (t331 ≤ t336))) z z z ?_)
 refine bsplit (decide (t331 ≤ t336)) (fun hc341 => ?_) (fun hc341 => ?_)
 {
 replace hm := bif_t hc341 hm
 refine wv (.float .f64 a0) ((wanted_eq z z z (cvb hc341)).trans z) z z ?_
 obtain ⟨t342, ht343, hm⟩ := bind_some hm
 refine wl_call ((wanted_eq z z z (cvb hc341)).trans z) z (x_call call118 z (vs := [F6 a0]) z) ?_
 refine (number_Rank_ref hst.to0 ht343).mono ?_
 rintro _ w344 ⟨rfl, hst⟩
 refine ⟨_, z, ?_⟩
 replace hst := hst.of0
 refine wv (.float .f64 a2) ((wanted_eq z z z (cvb hc341)).trans z) z z ?_
 obtain ⟨t347, ht348, hm⟩ := bind_some hm
 refine wl_call ((wanted_eq z z z (cvb hc341)).trans z) z (x_call call118 z (vs := [F6 a2]) z) ?_
 refine (number_Rank_ref hst.to0 ht348).mono ?_
 rintro _ w349 ⟨rfl, hst⟩
 refine ⟨_, z, ?_⟩
 replace hst := hst.of0
 refine wv (.bool (decide (t342 ≤ t347))) ((wanted_eq z z z (cvb hc341)).trans z) z z (wv (.bool (decide (t342 ≤ t347))) z z (x_pick_t hc341 z z) (wv (.bool (decide (t342 ≤ t347))) z z z (wl_nil (tn (wp_ret ?_)))))
 obtain rfl := some_inj hm
 refine post_ret (vs := [.bool (decide (t342 ≤ t347))]) results215 (rvs_cons (rv_tmp z) rvs_nil) ?_
 exact ⟨z, hst.keep0⟩
}
 {
 replace hm := bif_f hc341 hm
 refine wo hc341 z z z z z z (wo hc341 z z z z z z (wo hc341 z z z z z z (wo hc341 z z z z z z (wo hc341 z z z z z z (wv (.bool false) z z (x_pick_f hc341 z z) (wv (.bool false) z z z (wl_nil (tn (wp_ret ?_)))))))))
 obtain rfl := some_inj hm
 refine post_ret (vs := [.bool false]) results215 (rvs_cons (rv_tmp z) rvs_nil) ?_
 exact ⟨z, hst.keep0⟩
}
}

theorem locks_writes_ref {w0 w : World} {I : HL} {R : SP} {a0 : api_Hold} {r0_0 : Value} {r0_1 : Value} {r0_2 : Value} {r0_3 : Value} {a1 : Nat} {a2 : Nat} (f0_0 : Rd tyF64 R I r0_0 a0.Gets) (f0_1 : Rd tyF2 R I r0_1 a0.Scans) (f0_2 : Rd tyF64 R I r0_2 a0.Puts) (f0_3 : Rd (tyInt .u8) R I r0_3 a0.Data) (hst : St w0 w I [] R) {r : (Bool)} (hm : locks_writes a0 a1 a2 = some r) :
  Calls prog 194 #[.agg #[U6 a0.ID.Session, U6 a0.ID.Seq, U6 a0.Epoch, r0_0, r0_1, r0_2, r0_3], F6 a1, F6 a2] w fun e w' => e = .returned (.bool r) ∧ St w0 w' I [] R := by {
 unfold locks_writes at hm
 refine calls_start (args := [.agg #[U6 a0.ID.Session, U6 a0.ID.Seq, U6 a0.Epoch, r0_0, r0_1, r0_2, r0_3], F6 a1, F6 a2]) func194 z ntmps194 (Nat.le_of_ble_eq_true z) ?_
 refine wp_seq (wrl ?_)
 obtain ⟨b379, w380, ew381, eb382, hst⟩ := hst.box [U6 a0.ID.Session, U6 a0.ID.Seq, U6 a0.Epoch, r0_0, r0_1, r0_2, r0_3] 46
 refine wl_run (v := Pt b379 0) (w' := w380) z z (x_al (by kernel_rfl) ew381 eb382) ?_
 obtain ⟨b384, w385, ew386, eb387, hst⟩ := hst.box [F6 a1] 37
 refine wl_run (v := Pt b384 0) (w' := w385) z z (x_al (by kernel_rfl) ew386 eb387) ?_
 obtain ⟨b389, w390, ew391, eb392, hst⟩ := hst.box [F6 a2] 37
 refine wl_run (v := Pt b389 0) (w' := w390) z z (x_al (by kernel_rfl) ew391 eb392) ?_
 refine wv (.bool false) z z z (wl_nil (tn (wp_seq (wrl (wv (Pt b379 5) z z (x_field z underlying46 z sizeOf43 z) (wv (r0_2) z z (x_load z isAgg43 (hst.bc2 z)) (wv (.func (.func 214) #[] #[Pt b384 0, Pt b389 0]) z z (by kernel_rfl) ?_)))))))
 obtain ⟨y462, hq463, hm⟩ := bind_some hm
 refine wl_call z z (x_callv call213 (caps := []) z (vs := [r0_2, .func (.func 214) #[] #[Pt b384 0, Pt b389 0]]) z) ?_
 refine Calls.mono (show Calls prog 213 #[r0_2, .func (.func 214) #[] #[Pt b384 0, Pt b389 0]] _ (fun e w' => ∃ (z460 : Bool), z460 = y462 ∧ e = .returned (.bool z460) ∧ St w0 w' I [cells b379 [U6 a0.ID.Session, U6 a0.ID.Seq, U6 a0.Epoch, r0_0, r0_1, r0_2, r0_3], cells b384 [F6 a1], cells b389 [F6 a2]] R) from ?_) ?_
 {
 clear hm; have hm := hq463
 refine calls_start (args := [r0_2, .func (.func 214) #[] #[Pt b384 0, Pt b389 0]]) func213 z ntmps213 (Nat.le_of_ble_eq_true z) ?_
 refine wp_seq (wrl (wv (.bool false) z z z (wl_nil (tn (wp_seq (wrl (wv (r0_2) z z z (wv (.func (.func 214) #[] #[Pt b384 0, Pt b389 0]) z z z ?_))))))))
 obtain ⟨y457, hq458, hm⟩ := bind_some hm
 refine wl_call z z (x_callv call228 (caps := []) z (vs := [r0_2, .func (.func 214) #[] #[Pt b384 0, Pt b389 0]]) z) ?_
 refine Calls.mono (show Calls prog 228 #[r0_2, .func (.func 214) #[] #[Pt b384 0, Pt b389 0]] _ (fun e w' => ∃ (z455 : Int), z455 = y457 ∧ e = .returned (.int .i64 z455) ∧ St w0 w' I [cells b379 [U6 a0.ID.Session, U6 a0.ID.Seq, U6 a0.Epoch, r0_0, r0_1, r0_2, r0_3], cells b384 [F6 a1], cells b389 [F6 a2]] R) from ?_) ?_
 {
 clear hm; have hm := hq458
 refine calls_start (args := [r0_2, .func (.func 214) #[] #[Pt b384 0, Pt b389 0]]) func228 z ntmps228 (Nat.le_of_ble_eq_true z) ?_
 refine wp_seq (wrl (wv (.int .i64 (0:Int)) z z z (wl_nil (tn (wp_seq (wp_seq (wrl (wv (r0_2) z z z (wv (.int .i64 ((a0.Puts).length : Int)) z z (x_len z underlying43 (rd_sliceV f0_2)) (wv (.int .i64 (0:Int)) z z z (wl_nil (tn (wp_block ?_)))))))))))))
 obtain ⟨n431, hm⟩ := loopO_some hm
 refine wp_loop_n (fun n a w => ∃ (z429 : Int) (σ430 : Nat → Value), loopN (locks_writes_l0 a0 a1 a2) n z429 = some y457 ∧ a = Fr 19 (upd (upd (upd (upd σ430 0 (r0_2)) 1 (.func (.func 214) #[] #[Pt b384 0, Pt b389 0])) 7 (.int .i64 ((a0.Puts).length : Int))) 8 (.int .i64 z429)) ∧ St w0 w I [cells b389 [F6 a2], cells b384 [F6 a1], cells b379 [U6 a0.ID.Session, U6 a0.ID.Seq, U6 a0.Epoch, r0_0, r0_1, r0_2, r0_3]] R) n431 ⟨(0:Int), _, hm, (fu 0 r0_2 z (fu 1 (.func (.func 214) #[] #[Pt b384 0, Pt b389 0]) z (fu 7 (.int .i64 ((a0.Puts).length : Int)) z (fu 8 (.int .i64 (0:Int)) z z)))), hst⟩ ?_
 rintro n437 _ w432 ⟨z429, σ430, hm, rfl, hst⟩
 obtain ⟨n434, y435, rfl, hm, hx436⟩ := loopN_some hm
 dsimp only [locks_writes_l0] at hm
 refine wp_seq (wrl (wv (.bool (decide (z429 < ((a0.Puts).length : Int)))) z z z (wl_nil (tn (wp_seq ?_)))))
 refine bsplit (decide (z429 < ((a0.Puts).length : Int))) (fun hc438 => ?_) (fun hc438 => ?_)
 {
 replace hm := bif_t hc438 hm
 refine wp_ift (cvb hc438) ?_
 refine wp_skip (tn (wp_seq (wp_block (wp_seq (wrl ?_)))))
 refine wv (.int .i64 z429) z z z (wv (.int .i64 z429) z z z (wl_nil (tn (wp_seq (wrl (wv (.func (.func 214) #[] #[Pt b384 0, Pt b389 0]) z z z (wv (r0_2) z z z (wv (.int .i64 z429) z z z ?_))))))))
 obtain ⟨x439, hx440, hm⟩ := bind_some hm
 obtain ⟨h441, h442, hi443⟩ := geto_some hx440
 refine wv (.pointer (some (eAddr r0_2 (z429.toNat * 1 + 0)))) z z (x_index z z underlying43 sizeOf37 (rd_sliceV f0_2) h441 h442) (wv (.float .f64 x439) z z (x_load z isAgg37 (rd_load f0_2 (HL.le.refl _) hst hi443 (by rintro _ rfl; rfl))) ?_)
 obtain ⟨y451, hq452, hm⟩ := bind_some hm
 refine wl_call z z (x_callv call214 (caps := [Pt b384 0, Pt b389 0]) z (vs := [F6 x439]) z) ?_
 refine Calls.mono (show Calls prog 214 #[F6 x439, Pt b384 0, Pt b389 0] _ (fun e w' => ∃ (z449 : Bool), z449 = y451 ∧ e = .returned (.bool z449) ∧ St w0 w' I [cells b379 [U6 a0.ID.Session, U6 a0.ID.Seq, U6 a0.Epoch, r0_0, r0_1, r0_2, r0_3], cells b384 [F6 a1], cells b389 [F6 a2]] R) from ?_) ?_
 {
 clear hm; have hm := hq452
 refine calls_start (args := [F6 x439, Pt b384 0, Pt b389 0]) func214 z ntmps214 (Nat.le_of_ble_eq_true z) ?_
 refine wp_seq (wrl (wv (.bool false) z z z (wl_nil (tn (wp_seq (wrl (wv (.float .f64 x439) z z z (wv (.float .f64 a1) z z (x_load z isAgg37 (hst.bc1 z)) (wv (.float .f64 a2) z z (x_load z isAgg37 (hst.bc0 z)) ?_)))))))))
 obtain ⟨t444, ht445, hm⟩ := bind_some hm
 refine wc call215 [F6 x439, F6 a1, F6 a2] z z z ?_
 refine (number_Within_ref hst.to0 ht445).mono ?_
 rintro _ w446 ⟨rfl, hst⟩
 refine ⟨_, z, ?_⟩
 replace hst := hst.of0
 refine wv (.bool t444) z z z (wl_nil (tn (wp_ret ?_)))
 refine post_ret (vs := [.bool t444]) results214 (rvs_cons (rv_tmp z) rvs_nil) ?_
 replace hst := hst.pull1.pull2.keep3
 obtain rfl := some_inj hm
 exact ⟨t444, z, z, hst⟩
}
 clear hst
 rintro _ w453 ⟨z449, rfl, rfl, hst⟩
 refine ⟨_, z, ?_⟩
 try dsimp only at hm
 refine wl_nil (tn ?_)
 refine bsplit z449 (fun hc454 => ?_) (fun hc454 => ?_)
 {
 replace hm := bif_t hc454 hm
 refine wp_ift (cvb hc454) ?_
 refine wp_seq (wrl (wv (.int .i64 z429) z z z (wv (.int .i64 z429) z z z (wl_nil (tn (wp_ret (blk_r (then_r (then_r ?_)))))))))
 replace hm := inr_up hm hx436
 refine blk_r (then_r ?_)
 refine post_ret (vs := [I6 z429]) results228 (rvs_cons (rv_tmp z) rvs_nil) ?_
 replace hst := hst.pull2.pull2.pull2.keep3
 obtain rfl := some_inj hm
 exact ⟨z429, z, z, hst⟩
}
 {
 replace hm := bif_f hc454 hm
 refine wp_iff (cvb hc454) ?_
 refine wp_skip (blk_n (tn (wrl ?_)))
 refine wv (.int .i64 (i64.wrap (z429 + (1:Int)))) z z z (wv (.int .i64 (i64.wrap (z429 + (1:Int)))) z z z (wl_nil (tn ?_)))
 replace hst := hst.pull1.pull2.keep3
 obtain rfl := some_inj hm
 exact ⟨_, Nat.lt_succ_self _, (i64.wrap (z429 + (1:Int))), _, hx436, (fu 0 r0_2 z (fu 1 (.func (.func 214) #[] #[Pt b384 0, Pt b389 0]) z (fu 7 (.int .i64 ((a0.Puts).length : Int)) z (fu 8 (.int .i64 (i64.wrap (z429 + (1:Int)))) z z)))), hst⟩
}
}
 {
 replace hm := bif_f hc438 hm
 refine wp_iff (cvb hc438) ?_
 refine wp_exit (then_x (then_x ?_))
 replace hm := inr_up hm hx436
 refine blk_x (tn (wp_seq (wrl ?_)))
 refine wv (.int .i64 ((-1):Int)) z z z (wl_nil (tn (wp_ret ?_)))
 refine post_ret (vs := [I6 ((-1):Int)]) results228 (rvs_cons (rv_tmp z) rvs_nil) ?_
 replace hst := hst.pull1.pull2.keep3
 obtain rfl := some_inj hm
 exact ⟨((-1):Int), z, z, hst⟩
}
}
 clear hst
 rintro _ w459 ⟨z455, rfl, rfl, hst⟩
 refine ⟨_, z, ?_⟩
 try dsimp only at hm
 refine wv (.bool (decide (z455 ≥ (0:Int)))) z z z (wv (.bool (decide (z455 ≥ (0:Int)))) z z z (wl_nil (tn (wp_ret ?_))))
 refine post_ret (vs := [.bool (decide (z455 ≥ (0:Int)))]) results213 (rvs_cons (rv_tmp z) rvs_nil) ?_
 replace hst := hst.pull2.pull2.pull2.keep3
 obtain rfl := some_inj hm
 exact ⟨(decide (z455 ≥ (0:Int))), z, z, hst⟩
}
 clear hst
 rintro _ w464 ⟨z460, rfl, rfl, hst⟩
 refine ⟨_, z, ?_⟩
 try dsimp only at hm
 refine wv (.bool z460) z z z (wl_nil (tn (wp_ret ?_)))
 obtain rfl := some_inj hm
 refine post_ret (vs := [.bool z460]) results194 (rvs_cons (rv_tmp z) rvs_nil) ?_
 exact ⟨z, hst.keep0⟩
}

theorem locks_reads_ref {w0 w : World} {I : HL} {R : SP} {a0 : api_Hold} {r0_0 : Value} {r0_1 : Value} {r0_2 : Value} {r0_3 : Value} {a1 : Nat} (f0_0 : Rd tyF64 R I r0_0 a0.Gets) (f0_1 : Rd tyF2 R I r0_1 a0.Scans) (f0_2 : Rd tyF64 R I r0_2 a0.Puts) (f0_3 : Rd (tyInt .u8) R I r0_3 a0.Data) (hst : St w0 w I [] R) {r : (Bool)} (hm : locks_reads a0 a1 = some r) :
  Calls prog 195 #[.agg #[U6 a0.ID.Session, U6 a0.ID.Seq, U6 a0.Epoch, r0_0, r0_1, r0_2, r0_3], F6 a1] w fun e w' => e = .returned (.bool r) ∧ St w0 w' I [] R := by {
 unfold locks_reads at hm
 refine calls_start (args := [.agg #[U6 a0.ID.Session, U6 a0.ID.Seq, U6 a0.Epoch, r0_0, r0_1, r0_2, r0_3], F6 a1]) func195 z ntmps195 (Nat.le_of_ble_eq_true z) ?_
 refine wp_seq (wrl ?_)
 obtain ⟨b467, w468, ew469, eb470, hst⟩ := hst.box [U6 a0.ID.Session, U6 a0.ID.Seq, U6 a0.Epoch, r0_0, r0_1, r0_2, r0_3] 46
 refine wl_run (v := Pt b467 0) (w' := w468) z z (x_al (by kernel_rfl) ew469 eb470) ?_
 obtain ⟨b472, w473, ew474, eb475, hst⟩ := hst.box [F6 a1] 37
 refine wl_run (v := Pt b472 0) (w' := w473) z z (x_al (by kernel_rfl) ew474 eb475) ?_
 refine wv (.bool false) z z z (wl_nil (tn (wp_seq (wrl (wv (Pt b467 3) z z (x_field z underlying46 z sizeOf43 z) (wv (r0_0) z z (x_load z isAgg43 (hst.bc1 z)) (wv (.func (.func 216) #[] #[Pt b472 0]) z z (by kernel_rfl) ?_)))))))
 obtain ⟨y545, hq546, hm⟩ := bind_some hm
 refine wl_call z z (x_callv call213 (caps := []) z (vs := [r0_0, .func (.func 216) #[] #[Pt b472 0]]) z) ?_
 refine Calls.mono (show Calls prog 213 #[r0_0, .func (.func 216) #[] #[Pt b472 0]] _ (fun e w' => ∃ (z543 : Bool), z543 = y545 ∧ e = .returned (.bool z543) ∧ St w0 w' I [cells b467 [U6 a0.ID.Session, U6 a0.ID.Seq, U6 a0.Epoch, r0_0, r0_1, r0_2, r0_3], cells b472 [F6 a1]] R) from ?_) ?_
 {
 clear hm; have hm := hq546
 refine calls_start (args := [r0_0, .func (.func 216) #[] #[Pt b472 0]]) func213 z ntmps213 (Nat.le_of_ble_eq_true z) ?_
 refine wp_seq (wrl (wv (.bool false) z z z (wl_nil (tn (wp_seq (wrl (wv (r0_0) z z z (wv (.func (.func 216) #[] #[Pt b472 0]) z z z ?_))))))))
 obtain ⟨y540, hq541, hm⟩ := bind_some hm
 refine wl_call z z (x_callv call228 (caps := []) z (vs := [r0_0, .func (.func 216) #[] #[Pt b472 0]]) z) ?_
 refine Calls.mono (show Calls prog 228 #[r0_0, .func (.func 216) #[] #[Pt b472 0]] _ (fun e w' => ∃ (z538 : Int), z538 = y540 ∧ e = .returned (.int .i64 z538) ∧ St w0 w' I [cells b467 [U6 a0.ID.Session, U6 a0.ID.Seq, U6 a0.Epoch, r0_0, r0_1, r0_2, r0_3], cells b472 [F6 a1]] R) from ?_) ?_
 {
 clear hm; have hm := hq541
 refine calls_start (args := [r0_0, .func (.func 216) #[] #[Pt b472 0]]) func228 z ntmps228 (Nat.le_of_ble_eq_true z) ?_
 refine wp_seq (wrl (wv (.int .i64 (0:Int)) z z z (wl_nil (tn (wp_seq (wp_seq (wrl (wv (r0_0) z z z (wv (.int .i64 ((a0.Gets).length : Int)) z z (x_len z underlying43 (rd_sliceV f0_0)) (wv (.int .i64 (0:Int)) z z z (wl_nil (tn (wp_block ?_)))))))))))))
 obtain ⟨n514, hm⟩ := loopO_some hm
 refine wp_loop_n (fun n a w => ∃ (z512 : Int) (σ513 : Nat → Value), loopN (locks_reads_l0 a0 a1) n z512 = some y540 ∧ a = Fr 19 (upd (upd (upd (upd σ513 0 (r0_0)) 1 (.func (.func 216) #[] #[Pt b472 0])) 7 (.int .i64 ((a0.Gets).length : Int))) 8 (.int .i64 z512)) ∧ St w0 w I [cells b472 [F6 a1], cells b467 [U6 a0.ID.Session, U6 a0.ID.Seq, U6 a0.Epoch, r0_0, r0_1, r0_2, r0_3]] R) n514 ⟨(0:Int), _, hm, (fu 0 r0_0 z (fu 1 (.func (.func 216) #[] #[Pt b472 0]) z (fu 7 (.int .i64 ((a0.Gets).length : Int)) z (fu 8 (.int .i64 (0:Int)) z z)))), hst⟩ ?_
 rintro n520 _ w515 ⟨z512, σ513, hm, rfl, hst⟩
 obtain ⟨n517, y518, rfl, hm, hx519⟩ := loopN_some hm
 dsimp only [locks_reads_l0] at hm
 refine wp_seq (wrl (wv (.bool (decide (z512 < ((a0.Gets).length : Int)))) z z z (wl_nil (tn (wp_seq ?_)))))
 refine bsplit (decide (z512 < ((a0.Gets).length : Int))) (fun hc521 => ?_) (fun hc521 => ?_)
 {
 replace hm := bif_t hc521 hm
 refine wp_ift (cvb hc521) ?_
 refine wp_skip (tn (wp_seq (wp_block (wp_seq (wrl ?_)))))
 refine wv (.int .i64 z512) z z z (wv (.int .i64 z512) z z z (wl_nil (tn (wp_seq (wrl (wv (.func (.func 216) #[] #[Pt b472 0]) z z z (wv (r0_0) z z z (wv (.int .i64 z512) z z z ?_))))))))
 obtain ⟨x522, hx523, hm⟩ := bind_some hm
 obtain ⟨h524, h525, hi526⟩ := geto_some hx523
 refine wv (.pointer (some (eAddr r0_0 (z512.toNat * 1 + 0)))) z z (x_index z z underlying43 sizeOf37 (rd_sliceV f0_0) h524 h525) (wv (.float .f64 x522) z z (x_load z isAgg37 (rd_load f0_0 (HL.le.refl _) hst hi526 (by rintro _ rfl; rfl))) ?_)
 obtain ⟨y534, hq535, hm⟩ := bind_some hm
 refine wl_call z z (x_callv call216 (caps := [Pt b472 0]) z (vs := [F6 x522]) z) ?_
 refine Calls.mono (show Calls prog 216 #[F6 x522, Pt b472 0] _ (fun e w' => ∃ (z532 : Bool), z532 = y534 ∧ e = .returned (.bool z532) ∧ St w0 w' I [cells b467 [U6 a0.ID.Session, U6 a0.ID.Seq, U6 a0.Epoch, r0_0, r0_1, r0_2, r0_3], cells b472 [F6 a1]] R) from ?_) ?_
 {
 clear hm; have hm := hq535
 refine calls_start (args := [F6 x522, Pt b472 0]) func216 z ntmps216 (Nat.le_of_ble_eq_true z) ?_
 refine wp_seq (wrl (wv (.bool false) z z z (wl_nil (tn (wp_seq (wrl (wv (.float .f64 a1) z z (x_load z isAgg37 (hst.bc0 z)) (wv (.float .f64 x522) z z z ?_))))))))
 obtain ⟨t527, ht528, hm⟩ := bind_some hm
 refine wc call137 [F6 a1, F6 x522] z z z ?_
 refine (number_Same_ref hst.to0 ht528).mono ?_
 rintro _ w529 ⟨rfl, hst⟩
 refine ⟨_, z, ?_⟩
 replace hst := hst.of0
 refine wv (.bool t527) z z z (wl_nil (tn (wp_ret ?_)))
 refine post_ret (vs := [.bool t527]) results216 (rvs_cons (rv_tmp z) rvs_nil) ?_
 replace hst := hst.pull1.keep2
 obtain rfl := some_inj hm
 exact ⟨t527, z, z, hst⟩
}
 clear hst
 rintro _ w536 ⟨z532, rfl, rfl, hst⟩
 refine ⟨_, z, ?_⟩
 try dsimp only at hm
 refine wl_nil (tn ?_)
 refine bsplit z532 (fun hc537 => ?_) (fun hc537 => ?_)
 {
 replace hm := bif_t hc537 hm
 refine wp_ift (cvb hc537) ?_
 refine wp_seq (wrl (wv (.int .i64 z512) z z z (wv (.int .i64 z512) z z z (wl_nil (tn (wp_ret (blk_r (then_r (then_r ?_)))))))))
 replace hm := inr_up hm hx519
 refine blk_r (then_r ?_)
 refine post_ret (vs := [I6 z512]) results228 (rvs_cons (rv_tmp z) rvs_nil) ?_
 replace hst := hst.pull1.pull1.keep2
 obtain rfl := some_inj hm
 exact ⟨z512, z, z, hst⟩
}
 {
 replace hm := bif_f hc537 hm
 refine wp_iff (cvb hc537) ?_
 refine wp_skip (blk_n (tn (wrl ?_)))
 refine wv (.int .i64 (i64.wrap (z512 + (1:Int)))) z z z (wv (.int .i64 (i64.wrap (z512 + (1:Int)))) z z z (wl_nil (tn ?_)))
 replace hst := hst.pull1.keep2
 obtain rfl := some_inj hm
 exact ⟨_, Nat.lt_succ_self _, (i64.wrap (z512 + (1:Int))), _, hx519, (fu 0 r0_0 z (fu 1 (.func (.func 216) #[] #[Pt b472 0]) z (fu 7 (.int .i64 ((a0.Gets).length : Int)) z (fu 8 (.int .i64 (i64.wrap (z512 + (1:Int)))) z z)))), hst⟩
}
}
 {
 replace hm := bif_f hc521 hm
 refine wp_iff (cvb hc521) ?_
 refine wp_exit (then_x (then_x ?_))
 replace hm := inr_up hm hx519
 refine blk_x (tn (wp_seq (wrl ?_)))
 refine wv (.int .i64 ((-1):Int)) z z z (wl_nil (tn (wp_ret ?_)))
 refine post_ret (vs := [I6 ((-1):Int)]) results228 (rvs_cons (rv_tmp z) rvs_nil) ?_
 replace hst := hst.pull1.keep2
 obtain rfl := some_inj hm
 exact ⟨((-1):Int), z, z, hst⟩
}
}
 clear hst
 rintro _ w542 ⟨z538, rfl, rfl, hst⟩
 refine ⟨_, z, ?_⟩
 try dsimp only at hm
 refine wv (.bool (decide (z538 ≥ (0:Int)))) z z z (wv (.bool (decide (z538 ≥ (0:Int)))) z z z (wl_nil (tn (wp_ret ?_))))
 refine post_ret (vs := [.bool (decide (z538 ≥ (0:Int)))]) results213 (rvs_cons (rv_tmp z) rvs_nil) ?_
 replace hst := hst.pull1.pull1.keep2
 obtain rfl := some_inj hm
 exact ⟨(decide (z538 ≥ (0:Int))), z, z, hst⟩
}
 clear hst
 rintro _ w547 ⟨z543, rfl, rfl, hst⟩
 refine ⟨_, z, ?_⟩
 try dsimp only at hm
 refine wv (.bool z543) z z z ?_
 refine bsplit z543 (fun hc548 => ?_) (fun hc548 => ?_)
 {
 replace hm := bif_t hc548 hm
 refine wo hc548 z z z z z z (wo hc548 z z z z z z (wo hc548 z z z z z z (wo hc548 z z z z z z (wv (.bool true) z z (x_pick_t hc548 z z) (wv (.bool true) z z z (wl_nil (tn (wp_ret ?_))))))))
 obtain rfl := some_inj hm
 refine post_ret (vs := [.bool true]) results195 (rvs_cons (rv_tmp z) rvs_nil) ?_
 exact ⟨z, hst.keep0⟩
}
 {
 replace hm := bif_f hc548 hm
 refine wv (Pt b467 4) ((wanted_eq z z z (cvb hc548)).trans z) z (x_field z underlying46 z sizeOf44 z) (wv (r0_1) ((wanted_eq z z z (cvb hc548)).trans z) z (x_load z isAgg44 (hst.bc0 z)) (wv (.func (.func 218) #[] #[Pt b472 0]) ((wanted_eq z z z (cvb hc548)).trans z) z (by kernel_rfl) ?_))
 obtain ⟨y632, hq633, hm⟩ := bind_some hm
 refine wl_call ((wanted_eq z z z (cvb hc548)).trans z) z (x_callv call217 (caps := []) z (vs := [r0_1, .func (.func 218) #[] #[Pt b472 0]]) z) ?_
 refine Calls.mono (show Calls prog 217 #[r0_1, .func (.func 218) #[] #[Pt b472 0]] _ (fun e w' => ∃ (z630 : Bool), z630 = y632 ∧ e = .returned (.bool z630) ∧ St w0 w' I [cells b467 [U6 a0.ID.Session, U6 a0.ID.Seq, U6 a0.Epoch, r0_0, r0_1, r0_2, r0_3], cells b472 [F6 a1]] R) from ?_) ?_
 {
 clear hm; have hm := hq633
 refine calls_start (args := [r0_1, .func (.func 218) #[] #[Pt b472 0]]) func217 z ntmps217 (Nat.le_of_ble_eq_true z) ?_
 refine wp_seq (wrl (wv (.bool false) z z z (wl_nil (tn (wp_seq (wrl (wv (r0_1) z z z (wv (.func (.func 218) #[] #[Pt b472 0]) z z z ?_))))))))
 obtain ⟨y627, hq628, hm⟩ := bind_some hm
 refine wl_call z z (x_callv call229 (caps := []) z (vs := [r0_1, .func (.func 218) #[] #[Pt b472 0]]) z) ?_
 refine Calls.mono (show Calls prog 229 #[r0_1, .func (.func 218) #[] #[Pt b472 0]] _ (fun e w' => ∃ (z625 : Int), z625 = y627 ∧ e = .returned (.int .i64 z625) ∧ St w0 w' I [cells b467 [U6 a0.ID.Session, U6 a0.ID.Seq, U6 a0.Epoch, r0_0, r0_1, r0_2, r0_3], cells b472 [F6 a1]] R) from ?_) ?_
 {
 clear hm; have hm := hq628
 refine calls_start (args := [r0_1, .func (.func 218) #[] #[Pt b472 0]]) func229 z ntmps229 (Nat.le_of_ble_eq_true z) ?_
 refine wp_seq (wrl (wv (.int .i64 (0:Int)) z z z (wl_nil (tn (wp_seq (wp_seq (wrl (wv (r0_1) z z z (wv (.int .i64 ((a0.Scans).length : Int)) z z (x_len z underlying44 (rd_sliceV f0_1)) (wv (.int .i64 (0:Int)) z z z (wl_nil (tn (wp_block ?_)))))))))))))
 obtain ⟨n596, hm⟩ := loopO_some hm
 refine wp_loop_n (fun n a w => ∃ (z594 : Int) (σ595 : Nat → Value), loopN (locks_reads_l1 a0 a1) n z594 = some y627 ∧ a = Fr 19 (upd (upd (upd (upd σ595 0 (r0_1)) 1 (.func (.func 218) #[] #[Pt b472 0])) 7 (.int .i64 ((a0.Scans).length : Int))) 8 (.int .i64 z594)) ∧ St w0 w I [cells b467 [U6 a0.ID.Session, U6 a0.ID.Seq, U6 a0.Epoch, r0_0, r0_1, r0_2, r0_3], cells b472 [F6 a1]] R) n596 ⟨(0:Int), _, hm, (fu 0 r0_1 z (fu 1 (.func (.func 218) #[] #[Pt b472 0]) z (fu 7 (.int .i64 ((a0.Scans).length : Int)) z (fu 8 (.int .i64 (0:Int)) z z)))), hst⟩ ?_
 rintro n602 _ w597 ⟨z594, σ595, hm, rfl, hst⟩
 obtain ⟨n599, y600, rfl, hm, hx601⟩ := loopN_some hm
 dsimp only [locks_reads_l1] at hm
 refine wp_seq (wrl (wv (.bool (decide (z594 < ((a0.Scans).length : Int)))) z z z (wl_nil (tn (wp_seq ?_)))))
 refine bsplit (decide (z594 < ((a0.Scans).length : Int))) (fun hc603 => ?_) (fun hc603 => ?_)
 {
 replace hm := bif_t hc603 hm
 refine wp_ift (cvb hc603) ?_
 refine wp_skip (tn (wp_seq (wp_block (wp_seq (wrl ?_)))))
 refine wv (.int .i64 z594) z z z (wv (.int .i64 z594) z z z (wl_nil (tn (wp_seq (wrl (wv (.func (.func 218) #[] #[Pt b472 0]) z z z (wv (r0_1) z z z (wv (.int .i64 z594) z z z ?_))))))))
 obtain ⟨x604, hx605, hm⟩ := bind_some hm
 obtain ⟨h606, h607, hi608⟩ := geto_some hx605
 refine wv (.pointer (some (eAddr r0_1 (z594.toNat * 2 + 0)))) z z (x_index z z underlying44 sizeOf80 (rd_sliceV f0_1) h606 h607) (wv (.agg #[F6 x604.1, F6 x604.2]) z z (x_loadN (cs := [F6 x604.1, F6 x604.2]) z isAgg80 sizeOf80 (rd_loadN f0_1 (HL.le.refl _) hst hi608 0 (by rintro _ rfl; rfl))) ?_)
 obtain ⟨y621, hq622, hm⟩ := bind_some hm
 refine wl_call z z (x_callv call218 (caps := [Pt b472 0]) z (vs := [.agg #[F6 x604.1, F6 x604.2]]) z) ?_
 refine Calls.mono (show Calls prog 218 #[.agg #[F6 x604.1, F6 x604.2], Pt b472 0] _ (fun e w' => ∃ (z619 : Bool), z619 = y621 ∧ e = .returned (.bool z619) ∧ St w0 w' I [cells b467 [U6 a0.ID.Session, U6 a0.ID.Seq, U6 a0.Epoch, r0_0, r0_1, r0_2, r0_3], cells b472 [F6 a1]] R) from ?_) ?_
 {
 clear hm; have hm := hq622
 refine calls_start (args := [.agg #[F6 x604.1, F6 x604.2], Pt b472 0]) func218 z ntmps218 (Nat.le_of_ble_eq_true z) ?_
 refine wp_seq (wrl ?_)
 obtain ⟨b609, w610, ew611, eb612, hst⟩ := hst.box [F6 x604.1, F6 x604.2] 80
 refine wl_run (v := Pt b609 0) (w' := w610) z z (x_al (by kernel_rfl) ew611 eb612) ?_
 refine wv (.bool false) z z z (wl_nil (tn (wp_seq (wrl (wv (.float .f64 a1) z z (x_load z isAgg37 (hst.bc2 z)) (wv (Pt b609 0) z z (x_index_arr (i := (0:Int)) z z underlying80 sizeOf37 (by decide) (by decide)) (wv (.float .f64 x604.1) z z (x_load z isAgg37 (hst.bc0 z)) (wv (Pt b609 1) z z (x_index_arr (i := (1:Int)) z z underlying80 sizeOf37 (by decide) (by decide)) (wv (.float .f64 x604.2) z z (x_load z isAgg37 (hst.bc0 z)) ?_)))))))))
 obtain ⟨t614, ht615, hm⟩ := bind_some hm
 refine wc call215 [F6 a1, F6 x604.1, F6 x604.2] z z z ?_
 refine (number_Within_ref hst.to0 ht615).mono ?_
 rintro _ w616 ⟨rfl, hst⟩
 refine ⟨_, z, ?_⟩
 replace hst := hst.of0
 refine wv (.bool t614) z z z (wl_nil (tn (wp_ret ?_)))
 refine post_ret (vs := [.bool t614]) results218 (rvs_cons (rv_tmp z) rvs_nil) ?_
 replace hst := hst.pull2.pull2.keep2
 obtain rfl := some_inj hm
 exact ⟨t614, z, z, hst⟩
}
 clear hst
 rintro _ w623 ⟨z619, rfl, rfl, hst⟩
 refine ⟨_, z, ?_⟩
 try dsimp only at hm
 refine wl_nil (tn ?_)
 refine bsplit z619 (fun hc624 => ?_) (fun hc624 => ?_)
 {
 replace hm := bif_t hc624 hm
 refine wp_ift (cvb hc624) ?_
 refine wp_seq (wrl (wv (.int .i64 z594) z z z (wv (.int .i64 z594) z z z (wl_nil (tn (wp_ret (blk_r (then_r (then_r ?_)))))))))
 replace hm := inr_up hm hx601
 refine blk_r (then_r ?_)
 refine post_ret (vs := [I6 z594]) results229 (rvs_cons (rv_tmp z) rvs_nil) ?_
 replace hst := hst.pull1.pull1.keep2
 obtain rfl := some_inj hm
 exact ⟨z594, z, z, hst⟩
}
 {
 replace hm := bif_f hc624 hm
 refine wp_iff (cvb hc624) ?_
 refine wp_skip (blk_n (tn (wrl ?_)))
 refine wv (.int .i64 (i64.wrap (z594 + (1:Int)))) z z z (wv (.int .i64 (i64.wrap (z594 + (1:Int)))) z z z (wl_nil (tn ?_)))
 replace hst := hst.pull1.pull1.keep2
 obtain rfl := some_inj hm
 exact ⟨_, Nat.lt_succ_self _, (i64.wrap (z594 + (1:Int))), _, hx601, (fu 0 r0_1 z (fu 1 (.func (.func 218) #[] #[Pt b472 0]) z (fu 7 (.int .i64 ((a0.Scans).length : Int)) z (fu 8 (.int .i64 (i64.wrap (z594 + (1:Int)))) z z)))), hst⟩
}
}
 {
 replace hm := bif_f hc603 hm
 refine wp_iff (cvb hc603) ?_
 refine wp_exit (then_x (then_x ?_))
 replace hm := inr_up hm hx601
 refine blk_x (tn (wp_seq (wrl ?_)))
 refine wv (.int .i64 ((-1):Int)) z z z (wl_nil (tn (wp_ret ?_)))
 refine post_ret (vs := [I6 ((-1):Int)]) results229 (rvs_cons (rv_tmp z) rvs_nil) ?_
 replace hst := hst.pull1.pull1.keep2
 obtain rfl := some_inj hm
 exact ⟨((-1):Int), z, z, hst⟩
}
}
 clear hst
 rintro _ w629 ⟨z625, rfl, rfl, hst⟩
 refine ⟨_, z, ?_⟩
 try dsimp only at hm
 refine wv (.bool (decide (z625 ≥ (0:Int)))) z z z (wv (.bool (decide (z625 ≥ (0:Int)))) z z z (wl_nil (tn (wp_ret ?_))))
 refine post_ret (vs := [.bool (decide (z625 ≥ (0:Int)))]) results217 (rvs_cons (rv_tmp z) rvs_nil) ?_
 replace hst := hst.pull1.pull1.keep2
 obtain rfl := some_inj hm
 exact ⟨(decide (z625 ≥ (0:Int))), z, z, hst⟩
}
 clear hst
 rintro _ w634 ⟨z630, rfl, rfl, hst⟩
 refine ⟨_, z, ?_⟩
 try dsimp only at hm
 refine wv (.bool z630) z z (x_pick_f hc548 z z) (wv (.bool z630) z z z (wl_nil (tn (wp_ret ?_))))
 obtain rfl := some_inj hm
 refine post_ret (vs := [.bool z630]) results195 (rvs_cons (rv_tmp z) rvs_nil) ?_
 exact ⟨z, hst.keep0⟩
}
}

theorem locks_Meet_ref {w0 w : World} {I : HL} {R : SP} {a0 : api_Hold} {r0_0 : Value} {r0_1 : Value} {r0_2 : Value} {r0_3 : Value} {a1 : api_Hold} {r1_0 : Value} {r1_1 : Value} {r1_2 : Value} {r1_3 : Value} (f0_0 : Rd tyF64 R I r0_0 a0.Gets) (f0_1 : Rd tyF2 R I r0_1 a0.Scans) (f0_2 : Rd tyF64 R I r0_2 a0.Puts) (f0_3 : Rd (tyInt .u8) R I r0_3 a0.Data) (f1_0 : Rd tyF64 R I r1_0 a1.Gets) (f1_1 : Rd tyF2 R I r1_1 a1.Scans) (f1_2 : Rd tyF64 R I r1_2 a1.Puts) (f1_3 : Rd (tyInt .u8) R I r1_3 a1.Data) (hst : St w0 w I [] R) {r : (Bool)} (hm : locks_Meet a0 a1 = some r) :
  Calls prog 140 #[.agg #[U6 a0.ID.Session, U6 a0.ID.Seq, U6 a0.Epoch, r0_0, r0_1, r0_2, r0_3], .agg #[U6 a1.ID.Session, U6 a1.ID.Seq, U6 a1.Epoch, r1_0, r1_1, r1_2, r1_3]] w fun e w' => e = .returned (.bool r) ∧ St w0 w' I [] R := by {
 unfold locks_Meet at hm
 refine calls_start (args := [.agg #[U6 a0.ID.Session, U6 a0.ID.Seq, U6 a0.Epoch, r0_0, r0_1, r0_2, r0_3], .agg #[U6 a1.ID.Session, U6 a1.ID.Seq, U6 a1.Epoch, r1_0, r1_1, r1_2, r1_3]]) func140 z ntmps140 (Nat.le_of_ble_eq_true z) ?_
 refine wp_seq (wrl ?_)
 obtain ⟨b402, w403, ew404, eb405, hst⟩ := hst.box [U6 a0.ID.Session, U6 a0.ID.Seq, U6 a0.Epoch, r0_0, r0_1, r0_2, r0_3] 46
 refine wl_run (v := Pt b402 0) (w' := w403) z z (x_al (by kernel_rfl) ew404 eb405) ?_
 obtain ⟨b407, w408, ew409, eb410, hst⟩ := hst.box [U6 a1.ID.Session, U6 a1.ID.Seq, U6 a1.Epoch, r1_0, r1_1, r1_2, r1_3] 46
 refine wl_run (v := Pt b407 0) (w' := w408) z z (x_al (by kernel_rfl) ew409 eb410) ?_
 refine wv (.bool false) z z z (wl_nil (tn ?_))
 obtain ⟨y478, hm, hx479⟩ := joinO_some hm
 refine wp_cut (fun a w => ∃ (σ476 : Nat → Value), (locks_Meet_j0 a1 a0) () = some r ∧ a = Fr 37 (upd (upd σ476 2 (Pt b402 0)) 3 (Pt b407 0)) ∧ St w0 w I [cells b402 [U6 a0.ID.Session, U6 a0.ID.Seq, U6 a0.Epoch, r0_0, r0_1, r0_2, r0_3], cells b407 [U6 a1.ID.Session, U6 a1.ID.Seq, U6 a1.Epoch, r1_0, r1_1, r1_2, r1_3]] R) ?_ ?_
 {
 refine wp_seq (wrl (wv (Pt b402 5) z z (x_field z underlying46 z sizeOf43 z) (wv (r0_2) z z (x_load z isAgg43 (hst.bc1 z)) (wv (.int .i64 ((a0.Puts).length : Int)) z z (x_len z underlying43 (rd_sliceV f0_2)) (wv (.int .i64 (0:Int)) z z z (wl_nil (tn (wp_block ?_))))))))
 obtain ⟨n451, hm⟩ := loopO_some hm
 refine wp_loop_n (fun n a w => ∃ (z449 : Int) (σ450 : Nat → Value), loopN (locks_Meet_l1 a0 a1) n z449 = some y478 ∧ a = Fr 37 (upd (upd (upd (upd (upd σ450 2 (Pt b402 0)) 3 (Pt b407 0)) 10 (r0_2)) 11 (.int .i64 ((a0.Puts).length : Int))) 12 (.int .i64 z449)) ∧ St w0 w I [cells b407 [U6 a1.ID.Session, U6 a1.ID.Seq, U6 a1.Epoch, r1_0, r1_1, r1_2, r1_3], cells b402 [U6 a0.ID.Session, U6 a0.ID.Seq, U6 a0.Epoch, r0_0, r0_1, r0_2, r0_3]] R) n451 ⟨(0:Int), _, hm, (fu 2 (Pt b402 0) z (fu 3 (Pt b407 0) z (fu 10 r0_2 z (fu 11 (.int .i64 ((a0.Puts).length : Int)) z (fu 12 (.int .i64 (0:Int)) z z))))), hst⟩ ?_
 rintro n457 _ w452 ⟨z449, σ450, hm, rfl, hst⟩
 obtain ⟨n454, y455, rfl, hm, hx456⟩ := loopN_some hm
 dsimp only [locks_Meet_l1] at hm
 refine wp_seq (wrl (wv (.bool (decide (z449 < ((a0.Puts).length : Int)))) z z z (wl_nil (tn (wp_seq ?_)))))
 refine bsplit (decide (z449 < ((a0.Puts).length : Int))) (fun hc458 => ?_) (fun hc458 => ?_)
 {
 replace hm := bif_t hc458 hm
 refine wp_ift (cvb hc458) ?_
 refine wp_skip (tn (wp_seq (wp_block (wp_seq (wrl ?_)))))
 obtain ⟨x459, hx460, hm⟩ := bind_some hm
 obtain ⟨h461, h462, hi463⟩ := geto_some hx460
 refine wv (.pointer (some (eAddr r0_2 (z449.toNat * 1 + 0)))) z z (x_index z z underlying43 sizeOf37 (rd_sliceV f0_2) h461 h462) (wv (.float .f64 x459) z z (x_load z isAgg37 (rd_load f0_2 (HL.le.refl _) hst hi463 (by rintro _ rfl; rfl))) (wv (.float .f64 x459) z z z (wl_nil (tn (wp_seq (wrl (wv (.agg #[U6 a1.ID.Session, U6 a1.ID.Seq, U6 a1.Epoch, r1_0, r1_1, r1_2, r1_3]) z z (x_loadN (cs := [U6 a1.ID.Session, U6 a1.ID.Seq, U6 a1.Epoch, r1_0, r1_1, r1_2, r1_3]) z isAgg46 sizeOf46 (hst.bcs0 0 z)) (wv (.float .f64 x459) z z z (wv (.float .f64 x459) z z z ?_)))))))))
 obtain ⟨t464, ht465, hm⟩ := bind_some hm
 refine wc call194 [.agg #[U6 a1.ID.Session, U6 a1.ID.Seq, U6 a1.Epoch, r1_0, r1_1, r1_2, r1_3], F6 x459, F6 x459] z z z ?_
 refine (locks_writes_ref (f1_0.mono (rd_weak _)) (f1_1.mono (rd_weak _)) (f1_2.mono (rd_weak _)) (f1_3.mono (rd_weak _)) hst.to0 ht465).mono ?_
 rintro _ w466 ⟨rfl, hst⟩
 refine ⟨_, z, ?_⟩
 replace hst := hst.of0
 refine wv (.bool t464) z z z ?_
 refine bsplit t464 (fun hc469 => ?_) (fun hc469 => ?_)
 {
 replace hm := bif_t hc469 hm
 refine wo hc469 z z z z z z (wo hc469 z z z z z z (wo hc469 z z z z z z (wv (.bool true) z z (x_pick_t hc469 z z) (wl_nil (tn ?_)))))
 refine wp_ift z ?_
 refine wp_seq (wrl (wv (.bool true) z z z (wl_nil (tn (wp_ret (blk_r (then_r (then_r ?_))))))))
 replace hm := inr_up hm hx456
 refine blk_r (then_r ?_)
 replace hm := inr_up hm hx479
 obtain rfl := some_inj hm
 refine post_ret (vs := [.bool true]) results140 (rvs_cons (rv_tmp z) rvs_nil) ?_
 exact ⟨z, hst.keep0⟩
}
 {
 replace hm := bif_f hc469 hm
 refine wv (.agg #[U6 a1.ID.Session, U6 a1.ID.Seq, U6 a1.Epoch, r1_0, r1_1, r1_2, r1_3]) ((wanted_eq z z z (cvb hc469)).trans z) z (x_loadN (cs := [U6 a1.ID.Session, U6 a1.ID.Seq, U6 a1.Epoch, r1_0, r1_1, r1_2, r1_3]) z isAgg46 sizeOf46 (hst.bcs0 0 z)) (wv (.float .f64 x459) ((wanted_eq z z z (cvb hc469)).trans z) z z ?_)
 obtain ⟨t470, ht471, hm⟩ := bind_some hm
 refine wl_call ((wanted_eq z z z (cvb hc469)).trans z) z (x_call call195 z (vs := [.agg #[U6 a1.ID.Session, U6 a1.ID.Seq, U6 a1.Epoch, r1_0, r1_1, r1_2, r1_3], F6 x459]) z) ?_
 refine (locks_reads_ref (f1_0.mono (rd_weak _)) (f1_1.mono (rd_weak _)) (f1_2.mono (rd_weak _)) (f1_3.mono (rd_weak _)) hst.to0 ht471).mono ?_
 rintro _ w472 ⟨rfl, hst⟩
 refine ⟨_, z, ?_⟩
 replace hst := hst.of0
 refine wv (.bool t470) z z (x_pick_f hc469 z z) (wl_nil (tn ?_))
 refine bsplit t470 (fun hc475 => ?_) (fun hc475 => ?_)
 {
 replace hm := bif_t hc475 hm
 refine wp_ift (cvb hc475) ?_
 refine wp_seq (wrl (wv (.bool true) z z z (wl_nil (tn (wp_ret (blk_r (then_r (then_r ?_))))))))
 replace hm := inr_up hm hx456
 refine blk_r (then_r ?_)
 replace hm := inr_up hm hx479
 obtain rfl := some_inj hm
 refine post_ret (vs := [.bool true]) results140 (rvs_cons (rv_tmp z) rvs_nil) ?_
 exact ⟨z, hst.keep0⟩
}
 {
 replace hm := bif_f hc475 hm
 refine wp_iff (cvb hc475) ?_
 refine wp_skip (blk_n (tn (wrl ?_)))
 refine wv (.int .i64 (i64.wrap (z449 + (1:Int)))) z z z (wv (.int .i64 (i64.wrap (z449 + (1:Int)))) z z z (wl_nil (tn ?_)))
 replace hst := hst.pull1.pull1.keep2
 obtain rfl := some_inj hm
 exact ⟨_, Nat.lt_succ_self _, (i64.wrap (z449 + (1:Int))), _, hx456, (fu 2 (Pt b402 0) z (fu 3 (Pt b407 0) z (fu 10 r0_2 z (fu 11 (.int .i64 ((a0.Puts).length : Int)) z (fu 12 (.int .i64 (i64.wrap (z449 + (1:Int)))) z z))))), hst⟩
}
}
}
 {
 replace hm := bif_f hc458 hm
 refine wp_iff (cvb hc458) ?_
 refine wp_exit (then_x (then_x ?_))
 replace hm := inr_up hm hx456
 refine blk_x (tn ?_)
 replace hst := hst.pull1.keep2
 obtain rfl := some_inj hm
 exact ⟨_, hx479, (fu 2 (Pt b402 0) z (fu 3 (Pt b407 0) z z)), hst⟩
}
}
 {
 clear hst
 rintro _ w480 ⟨σ476, hm, rfl, hst⟩
 dsimp only [locks_Meet_j0] at hm
 refine wp_seq (wp_seq (wrl (wv (Pt b407 5) z z (x_field z underlying46 z sizeOf43 z) (wv (r1_2) z z (x_load z isAgg43 (hst.bc1 z)) (wv (.int .i64 ((a1.Puts).length : Int)) z z (x_len z underlying43 (rd_sliceV f1_2)) (wv (.int .i64 (0:Int)) z z z (wl_nil (tn (wp_block ?_)))))))))
 replace hst := hst.pull1.sub
 obtain ⟨n508, hm⟩ := loopO_some hm
 refine wp_loop_n (fun n a w => ∃ (z506 : Int) (σ507 : Nat → Value), loopN (locks_Meet_l2 a1 a0) n z506 = some r ∧ a = Fr 37 (upd (upd (upd (upd σ507 2 (Pt b402 0)) 27 (r1_2)) 28 (.int .i64 ((a1.Puts).length : Int))) 29 (.int .i64 z506)) ∧ St w0 w I [cells b402 [U6 a0.ID.Session, U6 a0.ID.Seq, U6 a0.Epoch, r0_0, r0_1, r0_2, r0_3]] R) n508 ⟨(0:Int), _, hm, (fu 2 (Pt b402 0) z (fu 27 r1_2 z (fu 28 (.int .i64 ((a1.Puts).length : Int)) z (fu 29 (.int .i64 (0:Int)) z z)))), hst⟩ ?_
 rintro n514 _ w509 ⟨z506, σ507, hm, rfl, hst⟩
 obtain ⟨n511, y512, rfl, hm, hx513⟩ := loopN_some hm
 dsimp only [locks_Meet_l2] at hm
 refine wp_seq (wrl (wv (.bool (decide (z506 < ((a1.Puts).length : Int)))) z z z (wl_nil (tn (wp_seq ?_)))))
 refine bsplit (decide (z506 < ((a1.Puts).length : Int))) (fun hc515 => ?_) (fun hc515 => ?_)
 {
 replace hm := bif_t hc515 hm
 refine wp_ift (cvb hc515) ?_
 refine wp_skip (tn (wp_seq (wp_block (wp_seq (wrl ?_)))))
 obtain ⟨x516, hx517, hm⟩ := bind_some hm
 obtain ⟨h518, h519, hi520⟩ := geto_some hx517
 refine wv (.pointer (some (eAddr r1_2 (z506.toNat * 1 + 0)))) z z (x_index z z underlying43 sizeOf37 (rd_sliceV f1_2) h518 h519) (wv (.float .f64 x516) z z (x_load z isAgg37 (rd_load f1_2 (HL.le.refl _) hst hi520 (by rintro _ rfl; rfl))) (wv (.float .f64 x516) z z z (wl_nil (tn (wp_seq (wrl (wv (.agg #[U6 a0.ID.Session, U6 a0.ID.Seq, U6 a0.Epoch, r0_0, r0_1, r0_2, r0_3]) z z (x_loadN (cs := [U6 a0.ID.Session, U6 a0.ID.Seq, U6 a0.Epoch, r0_0, r0_1, r0_2, r0_3]) z isAgg46 sizeOf46 (hst.bcs0 0 z)) (wv (.float .f64 x516) z z z ?_))))))))
 obtain ⟨t521, ht522, hm⟩ := bind_some hm
 refine wc call195 [.agg #[U6 a0.ID.Session, U6 a0.ID.Seq, U6 a0.Epoch, r0_0, r0_1, r0_2, r0_3], F6 x516] z z z ?_
 refine (locks_reads_ref (f0_0.mono (rd_weak _)) (f0_1.mono (rd_weak _)) (f0_2.mono (rd_weak _)) (f0_3.mono (rd_weak _)) hst.to0 ht522).mono ?_
 rintro _ w523 ⟨rfl, hst⟩
 refine ⟨_, z, ?_⟩
 replace hst := hst.of0
 refine wl_nil (tn ?_)
 refine bsplit t521 (fun hc526 => ?_) (fun hc526 => ?_)
 {
 replace hm := bif_t hc526 hm
 refine wp_ift (cvb hc526) ?_
 refine wp_seq (wrl (wv (.bool true) z z z (wl_nil (tn (wp_ret (blk_r (then_r (then_r ?_))))))))
 replace hm := inr_up hm hx513
 refine blk_r (then_r ?_)
 obtain rfl := some_inj hm
 refine post_ret (vs := [.bool true]) results140 (rvs_cons (rv_tmp z) rvs_nil) ?_
 exact ⟨z, hst.keep0⟩
}
 {
 replace hm := bif_f hc526 hm
 refine wp_iff (cvb hc526) ?_
 refine wp_skip (blk_n (tn (wrl ?_)))
 refine wv (.int .i64 (i64.wrap (z506 + (1:Int)))) z z z (wv (.int .i64 (i64.wrap (z506 + (1:Int)))) z z z (wl_nil (tn ?_)))
 replace hst := hst.keep1
 obtain rfl := some_inj hm
 exact ⟨_, Nat.lt_succ_self _, (i64.wrap (z506 + (1:Int))), _, hx513, (fu 2 (Pt b402 0) z (fu 27 r1_2 z (fu 28 (.int .i64 ((a1.Puts).length : Int)) z (fu 29 (.int .i64 (i64.wrap (z506 + (1:Int)))) z z)))), hst⟩
}
}
 {
 replace hm := bif_f hc515 hm
 refine wp_iff (cvb hc515) ?_
 refine wp_exit (then_x (then_x ?_))
 replace hm := inr_up hm hx513
 refine blk_x (tn (wp_seq (wrl ?_)))
 refine wv (.bool false) z z z (wl_nil (tn (wp_ret ?_)))
 obtain rfl := some_inj hm
 refine post_ret (vs := [.bool false]) results140 (rvs_cons (rv_tmp z) rvs_nil) ?_
 exact ⟨z, hst.keep0⟩
}
}
}

theorem slices_Clone_float64_float64_ref {w0 w : World} {I : HL} {R : SP} {a0 : (List Nat)} {r0_0 : Value} (f0_0 : Rd tyF64 R I r0_0 a0) (hst : St w0 w I [] R) {r : (List Nat)} (hm : slices_Clone_float64_float64 a0 = some r) :
  Calls prog 141 #[r0_0] w fun e w' => ∃ (q0_0 : Value), e = .returned (q0_0) ∧ St w0 w' I [ownS tyF64 q0_0 r] R := by {
 unfold slices_Clone_float64_float64 at hm
 obtain ⟨hg, hm⟩ := gd_some hm
 obtain rfl := some_inj hm
 have hsv := rd_sliceV f0_0
 refine calls_start (args := [r0_0]) func141 z ntmps141 (Nat.le_of_ble_eq_true z) ?_
 refine wp_seq (wrl (wv ((.slice none 0 0)) z z z (wl_nil (tn (wp_seq (wp_seq (wrl (wv (r0_0) z z z (wv (.bool (isNil r0_0)) z z (x_slnil z hsv z underlying43) (wl_nil (tn ?_)))))))))))
 refine bsplit (isNil r0_0) (fun hc360 => ?_) (fun hc360 => ?_)
 {
 refine wp_ift (cvb hc360) ?_
 refine wp_seq (wrl (wv ((.slice none 0 0)) z z z (wl_nil (tn (wp_ret (then_r ?_))))))
 refine post_ret (vs := [Zs]) results141 (rvs_cons (rv_tmp z) rvs_nil) ?_
 obtain rfl := List.eq_nil_of_length_eq_zero (isNil_len hsv hc360)
 exact ⟨_, z, (hst.own_nil tyF64).keep1⟩
}
 {
 refine wp_iff (cvb hc360) ?_
 refine wp_skip (tn (wp_seq (wrl ?_)))
 obtain ⟨b, w1, ew, eb, hst⟩ := hst.lits (E := tyF64) (xs := []) [] 37 0 z Reps.nil
 refine wl_run (v := (.slice (some ⟨b, 0, none⟩) 0 0)) (w' := w1) z z (x_als (by kernel_rfl) ew eb) ?_
 refine wv (r0_0) z z z ?_
 obtain ⟨v2, w2, hr, hst⟩ := run_append elem_43 underlying43 hst (Src.of_rd hst f0_0 flat_f64) (room_of hg z) 43
 refine wl_run (v := v2) (w' := w2) z z (x_append z z hr) ?_
 refine wv (v2) z z z (wl_nil (tn (wp_ret ?_)))
 refine post_ret (vs := [v2]) results141 (rvs_cons (rv_tmp z) rvs_nil) ?_
 rw [List.nil_append] at hst
 exact ⟨_, z, hst.keep1⟩
}
}

theorem slices_Clone_2_float64_2_float64_ref {w0 w : World} {I : HL} {R : SP} {a0 : (List (Nat × Nat))} {r0_0 : Value} (f0_0 : Rd tyF2 R I r0_0 a0) (hst : St w0 w I [] R) {r : (List (Nat × Nat))} (hm : slices_Clone_2_float64_2_float64 a0 = some r) :
  Calls prog 142 #[r0_0] w fun e w' => ∃ (q0_0 : Value), e = .returned (q0_0) ∧ St w0 w' I [ownS tyF2 q0_0 r] R := by {
 unfold slices_Clone_2_float64_2_float64 at hm
 obtain ⟨hg, hm⟩ := gd_some hm
 obtain rfl := some_inj hm
 have hsv := rd_sliceV f0_0
 refine calls_start (args := [r0_0]) func142 z ntmps142 (Nat.le_of_ble_eq_true z) ?_
 refine wp_seq (wrl (wv ((.slice none 0 0)) z z z (wl_nil (tn (wp_seq (wp_seq (wrl (wv (r0_0) z z z (wv (.bool (isNil r0_0)) z z (x_slnil z hsv z underlying44) (wl_nil (tn ?_)))))))))))
 refine bsplit (isNil r0_0) (fun hc360 => ?_) (fun hc360 => ?_)
 {
 refine wp_ift (cvb hc360) ?_
 refine wp_seq (wrl (wv ((.slice none 0 0)) z z z (wl_nil (tn (wp_ret (then_r ?_))))))
 refine post_ret (vs := [Zs]) results142 (rvs_cons (rv_tmp z) rvs_nil) ?_
 obtain rfl := List.eq_nil_of_length_eq_zero (isNil_len hsv hc360)
 exact ⟨_, z, (hst.own_nil tyF2).keep1⟩
}
 {
 refine wp_iff (cvb hc360) ?_
 refine wp_skip (tn (wp_seq (wrl ?_)))
 obtain ⟨b, w1, ew, eb, hst⟩ := hst.lits (E := tyF2) (xs := []) [] 80 0 z Reps.nil
 refine wl_run (v := (.slice (some ⟨b, 0, none⟩) 0 0)) (w' := w1) z z (x_als (by kernel_rfl) ew eb) ?_
 refine wv (r0_0) z z z ?_
 obtain ⟨v2, w2, hr, hst⟩ := run_append elem_44 underlying44 hst (Src.of_rd hst f0_0 flat_f2) (room_of hg z) 44
 refine wl_run (v := v2) (w' := w2) z z (x_append z z hr) ?_
 refine wv (v2) z z z (wl_nil (tn (wp_ret ?_)))
 refine post_ret (vs := [v2]) results142 (rvs_cons (rv_tmp z) rvs_nil) ?_
 rw [List.nil_append] at hst
 exact ⟨_, z, hst.keep1⟩
}
}

theorem slices_Clone_byte_byte_ref {w0 w : World} {I : HL} {R : SP} {a0 : (List Int)} {r0_0 : Value} (f0_0 : Rd (tyInt .u8) R I r0_0 a0) (hst : St w0 w I [] R) {r : (List Int)} (hm : slices_Clone_byte_byte a0 = some r) :
  Calls prog 143 #[r0_0] w fun e w' => ∃ (q0_0 : Value), e = .returned (q0_0) ∧ St w0 w' I [ownS (tyInt .u8) q0_0 r] R := by {
 unfold slices_Clone_byte_byte at hm
 obtain ⟨hg, hm⟩ := gd_some hm
 obtain rfl := some_inj hm
 have hsv := rd_sliceV f0_0
 refine calls_start (args := [r0_0]) func143 z ntmps143 (Nat.le_of_ble_eq_true z) ?_
 refine wp_seq (wrl (wv ((.slice none 0 0)) z z z (wl_nil (tn (wp_seq (wp_seq (wrl (wv (r0_0) z z z (wv (.bool (isNil r0_0)) z z (x_slnil z hsv z underlying22) (wl_nil (tn ?_)))))))))))
 refine bsplit (isNil r0_0) (fun hc360 => ?_) (fun hc360 => ?_)
 {
 refine wp_ift (cvb hc360) ?_
 refine wp_seq (wrl (wv ((.slice none 0 0)) z z z (wl_nil (tn (wp_ret (then_r ?_))))))
 refine post_ret (vs := [Zs]) results143 (rvs_cons (rv_tmp z) rvs_nil) ?_
 obtain rfl := List.eq_nil_of_length_eq_zero (isNil_len hsv hc360)
 exact ⟨_, z, (hst.own_nil (tyInt .u8)).keep1⟩
}
 {
 refine wp_iff (cvb hc360) ?_
 refine wp_skip (tn (wp_seq (wrl ?_)))
 obtain ⟨b, w1, ew, eb, hst⟩ := hst.lits (E := (tyInt .u8)) (xs := []) [] 5 0 z Reps.nil
 refine wl_run (v := (.slice (some ⟨b, 0, none⟩) 0 0)) (w' := w1) z z (x_als (by kernel_rfl) ew eb) ?_
 refine wv (r0_0) z z z ?_
 obtain ⟨v2, w2, hr, hst⟩ := run_append elem_22 underlying22 hst (Src.of_rd hst f0_0 flat_int) (room_of hg z) 22
 refine wl_run (v := v2) (w' := w2) z z (x_append z z hr) ?_
 refine wv (v2) z z z (wl_nil (tn (wp_ret ?_)))
 refine post_ret (vs := [v2]) results143 (rvs_cons (rv_tmp z) rvs_nil) ?_
 rw [List.nil_append] at hst
 exact ⟨_, z, hst.keep1⟩
}
}

theorem slices_Insert_api_Hold_api_Hold_ref {w0 w : World} {I : HL} {R : SP} {a0 : (List api_Hold)} {r0_0 : Value} {a1 : Int} {a2 : (List api_Hold)} {r2_0 : Value} (hst : St w0 w I [ownS ty_api_Hold r0_0 a0, ownS ty_api_Hold r2_0 a2] R) {r : (List api_Hold)} (hm : slices_Insert_api_Hold_api_Hold a0 a1 a2 = some r) :
  Calls prog 144 #[r0_0, I6 a1, r2_0] w fun e w' => ∃ (q0_0 : Value), e = .returned (q0_0) ∧ St w0 w' I [ownS ty_api_Hold q0_0 r] R := by {
 unfold slices_Insert_api_Hold_api_Hold at hm
 obtain ⟨hg, hm⟩ := gd_some hm
 obtain rfl := some_inj hm
 obtain ⟨hi0, hi1, hrm⟩ := insOK_of hg
 obtain ⟨k, rfl⟩ := Int.eq_ofNat_of_zero_le hi0
 have hsm := room_sum hrm
 have hk : k ≤ a0.length := by omega
 have hs : ∀ w : World, (sizeOf 46).run prog w = .ok ty_api_Hold.sz w := sizeOf46
 have hs0 : 0 < ty_api_Hold.sz := Nat.le_of_ble_eq_true rfl
 have hov : ∀ (args : Array Value) (w : World), (callFunc 196 args).run prog w = (Extern.SlicesOverlaps.overlaps #[125, 125] #[4] args >>= fun v => (pure (.value v) : Sem Next)).run prog w := by intro args w; kernel_rfl
 obtain ⟨css, hr, hst⟩ := hst.own_open
 replace hst := hst.pull1
 obtain ⟨dss, hq, hst⟩ := hst.own_open
 replace hst := hst.pull1
 obtain ⟨n, hn⟩ : ∃ n, css.length = n := ⟨_, rfl⟩
 obtain ⟨m, hm'⟩ : ∃ m, dss.length = m := ⟨_, rfl⟩
 have hln : a0.length = n := hr.1.trans hn
 have hlm : a2.length = m := hq.1.trans hm'
 rw [hln] at hsm hk
 rw [hlm] at hsm
 have hsv : SliceV r0_0 n := by have := hst.row_form.2; rwa [hn] at this
 have hsq : SliceV r2_0 m := by have := hst.pull1.row_form.2; rwa [hm'] at this
 have hoc := hr.ones
 have hoq := hq.ones
 have hw1 := wrap_add (a := n) (b := m) (by omega)
 have hw2 := wrap_add (a := k) (b := m) (by omega)
 have hw3 := wrap_sub (a := n + m) (b := k) (by omega) (by omega)
 have hrb := room_of (b := 120) hrm rfl
 rw [hln, hlm] at hrb
 refine calls_start (args := [r0_0, I6 (k : Int), r2_0]) func144 z ntmps144 (Nat.le_of_ble_eq_true z) ?_
 refine wp_seq (wrl (wv ((.slice none 0 0)) z z z (wl_nil (tn (wp_seq (wrl (wv (r0_0) z z z (wv (.int .i64 (k : Int)) z z z (wv ((slcV ty_api_Hold.sz r0_0 k n)) z z (x_slice (lo := (k : Nat)) (hi := (n : Nat)) underlying125 hs z hsv (by omega) (by omega) (by omega) .i64 .i64 (.inl z) (.inr ⟨z, z⟩)) (wl_nil (tn (wp_seq (wrl (wv (r2_0) z z z (wv (.int .i64 (m : Int)) z z (x_len z underlying125 hsq) (wv (.int .i64 (m : Int)) z z z (wl_nil (tn (wp_seq (wp_seq (wrl (wv (.int .i64 (m : Int)) z z z (wv (.bool ((m : Int) == (0:Int))) z z z ?_)))))))))))))))))))))))
 refine wl_nil (tn ?_)
 refine bsplit ((m : Int) == (0:Int)) (fun hc440 => ?_) (fun hc440 => ?_)
 {
 refine wp_ift (cvb hc440) ?_
 refine wp_seq (wrl (wv (r0_0) z z z (wv (r0_0) z z z (wl_nil (tn (wp_ret (then_r ?_)))))))
 refine post_ret (vs := [r0_0]) results144 (rvs_cons (rv_tmp z) rvs_nil) ?_
 rw [ins_nil (by rw [hlm]; exact hc440)]
 exact ⟨_, z, (hst.own_close hr).keep1⟩
}
 {
 refine wp_iff (cvb hc440) ?_
 have hm0 : m ≠ 0 := fun h => by rw [h] at hc440; cases hc440
 have hq0 : dss ≠ [] := fun h => hm0 (by rw [← hm', h]; rfl)
 refine wp_skip (tn (wp_seq (wrl ?_)))
 refine wv (r0_0) z z z (wv (.int .i64 (n : Int)) z z (x_len z underlying125 hsv) (wv (.int .i64 (n : Int)) z z z (wl_nil (tn (wp_seq (wp_seq (wrl (wv (.int .i64 (k : Int)) z z z (wv (.int .i64 (n : Int)) z z z (wv (.bool ((k : Int) == (n : Int))) z z z (wl_nil (tn ?_))))))))))))
 refine bsplit ((k : Int) == (n : Int)) (fun hc441 => ?_) (fun hc441 => ?_)
 {
 refine wp_ift (cvb hc441) ?_
 refine wp_seq (wrl (wv (r0_0) z z z (wv (r2_0) z z z ?_)))
 replace hst := (hst.own_close hr).pull1.own_close hq
 replace hst := hst.pull1
 obtain ⟨v2, w2, hra, hst⟩ := run_append elem_125 underlying125 hst hst.src1 (room_of hrm z) 125
 refine wl_run (v := v2) (w' := w2) z z (x_append z z hra) ?_
 refine wv (v2) z z z (wl_nil (tn (wp_ret (then_r ?_))))
 refine post_ret (vs := [v2]) results144 (rvs_cons (rv_tmp z) rvs_nil) ?_
 rw [ins_end (by rw [hln]; exact hc441)]
 exact ⟨_, z, hst.keep1⟩
}
 {
 refine wp_iff (cvb hc441) ?_
 have hkn : k ≠ n := fun h => by rw [h] at hc441; simp at hc441
 have hn0 : 0 < n := by omega
 have hc0 : css ≠ [] := fun h => by rw [h] at hn; simp at hn; omega
 refine wp_skip (tn (wp_seq (wp_seq (wrl ?_))))
 refine wv (.int .i64 (n : Int)) z z z (wv (.int .i64 (m : Int)) z z z (wv (.int .i64 ((n + m : Nat) : Int)) z z (ok_cast hw1 z) (wv (r0_0) z z z (wv (.int .i64 (sCap r0_0 : Int)) z z (x_cap z underlying125 hsv) (wv (.bool (decide (((n + m : Nat) : Int) > (sCap r0_0 : Int)))) z z z (wl_nil (tn ?_)))))))
 refine bsplit (decide (((n + m : Nat) : Int) > (sCap r0_0 : Int))) (fun hc442 => ?_) (fun hc442 => ?_)
 {
 refine wp_ift (cvb hc442) ?_
 refine wp_seq (wrl (wv (r0_0) z z z (wv (.int .i64 (k : Int)) z z z (wv ((slcV ty_api_Hold.sz r0_0 0 k)) z z (x_slice (lo := (0 : Nat)) (hi := (k : Nat)) underlying125 hs z hsv (by omega) (by omega) (by omega) .i64 .i64 (.inr ⟨z, z⟩) (.inl z)) (wv (.int .i64 (n : Int)) z z z (wv (.int .i64 (m : Int)) z z z (wv (.int .i64 ((n + m : Nat) : Int)) z z (ok_cast hw1 z) (wv (.int .i64 (k : Int)) z z z (wv (.int .i64 ((n + m - k : Nat) : Int)) z z (ok_cast hw3 z) ?_)))))))))
 obtain ⟨v2, w2, hra, hs2, zss, hzl, hst⟩ := run_app0 elem_125 underlying3 hst k (n + m - k) (by omega) (by have := of_decide_eq_true hc442; omega) (by rw [show k + (n + m - k) = n + m by omega]; exact hrb) hs0 125
 rw [show k + (n + m - k) = n + m by omega] at hs2
 refine wl_run (v := v2) (w' := w2) z z (x_append z z hra) ?_
 refine wv (v2) z z z (wl_nil (tn (wp_seq (wrl (wv (v2) z z z (wv (.int .i64 (k : Int)) z z z (wv ((slcV ty_api_Hold.sz v2 k (n + m))) z z (x_slice (lo := (k : Nat)) (hi := ((n + m) : Nat)) underlying125 hs z hs2 (by omega) (by omega) (by omega) .i64 .i64 (.inl z) (.inr ⟨z, z⟩)) (wv (r2_0) z z z ?_))))))))
 obtain ⟨w443, hr444, hst⟩ := run_copyRows (P := prog) (t2 := 125) (ty := 3) underlying125 hs hst hst.pull2 k m (N := n + m) (by first | omega | (simp only [List.length_append, List.length_take, List.length_drop]; omega)) (by first | omega | (simp only [List.length_append, List.length_take, List.length_drop]; omega)) (by omega) (by first | omega | (simp only [List.length_append, List.length_take, List.length_drop]; omega)) (ones_take hoq _)
 refine wl_run (v := .int .i64 (m : Nat)) (w' := w443) z z (x_copy z z hr444) ?_
 refine wl_nil (tn (wp_seq ?_))
 refine wp_region_St hst 9 [0, 1, 2, 3, 4, 5, 6, 7, 8] [0, 0, 0, 6, 15, 0, 0, 96, 255] [] z (by kernel_rfl) (by kernel_rfl) Tryz.mixed (by kernel_rfl) ?_
 refine wsr (v2) 0 z z z (by kernel_rfl) (fun w hst => z) (wsr (.int .i64 (k : Int)) 1 z z z (by kernel_rfl) (fun w hst => z) (wsr (.int .i64 (m : Int)) 2 z z z (by kernel_rfl) (fun w hst => z) (wsr (.int .i64 ((k + m : Nat) : Int)) 3 z z z (by kernel_rfl) (fun w hst => ok_cast hw2 z) (wsr ((slcV ty_api_Hold.sz v2 (k + m) (n + m))) 4 z z z (by kernel_rfl) (fun w hst => x_slice (lo := ((k + m) : Nat)) (hi := ((n + m) : Nat)) underlying125 hs z hs2 (by omega) (by omega) (by omega) .i64 .i64 (.inl z) (.inr ⟨z, z⟩)) (wsr (r0_0) 5 z z z (by kernel_rfl) (fun w hst => z) (wsr (.int .i64 (k : Int)) 6 z z z (by kernel_rfl) (fun w hst => z) (wsr ((slcV ty_api_Hold.sz r0_0 k n)) 7 z z z (by kernel_rfl) (fun w hst => x_slice (lo := (k : Nat)) (hi := (n : Nat)) underlying125 hs z hsv (by omega) (by omega) (by omega) .i64 .i64 (.inl z) (.inr ⟨z, z⟩)) ?_)))))))
 refine ws_e1 8 (by kernel_rfl) ?_
 refine nxe [] (by kernel_rfl) z z ?_
 clear hst
 intro w hst
 obtain ⟨w445, hr446, hst⟩ := run_copyRows (P := prog) (t2 := 125) (ty := 3) underlying125 hs hst (hst.pull1.row_part (l := k) (h := n) hk (by omega)) (k + m) (n - k) (N := n + m) (by first | omega | (simp only [List.length_append, List.length_take, List.length_drop]; omega)) (by first | omega | (simp only [List.length_append, List.length_take, List.length_drop]; omega)) (by omega) (by first | omega | (simp only [List.length_append, List.length_take, List.length_drop]; omega)) (ones_take (ones_drop (ones_take hoc _) _) _)
 refine we_run (v := .int .i64 ((n - k) : Nat)) (w' := w445) z (x_copy z z hr446) ?_
 refine ws_next (pend' := []) hst (by kernel_rfl) pk_nil ?_
 refine ws_nil ?_
 intro w hst
 refine tn (wp_seq (wrl (wv (v2) z z z (wv (v2) z z z (wl_nil (tn (wp_ret (then_r ?_))))))))
 refine post_ret (vs := [v2]) results144 (rvs_cons (rv_tmp z) rvs_nil) ?_
 rw [grow_rows hn hm' hk hzl] at hst
 exact ⟨_, z, (hst.own_close ((hr.take k).app (hq.app (hr.drop k)))).keep1⟩
}
 {
 refine wp_iff (cvb hc442) ?_
 have hup : n + m ≤ sCap r0_0 := by have := of_decide_eq_false hc442; omega
 obtain ⟨ess, hel, hem, hst'⟩ := hst.row_up (n + m) (by omega) hup hc0
 rw [show n + m - css.length = m by omega] at hel
 have hs2 : SliceV (upV r0_0 (n + m)) (n + m) := by have := hst'.row_form.2; rwa [List.length_append, hn, hel] at this
 clear hst
 have hst := hst'
 clear hst'
 refine wp_skip (tn (wp_seq (wrl ?_)))
 refine wv (r0_0) z z z (wv (.int .i64 (n : Int)) z z z (wv (.int .i64 (m : Int)) z z z (wv (.int .i64 ((n + m : Nat) : Int)) z z (ok_cast hw1 z) (wv ((upV r0_0 (n + m))) z z (x_sliceUp underlying125 hs z hsv z hup hn0) (wv ((upV r0_0 (n + m))) z z z (wl_nil (tn (wp_seq (wp_seq (wrl (wv (r2_0) z z z (wv ((upV r0_0 (n + m))) z z z (wv (.int .i64 (k : Int)) z z z (wv (.int .i64 (m : Int)) z z z (wv (.int .i64 ((k + m : Nat) : Int)) z z (ok_cast hw2 z) (wv ((slcV ty_api_Hold.sz (upV r0_0 (n + m)) (k + m) (n + m))) z z (x_slice (lo := ((k + m) : Nat)) (hi := ((n + m) : Nat)) underlying125 hs z hs2 (by omega) (by omega) (by omega) .i64 .i64 (.inl z) (.inr ⟨z, z⟩)) ?_))))))))))))))))
 refine wv (.bool false) z z (x_ext z z z (hov _) (run_overlaps z underlying125 hs hst.pull1 (k + m) (N := n + m) (by rw [List.length_append]; omega) (by omega) hq0 hs0)) (wv (.bool true) z z z (wl_nil (tn ?_)))
 refine wp_ift z ?_
 refine wp_seq ?_
 refine wp_region_St hst 9 [0, 1, 2, 3, 4, 5, 6, 7, 8] [0, 0, 0, 6, 15, 0, 0, 96, 255] [] z (by kernel_rfl) (by kernel_rfl) Tryz.mixed (by kernel_rfl) ?_
 refine wsr ((upV r0_0 (n + m))) 0 z z z (by kernel_rfl) (fun w hst => z) (wsr (.int .i64 (k : Int)) 1 z z z (by kernel_rfl) (fun w hst => z) (wsr (.int .i64 (m : Int)) 2 z z z (by kernel_rfl) (fun w hst => z) (wsr (.int .i64 ((k + m : Nat) : Int)) 3 z z z (by kernel_rfl) (fun w hst => ok_cast hw2 z) (wsr ((slcV ty_api_Hold.sz (upV r0_0 (n + m)) (k + m) (n + m))) 4 z z z (by kernel_rfl) (fun w hst => x_slice (lo := ((k + m) : Nat)) (hi := ((n + m) : Nat)) underlying125 hs z hs2 (by omega) (by omega) (by omega) .i64 .i64 (.inl z) (.inr ⟨z, z⟩)) (wsr ((upV r0_0 (n + m))) 5 z z z (by kernel_rfl) (fun w hst => z) (wsr (.int .i64 (k : Int)) 6 z z z (by kernel_rfl) (fun w hst => z) (wsr ((slcV ty_api_Hold.sz (upV r0_0 (n + m)) k (n + m))) 7 z z z (by kernel_rfl) (fun w hst => x_slice (lo := (k : Nat)) (hi := ((n + m) : Nat)) underlying125 hs z hs2 (by omega) (by omega) (by omega) .i64 .i64 (.inl z) (.inr ⟨z, z⟩)) ?_)))))))
 refine ws_e1 8 (by kernel_rfl) ?_
 refine nxe [] (by kernel_rfl) z z ?_
 clear hst
 intro w hst
 obtain ⟨w447, hr448, hst⟩ := run_copyRows (P := prog) (t2 := 125) (ty := 3) underlying125 hs hst (hst.row_part (l := k) (h := n + m) (by omega) (by rw [List.length_append]; omega)) (k + m) (n - k) (N := n + m) (by first | omega | (simp only [List.length_append, List.length_take, List.length_drop]; omega)) (by first | omega | (simp only [List.length_append, List.length_take, List.length_drop]; omega)) (by omega) (by first | omega | (simp only [List.length_append, List.length_take, List.length_drop]; omega)) (by rw [stay_src hn hm' hk hel]; exact ones_drop hoc _)
 refine we_run (v := .int .i64 ((n - k) : Nat)) (w' := w447) z (x_copy z z hr448) ?_
 refine ws_next (pend' := []) hst (by kernel_rfl) pk_nil ?_
 refine ws_nil ?_
 intro w hst
 refine tn (wp_seq (wrl (wv ((upV r0_0 (n + m))) z z z (wv (.int .i64 (k : Int)) z z z (wv ((slcV ty_api_Hold.sz (upV r0_0 (n + m)) k (n + m))) z z (x_slice (lo := (k : Nat)) (hi := ((n + m) : Nat)) underlying125 hs z hs2 (by omega) (by omega) (by omega) .i64 .i64 (.inl z) (.inr ⟨z, z⟩)) (wv (r2_0) z z z ?_))))))
 obtain ⟨w449, hr450, hst⟩ := run_copyRows (P := prog) (t2 := 125) (ty := 3) underlying125 hs hst hst.pull1 k m (N := n + m) (by first | omega | (simp only [List.length_append, List.length_take, List.length_drop]; omega)) (by first | omega | (simp only [List.length_append, List.length_take, List.length_drop]; omega)) (by omega) (by first | omega | (simp only [List.length_append, List.length_take, List.length_drop]; omega)) (ones_take hoq _)
 refine wl_run (v := .int .i64 (m : Nat)) (w' := w449) z z (x_copy z z hr450) ?_
 refine wl_nil (tn (wp_seq (wrl (wv ((upV r0_0 (n + m))) z z z (wv ((upV r0_0 (n + m))) z z z (wl_nil (tn (wp_ret (then_r ?_)))))))))
 refine post_ret (vs := [(upV r0_0 (n + m))]) results144 (rvs_cons (rv_tmp z) rvs_nil) ?_
 rw [stay_rows hn hm' hk hel] at hst
 exact ⟨_, z, (hst.own_close ((hr.take k).app (hq.app (hr.drop k)))).keep1⟩
}
}
}
}

end Go.Proofs.YtgnkkopjkgdieaaGreat
