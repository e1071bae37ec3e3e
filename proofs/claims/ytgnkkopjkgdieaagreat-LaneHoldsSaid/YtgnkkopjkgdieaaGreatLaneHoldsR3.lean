/- The Go functions refine their models, part 3. -/
import Derived.Test.YtgnkkopjkgdieaaGreatLaneHoldsR2
set_option linter.unusedVariables false
set_option linter.unusedSimpArgs false
set_option maxRecDepth 100000
set_option maxHeartbeats 4000000
namespace Go.Proofs.YtgnkkopjkgdieaaGreat
open Go Go.V
open _root_.Go.Proofs.Tryz IntKind
attribute [local irreducible] wpList Code.wp wpQuiet Calls bodyPost Oper.wp wpS Nx PendOK YieldsIn
theorem slices_Insert_session_row_session_row_ref {w0 w : World} {I : HL} {R : SP} {a0 : (List session_row)} {r0_0 : Value} {a1 : Int} {a2 : (List session_row)} {r2_0 : Value} (hst : St w0 w I [ownS ty_session_row r0_0 a0, ownS ty_session_row r2_0 a2] R) {r : (List session_row)} (hm : slices_Insert_session_row_session_row a0 a1 a2 = some r) :
  Calls prog 187 #[r0_0, I6 a1, r2_0] w fun e w' => ∃ (q0_0 : Value), e = .returned (q0_0) ∧ St w0 w' I [ownS ty_session_row q0_0 r] R := by {
 unfold slices_Insert_session_row_session_row at hm
 obtain ⟨hg, hm⟩ := gd_some hm
 obtain rfl := some_inj hm
 obtain ⟨hi0, hi1, hrm⟩ := insOK_of hg
 obtain ⟨k, rfl⟩ := Int.eq_ofNat_of_zero_le hi0
 have hsm := room_sum hrm
 have hk : k ≤ a0.length := by omega
 have hs : ∀ w : World, (sizeOf 242).run prog w = .ok ty_session_row.sz w := sizeOf242
 have hs0 : 0 < ty_session_row.sz := Nat.le_of_ble_eq_true rfl
 have hov : ∀ (args : Array Value) (w : World), (callFunc 209 args).run prog w = (Extern.SlicesOverlaps.overlaps #[204, 204] #[4] args >>= fun v => (pure (.value v) : Sem Next)).run prog w := by intro args w; kernel_rfl
 obtain ⟨css, hr, hst⟩ := hst.own_open
 replace hst := hst.pull1
 obtain ⟨dss, hq, hst⟩ := hst.own_open
 replace hst := hst.pull1
 obtain ⟨n, hn⟩ : ∃ n, css.length = n := ⟨_, rfl⟩
 obtain ⟨m, hm'⟩ : ∃ m, dss.length = m := ⟨_, rfl⟩
 have hln : a0.length = n := hr.1.trans hn
 have hlm : a2.length = m := hq.1.trans hm'
 rw [hln] at hsm hk
 rw [hlm] at hsm
 have hsv : SliceV r0_0 n := by have := hst.row_form.2; rwa [hn] at this
 have hsq : SliceV r2_0 m := by have := hst.pull1.row_form.2; rwa [hm'] at this
 have hoc := hr.ones
 have hoq := hq.ones
 have hw1 := wrap_add (a := n) (b := m) (by omega)
 have hw2 := wrap_add (a := k) (b := m) (by omega)
 have hw3 := wrap_sub (a := n + m) (b := k) (by omega) (by omega)
 have hrb := room_of (b := 88) hrm rfl
 rw [hln, hlm] at hrb
 refine calls_start (args := [r0_0, I6 (k : Int), r2_0]) func187 z ntmps187 (Nat.le_of_ble_eq_true z) ?_
 refine wp_seq (wrl (wv ((.slice none 0 0)) z z z (wl_nil (tn (wp_seq (wrl (wv (r0_0) z z z (wv (.int .i64 (k : Int)) z z z (wv ((slcV ty_session_row.sz r0_0 k n)) z z (x_slice (lo := (k : Nat)) (hi := (n : Nat)) underlying204 hs z hsv (by omega) (by omega) (by omega) .i64 .i64 (.inl z) (.inr ⟨z, z⟩)) (wl_nil (tn (wp_seq (wrl (wv (r2_0) z z z (wv (.int .i64 (m : Int)) z z (x_len z underlying204 hsq) (wv (.int .i64 (m : Int)) z z z (wl_nil (tn (wp_seq (wp_seq (wrl (wv (.int .i64 (m : Int)) z z z (wv (.bool ((m : Int) == (0:Int))) z z z ?_)))))))))))))))))))))))
 refine wl_nil (tn ?_)
 refine bsplit ((m : Int) == (0:Int)) (fun hc327 => ?_) (fun hc327 => ?_)
 {
 refine wp_ift (cvb hc327) ?_
 refine wp_seq (wrl (wv (r0_0) z z z (wv (r0_0) z z z (wl_nil (tn (wp_ret (then_r ?_)))))))
 refine post_ret (vs := [r0_0]) results187 (rvs_cons (rv_tmp z) rvs_nil) ?_
 rw [ins_nil (by rw [hlm]; exact hc327)]
 exact ⟨_, z, (hst.own_close hr).keep1⟩
}
 {
 refine wp_iff (cvb hc327) ?_
 have hm0 : m ≠ 0 := fun h => by rw [h] at hc327; cases hc327
 have hq0 : dss ≠ [] := fun h => hm0 (by rw [← hm', h]; rfl)
 refine wp_skip (tn (wp_seq (wrl ?_)))
 refine wv (r0_0) z z z (wv (.int .i64 (n : Int)) z z (x_len z underlying204 hsv) (wv (.int .i64 (n : Int)) z z z (wl_nil (tn (wp_seq (wp_seq (wrl (wv (.int .i64 (k : Int)) z z z (wv (.int .i64 (n : Int)) z z z (wv (.bool ((k : Int) == (n : Int))) z z z (wl_nil (tn ?_))))))))))))
 refine bsplit ((k : Int) == (n : Int)) (fun hc328 => ?_) (fun hc328 => ?_)
 {
 refine wp_ift (cvb hc328) ?_
 refine wp_seq (wrl (wv (r0_0) z z z (wv (r2_0) z z z ?_)))
 replace hst := (hst.own_close hr).pull1.own_close hq
 replace hst := hst.pull1
 obtain ⟨v2, w2, hra, hst⟩ := run_append elem_204 underlying204 hst hst.src1 (room_of hrm z) 204
 refine wl_run (v := v2) (w' := w2) z z (x_append z z hra) ?_
 refine wv (v2) z z z (wl_nil (tn (wp_ret (then_r ?_))))
 refine post_ret (vs := [v2]) results187 (rvs_cons (rv_tmp z) rvs_nil) ?_
 rw [ins_end (by rw [hln]; exact hc328)]
 exact ⟨_, z, hst.keep1⟩
}
 {
 refine wp_iff (cvb hc328) ?_
 have hkn : k ≠ n := fun h => by rw [h] at hc328; simp at hc328
 have hn0 : 0 < n := by omega
 have hc0 : css ≠ [] := fun h => by rw [h] at hn; simp at hn; omega
 refine wp_skip (tn (wp_seq (wp_seq (wrl ?_))))
 refine wv (.int .i64 (n : Int)) z z z (wv (.int .i64 (m : Int)) z z z (wv (.int .i64 ((n + m : Nat) : Int)) z z (ok_cast hw1 z) (wv (r0_0) z z z (wv (.int .i64 (sCap r0_0 : Int)) z z (x_cap z underlying204 hsv) (wv (.bool (decide (((n + m : Nat) : Int) > (sCap r0_0 : Int)))) z z z (wl_nil (tn ?_)))))))
 refine bsplit (decide (((n + m : Nat) : Int) > (sCap r0_0 : Int))) (fun hc329 => ?_) (fun hc329 => ?_)
 {
 refine wp_ift (cvb hc329) ?_
 refine wp_seq (wrl (wv (r0_0) z z z (wv (.int .i64 (k : Int)) z z z (wv ((slcV ty_session_row.sz r0_0 0 k)) z z (x_slice (lo := (0 : Nat)) (hi := (k : Nat)) underlying204 hs z hsv (by omega) (by omega) (by omega) .i64 .i64 (.inr ⟨z, z⟩) (.inl z)) (wv (.int .i64 (n : Int)) z z z (wv (.int .i64 (m : Int)) z z z (wv (.int .i64 ((n + m : Nat) : Int)) z z (ok_cast hw1 z) (wv (.int .i64 (k : Int)) z z z (wv (.int .i64 ((n + m - k : Nat) : Int)) z z (ok_cast hw3 z) ?_)))))))))
 obtain ⟨v2, w2, hra, hs2, zss, hzl, hst⟩ := run_app0 elem_204 underlying3 hst k (n + m - k) (by omega) (by have := of_decide_eq_true hc329; omega) (by rw [show k + (n + m - k) = n + m by omega]; exact hrb) hs0 204
 rw [show k + (n + m - k) = n + m by omega] at hs2
 refine wl_run (v := v2) (w' := w2) z z (x_append z z hra) ?_
 refine wv (v2) z z z (wl_nil (tn (wp_seq (wrl (wv (v2) z z z (wv (.int .i64 (k : Int)) z z z (wv ((slcV ty_session_row.sz v2 k (n + m))) z z (x_slice (lo := (k : Nat)) (hi := ((n + m) : Nat)) underlying204 hs z hs2 (by omega) (by omega) (by omega) .i64 .i64 (.inl z) (.inr ⟨z, z⟩)) (wv (r2_0) z z z ?_))))))))
 obtain ⟨w330, hr331, hst⟩ := run_copyRows (P := prog) (t2 := 204) (ty := 3) underlying204 hs hst hst.pull2 k m (N := n + m) (by first | omega | (simp only [List.length_append, List.length_take, List.length_drop]; omega)) (by first | omega | (simp only [List.length_append, List.length_take, List.length_drop]; omega)) (by omega) (by first | omega | (simp only [List.length_append, List.length_take, List.length_drop]; omega)) (ones_take hoq _)
 refine wl_run (v := .int .i64 (m : Nat)) (w' := w330) z z (x_copy z z hr331) ?_
 refine wl_nil (tn (wp_seq ?_))
 refine wp_region_St hst 9 [0, 1, 2, 3, 4, 5, 6, 7, 8] [0, 0, 0, 6, 15, 0, 0, 96, 255] [] z (by kernel_rfl) (by kernel_rfl) Tryz.mixed (by kernel_rfl) ?_
 refine wsr (v2) 0 z z z (by kernel_rfl) (fun w hst => z) (wsr (.int .i64 (k : Int)) 1 z z z (by kernel_rfl) (fun w hst => z) (wsr (.int .i64 (m : Int)) 2 z z z (by kernel_rfl) (fun w hst => z) (wsr (.int .i64 ((k + m : Nat) : Int)) 3 z z z (by kernel_rfl) (fun w hst => ok_cast hw2 z) (wsr ((slcV ty_session_row.sz v2 (k + m) (n + m))) 4 z z z (by kernel_rfl) (fun w hst => x_slice (lo := ((k + m) : Nat)) (hi := ((n + m) : Nat)) underlying204 hs z hs2 (by omega) (by omega) (by omega) .i64 .i64 (.inl z) (.inr ⟨z, z⟩)) (wsr (r0_0) 5 z z z (by kernel_rfl) (fun w hst => z) (wsr (.int .i64 (k : Int)) 6 z z z (by kernel_rfl) (fun w hst => z) (wsr ((slcV ty_session_row.sz r0_0 k n)) 7 z z z (by kernel_rfl) (fun w hst => x_slice (lo := (k : Nat)) (hi := (n : Nat)) underlying204 hs z hsv (by omega) (by omega) (by omega) .i64 .i64 (.inl z) (.inr ⟨z, z⟩)) ?_)))))))
 refine ws_e1 8 (by kernel_rfl) ?_
 refine nxe [] (by kernel_rfl) z z ?_
 clear hst
 intro w hst
 obtain ⟨w332, hr333, hst⟩ := run_copyRows (P := prog) (t2 := 204) (ty := 3) underlying204 hs hst (hst.pull1.row_part (l := k) (h := n) hk (by omega)) (k + m) (n - k) (N := n + m) (by first | omega | (simp only [List.length_append, List.length_take, List.length_drop]; omega)) (by first | omega | (simp only [List.length_append, List.length_take, List.length_drop]; omega)) (by omega) (by first | omega | (simp only [List.length_append, List.length_take, List.length_drop]; omega)) (ones_take (ones_drop (ones_take hoc _) _) _)
 refine we_run (v := .int .i64 ((n - k) : Nat)) (w' := w332) z (x_copy z z hr333) ?_
 refine ws_next (pend' := []) hst (by kernel_rfl) pk_nil ?_
 refine ws_nil ?_
 intro w hst
 refine tn (wp_seq (wrl (wv (v2) z z z (wv (v2) z z z (wl_nil (tn (wp_ret (then_r ?_))))))))
 refine post_ret (vs := [v2]) results187 (rvs_cons (rv_tmp z) rvs_nil) ?_
 rw [grow_rows hn hm' hk hzl] at hst
 exact ⟨_, z, (hst.own_close ((hr.take k).app (hq.app (hr.drop k)))).keep1⟩
}
 {
 refine wp_iff (cvb hc329) ?_
 have hup : n + m ≤ sCap r0_0 := by have := of_decide_eq_false hc329; omega
 obtain ⟨ess, hel, hem, hst'⟩ := hst.row_up (n + m) (by omega) hup hc0
 rw [show n + m - css.length = m by omega] at hel
 have hs2 : SliceV (upV r0_0 (n + m)) (n + m) := by have := hst'.row_form.2; rwa [List.length_append, hn, hel] at this
 clear hst
 have hst := hst'
 clear hst'
 refine wp_skip (tn (wp_seq (wrl ?_)))
 refine wv (r0_0) z z z (wv (.int .i64 (n : Int)) z z z (wv (.int .i64 (m : Int)) z z z (wv (.int .i64 ((n + m : Nat) : Int)) z z (ok_cast hw1 z) (wv ((upV r0_0 (n + m))) z z (x_sliceUp underlying204 hs z hsv z hup hn0) (wv ((upV r0_0 (n + m))) z z z (wl_nil (tn (wp_seq (wp_seq (wrl (wv (r2_0) z z z (wv ((upV r0_0 (n + m))) z z z (wv (.int .i64 (k : Int)) z z z (wv (.int .i64 (m : Int)) z z z (wv (.int .i64 ((k + m : Nat) : Int)) z z (ok_cast hw2 z) (wv ((slcV ty_session_row.sz (upV r0_0 (n + m)) (k + m) (n + m))) z z (x_slice (lo := ((k + m) : Nat)) (hi := ((n + m) : Nat)) underlying204 hs z hs2 (by omega) (by omega) (by omega) .i64 .i64 (.inl z) (.inr ⟨z, z⟩)) ?_))))))))))))))))
 refine wv (.bool false) z z (x_ext z z z (hov _) (run_overlaps z underlying204 hs hst.pull1 (k + m) (N := n + m) (by rw [List.length_append]; omega) (by omega) hq0 hs0)) (wv (.bool true) z z z (wl_nil (tn ?_)))
 refine wp_ift z ?_
 refine wp_seq ?_
 refine wp_region_St hst 9 [0, 1, 2, 3, 4, 5, 6, 7, 8] [0, 0, 0, 6, 15, 0, 0, 96, 255] [] z (by kernel_rfl) (by kernel_rfl) Tryz.mixed (by kernel_rfl) ?_
 refine wsr ((upV r0_0 (n + m))) 0 z z z (by kernel_rfl) (fun w hst => z) (wsr (.int .i64 (k : Int)) 1 z z z (by kernel_rfl) (fun w hst => z) (wsr (.int .i64 (m : Int)) 2 z z z (by kernel_rfl) (fun w hst => z) (wsr (.int .i64 ((k + m : Nat) : Int)) 3 z z z (by kernel_rfl) (fun w hst => ok_cast hw2 z) (wsr ((slcV ty_session_row.sz (upV r0_0 (n + m)) (k + m) (n + m))) 4 z z z (by kernel_rfl) (fun w hst => x_slice (lo := ((k + m) : Nat)) (hi := ((n + m) : Nat)) underlying204 hs z hs2 (by omega) (by omega) (by omega) .i64 .i64 (.inl z) (.inr ⟨z, z⟩)) (wsr ((upV r0_0 (n + m))) 5 z z z (by kernel_rfl) (fun w hst => z) (wsr (.int .i64 (k : Int)) 6 z z z (by kernel_rfl) (fun w hst => z) (wsr ((slcV ty_session_row.sz (upV r0_0 (n + m)) k (n + m))) 7 z z z (by kernel_rfl) (fun w hst => x_slice (lo := (k : Nat)) (hi := ((n + m) : Nat)) underlying204 hs z hs2 (by omega) (by omega) (by omega) .i64 .i64 (.inl z) (.inr ⟨z, z⟩)) ?_)))))))
 refine ws_e1 8 (by kernel_rfl) ?_
 refine nxe [] (by kernel_rfl) z z ?_
 clear hst
 intro w hst
 obtain ⟨w334, hr335, hst⟩ := run_copyRows (P := prog) (t2 := 204) (ty := 3) underlying204 hs hst (hst.row_part (l := k) (h := n + m) (by omega) (by rw [List.length_append]; omega)) (k + m) (n - k) (N := n + m) (by first | omega | (simp only [List.length_append, List.length_take, List.length_drop]; omega)) (by first | omega | (simp only [List.length_append, List.length_take, List.length_drop]; omega)) (by omega) (by first | omega | (simp only [List.length_append, List.length_take, List.length_drop]; omega)) (by rw [stay_src hn hm' hk hel]; exact ones_drop hoc _)
 refine we_run (v := .int .i64 ((n - k) : Nat)) (w' := w334) z (x_copy z z hr335) ?_
 refine ws_next (pend' := []) hst (by kernel_rfl) pk_nil ?_
 refine ws_nil ?_
 intro w hst
 refine tn (wp_seq (wrl (wv ((upV r0_0 (n + m))) z z z (wv (.int .i64 (k : Int)) z z z (wv ((slcV ty_session_row.sz (upV r0_0 (n + m)) k (n + m))) z z (x_slice (lo := (k : Nat)) (hi := ((n + m) : Nat)) underlying204 hs z hs2 (by omega) (by omega) (by omega) .i64 .i64 (.inl z) (.inr ⟨z, z⟩)) (wv (r2_0) z z z ?_))))))
 obtain ⟨w336, hr337, hst⟩ := run_copyRows (P := prog) (t2 := 204) (ty := 3) underlying204 hs hst hst.pull1 k m (N := n + m) (by first | omega | (simp only [List.length_append, List.length_take, List.length_drop]; omega)) (by first | omega | (simp only [List.length_append, List.length_take, List.length_drop]; omega)) (by omega) (by first | omega | (simp only [List.length_append, List.length_take, List.length_drop]; omega)) (ones_take hoq _)
 refine wl_run (v := .int .i64 (m : Nat)) (w' := w336) z z (x_copy z z hr337) ?_
 refine wl_nil (tn (wp_seq (wrl (wv ((upV r0_0 (n + m))) z z z (wv ((upV r0_0 (n + m))) z z z (wl_nil (tn (wp_ret (then_r ?_)))))))))
 refine post_ret (vs := [(upV r0_0 (n + m))]) results187 (rvs_cons (rv_tmp z) rvs_nil) ?_
 rw [stay_rows hn hm' hk hel] at hst
 exact ⟨_, z, (hst.own_close ((hr.take k).app (hq.app (hr.drop k)))).keep1⟩
}
}
}
}

theorem session_Table_Put_ref {w0 w : World} {I : HL} {R : SP} {a0 : (Option session_Table)} {p0 : Value} {a1 : Int} {a2 : Int} {a3 : api_Reply} {r3_0 : Value} {r3_1 : Value} (f3_0 : Ro ty_api_Got I r3_0 a3.Gots) (f3_1 : Ro (tySl ty_api_Pair) I r3_1 a3.Scans) (hst : St w0 w I [objO at_session_Table p0 a0] R) {r : (Int × (Option session_Table))} (hm : session_Table_Put a0 a1 a2 a3 = some r) :
  Calls prog 124 #[p0, U6 a1, U6 a2, .agg #[I6 a3.E, U6 a3.Epoch, U6 a3.Index, r3_0, r3_1]] w fun e w' => e = .returned (.int .i64 r.1) ∧ St w0 w' I [objO at_session_Table p0 r.2] R := by {
 rcases a0 with _ | o0
 {
 obtain ⟨rfl, hst'⟩ := objO_none hst
 clear hst
 have hst := hst'
 clear hst'
 dsimp only [session_Table_Put] at hm
 refine calls_start (args := [.pointer none, U6 a1, U6 a2, .agg #[I6 a3.E, U6 a3.Epoch, U6 a3.Index, r3_0, r3_1]]) func124 z ntmps124 (Nat.le_of_ble_eq_true z) ?_
 refine wp_seq (wrl ?_)
 obtain ⟨b392, w393, ew394, eb395, hst⟩ := hst.box [I6 a3.E, U6 a3.Epoch, U6 a3.Index, r3_0, r3_1] 33
 refine wl_run (v := Pt b392 0) (w' := w393) z z (x_al (by kernel_rfl) ew394 eb395) ?_
 refine wv (.int .i64 (0:Int)) z z z (wl_nil (tn (wp_seq (wp_block (wp_seq (wrl (wv (.pointer none) z z z (wv (.bool true) z z (by kernel_rfl) (wv (.bool true) z z z (wl_nil (tn ?_)))))))))))
 refine wp_ift z ?_
 refine wp_seq (wrl (wv (.int .i64 (2:Int)) z z z (wl_nil (tn (wp_ret (blk_r (then_r ?_)))))))
 replace hst := hst.objO_nil at_session_Table
 obtain rfl := some_inj hm
 refine post_ret (vs := [I6 (2:Int)]) results124 (rvs_cons (rv_tmp z) rvs_nil) ?_
 exact ⟨z, hst.keep1⟩
}
 {
 replace hst := objO_get hst
 dsimp only [session_Table_Put] at hm
 refine calls_start (args := [p0, U6 a1, U6 a2, .agg #[I6 a3.E, U6 a3.Epoch, U6 a3.Index, r3_0, r3_1]]) func124 z ntmps124 (Nat.le_of_ble_eq_true z) ?_
 refine wp_seq (wrl ?_)
 obtain ⟨b397, w398, ew399, eb400, hst⟩ := hst.box [I6 a3.E, U6 a3.Epoch, U6 a3.Index, r3_0, r3_1] 33
 refine wl_run (v := Pt b397 0) (w' := w398) z z (x_al (by kernel_rfl) ew399 eb400) ?_
 refine wv (.int .i64 (0:Int)) z z z (wl_nil (tn (wp_seq (wp_block (wp_seq (wrl (wv (p0) z z z ?_)))))))
 replace hst := hst.pull1
 obtain ⟨b402, v403, rfl, hst'⟩ := at_session_Table_open hst
 clear hst
 have hst := hst'
 clear hst'
 refine wv (.bool false) z z (by kernel_rfl) (wv (.bool false) z z z (wl_nil (tn ?_)))
 refine wp_iff z ?_
 refine wp_seq (wrl (wv (.int .u64 a2) z z z (wv (.bool (a2 == (0:Int))) z z z (wv (.bool (a2 == (0:Int))) z z z (wl_nil (tn ?_))))))
 refine bsplit (a2 == (0:Int)) (fun hc405 => ?_) (fun hc405 => ?_)
 {
 replace hm := bif_t hc405 hm
 refine wp_ift (cvb hc405) ?_
 refine wp_seq (wrl (wv (.int .i64 (1:Int)) z z z (wl_nil (tn (wp_ret (blk_r (then_r ?_)))))))
 replace hst := hst.pull1.pull1
 replace hst := at_session_Table_close (pv := Pt b402 0) (x := o0) hst z
 replace hst := objO_some hst
 obtain rfl := some_inj hm
 refine post_ret (vs := [I6 (1:Int)]) results124 (rvs_cons (rv_tmp z) rvs_nil) ?_
 exact ⟨z, hst.keep1⟩
}
 {
 replace hm := bif_f hc405 hm
 refine wp_iff (cvb hc405) ?_
 refine wp_skip (blk_n (tn (wp_seq (wrl ?_))))
 refine wv (Pt b402 0) z z z (wv (.int .u64 a1) z z z ?_)
 replace hst := hst.pull1.pull1
 replace hst := at_session_Table_close (pv := Pt b402 0) (x := o0) hst z
 replace hst := objO_some hst
 obtain ⟨t406, ht407, hm⟩ := bind_some hm
 refine wc call148 [Pt b402 0, U6 a1] z z z ?_
 refine (session_Table_find_ref hst.to1 ht407).mono ?_
 rintro _ w408 ⟨rfl, hst⟩
 refine ⟨_, z, ?_⟩
 replace hst := hst.of1
 replace hst := objO_get hst
 refine wv (.tuple #[I6 t406.1, .bool t406.2]) z z z (wv (.int .i64 t406.1) z z z (wv (.bool t406.2) z z z (wv (.int .i64 t406.1) z z z (wv (.bool t406.2) z z z (wl_nil (tn ?_))))))
 obtain ⟨y433, hm, hx434⟩ := joinO_some hm
 refine wp_cut (fun a w => ∃ (σ431 : Nat → Value), (session_Table_Put_j0 t406 o0 a1 a2 a3) () = some r ∧ a = Fr 66 (upd (upd (upd (upd (upd (upd σ431 0 (Pt b402 0)) 1 (.int .u64 a1)) 2 (.int .u64 a2)) 7 (Pt b397 0)) 9 (.int .i64 t406.1)) 10 (.bool t406.2)) ∧ St w0 w I [at_session_Table (Pt b402 0) o0, cells b397 [I6 a3.E, U6 a3.Epoch, U6 a3.Index, r3_0, r3_1]] R) ?_ ?_
 {
 refine wp_seq (wrl (wv (.bool t406.2) z z z (wv (.bool t406.2) z z z ?_)))
 refine bsplit t406.2 (fun hc411 => ?_) (fun hc411 => ?_)
 {
 replace hm := bif_t hc411 hm
 refine wv (Pt b402 0) ((wanted_eq z z z (cvb hc411)).trans z) z z ?_
 obtain ⟨b412, v413, e415, hst'⟩ := at_session_Table_open hst
 clear hst
 have e415 := ptr_inj e415
 subst e415
 have hst := hst'
 clear hst'
 refine wv (Pt b402 0) ((wanted_eq z z z (cvb hc411)).trans z) z z (wv (Pt b402 0) ((wanted_eq z z z (cvb hc411)).trans z) z (x_field z underlying206 z sizeOf204 z) (wv (v413) ((wanted_eq z z z (cvb hc411)).trans z) z (x_load z isAgg204 (hst.bc0 z)) (wv (.int .i64 t406.1) ((wanted_eq z z z (cvb hc411)).trans z) z z ?_)))
 obtain ⟨x416, hx417, hm⟩ := bind_some hm
 obtain ⟨h418, h419, hi420⟩ := geto_some hx417
 refine wv (.pointer (some (eAddr v413 (t406.1.toNat * 7 + 0)))) ((wanted_eq z z z (cvb hc411)).trans z) z (x_index z z underlying204 sizeOf242 hst.sv1 h418 h419) (wv (.pointer (some (eAddr v413 (t406.1.toNat * 7 + 1)))) ((wanted_eq z z z (cvb hc411)).trans z) z (x_field_e z underlying242 z sizeOf26 z) ?_)
 obtain ⟨cs421, hr422, hc423⟩ := hst.og1 hi420
 obtain ⟨v424, v427, rfl, f425, f428, -⟩ := hr422
 refine wv (.int .u64 x416.seq) ((wanted_eq z z z (cvb hc411)).trans z) z (x_load z isAgg26 (hc423 1 _ z)) (wv (.int .u64 a2) ((wanted_eq z z z (cvb hc411)).trans z) z z (wv (.bool (decide (x416.seq ≥ a2))) ((wanted_eq z z z (cvb hc411)).trans z) z z (wv (.bool (decide (x416.seq ≥ a2))) z z (x_pick_t hc411 z z) (wl_nil (tn ?_)))))
 refine bsplit (decide (x416.seq ≥ a2)) (fun hc430 => ?_) (fun hc430 => ?_)
 {
 replace hm := bif_t hc430 hm
 refine wp_ift (cvb hc430) ?_
 refine wp_seq (wrl (wv (.int .i64 (10:Int)) z z z (wl_nil (tn (wp_ret (then_r ?_))))))
 replace hm := inr_up hm hx434
 replace hst := hst.pull1.pull1
 replace hst := at_session_Table_close (pv := Pt b402 0) (x := o0) hst z
 replace hst := objO_some hst
 obtain rfl := some_inj hm
 refine post_ret (vs := [I6 (10:Int)]) results124 (rvs_cons (rv_tmp z) rvs_nil) ?_
 exact ⟨z, hst.keep1⟩
}
 {
 replace hm := bif_f hc430 hm
 refine wp_iff (cvb hc430) ?_
 refine wp_skip (tn ?_)
 replace hst := hst.pull1.pull1
 replace hst := at_session_Table_close (pv := Pt b402 0) (x := o0) hst z
 replace hst := hst.pull1.pull1.keep2
 obtain rfl := some_inj hm
 exact ⟨_, hx434, (fu 0 (Pt b402 0) z (fu 1 (.int .u64 a1) z (fu 2 (.int .u64 a2) z (fu 7 (Pt b397 0) z (fu 9 (.int .i64 t406.1) z (fu 10 (.bool t406.2) z z)))))), hst⟩
}
}
 {
 replace hm := bif_f hc411 hm
 refine wo hc411 z z z z z z (wo hc411 z z z z z z (wo hc411 z z z z z z (wo hc411 z z z z z z (wo hc411 z z z z z z (wo hc411 z z z z z z (wo hc411 z z z z z z (wo hc411 z z z z z z (wo hc411 z z z z z z (wo hc411 z z z z z z (wv (.bool false) z z (x_pick_f hc411 z z) (wl_nil (tn ?_))))))))))))
 refine wp_iff z ?_
 refine wp_skip (tn ?_)
 replace hst := hst.pull1.pull1.keep2
 obtain rfl := some_inj hm
 exact ⟨_, hx434, (fu 0 (Pt b402 0) z (fu 1 (.int .u64 a1) z (fu 2 (.int .u64 a2) z (fu 7 (Pt b397 0) z (fu 9 (.int .i64 t406.1) z (fu 10 (.bool t406.2) z z)))))), hst⟩
}
}
 {
 clear hst
 rintro _ w435 ⟨σ431, hm, rfl, hst⟩
 dsimp only [session_Table_Put_j0] at hm
 obtain ⟨y464, hm, hx465⟩ := bind_some hm
 refine wp_cut (fun a w => ∃ (z461 : session_Table) (σ462 : Nat → Value), (session_Table_Put_j1 t406 a2 a3) z461 = some r ∧ a = Fr 66 (upd (upd (upd (upd σ462 0 (Pt b402 0)) 2 (.int .u64 a2)) 7 (Pt b397 0)) 9 (.int .i64 t406.1)) ∧ St w0 w I [at_session_Table (Pt b402 0) z461, cells b397 [I6 a3.E, U6 a3.Epoch, U6 a3.Index, r3_0, r3_1]] R) ?_ ?_
 {
 refine wp_seq (wrl (wv (.bool t406.2) z z z (wv (.bool (!t406.2)) z z z (wl_nil (tn ?_)))))
 refine bsplit (!t406.2) (fun hc436 => ?_) (fun hc436 => ?_)
 {
 replace hm := bif_t hc436 hm
 refine wp_ift (cvb hc436) ?_
 refine wrl (wv (Pt b402 0) z z z (wv (Pt b402 0) z z z ?_))
 obtain ⟨b437, v438, e440, hst'⟩ := at_session_Table_open hst
 clear hst
 have e440 := ptr_inj e440
 subst e440
 have hst := hst'
 clear hst'
 refine wv (Pt b402 0) z z z (wv (Pt b402 0) z z (x_field z underlying206 z sizeOf204 z) (wv (v438) z z (x_load z isAgg204 (hst.bc0 z)) (wv (.int .i64 t406.1) z z z (wv (.int .u64 a1) z z z (wv (.agg #[U6 a1, Zu, Zi, Zu, Zu, Zs, Zs]) z z (by kernel_rfl) ?_)))))
 have f445 : Ro ty_api_Got I (.slice none 0 0) [] := ro_nil
 have f446 : Ro (tySl ty_api_Pair) I (.slice none 0 0) [] := ro_nil
 obtain ⟨b447, w448, ew449, eb450, hst⟩ := hst.lits (E := ty_session_row) (xs := [({ session := a1, seq := (0:Int), r := zero_api_Reply } : session_row)]) [[U6 a1, Zu, Zi, Zu, Zu, Zs, Zs]] 242 1 z (Reps.cons ⟨_, _, z, f445, f446, one_of_sliceV (ro_sliceV f445), one_of_sliceV (ro_sliceV f446)⟩ Reps.nil)
 refine wl_run (v := (.slice (some ⟨b447, 0, none⟩) 1 1)) (w' := w448) z z (x_als (by kernel_rfl) ew449 eb450) ?_
 replace hst := hst.pull2
 obtain ⟨t452, ht453, hm⟩ := bind_some hm
 refine wc call187 [v438, I6 t406.1, (.slice (some ⟨b447, 0, none⟩) 1 1)] z z z ?_
 refine (slices_Insert_session_row_session_row_ref hst.to2 ht453).mono ?_
 rintro _ w454 ⟨v457, rfl, hst⟩
 refine ⟨_, z, ?_⟩
 replace hst := hst.of1
 refine wv (Pt b402 0) z z z (wv (Pt b402 0) z z (x_field z underlying206 z sizeOf204 z) ?_)
 replace hst := hst.pull1
 obtain ⟨w459, hr460, hst⟩ := hst.boxStore1 (P := prog) (t := 204) (cs' := [v457]) 0 v457 (one_of_sliceV hst.sv1) sizeOf204 z z
 refine wl_unit z z (x_unit hr460) ?_
 refine wl_nil (tn ?_)
 replace hst := hst.pull1.pull1
 replace hst := at_session_Table_close (pv := Pt b402 0) (x := ({ l := t452 } : session_Table)) hst z
 replace hst := hst.pull1.pull1.keep2
 obtain rfl := some_inj hm
 exact ⟨({ l := t452 } : session_Table), _, hx465, (fu 0 (Pt b402 0) z (fu 2 (.int .u64 a2) z (fu 7 (Pt b397 0) z (fu 9 (.int .i64 t406.1) z z)))), hst⟩
}
 {
 replace hm := bif_f hc436 hm
 refine wp_iff (cvb hc436) ?_
 refine wp_skip (tn ?_)
 replace hst := hst.pull1.pull1.keep2
 obtain rfl := some_inj hm
 exact ⟨o0, _, hx465, (fu 0 (Pt b402 0) z (fu 2 (.int .u64 a2) z (fu 7 (Pt b397 0) z (fu 9 (.int .i64 t406.1) z z)))), hst⟩
}
}
 {
 clear hst
 rintro _ w466 ⟨z461, σ462, hm, rfl, hst⟩
 dsimp only [session_Table_Put_j1] at hm
 refine wp_seq ?_
 obtain ⟨b467, v468, e470, hst'⟩ := at_session_Table_open hst
 clear hst
 have e470 := ptr_inj e470
 subst e470
 have hst := hst'
 clear hst'
 refine wp_region_St hst 18 [0, 1, 2, 3, 4, 5, 6, 7, 8, 9, 10, 11, 12, 13, 14, 15, 16, 17] [0, 1, 3, 7, 0, 0, 32, 96, 224, 0, 0, 0, 1535, 5631, 13823, 32767, 65535, 131071] [] z (by kernel_rfl) (by kernel_rfl) Tryz.mixed (by kernel_rfl) ?_
 refine wsr (Pt b402 0) 0 z z z (by kernel_rfl) (fun w hst => z) (wsr (Pt b402 0) 1 z z z (by kernel_rfl) (fun w hst => z) (wsr (Pt b402 0) 2 z z z (by kernel_rfl) (fun w hst => x_field z underlying206 z sizeOf204 z) (wsr (v468) 3 z z z (by kernel_rfl) (fun w hst => x_load z isAgg204 (hst.bc0 z)) (wsr (.int .i64 t406.1) 4 z z z (by kernel_rfl) (fun w hst => z) (wsr (Pt b402 0) 5 z z z (by kernel_rfl) (fun w hst => z) (wsr (Pt b402 0) 6 z z z (by kernel_rfl) (fun w hst => z) (wsr (Pt b402 0) 7 z z z (by kernel_rfl) (fun w hst => x_field z underlying206 z sizeOf204 z) (wsr (v468) 8 z z z (by kernel_rfl) (fun w hst => x_load z isAgg204 (hst.bc0 z)) (wsr (.int .i64 t406.1) 9 z z z (by kernel_rfl) (fun w hst => z) (wsr (.int .u64 a2) 10 z z z (by kernel_rfl) (fun w hst => z) (wsr (.agg #[I6 a3.E, U6 a3.Epoch, U6 a3.Index, r3_0, r3_1]) 11 z z z (by kernel_rfl) (fun w hst => x_loadN (cs := [I6 a3.E, U6 a3.Epoch, U6 a3.Index, r3_0, r3_1]) z isAgg33 sizeOf33 (hst.bcs2 0 z)) ?_)))))))))))
 obtain ⟨x471, hx472, hm⟩ := bind_some hm
 obtain ⟨h473, h474, hi475⟩ := geto_some hx472
 refine wsr (.pointer (some (eAddr v468 (t406.1.toNat * 7 + 0)))) 12 z z z (by kernel_rfl) (fun w hst => x_index z z underlying204 sizeOf242 hst.sv1 h473 h474) (wsr (.pointer (some (eAddr v468 (t406.1.toNat * 7 + 1)))) 13 z z z (by kernel_rfl) (fun w hst => x_field_e z underlying242 z sizeOf26 z) ?_)
 refine ws_e1 14 (by kernel_rfl) ?_
 refine nxe [15, 16, 17] (by kernel_rfl) z z ?_
 clear hst
 intro w hst
 obtain ⟨cs476, hr477, hc478⟩ := hst.og1 hi475
 obtain ⟨v479, v482, rfl, f480, f483, -⟩ := hr477
 replace hst := hst.pull1
 obtain ⟨w485, hr486, hst⟩ := hst.own_store (P := prog) (t := 26) (y := ({ session := x471.session, seq := a2, r := x471.r } : session_row)) hi475 1 (.int .u64 a2) sizeOf26 (Nat.le_of_ble_eq_true z) (oC z oN) (by rintro _ ⟨u488, u489, rfl, f490, f491, o492, o493⟩; exact ⟨u488, u489, rfl, f490, f491, o492, o493⟩)
 have hi487 := set_get hi475 ({ session := x471.session, seq := a2, r := x471.r } : session_row)
 have h494 := set_lt h474 t406.1.toNat ({ session := x471.session, seq := a2, r := x471.r } : session_row)
 refine we_unit z (x_unit hr486) ?_
 refine ws_next (pend' := [(11, .agg #[I6 a3.E, U6 a3.Epoch, U6 a3.Index, r3_0, r3_1]), (9, I6 t406.1)]) hst (by kernel_rfl) (pkr z z (fun w hst => x_loadN (cs := [I6 a3.E, U6 a3.Epoch, U6 a3.Index, r3_0, r3_1]) z isAgg33 sizeOf33 (hst.bcs2 0 z)) (pkr z z (fun w hst => z) pk_nil)) ?_
 refine wsr (.pointer (some (eAddr v468 (t406.1.toNat * 7 + 0)))) 15 z z z (by kernel_rfl) (fun w hst => x_index z z underlying204 sizeOf242 hst.sv0 h473 h494) (wsr (.pointer (some (eAddr v468 (t406.1.toNat * 7 + 2)))) 16 z z z (by kernel_rfl) (fun w hst => x_field_e z underlying242 z sizeOf33 z) ?_)
 refine ws_e1 17 (by kernel_rfl) ?_
 refine nxe [] (by kernel_rfl) z z ?_
 clear hst
 intro w hst
 obtain ⟨cs495, hr496, hc497⟩ := hst.og0 hi487
 obtain ⟨v498, v501, rfl, f499, f502, -⟩ := hr496
 obtain ⟨w504, hr505, hst⟩ := hst.own_store (P := prog) (t := 33) (y := ({ session := ({ session := x471.session, seq := a2, r := x471.r } : session_row).session, seq := ({ session := x471.session, seq := a2, r := x471.r } : session_row).seq, r := a3 } : session_row)) hi487 2 (.agg #[I6 a3.E, U6 a3.Epoch, U6 a3.Index, r3_0, r3_1]) sizeOf33 (Nat.le_of_ble_eq_true z) (oC z (oC z (oC z (oC (one_of_sliceV (ro_sliceV f3_0)) (oC (one_of_sliceV (ro_sliceV f3_1)) oN))))) (by rintro _ ⟨u507, u508, rfl, f509, f510, o511, o512⟩; exact ⟨_, _, rfl, f3_0, f3_1, one_of_sliceV (ro_sliceV f3_0), one_of_sliceV (ro_sliceV f3_1)⟩)
 have hi506 := set_get hi487 ({ session := ({ session := x471.session, seq := a2, r := x471.r } : session_row).session, seq := ({ session := x471.session, seq := a2, r := x471.r } : session_row).seq, r := a3 } : session_row)
 have h513 := set_lt h494 t406.1.toNat ({ session := ({ session := x471.session, seq := a2, r := x471.r } : session_row).session, seq := ({ session := x471.session, seq := a2, r := x471.r } : session_row).seq, r := a3 } : session_row)
 refine we_unit z (x_unit hr505) ?_
 refine ws_next (pend' := []) hst (by kernel_rfl) pk_nil ?_
 refine ws_nil ?_
 intro w hst
 refine tn (wp_seq (wrl (wv (.int .i64 (0:Int)) z z z (wl_nil (tn (wp_ret ?_))))))
 replace hst := hst.pull1
 replace hst := at_session_Table_close (pv := Pt b402 0) (x := ({ l := ((z461.l.set t406.1.toNat ({ session := x471.session, seq := a2, r := x471.r } : session_row)).set t406.1.toNat ({ session := ({ session := x471.session, seq := a2, r := x471.r } : session_row).session, seq := ({ session := x471.session, seq := a2, r := x471.r } : session_row).seq, r := a3 } : session_row)) } : session_Table)) hst z
 replace hst := objO_some hst
 obtain rfl := some_inj hm
 refine post_ret (vs := [Zi]) results124 (rvs_cons (rv_tmp z) rvs_nil) ?_
 exact ⟨z, hst.keep1⟩
}
}
}
}
}

theorem session_Table_Last_ref {w0 w : World} {I : HL} {R : SP} {a0 : (Option session_Table)} {p0 : Value} {a1 : Int}  (hst : St w0 w I [objO at_session_Table p0 a0] R) {r : (Int)} (hm : session_Table_Last a0 a1 = some r) :
  Calls prog 61 #[p0, U6 a1] w fun e w' => e = .returned (.int .u64 r) ∧ St w0 w' I [objO at_session_Table p0 a0] R := by {
 rcases a0 with _ | o0
 {
 obtain ⟨rfl, hst'⟩ := objO_none hst
 clear hst
 have hst := hst'
 clear hst'
 dsimp only [session_Table_Last] at hm
 refine calls_start (args := [.pointer none, U6 a1]) func61 z ntmps61 (Nat.le_of_ble_eq_true z) ?_
 refine wp_seq (wrl (wv (.int .u64 (0:Int)) z z z (wl_nil (tn (wp_seq (wrl (wv (.pointer none) z z z (wv (.int .u64 a1) z z z ?_))))))))
 replace hst := hst.objO_nil at_session_Table
 obtain ⟨t391, ht392, hm⟩ := bind_some hm
 refine wc call148 [.pointer none, U6 a1] z z z ?_
 refine (session_Table_find_ref hst.to1 ht392).mono ?_
 rintro _ w393 ⟨rfl, hst⟩
 refine ⟨_, z, ?_⟩
 replace hst := hst.of1
 refine wv (.tuple #[I6 t391.1, .bool t391.2]) z z z (wv (.int .i64 t391.1) z z z (wv (.bool t391.2) z z z (wv (.int .i64 t391.1) z z z (wv (.bool t391.2) z z z (wl_nil (tn (wp_seq (wp_seq (wrl (wv (.bool t391.2) z z z (wv (.bool (!t391.2)) z z z (wl_nil (tn ?_)))))))))))))
 refine bsplit (!t391.2) (fun hc396 => ?_) (fun hc396 => ?_)
 {
 replace hm := bif_t hc396 hm
 refine wp_ift (cvb hc396) ?_
 refine wp_seq (wrl (wv (.int .u64 (0:Int)) z z z (wl_nil (tn (wp_ret (then_r ?_))))))
 replace hst := hst.objO_nil at_session_Table
 obtain rfl := some_inj hm
 refine post_ret (vs := [Zu]) results61 (rvs_cons (rv_tmp z) rvs_nil) ?_
 exact ⟨z, hst.keep1⟩
}
 {
 replace hm := bif_f hc396 hm
 refine wp_iff (cvb hc396) ?_
 refine wp_skip (tn (wp_seq (wrl ?_)))
 refine wv (.pointer none) z z z ?_
 cases hm
}
}
 {
 replace hst := objO_get hst
 dsimp only [session_Table_Last] at hm
 refine calls_start (args := [p0, U6 a1]) func61 z ntmps61 (Nat.le_of_ble_eq_true z) ?_
 refine wp_seq (wrl (wv (.int .u64 (0:Int)) z z z (wl_nil (tn (wp_seq (wrl (wv (p0) z z z (wv (.int .u64 a1) z z z ?_))))))))
 replace hst := objO_some hst
 obtain ⟨t397, ht398, hm⟩ := bind_some hm
 refine wc call148 [p0, U6 a1] z z z ?_
 refine (session_Table_find_ref hst.to1 ht398).mono ?_
 rintro _ w399 ⟨rfl, hst⟩
 refine ⟨_, z, ?_⟩
 replace hst := hst.of1
 replace hst := objO_get hst
 refine wv (.tuple #[I6 t397.1, .bool t397.2]) z z z (wv (.int .i64 t397.1) z z z (wv (.bool t397.2) z z z (wv (.int .i64 t397.1) z z z (wv (.bool t397.2) z z z (wl_nil (tn (wp_seq (wp_seq (wrl (wv (.bool t397.2) z z z (wv (.bool (!t397.2)) z z z (wl_nil (tn ?_)))))))))))))
 refine bsplit (!t397.2) (fun hc402 => ?_) (fun hc402 => ?_)
 {
 replace hm := bif_t hc402 hm
 refine wp_ift (cvb hc402) ?_
 refine wp_seq (wrl (wv (.int .u64 (0:Int)) z z z (wl_nil (tn (wp_ret (then_r ?_))))))
 replace hst := objO_some hst
 obtain rfl := some_inj hm
 refine post_ret (vs := [Zu]) results61 (rvs_cons (rv_tmp z) rvs_nil) ?_
 exact ⟨z, hst.keep1⟩
}
 {
 replace hm := bif_f hc402 hm
 refine wp_iff (cvb hc402) ?_
 refine wp_skip (tn (wp_seq (wrl ?_)))
 refine wv (p0) z z z ?_
 obtain ⟨b403, v404, rfl, hst'⟩ := at_session_Table_open hst
 clear hst
 have hst := hst'
 clear hst'
 refine wv (Pt b403 0) z z z (wv (Pt b403 0) z z (x_field z underlying206 z sizeOf204 z) (wv (v404) z z (x_load z isAgg204 (hst.bc0 z)) (wv (.int .i64 t397.1) z z z ?_)))
 obtain ⟨x406, hx407, hm⟩ := bind_some hm
 obtain ⟨h408, h409, hi410⟩ := geto_some hx407
 refine wv (.pointer (some (eAddr v404 (t397.1.toNat * 7 + 0)))) z z (x_index z z underlying204 sizeOf242 hst.sv1 h408 h409) (wv (.pointer (some (eAddr v404 (t397.1.toNat * 7 + 1)))) z z (x_field_e z underlying242 z sizeOf26 z) ?_)
 obtain ⟨cs411, hr412, hc413⟩ := hst.og1 hi410
 obtain ⟨v414, v417, rfl, f415, f418, -⟩ := hr412
 refine wv (.int .u64 x406.seq) z z (x_load z isAgg26 (hc413 1 _ z)) (wv (.int .u64 x406.seq) z z z (wl_nil (tn (wp_ret ?_))))
 replace hst := hst.pull1.pull1
 replace hst := at_session_Table_close (pv := Pt b403 0) (x := o0) hst z
 replace hst := objO_some hst
 obtain rfl := some_inj hm
 refine post_ret (vs := [U6 x406.seq]) results61 (rvs_cons (rv_tmp z) rvs_nil) ?_
 exact ⟨z, hst.keep1⟩
}
}
}

theorem lane_State_late_ref {w0 w : World} {I : HL} {R : SP} {a0 : (Option lane_State)} {p0 : Value} {a1 : api_ID}  (hst : St w0 w I [objO at_lane_State p0 a0] R) {r : (api_Effect)} (hm : lane_State_late a0 a1 = some r) :
  Calls prog 125 #[p0, .agg #[U6 a1.Session, U6 a1.Seq]] w fun e w' => ∃ (q0_0 : Value) (q0_1 : Value), e = .returned (.agg #[U1 r.Kind, U6 r.ID.Session, U6 r.ID.Seq, I6 r.R.E, U6 r.R.Epoch, U6 r.R.Index, q0_0, q0_1]) ∧ St w0 w' I [ownS ty_api_Got q0_0 r.R.Gots, ownS (tySl ty_api_Pair) q0_1 r.R.Scans, objO at_lane_State p0 a0] R := by {
 rcases a0 with _ | o0
 {
 obtain ⟨rfl, hst'⟩ := objO_none hst
 clear hst
 have hst := hst'
 clear hst'
 dsimp only [lane_State_late] at hm
 refine calls_start (args := [.pointer none, .agg #[U6 a1.Session, U6 a1.Seq]]) func125 z ntmps125 (Nat.le_of_ble_eq_true z) ?_
 refine wp_seq (wrl ?_)
 obtain ⟨b402, w403, ew404, eb405, hst⟩ := hst.box [U6 a1.Session, U6 a1.Seq] 28
 refine wl_run (v := Pt b402 0) (w' := w403) z z (x_al (by kernel_rfl) ew404 eb405) ?_
 obtain ⟨b409, w410, ew411, eb412, hst⟩ := hst.box [Zb, Zu, Zu, Zi, Zu, Zu, Zs, Zs] 35
 refine wl_run (v := Pt b409 0) (w' := w410) z z (x_al (by kernel_rfl) ew411 eb412) ?_
 refine wl_nil (tn (wp_seq (wp_seq ?_)))
 refine wp_region_St hst 10 [0, 1, 2, 3, 4, 5, 6, 7, 8, 9] [0, 1, 3, 7, 0, 16, 63, 0, 128, 511] [] z (by kernel_rfl) (by kernel_rfl) Tryz.mixed (by kernel_rfl) ?_
 refine wsr (.pointer none) 0 z z z (by kernel_rfl) (fun w hst => z) ?_
 cases hm
}
 {
 replace hst := objO_get hst
 dsimp only [lane_State_late] at hm
 refine calls_start (args := [p0, .agg #[U6 a1.Session, U6 a1.Seq]]) func125 z ntmps125 (Nat.le_of_ble_eq_true z) ?_
 refine wp_seq (wrl ?_)
 obtain ⟨b414, w415, ew416, eb417, hst⟩ := hst.box [U6 a1.Session, U6 a1.Seq] 28
 refine wl_run (v := Pt b414 0) (w' := w415) z z (x_al (by kernel_rfl) ew416 eb417) ?_
 obtain ⟨b421, w422, ew423, eb424, hst⟩ := hst.box [Zb, Zu, Zu, Zi, Zu, Zu, Zs, Zs] 35
 refine wl_run (v := Pt b421 0) (w' := w422) z z (x_al (by kernel_rfl) ew423 eb424) ?_
 refine wl_nil (tn (wp_seq (wp_seq ?_)))
 replace hst := hst.pull2
 obtain ⟨b426, v427, v429, v431, v433, v435, v437, v439, rfl, hst'⟩ := at_lane_State_open hst
 clear hst
 have hst := hst'
 clear hst'
 refine wp_region_St hst 10 [0, 1, 2, 3, 4, 5, 6, 7, 8, 9] [0, 1, 3, 7, 0, 16, 63, 0, 128, 511] [] z (by kernel_rfl) (by kernel_rfl) Tryz.mixed (by kernel_rfl) ?_
 refine wsr (Pt b426 0) 0 z z z (by kernel_rfl) (fun w hst => z) (wsr (Pt b426 0) 1 z z z (by kernel_rfl) (fun w hst => z) (wsr (Pt b426 4) 2 z z z (by kernel_rfl) (fun w hst => x_field z underlying111 z sizeOf105 z) (wsr (v431) 3 z z z (by kernel_rfl) (fun w hst => x_load z isAgg105 (hst.bc0 z)) (wsr (Pt b414 0) 4 z z z (by kernel_rfl) (fun w hst => x_field z underlying28 z sizeOf26 z) (wsr (.int .u64 a1.Session) 5 z z z (by kernel_rfl) (fun w hst => x_load z isAgg26 (hst.bc9 z)) (wsr (Pt b414 1) 7 z z z (by kernel_rfl) (fun w hst => x_field z underlying28 z sizeOf26 z) (wsr (.int .u64 a1.Seq) 8 z z z (by kernel_rfl) (fun w hst => x_load z isAgg26 (hst.bc9 z)) ?_)))))))
 refine ws_e1 6 (by kernel_rfl) ?_
 refine nxe [9] (by kernel_rfl) z z ?_
 clear hst
 intro w hst
 replace hst := hst.pull3
 obtain ⟨t441, ht442, hm⟩ := bind_some hm
 refine wec call61 [v431, U6 a1.Session] z z ?_
 refine (session_Table_Last_ref hst.to1 ht442).mono ?_
 rintro _ w443 ⟨rfl, hst⟩
 refine ⟨_, z, ?_⟩
 replace hst := hst.of1
 refine ws_next (pend' := [(8, U6 a1.Seq), (7, Pt b414 1)]) hst (by kernel_rfl) (pkr z z (fun w hst => x_load z isAgg26 (hst.bc9 z)) (pkr z z (fun w hst => x_field z underlying28 z sizeOf26 z) pk_nil)) ?_
 refine wsr (.bool (decide (t441 ≤ a1.Seq))) 9 z z z (by kernel_rfl) (fun w hst => z) ?_
 refine ws_nil ?_
 intro w hst
 refine tn ?_
 refine bsplit (decide (t441 ≤ a1.Seq)) (fun hc446 => ?_) (fun hc446 => ?_)
 {
 replace hm := bif_t hc446 hm
 refine wp_ift (cvb hc446) ?_
 refine wp_seq (wrl (wv (.agg #[Zb, Zu, Zu, Zi, Zu, Zu, Zs, Zs]) z z (by kernel_rfl) ?_))
 replace hst := hst.pull8
 obtain ⟨w449, hr450, hst⟩ := hst.bx [Zb, Zu, Zu, Zi, Zu, Zu, Zs, Zs] sizeOf35 z (oC z (oC z (oC z (oC z (oC z (oC z (oC z (oC z oN)))))))) (by kernel_rfl)
 refine wl_unit z z (x_unit hr450) ?_
 refine wl_nil (tn (wp_ret (then_r ?_)))
 replace hst := hst.own_nil ty_api_Got
 replace hst := hst.own_nil (tySl ty_api_Pair)
 replace hst := hst.pull10.pull10.pull10.pull10.pull7.pull10.pull10.pull10
 replace hst := at_lane_State_close (pv := Pt b426 0) (x := o0) hst z
 replace hst := objO_some hst
 obtain rfl := some_inj hm
 refine post_ret (vs := [.agg #[Zb, Zu, Zu, Zi, Zu, Zu, Zs, Zs]]) results125 (rvs_cons (rv_cell (cs := [Zb, Zu, Zu, Zi, Zu, Zu, Zs, Zs]) z isAgg35 sizeOf35 (hst.bcs3 0 z)) rvs_nil) ?_
 replace hst := hst.pull1.pull2
 exact ⟨(.slice none 0 0), Zs, z, hst.keep3⟩
}
 {
 replace hm := bif_f hc446 hm
 refine wp_iff (cvb hc446) ?_
 refine wp_skip (tn (wp_seq (wrl ?_)))
 refine wv (.agg #[U6 a1.Session, U6 a1.Seq]) z z (x_loadN (cs := [U6 a1.Session, U6 a1.Seq]) z isAgg28 sizeOf28 (hst.bcs9 0 z)) (wv (.agg #[I6 (10:Int), Zu, Zu, Zs, Zs]) z z (by kernel_rfl) (wv (.agg #[U1 (4:Int), U6 a1.Session, U6 a1.Seq, I6 (10:Int), Zu, Zu, Zs, Zs]) z z (by kernel_rfl) ?_))
 replace hst := hst.pull8
 obtain ⟨w455, hr456, hst⟩ := hst.bx [U1 (4:Int), U6 a1.Session, U6 a1.Seq, I6 (10:Int), Zu, Zu, Zs, Zs] sizeOf35 z (oC z (oC z (oC z (oC z (oC z (oC z (oC z (oC z oN)))))))) (by kernel_rfl)
 refine wl_unit z z (x_unit hr456) ?_
 refine wl_nil (tn (wp_ret ?_))
 replace hst := hst.own_nil ty_api_Got
 replace hst := hst.own_nil (tySl ty_api_Pair)
 replace hst := hst.pull10.pull10.pull10.pull10.pull7.pull10.pull10.pull10
 replace hst := at_lane_State_close (pv := Pt b426 0) (x := o0) hst z
 replace hst := objO_some hst
 obtain rfl := some_inj hm
 refine post_ret (vs := [.agg #[U1 (4:Int), U6 a1.Session, U6 a1.Seq, I6 (10:Int), Zu, Zu, Zs, Zs]]) results125 (rvs_cons (rv_cell (cs := [U1 (4:Int), U6 a1.Session, U6 a1.Seq, I6 (10:Int), Zu, Zu, Zs, Zs]) z isAgg35 sizeOf35 (hst.bcs3 0 z)) rvs_nil) ?_
 replace hst := hst.pull1.pull2
 exact ⟨(.slice none 0 0), Zs, z, hst.keep3⟩
}
}
}

theorem slices_Clone_api_Part_api_Part_ref {w0 w : World} {I : HL} {R : SP} {a0 : (List api_Part)} {r0_0 : Value} (f0_0 : RdO ty_api_Part R I r0_0 a0) (hst : St w0 w I [] R) {r : (List api_Part)} (hm : slices_Clone_api_Part_api_Part a0 = some r) :
  Calls prog 126 #[r0_0] w fun e w' => ∃ (q0_0 : Value), e = .returned (q0_0) ∧ St w0 w' I [ownS ty_api_Part q0_0 r] R := by {
 unfold slices_Clone_api_Part_api_Part at hm
 obtain ⟨hg, hm⟩ := gd_some hm
 obtain rfl := some_inj hm
 have hsv := rdo_sliceV f0_0
 refine calls_start (args := [r0_0]) func126 z ntmps126 (Nat.le_of_ble_eq_true z) ?_
 refine wp_seq (wrl (wv ((.slice none 0 0)) z z z (wl_nil (tn (wp_seq (wp_seq (wrl (wv (r0_0) z z z (wv (.bool (isNil r0_0)) z z (x_slnil z hsv z underlying47) (wl_nil (tn ?_)))))))))))
 refine bsplit (isNil r0_0) (fun hc367 => ?_) (fun hc367 => ?_)
 {
 refine wp_ift (cvb hc367) ?_
 refine wp_seq (wrl (wv ((.slice none 0 0)) z z z (wl_nil (tn (wp_ret (then_r ?_))))))
 refine post_ret (vs := [Zs]) results126 (rvs_cons (rv_tmp z) rvs_nil) ?_
 obtain rfl := List.eq_nil_of_length_eq_zero (isNil_len hsv hc367)
 exact ⟨_, z, (hst.own_nil ty_api_Part).keep1⟩
}
 {
 refine wp_iff (cvb hc367) ?_
 refine wp_skip (tn (wp_seq (wrl ?_)))
 obtain ⟨b, w1, ew, eb, hst⟩ := hst.lits (E := ty_api_Part) (xs := []) [] 156 0 z Reps.nil
 refine wl_run (v := (.slice (some ⟨b, 0, none⟩) 0 0)) (w' := w1) z z (x_als (by kernel_rfl) ew eb) ?_
 refine wv (r0_0) z z z ?_
 obtain ⟨v2, w2, hr, hst⟩ := run_append elem_47 underlying47 hst (Src.of_rdo hst f0_0) (room_of hg z) 47
 refine wl_run (v := v2) (w' := w2) z z (x_append z z hr) ?_
 refine wv (v2) z z z (wl_nil (tn (wp_ret ?_)))
 refine post_ret (vs := [v2]) results126 (rvs_cons (rv_tmp z) rvs_nil) ?_
 rw [List.nil_append] at hst
 exact ⟨_, z, hst.keep1⟩
}
}

theorem lane_State_find_1_ref {w0 w : World} {I : HL} {R : SP} {a0 : api_Decision} {r0_0 : Value} {a1 : api_ID} (f0_0 : Rd ty_api_Part R I r0_0 a0.Parts) (hst : St w0 w I [] R) {r : (Int)} (hm : lane_State_find_1 a0 a1 = some r) :
  Calls prog 129 #[.agg #[U6 a0.ID.Session, U6 a0.ID.Seq, I6 a0.E, U6 a0.Epoch, U6 a0.Index, U6 a0.Shards, r0_0], .agg #[U6 a1.Session, U6 a1.Seq]] w fun e w' => e = .returned (.int .i64 r) ∧ St w0 w' I [] R := by {
 unfold lane_State_find_1 at hm
 refine calls_start (args := [.agg #[U6 a0.ID.Session, U6 a0.ID.Seq, I6 a0.E, U6 a0.Epoch, U6 a0.Index, U6 a0.Shards, r0_0], .agg #[U6 a1.Session, U6 a1.Seq]]) func129 z ntmps129 (Nat.le_of_ble_eq_true z) ?_
 refine wp_seq (wrl ?_)
 obtain ⟨b463, w464, ew465, eb466, hst⟩ := hst.box [U6 a0.ID.Session, U6 a0.ID.Seq, I6 a0.E, U6 a0.Epoch, U6 a0.Index, U6 a0.Shards, r0_0] 89
 refine wl_run (v := Pt b463 0) (w' := w464) z z (x_al (by kernel_rfl) ew465 eb466) ?_
 obtain ⟨b468, w469, ew470, eb471, hst⟩ := hst.box [U6 a1.Session, U6 a1.Seq] 28
 refine wl_run (v := Pt b468 0) (w' := w469) z z (x_al (by kernel_rfl) ew470 eb471) ?_
 refine wv (.int .i64 (0:Int)) z z z (wl_nil (tn (wp_seq ?_)))
 refine wp_region_St hst 15 [0, 1, 2, 3, 4, 5, 6, 7, 8, 9, 10, 11, 12, 13, 14] [0, 1, 3, 0, 8, 31, 0, 64, 192, 0, 512, 2047, 4095, 8191, 16383] [] z (by kernel_rfl) (by kernel_rfl) Tryz.mixed (by kernel_rfl) ?_
 refine wsr (Pt b463 0) 0 z z z (by kernel_rfl) (fun w hst => x_field z underlying89 z sizeOf28 z) (wsr (Pt b463 0) 1 z z z (by kernel_rfl) (fun w hst => x_field z underlying28 z sizeOf26 z) (wsr (.int .u64 a0.ID.Session) 2 z z z (by kernel_rfl) (fun w hst => x_load z isAgg26 (hst.bc1 z)) (wsr (Pt b468 0) 3 z z z (by kernel_rfl) (fun w hst => x_field z underlying28 z sizeOf26 z) (wsr (.int .u64 a1.Session) 4 z z z (by kernel_rfl) (fun w hst => x_load z isAgg26 (hst.bc0 z)) (wsr (Pt b463 0) 6 z z z (by kernel_rfl) (fun w hst => x_field z underlying89 z sizeOf28 z) (wsr (Pt b463 1) 7 z z z (by kernel_rfl) (fun w hst => x_field z underlying28 z sizeOf26 z) (wsr (.int .u64 a0.ID.Seq) 8 z z z (by kernel_rfl) (fun w hst => x_load z isAgg26 (hst.bc1 z)) (wsr (Pt b468 1) 9 z z z (by kernel_rfl) (fun w hst => x_field z underlying28 z sizeOf26 z) (wsr (.int .u64 a1.Seq) 10 z z z (by kernel_rfl) (fun w hst => x_load z isAgg26 (hst.bc0 z)) ?_)))))))))
 refine ws_e1 5 (by kernel_rfl) ?_
 refine nxe [11, 12, 13, 14] (by kernel_rfl) z z ?_
 clear hst
 intro w hst
 obtain ⟨t473, ht474, hm⟩ := bind_some hm
 refine wec call131 [U6 a0.ID.Session, U6 a1.Session] z z ?_
 refine (cmp_Compare_uint64_ref hst.to0 ht474).mono ?_
 rintro _ w475 ⟨rfl, hst⟩
 refine ⟨_, z, ?_⟩
 replace hst := hst.of0
 refine ws_next (pend' := [(10, U6 a1.Seq), (9, Pt b468 1), (8, U6 a0.ID.Seq), (7, Pt b463 1), (6, Pt b463 0)]) hst (by kernel_rfl) (pkr z z (fun w hst => x_load z isAgg26 (hst.bc0 z)) (pkr z z (fun w hst => x_field z underlying28 z sizeOf26 z) (pkr z z (fun w hst => x_load z isAgg26 (hst.bc1 z)) (pkr z z (fun w hst => x_field z underlying28 z sizeOf26 z) (pkr z z (fun w hst => x_field z underlying89 z sizeOf28 z) pk_nil))))) ?_
 refine ws_e1 11 (by kernel_rfl) ?_
 refine nxe [12, 13, 14] (by kernel_rfl) z z ?_
 clear hst
 intro w hst
 obtain ⟨t478, ht479, hm⟩ := bind_some hm
 refine wec call131 [U6 a0.ID.Seq, U6 a1.Seq] z z ?_
 refine (cmp_Compare_uint64_ref hst.to0 ht479).mono ?_
 rintro _ w480 ⟨rfl, hst⟩
 refine ⟨_, z, ?_⟩
 replace hst := hst.of0
 refine ws_next (pend' := []) hst (by kernel_rfl) pk_nil ?_
 refine ws_e1 12 (by kernel_rfl) ?_
 refine nxe [13, 14] (by kernel_rfl) z z ?_
 clear hst
 intro w hst
 obtain ⟨b483, w484, ew485, eb486, hst⟩ := hst.lits (E := (tyInt .i64)) (xs := [t473, t478]) [[I6 t473], [I6 t478]] 3 2 z (Reps.cons z (Reps.cons z Reps.nil))
 refine we_run (v := (.slice (some ⟨b483, 0, none⟩) 2 2)) (w' := w484) z (x_als (by kernel_rfl) ew485 eb486) ?_
 refine ws_next (pend' := []) hst (by kernel_rfl) pk_nil ?_
 refine ws_e1 13 (by kernel_rfl) ?_
 refine nxe [14] (by kernel_rfl) z z ?_
 clear hst
 intro w hst
 obtain ⟨css488, hq489, hst⟩ := hst.own_open
 obtain ⟨t490, ht491, hm⟩ := bind_some hm
 refine wec call130 [(.slice (some ⟨b483, 0, none⟩) 2 2)] z z ?_
 refine (cmp_Or_int_ref (hst.rdrow0 hq489) hst.to0 ht491).mono ?_
 rintro _ w492 ⟨rfl, hst⟩
 refine ⟨_, z, ?_⟩
 replace hst := hst.of0.own_close hq489
 refine ws_next (pend' := []) hst (by kernel_rfl) pk_nil ?_
 refine wsr (.int .i64 t490) 14 z z z (by kernel_rfl) (fun w hst => z) ?_
 refine ws_nil ?_
 intro w hst
 refine tn (wp_ret ?_)
 obtain rfl := some_inj hm
 refine post_ret (vs := [I6 t490]) results129 (rvs_cons (rv_tmp z) rvs_nil) ?_
 exact ⟨z, hst.keep0⟩
}

theorem lane_State_find_ref {w0 w : World} {I : HL} {R : SP} {a0 : (Option lane_State)} {p0 : Value} {a1 : api_ID}  (hst : St w0 w I [objO at_lane_State p0 a0] R) {r : (Int × Bool)} (hm : lane_State_find a0 a1 = some r) :
  Calls prog 51 #[p0, .agg #[U6 a1.Session, U6 a1.Seq]] w fun e w' => e = .returned (.tuple #[I6 r.1, .bool r.2]) ∧ St w0 w' I [objO at_lane_State p0 a0] R := by {
 rcases a0 with _ | o0
 {
 obtain ⟨rfl, hst'⟩ := objO_none hst
 clear hst
 have hst := hst'
 clear hst'
 dsimp only [lane_State_find] at hm
 refine calls_start (args := [.pointer none, .agg #[U6 a1.Session, U6 a1.Seq]]) func51 z ntmps51 (Nat.le_of_ble_eq_true z) ?_
 refine wp_seq (wrl ?_)
 obtain ⟨b519, w520, ew521, eb522, hst⟩ := hst.box [U6 a1.Session, U6 a1.Seq] 28
 refine wl_run (v := Pt b519 0) (w' := w520) z z (x_al (by kernel_rfl) ew521 eb522) ?_
 refine wv (.int .i64 (0:Int)) z z z (wv (.bool false) z z z (wl_nil (tn (wp_seq ?_))))
 refine wp_region_St hst 10 [0, 1, 2, 3, 4, 5, 6, 7, 8, 9] [0, 1, 3, 7, 0, 31, 63, 63, 255, 511] [] z (by kernel_rfl) (by kernel_rfl) Tryz.mixed (by kernel_rfl) ?_
 refine wsr (.pointer none) 0 z z z (by kernel_rfl) (fun w hst => z) ?_
 cases hm
}
 {
 replace hst := objO_get hst
 dsimp only [lane_State_find] at hm
 refine calls_start (args := [p0, .agg #[U6 a1.Session, U6 a1.Seq]]) func51 z ntmps51 (Nat.le_of_ble_eq_true z) ?_
 refine wp_seq (wrl ?_)
 obtain ⟨b524, w525, ew526, eb527, hst⟩ := hst.box [U6 a1.Session, U6 a1.Seq] 28
 refine wl_run (v := Pt b524 0) (w' := w525) z z (x_al (by kernel_rfl) ew526 eb527) ?_
 refine wv (.int .i64 (0:Int)) z z z (wv (.bool false) z z z (wl_nil (tn (wp_seq ?_))))
 replace hst := hst.pull1
 obtain ⟨b529, v530, v532, v534, v536, v538, v540, v542, rfl, hst'⟩ := at_lane_State_open hst
 clear hst
 have hst := hst'
 clear hst'
 refine wp_region_St hst 10 [0, 1, 2, 3, 4, 5, 6, 7, 8, 9] [0, 1, 3, 7, 0, 31, 63, 63, 255, 511] [] z (by kernel_rfl) (by kernel_rfl) Tryz.mixed (by kernel_rfl) ?_
 refine wsr (Pt b529 0) 0 z z z (by kernel_rfl) (fun w hst => z) (wsr (Pt b529 0) 1 z z z (by kernel_rfl) (fun w hst => z) (wsr (Pt b529 6) 2 z z z (by kernel_rfl) (fun w hst => x_field z underlying111 z sizeOf65 z) (wsr (v538) 3 z z z (by kernel_rfl) (fun w hst => x_load z isAgg65 (hst.bc0 z)) (wsr (.agg #[U6 a1.Session, U6 a1.Seq]) 4 z z z (by kernel_rfl) (fun w hst => x_loadN (cs := [U6 a1.Session, U6 a1.Seq]) z isAgg28 sizeOf28 (hst.bcs8 0 z)) ?_))))
 refine ws_e1 5 (by kernel_rfl) ?_
 refine nxe [6, 7, 8, 9] (by kernel_rfl) z z ?_
 clear hst
 intro w hst
 obtain ⟨y649, hq650, hm⟩ := bind_some hm
 refine we_call z (x_callv call128 (caps := []) z (vs := [v538, .agg #[U6 a1.Session, U6 a1.Seq], .func (.func 129) #[] #[]]) z) ?_
 refine Calls.mono (show Calls prog 128 #[v538, .agg #[U6 a1.Session, U6 a1.Seq], .func (.func 129) #[] #[]] _ (fun e w' => ∃ (z646 : Int) (z647 : Bool), (z646, z647) = y649 ∧ e = .returned (.tuple #[I6 z646, .bool z647]) ∧ St w0 w' I [cells b529 [I6 o0.wide, U6 o0.epoch, v530, v532, v534, v536, v538, v540, v542], objO at_mvcc_Store v530 o0.store, objO at_locks_Table v532 o0.locks, objO at_session_Table v534 o0.last, objO at_policy_Book v536 o0.book, ownS ty_api_Decision v538 o0.open_, ownS ty_api_Item v540 o0.out, ownS ty_lane_used v542 o0.used, cells b524 [U6 a1.Session, U6 a1.Seq]] R) from ?_) ?_
 {
 clear hm; have hm := hq650
 refine calls_start (args := [v538, .agg #[U6 a1.Session, U6 a1.Seq], .func (.func 129) #[] #[]]) func128 z ntmps128 (Nat.le_of_ble_eq_true z) ?_
 refine wp_seq (wrl ?_)
 obtain ⟨b544, w545, ew546, eb547, hst⟩ := hst.box [U6 a1.Session, U6 a1.Seq] 28
 refine wl_run (v := Pt b544 0) (w' := w545) z z (x_al (by kernel_rfl) ew546 eb547) ?_
 refine wv (.int .i64 (0:Int)) z z z (wv (.bool false) z z z (wl_nil (tn (wp_seq (wrl (wv (v538) z z z (wv (.int .i64 ((o0.open_).length : Int)) z z (x_len z underlying65 hst.sv6) (wv (.int .i64 ((o0.open_).length : Int)) z z z (wl_nil (tn (wp_seq (wrl (wv (.int .i64 ((o0.open_).length : Int)) z z z (wv (.int .i64 (0:Int)) z z z (wv (.int .i64 ((o0.open_).length : Int)) z z z (wl_nil (tn ?_)))))))))))))))))
 obtain ⟨y624, hm, hx625⟩ := bind_some hm
 refine wp_cut (fun a w => ∃ (z621 : Int) (σ622 : Nat → Value), (lane_State_find_j0 o0 a1) z621 = some y649 ∧ a = Fr 49 (upd (upd (upd (upd (upd σ622 0 (v538)) 2 (.func (.func 129) #[] #[])) 4 (Pt b544 0)) 8 (.int .i64 ((o0.open_).length : Int))) 9 (.int .i64 z621)) ∧ St w0 w I [ownS ty_api_Decision v538 o0.open_, cells b544 [U6 a1.Session, U6 a1.Seq], cells b529 [I6 o0.wide, U6 o0.epoch, v530, v532, v534, v536, v538, v540, v542], objO at_mvcc_Store v530 o0.store, objO at_locks_Table v532 o0.locks, objO at_session_Table v534 o0.last, objO at_policy_Book v536 o0.book, ownS ty_api_Item v540 o0.out, ownS ty_lane_used v542 o0.used, cells b524 [U6 a1.Session, U6 a1.Seq]] R) ?_ ?_
 {
 refine wp_block ?_
 obtain ⟨n594, hm⟩ := loopO_some hm
 refine wp_loop_n (fun n a w => ∃ (z591 : Int) (z592 : Int) (σ593 : Nat → Value), loopN (lane_State_find_l1 o0 a1) n (z591, z592) = some y624 ∧ a = Fr 49 (upd (upd (upd (upd (upd (upd σ593 0 (v538)) 2 (.func (.func 129) #[] #[])) 4 (Pt b544 0)) 8 (.int .i64 ((o0.open_).length : Int))) 9 (.int .i64 z592)) 10 (.int .i64 z591)) ∧ St w0 w I [cells b544 [U6 a1.Session, U6 a1.Seq], cells b529 [I6 o0.wide, U6 o0.epoch, v530, v532, v534, v536, v538, v540, v542], objO at_mvcc_Store v530 o0.store, objO at_locks_Table v532 o0.locks, objO at_session_Table v534 o0.last, objO at_policy_Book v536 o0.book, ownS ty_api_Decision v538 o0.open_, ownS ty_api_Item v540 o0.out, ownS ty_lane_used v542 o0.used, cells b524 [U6 a1.Session, U6 a1.Seq]] R) n594 ⟨((o0.open_).length : Int), (0:Int), _, hm, (fu 0 v538 z (fu 2 (.func (.func 129) #[] #[]) z (fu 4 (Pt b544 0) z (fu 8 (.int .i64 ((o0.open_).length : Int)) z (fu 9 (.int .i64 (0:Int)) z (fu 10 (.int .i64 ((o0.open_).length : Int)) z z)))))), hst⟩ ?_
 rintro n600 _ w595 ⟨z591, z592, σ593, hm, rfl, hst⟩
 obtain ⟨n597, y598, rfl, hm, hx599⟩ := loopN_some hm
 dsimp only [lane_State_find_l1] at hm
 refine wp_seq (wp_seq (wrl (wv (.int .i64 z592) z z z (wv (.int .i64 z591) z z z (wv (.bool (decide (z592 < z591))) z z z (wl_nil (tn ?_)))))))
 refine bsplit (decide (z592 < z591)) (fun hc601 => ?_) (fun hc601 => ?_)
 {
 replace hm := bif_t hc601 hm
 refine wp_ift (cvb hc601) ?_
 refine wp_skip (tn (wp_block (wp_seq (wrl ?_))))
 refine wv (.int .i64 z592) z z z (wv (.int .i64 z591) z z z (wv (.int .i64 (i64.wrap (z592 + z591))) z z z (wv (.int .u64 (u64.wrap (i64.wrap (z592 + z591)))) z z (by kernel_rfl) (wv (.int .u64 (iShr .u64 (u64.wrap (i64.wrap (z592 + z591))) (1:Int))) z z (x_shr (by decide) z z) (wv (.int .i64 (i64.wrap (iShr .u64 (u64.wrap (i64.wrap (z592 + z591))) (1:Int)))) z z (by kernel_rfl) (wv (.int .i64 (i64.wrap (iShr .u64 (u64.wrap (i64.wrap (z592 + z591))) (1:Int)))) z z z (wl_nil (tn (wp_seq ?_)))))))))
 replace hst := hst.pull6
 obtain ⟨css602, hq603, hst⟩ := hst.own_open
 refine wp_region_St hst 8 [0, 1, 2, 3, 4, 5, 6, 7] [0, 0, 0, 6, 14, 0, 63, 127] [] z (by kernel_rfl) (by kernel_rfl) Tryz.mixed (by kernel_rfl) ?_
 refine wsr (.func (.func 129) #[] #[]) 0 z z z (by kernel_rfl) (fun w hst => z) (wsr (v538) 1 z z z (by kernel_rfl) (fun w hst => z) (wsr (.int .i64 (i64.wrap (iShr .u64 (u64.wrap (i64.wrap (z592 + z591))) (1:Int)))) 2 z z z (by kernel_rfl) (fun w hst => z) ?_))
 obtain ⟨x604, hx605, hm⟩ := bind_some hm
 obtain ⟨h606, h607, hi608⟩ := geto_some hx605
 refine wsr (.pointer (some (eAddr v538 ((i64.wrap (iShr .u64 (u64.wrap (i64.wrap (z592 + z591))) (1:Int))).toNat * 7 + 0)))) 3 z z z (by kernel_rfl) (fun w hst => x_index z z underlying65 sizeOf89 (hst.rsv 0 z hq603) h606 h607) ?_
 obtain ⟨cs609, hc611, hr610⟩ := Reps.get hq603 hi608
 obtain ⟨v612, rfl, f613, -⟩ := hr610
 refine wsr (.agg #[U6 x604.ID.Session, U6 x604.ID.Seq, I6 x604.E, U6 x604.Epoch, U6 x604.Index, U6 x604.Shards, v612]) 4 z z z (by kernel_rfl) (fun w hst => x_loadN (cs := [U6 x604.ID.Session, U6 x604.ID.Seq, I6 x604.E, U6 x604.Epoch, U6 x604.Index, U6 x604.Shards, v612]) z isAgg89 sizeOf89 (eCells (o := 0) (hst.rcell 0 z hc611) z)) (wsr (.agg #[U6 a1.Session, U6 a1.Seq]) 5 z z z (by kernel_rfl) (fun w hst => x_loadN (cs := [U6 a1.Session, U6 a1.Seq]) z isAgg28 sizeOf28 (hst.bcs1 0 z)) ?_)
 refine ws_e1 6 (by kernel_rfl) ?_
 refine nxe [7] (by kernel_rfl) z z ?_
 clear hst
 intro w hst
 obtain ⟨t615, ht616, hm⟩ := bind_some hm
 refine we_call z (x_callv call129 (caps := []) z (vs := [.agg #[U6 x604.ID.Session, U6 x604.ID.Seq, I6 x604.E, U6 x604.Epoch, U6 x604.Index, U6 x604.Shards, v612], .agg #[U6 a1.Session, U6 a1.Seq]]) z) ?_
 refine (lane_State_find_1_ref (f613.mono ro_rd) hst.to0 ht616).mono ?_
 rintro _ w617 ⟨rfl, hst⟩
 refine ⟨_, z, ?_⟩
 replace hst := hst.of0
 refine ws_next (pend' := []) hst (by kernel_rfl) pk_nil ?_
 refine wsr (.bool (decide (t615 < (0:Int)))) 7 z z z (by kernel_rfl) (fun w hst => z) ?_
 refine ws_nil ?_
 intro w hst
 replace hst := hst.own_close hq603
 refine tn ?_
 refine bsplit (decide (t615 < (0:Int))) (fun hc620 => ?_) (fun hc620 => ?_)
 {
 replace hm := bif_t hc620 hm
 refine wp_ift (cvb hc620) ?_
 refine wrl (wv (.int .i64 (i64.wrap (iShr .u64 (u64.wrap (i64.wrap (z592 + z591))) (1:Int)))) z z z (wv (.int .i64 (i64.wrap ((i64.wrap (iShr .u64 (u64.wrap (i64.wrap (z592 + z591))) (1:Int))) + (1:Int)))) z z z (wv (.int .i64 (i64.wrap ((i64.wrap (iShr .u64 (u64.wrap (i64.wrap (z592 + z591))) (1:Int))) + (1:Int)))) z z z (wl_nil (blk_n (tn ?_))))))
 replace hst := hst.pull9.pull9.pull9.pull3.pull9.pull9.pull9.pull9.pull9.pull9.keep10
 obtain rfl := some_inj hm
 exact ⟨_, Nat.lt_succ_self _, z591, (i64.wrap ((i64.wrap (iShr .u64 (u64.wrap (i64.wrap (z592 + z591))) (1:Int))) + (1:Int))), _, hx599, (fu 0 v538 z (fu 2 (.func (.func 129) #[] #[]) z (fu 4 (Pt b544 0) z (fu 8 (.int .i64 ((o0.open_).length : Int)) z (fu 9 (.int .i64 (i64.wrap ((i64.wrap (iShr .u64 (u64.wrap (i64.wrap (z592 + z591))) (1:Int))) + (1:Int)))) z (fu 10 (.int .i64 z591) z z)))))), hst⟩
}
 {
 replace hm := bif_f hc620 hm
 refine wp_iff (cvb hc620) ?_
 refine wrl (wv (.int .i64 (i64.wrap (iShr .u64 (u64.wrap (i64.wrap (z592 + z591))) (1:Int)))) z z z (wv (.int .i64 (i64.wrap (iShr .u64 (u64.wrap (i64.wrap (z592 + z591))) (1:Int)))) z z z (wl_nil (blk_n (tn ?_)))))
 replace hst := hst.pull9.pull9.pull9.pull3.pull9.pull9.pull9.pull9.pull9.pull9.keep10
 obtain rfl := some_inj hm
 exact ⟨_, Nat.lt_succ_self _, (i64.wrap (iShr .u64 (u64.wrap (i64.wrap (z592 + z591))) (1:Int))), z592, _, hx599, (fu 0 v538 z (fu 2 (.func (.func 129) #[] #[]) z (fu 4 (Pt b544 0) z (fu 8 (.int .i64 ((o0.open_).length : Int)) z (fu 9 (.int .i64 z592) z (fu 10 (.int .i64 (i64.wrap (iShr .u64 (u64.wrap (i64.wrap (z592 + z591))) (1:Int)))) z z)))))), hst⟩
}
}
 {
 replace hm := bif_f hc601 hm
 refine wp_iff (cvb hc601) ?_
 refine wp_exit (then_x (then_x ?_))
 replace hm := inr_up hm hx599
 refine blk_x (tn ?_)
 replace hst := hst.pull9.pull9.pull9.pull8.pull8.pull8.pull8.pull8.pull8.pull9.keep10
 obtain rfl := some_inj hm
 exact ⟨z592, _, hx625, (fu 0 v538 z (fu 2 (.func (.func 129) #[] #[]) z (fu 4 (Pt b544 0) z (fu 8 (.int .i64 ((o0.open_).length : Int)) z (fu 9 (.int .i64 z592) z z))))), hst⟩
}
}
 {
 clear hst
 rintro _ w626 ⟨z621, σ622, hm, rfl, hst⟩
 dsimp only [lane_State_find_j0] at hm
 refine wp_seq ?_
 obtain ⟨css627, hq628, hst⟩ := hst.own_open
 refine wp_region_St hst 16 [0, 1, 2, 3, 4, 5, 6, 7, 8, 9, 10, 11, 12, 13, 14, 15] [0, 0, 0, 6, 14, 30, 30, 30, 222, 478, 30, 2046, 4094, 8190, 4095, 32767] [] z (by kernel_rfl) (by kernel_rfl) Tryz.mixed (by kernel_rfl) ?_
 refine wsr (.int .i64 z621) 0 z z z (by kernel_rfl) (fun w hst => z) (wsr (.int .i64 z621) 1 z z z (by kernel_rfl) (fun w hst => z) (wsr (.int .i64 ((o0.open_).length : Int)) 2 z z z (by kernel_rfl) (fun w hst => z) (wsr (.bool (decide (z621 < ((o0.open_).length : Int)))) 3 z z z (by kernel_rfl) (fun w hst => z) (wsr (.bool (decide (z621 < ((o0.open_).length : Int)))) 4 z z z (by kernel_rfl) (fun w hst => z) ?_))))
 refine bsplit (decide (z621 < ((o0.open_).length : Int))) (fun hc629 => ?_) (fun hc629 => ?_)
 {
 replace hm := bif_t hc629 hm
 refine ws_q (v := .func (.func 129) #[] #[]) 5 [6, 7, 8, 9, 10, 11, 12, 13, 14, 15] (by kernel_rfl) z z (yi_run ((wanted_eq z z z (cvb hc629)).trans z) (fun w hst => z)) (ws_q (v := v538) 6 [7, 8, 9, 10, 11, 12, 13, 14, 15] (by kernel_rfl) z z (yi_run ((wanted_eq z z z (cvb hc629)).trans z) (fun w hst => z)) (ws_q (v := .int .i64 z621) 7 [8, 9, 10, 11, 12, 13, 14, 15] (by kernel_rfl) z z (yi_run ((wanted_eq z z z (cvb hc629)).trans z) (fun w hst => z)) ?_))
 obtain ⟨x630, hx631, hm⟩ := bind_some hm
 obtain ⟨h632, h633, hi634⟩ := geto_some hx631
 refine ws_q (v := .pointer (some (eAddr v538 (z621.toNat * 7 + 0)))) 8 [9, 10, 11, 12, 13, 14, 15] (by kernel_rfl) z z (yi_run ((wanted_eq z z z (cvb hc629)).trans z) (fun w hst => x_index z z underlying65 sizeOf89 (hst.rsv 0 z hq628) h632 h633)) ?_
 obtain ⟨cs635, hc637, hr636⟩ := Reps.get hq628 hi634
 obtain ⟨v638, rfl, f639, -⟩ := hr636
 refine ws_q (v := .agg #[U6 x630.ID.Session, U6 x630.ID.Seq, I6 x630.E, U6 x630.Epoch, U6 x630.Index, U6 x630.Shards, v638]) 9 [10, 11, 12, 13, 14, 15] (by kernel_rfl) z z (yi_run ((wanted_eq z z z (cvb hc629)).trans z) (fun w hst => x_loadN (cs := [U6 x630.ID.Session, U6 x630.ID.Seq, I6 x630.E, U6 x630.Epoch, U6 x630.Index, U6 x630.Shards, v638]) z isAgg89 sizeOf89 (eCells (o := 0) (hst.rcell 0 z hc637) z))) (ws_q (v := .agg #[U6 a1.Session, U6 a1.Seq]) 10 [11, 12, 13, 14, 15] (by kernel_rfl) z z (yi_run ((wanted_eq z z z (cvb hc629)).trans z) (fun w hst => x_loadN (cs := [U6 a1.Session, U6 a1.Seq]) z isAgg28 sizeOf28 (hst.bcs1 0 z))) ?_)
 refine ws_e1 11 (by kernel_rfl) ?_
 refine nxe [12, 13, 14, 15] (by kernel_rfl) z ((wanted_eq z z z (cvb hc629)).trans z) ?_
 clear hst
 intro w hst
 obtain ⟨t641, ht642, hm⟩ := bind_some hm
 refine we_call z (x_callv call129 (caps := []) z (vs := [.agg #[U6 x630.ID.Session, U6 x630.ID.Seq, I6 x630.E, U6 x630.Epoch, U6 x630.Index, U6 x630.Shards, v638], .agg #[U6 a1.Session, U6 a1.Seq]]) z) ?_
 refine (lane_State_find_1_ref (f639.mono ro_rd) hst.to0 ht642).mono ?_
 rintro _ w643 ⟨rfl, hst⟩
 refine ⟨_, z, ?_⟩
 replace hst := hst.of0
 refine ws_next (pend' := [(0, I6 z621)]) hst (by kernel_rfl) (pkr z z (fun w hst => z) pk_nil) ?_
 refine ws_q (v := .bool (t641 == (0:Int))) 12 [13, 14, 15] (by kernel_rfl) z z (yi_run ((wanted_eq z z z (cvb hc629)).trans z) (fun w hst => z)) (wsr (.bool (t641 == (0:Int))) 13 z z z (by kernel_rfl) (fun w hst => x_pick_t hc629 z z) (wsr (.int .i64 z621) 14 z z z (by kernel_rfl) (fun w hst => z) (wsr (.bool (t641 == (0:Int))) 15 z z z (by kernel_rfl) (fun w hst => z) ?_)))
 refine ws_nil ?_
 intro w hst
 replace hst := hst.own_close hq628
 refine tn (wp_ret ?_)
 refine post_ret (vs := [I6 z621, .bool (t641 == (0:Int))]) results128 (rvs_cons (rv_tmp z) (rvs_cons (rv_tmp z) rvs_nil)) ?_
 replace hst := hst.pull9.pull9.pull9.pull3.pull9.pull9.pull9.pull9.pull9.keep9
 obtain rfl := some_inj hm
 exact ⟨z621, (t641 == (0:Int)), z, z, hst⟩
}
 {
 replace hm := bif_f hc629 hm
 refine ws_q (v := undef) 5 [6, 7, 8, 9, 10, 11, 12, 13, 14, 15] (by kernel_rfl) z z (yi_off ((wanted_eq z z z (cvb hc629)).trans z)) (ws_q (v := undef) 6 [7, 8, 9, 10, 11, 12, 13, 14, 15] (by kernel_rfl) z z (yi_off ((wanted_eq z z z (cvb hc629)).trans z)) (ws_q (v := undef) 7 [8, 9, 10, 11, 12, 13, 14, 15] (by kernel_rfl) z z (yi_off ((wanted_eq z z z (cvb hc629)).trans z)) (ws_q (v := undef) 8 [9, 10, 11, 12, 13, 14, 15] (by kernel_rfl) z z (yi_off ((wanted_eq z z z (cvb hc629)).trans z)) (ws_q (v := undef) 9 [10, 11, 12, 13, 14, 15] (by kernel_rfl) z z (yi_off ((wanted_eq z z z (cvb hc629)).trans z)) (ws_q (v := undef) 10 [11, 12, 13, 14, 15] (by kernel_rfl) z z (yi_off ((wanted_eq z z z (cvb hc629)).trans z)) (ws_q (v := undef) 11 [12, 13, 14, 15] (by kernel_rfl) z z (yi_off ((wanted_eq z z z (cvb hc629)).trans z)) (ws_q (v := undef) 12 [13, 14, 15] (by kernel_rfl) z z (yi_off ((wanted_eq z z z (cvb hc629)).trans z)) (wsr (.bool false) 13 z z z (by kernel_rfl) (fun w hst => x_pick_f hc629 z z) (wsr (.int .i64 z621) 14 z z z (by kernel_rfl) (fun w hst => z) (wsr (.bool false) 15 z z z (by kernel_rfl) (fun w hst => z) ?_))))))))))
 refine ws_nil ?_
 intro w hst
 replace hst := hst.own_close hq628
 refine tn (wp_ret ?_)
 refine post_ret (vs := [I6 z621, .bool false]) results128 (rvs_cons (rv_tmp z) (rvs_cons (rv_tmp z) rvs_nil)) ?_
 replace hst := hst.pull9.pull9.pull9.pull3.pull9.pull9.pull9.pull9.pull9.keep9
 obtain rfl := some_inj hm
 exact ⟨z621, false, z, z, hst⟩
}
}
}
 clear hst
 rintro _ w651 ⟨z646, z647, rfl, rfl, hst⟩
 refine ⟨_, z, ?_⟩
 try dsimp only at hm
 refine ws_next (pend' := []) hst (by kernel_rfl) pk_nil ?_
 refine wsr (.int .i64 z646) 6 z z z (by kernel_rfl) (fun w hst => z) (wsr (.bool z647) 7 z z z (by kernel_rfl) (fun w hst => z) (wsr (.int .i64 z646) 8 z z z (by kernel_rfl) (fun w hst => z) (wsr (.bool z647) 9 z z z (by kernel_rfl) (fun w hst => z) ?_)))
 refine ws_nil ?_
 intro w hst
 refine tn (wp_ret ?_)
 replace hst := hst.pull7.pull7.pull7.pull7.pull7.pull7.pull7.pull7
 replace hst := at_lane_State_close (pv := Pt b529 0) (x := o0) hst z
 replace hst := objO_some hst
 obtain rfl := some_inj hm
 refine post_ret (vs := [I6 z646, .bool z647]) results51 (rvs_cons (rv_tmp z) (rvs_cons (rv_tmp z) rvs_nil)) ?_
 exact ⟨z, hst.keep1⟩
}
}

theorem slices_Insert_api_Decision_api_Decision_ref {w0 w : World} {I : HL} {R : SP} {a0 : (List api_Decision)} {r0_0 : Value} {a1 : Int} {a2 : (List api_Decision)} {r2_0 : Value} (hst : St w0 w I [ownS ty_api_Decision r0_0 a0, ownS ty_api_Decision r2_0 a2] R) {r : (List api_Decision)} (hm : slices_Insert_api_Decision_api_Decision a0 a1 a2 = some r) :
  Calls prog 127 #[r0_0, I6 a1, r2_0] w fun e w' => ∃ (q0_0 : Value), e = .returned (q0_0) ∧ St w0 w' I [ownS ty_api_Decision q0_0 r] R := by {
 unfold slices_Insert_api_Decision_api_Decision at hm
 obtain ⟨hg, hm⟩ := gd_some hm
 obtain rfl := some_inj hm
 obtain ⟨hi0, hi1, hrm⟩ := insOK_of hg
 obtain ⟨k, rfl⟩ := Int.eq_ofNat_of_zero_le hi0
 have hsm := room_sum hrm
 have hk : k ≤ a0.length := by omega
 have hs : ∀ w : World, (sizeOf 89).run prog w = .ok ty_api_Decision.sz w := sizeOf89
 have hs0 : 0 < ty_api_Decision.sz := Nat.le_of_ble_eq_true rfl
 have hov : ∀ (args : Array Value) (w : World), (callFunc 188 args).run prog w = (Extern.SlicesOverlaps.overlaps #[65, 65] #[4] args >>= fun v => (pure (.value v) : Sem Next)).run prog w := by intro args w; kernel_rfl
 obtain ⟨css, hr, hst⟩ := hst.own_open
 replace hst := hst.pull1
 obtain ⟨dss, hq, hst⟩ := hst.own_open
 replace hst := hst.pull1
 obtain ⟨n, hn⟩ : ∃ n, css.length = n := ⟨_, rfl⟩
 obtain ⟨m, hm'⟩ : ∃ m, dss.length = m := ⟨_, rfl⟩
 have hln : a0.length = n := hr.1.trans hn
 have hlm : a2.length = m := hq.1.trans hm'
 rw [hln] at hsm hk
 rw [hlm] at hsm
 have hsv : SliceV r0_0 n := by have := hst.row_form.2; rwa [hn] at this
 have hsq : SliceV r2_0 m := by have := hst.pull1.row_form.2; rwa [hm'] at this
 have hoc := hr.ones
 have hoq := hq.ones
 have hw1 := wrap_add (a := n) (b := m) (by omega)
 have hw2 := wrap_add (a := k) (b := m) (by omega)
 have hw3 := wrap_sub (a := n + m) (b := k) (by omega) (by omega)
 have hrb := room_of (b := 72) hrm rfl
 rw [hln, hlm] at hrb
 refine calls_start (args := [r0_0, I6 (k : Int), r2_0]) func127 z ntmps127 (Nat.le_of_ble_eq_true z) ?_
 refine wp_seq (wrl (wv ((.slice none 0 0)) z z z (wl_nil (tn (wp_seq (wrl (wv (r0_0) z z z (wv (.int .i64 (k : Int)) z z z (wv ((slcV ty_api_Decision.sz r0_0 k n)) z z (x_slice (lo := (k : Nat)) (hi := (n : Nat)) underlying65 hs z hsv (by omega) (by omega) (by omega) .i64 .i64 (.inl z) (.inr ⟨z, z⟩)) (wl_nil (tn (wp_seq (wrl (wv (r2_0) z z z (wv (.int .i64 (m : Int)) z z (x_len z underlying65 hsq) (wv (.int .i64 (m : Int)) z z z (wl_nil (tn (wp_seq (wp_seq (wrl (wv (.int .i64 (m : Int)) z z z (wv (.bool ((m : Int) == (0:Int))) z z z ?_)))))))))))))))))))))))
 refine wl_nil (tn ?_)
 refine bsplit ((m : Int) == (0:Int)) (fun hc389 => ?_) (fun hc389 => ?_)
 {
 refine wp_ift (cvb hc389) ?_
 refine wp_seq (wrl (wv (r0_0) z z z (wv (r0_0) z z z (wl_nil (tn (wp_ret (then_r ?_)))))))
 refine post_ret (vs := [r0_0]) results127 (rvs_cons (rv_tmp z) rvs_nil) ?_
 rw [ins_nil (by rw [hlm]; exact hc389)]
 exact ⟨_, z, (hst.own_close hr).keep1⟩
}
 {
 refine wp_iff (cvb hc389) ?_
 have hm0 : m ≠ 0 := fun h => by rw [h] at hc389; cases hc389
 have hq0 : dss ≠ [] := fun h => hm0 (by rw [← hm', h]; rfl)
 refine wp_skip (tn (wp_seq (wrl ?_)))
 refine wv (r0_0) z z z (wv (.int .i64 (n : Int)) z z (x_len z underlying65 hsv) (wv (.int .i64 (n : Int)) z z z (wl_nil (tn (wp_seq (wp_seq (wrl (wv (.int .i64 (k : Int)) z z z (wv (.int .i64 (n : Int)) z z z (wv (.bool ((k : Int) == (n : Int))) z z z (wl_nil (tn ?_))))))))))))
 refine bsplit ((k : Int) == (n : Int)) (fun hc390 => ?_) (fun hc390 => ?_)
 {
 refine wp_ift (cvb hc390) ?_
 refine wp_seq (wrl (wv (r0_0) z z z (wv (r2_0) z z z ?_)))
 replace hst := (hst.own_close hr).pull1.own_close hq
 replace hst := hst.pull1
 obtain ⟨v2, w2, hra, hst⟩ := run_append elem_65 underlying65 hst hst.src1 (room_of hrm z) 65
 refine wl_run (v := v2) (w' := w2) z z (x_append z z hra) ?_
 refine wv (v2) z z z (wl_nil (tn (wp_ret (then_r ?_))))
 refine post_ret (vs := [v2]) results127 (rvs_cons (rv_tmp z) rvs_nil) ?_
 rw [ins_end (by rw [hln]; exact hc390)]
 exact ⟨_, z, hst.keep1⟩
}
 {
 refine wp_iff (cvb hc390) ?_
 have hkn : k ≠ n := fun h => by rw [h] at hc390; simp at hc390
 have hn0 : 0 < n := by omega
 have hc0 : css ≠ [] := fun h => by rw [h] at hn; simp at hn; omega
 refine wp_skip (tn (wp_seq (wp_seq (wrl ?_))))
 refine wv (.int .i64 (n : Int)) z z z (wv (.int .i64 (m : Int)) z z z (wv (.int .i64 ((n + m : Nat) : Int)) z z (ok_cast hw1 z) (wv (r0_0) z z z (wv (.int .i64 (sCap r0_0 : Int)) z z (x_cap z underlying65 hsv) (wv (.bool (decide (((n + m : Nat) : Int) > (sCap r0_0 : Int)))) z z z (wl_nil (tn ?_)))))))
 refine bsplit (decide (((n + m : Nat) : Int) > (sCap r0_0 : Int))) (fun hc391 => ?_) (fun hc391 => ?_)
 {
 refine wp_ift (cvb hc391) ?_
 refine wp_seq (wrl (wv (r0_0) z z z (wv (.int .i64 (k : Int)) z z z (wv ((slcV ty_api_Decision.sz r0_0 0 k)) z z (x_slice (lo := (0 : Nat)) (hi := (k : Nat)) underlying65 hs z hsv (by omega) (by omega) (by omega) .i64 .i64 (.inr ⟨z, z⟩) (.inl z)) (wv (.int .i64 (n : Int)) z z z (wv (.int .i64 (m : Int)) z z z (wv (.int .i64 ((n + m : Nat) : Int)) z z (ok_cast hw1 z) (wv (.int .i64 (k : Int)) z z z (wv (.int .i64 ((n + m - k : Nat) : Int)) z z (ok_cast hw3 z) ?_)))))))))
 obtain ⟨v2, w2, hra, hs2, zss, hzl, hst⟩ := run_app0 elem_65 underlying3 hst k (n + m - k) (by omega) (by have := of_decide_eq_true hc391; omega) (by rw [show k + (n + m - k) = n + m by omega]; exact hrb) hs0 65
 rw [show k + (n + m - k) = n + m by omega] at hs2
 refine wl_run (v := v2) (w' := w2) z z (x_append z z hra) ?_
 refine wv (v2) z z z (wl_nil (tn (wp_seq (wrl (wv (v2) z z z (wv (.int .i64 (k : Int)) z z z (wv ((slcV ty_api_Decision.sz v2 k (n + m))) z z (x_slice (lo := (k : Nat)) (hi := ((n + m) : Nat)) underlying65 hs z hs2 (by omega) (by omega) (by omega) .i64 .i64 (.inl z) (.inr ⟨z, z⟩)) (wv (r2_0) z z z ?_))))))))
 obtain ⟨w392, hr393, hst⟩ := run_copyRows (P := prog) (t2 := 65) (ty := 3) underlying65 hs hst hst.pull2 k m (N := n + m) (by first | omega | (simp only [List.length_append, List.length_take, List.length_drop]; omega)) (by first | omega | (simp only [List.length_append, List.length_take, List.length_drop]; omega)) (by omega) (by first | omega | (simp only [List.length_append, List.length_take, List.length_drop]; omega)) (ones_take hoq _)
 refine wl_run (v := .int .i64 (m : Nat)) (w' := w392) z z (x_copy z z hr393) ?_
 refine wl_nil (tn (wp_seq ?_))
 refine wp_region_St hst 9 [0, 1, 2, 3, 4, 5, 6, 7, 8] [0, 0, 0, 6, 15, 0, 0, 96, 255] [] z (by kernel_rfl) (by kernel_rfl) Tryz.mixed (by kernel_rfl) ?_
 refine wsr (v2) 0 z z z (by kernel_rfl) (fun w hst => z) (wsr (.int .i64 (k : Int)) 1 z z z (by kernel_rfl) (fun w hst => z) (wsr (.int .i64 (m : Int)) 2 z z z (by kernel_rfl) (fun w hst => z) (wsr (.int .i64 ((k + m : Nat) : Int)) 3 z z z (by kernel_rfl) (fun w hst => ok_cast hw2 z) (wsr ((slcV ty_api_Decision.sz v2 (k + m) (n + m))) 4 z z z (by kernel_rfl) (fun w hst => x_slice (lo := ((k + m) : Nat)) (hi := ((n + m) : Nat)) underlying65 hs z hs2 (by omega) (by omega) (by omega) .i64 .i64 (.inl z) (.inr ⟨z, z⟩)) (wsr (r0_0) 5 z z z (by kernel_rfl) (fun w hst => z) (wsr (.int .i64 (k : Int)) 6 z z z (by kernel_rfl) (fun w hst => z) (wsr ((slcV ty_api_Decision.sz r0_0 k n)) 7 z z z (by kernel_rfl) (fun w hst => x_slice (lo := (k : Nat)) (hi := (n : Nat)) underlying65 hs z hsv (by omega) (by omega) (by omega) .i64 .i64 (.inl z) (.inr ⟨z, z⟩)) ?_)))))))
 refine ws_e1 8 (by kernel_rfl) ?_
 refine nxe [] (by kernel_rfl) z z ?_
 clear hst
 intro w hst
 obtain ⟨w394, hr395, hst⟩ := run_copyRows (P := prog) (t2 := 65) (ty := 3) underlying65 hs hst (hst.pull1.row_part (l := k) (h := n) hk (by omega)) (k + m) (n - k) (N := n + m) (by first | omega | (simp only [List.length_append, List.length_take, List.length_drop]; omega)) (by first | omega | (simp only [List.length_append, List.length_take, List.length_drop]; omega)) (by omega) (by first | omega | (simp only [List.length_append, List.length_take, List.length_drop]; omega)) (ones_take (ones_drop (ones_take hoc _) _) _)
 refine we_run (v := .int .i64 ((n - k) : Nat)) (w' := w394) z (x_copy z z hr395) ?_
 refine ws_next (pend' := []) hst (by kernel_rfl) pk_nil ?_
 refine ws_nil ?_
 intro w hst
 refine tn (wp_seq (wrl (wv (v2) z z z (wv (v2) z z z (wl_nil (tn (wp_ret (then_r ?_))))))))
 refine post_ret (vs := [v2]) results127 (rvs_cons (rv_tmp z) rvs_nil) ?_
 rw [grow_rows hn hm' hk hzl] at hst
 exact ⟨_, z, (hst.own_close ((hr.take k).app (hq.app (hr.drop k)))).keep1⟩
}
 {
 refine wp_iff (cvb hc391) ?_
 have hup : n + m ≤ sCap r0_0 := by have := of_decide_eq_false hc391; omega
 obtain ⟨ess, hel, hem, hst'⟩ := hst.row_up (n + m) (by omega) hup hc0
 rw [show n + m - css.length = m by omega] at hel
 have hs2 : SliceV (upV r0_0 (n + m)) (n + m) := by have := hst'.row_form.2; rwa [List.length_append, hn, hel] at this
 clear hst
 have hst := hst'
 clear hst'
 refine wp_skip (tn (wp_seq (wrl ?_)))
 refine wv (r0_0) z z z (wv (.int .i64 (n : Int)) z z z (wv (.int .i64 (m : Int)) z z z (wv (.int .i64 ((n + m : Nat) : Int)) z z (ok_cast hw1 z) (wv ((upV r0_0 (n + m))) z z (x_sliceUp underlying65 hs z hsv z hup hn0) (wv ((upV r0_0 (n + m))) z z z (wl_nil (tn (wp_seq (wp_seq (wrl (wv (r2_0) z z z (wv ((upV r0_0 (n + m))) z z z (wv (.int .i64 (k : Int)) z z z (wv (.int .i64 (m : Int)) z z z (wv (.int .i64 ((k + m : Nat) : Int)) z z (ok_cast hw2 z) (wv ((slcV ty_api_Decision.sz (upV r0_0 (n + m)) (k + m) (n + m))) z z (x_slice (lo := ((k + m) : Nat)) (hi := ((n + m) : Nat)) underlying65 hs z hs2 (by omega) (by omega) (by omega) .i64 .i64 (.inl z) (.inr ⟨z, z⟩)) ?_))))))))))))))))
 refine wv (.bool false) z z (x_ext z z z (hov _) (run_overlaps z underlying65 hs hst.pull1 (k + m) (N := n + m) (by rw [List.length_append]; omega) (by omega) hq0 hs0)) (wv (.bool true) z z z (wl_nil (tn ?_)))
 refine wp_ift z ?_
 refine wp_seq ?_
 refine wp_region_St hst 9 [0, 1, 2, 3, 4, 5, 6, 7, 8] [0, 0, 0, 6, 15, 0, 0, 96, 255] [] z (by kernel_rfl) (by kernel_rfl) Tryz.mixed (by kernel_rfl) ?_
 refine wsr ((upV r0_0 (n + m))) 0 z z z (by kernel_rfl) (fun w hst => z) (wsr (.int .i64 (k : Int)) 1 z z z (by kernel_rfl) (fun w hst => z) (wsr (.int .i64 (m : Int)) 2 z z z (by kernel_rfl) (fun w hst => z) (wsr (.int .i64 ((k + m : Nat) : Int)) 3 z z z (by kernel_rfl) (fun w hst => ok_cast hw2 z) (wsr ((slcV ty_api_Decision.sz (upV r0_0 (n + m)) (k + m) (n + m))) 4 z z z (by kernel_rfl) (fun w hst => x_slice (lo := ((k + m) : Nat)) (hi := ((n + m) : Nat)) underlying65 hs z hs2 (by omega) (by omega) (by omega) .i64 .i64 (.inl z) (.inr ⟨z, z⟩)) (wsr ((upV r0_0 (n + m))) 5 z z z (by kernel_rfl) (fun w hst => z) (wsr (.int .i64 (k : Int)) 6 z z z (by kernel_rfl) (fun w hst => z) (wsr ((slcV ty_api_Decision.sz (upV r0_0 (n + m)) k (n + m))) 7 z z z (by kernel_rfl) (fun w hst => x_slice (lo := (k : Nat)) (hi := ((n + m) : Nat)) underlying65 hs z hs2 (by omega) (by omega) (by omega) .i64 .i64 (.inl z) (.inr ⟨z, z⟩)) ?_)))))))
 refine ws_e1 8 (by kernel_rfl) ?_
 refine nxe [] (by kernel_rfl) z z ?_
 clear hst
 intro w hst
 obtain ⟨w396, hr397, hst⟩ := run_copyRows (P := prog) (t2 := 65) (ty := 3) underlying65 hs hst (hst.row_part (l := k) (h := n + m) (by omega) (by rw [List.length_append]; omega)) (k + m) (n - k) (N := n + m) (by first | omega | (simp only [List.length_append, List.length_take, List.length_drop]; omega)) (by first | omega | (simp only [List.length_append, List.length_take, List.length_drop]; omega)) (by omega) (by first | omega | (simp only [List.length_append, List.length_take, List.length_drop]; omega)) (by rw [stay_src hn hm' hk hel]; exact ones_drop hoc _)
 refine we_run (v := .int .i64 ((n - k) : Nat)) (w' := w396) z (x_copy z z hr397) ?_
 refine ws_next (pend' := []) hst (by kernel_rfl) pk_nil ?_
 refine ws_nil ?_
 intro w hst
 refine tn (wp_seq (wrl (wv ((upV r0_0 (n + m))) z z z (wv (.int .i64 (k : Int)) z z z (wv ((slcV ty_api_Decision.sz (upV r0_0 (n + m)) k (n + m))) z z (x_slice (lo := (k : Nat)) (hi := ((n + m) : Nat)) underlying65 hs z hs2 (by omega) (by omega) (by omega) .i64 .i64 (.inl z) (.inr ⟨z, z⟩)) (wv (r2_0) z z z ?_))))))
 obtain ⟨w398, hr399, hst⟩ := run_copyRows (P := prog) (t2 := 65) (ty := 3) underlying65 hs hst hst.pull1 k m (N := n + m) (by first | omega | (simp only [List.length_append, List.length_take, List.length_drop]; omega)) (by first | omega | (simp only [List.length_append, List.length_take, List.length_drop]; omega)) (by omega) (by first | omega | (simp only [List.length_append, List.length_take, List.length_drop]; omega)) (ones_take hoq _)
 refine wl_run (v := .int .i64 (m : Nat)) (w' := w398) z z (x_copy z z hr399) ?_
 refine wl_nil (tn (wp_seq (wrl (wv ((upV r0_0 (n + m))) z z z (wv ((upV r0_0 (n + m))) z z z (wl_nil (tn (wp_ret (then_r ?_)))))))))
 refine post_ret (vs := [(upV r0_0 (n + m))]) results127 (rvs_cons (rv_tmp z) rvs_nil) ?_
 rw [stay_rows hn hm' hk hel] at hst
 exact ⟨_, z, (hst.own_close ((hr.take k).app (hq.app (hr.drop k)))).keep1⟩
}
}
}
}

end Go.Proofs.YtgnkkopjkgdieaaGreat
