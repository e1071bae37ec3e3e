/- The Go functions refine their models, part 4. -/
import Derived.Test.YtgnkkopjkgdieaaGreatLaneInnerR3
set_option linter.unusedVariables false
set_option linter.unusedSimpArgs false
set_option maxRecDepth 100000
set_option maxHeartbeats 4000000
namespace Go.Proofs.YtgnkkopjkgdieaaGreat
open Go Go.V
open _root_.Go.Proofs.Tryz IntKind
attribute [local irreducible] wpList Code.wp wpQuiet Calls bodyPost Oper.wp wpS Nx PendOK YieldsIn
theorem policy_Book_Grant_ref {w0 w : World} {I : HL} {R : SP} {a0 : (Option policy_Book)} {p0 : Value} {a1 : api_Rule} {a2 : Int}  (hst : St w0 w I [objO at_policy_Book p0 a0] R) {r : ((Option policy_Book))} (hm : policy_Book_Grant a0 a1 a2 = some r) :
  Calls prog 53 #[p0, .agg #[U6 a1.ID, I6 a1.From, I6 a1.To, F6 a1.Lo, F6 a1.Hi, U6 a1.Authority, I6 a1.Quota], U6 a2] w fun e w' => e = .returned (.tuple #[]) ∧ St w0 w' I [objO at_policy_Book p0 r] R := by {
 rcases a0 with _ | o0
 {
 obtain ⟨rfl, hst'⟩ := objO_none hst
 clear hst
 have hst := hst'
 clear hst'
 dsimp only [policy_Book_Grant] at hm
 refine calls_start (args := [.pointer none, .agg #[U6 a1.ID, I6 a1.From, I6 a1.To, F6 a1.Lo, F6 a1.Hi, U6 a1.Authority, I6 a1.Quota], U6 a2]) func53 z ntmps53 (Nat.le_of_ble_eq_true z) ?_
 refine wp_seq (wrl ?_)
 obtain ⟨b220, w221, ew222, eb223, hst⟩ := hst.box [U6 a1.ID, I6 a1.From, I6 a1.To, F6 a1.Lo, F6 a1.Hi, U6 a1.Authority, I6 a1.Quota] 39
 refine wl_run (v := Pt b220 0) (w' := w221) z z (x_al (by kernel_rfl) ew222 eb223) ?_
 refine wl_nil (tn (wp_seq (wp_seq (wrl (wv (.pointer none) z z z (wv (.bool true) z z (by kernel_rfl) (wl_nil (tn ?_))))))))
 refine wp_ift z ?_
 refine wp_ret (then_r ?_)
 replace hst := hst.objO_nil at_policy_Book
 obtain rfl := some_inj hm
 refine post_ret (vs := []) results53 rvs_nil ?_
 exact ⟨z, hst.keep1⟩
}
 {
 replace hst := objO_get hst
 dsimp only [policy_Book_Grant] at hm
 refine calls_start (args := [p0, .agg #[U6 a1.ID, I6 a1.From, I6 a1.To, F6 a1.Lo, F6 a1.Hi, U6 a1.Authority, I6 a1.Quota], U6 a2]) func53 z ntmps53 (Nat.le_of_ble_eq_true z) ?_
 refine wp_seq (wrl ?_)
 obtain ⟨b225, w226, ew227, eb228, hst⟩ := hst.box [U6 a1.ID, I6 a1.From, I6 a1.To, F6 a1.Lo, F6 a1.Hi, U6 a1.Authority, I6 a1.Quota] 39
 refine wl_run (v := Pt b225 0) (w' := w226) z z (x_al (by kernel_rfl) ew227 eb228) ?_
 refine wl_nil (tn (wp_seq (wp_seq (wrl (wv (p0) z z z ?_)))))
 replace hst := hst.pull1
 obtain ⟨b230, v231, rfl, hst'⟩ := at_policy_Book_open hst
 clear hst
 have hst := hst'
 clear hst'
 refine wv (.bool false) z z (by kernel_rfl) (wl_nil (tn ?_))
 refine wp_iff z ?_
 refine wp_skip (tn (wp_seq (wrl ?_)))
 refine wv (Pt b230 0) z z z (wv (Pt b225 0) z z (x_field z underlying39 z sizeOf26 z) (wv (.int .u64 a1.ID) z z (x_load z isAgg26 (hst.bc2 z)) (wv (.int .u64 a2) z z z ?_)))
 replace hst := hst.pull1.pull1
 replace hst := at_policy_Book_close (pv := Pt b230 0) (x := o0) hst z
 replace hst := objO_some hst
 obtain ⟨t233, ht234, hm⟩ := bind_some hm
 refine wc call54 [Pt b230 0, U6 a1.ID, U6 a2] z z z ?_
 refine (policy_Book_Revoke_ref hst.to1 ht234).mono ?_
 rintro _ w235 ⟨rfl, hst⟩
 refine ⟨_, z, ?_⟩
 replace hst := hst.of1
 rcases he239 : t233.2 with _ | y238
 · rw [he239] at hm; cases hm
 rw [he239] at hm hst; dsimp only at hm; replace hst := objO_get hst
 refine wl_nil (tn ?_)
 obtain ⟨b240, v241, e243, hst'⟩ := at_policy_Book_open hst
 clear hst
 have e243 := ptr_inj e243
 subst e243
 have hst := hst'
 clear hst'
 refine wp_region_St hst 13 [0, 1, 2, 3, 4, 5, 6, 7, 8, 9, 10, 11, 12] [0, 0, 2, 6, 14, 0, 0, 96, 224, 510, 1023, 2047, 4095] [] z (by kernel_rfl) (by kernel_rfl) Tryz.mixed (by kernel_rfl) ?_
 refine wsr (Pt b230 0) 0 z z z (by kernel_rfl) (fun w hst => z) (wsr (Pt b230 0) 1 z z z (by kernel_rfl) (fun w hst => z) (wsr (Pt b230 0) 2 z z z (by kernel_rfl) (fun w hst => z) (wsr (Pt b230 0) 3 z z z (by kernel_rfl) (fun w hst => x_field z underlying209 z sizeOf207 z) (wsr (v241) 4 z z z (by kernel_rfl) (fun w hst => x_load z isAgg207 (hst.bc0 z)) (wsr (.agg #[U6 a1.ID, I6 a1.From, I6 a1.To, F6 a1.Lo, F6 a1.Hi, U6 a1.Authority, I6 a1.Quota]) 5 z z z (by kernel_rfl) (fun w hst => x_loadN (cs := [U6 a1.ID, I6 a1.From, I6 a1.To, F6 a1.Lo, F6 a1.Hi, U6 a1.Authority, I6 a1.Quota]) z isAgg39 sizeOf39 (hst.bcs2 0 z)) (wsr (.int .u64 a2) 6 z z z (by kernel_rfl) (fun w hst => z) (wsr (.agg #[U6 a1.ID, I6 a1.From, I6 a1.To, F6 a1.Lo, F6 a1.Hi, U6 a1.Authority, I6 a1.Quota, U6 a2, Zu]) 7 z z z (by kernel_rfl) (fun w hst => by kernel_rfl) ?_)))))))
 refine ws_e1 8 (by kernel_rfl) ?_
 refine nxe [9, 10, 11, 12] (by kernel_rfl) z z ?_
 clear hst
 intro w hst
 obtain ⟨b244, w245, ew246, eb247, hst⟩ := hst.lits (E := ty_policy_line) (xs := [({ r := a1, from_ := a2, to_ := (0:Int) } : policy_line)]) [[U6 a1.ID, I6 a1.From, I6 a1.To, F6 a1.Lo, F6 a1.Hi, U6 a1.Authority, I6 a1.Quota, U6 a2, Zu]] 224 1 z (Reps.cons z Reps.nil)
 refine we_run (v := (.slice (some ⟨b244, 0, none⟩) 1 1)) (w' := w245) z (x_als (by kernel_rfl) ew246 eb247) ?_
 refine ws_next (pend' := [(4, v241), (3, Pt b230 0), (2, Pt b230 0), (1, Pt b230 0), (0, Pt b230 0)]) hst (by kernel_rfl) (pkr z z (fun w hst => x_load z isAgg207 (hst.bc1 z)) (pkr z z (fun w hst => x_field z underlying209 z sizeOf207 z) (pkr z z (fun w hst => z) (pkr z z (fun w hst => z) (pkr z z (fun w hst => z) pk_nil))))) ?_
 refine ws_e1 9 (by kernel_rfl) ?_
 refine nxe [10, 11, 12] (by kernel_rfl) z z ?_
 clear hst
 intro w hst
 obtain ⟨hg249, hm⟩ := gd_some hm
 replace hst := hst.pull2
 obtain ⟨v250, w251, hr252, hst⟩ := run_append elem_207 underlying207 hst hst.src1 (room_of hg249 z) 207
 refine we_run (v := v250) (w' := w251) z (x_append z z hr252) ?_
 refine ws_next (pend' := [(0, Pt b230 0)]) hst (by kernel_rfl) (pkr z z (fun w hst => z) pk_nil) ?_
 refine wsr (Pt b230 0) 10 z z z (by kernel_rfl) (fun w hst => z) (wsr (Pt b230 0) 11 z z z (by kernel_rfl) (fun w hst => x_field z underlying209 z sizeOf207 z) ?_)
 refine ws_e1 12 (by kernel_rfl) ?_
 refine nxe [] (by kernel_rfl) z z ?_
 clear hst
 intro w hst
 replace hst := hst.pull2
 obtain ⟨w254, hr255, hst⟩ := hst.boxStore1 (P := prog) (t := 207) (cs' := [v250]) 0 v250 (one_of_sliceV hst.sv1) sizeOf207 z z
 refine we_unit z (x_unit hr255) ?_
 refine ws_next (pend' := []) hst (by kernel_rfl) pk_nil ?_
 refine ws_nil ?_
 intro w hst
 replace hst := hst.pull1.pull1
 replace hst := at_policy_Book_close (pv := Pt b230 0) (x := ({ l := (y238.l ++ ([({ r := a1, from_ := a2, to_ := (0:Int) } : policy_line)])) } : policy_Book)) hst z
 replace hst := objO_some hst
 obtain rfl := some_inj hm
 refine post_end (vs := []) results53 rvs_nil ?_
 exact ⟨z, hst.keep1⟩
}
}

theorem lane_State_give_1_ref {w0 w : World} {I : HL} {R : SP} {a0 : lane_used} {a1 : Int}  (hst : St w0 w I [] R) {r : (Int)} (hm : lane_State_give_1 a0 a1 = some r) :
  Calls prog 133 #[.agg #[U6 a0.rule, U6 a0.epoch, I6 a0.n], U6 a1] w fun e w' => e = .returned (.int .i64 r) ∧ St w0 w' I [] R := by {
 unfold lane_State_give_1 at hm
 refine calls_start (args := [.agg #[U6 a0.rule, U6 a0.epoch, I6 a0.n], U6 a1]) func133 z ntmps133 (Nat.le_of_ble_eq_true z) ?_
 refine wp_seq (wrl ?_)
 obtain ⟨b287, w288, ew289, eb290, hst⟩ := hst.box [U6 a0.rule, U6 a0.epoch, I6 a0.n] 189
 refine wl_run (v := Pt b287 0) (w' := w288) z z (x_al (by kernel_rfl) ew289 eb290) ?_
 refine wv (.int .i64 (0:Int)) z z z (wl_nil (tn (wp_seq (wrl (wv (Pt b287 0) z z (x_field z underlying189 z sizeOf26 z) (wv (.int .u64 a0.rule) z z (x_load z isAgg26 (hst.bc0 z)) (wv (.int .u64 a1) z z z ?_)))))))
 obtain ⟨t292, ht293, hm⟩ := bind_some hm
 refine wc call131 [U6 a0.rule, U6 a1] z z z ?_
 refine (cmp_Compare_uint64_ref hst.to0 ht293).mono ?_
 rintro _ w294 ⟨rfl, hst⟩
 refine ⟨_, z, ?_⟩
 replace hst := hst.of0
 refine wv (.int .i64 t292) z z z (wl_nil (tn (wp_ret ?_)))
 obtain rfl := some_inj hm
 refine post_ret (vs := [I6 t292]) results133 (rvs_cons (rv_tmp z) rvs_nil) ?_
 exact ⟨z, hst.keep0⟩
}

theorem slices_Insert_lane_used_lane_used_ref {w0 w : World} {I : HL} {R : SP} {a0 : (List lane_used)} {r0_0 : Value} {a1 : Int} {a2 : (List lane_used)} {r2_0 : Value} (hst : St w0 w I [ownS ty_lane_used r0_0 a0, ownS ty_lane_used r2_0 a2] R) {r : (List lane_used)} (hm : slices_Insert_lane_used_lane_used a0 a1 a2 = some r) :
  Calls prog 134 #[r0_0, I6 a1, r2_0] w fun e w' => ∃ (q0_0 : Value), e = .returned (q0_0) ∧ St w0 w' I [ownS ty_lane_used q0_0 r] R := by {
 unfold slices_Insert_lane_used_lane_used at hm
 obtain ⟨hg, hm⟩ := gd_some hm
 obtain rfl := some_inj hm
 obtain ⟨hi0, hi1, hrm⟩ := insOK_of hg
 obtain ⟨k, rfl⟩ := Int.eq_ofNat_of_zero_le hi0
 have hsm := room_sum hrm
 have hk : k ≤ a0.length := by omega
 have hs : ∀ w : World, (sizeOf 189).run prog w = .ok ty_lane_used.sz w := sizeOf189
 have hs0 : 0 < ty_lane_used.sz := Nat.le_of_ble_eq_true rfl
 have hov : ∀ (args : Array Value) (w : World), (callFunc 191 args).run prog w = (Extern.SlicesOverlaps.overlaps #[109, 109] #[4] args >>= fun v => (pure (.value v) : Sem Next)).run prog w := by intro args w; kernel_rfl
 obtain ⟨css, hr, hst⟩ := hst.own_open
 replace hst := hst.pull1
 obtain ⟨dss, hq, hst⟩ := hst.own_open
 replace hst := hst.pull1
 obtain ⟨n, hn⟩ : ∃ n, css.length = n := ⟨_, rfl⟩
 obtain ⟨m, hm'⟩ : ∃ m, dss.length = m := ⟨_, rfl⟩
 have hln : a0.length = n := hr.1.trans hn
 have hlm : a2.length = m := hq.1.trans hm'
 rw [hln] at hsm hk
 rw [hlm] at hsm
 have hsv : SliceV r0_0 n := by have := hst.row_form.2; rwa [hn] at this
 have hsq : SliceV r2_0 m := by have := hst.pull1.row_form.2; rwa [hm'] at this
 have hoc := hr.ones
 have hoq := hq.ones
 have hw1 := wrap_add (a := n) (b := m) (by omega)
 have hw2 := wrap_add (a := k) (b := m) (by omega)
 have hw3 := wrap_sub (a := n + m) (b := k) (by omega) (by omega)
 have hrb := room_of (b := 24) hrm rfl
 rw [hln, hlm] at hrb
 refine calls_start (args := [r0_0, I6 (k : Int), r2_0]) func134 z ntmps134 (Nat.le_of_ble_eq_true z) ?_
 refine wp_seq (wrl (wv ((.slice none 0 0)) z z z (wl_nil (tn (wp_seq (wrl (wv (r0_0) z z z (wv (.int .i64 (k : Int)) z z z (wv ((slcV ty_lane_used.sz r0_0 k n)) z z (x_slice (lo := (k : Nat)) (hi := (n : Nat)) underlying109 hs z hsv (by omega) (by omega) (by omega) .i64 .i64 (.inl z) (.inr ⟨z, z⟩)) (wl_nil (tn (wp_seq (wrl (wv (r2_0) z z z (wv (.int .i64 (m : Int)) z z (x_len z underlying109 hsq) (wv (.int .i64 (m : Int)) z z z (wl_nil (tn (wp_seq (wp_seq (wrl (wv (.int .i64 (m : Int)) z z z (wv (.bool ((m : Int) == (0:Int))) z z z ?_)))))))))))))))))))))))
 refine wl_nil (tn ?_)
 refine bsplit ((m : Int) == (0:Int)) (fun hc424 => ?_) (fun hc424 => ?_)
 {
 refine wp_ift (cvb hc424) ?_
 refine wp_seq (wrl (wv (r0_0) z z z (wv (r0_0) z z z (wl_nil (tn (wp_ret (then_r ?_)))))))
 refine post_ret (vs := [r0_0]) results134 (rvs_cons (rv_tmp z) rvs_nil) ?_
 rw [ins_nil (by rw [hlm]; exact hc424)]
 exact ⟨_, z, (hst.own_close hr).keep1⟩
}
 {
 refine wp_iff (cvb hc424) ?_
 have hm0 : m ≠ 0 := fun h => by rw [h] at hc424; cases hc424
 have hq0 : dss ≠ [] := fun h => hm0 (by rw [← hm', h]; rfl)
 refine wp_skip (tn (wp_seq (wrl ?_)))
 refine wv (r0_0) z z z (wv (.int .i64 (n : Int)) z z (x_len z underlying109 hsv) (wv (.int .i64 (n : Int)) z z z (wl_nil (tn (wp_seq (wp_seq (wrl (wv (.int .i64 (k : Int)) z z z (wv (.int .i64 (n : Int)) z z z (wv (.bool ((k : Int) == (n : Int))) z z z (wl_nil (tn ?_))))))))))))
 refine bsplit ((k : Int) == (n : Int)) (fun hc425 => ?_) (fun hc425 => ?_)
 {
 refine wp_ift (cvb hc425) ?_
 refine wp_seq (wrl (wv (r0_0) z z z (wv (r2_0) z z z ?_)))
 replace hst := (hst.own_close hr).pull1.own_close hq
 replace hst := hst.pull1
 obtain ⟨v2, w2, hra, hst⟩ := run_append elem_109 underlying109 hst hst.src1 (room_of hrm z) 109
 refine wl_run (v := v2) (w' := w2) z z (x_append z z hra) ?_
 refine wv (v2) z z z (wl_nil (tn (wp_ret (then_r ?_))))
 refine post_ret (vs := [v2]) results134 (rvs_cons (rv_tmp z) rvs_nil) ?_
 rw [ins_end (by rw [hln]; exact hc425)]
 exact ⟨_, z, hst.keep1⟩
}
 {
 refine wp_iff (cvb hc425) ?_
 have hkn : k ≠ n := fun h => by rw [h] at hc425; simp at hc425
 have hn0 : 0 < n := by omega
 have hc0 : css ≠ [] := fun h => by rw [h] at hn; simp at hn; omega
 refine wp_skip (tn (wp_seq (wp_seq (wrl ?_))))
 refine wv (.int .i64 (n : Int)) z z z (wv (.int .i64 (m : Int)) z z z (wv (.int .i64 ((n + m : Nat) : Int)) z z (ok_cast hw1 z) (wv (r0_0) z z z (wv (.int .i64 (sCap r0_0 : Int)) z z (x_cap z underlying109 hsv) (wv (.bool (decide (((n + m : Nat) : Int) > (sCap r0_0 : Int)))) z z z (wl_nil (tn ?_)))))))
 refine bsplit (decide (((n + m : Nat) : Int) > (sCap r0_0 : Int))) (fun hc426 => ?_) (fun hc426 => ?_)
 {
 refine wp_ift (cvb hc426) ?_
 refine wp_seq (wrl (wv (r0_0) z z z (wv (.int .i64 (k : Int)) z z z (wv ((slcV ty_lane_used.sz r0_0 0 k)) z z (x_slice (lo := (0 : Nat)) (hi := (k : Nat)) underlying109 hs z hsv (by omega) (by omega) (by omega) .i64 .i64 (.inr ⟨z, z⟩) (.inl z)) (wv (.int .i64 (n : Int)) z z z (wv (.int .i64 (m : Int)) z z z (wv (.int .i64 ((n + m : Nat) : Int)) z z (ok_cast hw1 z) (wv (.int .i64 (k : Int)) z z z (wv (.int .i64 ((n + m - k : Nat) : Int)) z z (ok_cast hw3 z) ?_)))))))))
 obtain ⟨v2, w2, hra, hs2, zss, hzl, hst⟩ := run_app0 elem_109 underlying3 hst k (n + m - k) (by omega) (by have := of_decide_eq_true hc426; omega) (by rw [show k + (n + m - k) = n + m by omega]; exact hrb) hs0 109
 rw [show k + (n + m - k) = n + m by omega] at hs2
 refine wl_run (v := v2) (w' := w2) z z (x_append z z hra) ?_
 refine wv (v2) z z z (wl_nil (tn (wp_seq (wrl (wv (v2) z z z (wv (.int .i64 (k : Int)) z z z (wv ((slcV ty_lane_used.sz v2 k (n + m))) z z (x_slice (lo := (k : Nat)) (hi := ((n + m) : Nat)) underlying109 hs z hs2 (by omega) (by omega) (by omega) .i64 .i64 (.inl z) (.inr ⟨z, z⟩)) (wv (r2_0) z z z ?_))))))))
 obtain ⟨w427, hr428, hst⟩ := run_copyRows (P := prog) (t2 := 109) (ty := 3) underlying109 hs hst hst.pull2 k m (N := n + m) (by first | omega | (simp only [List.length_append, List.length_take, List.length_drop]; omega)) (by first | omega | (simp only [List.length_append, List.length_take, List.length_drop]; omega)) (by omega) (by first | omega | (simp only [List.length_append, List.length_take, List.length_drop]; omega)) (ones_take hoq _)
 refine wl_run (v := .int .i64 (m : Nat)) (w' := w427) z z (x_copy z z hr428) ?_
 refine wl_nil (tn (wp_seq ?_))
 refine wp_region_St hst 9 [0, 1, 2, 3, 4, 5, 6, 7, 8] [0, 0, 0, 6, 15, 0, 0, 96, 255] [] z (by kernel_rfl) (by kernel_rfl) Tryz.mixed (by kernel_rfl) ?_
 refine wsr (v2) 0 z z z (by kernel_rfl) (fun w hst => z) (wsr (.int .i64 (k : Int)) 1 z z z (by kernel_rfl) (fun w hst => z) (wsr (.int .i64 (m : Int)) 2 z z z (by kernel_rfl) (fun w hst => z) (wsr (.int .i64 ((k + m : Nat) : Int)) 3 z z z (by kernel_rfl) (fun w hst => ok_cast hw2 z) (wsr ((slcV ty_lane_used.sz v2 (k + m) (n + m))) 4 z z z (by kernel_rfl) (fun w hst => x_slice (lo := ((k + m) : Nat)) (hi := ((n + m) : Nat)) underlying109 hs z hs2 (by omega) (by omega) (by omega) .i64 .i64 (.inl z) (.inr ⟨z, z⟩)) (wsr (r0_0) 5 z z z (by kernel_rfl) (fun w hst => z) (wsr (.int .i64 (k : Int)) 6 z z z (by kernel_rfl) (fun w hst => z) (wsr ((slcV ty_lane_used.sz r0_0 k n)) 7 z z z (by kernel_rfl) (fun w hst => x_slice (lo := (k : Nat)) (hi := (n : Nat)) underlying109 hs z hsv (by omega) (by omega) (by omega) .i64 .i64 (.inl z) (.inr ⟨z, z⟩)) ?_)))))))
 refine ws_e1 8 (by kernel_rfl) ?_
 refine nxe [] (by kernel_rfl) z z ?_
 clear hst
 intro w hst
 obtain ⟨w429, hr430, hst⟩ := run_copyRows (P := prog) (t2 := 109) (ty := 3) underlying109 hs hst (hst.pull1.row_part (l := k) (h := n) hk (by omega)) (k + m) (n - k) (N := n + m) (by first | omega | (simp only [List.length_append, List.length_take, List.length_drop]; omega)) (by first | omega | (simp only [List.length_append, List.length_take, List.length_drop]; omega)) (by omega) (by first | omega | (simp only [List.length_append, List.length_take, List.length_drop]; omega)) (ones_take (ones_drop (ones_take hoc _) _) _)
 refine we_run (v := .int .i64 ((n - k) : Nat)) (w' := w429) z (x_copy z z hr430) ?_
 refine ws_next (pend' := []) hst (by kernel_rfl) pk_nil ?_
 refine ws_nil ?_
 intro w hst
 refine tn (wp_seq (wrl (wv (v2) z z z (wv (v2) z z z (wl_nil (tn (wp_ret (then_r ?_))))))))
 refine post_ret (vs := [v2]) results134 (rvs_cons (rv_tmp z) rvs_nil) ?_
 rw [grow_rows hn hm' hk hzl] at hst
 exact ⟨_, z, (hst.own_close ((hr.take k).app (hq.app (hr.drop k)))).keep1⟩
}
 {
 refine wp_iff (cvb hc426) ?_
 have hup : n + m ≤ sCap r0_0 := by have := of_decide_eq_false hc426; omega
 obtain ⟨ess, hel, hem, hst'⟩ := hst.row_up (n + m) (by omega) hup hc0
 rw [show n + m - css.length = m by omega] at hel
 have hs2 : SliceV (upV r0_0 (n + m)) (n + m) := by have := hst'.row_form.2; rwa [List.length_append, hn, hel] at this
 clear hst
 have hst := hst'
 clear hst'
 refine wp_skip (tn (wp_seq (wrl ?_)))
 refine wv (r0_0) z z z (wv (.int .i64 (n : Int)) z z z (wv (.int .i64 (m : Int)) z z z (wv (.int .i64 ((n + m : Nat) : Int)) z z (ok_cast hw1 z) (wv ((upV r0_0 (n + m))) z z (x_sliceUp underlying109 hs z hsv z hup hn0) (wv ((upV r0_0 (n + m))) z z z (wl_nil (tn (wp_seq (wp_seq (wrl (wv (r2_0) z z z (wv ((upV r0_0 (n + m))) z z z (wv (.int .i64 (k : Int)) z z z (wv (.int .i64 (m : Int)) z z z (wv (.int .i64 ((k + m : Nat) : Int)) z z (ok_cast hw2 z) (wv ((slcV ty_lane_used.sz (upV r0_0 (n + m)) (k + m) (n + m))) z z (x_slice (lo := ((k + m) : Nat)) (hi := ((n + m) : Nat)) underlying109 hs z hs2 (by omega) (by omega) (by omega) .i64 .i64 (.inl z) (.inr ⟨z, z⟩)) ?_))))))))))))))))
 refine wv (.bool false) z z (x_ext z z z (hov _) (run_overlaps z underlying109 hs hst.pull1 (k + m) (N := n + m) (by rw [List.length_append]; omega) (by omega) hq0 hs0)) (wv (.bool true) z z z (wl_nil (tn ?_)))
 refine wp_ift z ?_
 refine wp_seq ?_
 refine wp_region_St hst 9 [0, 1, 2, 3, 4, 5, 6, 7, 8] [0, 0, 0, 6, 15, 0, 0, 96, 255] [] z (by kernel_rfl) (by kernel_rfl) Tryz.mixed (by kernel_rfl) ?_
 refine wsr ((upV r0_0 (n + m))) 0 z z z (by kernel_rfl) (fun w hst => z) (wsr (.int .i64 (k : Int)) 1 z z z (by kernel_rfl) (fun w hst => z) (wsr (.int .i64 (m : Int)) 2 z z z (by kernel_rfl) (fun w hst => z) (wsr (.int .i64 ((k + m : Nat) : Int)) 3 z z z (by kernel_rfl) (fun w hst => ok_cast hw2 z) (wsr ((slcV ty_lane_used.sz (upV r0_0 (n + m)) (k + m) (n + m))) 4 z z z (by kernel_rfl) (fun w hst => x_slice (lo := ((k + m) : Nat)) (hi := ((n + m) : Nat)) underlying109 hs z hs2 (by omega) (by omega) (by omega) .i64 .i64 (.inl z) (.inr ⟨z, z⟩)) (wsr ((upV r0_0 (n + m))) 5 z z z (by kernel_rfl) (fun w hst => z) (wsr (.int .i64 (k : Int)) 6 z z z (by kernel_rfl) (fun w hst => z) (wsr ((slcV ty_lane_used.sz (upV r0_0 (n + m)) k (n + m))) 7 z z z (by kernel_rfl) (fun w hst => x_slice (lo := (k : Nat)) (hi := ((n + m) : Nat)) underlying109 hs z hs2 (by omega) (by omega) (by omega) .i64 .i64 (.inl z) (.inr ⟨z, z⟩)) ?_)))))))
 refine ws_e1 8 (by kernel_rfl) ?_
 refine nxe [] (by kernel_rfl) z z ?_
 clear hst
 intro w hst
 obtain ⟨w431, hr432, hst⟩ := run_copyRows (P := prog) (t2 := 109) (ty := 3) underlying109 hs hst (hst.row_part (l := k) (h := n + m) (by omega) (by rw [List.length_append]; omega)) (k + m) (n - k) (N := n + m) (by first | omega | (simp only [List.length_append, List.length_take, List.length_drop]; omega)) (by first | omega | (simp only [List.length_append, List.length_take, List.length_drop]; omega)) (by omega) (by first | omega | (simp only [List.length_append, List.length_take, List.length_drop]; omega)) (by rw [stay_src hn hm' hk hel]; exact ones_drop hoc _)
 refine we_run (v := .int .i64 ((n - k) : Nat)) (w' := w431) z (x_copy z z hr432) ?_
 refine ws_next (pend' := []) hst (by kernel_rfl) pk_nil ?_
 refine ws_nil ?_
 intro w hst
 refine tn (wp_seq (wrl (wv ((upV r0_0 (n + m))) z z z (wv (.int .i64 (k : Int)) z z z (wv ((slcV ty_lane_used.sz (upV r0_0 (n + m)) k (n + m))) z z (x_slice (lo := (k : Nat)) (hi := ((n + m) : Nat)) underlying109 hs z hs2 (by omega) (by omega) (by omega) .i64 .i64 (.inl z) (.inr ⟨z, z⟩)) (wv (r2_0) z z z ?_))))))
 obtain ⟨w433, hr434, hst⟩ := run_copyRows (P := prog) (t2 := 109) (ty := 3) underlying109 hs hst hst.pull1 k m (N := n + m) (by first | omega | (simp only [List.length_append, List.length_take, List.length_drop]; omega)) (by first | omega | (simp only [List.length_append, List.length_take, List.length_drop]; omega)) (by omega) (by first | omega | (simp only [List.length_append, List.length_take, List.length_drop]; omega)) (ones_take hoq _)
 refine wl_run (v := .int .i64 (m : Nat)) (w' := w433) z z (x_copy z z hr434) ?_
 refine wl_nil (tn (wp_seq (wrl (wv ((upV r0_0 (n + m))) z z z (wv ((upV r0_0 (n + m))) z z z (wl_nil (tn (wp_ret (then_r ?_)))))))))
 refine post_ret (vs := [(upV r0_0 (n + m))]) results134 (rvs_cons (rv_tmp z) rvs_nil) ?_
 rw [stay_rows hn hm' hk hel] at hst
 exact ⟨_, z, (hst.own_close ((hr.take k).app (hq.app (hr.drop k)))).keep1⟩
}
}
}
}

theorem lane_Pad_ref {w0 w : World} {I : HL} {R : SP} {a0 : api_Write} {r0_0 : Value} {a1 : Int} (f0_0 : Rd (tyInt .u8) R I r0_0 a0.Val) (hst : St w0 w I [] R) {r : (api_Write)} (hm : lane_Pad a0 a1 = some r) :
  Calls prog 17 #[.agg #[F6 a0.At, .bool a0.Del, r0_0], I6 a1] w fun e w' => ∃ (q0_0 : Value), e = .returned (.agg #[F6 r.At, .bool r.Del, q0_0]) ∧ St w0 w' I [ownS (tyInt .u8) q0_0 r.Val] R := by {
 unfold lane_Pad at hm
 refine calls_start (args := [.agg #[F6 a0.At, .bool a0.Del, r0_0], I6 a1]) func17 z ntmps17 (Nat.le_of_ble_eq_true z) ?_
 refine wp_seq (wrl ?_)
 obtain ⟨b506, w507, ew508, eb509, hst⟩ := hst.box [F6 a0.At, .bool a0.Del, r0_0] 41
 refine wl_run (v := Pt b506 0) (w' := w507) z z (x_al (by kernel_rfl) ew508 eb509) ?_
 obtain ⟨b512, w513, ew514, eb515, hst⟩ := hst.box [Zf, .bool false, Zs] 41
 refine wl_run (v := Pt b512 0) (w' := w513) z z (x_al (by kernel_rfl) ew514 eb515) ?_
 refine wl_nil (tn (wp_seq (wrl (wv (.int .i64 a1) z z z (wv (.int .i64 (if (0:Int) > a1 then (0:Int) else a1)) z z (by kernel_rfl) ?_)))))
 obtain ⟨hg517, hm⟩ := gd_some hm
 obtain ⟨v518, w519, hr520, hst⟩ := run_mk (k := .i64) (k' := .i64) (zm := (0:Int)) elem_22 hst hg517 (by decide) z
 refine wl_run (v := v518) (w' := w519) z z (x_make z z hr520) ?_
 refine wv (v518) z z z (wl_nil (tn (wp_seq (wrl (wv (v518) z z z (wv (Pt b506 2) z z (x_field z underlying41 z sizeOf22 z) (wv (r0_0) z z (x_load z isAgg22 (hst.bc2 z)) ?_)))))))
 obtain ⟨w522, hr523, hst⟩ := run_copySrc (P := prog) (t2 := 22) (ty := 3) underlying22 sizeOf5 hst (Src.of_rd hst f0_0 flat_int)
 refine wl_run (v := .int .i64 ((min (a0.Val).length ((List.replicate (Int.toNat (if (0:Int) > a1 then (0:Int) else a1)) (0:Int))).length : Nat) : Int)) (w' := w522) z z (x_copy z z hr523) ?_
 refine wl_nil (tn ?_)
 obtain ⟨y531, hm, hx532⟩ := bind_some hm
 refine wp_cut (fun a w => ∃ (z528 : (List Int)) (v527 : Value) (σ529 : Nat → Value), (lane_Pad_j0 a0) z528 = some r ∧ a = Fr 21 (upd (upd (upd σ529 2 (Pt b506 0)) 4 (Pt b512 0)) 5 (v527)) ∧ St w0 w I [cells b506 [F6 a0.At, .bool a0.Del, r0_0], cells b512 [Zf, .bool false, Zs], ownS (tyInt .u8) v527 z528] R) ?_ ?_
 {
 refine wp_seq (wrl (wv (Pt b506 1) z z (x_field z underlying41 z sizeOf4 z) (wv (.bool a0.Del) z z (x_load z isAgg4 (hst.bc2 z)) (wl_nil (tn ?_)))))
 refine bsplit a0.Del (fun hc524 => ?_) (fun hc524 => ?_)
 {
 replace hm := bif_t hc524 hm
 refine wp_ift (cvb hc524) ?_
 refine wrl (wv ((.slice none 0 0)) z z z (wl_nil (tn ?_)))
 replace hst := hst.own_nil (tyInt .u8)
 replace hst := hst.pull2.pull3.keep3
 obtain rfl := some_inj hm
 exact ⟨([]), Zs, _, hx532, (fu 2 (Pt b506 0) z (fu 4 (Pt b512 0) z (fu 5 (.slice none 0 0) z z))), hst⟩
}
 {
 replace hm := bif_f hc524 hm
 refine wp_iff (cvb hc524) ?_
 refine wp_skip (tn ?_)
 replace hst := hst.pull1.pull2.keep3
 obtain rfl := some_inj hm
 exact ⟨(cpy (List.replicate (Int.toNat (if (0:Int) > a1 then (0:Int) else a1)) (0:Int)) a0.Val), v518, _, hx532, (fu 2 (Pt b506 0) z (fu 4 (Pt b512 0) z (fu 5 v518 z z))), hst⟩
}
}
 {
 clear hst
 rintro _ w533 ⟨z528, v527, σ529, hm, rfl, hst⟩
 dsimp only [lane_Pad_j0] at hm
 refine wp_seq (wrl (wv (Pt b506 0) z z (x_field z underlying41 z sizeOf37 z) (wv (.float .f64 a0.At) z z (x_load z isAgg37 (hst.bc0 z)) (wv (Pt b506 1) z z (x_field z underlying41 z sizeOf4 z) (wv (.bool a0.Del) z z (x_load z isAgg4 (hst.bc0 z)) (wv (v527) z z z (wv (.agg #[F6 a0.At, .bool a0.Del, v527]) z z (by obtain ⟨_, _, hv_, _⟩ := hst.sv2; rw [hv_]; kernel_rfl) ?_)))))))
 replace hst := hst.pull1
 obtain ⟨w535, hr536, hst⟩ := hst.bx [F6 a0.At, .bool a0.Del, v527] sizeOf41 z (oC z (oC z (oC (one_of_sliceV hst.sv2) oN))) (by kernel_rfl)
 refine wl_unit z z (x_unit hr536) ?_
 refine wl_nil (tn (wp_ret ?_))
 obtain rfl := some_inj hm
 refine post_ret (vs := [.agg #[F6 a0.At, .bool a0.Del, v527]]) results17 (rvs_cons (rv_cell (cs := [F6 a0.At, .bool a0.Del, v527]) z isAgg41 sizeOf41 (hst.bcs0 0 z)) rvs_nil) ?_
 replace hst := hst.pull2
 exact ⟨v527, z, hst.keep1⟩
}
}

theorem lane_State_give_ref {w0 w : World} {I : HL} {R : SP} {a0 : (Option lane_State)} {p0 : Value} {a1 : Int} {a2 : api_Command} {r2_0 : Value} {r2_1 : Value} {r2_2 : Value} {r2_3 : Value} {r2_4 : Value} {r2_5 : Value} {r2_6 : Value} {r2_7 : Value} (f2_0 : Rd tyF64 R I r2_0 a2.Hold.Gets) (f2_1 : Rd tyF2 R I r2_1 a2.Hold.Scans) (f2_2 : Rd tyF64 R I r2_2 a2.Hold.Puts) (f2_3 : Rd (tyInt .u8) R I r2_3 a2.Hold.Data) (f2_4 : Rd ty_api_Write R I r2_4 a2.Writes) (f2_5 : Rd ty_api_Got R I r2_5 a2.R.Gots) (f2_6 : Rd (tySl ty_api_Pair) R I r2_6 a2.R.Scans) (f2_7 : Rd ty_api_Part R I r2_7 a2.Parts) (hst : St w0 w I [objO at_lane_State p0 a0] R) {r : (api_Effect × (Option lane_State))} (hm : lane_State_give a0 a1 a2 = some r) :
  Calls prog 55 #[p0, U6 a1, .agg #[U1 a2.Kind, U6 a2.ID.Session, U6 a2.ID.Seq, U6 a2.Epoch, U6 a2.Index, I6 a2.E, U6 a2.Hold.ID.Session, U6 a2.Hold.ID.Seq, U6 a2.Hold.Epoch, r2_0, r2_1, r2_2, r2_3, r2_4, I6 a2.R.E, U6 a2.R.Epoch, U6 a2.R.Index, r2_5, r2_6, U6 a2.Shards, r2_7, U6 a2.Rule.ID, I6 a2.Rule.From, I6 a2.Rule.To, F6 a2.Rule.Lo, F6 a2.Rule.Hi, U6 a2.Rule.Authority, I6 a2.Rule.Quota, .bool a2.On]] w fun e w' => ∃ (I' : HL) (q0_0 : Value) (q0_1 : Value), e = .returned (.agg #[U1 r.1.Kind, U6 r.1.ID.Session, U6 r.1.ID.Seq, I6 r.1.R.E, U6 r.1.R.Epoch, U6 r.1.R.Index, q0_0, q0_1]) ∧ I.le I' ∧ Ro ty_api_Got I' q0_0 r.1.R.Gots ∧ Ro (tySl ty_api_Pair) I' q0_1 r.1.R.Scans ∧ St w0 w' I' [objO at_lane_State p0 r.2] R := by {
 rcases a0 with _ | o0
 {
 obtain ⟨rfl, hst'⟩ := objO_none hst
 clear hst
 have hst := hst'
 clear hst'
 dsimp only [lane_State_give] at hm
 refine calls_start (args := [.pointer none, U6 a1, .agg #[U1 a2.Kind, U6 a2.ID.Session, U6 a2.ID.Seq, U6 a2.Epoch, U6 a2.Index, I6 a2.E, U6 a2.Hold.ID.Session, U6 a2.Hold.ID.Seq, U6 a2.Hold.Epoch, r2_0, r2_1, r2_2, r2_3, r2_4, I6 a2.R.E, U6 a2.R.Epoch, U6 a2.R.Index, r2_5, r2_6, U6 a2.Shards, r2_7, U6 a2.Rule.ID, I6 a2.Rule.From, I6 a2.Rule.To, F6 a2.Rule.Lo, F6 a2.Rule.Hi, U6 a2.Rule.Authority, I6 a2.Rule.Quota, .bool a2.On]]) func55 z ntmps55 (Nat.le_of_ble_eq_true z) ?_
 have hI0 := HL.le.refl I
 refine wp_seq (wrl ?_)
 obtain ⟨b682, w683, ew684, eb685, hst⟩ := hst.box [U1 a2.Kind, U6 a2.ID.Session, U6 a2.ID.Seq, U6 a2.Epoch, U6 a2.Index, I6 a2.E, U6 a2.Hold.ID.Session, U6 a2.Hold.ID.Seq, U6 a2.Hold.Epoch, r2_0, r2_1, r2_2, r2_3, r2_4, I6 a2.R.E, U6 a2.R.Epoch, U6 a2.R.Index, r2_5, r2_6, U6 a2.Shards, r2_7, U6 a2.Rule.ID, I6 a2.Rule.From, I6 a2.Rule.To, F6 a2.Rule.Lo, F6 a2.Rule.Hi, U6 a2.Rule.Authority, I6 a2.Rule.Quota, .bool a2.On] 49
 refine wl_run (v := Pt b682 0) (w' := w683) z z (x_al (by kernel_rfl) ew684 eb685) ?_
 obtain ⟨b689, w690, ew691, eb692, hst⟩ := hst.box [Zb, Zu, Zu, Zi, Zu, Zu, Zs, Zs] 35
 refine wl_run (v := Pt b689 0) (w' := w690) z z (x_al (by kernel_rfl) ew691 eb692) ?_
 refine wl_nil (tn (wp_seq (wrl (wv (Pt b682 14) z z (x_field z underlying49 z sizeOf33 z) (wv (Pt b682 14) z z (x_field z underlying33 z sizeOf29 z) (wv (.int .i64 a2.R.E) z z (x_load z isAgg29 (hst.bc1 z)) (wv (Pt b682 3) z z (x_field z underlying49 z sizeOf26 z) (wv (.int .u64 a2.Epoch) z z (x_load z isAgg26 (hst.bc1 z)) (wv (.int .u64 a1) z z z (wv (.agg #[I6 a2.R.E, U6 a2.Epoch, U6 a1, Zs, Zs]) z z (by kernel_rfl) ?_))))))))))
 obtain ⟨b698, w699, ew700, eb701, hst⟩ := hst.box [Zi, Zu, Zu, Zs, Zs] 33
 refine wl_run (v := Pt b698 0) (w' := w699) z z (x_al (by kernel_rfl) ew700 eb701) ?_
 obtain ⟨w703, hr704, hst⟩ := hst.bx [I6 a2.R.E, U6 a2.Epoch, U6 a1, Zs, Zs] sizeOf33 z (oC z (oC z (oC z (oC z (oC z oN))))) (by kernel_rfl)
 refine wl_unit z z (x_unit hr704) ?_
 refine wl_nil (tn (wp_seq ?_))
 refine wp_region_St hst 13 [0, 1, 2, 3, 4, 5, 6, 7, 8, 9, 10, 11, 12] [0, 1, 3, 7, 0, 16, 48, 127, 255, 511, 511, 1023, 4095] [] z (by kernel_rfl) (by kernel_rfl) Tryz.mixed (by kernel_rfl) ?_
 refine wsr (.pointer none) 0 z z z (by kernel_rfl) (fun w hst => z) ?_
 cases hm
}
 {
 replace hst := objO_get hst
 dsimp only [lane_State_give] at hm
 refine calls_start (args := [p0, U6 a1, .agg #[U1 a2.Kind, U6 a2.ID.Session, U6 a2.ID.Seq, U6 a2.Epoch, U6 a2.Index, I6 a2.E, U6 a2.Hold.ID.Session, U6 a2.Hold.ID.Seq, U6 a2.Hold.Epoch, r2_0, r2_1, r2_2, r2_3, r2_4, I6 a2.R.E, U6 a2.R.Epoch, U6 a2.R.Index, r2_5, r2_6, U6 a2.Shards, r2_7, U6 a2.Rule.ID, I6 a2.Rule.From, I6 a2.Rule.To, F6 a2.Rule.Lo, F6 a2.Rule.Hi, U6 a2.Rule.Authority, I6 a2.Rule.Quota, .bool a2.On]]) func55 z ntmps55 (Nat.le_of_ble_eq_true z) ?_
 have hI0 := HL.le.refl I
 refine wp_seq (wrl ?_)
 obtain ⟨b705, w706, ew707, eb708, hst⟩ := hst.box [U1 a2.Kind, U6 a2.ID.Session, U6 a2.ID.Seq, U6 a2.Epoch, U6 a2.Index, I6 a2.E, U6 a2.Hold.ID.Session, U6 a2.Hold.ID.Seq, U6 a2.Hold.Epoch, r2_0, r2_1, r2_2, r2_3, r2_4, I6 a2.R.E, U6 a2.R.Epoch, U6 a2.R.Index, r2_5, r2_6, U6 a2.Shards, r2_7, U6 a2.Rule.ID, I6 a2.Rule.From, I6 a2.Rule.To, F6 a2.Rule.Lo, F6 a2.Rule.Hi, U6 a2.Rule.Authority, I6 a2.Rule.Quota, .bool a2.On] 49
 refine wl_run (v := Pt b705 0) (w' := w706) z z (x_al (by kernel_rfl) ew707 eb708) ?_
 obtain ⟨b712, w713, ew714, eb715, hst⟩ := hst.box [Zb, Zu, Zu, Zi, Zu, Zu, Zs, Zs] 35
 refine wl_run (v := Pt b712 0) (w' := w713) z z (x_al (by kernel_rfl) ew714 eb715) ?_
 refine wl_nil (tn (wp_seq (wrl (wv (Pt b705 14) z z (x_field z underlying49 z sizeOf33 z) (wv (Pt b705 14) z z (x_field z underlying33 z sizeOf29 z) (wv (.int .i64 a2.R.E) z z (x_load z isAgg29 (hst.bc1 z)) (wv (Pt b705 3) z z (x_field z underlying49 z sizeOf26 z) (wv (.int .u64 a2.Epoch) z z (x_load z isAgg26 (hst.bc1 z)) (wv (.int .u64 a1) z z z (wv (.agg #[I6 a2.R.E, U6 a2.Epoch, U6 a1, Zs, Zs]) z z (by kernel_rfl) ?_))))))))))
 obtain ⟨b721, w722, ew723, eb724, hst⟩ := hst.box [Zi, Zu, Zu, Zs, Zs] 33
 refine wl_run (v := Pt b721 0) (w' := w722) z z (x_al (by kernel_rfl) ew723 eb724) ?_
 obtain ⟨w726, hr727, hst⟩ := hst.bx [I6 a2.R.E, U6 a2.Epoch, U6 a1, Zs, Zs] sizeOf33 z (oC z (oC z (oC z (oC z (oC z oN))))) (by kernel_rfl)
 refine wl_unit z z (x_unit hr727) ?_
 refine wl_nil (tn (wp_seq ?_))
 replace hst := hst.pull3
 obtain ⟨b728, v729, v731, v733, v735, v737, v739, v741, rfl, hst'⟩ := at_lane_State_open hst
 clear hst
 have hst := hst'
 clear hst'
 refine wp_region_St hst 13 [0, 1, 2, 3, 4, 5, 6, 7, 8, 9, 10, 11, 12] [0, 1, 3, 7, 0, 16, 48, 127, 255, 511, 511, 1023, 4095] [] z (by kernel_rfl) (by kernel_rfl) Tryz.mixed (by kernel_rfl) ?_
 refine wsr (Pt b728 0) 0 z z z (by kernel_rfl) (fun w hst => z) (wsr (Pt b728 0) 1 z z z (by kernel_rfl) (fun w hst => z) (wsr (Pt b728 8) 2 z z z (by kernel_rfl) (fun w hst => x_field z underlying111 z sizeOf109 z) (wsr (v741) 3 z z z (by kernel_rfl) (fun w hst => x_load z isAgg109 (hst.bc0 z)) (wsr (Pt b705 21) 4 z z z (by kernel_rfl) (fun w hst => x_field z underlying49 z sizeOf39 z) (wsr (Pt b705 21) 5 z z z (by kernel_rfl) (fun w hst => x_field z underlying39 z sizeOf26 z) (wsr (.int .u64 a2.Rule.ID) 6 z z z (by kernel_rfl) (fun w hst => x_load z isAgg26 (hst.bc10 z)) ?_))))))
 refine ws_e1 7 (by kernel_rfl) ?_
 refine nxe [8, 9, 10, 11, 12] (by kernel_rfl) z z ?_
 clear hst
 intro w hst
 obtain ⟨y811, hq812, hm⟩ := bind_some hm
 refine we_call z (x_callv call132 (caps := []) z (vs := [v741, U6 a2.Rule.ID, .func (.func 133) #[] #[]]) z) ?_
 refine Calls.mono (show Calls prog 132 #[v741, U6 a2.Rule.ID, .func (.func 133) #[] #[]] _ (fun e w' => ∃ (z808 : Int) (z809 : Bool), (z808, z809) = y811 ∧ e = .returned (.tuple #[I6 z808, .bool z809]) ∧ St w0 w' I [cells b728 [I6 o0.wide, U6 o0.epoch, v729, v731, v733, v735, v737, v739, v741], objO at_mvcc_Store v729 o0.store, objO at_locks_Table v731 o0.locks, objO at_session_Table v733 o0.last, objO at_policy_Book v735 o0.book, ownS ty_api_Decision v737 o0.open_, ownS ty_api_Item v739 o0.out, ownS ty_lane_used v741 o0.used, cells b705 [U1 a2.Kind, U6 a2.ID.Session, U6 a2.ID.Seq, U6 a2.Epoch, U6 a2.Index, I6 a2.E, U6 a2.Hold.ID.Session, U6 a2.Hold.ID.Seq, U6 a2.Hold.Epoch, r2_0, r2_1, r2_2, r2_3, r2_4, I6 a2.R.E, U6 a2.R.Epoch, U6 a2.R.Index, r2_5, r2_6, U6 a2.Shards, r2_7, U6 a2.Rule.ID, I6 a2.Rule.From, I6 a2.Rule.To, F6 a2.Rule.Lo, F6 a2.Rule.Hi, U6 a2.Rule.Authority, I6 a2.Rule.Quota, .bool a2.On], cells b712 [Zb, Zu, Zu, Zi, Zu, Zu, Zs, Zs], cells b721 [I6 a2.R.E, U6 a2.Epoch, U6 a1, Zs, Zs]] R) from ?_) ?_
 {
 clear hm; have hm := hq812
 refine calls_start (args := [v741, U6 a2.Rule.ID, .func (.func 133) #[] #[]]) func132 z ntmps132 (Nat.le_of_ble_eq_true z) ?_
 refine wp_seq (wrl (wv (.int .i64 (0:Int)) z z z (wv (.bool false) z z z (wl_nil (tn (wp_seq (wrl (wv (v741) z z z (wv (.int .i64 ((o0.used).length : Int)) z z (x_len z underlying109 hst.sv7) (wv (.int .i64 ((o0.used).length : Int)) z z z (wl_nil (tn (wp_seq (wrl (wv (.int .i64 ((o0.used).length : Int)) z z z (wv (.int .i64 (0:Int)) z z z (wv (.int .i64 ((o0.used).length : Int)) z z z (wl_nil (tn ?_)))))))))))))))))))
 obtain ⟨y794, hm, hx795⟩ := bind_some hm
 refine wp_cut (fun a w => ∃ (z791 : Int) (σ792 : Nat → Value), (lane_State_give_j0 o0 a2) z791 = some y811 ∧ a = Fr 49 (upd (upd (upd (upd (upd σ792 0 (v741)) 1 (.int .u64 a2.Rule.ID)) 2 (.func (.func 133) #[] #[])) 8 (.int .i64 ((o0.used).length : Int))) 9 (.int .i64 z791)) ∧ St w0 w I [ownS ty_lane_used v741 o0.used, cells b728 [I6 o0.wide, U6 o0.epoch, v729, v731, v733, v735, v737, v739, v741], objO at_mvcc_Store v729 o0.store, objO at_locks_Table v731 o0.locks, objO at_session_Table v733 o0.last, objO at_policy_Book v735 o0.book, ownS ty_api_Decision v737 o0.open_, ownS ty_api_Item v739 o0.out, cells b705 [U1 a2.Kind, U6 a2.ID.Session, U6 a2.ID.Seq, U6 a2.Epoch, U6 a2.Index, I6 a2.E, U6 a2.Hold.ID.Session, U6 a2.Hold.ID.Seq, U6 a2.Hold.Epoch, r2_0, r2_1, r2_2, r2_3, r2_4, I6 a2.R.E, U6 a2.R.Epoch, U6 a2.R.Index, r2_5, r2_6, U6 a2.Shards, r2_7, U6 a2.Rule.ID, I6 a2.Rule.From, I6 a2.Rule.To, F6 a2.Rule.Lo, F6 a2.Rule.Hi, U6 a2.Rule.Authority, I6 a2.Rule.Quota, .bool a2.On], cells b712 [Zb, Zu, Zu, Zi, Zu, Zu, Zs, Zs], cells b721 [I6 a2.R.E, U6 a2.Epoch, U6 a1, Zs, Zs]] R) ?_ ?_
 {
 refine wp_block ?_
 obtain ⟨n772, hm⟩ := loopO_some hm
 refine wp_loop_n (fun n a w => ∃ (z769 : Int) (z770 : Int) (σ771 : Nat → Value), loopN (lane_State_give_l1 o0 a2) n (z769, z770) = some y794 ∧ a = Fr 49 (upd (upd (upd (upd (upd (upd σ771 0 (v741)) 1 (.int .u64 a2.Rule.ID)) 2 (.func (.func 133) #[] #[])) 8 (.int .i64 ((o0.used).length : Int))) 9 (.int .i64 z770)) 10 (.int .i64 z769)) ∧ St w0 w I [cells b728 [I6 o0.wide, U6 o0.epoch, v729, v731, v733, v735, v737, v739, v741], objO at_mvcc_Store v729 o0.store, objO at_locks_Table v731 o0.locks, objO at_session_Table v733 o0.last, objO at_policy_Book v735 o0.book, ownS ty_api_Decision v737 o0.open_, ownS ty_api_Item v739 o0.out, ownS ty_lane_used v741 o0.used, cells b721 [I6 a2.R.E, U6 a2.Epoch, U6 a1, Zs, Zs], cells b712 [Zb, Zu, Zu, Zi, Zu, Zu, Zs, Zs], cells b705 [U1 a2.Kind, U6 a2.ID.Session, U6 a2.ID.Seq, U6 a2.Epoch, U6 a2.Index, I6 a2.E, U6 a2.Hold.ID.Session, U6 a2.Hold.ID.Seq, U6 a2.Hold.Epoch, r2_0, r2_1, r2_2, r2_3, r2_4, I6 a2.R.E, U6 a2.R.Epoch, U6 a2.R.Index, r2_5, r2_6, U6 a2.Shards, r2_7, U6 a2.Rule.ID, I6 a2.Rule.From, I6 a2.Rule.To, F6 a2.Rule.Lo, F6 a2.Rule.Hi, U6 a2.Rule.Authority, I6 a2.Rule.Quota, .bool a2.On]] R) n772 ⟨((o0.used).length : Int), (0:Int), _, hm, (fu 0 v741 z (fu 1 (.int .u64 a2.Rule.ID) z (fu 2 (.func (.func 133) #[] #[]) z (fu 8 (.int .i64 ((o0.used).length : Int)) z (fu 9 (.int .i64 (0:Int)) z (fu 10 (.int .i64 ((o0.used).length : Int)) z z)))))), hst⟩ ?_
 rintro n778 _ w773 ⟨z769, z770, σ771, hm, rfl, hst⟩
 obtain ⟨n775, y776, rfl, hm, hx777⟩ := loopN_some hm
 dsimp only [lane_State_give_l1] at hm
 refine wp_seq (wp_seq (wrl (wv (.int .i64 z770) z z z (wv (.int .i64 z769) z z z (wv (.bool (decide (z770 < z769))) z z z (wl_nil (tn ?_)))))))
 refine bsplit (decide (z770 < z769)) (fun hc779 => ?_) (fun hc779 => ?_)
 {
 replace hm := bif_t hc779 hm
 refine wp_ift (cvb hc779) ?_
 refine wp_skip (tn (wp_block (wp_seq (wrl ?_))))
 refine wv (.int .i64 z770) z z z (wv (.int .i64 z769) z z z (wv (.int .i64 (i64.wrap (z770 + z769))) z z z (wv (.int .u64 (u64.wrap (i64.wrap (z770 + z769)))) z z (by kernel_rfl) (wv (.int .u64 (iShr .u64 (u64.wrap (i64.wrap (z770 + z769))) (1:Int))) z z (x_shr (by decide) z z) (wv (.int .i64 (i64.wrap (iShr .u64 (u64.wrap (i64.wrap (z770 + z769))) (1:Int)))) z z (by kernel_rfl) (wv (.int .i64 (i64.wrap (iShr .u64 (u64.wrap (i64.wrap (z770 + z769))) (1:Int)))) z z z (wl_nil (tn (wp_seq (wrl (wv (.func (.func 133) #[] #[]) z z z (wv (v741) z z z (wv (.int .i64 (i64.wrap (iShr .u64 (u64.wrap (i64.wrap (z770 + z769))) (1:Int)))) z z z ?_)))))))))))))
 obtain ⟨x780, hx781, hm⟩ := bind_some hm
 obtain ⟨h782, h783, hi784⟩ := geto_some hx781
 refine wv (.pointer (some (eAddr v741 ((i64.wrap (iShr .u64 (u64.wrap (i64.wrap (z770 + z769))) (1:Int))).toNat * 3 + 0)))) z z (x_index z z underlying109 sizeOf189 hst.sv7 h782 h783) (wv (.agg #[U6 x780.rule, U6 x780.epoch, I6 x780.n]) z z (x_loadN (cs := [U6 x780.rule, U6 x780.epoch, I6 x780.n]) z isAgg189 sizeOf189 (hst.olN7 hi784 0 (by rintro _ rfl; rfl))) (wv (.int .u64 a2.Rule.ID) z z z ?_))
 obtain ⟨t785, ht786, hm⟩ := bind_some hm
 refine wl_call z z (x_callv call133 (caps := []) z (vs := [.agg #[U6 x780.rule, U6 x780.epoch, I6 x780.n], U6 a2.Rule.ID]) z) ?_
 refine (lane_State_give_1_ref hst.to0 ht786).mono ?_
 rintro _ w787 ⟨rfl, hst⟩
 refine ⟨_, z, ?_⟩
 replace hst := hst.of0
 refine wv (.bool (decide (t785 < (0:Int)))) z z z (wl_nil (tn ?_))
 refine bsplit (decide (t785 < (0:Int))) (fun hc790 => ?_) (fun hc790 => ?_)
 {
 replace hm := bif_t hc790 hm
 refine wp_ift (cvb hc790) ?_
 refine wrl (wv (.int .i64 (i64.wrap (iShr .u64 (u64.wrap (i64.wrap (z770 + z769))) (1:Int)))) z z z (wv (.int .i64 (i64.wrap ((i64.wrap (iShr .u64 (u64.wrap (i64.wrap (z770 + z769))) (1:Int))) + (1:Int)))) z z z (wv (.int .i64 (i64.wrap ((i64.wrap (iShr .u64 (u64.wrap (i64.wrap (z770 + z769))) (1:Int))) + (1:Int)))) z z z (wl_nil (blk_n (tn ?_))))))
 replace hst := hst.pull10.pull10.pull10.pull10.pull10.pull10.pull10.pull10.pull10.pull10.pull10.keep11
 obtain rfl := some_inj hm
 exact ⟨_, Nat.lt_succ_self _, z769, (i64.wrap ((i64.wrap (iShr .u64 (u64.wrap (i64.wrap (z770 + z769))) (1:Int))) + (1:Int))), _, hx777, (fu 0 v741 z (fu 1 (.int .u64 a2.Rule.ID) z (fu 2 (.func (.func 133) #[] #[]) z (fu 8 (.int .i64 ((o0.used).length : Int)) z (fu 9 (.int .i64 (i64.wrap ((i64.wrap (iShr .u64 (u64.wrap (i64.wrap (z770 + z769))) (1:Int))) + (1:Int)))) z (fu 10 (.int .i64 z769) z z)))))), hst⟩
}
 {
 replace hm := bif_f hc790 hm
 refine wp_iff (cvb hc790) ?_
 refine wrl (wv (.int .i64 (i64.wrap (iShr .u64 (u64.wrap (i64.wrap (z770 + z769))) (1:Int)))) z z z (wv (.int .i64 (i64.wrap (iShr .u64 (u64.wrap (i64.wrap (z770 + z769))) (1:Int)))) z z z (wl_nil (blk_n (tn ?_)))))
 replace hst := hst.pull10.pull10.pull10.pull10.pull10.pull10.pull10.pull10.pull10.pull10.pull10.keep11
 obtain rfl := some_inj hm
 exact ⟨_, Nat.lt_succ_self _, (i64.wrap (iShr .u64 (u64.wrap (i64.wrap (z770 + z769))) (1:Int))), z770, _, hx777, (fu 0 v741 z (fu 1 (.int .u64 a2.Rule.ID) z (fu 2 (.func (.func 133) #[] #[]) z (fu 8 (.int .i64 ((o0.used).length : Int)) z (fu 9 (.int .i64 z770) z (fu 10 (.int .i64 (i64.wrap (iShr .u64 (u64.wrap (i64.wrap (z770 + z769))) (1:Int)))) z z)))))), hst⟩
}
}
 {
 replace hm := bif_f hc779 hm
 refine wp_iff (cvb hc779) ?_
 refine wp_exit (then_x (then_x ?_))
 replace hm := inr_up hm hx777
 refine blk_x (tn ?_)
 replace hst := hst.pull8.pull9.pull10.pull9.pull9.pull9.pull9.pull9.pull9.pull9.pull10.keep11
 obtain rfl := some_inj hm
 exact ⟨z770, _, hx795, (fu 0 v741 z (fu 1 (.int .u64 a2.Rule.ID) z (fu 2 (.func (.func 133) #[] #[]) z (fu 8 (.int .i64 ((o0.used).length : Int)) z (fu 9 (.int .i64 z770) z z))))), hst⟩
}
}
 {
 clear hst
 rintro _ w796 ⟨z791, σ792, hm, rfl, hst⟩
 dsimp only [lane_State_give_j0] at hm
 refine wp_seq (wrl (wv (.int .i64 z791) z z z (wv (.int .i64 z791) z z z (wv (.int .i64 ((o0.used).length : Int)) z z z (wv (.bool (decide (z791 < ((o0.used).length : Int)))) z z z (wv (.bool (decide (z791 < ((o0.used).length : Int)))) z z z ?_))))))
 refine bsplit (decide (z791 < ((o0.used).length : Int))) (fun hc797 => ?_) (fun hc797 => ?_)
 {
 replace hm := bif_t hc797 hm
 refine wv (.func (.func 133) #[] #[]) ((wanted_eq z z z (cvb hc797)).trans z) z z (wv (v741) ((wanted_eq z z z (cvb hc797)).trans z) z z (wv (.int .i64 z791) ((wanted_eq z z z (cvb hc797)).trans z) z z ?_))
 obtain ⟨x798, hx799, hm⟩ := bind_some hm
 obtain ⟨h800, h801, hi802⟩ := geto_some hx799
 refine wv (.pointer (some (eAddr v741 (z791.toNat * 3 + 0)))) ((wanted_eq z z z (cvb hc797)).trans z) z (x_index z z underlying109 sizeOf189 hst.sv0 h800 h801) (wv (.agg #[U6 x798.rule, U6 x798.epoch, I6 x798.n]) ((wanted_eq z z z (cvb hc797)).trans z) z (x_loadN (cs := [U6 x798.rule, U6 x798.epoch, I6 x798.n]) z isAgg189 sizeOf189 (hst.olN0 hi802 0 (by rintro _ rfl; rfl))) (wv (.int .u64 a2.Rule.ID) ((wanted_eq z z z (cvb hc797)).trans z) z z ?_))
 obtain ⟨t803, ht804, hm⟩ := bind_some hm
 refine wl_call ((wanted_eq z z z (cvb hc797)).trans z) z (x_callv call133 (caps := []) z (vs := [.agg #[U6 x798.rule, U6 x798.epoch, I6 x798.n], U6 a2.Rule.ID]) z) ?_
 refine (lane_State_give_1_ref hst.to0 ht804).mono ?_
 rintro _ w805 ⟨rfl, hst⟩
 refine ⟨_, z, ?_⟩
 replace hst := hst.of0
 refine wv (.bool (t803 == (0:Int))) ((wanted_eq z z z (cvb hc797)).trans z) z z (wv (.bool (t803 == (0:Int))) z z (x_pick_t hc797 z z) (wv (.int .i64 z791) z z z (wv (.bool (t803 == (0:Int))) z z z (wl_nil (tn (wp_ret ?_))))))
 refine post_ret (vs := [I6 z791, .bool (t803 == (0:Int))]) results132 (rvs_cons (rv_tmp z) (rvs_cons (rv_tmp z) rvs_nil)) ?_
 replace hst := hst.pull10.pull10.pull10.pull3.pull10.pull10.pull10.pull10.pull10.pull10.pull10.keep11
 obtain rfl := some_inj hm
 exact ⟨z791, (t803 == (0:Int)), z, z, hst⟩
}
 {
 replace hm := bif_f hc797 hm
 refine wo hc797 z z z z z z (wo hc797 z z z z z z (wo hc797 z z z z z z (wo hc797 z z z z z z (wo hc797 z z z z z z (wo hc797 z z z z z z (wo hc797 z z z z z z (wo hc797 z z z z z z (wv (.bool false) z z (x_pick_f hc797 z z) (wv (.int .i64 z791) z z z (wv (.bool false) z z z (wl_nil (tn (wp_ret ?_)))))))))))))
 refine post_ret (vs := [I6 z791, .bool false]) results132 (rvs_cons (rv_tmp z) (rvs_cons (rv_tmp z) rvs_nil)) ?_
 replace hst := hst.pull10.pull10.pull10.pull3.pull10.pull10.pull10.pull10.pull10.pull10.pull10.keep11
 obtain rfl := some_inj hm
 exact ⟨z791, false, z, z, hst⟩
}
}
}
 clear hst
 rintro _ w813 ⟨z808, z809, rfl, rfl, hst⟩
 refine ⟨_, z, ?_⟩
 try dsimp only at hm
 refine ws_next (pend' := []) hst (by kernel_rfl) pk_nil ?_
 refine wsr (.tuple #[I6 z808, .bool z809]) 8 z z z (by kernel_rfl) (fun w hst => z) (wsr (.int .i64 z808) 9 z z z (by kernel_rfl) (fun w hst => z) (wsr (.bool z809) 10 z z z (by kernel_rfl) (fun w hst => z) (wsr (.int .i64 z808) 11 z z z (by kernel_rfl) (fun w hst => z) (wsr (.bool z809) 12 z z z (by kernel_rfl) (fun w hst => z) ?_))))
 refine ws_nil ?_
 intro w hst
 refine tn (wp_seq (wrl (wv (.int .i64 (0:Int)) z z z (wl_nil (tn ?_)))))
 obtain ⟨y824, hm, hx825⟩ := bind_some hm
 refine wp_cut (fun a w => ∃ (z821 : Int) (σ822 : Nat → Value), (lane_State_give_j2 a2 o0 a1 z809 z808) z821 = some r ∧ a = Fr 170 (upd (upd (upd (upd (upd (upd (upd σ822 0 (Pt b728 0)) 5 (Pt b705 0)) 6 (Pt b712 0)) 7 (Pt b721 0)) 8 (.int .i64 z808)) 9 (.bool z809)) 10 (.int .i64 z821)) ∧ St w0 w I [at_lane_State (Pt b728 0) o0, cells b705 [U1 a2.Kind, U6 a2.ID.Session, U6 a2.ID.Seq, U6 a2.Epoch, U6 a2.Index, I6 a2.E, U6 a2.Hold.ID.Session, U6 a2.Hold.ID.Seq, U6 a2.Hold.Epoch, r2_0, r2_1, r2_2, r2_3, r2_4, I6 a2.R.E, U6 a2.R.Epoch, U6 a2.R.Index, r2_5, r2_6, U6 a2.Shards, r2_7, U6 a2.Rule.ID, I6 a2.Rule.From, I6 a2.Rule.To, F6 a2.Rule.Lo, F6 a2.Rule.Hi, U6 a2.Rule.Authority, I6 a2.Rule.Quota, .bool a2.On], cells b712 [Zb, Zu, Zu, Zi, Zu, Zu, Zs, Zs], cells b721 [I6 a2.R.E, U6 a2.Epoch, U6 a1, Zs, Zs]] R) ?_ ?_
 {
 refine wp_seq ?_
 refine wq_regionS hst Tryz.mixed (by kernel_rfl) ?_
 refine wq_run (v := .bool z809) z z (fun w hst => z) ?_
 refine wq_run (v := .bool z809) z z (fun w hst => z) ?_
 refine bsplit z809 (fun hc814 => ?_) (fun hc814 => ?_)
 {
 replace hm := bif_t hc814 hm
 refine wq_run (v := Pt b728 0) ((wanted_eq z z z (cvb hc814)).trans z) z (fun w hst => z) ?_
 refine wq_run (v := Pt b728 0) ((wanted_eq z z z (cvb hc814)).trans z) z (fun w hst => z) ?_
 refine wq_run (v := Pt b728 8) ((wanted_eq z z z (cvb hc814)).trans z) z (fun w hst => x_field z underlying111 z sizeOf109 z) ?_
 refine wq_run (v := v741) ((wanted_eq z z z (cvb hc814)).trans z) z (fun w hst => x_load z isAgg109 (hst.bc0 z)) ?_
 refine wq_run (v := .int .i64 z808) ((wanted_eq z z z (cvb hc814)).trans z) z (fun w hst => z) ?_
 obtain ⟨x815, hx816, hm⟩ := bind_some hm
 obtain ⟨h817, h818, hi819⟩ := geto_some hx816
 refine wq_run (v := .pointer (some (eAddr v741 (z808.toNat * 3 + 0)))) ((wanted_eq z z z (cvb hc814)).trans z) z (fun w hst => x_index z z underlying109 sizeOf189 hst.sv7 h817 h818) ?_
 refine wq_run (v := .pointer (some (eAddr v741 (z808.toNat * 3 + 1)))) ((wanted_eq z z z (cvb hc814)).trans z) z (fun w hst => x_field_e z underlying189 z sizeOf26 z) ?_
 refine wq_run (v := .int .u64 x815.epoch) ((wanted_eq z z z (cvb hc814)).trans z) z (fun w hst => x_load z isAgg26 (hst.ol7 hi819 (by rintro _ rfl; rfl))) ?_
 refine wq_run (v := Pt b705 3) ((wanted_eq z z z (cvb hc814)).trans z) z (fun w hst => x_field z underlying49 z sizeOf26 z) ?_
 refine wq_run (v := .int .u64 a2.Epoch) ((wanted_eq z z z (cvb hc814)).trans z) z (fun w hst => x_load z isAgg26 (hst.bc8 z)) ?_
 refine wq_run (v := .bool (x815.epoch == a2.Epoch)) ((wanted_eq z z z (cvb hc814)).trans z) z (fun w hst => z) ?_
 refine wq_run (v := .bool (x815.epoch == a2.Epoch)) z z (fun w hst => x_pick_t hc814 z z) ?_
 refine wq_nil ?_
 intro w hst
 refine tn ?_
 refine bsplit (x815.epoch == a2.Epoch) (fun hc820 => ?_) (fun hc820 => ?_)
 {
 replace hm := bif_t hc820 hm
 refine wp_ift (cvb hc820) ?_
 refine wrl (wv (Pt b728 0) z z z (wv (Pt b728 0) z z z (wv (Pt b728 8) z z (x_field z underlying111 z sizeOf109 z) (wv (v741) z z (x_load z isAgg109 (hst.bc0 z)) (wv (.int .i64 z808) z z z (wv (.pointer (some (eAddr v741 (z808.toNat * 3 + 0)))) z z (x_index z z underlying109 sizeOf189 hst.sv7 h817 h818) (wv (.pointer (some (eAddr v741 (z808.toNat * 3 + 2)))) z z (x_field_e z underlying189 z sizeOf3 z) (wv (.int .i64 x815.n) z z (x_load z isAgg3 (hst.ol7 hi819 (by rintro _ rfl; rfl))) (wv (.int .i64 x815.n) z z z (wl_nil (tn ?_)))))))))))
 replace hst := hst.pull7.pull7.pull7.pull7.pull7.pull7.pull7.pull7
 replace hst := at_lane_State_close (pv := Pt b728 0) (x := o0) hst z
 replace hst := hst.pull3.pull3.pull3.pull3.keep4
 obtain rfl := some_inj hm
 exact ⟨x815.n, _, hx825, (fu 0 (Pt b728 0) z (fu 5 (Pt b705 0) z (fu 6 (Pt b712 0) z (fu 7 (Pt b721 0) z (fu 8 (.int .i64 z808) z (fu 9 (.bool z809) z (fu 10 (.int .i64 x815.n) z z))))))), hst⟩
}
 {
 replace hm := bif_f hc820 hm
 refine wp_iff (cvb hc820) ?_
 refine wp_skip (tn ?_)
 replace hst := hst.pull7.pull7.pull7.pull7.pull7.pull7.pull7.pull7
 replace hst := at_lane_State_close (pv := Pt b728 0) (x := o0) hst z
 replace hst := hst.pull3.pull3.pull3.pull3.keep4
 obtain rfl := some_inj hm
 exact ⟨(0:Int), _, hx825, (fu 0 (Pt b728 0) z (fu 5 (Pt b705 0) z (fu 6 (Pt b712 0) z (fu 7 (Pt b721 0) z (fu 8 (.int .i64 z808) z (fu 9 (.bool z809) z (fu 10 (.int .i64 (0:Int)) z z))))))), hst⟩
}
}
 {
 replace hm := bif_f hc814 hm
 refine wq_off ((wanted_eq z z z (cvb hc814)).trans z) z ?_
 refine wq_off ((wanted_eq z z z (cvb hc814)).trans z) z ?_
 refine wq_off ((wanted_eq z z z (cvb hc814)).trans z) z ?_
 refine wq_off ((wanted_eq z z z (cvb hc814)).trans z) z ?_
 refine wq_off ((wanted_eq z z z (cvb hc814)).trans z) z ?_
 refine wq_off ((wanted_eq z z z (cvb hc814)).trans z) z ?_
 refine wq_off ((wanted_eq z z z (cvb hc814)).trans z) z ?_
 refine wq_off ((wanted_eq z z z (cvb hc814)).trans z) z ?_
 refine wq_off ((wanted_eq z z z (cvb hc814)).trans z) z ?_
 refine wq_off ((wanted_eq z z z (cvb hc814)).trans z) z ?_
 refine wq_off ((wanted_eq z z z (cvb hc814)).trans z) z ?_
 refine wq_run (v := .bool false) z z (fun w hst => x_pick_f hc814 z z) ?_
 refine wq_nil ?_
 intro w hst
 refine tn ?_
 refine wp_iff z ?_
 refine wp_skip (tn ?_)
 replace hst := hst.pull7.pull7.pull7.pull7.pull7.pull7.pull7.pull7
 replace hst := at_lane_State_close (pv := Pt b728 0) (x := o0) hst z
 replace hst := hst.pull3.pull3.pull3.pull3.keep4
 obtain rfl := some_inj hm
 exact ⟨(0:Int), _, hx825, (fu 0 (Pt b728 0) z (fu 5 (Pt b705 0) z (fu 6 (Pt b712 0) z (fu 7 (Pt b721 0) z (fu 8 (.int .i64 z808) z (fu 9 (.bool z809) z (fu 10 (.int .i64 (0:Int)) z z))))))), hst⟩
}
}
 {
 clear hst
 rintro _ w826 ⟨z821, σ822, hm, rfl, hst⟩
 dsimp only [lane_State_give_j2] at hm
 obtain ⟨y856, hm, hx857⟩ := bind_some hm
 refine wp_cut (fun a w => ∃ (z853 : Int) (σ854 : Nat → Value), (lane_State_give_j3 o0 a2 a1 z809 z808 z821) z853 = some r ∧ a = Fr 170 (upd (upd (upd (upd (upd (upd (upd σ854 0 (Pt b728 0)) 5 (Pt b705 0)) 6 (Pt b712 0)) 7 (Pt b721 0)) 8 (.int .i64 z808)) 9 (.bool z809)) 10 (.int .i64 z821)) ∧ St w0 w I [at_lane_State (Pt b728 0) o0, cells b705 [U1 a2.Kind, U6 a2.ID.Session, U6 a2.ID.Seq, U6 a2.Epoch, U6 a2.Index, I6 a2.E, U6 a2.Hold.ID.Session, U6 a2.Hold.ID.Seq, U6 a2.Hold.Epoch, r2_0, r2_1, r2_2, r2_3, r2_4, I6 a2.R.E, U6 a2.R.Epoch, U6 a2.R.Index, r2_5, r2_6, U6 a2.Shards, r2_7, U6 a2.Rule.ID, I6 a2.Rule.From, I6 a2.Rule.To, F6 a2.Rule.Lo, F6 a2.Rule.Hi, U6 a2.Rule.Authority, I6 a2.Rule.Quota, .bool a2.On], cells b712 [Zb, Zu, Zu, Zi, Zu, Zu, Zs, Zs], cells b721 [I6 z853, U6 a2.Epoch, U6 a1, Zs, Zs]] R) ?_ ?_
 {
 refine wp_block (wp_seq (wrl (wv (Pt b721 0) z z (x_field z underlying33 z sizeOf29 z) (wv (.int .i64 a2.R.E) z z (x_load z isAgg29 (hst.bc3 z)) (wv (.bool (a2.R.E != (0:Int))) z z z (wv (.bool (a2.R.E != (0:Int))) z z z (wl_nil (tn ?_))))))))
 refine bsplit (a2.R.E != (0:Int)) (fun hc827 => ?_) (fun hc827 => ?_)
 {
 replace hm := bif_t hc827 hm
 refine wp_ift (cvb hc827) ?_
 refine wp_skip (blk_n (tn ?_))
 replace hst := hst.pull3.pull3.pull3.pull3.keep4
 obtain rfl := some_inj hm
 exact ⟨a2.R.E, _, hx857, (fu 0 (Pt b728 0) z (fu 5 (Pt b705 0) z (fu 6 (Pt b712 0) z (fu 7 (Pt b721 0) z (fu 8 (.int .i64 z808) z (fu 9 (.bool z809) z (fu 10 (.int .i64 z821) z z))))))), hst⟩
}
 {
 replace hm := bif_f hc827 hm
 refine wp_iff (cvb hc827) ?_
 refine wp_seq ?_
 obtain ⟨b828, v829, v831, v833, v835, v837, v839, v841, e843, hst'⟩ := at_lane_State_open hst
 clear hst
 have e843 := ptr_inj e843
 subst e843
 have hst := hst'
 clear hst'
 refine wq_regionS hst Tryz.mixed (by kernel_rfl) ?_
 refine wq_run (v := Pt b705 3) z z (fun w hst => x_field z underlying49 z sizeOf26 z) ?_
 refine wq_run (v := .int .u64 a2.Epoch) z z (fun w hst => x_load z isAgg26 (hst.bc8 z)) ?_
 refine wq_run (v := Pt b728 0) z z (fun w hst => z) ?_
 refine wq_run (v := Pt b728 0) z z (fun w hst => z) ?_
 refine wq_run (v := Pt b728 1) z z (fun w hst => x_field z underlying111 z sizeOf26 z) ?_
 refine wq_run (v := .int .u64 o0.epoch) z z (fun w hst => x_load z isAgg26 (hst.bc0 z)) ?_
 refine wq_run (v := .bool (a2.Epoch != o0.epoch)) z z (fun w hst => z) ?_
 refine wq_run (v := .bool (a2.Epoch != o0.epoch)) z z (fun w hst => z) ?_
 refine wq_nil ?_
 intro w hst
 refine tn ?_
 refine bsplit (a2.Epoch != o0.epoch) (fun hc844 => ?_) (fun hc844 => ?_)
 {
 replace hm := bif_t hc844 hm
 refine wp_ift (cvb hc844) ?_
 refine wrl (wv (Pt b721 0) z z (x_field z underlying33 z sizeOf29 z) ?_)
 replace hst := hst.pull10
 obtain ⟨w845, hr846, hst⟩ := hst.by_ [I6 (9:Int), U6 a2.Epoch, U6 a1, Zs, Zs] 0 (.int .i64 (9:Int)) sizeOf29 z (oC z oN) (by kernel_rfl)
 refine wl_unit z z (x_unit hr846) ?_
 refine wl_nil (blk_n (tn ?_))
 replace hst := hst.pull8.pull8.pull8.pull8.pull8.pull8.pull8.pull8
 replace hst := at_lane_State_close (pv := Pt b728 0) (x := o0) hst z
 replace hst := hst.pull1.pull3.pull3.pull3.keep4
 obtain rfl := some_inj hm
 exact ⟨(9:Int), _, hx857, (fu 0 (Pt b728 0) z (fu 5 (Pt b705 0) z (fu 6 (Pt b712 0) z (fu 7 (Pt b721 0) z (fu 8 (.int .i64 z808) z (fu 9 (.bool z809) z (fu 10 (.int .i64 z821) z z))))))), hst⟩
}
 {
 replace hm := bif_f hc844 hm
 refine wp_iff (cvb hc844) ?_
 refine wp_seq (wrl (wv (Pt b705 13) z z (x_field z underlying49 z sizeOf42 z) (wv (r2_4) z z (x_load z isAgg42 (hst.bc8 z)) (wv (.int .i64 ((a2.Writes).length : Int)) z z (x_len z underlying42 (rd_sliceV f2_4)) (wv (.bool (((a2.Writes).length : Int) != (1:Int))) z z z (wv (.bool (((a2.Writes).length : Int) != (1:Int))) z z z (wl_nil (tn ?_))))))))
 refine bsplit (((a2.Writes).length : Int) != (1:Int)) (fun hc847 => ?_) (fun hc847 => ?_)
 {
 replace hm := bif_t hc847 hm
 refine wp_ift (cvb hc847) ?_
 refine wrl (wv (Pt b721 0) z z (x_field z underlying33 z sizeOf29 z) ?_)
 replace hst := hst.pull10
 obtain ⟨w848, hr849, hst⟩ := hst.by_ [I6 (1:Int), U6 a2.Epoch, U6 a1, Zs, Zs] 0 (.int .i64 (1:Int)) sizeOf29 z (oC z oN) (by kernel_rfl)
 refine wl_unit z z (x_unit hr849) ?_
 refine wl_nil (blk_n (tn ?_))
 replace hst := hst.pull8.pull8.pull8.pull8.pull8.pull8.pull8.pull8
 replace hst := at_lane_State_close (pv := Pt b728 0) (x := o0) hst z
 replace hst := hst.pull1.pull3.pull3.pull3.keep4
 obtain rfl := some_inj hm
 exact ⟨(1:Int), _, hx857, (fu 0 (Pt b728 0) z (fu 5 (Pt b705 0) z (fu 6 (Pt b712 0) z (fu 7 (Pt b721 0) z (fu 8 (.int .i64 z808) z (fu 9 (.bool z809) z (fu 10 (.int .i64 z821) z z))))))), hst⟩
}
 {
 replace hm := bif_f hc847 hm
 refine wp_iff (cvb hc847) ?_
 refine wp_seq (wrl (wv (.int .i64 z821) z z z (wv (Pt b705 21) z z (x_field z underlying49 z sizeOf39 z) (wv (Pt b705 27) z z (x_field z underlying39 z sizeOf3 z) (wv (.int .i64 a2.Rule.Quota) z z (x_load z isAgg3 (hst.bc8 z)) (wv (.bool (decide (z821 ≥ a2.Rule.Quota))) z z z (wv (.bool (decide (z821 ≥ a2.Rule.Quota))) z z z (wl_nil (tn ?_)))))))))
 refine bsplit (decide (z821 ≥ a2.Rule.Quota)) (fun hc850 => ?_) (fun hc850 => ?_)
 {
 replace hm := bif_t hc850 hm
 refine wp_ift (cvb hc850) ?_
 refine wrl (wv (Pt b721 0) z z (x_field z underlying33 z sizeOf29 z) ?_)
 replace hst := hst.pull10
 obtain ⟨w851, hr852, hst⟩ := hst.by_ [I6 (13:Int), U6 a2.Epoch, U6 a1, Zs, Zs] 0 (.int .i64 (13:Int)) sizeOf29 z (oC z oN) (by kernel_rfl)
 refine wl_unit z z (x_unit hr852) ?_
 refine wl_nil (blk_n (tn ?_))
 replace hst := hst.pull8.pull8.pull8.pull8.pull8.pull8.pull8.pull8
 replace hst := at_lane_State_close (pv := Pt b728 0) (x := o0) hst z
 replace hst := hst.pull1.pull3.pull3.pull3.keep4
 obtain rfl := some_inj hm
 exact ⟨(13:Int), _, hx857, (fu 0 (Pt b728 0) z (fu 5 (Pt b705 0) z (fu 6 (Pt b712 0) z (fu 7 (Pt b721 0) z (fu 8 (.int .i64 z808) z (fu 9 (.bool z809) z (fu 10 (.int .i64 z821) z z))))))), hst⟩
}
 {
 replace hm := bif_f hc850 hm
 refine wp_iff (cvb hc850) ?_
 refine wp_skip (blk_n (tn ?_))
 replace hst := hst.pull7.pull7.pull7.pull7.pull7.pull7.pull7.pull7
 replace hst := at_lane_State_close (pv := Pt b728 0) (x := o0) hst z
 replace hst := hst.pull3.pull3.pull3.pull3.keep4
 obtain rfl := some_inj hm
 exact ⟨a2.R.E, _, hx857, (fu 0 (Pt b728 0) z (fu 5 (Pt b705 0) z (fu 6 (Pt b712 0) z (fu 7 (Pt b721 0) z (fu 8 (.int .i64 z808) z (fu 9 (.bool z809) z (fu 10 (.int .i64 z821) z z))))))), hst⟩
}
}
}
}
}
 {
 clear hst
 rintro _ w858 ⟨z853, σ854, hm, rfl, hst⟩
 dsimp only [lane_State_give_j3] at hm
 refine wp_seq (wp_seq ?_)
 obtain ⟨b859, v860, v862, v864, v866, v868, v870, v872, e874, hst'⟩ := at_lane_State_open hst
 clear hst
 have e874 := ptr_inj e874
 subst e874
 have hst := hst'
 clear hst'
 refine wp_region_St hst 13 [0, 1, 2, 3, 4, 5, 6, 7, 8, 9, 10, 11, 12] [0, 1, 3, 7, 0, 16, 48, 0, 128, 384, 0, 2047, 4095] [] z (by kernel_rfl) (by kernel_rfl) Tryz.mixed (by kernel_rfl) ?_
 refine wsr (Pt b728 0) 0 z z z (by kernel_rfl) (fun w hst => z) (wsr (Pt b728 0) 1 z z z (by kernel_rfl) (fun w hst => z) (wsr (Pt b728 4) 2 z z z (by kernel_rfl) (fun w hst => x_field z underlying111 z sizeOf105 z) (wsr (v864) 3 z z z (by kernel_rfl) (fun w hst => x_load z isAgg105 (hst.bc0 z)) (wsr (Pt b705 1) 4 z z z (by kernel_rfl) (fun w hst => x_field z underlying49 z sizeOf28 z) (wsr (Pt b705 1) 5 z z z (by kernel_rfl) (fun w hst => x_field z underlying28 z sizeOf26 z) (wsr (.int .u64 a2.ID.Session) 6 z z z (by kernel_rfl) (fun w hst => x_load z isAgg26 (hst.bc8 z)) (wsr (Pt b705 1) 7 z z z (by kernel_rfl) (fun w hst => x_field z underlying49 z sizeOf28 z) (wsr (Pt b705 2) 8 z z z (by kernel_rfl) (fun w hst => x_field z underlying28 z sizeOf26 z) (wsr (.int .u64 a2.ID.Seq) 9 z z z (by kernel_rfl) (fun w hst => x_load z isAgg26 (hst.bc8 z)) (wsr (.agg #[I6 z853, U6 a2.Epoch, U6 a1, Zs, Zs]) 10 z z z (by kernel_rfl) (fun w hst => x_loadN (cs := [I6 z853, U6 a2.Epoch, U6 a1, Zs, Zs]) z isAgg33 sizeOf33 (hst.bcs10 0 z)) ?_))))))))))
 refine ws_e1 11 (by kernel_rfl) ?_
 refine nxe [12] (by kernel_rfl) z z ?_
 clear hst
 intro w hst
 have f875 : Ro ty_api_Got I (.slice none 0 0) [] := ro_nil
 have f876 : Ro (tySl ty_api_Pair) I (.slice none 0 0) [] := ro_nil
 replace hst := hst.pull3
 obtain ⟨t877, ht878, hm⟩ := bind_some hm
 refine wec call124 [v864, U6 a2.ID.Session, U6 a2.ID.Seq, .agg #[I6 z853, U6 a2.Epoch, U6 a1, Zs, Zs]] z z ?_
 refine (session_Table_Put_ref (a3 := ({ E := z853, Epoch := a2.Epoch, Index := a1, Gots := [], Scans := [] } : api_Reply)) f875 f876 hst.to1 ht878).mono ?_
 rintro _ w879 ⟨rfl, hst⟩
 refine ⟨_, z, ?_⟩
 replace hst := hst.of1
 refine ws_next (pend' := []) hst (by kernel_rfl) pk_nil ?_
 refine wsr (.bool (t877.1 != (0:Int))) 12 z z z (by kernel_rfl) (fun w hst => z) ?_
 refine ws_nil ?_
 intro w hst
 refine tn ?_
 refine bsplit (t877.1 != (0:Int)) (fun hc882 => ?_) (fun hc882 => ?_)
 {
 replace hm := bif_t hc882 hm
 refine wp_ift (cvb hc882) ?_
 refine wp_seq (wrl (wv (Pt b728 0) z z z (wv (Pt b705 1) z z (x_field z underlying49 z sizeOf28 z) (wv (.agg #[U6 a2.ID.Session, U6 a2.ID.Seq]) z z (x_loadN (cs := [U6 a2.ID.Session, U6 a2.ID.Seq]) z isAgg28 sizeOf28 (hst.bcs8 1 z)) ?_))))
 replace hst := hst.pull7.pull7.pull7.pull7.pull4.pull7.pull7.pull7
 replace hst := at_lane_State_close (pv := Pt b728 0) (x := ({ wide := o0.wide, epoch := o0.epoch, store := o0.store, locks := o0.locks, last := t877.2, book := o0.book, open_ := o0.open_, out := o0.out, used := o0.used } : lane_State)) hst z
 replace hst := objO_some hst
 obtain ⟨t883, ht884, hm⟩ := bind_some hm
 refine wc call125 [Pt b728 0, .agg #[U6 a2.ID.Session, U6 a2.ID.Seq]] z z z ?_
 refine (lane_State_late_ref hst.to1 ht884).mono ?_
 rintro _ w885 ⟨v888, v890, rfl, hst⟩
 refine ⟨_, z, ?_⟩
 replace hst := hst.of3.pull2
 replace hst := objO_get hst
 replace hst := hst.pull4
 obtain ⟨w892, hr893, hst⟩ := hst.bx [U1 t883.Kind, U6 t883.ID.Session, U6 t883.ID.Seq, I6 t883.R.E, U6 t883.R.Epoch, U6 t883.R.Index, v888, v890] sizeOf35 z (oC z (oC z (oC z (oC z (oC z (oC z (oC (one_of_sliceV hst.sv2) (oC (one_of_sliceV hst.sv3) oN)))))))) (by kernel_rfl)
 refine wl_unit z z (x_unit hr893) ?_
 refine wl_nil (tn (wp_ret (then_r ?_)))
 replace hst := hst.pull2
 obtain ⟨I894, hI895, f896, hst⟩ := hst.own_fix
 replace f2_0 := f2_0.mono (rd_le hI895)
 replace f2_1 := f2_1.mono (rd_le hI895)
 replace f2_2 := f2_2.mono (rd_le hI895)
 replace f2_3 := f2_3.mono (rd_le hI895)
 replace f2_4 := f2_4.mono (rd_le hI895)
 replace f2_5 := f2_5.mono (rd_le hI895)
 replace f2_6 := f2_6.mono (rd_le hI895)
 replace f2_7 := f2_7.mono (rd_le hI895)
 replace f875 := f875.mono (ro_le hI895)
 replace f876 := f876.mono (ro_le hI895)
 replace hI0 := hI0.trans hI895
 replace hst := hst.pull2
 obtain ⟨I897, hI898, f899, hst⟩ := hst.own_fix
 replace f2_0 := f2_0.mono (rd_le hI898)
 replace f2_1 := f2_1.mono (rd_le hI898)
 replace f2_2 := f2_2.mono (rd_le hI898)
 replace f2_3 := f2_3.mono (rd_le hI898)
 replace f2_4 := f2_4.mono (rd_le hI898)
 replace f2_5 := f2_5.mono (rd_le hI898)
 replace f2_6 := f2_6.mono (rd_le hI898)
 replace f2_7 := f2_7.mono (rd_le hI898)
 replace f875 := f875.mono (ro_le hI898)
 replace f876 := f876.mono (ro_le hI898)
 replace f896 := f896.mono (ro_le hI898)
 replace hI0 := hI0.trans hI898
 replace hst := hst.pull1
 replace hst := objO_some hst
 obtain rfl := some_inj hm
 refine post_ret (vs := [.agg #[U1 t883.Kind, U6 t883.ID.Session, U6 t883.ID.Seq, I6 t883.R.E, U6 t883.R.Epoch, U6 t883.R.Index, v888, v890]]) results55 (rvs_cons (rv_cell (cs := [U1 t883.Kind, U6 t883.ID.Session, U6 t883.ID.Seq, I6 t883.R.E, U6 t883.R.Epoch, U6 t883.R.Index, v888, v890]) z isAgg35 sizeOf35 (hst.bcs1 0 z)) rvs_nil) ?_
 exact ⟨_, v888, v890, z, hI0, f896, f899, hst.keep1⟩
}
 {
 replace hm := bif_f hc882 hm
 refine wp_iff (cvb hc882) ?_
 refine wp_skip (tn ?_)
 obtain ⟨y1143, hm, hx1144⟩ := bind_some hm
 refine wp_cut (fun a w => ∃ (I1140 : HL) (z1139 : lane_State) (σ1141 : Nat → Value), (lane_State_give_j4 a2 z853 a1) z1139 = some r ∧ a = Fr 170 (upd (upd (upd σ1141 5 (Pt b705 0)) 6 (Pt b712 0)) 7 (Pt b721 0)) ∧ I.le I1140 ∧ St w0 w I1140 [cells b705 [U1 a2.Kind, U6 a2.ID.Session, U6 a2.ID.Seq, U6 a2.Epoch, U6 a2.Index, I6 a2.E, U6 a2.Hold.ID.Session, U6 a2.Hold.ID.Seq, U6 a2.Hold.Epoch, r2_0, r2_1, r2_2, r2_3, r2_4, I6 a2.R.E, U6 a2.R.Epoch, U6 a2.R.Index, r2_5, r2_6, U6 a2.Shards, r2_7, U6 a2.Rule.ID, I6 a2.Rule.From, I6 a2.Rule.To, F6 a2.Rule.Lo, F6 a2.Rule.Hi, U6 a2.Rule.Authority, I6 a2.Rule.Quota, .bool a2.On], cells b712 [Zb, Zu, Zu, Zi, Zu, Zu, Zs, Zs], cells b721 [I6 z853, U6 a2.Epoch, U6 a1, Zs, Zs], at_lane_State (Pt b728 0) z1139] R) ?_ ?_
 {
 have hL1145 := HL.le.refl I
 refine wp_seq (wrl (wv (Pt b721 0) z z (x_field z underlying33 z sizeOf29 z) (wv (.int .i64 z853) z z (x_load z isAgg29 (hst.bc10 z)) (wv (.bool (z853 == (0:Int))) z z z (wl_nil (tn ?_))))))
 refine bsplit (z853 == (0:Int)) (fun hc900 => ?_) (fun hc900 => ?_)
 {
 replace hm := bif_t hc900 hm
 refine wp_ift (cvb hc900) ?_
 obtain ⟨y919, hm, hx920⟩ := bind_some hm
 refine wp_cut (fun a w => ∃ (z916 : lane_State) (σ917 : Nat → Value), (lane_State_give_j5 z808 a2 z821) z916 = some y1143 ∧ a = Fr 170 (upd (upd (upd (upd (upd (upd σ917 0 (Pt b728 0)) 5 (Pt b705 0)) 6 (Pt b712 0)) 7 (Pt b721 0)) 8 (.int .i64 z808)) 10 (.int .i64 z821)) ∧ St w0 w I [at_lane_State (Pt b728 0) z916, cells b705 [U1 a2.Kind, U6 a2.ID.Session, U6 a2.ID.Seq, U6 a2.Epoch, U6 a2.Index, I6 a2.E, U6 a2.Hold.ID.Session, U6 a2.Hold.ID.Seq, U6 a2.Hold.Epoch, r2_0, r2_1, r2_2, r2_3, r2_4, I6 a2.R.E, U6 a2.R.Epoch, U6 a2.R.Index, r2_5, r2_6, U6 a2.Shards, r2_7, U6 a2.Rule.ID, I6 a2.Rule.From, I6 a2.Rule.To, F6 a2.Rule.Lo, F6 a2.Rule.Hi, U6 a2.Rule.Authority, I6 a2.Rule.Quota, .bool a2.On], cells b712 [Zb, Zu, Zu, Zi, Zu, Zu, Zs, Zs], cells b721 [I6 z853, U6 a2.Epoch, U6 a1, Zs, Zs]] R) ?_ ?_
 {
 refine wp_seq (wrl (wv (.bool z809) z z z (wv (.bool (!z809)) z z z (wl_nil (tn ?_)))))
 refine bsplit (!z809) (fun hc901 => ?_) (fun hc901 => ?_)
 {
 replace hm := bif_t hc901 hm
 refine wp_ift (cvb hc901) ?_
 refine wp_region_St hst 15 [0, 1, 2, 3, 4, 5, 6, 7, 8, 9, 10, 11, 12, 13, 14] [0, 0, 2, 6, 14, 0, 0, 64, 192, 448, 960, 2046, 4095, 8191, 16383] [] z (by kernel_rfl) (by kernel_rfl) Tryz.mixed (by kernel_rfl) ?_
 refine wsr (Pt b728 0) 0 z z z (by kernel_rfl) (fun w hst => z) (wsr (Pt b728 0) 1 z z z (by kernel_rfl) (fun w hst => z) (wsr (Pt b728 0) 2 z z z (by kernel_rfl) (fun w hst => z) (wsr (Pt b728 8) 3 z z z (by kernel_rfl) (fun w hst => x_field z underlying111 z sizeOf109 z) (wsr (v872) 4 z z z (by kernel_rfl) (fun w hst => x_load z isAgg109 (hst.bc1 z)) (wsr (.int .i64 z808) 5 z z z (by kernel_rfl) (fun w hst => z) (wsr (Pt b705 21) 6 z z z (by kernel_rfl) (fun w hst => x_field z underlying49 z sizeOf39 z) (wsr (Pt b705 21) 7 z z z (by kernel_rfl) (fun w hst => x_field z underlying39 z sizeOf26 z) (wsr (.int .u64 a2.Rule.ID) 8 z z z (by kernel_rfl) (fun w hst => x_load z isAgg26 (hst.bc8 z)) (wsr (.agg #[U6 a2.Rule.ID, Zu, Zi]) 9 z z z (by kernel_rfl) (fun w hst => by kernel_rfl) ?_)))))))))
 refine ws_e1 10 (by kernel_rfl) ?_
 refine nxe [11, 12, 13, 14] (by kernel_rfl) z z ?_
 clear hst
 intro w hst
 obtain ⟨b902, w903, ew904, eb905, hst⟩ := hst.lits (E := ty_lane_used) (xs := [({ rule := a2.Rule.ID, epoch := (0:Int), n := (0:Int) } : lane_used)]) [[U6 a2.Rule.ID, Zu, Zi]] 189 1 z (Reps.cons z Reps.nil)
 refine we_run (v := (.slice (some ⟨b902, 0, none⟩) 1 1)) (w' := w903) z (x_als (by kernel_rfl) ew904 eb905) ?_
 refine ws_next (pend' := [(5, I6 z808), (4, v872), (3, Pt b728 8), (2, Pt b728 0), (1, Pt b728 0), (0, Pt b728 0)]) hst (by kernel_rfl) (pkr z z (fun w hst => z) (pkr z z (fun w hst => x_load z isAgg109 (hst.bc2 z)) (pkr z z (fun w hst => x_field z underlying111 z sizeOf109 z) (pkr z z (fun w hst => z) (pkr z z (fun w hst => z) (pkr z z (fun w hst => z) pk_nil)))))) ?_
 refine ws_e1 11 (by kernel_rfl) ?_
 refine nxe [12, 13, 14] (by kernel_rfl) z z ?_
 clear hst
 intro w hst
 replace hst := hst.pull8
 obtain ⟨t907, ht908, hm⟩ := bind_some hm
 refine wec call134 [v872, I6 z808, (.slice (some ⟨b902, 0, none⟩) 1 1)] z z ?_
 refine (slices_Insert_lane_used_lane_used_ref hst.to2 ht908).mono ?_
 rintro _ w909 ⟨v912, rfl, hst⟩
 refine ⟨_, z, ?_⟩
 replace hst := hst.of1
 refine ws_next (pend' := [(0, Pt b728 0)]) hst (by kernel_rfl) (pkr z z (fun w hst => z) pk_nil) ?_
 refine wsr (Pt b728 0) 12 z z z (by kernel_rfl) (fun w hst => z) (wsr (Pt b728 8) 13 z z z (by kernel_rfl) (fun w hst => x_field z underlying111 z sizeOf109 z) ?_)
 refine ws_e1 14 (by kernel_rfl) ?_
 refine nxe [] (by kernel_rfl) z z ?_
 clear hst
 intro w hst
 replace hst := hst.pull2
 obtain ⟨w914, hr915, hst⟩ := hst.boxStore1 (P := prog) (t := 109) (cs' := [I6 o0.wide, U6 o0.epoch, v860, v862, v864, v866, v868, v870, v912]) 8 v912 (one_of_sliceV hst.sv1) sizeOf109 z z
 refine we_unit z (x_unit hr915) ?_
 refine ws_next (pend' := []) hst (by kernel_rfl) pk_nil ?_
 refine ws_nil ?_
 intro w hst
 refine tn ?_
 replace hst := hst.pull1.pull7.pull7.pull7.pull5.pull7.pull7.pull7
 replace hst := at_lane_State_close (pv := Pt b728 0) (x := ({ wide := o0.wide, epoch := o0.epoch, store := o0.store, locks := o0.locks, last := t877.2, book := o0.book, open_ := o0.open_, out := o0.out, used := t907 } : lane_State)) hst z
 replace hst := hst.pull3.pull3.pull3.pull3.keep4
 obtain rfl := some_inj hm
 exact ⟨({ wide := o0.wide, epoch := o0.epoch, store := o0.store, locks := o0.locks, last := t877.2, book := o0.book, open_ := o0.open_, out := o0.out, used := t907 } : lane_State), _, hx920, (fu 0 (Pt b728 0) z (fu 5 (Pt b705 0) z (fu 6 (Pt b712 0) z (fu 7 (Pt b721 0) z (fu 8 (.int .i64 z808) z (fu 10 (.int .i64 z821) z z)))))), hst⟩
}
 {
 replace hm := bif_f hc901 hm
 refine wp_iff (cvb hc901) ?_
 refine wp_skip (tn ?_)
 replace hst := hst.pull7.pull7.pull7.pull7.pull4.pull7.pull7.pull7
 replace hst := at_lane_State_close (pv := Pt b728 0) (x := ({ wide := o0.wide, epoch := o0.epoch, store := o0.store, locks := o0.locks, last := t877.2, book := o0.book, open_ := o0.open_, out := o0.out, used := o0.used } : lane_State)) hst z
 replace hst := hst.pull3.pull3.pull3.pull3.keep4
 obtain rfl := some_inj hm
 exact ⟨({ wide := o0.wide, epoch := o0.epoch, store := o0.store, locks := o0.locks, last := t877.2, book := o0.book, open_ := o0.open_, out := o0.out, used := o0.used } : lane_State), _, hx920, (fu 0 (Pt b728 0) z (fu 5 (Pt b705 0) z (fu 6 (Pt b712 0) z (fu 7 (Pt b721 0) z (fu 8 (.int .i64 z808) z (fu 10 (.int .i64 z821) z z)))))), hst⟩
}
}
 {
 clear hst
 rintro _ w921 ⟨z916, σ917, hm, rfl, hst⟩
 dsimp only [lane_State_give_j5] at hm
 refine wp_seq ?_
 obtain ⟨b922, v923, v925, v927, v929, v931, v933, v935, e937, hst'⟩ := at_lane_State_open hst
 clear hst
 have e937 := ptr_inj e937
 subst e937
 have hst := hst'
 clear hst'
 refine wp_region_St hst 20 [0, 1, 2, 3, 4, 5, 6, 7, 8, 9, 10, 11, 12, 13, 14, 15, 16, 17, 18, 19] [0, 1, 3, 7, 0, 0, 32, 96, 224, 0, 0, 1024, 0, 4096, 3583, 19967, 52735, 131071, 262143, 524287] [] z (by kernel_rfl) (by kernel_rfl) Tryz.mixed (by kernel_rfl) ?_
 refine wsr (Pt b728 0) 0 z z z (by kernel_rfl) (fun w hst => z) (wsr (Pt b728 0) 1 z z z (by kernel_rfl) (fun w hst => z) (wsr (Pt b728 8) 2 z z z (by kernel_rfl) (fun w hst => x_field z underlying111 z sizeOf109 z) (wsr (v935) 3 z z z (by kernel_rfl) (fun w hst => x_load z isAgg109 (hst.bc0 z)) (wsr (.int .i64 z808) 4 z z z (by kernel_rfl) (fun w hst => z) (wsr (Pt b728 0) 5 z z z (by kernel_rfl) (fun w hst => z) (wsr (Pt b728 0) 6 z z z (by kernel_rfl) (fun w hst => z) (wsr (Pt b728 8) 7 z z z (by kernel_rfl) (fun w hst => x_field z underlying111 z sizeOf109 z) (wsr (v935) 8 z z z (by kernel_rfl) (fun w hst => x_load z isAgg109 (hst.bc0 z)) (wsr (.int .i64 z808) 9 z z z (by kernel_rfl) (fun w hst => z) (wsr (Pt b705 3) 10 z z z (by kernel_rfl) (fun w hst => x_field z underlying49 z sizeOf26 z) (wsr (.int .u64 a2.Epoch) 11 z z z (by kernel_rfl) (fun w hst => x_load z isAgg26 (hst.bc8 z)) (wsr (.int .i64 z821) 12 z z z (by kernel_rfl) (fun w hst => z) ?_))))))))))))
 refine wsr (.int .i64 (i64.wrap (z821 + (1:Int)))) 13 z z z (by kernel_rfl) (fun w hst => z) ?_
 obtain ⟨x938, hx939, hm⟩ := bind_some hm
 obtain ⟨h940, h941, hi942⟩ := geto_some hx939
 refine wsr (.pointer (some (eAddr v935 (z808.toNat * 3 + 0)))) 14 z z z (by kernel_rfl) (fun w hst => x_index z z underlying109 sizeOf189 hst.sv7 h940 h941) (wsr (.pointer (some (eAddr v935 (z808.toNat * 3 + 1)))) 15 z z z (by kernel_rfl) (fun w hst => x_field_e z underlying189 z sizeOf26 z) ?_)
 refine ws_e1 16 (by kernel_rfl) ?_
 refine nxe [17, 18, 19] (by kernel_rfl) z z ?_
 clear hst
 intro w hst
 replace hst := hst.pull7
 obtain ⟨w943, hr944, hst⟩ := hst.own_store (P := prog) (t := 26) (y := ({ rule := x938.rule, epoch := a2.Epoch, n := x938.n } : lane_used)) hi942 1 (.int .u64 a2.Epoch) sizeOf26 (Nat.le_of_ble_eq_true z) (oC z oN) (by rintro _ rfl; rfl)
 have hi945 := set_get hi942 ({ rule := x938.rule, epoch := a2.Epoch, n := x938.n } : lane_used)
 have h946 := set_lt h941 z808.toNat ({ rule := x938.rule, epoch := a2.Epoch, n := x938.n } : lane_used)
 refine we_unit z (x_unit hr944) ?_
 refine ws_next (pend' := [(13, I6 (i64.wrap (z821 + (1:Int)))), (12, I6 z821), (9, I6 z808)]) hst (by kernel_rfl) (pkr z z (fun w hst => z) (pkr z z (fun w hst => z) (pkr z z (fun w hst => z) pk_nil))) ?_
 refine wsr (.pointer (some (eAddr v935 (z808.toNat * 3 + 0)))) 17 z z z (by kernel_rfl) (fun w hst => x_index z z underlying109 sizeOf189 hst.sv0 h940 h946) (wsr (.pointer (some (eAddr v935 (z808.toNat * 3 + 2)))) 18 z z z (by kernel_rfl) (fun w hst => x_field_e z underlying189 z sizeOf3 z) ?_)
 refine ws_e1 19 (by kernel_rfl) ?_
 refine nxe [] (by kernel_rfl) z z ?_
 clear hst
 intro w hst
 obtain ⟨w947, hr948, hst⟩ := hst.own_store (P := prog) (t := 3) (y := ({ rule := ({ rule := x938.rule, epoch := a2.Epoch, n := x938.n } : lane_used).rule, epoch := ({ rule := x938.rule, epoch := a2.Epoch, n := x938.n } : lane_used).epoch, n := (i64.wrap (z821 + (1:Int))) } : lane_used)) hi945 2 (.int .i64 (i64.wrap (z821 + (1:Int)))) sizeOf3 (Nat.le_of_ble_eq_true z) (oC z oN) (by rintro _ rfl; rfl)
 have hi949 := set_get hi945 ({ rule := ({ rule := x938.rule, epoch := a2.Epoch, n := x938.n } : lane_used).rule, epoch := ({ rule := x938.rule, epoch := a2.Epoch, n := x938.n } : lane_used).epoch, n := (i64.wrap (z821 + (1:Int))) } : lane_used)
 have h950 := set_lt h946 z808.toNat ({ rule := ({ rule := x938.rule, epoch := a2.Epoch, n := x938.n } : lane_used).rule, epoch := ({ rule := x938.rule, epoch := a2.Epoch, n := x938.n } : lane_used).epoch, n := (i64.wrap (z821 + (1:Int))) } : lane_used)
 refine we_unit z (x_unit hr948) ?_
 refine ws_next (pend' := []) hst (by kernel_rfl) pk_nil ?_
 refine ws_nil ?_
 intro w hst
 refine tn ?_
 refine wp_region_St hst 36 [0, 1, 2, 3, 4, 5, 6, 7, 8, 9, 10, 11, 12, 13, 14, 15, 16, 17, 18, 19, 20, 21, 22, 23, 24, 25, 26, 27, 28, 29, 30, 31, 32, 33, 34, 35] [0, 0, 2, 6, 14, 0, 32, 96, 0, 0, 512, 1536, 3840, 7936, 16128, 32512, 0, 65536, 196608, 0, 524288, 0, 2097152, 6291456, 14680064, 0, 33554432, 100663296, 234881024, 534781696, 1073741792, 2147483616, 4294967294, 8589934591, 17179869183, 34359738367] [] z (by kernel_rfl) (by kernel_rfl) Tryz.mixed (by kernel_rfl) ?_
 refine wsr (Pt b728 0) 0 z z z (by kernel_rfl) (fun w hst => z) (wsr (Pt b728 0) 1 z z z (by kernel_rfl) (fun w hst => z) (wsr (Pt b728 0) 2 z z z (by kernel_rfl) (fun w hst => z) (wsr (Pt b728 7) 3 z z z (by kernel_rfl) (fun w hst => x_field z underlying111 z sizeOf50 z) (wsr (v933) 4 z z z (by kernel_rfl) (fun w hst => x_load z isAgg50 (hst.bc1 z)) (wsr (Pt b705 21) 5 z z z (by kernel_rfl) (fun w hst => x_field z underlying49 z sizeOf39 z) (wsr (Pt b705 23) 6 z z z (by kernel_rfl) (fun w hst => x_field z underlying39 z sizeOf3 z) (wsr (.int .i64 a2.Rule.To) 7 z z z (by kernel_rfl) (fun w hst => x_load z isAgg3 (hst.bc8 z)) (wsr (Pt b728 0) 8 z z z (by kernel_rfl) (fun w hst => z) (wsr (Pt b705 21) 9 z z z (by kernel_rfl) (fun w hst => x_field z underlying49 z sizeOf39 z) (wsr (Pt b705 23) 10 z z z (by kernel_rfl) (fun w hst => x_field z underlying39 z sizeOf3 z) (wsr (.int .i64 a2.Rule.To) 11 z z z (by kernel_rfl) (fun w hst => x_load z isAgg3 (hst.bc8 z)) (wsr (Pt b705 21) 16 z z z (by kernel_rfl) (fun w hst => x_field z underlying49 z sizeOf39 z) ?_))))))))))))
 refine wsr (Pt b705 21) 17 z z z (by kernel_rfl) (fun w hst => x_field z underlying39 z sizeOf26 z) (wsr (.int .u64 a2.Rule.ID) 18 z z z (by kernel_rfl) (fun w hst => x_load z isAgg26 (hst.bc8 z)) (wsr (Pt b705 3) 19 z z z (by kernel_rfl) (fun w hst => x_field z underlying49 z sizeOf26 z) (wsr (.int .u64 a2.Epoch) 20 z z z (by kernel_rfl) (fun w hst => x_load z isAgg26 (hst.bc8 z)) (wsr (Pt b705 13) 21 z z z (by kernel_rfl) (fun w hst => x_field z underlying49 z sizeOf42 z) (wsr (r2_4) 22 z z z (by kernel_rfl) (fun w hst => x_load z isAgg42 (hst.bc8 z)) ?_)))))
 obtain ⟨x951, hx952, hm⟩ := bind_some hm
 obtain ⟨h953, h954, hi955⟩ := geto_some hx952
 refine wsr (.pointer (some (eAddr r2_4 ((0:Int).toNat * 3 + 0)))) 23 z z z (by kernel_rfl) (fun w hst => x_index z z underlying42 sizeOf41 (rd_sliceV f2_4) h953 h954) ?_
 obtain ⟨cs956, hr957, hc958⟩ := Rd.getF f2_4 hi955
 obtain ⟨v959, rfl, f960, -⟩ := hr957
 refine wsr (.agg #[F6 x951.At, .bool x951.Del, v959]) 24 z z z (by kernel_rfl) (fun w hst => x_loadN (cs := [F6 x951.At, .bool x951.Del, v959]) z isAgg41 sizeOf41 (eCells (o := 0) (hc958 (HL.le.refl _) hst) z)) (wsr (Pt b728 0) 25 z z z (by kernel_rfl) (fun w hst => z) (wsr (Pt b728 0) 26 z z z (by kernel_rfl) (fun w hst => z) (wsr (Pt b728 0) 27 z z z (by kernel_rfl) (fun w hst => x_field z underlying111 z sizeOf3 z) (wsr (.int .i64 z916.wide) 28 z z z (by kernel_rfl) (fun w hst => x_load z isAgg3 (hst.bc1 z)) ?_))))
 refine ws_e1 12 (by kernel_rfl) ?_
 refine nxe [13, 14, 15, 29, 30, 31, 32, 33, 34, 35] (by kernel_rfl) z z ?_
 clear hst
 intro w hst
 obtain ⟨y1112, hq1113, hm⟩ := bind_some hm
 refine we_call z (x_callv call15 (caps := []) z (vs := [Pt b728 0, I6 a2.Rule.To]) z) ?_
 refine Calls.mono (show Calls prog 15 #[Pt b728 0, I6 a2.Rule.To] _ (fun e w' => ∃ (z1110 : (List api_Item)) (v1109 : Value), z1110 = y1112 ∧ e = .returned (v1109) ∧ St w0 w' I [ownS ty_api_Item v1109 z1110, cells b728 [I6 z916.wide, U6 z916.epoch, v923, v925, v927, v929, v931, v933, v935], objO at_mvcc_Store v923 z916.store, objO at_locks_Table v925 z916.locks, objO at_session_Table v927 z916.last, objO at_policy_Book v929 z916.book, ownS ty_api_Decision v931 z916.open_, ownS ty_api_Item v933 z916.out, ownS ty_lane_used v935 ((z916.used.set z808.toNat ({ rule := x938.rule, epoch := a2.Epoch, n := x938.n } : lane_used)).set z808.toNat ({ rule := ({ rule := x938.rule, epoch := a2.Epoch, n := x938.n } : lane_used).rule, epoch := ({ rule := x938.rule, epoch := a2.Epoch, n := x938.n } : lane_used).epoch, n := (i64.wrap (z821 + (1:Int))) } : lane_used)), cells b705 [U1 a2.Kind, U6 a2.ID.Session, U6 a2.ID.Seq, U6 a2.Epoch, U6 a2.Index, I6 a2.E, U6 a2.Hold.ID.Session, U6 a2.Hold.ID.Seq, U6 a2.Hold.Epoch, r2_0, r2_1, r2_2, r2_3, r2_4, I6 a2.R.E, U6 a2.R.Epoch, U6 a2.R.Index, r2_5, r2_6, U6 a2.Shards, r2_7, U6 a2.Rule.ID, I6 a2.Rule.From, I6 a2.Rule.To, F6 a2.Rule.Lo, F6 a2.Rule.Hi, U6 a2.Rule.Authority, I6 a2.Rule.Quota, .bool a2.On], cells b712 [Zb, Zu, Zu, Zi, Zu, Zu, Zs, Zs], cells b721 [I6 z853, U6 a2.Epoch, U6 a1, Zs, Zs]] R) from ?_) ?_
 {
 clear hm; have hm := hq1113
 refine calls_start (args := [Pt b728 0, I6 a2.Rule.To]) func15 z ntmps15 (Nat.le_of_ble_eq_true z) ?_
 refine wp_seq (wrl (wv ((.slice none 0 0)) z z z (wl_nil (tn (wp_seq (wrl (wv ((.slice none 0 0)) z z z (wl_nil (tn (wp_seq (wp_seq (wrl (wv (Pt b728 0) z z z (wv (.bool false) z z (by kernel_rfl) (wl_nil (tn ?_))))))))))))))))
 refine wp_iff z ?_
 refine wp_skip (tn (wp_seq (wp_seq (wrl ?_))))
 refine wv (Pt b728 0) z z z (wv (Pt b728 0) z z z (wv (Pt b728 7) z z (x_field z underlying111 z sizeOf50 z) (wv (v933) z z (x_load z isAgg50 (hst.bc1 z)) (wv (.int .i64 ((z916.out).length : Int)) z z (x_len z underlying50 hst.sv7) (wv (.int .i64 (0:Int)) z z z (wl_nil (tn (wp_block ?_))))))))
 replace hst := hst.own_nil ty_api_Item
 obtain ⟨n1069, hm⟩ := loopO_some hm
 refine wp_loop_n (fun n a w => ∃ (z1064 : Int) (z1065 : (List api_Item)) (v1066 : Value) (σ1068 : Nat → Value), loopN (lane_State_give_l6 z916 a2) n (z1064, z1065) = some y1112 ∧ a = Fr 30 (upd (upd (upd (upd (upd σ1068 1 (.int .i64 a2.Rule.To)) 5 (v1066)) 14 (v933)) 15 (.int .i64 ((z916.out).length : Int))) 16 (.int .i64 z1064)) ∧ St w0 w I [ownS ty_api_Item v1066 z1065, ownS ty_lane_used v935 ((z916.used.set z808.toNat ({ rule := x938.rule, epoch := a2.Epoch, n := x938.n } : lane_used)).set z808.toNat ({ rule := ({ rule := x938.rule, epoch := a2.Epoch, n := x938.n } : lane_used).rule, epoch := ({ rule := x938.rule, epoch := a2.Epoch, n := x938.n } : lane_used).epoch, n := (i64.wrap (z821 + (1:Int))) } : lane_used)), cells b728 [I6 z916.wide, U6 z916.epoch, v923, v925, v927, v929, v931, v933, v935], objO at_mvcc_Store v923 z916.store, objO at_locks_Table v925 z916.locks, objO at_session_Table v927 z916.last, objO at_policy_Book v929 z916.book, ownS ty_api_Decision v931 z916.open_, ownS ty_api_Item v933 z916.out, cells b705 [U1 a2.Kind, U6 a2.ID.Session, U6 a2.ID.Seq, U6 a2.Epoch, U6 a2.Index, I6 a2.E, U6 a2.Hold.ID.Session, U6 a2.Hold.ID.Seq, U6 a2.Hold.Epoch, r2_0, r2_1, r2_2, r2_3, r2_4, I6 a2.R.E, U6 a2.R.Epoch, U6 a2.R.Index, r2_5, r2_6, U6 a2.Shards, r2_7, U6 a2.Rule.ID, I6 a2.Rule.From, I6 a2.Rule.To, F6 a2.Rule.Lo, F6 a2.Rule.Hi, U6 a2.Rule.Authority, I6 a2.Rule.Quota, .bool a2.On], cells b712 [Zb, Zu, Zu, Zi, Zu, Zu, Zs, Zs], cells b721 [I6 z853, U6 a2.Epoch, U6 a1, Zs, Zs]] R) n1069 ⟨(0:Int), [], Zs, _, hm, (fu 1 (.int .i64 a2.Rule.To) z (fu 5 (.slice none 0 0) z (fu 14 v933 z (fu 15 (.int .i64 ((z916.out).length : Int)) z (fu 16 (.int .i64 (0:Int)) z z))))), hst⟩ ?_
 rintro n1075 _ w1070 ⟨z1064, z1065, v1066, σ1068, hm, rfl, hst⟩
 obtain ⟨n1072, y1073, rfl, hm, hx1074⟩ := loopN_some hm
 dsimp only [lane_State_give_l6] at hm
 refine wp_seq (wrl (wv (.bool (decide (z1064 < ((z916.out).length : Int)))) z z z (wl_nil (tn (wp_seq ?_)))))
 refine bsplit (decide (z1064 < ((z916.out).length : Int))) (fun hc1076 => ?_) (fun hc1076 => ?_)
 {
 replace hm := bif_t hc1076 hm
 refine wp_ift (cvb hc1076) ?_
 refine wp_skip (tn (wp_seq (wp_block (wp_seq (wrl ?_)))))
 obtain ⟨x1077, hx1078, hm⟩ := bind_some hm
 obtain ⟨h1079, h1080, hi1081⟩ := geto_some hx1078
 refine wv (.pointer (some (eAddr v933 (z1064.toNat * 7 + 0)))) z z (x_index z z underlying50 sizeOf53 hst.sv8 h1079 h1080) ?_
 obtain ⟨cs1082, hr1083, hc1084⟩ := hst.og8 hi1081
 obtain ⟨v1085, rfl, f1086, -⟩ := hr1083
 refine wv (.agg #[I6 x1077.To, U6 x1077.N, U6 x1077.Rule, U6 x1077.Epoch, F6 x1077.W.At, .bool x1077.W.Del, v1085]) z z (x_loadN (cs := [I6 x1077.To, U6 x1077.N, U6 x1077.Rule, U6 x1077.Epoch, F6 x1077.W.At, .bool x1077.W.Del, v1085]) z isAgg53 sizeOf53 (eCells (o := 0) hc1084 z)) ?_
 obtain ⟨b1089, w1090, ew1091, eb1092, hst⟩ := hst.box [Zi, Zu, Zu, Zu, Zf, .bool false, Zs] 53
 refine wl_run (v := Pt b1089 0) (w' := w1090) z z (x_al (by kernel_rfl) ew1091 eb1092) ?_
 obtain ⟨w1094, hr1095, hst⟩ := hst.bx [I6 x1077.To, U6 x1077.N, U6 x1077.Rule, U6 x1077.Epoch, F6 x1077.W.At, .bool x1077.W.Del, v1085] sizeOf53 z (oC z (oC z (oC z (oC z (oC z (oC z (oC (one_of_sliceV (ro_sliceV f1086)) oN))))))) (by kernel_rfl)
 refine wl_unit z z (x_unit hr1095) ?_
 refine wl_nil (tn (wp_seq (wrl (wv (Pt b1089 0) z z (x_field z underlying53 z sizeOf3 z) (wv (.int .i64 x1077.To) z z (x_load z isAgg3 (hst.bc0 z)) (wv (.int .i64 a2.Rule.To) z z z (wv (.bool (x1077.To == a2.Rule.To)) z z z (wl_nil (tn ?_)))))))))
 refine bsplit (x1077.To == a2.Rule.To) (fun hc1096 => ?_) (fun hc1096 => ?_)
 {
 replace hm := bif_t hc1096 hm
 refine wp_ift (cvb hc1096) ?_
 refine wrl (wv (v1066) z z z (wv (.agg #[I6 x1077.To, U6 x1077.N, U6 x1077.Rule, U6 x1077.Epoch, F6 x1077.W.At, .bool x1077.W.Del, v1085]) z z (x_loadN (cs := [I6 x1077.To, U6 x1077.N, U6 x1077.Rule, U6 x1077.Epoch, F6 x1077.W.At, .bool x1077.W.Del, v1085]) z isAgg53 sizeOf53 (hst.bcs0 0 z)) ?_))
 obtain ⟨b1098, w1099, ew1100, eb1101, hst⟩ := hst.lits (E := ty_api_Item) (xs := [x1077]) [[I6 x1077.To, U6 x1077.N, U6 x1077.Rule, U6 x1077.Epoch, F6 x1077.W.At, .bool x1077.W.Del, v1085]] 53 1 z (Reps.cons ⟨_, z, f1086, one_of_sliceV (ro_sliceV f1086)⟩ Reps.nil)
 refine wl_run (v := (.slice (some ⟨b1098, 0, none⟩) 1 1)) (w' := w1099) z z (x_als (by kernel_rfl) ew1100 eb1101) ?_
 obtain ⟨hg1103, hm⟩ := gd_some hm
 replace hst := hst.pull2
 obtain ⟨v1104, w1105, hr1106, hst⟩ := run_append elem_50 underlying50 hst hst.src1 (room_of hg1103 z) 50
 refine wl_run (v := v1104) (w' := w1105) z z (x_append z z hr1106) ?_
 refine wv (v1104) z z z (wl_nil (blk_n (tn (wrl (wv (.int .i64 (i64.wrap (z1064 + (1:Int)))) z z z (wv (.int .i64 (i64.wrap (z1064 + (1:Int)))) z z z (wl_nil (tn ?_))))))))
 replace hst := hst.pull13.pull13.pull13.pull13.pull13.pull13.pull13.pull13.pull13.pull13.pull13.pull11.keep12
 obtain rfl := some_inj hm
 exact ⟨_, Nat.lt_succ_self _, (i64.wrap (z1064 + (1:Int))), (z1065 ++ ([x1077])), v1104, _, hx1074, (fu 1 (.int .i64 a2.Rule.To) z (fu 5 v1104 z (fu 14 v933 z (fu 15 (.int .i64 ((z916.out).length : Int)) z (fu 16 (.int .i64 (i64.wrap (z1064 + (1:Int)))) z z))))), hst⟩
}
 {
 replace hm := bif_f hc1096 hm
 refine wp_iff (cvb hc1096) ?_
 refine wp_skip (blk_n (tn (wrl ?_)))
 refine wv (.int .i64 (i64.wrap (z1064 + (1:Int)))) z z z (wv (.int .i64 (i64.wrap (z1064 + (1:Int)))) z z z (wl_nil (tn ?_)))
 replace hst := hst.pull12.pull12.pull12.pull12.pull12.pull12.pull12.pull12.pull12.pull12.pull12.pull12.keep12
 obtain rfl := some_inj hm
 exact ⟨_, Nat.lt_succ_self _, (i64.wrap (z1064 + (1:Int))), z1065, v1066, _, hx1074, (fu 1 (.int .i64 a2.Rule.To) z (fu 5 v1066 z (fu 14 v933 z (fu 15 (.int .i64 ((z916.out).length : Int)) z (fu 16 (.int .i64 (i64.wrap (z1064 + (1:Int)))) z z))))), hst⟩
}
}
 {
 replace hm := bif_f hc1076 hm
 refine wp_iff (cvb hc1076) ?_
 refine wp_exit (then_x (then_x ?_))
 replace hm := inr_up hm hx1074
 refine blk_x (tn (wp_seq (wrl ?_)))
 refine wv (v1066) z z z (wv (v1066) z z z (wl_nil (tn (wp_ret ?_))))
 refine post_ret (vs := [v1066]) results15 (rvs_cons (rv_tmp z) rvs_nil) ?_
 replace hst := hst.pull11.pull11.pull11.pull4.pull11.pull11.pull11.pull11.pull11.pull11.pull11.pull11.keep12
 obtain rfl := some_inj hm
 exact ⟨z1065, v1066, z, z, hst⟩
}
}
 clear hst
 rintro _ w1114 ⟨z1110, v1109, rfl, rfl, hst⟩
 refine ⟨_, z, ?_⟩
 try dsimp only at hm
 refine ws_next (pend' := [(28, I6 z916.wide), (27, Pt b728 0), (26, Pt b728 0), (25, Pt b728 0), (24, .agg #[F6 x951.At, .bool x951.Del, v959]), (23, .pointer (some (eAddr r2_4 ((0:Int).toNat * 3 + 0)))), (22, r2_4), (21, Pt b705 13), (20, U6 a2.Epoch), (19, Pt b705 3), (18, U6 a2.Rule.ID), (17, Pt b705 21), (16, Pt b705 21), (7, I6 a2.Rule.To), (6, Pt b705 23), (5, Pt b705 21), (4, v933), (3, Pt b728 7), (2, Pt b728 0), (1, Pt b728 0), (0, Pt b728 0)]) hst (by kernel_rfl) (pkr z z (fun w hst => x_load z isAgg3 (hst.bc1 z)) (pkr z z (fun w hst => x_field z underlying111 z sizeOf3 z) (pkr z z (fun w hst => z) (pkr z z (fun w hst => z) (pkr z z (fun w hst => x_loadN (cs := [F6 x951.At, .bool x951.Del, v959]) z isAgg41 sizeOf41 (eCells (o := 0) (hc958 (HL.le.refl _) hst) z)) (pkr z z (fun w hst => x_index z z underlying42 sizeOf41 (rd_sliceV f2_4) h953 h954) (pkr z z (fun w hst => x_load z isAgg42 (hst.bc9 z)) (pkr z z (fun w hst => x_field z underlying49 z sizeOf42 z) (pkr z z (fun w hst => x_load z isAgg26 (hst.bc9 z)) (pkr z z (fun w hst => x_field z underlying49 z sizeOf26 z) (pkr z z (fun w hst => x_load z isAgg26 (hst.bc9 z)) (pkr z z (fun w hst => x_field z underlying39 z sizeOf26 z) (pkr z z (fun w hst => x_field z underlying49 z sizeOf39 z) (pkr z z (fun w hst => x_load z isAgg3 (hst.bc9 z)) (pkr z z (fun w hst => x_field z underlying39 z sizeOf3 z) (pkr z z (fun w hst => x_field z underlying49 z sizeOf39 z) (pkr z z (fun w hst => x_load z isAgg50 (hst.bc1 z)) (pkr z z (fun w hst => x_field z underlying111 z sizeOf50 z) (pkr z z (fun w hst => z) (pkr z z (fun w hst => z) (pkr z z (fun w hst => z) pk_nil))))))))))))))))))))) ?_
 refine wsr (.int .i64 ((z1110).length : Int)) 13 z z z (by kernel_rfl) (fun w hst => x_len z underlying50 hst.sv0) (wsr (.int .i64 (i64.wrap (((z1110).length : Int) + (1:Int)))) 14 z z z (by kernel_rfl) (fun w hst => z) (wsr (.int .u64 (u64.wrap (i64.wrap (((z1110).length : Int) + (1:Int))))) 15 z z z (by kernel_rfl) (fun w hst => by kernel_rfl) ?_))
 refine ws_e1 29 (by kernel_rfl) ?_
 refine nxe [30, 31, 32, 33, 34, 35] (by kernel_rfl) z z ?_
 clear hst
 intro w hst
 obtain ⟨t1115, ht1116, hm⟩ := bind_some hm
 refine wec call17 [.agg #[F6 x951.At, .bool x951.Del, v959], I6 z916.wide] z z ?_
 refine (lane_Pad_ref (f960.mono (rd_weak _)) hst.to0 ht1116).mono ?_
 rintro _ w1117 ⟨v1120, rfl, hst⟩
 refine ⟨_, z, ?_⟩
 replace hst := hst.of1
 refine ws_next (pend' := [(15, U6 (u64.wrap (i64.wrap (((z1110).length : Int) + (1:Int))))), (14, I6 (i64.wrap (((z1110).length : Int) + (1:Int)))), (13, I6 ((z1110).length : Int)), (20, U6 a2.Epoch), (19, Pt b705 3), (18, U6 a2.Rule.ID), (17, Pt b705 21), (16, Pt b705 21), (7, I6 a2.Rule.To), (6, Pt b705 23), (5, Pt b705 21), (4, v933), (3, Pt b728 7), (2, Pt b728 0), (1, Pt b728 0), (0, Pt b728 0)]) hst (by kernel_rfl) (pkr z z (fun w hst => by kernel_rfl) (pkr z z (fun w hst => z) (pkr z z (fun w hst => x_len z underlying50 hst.sv1) (pkr z z (fun w hst => x_load z isAgg26 (hst.bc10 z)) (pkr z z (fun w hst => x_field z underlying49 z sizeOf26 z) (pkr z z (fun w hst => x_load z isAgg26 (hst.bc10 z)) (pkr z z (fun w hst => x_field z underlying39 z sizeOf26 z) (pkr z z (fun w hst => x_field z underlying49 z sizeOf39 z) (pkr z z (fun w hst => x_load z isAgg3 (hst.bc10 z)) (pkr z z (fun w hst => x_field z underlying39 z sizeOf3 z) (pkr z z (fun w hst => x_field z underlying49 z sizeOf39 z) (pkr z z (fun w hst => x_load z isAgg50 (hst.bc2 z)) (pkr z z (fun w hst => x_field z underlying111 z sizeOf50 z) (pkr z z (fun w hst => z) (pkr z z (fun w hst => z) (pkr z z (fun w hst => z) pk_nil)))))))))))))))) ?_
 refine wsr (.agg #[I6 a2.Rule.To, U6 (u64.wrap (i64.wrap (((z1110).length : Int) + (1:Int)))), U6 a2.Rule.ID, U6 a2.Epoch, F6 t1115.At, .bool t1115.Del, v1120]) 30 rfl rfl rfl (by kernel_rfl) (fun w hst => by obtain ⟨_, _, hv_, _⟩ := hst.sv0; rw [hv_]; kernel_rfl) ?_
 refine ws_e1 31 (by kernel_rfl) ?_
 refine nxe [32, 33, 34, 35] (by kernel_rfl) z z ?_
 clear hst
 intro w hst
 obtain ⟨I1124, hI1125, f1126, hst⟩ := hst.own_fix
 replace f2_0 := f2_0.mono (rd_le hI1125)
 replace f2_1 := f2_1.mono (rd_le hI1125)
 replace f2_2 := f2_2.mono (rd_le hI1125)
 replace f2_3 := f2_3.mono (rd_le hI1125)
 replace f2_4 := f2_4.mono (rd_le hI1125)
 replace f2_5 := f2_5.mono (rd_le hI1125)
 replace f2_6 := f2_6.mono (rd_le hI1125)
 replace f2_7 := f2_7.mono (rd_le hI1125)
 replace f875 := f875.mono (ro_le hI1125)
 replace f876 := f876.mono (ro_le hI1125)
 replace f960 := f960.mono (rd_le hI1125)
 replace hI0 := hI0.trans hI1125
 replace hL1145 := hL1145.trans hI1125
 obtain ⟨b1127, w1128, ew1129, eb1130, hst⟩ := hst.lits (E := ty_api_Item) (xs := [({ To := a2.Rule.To, N := (u64.wrap (i64.wrap (((z1110).length : Int) + (1:Int)))), Rule := a2.Rule.ID, Epoch := a2.Epoch, W := t1115 } : api_Item)]) [[I6 a2.Rule.To, U6 (u64.wrap (i64.wrap (((z1110).length : Int) + (1:Int)))), U6 a2.Rule.ID, U6 a2.Epoch, F6 t1115.At, .bool t1115.Del, v1120]] 53 1 z (Reps.cons ⟨_, z, f1126, one_of_sliceV (ro_sliceV f1126)⟩ Reps.nil)
 refine we_run (v := (.slice (some ⟨b1127, 0, none⟩) 1 1)) (w' := w1128) z (x_als (by kernel_rfl) ew1129 eb1130) ?_
 refine ws_next (pend' := [(4, v933), (3, Pt b728 7), (2, Pt b728 0), (1, Pt b728 0), (0, Pt b728 0)]) hst (by kernel_rfl) (pkr z z (fun w hst => x_load z isAgg50 (hst.bc2 z)) (pkr z z (fun w hst => x_field z underlying111 z sizeOf50 z) (pkr z z (fun w hst => z) (pkr z z (fun w hst => z) (pkr z z (fun w hst => z) pk_nil))))) ?_
 refine ws_e1 32 (by kernel_rfl) ?_
 refine nxe [33, 34, 35] (by kernel_rfl) z z ?_
 clear hst
 intro w hst
 obtain ⟨hg1132, hm⟩ := gd_some hm
 replace hst := hst.pull8
 obtain ⟨v1133, w1134, hr1135, hst⟩ := run_append elem_50 underlying50 hst hst.src1 (room_of hg1132 z) 50
 refine we_run (v := v1133) (w' := w1134) z (x_append z z hr1135) ?_
 refine ws_next (pend' := [(0, Pt b728 0)]) hst (by kernel_rfl) (pkr z z (fun w hst => z) pk_nil) ?_
 refine wsr (Pt b728 0) 33 z z z (by kernel_rfl) (fun w hst => z) (wsr (Pt b728 7) 34 z z z (by kernel_rfl) (fun w hst => x_field z underlying111 z sizeOf50 z) ?_)
 refine ws_e1 35 (by kernel_rfl) ?_
 refine nxe [] (by kernel_rfl) z z ?_
 clear hst
 intro w hst
 replace hst := hst.pull3
 obtain ⟨w1137, hr1138, hst⟩ := hst.boxStore1 (P := prog) (t := 50) (cs' := [I6 z916.wide, U6 z916.epoch, v923, v925, v927, v929, v931, v1133, v935]) 7 v1133 (one_of_sliceV hst.sv1) sizeOf50 z z
 refine we_unit z (x_unit hr1138) ?_
 refine ws_next (pend' := []) hst (by kernel_rfl) pk_nil ?_
 refine ws_nil ?_
 intro w hst
 refine tn ?_
 replace hst := hst.pull9.pull2.pull9.pull9.pull9.pull9.pull9.pull7
 replace hst := at_lane_State_close (pv := Pt b728 0) (x := ({ wide := z916.wide, epoch := z916.epoch, store := z916.store, locks := z916.locks, last := z916.last, book := z916.book, open_ := z916.open_, out := (z916.out ++ ([({ To := a2.Rule.To, N := (u64.wrap (i64.wrap (((z1110).length : Int) + (1:Int)))), Rule := a2.Rule.ID, Epoch := a2.Epoch, W := t1115 } : api_Item)])), used := ((z916.used.set z808.toNat ({ rule := x938.rule, epoch := a2.Epoch, n := x938.n } : lane_used)).set z808.toNat ({ rule := ({ rule := x938.rule, epoch := a2.Epoch, n := x938.n } : lane_used).rule, epoch := ({ rule := x938.rule, epoch := a2.Epoch, n := x938.n } : lane_used).epoch, n := (i64.wrap (z821 + (1:Int))) } : lane_used)) } : lane_State)) hst z
 replace hst := hst.pull5.pull5.pull5.keep4
 obtain rfl := some_inj hm
 exact ⟨_, ({ wide := z916.wide, epoch := z916.epoch, store := z916.store, locks := z916.locks, last := z916.last, book := z916.book, open_ := z916.open_, out := (z916.out ++ ([({ To := a2.Rule.To, N := (u64.wrap (i64.wrap (((z1110).length : Int) + (1:Int)))), Rule := a2.Rule.ID, Epoch := a2.Epoch, W := t1115 } : api_Item)])), used := ((z916.used.set z808.toNat ({ rule := x938.rule, epoch := a2.Epoch, n := x938.n } : lane_used)).set z808.toNat ({ rule := ({ rule := x938.rule, epoch := a2.Epoch, n := x938.n } : lane_used).rule, epoch := ({ rule := x938.rule, epoch := a2.Epoch, n := x938.n } : lane_used).epoch, n := (i64.wrap (z821 + (1:Int))) } : lane_used)) } : lane_State), _, hx1144, (fu 5 (Pt b705 0) z (fu 6 (Pt b712 0) z (fu 7 (Pt b721 0) z z))), hL1145, hst⟩
}
}
 {
 replace hm := bif_f hc900 hm
 refine wp_iff (cvb hc900) ?_
 refine wp_skip (tn ?_)
 replace hst := hst.pull7.pull7.pull7.pull7.pull4.pull7.pull7.pull7
 replace hst := at_lane_State_close (pv := Pt b728 0) (x := ({ wide := o0.wide, epoch := o0.epoch, store := o0.store, locks := o0.locks, last := t877.2, book := o0.book, open_ := o0.open_, out := o0.out, used := o0.used } : lane_State)) hst z
 replace hst := hst.pull3.pull3.pull3.keep4
 obtain rfl := some_inj hm
 exact ⟨_, ({ wide := o0.wide, epoch := o0.epoch, store := o0.store, locks := o0.locks, last := t877.2, book := o0.book, open_ := o0.open_, out := o0.out, used := o0.used } : lane_State), _, hx1144, (fu 5 (Pt b705 0) z (fu 6 (Pt b712 0) z (fu 7 (Pt b721 0) z z))), hL1145, hst⟩
}
}
 {
 clear hst
 rintro _ w1146 ⟨I1140, z1139, σ1141, hm, rfl, hL1142, hst⟩
 dsimp only [lane_State_give_j4] at hm
 replace f2_0 := f2_0.mono (rd_le hL1142)
 replace f2_1 := f2_1.mono (rd_le hL1142)
 replace f2_2 := f2_2.mono (rd_le hL1142)
 replace f2_3 := f2_3.mono (rd_le hL1142)
 replace f2_4 := f2_4.mono (rd_le hL1142)
 replace f2_5 := f2_5.mono (rd_le hL1142)
 replace f2_6 := f2_6.mono (rd_le hL1142)
 replace f2_7 := f2_7.mono (rd_le hL1142)
 replace f875 := f875.mono (ro_le hL1142)
 replace f876 := f876.mono (ro_le hL1142)
 replace hI0 := hI0.trans hL1142
 refine wp_seq (wrl (wv (Pt b705 1) z z (x_field z underlying49 z sizeOf28 z) (wv (.agg #[U6 a2.ID.Session, U6 a2.ID.Seq]) z z (x_loadN (cs := [U6 a2.ID.Session, U6 a2.ID.Seq]) z isAgg28 sizeOf28 (hst.bcs0 1 z)) (wv (.agg #[I6 z853, U6 a2.Epoch, U6 a1, Zs, Zs]) z z (x_loadN (cs := [I6 z853, U6 a2.Epoch, U6 a1, Zs, Zs]) z isAgg33 sizeOf33 (hst.bcs2 0 z)) (wv (.agg #[U1 (4:Int), U6 a2.ID.Session, U6 a2.ID.Seq, I6 z853, U6 a2.Epoch, U6 a1, Zs, Zs]) z z (by kernel_rfl) ?_)))))
 replace hst := hst.pull1
 obtain ⟨w1149, hr1150, hst⟩ := hst.bx [U1 (4:Int), U6 a2.ID.Session, U6 a2.ID.Seq, I6 z853, U6 a2.Epoch, U6 a1, Zs, Zs] sizeOf35 z (oC z (oC z (oC z (oC z (oC z (oC z (oC (one_of_sliceV (ro_sliceV f875)) (oC (one_of_sliceV (ro_sliceV f876)) oN)))))))) (by kernel_rfl)
 refine wl_unit z z (x_unit hr1150) ?_
 refine wl_nil (tn (wp_ret ?_))
 replace hst := hst.pull3
 replace hst := objO_some hst
 obtain rfl := some_inj hm
 refine post_ret (vs := [.agg #[U1 (4:Int), U6 a2.ID.Session, U6 a2.ID.Seq, I6 z853, U6 a2.Epoch, U6 a1, Zs, Zs]]) results55 (rvs_cons (rv_cell (cs := [U1 (4:Int), U6 a2.ID.Session, U6 a2.ID.Seq, I6 z853, U6 a2.Epoch, U6 a1, Zs, Zs]) z isAgg35 sizeOf35 (hst.bcs1 0 z)) rvs_nil) ?_
 exact ⟨_, Zs, Zs, z, hI0, f875, f876, hst.keep1⟩
}
}
}
}
}
}

theorem lane_State_Apply_ref {w0 w : World} {I : HL} {R : SP} {a0 : (Option lane_State)} {p0 : Value} {a1 : Int} {a2 : api_Command} {r2_0 : Value} {r2_1 : Value} {r2_2 : Value} {r2_3 : Value} {r2_4 : Value} {r2_5 : Value} {r2_6 : Value} {r2_7 : Value} (f2_0 : Ro tyF64 I r2_0 a2.Hold.Gets) (f2_1 : Ro tyF2 I r2_1 a2.Hold.Scans) (f2_2 : Ro tyF64 I r2_2 a2.Hold.Puts) (f2_3 : Ro (tyInt .u8) I r2_3 a2.Hold.Data) (f2_4 : Ro ty_api_Write I r2_4 a2.Writes) (f2_5 : Ro ty_api_Got I r2_5 a2.R.Gots) (f2_6 : Ro (tySl ty_api_Pair) I r2_6 a2.R.Scans) (f2_7 : Ro ty_api_Part I r2_7 a2.Parts) (hst : St w0 w I [objO at_lane_State p0 a0] R) {r : (api_Effect × (Option lane_State))} (hm : lane_State_Apply a0 a1 a2 = some r) :
  Calls prog 14 #[p0, U6 a1, .agg #[U1 a2.Kind, U6 a2.ID.Session, U6 a2.ID.Seq, U6 a2.Epoch, U6 a2.Index, I6 a2.E, U6 a2.Hold.ID.Session, U6 a2.Hold.ID.Seq, U6 a2.Hold.Epoch, r2_0, r2_1, r2_2, r2_3, r2_4, I6 a2.R.E, U6 a2.R.Epoch, U6 a2.R.Index, r2_5, r2_6, U6 a2.Shards, r2_7, U6 a2.Rule.ID, I6 a2.Rule.From, I6 a2.Rule.To, F6 a2.Rule.Lo, F6 a2.Rule.Hi, U6 a2.Rule.Authority, I6 a2.Rule.Quota, .bool a2.On]] w fun e w' => ∃ (I' : HL) (q0_0 : Value) (q0_1 : Value), e = .returned (.agg #[U1 r.1.Kind, U6 r.1.ID.Session, U6 r.1.ID.Seq, I6 r.1.R.E, U6 r.1.R.Epoch, U6 r.1.R.Index, q0_0, q0_1]) ∧ I.le I' ∧ Ro ty_api_Got I' q0_0 r.1.R.Gots ∧ Ro (tySl ty_api_Pair) I' q0_1 r.1.R.Scans ∧ St w0 w' I' [objO at_lane_State p0 r.2] R := by {
 rcases a0 with _ | o0
 {
 obtain ⟨rfl, hst'⟩ := objO_none hst
 clear hst
 have hst := hst'
 clear hst'
 dsimp only [lane_State_Apply] at hm
 refine calls_start (args := [.pointer none, U6 a1, .agg #[U1 a2.Kind, U6 a2.ID.Session, U6 a2.ID.Seq, U6 a2.Epoch, U6 a2.Index, I6 a2.E, U6 a2.Hold.ID.Session, U6 a2.Hold.ID.Seq, U6 a2.Hold.Epoch, r2_0, r2_1, r2_2, r2_3, r2_4, I6 a2.R.E, U6 a2.R.Epoch, U6 a2.R.Index, r2_5, r2_6, U6 a2.Shards, r2_7, U6 a2.Rule.ID, I6 a2.Rule.From, I6 a2.Rule.To, F6 a2.Rule.Lo, F6 a2.Rule.Hi, U6 a2.Rule.Authority, I6 a2.Rule.Quota, .bool a2.On]]) func14 z ntmps14 (Nat.le_of_ble_eq_true z) ?_
 have hI0 := HL.le.refl I
 refine wp_seq (wrl ?_)
 obtain ⟨b229, w230, ew231, eb232, hst⟩ := hst.box [U1 a2.Kind, U6 a2.ID.Session, U6 a2.ID.Seq, U6 a2.Epoch, U6 a2.Index, I6 a2.E, U6 a2.Hold.ID.Session, U6 a2.Hold.ID.Seq, U6 a2.Hold.Epoch, r2_0, r2_1, r2_2, r2_3, r2_4, I6 a2.R.E, U6 a2.R.Epoch, U6 a2.R.Index, r2_5, r2_6, U6 a2.Shards, r2_7, U6 a2.Rule.ID, I6 a2.Rule.From, I6 a2.Rule.To, F6 a2.Rule.Lo, F6 a2.Rule.Hi, U6 a2.Rule.Authority, I6 a2.Rule.Quota, .bool a2.On] 49
 refine wl_run (v := Pt b229 0) (w' := w230) z z (x_al (by kernel_rfl) ew231 eb232) ?_
 obtain ⟨b236, w237, ew238, eb239, hst⟩ := hst.box [Zb, Zu, Zu, Zi, Zu, Zu, Zs, Zs] 35
 refine wl_run (v := Pt b236 0) (w' := w237) z z (x_al (by kernel_rfl) ew238 eb239) ?_
 refine wl_nil (tn (wp_seq (wp_seq (wrl (wv (.pointer none) z z z (wv (.bool true) z z (by kernel_rfl) (wl_nil (tn ?_))))))))
 refine wp_ift z ?_
 refine wp_seq (wrl (wv (.agg #[Zb, Zu, Zu, Zi, Zu, Zu, Zs, Zs]) z z (by kernel_rfl) ?_))
 obtain ⟨w243, hr244, hst⟩ := hst.bx [Zb, Zu, Zu, Zi, Zu, Zu, Zs, Zs] sizeOf35 z (oC z (oC z (oC z (oC z (oC z (oC z (oC z (oC z oN)))))))) (by kernel_rfl)
 refine wl_unit z z (x_unit hr244) ?_
 refine wl_nil (tn (wp_ret (then_r ?_)))
 have f245 : Ro ty_api_Got I (.slice none 0 0) [] := ro_nil
 have f246 : Ro (tySl ty_api_Pair) I (.slice none 0 0) [] := ro_nil
 replace hst := hst.objO_nil at_lane_State
 obtain rfl := some_inj hm
 refine post_ret (vs := [.agg #[Zb, Zu, Zu, Zi, Zu, Zu, Zs, Zs]]) results14 (rvs_cons (rv_cell (cs := [Zb, Zu, Zu, Zi, Zu, Zu, Zs, Zs]) z isAgg35 sizeOf35 (hst.bcs1 0 z)) rvs_nil) ?_
 exact ⟨_, Zs, Zs, z, hI0, f245, f246, hst.keep1⟩
}
 {
 replace hst := objO_get hst
 dsimp only [lane_State_Apply] at hm
 refine calls_start (args := [p0, U6 a1, .agg #[U1 a2.Kind, U6 a2.ID.Session, U6 a2.ID.Seq, U6 a2.Epoch, U6 a2.Index, I6 a2.E, U6 a2.Hold.ID.Session, U6 a2.Hold.ID.Seq, U6 a2.Hold.Epoch, r2_0, r2_1, r2_2, r2_3, r2_4, I6 a2.R.E, U6 a2.R.Epoch, U6 a2.R.Index, r2_5, r2_6, U6 a2.Shards, r2_7, U6 a2.Rule.ID, I6 a2.Rule.From, I6 a2.Rule.To, F6 a2.Rule.Lo, F6 a2.Rule.Hi, U6 a2.Rule.Authority, I6 a2.Rule.Quota, .bool a2.On]]) func14 z ntmps14 (Nat.le_of_ble_eq_true z) ?_
 have hI0 := HL.le.refl I
 refine wp_seq (wrl ?_)
 obtain ⟨b247, w248, ew249, eb250, hst⟩ := hst.box [U1 a2.Kind, U6 a2.ID.Session, U6 a2.ID.Seq, U6 a2.Epoch, U6 a2.Index, I6 a2.E, U6 a2.Hold.ID.Session, U6 a2.Hold.ID.Seq, U6 a2.Hold.Epoch, r2_0, r2_1, r2_2, r2_3, r2_4, I6 a2.R.E, U6 a2.R.Epoch, U6 a2.R.Index, r2_5, r2_6, U6 a2.Shards, r2_7, U6 a2.Rule.ID, I6 a2.Rule.From, I6 a2.Rule.To, F6 a2.Rule.Lo, F6 a2.Rule.Hi, U6 a2.Rule.Authority, I6 a2.Rule.Quota, .bool a2.On] 49
 refine wl_run (v := Pt b247 0) (w' := w248) z z (x_al (by kernel_rfl) ew249 eb250) ?_
 obtain ⟨b254, w255, ew256, eb257, hst⟩ := hst.box [Zb, Zu, Zu, Zi, Zu, Zu, Zs, Zs] 35
 refine wl_run (v := Pt b254 0) (w' := w255) z z (x_al (by kernel_rfl) ew256 eb257) ?_
 refine wl_nil (tn (wp_seq (wp_seq (wrl (wv (p0) z z z ?_)))))
 replace hst := hst.pull2
 obtain ⟨b259, v260, v262, v264, v266, v268, v270, v272, rfl, hst'⟩ := at_lane_State_open hst
 clear hst
 have hst := hst'
 clear hst'
 refine wv (.bool false) z z (by kernel_rfl) (wl_nil (tn ?_))
 refine wp_iff z ?_
 refine wp_skip (tn (wp_seq (wp_seq (wrl ?_))))
 refine wv (Pt b247 0) z z (x_field z underlying49 z sizeOf5 z) (wv (.int .u8 a2.Kind) z z (x_load z isAgg5 (hst.bc9 z)) (wl_nil (tn (wp_block (wp_seq (wrl (wv (.bool (a2.Kind == (1:Int))) z z z (wv (.bool (a2.Kind == (1:Int))) z z z (wl_nil (tn ?_))))))))))
 refine bsplit (a2.Kind == (1:Int)) (fun hc274 => ?_) (fun hc274 => ?_)
 {
 replace hm := bif_t hc274 hm
 refine wp_ift (cvb hc274) ?_
 refine wp_seq (wrl (wv (Pt b259 0) z z z (wv (.agg #[U1 a2.Kind, U6 a2.ID.Session, U6 a2.ID.Seq, U6 a2.Epoch, U6 a2.Index, I6 a2.E, U6 a2.Hold.ID.Session, U6 a2.Hold.ID.Seq, U6 a2.Hold.Epoch, r2_0, r2_1, r2_2, r2_3, r2_4, I6 a2.R.E, U6 a2.R.Epoch, U6 a2.R.Index, r2_5, r2_6, U6 a2.Shards, r2_7, U6 a2.Rule.ID, I6 a2.Rule.From, I6 a2.Rule.To, F6 a2.Rule.Lo, F6 a2.Rule.Hi, U6 a2.Rule.Authority, I6 a2.Rule.Quota, .bool a2.On]) z z (x_loadN (cs := [U1 a2.Kind, U6 a2.ID.Session, U6 a2.ID.Seq, U6 a2.Epoch, U6 a2.Index, I6 a2.E, U6 a2.Hold.ID.Session, U6 a2.Hold.ID.Seq, U6 a2.Hold.Epoch, r2_0, r2_1, r2_2, r2_3, r2_4, I6 a2.R.E, U6 a2.R.Epoch, U6 a2.R.Index, r2_5, r2_6, U6 a2.Shards, r2_7, U6 a2.Rule.ID, I6 a2.Rule.From, I6 a2.Rule.To, F6 a2.Rule.Lo, F6 a2.Rule.Hi, U6 a2.Rule.Authority, I6 a2.Rule.Quota, .bool a2.On]) z isAgg49 sizeOf49 (hst.bcs9 0 z)) ?_)))
 replace hst := hst.pull7.pull7.pull7.pull7.pull7.pull7.pull7.pull7
 replace hst := at_lane_State_close (pv := Pt b259 0) (x := o0) hst z
 replace hst := objO_some hst
 obtain ⟨t275, ht276, hm⟩ := bind_some hm
 refine wc call47 [Pt b259 0, .agg #[U1 a2.Kind, U6 a2.ID.Session, U6 a2.ID.Seq, U6 a2.Epoch, U6 a2.Index, I6 a2.E, U6 a2.Hold.ID.Session, U6 a2.Hold.ID.Seq, U6 a2.Hold.Epoch, r2_0, r2_1, r2_2, r2_3, r2_4, I6 a2.R.E, U6 a2.R.Epoch, U6 a2.R.Index, r2_5, r2_6, U6 a2.Shards, r2_7, U6 a2.Rule.ID, I6 a2.Rule.From, I6 a2.Rule.To, F6 a2.Rule.Lo, F6 a2.Rule.Hi, U6 a2.Rule.Authority, I6 a2.Rule.Quota, .bool a2.On]] z z z ?_
 refine (lane_State_shut_ref (f2_0.mono ro_rd) (f2_1.mono ro_rd) (f2_2.mono ro_rd) (f2_3.mono ro_rd) (f2_4.mono ro_rd) (f2_5.mono ro_rd) (f2_6.mono ro_rd) (f2_7.mono ro_rd) hst.to1 ht276).mono ?_
 rintro _ w277 ⟨I278, v280, v282, rfl, hI279, hst⟩
 refine ⟨_, z, ?_⟩
 replace hst := hst.of3
 replace f2_0 := f2_0.mono (ro_le hI279)
 replace f2_1 := f2_1.mono (ro_le hI279)
 replace f2_2 := f2_2.mono (ro_le hI279)
 replace f2_3 := f2_3.mono (ro_le hI279)
 replace f2_4 := f2_4.mono (ro_le hI279)
 replace f2_5 := f2_5.mono (ro_le hI279)
 replace f2_6 := f2_6.mono (ro_le hI279)
 replace f2_7 := f2_7.mono (ro_le hI279)
 replace hI0 := hI0.trans hI279
 replace hst := hst.pull2
 rcases he285 : t275.2 with _ | y284
 · rw [he285] at hm; cases hm
 rw [he285] at hm hst; dsimp only at hm; replace hst := objO_get hst
 replace hst := hst.pull3
 obtain ⟨w286, hr287, hst⟩ := hst.bx [U1 t275.1.Kind, U6 t275.1.ID.Session, U6 t275.1.ID.Seq, I6 t275.1.R.E, U6 t275.1.R.Epoch, U6 t275.1.R.Index, v280, v282] sizeOf35 z (oC z (oC z (oC z (oC z (oC z (oC z (oC (one_of_sliceV hst.sv2) (oC (one_of_sliceV hst.sv3) oN)))))))) (by kernel_rfl)
 refine wl_unit z z (x_unit hr287) ?_
 refine wl_nil (tn (wp_ret (blk_r (then_r ?_))))
 replace hst := hst.pull2
 obtain ⟨I288, hI289, f290, hst⟩ := hst.own_fix
 replace f2_0 := f2_0.mono (ro_le hI289)
 replace f2_1 := f2_1.mono (ro_le hI289)
 replace f2_2 := f2_2.mono (ro_le hI289)
 replace f2_3 := f2_3.mono (ro_le hI289)
 replace f2_4 := f2_4.mono (ro_le hI289)
 replace f2_5 := f2_5.mono (ro_le hI289)
 replace f2_6 := f2_6.mono (ro_le hI289)
 replace f2_7 := f2_7.mono (ro_le hI289)
 replace hI0 := hI0.trans hI289
 replace hst := hst.pull2
 obtain ⟨I291, hI292, f293, hst⟩ := hst.own_fix
 replace f2_0 := f2_0.mono (ro_le hI292)
 replace f2_1 := f2_1.mono (ro_le hI292)
 replace f2_2 := f2_2.mono (ro_le hI292)
 replace f2_3 := f2_3.mono (ro_le hI292)
 replace f2_4 := f2_4.mono (ro_le hI292)
 replace f2_5 := f2_5.mono (ro_le hI292)
 replace f2_6 := f2_6.mono (ro_le hI292)
 replace f2_7 := f2_7.mono (ro_le hI292)
 replace f290 := f290.mono (ro_le hI292)
 replace hI0 := hI0.trans hI292
 replace hst := hst.pull1
 replace hst := objO_some hst
 obtain rfl := some_inj hm
 refine post_ret (vs := [.agg #[U1 t275.1.Kind, U6 t275.1.ID.Session, U6 t275.1.ID.Seq, I6 t275.1.R.E, U6 t275.1.R.Epoch, U6 t275.1.R.Index, v280, v282]]) results14 (rvs_cons (rv_cell (cs := [U1 t275.1.Kind, U6 t275.1.ID.Session, U6 t275.1.ID.Seq, I6 t275.1.R.E, U6 t275.1.R.Epoch, U6 t275.1.R.Index, v280, v282]) z isAgg35 sizeOf35 (hst.bcs1 0 z)) rvs_nil) ?_
 exact ⟨_, v280, v282, z, hI0, f290, f293, hst.keep1⟩
}
 {
 replace hm := bif_f hc274 hm
 refine wp_iff (cvb hc274) ?_
 refine wp_seq (wrl (wv (.bool (a2.Kind == (2:Int))) z z z (wv (.bool (a2.Kind == (2:Int))) z z z (wl_nil (tn ?_)))))
 refine bsplit (a2.Kind == (2:Int)) (fun hc294 => ?_) (fun hc294 => ?_)
 {
 replace hm := bif_t hc294 hm
 refine wp_ift (cvb hc294) ?_
 refine wp_seq (wrl (wv (Pt b259 0) z z z (wv (.agg #[U1 a2.Kind, U6 a2.ID.Session, U6 a2.ID.Seq, U6 a2.Epoch, U6 a2.Index, I6 a2.E, U6 a2.Hold.ID.Session, U6 a2.Hold.ID.Seq, U6 a2.Hold.Epoch, r2_0, r2_1, r2_2, r2_3, r2_4, I6 a2.R.E, U6 a2.R.Epoch, U6 a2.R.Index, r2_5, r2_6, U6 a2.Shards, r2_7, U6 a2.Rule.ID, I6 a2.Rule.From, I6 a2.Rule.To, F6 a2.Rule.Lo, F6 a2.Rule.Hi, U6 a2.Rule.Authority, I6 a2.Rule.Quota, .bool a2.On]) z z (x_loadN (cs := [U1 a2.Kind, U6 a2.ID.Session, U6 a2.ID.Seq, U6 a2.Epoch, U6 a2.Index, I6 a2.E, U6 a2.Hold.ID.Session, U6 a2.Hold.ID.Seq, U6 a2.Hold.Epoch, r2_0, r2_1, r2_2, r2_3, r2_4, I6 a2.R.E, U6 a2.R.Epoch, U6 a2.R.Index, r2_5, r2_6, U6 a2.Shards, r2_7, U6 a2.Rule.ID, I6 a2.Rule.From, I6 a2.Rule.To, F6 a2.Rule.Lo, F6 a2.Rule.Hi, U6 a2.Rule.Authority, I6 a2.Rule.Quota, .bool a2.On]) z isAgg49 sizeOf49 (hst.bcs9 0 z)) ?_)))
 replace hst := hst.pull7.pull7.pull7.pull7.pull7.pull7.pull7.pull7
 replace hst := at_lane_State_close (pv := Pt b259 0) (x := o0) hst z
 replace hst := objO_some hst
 obtain ⟨t295, ht296, hm⟩ := bind_some hm
 refine wc call48 [Pt b259 0, .agg #[U1 a2.Kind, U6 a2.ID.Session, U6 a2.ID.Seq, U6 a2.Epoch, U6 a2.Index, I6 a2.E, U6 a2.Hold.ID.Session, U6 a2.Hold.ID.Seq, U6 a2.Hold.Epoch, r2_0, r2_1, r2_2, r2_3, r2_4, I6 a2.R.E, U6 a2.R.Epoch, U6 a2.R.Index, r2_5, r2_6, U6 a2.Shards, r2_7, U6 a2.Rule.ID, I6 a2.Rule.From, I6 a2.Rule.To, F6 a2.Rule.Lo, F6 a2.Rule.Hi, U6 a2.Rule.Authority, I6 a2.Rule.Quota, .bool a2.On]] z z z ?_
 refine (lane_State_prepare_ref (f2_0.mono ro_rd) (f2_1.mono ro_rd) (f2_2.mono ro_rd) (f2_3.mono ro_rd) (f2_4.mono ro_rd) (f2_5.mono ro_rd) (f2_6.mono ro_rd) (f2_7.mono ro_rd) hst.to1 ht296).mono ?_
 rintro _ w297 ⟨I298, v300, v302, rfl, hI299, hst⟩
 refine ⟨_, z, ?_⟩
 replace hst := hst.of3
 replace f2_0 := f2_0.mono (ro_le hI299)
 replace f2_1 := f2_1.mono (ro_le hI299)
 replace f2_2 := f2_2.mono (ro_le hI299)
 replace f2_3 := f2_3.mono (ro_le hI299)
 replace f2_4 := f2_4.mono (ro_le hI299)
 replace f2_5 := f2_5.mono (ro_le hI299)
 replace f2_6 := f2_6.mono (ro_le hI299)
 replace f2_7 := f2_7.mono (ro_le hI299)
 replace hI0 := hI0.trans hI299
 replace hst := hst.pull2
 rcases he305 : t295.2 with _ | y304
 · rw [he305] at hm; cases hm
 rw [he305] at hm hst; dsimp only at hm; replace hst := objO_get hst
 replace hst := hst.pull3
 obtain ⟨w306, hr307, hst⟩ := hst.bx [U1 t295.1.Kind, U6 t295.1.ID.Session, U6 t295.1.ID.Seq, I6 t295.1.R.E, U6 t295.1.R.Epoch, U6 t295.1.R.Index, v300, v302] sizeOf35 z (oC z (oC z (oC z (oC z (oC z (oC z (oC (one_of_sliceV hst.sv2) (oC (one_of_sliceV hst.sv3) oN)))))))) (by kernel_rfl)
 refine wl_unit z z (x_unit hr307) ?_
 refine wl_nil (tn (wp_ret (blk_r (then_r ?_))))
 replace hst := hst.pull2
 obtain ⟨I308, hI309, f310, hst⟩ := hst.own_fix
 replace f2_0 := f2_0.mono (ro_le hI309)
 replace f2_1 := f2_1.mono (ro_le hI309)
 replace f2_2 := f2_2.mono (ro_le hI309)
 replace f2_3 := f2_3.mono (ro_le hI309)
 replace f2_4 := f2_4.mono (ro_le hI309)
 replace f2_5 := f2_5.mono (ro_le hI309)
 replace f2_6 := f2_6.mono (ro_le hI309)
 replace f2_7 := f2_7.mono (ro_le hI309)
 replace hI0 := hI0.trans hI309
 replace hst := hst.pull2
 obtain ⟨I311, hI312, f313, hst⟩ := hst.own_fix
 replace f2_0 := f2_0.mono (ro_le hI312)
 replace f2_1 := f2_1.mono (ro_le hI312)
 replace f2_2 := f2_2.mono (ro_le hI312)
 replace f2_3 := f2_3.mono (ro_le hI312)
 replace f2_4 := f2_4.mono (ro_le hI312)
 replace f2_5 := f2_5.mono (ro_le hI312)
 replace f2_6 := f2_6.mono (ro_le hI312)
 replace f2_7 := f2_7.mono (ro_le hI312)
 replace f310 := f310.mono (ro_le hI312)
 replace hI0 := hI0.trans hI312
 replace hst := hst.pull1
 replace hst := objO_some hst
 obtain rfl := some_inj hm
 refine post_ret (vs := [.agg #[U1 t295.1.Kind, U6 t295.1.ID.Session, U6 t295.1.ID.Seq, I6 t295.1.R.E, U6 t295.1.R.Epoch, U6 t295.1.R.Index, v300, v302]]) results14 (rvs_cons (rv_cell (cs := [U1 t295.1.Kind, U6 t295.1.ID.Session, U6 t295.1.ID.Seq, I6 t295.1.R.E, U6 t295.1.R.Epoch, U6 t295.1.R.Index, v300, v302]) z isAgg35 sizeOf35 (hst.bcs1 0 z)) rvs_nil) ?_
 exact ⟨_, v300, v302, z, hI0, f310, f313, hst.keep1⟩
}
 {
 replace hm := bif_f hc294 hm
 refine wp_iff (cvb hc294) ?_
 refine wp_seq (wrl (wv (.bool (a2.Kind == (3:Int))) z z z (wv (.bool (a2.Kind == (3:Int))) z z z (wl_nil (tn ?_)))))
 refine bsplit (a2.Kind == (3:Int)) (fun hc314 => ?_) (fun hc314 => ?_)
 {
 replace hm := bif_t hc314 hm
 refine wp_ift (cvb hc314) ?_
 refine wp_seq (wrl (wv (Pt b259 0) z z z (wv (.agg #[U1 a2.Kind, U6 a2.ID.Session, U6 a2.ID.Seq, U6 a2.Epoch, U6 a2.Index, I6 a2.E, U6 a2.Hold.ID.Session, U6 a2.Hold.ID.Seq, U6 a2.Hold.Epoch, r2_0, r2_1, r2_2, r2_3, r2_4, I6 a2.R.E, U6 a2.R.Epoch, U6 a2.R.Index, r2_5, r2_6, U6 a2.Shards, r2_7, U6 a2.Rule.ID, I6 a2.Rule.From, I6 a2.Rule.To, F6 a2.Rule.Lo, F6 a2.Rule.Hi, U6 a2.Rule.Authority, I6 a2.Rule.Quota, .bool a2.On]) z z (x_loadN (cs := [U1 a2.Kind, U6 a2.ID.Session, U6 a2.ID.Seq, U6 a2.Epoch, U6 a2.Index, I6 a2.E, U6 a2.Hold.ID.Session, U6 a2.Hold.ID.Seq, U6 a2.Hold.Epoch, r2_0, r2_1, r2_2, r2_3, r2_4, I6 a2.R.E, U6 a2.R.Epoch, U6 a2.R.Index, r2_5, r2_6, U6 a2.Shards, r2_7, U6 a2.Rule.ID, I6 a2.Rule.From, I6 a2.Rule.To, F6 a2.Rule.Lo, F6 a2.Rule.Hi, U6 a2.Rule.Authority, I6 a2.Rule.Quota, .bool a2.On]) z isAgg49 sizeOf49 (hst.bcs9 0 z)) ?_)))
 replace hst := hst.pull7.pull7.pull7.pull7.pull7.pull7.pull7.pull7
 replace hst := at_lane_State_close (pv := Pt b259 0) (x := o0) hst z
 replace hst := objO_some hst
 obtain ⟨t315, ht316, hm⟩ := bind_some hm
 refine wc call49 [Pt b259 0, .agg #[U1 a2.Kind, U6 a2.ID.Session, U6 a2.ID.Seq, U6 a2.Epoch, U6 a2.Index, I6 a2.E, U6 a2.Hold.ID.Session, U6 a2.Hold.ID.Seq, U6 a2.Hold.Epoch, r2_0, r2_1, r2_2, r2_3, r2_4, I6 a2.R.E, U6 a2.R.Epoch, U6 a2.R.Index, r2_5, r2_6, U6 a2.Shards, r2_7, U6 a2.Rule.ID, I6 a2.Rule.From, I6 a2.Rule.To, F6 a2.Rule.Lo, F6 a2.Rule.Hi, U6 a2.Rule.Authority, I6 a2.Rule.Quota, .bool a2.On]] z z z ?_
 refine (lane_State_finish_ref (f2_0.mono ro_rd) (f2_1.mono ro_rd) (f2_2.mono ro_rd) (f2_3.mono ro_rd) (f2_4.mono ro_rd) (f2_5.mono ro_rd) (f2_6.mono ro_rd) (f2_7.mono ro_rd) hst.to1 ht316).mono ?_
 rintro _ w317 ⟨I318, v320, v322, rfl, hI319, hst⟩
 refine ⟨_, z, ?_⟩
 replace hst := hst.of3
 replace f2_0 := f2_0.mono (ro_le hI319)
 replace f2_1 := f2_1.mono (ro_le hI319)
 replace f2_2 := f2_2.mono (ro_le hI319)
 replace f2_3 := f2_3.mono (ro_le hI319)
 replace f2_4 := f2_4.mono (ro_le hI319)
 replace f2_5 := f2_5.mono (ro_le hI319)
 replace f2_6 := f2_6.mono (ro_le hI319)
 replace f2_7 := f2_7.mono (ro_le hI319)
 replace hI0 := hI0.trans hI319
 replace hst := hst.pull2
 rcases he325 : t315.2 with _ | y324
 · rw [he325] at hm; cases hm
 rw [he325] at hm hst; dsimp only at hm; replace hst := objO_get hst
 replace hst := hst.pull3
 obtain ⟨w326, hr327, hst⟩ := hst.bx [U1 t315.1.Kind, U6 t315.1.ID.Session, U6 t315.1.ID.Seq, I6 t315.1.R.E, U6 t315.1.R.Epoch, U6 t315.1.R.Index, v320, v322] sizeOf35 z (oC z (oC z (oC z (oC z (oC z (oC z (oC (one_of_sliceV hst.sv2) (oC (one_of_sliceV hst.sv3) oN)))))))) (by kernel_rfl)
 refine wl_unit z z (x_unit hr327) ?_
 refine wl_nil (tn (wp_ret (blk_r (then_r ?_))))
 replace hst := hst.pull2
 obtain ⟨I328, hI329, f330, hst⟩ := hst.own_fix
 replace f2_0 := f2_0.mono (ro_le hI329)
 replace f2_1 := f2_1.mono (ro_le hI329)
 replace f2_2 := f2_2.mono (ro_le hI329)
 replace f2_3 := f2_3.mono (ro_le hI329)
 replace f2_4 := f2_4.mono (ro_le hI329)
 replace f2_5 := f2_5.mono (ro_le hI329)
 replace f2_6 := f2_6.mono (ro_le hI329)
 replace f2_7 := f2_7.mono (ro_le hI329)
 replace hI0 := hI0.trans hI329
 replace hst := hst.pull2
 obtain ⟨I331, hI332, f333, hst⟩ := hst.own_fix
 replace f2_0 := f2_0.mono (ro_le hI332)
 replace f2_1 := f2_1.mono (ro_le hI332)
 replace f2_2 := f2_2.mono (ro_le hI332)
 replace f2_3 := f2_3.mono (ro_le hI332)
 replace f2_4 := f2_4.mono (ro_le hI332)
 replace f2_5 := f2_5.mono (ro_le hI332)
 replace f2_6 := f2_6.mono (ro_le hI332)
 replace f2_7 := f2_7.mono (ro_le hI332)
 replace f330 := f330.mono (ro_le hI332)
 replace hI0 := hI0.trans hI332
 replace hst := hst.pull1
 replace hst := objO_some hst
 obtain rfl := some_inj hm
 refine post_ret (vs := [.agg #[U1 t315.1.Kind, U6 t315.1.ID.Session, U6 t315.1.ID.Seq, I6 t315.1.R.E, U6 t315.1.R.Epoch, U6 t315.1.R.Index, v320, v322]]) results14 (rvs_cons (rv_cell (cs := [U1 t315.1.Kind, U6 t315.1.ID.Session, U6 t315.1.ID.Seq, I6 t315.1.R.E, U6 t315.1.R.Epoch, U6 t315.1.R.Index, v320, v322]) z isAgg35 sizeOf35 (hst.bcs1 0 z)) rvs_nil) ?_
 exact ⟨_, v320, v322, z, hI0, f330, f333, hst.keep1⟩
}
 {
 replace hm := bif_f hc314 hm
 refine wp_iff (cvb hc314) ?_
 refine wp_seq (wrl (wv (.bool (a2.Kind == (4:Int))) z z z (wv (.bool (a2.Kind == (4:Int))) z z z (wl_nil (tn ?_)))))
 refine bsplit (a2.Kind == (4:Int)) (fun hc334 => ?_) (fun hc334 => ?_)
 {
 replace hm := bif_t hc334 hm
 refine wp_ift (cvb hc334) ?_
 refine wp_seq (wrl (wv (Pt b259 0) z z z (wv (.int .u64 a1) z z z (wv (.agg #[U1 a2.Kind, U6 a2.ID.Session, U6 a2.ID.Seq, U6 a2.Epoch, U6 a2.Index, I6 a2.E, U6 a2.Hold.ID.Session, U6 a2.Hold.ID.Seq, U6 a2.Hold.Epoch, r2_0, r2_1, r2_2, r2_3, r2_4, I6 a2.R.E, U6 a2.R.Epoch, U6 a2.R.Index, r2_5, r2_6, U6 a2.Shards, r2_7, U6 a2.Rule.ID, I6 a2.Rule.From, I6 a2.Rule.To, F6 a2.Rule.Lo, F6 a2.Rule.Hi, U6 a2.Rule.Authority, I6 a2.Rule.Quota, .bool a2.On]) z z (x_loadN (cs := [U1 a2.Kind, U6 a2.ID.Session, U6 a2.ID.Seq, U6 a2.Epoch, U6 a2.Index, I6 a2.E, U6 a2.Hold.ID.Session, U6 a2.Hold.ID.Seq, U6 a2.Hold.Epoch, r2_0, r2_1, r2_2, r2_3, r2_4, I6 a2.R.E, U6 a2.R.Epoch, U6 a2.R.Index, r2_5, r2_6, U6 a2.Shards, r2_7, U6 a2.Rule.ID, I6 a2.Rule.From, I6 a2.Rule.To, F6 a2.Rule.Lo, F6 a2.Rule.Hi, U6 a2.Rule.Authority, I6 a2.Rule.Quota, .bool a2.On]) z isAgg49 sizeOf49 (hst.bcs9 0 z)) ?_))))
 replace hst := hst.pull7.pull7.pull7.pull7.pull7.pull7.pull7.pull7
 replace hst := at_lane_State_close (pv := Pt b259 0) (x := o0) hst z
 replace hst := objO_some hst
 obtain ⟨t335, ht336, hm⟩ := bind_some hm
 refine wc call50 [Pt b259 0, U6 a1, .agg #[U1 a2.Kind, U6 a2.ID.Session, U6 a2.ID.Seq, U6 a2.Epoch, U6 a2.Index, I6 a2.E, U6 a2.Hold.ID.Session, U6 a2.Hold.ID.Seq, U6 a2.Hold.Epoch, r2_0, r2_1, r2_2, r2_3, r2_4, I6 a2.R.E, U6 a2.R.Epoch, U6 a2.R.Index, r2_5, r2_6, U6 a2.Shards, r2_7, U6 a2.Rule.ID, I6 a2.Rule.From, I6 a2.Rule.To, F6 a2.Rule.Lo, F6 a2.Rule.Hi, U6 a2.Rule.Authority, I6 a2.Rule.Quota, .bool a2.On]] z z z ?_
 refine (lane_State_decide_ref f2_0 f2_1 f2_2 f2_3 f2_4 f2_5 f2_6 f2_7 hst.to1 ht336).mono ?_
 rintro _ w337 ⟨I338, v340, v343, rfl, hI339, f342, f345, hst⟩
 refine ⟨_, z, ?_⟩
 replace hst := hst.of1
 replace f2_0 := f2_0.mono (ro_le hI339)
 replace f2_1 := f2_1.mono (ro_le hI339)
 replace f2_2 := f2_2.mono (ro_le hI339)
 replace f2_3 := f2_3.mono (ro_le hI339)
 replace f2_4 := f2_4.mono (ro_le hI339)
 replace f2_5 := f2_5.mono (ro_le hI339)
 replace f2_6 := f2_6.mono (ro_le hI339)
 replace f2_7 := f2_7.mono (ro_le hI339)
 replace hI0 := hI0.trans hI339
 rcases he347 : t335.2 with _ | y346
 · rw [he347] at hm; cases hm
 rw [he347] at hm hst; dsimp only at hm; replace hst := objO_get hst
 replace hst := hst.pull1
 obtain ⟨w348, hr349, hst⟩ := hst.bx [U1 t335.1.Kind, U6 t335.1.ID.Session, U6 t335.1.ID.Seq, I6 t335.1.R.E, U6 t335.1.R.Epoch, U6 t335.1.R.Index, v340, v343] sizeOf35 z (oC z (oC z (oC z (oC z (oC z (oC z (oC (one_of_sliceV (ro_sliceV f342)) (oC (one_of_sliceV (ro_sliceV f345)) oN)))))))) (by kernel_rfl)
 refine wl_unit z z (x_unit hr349) ?_
 refine wl_nil (tn (wp_ret (blk_r (then_r ?_))))
 replace hst := hst.pull1
 replace hst := objO_some hst
 obtain rfl := some_inj hm
 refine post_ret (vs := [.agg #[U1 t335.1.Kind, U6 t335.1.ID.Session, U6 t335.1.ID.Seq, I6 t335.1.R.E, U6 t335.1.R.Epoch, U6 t335.1.R.Index, v340, v343]]) results14 (rvs_cons (rv_cell (cs := [U1 t335.1.Kind, U6 t335.1.ID.Session, U6 t335.1.ID.Seq, I6 t335.1.R.E, U6 t335.1.R.Epoch, U6 t335.1.R.Index, v340, v343]) z isAgg35 sizeOf35 (hst.bcs1 0 z)) rvs_nil) ?_
 exact ⟨_, v340, v343, z, hI0, f342, f345, hst.keep1⟩
}
 {
 replace hm := bif_f hc334 hm
 refine wp_iff (cvb hc334) ?_
 refine wp_seq (wrl (wv (.bool (a2.Kind == (5:Int))) z z z (wv (.bool (a2.Kind == (5:Int))) z z z (wl_nil (tn ?_)))))
 refine bsplit (a2.Kind == (5:Int)) (fun hc350 => ?_) (fun hc350 => ?_)
 {
 replace hm := bif_t hc350 hm
 refine wp_ift (cvb hc350) ?_
 refine wp_seq (wrl (wv (Pt b259 0) z z z (wv (Pt b247 1) z z (x_field z underlying49 z sizeOf28 z) (wv (.agg #[U6 a2.ID.Session, U6 a2.ID.Seq]) z z (x_loadN (cs := [U6 a2.ID.Session, U6 a2.ID.Seq]) z isAgg28 sizeOf28 (hst.bcs9 1 z)) ?_))))
 replace hst := hst.pull7.pull7.pull7.pull7.pull7.pull7.pull7.pull7
 replace hst := at_lane_State_close (pv := Pt b259 0) (x := o0) hst z
 replace hst := objO_some hst
 obtain ⟨t351, ht352, hm⟩ := bind_some hm
 refine wc call51 [Pt b259 0, .agg #[U6 a2.ID.Session, U6 a2.ID.Seq]] z z z ?_
 refine (lane_State_find_ref hst.to1 ht352).mono ?_
 rintro _ w353 ⟨rfl, hst⟩
 refine ⟨_, z, ?_⟩
 replace hst := hst.of1
 replace hst := objO_get hst
 refine wv (.tuple #[I6 t351.1, .bool t351.2]) z z z (wv (.int .i64 t351.1) z z z (wv (.bool t351.2) z z z (wv (.int .i64 t351.1) z z z (wv (.bool t351.2) z z z (wl_nil (tn (wp_seq (wrl (wv (.bool t351.2) z z z (wl_nil (tn ?_)))))))))))
 refine bsplit t351.2 (fun hc356 => ?_) (fun hc356 => ?_)
 {
 replace hm := bif_t hc356 hm
 refine wp_ift (cvb hc356) ?_
 refine wrl (wv (Pt b259 0) z z z (wv (Pt b259 0) z z z ?_))
 obtain ⟨b357, v358, v360, v362, v364, v366, v368, v370, e372, hst'⟩ := at_lane_State_open hst
 clear hst
 have e372 := ptr_inj e372
 subst e372
 have hst := hst'
 clear hst'
 refine wv (Pt b259 0) z z z (wv (Pt b259 6) z z (x_field z underlying111 z sizeOf65 z) (wv (v366) z z (x_load z isAgg65 (hst.bc0 z)) (wv (.int .i64 t351.1) z z z (wv (.int .i64 t351.1) z z z (wv (.int .i64 (i64.wrap (t351.1 + (1:Int)))) z z z ?_)))))
 replace hst := hst.pull5
 obtain ⟨t373, ht374, hm⟩ := bind_some hm
 refine wc call52 [v366, I6 t351.1, I6 (i64.wrap (t351.1 + (1:Int)))] z z z ?_
 refine (slices_Delete_api_Decision_api_Decision_ref hst.to1 ht374).mono ?_
 rintro _ w375 ⟨v378, rfl, hst⟩
 refine ⟨_, z, ?_⟩
 replace hst := hst.of1
 refine wv (Pt b259 0) z z z (wv (Pt b259 6) z z (x_field z underlying111 z sizeOf65 z) ?_)
 replace hst := hst.pull1
 obtain ⟨w380, hr381, hst⟩ := hst.boxStore1 (P := prog) (t := 65) (cs' := [I6 o0.wide, U6 o0.epoch, v358, v360, v362, v364, v378, v368, v370]) 6 v378 (one_of_sliceV hst.sv1) sizeOf65 z z
 refine wl_unit z z (x_unit hr381) ?_
 refine wl_nil (blk_n (tn (wp_seq (wrl (wv (.agg #[Zb, Zu, Zu, Zi, Zu, Zu, Zs, Zs]) z z (by kernel_rfl) ?_)))))
 replace hst := hst.pull8
 obtain ⟨w384, hr385, hst⟩ := hst.bx [Zb, Zu, Zu, Zi, Zu, Zu, Zs, Zs] sizeOf35 z (oC z (oC z (oC z (oC z (oC z (oC z (oC z (oC z oN)))))))) (by kernel_rfl)
 refine wl_unit z z (x_unit hr385) ?_
 refine wl_nil (tn (wp_ret ?_))
 have f386 : Ro ty_api_Got I (.slice none 0 0) [] := ro_nil
 have f387 : Ro (tySl ty_api_Pair) I (.slice none 0 0) [] := ro_nil
 replace hst := hst.pull8.pull8.pull4.pull8.pull8.pull8.pull8.pull8
 replace hst := at_lane_State_close (pv := Pt b259 0) (x := ({ wide := o0.wide, epoch := o0.epoch, store := o0.store, locks := o0.locks, last := o0.last, book := o0.book, open_ := t373, out := o0.out, used := o0.used } : lane_State)) hst z
 replace hst := objO_some hst
 obtain rfl := some_inj hm
 refine post_ret (vs := [.agg #[Zb, Zu, Zu, Zi, Zu, Zu, Zs, Zs]]) results14 (rvs_cons (rv_cell (cs := [Zb, Zu, Zu, Zi, Zu, Zu, Zs, Zs]) z isAgg35 sizeOf35 (hst.bcs1 0 z)) rvs_nil) ?_
 exact ⟨_, Zs, Zs, z, hI0, f386, f387, hst.keep1⟩
}
 {
 replace hm := bif_f hc356 hm
 refine wp_iff (cvb hc356) ?_
 refine wp_skip (blk_n (tn (wp_seq (wrl ?_))))
 refine wv (.agg #[Zb, Zu, Zu, Zi, Zu, Zu, Zs, Zs]) z z (by kernel_rfl) ?_
 replace hst := hst.pull1
 obtain ⟨w390, hr391, hst⟩ := hst.bx [Zb, Zu, Zu, Zi, Zu, Zu, Zs, Zs] sizeOf35 z (oC z (oC z (oC z (oC z (oC z (oC z (oC z (oC z oN)))))))) (by kernel_rfl)
 refine wl_unit z z (x_unit hr391) ?_
 refine wl_nil (tn (wp_ret ?_))
 have f392 : Ro ty_api_Got I (.slice none 0 0) [] := ro_nil
 have f393 : Ro (tySl ty_api_Pair) I (.slice none 0 0) [] := ro_nil
 replace hst := hst.pull1
 replace hst := objO_some hst
 obtain rfl := some_inj hm
 refine post_ret (vs := [.agg #[Zb, Zu, Zu, Zi, Zu, Zu, Zs, Zs]]) results14 (rvs_cons (rv_cell (cs := [Zb, Zu, Zu, Zi, Zu, Zu, Zs, Zs]) z isAgg35 sizeOf35 (hst.bcs1 0 z)) rvs_nil) ?_
 exact ⟨_, Zs, Zs, z, hI0, f392, f393, hst.keep1⟩
}
}
 {
 replace hm := bif_f hc350 hm
 refine wp_iff (cvb hc350) ?_
 refine wp_seq (wrl (wv (.bool (a2.Kind == (6:Int))) z z z (wv (.bool (a2.Kind == (6:Int))) z z z (wl_nil (tn ?_)))))
 refine bsplit (a2.Kind == (6:Int)) (fun hc394 => ?_) (fun hc394 => ?_)
 {
 replace hm := bif_t hc394 hm
 refine wp_ift (cvb hc394) ?_
 refine wp_seq (wrl (wv (Pt b247 28) z z (x_field z underlying49 z sizeOf4 z) (wv (.bool a2.On) z z (x_load z isAgg4 (hst.bc9 z)) (wl_nil (tn ?_)))))
 refine bsplit a2.On (fun hc395 => ?_) (fun hc395 => ?_)
 {
 replace hm := bif_t hc395 hm
 refine wp_ift (cvb hc395) ?_
 refine wp_region_St hst 11 [0, 1, 2, 3, 4, 5, 6, 7, 8, 9, 10] [0, 1, 3, 7, 0, 16, 0, 64, 192, 448, 1023] [] z (by kernel_rfl) (by kernel_rfl) Tryz.mixed (by kernel_rfl) ?_
 refine wsr (Pt b259 0) 0 z z z (by kernel_rfl) (fun w hst => z) (wsr (Pt b259 0) 1 z z z (by kernel_rfl) (fun w hst => z) (wsr (Pt b259 5) 2 z z z (by kernel_rfl) (fun w hst => x_field z underlying111 z sizeOf107 z) (wsr (v266) 3 z z z (by kernel_rfl) (fun w hst => x_load z isAgg107 (hst.bc0 z)) (wsr (Pt b247 21) 4 z z z (by kernel_rfl) (fun w hst => x_field z underlying49 z sizeOf39 z) (wsr (.agg #[U6 a2.Rule.ID, I6 a2.Rule.From, I6 a2.Rule.To, F6 a2.Rule.Lo, F6 a2.Rule.Hi, U6 a2.Rule.Authority, I6 a2.Rule.Quota]) 5 z z z (by kernel_rfl) (fun w hst => x_loadN (cs := [U6 a2.Rule.ID, I6 a2.Rule.From, I6 a2.Rule.To, F6 a2.Rule.Lo, F6 a2.Rule.Hi, U6 a2.Rule.Authority, I6 a2.Rule.Quota]) z isAgg39 sizeOf39 (hst.bcs9 21 z)) (wsr (Pt b259 0) 6 z z z (by kernel_rfl) (fun w hst => z) (wsr (Pt b259 0) 7 z z z (by kernel_rfl) (fun w hst => z) (wsr (Pt b259 1) 8 z z z (by kernel_rfl) (fun w hst => x_field z underlying111 z sizeOf26 z) (wsr (.int .u64 o0.epoch) 9 z z z (by kernel_rfl) (fun w hst => x_load z isAgg26 (hst.bc0 z)) ?_)))))))))
 refine ws_e1 10 (by kernel_rfl) ?_
 refine nxe [] (by kernel_rfl) z z ?_
 clear hst
 intro w hst
 replace hst := hst.pull4
 obtain ⟨t396, ht397, hm⟩ := bind_some hm
 refine wec call53 [v266, .agg #[U6 a2.Rule.ID, I6 a2.Rule.From, I6 a2.Rule.To, F6 a2.Rule.Lo, F6 a2.Rule.Hi, U6 a2.Rule.Authority, I6 a2.Rule.Quota], U6 o0.epoch] z z ?_
 refine (policy_Book_Grant_ref hst.to1 ht397).mono ?_
 rintro _ w398 ⟨rfl, hst⟩
 refine ⟨_, z, ?_⟩
 replace hst := hst.of1
 refine ws_next (pend' := []) hst (by kernel_rfl) pk_nil ?_
 refine ws_nil ?_
 intro w hst
 refine blk_n (tn (wp_seq (wrl ?_)))
 refine wv (.agg #[Zb, Zu, Zu, Zi, Zu, Zu, Zs, Zs]) z z (by kernel_rfl) ?_
 replace hst := hst.pull8
 obtain ⟨w403, hr404, hst⟩ := hst.bx [Zb, Zu, Zu, Zi, Zu, Zu, Zs, Zs] sizeOf35 z (oC z (oC z (oC z (oC z (oC z (oC z (oC z (oC z oN)))))))) (by kernel_rfl)
 refine wl_unit z z (x_unit hr404) ?_
 refine wl_nil (tn (wp_ret ?_))
 have f405 : Ro ty_api_Got I (.slice none 0 0) [] := ro_nil
 have f406 : Ro (tySl ty_api_Pair) I (.slice none 0 0) [] := ro_nil
 replace hst := hst.pull8.pull8.pull8.pull4.pull8.pull8.pull8.pull8
 replace hst := at_lane_State_close (pv := Pt b259 0) (x := ({ wide := o0.wide, epoch := o0.epoch, store := o0.store, locks := o0.locks, last := o0.last, book := t396, open_ := o0.open_, out := o0.out, used := o0.used } : lane_State)) hst z
 replace hst := objO_some hst
 obtain rfl := some_inj hm
 refine post_ret (vs := [.agg #[Zb, Zu, Zu, Zi, Zu, Zu, Zs, Zs]]) results14 (rvs_cons (rv_cell (cs := [Zb, Zu, Zu, Zi, Zu, Zu, Zs, Zs]) z isAgg35 sizeOf35 (hst.bcs1 0 z)) rvs_nil) ?_
 exact ⟨_, Zs, Zs, z, hI0, f405, f406, hst.keep1⟩
}
 {
 replace hm := bif_f hc395 hm
 refine wp_iff (cvb hc395) ?_
 refine wp_region_St hst 12 [0, 1, 2, 3, 4, 5, 6, 7, 8, 9, 10, 11] [0, 1, 3, 7, 0, 16, 48, 0, 128, 384, 896, 2047] [] z (by kernel_rfl) (by kernel_rfl) Tryz.mixed (by kernel_rfl) ?_
 refine wsr (Pt b259 0) 0 z z z (by kernel_rfl) (fun w hst => z) (wsr (Pt b259 0) 1 z z z (by kernel_rfl) (fun w hst => z) (wsr (Pt b259 5) 2 z z z (by kernel_rfl) (fun w hst => x_field z underlying111 z sizeOf107 z) (wsr (v266) 3 z z z (by kernel_rfl) (fun w hst => x_load z isAgg107 (hst.bc0 z)) (wsr (Pt b247 21) 4 z z z (by kernel_rfl) (fun w hst => x_field z underlying49 z sizeOf39 z) (wsr (Pt b247 21) 5 z z z (by kernel_rfl) (fun w hst => x_field z underlying39 z sizeOf26 z) (wsr (.int .u64 a2.Rule.ID) 6 z z z (by kernel_rfl) (fun w hst => x_load z isAgg26 (hst.bc9 z)) (wsr (Pt b259 0) 7 z z z (by kernel_rfl) (fun w hst => z) (wsr (Pt b259 0) 8 z z z (by kernel_rfl) (fun w hst => z) (wsr (Pt b259 1) 9 z z z (by kernel_rfl) (fun w hst => x_field z underlying111 z sizeOf26 z) (wsr (.int .u64 o0.epoch) 10 z z z (by kernel_rfl) (fun w hst => x_load z isAgg26 (hst.bc0 z)) ?_))))))))))
 refine ws_e1 11 (by kernel_rfl) ?_
 refine nxe [] (by kernel_rfl) z z ?_
 clear hst
 intro w hst
 replace hst := hst.pull4
 obtain ⟨t407, ht408, hm⟩ := bind_some hm
 refine wec call54 [v266, U6 a2.Rule.ID, U6 o0.epoch] z z ?_
 refine (policy_Book_Revoke_ref hst.to1 ht408).mono ?_
 rintro _ w409 ⟨rfl, hst⟩
 refine ⟨_, z, ?_⟩
 replace hst := hst.of1
 refine ws_next (pend' := []) hst (by kernel_rfl) pk_nil ?_
 refine ws_nil ?_
 intro w hst
 refine blk_n (tn (wp_seq (wrl ?_)))
 refine wv (.agg #[Zb, Zu, Zu, Zi, Zu, Zu, Zs, Zs]) z z (by kernel_rfl) ?_
 replace hst := hst.pull8
 obtain ⟨w414, hr415, hst⟩ := hst.bx [Zb, Zu, Zu, Zi, Zu, Zu, Zs, Zs] sizeOf35 z (oC z (oC z (oC z (oC z (oC z (oC z (oC z (oC z oN)))))))) (by kernel_rfl)
 refine wl_unit z z (x_unit hr415) ?_
 refine wl_nil (tn (wp_ret ?_))
 have f416 : Ro ty_api_Got I (.slice none 0 0) [] := ro_nil
 have f417 : Ro (tySl ty_api_Pair) I (.slice none 0 0) [] := ro_nil
 replace hst := hst.pull8.pull8.pull8.pull4.pull8.pull8.pull8.pull8
 replace hst := at_lane_State_close (pv := Pt b259 0) (x := ({ wide := o0.wide, epoch := o0.epoch, store := o0.store, locks := o0.locks, last := o0.last, book := t407.2, open_ := o0.open_, out := o0.out, used := o0.used } : lane_State)) hst z
 replace hst := objO_some hst
 obtain rfl := some_inj hm
 refine post_ret (vs := [.agg #[Zb, Zu, Zu, Zi, Zu, Zu, Zs, Zs]]) results14 (rvs_cons (rv_cell (cs := [Zb, Zu, Zu, Zi, Zu, Zu, Zs, Zs]) z isAgg35 sizeOf35 (hst.bcs1 0 z)) rvs_nil) ?_
 exact ⟨_, Zs, Zs, z, hI0, f416, f417, hst.keep1⟩
}
}
 {
 replace hm := bif_f hc394 hm
 refine wp_iff (cvb hc394) ?_
 refine wp_seq (wrl (wv (.bool (a2.Kind == (7:Int))) z z z (wv (.bool (a2.Kind == (7:Int))) z z z (wl_nil (tn ?_)))))
 refine bsplit (a2.Kind == (7:Int)) (fun hc418 => ?_) (fun hc418 => ?_)
 {
 replace hm := bif_t hc418 hm
 refine wp_ift (cvb hc418) ?_
 refine wp_seq (wrl (wv (Pt b259 0) z z z (wv (.int .u64 a1) z z z (wv (.agg #[U1 a2.Kind, U6 a2.ID.Session, U6 a2.ID.Seq, U6 a2.Epoch, U6 a2.Index, I6 a2.E, U6 a2.Hold.ID.Session, U6 a2.Hold.ID.Seq, U6 a2.Hold.Epoch, r2_0, r2_1, r2_2, r2_3, r2_4, I6 a2.R.E, U6 a2.R.Epoch, U6 a2.R.Index, r2_5, r2_6, U6 a2.Shards, r2_7, U6 a2.Rule.ID, I6 a2.Rule.From, I6 a2.Rule.To, F6 a2.Rule.Lo, F6 a2.Rule.Hi, U6 a2.Rule.Authority, I6 a2.Rule.Quota, .bool a2.On]) z z (x_loadN (cs := [U1 a2.Kind, U6 a2.ID.Session, U6 a2.ID.Seq, U6 a2.Epoch, U6 a2.Index, I6 a2.E, U6 a2.Hold.ID.Session, U6 a2.Hold.ID.Seq, U6 a2.Hold.Epoch, r2_0, r2_1, r2_2, r2_3, r2_4, I6 a2.R.E, U6 a2.R.Epoch, U6 a2.R.Index, r2_5, r2_6, U6 a2.Shards, r2_7, U6 a2.Rule.ID, I6 a2.Rule.From, I6 a2.Rule.To, F6 a2.Rule.Lo, F6 a2.Rule.Hi, U6 a2.Rule.Authority, I6 a2.Rule.Quota, .bool a2.On]) z isAgg49 sizeOf49 (hst.bcs9 0 z)) ?_))))
 replace hst := hst.pull7.pull7.pull7.pull7.pull7.pull7.pull7.pull7
 replace hst := at_lane_State_close (pv := Pt b259 0) (x := o0) hst z
 replace hst := objO_some hst
 obtain ⟨t419, ht420, hm⟩ := bind_some hm
 refine wc call55 [Pt b259 0, U6 a1, .agg #[U1 a2.Kind, U6 a2.ID.Session, U6 a2.ID.Seq, U6 a2.Epoch, U6 a2.Index, I6 a2.E, U6 a2.Hold.ID.Session, U6 a2.Hold.ID.Seq, U6 a2.Hold.Epoch, r2_0, r2_1, r2_2, r2_3, r2_4, I6 a2.R.E, U6 a2.R.Epoch, U6 a2.R.Index, r2_5, r2_6, U6 a2.Shards, r2_7, U6 a2.Rule.ID, I6 a2.Rule.From, I6 a2.Rule.To, F6 a2.Rule.Lo, F6 a2.Rule.Hi, U6 a2.Rule.Authority, I6 a2.Rule.Quota, .bool a2.On]] z z z ?_
 refine (lane_State_give_ref (f2_0.mono ro_rd) (f2_1.mono ro_rd) (f2_2.mono ro_rd) (f2_3.mono ro_rd) (f2_4.mono ro_rd) (f2_5.mono ro_rd) (f2_6.mono ro_rd) (f2_7.mono ro_rd) hst.to1 ht420).mono ?_
 rintro _ w421 ⟨I422, v424, v427, rfl, hI423, f426, f429, hst⟩
 refine ⟨_, z, ?_⟩
 replace hst := hst.of1
 replace f2_0 := f2_0.mono (ro_le hI423)
 replace f2_1 := f2_1.mono (ro_le hI423)
 replace f2_2 := f2_2.mono (ro_le hI423)
 replace f2_3 := f2_3.mono (ro_le hI423)
 replace f2_4 := f2_4.mono (ro_le hI423)
 replace f2_5 := f2_5.mono (ro_le hI423)
 replace f2_6 := f2_6.mono (ro_le hI423)
 replace f2_7 := f2_7.mono (ro_le hI423)
 replace hI0 := hI0.trans hI423
 rcases he431 : t419.2 with _ | y430
 · rw [he431] at hm; cases hm
 rw [he431] at hm hst; dsimp only at hm; replace hst := objO_get hst
 replace hst := hst.pull1
 obtain ⟨w432, hr433, hst⟩ := hst.bx [U1 t419.1.Kind, U6 t419.1.ID.Session, U6 t419.1.ID.Seq, I6 t419.1.R.E, U6 t419.1.R.Epoch, U6 t419.1.R.Index, v424, v427] sizeOf35 z (oC z (oC z (oC z (oC z (oC z (oC z (oC (one_of_sliceV (ro_sliceV f426)) (oC (one_of_sliceV (ro_sliceV f429)) oN)))))))) (by kernel_rfl)
 refine wl_unit z z (x_unit hr433) ?_
 refine wl_nil (tn (wp_ret (blk_r (then_r ?_))))
 replace hst := hst.pull1
 replace hst := objO_some hst
 obtain rfl := some_inj hm
 refine post_ret (vs := [.agg #[U1 t419.1.Kind, U6 t419.1.ID.Session, U6 t419.1.ID.Seq, I6 t419.1.R.E, U6 t419.1.R.Epoch, U6 t419.1.R.Index, v424, v427]]) results14 (rvs_cons (rv_cell (cs := [U1 t419.1.Kind, U6 t419.1.ID.Session, U6 t419.1.ID.Seq, I6 t419.1.R.E, U6 t419.1.R.Epoch, U6 t419.1.R.Index, v424, v427]) z isAgg35 sizeOf35 (hst.bcs1 0 z)) rvs_nil) ?_
 exact ⟨_, v424, v427, z, hI0, f426, f429, hst.keep1⟩
}
 {
 replace hm := bif_f hc418 hm
 refine wp_iff (cvb hc418) ?_
 refine wp_skip (blk_n (tn (wp_seq (wrl ?_))))
 refine wv (.agg #[Zb, Zu, Zu, Zi, Zu, Zu, Zs, Zs]) z z (by kernel_rfl) ?_
 replace hst := hst.pull8
 obtain ⟨w436, hr437, hst⟩ := hst.bx [Zb, Zu, Zu, Zi, Zu, Zu, Zs, Zs] sizeOf35 z (oC z (oC z (oC z (oC z (oC z (oC z (oC z (oC z oN)))))))) (by kernel_rfl)
 refine wl_unit z z (x_unit hr437) ?_
 refine wl_nil (tn (wp_ret ?_))
 have f438 : Ro ty_api_Got I (.slice none 0 0) [] := ro_nil
 have f439 : Ro (tySl ty_api_Pair) I (.slice none 0 0) [] := ro_nil
 replace hst := hst.pull8.pull8.pull8.pull8.pull8.pull8.pull8.pull8
 replace hst := at_lane_State_close (pv := Pt b259 0) (x := o0) hst z
 replace hst := objO_some hst
 obtain rfl := some_inj hm
 refine post_ret (vs := [.agg #[Zb, Zu, Zu, Zi, Zu, Zu, Zs, Zs]]) results14 (rvs_cons (rv_cell (cs := [Zb, Zu, Zu, Zi, Zu, Zu, Zs, Zs]) z isAgg35 sizeOf35 (hst.bcs1 0 z)) rvs_nil) ?_
 exact ⟨_, Zs, Zs, z, hI0, f438, f439, hst.keep1⟩
}
}
}
}
}
}
}
}
}

theorem lane_State_Epoch_ref {w0 w : World} {I : HL} {R : SP} {a0 : (Option lane_State)} {p0 : Value}  (hst : St w0 w I [objO at_lane_State p0 a0] R) {r : (Int)} (hm : lane_State_Epoch a0 = some r) :
  Calls prog 24 #[p0] w fun e w' => e = .returned (.int .u64 r) ∧ St w0 w' I [objO at_lane_State p0 a0] R := by {
 rcases a0 with _ | o0
 {
 obtain ⟨rfl, hst'⟩ := objO_none hst
 clear hst
 have hst := hst'
 clear hst'
 dsimp only [lane_State_Epoch] at hm
 refine calls_start (args := [.pointer none]) func24 z ntmps24 (Nat.le_of_ble_eq_true z) ?_
 refine wp_seq (wrl (wv (.int .u64 (0:Int)) z z z (wl_nil (tn (wp_seq (wp_seq (wrl (wv (.pointer none) z z z (wv (.bool true) z z (by kernel_rfl) (wl_nil (tn ?_)))))))))))
 refine wp_ift z ?_
 refine wp_seq (wrl (wv (.int .u64 (0:Int)) z z z (wl_nil (tn (wp_ret (then_r ?_))))))
 replace hst := hst.objO_nil at_lane_State
 obtain rfl := some_inj hm
 refine post_ret (vs := [Zu]) results24 (rvs_cons (rv_tmp z) rvs_nil) ?_
 exact ⟨z, hst.keep1⟩
}
 {
 replace hst := objO_get hst
 dsimp only [lane_State_Epoch] at hm
 refine calls_start (args := [p0]) func24 z ntmps24 (Nat.le_of_ble_eq_true z) ?_
 refine wp_seq (wrl (wv (.int .u64 (0:Int)) z z z (wl_nil (tn (wp_seq (wp_seq (wrl (wv (p0) z z z ?_))))))))
 obtain ⟨b201, v202, v204, v206, v208, v210, v212, v214, rfl, hst'⟩ := at_lane_State_open hst
 clear hst
 have hst := hst'
 clear hst'
 refine wv (.bool false) z z (by kernel_rfl) (wl_nil (tn ?_))
 refine wp_iff z ?_
 refine wp_skip (tn (wp_seq (wrl ?_)))
 refine wv (Pt b201 0) z z z (wv (Pt b201 0) z z z (wv (Pt b201 1) z z (x_field z underlying111 z sizeOf26 z) (wv (.int .u64 o0.epoch) z z (x_load z isAgg26 (hst.bc0 z)) (wv (.int .u64 o0.epoch) z z z (wl_nil (tn (wp_ret ?_)))))))
 replace hst := hst.pull7.pull7.pull7.pull7.pull7.pull7.pull7.pull7
 replace hst := at_lane_State_close (pv := Pt b201 0) (x := o0) hst z
 replace hst := objO_some hst
 obtain rfl := some_inj hm
 refine post_ret (vs := [U6 o0.epoch]) results24 (rvs_cons (rv_tmp z) rvs_nil) ?_
 exact ⟨z, hst.keep1⟩
}
}

theorem law16_awake_ref {w0 w : World} {I : HL} {R : SP}   (hst : St w0 w I [] R) {r : (Bool)} (hm : law16_awake = some r) :
  Calls prog 12 #[] w fun e w' => ∃ (I' : HL), e = .returned (.bool r) ∧ I.le I' ∧ St w0 w' I' [] R := by {
 unfold law16_awake at hm
 refine calls_start (args := []) func12 z ntmps12 (Nat.le_of_ble_eq_true z) ?_
 have hI0 := HL.le.refl I
 refine wp_seq (wrl (wv (.bool false) z z z (wl_nil (tn (wp_seq (wrl ?_))))))
 obtain ⟨t190, ht191, hm⟩ := bind_some hm
 refine wc call13 [I6 (4:Int)] z z z ?_
 refine (lane_New_ref hst.to0 ht191).mono ?_
 rintro _ w192 ⟨v195, rfl, hst⟩
 refine ⟨_, z, ?_⟩
 replace hst := hst.of1
 refine wv (v195) z z z (wl_nil (tn (wp_seq (wrl (wv (v195) z z z (wv (.agg #[U1 (1:Int), Zu, Zu, U6 (1:Int), Zu, Zi, Zu, Zu, Zu, Zs, Zs, Zs, Zs, Zs, Zi, Zu, Zu, Zs, Zs, Zu, Zs, Zu, Zi, Zi, Zf, Zf, Zu, Zi, .bool false]) z z (by kernel_rfl) ?_))))))
 replace hst := objO_some hst
 have f205 : Ro tyF64 I (.slice none 0 0) [] := ro_nil
 have f206 : Ro tyF2 I (.slice none 0 0) [] := ro_nil
 have f207 : Ro tyF64 I (.slice none 0 0) [] := ro_nil
 have f208 : Ro (tyInt .u8) I (.slice none 0 0) [] := ro_nil
 have f209 : Ro ty_api_Write I (.slice none 0 0) [] := ro_nil
 have f210 : Ro ty_api_Got I (.slice none 0 0) [] := ro_nil
 have f211 : Ro (tySl ty_api_Pair) I (.slice none 0 0) [] := ro_nil
 have f212 : Ro ty_api_Part I (.slice none 0 0) [] := ro_nil
 obtain ⟨t213, ht214, hm⟩ := bind_some hm
 refine wc call14 [v195, U6 (1:Int), .agg #[U1 (1:Int), Zu, Zu, U6 (1:Int), Zu, Zi, Zu, Zu, Zu, Zs, Zs, Zs, Zs, Zs, Zi, Zu, Zu, Zs, Zs, Zu, Zs, Zu, Zi, Zi, Zf, Zf, Zu, Zi, .bool false]] z z z ?_
 refine (lane_State_Apply_ref (a2 := ({ Kind := (1:Int), ID := ({ Session := (0:Int), Seq := (0:Int) } : api_ID), Epoch := (1:Int), Index := (0:Int), E := (0:Int), Hold := zero_api_Hold, Writes := [], R := zero_api_Reply, Shards := (0:Int), Parts := [], Rule := zero_api_Rule, On := false } : api_Command)) f205 f206 f207 f208 f209 f210 f211 f212 hst.to1 ht214).mono ?_
 rintro _ w215 ⟨I216, v218, v221, rfl, hI217, f220, f223, hst⟩
 refine ⟨_, z, ?_⟩
 replace hst := hst.of1
 replace f205 := f205.mono (ro_le hI217)
 replace f206 := f206.mono (ro_le hI217)
 replace f207 := f207.mono (ro_le hI217)
 replace f208 := f208.mono (ro_le hI217)
 replace f209 := f209.mono (ro_le hI217)
 replace f210 := f210.mono (ro_le hI217)
 replace f211 := f211.mono (ro_le hI217)
 replace f212 := f212.mono (ro_le hI217)
 replace hI0 := hI0.trans hI217
 rcases he225 : t213.2 with _ | y224
 · rw [he225] at hm; cases hm
 rw [he225] at hm hst; dsimp only at hm; replace hst := objO_get hst
 obtain ⟨b228, w229, ew230, eb231, hst⟩ := hst.box [Zb, Zu, Zu, Zi, Zu, Zu, Zs, Zs] 35
 refine wl_run (v := Pt b228 0) (w' := w229) z z (x_al (by kernel_rfl) ew230 eb231) ?_
 obtain ⟨w233, hr234, hst⟩ := hst.bx [U1 t213.1.Kind, U6 t213.1.ID.Session, U6 t213.1.ID.Seq, I6 t213.1.R.E, U6 t213.1.R.Epoch, U6 t213.1.R.Index, v218, v221] sizeOf35 z (oC z (oC z (oC z (oC z (oC z (oC z (oC (one_of_sliceV (ro_sliceV f220)) (oC (one_of_sliceV (ro_sliceV f223)) oN)))))))) (by kernel_rfl)
 refine wl_unit z z (x_unit hr234) ?_
 refine wl_nil (tn (wp_seq (wrl (wv (Pt b228 0) z z (x_field z underlying35 z sizeOf5 z) (wv (.int .u8 t213.1.Kind) z z (x_load z isAgg5 (hst.bc0 z)) (wv (.bool (t213.1.Kind == (1:Int))) z z z (wv (.bool (t213.1.Kind == (1:Int))) z z z ?_)))))))
 refine bsplit (t213.1.Kind == (1:Int)) (fun hc235 => ?_) (fun hc235 => ?_)
 {
 replace hm := bif_t hc235 hm
 refine wv (v195) ((wanted_eq z z z (cvb hc235)).trans z) z z ?_
 replace hst := hst.pull1
 replace hst := objO_some hst
 obtain ⟨t236, ht237, hm⟩ := bind_some hm
 refine wl_call ((wanted_eq z z z (cvb hc235)).trans z) z (x_call call24 z (vs := [v195]) z) ?_
 refine (lane_State_Epoch_ref hst.to1 ht237).mono ?_
 rintro _ w238 ⟨rfl, hst⟩
 refine ⟨_, z, ?_⟩
 replace hst := hst.of1
 replace hst := objO_get hst
 refine wv (.bool (t236 == (2:Int))) ((wanted_eq z z z (cvb hc235)).trans z) z z (wv (.bool (t236 == (2:Int))) z z (x_pick_t hc235 z z) (wv (.bool (t236 == (2:Int))) z z z ?_))
 refine bsplit (t236 == (2:Int)) (fun hc241 => ?_) (fun hc241 => ?_)
 {
 replace hm := bif_t hc241 hm
 refine wv (.bool true) z z (x_pick_t hc241 z z) (wv (.bool true) z z z (wl_nil (tn (wp_ret ?_))))
 obtain rfl := some_inj hm
 refine post_ret (vs := [.bool true]) results12 (rvs_cons (rv_tmp z) rvs_nil) ?_
 exact ⟨_, z, hI0, hst.keep0⟩
}
 {
 replace hm := bif_f hc241 hm
 refine wv (.bool false) z z (x_pick_f hc241 z z) (wv (.bool false) z z z (wl_nil (tn (wp_ret ?_))))
 obtain rfl := some_inj hm
 refine post_ret (vs := [.bool false]) results12 (rvs_cons (rv_tmp z) rvs_nil) ?_
 exact ⟨_, z, hI0, hst.keep0⟩
}
}
 {
 replace hm := bif_f hc235 hm
 refine wo hc235 z z z z z z (wo hc235 z z z z z z (wo hc235 z z z z z z (wv (.bool false) z z (x_pick_f hc235 z z) (wv (.bool false) z z z (wv (.bool false) z z (x_pick_f z z z) (wv (.bool false) z z z (wl_nil (tn (wp_ret ?_)))))))))
 obtain rfl := some_inj hm
 refine post_ret (vs := [.bool false]) results12 (rvs_cons (rv_tmp z) rvs_nil) ?_
 exact ⟨_, z, hI0, hst.keep0⟩
}
}

theorem lane_State_Last_ref {w0 w : World} {I : HL} {R : SP} {a0 : (Option lane_State)} {p0 : Value} {a1 : Int}  (hst : St w0 w I [objO at_lane_State p0 a0] R) {r : (Int)} (hm : lane_State_Last a0 a1 = some r) :
  Calls prog 22 #[p0, U6 a1] w fun e w' => e = .returned (.int .u64 r) ∧ St w0 w' I [objO at_lane_State p0 a0] R := by {
 rcases a0 with _ | o0
 {
 obtain ⟨rfl, hst'⟩ := objO_none hst
 clear hst
 have hst := hst'
 clear hst'
 dsimp only [lane_State_Last] at hm
 refine calls_start (args := [.pointer none, U6 a1]) func22 z ntmps22 (Nat.le_of_ble_eq_true z) ?_
 refine wp_seq (wrl (wv (.int .u64 (0:Int)) z z z (wl_nil (tn (wp_seq (wp_seq (wrl (wv (.pointer none) z z z (wv (.bool true) z z (by kernel_rfl) (wl_nil (tn ?_)))))))))))
 refine wp_ift z ?_
 refine wp_seq (wrl (wv (.int .u64 (0:Int)) z z z (wl_nil (tn (wp_ret (then_r ?_))))))
 replace hst := hst.objO_nil at_lane_State
 obtain rfl := some_inj hm
 refine post_ret (vs := [Zu]) results22 (rvs_cons (rv_tmp z) rvs_nil) ?_
 exact ⟨z, hst.keep1⟩
}
 {
 replace hst := objO_get hst
 dsimp only [lane_State_Last] at hm
 refine calls_start (args := [p0, U6 a1]) func22 z ntmps22 (Nat.le_of_ble_eq_true z) ?_
 refine wp_seq (wrl (wv (.int .u64 (0:Int)) z z z (wl_nil (tn (wp_seq (wp_seq (wrl (wv (p0) z z z ?_))))))))
 obtain ⟨b170, v171, v173, v175, v177, v179, v181, v183, rfl, hst'⟩ := at_lane_State_open hst
 clear hst
 have hst := hst'
 clear hst'
 refine wv (.bool false) z z (by kernel_rfl) (wl_nil (tn ?_))
 refine wp_iff z ?_
 refine wp_skip (tn (wp_seq (wrl ?_)))
 refine wv (Pt b170 0) z z z (wv (Pt b170 0) z z z (wv (Pt b170 4) z z (x_field z underlying111 z sizeOf105 z) (wv (v175) z z (x_load z isAgg105 (hst.bc0 z)) (wv (.int .u64 a1) z z z ?_))))
 replace hst := hst.pull3
 obtain ⟨t185, ht186, hm⟩ := bind_some hm
 refine wc call61 [v175, U6 a1] z z z ?_
 refine (session_Table_Last_ref hst.to1 ht186).mono ?_
 rintro _ w187 ⟨rfl, hst⟩
 refine ⟨_, z, ?_⟩
 replace hst := hst.of1
 refine wv (.int .u64 t185) z z z (wl_nil (tn (wp_ret ?_)))
 replace hst := hst.pull7.pull7.pull7.pull7.pull4.pull7.pull7.pull7
 replace hst := at_lane_State_close (pv := Pt b170 0) (x := o0) hst z
 replace hst := objO_some hst
 obtain rfl := some_inj hm
 refine post_ret (vs := [U6 t185]) results22 (rvs_cons (rv_tmp z) rvs_nil) ?_
 exact ⟨z, hst.keep1⟩
}
}

theorem slices_Clone_api_Decision_api_Decision_ref {w0 w : World} {I : HL} {R : SP} {a0 : (List api_Decision)} {r0_0 : Value} (f0_0 : RdO ty_api_Decision R I r0_0 a0) (hst : St w0 w I [] R) {r : (List api_Decision)} (hm : slices_Clone_api_Decision_api_Decision a0 = some r) :
  Calls prog 62 #[r0_0] w fun e w' => ∃ (q0_0 : Value), e = .returned (q0_0) ∧ St w0 w' I [ownS ty_api_Decision q0_0 r] R := by {
 unfold slices_Clone_api_Decision_api_Decision at hm
 obtain ⟨hg, hm⟩ := gd_some hm
 obtain rfl := some_inj hm
 have hsv := rdo_sliceV f0_0
 refine calls_start (args := [r0_0]) func62 z ntmps62 (Nat.le_of_ble_eq_true z) ?_
 refine wp_seq (wrl (wv ((.slice none 0 0)) z z z (wl_nil (tn (wp_seq (wp_seq (wrl (wv (r0_0) z z z (wv (.bool (isNil r0_0)) z z (x_slnil z hsv z underlying65) (wl_nil (tn ?_)))))))))))
 refine bsplit (isNil r0_0) (fun hc173 => ?_) (fun hc173 => ?_)
 {
 refine wp_ift (cvb hc173) ?_
 refine wp_seq (wrl (wv ((.slice none 0 0)) z z z (wl_nil (tn (wp_ret (then_r ?_))))))
 refine post_ret (vs := [Zs]) results62 (rvs_cons (rv_tmp z) rvs_nil) ?_
 obtain rfl := List.eq_nil_of_length_eq_zero (isNil_len hsv hc173)
 exact ⟨_, z, (hst.own_nil ty_api_Decision).keep1⟩
}
 {
 refine wp_iff (cvb hc173) ?_
 refine wp_skip (tn (wp_seq (wrl ?_)))
 obtain ⟨b, w1, ew, eb, hst⟩ := hst.lits (E := ty_api_Decision) (xs := []) [] 89 0 z Reps.nil
 refine wl_run (v := (.slice (some ⟨b, 0, none⟩) 0 0)) (w' := w1) z z (x_als (by kernel_rfl) ew eb) ?_
 refine wv (r0_0) z z z ?_
 obtain ⟨v2, w2, hr, hst⟩ := run_append elem_65 underlying65 hst (Src.of_rdo hst f0_0) (room_of hg z) 65
 refine wl_run (v := v2) (w' := w2) z z (x_append z z hr) ?_
 refine wv (v2) z z z (wl_nil (tn (wp_ret ?_)))
 refine post_ret (vs := [v2]) results62 (rvs_cons (rv_tmp z) rvs_nil) ?_
 rw [List.nil_append] at hst
 exact ⟨_, z, hst.keep1⟩
}
}

theorem lane_State_Open_ref {w0 w : World} {I : HL} {R : SP} {a0 : (Option lane_State)} {p0 : Value}  (hst : St w0 w I [objO at_lane_State p0 a0] R) {r : ((List api_Decision))} (hm : lane_State_Open a0 = some r) :
  Calls prog 23 #[p0] w fun e w' => ∃ (q0_0 : Value), e = .returned (q0_0) ∧ St w0 w' I [ownS ty_api_Decision q0_0 r, objO at_lane_State p0 a0] R := by {
 rcases a0 with _ | o0
 {
 obtain ⟨rfl, hst'⟩ := objO_none hst
 clear hst
 have hst := hst'
 clear hst'
 dsimp only [lane_State_Open] at hm
 refine calls_start (args := [.pointer none]) func23 z ntmps23 (Nat.le_of_ble_eq_true z) ?_
 refine wp_seq (wrl (wv ((.slice none 0 0)) z z z (wl_nil (tn (wp_seq (wp_seq (wrl (wv (.pointer none) z z z (wv (.bool true) z z (by kernel_rfl) (wl_nil (tn ?_)))))))))))
 refine wp_ift z ?_
 refine wp_seq (wrl (wv ((.slice none 0 0)) z z z (wl_nil (tn (wp_ret (then_r ?_))))))
 replace hst := hst.own_nil ty_api_Decision
 replace hst := hst.objO_nil at_lane_State
 obtain rfl := some_inj hm
 refine post_ret (vs := [Zs]) results23 (rvs_cons (rv_tmp z) rvs_nil) ?_
 replace hst := hst.pull1
 exact ⟨(.slice none 0 0), z, hst.keep2⟩
}
 {
 replace hst := objO_get hst
 dsimp only [lane_State_Open] at hm
 refine calls_start (args := [p0]) func23 z ntmps23 (Nat.le_of_ble_eq_true z) ?_
 refine wp_seq (wrl (wv ((.slice none 0 0)) z z z (wl_nil (tn (wp_seq (wp_seq (wrl (wv (p0) z z z ?_))))))))
 obtain ⟨b186, v187, v189, v191, v193, v195, v197, v199, rfl, hst'⟩ := at_lane_State_open hst
 clear hst
 have hst := hst'
 clear hst'
 refine wv (.bool false) z z (by kernel_rfl) (wl_nil (tn ?_))
 refine wp_iff z ?_
 refine wp_skip (tn (wp_seq (wrl ?_)))
 refine wv (Pt b186 0) z z z (wv (Pt b186 0) z z z (wv (Pt b186 6) z z (x_field z underlying111 z sizeOf65 z) (wv (v195) z z (x_load z isAgg65 (hst.bc0 z)) ?_)))
 replace hst := hst.pull5
 obtain ⟨css201, hq202, hst⟩ := hst.own_open
 obtain ⟨t203, ht204, hm⟩ := bind_some hm
 refine wc call62 [v195] z z z ?_
 refine (slices_Clone_api_Decision_api_Decision_ref (hst.rdorow 0 z hq202) hst.to0 ht204).mono ?_
 rintro _ w205 ⟨v208, rfl, hst⟩
 refine ⟨_, z, ?_⟩
 replace hst := hst.of1.pull1.own_close hq202
 refine wv (v208) z z z (wl_nil (tn (wp_ret ?_)))
 replace hst := hst.pull8.pull8.pull2.pull8.pull8.pull8.pull8.pull8
 replace hst := at_lane_State_close (pv := Pt b186 0) (x := o0) hst z
 replace hst := objO_some hst
 obtain rfl := some_inj hm
 refine post_ret (vs := [v208]) results23 (rvs_cons (rv_tmp z) rvs_nil) ?_
 replace hst := hst.pull1
 exact ⟨v208, z, hst.keep2⟩
}
}

end Go.Proofs.YtgnkkopjkgdieaaGreat
