/- The Go functions refine their models, part 4. -/
import Derived.Test.YtgnkkopjkgdieaaGreatLaneQuotasR3
set_option linter.unusedVariables false
set_option linter.unusedSimpArgs false
set_option maxRecDepth 100000
set_option maxHeartbeats 4000000
namespace Go.Proofs.YtgnkkopjkgdieaaGreat
open Go Go.V
open _root_.Go.Proofs.Tryz IntKind
attribute [local irreducible] wpList Code.wp wpQuiet Calls bodyPost Oper.wp wpS Nx PendOK YieldsIn
theorem policy_Book_Grant_ref {w0 w : World} {I : HL} {R : SP} {a0 : (Option policy_Book)} {p0 : Value} {a1 : api_Rule} {a2 : Int}  (hst : St w0 w I [objO at_policy_Book p0 a0] R) {r : ((Option policy_Book))} (hm : policy_Book_Grant a0 a1 a2 = some r) :
  Calls prog 53 #[p0, .agg #[U6 a1.ID, I6 a1.From, I6 a1.To, F6 a1.Lo, F6 a1.Hi, U6 a1.Authority, I6 a1.Quota], U6 a2] w fun e w' => e = .returned (.tuple #[]) ∧ St w0 w' I [objO at_policy_Book p0 r] R := by {
 rcases a0 with _ | o0
 {
 obtain ⟨rfl, hst'⟩ := objO_none hst
 clear hst
 have hst := hst'
 clear hst'
 dsimp only [policy_Book_Grant] at hm
 refine calls_start (args := [.pointer none, .agg #[U6 a1.ID, I6 a1.From, I6 a1.To, F6 a1.Lo, F6 a1.Hi, U6 a1.Authority, I6 a1.Quota], U6 a2]) func53 z ntmps53 (Nat.le_of_ble_eq_true z) ?_
 refine wp_seq (wrl ?_)
 obtain ⟨b207, w208, ew209, eb210, hst⟩ := hst.box [U6 a1.ID, I6 a1.From, I6 a1.To, F6 a1.Lo, F6 a1.Hi, U6 a1.Authority, I6 a1.Quota] 39
 refine wl_run (v := Pt b207 0) (w' := w208) z z (x_al (by kernel_rfl) ew209 eb210) ?_
 refine wl_nil (tn (wp_seq (wp_seq (wrl (wv (.pointer none) z z z (wv (.bool true) z z (by kernel_rfl) (wl_nil (tn ?_))))))))
 refine wp_ift z ?_
 refine wp_ret (then_r ?_)
 replace hst := hst.objO_nil at_policy_Book
 obtain rfl := some_inj hm
 refine post_ret (vs := []) results53 rvs_nil ?_
 exact ⟨z, hst.keep1⟩
}
 {
 replace hst := objO_get hst
 dsimp only [policy_Book_Grant] at hm
 refine calls_start (args := [p0, .agg #[U6 a1.ID, I6 a1.From, I6 a1.To, F6 a1.Lo, F6 a1.Hi, U6 a1.Authority, I6 a1.Quota], U6 a2]) func53 z ntmps53 (Nat.le_of_ble_eq_true z) ?_
 refine wp_seq (wrl ?_)
 obtain ⟨b212, w213, ew214, eb215, hst⟩ := hst.box [U6 a1.ID, I6 a1.From, I6 a1.To, F6 a1.Lo, F6 a1.Hi, U6 a1.Authority, I6 a1.Quota] 39
 refine wl_run (v := Pt b212 0) (w' := w213) z z (x_al (by kernel_rfl) ew214 eb215) ?_
 refine wl_nil (tn (wp_seq (wp_seq (wrl (wv (p0) z z z ?_)))))
 replace hst := hst.pull1
 obtain ⟨b217, v218, rfl, hst'⟩ := at_policy_Book_open hst
 clear hst
 have hst := hst'
 clear hst'
 refine wv (.bool false) z z (by kernel_rfl) (wl_nil (tn ?_))
 refine wp_iff z ?_
 refine wp_skip (tn (wp_seq (wrl ?_)))
 refine wv (Pt b217 0) z z z (wv (Pt b212 0) z z (x_field z underlying39 z sizeOf26 z) (wv (.int .u64 a1.ID) z z (x_load z isAgg26 (hst.bc2 z)) (wv (.int .u64 a2) z z z ?_)))
 replace hst := hst.pull1.pull1
 replace hst := at_policy_Book_close (pv := Pt b217 0) (x := o0) hst z
 replace hst := objO_some hst
 obtain ⟨t220, ht221, hm⟩ := bind_some hm
 refine wc call54 [Pt b217 0, U6 a1.ID, U6 a2] z z z ?_
 refine (policy_Book_Revoke_ref hst.to1 ht221).mono ?_
 rintro _ w222 ⟨rfl, hst⟩
 refine ⟨_, z, ?_⟩
 replace hst := hst.of1
 rcases he226 : t220.2 with _ | y225
 · rw [he226] at hm; cases hm
 rw [he226] at hm hst; dsimp only at hm; replace hst := objO_get hst
 refine wl_nil (tn ?_)
 obtain ⟨b227, v228, e230, hst'⟩ := at_policy_Book_open hst
 clear hst
 have e230 := ptr_inj e230
 subst e230
 have hst := hst'
 clear hst'
 refine wp_region_St hst 13 [0, 1, 2, 3, 4, 5, 6, 7, 8, 9, 10, 11, 12] [0, 0, 2, 6, 14, 0, 0, 96, 224, 510, 1023, 2047, 4095] [] z (by kernel_rfl) (by kernel_rfl) Tryz.mixed (by kernel_rfl) ?_
 refine wsr (Pt b217 0) 0 z z z (by kernel_rfl) (fun w hst => z) (wsr (Pt b217 0) 1 z z z (by kernel_rfl) (fun w hst => z) (wsr (Pt b217 0) 2 z z z (by kernel_rfl) (fun w hst => z) (wsr (Pt b217 0) 3 z z z (by kernel_rfl) (fun w hst => x_field z underlying209 z sizeOf207 z) (wsr (v228) 4 z z z (by kernel_rfl) (fun w hst => x_load z isAgg207 (hst.bc0 z)) (wsr (.agg #[U6 a1.ID, I6 a1.From, I6 a1.To, F6 a1.Lo, F6 a1.Hi, U6 a1.Authority, I6 a1.Quota]) 5 z z z (by kernel_rfl) (fun w hst => x_loadN (cs := [U6 a1.ID, I6 a1.From, I6 a1.To, F6 a1.Lo, F6 a1.Hi, U6 a1.Authority, I6 a1.Quota]) z isAgg39 sizeOf39 (hst.bcs2 0 z)) (wsr (.int .u64 a2) 6 z z z (by kernel_rfl) (fun w hst => z) (wsr (.agg #[U6 a1.ID, I6 a1.From, I6 a1.To, F6 a1.Lo, F6 a1.Hi, U6 a1.Authority, I6 a1.Quota, U6 a2, Zu]) 7 z z z (by kernel_rfl) (fun w hst => by kernel_rfl) ?_)))))))
 refine ws_e1 8 (by kernel_rfl) ?_
 refine nxe [9, 10, 11, 12] (by kernel_rfl) z z ?_
 clear hst
 intro w hst
 obtain ⟨b231, w232, ew233, eb234, hst⟩ := hst.lits (E := ty_policy_line) (xs := [({ r := a1, from_ := a2, to_ := (0:Int) } : policy_line)]) [[U6 a1.ID, I6 a1.From, I6 a1.To, F6 a1.Lo, F6 a1.Hi, U6 a1.Authority, I6 a1.Quota, U6 a2, Zu]] 224 1 z (Reps.cons z Reps.nil)
 refine we_run (v := (.slice (some ⟨b231, 0, none⟩) 1 1)) (w' := w232) z (x_als (by kernel_rfl) ew233 eb234) ?_
 refine ws_next (pend' := [(4, v228), (3, Pt b217 0), (2, Pt b217 0), (1, Pt b217 0), (0, Pt b217 0)]) hst (by kernel_rfl) (pkr z z (fun w hst => x_load z isAgg207 (hst.bc1 z)) (pkr z z (fun w hst => x_field z underlying209 z sizeOf207 z) (pkr z z (fun w hst => z) (pkr z z (fun w hst => z) (pkr z z (fun w hst => z) pk_nil))))) ?_
 refine ws_e1 9 (by kernel_rfl) ?_
 refine nxe [10, 11, 12] (by kernel_rfl) z z ?_
 clear hst
 intro w hst
 obtain ⟨hg236, hm⟩ := gd_some hm
 replace hst := hst.pull2
 obtain ⟨v237, w238, hr239, hst⟩ := run_append elem_207 underlying207 hst hst.src1 (room_of hg236 z) 207
 refine we_run (v := v237) (w' := w238) z (x_append z z hr239) ?_
 refine ws_next (pend' := [(0, Pt b217 0)]) hst (by kernel_rfl) (pkr z z (fun w hst => z) pk_nil) ?_
 refine wsr (Pt b217 0) 10 z z z (by kernel_rfl) (fun w hst => z) (wsr (Pt b217 0) 11 z z z (by kernel_rfl) (fun w hst => x_field z underlying209 z sizeOf207 z) ?_)
 refine ws_e1 12 (by kernel_rfl) ?_
 refine nxe [] (by kernel_rfl) z z ?_
 clear hst
 intro w hst
 replace hst := hst.pull2
 obtain ⟨w241, hr242, hst⟩ := hst.boxStore1 (P := prog) (t := 207) (cs' := [v237]) 0 v237 (one_of_sliceV hst.sv1) sizeOf207 z z
 refine we_unit z (x_unit hr242) ?_
 refine ws_next (pend' := []) hst (by kernel_rfl) pk_nil ?_
 refine ws_nil ?_
 intro w hst
 replace hst := hst.pull1.pull1
 replace hst := at_policy_Book_close (pv := Pt b217 0) (x := ({ l := (y225.l ++ ([({ r := a1, from_ := a2, to_ := (0:Int) } : policy_line)])) } : policy_Book)) hst z
 replace hst := objO_some hst
 obtain rfl := some_inj hm
 refine post_end (vs := []) results53 rvs_nil ?_
 exact ⟨z, hst.keep1⟩
}
}

theorem lane_State_give_1_ref {w0 w : World} {I : HL} {R : SP} {a0 : lane_used} {a1 : Int}  (hst : St w0 w I [] R) {r : (Int)} (hm : lane_State_give_1 a0 a1 = some r) :
  Calls prog 133 #[.agg #[U6 a0.rule, U6 a0.epoch, I6 a0.n], U6 a1] w fun e w' => e = .returned (.int .i64 r) ∧ St w0 w' I [] R := by {
 unfold lane_State_give_1 at hm
 refine calls_start (args := [.agg #[U6 a0.rule, U6 a0.epoch, I6 a0.n], U6 a1]) func133 z ntmps133 (Nat.le_of_ble_eq_true z) ?_
 refine wp_seq (wrl ?_)
 obtain ⟨b274, w275, ew276, eb277, hst⟩ := hst.box [U6 a0.rule, U6 a0.epoch, I6 a0.n] 189
 refine wl_run (v := Pt b274 0) (w' := w275) z z (x_al (by kernel_rfl) ew276 eb277) ?_
 refine wv (.int .i64 (0:Int)) z z z (wl_nil (tn (wp_seq (wrl (wv (Pt b274 0) z z (x_field z underlying189 z sizeOf26 z) (wv (.int .u64 a0.rule) z z (x_load z isAgg26 (hst.bc0 z)) (wv (.int .u64 a1) z z z ?_)))))))
 obtain ⟨t279, ht280, hm⟩ := bind_some hm
 refine wc call131 [U6 a0.rule, U6 a1] z z z ?_
 refine (cmp_Compare_uint64_ref hst.to0 ht280).mono ?_
 rintro _ w281 ⟨rfl, hst⟩
 refine ⟨_, z, ?_⟩
 replace hst := hst.of0
 refine wv (.int .i64 t279) z z z (wl_nil (tn (wp_ret ?_)))
 obtain rfl := some_inj hm
 refine post_ret (vs := [I6 t279]) results133 (rvs_cons (rv_tmp z) rvs_nil) ?_
 exact ⟨z, hst.keep0⟩
}

theorem slices_Insert_lane_used_lane_used_ref {w0 w : World} {I : HL} {R : SP} {a0 : (List lane_used)} {r0_0 : Value} {a1 : Int} {a2 : (List lane_used)} {r2_0 : Value} (hst : St w0 w I [ownS ty_lane_used r0_0 a0, ownS ty_lane_used r2_0 a2] R) {r : (List lane_used)} (hm : slices_Insert_lane_used_lane_used a0 a1 a2 = some r) :
  Calls prog 134 #[r0_0, I6 a1, r2_0] w fun e w' => ∃ (q0_0 : Value), e = .returned (q0_0) ∧ St w0 w' I [ownS ty_lane_used q0_0 r] R := by {
 unfold slices_Insert_lane_used_lane_used at hm
 obtain ⟨hg, hm⟩ := gd_some hm
 obtain rfl := some_inj hm
 obtain ⟨hi0, hi1, hrm⟩ := insOK_of hg
 obtain ⟨k, rfl⟩ := Int.eq_ofNat_of_zero_le hi0
 have hsm := room_sum hrm
 have hk : k ≤ a0.length := by omega
 have hs : ∀ w : World, (sizeOf 189).run prog w = .ok ty_lane_used.sz w := sizeOf189
 have hs0 : 0 < ty_lane_used.sz := Nat.le_of_ble_eq_true rfl
 have hov : ∀ (args : Array Value) (w : World), (callFunc 191 args).run prog w = (Extern.SlicesOverlaps.overlaps #[109, 109] #[4] args >>= fun v => (pure (.value v) : Sem Next)).run prog w := by intro args w; kernel_rfl
 obtain ⟨css, hr, hst⟩ := hst.own_open
 replace hst := hst.pull1
 obtain ⟨dss, hq, hst⟩ := hst.own_open
 replace hst := hst.pull1
 obtain ⟨n, hn⟩ : ∃ n, css.length = n := ⟨_, rfl⟩
 obtain ⟨m, hm'⟩ : ∃ m, dss.length = m := ⟨_, rfl⟩
 have hln : a0.length = n := hr.1.trans hn
 have hlm : a2.length = m := hq.1.trans hm'
 rw [hln] at hsm hk
 rw [hlm] at hsm
 have hsv : SliceV r0_0 n := by have := hst.row_form.2; rwa [hn] at this
 have hsq : SliceV r2_0 m := by have := hst.pull1.row_form.2; rwa [hm'] at this
 have hoc := hr.ones
 have hoq := hq.ones
 have hw1 := wrap_add (a := n) (b := m) (by omega)
 have hw2 := wrap_add (a := k) (b := m) (by omega)
 have hw3 := wrap_sub (a := n + m) (b := k) (by omega) (by omega)
 have hrb := room_of (b := 24) hrm rfl
 rw [hln, hlm] at hrb
 refine calls_start (args := [r0_0, I6 (k : Int), r2_0]) func134 z ntmps134 (Nat.le_of_ble_eq_true z) ?_
 refine wp_seq (wrl (wv ((.slice none 0 0)) z z z (wl_nil (tn (wp_seq (wrl (wv (r0_0) z z z (wv (.int .i64 (k : Int)) z z z (wv ((slcV ty_lane_used.sz r0_0 k n)) z z (x_slice (lo := (k : Nat)) (hi := (n : Nat)) underlying109 hs z hsv (by omega) (by omega) (by omega) .i64 .i64 (.inl z) (.inr ⟨z, z⟩)) (wl_nil (tn (wp_seq (wrl (wv (r2_0) z z z (wv (.int .i64 (m : Int)) z z (x_len z underlying109 hsq) (wv (.int .i64 (m : Int)) z z z (wl_nil (tn (wp_seq (wp_seq (wrl (wv (.int .i64 (m : Int)) z z z (wv (.bool ((m : Int) == (0:Int))) z z z ?_)))))))))))))))))))))))
 refine wl_nil (tn ?_)
 refine bsplit ((m : Int) == (0:Int)) (fun hc411 => ?_) (fun hc411 => ?_)
 {
 refine wp_ift (cvb hc411) ?_
 refine wp_seq (wrl (wv (r0_0) z z z (wv (r0_0) z z z (wl_nil (tn (wp_ret (then_r ?_)))))))
 refine post_ret (vs := [r0_0]) results134 (rvs_cons (rv_tmp z) rvs_nil) ?_
 rw [ins_nil (by rw [hlm]; exact hc411)]
 exact ⟨_, z, (hst.own_close hr).keep1⟩
}
 {
 refine wp_iff (cvb hc411) ?_
 have hm0 : m ≠ 0 := fun h => by rw [h] at hc411; cases hc411
 have hq0 : dss ≠ [] := fun h => hm0 (by rw [← hm', h]; rfl)
 refine wp_skip (tn (wp_seq (wrl ?_)))
 refine wv (r0_0) z z z (wv (.int .i64 (n : Int)) z z (x_len z underlying109 hsv) (wv (.int .i64 (n : Int)) z z z (wl_nil (tn (wp_seq (wp_seq (wrl (wv (.int .i64 (k : Int)) z z z (wv (.int .i64 (n : Int)) z z z (wv (.bool ((k : Int) == (n : Int))) z z z (wl_nil (tn ?_))))))))))))
 refine bsplit ((k : Int) == (n : Int)) (fun hc412 => ?_) (fun hc412 => ?_)
 {
 refine wp_ift (cvb hc412) ?_
 refine wp_seq (wrl (wv (r0_0) z z z (wv (r2_0) z z z ?_)))
 replace hst := (hst.own_close hr).pull1.own_close hq
 replace hst := hst.pull1
 obtain ⟨v2, w2, hra, hst⟩ := run_append elem_109 underlying109 hst hst.src1 (room_of hrm z) 109
 refine wl_run (v := v2) (w' := w2) z z (x_append z z hra) ?_
 refine wv (v2) z z z (wl_nil (tn (wp_ret (then_r ?_))))
 refine post_ret (vs := [v2]) results134 (rvs_cons (rv_tmp z) rvs_nil) ?_
 rw [ins_end (by rw [hln]; exact hc412)]
 exact ⟨_, z, hst.keep1⟩
}
 {
 refine wp_iff (cvb hc412) ?_
 have hkn : k ≠ n := fun h => by rw [h] at hc412; simp at hc412
 have hn0 : 0 < n := by omega
 have hc0 : css ≠ [] := fun h => by rw [h] at hn; simp at hn; omega
 refine wp_skip (tn (wp_seq (wp_seq (wrl ?_))))
 refine wv (.int .i64 (n : Int)) z z z (wv (.int .i64 (m : Int)) z z z (wv (.int .i64 ((n + m : Nat) : Int)) z z (ok_cast hw1 z) (wv (r0_0) z z z (wv (.int .i64 (sCap r0_0 : Int)) z z (x_cap z underlying109 hsv) (wv (.bool (decide (((n + m : Nat) : Int) > (sCap r0_0 : Int)))) z z z (wl_nil (tn ?_)))))))
 refine bsplit (decide (((n + m : Nat) : Int) > (sCap r0_0 : Int))) (fun hc413 => ?_) (fun hc413 => ?_)
 {
 refine wp_ift (cvb hc413) ?_
 refine wp_seq (wrl (wv (r0_0) z z z (wv (.int .i64 (k : Int)) z z z (wv ((slcV ty_lane_used.sz r0_0 0 k)) z z (x_slice (lo := (0 : Nat)) (hi := (k : Nat)) underlying109 hs z hsv (by omega) (by omega) (by omega) .i64 .i64 (.inr ⟨z, z⟩) (.inl z)) (wv (.int .i64 (n : Int)) z z z (wv (.int .i64 (m : Int)) z z z (wv (.int .i64 ((n + m : Nat) : Int)) z z (ok_cast hw1 z) (wv (.int .i64 (k : Int)) z z z (wv (.int .i64 ((n + m - k : Nat) : Int)) z z (ok_cast hw3 z) ?_)))))))))
 obtain ⟨v2, w2, hra, hs2, zss, hzl, hst⟩ := run_app0 elem_109 underlying3 hst k (n + m - k) (by omega) (by have := of_decide_eq_true hc413; omega) (by rw [show k + (n + m - k) = n + m by omega]; exact hrb) hs0 109
 rw [show k + (n + m - k) = n + m by omega] at hs2
 refine wl_run (v := v2) (w' := w2) z z (x_append z z hra) ?_
 refine wv (v2) z z z (wl_nil (tn (wp_seq (wrl (wv (v2) z z z (wv (.int .i64 (k : Int)) z z z (wv ((slcV ty_lane_used.sz v2 k (n + m))) z z (x_slice (lo := (k : Nat)) (hi := ((n + m) : Nat)) underlying109 hs z hs2 (by omega) (by omega) (by omega) .i64 .i64 (.inl z) (.inr ⟨z, z⟩)) (wv (r2_0) z z z ?_))))))))
 obtain ⟨w414, hr415, hst⟩ := run_copyRows (P := prog) (t2 := 109) (ty := 3) underlying109 hs hst hst.pull2 k m (N := n + m) (by first | omega | (simp only [List.length_append, List.length_take, List.length_drop]; omega)) (by first | omega | (simp only [List.length_append, List.length_take, List.length_drop]; omega)) (by omega) (by first | omega | (simp only [List.length_append, List.length_take, List.length_drop]; omega)) (ones_take hoq _)
 refine wl_run (v := .int .i64 (m : Nat)) (w' := w414) z z (x_copy z z hr415) ?_
 refine wl_nil (tn (wp_seq ?_))
 refine wp_region_St hst 9 [0, 1, 2, 3, 4, 5, 6, 7, 8] [0, 0, 0, 6, 15, 0, 0, 96, 255] [] z (by kernel_rfl) (by kernel_rfl) Tryz.mixed (by kernel_rfl) ?_
 refine wsr (v2) 0 z z z (by kernel_rfl) (fun w hst => z) (wsr (.int .i64 (k : Int)) 1 z z z (by kernel_rfl) (fun w hst => z) (wsr (.int .i64 (m : Int)) 2 z z z (by kernel_rfl) (fun w hst => z) (wsr (.int .i64 ((k + m : Nat) : Int)) 3 z z z (by kernel_rfl) (fun w hst => ok_cast hw2 z) (wsr ((slcV ty_lane_used.sz v2 (k + m) (n + m))) 4 z z z (by kernel_rfl) (fun w hst => x_slice (lo := ((k + m) : Nat)) (hi := ((n + m) : Nat)) underlying109 hs z hs2 (by omega) (by omega) (by omega) .i64 .i64 (.inl z) (.inr ⟨z, z⟩)) (wsr (r0_0) 5 z z z (by kernel_rfl) (fun w hst => z) (wsr (.int .i64 (k : Int)) 6 z z z (by kernel_rfl) (fun w hst => z) (wsr ((slcV ty_lane_used.sz r0_0 k n)) 7 z z z (by kernel_rfl) (fun w hst => x_slice (lo := (k : Nat)) (hi := (n : Nat)) underlying109 hs z hsv (by omega) (by omega) (by omega) .i64 .i64 (.inl z) (.inr ⟨z, z⟩)) ?_)))))))
 refine ws_e1 8 (by kernel_rfl) ?_
 refine nxe [] (by kernel_rfl) z z ?_
 clear hst
 intro w hst
 obtain ⟨w416, hr417, hst⟩ := run_copyRows (P := prog) (t2 := 109) (ty := 3) underlying109 hs hst (hst.pull1.row_part (l := k) (h := n) hk (by omega)) (k + m) (n - k) (N := n + m) (by first | omega | (simp only [List.length_append, List.length_take, List.length_drop]; omega)) (by first | omega | (simp only [List.length_append, List.length_take, List.length_drop]; omega)) (by omega) (by first | omega | (simp only [List.length_append, List.length_take, List.length_drop]; omega)) (ones_take (ones_drop (ones_take hoc _) _) _)
 refine we_run (v := .int .i64 ((n - k) : Nat)) (w' := w416) z (x_copy z z hr417) ?_
 refine ws_next (pend' := []) hst (by kernel_rfl) pk_nil ?_
 refine ws_nil ?_
 intro w hst
 refine tn (wp_seq (wrl (wv (v2) z z z (wv (v2) z z z (wl_nil (tn (wp_ret (then_r ?_))))))))
 refine post_ret (vs := [v2]) results134 (rvs_cons (rv_tmp z) rvs_nil) ?_
 rw [grow_rows hn hm' hk hzl] at hst
 exact ⟨_, z, (hst.own_close ((hr.take k).app (hq.app (hr.drop k)))).keep1⟩
}
 {
 refine wp_iff (cvb hc413) ?_
 have hup : n + m ≤ sCap r0_0 := by have := of_decide_eq_false hc413; omega
 obtain ⟨ess, hel, hem, hst'⟩ := hst.row_up (n + m) (by omega) hup hc0
 rw [show n + m - css.length = m by omega] at hel
 have hs2 : SliceV (upV r0_0 (n + m)) (n + m) := by have := hst'.row_form.2; rwa [List.length_append, hn, hel] at this
 clear hst
 have hst := hst'
 clear hst'
 refine wp_skip (tn (wp_seq (wrl ?_)))
 refine wv (r0_0) z z z (wv (.int .i64 (n : Int)) z z z (wv (.int .i64 (m : Int)) z z z (wv (.int .i64 ((n + m : Nat) : Int)) z z (ok_cast hw1 z) (wv ((upV r0_0 (n + m))) z z (x_sliceUp underlying109 hs z hsv z hup hn0) (wv ((upV r0_0 (n + m))) z z z (wl_nil (tn (wp_seq (wp_seq (wrl (wv (r2_0) z z z (wv ((upV r0_0 (n + m))) z z z (wv (.int .i64 (k : Int)) z z z (wv (.int .i64 (m : Int)) z z z (wv (.int .i64 ((k + m : Nat) : Int)) z z (ok_cast hw2 z) (wv ((slcV ty_lane_used.sz (upV r0_0 (n + m)) (k + m) (n + m))) z z (x_slice (lo := ((k + m) : Nat)) (hi := ((n + m) : Nat)) underlying109 hs z hs2 (by omega) (by omega) (by omega) .i64 .i64 (.inl z) (.inr ⟨z, z⟩)) ?_))))))))))))))))
 refine wv (.bool false) z z (x_ext z z z (hov _) (run_overlaps z underlying109 hs hst.pull1 (k + m) (N := n + m) (by rw [List.length_append]; omega) (by omega) hq0 hs0)) (wv (.bool true) z z z (wl_nil (tn ?_)))
 refine wp_ift z ?_
 refine wp_seq ?_
 refine wp_region_St hst 9 [0, 1, 2, 3, 4, 5, 6, 7, 8] [0, 0, 0, 6, 15, 0, 0, 96, 255] [] z (by kernel_rfl) (by kernel_rfl) Tryz.mixed (by kernel_rfl) ?_
 refine wsr ((upV r0_0 (n + m))) 0 z z z (by kernel_rfl) (fun w hst => z) (wsr (.int .i64 (k : Int)) 1 z z z (by kernel_rfl) (fun w hst => z) (wsr (.int .i64 (m : Int)) 2 z z z (by kernel_rfl) (fun w hst => z) (wsr (.int .i64 ((k + m : Nat) : Int)) 3 z z z (by kernel_rfl) (fun w hst => ok_cast hw2 z) (wsr ((slcV ty_lane_used.sz (upV r0_0 (n + m)) (k + m) (n + m))) 4 z z z (by kernel_rfl) (fun w hst => x_slice (lo := ((k + m) : Nat)) (hi := ((n + m) : Nat)) underlying109 hs z hs2 (by omega) (by omega) (by omega) .i64 .i64 (.inl z) (.inr ⟨z, z⟩)) (wsr ((upV r0_0 (n + m))) 5 z z z (by kernel_rfl) (fun w hst => z) (wsr (.int .i64 (k : Int)) 6 z z z (by kernel_rfl) (fun w hst => z) (wsr ((slcV ty_lane_used.sz (upV r0_0 (n + m)) k (n + m))) 7 z z z (by kernel_rfl) (fun w hst => x_slice (lo := (k : Nat)) (hi := ((n + m) : Nat)) underlying109 hs z hs2 (by omega) (by omega) (by omega) .i64 .i64 (.inl z) (.inr ⟨z, z⟩)) ?_)))))))
 refine ws_e1 8 (by kernel_rfl) ?_
 refine nxe [] (by kernel_rfl) z z ?_
 clear hst
 intro w hst
 obtain ⟨w418, hr419, hst⟩ := run_copyRows (P := prog) (t2 := 109) (ty := 3) underlying109 hs hst (hst.row_part (l := k) (h := n + m) (by omega) (by rw [List.length_append]; omega)) (k + m) (n - k) (N := n + m) (by first | omega | (simp only [List.length_append, List.length_take, List.length_drop]; omega)) (by first | omega | (simp only [List.length_append, List.length_take, List.length_drop]; omega)) (by omega) (by first | omega | (simp only [List.length_append, List.length_take, List.length_drop]; omega)) (by rw [stay_src hn hm' hk hel]; exact ones_drop hoc _)
 refine we_run (v := .int .i64 ((n - k) : Nat)) (w' := w418) z (x_copy z z hr419) ?_
 refine ws_next (pend' := []) hst (by kernel_rfl) pk_nil ?_
 refine ws_nil ?_
 intro w hst
 refine tn (wp_seq (wrl (wv ((upV r0_0 (n + m))) z z z (wv (.int .i64 (k : Int)) z z z (wv ((slcV ty_lane_used.sz (upV r0_0 (n + m)) k (n + m))) z z (x_slice (lo := (k : Nat)) (hi := ((n + m) : Nat)) underlying109 hs z hs2 (by omega) (by omega) (by omega) .i64 .i64 (.inl z) (.inr ⟨z, z⟩)) (wv (r2_0) z z z ?_))))))
 obtain ⟨w420, hr421, hst⟩ := run_copyRows (P := prog) (t2 := 109) (ty := 3) underlying109 hs hst hst.pull1 k m (N := n + m) (by first | omega | (simp only [List.length_append, List.length_take, List.length_drop]; omega)) (by first | omega | (simp only [List.length_append, List.length_take, List.length_drop]; omega)) (by omega) (by first | omega | (simp only [List.length_append, List.length_take, List.length_drop]; omega)) (ones_take hoq _)
 refine wl_run (v := .int .i64 (m : Nat)) (w' := w420) z z (x_copy z z hr421) ?_
 refine wl_nil (tn (wp_seq (wrl (wv ((upV r0_0 (n + m))) z z z (wv ((upV r0_0 (n + m))) z z z (wl_nil (tn (wp_ret (then_r ?_)))))))))
 refine post_ret (vs := [(upV r0_0 (n + m))]) results134 (rvs_cons (rv_tmp z) rvs_nil) ?_
 rw [stay_rows hn hm' hk hel] at hst
 exact ⟨_, z, (hst.own_close ((hr.take k).app (hq.app (hr.drop k)))).keep1⟩
}
}
}
}

theorem lane_Pad_ref {w0 w : World} {I : HL} {R : SP} {a0 : api_Write} {r0_0 : Value} {a1 : Int} (f0_0 : Rd (tyInt .u8) R I r0_0 a0.Val) (hst : St w0 w I [] R) {r : (api_Write)} (hm : lane_Pad a0 a1 = some r) :
  Calls prog 17 #[.agg #[F6 a0.At, .bool a0.Del, r0_0], I6 a1] w fun e w' => ∃ (q0_0 : Value), e = .returned (.agg #[F6 r.At, .bool r.Del, q0_0]) ∧ St w0 w' I [ownS (tyInt .u8) q0_0 r.Val] R := by {
 unfold lane_Pad at hm
 refine calls_start (args := [.agg #[F6 a0.At, .bool a0.Del, r0_0], I6 a1]) func17 z ntmps17 (Nat.le_of_ble_eq_true z) ?_
 refine wp_seq (wrl ?_)
 obtain ⟨b493, w494, ew495, eb496, hst⟩ := hst.box [F6 a0.At, .bool a0.Del, r0_0] 41
 refine wl_run (v := Pt b493 0) (w' := w494) z z (x_al (by kernel_rfl) ew495 eb496) ?_
 obtain ⟨b499, w500, ew501, eb502, hst⟩ := hst.box [Zf, .bool false, Zs] 41
 refine wl_run (v := Pt b499 0) (w' := w500) z z (x_al (by kernel_rfl) ew501 eb502) ?_
 refine wl_nil (tn (wp_seq (wrl (wv (.int .i64 a1) z z z (wv (.int .i64 (if (0:Int) > a1 then (0:Int) else a1)) z z (by kernel_rfl) ?_)))))
 obtain ⟨hg504, hm⟩ := gd_some hm
 obtain ⟨v505, w506, hr507, hst⟩ := run_mk (k := .i64) (k' := .i64) (zm := (0:Int)) elem_22 hst hg504 (by decide) z
 refine wl_run (v := v505) (w' := w506) z z (x_make z z hr507) ?_
 refine wv (v505) z z z (wl_nil (tn (wp_seq (wrl (wv (v505) z z z (wv (Pt b493 2) z z (x_field z underlying41 z sizeOf22 z) (wv (r0_0) z z (x_load z isAgg22 (hst.bc2 z)) ?_)))))))
 obtain ⟨w509, hr510, hst⟩ := run_copySrc (P := prog) (t2 := 22) (ty := 3) underlying22 sizeOf5 hst (Src.of_rd hst f0_0 flat_int)
 refine wl_run (v := .int .i64 ((min (a0.Val).length ((List.replicate (Int.toNat (if (0:Int) > a1 then (0:Int) else a1)) (0:Int))).length : Nat) : Int)) (w' := w509) z z (x_copy z z hr510) ?_
 refine wl_nil (tn ?_)
 obtain ⟨y518, hm, hx519⟩ := bind_some hm
 refine wp_cut (fun a w => ∃ (z515 : (List Int)) (v514 : Value) (σ516 : Nat → Value), (lane_Pad_j0 a0) z515 = some r ∧ a = Fr 21 (upd (upd (upd σ516 2 (Pt b493 0)) 4 (Pt b499 0)) 5 (v514)) ∧ St w0 w I [cells b493 [F6 a0.At, .bool a0.Del, r0_0], cells b499 [Zf, .bool false, Zs], ownS (tyInt .u8) v514 z515] R) ?_ ?_
 {
 refine wp_seq (wrl (wv (Pt b493 1) z z (x_field z underlying41 z sizeOf4 z) (wv (.bool a0.Del) z z (x_load z isAgg4 (hst.bc2 z)) (wl_nil (tn ?_)))))
 refine bsplit a0.Del (fun hc511 => ?_) (fun hc511 => ?_)
 {
 replace hm := bif_t hc511 hm
 refine wp_ift (cvb hc511) ?_
 refine wrl (wv ((.slice none 0 0)) z z z (wl_nil (tn ?_)))
 replace hst := hst.own_nil (tyInt .u8)
 replace hst := hst.pull2.pull3.keep3
 obtain rfl := some_inj hm
 exact ⟨([]), Zs, _, hx519, (fu 2 (Pt b493 0) z (fu 4 (Pt b499 0) z (fu 5 (.slice none 0 0) z z))), hst⟩
}
 {
 replace hm := bif_f hc511 hm
 refine wp_iff (cvb hc511) ?_
 refine wp_skip (tn ?_)
 replace hst := hst.pull1.pull2.keep3
 obtain rfl := some_inj hm
 exact ⟨(cpy (List.replicate (Int.toNat (if (0:Int) > a1 then (0:Int) else a1)) (0:Int)) a0.Val), v505, _, hx519, (fu 2 (Pt b493 0) z (fu 4 (Pt b499 0) z (fu 5 v505 z z))), hst⟩
}
}
 {
 clear hst
 rintro _ w520 ⟨z515, v514, σ516, hm, rfl, hst⟩
 dsimp only [lane_Pad_j0] at hm
 refine wp_seq (wrl (wv (Pt b493 0) z z (x_field z underlying41 z sizeOf37 z) (wv (.float .f64 a0.At) z z (x_load z isAgg37 (hst.bc0 z)) (wv (Pt b493 1) z z (x_field z underlying41 z sizeOf4 z) (wv (.bool a0.Del) z z (x_load z isAgg4 (hst.bc0 z)) (wv (v514) z z z (wv (.agg #[F6 a0.At, .bool a0.Del, v514]) z z (by obtain ⟨_, _, hv_, _⟩ := hst.sv2; rw [hv_]; kernel_rfl) ?_)))))))
 replace hst := hst.pull1
 obtain ⟨w522, hr523, hst⟩ := hst.bx [F6 a0.At, .bool a0.Del, v514] sizeOf41 z (oC z (oC z (oC (one_of_sliceV hst.sv2) oN))) (by kernel_rfl)
 refine wl_unit z z (x_unit hr523) ?_
 refine wl_nil (tn (wp_ret ?_))
 obtain rfl := some_inj hm
 refine post_ret (vs := [.agg #[F6 a0.At, .bool a0.Del, v514]]) results17 (rvs_cons (rv_cell (cs := [F6 a0.At, .bool a0.Del, v514]) z isAgg41 sizeOf41 (hst.bcs0 0 z)) rvs_nil) ?_
 replace hst := hst.pull2
 exact ⟨v514, z, hst.keep1⟩
}
}

theorem lane_State_give_ref {w0 w : World} {I : HL} {R : SP} {a0 : (Option lane_State)} {p0 : Value} {a1 : Int} {a2 : api_Command} {r2_0 : Value} {r2_1 : Value} {r2_2 : Value} {r2_3 : Value} {r2_4 : Value} {r2_5 : Value} {r2_6 : Value} {r2_7 : Value} (f2_0 : Rd tyF64 R I r2_0 a2.Hold.Gets) (f2_1 : Rd tyF2 R I r2_1 a2.Hold.Scans) (f2_2 : Rd tyF64 R I r2_2 a2.Hold.Puts) (f2_3 : Rd (tyInt .u8) R I r2_3 a2.Hold.Data) (f2_4 : Rd ty_api_Write R I r2_4 a2.Writes) (f2_5 : Rd ty_api_Got R I r2_5 a2.R.Gots) (f2_6 : Rd (tySl ty_api_Pair) R I r2_6 a2.R.Scans) (f2_7 : Rd ty_api_Part R I r2_7 a2.Parts) (hst : St w0 w I [objO at_lane_State p0 a0] R) {r : (api_Effect × (Option lane_State))} (hm : lane_State_give a0 a1 a2 = some r) :
  Calls prog 55 #[p0, U6 a1, .agg #[U1 a2.Kind, U6 a2.ID.Session, U6 a2.ID.Seq, U6 a2.Epoch, U6 a2.Index, I6 a2.E, U6 a2.Hold.ID.Session, U6 a2.Hold.ID.Seq, U6 a2.Hold.Epoch, r2_0, r2_1, r2_2, r2_3, r2_4, I6 a2.R.E, U6 a2.R.Epoch, U6 a2.R.Index, r2_5, r2_6, U6 a2.Shards, r2_7, U6 a2.Rule.ID, I6 a2.Rule.From, I6 a2.Rule.To, F6 a2.Rule.Lo, F6 a2.Rule.Hi, U6 a2.Rule.Authority, I6 a2.Rule.Quota, .bool a2.On]] w fun e w' => ∃ (I' : HL) (q0_0 : Value) (q0_1 : Value), e = .returned (.agg #[U1 r.1.Kind, U6 r.1.ID.Session, U6 r.1.ID.Seq, I6 r.1.R.E, U6 r.1.R.Epoch, U6 r.1.R.Index, q0_0, q0_1]) ∧ I.le I' ∧ Ro ty_api_Got I' q0_0 r.1.R.Gots ∧ Ro (tySl ty_api_Pair) I' q0_1 r.1.R.Scans ∧ St w0 w' I' [objO at_lane_State p0 r.2] R := by {
 rcases a0 with _ | o0
 {
 obtain ⟨rfl, hst'⟩ := objO_none hst
 clear hst
 have hst := hst'
 clear hst'
 dsimp only [lane_State_give] at hm
 refine calls_start (args := [.pointer none, U6 a1, .agg #[U1 a2.Kind, U6 a2.ID.Session, U6 a2.ID.Seq, U6 a2.Epoch, U6 a2.Index, I6 a2.E, U6 a2.Hold.ID.Session, U6 a2.Hold.ID.Seq, U6 a2.Hold.Epoch, r2_0, r2_1, r2_2, r2_3, r2_4, I6 a2.R.E, U6 a2.R.Epoch, U6 a2.R.Index, r2_5, r2_6, U6 a2.Shards, r2_7, U6 a2.Rule.ID, I6 a2.Rule.From, I6 a2.Rule.To, F6 a2.Rule.Lo, F6 a2.Rule.Hi, U6 a2.Rule.Authority, I6 a2.Rule.Quota, .bool a2.On]]) func55 z ntmps55 (Nat.le_of_ble_eq_true z) ?_
 have hI0 := HL.le.refl I
 refine wp_seq (wrl ?_)
 obtain ⟨b669, w670, ew671, eb672, hst⟩ := hst.box [U1 a2.Kind, U6 a2.ID.Session, U6 a2.ID.Seq, U6 a2.Epoch, U6 a2.Index, I6 a2.E, U6 a2.Hold.ID.Session, U6 a2.Hold.ID.Seq, U6 a2.Hold.Epoch, r2_0, r2_1, r2_2, r2_3, r2_4, I6 a2.R.E, U6 a2.R.Epoch, U6 a2.R.Index, r2_5, r2_6, U6 a2.Shards, r2_7, U6 a2.Rule.ID, I6 a2.Rule.From, I6 a2.Rule.To, F6 a2.Rule.Lo, F6 a2.Rule.Hi, U6 a2.Rule.Authority, I6 a2.Rule.Quota, .bool a2.On] 49
 refine wl_run (v := Pt b669 0) (w' := w670) z z (x_al (by kernel_rfl) ew671 eb672) ?_
 obtain ⟨b676, w677, ew678, eb679, hst⟩ := hst.box [Zb, Zu, Zu, Zi, Zu, Zu, Zs, Zs] 35
 refine wl_run (v := Pt b676 0) (w' := w677) z z (x_al (by kernel_rfl) ew678 eb679) ?_
 refine wl_nil (tn (wp_seq (wrl (wv (Pt b669 14) z z (x_field z underlying49 z sizeOf33 z) (wv (Pt b669 14) z z (x_field z underlying33 z sizeOf29 z) (wv (.int .i64 a2.R.E) z z (x_load z isAgg29 (hst.bc1 z)) (wv (Pt b669 3) z z (x_field z underlying49 z sizeOf26 z) (wv (.int .u64 a2.Epoch) z z (x_load z isAgg26 (hst.bc1 z)) (wv (.int .u64 a1) z z z (wv (.agg #[I6 a2.R.E, U6 a2.Epoch, U6 a1, Zs, Zs]) z z (by kernel_rfl) ?_))))))))))
 obtain ⟨b685, w686, ew687, eb688, hst⟩ := hst.box [Zi, Zu, Zu, Zs, Zs] 33
 refine wl_run (v := Pt b685 0) (w' := w686) z z (x_al (by kernel_rfl) ew687 eb688) ?_
 obtain ⟨w690, hr691, hst⟩ := hst.bx [I6 a2.R.E, U6 a2.Epoch, U6 a1, Zs, Zs] sizeOf33 z (oC z (oC z (oC z (oC z (oC z oN))))) (by kernel_rfl)
 refine wl_unit z z (x_unit hr691) ?_
 refine wl_nil (tn (wp_seq ?_))
 refine wp_region_St hst 13 [0, 1, 2, 3, 4, 5, 6, 7, 8, 9, 10, 11, 12] [0, 1, 3, 7, 0, 16, 48, 127, 255, 511, 511, 1023, 4095] [] z (by kernel_rfl) (by kernel_rfl) Tryz.mixed (by kernel_rfl) ?_
 refine wsr (.pointer none) 0 z z z (by kernel_rfl) (fun w hst => z) ?_
 cases hm
}
 {
 replace hst := objO_get hst
 dsimp only [lane_State_give] at hm
 refine calls_start (args := [p0, U6 a1, .agg #[U1 a2.Kind, U6 a2.ID.Session, U6 a2.ID.Seq, U6 a2.Epoch, U6 a2.Index, I6 a2.E, U6 a2.Hold.ID.Session, U6 a2.Hold.ID.Seq, U6 a2.Hold.Epoch, r2_0, r2_1, r2_2, r2_3, r2_4, I6 a2.R.E, U6 a2.R.Epoch, U6 a2.R.Index, r2_5, r2_6, U6 a2.Shards, r2_7, U6 a2.Rule.ID, I6 a2.Rule.From, I6 a2.Rule.To, F6 a2.Rule.Lo, F6 a2.Rule.Hi, U6 a2.Rule.Authority, I6 a2.Rule.Quota, .bool a2.On]]) func55 z ntmps55 (Nat.le_of_ble_eq_true z) ?_
 have hI0 := HL.le.refl I
 refine wp_seq (wrl ?_)
 obtain ⟨b692, w693, ew694, eb695, hst⟩ := hst.box [U1 a2.Kind, U6 a2.ID.Session, U6 a2.ID.Seq, U6 a2.Epoch, U6 a2.Index, I6 a2.E, U6 a2.Hold.ID.Session, U6 a2.Hold.ID.Seq, U6 a2.Hold.Epoch, r2_0, r2_1, r2_2, r2_3, r2_4, I6 a2.R.E, U6 a2.R.Epoch, U6 a2.R.Index, r2_5, r2_6, U6 a2.Shards, r2_7, U6 a2.Rule.ID, I6 a2.Rule.From, I6 a2.Rule.To, F6 a2.Rule.Lo, F6 a2.Rule.Hi, U6 a2.Rule.Authority, I6 a2.Rule.Quota, .bool a2.On] 49
 refine wl_run (v := Pt b692 0) (w' := w693) z z (x_al (by kernel_rfl) ew694 eb695) ?_
 obtain ⟨b699, w700, ew701, eb702, hst⟩ := hst.box [Zb, Zu, Zu, Zi, Zu, Zu, Zs, Zs] 35
 refine wl_run (v := Pt b699 0) (w' := w700) z z (x_al (by kernel_rfl) ew701 eb702) ?_
 refine wl_nil (tn (wp_seq (wrl (wv (Pt b692 14) z z (x_field z underlying49 z sizeOf33 z) (wv (Pt b692 14) z z (x_field z underlying33 z sizeOf29 z) (wv (.int .i64 a2.R.E) z z (x_load z isAgg29 (hst.bc1 z)) (wv (Pt b692 3) z z (x_field z underlying49 z sizeOf26 z) (wv (.int .u64 a2.Epoch) z z (x_load z isAgg26 (hst.bc1 z)) (wv (.int .u64 a1) z z z (wv (.agg #[I6 a2.R.E, U6 a2.Epoch, U6 a1, Zs, Zs]) z z (by kernel_rfl) ?_))))))))))
 obtain ⟨b708, w709, ew710, eb711, hst⟩ := hst.box [Zi, Zu, Zu, Zs, Zs] 33
 refine wl_run (v := Pt b708 0) (w' := w709) z z (x_al (by kernel_rfl) ew710 eb711) ?_
 obtain ⟨w713, hr714, hst⟩ := hst.bx [I6 a2.R.E, U6 a2.Epoch, U6 a1, Zs, Zs] sizeOf33 z (oC z (oC z (oC z (oC z (oC z oN))))) (by kernel_rfl)
 refine wl_unit z z (x_unit hr714) ?_
 refine wl_nil (tn (wp_seq ?_))
 replace hst := hst.pull3
 obtain ⟨b715, v716, v718, v720, v722, v724, v726, v728, rfl, hst'⟩ := at_lane_State_open hst
 clear hst
 have hst := hst'
 clear hst'
 refine wp_region_St hst 13 [0, 1, 2, 3, 4, 5, 6, 7, 8, 9, 10, 11, 12] [0, 1, 3, 7, 0, 16, 48, 127, 255, 511, 511, 1023, 4095] [] z (by kernel_rfl) (by kernel_rfl) Tryz.mixed (by kernel_rfl) ?_
 refine wsr (Pt b715 0) 0 z z z (by kernel_rfl) (fun w hst => z) (wsr (Pt b715 0) 1 z z z (by kernel_rfl) (fun w hst => z) (wsr (Pt b715 8) 2 z z z (by kernel_rfl) (fun w hst => x_field z underlying111 z sizeOf109 z) (wsr (v728) 3 z z z (by kernel_rfl) (fun w hst => x_load z isAgg109 (hst.bc0 z)) (wsr (Pt b692 21) 4 z z z (by kernel_rfl) (fun w hst => x_field z underlying49 z sizeOf39 z) (wsr (Pt b692 21) 5 z z z (by kernel_rfl) (fun w hst => x_field z underlying39 z sizeOf26 z) (wsr (.int .u64 a2.Rule.ID) 6 z z z (by kernel_rfl) (fun w hst => x_load z isAgg26 (hst.bc10 z)) ?_))))))
 refine ws_e1 7 (by kernel_rfl) ?_
 refine nxe [8, 9, 10, 11, 12] (by kernel_rfl) z z ?_
 clear hst
 intro w hst
 obtain ⟨y798, hq799, hm⟩ := bind_some hm
 refine we_call z (x_callv call132 (caps := []) z (vs := [v728, U6 a2.Rule.ID, .func (.func 133) #[] #[]]) z) ?_
 refine Calls.mono (show Calls prog 132 #[v728, U6 a2.Rule.ID, .func (.func 133) #[] #[]] _ (fun e w' => ∃ (z795 : Int) (z796 : Bool), (z795, z796) = y798 ∧ e = .returned (.tuple #[I6 z795, .bool z796]) ∧ St w0 w' I [cells b715 [I6 o0.wide, U6 o0.epoch, v716, v718, v720, v722, v724, v726, v728], objO at_mvcc_Store v716 o0.store, objO at_locks_Table v718 o0.locks, objO at_session_Table v720 o0.last, objO at_policy_Book v722 o0.book, ownS ty_api_Decision v724 o0.open_, ownS ty_api_Item v726 o0.out, ownS ty_lane_used v728 o0.used, cells b692 [U1 a2.Kind, U6 a2.ID.Session, U6 a2.ID.Seq, U6 a2.Epoch, U6 a2.Index, I6 a2.E, U6 a2.Hold.ID.Session, U6 a2.Hold.ID.Seq, U6 a2.Hold.Epoch, r2_0, r2_1, r2_2, r2_3, r2_4, I6 a2.R.E, U6 a2.R.Epoch, U6 a2.R.Index, r2_5, r2_6, U6 a2.Shards, r2_7, U6 a2.Rule.ID, I6 a2.Rule.From, I6 a2.Rule.To, F6 a2.Rule.Lo, F6 a2.Rule.Hi, U6 a2.Rule.Authority, I6 a2.Rule.Quota, .bool a2.On], cells b699 [Zb, Zu, Zu, Zi, Zu, Zu, Zs, Zs], cells b708 [I6 a2.R.E, U6 a2.Epoch, U6 a1, Zs, Zs]] R) from ?_) ?_
 {
 clear hm; have hm := hq799
 refine calls_start (args := [v728, U6 a2.Rule.ID, .func (.func 133) #[] #[]]) func132 z ntmps132 (Nat.le_of_ble_eq_true z) ?_
 refine wp_seq (wrl (wv (.int .i64 (0:Int)) z z z (wv (.bool false) z z z (wl_nil (tn (wp_seq (wrl (wv (v728) z z z (wv (.int .i64 ((o0.used).length : Int)) z z (x_len z underlying109 hst.sv7) (wv (.int .i64 ((o0.used).length : Int)) z z z (wl_nil (tn (wp_seq (wrl (wv (.int .i64 ((o0.used).length : Int)) z z z (wv (.int .i64 (0:Int)) z z z (wv (.int .i64 ((o0.used).length : Int)) z z z (wl_nil (tn ?_)))))))))))))))))))
 obtain ⟨y781, hm, hx782⟩ := bind_some hm
 refine wp_cut (fun a w => ∃ (z778 : Int) (σ779 : Nat → Value), (lane_State_give_j0 o0 a2) z778 = some y798 ∧ a = Fr 49 (upd (upd (upd (upd (upd σ779 0 (v728)) 1 (.int .u64 a2.Rule.ID)) 2 (.func (.func 133) #[] #[])) 8 (.int .i64 ((o0.used).length : Int))) 9 (.int .i64 z778)) ∧ St w0 w I [ownS ty_lane_used v728 o0.used, cells b715 [I6 o0.wide, U6 o0.epoch, v716, v718, v720, v722, v724, v726, v728], objO at_mvcc_Store v716 o0.store, objO at_locks_Table v718 o0.locks, objO at_session_Table v720 o0.last, objO at_policy_Book v722 o0.book, ownS ty_api_Decision v724 o0.open_, ownS ty_api_Item v726 o0.out, cells b692 [U1 a2.Kind, U6 a2.ID.Session, U6 a2.ID.Seq, U6 a2.Epoch, U6 a2.Index, I6 a2.E, U6 a2.Hold.ID.Session, U6 a2.Hold.ID.Seq, U6 a2.Hold.Epoch, r2_0, r2_1, r2_2, r2_3, r2_4, I6 a2.R.E, U6 a2.R.Epoch, U6 a2.R.Index, r2_5, r2_6, U6 a2.Shards, r2_7, U6 a2.Rule.ID, I6 a2.Rule.From, I6 a2.Rule.To, F6 a2.Rule.Lo, F6 a2.Rule.Hi, U6 a2.Rule.Authority, I6 a2.Rule.Quota, .bool a2.On], cells b699 [Zb, Zu, Zu, Zi, Zu, Zu, Zs, Zs], cells b708 [I6 a2.R.E, U6 a2.Epoch, U6 a1, Zs, Zs]] R) ?_ ?_
 {
 refine wp_block ?_
 obtain ⟨n759, hm⟩ := loopO_some hm
 refine wp_loop_n (fun n a w => ∃ (z756 : Int) (z757 : Int) (σ758 : Nat → Value), loopN (lane_State_give_l1 o0 a2) n (z756, z757) = some y781 ∧ a = Fr 49 (upd (upd (upd (upd (upd (upd σ758 0 (v728)) 1 (.int .u64 a2.Rule.ID)) 2 (.func (.func 133) #[] #[])) 8 (.int .i64 ((o0.used).length : Int))) 9 (.int .i64 z757)) 10 (.int .i64 z756)) ∧ St w0 w I [cells b715 [I6 o0.wide, U6 o0.epoch, v716, v718, v720, v722, v724, v726, v728], objO at_mvcc_Store v716 o0.store, objO at_locks_Table v718 o0.locks, objO at_session_Table v720 o0.last, objO at_policy_Book v722 o0.book, ownS ty_api_Decision v724 o0.open_, ownS ty_api_Item v726 o0.out, ownS ty_lane_used v728 o0.used, cells b708 [I6 a2.R.E, U6 a2.Epoch, U6 a1, Zs, Zs], cells b699 [Zb, Zu, Zu, Zi, Zu, Zu, Zs, Zs], cells b692 [U1 a2.Kind, U6 a2.ID.Session, U6 a2.ID.Seq, U6 a2.Epoch, U6 a2.Index, I6 a2.E, U6 a2.Hold.ID.Session, U6 a2.Hold.ID.Seq, U6 a2.Hold.Epoch, r2_0, r2_1, r2_2, r2_3, r2_4, I6 a2.R.E, U6 a2.R.Epoch, U6 a2.R.Index, r2_5, r2_6, U6 a2.Shards, r2_7, U6 a2.Rule.ID, I6 a2.Rule.From, I6 a2.Rule.To, F6 a2.Rule.Lo, F6 a2.Rule.Hi, U6 a2.Rule.Authority, I6 a2.Rule.Quota, .bool a2.On]] R) n759 ⟨((o0.used).length : Int), (0:Int), _, hm, (fu 0 v728 z (fu 1 (.int .u64 a2.Rule.ID) z (fu 2 (.func (.func 133) #[] #[]) z (fu 8 (.int .i64 ((o0.used).length : Int)) z (fu 9 (.int .i64 (0:Int)) z (fu 10 (.int .i64 ((o0.used).length : Int)) z z)))))), hst⟩ ?_
 rintro n765 _ w760 ⟨z756, z757, σ758, hm, rfl, hst⟩
 obtain ⟨n762, y763, rfl, hm, hx764⟩ := loopN_some hm
 dsimp only [lane_State_give_l1] at hm
 refine wp_seq (wp_seq (wrl (wv (.int .i64 z757) z z z (wv (.int .i64 z756) z z z (wv (.bool (decide (z757 < z756))) z z z (wl_nil (tn ?_)))))))
 refine bsplit (decide (z757 < z756)) (fun hc766 => ?_) (fun hc766 => ?_)
 {
 replace hm := bif_t hc766 hm
 refine wp_ift (cvb hc766) ?_
 refine wp_skip (tn (wp_block (wp_seq (wrl ?_))))
 refine wv (.int .i64 z757) z z z (wv (.int .i64 z756) z z z (wv (.int .i64 (i64.wrap (z757 + z756))) z z z (wv (.int .u64 (u64.wrap (i64.wrap (z757 + z756)))) z z (by kernel_rfl) (wv (.int .u64 (iShr .u64 (u64.wrap (i64.wrap (z757 + z756))) (1:Int))) z z (x_shr (by decide) z z) (wv (.int .i64 (i64.wrap (iShr .u64 (u64.wrap (i64.wrap (z757 + z756))) (1:Int)))) z z (by kernel_rfl) (wv (.int .i64 (i64.wrap (iShr .u64 (u64.wrap (i64.wrap (z757 + z756))) (1:Int)))) z z z (wl_nil (tn (wp_seq (wrl (wv (.func (.func 133) #[] #[]) z z z (wv (v728) z z z (wv (.int .i64 (i64.wrap (iShr .u64 (u64.wrap (i64.wrap (z757 + z756))) (1:Int)))) z z z ?_)))))))))))))
 obtain ⟨x767, hx768, hm⟩ := bind_some hm
 obtain ⟨h769, h770, hi771⟩ := geto_some hx768
 refine wv (.pointer (some (eAddr v728 ((i64.wrap (iShr .u64 (u64.wrap (i64.wrap (z757 + z756))) (1:Int))).toNat * 3 + 0)))) z z (x_index z z underlying109 sizeOf189 hst.sv7 h769 h770) (wv (.agg #[U6 x767.rule, U6 x767.epoch, I6 x767.n]) z z (x_loadN (cs := [U6 x767.rule, U6 x767.epoch, I6 x767.n]) z isAgg189 sizeOf189 (hst.olN7 hi771 0 (by rintro _ rfl; rfl))) (wv (.int .u64 a2.Rule.ID) z z z ?_))
 obtain ⟨t772, ht773, hm⟩ := bind_some hm
 refine wl_call z z (x_callv call133 (caps := []) z (vs := [.agg #[U6 x767.rule, U6 x767.epoch, I6 x767.n], U6 a2.Rule.ID]) z) ?_
 refine (lane_State_give_1_ref hst.to0 ht773).mono ?_
 rintro _ w774 ⟨rfl, hst⟩
 refine ⟨_, z, ?_⟩
 replace hst := hst.of0
 refine wv (.bool (decide (t772 < (0:Int)))) z z z (wl_nil (tn ?_))
 refine bsplit (decide (t772 < (0:Int))) (fun hc777 => ?_) (fun hc777 => ?_)
 {
 replace hm := bif_t hc777 hm
 refine wp_ift (cvb hc777) ?_
 refine wrl (wv (.int .i64 (i64.wrap (iShr .u64 (u64.wrap (i64.wrap (z757 + z756))) (1:Int)))) z z z (wv (.int .i64 (i64.wrap ((i64.wrap (iShr .u64 (u64.wrap (i64.wrap (z757 + z756))) (1:Int))) + (1:Int)))) z z z (wv (.int .i64 (i64.wrap ((i64.wrap (iShr .u64 (u64.wrap (i64.wrap (z757 + z756))) (1:Int))) + (1:Int)))) z z z (wl_nil (blk_n (tn ?_))))))
 replace hst := hst.pull10.pull10.pull10.pull10.pull10.pull10.pull10.pull10.pull10.pull10.pull10.keep11
 obtain rfl := some_inj hm
 exact ⟨_, Nat.lt_succ_self _, z756, (i64.wrap ((i64.wrap (iShr .u64 (u64.wrap (i64.wrap (z757 + z756))) (1:Int))) + (1:Int))), _, hx764, (fu 0 v728 z (fu 1 (.int .u64 a2.Rule.ID) z (fu 2 (.func (.func 133) #[] #[]) z (fu 8 (.int .i64 ((o0.used).length : Int)) z (fu 9 (.int .i64 (i64.wrap ((i64.wrap (iShr .u64 (u64.wrap (i64.wrap (z757 + z756))) (1:Int))) + (1:Int)))) z (fu 10 (.int .i64 z756) z z)))))), hst⟩
}
 {
 replace hm := bif_f hc777 hm
 refine wp_iff (cvb hc777) ?_
 refine wrl (wv (.int .i64 (i64.wrap (iShr .u64 (u64.wrap (i64.wrap (z757 + z756))) (1:Int)))) z z z (wv (.int .i64 (i64.wrap (iShr .u64 (u64.wrap (i64.wrap (z757 + z756))) (1:Int)))) z z z (wl_nil (blk_n (tn ?_)))))
 replace hst := hst.pull10.pull10.pull10.pull10.pull10.pull10.pull10.pull10.pull10.pull10.pull10.keep11
 obtain rfl := some_inj hm
 exact ⟨_, Nat.lt_succ_self _, (i64.wrap (iShr .u64 (u64.wrap (i64.wrap (z757 + z756))) (1:Int))), z757, _, hx764, (fu 0 v728 z (fu 1 (.int .u64 a2.Rule.ID) z (fu 2 (.func (.func 133) #[] #[]) z (fu 8 (.int .i64 ((o0.used).length : Int)) z (fu 9 (.int .i64 z757) z (fu 10 (.int .i64 (i64.wrap (iShr .u64 (u64.wrap (i64.wrap (z757 + z756))) (1:Int)))) z z)))))), hst⟩
}
}
 {
 replace hm := bif_f hc766 hm
 refine wp_iff (cvb hc766) ?_
 refine wp_exit (then_x (then_x ?_))
 replace hm := inr_up hm hx764
 refine blk_x (tn ?_)
 replace hst := hst.pull8.pull9.pull10.pull9.pull9.pull9.pull9.pull9.pull9.pull9.pull10.keep11
 obtain rfl := some_inj hm
 exact ⟨z757, _, hx782, (fu 0 v728 z (fu 1 (.int .u64 a2.Rule.ID) z (fu 2 (.func (.func 133) #[] #[]) z (fu 8 (.int .i64 ((o0.used).length : Int)) z (fu 9 (.int .i64 z757) z z))))), hst⟩
}
}
 {
 clear hst
 rintro _ w783 ⟨z778, σ779, hm, rfl, hst⟩
 dsimp only [lane_State_give_j0] at hm
 refine wp_seq (wrl (wv (.int .i64 z778) z z z (wv (.int .i64 z778) z z z (wv (.int .i64 ((o0.used).length : Int)) z z z (wv (.bool (decide (z778 < ((o0.used).length : Int)))) z z z (wv (.bool (decide (z778 < ((o0.used).length : Int)))) z z z ?_))))))
 refine bsplit (decide (z778 < ((o0.used).length : Int))) (fun hc784 => ?_) (fun hc784 => ?_)
 {
 replace hm := bif_t hc784 hm
 refine wv (.func (.func 133) #[] #[]) ((wanted_eq z z z (cvb hc784)).trans z) z z (wv (v728) ((wanted_eq z z z (cvb hc784)).trans z) z z (wv (.int .i64 z778) ((wanted_eq z z z (cvb hc784)).trans z) z z ?_))
 obtain ⟨x785, hx786, hm⟩ := bind_some hm
 obtain ⟨h787, h788, hi789⟩ := geto_some hx786
 refine wv (.pointer (some (eAddr v728 (z778.toNat * 3 + 0)))) ((wanted_eq z z z (cvb hc784)).trans z) z (x_index z z underlying109 sizeOf189 hst.sv0 h787 h788) (wv (.agg #[U6 x785.rule, U6 x785.epoch, I6 x785.n]) ((wanted_eq z z z (cvb hc784)).trans z) z (x_loadN (cs := [U6 x785.rule, U6 x785.epoch, I6 x785.n]) z isAgg189 sizeOf189 (hst.olN0 hi789 0 (by rintro _ rfl; rfl))) (wv (.int .u64 a2.Rule.ID) ((wanted_eq z z z (cvb hc784)).trans z) z z ?_))
 obtain ⟨t790, ht791, hm⟩ := bind_some hm
 refine wl_call ((wanted_eq z z z (cvb hc784)).trans z) z (x_callv call133 (caps := []) z (vs := [.agg #[U6 x785.rule, U6 x785.epoch, I6 x785.n], U6 a2.Rule.ID]) z) ?_
 refine (lane_State_give_1_ref hst.to0 ht791).mono ?_
 rintro _ w792 ⟨rfl, hst⟩
 refine ⟨_, z, ?_⟩
 replace hst := hst.of0
 refine wv (.bool (t790 == (0:Int))) ((wanted_eq z z z (cvb hc784)).trans z) z z (wv (.bool (t790 == (0:Int))) z z (x_pick_t hc784 z z) (wv (.int .i64 z778) z z z (wv (.bool (t790 == (0:Int))) z z z (wl_nil (tn (wp_ret ?_))))))
 refine post_ret (vs := [I6 z778, .bool (t790 == (0:Int))]) results132 (rvs_cons (rv_tmp z) (rvs_cons (rv_tmp z) rvs_nil)) ?_
 replace hst := hst.pull10.pull10.pull10.pull3.pull10.pull10.pull10.pull10.pull10.pull10.pull10.keep11
 obtain rfl := some_inj hm
 exact ⟨z778, (t790 == (0:Int)), z, z, hst⟩
}
 {
 replace hm := bif_f hc784 hm
 refine wo hc784 z z z z z z (wo hc784 z z z z z z (wo hc784 z z z z z z (wo hc784 z z z z z z (wo hc784 z z z z z z (wo hc784 z z z z z z (wo hc784 z z z z z z (wo hc784 z z z z z z (wv (.bool false) z z (x_pick_f hc784 z z) (wv (.int .i64 z778) z z z (wv (.bool false) z z z (wl_nil (tn (wp_ret ?_)))))))))))))
 refine post_ret (vs := [I6 z778, .bool false]) results132 (rvs_cons (rv_tmp z) (rvs_cons (rv_tmp z) rvs_nil)) ?_
 replace hst := hst.pull10.pull10.pull10.pull3.pull10.pull10.pull10.pull10.pull10.pull10.pull10.keep11
 obtain rfl := some_inj hm
 exact ⟨z778, false, z, z, hst⟩
}
}
}
 clear hst
 rintro _ w800 ⟨z795, z796, rfl, rfl, hst⟩
 refine ⟨_, z, ?_⟩
 try dsimp only at hm
 refine ws_next (pend' := []) hst (by kernel_rfl) pk_nil ?_
 refine wsr (.tuple #[I6 z795, .bool z796]) 8 z z z (by kernel_rfl) (fun w hst => z) (wsr (.int .i64 z795) 9 z z z (by kernel_rfl) (fun w hst => z) (wsr (.bool z796) 10 z z z (by kernel_rfl) (fun w hst => z) (wsr (.int .i64 z795) 11 z z z (by kernel_rfl) (fun w hst => z) (wsr (.bool z796) 12 z z z (by kernel_rfl) (fun w hst => z) ?_))))
 refine ws_nil ?_
 intro w hst
 refine tn (wp_seq (wrl (wv (.int .i64 (0:Int)) z z z (wl_nil (tn ?_)))))
 obtain ⟨y811, hm, hx812⟩ := bind_some hm
 refine wp_cut (fun a w => ∃ (z808 : Int) (σ809 : Nat → Value), (lane_State_give_j2 a2 o0 a1 z796 z795) z808 = some r ∧ a = Fr 170 (upd (upd (upd (upd (upd (upd (upd σ809 0 (Pt b715 0)) 5 (Pt b692 0)) 6 (Pt b699 0)) 7 (Pt b708 0)) 8 (.int .i64 z795)) 9 (.bool z796)) 10 (.int .i64 z808)) ∧ St w0 w I [at_lane_State (Pt b715 0) o0, cells b692 [U1 a2.Kind, U6 a2.ID.Session, U6 a2.ID.Seq, U6 a2.Epoch, U6 a2.Index, I6 a2.E, U6 a2.Hold.ID.Session, U6 a2.Hold.ID.Seq, U6 a2.Hold.Epoch, r2_0, r2_1, r2_2, r2_3, r2_4, I6 a2.R.E, U6 a2.R.Epoch, U6 a2.R.Index, r2_5, r2_6, U6 a2.Shards, r2_7, U6 a2.Rule.ID, I6 a2.Rule.From, I6 a2.Rule.To, F6 a2.Rule.Lo, F6 a2.Rule.Hi, U6 a2.Rule.Authority, I6 a2.Rule.Quota, .bool a2.On], cells b699 [Zb, Zu, Zu, Zi, Zu, Zu, Zs, Zs], cells b708 [I6 a2.R.E, U6 a2.Epoch, U6 a1, Zs, Zs]] R) ?_ ?_
 {
 refine wp_seq ?_
 refine wq_regionS hst Tryz.mixed (by kernel_rfl) ?_
 refine wq_run (v := .bool z796) z z (fun w hst => z) ?_
 refine wq_run (v := .bool z796) z z (fun w hst => z) ?_
 refine bsplit z796 (fun hc801 => ?_) (fun hc801 => ?_)
 {
 replace hm := bif_t hc801 hm
 refine wq_run (v := Pt b715 0) ((wanted_eq z z z (cvb hc801)).trans z) z (fun w hst => z) ?_
 refine wq_run (v := Pt b715 0) ((wanted_eq z z z (cvb hc801)).trans z) z (fun w hst => z) ?_
 refine wq_run (v := Pt b715 8) ((wanted_eq z z z (cvb hc801)).trans z) z (fun w hst => x_field z underlying111 z sizeOf109 z) ?_
 refine wq_run (v := v728) ((wanted_eq z z z (cvb hc801)).trans z) z (fun w hst => x_load z isAgg109 (hst.bc0 z)) ?_
 refine wq_run (v := .int .i64 z795) ((wanted_eq z z z (cvb hc801)).trans z) z (fun w hst => z) ?_
 obtain ⟨x802, hx803, hm⟩ := bind_some hm
 obtain ⟨h804, h805, hi806⟩ := geto_some hx803
 refine wq_run (v := .pointer (some (eAddr v728 (z795.toNat * 3 + 0)))) ((wanted_eq z z z (cvb hc801)).trans z) z (fun w hst => x_index z z underlying109 sizeOf189 hst.sv7 h804 h805) ?_
 refine wq_run (v := .pointer (some (eAddr v728 (z795.toNat * 3 + 1)))) ((wanted_eq z z z (cvb hc801)).trans z) z (fun w hst => x_field_e z underlying189 z sizeOf26 z) ?_
 refine wq_run (v := .int .u64 x802.epoch) ((wanted_eq z z z (cvb hc801)).trans z) z (fun w hst => x_load z isAgg26 (hst.ol7 hi806 (by rintro _ rfl; rfl))) ?_
 refine wq_run (v := Pt b692 3) ((wanted_eq z z z (cvb hc801)).trans z) z (fun w hst => x_field z underlying49 z sizeOf26 z) ?_
 refine wq_run (v := .int .u64 a2.Epoch) ((wanted_eq z z z (cvb hc801)).trans z) z (fun w hst => x_load z isAgg26 (hst.bc8 z)) ?_
 refine wq_run (v := .bool (x802.epoch == a2.Epoch)) ((wanted_eq z z z (cvb hc801)).trans z) z (fun w hst => z) ?_
 refine wq_run (v := .bool (x802.epoch == a2.Epoch)) z z (fun w hst => x_pick_t hc801 z z) ?_
 refine wq_nil ?_
 intro w hst
 refine tn ?_
 refine bsplit (x802.epoch == a2.Epoch) (fun hc807 => ?_) (fun hc807 => ?_)
 {
 replace hm := bif_t hc807 hm
 refine wp_ift (cvb hc807) ?_
 refine wrl (wv (Pt b715 0) z z z (wv (Pt b715 0) z z z (wv (Pt b715 8) z z (x_field z underlying111 z sizeOf109 z) (wv (v728) z z (x_load z isAgg109 (hst.bc0 z)) (wv (.int .i64 z795) z z z (wv (.pointer (some (eAddr v728 (z795.toNat * 3 + 0)))) z z (x_index z z underlying109 sizeOf189 hst.sv7 h804 h805) (wv (.pointer (some (eAddr v728 (z795.toNat * 3 + 2)))) z z (x_field_e z underlying189 z sizeOf3 z) (wv (.int .i64 x802.n) z z (x_load z isAgg3 (hst.ol7 hi806 (by rintro _ rfl; rfl))) (wv (.int .i64 x802.n) z z z (wl_nil (tn ?_)))))))))))
 replace hst := hst.pull7.pull7.pull7.pull7.pull7.pull7.pull7.pull7
 replace hst := at_lane_State_close (pv := Pt b715 0) (x := o0) hst z
 replace hst := hst.pull3.pull3.pull3.pull3.keep4
 obtain rfl := some_inj hm
 exact ⟨x802.n, _, hx812, (fu 0 (Pt b715 0) z (fu 5 (Pt b692 0) z (fu 6 (Pt b699 0) z (fu 7 (Pt b708 0) z (fu 8 (.int .i64 z795) z (fu 9 (.bool z796) z (fu 10 (.int .i64 x802.n) z z))))))), hst⟩
}
 {
 replace hm := bif_f hc807 hm
 refine wp_iff (cvb hc807) ?_
 refine wp_skip (tn ?_)
 replace hst := hst.pull7.pull7.pull7.pull7.pull7.pull7.pull7.pull7
 replace hst := at_lane_State_close (pv := Pt b715 0) (x := o0) hst z
 replace hst := hst.pull3.pull3.pull3.pull3.keep4
 obtain rfl := some_inj hm
 exact ⟨(0:Int), _, hx812, (fu 0 (Pt b715 0) z (fu 5 (Pt b692 0) z (fu 6 (Pt b699 0) z (fu 7 (Pt b708 0) z (fu 8 (.int .i64 z795) z (fu 9 (.bool z796) z (fu 10 (.int .i64 (0:Int)) z z))))))), hst⟩
}
}
 {
 replace hm := bif_f hc801 hm
 refine wq_off ((wanted_eq z z z (cvb hc801)).trans z) z ?_
 refine wq_off ((wanted_eq z z z (cvb hc801)).trans z) z ?_
 refine wq_off ((wanted_eq z z z (cvb hc801)).trans z) z ?_
 refine wq_off ((wanted_eq z z z (cvb hc801)).trans z) z ?_
 refine wq_off ((wanted_eq z z z (cvb hc801)).trans z) z ?_
 refine wq_off ((wanted_eq z z z (cvb hc801)).trans z) z ?_
 refine wq_off ((wanted_eq z z z (cvb hc801)).trans z) z ?_
 refine wq_off ((wanted_eq z z z (cvb hc801)).trans z) z ?_
 refine wq_off ((wanted_eq z z z (cvb hc801)).trans z) z ?_
 refine wq_off ((wanted_eq z z z (cvb hc801)).trans z) z ?_
 refine wq_off ((wanted_eq z z z (cvb hc801)).trans z) z ?_
 refine wq_run (v := .bool false) z z (fun w hst => x_pick_f hc801 z z) ?_
 refine wq_nil ?_
 intro w hst
 refine tn ?_
 refine wp_iff z ?_
 refine wp_skip (tn ?_)
 replace hst := hst.pull7.pull7.pull7.pull7.pull7.pull7.pull7.pull7
 replace hst := at_lane_State_close (pv := Pt b715 0) (x := o0) hst z
 replace hst := hst.pull3.pull3.pull3.pull3.keep4
 obtain rfl := some_inj hm
 exact ⟨(0:Int), _, hx812, (fu 0 (Pt b715 0) z (fu 5 (Pt b692 0) z (fu 6 (Pt b699 0) z (fu 7 (Pt b708 0) z (fu 8 (.int .i64 z795) z (fu 9 (.bool z796) z (fu 10 (.int .i64 (0:Int)) z z))))))), hst⟩
}
}
 {
 clear hst
 rintro _ w813 ⟨z808, σ809, hm, rfl, hst⟩
 dsimp only [lane_State_give_j2] at hm
 obtain ⟨y843, hm, hx844⟩ := bind_some hm
 refine wp_cut (fun a w => ∃ (z840 : Int) (σ841 : Nat → Value), (lane_State_give_j3 o0 a2 a1 z796 z795 z808) z840 = some r ∧ a = Fr 170 (upd (upd (upd (upd (upd (upd (upd σ841 0 (Pt b715 0)) 5 (Pt b692 0)) 6 (Pt b699 0)) 7 (Pt b708 0)) 8 (.int .i64 z795)) 9 (.bool z796)) 10 (.int .i64 z808)) ∧ St w0 w I [at_lane_State (Pt b715 0) o0, cells b692 [U1 a2.Kind, U6 a2.ID.Session, U6 a2.ID.Seq, U6 a2.Epoch, U6 a2.Index, I6 a2.E, U6 a2.Hold.ID.Session, U6 a2.Hold.ID.Seq, U6 a2.Hold.Epoch, r2_0, r2_1, r2_2, r2_3, r2_4, I6 a2.R.E, U6 a2.R.Epoch, U6 a2.R.Index, r2_5, r2_6, U6 a2.Shards, r2_7, U6 a2.Rule.ID, I6 a2.Rule.From, I6 a2.Rule.To, F6 a2.Rule.Lo, F6 a2.Rule.Hi, U6 a2.Rule.Authority, I6 a2.Rule.Quota, .bool a2.On], cells b699 [Zb, Zu, Zu, Zi, Zu, Zu, Zs, Zs], cells b708 [I6 z840, U6 a2.Epoch, U6 a1, Zs, Zs]] R) ?_ ?_
 {
 refine wp_block (wp_seq (wrl (wv (Pt b708 0) z z (x_field z underlying33 z sizeOf29 z) (wv (.int .i64 a2.R.E) z z (x_load z isAgg29 (hst.bc3 z)) (wv (.bool (a2.R.E != (0:Int))) z z z (wv (.bool (a2.R.E != (0:Int))) z z z (wl_nil (tn ?_))))))))
 refine bsplit (a2.R.E != (0:Int)) (fun hc814 => ?_) (fun hc814 => ?_)
 {
 replace hm := bif_t hc814 hm
 refine wp_ift (cvb hc814) ?_
 refine wp_skip (blk_n (tn ?_))
 replace hst := hst.pull3.pull3.pull3.pull3.keep4
 obtain rfl := some_inj hm
 exact ⟨a2.R.E, _, hx844, (fu 0 (Pt b715 0) z (fu 5 (Pt b692 0) z (fu 6 (Pt b699 0) z (fu 7 (Pt b708 0) z (fu 8 (.int .i64 z795) z (fu 9 (.bool z796) z (fu 10 (.int .i64 z808) z z))))))), hst⟩
}
 {
 replace hm := bif_f hc814 hm
 refine wp_iff (cvb hc814) ?_
 refine wp_seq ?_
 obtain ⟨b815, v816, v818, v820, v822, v824, v826, v828, e830, hst'⟩ := at_lane_State_open hst
 clear hst
 have e830 := ptr_inj e830
 subst e830
 have hst := hst'
 clear hst'
 refine wq_regionS hst Tryz.mixed (by kernel_rfl) ?_
 refine wq_run (v := Pt b692 3) z z (fun w hst => x_field z underlying49 z sizeOf26 z) ?_
 refine wq_run (v := .int .u64 a2.Epoch) z z (fun w hst => x_load z isAgg26 (hst.bc8 z)) ?_
 refine wq_run (v := Pt b715 0) z z (fun w hst => z) ?_
 refine wq_run (v := Pt b715 0) z z (fun w hst => z) ?_
 refine wq_run (v := Pt b715 1) z z (fun w hst => x_field z underlying111 z sizeOf26 z) ?_
 refine wq_run (v := .int .u64 o0.epoch) z z (fun w hst => x_load z isAgg26 (hst.bc0 z)) ?_
 refine wq_run (v := .bool (a2.Epoch != o0.epoch)) z z (fun w hst => z) ?_
 refine wq_run (v := .bool (a2.Epoch != o0.epoch)) z z (fun w hst => z) ?_
 refine wq_nil ?_
 intro w hst
 refine tn ?_
 refine bsplit (a2.Epoch != o0.epoch) (fun hc831 => ?_) (fun hc831 => ?_)
 {
 replace hm := bif_t hc831 hm
 refine wp_ift (cvb hc831) ?_
 refine wrl (wv (Pt b708 0) z z (x_field z underlying33 z sizeOf29 z) ?_)
 replace hst := hst.pull10
 obtain ⟨w832, hr833, hst⟩ := hst.by_ [I6 (9:Int), U6 a2.Epoch, U6 a1, Zs, Zs] 0 (.int .i64 (9:Int)) sizeOf29 z (oC z oN) (by kernel_rfl)
 refine wl_unit z z (x_unit hr833) ?_
 refine wl_nil (blk_n (tn ?_))
 replace hst := hst.pull8.pull8.pull8.pull8.pull8.pull8.pull8.pull8
 replace hst := at_lane_State_close (pv := Pt b715 0) (x := o0) hst z
 replace hst := hst.pull1.pull3.pull3.pull3.keep4
 obtain rfl := some_inj hm
 exact ⟨(9:Int), _, hx844, (fu 0 (Pt b715 0) z (fu 5 (Pt b692 0) z (fu 6 (Pt b699 0) z (fu 7 (Pt b708 0) z (fu 8 (.int .i64 z795) z (fu 9 (.bool z796) z (fu 10 (.int .i64 z808) z z))))))), hst⟩
}
 {
 replace hm := bif_f hc831 hm
 refine wp_iff (cvb hc831) ?_
 refine wp_seq (wrl (wv (Pt b692 13) z z (x_field z underlying49 z sizeOf42 z) (wv (r2_4) z z (x_load z isAgg42 (hst.bc8 z)) (wv (.int .i64 ((a2.Writes).length : Int)) z z (x_len z underlying42 (rd_sliceV f2_4)) (wv (.bool (((a2.Writes).length : Int) != (1:Int))) z z z (wv (.bool (((a2.Writes).length : Int) != (1:Int))) z z z (wl_nil (tn ?_))))))))
 refine bsplit (((a2.Writes).length : Int) != (1:Int)) (fun hc834 => ?_) (fun hc834 => ?_)
 {
 replace hm := bif_t hc834 hm
 refine wp_ift (cvb hc834) ?_
 refine wrl (wv (Pt b708 0) z z (x_field z underlying33 z sizeOf29 z) ?_)
 replace hst := hst.pull10
 obtain ⟨w835, hr836, hst⟩ := hst.by_ [I6 (1:Int), U6 a2.Epoch, U6 a1, Zs, Zs] 0 (.int .i64 (1:Int)) sizeOf29 z (oC z oN) (by kernel_rfl)
 refine wl_unit z z (x_unit hr836) ?_
 refine wl_nil (blk_n (tn ?_))
 replace hst := hst.pull8.pull8.pull8.pull8.pull8.pull8.pull8.pull8
 replace hst := at_lane_State_close (pv := Pt b715 0) (x := o0) hst z
 replace hst := hst.pull1.pull3.pull3.pull3.keep4
 obtain rfl := some_inj hm
 exact ⟨(1:Int), _, hx844, (fu 0 (Pt b715 0) z (fu 5 (Pt b692 0) z (fu 6 (Pt b699 0) z (fu 7 (Pt b708 0) z (fu 8 (.int .i64 z795) z (fu 9 (.bool z796) z (fu 10 (.int .i64 z808) z z))))))), hst⟩
}
 {
 replace hm := bif_f hc834 hm
 refine wp_iff (cvb hc834) ?_
 refine wp_seq (wrl (wv (.int .i64 z808) z z z (wv (Pt b692 21) z z (x_field z underlying49 z sizeOf39 z) (wv (Pt b692 27) z z (x_field z underlying39 z sizeOf3 z) (wv (.int .i64 a2.Rule.Quota) z z (x_load z isAgg3 (hst.bc8 z)) (wv (.bool (decide (z808 ≥ a2.Rule.Quota))) z z z (wv (.bool (decide (z808 ≥ a2.Rule.Quota))) z z z (wl_nil (tn ?_)))))))))
 refine bsplit (decide (z808 ≥ a2.Rule.Quota)) (fun hc837 => ?_) (fun hc837 => ?_)
 {
 replace hm := bif_t hc837 hm
 refine wp_ift (cvb hc837) ?_
 refine wrl (wv (Pt b708 0) z z (x_field z underlying33 z sizeOf29 z) ?_)
 replace hst := hst.pull10
 obtain ⟨w838, hr839, hst⟩ := hst.by_ [I6 (13:Int), U6 a2.Epoch, U6 a1, Zs, Zs] 0 (.int .i64 (13:Int)) sizeOf29 z (oC z oN) (by kernel_rfl)
 refine wl_unit z z (x_unit hr839) ?_
 refine wl_nil (blk_n (tn ?_))
 replace hst := hst.pull8.pull8.pull8.pull8.pull8.pull8.pull8.pull8
 replace hst := at_lane_State_close (pv := Pt b715 0) (x := o0) hst z
 replace hst := hst.pull1.pull3.pull3.pull3.keep4
 obtain rfl := some_inj hm
 exact ⟨(13:Int), _, hx844, (fu 0 (Pt b715 0) z (fu 5 (Pt b692 0) z (fu 6 (Pt b699 0) z (fu 7 (Pt b708 0) z (fu 8 (.int .i64 z795) z (fu 9 (.bool z796) z (fu 10 (.int .i64 z808) z z))))))), hst⟩
}
 {
 replace hm := bif_f hc837 hm
 refine wp_iff (cvb hc837) ?_
 refine wp_skip (blk_n (tn ?_))
 replace hst := hst.pull7.pull7.pull7.pull7.pull7.pull7.pull7.pull7
 replace hst := at_lane_State_close (pv := Pt b715 0) (x := o0) hst z
 replace hst := hst.pull3.pull3.pull3.pull3.keep4
 obtain rfl := some_inj hm
 exact ⟨a2.R.E, _, hx844, (fu 0 (Pt b715 0) z (fu 5 (Pt b692 0) z (fu 6 (Pt b699 0) z (fu 7 (Pt b708 0) z (fu 8 (.int .i64 z795) z (fu 9 (.bool z796) z (fu 10 (.int .i64 z808) z z))))))), hst⟩
}
}
}
}
}
 {
 clear hst
 rintro _ w845 ⟨z840, σ841, hm, rfl, hst⟩
 dsimp only [lane_State_give_j3] at hm
 refine wp_seq (wp_seq ?_)
 obtain ⟨b846, v847, v849, v851, v853, v855, v857, v859, e861, hst'⟩ := at_lane_State_open hst
 clear hst
 have e861 := ptr_inj e861
 subst e861
 have hst := hst'
 clear hst'
 refine wp_region_St hst 13 [0, 1, 2, 3, 4, 5, 6, 7, 8, 9, 10, 11, 12] [0, 1, 3, 7, 0, 16, 48, 0, 128, 384, 0, 2047, 4095] [] z (by kernel_rfl) (by kernel_rfl) Tryz.mixed (by kernel_rfl) ?_
 refine wsr (Pt b715 0) 0 z z z (by kernel_rfl) (fun w hst => z) (wsr (Pt b715 0) 1 z z z (by kernel_rfl) (fun w hst => z) (wsr (Pt b715 4) 2 z z z (by kernel_rfl) (fun w hst => x_field z underlying111 z sizeOf105 z) (wsr (v851) 3 z z z (by kernel_rfl) (fun w hst => x_load z isAgg105 (hst.bc0 z)) (wsr (Pt b692 1) 4 z z z (by kernel_rfl) (fun w hst => x_field z underlying49 z sizeOf28 z) (wsr (Pt b692 1) 5 z z z (by kernel_rfl) (fun w hst => x_field z underlying28 z sizeOf26 z) (wsr (.int .u64 a2.ID.Session) 6 z z z (by kernel_rfl) (fun w hst => x_load z isAgg26 (hst.bc8 z)) (wsr (Pt b692 1) 7 z z z (by kernel_rfl) (fun w hst => x_field z underlying49 z sizeOf28 z) (wsr (Pt b692 2) 8 z z z (by kernel_rfl) (fun w hst => x_field z underlying28 z sizeOf26 z) (wsr (.int .u64 a2.ID.Seq) 9 z z z (by kernel_rfl) (fun w hst => x_load z isAgg26 (hst.bc8 z)) (wsr (.agg #[I6 z840, U6 a2.Epoch, U6 a1, Zs, Zs]) 10 z z z (by kernel_rfl) (fun w hst => x_loadN (cs := [I6 z840, U6 a2.Epoch, U6 a1, Zs, Zs]) z isAgg33 sizeOf33 (hst.bcs10 0 z)) ?_))))))))))
 refine ws_e1 11 (by kernel_rfl) ?_
 refine nxe [12] (by kernel_rfl) z z ?_
 clear hst
 intro w hst
 have f862 : Ro ty_api_Got I (.slice none 0 0) [] := ro_nil
 have f863 : Ro (tySl ty_api_Pair) I (.slice none 0 0) [] := ro_nil
 replace hst := hst.pull3
 obtain ⟨t864, ht865, hm⟩ := bind_some hm
 refine wec call124 [v851, U6 a2.ID.Session, U6 a2.ID.Seq, .agg #[I6 z840, U6 a2.Epoch, U6 a1, Zs, Zs]] z z ?_
 refine (session_Table_Put_ref (a3 := ({ E := z840, Epoch := a2.Epoch, Index := a1, Gots := [], Scans := [] } : api_Reply)) f862 f863 hst.to1 ht865).mono ?_
 rintro _ w866 ⟨rfl, hst⟩
 refine ⟨_, z, ?_⟩
 replace hst := hst.of1
 refine ws_next (pend' := []) hst (by kernel_rfl) pk_nil ?_
 refine wsr (.bool (t864.1 != (0:Int))) 12 z z z (by kernel_rfl) (fun w hst => z) ?_
 refine ws_nil ?_
 intro w hst
 refine tn ?_
 refine bsplit (t864.1 != (0:Int)) (fun hc869 => ?_) (fun hc869 => ?_)
 {
 replace hm := bif_t hc869 hm
 refine wp_ift (cvb hc869) ?_
 refine wp_seq (wrl (wv (Pt b715 0) z z z (wv (Pt b692 1) z z (x_field z underlying49 z sizeOf28 z) (wv (.agg #[U6 a2.ID.Session, U6 a2.ID.Seq]) z z (x_loadN (cs := [U6 a2.ID.Session, U6 a2.ID.Seq]) z isAgg28 sizeOf28 (hst.bcs8 1 z)) ?_))))
 replace hst := hst.pull7.pull7.pull7.pull7.pull4.pull7.pull7.pull7
 replace hst := at_lane_State_close (pv := Pt b715 0) (x := ({ wide := o0.wide, epoch := o0.epoch, store := o0.store, locks := o0.locks, last := t864.2, book := o0.book, open_ := o0.open_, out := o0.out, used := o0.used } : lane_State)) hst z
 replace hst := objO_some hst
 obtain ⟨t870, ht871, hm⟩ := bind_some hm
 refine wc call125 [Pt b715 0, .agg #[U6 a2.ID.Session, U6 a2.ID.Seq]] z z z ?_
 refine (lane_State_late_ref hst.to1 ht871).mono ?_
 rintro _ w872 ⟨v875, v877, rfl, hst⟩
 refine ⟨_, z, ?_⟩
 replace hst := hst.of3.pull2
 replace hst := objO_get hst
 replace hst := hst.pull4
 obtain ⟨w879, hr880, hst⟩ := hst.bx [U1 t870.Kind, U6 t870.ID.Session, U6 t870.ID.Seq, I6 t870.R.E, U6 t870.R.Epoch, U6 t870.R.Index, v875, v877] sizeOf35 z (oC z (oC z (oC z (oC z (oC z (oC z (oC (one_of_sliceV hst.sv2) (oC (one_of_sliceV hst.sv3) oN)))))))) (by kernel_rfl)
 refine wl_unit z z (x_unit hr880) ?_
 refine wl_nil (tn (wp_ret (then_r ?_)))
 replace hst := hst.pull2
 obtain ⟨I881, hI882, f883, hst⟩ := hst.own_fix
 replace f2_0 := f2_0.mono (rd_le hI882)
 replace f2_1 := f2_1.mono (rd_le hI882)
 replace f2_2 := f2_2.mono (rd_le hI882)
 replace f2_3 := f2_3.mono (rd_le hI882)
 replace f2_4 := f2_4.mono (rd_le hI882)
 replace f2_5 := f2_5.mono (rd_le hI882)
 replace f2_6 := f2_6.mono (rd_le hI882)
 replace f2_7 := f2_7.mono (rd_le hI882)
 replace f862 := f862.mono (ro_le hI882)
 replace f863 := f863.mono (ro_le hI882)
 replace hI0 := hI0.trans hI882
 replace hst := hst.pull2
 obtain ⟨I884, hI885, f886, hst⟩ := hst.own_fix
 replace f2_0 := f2_0.mono (rd_le hI885)
 replace f2_1 := f2_1.mono (rd_le hI885)
 replace f2_2 := f2_2.mono (rd_le hI885)
 replace f2_3 := f2_3.mono (rd_le hI885)
 replace f2_4 := f2_4.mono (rd_le hI885)
 replace f2_5 := f2_5.mono (rd_le hI885)
 replace f2_6 := f2_6.mono (rd_le hI885)
 replace f2_7 := f2_7.mono (rd_le hI885)
 replace f862 := f862.mono (ro_le hI885)
 replace f863 := f863.mono (ro_le hI885)
 replace f883 := f883.mono (ro_le hI885)
 replace hI0 := hI0.trans hI885
 replace hst := hst.pull1
 replace hst := objO_some hst
 obtain rfl := some_inj hm
 refine post_ret (vs := [.agg #[U1 t870.Kind, U6 t870.ID.Session, U6 t870.ID.Seq, I6 t870.R.E, U6 t870.R.Epoch, U6 t870.R.Index, v875, v877]]) results55 (rvs_cons (rv_cell (cs := [U1 t870.Kind, U6 t870.ID.Session, U6 t870.ID.Seq, I6 t870.R.E, U6 t870.R.Epoch, U6 t870.R.Index, v875, v877]) z isAgg35 sizeOf35 (hst.bcs1 0 z)) rvs_nil) ?_
 exact ⟨_, v875, v877, z, hI0, f883, f886, hst.keep1⟩
}
 {
 replace hm := bif_f hc869 hm
 refine wp_iff (cvb hc869) ?_
 refine wp_skip (tn ?_)
 obtain ⟨y1130, hm, hx1131⟩ := bind_some hm
 refine wp_cut (fun a w => ∃ (I1127 : HL) (z1126 : lane_State) (σ1128 : Nat → Value), (lane_State_give_j4 a2 z840 a1) z1126 = some r ∧ a = Fr 170 (upd (upd (upd σ1128 5 (Pt b692 0)) 6 (Pt b699 0)) 7 (Pt b708 0)) ∧ I.le I1127 ∧ St w0 w I1127 [cells b692 [U1 a2.Kind, U6 a2.ID.Session, U6 a2.ID.Seq, U6 a2.Epoch, U6 a2.Index, I6 a2.E, U6 a2.Hold.ID.Session, U6 a2.Hold.ID.Seq, U6 a2.Hold.Epoch, r2_0, r2_1, r2_2, r2_3, r2_4, I6 a2.R.E, U6 a2.R.Epoch, U6 a2.R.Index, r2_5, r2_6, U6 a2.Shards, r2_7, U6 a2.Rule.ID, I6 a2.Rule.From, I6 a2.Rule.To, F6 a2.Rule.Lo, F6 a2.Rule.Hi, U6 a2.Rule.Authority, I6 a2.Rule.Quota, .bool a2.On], cells b699 [Zb, Zu, Zu, Zi, Zu, Zu, Zs, Zs], cells b708 [I6 z840, U6 a2.Epoch, U6 a1, Zs, Zs], at_lane_State (Pt b715 0) z1126] R) ?_ ?_
 {
 have hL1132 := HL.le.refl I
 refine wp_seq (wrl (wv (Pt b708 0) z z (x_field z underlying33 z sizeOf29 z) (wv (.int .i64 z840) z z (x_load z isAgg29 (hst.bc10 z)) (wv (.bool (z840 == (0:Int))) z z z (wl_nil (tn ?_))))))
 refine bsplit (z840 == (0:Int)) (fun hc887 => ?_) (fun hc887 => ?_)
 {
 replace hm := bif_t hc887 hm
 refine wp_ift (cvb hc887) ?_
 obtain ⟨y906, hm, hx907⟩ := bind_some hm
 refine wp_cut (fun a w => ∃ (z903 : lane_State) (σ904 : Nat → Value), (lane_State_give_j5 z795 a2 z808) z903 = some y1130 ∧ a = Fr 170 (upd (upd (upd (upd (upd (upd σ904 0 (Pt b715 0)) 5 (Pt b692 0)) 6 (Pt b699 0)) 7 (Pt b708 0)) 8 (.int .i64 z795)) 10 (.int .i64 z808)) ∧ St w0 w I [at_lane_State (Pt b715 0) z903, cells b692 [U1 a2.Kind, U6 a2.ID.Session, U6 a2.ID.Seq, U6 a2.Epoch, U6 a2.Index, I6 a2.E, U6 a2.Hold.ID.Session, U6 a2.Hold.ID.Seq, U6 a2.Hold.Epoch, r2_0, r2_1, r2_2, r2_3, r2_4, I6 a2.R.E, U6 a2.R.Epoch, U6 a2.R.Index, r2_5, r2_6, U6 a2.Shards, r2_7, U6 a2.Rule.ID, I6 a2.Rule.From, I6 a2.Rule.To, F6 a2.Rule.Lo, F6 a2.Rule.Hi, U6 a2.Rule.Authority, I6 a2.Rule.Quota, .bool a2.On], cells b699 [Zb, Zu, Zu, Zi, Zu, Zu, Zs, Zs], cells b708 [I6 z840, U6 a2.Epoch, U6 a1, Zs, Zs]] R) ?_ ?_
 {
 refine wp_seq (wrl (wv (.bool z796) z z z (wv (.bool (!z796)) z z z (wl_nil (tn ?_)))))
 refine bsplit (!z796) (fun hc888 => ?_) (fun hc888 => ?_)
 {
 replace hm := bif_t hc888 hm
 refine wp_ift (cvb hc888) ?_
 refine wp_region_St hst 15 [0, 1, 2, 3, 4, 5, 6, 7, 8, 9, 10, 11, 12, 13, 14] [0, 0, 2, 6, 14, 0, 0, 64, 192, 448, 960, 2046, 4095, 8191, 16383] [] z (by kernel_rfl) (by kernel_rfl) Tryz.mixed (by kernel_rfl) ?_
 refine wsr (Pt b715 0) 0 z z z (by kernel_rfl) (fun w hst => z) (wsr (Pt b715 0) 1 z z z (by kernel_rfl) (fun w hst => z) (wsr (Pt b715 0) 2 z z z (by kernel_rfl) (fun w hst => z) (wsr (Pt b715 8) 3 z z z (by kernel_rfl) (fun w hst => x_field z underlying111 z sizeOf109 z) (wsr (v859) 4 z z z (by kernel_rfl) (fun w hst => x_load z isAgg109 (hst.bc1 z)) (wsr (.int .i64 z795) 5 z z z (by kernel_rfl) (fun w hst => z) (wsr (Pt b692 21) 6 z z z (by kernel_rfl) (fun w hst => x_field z underlying49 z sizeOf39 z) (wsr (Pt b692 21) 7 z z z (by kernel_rfl) (fun w hst => x_field z underlying39 z sizeOf26 z) (wsr (.int .u64 a2.Rule.ID) 8 z z z (by kernel_rfl) (fun w hst => x_load z isAgg26 (hst.bc8 z)) (wsr (.agg #[U6 a2.Rule.ID, Zu, Zi]) 9 z z z (by kernel_rfl) (fun w hst => by kernel_rfl) ?_)))))))))
 refine ws_e1 10 (by kernel_rfl) ?_
 refine nxe [11, 12, 13, 14] (by kernel_rfl) z z ?_
 clear hst
 intro w hst
 obtain ⟨b889, w890, ew891, eb892, hst⟩ := hst.lits (E := ty_lane_used) (xs := [({ rule := a2.Rule.ID, epoch := (0:Int), n := (0:Int) } : lane_used)]) [[U6 a2.Rule.ID, Zu, Zi]] 189 1 z (Reps.cons z Reps.nil)
 refine we_run (v := (.slice (some ⟨b889, 0, none⟩) 1 1)) (w' := w890) z (x_als (by kernel_rfl) ew891 eb892) ?_
 refine ws_next (pend' := [(5, I6 z795), (4, v859), (3, Pt b715 8), (2, Pt b715 0), (1, Pt b715 0), (0, Pt b715 0)]) hst (by kernel_rfl) (pkr z z (fun w hst => z) (pkr z z (fun w hst => x_load z isAgg109 (hst.bc2 z)) (pkr z z (fun w hst => x_field z underlying111 z sizeOf109 z) (pkr z z (fun w hst => z) (pkr z z (fun w hst => z) (pkr z z (fun w hst => z) pk_nil)))))) ?_
 refine ws_e1 11 (by kernel_rfl) ?_
 refine nxe [12, 13, 14] (by kernel_rfl) z z ?_
 clear hst
 intro w hst
 replace hst := hst.pull8
 obtain ⟨t894, ht895, hm⟩ := bind_some hm
 refine wec call134 [v859, I6 z795, (.slice (some ⟨b889, 0, none⟩) 1 1)] z z ?_
 refine (slices_Insert_lane_used_lane_used_ref hst.to2 ht895).mono ?_
 rintro _ w896 ⟨v899, rfl, hst⟩
 refine ⟨_, z, ?_⟩
 replace hst := hst.of1
 refine ws_next (pend' := [(0, Pt b715 0)]) hst (by kernel_rfl) (pkr z z (fun w hst => z) pk_nil) ?_
 refine wsr (Pt b715 0) 12 z z z (by kernel_rfl) (fun w hst => z) (wsr (Pt b715 8) 13 z z z (by kernel_rfl) (fun w hst => x_field z underlying111 z sizeOf109 z) ?_)
 refine ws_e1 14 (by kernel_rfl) ?_
 refine nxe [] (by kernel_rfl) z z ?_
 clear hst
 intro w hst
 replace hst := hst.pull2
 obtain ⟨w901, hr902, hst⟩ := hst.boxStore1 (P := prog) (t := 109) (cs' := [I6 o0.wide, U6 o0.epoch, v847, v849, v851, v853, v855, v857, v899]) 8 v899 (one_of_sliceV hst.sv1) sizeOf109 z z
 refine we_unit z (x_unit hr902) ?_
 refine ws_next (pend' := []) hst (by kernel_rfl) pk_nil ?_
 refine ws_nil ?_
 intro w hst
 refine tn ?_
 replace hst := hst.pull1.pull7.pull7.pull7.pull5.pull7.pull7.pull7
 replace hst := at_lane_State_close (pv := Pt b715 0) (x := ({ wide := o0.wide, epoch := o0.epoch, store := o0.store, locks := o0.locks, last := t864.2, book := o0.book, open_ := o0.open_, out := o0.out, used := t894 } : lane_State)) hst z
 replace hst := hst.pull3.pull3.pull3.pull3.keep4
 obtain rfl := some_inj hm
 exact ⟨({ wide := o0.wide, epoch := o0.epoch, store := o0.store, locks := o0.locks, last := t864.2, book := o0.book, open_ := o0.open_, out := o0.out, used := t894 } : lane_State), _, hx907, (fu 0 (Pt b715 0) z (fu 5 (Pt b692 0) z (fu 6 (Pt b699 0) z (fu 7 (Pt b708 0) z (fu 8 (.int .i64 z795) z (fu 10 (.int .i64 z808) z z)))))), hst⟩
}
 {
 replace hm := bif_f hc888 hm
 refine wp_iff (cvb hc888) ?_
 refine wp_skip (tn ?_)
 replace hst := hst.pull7.pull7.pull7.pull7.pull4.pull7.pull7.pull7
 replace hst := at_lane_State_close (pv := Pt b715 0) (x := ({ wide := o0.wide, epoch := o0.epoch, store := o0.store, locks := o0.locks, last := t864.2, book := o0.book, open_ := o0.open_, out := o0.out, used := o0.used } : lane_State)) hst z
 replace hst := hst.pull3.pull3.pull3.pull3.keep4
 obtain rfl := some_inj hm
 exact ⟨({ wide := o0.wide, epoch := o0.epoch, store := o0.store, locks := o0.locks, last := t864.2, book := o0.book, open_ := o0.open_, out := o0.out, used := o0.used } : lane_State), _, hx907, (fu 0 (Pt b715 0) z (fu 5 (Pt b692 0) z (fu 6 (Pt b699 0) z (fu 7 (Pt b708 0) z (fu 8 (.int .i64 z795) z (fu 10 (.int .i64 z808) z z)))))), hst⟩
}
}
 {
 clear hst
 rintro _ w908 ⟨z903, σ904, hm, rfl, hst⟩
 dsimp only [lane_State_give_j5] at hm
 refine wp_seq ?_
 obtain ⟨b909, v910, v912, v914, v916, v918, v920, v922, e924, hst'⟩ := at_lane_State_open hst
 clear hst
 have e924 := ptr_inj e924
 subst e924
 have hst := hst'
 clear hst'
 refine wp_region_St hst 20 [0, 1, 2, 3, 4, 5, 6, 7, 8, 9, 10, 11, 12, 13, 14, 15, 16, 17, 18, 19] [0, 1, 3, 7, 0, 0, 32, 96, 224, 0, 0, 1024, 0, 4096, 3583, 19967, 52735, 131071, 262143, 524287] [] z (by kernel_rfl) (by kernel_rfl) Tryz.mixed (by kernel_rfl) ?_
 refine wsr (Pt b715 0) 0 z z z (by kernel_rfl) (fun w hst => z) (wsr (Pt b715 0) 1 z z z (by kernel_rfl) (fun w hst => z) (wsr (Pt b715 8) 2 z z z (by kernel_rfl) (fun w hst => x_field z underlying111 z sizeOf109 z) (wsr (v922) 3 z z z (by kernel_rfl) (fun w hst => x_load z isAgg109 (hst.bc0 z)) (wsr (.int .i64 z795) 4 z z z (by kernel_rfl) (fun w hst => z) (wsr (Pt b715 0) 5 z z z (by kernel_rfl) (fun w hst => z) (wsr (Pt b715 0) 6 z z z (by kernel_rfl) (fun w hst => z) (wsr (Pt b715 8) 7 z z z (by kernel_rfl) (fun w hst => x_field z underlying111 z sizeOf109 z) (wsr (v922) 8 z z z (by kernel_rfl) (fun w hst => x_load z isAgg109 (hst.bc0 z)) (wsr (.int .i64 z795) 9 z z z (by kernel_rfl) (fun w hst => z) (wsr (Pt b692 3) 10 z z z (by kernel_rfl) (fun w hst => x_field z underlying49 z sizeOf26 z) (wsr (.int .u64 a2.Epoch) 11 z z z (by kernel_rfl) (fun w hst => x_load z isAgg26 (hst.bc8 z)) (wsr (.int .i64 z808) 12 z z z (by kernel_rfl) (fun w hst => z) ?_))))))))))))
 refine wsr (.int .i64 (i64.wrap (z808 + (1:Int)))) 13 z z z (by kernel_rfl) (fun w hst => z) ?_
 obtain ⟨x925, hx926, hm⟩ := bind_some hm
 obtain ⟨h927, h928, hi929⟩ := geto_some hx926
 refine wsr (.pointer (some (eAddr v922 (z795.toNat * 3 + 0)))) 14 z z z (by kernel_rfl) (fun w hst => x_index z z underlying109 sizeOf189 hst.sv7 h927 h928) (wsr (.pointer (some (eAddr v922 (z795.toNat * 3 + 1)))) 15 z z z (by kernel_rfl) (fun w hst => x_field_e z underlying189 z sizeOf26 z) ?_)
 refine ws_e1 16 (by kernel_rfl) ?_
 refine nxe [17, 18, 19] (by kernel_rfl) z z ?_
 clear hst
 intro w hst
 replace hst := hst.pull7
 obtain ⟨w930, hr931, hst⟩ := hst.own_store (P := prog) (t := 26) (y := ({ rule := x925.rule, epoch := a2.Epoch, n := x925.n } : lane_used)) hi929 1 (.int .u64 a2.Epoch) sizeOf26 (Nat.le_of_ble_eq_true z) (oC z oN) (by rintro _ rfl; rfl)
 have hi932 := set_get hi929 ({ rule := x925.rule, epoch := a2.Epoch, n := x925.n } : lane_used)
 have h933 := set_lt h928 z795.toNat ({ rule := x925.rule, epoch := a2.Epoch, n := x925.n } : lane_used)
 refine we_unit z (x_unit hr931) ?_
 refine ws_next (pend' := [(13, I6 (i64.wrap (z808 + (1:Int)))), (12, I6 z808), (9, I6 z795)]) hst (by kernel_rfl) (pkr z z (fun w hst => z) (pkr z z (fun w hst => z) (pkr z z (fun w hst => z) pk_nil))) ?_
 refine wsr (.pointer (some (eAddr v922 (z795.toNat * 3 + 0)))) 17 z z z (by kernel_rfl) (fun w hst => x_index z z underlying109 sizeOf189 hst.sv0 h927 h933) (wsr (.pointer (some (eAddr v922 (z795.toNat * 3 + 2)))) 18 z z z (by kernel_rfl) (fun w hst => x_field_e z underlying189 z sizeOf3 z) ?_)
 refine ws_e1 19 (by kernel_rfl) ?_
 refine nxe [] (by kernel_rfl) z z ?_
 clear hst
 intro w hst
 obtain ⟨w934, hr935, hst⟩ := hst.own_store (P := prog) (t := 3) (y := ({ rule := ({ rule := x925.rule, epoch := a2.Epoch, n := x925.n } : lane_used).rule, epoch := ({ rule := x925.rule, epoch := a2.Epoch, n := x925.n } : lane_used).epoch, n := (i64.wrap (z808 + (1:Int))) } : lane_used)) hi932 2 (.int .i64 (i64.wrap (z808 + (1:Int)))) sizeOf3 (Nat.le_of_ble_eq_true z) (oC z oN) (by rintro _ rfl; rfl)
 have hi936 := set_get hi932 ({ rule := ({ rule := x925.rule, epoch := a2.Epoch, n := x925.n } : lane_used).rule, epoch := ({ rule := x925.rule, epoch := a2.Epoch, n := x925.n } : lane_used).epoch, n := (i64.wrap (z808 + (1:Int))) } : lane_used)
 have h937 := set_lt h933 z795.toNat ({ rule := ({ rule := x925.rule, epoch := a2.Epoch, n := x925.n } : lane_used).rule, epoch := ({ rule := x925.rule, epoch := a2.Epoch, n := x925.n } : lane_used).epoch, n := (i64.wrap (z808 + (1:Int))) } : lane_used)
 refine we_unit z (x_unit hr935) ?_
 refine ws_next (pend' := []) hst (by kernel_rfl) pk_nil ?_
 refine ws_nil ?_
 intro w hst
 refine tn ?_
 refine wp_region_St hst 36 [0, 1, 2, 3, 4, 5, 6, 7, 8, 9, 10, 11, 12, 13, 14, 15, 16, 17, 18, 19, 20, 21, 22, 23, 24, 25, 26, 27, 28, 29, 30, 31, 32, 33, 34, 35] [0, 0, 2, 6, 14, 0, 32, 96, 0, 0, 512, 1536, 3840, 7936, 16128, 32512, 0, 65536, 196608, 0, 524288, 0, 2097152, 6291456, 14680064, 0, 33554432, 100663296, 234881024, 534781696, 1073741792, 2147483616, 4294967294, 8589934591, 17179869183, 34359738367] [] z (by kernel_rfl) (by kernel_rfl) Tryz.mixed (by kernel_rfl) ?_
 refine wsr (Pt b715 0) 0 z z z (by kernel_rfl) (fun w hst => z) (wsr (Pt b715 0) 1 z z z (by kernel_rfl) (fun w hst => z) (wsr (Pt b715 0) 2 z z z (by kernel_rfl) (fun w hst => z) (wsr (Pt b715 7) 3 z z z (by kernel_rfl) (fun w hst => x_field z underlying111 z sizeOf50 z) (wsr (v920) 4 z z z (by kernel_rfl) (fun w hst => x_load z isAgg50 (hst.bc1 z)) (wsr (Pt b692 21) 5 z z z (by kernel_rfl) (fun w hst => x_field z underlying49 z sizeOf39 z) (wsr (Pt b692 23) 6 z z z (by kernel_rfl) (fun w hst => x_field z underlying39 z sizeOf3 z) (wsr (.int .i64 a2.Rule.To) 7 z z z (by kernel_rfl) (fun w hst => x_load z isAgg3 (hst.bc8 z)) (wsr (Pt b715 0) 8 z z z (by kernel_rfl) (fun w hst => z) (wsr (Pt b692 21) 9 z z z (by kernel_rfl) (fun w hst => x_field z underlying49 z sizeOf39 z) (wsr (Pt b692 23) 10 z z z (by kernel_rfl) (fun w hst => x_field z underlying39 z sizeOf3 z) (wsr (.int .i64 a2.Rule.To) 11 z z z (by kernel_rfl) (fun w hst => x_load z isAgg3 (hst.bc8 z)) (wsr (Pt b692 21) 16 z z z (by kernel_rfl) (fun w hst => x_field z underlying49 z sizeOf39 z) ?_))))))))))))
 refine wsr (Pt b692 21) 17 z z z (by kernel_rfl) (fun w hst => x_field z underlying39 z sizeOf26 z) (wsr (.int .u64 a2.Rule.ID) 18 z z z (by kernel_rfl) (fun w hst => x_load z isAgg26 (hst.bc8 z)) (wsr (Pt b692 3) 19 z z z (by kernel_rfl) (fun w hst => x_field z underlying49 z sizeOf26 z) (wsr (.int .u64 a2.Epoch) 20 z z z (by kernel_rfl) (fun w hst => x_load z isAgg26 (hst.bc8 z)) (wsr (Pt b692 13) 21 z z z (by kernel_rfl) (fun w hst => x_field z underlying49 z sizeOf42 z) (wsr (r2_4) 22 z z z (by kernel_rfl) (fun w hst => x_load z isAgg42 (hst.bc8 z)) ?_)))))
 obtain ⟨x938, hx939, hm⟩ := bind_some hm
 obtain ⟨h940, h941, hi942⟩ := geto_some hx939
 refine wsr (.pointer (some (eAddr r2_4 ((0:Int).toNat * 3 + 0)))) 23 z z z (by kernel_rfl) (fun w hst => x_index z z underlying42 sizeOf41 (rd_sliceV f2_4) h940 h941) ?_
 obtain ⟨cs943, hr944, hc945⟩ := Rd.getF f2_4 hi942
 obtain ⟨v946, rfl, f947, -⟩ := hr944
 refine wsr (.agg #[F6 x938.At, .bool x938.Del, v946]) 24 z z z (by kernel_rfl) (fun w hst => x_loadN (cs := [F6 x938.At, .bool x938.Del, v946]) z isAgg41 sizeOf41 (eCells (o := 0) (hc945 (HL.le.refl _) hst) z)) (wsr (Pt b715 0) 25 z z z (by kernel_rfl) (fun w hst => z) (wsr (Pt b715 0) 26 z z z (by kernel_rfl) (fun w hst => z) (wsr (Pt b715 0) 27 z z z (by kernel_rfl) (fun w hst => x_field z underlying111 z sizeOf3 z) (wsr (.int .i64 z903.wide) 28 z z z (by kernel_rfl) (fun w hst => x_load z isAgg3 (hst.bc1 z)) ?_))))
 refine ws_e1 12 (by kernel_rfl) ?_
 refine nxe [13, 14, 15, 29, 30, 31, 32, 33, 34, 35] (by kernel_rfl) z z ?_
 clear hst
 intro w hst
 obtain ⟨y1099, hq1100, hm⟩ := bind_some hm
 refine we_call z (x_callv call15 (caps := []) z (vs := [Pt b715 0, I6 a2.Rule.To]) z) ?_
 refine Calls.mono (show Calls prog 15 #[Pt b715 0, I6 a2.Rule.To] _ (fun e w' => ∃ (z1097 : (List api_Item)) (v1096 : Value), z1097 = y1099 ∧ e = .returned (v1096) ∧ St w0 w' I [ownS ty_api_Item v1096 z1097, cells b715 [I6 z903.wide, U6 z903.epoch, v910, v912, v914, v916, v918, v920, v922], objO at_mvcc_Store v910 z903.store, objO at_locks_Table v912 z903.locks, objO at_session_Table v914 z903.last, objO at_policy_Book v916 z903.book, ownS ty_api_Decision v918 z903.open_, ownS ty_api_Item v920 z903.out, ownS ty_lane_used v922 ((z903.used.set z795.toNat ({ rule := x925.rule, epoch := a2.Epoch, n := x925.n } : lane_used)).set z795.toNat ({ rule := ({ rule := x925.rule, epoch := a2.Epoch, n := x925.n } : lane_used).rule, epoch := ({ rule := x925.rule, epoch := a2.Epoch, n := x925.n } : lane_used).epoch, n := (i64.wrap (z808 + (1:Int))) } : lane_used)), cells b692 [U1 a2.Kind, U6 a2.ID.Session, U6 a2.ID.Seq, U6 a2.Epoch, U6 a2.Index, I6 a2.E, U6 a2.Hold.ID.Session, U6 a2.Hold.ID.Seq, U6 a2.Hold.Epoch, r2_0, r2_1, r2_2, r2_3, r2_4, I6 a2.R.E, U6 a2.R.Epoch, U6 a2.R.Index, r2_5, r2_6, U6 a2.Shards, r2_7, U6 a2.Rule.ID, I6 a2.Rule.From, I6 a2.Rule.To, F6 a2.Rule.Lo, F6 a2.Rule.Hi, U6 a2.Rule.Authority, I6 a2.Rule.Quota, .bool a2.On], cells b699 [Zb, Zu, Zu, Zi, Zu, Zu, Zs, Zs], cells b708 [I6 z840, U6 a2.Epoch, U6 a1, Zs, Zs]] R) from ?_) ?_
 {
 clear hm; have hm := hq1100
 refine calls_start (args := [Pt b715 0, I6 a2.Rule.To]) func15 z ntmps15 (Nat.le_of_ble_eq_true z) ?_
 refine wp_seq (wrl (wv ((.slice none 0 0)) z z z (wl_nil (tn (wp_seq (wrl (wv ((.slice none 0 0)) z z z (wl_nil (tn (wp_seq (wp_seq (wrl (wv (Pt b715 0) z z z (wv (.bool false) z z (by kernel_rfl) (wl_nil (tn ?_))))))))))))))))
 refine wp_iff z ?_
 refine wp_skip (tn (wp_seq (wp_seq (wrl ?_))))
 refine wv (Pt b715 0) z z z (wv (Pt b715 0) z z z (wv (Pt b715 7) z z (x_field z underlying111 z sizeOf50 z) (wv (v920) z z (x_load z isAgg50 (hst.bc1 z)) (wv (.int .i64 ((z903.out).length : Int)) z z (x_len z underlying50 hst.sv7) (wv (.int .i64 (0:Int)) z z z (wl_nil (tn (wp_block ?_))))))))
 replace hst := hst.own_nil ty_api_Item
 obtain ⟨n1056, hm⟩ := loopO_some hm
 refine wp_loop_n (fun n a w => ∃ (z1051 : Int) (z1052 : (List api_Item)) (v1053 : Value) (σ1055 : Nat → Value), loopN (lane_State_give_l6 z903 a2) n (z1051, z1052) = some y1099 ∧ a = Fr 30 (upd (upd (upd (upd (upd σ1055 1 (.int .i64 a2.Rule.To)) 5 (v1053)) 14 (v920)) 15 (.int .i64 ((z903.out).length : Int))) 16 (.int .i64 z1051)) ∧ St w0 w I [ownS ty_api_Item v1053 z1052, ownS ty_lane_used v922 ((z903.used.set z795.toNat ({ rule := x925.rule, epoch := a2.Epoch, n := x925.n } : lane_used)).set z795.toNat ({ rule := ({ rule := x925.rule, epoch := a2.Epoch, n := x925.n } : lane_used).rule, epoch := ({ rule := x925.rule, epoch := a2.Epoch, n := x925.n } : lane_used).epoch, n := (i64.wrap (z808 + (1:Int))) } : lane_used)), cells b715 [I6 z903.wide, U6 z903.epoch, v910, v912, v914, v916, v918, v920, v922], objO at_mvcc_Store v910 z903.store, objO at_locks_Table v912 z903.locks, objO at_session_Table v914 z903.last, objO at_policy_Book v916 z903.book, ownS ty_api_Decision v918 z903.open_, ownS ty_api_Item v920 z903.out, cells b692 [U1 a2.Kind, U6 a2.ID.Session, U6 a2.ID.Seq, U6 a2.Epoch, U6 a2.Index, I6 a2.E, U6 a2.Hold.ID.Session, U6 a2.Hold.ID.Seq, U6 a2.Hold.Epoch, r2_0, r2_1, r2_2, r2_3, r2_4, I6 a2.R.E, U6 a2.R.Epoch, U6 a2.R.Index, r2_5, r2_6, U6 a2.Shards, r2_7, U6 a2.Rule.ID, I6 a2.Rule.From, I6 a2.Rule.To, F6 a2.Rule.Lo, F6 a2.Rule.Hi, U6 a2.Rule.Authority, I6 a2.Rule.Quota, .bool a2.On], cells b699 [Zb, Zu, Zu, Zi, Zu, Zu, Zs, Zs], cells b708 [I6 z840, U6 a2.Epoch, U6 a1, Zs, Zs]] R) n1056 ⟨(0:Int), [], Zs, _, hm, (fu 1 (.int .i64 a2.Rule.To) z (fu 5 (.slice none 0 0) z (fu 14 v920 z (fu 15 (.int .i64 ((z903.out).length : Int)) z (fu 16 (.int .i64 (0:Int)) z z))))), hst⟩ ?_
 rintro n1062 _ w1057 ⟨z1051, z1052, v1053, σ1055, hm, rfl, hst⟩
 obtain ⟨n1059, y1060, rfl, hm, hx1061⟩ := loopN_some hm
 dsimp only [lane_State_give_l6] at hm
 refine wp_seq (wrl (wv (.bool (decide (z1051 < ((z903.out).length : Int)))) z z z (wl_nil (tn (wp_seq ?_)))))
 refine bsplit (decide (z1051 < ((z903.out).length : Int))) (fun hc1063 => ?_) (fun hc1063 => ?_)
 {
 replace hm := bif_t hc1063 hm
 refine wp_ift (cvb hc1063) ?_
 refine wp_skip (tn (wp_seq (wp_block (wp_seq (wrl ?_)))))
 obtain ⟨x1064, hx1065, hm⟩ := bind_some hm
 obtain ⟨h1066, h1067, hi1068⟩ := geto_some hx1065
 refine wv (.pointer (some (eAddr v920 (z1051.toNat * 7 + 0)))) z z (x_index z z underlying50 sizeOf53 hst.sv8 h1066 h1067) ?_
 obtain ⟨cs1069, hr1070, hc1071⟩ := hst.og8 hi1068
 obtain ⟨v1072, rfl, f1073, -⟩ := hr1070
 refine wv (.agg #[I6 x1064.To, U6 x1064.N, U6 x1064.Rule, U6 x1064.Epoch, F6 x1064.W.At, .bool x1064.W.Del, v1072]) z z (x_loadN (cs := [I6 x1064.To, U6 x1064.N, U6 x1064.Rule, U6 x1064.Epoch, F6 x1064.W.At, .bool x1064.W.Del, v1072]) z isAgg53 sizeOf53 (eCells (o := 0) hc1071 z)) ?_
 obtain ⟨b1076, w1077, ew1078, eb1079, hst⟩ := hst.box [Zi, Zu, Zu, Zu, Zf, .bool false, Zs] 53
 refine wl_run (v := Pt b1076 0) (w' := w1077) z z (x_al (by kernel_rfl) ew1078 eb1079) ?_
 obtain ⟨w1081, hr1082, hst⟩ := hst.bx [I6 x1064.To, U6 x1064.N, U6 x1064.Rule, U6 x1064.Epoch, F6 x1064.W.At, .bool x1064.W.Del, v1072] sizeOf53 z (oC z (oC z (oC z (oC z (oC z (oC z (oC (one_of_sliceV (ro_sliceV f1073)) oN))))))) (by kernel_rfl)
 refine wl_unit z z (x_unit hr1082) ?_
 refine wl_nil (tn (wp_seq (wrl (wv (Pt b1076 0) z z (x_field z underlying53 z sizeOf3 z) (wv (.int .i64 x1064.To) z z (x_load z isAgg3 (hst.bc0 z)) (wv (.int .i64 a2.Rule.To) z z z (wv (.bool (x1064.To == a2.Rule.To)) z z z (wl_nil (tn ?_)))))))))
 refine bsplit (x1064.To == a2.Rule.To) (fun hc1083 => ?_) (fun hc1083 => ?_)
 {
 replace hm := bif_t hc1083 hm
 refine wp_ift (cvb hc1083) ?_
 refine wrl (wv (v1053) z z z (wv (.agg #[I6 x1064.To, U6 x1064.N, U6 x1064.Rule, U6 x1064.Epoch, F6 x1064.W.At, .bool x1064.W.Del, v1072]) z z (x_loadN (cs := [I6 x1064.To, U6 x1064.N, U6 x1064.Rule, U6 x1064.Epoch, F6 x1064.W.At, .bool x1064.W.Del, v1072]) z isAgg53 sizeOf53 (hst.bcs0 0 z)) ?_))
 obtain ⟨b1085, w1086, ew1087, eb1088, hst⟩ := hst.lits (E := ty_api_Item) (xs := [x1064]) [[I6 x1064.To, U6 x1064.N, U6 x1064.Rule, U6 x1064.Epoch, F6 x1064.W.At, .bool x1064.W.Del, v1072]] 53 1 z (Reps.cons ⟨_, z, f1073, one_of_sliceV (ro_sliceV f1073)⟩ Reps.nil)
 refine wl_run (v := (.slice (some ⟨b1085, 0, none⟩) 1 1)) (w' := w1086) z z (x_als (by kernel_rfl) ew1087 eb1088) ?_
 obtain ⟨hg1090, hm⟩ := gd_some hm
 replace hst := hst.pull2
 obtain ⟨v1091, w1092, hr1093, hst⟩ := run_append elem_50 underlying50 hst hst.src1 (room_of hg1090 z) 50
 refine wl_run (v := v1091) (w' := w1092) z z (x_append z z hr1093) ?_
 refine wv (v1091) z z z (wl_nil (blk_n (tn (wrl (wv (.int .i64 (i64.wrap (z1051 + (1:Int)))) z z z (wv (.int .i64 (i64.wrap (z1051 + (1:Int)))) z z z (wl_nil (tn ?_))))))))
 replace hst := hst.pull13.pull13.pull13.pull13.pull13.pull13.pull13.pull13.pull13.pull13.pull13.pull11.keep12
 obtain rfl := some_inj hm
 exact ⟨_, Nat.lt_succ_self _, (i64.wrap (z1051 + (1:Int))), (z1052 ++ ([x1064])), v1091, _, hx1061, (fu 1 (.int .i64 a2.Rule.To) z (fu 5 v1091 z (fu 14 v920 z (fu 15 (.int .i64 ((z903.out).length : Int)) z (fu 16 (.int .i64 (i64.wrap (z1051 + (1:Int)))) z z))))), hst⟩
}
 {
 replace hm := bif_f hc1083 hm
 refine wp_iff (cvb hc1083) ?_
 refine wp_skip (blk_n (tn (wrl ?_)))
 refine wv (.int .i64 (i64.wrap (z1051 + (1:Int)))) z z z (wv (.int .i64 (i64.wrap (z1051 + (1:Int)))) z z z (wl_nil (tn ?_)))
 replace hst := hst.pull12.pull12.pull12.pull12.pull12.pull12.pull12.pull12.pull12.pull12.pull12.pull12.keep12
 obtain rfl := some_inj hm
 exact ⟨_, Nat.lt_succ_self _, (i64.wrap (z1051 + (1:Int))), z1052, v1053, _, hx1061, (fu 1 (.int .i64 a2.Rule.To) z (fu 5 v1053 z (fu 14 v920 z (fu 15 (.int .i64 ((z903.out).length : Int)) z (fu 16 (.int .i64 (i64.wrap (z1051 + (1:Int)))) z z))))), hst⟩
}
}
 {
 replace hm := bif_f hc1063 hm
 refine wp_iff (cvb hc1063) ?_
 refine wp_exit (then_x (then_x ?_))
 replace hm := inr_up hm hx1061
 refine blk_x (tn (wp_seq (wrl ?_)))
 refine wv (v1053) z z z (wv (v1053) z z z (wl_nil (tn (wp_ret ?_))))
 refine post_ret (vs := [v1053]) results15 (rvs_cons (rv_tmp z) rvs_nil) ?_
 replace hst := hst.pull11.pull11.pull11.pull4.pull11.pull11.pull11.pull11.pull11.pull11.pull11.pull11.keep12
 obtain rfl := some_inj hm
 exact ⟨z1052, v1053, z, z, hst⟩
}
}
 clear hst
 rintro _ w1101 ⟨z1097, v1096, rfl, rfl, hst⟩
 refine ⟨_, z, ?_⟩
 try dsimp only at hm
 refine ws_next (pend' := [(28, I6 z903.wide), (27, Pt b715 0), (26, Pt b715 0), (25, Pt b715 0), (24, .agg #[F6 x938.At, .bool x938.Del, v946]), (23, .pointer (some (eAddr r2_4 ((0:Int).toNat * 3 + 0)))), (22, r2_4), (21, Pt b692 13), (20, U6 a2.Epoch), (19, Pt b692 3), (18, U6 a2.Rule.ID), (17, Pt b692 21), (16, Pt b692 21), (7, I6 a2.Rule.To), (6, Pt b692 23), (5, Pt b692 21), (4, v920), (3, Pt b715 7), (2, Pt b715 0), (1, Pt b715 0), (0, Pt b715 0)]) hst (by kernel_rfl) (pkr z z (fun w hst => x_load z isAgg3 (hst.bc1 z)) (pkr z z (fun w hst => x_field z underlying111 z sizeOf3 z) (pkr z z (fun w hst => z) (pkr z z (fun w hst => z) (pkr z z (fun w hst => x_loadN (cs := [F6 x938.At, .bool x938.Del, v946]) z isAgg41 sizeOf41 (eCells (o := 0) (hc945 (HL.le.refl _) hst) z)) (pkr z z (fun w hst => x_index z z underlying42 sizeOf41 (rd_sliceV f2_4) h940 h941) (pkr z z (fun w hst => x_load z isAgg42 (hst.bc9 z)) (pkr z z (fun w hst => x_field z underlying49 z sizeOf42 z) (pkr z z (fun w hst => x_load z isAgg26 (hst.bc9 z)) (pkr z z (fun w hst => x_field z underlying49 z sizeOf26 z) (pkr z z (fun w hst => x_load z isAgg26 (hst.bc9 z)) (pkr z z (fun w hst => x_field z underlying39 z sizeOf26 z) (pkr z z (fun w hst => x_field z underlying49 z sizeOf39 z) (pkr z z (fun w hst => x_load z isAgg3 (hst.bc9 z)) (pkr z z (fun w hst => x_field z underlying39 z sizeOf3 z) (pkr z z (fun w hst => x_field z underlying49 z sizeOf39 z) (pkr z z (fun w hst => x_load z isAgg50 (hst.bc1 z)) (pkr z z (fun w hst => x_field z underlying111 z sizeOf50 z) (pkr z z (fun w hst => z) (pkr z z (fun w hst => z) (pkr z z (fun w hst => z) pk_nil))))))))))))))))))))) ?_
 refine wsr (.int .i64 ((z1097).length : Int)) 13 z z z (by kernel_rfl) (fun w hst => x_len z underlying50 hst.sv0) (wsr (.int .i64 (i64.wrap (((z1097).length : Int) + (1:Int)))) 14 z z z (by kernel_rfl) (fun w hst => z) (wsr (.int .u64 (u64.wrap (i64.wrap (((z1097).length : Int) + (1:Int))))) 15 z z z (by kernel_rfl) (fun w hst => by kernel_rfl) ?_))
 refine ws_e1 29 (by kernel_rfl) ?_
 refine nxe [30, 31, 32, 33, 34, 35] (by kernel_rfl) z z ?_
 clear hst
 intro w hst
 obtain ⟨t1102, ht1103, hm⟩ := bind_some hm
 refine wec call17 [.agg #[F6 x938.At, .bool x938.Del, v946], I6 z903.wide] z z ?_
 refine (lane_Pad_ref (f947.mono (rd_weak _)) hst.to0 ht1103).mono ?_
 rintro _ w1104 ⟨v1107, rfl, hst⟩
 refine ⟨_, z, ?_⟩
 replace hst := hst.of1
 refine ws_next (pend' := [(15, U6 (u64.wrap (i64.wrap (((z1097).length : Int) + (1:Int))))), (14, I6 (i64.wrap (((z1097).length : Int) + (1:Int)))), (13, I6 ((z1097).length : Int)), (20, U6 a2.Epoch), (19, Pt b692 3), (18, U6 a2.Rule.ID), (17, Pt b692 21), (16, Pt b692 21), (7, I6 a2.Rule.To), (6, Pt b692 23), (5, Pt b692 21), (4, v920), (3, Pt b715 7), (2, Pt b715 0), (1, Pt b715 0), (0, Pt b715 0)]) hst (by kernel_rfl) (pkr z z (fun w hst => by kernel_rfl) (pkr z z (fun w hst => z) (pkr z z (fun w hst => x_len z underlying50 hst.sv1) (pkr z z (fun w hst => x_load z isAgg26 (hst.bc10 z)) (pkr z z (fun w hst => x_field z underlying49 z sizeOf26 z) (pkr z z (fun w hst => x_load z isAgg26 (hst.bc10 z)) (pkr z z (fun w hst => x_field z underlying39 z sizeOf26 z) (pkr z z (fun w hst => x_field z underlying49 z sizeOf39 z) (pkr z z (fun w hst => x_load z isAgg3 (hst.bc10 z)) (pkr z z (fun w hst => x_field z underlying39 z sizeOf3 z) (pkr z z (fun w hst => x_field z underlying49 z sizeOf39 z) (pkr z z (fun w hst => x_load z isAgg50 (hst.bc2 z)) (pkr z z (fun w hst => x_field z underlying111 z sizeOf50 z) (pkr z z (fun w hst => z) (pkr z z (fun w hst => z) (pkr z z (fun w hst => z) pk_nil)))))))))))))))) ?_
 refine wsr (.agg #[I6 a2.Rule.To, U6 (u64.wrap (i64.wrap (((z1097).length : Int) + (1:Int)))), U6 a2.Rule.ID, U6 a2.Epoch, F6 t1102.At, .bool t1102.Del, v1107]) 30 rfl rfl rfl (by kernel_rfl) (fun w hst => by obtain ⟨_, _, hv_, _⟩ := hst.sv0; rw [hv_]; kernel_rfl) ?_
 refine ws_e1 31 (by kernel_rfl) ?_
 refine nxe [32, 33, 34, 35] (by kernel_rfl) z z ?_
 clear hst
 intro w hst
 obtain ⟨I1111, hI1112, f1113, hst⟩ := hst.own_fix
 replace f2_0 := f2_0.mono (rd_le hI1112)
 replace f2_1 := f2_1.mono (rd_le hI1112)
 replace f2_2 := f2_2.mono (rd_le hI1112)
 replace f2_3 := f2_3.mono (rd_le hI1112)
 replace f2_4 := f2_4.mono (rd_le hI1112)
 replace f2_5 := f2_5.mono (rd_le hI1112)
 replace f2_6 := f2_6.mono (rd_le hI1112)
 replace f2_7 := f2_7.mono (rd_le hI1112)
 replace f862 := f862.mono (ro_le hI1112)
 replace f863 := f863.mono (ro_le hI1112)
 replace f947 := f947.mono (rd_le hI1112)
 replace hI0 := hI0.trans hI1112
 replace hL1132 := hL1132.trans hI1112
 obtain ⟨b1114, w1115, ew1116, eb1117, hst⟩ := hst.lits (E := ty_api_Item) (xs := [({ To := a2.Rule.To, N := (u64.wrap (i64.wrap (((z1097).length : Int) + (1:Int)))), Rule := a2.Rule.ID, Epoch := a2.Epoch, W := t1102 } : api_Item)]) [[I6 a2.Rule.To, U6 (u64.wrap (i64.wrap (((z1097).length : Int) + (1:Int)))), U6 a2.Rule.ID, U6 a2.Epoch, F6 t1102.At, .bool t1102.Del, v1107]] 53 1 z (Reps.cons ⟨_, z, f1113, one_of_sliceV (ro_sliceV f1113)⟩ Reps.nil)
 refine we_run (v := (.slice (some ⟨b1114, 0, none⟩) 1 1)) (w' := w1115) z (x_als (by kernel_rfl) ew1116 eb1117) ?_
 refine ws_next (pend' := [(4, v920), (3, Pt b715 7), (2, Pt b715 0), (1, Pt b715 0), (0, Pt b715 0)]) hst (by kernel_rfl) (pkr z z (fun w hst => x_load z isAgg50 (hst.bc2 z)) (pkr z z (fun w hst => x_field z underlying111 z sizeOf50 z) (pkr z z (fun w hst => z) (pkr z z (fun w hst => z) (pkr z z (fun w hst => z) pk_nil))))) ?_
 refine ws_e1 32 (by kernel_rfl) ?_
 refine nxe [33, 34, 35] (by kernel_rfl) z z ?_
 clear hst
 intro w hst
 obtain ⟨hg1119, hm⟩ := gd_some hm
 replace hst := hst.pull8
 obtain ⟨v1120, w1121, hr1122, hst⟩ := run_append elem_50 underlying50 hst hst.src1 (room_of hg1119 z) 50
 refine we_run (v := v1120) (w' := w1121) z (x_append z z hr1122) ?_
 refine ws_next (pend' := [(0, Pt b715 0)]) hst (by kernel_rfl) (pkr z z (fun w hst => z) pk_nil) ?_
 refine wsr (Pt b715 0) 33 z z z (by kernel_rfl) (fun w hst => z) (wsr (Pt b715 7) 34 z z z (by kernel_rfl) (fun w hst => x_field z underlying111 z sizeOf50 z) ?_)
 refine ws_e1 35 (by kernel_rfl) ?_
 refine nxe [] (by kernel_rfl) z z ?_
 clear hst
 intro w hst
 replace hst := hst.pull3
 obtain ⟨w1124, hr1125, hst⟩ := hst.boxStore1 (P := prog) (t := 50) (cs' := [I6 z903.wide, U6 z903.epoch, v910, v912, v914, v916, v918, v1120, v922]) 7 v1120 (one_of_sliceV hst.sv1) sizeOf50 z z
 refine we_unit z (x_unit hr1125) ?_
 refine ws_next (pend' := []) hst (by kernel_rfl) pk_nil ?_
 refine ws_nil ?_
 intro w hst
 refine tn ?_
 replace hst := hst.pull9.pull2.pull9.pull9.pull9.pull9.pull9.pull7
 replace hst := at_lane_State_close (pv := Pt b715 0) (x := ({ wide := z903.wide, epoch := z903.epoch, store := z903.store, locks := z903.locks, last := z903.last, book := z903.book, open_ := z903.open_, out := (z903.out ++ ([({ To := a2.Rule.To, N := (u64.wrap (i64.wrap (((z1097).length : Int) + (1:Int)))), Rule := a2.Rule.ID, Epoch := a2.Epoch, W := t1102 } : api_Item)])), used := ((z903.used.set z795.toNat ({ rule := x925.rule, epoch := a2.Epoch, n := x925.n } : lane_used)).set z795.toNat ({ rule := ({ rule := x925.rule, epoch := a2.Epoch, n := x925.n } : lane_used).rule, epoch := ({ rule := x925.rule, epoch := a2.Epoch, n := x925.n } : lane_used).epoch, n := (i64.wrap (z808 + (1:Int))) } : lane_used)) } : lane_State)) hst z
 replace hst := hst.pull5.pull5.pull5.keep4
 obtain rfl := some_inj hm
 exact ⟨_, ({ wide := z903.wide, epoch := z903.epoch, store := z903.store, locks := z903.locks, last := z903.last, book := z903.book, open_ := z903.open_, out := (z903.out ++ ([({ To := a2.Rule.To, N := (u64.wrap (i64.wrap (((z1097).length : Int) + (1:Int)))), Rule := a2.Rule.ID, Epoch := a2.Epoch, W := t1102 } : api_Item)])), used := ((z903.used.set z795.toNat ({ rule := x925.rule, epoch := a2.Epoch, n := x925.n } : lane_used)).set z795.toNat ({ rule := ({ rule := x925.rule, epoch := a2.Epoch, n := x925.n } : lane_used).rule, epoch := ({ rule := x925.rule, epoch := a2.Epoch, n := x925.n } : lane_used).epoch, n := (i64.wrap (z808 + (1:Int))) } : lane_used)) } : lane_State), _, hx1131, (fu 5 (Pt b692 0) z (fu 6 (Pt b699 0) z (fu 7 (Pt b708 0) z z))), hL1132, hst⟩
}
}
 {
 replace hm := bif_f hc887 hm
 refine wp_iff (cvb hc887) ?_
 refine wp_skip (tn ?_)
 replace hst := hst.pull7.pull7.pull7.pull7.pull4.pull7.pull7.pull7
 replace hst := at_lane_State_close (pv := Pt b715 0) (x := ({ wide := o0.wide, epoch := o0.epoch, store := o0.store, locks := o0.locks, last := t864.2, book := o0.book, open_ := o0.open_, out := o0.out, used := o0.used } : lane_State)) hst z
 replace hst := hst.pull3.pull3.pull3.keep4
 obtain rfl := some_inj hm
 exact ⟨_, ({ wide := o0.wide, epoch := o0.epoch, store := o0.store, locks := o0.locks, last := t864.2, book := o0.book, open_ := o0.open_, out := o0.out, used := o0.used } : lane_State), _, hx1131, (fu 5 (Pt b692 0) z (fu 6 (Pt b699 0) z (fu 7 (Pt b708 0) z z))), hL1132, hst⟩
}
}
 {
 clear hst
 rintro _ w1133 ⟨I1127, z1126, σ1128, hm, rfl, hL1129, hst⟩
 dsimp only [lane_State_give_j4] at hm
 replace f2_0 := f2_0.mono (rd_le hL1129)
 replace f2_1 := f2_1.mono (rd_le hL1129)
 replace f2_2 := f2_2.mono (rd_le hL1129)
 replace f2_3 := f2_3.mono (rd_le hL1129)
 replace f2_4 := f2_4.mono (rd_le hL1129)
 replace f2_5 := f2_5.mono (rd_le hL1129)
 replace f2_6 := f2_6.mono (rd_le hL1129)
 replace f2_7 := f2_7.mono (rd_le hL1129)
 replace f862 := f862.mono (ro_le hL1129)
 replace f863 := f863.mono (ro_le hL1129)
 replace hI0 := hI0.trans hL1129
 refine wp_seq (wrl (wv (Pt b692 1) z z (x_field z underlying49 z sizeOf28 z) (wv (.agg #[U6 a2.ID.Session, U6 a2.ID.Seq]) z z (x_loadN (cs := [U6 a2.ID.Session, U6 a2.ID.Seq]) z isAgg28 sizeOf28 (hst.bcs0 1 z)) (wv (.agg #[I6 z840, U6 a2.Epoch, U6 a1, Zs, Zs]) z z (x_loadN (cs := [I6 z840, U6 a2.Epoch, U6 a1, Zs, Zs]) z isAgg33 sizeOf33 (hst.bcs2 0 z)) (wv (.agg #[U1 (4:Int), U6 a2.ID.Session, U6 a2.ID.Seq, I6 z840, U6 a2.Epoch, U6 a1, Zs, Zs]) z z (by kernel_rfl) ?_)))))
 replace hst := hst.pull1
 obtain ⟨w1136, hr1137, hst⟩ := hst.bx [U1 (4:Int), U6 a2.ID.Session, U6 a2.ID.Seq, I6 z840, U6 a2.Epoch, U6 a1, Zs, Zs] sizeOf35 z (oC z (oC z (oC z (oC z (oC z (oC z (oC (one_of_sliceV (ro_sliceV f862)) (oC (one_of_sliceV (ro_sliceV f863)) oN)))))))) (by kernel_rfl)
 refine wl_unit z z (x_unit hr1137) ?_
 refine wl_nil (tn (wp_ret ?_))
 replace hst := hst.pull3
 replace hst := objO_some hst
 obtain rfl := some_inj hm
 refine post_ret (vs := [.agg #[U1 (4:Int), U6 a2.ID.Session, U6 a2.ID.Seq, I6 z840, U6 a2.Epoch, U6 a1, Zs, Zs]]) results55 (rvs_cons (rv_cell (cs := [U1 (4:Int), U6 a2.ID.Session, U6 a2.ID.Seq, I6 z840, U6 a2.Epoch, U6 a1, Zs, Zs]) z isAgg35 sizeOf35 (hst.bcs1 0 z)) rvs_nil) ?_
 exact ⟨_, Zs, Zs, z, hI0, f862, f863, hst.keep1⟩
}
}
}
}
}
}

theorem lane_State_Apply_ref {w0 w : World} {I : HL} {R : SP} {a0 : (Option lane_State)} {p0 : Value} {a1 : Int} {a2 : api_Command} {r2_0 : Value} {r2_1 : Value} {r2_2 : Value} {r2_3 : Value} {r2_4 : Value} {r2_5 : Value} {r2_6 : Value} {r2_7 : Value} (f2_0 : Ro tyF64 I r2_0 a2.Hold.Gets) (f2_1 : Ro tyF2 I r2_1 a2.Hold.Scans) (f2_2 : Ro tyF64 I r2_2 a2.Hold.Puts) (f2_3 : Ro (tyInt .u8) I r2_3 a2.Hold.Data) (f2_4 : Ro ty_api_Write I r2_4 a2.Writes) (f2_5 : Ro ty_api_Got I r2_5 a2.R.Gots) (f2_6 : Ro (tySl ty_api_Pair) I r2_6 a2.R.Scans) (f2_7 : Ro ty_api_Part I r2_7 a2.Parts) (hst : St w0 w I [objO at_lane_State p0 a0] R) {r : (api_Effect × (Option lane_State))} (hm : lane_State_Apply a0 a1 a2 = some r) :
  Calls prog 14 #[p0, U6 a1, .agg #[U1 a2.Kind, U6 a2.ID.Session, U6 a2.ID.Seq, U6 a2.Epoch, U6 a2.Index, I6 a2.E, U6 a2.Hold.ID.Session, U6 a2.Hold.ID.Seq, U6 a2.Hold.Epoch, r2_0, r2_1, r2_2, r2_3, r2_4, I6 a2.R.E, U6 a2.R.Epoch, U6 a2.R.Index, r2_5, r2_6, U6 a2.Shards, r2_7, U6 a2.Rule.ID, I6 a2.Rule.From, I6 a2.Rule.To, F6 a2.Rule.Lo, F6 a2.Rule.Hi, U6 a2.Rule.Authority, I6 a2.Rule.Quota, .bool a2.On]] w fun e w' => ∃ (I' : HL) (q0_0 : Value) (q0_1 : Value), e = .returned (.agg #[U1 r.1.Kind, U6 r.1.ID.Session, U6 r.1.ID.Seq, I6 r.1.R.E, U6 r.1.R.Epoch, U6 r.1.R.Index, q0_0, q0_1]) ∧ I.le I' ∧ Ro ty_api_Got I' q0_0 r.1.R.Gots ∧ Ro (tySl ty_api_Pair) I' q0_1 r.1.R.Scans ∧ St w0 w' I' [objO at_lane_State p0 r.2] R := by {
 rcases a0 with _ | o0
 {
 obtain ⟨rfl, hst'⟩ := objO_none hst
 clear hst
 have hst := hst'
 clear hst'
 dsimp only [lane_State_Apply] at hm
 refine calls_start (args := [.pointer none, U6 a1, .agg #[U1 a2.Kind, U6 a2.ID.Session, U6 a2.ID.Seq, U6 a2.Epoch, U6 a2.Index, I6 a2.E, U6 a2.Hold.ID.Session, U6 a2.Hold.ID.Seq, U6 a2.Hold.Epoch, r2_0, r2_1, r2_2, r2_3, r2_4, I6 a2.R.E, U6 a2.R.Epoch, U6 a2.R.Index, r2_5, r2_6, U6 a2.Shards, r2_7, U6 a2.Rule.ID, I6 a2.Rule.From, I6 a2.Rule.To, F6 a2.Rule.Lo, F6 a2.Rule.Hi, U6 a2.Rule.Authority, I6 a2.Rule.Quota, .bool a2.On]]) func14 z ntmps14 (Nat.le_of_ble_eq_true z) ?_
 have hI0 := HL.le.refl I
 refine wp_seq (wrl ?_)
 obtain ⟨b216, w217, ew218, eb219, hst⟩ := hst.box [U1 a2.Kind, U6 a2.ID.Session, U6 a2.ID.Seq, U6 a2.Epoch, U6 a2.Index, I6 a2.E, U6 a2.Hold.ID.Session, U6 a2.Hold.ID.Seq, U6 a2.Hold.Epoch, r2_0, r2_1, r2_2, r2_3, r2_4, I6 a2.R.E, U6 a2.R.Epoch, U6 a2.R.Index, r2_5, r2_6, U6 a2.Shards, r2_7, U6 a2.Rule.ID, I6 a2.Rule.From, I6 a2.Rule.To, F6 a2.Rule.Lo, F6 a2.Rule.Hi, U6 a2.Rule.Authority, I6 a2.Rule.Quota, .bool a2.On] 49
 refine wl_run (v := Pt b216 0) (w' := w217) z z (x_al (by kernel_rfl) ew218 eb219) ?_
 obtain ⟨b223, w224, ew225, eb226, hst⟩ := hst.box [Zb, Zu, Zu, Zi, Zu, Zu, Zs, Zs] 35
 refine wl_run (v := Pt b223 0) (w' := w224) z z (x_al (by kernel_rfl) ew225 eb226) ?_
 refine wl_nil (tn (wp_seq (wp_seq (wrl (wv (.pointer none) z z z (wv (.bool true) z z (by kernel_rfl) (wl_nil (tn ?_))))))))
 refine wp_ift z ?_
 refine wp_seq (wrl (wv (.agg #[Zb, Zu, Zu, Zi, Zu, Zu, Zs, Zs]) z z (by kernel_rfl) ?_))
 obtain ⟨w230, hr231, hst⟩ := hst.bx [Zb, Zu, Zu, Zi, Zu, Zu, Zs, Zs] sizeOf35 z (oC z (oC z (oC z (oC z (oC z (oC z (oC z (oC z oN)))))))) (by kernel_rfl)
 refine wl_unit z z (x_unit hr231) ?_
 refine wl_nil (tn (wp_ret (then_r ?_)))
 have f232 : Ro ty_api_Got I (.slice none 0 0) [] := ro_nil
 have f233 : Ro (tySl ty_api_Pair) I (.slice none 0 0) [] := ro_nil
 replace hst := hst.objO_nil at_lane_State
 obtain rfl := some_inj hm
 refine post_ret (vs := [.agg #[Zb, Zu, Zu, Zi, Zu, Zu, Zs, Zs]]) results14 (rvs_cons (rv_cell (cs := [Zb, Zu, Zu, Zi, Zu, Zu, Zs, Zs]) z isAgg35 sizeOf35 (hst.bcs1 0 z)) rvs_nil) ?_
 exact ⟨_, Zs, Zs, z, hI0, f232, f233, hst.keep1⟩
}
 {
 replace hst := objO_get hst
 dsimp only [lane_State_Apply] at hm
 refine calls_start (args := [p0, U6 a1, .agg #[U1 a2.Kind, U6 a2.ID.Session, U6 a2.ID.Seq, U6 a2.Epoch, U6 a2.Index, I6 a2.E, U6 a2.Hold.ID.Session, U6 a2.Hold.ID.Seq, U6 a2.Hold.Epoch, r2_0, r2_1, r2_2, r2_3, r2_4, I6 a2.R.E, U6 a2.R.Epoch, U6 a2.R.Index, r2_5, r2_6, U6 a2.Shards, r2_7, U6 a2.Rule.ID, I6 a2.Rule.From, I6 a2.Rule.To, F6 a2.Rule.Lo, F6 a2.Rule.Hi, U6 a2.Rule.Authority, I6 a2.Rule.Quota, .bool a2.On]]) func14 z ntmps14 (Nat.le_of_ble_eq_true z) ?_
 have hI0 := HL.le.refl I
 refine wp_seq (wrl ?_)
 obtain ⟨b234, w235, ew236, eb237, hst⟩ := hst.box [U1 a2.Kind, U6 a2.ID.Session, U6 a2.ID.Seq, U6 a2.Epoch, U6 a2.Index, I6 a2.E, U6 a2.Hold.ID.Session, U6 a2.Hold.ID.Seq, U6 a2.Hold.Epoch, r2_0, r2_1, r2_2, r2_3, r2_4, I6 a2.R.E, U6 a2.R.Epoch, U6 a2.R.Index, r2_5, r2_6, U6 a2.Shards, r2_7, U6 a2.Rule.ID, I6 a2.Rule.From, I6 a2.Rule.To, F6 a2.Rule.Lo, F6 a2.Rule.Hi, U6 a2.Rule.Authority, I6 a2.Rule.Quota, .bool a2.On] 49
 refine wl_run (v := Pt b234 0) (w' := w235) z z (x_al (by kernel_rfl) ew236 eb237) ?_
 obtain ⟨b241, w242, ew243, eb244, hst⟩ := hst.box [Zb, Zu, Zu, Zi, Zu, Zu, Zs, Zs] 35
 refine wl_run (v := Pt b241 0) (w' := w242) z z (x_al (by kernel_rfl) ew243 eb244) ?_
 refine wl_nil (tn (wp_seq (wp_seq (wrl (wv (p0) z z z ?_)))))
 replace hst := hst.pull2
 obtain ⟨b246, v247, v249, v251, v253, v255, v257, v259, rfl, hst'⟩ := at_lane_State_open hst
 clear hst
 have hst := hst'
 clear hst'
 refine wv (.bool false) z z (by kernel_rfl) (wl_nil (tn ?_))
 refine wp_iff z ?_
 refine wp_skip (tn (wp_seq (wp_seq (wrl ?_))))
 refine wv (Pt b234 0) z z (x_field z underlying49 z sizeOf5 z) (wv (.int .u8 a2.Kind) z z (x_load z isAgg5 (hst.bc9 z)) (wl_nil (tn (wp_block (wp_seq (wrl (wv (.bool (a2.Kind == (1:Int))) z z z (wv (.bool (a2.Kind == (1:Int))) z z z (wl_nil (tn ?_))))))))))
 refine bsplit (a2.Kind == (1:Int)) (fun hc261 => ?_) (fun hc261 => ?_)
 {
 replace hm := bif_t hc261 hm
 refine wp_ift (cvb hc261) ?_
 refine wp_seq (wrl (wv (Pt b246 0) z z z (wv (.agg #[U1 a2.Kind, U6 a2.ID.Session, U6 a2.ID.Seq, U6 a2.Epoch, U6 a2.Index, I6 a2.E, U6 a2.Hold.ID.Session, U6 a2.Hold.ID.Seq, U6 a2.Hold.Epoch, r2_0, r2_1, r2_2, r2_3, r2_4, I6 a2.R.E, U6 a2.R.Epoch, U6 a2.R.Index, r2_5, r2_6, U6 a2.Shards, r2_7, U6 a2.Rule.ID, I6 a2.Rule.From, I6 a2.Rule.To, F6 a2.Rule.Lo, F6 a2.Rule.Hi, U6 a2.Rule.Authority, I6 a2.Rule.Quota, .bool a2.On]) z z (x_loadN (cs := [U1 a2.Kind, U6 a2.ID.Session, U6 a2.ID.Seq, U6 a2.Epoch, U6 a2.Index, I6 a2.E, U6 a2.Hold.ID.Session, U6 a2.Hold.ID.Seq, U6 a2.Hold.Epoch, r2_0, r2_1, r2_2, r2_3, r2_4, I6 a2.R.E, U6 a2.R.Epoch, U6 a2.R.Index, r2_5, r2_6, U6 a2.Shards, r2_7, U6 a2.Rule.ID, I6 a2.Rule.From, I6 a2.Rule.To, F6 a2.Rule.Lo, F6 a2.Rule.Hi, U6 a2.Rule.Authority, I6 a2.Rule.Quota, .bool a2.On]) z isAgg49 sizeOf49 (hst.bcs9 0 z)) ?_)))
 replace hst := hst.pull7.pull7.pull7.pull7.pull7.pull7.pull7.pull7
 replace hst := at_lane_State_close (pv := Pt b246 0) (x := o0) hst z
 replace hst := objO_some hst
 obtain ⟨t262, ht263, hm⟩ := bind_some hm
 refine wc call47 [Pt b246 0, .agg #[U1 a2.Kind, U6 a2.ID.Session, U6 a2.ID.Seq, U6 a2.Epoch, U6 a2.Index, I6 a2.E, U6 a2.Hold.ID.Session, U6 a2.Hold.ID.Seq, U6 a2.Hold.Epoch, r2_0, r2_1, r2_2, r2_3, r2_4, I6 a2.R.E, U6 a2.R.Epoch, U6 a2.R.Index, r2_5, r2_6, U6 a2.Shards, r2_7, U6 a2.Rule.ID, I6 a2.Rule.From, I6 a2.Rule.To, F6 a2.Rule.Lo, F6 a2.Rule.Hi, U6 a2.Rule.Authority, I6 a2.Rule.Quota, .bool a2.On]] z z z ?_
 refine (lane_State_shut_ref (f2_0.mono ro_rd) (f2_1.mono ro_rd) (f2_2.mono ro_rd) (f2_3.mono ro_rd) (f2_4.mono ro_rd) (f2_5.mono ro_rd) (f2_6.mono ro_rd) (f2_7.mono ro_rd) hst.to1 ht263).mono ?_
 rintro _ w264 ⟨I265, v267, v269, rfl, hI266, hst⟩
 refine ⟨_, z, ?_⟩
 replace hst := hst.of3
 replace f2_0 := f2_0.mono (ro_le hI266)
 replace f2_1 := f2_1.mono (ro_le hI266)
 replace f2_2 := f2_2.mono (ro_le hI266)
 replace f2_3 := f2_3.mono (ro_le hI266)
 replace f2_4 := f2_4.mono (ro_le hI266)
 replace f2_5 := f2_5.mono (ro_le hI266)
 replace f2_6 := f2_6.mono (ro_le hI266)
 replace f2_7 := f2_7.mono (ro_le hI266)
 replace hI0 := hI0.trans hI266
 replace hst := hst.pull2
 rcases he272 : t262.2 with _ | y271
 · rw [he272] at hm; cases hm
 rw [he272] at hm hst; dsimp only at hm; replace hst := objO_get hst
 replace hst := hst.pull3
 obtain ⟨w273, hr274, hst⟩ := hst.bx [U1 t262.1.Kind, U6 t262.1.ID.Session, U6 t262.1.ID.Seq, I6 t262.1.R.E, U6 t262.1.R.Epoch, U6 t262.1.R.Index, v267, v269] sizeOf35 z (oC z (oC z (oC z (oC z (oC z (oC z (oC (one_of_sliceV hst.sv2) (oC (one_of_sliceV hst.sv3) oN)))))))) (by kernel_rfl)
 refine wl_unit z z (x_unit hr274) ?_
 refine wl_nil (tn (wp_ret (blk_r (then_r ?_))))
 replace hst := hst.pull2
 obtain ⟨I275, hI276, f277, hst⟩ := hst.own_fix
 replace f2_0 := f2_0.mono (ro_le hI276)
 replace f2_1 := f2_1.mono (ro_le hI276)
 replace f2_2 := f2_2.mono (ro_le hI276)
 replace f2_3 := f2_3.mono (ro_le hI276)
 replace f2_4 := f2_4.mono (ro_le hI276)
 replace f2_5 := f2_5.mono (ro_le hI276)
 replace f2_6 := f2_6.mono (ro_le hI276)
 replace f2_7 := f2_7.mono (ro_le hI276)
 replace hI0 := hI0.trans hI276
 replace hst := hst.pull2
 obtain ⟨I278, hI279, f280, hst⟩ := hst.own_fix
 replace f2_0 := f2_0.mono (ro_le hI279)
 replace f2_1 := f2_1.mono (ro_le hI279)
 replace f2_2 := f2_2.mono (ro_le hI279)
 replace f2_3 := f2_3.mono (ro_le hI279)
 replace f2_4 := f2_4.mono (ro_le hI279)
 replace f2_5 := f2_5.mono (ro_le hI279)
 replace f2_6 := f2_6.mono (ro_le hI279)
 replace f2_7 := f2_7.mono (ro_le hI279)
 replace f277 := f277.mono (ro_le hI279)
 replace hI0 := hI0.trans hI279
 replace hst := hst.pull1
 replace hst := objO_some hst
 obtain rfl := some_inj hm
 refine post_ret (vs := [.agg #[U1 t262.1.Kind, U6 t262.1.ID.Session, U6 t262.1.ID.Seq, I6 t262.1.R.E, U6 t262.1.R.Epoch, U6 t262.1.R.Index, v267, v269]]) results14 (rvs_cons (rv_cell (cs := [U1 t262.1.Kind, U6 t262.1.ID.Session, U6 t262.1.ID.Seq, I6 t262.1.R.E, U6 t262.1.R.Epoch, U6 t262.1.R.Index, v267, v269]) z isAgg35 sizeOf35 (hst.bcs1 0 z)) rvs_nil) ?_
 exact ⟨_, v267, v269, z, hI0, f277, f280, hst.keep1⟩
}
 {
 replace hm := bif_f hc261 hm
 refine wp_iff (cvb hc261) ?_
 refine wp_seq (wrl (wv (.bool (a2.Kind == (2:Int))) z z z (wv (.bool (a2.Kind == (2:Int))) z z z (wl_nil (tn ?_)))))
 refine bsplit (a2.Kind == (2:Int)) (fun hc281 => ?_) (fun hc281 => ?_)
 {
 replace hm := bif_t hc281 hm
 refine wp_ift (cvb hc281) ?_
 refine wp_seq (wrl (wv (Pt b246 0) z z z (wv (.agg #[U1 a2.Kind, U6 a2.ID.Session, U6 a2.ID.Seq, U6 a2.Epoch, U6 a2.Index, I6 a2.E, U6 a2.Hold.ID.Session, U6 a2.Hold.ID.Seq, U6 a2.Hold.Epoch, r2_0, r2_1, r2_2, r2_3, r2_4, I6 a2.R.E, U6 a2.R.Epoch, U6 a2.R.Index, r2_5, r2_6, U6 a2.Shards, r2_7, U6 a2.Rule.ID, I6 a2.Rule.From, I6 a2.Rule.To, F6 a2.Rule.Lo, F6 a2.Rule.Hi, U6 a2.Rule.Authority, I6 a2.Rule.Quota, .bool a2.On]) z z (x_loadN (cs := [U1 a2.Kind, U6 a2.ID.Session, U6 a2.ID.Seq, U6 a2.Epoch, U6 a2.Index, I6 a2.E, U6 a2.Hold.ID.Session, U6 a2.Hold.ID.Seq, U6 a2.Hold.Epoch, r2_0, r2_1, r2_2, r2_3, r2_4, I6 a2.R.E, U6 a2.R.Epoch, U6 a2.R.Index, r2_5, r2_6, U6 a2.Shards, r2_7, U6 a2.Rule.ID, I6 a2.Rule.From, I6 a2.Rule.To, F6 a2.Rule.Lo, F6 a2.Rule.Hi, U6 a2.Rule.Authority, I6 a2.Rule.Quota, .bool a2.On]) z isAgg49 sizeOf49 (hst.bcs9 0 z)) ?_)))
 replace hst := hst.pull7.pull7.pull7.pull7.pull7.pull7.pull7.pull7
 replace hst := at_lane_State_close (pv := Pt b246 0) (x := o0) hst z
 replace hst := objO_some hst
 obtain ⟨t282, ht283, hm⟩ := bind_some hm
 refine wc call48 [Pt b246 0, .agg #[U1 a2.Kind, U6 a2.ID.Session, U6 a2.ID.Seq, U6 a2.Epoch, U6 a2.Index, I6 a2.E, U6 a2.Hold.ID.Session, U6 a2.Hold.ID.Seq, U6 a2.Hold.Epoch, r2_0, r2_1, r2_2, r2_3, r2_4, I6 a2.R.E, U6 a2.R.Epoch, U6 a2.R.Index, r2_5, r2_6, U6 a2.Shards, r2_7, U6 a2.Rule.ID, I6 a2.Rule.From, I6 a2.Rule.To, F6 a2.Rule.Lo, F6 a2.Rule.Hi, U6 a2.Rule.Authority, I6 a2.Rule.Quota, .bool a2.On]] z z z ?_
 refine (lane_State_prepare_ref (f2_0.mono ro_rd) (f2_1.mono ro_rd) (f2_2.mono ro_rd) (f2_3.mono ro_rd) (f2_4.mono ro_rd) (f2_5.mono ro_rd) (f2_6.mono ro_rd) (f2_7.mono ro_rd) hst.to1 ht283).mono ?_
 rintro _ w284 ⟨I285, v287, v289, rfl, hI286, hst⟩
 refine ⟨_, z, ?_⟩
 replace hst := hst.of3
 replace f2_0 := f2_0.mono (ro_le hI286)
 replace f2_1 := f2_1.mono (ro_le hI286)
 replace f2_2 := f2_2.mono (ro_le hI286)
 replace f2_3 := f2_3.mono (ro_le hI286)
 replace f2_4 := f2_4.mono (ro_le hI286)
 replace f2_5 := f2_5.mono (ro_le hI286)
 replace f2_6 := f2_6.mono (ro_le hI286)
 replace f2_7 := f2_7.mono (ro_le hI286)
 replace hI0 := hI0.trans hI286
 replace hst := hst.pull2
 rcases he292 : t282.2 with _ | y291
 · rw [he292] at hm; cases hm
 rw [he292] at hm hst; dsimp only at hm; replace hst := objO_get hst
 replace hst := hst.pull3
 obtain ⟨w293, hr294, hst⟩ := hst.bx [U1 t282.1.Kind, U6 t282.1.ID.Session, U6 t282.1.ID.Seq, I6 t282.1.R.E, U6 t282.1.R.Epoch, U6 t282.1.R.Index, v287, v289] sizeOf35 z (oC z (oC z (oC z (oC z (oC z (oC z (oC (one_of_sliceV hst.sv2) (oC (one_of_sliceV hst.sv3) oN)))))))) (by kernel_rfl)
 refine wl_unit z z (x_unit hr294) ?_
 refine wl_nil (tn (wp_ret (blk_r (then_r ?_))))
 replace hst := hst.pull2
 obtain ⟨I295, hI296, f297, hst⟩ := hst.own_fix
 replace f2_0 := f2_0.mono (ro_le hI296)
 replace f2_1 := f2_1.mono (ro_le hI296)
 replace f2_2 := f2_2.mono (ro_le hI296)
 replace f2_3 := f2_3.mono (ro_le hI296)
 replace f2_4 := f2_4.mono (ro_le hI296)
 replace f2_5 := f2_5.mono (ro_le hI296)
 replace f2_6 := f2_6.mono (ro_le hI296)
 replace f2_7 := f2_7.mono (ro_le hI296)
 replace hI0 := hI0.trans hI296
 replace hst := hst.pull2
 obtain ⟨I298, hI299, f300, hst⟩ := hst.own_fix
 replace f2_0 := f2_0.mono (ro_le hI299)
 replace f2_1 := f2_1.mono (ro_le hI299)
 replace f2_2 := f2_2.mono (ro_le hI299)
 replace f2_3 := f2_3.mono (ro_le hI299)
 replace f2_4 := f2_4.mono (ro_le hI299)
 replace f2_5 := f2_5.mono (ro_le hI299)
 replace f2_6 := f2_6.mono (ro_le hI299)
 replace f2_7 := f2_7.mono (ro_le hI299)
 replace f297 := f297.mono (ro_le hI299)
 replace hI0 := hI0.trans hI299
 replace hst := hst.pull1
 replace hst := objO_some hst
 obtain rfl := some_inj hm
 refine post_ret (vs := [.agg #[U1 t282.1.Kind, U6 t282.1.ID.Session, U6 t282.1.ID.Seq, I6 t282.1.R.E, U6 t282.1.R.Epoch, U6 t282.1.R.Index, v287, v289]]) results14 (rvs_cons (rv_cell (cs := [U1 t282.1.Kind, U6 t282.1.ID.Session, U6 t282.1.ID.Seq, I6 t282.1.R.E, U6 t282.1.R.Epoch, U6 t282.1.R.Index, v287, v289]) z isAgg35 sizeOf35 (hst.bcs1 0 z)) rvs_nil) ?_
 exact ⟨_, v287, v289, z, hI0, f297, f300, hst.keep1⟩
}
 {
 replace hm := bif_f hc281 hm
 refine wp_iff (cvb hc281) ?_
 refine wp_seq (wrl (wv (.bool (a2.Kind == (3:Int))) z z z (wv (.bool (a2.Kind == (3:Int))) z z z (wl_nil (tn ?_)))))
 refine bsplit (a2.Kind == (3:Int)) (fun hc301 => ?_) (fun hc301 => ?_)
 {
 replace hm := bif_t hc301 hm
 refine wp_ift (cvb hc301) ?_
 refine wp_seq (wrl (wv (Pt b246 0) z z z (wv (.agg #[U1 a2.Kind, U6 a2.ID.Session, U6 a2.ID.Seq, U6 a2.Epoch, U6 a2.Index, I6 a2.E, U6 a2.Hold.ID.Session, U6 a2.Hold.ID.Seq, U6 a2.Hold.Epoch, r2_0, r2_1, r2_2, r2_3, r2_4, I6 a2.R.E, U6 a2.R.Epoch, U6 a2.R.Index, r2_5, r2_6, U6 a2.Shards, r2_7, U6 a2.Rule.ID, I6 a2.Rule.From, I6 a2.Rule.To, F6 a2.Rule.Lo, F6 a2.Rule.Hi, U6 a2.Rule.Authority, I6 a2.Rule.Quota, .bool a2.On]) z z (x_loadN (cs := [U1 a2.Kind, U6 a2.ID.Session, U6 a2.ID.Seq, U6 a2.Epoch, U6 a2.Index, I6 a2.E, U6 a2.Hold.ID.Session, U6 a2.Hold.ID.Seq, U6 a2.Hold.Epoch, r2_0, r2_1, r2_2, r2_3, r2_4, I6 a2.R.E, U6 a2.R.Epoch, U6 a2.R.Index, r2_5, r2_6, U6 a2.Shards, r2_7, U6 a2.Rule.ID, I6 a2.Rule.From, I6 a2.Rule.To, F6 a2.Rule.Lo, F6 a2.Rule.Hi, U6 a2.Rule.Authority, I6 a2.Rule.Quota, .bool a2.On]) z isAgg49 sizeOf49 (hst.bcs9 0 z)) ?_)))
 replace hst := hst.pull7.pull7.pull7.pull7.pull7.pull7.pull7.pull7
 replace hst := at_lane_State_close (pv := Pt b246 0) (x := o0) hst z
 replace hst := objO_some hst
 obtain ⟨t302, ht303, hm⟩ := bind_some hm
 refine wc call49 [Pt b246 0, .agg #[U1 a2.Kind, U6 a2.ID.Session, U6 a2.ID.Seq, U6 a2.Epoch, U6 a2.Index, I6 a2.E, U6 a2.Hold.ID.Session, U6 a2.Hold.ID.Seq, U6 a2.Hold.Epoch, r2_0, r2_1, r2_2, r2_3, r2_4, I6 a2.R.E, U6 a2.R.Epoch, U6 a2.R.Index, r2_5, r2_6, U6 a2.Shards, r2_7, U6 a2.Rule.ID, I6 a2.Rule.From, I6 a2.Rule.To, F6 a2.Rule.Lo, F6 a2.Rule.Hi, U6 a2.Rule.Authority, I6 a2.Rule.Quota, .bool a2.On]] z z z ?_
 refine (lane_State_finish_ref (f2_0.mono ro_rd) (f2_1.mono ro_rd) (f2_2.mono ro_rd) (f2_3.mono ro_rd) (f2_4.mono ro_rd) (f2_5.mono ro_rd) (f2_6.mono ro_rd) (f2_7.mono ro_rd) hst.to1 ht303).mono ?_
 rintro _ w304 ⟨I305, v307, v309, rfl, hI306, hst⟩
 refine ⟨_, z, ?_⟩
 replace hst := hst.of3
 replace f2_0 := f2_0.mono (ro_le hI306)
 replace f2_1 := f2_1.mono (ro_le hI306)
 replace f2_2 := f2_2.mono (ro_le hI306)
 replace f2_3 := f2_3.mono (ro_le hI306)
 replace f2_4 := f2_4.mono (ro_le hI306)
 replace f2_5 := f2_5.mono (ro_le hI306)
 replace f2_6 := f2_6.mono (ro_le hI306)
 replace f2_7 := f2_7.mono (ro_le hI306)
 replace hI0 := hI0.trans hI306
 replace hst := hst.pull2
 rcases he312 : t302.2 with _ | y311
 · rw [he312] at hm; cases hm
 rw [he312] at hm hst; dsimp only at hm; replace hst := objO_get hst
 replace hst := hst.pull3
 obtain ⟨w313, hr314, hst⟩ := hst.bx [U1 t302.1.Kind, U6 t302.1.ID.Session, U6 t302.1.ID.Seq, I6 t302.1.R.E, U6 t302.1.R.Epoch, U6 t302.1.R.Index, v307, v309] sizeOf35 z (oC z (oC z (oC z (oC z (oC z (oC z (oC (one_of_sliceV hst.sv2) (oC (one_of_sliceV hst.sv3) oN)))))))) (by kernel_rfl)
 refine wl_unit z z (x_unit hr314) ?_
 refine wl_nil (tn (wp_ret (blk_r (then_r ?_))))
 replace hst := hst.pull2
 obtain ⟨I315, hI316, f317, hst⟩ := hst.own_fix
 replace f2_0 := f2_0.mono (ro_le hI316)
 replace f2_1 := f2_1.mono (ro_le hI316)
 replace f2_2 := f2_2.mono (ro_le hI316)
 replace f2_3 := f2_3.mono (ro_le hI316)
 replace f2_4 := f2_4.mono (ro_le hI316)
 replace f2_5 := f2_5.mono (ro_le hI316)
 replace f2_6 := f2_6.mono (ro_le hI316)
 replace f2_7 := f2_7.mono (ro_le hI316)
 replace hI0 := hI0.trans hI316
 replace hst := hst.pull2
 obtain ⟨I318, hI319, f320, hst⟩ := hst.own_fix
 replace f2_0 := f2_0.mono (ro_le hI319)
 replace f2_1 := f2_1.mono (ro_le hI319)
 replace f2_2 := f2_2.mono (ro_le hI319)
 replace f2_3 := f2_3.mono (ro_le hI319)
 replace f2_4 := f2_4.mono (ro_le hI319)
 replace f2_5 := f2_5.mono (ro_le hI319)
 replace f2_6 := f2_6.mono (ro_le hI319)
 replace f2_7 := f2_7.mono (ro_le hI319)
 replace f317 := f317.mono (ro_le hI319)
 replace hI0 := hI0.trans hI319
 replace hst := hst.pull1
 replace hst := objO_some hst
 obtain rfl := some_inj hm
 refine post_ret (vs := [.agg #[U1 t302.1.Kind, U6 t302.1.ID.Session, U6 t302.1.ID.Seq, I6 t302.1.R.E, U6 t302.1.R.Epoch, U6 t302.1.R.Index, v307, v309]]) results14 (rvs_cons (rv_cell (cs := [U1 t302.1.Kind, U6 t302.1.ID.Session, U6 t302.1.ID.Seq, I6 t302.1.R.E, U6 t302.1.R.Epoch, U6 t302.1.R.Index, v307, v309]) z isAgg35 sizeOf35 (hst.bcs1 0 z)) rvs_nil) ?_
 exact ⟨_, v307, v309, z, hI0, f317, f320, hst.keep1⟩
}
 {
 replace hm := bif_f hc301 hm
 refine wp_iff (cvb hc301) ?_
 refine wp_seq (wrl (wv (.bool (a2.Kind == (4:Int))) z z z (wv (.bool (a2.Kind == (4:Int))) z z z (wl_nil (tn ?_)))))
 refine bsplit (a2.Kind == (4:Int)) (fun hc321 => ?_) (fun hc321 => ?_)
 {
 replace hm := bif_t hc321 hm
 refine wp_ift (cvb hc321) ?_
 refine wp_seq (wrl (wv (Pt b246 0) z z z (wv (.int .u64 a1) z z z (wv (.agg #[U1 a2.Kind, U6 a2.ID.Session, U6 a2.ID.Seq, U6 a2.Epoch, U6 a2.Index, I6 a2.E, U6 a2.Hold.ID.Session, U6 a2.Hold.ID.Seq, U6 a2.Hold.Epoch, r2_0, r2_1, r2_2, r2_3, r2_4, I6 a2.R.E, U6 a2.R.Epoch, U6 a2.R.Index, r2_5, r2_6, U6 a2.Shards, r2_7, U6 a2.Rule.ID, I6 a2.Rule.From, I6 a2.Rule.To, F6 a2.Rule.Lo, F6 a2.Rule.Hi, U6 a2.Rule.Authority, I6 a2.Rule.Quota, .bool a2.On]) z z (x_loadN (cs := [U1 a2.Kind, U6 a2.ID.Session, U6 a2.ID.Seq, U6 a2.Epoch, U6 a2.Index, I6 a2.E, U6 a2.Hold.ID.Session, U6 a2.Hold.ID.Seq, U6 a2.Hold.Epoch, r2_0, r2_1, r2_2, r2_3, r2_4, I6 a2.R.E, U6 a2.R.Epoch, U6 a2.R.Index, r2_5, r2_6, U6 a2.Shards, r2_7, U6 a2.Rule.ID, I6 a2.Rule.From, I6 a2.Rule.To, F6 a2.Rule.Lo, F6 a2.Rule.Hi, U6 a2.Rule.Authority, I6 a2.Rule.Quota, .bool a2.On]) z isAgg49 sizeOf49 (hst.bcs9 0 z)) ?_))))
 replace hst := hst.pull7.pull7.pull7.pull7.pull7.pull7.pull7.pull7
 replace hst := at_lane_State_close (pv := Pt b246 0) (x := o0) hst z
 replace hst := objO_some hst
 obtain ⟨t322, ht323, hm⟩ := bind_some hm
 refine wc call50 [Pt b246 0, U6 a1, .agg #[U1 a2.Kind, U6 a2.ID.Session, U6 a2.ID.Seq, U6 a2.Epoch, U6 a2.Index, I6 a2.E, U6 a2.Hold.ID.Session, U6 a2.Hold.ID.Seq, U6 a2.Hold.Epoch, r2_0, r2_1, r2_2, r2_3, r2_4, I6 a2.R.E, U6 a2.R.Epoch, U6 a2.R.Index, r2_5, r2_6, U6 a2.Shards, r2_7, U6 a2.Rule.ID, I6 a2.Rule.From, I6 a2.Rule.To, F6 a2.Rule.Lo, F6 a2.Rule.Hi, U6 a2.Rule.Authority, I6 a2.Rule.Quota, .bool a2.On]] z z z ?_
 refine (lane_State_decide_ref f2_0 f2_1 f2_2 f2_3 f2_4 f2_5 f2_6 f2_7 hst.to1 ht323).mono ?_
 rintro _ w324 ⟨I325, v327, v330, rfl, hI326, f329, f332, hst⟩
 refine ⟨_, z, ?_⟩
 replace hst := hst.of1
 replace f2_0 := f2_0.mono (ro_le hI326)
 replace f2_1 := f2_1.mono (ro_le hI326)
 replace f2_2 := f2_2.mono (ro_le hI326)
 replace f2_3 := f2_3.mono (ro_le hI326)
 replace f2_4 := f2_4.mono (ro_le hI326)
 replace f2_5 := f2_5.mono (ro_le hI326)
 replace f2_6 := f2_6.mono (ro_le hI326)
 replace f2_7 := f2_7.mono (ro_le hI326)
 replace hI0 := hI0.trans hI326
 rcases he334 : t322.2 with _ | y333
 · rw [he334] at hm; cases hm
 rw [he334] at hm hst; dsimp only at hm; replace hst := objO_get hst
 replace hst := hst.pull1
 obtain ⟨w335, hr336, hst⟩ := hst.bx [U1 t322.1.Kind, U6 t322.1.ID.Session, U6 t322.1.ID.Seq, I6 t322.1.R.E, U6 t322.1.R.Epoch, U6 t322.1.R.Index, v327, v330] sizeOf35 z (oC z (oC z (oC z (oC z (oC z (oC z (oC (one_of_sliceV (ro_sliceV f329)) (oC (one_of_sliceV (ro_sliceV f332)) oN)))))))) (by kernel_rfl)
 refine wl_unit z z (x_unit hr336) ?_
 refine wl_nil (tn (wp_ret (blk_r (then_r ?_))))
 replace hst := hst.pull1
 replace hst := objO_some hst
 obtain rfl := some_inj hm
 refine post_ret (vs := [.agg #[U1 t322.1.Kind, U6 t322.1.ID.Session, U6 t322.1.ID.Seq, I6 t322.1.R.E, U6 t322.1.R.Epoch, U6 t322.1.R.Index, v327, v330]]) results14 (rvs_cons (rv_cell (cs := [U1 t322.1.Kind, U6 t322.1.ID.Session, U6 t322.1.ID.Seq, I6 t322.1.R.E, U6 t322.1.R.Epoch, U6 t322.1.R.Index, v327, v330]) z isAgg35 sizeOf35 (hst.bcs1 0 z)) rvs_nil) ?_
 exact ⟨_, v327, v330, z, hI0, f329, f332, hst.keep1⟩
}
 {
 replace hm := bif_f hc321 hm
 refine wp_iff (cvb hc321) ?_
 refine wp_seq (wrl (wv (.bool (a2.Kind == (5:Int))) z z z (wv (.bool (a2.Kind == (5:Int))) z z z (wl_nil (tn ?_)))))
 refine bsplit (a2.Kind == (5:Int)) (fun hc337 => ?_) (fun hc337 => ?_)
 {
 replace hm := bif_t hc337 hm
 refine wp_ift (cvb hc337) ?_
 refine wp_seq (wrl (wv (Pt b246 0) z z z (wv (Pt b234 1) z z (x_field z underlying49 z sizeOf28 z) (wv (.agg #[U6 a2.ID.Session, U6 a2.ID.Seq]) z z (x_loadN (cs := [U6 a2.ID.Session, U6 a2.ID.Seq]) z isAgg28 sizeOf28 (hst.bcs9 1 z)) ?_))))
 replace hst := hst.pull7.pull7.pull7.pull7.pull7.pull7.pull7.pull7
 replace hst := at_lane_State_close (pv := Pt b246 0) (x := o0) hst z
 replace hst := objO_some hst
 obtain ⟨t338, ht339, hm⟩ := bind_some hm
 refine wc call51 [Pt b246 0, .agg #[U6 a2.ID.Session, U6 a2.ID.Seq]] z z z ?_
 refine (lane_State_find_ref hst.to1 ht339).mono ?_
 rintro _ w340 ⟨rfl, hst⟩
 refine ⟨_, z, ?_⟩
 replace hst := hst.of1
 replace hst := objO_get hst
 refine wv (.tuple #[I6 t338.1, .bool t338.2]) z z z (wv (.int .i64 t338.1) z z z (wv (.bool t338.2) z z z (wv (.int .i64 t338.1) z z z (wv (.bool t338.2) z z z (wl_nil (tn (wp_seq (wrl (wv (.bool t338.2) z z z (wl_nil (tn ?_)))))))))))
 refine bsplit t338.2 (fun hc343 => ?_) (fun hc343 => ?_)
 {
 replace hm := bif_t hc343 hm
 refine wp_ift (cvb hc343) ?_
 refine wrl (wv (Pt b246 0) z z z (wv (Pt b246 0) z z z ?_))
 obtain ⟨b344, v345, v347, v349, v351, v353, v355, v357, e359, hst'⟩ := at_lane_State_open hst
 clear hst
 have e359 := ptr_inj e359
 subst e359
 have hst := hst'
 clear hst'
 refine wv (Pt b246 0) z z z (wv (Pt b246 6) z z (x_field z underlying111 z sizeOf65 z) (wv (v353) z z (x_load z isAgg65 (hst.bc0 z)) (wv (.int .i64 t338.1) z z z (wv (.int .i64 t338.1) z z z (wv (.int .i64 (i64.wrap (t338.1 + (1:Int)))) z z z ?_)))))
 replace hst := hst.pull5
 obtain ⟨t360, ht361, hm⟩ := bind_some hm
 refine wc call52 [v353, I6 t338.1, I6 (i64.wrap (t338.1 + (1:Int)))] z z z ?_
 refine (slices_Delete_api_Decision_api_Decision_ref hst.to1 ht361).mono ?_
 rintro _ w362 ⟨v365, rfl, hst⟩
 refine ⟨_, z, ?_⟩
 replace hst := hst.of1
 refine wv (Pt b246 0) z z z (wv (Pt b246 6) z z (x_field z underlying111 z sizeOf65 z) ?_)
 replace hst := hst.pull1
 obtain ⟨w367, hr368, hst⟩ := hst.boxStore1 (P := prog) (t := 65) (cs' := [I6 o0.wide, U6 o0.epoch, v345, v347, v349, v351, v365, v355, v357]) 6 v365 (one_of_sliceV hst.sv1) sizeOf65 z z
 refine wl_unit z z (x_unit hr368) ?_
 refine wl_nil (blk_n (tn (wp_seq (wrl (wv (.agg #[Zb, Zu, Zu, Zi, Zu, Zu, Zs, Zs]) z z (by kernel_rfl) ?_)))))
 replace hst := hst.pull8
 obtain ⟨w371, hr372, hst⟩ := hst.bx [Zb, Zu, Zu, Zi, Zu, Zu, Zs, Zs] sizeOf35 z (oC z (oC z (oC z (oC z (oC z (oC z (oC z (oC z oN)))))))) (by kernel_rfl)
 refine wl_unit z z (x_unit hr372) ?_
 refine wl_nil (tn (wp_ret ?_))
 have f373 : Ro ty_api_Got I (.slice none 0 0) [] := ro_nil
 have f374 : Ro (tySl ty_api_Pair) I (.slice none 0 0) [] := ro_nil
 replace hst := hst.pull8.pull8.pull4.pull8.pull8.pull8.pull8.pull8
 replace hst := at_lane_State_close (pv := Pt b246 0) (x := ({ wide := o0.wide, epoch := o0.epoch, store := o0.store, locks := o0.locks, last := o0.last, book := o0.book, open_ := t360, out := o0.out, used := o0.used } : lane_State)) hst z
 replace hst := objO_some hst
 obtain rfl := some_inj hm
 refine post_ret (vs := [.agg #[Zb, Zu, Zu, Zi, Zu, Zu, Zs, Zs]]) results14 (rvs_cons (rv_cell (cs := [Zb, Zu, Zu, Zi, Zu, Zu, Zs, Zs]) z isAgg35 sizeOf35 (hst.bcs1 0 z)) rvs_nil) ?_
 exact ⟨_, Zs, Zs, z, hI0, f373, f374, hst.keep1⟩
}
 {
 replace hm := bif_f hc343 hm
 refine wp_iff (cvb hc343) ?_
 refine wp_skip (blk_n (tn (wp_seq (wrl ?_))))
 refine wv (.agg #[Zb, Zu, Zu, Zi, Zu, Zu, Zs, Zs]) z z (by kernel_rfl) ?_
 replace hst := hst.pull1
 obtain ⟨w377, hr378, hst⟩ := hst.bx [Zb, Zu, Zu, Zi, Zu, Zu, Zs, Zs] sizeOf35 z (oC z (oC z (oC z (oC z (oC z (oC z (oC z (oC z oN)))))))) (by kernel_rfl)
 refine wl_unit z z (x_unit hr378) ?_
 refine wl_nil (tn (wp_ret ?_))
 have f379 : Ro ty_api_Got I (.slice none 0 0) [] := ro_nil
 have f380 : Ro (tySl ty_api_Pair) I (.slice none 0 0) [] := ro_nil
 replace hst := hst.pull1
 replace hst := objO_some hst
 obtain rfl := some_inj hm
 refine post_ret (vs := [.agg #[Zb, Zu, Zu, Zi, Zu, Zu, Zs, Zs]]) results14 (rvs_cons (rv_cell (cs := [Zb, Zu, Zu, Zi, Zu, Zu, Zs, Zs]) z isAgg35 sizeOf35 (hst.bcs1 0 z)) rvs_nil) ?_
 exact ⟨_, Zs, Zs, z, hI0, f379, f380, hst.keep1⟩
}
}
 {
 replace hm := bif_f hc337 hm
 refine wp_iff (cvb hc337) ?_
 refine wp_seq (wrl (wv (.bool (a2.Kind == (6:Int))) z z z (wv (.bool (a2.Kind == (6:Int))) z z z (wl_nil (tn ?_)))))
 refine bsplit (a2.Kind == (6:Int)) (fun hc381 => ?_) (fun hc381 => ?_)
 {
 replace hm := bif_t hc381 hm
 refine wp_ift (cvb hc381) ?_
 refine wp_seq (wrl (wv (Pt b234 28) z z (x_field z underlying49 z sizeOf4 z) (wv (.bool a2.On) z z (x_load z isAgg4 (hst.bc9 z)) (wl_nil (tn ?_)))))
 refine bsplit a2.On (fun hc382 => ?_) (fun hc382 => ?_)
 {
 replace hm := bif_t hc382 hm
 refine wp_ift (cvb hc382) ?_
 refine wp_region_St hst 11 [0, 1, 2, 3, 4, 5, 6, 7, 8, 9, 10] [0, 1, 3, 7, 0, 16, 0, 64, 192, 448, 1023] [] z (by kernel_rfl) (by kernel_rfl) Tryz.mixed (by kernel_rfl) ?_
 refine wsr (Pt b246 0) 0 z z z (by kernel_rfl) (fun w hst => z) (wsr (Pt b246 0) 1 z z z (by kernel_rfl) (fun w hst => z) (wsr (Pt b246 5) 2 z z z (by kernel_rfl) (fun w hst => x_field z underlying111 z sizeOf107 z) (wsr (v253) 3 z z z (by kernel_rfl) (fun w hst => x_load z isAgg107 (hst.bc0 z)) (wsr (Pt b234 21) 4 z z z (by kernel_rfl) (fun w hst => x_field z underlying49 z sizeOf39 z) (wsr (.agg #[U6 a2.Rule.ID, I6 a2.Rule.From, I6 a2.Rule.To, F6 a2.Rule.Lo, F6 a2.Rule.Hi, U6 a2.Rule.Authority, I6 a2.Rule.Quota]) 5 z z z (by kernel_rfl) (fun w hst => x_loadN (cs := [U6 a2.Rule.ID, I6 a2.Rule.From, I6 a2.Rule.To, F6 a2.Rule.Lo, F6 a2.Rule.Hi, U6 a2.Rule.Authority, I6 a2.Rule.Quota]) z isAgg39 sizeOf39 (hst.bcs9 21 z)) (wsr (Pt b246 0) 6 z z z (by kernel_rfl) (fun w hst => z) (wsr (Pt b246 0) 7 z z z (by kernel_rfl) (fun w hst => z) (wsr (Pt b246 1) 8 z z z (by kernel_rfl) (fun w hst => x_field z underlying111 z sizeOf26 z) (wsr (.int .u64 o0.epoch) 9 z z z (by kernel_rfl) (fun w hst => x_load z isAgg26 (hst.bc0 z)) ?_)))))))))
 refine ws_e1 10 (by kernel_rfl) ?_
 refine nxe [] (by kernel_rfl) z z ?_
 clear hst
 intro w hst
 replace hst := hst.pull4
 obtain ⟨t383, ht384, hm⟩ := bind_some hm
 refine wec call53 [v253, .agg #[U6 a2.Rule.ID, I6 a2.Rule.From, I6 a2.Rule.To, F6 a2.Rule.Lo, F6 a2.Rule.Hi, U6 a2.Rule.Authority, I6 a2.Rule.Quota], U6 o0.epoch] z z ?_
 refine (policy_Book_Grant_ref hst.to1 ht384).mono ?_
 rintro _ w385 ⟨rfl, hst⟩
 refine ⟨_, z, ?_⟩
 replace hst := hst.of1
 refine ws_next (pend' := []) hst (by kernel_rfl) pk_nil ?_
 refine ws_nil ?_
 intro w hst
 refine blk_n (tn (wp_seq (wrl ?_)))
 refine wv (.agg #[Zb, Zu, Zu, Zi, Zu, Zu, Zs, Zs]) z z (by kernel_rfl) ?_
 replace hst := hst.pull8
 obtain ⟨w390, hr391, hst⟩ := hst.bx [Zb, Zu, Zu, Zi, Zu, Zu, Zs, Zs] sizeOf35 z (oC z (oC z (oC z (oC z (oC z (oC z (oC z (oC z oN)))))))) (by kernel_rfl)
 refine wl_unit z z (x_unit hr391) ?_
 refine wl_nil (tn (wp_ret ?_))
 have f392 : Ro ty_api_Got I (.slice none 0 0) [] := ro_nil
 have f393 : Ro (tySl ty_api_Pair) I (.slice none 0 0) [] := ro_nil
 replace hst := hst.pull8.pull8.pull8.pull4.pull8.pull8.pull8.pull8
 replace hst := at_lane_State_close (pv := Pt b246 0) (x := ({ wide := o0.wide, epoch := o0.epoch, store := o0.store, locks := o0.locks, last := o0.last, book := t383, open_ := o0.open_, out := o0.out, used := o0.used } : lane_State)) hst z
 replace hst := objO_some hst
 obtain rfl := some_inj hm
 refine post_ret (vs := [.agg #[Zb, Zu, Zu, Zi, Zu, Zu, Zs, Zs]]) results14 (rvs_cons (rv_cell (cs := [Zb, Zu, Zu, Zi, Zu, Zu, Zs, Zs]) z isAgg35 sizeOf35 (hst.bcs1 0 z)) rvs_nil) ?_
 exact ⟨_, Zs, Zs, z, hI0, f392, f393, hst.keep1⟩
}
 {
 replace hm := bif_f hc382 hm
 refine wp_iff (cvb hc382) ?_
 refine wp_region_St hst 12 [0, 1, 2, 3, 4, 5, 6, 7, 8, 9, 10, 11] [0, 1, 3, 7, 0, 16, 48, 0, 128, 384, 896, 2047] [] z (by kernel_rfl) (by kernel_rfl) Tryz.mixed (by kernel_rfl) ?_
 refine wsr (Pt b246 0) 0 z z z (by kernel_rfl) (fun w hst => z) (wsr (Pt b246 0) 1 z z z (by kernel_rfl) (fun w hst => z) (wsr (Pt b246 5) 2 z z z (by kernel_rfl) (fun w hst => x_field z underlying111 z sizeOf107 z) (wsr (v253) 3 z z z (by kernel_rfl) (fun w hst => x_load z isAgg107 (hst.bc0 z)) (wsr (Pt b234 21) 4 z z z (by kernel_rfl) (fun w hst => x_field z underlying49 z sizeOf39 z) (wsr (Pt b234 21) 5 z z z (by kernel_rfl) (fun w hst => x_field z underlying39 z sizeOf26 z) (wsr (.int .u64 a2.Rule.ID) 6 z z z (by kernel_rfl) (fun w hst => x_load z isAgg26 (hst.bc9 z)) (wsr (Pt b246 0) 7 z z z (by kernel_rfl) (fun w hst => z) (wsr (Pt b246 0) 8 z z z (by kernel_rfl) (fun w hst => z) (wsr (Pt b246 1) 9 z z z (by kernel_rfl) (fun w hst => x_field z underlying111 z sizeOf26 z) (wsr (.int .u64 o0.epoch) 10 z z z (by kernel_rfl) (fun w hst => x_load z isAgg26 (hst.bc0 z)) ?_))))))))))
 refine ws_e1 11 (by kernel_rfl) ?_
 refine nxe [] (by kernel_rfl) z z ?_
 clear hst
 intro w hst
 replace hst := hst.pull4
 obtain ⟨t394, ht395, hm⟩ := bind_some hm
 refine wec call54 [v253, U6 a2.Rule.ID, U6 o0.epoch] z z ?_
 refine (policy_Book_Revoke_ref hst.to1 ht395).mono ?_
 rintro _ w396 ⟨rfl, hst⟩
 refine ⟨_, z, ?_⟩
 replace hst := hst.of1
 refine ws_next (pend' := []) hst (by kernel_rfl) pk_nil ?_
 refine ws_nil ?_
 intro w hst
 refine blk_n (tn (wp_seq (wrl ?_)))
 refine wv (.agg #[Zb, Zu, Zu, Zi, Zu, Zu, Zs, Zs]) z z (by kernel_rfl) ?_
 replace hst := hst.pull8
 obtain ⟨w401, hr402, hst⟩ := hst.bx [Zb, Zu, Zu, Zi, Zu, Zu, Zs, Zs] sizeOf35 z (oC z (oC z (oC z (oC z (oC z (oC z (oC z (oC z oN)))))))) (by kernel_rfl)
 refine wl_unit z z (x_unit hr402) ?_
 refine wl_nil (tn (wp_ret ?_))
 have f403 : Ro ty_api_Got I (.slice none 0 0) [] := ro_nil
 have f404 : Ro (tySl ty_api_Pair) I (.slice none 0 0) [] := ro_nil
 replace hst := hst.pull8.pull8.pull8.pull4.pull8.pull8.pull8.pull8
 replace hst := at_lane_State_close (pv := Pt b246 0) (x := ({ wide := o0.wide, epoch := o0.epoch, store := o0.store, locks := o0.locks, last := o0.last, book := t394.2, open_ := o0.open_, out := o0.out, used := o0.used } : lane_State)) hst z
 replace hst := objO_some hst
 obtain rfl := some_inj hm
 refine post_ret (vs := [.agg #[Zb, Zu, Zu, Zi, Zu, Zu, Zs, Zs]]) results14 (rvs_cons (rv_cell (cs := [Zb, Zu, Zu, Zi, Zu, Zu, Zs, Zs]) z isAgg35 sizeOf35 (hst.bcs1 0 z)) rvs_nil) ?_
 exact ⟨_, Zs, Zs, z, hI0, f403, f404, hst.keep1⟩
}
}
 {
 replace hm := bif_f hc381 hm
 refine wp_iff (cvb hc381) ?_
 refine wp_seq (wrl (wv (.bool (a2.Kind == (7:Int))) z z z (wv (.bool (a2.Kind == (7:Int))) z z z (wl_nil (tn ?_)))))
 refine bsplit (a2.Kind == (7:Int)) (fun hc405 => ?_) (fun hc405 => ?_)
 {
 replace hm := bif_t hc405 hm
 refine wp_ift (cvb hc405) ?_
 refine wp_seq (wrl (wv (Pt b246 0) z z z (wv (.int .u64 a1) z z z (wv (.agg #[U1 a2.Kind, U6 a2.ID.Session, U6 a2.ID.Seq, U6 a2.Epoch, U6 a2.Index, I6 a2.E, U6 a2.Hold.ID.Session, U6 a2.Hold.ID.Seq, U6 a2.Hold.Epoch, r2_0, r2_1, r2_2, r2_3, r2_4, I6 a2.R.E, U6 a2.R.Epoch, U6 a2.R.Index, r2_5, r2_6, U6 a2.Shards, r2_7, U6 a2.Rule.ID, I6 a2.Rule.From, I6 a2.Rule.To, F6 a2.Rule.Lo, F6 a2.Rule.Hi, U6 a2.Rule.Authority, I6 a2.Rule.Quota, .bool a2.On]) z z (x_loadN (cs := [U1 a2.Kind, U6 a2.ID.Session, U6 a2.ID.Seq, U6 a2.Epoch, U6 a2.Index, I6 a2.E, U6 a2.Hold.ID.Session, U6 a2.Hold.ID.Seq, U6 a2.Hold.Epoch, r2_0, r2_1, r2_2, r2_3, r2_4, I6 a2.R.E, U6 a2.R.Epoch, U6 a2.R.Index, r2_5, r2_6, U6 a2.Shards, r2_7, U6 a2.Rule.ID, I6 a2.Rule.From, I6 a2.Rule.To, F6 a2.Rule.Lo, F6 a2.Rule.Hi, U6 a2.Rule.Authority, I6 a2.Rule.Quota, .bool a2.On]) z isAgg49 sizeOf49 (hst.bcs9 0 z)) ?_))))
 replace hst := hst.pull7.pull7.pull7.pull7.pull7.pull7.pull7.pull7
 replace hst := at_lane_State_close (pv := Pt b246 0) (x := o0) hst z
 replace hst := objO_some hst
 obtain ⟨t406, ht407, hm⟩ := bind_some hm
 refine wc call55 [Pt b246 0, U6 a1, .agg #[U1 a2.Kind, U6 a2.ID.Session, U6 a2.ID.Seq, U6 a2.Epoch, U6 a2.Index, I6 a2.E, U6 a2.Hold.ID.Session, U6 a2.Hold.ID.Seq, U6 a2.Hold.Epoch, r2_0, r2_1, r2_2, r2_3, r2_4, I6 a2.R.E, U6 a2.R.Epoch, U6 a2.R.Index, r2_5, r2_6, U6 a2.Shards, r2_7, U6 a2.Rule.ID, I6 a2.Rule.From, I6 a2.Rule.To, F6 a2.Rule.Lo, F6 a2.Rule.Hi, U6 a2.Rule.Authority, I6 a2.Rule.Quota, .bool a2.On]] z z z ?_
 refine (lane_State_give_ref (f2_0.mono ro_rd) (f2_1.mono ro_rd) (f2_2.mono ro_rd) (f2_3.mono ro_rd) (f2_4.mono ro_rd) (f2_5.mono ro_rd) (f2_6.mono ro_rd) (f2_7.mono ro_rd) hst.to1 ht407).mono ?_
 rintro _ w408 ⟨I409, v411, v414, rfl, hI410, f413, f416, hst⟩
 refine ⟨_, z, ?_⟩
 replace hst := hst.of1
 replace f2_0 := f2_0.mono (ro_le hI410)
 replace f2_1 := f2_1.mono (ro_le hI410)
 replace f2_2 := f2_2.mono (ro_le hI410)
 replace f2_3 := f2_3.mono (ro_le hI410)
 replace f2_4 := f2_4.mono (ro_le hI410)
 replace f2_5 := f2_5.mono (ro_le hI410)
 replace f2_6 := f2_6.mono (ro_le hI410)
 replace f2_7 := f2_7.mono (ro_le hI410)
 replace hI0 := hI0.trans hI410
 rcases he418 : t406.2 with _ | y417
 · rw [he418] at hm; cases hm
 rw [he418] at hm hst; dsimp only at hm; replace hst := objO_get hst
 replace hst := hst.pull1
 obtain ⟨w419, hr420, hst⟩ := hst.bx [U1 t406.1.Kind, U6 t406.1.ID.Session, U6 t406.1.ID.Seq, I6 t406.1.R.E, U6 t406.1.R.Epoch, U6 t406.1.R.Index, v411, v414] sizeOf35 z (oC z (oC z (oC z (oC z (oC z (oC z (oC (one_of_sliceV (ro_sliceV f413)) (oC (one_of_sliceV (ro_sliceV f416)) oN)))))))) (by kernel_rfl)
 refine wl_unit z z (x_unit hr420) ?_
 refine wl_nil (tn (wp_ret (blk_r (then_r ?_))))
 replace hst := hst.pull1
 replace hst := objO_some hst
 obtain rfl := some_inj hm
 refine post_ret (vs := [.agg #[U1 t406.1.Kind, U6 t406.1.ID.Session, U6 t406.1.ID.Seq, I6 t406.1.R.E, U6 t406.1.R.Epoch, U6 t406.1.R.Index, v411, v414]]) results14 (rvs_cons (rv_cell (cs := [U1 t406.1.Kind, U6 t406.1.ID.Session, U6 t406.1.ID.Seq, I6 t406.1.R.E, U6 t406.1.R.Epoch, U6 t406.1.R.Index, v411, v414]) z isAgg35 sizeOf35 (hst.bcs1 0 z)) rvs_nil) ?_
 exact ⟨_, v411, v414, z, hI0, f413, f416, hst.keep1⟩
}
 {
 replace hm := bif_f hc405 hm
 refine wp_iff (cvb hc405) ?_
 refine wp_skip (blk_n (tn (wp_seq (wrl ?_))))
 refine wv (.agg #[Zb, Zu, Zu, Zi, Zu, Zu, Zs, Zs]) z z (by kernel_rfl) ?_
 replace hst := hst.pull8
 obtain ⟨w423, hr424, hst⟩ := hst.bx [Zb, Zu, Zu, Zi, Zu, Zu, Zs, Zs] sizeOf35 z (oC z (oC z (oC z (oC z (oC z (oC z (oC z (oC z oN)))))))) (by kernel_rfl)
 refine wl_unit z z (x_unit hr424) ?_
 refine wl_nil (tn (wp_ret ?_))
 have f425 : Ro ty_api_Got I (.slice none 0 0) [] := ro_nil
 have f426 : Ro (tySl ty_api_Pair) I (.slice none 0 0) [] := ro_nil
 replace hst := hst.pull8.pull8.pull8.pull8.pull8.pull8.pull8.pull8
 replace hst := at_lane_State_close (pv := Pt b246 0) (x := o0) hst z
 replace hst := objO_some hst
 obtain rfl := some_inj hm
 refine post_ret (vs := [.agg #[Zb, Zu, Zu, Zi, Zu, Zu, Zs, Zs]]) results14 (rvs_cons (rv_cell (cs := [Zb, Zu, Zu, Zi, Zu, Zu, Zs, Zs]) z isAgg35 sizeOf35 (hst.bcs1 0 z)) rvs_nil) ?_
 exact ⟨_, Zs, Zs, z, hI0, f425, f426, hst.keep1⟩
}
}
}
}
}
}
}
}
}

theorem lane_State_Epoch_ref {w0 w : World} {I : HL} {R : SP} {a0 : (Option lane_State)} {p0 : Value}  (hst : St w0 w I [objO at_lane_State p0 a0] R) {r : (Int)} (hm : lane_State_Epoch a0 = some r) :
  Calls prog 24 #[p0] w fun e w' => e = .returned (.int .u64 r) ∧ St w0 w' I [objO at_lane_State p0 a0] R := by {
 rcases a0 with _ | o0
 {
 obtain ⟨rfl, hst'⟩ := objO_none hst
 clear hst
 have hst := hst'
 clear hst'
 dsimp only [lane_State_Epoch] at hm
 refine calls_start (args := [.pointer none]) func24 z ntmps24 (Nat.le_of_ble_eq_true z) ?_
 refine wp_seq (wrl (wv (.int .u64 (0:Int)) z z z (wl_nil (tn (wp_seq (wp_seq (wrl (wv (.pointer none) z z z (wv (.bool true) z z (by kernel_rfl) (wl_nil (tn ?_)))))))))))
 refine wp_ift z ?_
 refine wp_seq (wrl (wv (.int .u64 (0:Int)) z z z (wl_nil (tn (wp_ret (then_r ?_))))))
 replace hst := hst.objO_nil at_lane_State
 obtain rfl := some_inj hm
 refine post_ret (vs := [Zu]) results24 (rvs_cons (rv_tmp z) rvs_nil) ?_
 exact ⟨z, hst.keep1⟩
}
 {
 replace hst := objO_get hst
 dsimp only [lane_State_Epoch] at hm
 refine calls_start (args := [p0]) func24 z ntmps24 (Nat.le_of_ble_eq_true z) ?_
 refine wp_seq (wrl (wv (.int .u64 (0:Int)) z z z (wl_nil (tn (wp_seq (wp_seq (wrl (wv (p0) z z z ?_))))))))
 obtain ⟨b65, v66, v68, v70, v72, v74, v76, v78, rfl, hst'⟩ := at_lane_State_open hst
 clear hst
 have hst := hst'
 clear hst'
 refine wv (.bool false) z z (by kernel_rfl) (wl_nil (tn ?_))
 refine wp_iff z ?_
 refine wp_skip (tn (wp_seq (wrl ?_)))
 refine wv (Pt b65 0) z z z (wv (Pt b65 0) z z z (wv (Pt b65 1) z z (x_field z underlying111 z sizeOf26 z) (wv (.int .u64 o0.epoch) z z (x_load z isAgg26 (hst.bc0 z)) (wv (.int .u64 o0.epoch) z z z (wl_nil (tn (wp_ret ?_)))))))
 replace hst := hst.pull7.pull7.pull7.pull7.pull7.pull7.pull7.pull7
 replace hst := at_lane_State_close (pv := Pt b65 0) (x := o0) hst z
 replace hst := objO_some hst
 obtain rfl := some_inj hm
 refine post_ret (vs := [U6 o0.epoch]) results24 (rvs_cons (rv_tmp z) rvs_nil) ?_
 exact ⟨z, hst.keep1⟩
}
}

theorem law16_awake_ref {w0 w : World} {I : HL} {R : SP}   (hst : St w0 w I [] R) {r : (Bool)} (hm : law16_awake = some r) :
  Calls prog 12 #[] w fun e w' => ∃ (I' : HL), e = .returned (.bool r) ∧ I.le I' ∧ St w0 w' I' [] R := by {
 unfold law16_awake at hm
 refine calls_start (args := []) func12 z ntmps12 (Nat.le_of_ble_eq_true z) ?_
 have hI0 := HL.le.refl I
 refine wp_seq (wrl (wv (.bool false) z z z (wl_nil (tn (wp_seq (wrl ?_))))))
 obtain ⟨t54, ht55, hm⟩ := bind_some hm
 refine wc call13 [I6 (4:Int)] z z z ?_
 refine (lane_New_ref hst.to0 ht55).mono ?_
 rintro _ w56 ⟨v59, rfl, hst⟩
 refine ⟨_, z, ?_⟩
 replace hst := hst.of1
 refine wv (v59) z z z (wl_nil (tn (wp_seq (wrl (wv (v59) z z z (wv (.agg #[U1 (1:Int), Zu, Zu, U6 (1:Int), Zu, Zi, Zu, Zu, Zu, Zs, Zs, Zs, Zs, Zs, Zi, Zu, Zu, Zs, Zs, Zu, Zs, Zu, Zi, Zi, Zf, Zf, Zu, Zi, .bool false]) z z (by kernel_rfl) ?_))))))
 replace hst := objO_some hst
 have f69 : Ro tyF64 I (.slice none 0 0) [] := ro_nil
 have f70 : Ro tyF2 I (.slice none 0 0) [] := ro_nil
 have f71 : Ro tyF64 I (.slice none 0 0) [] := ro_nil
 have f72 : Ro (tyInt .u8) I (.slice none 0 0) [] := ro_nil
 have f73 : Ro ty_api_Write I (.slice none 0 0) [] := ro_nil
 have f74 : Ro ty_api_Got I (.slice none 0 0) [] := ro_nil
 have f75 : Ro (tySl ty_api_Pair) I (.slice none 0 0) [] := ro_nil
 have f76 : Ro ty_api_Part I (.slice none 0 0) [] := ro_nil
 obtain ⟨t77, ht78, hm⟩ := bind_some hm
 refine wc call14 [v59, U6 (1:Int), .agg #[U1 (1:Int), Zu, Zu, U6 (1:Int), Zu, Zi, Zu, Zu, Zu, Zs, Zs, Zs, Zs, Zs, Zi, Zu, Zu, Zs, Zs, Zu, Zs, Zu, Zi, Zi, Zf, Zf, Zu, Zi, .bool false]] z z z ?_
 refine (lane_State_Apply_ref (a2 := ({ Kind := (1:Int), ID := ({ Session := (0:Int), Seq := (0:Int) } : api_ID), Epoch := (1:Int), Index := (0:Int), E := (0:Int), Hold := zero_api_Hold, Writes := [], R := zero_api_Reply, Shards := (0:Int), Parts := [], Rule := zero_api_Rule, On := false } : api_Command)) f69 f70 f71 f72 f73 f74 f75 f76 hst.to1 ht78).mono ?_
 rintro _ w79 ⟨I80, v82, v85, rfl, hI81, f84, f87, hst⟩
 refine ⟨_, z, ?_⟩
 replace hst := hst.of1
 replace f69 := f69.mono (ro_le hI81)
 replace f70 := f70.mono (ro_le hI81)
 replace f71 := f71.mono (ro_le hI81)
 replace f72 := f72.mono (ro_le hI81)
 replace f73 := f73.mono (ro_le hI81)
 replace f74 := f74.mono (ro_le hI81)
 replace f75 := f75.mono (ro_le hI81)
 replace f76 := f76.mono (ro_le hI81)
 replace hI0 := hI0.trans hI81
 rcases he89 : t77.2 with _ | y88
 · rw [he89] at hm; cases hm
 rw [he89] at hm hst; dsimp only at hm; replace hst := objO_get hst
 obtain ⟨b92, w93, ew94, eb95, hst⟩ := hst.box [Zb, Zu, Zu, Zi, Zu, Zu, Zs, Zs] 35
 refine wl_run (v := Pt b92 0) (w' := w93) z z (x_al (by kernel_rfl) ew94 eb95) ?_
 obtain ⟨w97, hr98, hst⟩ := hst.bx [U1 t77.1.Kind, U6 t77.1.ID.Session, U6 t77.1.ID.Seq, I6 t77.1.R.E, U6 t77.1.R.Epoch, U6 t77.1.R.Index, v82, v85] sizeOf35 z (oC z (oC z (oC z (oC z (oC z (oC z (oC (one_of_sliceV (ro_sliceV f84)) (oC (one_of_sliceV (ro_sliceV f87)) oN)))))))) (by kernel_rfl)
 refine wl_unit z z (x_unit hr98) ?_
 refine wl_nil (tn (wp_seq (wrl (wv (Pt b92 0) z z (x_field z underlying35 z sizeOf5 z) (wv (.int .u8 t77.1.Kind) z z (x_load z isAgg5 (hst.bc0 z)) (wv (.bool (t77.1.Kind == (1:Int))) z z z (wv (.bool (t77.1.Kind == (1:Int))) z z z ?_)))))))
 refine bsplit (t77.1.Kind == (1:Int)) (fun hc99 => ?_) (fun hc99 => ?_)
 {
 replace hm := bif_t hc99 hm
 refine wv (v59) ((wanted_eq z z z (cvb hc99)).trans z) z z ?_
 replace hst := hst.pull1
 replace hst := objO_some hst
 obtain ⟨t100, ht101, hm⟩ := bind_some hm
 refine wl_call ((wanted_eq z z z (cvb hc99)).trans z) z (x_call call24 z (vs := [v59]) z) ?_
 refine (lane_State_Epoch_ref hst.to1 ht101).mono ?_
 rintro _ w102 ⟨rfl, hst⟩
 refine ⟨_, z, ?_⟩
 replace hst := hst.of1
 replace hst := objO_get hst
 refine wv (.bool (t100 == (2:Int))) ((wanted_eq z z z (cvb hc99)).trans z) z z (wv (.bool (t100 == (2:Int))) z z (x_pick_t hc99 z z) (wv (.bool (t100 == (2:Int))) z z z ?_))
 refine bsplit (t100 == (2:Int)) (fun hc105 => ?_) (fun hc105 => ?_)
 {
 replace hm := bif_t hc105 hm
 refine wv (.bool true) z z (x_pick_t hc105 z z) (wv (.bool true) z z z (wl_nil (tn (wp_ret ?_))))
 obtain rfl := some_inj hm
 refine post_ret (vs := [.bool true]) results12 (rvs_cons (rv_tmp z) rvs_nil) ?_
 exact ⟨_, z, hI0, hst.keep0⟩
}
 {
 replace hm := bif_f hc105 hm
 refine wv (.bool false) z z (x_pick_f hc105 z z) (wv (.bool false) z z z (wl_nil (tn (wp_ret ?_))))
 obtain rfl := some_inj hm
 refine post_ret (vs := [.bool false]) results12 (rvs_cons (rv_tmp z) rvs_nil) ?_
 exact ⟨_, z, hI0, hst.keep0⟩
}
}
 {
 replace hm := bif_f hc99 hm
 refine wo hc99 z z z z z z (wo hc99 z z z z z z (wo hc99 z z z z z z (wv (.bool false) z z (x_pick_f hc99 z z) (wv (.bool false) z z z (wv (.bool false) z z (x_pick_f z z z) (wv (.bool false) z z z (wl_nil (tn (wp_ret ?_)))))))))
 obtain rfl := some_inj hm
 refine post_ret (vs := [.bool false]) results12 (rvs_cons (rv_tmp z) rvs_nil) ?_
 exact ⟨_, z, hI0, hst.keep0⟩
}
}

theorem ref16_Pad_ref {w0 w : World} {I : HL} {R : SP} {a0 : api_Write} {r0_0 : Value} {a1 : Int} (f0_0 : Rd (tyInt .u8) R I r0_0 a0.Val) (hst : St w0 w I [] R) {r : (api_Write)} (hm : ref16_Pad a0 a1 = some r) :
  Calls prog 16 #[.agg #[F6 a0.At, .bool a0.Del, r0_0], I6 a1] w fun e w' => ∃ (q0_0 : Value), e = .returned (.agg #[F6 r.At, .bool r.Del, q0_0]) ∧ St w0 w' I [ownS (tyInt .u8) q0_0 r.Val] R := by {
 unfold ref16_Pad at hm
 refine calls_start (args := [.agg #[F6 a0.At, .bool a0.Del, r0_0], I6 a1]) func16 z ntmps16 (Nat.le_of_ble_eq_true z) ?_
 refine wp_seq (wrl ?_)
 obtain ⟨b1260, w1261, ew1262, eb1263, hst⟩ := hst.box [F6 a0.At, .bool a0.Del, r0_0] 41
 refine wl_run (v := Pt b1260 0) (w' := w1261) z z (x_al (by kernel_rfl) ew1262 eb1263) ?_
 obtain ⟨b1266, w1267, ew1268, eb1269, hst⟩ := hst.box [Zf, .bool false, Zs] 41
 refine wl_run (v := Pt b1266 0) (w' := w1267) z z (x_al (by kernel_rfl) ew1268 eb1269) ?_
 refine wl_nil (tn (wp_seq (wrl (wv ((.slice none 0 0)) z z z (wl_nil (tn ?_))))))
 obtain ⟨y1389, hm, hx1390⟩ := bind_some hm
 refine wp_cut (fun a w => ∃ (z1386 : (List Int)) (v1385 : Value) (σ1387 : Nat → Value), (ref16_Pad_j0 a0) z1386 = some r ∧ a = Fr 35 (upd (upd (upd σ1387 2 (Pt b1260 0)) 4 (Pt b1266 0)) 5 (v1385)) ∧ St w0 w I [cells b1260 [F6 a0.At, .bool a0.Del, r0_0], cells b1266 [Zf, .bool false, Zs], ownS (tyInt .u8) v1385 z1386] R) ?_ ?_
 {
 refine wp_seq (wrl (wv (.int .i64 (0:Int)) z z z (wl_nil (tn (wp_block ?_)))))
 replace hst := hst.own_nil (tyInt .u8)
 obtain ⟨n1353, hm⟩ := loopO_some hm
 refine wp_loop_n (fun n a w => ∃ (z1348 : (List Int)) (z1351 : Int) (v1349 : Value) (σ1352 : Nat → Value), loopN (ref16_Pad_l1 a1 a0) n (z1348, z1351) = some y1389 ∧ a = Fr 35 (upd (upd (upd (upd (upd σ1352 1 (.int .i64 a1)) 2 (Pt b1260 0)) 4 (Pt b1266 0)) 5 (v1349)) 6 (.int .i64 z1351)) ∧ St w0 w I [ownS (tyInt .u8) v1349 z1348, cells b1266 [Zf, .bool false, Zs], cells b1260 [F6 a0.At, .bool a0.Del, r0_0]] R) n1353 ⟨[], (0:Int), Zs, _, hm, (fu 1 (.int .i64 a1) z (fu 2 (Pt b1260 0) z (fu 4 (Pt b1266 0) z (fu 5 (.slice none 0 0) z (fu 6 (.int .i64 (0:Int)) z z))))), hst⟩ ?_
 rintro n1359 _ w1354 ⟨z1348, z1351, v1349, σ1352, hm, rfl, hst⟩
 obtain ⟨n1356, y1357, rfl, hm, hx1358⟩ := loopN_some hm
 dsimp only [ref16_Pad_l1] at hm
 refine wp_seq (wp_seq (wrl (wv (.int .i64 z1351) z z z (wv (.int .i64 a1) z z z (wv (.bool (decide (z1351 < a1))) z z z (wv (.bool (decide (z1351 < a1))) z z z ?_))))))
 refine bsplit (decide (z1351 < a1)) (fun hc1360 => ?_) (fun hc1360 => ?_)
 {
 replace hm := bif_t hc1360 hm
 refine wv (Pt b1260 1) ((wanted_eq z z z (cvb hc1360)).trans z) z (x_field z underlying41 z sizeOf4 z) (wv (.bool a0.Del) ((wanted_eq z z z (cvb hc1360)).trans z) z (x_load z isAgg4 (hst.bc2 z)) (wv (.bool (!a0.Del)) ((wanted_eq z z z (cvb hc1360)).trans z) z z (wv (.bool (!a0.Del)) z z (x_pick_t hc1360 z z) (wl_nil (tn ?_)))))
 refine bsplit (!a0.Del) (fun hc1361 => ?_) (fun hc1361 => ?_)
 {
 replace hm := bif_t hc1361 hm
 refine wp_ift (cvb hc1361) ?_
 refine wp_skip (tn (wp_seq (wp_block (wp_seq (wrl ?_)))))
 refine wv (.int .u8 (0:Int)) z z z (wl_nil (tn ?_))
 obtain ⟨y1371, hm, hx1372⟩ := bind_some hm
 refine wp_cut (fun a w => ∃ (z1368 : Int) (σ1369 : Nat → Value), (ref16_Pad_j2 z1348 z1351) z1368 = some y1357 ∧ a = Fr 35 (upd (upd (upd (upd (upd (upd σ1369 1 (.int .i64 a1)) 2 (Pt b1260 0)) 4 (Pt b1266 0)) 5 (v1349)) 6 (.int .i64 z1351)) 7 (.int .u8 z1368)) ∧ St w0 w I [cells b1260 [F6 a0.At, .bool a0.Del, r0_0], cells b1266 [Zf, .bool false, Zs], ownS (tyInt .u8) v1349 z1348] R) ?_ ?_
 {
 refine wp_seq (wrl (wv (.int .i64 z1351) z z z (wv (Pt b1260 2) z z (x_field z underlying41 z sizeOf22 z) (wv (r0_0) z z (x_load z isAgg22 (hst.bc2 z)) (wv (.int .i64 ((a0.Val).length : Int)) z z (x_len z underlying22 (rd_sliceV f0_0)) (wv (.bool (decide (z1351 < ((a0.Val).length : Int)))) z z z (wl_nil (tn ?_))))))))
 refine bsplit (decide (z1351 < ((a0.Val).length : Int))) (fun hc1362 => ?_) (fun hc1362 => ?_)
 {
 replace hm := bif_t hc1362 hm
 refine wp_ift (cvb hc1362) ?_
 refine wrl (wv (Pt b1260 2) z z (x_field z underlying41 z sizeOf22 z) (wv (r0_0) z z (x_load z isAgg22 (hst.bc2 z)) (wv (.int .i64 z1351) z z z ?_)))
 obtain ⟨x1363, hx1364, hm⟩ := bind_some hm
 obtain ⟨h1365, h1366, hi1367⟩ := geto_some hx1364
 refine wv (.pointer (some (eAddr r0_0 (z1351.toNat * 1 + 0)))) z z (x_index z z underlying22 sizeOf5 (rd_sliceV f0_0) h1365 h1366) (wv (.int .u8 x1363) z z (x_load z isAgg5 (rd_load f0_0 (HL.le.refl _) hst hi1367 (by rintro _ rfl; rfl))) (wv (.int .u8 x1363) z z z (wl_nil (tn ?_))))
 replace hst := hst.pull1.pull2.keep3
 obtain rfl := some_inj hm
 exact ⟨x1363, _, hx1372, (fu 1 (.int .i64 a1) z (fu 2 (Pt b1260 0) z (fu 4 (Pt b1266 0) z (fu 5 v1349 z (fu 6 (.int .i64 z1351) z (fu 7 (.int .u8 x1363) z z)))))), hst⟩
}
 {
 replace hm := bif_f hc1362 hm
 refine wp_iff (cvb hc1362) ?_
 refine wp_skip (tn ?_)
 replace hst := hst.pull1.pull2.keep3
 obtain rfl := some_inj hm
 exact ⟨(0:Int), _, hx1372, (fu 1 (.int .i64 a1) z (fu 2 (Pt b1260 0) z (fu 4 (Pt b1266 0) z (fu 5 v1349 z (fu 6 (.int .i64 z1351) z (fu 7 (.int .u8 (0:Int)) z z)))))), hst⟩
}
}
 {
 clear hst
 rintro _ w1373 ⟨z1368, σ1369, hm, rfl, hst⟩
 dsimp only [ref16_Pad_j2] at hm
 refine wrl (wv (v1349) z z z (wv (.int .u8 z1368) z z z ?_))
 obtain ⟨b1374, w1375, ew1376, eb1377, hst⟩ := hst.lits (E := (tyInt .u8)) (xs := [z1368]) [[U1 z1368]] 5 1 z (Reps.cons z Reps.nil)
 refine wl_run (v := (.slice (some ⟨b1374, 0, none⟩) 1 1)) (w' := w1375) z z (x_als (by kernel_rfl) ew1376 eb1377) ?_
 obtain ⟨hg1379, hm⟩ := gd_some hm
 replace hst := hst.pull3
 obtain ⟨v1380, w1381, hr1382, hst⟩ := run_append elem_22 underlying22 hst hst.src1 (room_of hg1379 z) 22
 refine wl_run (v := v1380) (w' := w1381) z z (x_append z z hr1382) ?_
 refine wv (v1380) z z z (wl_nil (blk_n (tn (wrl (wv (.int .i64 z1351) z z z (wv (.int .i64 (i64.wrap (z1351 + (1:Int)))) z z z (wv (.int .i64 (i64.wrap (z1351 + (1:Int)))) z z z (wl_nil (tn ?_)))))))))
 replace hst := hst.pull2.pull3.pull2.keep3
 obtain rfl := some_inj hm
 exact ⟨_, Nat.lt_succ_self _, (z1348 ++ ([z1368])), (i64.wrap (z1351 + (1:Int))), v1380, _, hx1358, (fu 1 (.int .i64 a1) z (fu 2 (Pt b1260 0) z (fu 4 (Pt b1266 0) z (fu 5 v1380 z (fu 6 (.int .i64 (i64.wrap (z1351 + (1:Int)))) z z))))), hst⟩
}
}
 {
 replace hm := bif_f hc1361 hm
 refine wp_iff (cvb hc1361) ?_
 refine wp_exit (then_x (then_x ?_))
 replace hm := inr_up hm hx1358
 refine blk_x (tn ?_)
 replace hst := hst.pull1.pull2.keep3
 obtain rfl := some_inj hm
 exact ⟨z1348, v1349, _, hx1390, (fu 2 (Pt b1260 0) z (fu 4 (Pt b1266 0) z (fu 5 v1349 z z))), hst⟩
}
}
 {
 replace hm := bif_f hc1360 hm
 refine wo hc1360 z z z z z z (wo hc1360 z z z z z z (wo hc1360 z z z z z z (wv (.bool false) z z (x_pick_f hc1360 z z) (wl_nil (tn ?_)))))
 refine wp_iff z ?_
 refine wp_exit (then_x (then_x ?_))
 replace hm := inr_up hm hx1358
 refine blk_x (tn ?_)
 replace hst := hst.pull1.pull2.keep3
 obtain rfl := some_inj hm
 exact ⟨z1348, v1349, _, hx1390, (fu 2 (Pt b1260 0) z (fu 4 (Pt b1266 0) z (fu 5 v1349 z z))), hst⟩
}
}
 {
 clear hst
 rintro _ w1391 ⟨z1386, v1385, σ1387, hm, rfl, hst⟩
 dsimp only [ref16_Pad_j0] at hm
 refine wp_seq (wrl (wv (v1385) z z z (wv (Pt b1260 2) z z (x_field z underlying41 z sizeOf22 z) ?_)))
 obtain ⟨w1392, hr1393, hst⟩ := hst.boxStore1 (P := prog) (t := 22) (cs' := [F6 a0.At, .bool a0.Del, v1385]) 2 v1385 (one_of_sliceV hst.sv2) sizeOf22 z z
 refine wl_unit z z (x_unit hr1393) ?_
 refine wl_nil (tn (wp_seq (wrl (wv (.agg #[F6 a0.At, .bool a0.Del, v1385]) z z (x_loadN (cs := [F6 a0.At, .bool a0.Del, v1385]) z isAgg41 sizeOf41 (hst.bcs0 0 z)) ?_))))
 replace hst := hst.pull1
 obtain ⟨w1394, hr1395, hst⟩ := hst.bx [F6 a0.At, .bool a0.Del, v1385] sizeOf41 z (oC z (oC z (oC (one_of_sliceV hst.sv2) oN))) (by kernel_rfl)
 refine wl_unit z z (x_unit hr1395) ?_
 refine wl_nil (tn (wp_ret ?_))
 obtain rfl := some_inj hm
 refine post_ret (vs := [.agg #[F6 a0.At, .bool a0.Del, v1385]]) results16 (rvs_cons (rv_cell (cs := [F6 a0.At, .bool a0.Del, v1385]) z isAgg41 sizeOf41 (hst.bcs0 0 z)) rvs_nil) ?_
 replace hst := hst.pull2
 exact ⟨v1385, z, hst.keep1⟩
}
}

end Go.Proofs.YtgnkkopjkgdieaaGreat
