/- The Go functions refine their models, part 2. -/
import Derived.Test.YtgnkkopjkgdieaaGreatLaneReadsR1
set_option linter.unusedVariables false
set_option linter.unusedSimpArgs false
set_option maxRecDepth 100000
set_option maxHeartbeats 4000000
namespace Go.Proofs.YtgnkkopjkgdieaaGreat
open Go Go.V
open _root_.Go.Proofs.Tryz IntKind
attribute [local irreducible] wpList Code.wp wpQuiet Calls bodyPost Oper.wp wpS Nx PendOK YieldsIn
theorem slices_Delete_api_Hold_api_Hold_ref {w0 w : World} {I : HL} {R : SP} {a0 : (List api_Hold)} {r0_0 : Value} {a1 a2 : Int} (hst : St w0 w I [ownS ty_api_Hold r0_0 a0] R) {r : (List api_Hold)} (hm : slices_Delete_api_Hold_api_Hold a0 a1 a2 = some r) :
  Calls prog 182 #[r0_0, I6 a1, I6 a2] w fun e w' => ∃ (q0_0 : Value), e = .returned (q0_0) ∧ St w0 w' I [ownS ty_api_Hold q0_0 r] R := by {
 unfold slices_Delete_api_Hold_api_Hold at hm
 obtain ⟨hg, hm⟩ := gd_some hm
 obtain rfl := some_inj hm
 obtain ⟨hi0, hi1, hi2⟩ := fits_of hg
 obtain ⟨j, rfl⟩ := Int.eq_ofNat_of_zero_le (Int.le_trans hi0 hi1)
 obtain ⟨k, rfl⟩ := Int.eq_ofNat_of_zero_le hi0
 have hkj : k ≤ j := by omega
 have hs : ∀ w : World, (sizeOf 46).run prog w = .ok ty_api_Hold.sz w := sizeOf46
 obtain ⟨css, hr, hst⟩ := hst.own_open
 obtain ⟨n, hn⟩ : ∃ n, css.length = n := ⟨_, rfl⟩
 have hln : a0.length = n := hr.1.trans hn
 have hjn : j ≤ n := by omega
 have hsv : SliceV r0_0 n := by have := hst.row_form.2; rwa [hn] at this
 have hoc := hr.ones
 refine calls_start (args := [r0_0, I6 (k : Int), I6 (j : Int)]) func182 z ntmps182 (Nat.le_of_ble_eq_true z) ?_
 refine wp_seq (wrl (wv ((.slice none 0 0)) z z z (wl_nil (tn (wp_seq (wrl (wv (r0_0) z z z (wv (.int .i64 (k : Int)) z z z (wv (.int .i64 (j : Int)) z z z (wv (r0_0) z z z (wv (.int .i64 (n : Int)) z z (x_len z underlying125 hsv) ?_)))))))))))
 refine wl_ex z z (x_slice3 underlying125 hs z hsv z z z hkj hjn) fun v3 => ?_
 refine wl_nil (tn (wp_seq (wp_seq (wrl (wv (.int .i64 (k : Int)) z z z (wv (.int .i64 (j : Int)) z z z (wv (.bool ((k : Int) == (j : Int))) z z z (wl_nil (tn ?_)))))))))
 refine bsplit ((k : Int) == (j : Int)) (fun hc146 => ?_) (fun hc146 => ?_)
 {
 refine wp_ift (cvb hc146) ?_
 refine wp_seq (wrl (wv (r0_0) z z z (wv (r0_0) z z z (wl_nil (tn (wp_ret (then_r ?_)))))))
 refine post_ret (vs := [r0_0]) results182 (rvs_cons (rv_tmp z) rvs_nil) ?_
 rw [del_nil hc146]
 exact ⟨_, z, (hst.own_close hr).keep1⟩
}
 {
 refine wp_iff (cvb hc146) ?_
 have hne : ¬ ((k : Int) = (j : Int)) := by simpa using hc146
 have hlt : k < j := by omega
 refine wp_skip (tn (wp_seq (wrl ?_)))
 refine wv (r0_0) z z z (wv (.int .i64 (n : Int)) z z (x_len z underlying125 hsv) (wv (.int .i64 (n : Int)) z z z (wl_nil (tn (wp_seq ?_)))))
 refine wp_region_St hst 8 [0, 1, 2, 3, 4, 5, 6, 7] [0, 0, 3, 0, 0, 24, 63, 127] [7] z (by kernel_rfl) (by kernel_rfl) Tryz.mixed (by kernel_rfl) ?_
 refine wsr (r0_0) 0 z z z (by kernel_rfl) (fun w hst => z) (wsr (.int .i64 (k : Int)) 1 z z z (by kernel_rfl) (fun w hst => z) (wsr ((slcV ty_api_Hold.sz r0_0 0 k)) 2 z z z (by kernel_rfl) (fun w hst => x_slice (lo := (0 : Nat)) (hi := (k : Nat)) underlying125 hs z hsv (by omega) (by omega) (by omega) .i64 .i64 (.inr ⟨z, z⟩) (.inl z)) (wsr (r0_0) 3 z z z (by kernel_rfl) (fun w hst => z) (wsr (.int .i64 (j : Int)) 4 z z z (by kernel_rfl) (fun w hst => z) (wsr ((slcV ty_api_Hold.sz r0_0 j n)) 5 z z z (by kernel_rfl) (fun w hst => x_slice (lo := (j : Nat)) (hi := (n : Nat)) underlying125 hs z hsv (by omega) (by omega) (by omega) .i64 .i64 (.inl z) (.inr ⟨z, z⟩)) ?_)))))
 refine ws_e1 6 (by kernel_rfl) ?_
 refine nxe [7] (by kernel_rfl) z z ?_
 clear hst
 intro w hst
 obtain ⟨w2, hra, hst⟩ := run_appDel (P := prog) underlying125 hs hst hn hlt hjn hoc 125
 refine we_run (v := (slcV ty_api_Hold.sz r0_0 0 (k + (n - j)))) (w' := w2) z (x_append z z hra) ?_
 have hnl := (show _ from hst)
 clear hnl
 have hn2 : (css.take k ++ (css.drop j ++ css.drop (k + (n - j)))).length = n := by simp only [List.length_append, List.length_take, List.length_drop]; omega
 have hsm := row_slc hst hn2 (m := (k + (n - j))) (by omega)
 refine ws_next (pend' := []) hst (by kernel_rfl) pk_nil ?_
 refine ws_e1 7 (by kernel_rfl) ?_
 refine nxe [] (by kernel_rfl) z z ?_
 clear hst
 intro w hst
 refine we_run (v := (slcV ty_api_Hold.sz r0_0 0 (k + (n - j)))) (w' := w) z z ?_
 refine ws_next (pend' := []) hst (by kernel_rfl) pk_nil ?_
 refine ws_nil ?_
 intro w hst
 refine tn (wp_seq (wrl (wv ((slcV ty_api_Hold.sz r0_0 0 (k + (n - j)))) z z z (wv ((slcV ty_api_Hold.sz r0_0 0 (k + (n - j)))) z z z (wv (.int .i64 (((k + (n - j)) : Nat) : Int)) z z (x_len z underlying125 hsm) (wv (.int .i64 (n : Int)) z z z (wv ((slcV ty_api_Hold.sz r0_0 (k + (n - j)) n)) z z (x_sliceRe underlying125 hs z hsv z z (by omega) (by omega)) ?_)))))))
 obtain ⟨w3, hrc, hst⟩ := run_clear elem_125 z (ones_of (by kernel_rfl)) hst hn2 (m := (k + (n - j))) (by omega) 0
 refine wl_run0 z z (x_clear z hrc) ?_
 refine wl_nil (tn (wp_seq (wrl (wv ((slcV ty_api_Hold.sz r0_0 0 (k + (n - j)))) z z z (wv ((slcV ty_api_Hold.sz r0_0 0 (k + (n - j)))) z z z (wl_nil (tn (wp_ret ?_))))))))
 refine post_ret (vs := [(slcV ty_api_Hold.sz r0_0 0 (k + (n - j)))]) results182 (rvs_cons (rv_tmp z) rvs_nil) ?_
 replace hst := hst.row_part (l := 0) (h := (k + (n - j))) (Nat.zero_le _) (by simp only [List.length_append, List.length_take, List.length_drop, List.length_replicate]; omega)
 rw [del_rows hn hlt hjn (List.length_replicate ..)] at hst
 exact ⟨_, z, (hst.own_close ((hr.take k).app (hr.drop j))).keep1⟩
}
}

theorem locks_Table_Drop_ref {w0 w : World} {I : HL} {R : SP} {a0 : (Option locks_Table)} {p0 : Value} {a1 : api_ID}  (hst : St w0 w I [objO at_locks_Table p0 a0] R) {r : (Bool × (Option locks_Table))} (hm : locks_Table_Drop a0 a1 = some r) :
  Calls prog 122 #[p0, .agg #[U6 a1.Session, U6 a1.Seq]] w fun e w' => e = .returned (.bool r.1) ∧ St w0 w' I [objO at_locks_Table p0 r.2] R := by {
 rcases a0 with _ | o0
 {
 obtain ⟨rfl, hst'⟩ := objO_none hst
 clear hst
 have hst := hst'
 clear hst'
 dsimp only [locks_Table_Drop] at hm
 refine calls_start (args := [.pointer none, .agg #[U6 a1.Session, U6 a1.Seq]]) func122 z ntmps122 (Nat.le_of_ble_eq_true z) ?_
 refine wp_seq (wrl ?_)
 obtain ⟨b156, w157, ew158, eb159, hst⟩ := hst.box [U6 a1.Session, U6 a1.Seq] 28
 refine wl_run (v := Pt b156 0) (w' := w157) z z (x_al (by kernel_rfl) ew158 eb159) ?_
 refine wv (.bool false) z z z (wl_nil (tn (wp_seq (wrl (wv (.pointer none) z z z (wv (.agg #[U6 a1.Session, U6 a1.Seq]) z z (x_loadN (cs := [U6 a1.Session, U6 a1.Seq]) z isAgg28 sizeOf28 (hst.bcs0 0 z)) ?_))))))
 replace hst := hst.objO_nil at_locks_Table
 obtain ⟨t162, ht163, hm⟩ := bind_some hm
 refine wc call135 [.pointer none, .agg #[U6 a1.Session, U6 a1.Seq]] z z z ?_
 refine (locks_Table_find_ref hst.to1 ht163).mono ?_
 rintro _ w164 ⟨rfl, hst⟩
 refine ⟨_, z, ?_⟩
 replace hst := hst.of1
 refine wv (.tuple #[I6 t162.1, .bool t162.2]) z z z (wv (.int .i64 t162.1) z z z (wv (.bool t162.2) z z z (wv (.int .i64 t162.1) z z z (wv (.bool t162.2) z z z (wl_nil (tn (wp_seq (wp_seq (wrl (wv (.bool t162.2) z z z (wl_nil (tn ?_))))))))))))
 refine bsplit t162.2 (fun hc167 => ?_) (fun hc167 => ?_)
 {
 replace hm := bif_t hc167 hm
 refine wp_ift (cvb hc167) ?_
 refine wrl (wv (.pointer none) z z z (wv (.pointer none) z z z ?_))
 cases hm
}
 {
 replace hm := bif_f hc167 hm
 refine wp_iff (cvb hc167) ?_
 refine wp_skip (tn (wp_seq (wrl ?_)))
 refine wv (.bool t162.2) z z z (wv (.bool t162.2) z z z (wl_nil (tn (wp_ret ?_))))
 replace hst := hst.objO_nil at_locks_Table
 obtain rfl := some_inj hm
 refine post_ret (vs := [.bool t162.2]) results122 (rvs_cons (rv_tmp z) rvs_nil) ?_
 exact ⟨z, hst.keep1⟩
}
}
 {
 replace hst := objO_get hst
 dsimp only [locks_Table_Drop] at hm
 refine calls_start (args := [p0, .agg #[U6 a1.Session, U6 a1.Seq]]) func122 z ntmps122 (Nat.le_of_ble_eq_true z) ?_
 refine wp_seq (wrl ?_)
 obtain ⟨b168, w169, ew170, eb171, hst⟩ := hst.box [U6 a1.Session, U6 a1.Seq] 28
 refine wl_run (v := Pt b168 0) (w' := w169) z z (x_al (by kernel_rfl) ew170 eb171) ?_
 refine wv (.bool false) z z z (wl_nil (tn (wp_seq (wrl (wv (p0) z z z (wv (.agg #[U6 a1.Session, U6 a1.Seq]) z z (x_loadN (cs := [U6 a1.Session, U6 a1.Seq]) z isAgg28 sizeOf28 (hst.bcs0 0 z)) ?_))))))
 replace hst := hst.pull1
 replace hst := objO_some hst
 obtain ⟨t173, ht174, hm⟩ := bind_some hm
 refine wc call135 [p0, .agg #[U6 a1.Session, U6 a1.Seq]] z z z ?_
 refine (locks_Table_find_ref hst.to1 ht174).mono ?_
 rintro _ w175 ⟨rfl, hst⟩
 refine ⟨_, z, ?_⟩
 replace hst := hst.of1
 replace hst := objO_get hst
 refine wv (.tuple #[I6 t173.1, .bool t173.2]) z z z (wv (.int .i64 t173.1) z z z (wv (.bool t173.2) z z z (wv (.int .i64 t173.1) z z z (wv (.bool t173.2) z z z (wl_nil (tn (wp_seq (wp_seq (wrl (wv (.bool t173.2) z z z (wl_nil (tn ?_))))))))))))
 refine bsplit t173.2 (fun hc178 => ?_) (fun hc178 => ?_)
 {
 replace hm := bif_t hc178 hm
 refine wp_ift (cvb hc178) ?_
 refine wrl (wv (p0) z z z (wv (p0) z z z ?_))
 obtain ⟨b179, v180, rfl, hst'⟩ := at_locks_Table_open hst
 clear hst
 have hst := hst'
 clear hst'
 refine wv (Pt b179 0) z z z (wv (Pt b179 0) z z (x_field z underlying203 z sizeOf125 z) (wv (v180) z z (x_load z isAgg125 (hst.bc0 z)) (wv (.int .i64 t173.1) z z z (wv (.int .i64 t173.1) z z z (wv (.int .i64 (i64.wrap (t173.1 + (1:Int)))) z z z ?_)))))
 replace hst := hst.pull1
 obtain ⟨t182, ht183, hm⟩ := bind_some hm
 refine wc call182 [v180, I6 t173.1, I6 (i64.wrap (t173.1 + (1:Int)))] z z z ?_
 refine (slices_Delete_api_Hold_api_Hold_ref hst.to1 ht183).mono ?_
 rintro _ w184 ⟨v187, rfl, hst⟩
 refine ⟨_, z, ?_⟩
 replace hst := hst.of1
 refine wv (Pt b179 0) z z z (wv (Pt b179 0) z z (x_field z underlying203 z sizeOf125 z) ?_)
 replace hst := hst.pull1
 obtain ⟨w189, hr190, hst⟩ := hst.boxStore1 (P := prog) (t := 125) (cs' := [v187]) 0 v187 (one_of_sliceV hst.sv1) sizeOf125 z z
 refine wl_unit z z (x_unit hr190) ?_
 refine wl_nil (tn (wp_seq (wrl (wv (.bool t173.2) z z z (wv (.bool t173.2) z z z (wl_nil (tn (wp_ret ?_))))))))
 replace hst := hst.pull1.pull1
 replace hst := at_locks_Table_close (pv := Pt b179 0) (x := ({ l := t182 } : locks_Table)) hst z
 replace hst := objO_some hst
 obtain rfl := some_inj hm
 refine post_ret (vs := [.bool t173.2]) results122 (rvs_cons (rv_tmp z) rvs_nil) ?_
 exact ⟨z, hst.keep1⟩
}
 {
 replace hm := bif_f hc178 hm
 refine wp_iff (cvb hc178) ?_
 refine wp_skip (tn (wp_seq (wrl ?_)))
 refine wv (.bool t173.2) z z z (wv (.bool t173.2) z z z (wl_nil (tn (wp_ret ?_))))
 replace hst := objO_some hst
 obtain rfl := some_inj hm
 refine post_ret (vs := [.bool t173.2]) results122 (rvs_cons (rv_tmp z) rvs_nil) ?_
 exact ⟨z, hst.keep1⟩
}
}
}

theorem slices_Insert_mvcc_row_mvcc_row_raw_ref {w0 w : World} {I : HL} {R : SP} {a0 : (List (List Value))} {r0_0 : Value} {a1 : Int} {a2 : (List (List Value))} {r2_0 : Value} (hst : St w0 w I [ownS (tyRaw 2) r0_0 a0, ownS (tyRaw 2) r2_0 a2] R) {r : (List (List Value))} (hm : slices_Insert_mvcc_row_mvcc_row_raw a0 a1 a2 = some r) :
  Calls prog 183 #[r0_0, I6 a1, r2_0] w fun e w' => ∃ (q0_0 : Value), e = .returned (q0_0) ∧ St w0 w' I [ownS (tyRaw 2) q0_0 r] R := by {
 unfold slices_Insert_mvcc_row_mvcc_row_raw at hm
 obtain ⟨hg, hm⟩ := gd_some hm
 obtain rfl := some_inj hm
 obtain ⟨hi0, hi1, hrm⟩ := insOK_of hg
 obtain ⟨k, rfl⟩ := Int.eq_ofNat_of_zero_le hi0
 have hsm := room_sum hrm
 have hk : k ≤ a0.length := by omega
 have hs : ∀ w : World, (sizeOf 240).run prog w = .ok (tyRaw 2).sz w := sizeOf240
 have hs0 : 0 < (tyRaw 2).sz := Nat.le_of_ble_eq_true rfl
 have hov : ∀ (args : Array Value) (w : World), (callFunc 205 args).run prog w = (Extern.SlicesOverlaps.overlaps #[199, 199] #[4] args >>= fun v => (pure (.value v) : Sem Next)).run prog w := by intro args w; kernel_rfl
 obtain ⟨css, hr, hst⟩ := hst.own_open
 replace hst := hst.pull1
 obtain ⟨dss, hq, hst⟩ := hst.own_open
 replace hst := hst.pull1
 obtain ⟨n, hn⟩ : ∃ n, css.length = n := ⟨_, rfl⟩
 obtain ⟨m, hm'⟩ : ∃ m, dss.length = m := ⟨_, rfl⟩
 have hln : a0.length = n := hr.1.trans hn
 have hlm : a2.length = m := hq.1.trans hm'
 rw [hln] at hsm hk
 rw [hlm] at hsm
 have hsv : SliceV r0_0 n := by have := hst.row_form.2; rwa [hn] at this
 have hsq : SliceV r2_0 m := by have := hst.pull1.row_form.2; rwa [hm'] at this
 have hoc := hr.ones
 have hoq := hq.ones
 have hw1 := wrap_add (a := n) (b := m) (by omega)
 have hw2 := wrap_add (a := k) (b := m) (by omega)
 have hw3 := wrap_sub (a := n + m) (b := k) (by omega) (by omega)
 have hrb := room_of (b := 32) hrm rfl
 rw [hln, hlm] at hrb
 refine calls_start (args := [r0_0, I6 (k : Int), r2_0]) func183 z ntmps183 (Nat.le_of_ble_eq_true z) ?_
 refine wp_seq (wrl (wv ((.slice none 0 0)) z z z (wl_nil (tn (wp_seq (wrl (wv (r0_0) z z z (wv (.int .i64 (k : Int)) z z z (wv ((slcV (tyRaw 2).sz r0_0 k n)) z z (x_slice (lo := (k : Nat)) (hi := (n : Nat)) underlying199 hs z hsv (by omega) (by omega) (by omega) .i64 .i64 (.inl z) (.inr ⟨z, z⟩)) (wl_nil (tn (wp_seq (wrl (wv (r2_0) z z z (wv (.int .i64 (m : Int)) z z (x_len z underlying199 hsq) (wv (.int .i64 (m : Int)) z z z (wl_nil (tn (wp_seq (wp_seq (wrl (wv (.int .i64 (m : Int)) z z z (wv (.bool ((m : Int) == (0:Int))) z z z ?_)))))))))))))))))))))))
 refine wl_nil (tn ?_)
 refine bsplit ((m : Int) == (0:Int)) (fun hc220 => ?_) (fun hc220 => ?_)
 {
 refine wp_ift (cvb hc220) ?_
 refine wp_seq (wrl (wv (r0_0) z z z (wv (r0_0) z z z (wl_nil (tn (wp_ret (then_r ?_)))))))
 refine post_ret (vs := [r0_0]) results183 (rvs_cons (rv_tmp z) rvs_nil) ?_
 rw [ins_nil (by rw [hlm]; exact hc220)]
 exact ⟨_, z, (hst.own_close hr).keep1⟩
}
 {
 refine wp_iff (cvb hc220) ?_
 have hm0 : m ≠ 0 := fun h => by rw [h] at hc220; cases hc220
 have hq0 : dss ≠ [] := fun h => hm0 (by rw [← hm', h]; rfl)
 refine wp_skip (tn (wp_seq (wrl ?_)))
 refine wv (r0_0) z z z (wv (.int .i64 (n : Int)) z z (x_len z underlying199 hsv) (wv (.int .i64 (n : Int)) z z z (wl_nil (tn (wp_seq (wp_seq (wrl (wv (.int .i64 (k : Int)) z z z (wv (.int .i64 (n : Int)) z z z (wv (.bool ((k : Int) == (n : Int))) z z z (wl_nil (tn ?_))))))))))))
 refine bsplit ((k : Int) == (n : Int)) (fun hc221 => ?_) (fun hc221 => ?_)
 {
 refine wp_ift (cvb hc221) ?_
 refine wp_seq (wrl (wv (r0_0) z z z (wv (r2_0) z z z ?_)))
 replace hst := (hst.own_close hr).pull1.own_close hq
 replace hst := hst.pull1
 obtain ⟨v2, w2, hra, hst⟩ := run_append elemN_199 underlying199 hst hst.src1 (room_of hrm z) 199
 refine wl_run (v := v2) (w' := w2) z z (x_append z z hra) ?_
 refine wv (v2) z z z (wl_nil (tn (wp_ret (then_r ?_))))
 refine post_ret (vs := [v2]) results183 (rvs_cons (rv_tmp z) rvs_nil) ?_
 rw [ins_end (by rw [hln]; exact hc221)]
 exact ⟨_, z, hst.keep1⟩
}
 {
 refine wp_iff (cvb hc221) ?_
 have hkn : k ≠ n := fun h => by rw [h] at hc221; simp at hc221
 have hn0 : 0 < n := by omega
 have hc0 : css ≠ [] := fun h => by rw [h] at hn; simp at hn; omega
 refine wp_skip (tn (wp_seq (wp_seq (wrl ?_))))
 refine wv (.int .i64 (n : Int)) z z z (wv (.int .i64 (m : Int)) z z z (wv (.int .i64 ((n + m : Nat) : Int)) z z (ok_cast hw1 z) (wv (r0_0) z z z (wv (.int .i64 (sCap r0_0 : Int)) z z (x_cap z underlying199 hsv) (wv (.bool (decide (((n + m : Nat) : Int) > (sCap r0_0 : Int)))) z z z (wl_nil (tn ?_)))))))
 refine bsplit (decide (((n + m : Nat) : Int) > (sCap r0_0 : Int))) (fun hc222 => ?_) (fun hc222 => ?_)
 {
 refine wp_ift (cvb hc222) ?_
 refine wp_seq (wrl (wv (r0_0) z z z (wv (.int .i64 (k : Int)) z z z (wv ((slcV (tyRaw 2).sz r0_0 0 k)) z z (x_slice (lo := (0 : Nat)) (hi := (k : Nat)) underlying199 hs z hsv (by omega) (by omega) (by omega) .i64 .i64 (.inr ⟨z, z⟩) (.inl z)) (wv (.int .i64 (n : Int)) z z z (wv (.int .i64 (m : Int)) z z z (wv (.int .i64 ((n + m : Nat) : Int)) z z (ok_cast hw1 z) (wv (.int .i64 (k : Int)) z z z (wv (.int .i64 ((n + m - k : Nat) : Int)) z z (ok_cast hw3 z) ?_)))))))))
 obtain ⟨v2, w2, hra, hs2, zss, hzl, hst⟩ := run_app0 elemN_199 underlying3 hst k (n + m - k) (by omega) (by have := of_decide_eq_true hc222; omega) (by rw [show k + (n + m - k) = n + m by omega]; exact hrb) hs0 199
 rw [show k + (n + m - k) = n + m by omega] at hs2
 refine wl_run (v := v2) (w' := w2) z z (x_append z z hra) ?_
 refine wv (v2) z z z (wl_nil (tn (wp_seq (wrl (wv (v2) z z z (wv (.int .i64 (k : Int)) z z z (wv ((slcV (tyRaw 2).sz v2 k (n + m))) z z (x_slice (lo := (k : Nat)) (hi := ((n + m) : Nat)) underlying199 hs z hs2 (by omega) (by omega) (by omega) .i64 .i64 (.inl z) (.inr ⟨z, z⟩)) (wv (r2_0) z z z ?_))))))))
 obtain ⟨w223, hr224, hst⟩ := run_copyRows (P := prog) (t2 := 199) (ty := 3) underlying199 hs hst hst.pull2 k m (N := n + m) (by first | omega | (simp only [List.length_append, List.length_take, List.length_drop]; omega)) (by first | omega | (simp only [List.length_append, List.length_take, List.length_drop]; omega)) (by omega) (by first | omega | (simp only [List.length_append, List.length_take, List.length_drop]; omega)) (ones_take hoq _)
 refine wl_run (v := .int .i64 (m : Nat)) (w' := w223) z z (x_copy z z hr224) ?_
 refine wl_nil (tn (wp_seq ?_))
 refine wp_region_St hst 9 [0, 1, 2, 3, 4, 5, 6, 7, 8] [0, 0, 0, 6, 15, 0, 0, 96, 255] [] z (by kernel_rfl) (by kernel_rfl) Tryz.mixed (by kernel_rfl) ?_
 refine wsr (v2) 0 z z z (by kernel_rfl) (fun w hst => z) (wsr (.int .i64 (k : Int)) 1 z z z (by kernel_rfl) (fun w hst => z) (wsr (.int .i64 (m : Int)) 2 z z z (by kernel_rfl) (fun w hst => z) (wsr (.int .i64 ((k + m : Nat) : Int)) 3 z z z (by kernel_rfl) (fun w hst => ok_cast hw2 z) (wsr ((slcV (tyRaw 2).sz v2 (k + m) (n + m))) 4 z z z (by kernel_rfl) (fun w hst => x_slice (lo := ((k + m) : Nat)) (hi := ((n + m) : Nat)) underlying199 hs z hs2 (by omega) (by omega) (by omega) .i64 .i64 (.inl z) (.inr ⟨z, z⟩)) (wsr (r0_0) 5 z z z (by kernel_rfl) (fun w hst => z) (wsr (.int .i64 (k : Int)) 6 z z z (by kernel_rfl) (fun w hst => z) (wsr ((slcV (tyRaw 2).sz r0_0 k n)) 7 z z z (by kernel_rfl) (fun w hst => x_slice (lo := (k : Nat)) (hi := (n : Nat)) underlying199 hs z hsv (by omega) (by omega) (by omega) .i64 .i64 (.inl z) (.inr ⟨z, z⟩)) ?_)))))))
 refine ws_e1 8 (by kernel_rfl) ?_
 refine nxe [] (by kernel_rfl) z z ?_
 clear hst
 intro w hst
 obtain ⟨w225, hr226, hst⟩ := run_copyRows (P := prog) (t2 := 199) (ty := 3) underlying199 hs hst (hst.pull1.row_part (l := k) (h := n) hk (by omega)) (k + m) (n - k) (N := n + m) (by first | omega | (simp only [List.length_append, List.length_take, List.length_drop]; omega)) (by first | omega | (simp only [List.length_append, List.length_take, List.length_drop]; omega)) (by omega) (by first | omega | (simp only [List.length_append, List.length_take, List.length_drop]; omega)) (ones_take (ones_drop (ones_take hoc _) _) _)
 refine we_run (v := .int .i64 ((n - k) : Nat)) (w' := w225) z (x_copy z z hr226) ?_
 refine ws_next (pend' := []) hst (by kernel_rfl) pk_nil ?_
 refine ws_nil ?_
 intro w hst
 refine tn (wp_seq (wrl (wv (v2) z z z (wv (v2) z z z (wl_nil (tn (wp_ret (then_r ?_))))))))
 refine post_ret (vs := [v2]) results183 (rvs_cons (rv_tmp z) rvs_nil) ?_
 rw [grow_rows hn hm' hk hzl] at hst
 exact ⟨_, z, (hst.own_close ((hr.take k).app (hq.app (hr.drop k)))).keep1⟩
}
 {
 refine wp_iff (cvb hc222) ?_
 have hup : n + m ≤ sCap r0_0 := by have := of_decide_eq_false hc222; omega
 obtain ⟨ess, hel, hem, hst'⟩ := hst.row_up (n + m) (by omega) hup hc0
 rw [show n + m - css.length = m by omega] at hel
 have hs2 : SliceV (upV r0_0 (n + m)) (n + m) := by have := hst'.row_form.2; rwa [List.length_append, hn, hel] at this
 clear hst
 have hst := hst'
 clear hst'
 refine wp_skip (tn (wp_seq (wrl ?_)))
 refine wv (r0_0) z z z (wv (.int .i64 (n : Int)) z z z (wv (.int .i64 (m : Int)) z z z (wv (.int .i64 ((n + m : Nat) : Int)) z z (ok_cast hw1 z) (wv ((upV r0_0 (n + m))) z z (x_sliceUp underlying199 hs z hsv z hup hn0) (wv ((upV r0_0 (n + m))) z z z (wl_nil (tn (wp_seq (wp_seq (wrl (wv (r2_0) z z z (wv ((upV r0_0 (n + m))) z z z (wv (.int .i64 (k : Int)) z z z (wv (.int .i64 (m : Int)) z z z (wv (.int .i64 ((k + m : Nat) : Int)) z z (ok_cast hw2 z) (wv ((slcV (tyRaw 2).sz (upV r0_0 (n + m)) (k + m) (n + m))) z z (x_slice (lo := ((k + m) : Nat)) (hi := ((n + m) : Nat)) underlying199 hs z hs2 (by omega) (by omega) (by omega) .i64 .i64 (.inl z) (.inr ⟨z, z⟩)) ?_))))))))))))))))
 refine wv (.bool false) z z (x_ext z z z (hov _) (run_overlaps z underlying199 hs hst.pull1 (k + m) (N := n + m) (by rw [List.length_append]; omega) (by omega) hq0 hs0)) (wv (.bool true) z z z (wl_nil (tn ?_)))
 refine wp_ift z ?_
 refine wp_seq ?_
 refine wp_region_St hst 9 [0, 1, 2, 3, 4, 5, 6, 7, 8] [0, 0, 0, 6, 15, 0, 0, 96, 255] [] z (by kernel_rfl) (by kernel_rfl) Tryz.mixed (by kernel_rfl) ?_
 refine wsr ((upV r0_0 (n + m))) 0 z z z (by kernel_rfl) (fun w hst => z) (wsr (.int .i64 (k : Int)) 1 z z z (by kernel_rfl) (fun w hst => z) (wsr (.int .i64 (m : Int)) 2 z z z (by kernel_rfl) (fun w hst => z) (wsr (.int .i64 ((k + m : Nat) : Int)) 3 z z z (by kernel_rfl) (fun w hst => ok_cast hw2 z) (wsr ((slcV (tyRaw 2).sz (upV r0_0 (n + m)) (k + m) (n + m))) 4 z z z (by kernel_rfl) (fun w hst => x_slice (lo := ((k + m) : Nat)) (hi := ((n + m) : Nat)) underlying199 hs z hs2 (by omega) (by omega) (by omega) .i64 .i64 (.inl z) (.inr ⟨z, z⟩)) (wsr ((upV r0_0 (n + m))) 5 z z z (by kernel_rfl) (fun w hst => z) (wsr (.int .i64 (k : Int)) 6 z z z (by kernel_rfl) (fun w hst => z) (wsr ((slcV (tyRaw 2).sz (upV r0_0 (n + m)) k (n + m))) 7 z z z (by kernel_rfl) (fun w hst => x_slice (lo := (k : Nat)) (hi := ((n + m) : Nat)) underlying199 hs z hs2 (by omega) (by omega) (by omega) .i64 .i64 (.inl z) (.inr ⟨z, z⟩)) ?_)))))))
 refine ws_e1 8 (by kernel_rfl) ?_
 refine nxe [] (by kernel_rfl) z z ?_
 clear hst
 intro w hst
 obtain ⟨w227, hr228, hst⟩ := run_copyRows (P := prog) (t2 := 199) (ty := 3) underlying199 hs hst (hst.row_part (l := k) (h := n + m) (by omega) (by rw [List.length_append]; omega)) (k + m) (n - k) (N := n + m) (by first | omega | (simp only [List.length_append, List.length_take, List.length_drop]; omega)) (by first | omega | (simp only [List.length_append, List.length_take, List.length_drop]; omega)) (by omega) (by first | omega | (simp only [List.length_append, List.length_take, List.length_drop]; omega)) (by rw [stay_src hn hm' hk hel]; exact ones_drop hoc _)
 refine we_run (v := .int .i64 ((n - k) : Nat)) (w' := w227) z (x_copy z z hr228) ?_
 refine ws_next (pend' := []) hst (by kernel_rfl) pk_nil ?_
 refine ws_nil ?_
 intro w hst
 refine tn (wp_seq (wrl (wv ((upV r0_0 (n + m))) z z z (wv (.int .i64 (k : Int)) z z z (wv ((slcV (tyRaw 2).sz (upV r0_0 (n + m)) k (n + m))) z z (x_slice (lo := (k : Nat)) (hi := ((n + m) : Nat)) underlying199 hs z hs2 (by omega) (by omega) (by omega) .i64 .i64 (.inl z) (.inr ⟨z, z⟩)) (wv (r2_0) z z z ?_))))))
 obtain ⟨w229, hr230, hst⟩ := run_copyRows (P := prog) (t2 := 199) (ty := 3) underlying199 hs hst hst.pull1 k m (N := n + m) (by first | omega | (simp only [List.length_append, List.length_take, List.length_drop]; omega)) (by first | omega | (simp only [List.length_append, List.length_take, List.length_drop]; omega)) (by omega) (by first | omega | (simp only [List.length_append, List.length_take, List.length_drop]; omega)) (ones_take hoq _)
 refine wl_run (v := .int .i64 (m : Nat)) (w' := w229) z z (x_copy z z hr230) ?_
 refine wl_nil (tn (wp_seq (wrl (wv ((upV r0_0 (n + m))) z z z (wv ((upV r0_0 (n + m))) z z z (wl_nil (tn (wp_ret (then_r ?_)))))))))
 refine post_ret (vs := [(upV r0_0 (n + m))]) results183 (rvs_cons (rv_tmp z) rvs_nil) ?_
 rw [stay_rows hn hm' hk hel] at hst
 exact ⟨_, z, (hst.own_close ((hr.take k).app (hq.app (hr.drop k)))).keep1⟩
}
}
}
}

theorem slices_Insert_mvcc_row_mvcc_row_ref {w0 w : World} {I : HL} {R : SP} {a0 : (List mvcc_row)} {r0_0 : Value} {a1 : Int} {a2 : (List mvcc_row)} {r2_0 : Value} (hst : St w0 w I [ownN nest_mvcc_row r0_0 a0, ownN nest_mvcc_row r2_0 a2] R) {r : (List mvcc_row)} (hm : slices_Insert_mvcc_row_mvcc_row a0 a1 a2 = some r) :
  Calls prog 183 #[r0_0, I6 a1, r2_0] w fun e w' => ∃ (q0_0 : Value), e = .returned (q0_0) ∧ St w0 w' I [ownN nest_mvcc_row q0_0 r] R := by {
 unfold slices_Insert_mvcc_row_mvcc_row at hm
 obtain ⟨hg, hm⟩ := gd_some hm
 obtain rfl := some_inj hm
 obtain ⟨vs, us, h1, k1, hst⟩ := hst.nest_two
 refine Calls.mono (slices_Insert_mvcc_row_mvcc_row_raw_ref hst.to2 (r := ins (nest_mvcc_row.cs a0 vs) a1 (nest_mvcc_row.cs a2 us)) (by unfold slices_Insert_mvcc_row_mvcc_row_raw; rw [insOK_cs h1 k1, hg]; rfl)) ?_
 rintro _ w' ⟨q, rfl, hst'⟩
 exact ⟨_, z, (hst'.of1.nest_ins h1 k1).keep1⟩
}

theorem mvcc_ahead_ref {w0 w : World} {I : HL} {R : SP} {a0 : mvcc_Version} {r0_0 : Value} {a1 : Int} {a2 : Int} (f0_0 : Rd (tyInt .u8) R I r0_0 a0.Val) (hst : St w0 w I [] R) {r : (Bool)} (hm : mvcc_ahead a0 a1 a2 = some r) :
  Calls prog 185 #[.agg #[U6 a0.Epoch, U6 a0.Index, .bool a0.Del, r0_0], U6 a1, U6 a2] w fun e w' => e = .returned (.bool r) ∧ St w0 w' I [] R := by {
 unfold mvcc_ahead at hm
 refine calls_start (args := [.agg #[U6 a0.Epoch, U6 a0.Index, .bool a0.Del, r0_0], U6 a1, U6 a2]) func185 z ntmps185 (Nat.le_of_ble_eq_true z) ?_
 refine wp_seq (wrl ?_)
 obtain ⟨b281, w282, ew283, eb284, hst⟩ := hst.box [U6 a0.Epoch, U6 a0.Index, .bool a0.Del, r0_0] 214
 refine wl_run (v := Pt b281 0) (w' := w282) z z (x_al (by kernel_rfl) ew283 eb284) ?_
 refine wv (.bool false) z z z (wl_nil (tn (wp_seq (wrl (wv (Pt b281 0) z z (x_field z underlying214 z sizeOf26 z) (wv (.int .u64 a0.Epoch) z z (x_load z isAgg26 (hst.bc0 z)) (wv (.int .u64 a1) z z z (wv (.bool (decide (a0.Epoch < a1))) z z z (wv (.bool (decide (a0.Epoch < a1))) z z z ?_)))))))))
 refine bsplit (decide (a0.Epoch < a1)) (fun hc286 => ?_) (fun hc286 => ?_)
 {
 replace hm := bif_t hc286 hm
 refine wo hc286 z z z z z z (wo hc286 z z z z z z (wo hc286 z z z z z z (wo hc286 z z z z z z (wo hc286 z z z z z z (wl_off (wanted_undef z z z z) z (wl_off (wanted_undef z z z z) z (wl_off (wanted_undef z z z z) z (wl_off (wanted_undef z z z z) z (wo hc286 z z z z z z (wv (.bool true) z z (x_pick_t hc286 z z) (wv (.bool true) z z z (wl_nil (tn (wp_ret ?_))))))))))))))
 obtain rfl := some_inj hm
 refine post_ret (vs := [.bool true]) results185 (rvs_cons (rv_tmp z) rvs_nil) ?_
 exact ⟨z, hst.keep0⟩
}
 {
 replace hm := bif_f hc286 hm
 refine wv (Pt b281 0) ((wanted_eq z z z (cvb hc286)).trans z) z (x_field z underlying214 z sizeOf26 z) (wv (.int .u64 a0.Epoch) ((wanted_eq z z z (cvb hc286)).trans z) z (x_load z isAgg26 (hst.bc0 z)) (wv (.int .u64 a1) ((wanted_eq z z z (cvb hc286)).trans z) z z (wv (.bool (a0.Epoch == a1)) ((wanted_eq z z z (cvb hc286)).trans z) z z (wv (.bool (a0.Epoch == a1)) ((wanted_eq z z z (cvb hc286)).trans z) z z ?_))))
 refine bsplit (a0.Epoch == a1) (fun hc287 => ?_) (fun hc287 => ?_)
 {
 replace hm := bif_t hc287 hm
 refine wv (Pt b281 1) ((wanted_eq z z z (cvb hc287)).trans z) z (x_field z underlying214 z sizeOf26 z) (wv (.int .u64 a0.Index) ((wanted_eq z z z (cvb hc287)).trans z) z (x_load z isAgg26 (hst.bc0 z)) (wv (.int .u64 a2) ((wanted_eq z z z (cvb hc287)).trans z) z z (wv (.bool (decide (a0.Index < a2))) ((wanted_eq z z z (cvb hc287)).trans z) z z (wv (.bool (decide (a0.Index < a2))) ((wanted_eq z z z (cvb hc286)).trans z) z (x_pick_t hc287 z z) (wv (.bool (decide (a0.Index < a2))) z z (x_pick_f hc286 z z) (wv (.bool (decide (a0.Index < a2))) z z z (wl_nil (tn (wp_ret ?_)))))))))
 obtain rfl := some_inj hm
 refine post_ret (vs := [.bool (decide (a0.Index < a2))]) results185 (rvs_cons (rv_tmp z) rvs_nil) ?_
 exact ⟨z, hst.keep0⟩
}
 {
 replace hm := bif_f hc287 hm
 refine wo hc287 z z z z z z (wo hc287 z z z z z z (wo hc287 z z z z z z (wo hc287 z z z z z z (wv (.bool false) ((wanted_eq z z z (cvb hc286)).trans z) z (x_pick_f hc287 z z) (wv (.bool false) z z (x_pick_f hc286 z z) (wv (.bool false) z z z (wl_nil (tn (wp_ret ?_)))))))))
 obtain rfl := some_inj hm
 refine post_ret (vs := [.bool false]) results185 (rvs_cons (rv_tmp z) rvs_nil) ?_
 exact ⟨z, hst.keep0⟩
}
}
}

theorem slices_Insert_mvcc_Version_mvcc_Version_ref {w0 w : World} {I : HL} {R : SP} {a0 : (List mvcc_Version)} {r0_0 : Value} {a1 : Int} {a2 : (List mvcc_Version)} {r2_0 : Value} (hst : St w0 w I [ownS ty_mvcc_Version r0_0 a0, ownS ty_mvcc_Version r2_0 a2] R) {r : (List mvcc_Version)} (hm : slices_Insert_mvcc_Version_mvcc_Version a0 a1 a2 = some r) :
  Calls prog 186 #[r0_0, I6 a1, r2_0] w fun e w' => ∃ (q0_0 : Value), e = .returned (q0_0) ∧ St w0 w' I [ownS ty_mvcc_Version q0_0 r] R := by {
 unfold slices_Insert_mvcc_Version_mvcc_Version at hm
 obtain ⟨hg, hm⟩ := gd_some hm
 obtain rfl := some_inj hm
 obtain ⟨hi0, hi1, hrm⟩ := insOK_of hg
 obtain ⟨k, rfl⟩ := Int.eq_ofNat_of_zero_le hi0
 have hsm := room_sum hrm
 have hk : k ≤ a0.length := by omega
 have hs : ∀ w : World, (sizeOf 214).run prog w = .ok ty_mvcc_Version.sz w := sizeOf214
 have hs0 : 0 < ty_mvcc_Version.sz := Nat.le_of_ble_eq_true rfl
 have hov : ∀ (args : Array Value) (w : World), (callFunc 207 args).run prog w = (Extern.SlicesOverlaps.overlaps #[238, 238] #[4] args >>= fun v => (pure (.value v) : Sem Next)).run prog w := by intro args w; kernel_rfl
 obtain ⟨css, hr, hst⟩ := hst.own_open
 replace hst := hst.pull1
 obtain ⟨dss, hq, hst⟩ := hst.own_open
 replace hst := hst.pull1
 obtain ⟨n, hn⟩ : ∃ n, css.length = n := ⟨_, rfl⟩
 obtain ⟨m, hm'⟩ : ∃ m, dss.length = m := ⟨_, rfl⟩
 have hln : a0.length = n := hr.1.trans hn
 have hlm : a2.length = m := hq.1.trans hm'
 rw [hln] at hsm hk
 rw [hlm] at hsm
 have hsv : SliceV r0_0 n := by have := hst.row_form.2; rwa [hn] at this
 have hsq : SliceV r2_0 m := by have := hst.pull1.row_form.2; rwa [hm'] at this
 have hoc := hr.ones
 have hoq := hq.ones
 have hw1 := wrap_add (a := n) (b := m) (by omega)
 have hw2 := wrap_add (a := k) (b := m) (by omega)
 have hw3 := wrap_sub (a := n + m) (b := k) (by omega) (by omega)
 have hrb := room_of (b := 48) hrm rfl
 rw [hln, hlm] at hrb
 refine calls_start (args := [r0_0, I6 (k : Int), r2_0]) func186 z ntmps186 (Nat.le_of_ble_eq_true z) ?_
 refine wp_seq (wrl (wv ((.slice none 0 0)) z z z (wl_nil (tn (wp_seq (wrl (wv (r0_0) z z z (wv (.int .i64 (k : Int)) z z z (wv ((slcV ty_mvcc_Version.sz r0_0 k n)) z z (x_slice (lo := (k : Nat)) (hi := (n : Nat)) underlying238 hs z hsv (by omega) (by omega) (by omega) .i64 .i64 (.inl z) (.inr ⟨z, z⟩)) (wl_nil (tn (wp_seq (wrl (wv (r2_0) z z z (wv (.int .i64 (m : Int)) z z (x_len z underlying238 hsq) (wv (.int .i64 (m : Int)) z z z (wl_nil (tn (wp_seq (wp_seq (wrl (wv (.int .i64 (m : Int)) z z z (wv (.bool ((m : Int) == (0:Int))) z z z ?_)))))))))))))))))))))))
 refine wl_nil (tn ?_)
 refine bsplit ((m : Int) == (0:Int)) (fun hc399 => ?_) (fun hc399 => ?_)
 {
 refine wp_ift (cvb hc399) ?_
 refine wp_seq (wrl (wv (r0_0) z z z (wv (r0_0) z z z (wl_nil (tn (wp_ret (then_r ?_)))))))
 refine post_ret (vs := [r0_0]) results186 (rvs_cons (rv_tmp z) rvs_nil) ?_
 rw [ins_nil (by rw [hlm]; exact hc399)]
 exact ⟨_, z, (hst.own_close hr).keep1⟩
}
 {
 refine wp_iff (cvb hc399) ?_
 have hm0 : m ≠ 0 := fun h => by rw [h] at hc399; cases hc399
 have hq0 : dss ≠ [] := fun h => hm0 (by rw [← hm', h]; rfl)
 refine wp_skip (tn (wp_seq (wrl ?_)))
 refine wv (r0_0) z z z (wv (.int .i64 (n : Int)) z z (x_len z underlying238 hsv) (wv (.int .i64 (n : Int)) z z z (wl_nil (tn (wp_seq (wp_seq (wrl (wv (.int .i64 (k : Int)) z z z (wv (.int .i64 (n : Int)) z z z (wv (.bool ((k : Int) == (n : Int))) z z z (wl_nil (tn ?_))))))))))))
 refine bsplit ((k : Int) == (n : Int)) (fun hc400 => ?_) (fun hc400 => ?_)
 {
 refine wp_ift (cvb hc400) ?_
 refine wp_seq (wrl (wv (r0_0) z z z (wv (r2_0) z z z ?_)))
 replace hst := (hst.own_close hr).pull1.own_close hq
 replace hst := hst.pull1
 obtain ⟨v2, w2, hra, hst⟩ := run_append elem_238 underlying238 hst hst.src1 (room_of hrm z) 238
 refine wl_run (v := v2) (w' := w2) z z (x_append z z hra) ?_
 refine wv (v2) z z z (wl_nil (tn (wp_ret (then_r ?_))))
 refine post_ret (vs := [v2]) results186 (rvs_cons (rv_tmp z) rvs_nil) ?_
 rw [ins_end (by rw [hln]; exact hc400)]
 exact ⟨_, z, hst.keep1⟩
}
 {
 refine wp_iff (cvb hc400) ?_
 have hkn : k ≠ n := fun h => by rw [h] at hc400; simp at hc400
 have hn0 : 0 < n := by omega
 have hc0 : css ≠ [] := fun h => by rw [h] at hn; simp at hn; omega
 refine wp_skip (tn (wp_seq (wp_seq (wrl ?_))))
 refine wv (.int .i64 (n : Int)) z z z (wv (.int .i64 (m : Int)) z z z (wv (.int .i64 ((n + m : Nat) : Int)) z z (ok_cast hw1 z) (wv (r0_0) z z z (wv (.int .i64 (sCap r0_0 : Int)) z z (x_cap z underlying238 hsv) (wv (.bool (decide (((n + m : Nat) : Int) > (sCap r0_0 : Int)))) z z z (wl_nil (tn ?_)))))))
 refine bsplit (decide (((n + m : Nat) : Int) > (sCap r0_0 : Int))) (fun hc401 => ?_) (fun hc401 => ?_)
 {
 refine wp_ift (cvb hc401) ?_
 refine wp_seq (wrl (wv (r0_0) z z z (wv (.int .i64 (k : Int)) z z z (wv ((slcV ty_mvcc_Version.sz r0_0 0 k)) z z (x_slice (lo := (0 : Nat)) (hi := (k : Nat)) underlying238 hs z hsv (by omega) (by omega) (by omega) .i64 .i64 (.inr ⟨z, z⟩) (.inl z)) (wv (.int .i64 (n : Int)) z z z (wv (.int .i64 (m : Int)) z z z (wv (.int .i64 ((n + m : Nat) : Int)) z z (ok_cast hw1 z) (wv (.int .i64 (k : Int)) z z z (wv (.int .i64 ((n + m - k : Nat) : Int)) z z (ok_cast hw3 z) ?_)))))))))
 obtain ⟨v2, w2, hra, hs2, zss, hzl, hst⟩ := run_app0 elem_238 underlying3 hst k (n + m - k) (by omega) (by have := of_decide_eq_true hc401; omega) (by rw [show k + (n + m - k) = n + m by omega]; exact hrb) hs0 238
 rw [show k + (n + m - k) = n + m by omega] at hs2
 refine wl_run (v := v2) (w' := w2) z z (x_append z z hra) ?_
 refine wv (v2) z z z (wl_nil (tn (wp_seq (wrl (wv (v2) z z z (wv (.int .i64 (k : Int)) z z z (wv ((slcV ty_mvcc_Version.sz v2 k (n + m))) z z (x_slice (lo := (k : Nat)) (hi := ((n + m) : Nat)) underlying238 hs z hs2 (by omega) (by omega) (by omega) .i64 .i64 (.inl z) (.inr ⟨z, z⟩)) (wv (r2_0) z z z ?_))))))))
 obtain ⟨w402, hr403, hst⟩ := run_copyRows (P := prog) (t2 := 238) (ty := 3) underlying238 hs hst hst.pull2 k m (N := n + m) (by first | omega | (simp only [List.length_append, List.length_take, List.length_drop]; omega)) (by first | omega | (simp only [List.length_append, List.length_take, List.length_drop]; omega)) (by omega) (by first | omega | (simp only [List.length_append, List.length_take, List.length_drop]; omega)) (ones_take hoq _)
 refine wl_run (v := .int .i64 (m : Nat)) (w' := w402) z z (x_copy z z hr403) ?_
 refine wl_nil (tn (wp_seq ?_))
 refine wp_region_St hst 9 [0, 1, 2, 3, 4, 5, 6, 7, 8] [0, 0, 0, 6, 15, 0, 0, 96, 255] [] z (by kernel_rfl) (by kernel_rfl) Tryz.mixed (by kernel_rfl) ?_
 refine wsr (v2) 0 z z z (by kernel_rfl) (fun w hst => z) (wsr (.int .i64 (k : Int)) 1 z z z (by kernel_rfl) (fun w hst => z) (wsr (.int .i64 (m : Int)) 2 z z z (by kernel_rfl) (fun w hst => z) (wsr (.int .i64 ((k + m : Nat) : Int)) 3 z z z (by kernel_rfl) (fun w hst => ok_cast hw2 z) (wsr ((slcV ty_mvcc_Version.sz v2 (k + m) (n + m))) 4 z z z (by kernel_rfl) (fun w hst => x_slice (lo := ((k + m) : Nat)) (hi := ((n + m) : Nat)) underlying238 hs z hs2 (by omega) (by omega) (by omega) .i64 .i64 (.inl z) (.inr ⟨z, z⟩)) (wsr (r0_0) 5 z z z (by kernel_rfl) (fun w hst => z) (wsr (.int .i64 (k : Int)) 6 z z z (by kernel_rfl) (fun w hst => z) (wsr ((slcV ty_mvcc_Version.sz r0_0 k n)) 7 z z z (by kernel_rfl) (fun w hst => x_slice (lo := (k : Nat)) (hi := (n : Nat)) underlying238 hs z hsv (by omega) (by omega) (by omega) .i64 .i64 (.inl z) (.inr ⟨z, z⟩)) ?_)))))))
 refine ws_e1 8 (by kernel_rfl) ?_
 refine nxe [] (by kernel_rfl) z z ?_
 clear hst
 intro w hst
 obtain ⟨w404, hr405, hst⟩ := run_copyRows (P := prog) (t2 := 238) (ty := 3) underlying238 hs hst (hst.pull1.row_part (l := k) (h := n) hk (by omega)) (k + m) (n - k) (N := n + m) (by first | omega | (simp only [List.length_append, List.length_take, List.length_drop]; omega)) (by first | omega | (simp only [List.length_append, List.length_take, List.length_drop]; omega)) (by omega) (by first | omega | (simp only [List.length_append, List.length_take, List.length_drop]; omega)) (ones_take (ones_drop (ones_take hoc _) _) _)
 refine we_run (v := .int .i64 ((n - k) : Nat)) (w' := w404) z (x_copy z z hr405) ?_
 refine ws_next (pend' := []) hst (by kernel_rfl) pk_nil ?_
 refine ws_nil ?_
 intro w hst
 refine tn (wp_seq (wrl (wv (v2) z z z (wv (v2) z z z (wl_nil (tn (wp_ret (then_r ?_))))))))
 refine post_ret (vs := [v2]) results186 (rvs_cons (rv_tmp z) rvs_nil) ?_
 rw [grow_rows hn hm' hk hzl] at hst
 exact ⟨_, z, (hst.own_close ((hr.take k).app (hq.app (hr.drop k)))).keep1⟩
}
 {
 refine wp_iff (cvb hc401) ?_
 have hup : n + m ≤ sCap r0_0 := by have := of_decide_eq_false hc401; omega
 obtain ⟨ess, hel, hem, hst'⟩ := hst.row_up (n + m) (by omega) hup hc0
 rw [show n + m - css.length = m by omega] at hel
 have hs2 : SliceV (upV r0_0 (n + m)) (n + m) := by have := hst'.row_form.2; rwa [List.length_append, hn, hel] at this
 clear hst
 have hst := hst'
 clear hst'
 refine wp_skip (tn (wp_seq (wrl ?_)))
 refine wv (r0_0) z z z (wv (.int .i64 (n : Int)) z z z (wv (.int .i64 (m : Int)) z z z (wv (.int .i64 ((n + m : Nat) : Int)) z z (ok_cast hw1 z) (wv ((upV r0_0 (n + m))) z z (x_sliceUp underlying238 hs z hsv z hup hn0) (wv ((upV r0_0 (n + m))) z z z (wl_nil (tn (wp_seq (wp_seq (wrl (wv (r2_0) z z z (wv ((upV r0_0 (n + m))) z z z (wv (.int .i64 (k : Int)) z z z (wv (.int .i64 (m : Int)) z z z (wv (.int .i64 ((k + m : Nat) : Int)) z z (ok_cast hw2 z) (wv ((slcV ty_mvcc_Version.sz (upV r0_0 (n + m)) (k + m) (n + m))) z z (x_slice (lo := ((k + m) : Nat)) (hi := ((n + m) : Nat)) underlying238 hs z hs2 (by omega) (by omega) (by omega) .i64 .i64 (.inl z) (.inr ⟨z, z⟩)) ?_))))))))))))))))
 refine wv (.bool false) z z (x_ext z z z (hov _) (run_overlaps z underlying238 hs hst.pull1 (k + m) (N := n + m) (by rw [List.length_append]; omega) (by omega) hq0 hs0)) (wv (.bool true) z z z (wl_nil (tn ?_)))
 refine wp_ift z ?_
 refine wp_seq ?_
 refine wp_region_St hst 9 [0, 1, 2, 3, 4, 5, 6, 7, 8] [0, 0, 0, 6, 15, 0, 0, 96, 255] [] z (by kernel_rfl) (by kernel_rfl) Tryz.mixed (by kernel_rfl) ?_
 refine wsr ((upV r0_0 (n + m))) 0 z z z (by kernel_rfl) (fun w hst => z) (wsr (.int .i64 (k : Int)) 1 z z z (by kernel_rfl) (fun w hst => z) (wsr (.int .i64 (m : Int)) 2 z z z (by kernel_rfl) (fun w hst => z) (wsr (.int .i64 ((k + m : Nat) : Int)) 3 z z z (by kernel_rfl) (fun w hst => ok_cast hw2 z) (wsr ((slcV ty_mvcc_Version.sz (upV r0_0 (n + m)) (k + m) (n + m))) 4 z z z (by kernel_rfl) (fun w hst => x_slice (lo := ((k + m) : Nat)) (hi := ((n + m) : Nat)) underlying238 hs z hs2 (by omega) (by omega) (by omega) .i64 .i64 (.inl z) (.inr ⟨z, z⟩)) (wsr ((upV r0_0 (n + m))) 5 z z z (by kernel_rfl) (fun w hst => z) (wsr (.int .i64 (k : Int)) 6 z z z (by kernel_rfl) (fun w hst => z) (wsr ((slcV ty_mvcc_Version.sz (upV r0_0 (n + m)) k (n + m))) 7 z z z (by kernel_rfl) (fun w hst => x_slice (lo := (k : Nat)) (hi := ((n + m) : Nat)) underlying238 hs z hs2 (by omega) (by omega) (by omega) .i64 .i64 (.inl z) (.inr ⟨z, z⟩)) ?_)))))))
 refine ws_e1 8 (by kernel_rfl) ?_
 refine nxe [] (by kernel_rfl) z z ?_
 clear hst
 intro w hst
 obtain ⟨w406, hr407, hst⟩ := run_copyRows (P := prog) (t2 := 238) (ty := 3) underlying238 hs hst (hst.row_part (l := k) (h := n + m) (by omega) (by rw [List.length_append]; omega)) (k + m) (n - k) (N := n + m) (by first | omega | (simp only [List.length_append, List.length_take, List.length_drop]; omega)) (by first | omega | (simp only [List.length_append, List.length_take, List.length_drop]; omega)) (by omega) (by first | omega | (simp only [List.length_append, List.length_take, List.length_drop]; omega)) (by rw [stay_src hn hm' hk hel]; exact ones_drop hoc _)
 refine we_run (v := .int .i64 ((n - k) : Nat)) (w' := w406) z (x_copy z z hr407) ?_
 refine ws_next (pend' := []) hst (by kernel_rfl) pk_nil ?_
 refine ws_nil ?_
 intro w hst
 refine tn (wp_seq (wrl (wv ((upV r0_0 (n + m))) z z z (wv (.int .i64 (k : Int)) z z z (wv ((slcV ty_mvcc_Version.sz (upV r0_0 (n + m)) k (n + m))) z z (x_slice (lo := (k : Nat)) (hi := ((n + m) : Nat)) underlying238 hs z hs2 (by omega) (by omega) (by omega) .i64 .i64 (.inl z) (.inr ⟨z, z⟩)) (wv (r2_0) z z z ?_))))))
 obtain ⟨w408, hr409, hst⟩ := run_copyRows (P := prog) (t2 := 238) (ty := 3) underlying238 hs hst hst.pull1 k m (N := n + m) (by first | omega | (simp only [List.length_append, List.length_take, List.length_drop]; omega)) (by first | omega | (simp only [List.length_append, List.length_take, List.length_drop]; omega)) (by omega) (by first | omega | (simp only [List.length_append, List.length_take, List.length_drop]; omega)) (ones_take hoq _)
 refine wl_run (v := .int .i64 (m : Nat)) (w' := w408) z z (x_copy z z hr409) ?_
 refine wl_nil (tn (wp_seq (wrl (wv ((upV r0_0 (n + m))) z z z (wv ((upV r0_0 (n + m))) z z z (wl_nil (tn (wp_ret (then_r ?_)))))))))
 refine post_ret (vs := [(upV r0_0 (n + m))]) results186 (rvs_cons (rv_tmp z) rvs_nil) ?_
 rw [stay_rows hn hm' hk hel] at hst
 exact ⟨_, z, (hst.own_close ((hr.take k).app (hq.app (hr.drop k)))).keep1⟩
}
}
}
}

theorem mvcc_Store_Put_ref {w0 w : World} {I : HL} {R : SP} {a0 : (Option mvcc_Store)} {p0 : Value} {a1 : Nat} {a2 : mvcc_Version} {r2_0 : Value} (f2_0 : Rd (tyInt .u8) R I r2_0 a2.Val) (hst : St w0 w I [objO at_mvcc_Store p0 a0] R) {r : ((Option mvcc_Store))} (hm : mvcc_Store_Put a0 a1 a2 = some r) :
  Calls prog 123 #[p0, F6 a1, .agg #[U6 a2.Epoch, U6 a2.Index, .bool a2.Del, r2_0]] w fun e w' => ∃ (I' : HL), e = .returned (.tuple #[]) ∧ I.le I' ∧ St w0 w' I' [objO at_mvcc_Store p0 r] R := by {
 rcases a0 with _ | o0
 {
 obtain ⟨rfl, hst'⟩ := objO_none hst
 clear hst
 have hst := hst'
 clear hst'
 dsimp only [mvcc_Store_Put] at hm
 refine calls_start (args := [.pointer none, F6 a1, .agg #[U6 a2.Epoch, U6 a2.Index, .bool a2.Del, r2_0]]) func123 z ntmps123 (Nat.le_of_ble_eq_true z) ?_
 have hI0 := HL.le.refl I
 refine wp_seq (wrl ?_)
 obtain ⟨b419, w420, ew421, eb422, hst⟩ := hst.box [U6 a2.Epoch, U6 a2.Index, .bool a2.Del, r2_0] 214
 refine wl_run (v := Pt b419 0) (w' := w420) z z (x_al (by kernel_rfl) ew421 eb422) ?_
 refine wl_nil (tn (wp_seq (wp_seq (wrl (wv (.pointer none) z z z (wv (.bool true) z z (by kernel_rfl) (wl_nil (tn ?_))))))))
 refine wp_ift z ?_
 refine wp_ret (then_r ?_)
 replace hst := hst.objO_nil at_mvcc_Store
 obtain rfl := some_inj hm
 refine post_ret (vs := []) results123 rvs_nil ?_
 exact ⟨_, z, hI0, hst.keep1⟩
}
 {
 replace hst := objO_get hst
 dsimp only [mvcc_Store_Put] at hm
 refine calls_start (args := [p0, F6 a1, .agg #[U6 a2.Epoch, U6 a2.Index, .bool a2.Del, r2_0]]) func123 z ntmps123 (Nat.le_of_ble_eq_true z) ?_
 have hI0 := HL.le.refl I
 refine wp_seq (wrl ?_)
 obtain ⟨b424, w425, ew426, eb427, hst⟩ := hst.box [U6 a2.Epoch, U6 a2.Index, .bool a2.Del, r2_0] 214
 refine wl_run (v := Pt b424 0) (w' := w425) z z (x_al (by kernel_rfl) ew426 eb427) ?_
 refine wl_nil (tn (wp_seq (wp_seq (wrl (wv (p0) z z z ?_)))))
 replace hst := hst.pull1
 obtain ⟨b429, v430, rfl, hst'⟩ := at_mvcc_Store_open hst
 clear hst
 have hst := hst'
 clear hst'
 refine wv (.bool false) z z (by kernel_rfl) (wl_nil (tn ?_))
 refine wp_iff z ?_
 refine wp_skip (tn (wp_seq (wrl ?_)))
 refine wv (Pt b424 3) z z (x_field z underlying214 z sizeOf22 z) (wv (r2_0) z z (x_load z isAgg22 (hst.bc2 z)) ?_)
 obtain ⟨t432, ht433, hm⟩ := bind_some hm
 refine wc call143 [r2_0] z z z ?_
 refine (slices_Clone_byte_byte_ref (f2_0.mono (rd_weak _)) hst.to0 ht433).mono ?_
 rintro _ w434 ⟨v437, rfl, hst⟩
 refine ⟨_, z, ?_⟩
 replace hst := hst.of1
 refine wv (Pt b424 3) z z (x_field z underlying214 z sizeOf22 z) ?_
 replace hst := hst.pull3
 obtain ⟨w439, hr440, hst⟩ := hst.boxStore1 (P := prog) (t := 22) (cs' := [U6 a2.Epoch, U6 a2.Index, .bool a2.Del, v437]) 3 v437 (one_of_sliceV hst.sv1) sizeOf22 z z
 refine wl_unit z z (x_unit hr440) ?_
 refine wl_nil (tn ?_)
 obtain ⟨y450, hm, hx451⟩ := bind_some hm
 refine wp_cut (fun a w => ∃ (z447 : (List Int)) (v446 : Value) (σ448 : Nat → Value), (mvcc_Store_Put_j0 a1 o0 a2) z447 = some r ∧ a = Fr 93 (upd (upd (upd σ448 0 (Pt b429 0)) 1 (.float .f64 a1)) 5 (Pt b424 0)) ∧ St w0 w I [at_mvcc_Store (Pt b429 0) o0, cells b424 [U6 a2.Epoch, U6 a2.Index, .bool a2.Del, v446], ownS (tyInt .u8) v446 z447] R) ?_ ?_
 {
 refine wp_seq (wrl (wv (Pt b424 2) z z (x_field z underlying214 z sizeOf4 z) (wv (.bool a2.Del) z z (x_load z isAgg4 (hst.bc0 z)) (wl_nil (tn ?_)))))
 refine bsplit a2.Del (fun hc441 => ?_) (fun hc441 => ?_)
 {
 replace hm := bif_t hc441 hm
 refine wp_ift (cvb hc441) ?_
 refine wrl (wv (Pt b424 3) z z (x_field z underlying214 z sizeOf22 z) ?_)
 obtain ⟨w443, hr444, hst⟩ := hst.by_ [U6 a2.Epoch, U6 a2.Index, .bool a2.Del, Zs] 3 ((.slice none 0 0)) sizeOf22 z (oC z oN) (by kernel_rfl)
 refine wl_unit z z (x_unit hr444) ?_
 refine wl_nil (tn ?_)
 replace hst := hst.own_nil (tyInt .u8)
 replace hst := hst.pull4.pull4
 replace hst := at_mvcc_Store_close (pv := Pt b429 0) (x := o0) hst z
 replace hst := hst.pull1.pull2.pull2.keep3
 obtain rfl := some_inj hm
 exact ⟨([]), Zs, _, hx451, (fu 0 (Pt b429 0) z (fu 1 (.float .f64 a1) z (fu 5 (Pt b424 0) z z))), hst⟩
}
 {
 replace hm := bif_f hc441 hm
 refine wp_iff (cvb hc441) ?_
 refine wp_skip (tn ?_)
 replace hst := hst.pull3.pull3
 replace hst := at_mvcc_Store_close (pv := Pt b429 0) (x := o0) hst z
 replace hst := hst.pull2.pull2.pull2.keep3
 obtain rfl := some_inj hm
 exact ⟨t432, v437, _, hx451, (fu 0 (Pt b429 0) z (fu 1 (.float .f64 a1) z (fu 5 (Pt b424 0) z z))), hst⟩
}
}
 {
 clear hst
 rintro _ w452 ⟨z447, v446, σ448, hm, rfl, hst⟩
 dsimp only [mvcc_Store_Put_j0] at hm
 refine wp_seq (wrl (wv (Pt b429 0) z z z (wv (.float .f64 a1) z z z ?_)))
 obtain ⟨t453, ht454, hm⟩ := bind_some hm
 refine wc call118 [F6 a1] z z z ?_
 refine (number_Rank_ref hst.to0 ht454).mono ?_
 rintro _ w455 ⟨rfl, hst⟩
 refine ⟨_, z, ?_⟩
 replace hst := hst.of0
 replace hst := objO_some hst
 obtain ⟨t458, ht459, hm⟩ := bind_some hm
 refine wc call146 [Pt b429 0, U6 t453] z z z ?_
 refine (mvcc_Store_find_ref hst.to1 ht459).mono ?_
 rintro _ w460 ⟨rfl, hst⟩
 refine ⟨_, z, ?_⟩
 replace hst := hst.of1
 replace hst := objO_get hst
 refine wv (.tuple #[I6 t458.1, .bool t458.2]) z z z (wv (.int .i64 t458.1) z z z (wv (.bool t458.2) z z z (wv (.int .i64 t458.1) z z z (wv (.bool t458.2) z z z (wl_nil (tn ?_))))))
 obtain ⟨y492, hm, hx493⟩ := bind_some hm
 refine wp_cut (fun a w => ∃ (z489 : mvcc_Store) (σ490 : Nat → Value), (mvcc_Store_Put_j1 t458 a2 z447) z489 = some r ∧ a = Fr 93 (upd (upd (upd σ490 0 (Pt b429 0)) 5 (Pt b424 0)) 6 (.int .i64 t458.1)) ∧ St w0 w I [at_mvcc_Store (Pt b429 0) z489, cells b424 [U6 a2.Epoch, U6 a2.Index, .bool a2.Del, v446], ownS (tyInt .u8) v446 z447] R) ?_ ?_
 {
 refine wp_seq (wrl (wv (.bool t458.2) z z z (wv (.bool (!t458.2)) z z z (wl_nil (tn ?_)))))
 refine bsplit (!t458.2) (fun hc463 => ?_) (fun hc463 => ?_)
 {
 replace hm := bif_t hc463 hm
 refine wp_ift (cvb hc463) ?_
 obtain ⟨b464, v465, e467, hst'⟩ := at_mvcc_Store_open hst
 clear hst
 have e467 := ptr_inj e467
 subst e467
 have hst := hst'
 clear hst'
 refine wp_region_St hst 14 [0, 1, 2, 3, 4, 5, 6, 7, 8, 9, 10, 11, 12, 13] [0, 0, 2, 6, 14, 0, 0, 64, 192, 448, 1022, 2047, 4095, 8191] [] z (by kernel_rfl) (by kernel_rfl) Tryz.mixed (by kernel_rfl) ?_
 refine wsr (Pt b429 0) 0 z z z (by kernel_rfl) (fun w hst => z) (wsr (Pt b429 0) 1 z z z (by kernel_rfl) (fun w hst => z) (wsr (Pt b429 0) 2 z z z (by kernel_rfl) (fun w hst => z) (wsr (Pt b429 0) 3 z z z (by kernel_rfl) (fun w hst => x_field z underlying201 z sizeOf199 z) (wsr (v465) 4 z z z (by kernel_rfl) (fun w hst => x_load z isAgg199 (hst.bc0 z)) (wsr (.int .i64 t458.1) 5 z z z (by kernel_rfl) (fun w hst => z) (wsr (.float .f64 a1) 6 z z z (by kernel_rfl) (fun w hst => z) ?_))))))
 refine ws_e1 7 (by kernel_rfl) ?_
 refine nxe [8, 9, 10, 11, 12, 13] (by kernel_rfl) z z ?_
 clear hst
 intro w hst
 obtain ⟨t468, ht469, hm⟩ := bind_some hm
 refine wec call118 [F6 a1] z z ?_
 refine (number_Rank_ref hst.to0 ht469).mono ?_
 rintro _ w470 ⟨rfl, hst⟩
 refine ⟨_, z, ?_⟩
 replace hst := hst.of0
 refine ws_next (pend' := [(5, I6 t458.1), (4, v465), (3, Pt b429 0), (2, Pt b429 0), (1, Pt b429 0), (0, Pt b429 0)]) hst (by kernel_rfl) (pkr z z (fun w hst => z) (pkr z z (fun w hst => x_load z isAgg199 (hst.bc0 z)) (pkr z z (fun w hst => x_field z underlying201 z sizeOf199 z) (pkr z z (fun w hst => z) (pkr z z (fun w hst => z) (pkr z z (fun w hst => z) pk_nil)))))) ?_
 refine wsr (.agg #[U6 t468, Zs]) 8 z z z (by kernel_rfl) (fun w hst => by kernel_rfl) ?_
 refine ws_e1 9 (by kernel_rfl) ?_
 refine nxe [10, 11, 12, 13] (by kernel_rfl) z z ?_
 clear hst
 intro w hst
 replace hst := hst.own_nil ty_mvcc_Version
 obtain ⟨b475, w476, ew477, eb478, hst⟩ := hst.nest_one (N := nest_mvcc_row) (x := ({ rank := t468, l := [] } : mvcc_row)) 240
 refine we_run (v := (.slice (some ⟨b475, 0, none⟩) 1 1)) (w' := w476) z (x_als (by kernel_rfl) ew477 eb478) ?_
 refine ws_next (pend' := [(5, I6 t458.1), (4, v465), (3, Pt b429 0), (2, Pt b429 0), (1, Pt b429 0), (0, Pt b429 0)]) hst (by kernel_rfl) (pkr z z (fun w hst => z) (pkr z z (fun w hst => x_load z isAgg199 (hst.bc1 z)) (pkr z z (fun w hst => x_field z underlying201 z sizeOf199 z) (pkr z z (fun w hst => z) (pkr z z (fun w hst => z) (pkr z z (fun w hst => z) pk_nil)))))) ?_
 refine ws_e1 10 (by kernel_rfl) ?_
 refine nxe [11, 12, 13] (by kernel_rfl) z z ?_
 clear hst
 intro w hst
 replace hst := hst.pull2
 obtain ⟨t480, ht481, hm⟩ := bind_some hm
 refine wec call183 [v465, I6 t458.1, (.slice (some ⟨b475, 0, none⟩) 1 1)] z z ?_
 refine (slices_Insert_mvcc_row_mvcc_row_ref hst.to2 ht481).mono ?_
 rintro _ w482 ⟨v485, rfl, hst⟩
 refine ⟨_, z, ?_⟩
 replace hst := hst.of1
 refine ws_next (pend' := [(0, Pt b429 0)]) hst (by kernel_rfl) (pkr z z (fun w hst => z) pk_nil) ?_
 refine wsr (Pt b429 0) 11 z z z (by kernel_rfl) (fun w hst => z) (wsr (Pt b429 0) 12 z z z (by kernel_rfl) (fun w hst => x_field z underlying201 z sizeOf199 z) ?_)
 refine ws_e1 13 (by kernel_rfl) ?_
 refine nxe [] (by kernel_rfl) z z ?_
 clear hst
 intro w hst
 replace hst := hst.pull1
 obtain ⟨w487, hr488, hst⟩ := hst.boxStore1 (P := prog) (t := 199) (cs' := [v485]) 0 v485 (one_of_sliceV (hst.nestsv 1 z)) sizeOf199 z z
 refine we_unit z (x_unit hr488) ?_
 refine ws_next (pend' := []) hst (by kernel_rfl) pk_nil ?_
 refine ws_nil ?_
 intro w hst
 refine tn ?_
 replace hst := hst.pull1.pull1
 replace hst := at_mvcc_Store_close (pv := Pt b429 0) (x := ({ rows := t480 } : mvcc_Store)) hst z
 replace hst := hst.pull2.pull2.pull2.keep3
 obtain rfl := some_inj hm
 exact ⟨({ rows := t480 } : mvcc_Store), _, hx493, (fu 0 (Pt b429 0) z (fu 5 (Pt b424 0) z (fu 6 (.int .i64 t458.1) z z))), hst⟩
}
 {
 replace hm := bif_f hc463 hm
 refine wp_iff (cvb hc463) ?_
 refine wp_skip (tn ?_)
 replace hst := hst.pull2.pull2.pull2.keep3
 obtain rfl := some_inj hm
 exact ⟨o0, _, hx493, (fu 0 (Pt b429 0) z (fu 5 (Pt b424 0) z (fu 6 (.int .i64 t458.1) z z))), hst⟩
}
}
 {
 clear hst
 rintro _ w494 ⟨z489, σ490, hm, rfl, hst⟩
 dsimp only [mvcc_Store_Put_j1] at hm
 refine wp_seq (wrl (wv (Pt b429 0) z z z ?_))
 obtain ⟨b495, v496, e498, hst'⟩ := at_mvcc_Store_open hst
 clear hst
 have e498 := ptr_inj e498
 subst e498
 have hst := hst'
 clear hst'
 refine wv (Pt b429 0) z z z (wv (Pt b429 0) z z (x_field z underlying201 z sizeOf199 z) (wv (v496) z z (x_load z isAgg199 (hst.bc0 z)) (wv (.int .i64 t458.1) z z z ?_)))
 obtain ⟨x499, hx500, hm⟩ := bind_some hm
 obtain ⟨h501, h502, hi503⟩ := geto_some hx500
 refine wv (.pointer (some (eAddr v496 (t458.1.toNat * 2 + 0)))) z z (x_index z z underlying199 sizeOf240 (hst.nestsv 1 z) h501 h502) (wv (.pointer (some (eAddr v496 (t458.1.toNat * 2 + 1)))) z z (x_field_e z underlying240 z sizeOf238 z) ?_)
 replace hst := hst.pull1
 obtain ⟨v504, hst⟩ := hst.nest_focus hi503
 refine wv (v504) z z (x_load z isAgg238 ((hst.holeall (N := nest_mvcc_row) (i := t458.1.toNat) 1 z hi503) 1 _ z)) ?_
 obtain ⟨b507, w508, ew509, eb510, hst⟩ := hst.box [Zs] 238
 refine wl_run (v := Pt b507 0) (w' := w508) z z (x_al (by kernel_rfl) ew509 eb510) ?_
 obtain ⟨w513, hr514, hst⟩ := hst.boxStore1 (P := prog) (t := 238) (cs' := [v504]) 0 v504 (one_of_sliceV hst.sv1) sizeOf238 z z
 refine wl_unit z z (x_unit hr514) ?_
 refine wl_nil (tn (wp_seq (wrl (wv (v504) z z (x_load z isAgg238 (hst.bc0 z)) (wv (.int .i64 ((x499.l).length : Int)) z z (x_len z underlying238 hst.sv1) (wv (.func (.func 184) #[] #[Pt b507 0, Pt b424 0]) z z (by kernel_rfl) ?_))))))
 obtain ⟨y604, hq605, hm⟩ := bind_some hm
 refine wl_call z z (x_callv call179 (caps := []) z (vs := [I6 ((x499.l).length : Int), .func (.func 184) #[] #[Pt b507 0, Pt b424 0]]) z) ?_
 refine Calls.mono (show Calls prog 179 #[I6 ((x499.l).length : Int), .func (.func 184) #[] #[Pt b507 0, Pt b424 0]] _ (fun e w' => ∃ (z602 : Int), z602 = y604 ∧ e = .returned (.int .i64 z602) ∧ St w0 w' I [cells b429 [v496], ownS ty_mvcc_Version v504 x499.l, holeN nest_mvcc_row v496 z489.rows t458.1.toNat v504, cells b424 [U6 a2.Epoch, U6 a2.Index, .bool a2.Del, v446], ownS (tyInt .u8) v446 z447, cells b507 [v504]] R) from ?_) ?_
 {
 clear hm; have hm := hq605
 refine calls_start (args := [I6 ((x499.l).length : Int), .func (.func 184) #[] #[Pt b507 0, Pt b424 0]]) func179 z ntmps179 (Nat.le_of_ble_eq_true z) ?_
 refine wp_seq (wrl (wv (.int .i64 (0:Int)) z z z (wl_nil (tn (wp_seq (wrl (wv (.int .i64 ((x499.l).length : Int)) z z z (wv (.int .i64 (0:Int)) z z z (wv (.int .i64 ((x499.l).length : Int)) z z z (wl_nil (tn (wp_seq (wp_block ?_)))))))))))))
 obtain ⟨n570, hm⟩ := loopO_some hm
 refine wp_loop_n (fun n a w => ∃ (z567 : Int) (z568 : Int) (σ569 : Nat → Value), loopN (mvcc_Store_Put_l2 x499 a2) n (z567, z568) = some y604 ∧ a = Fr 26 (upd (upd (upd σ569 1 (.func (.func 184) #[] #[Pt b507 0, Pt b424 0])) 5 (.int .i64 z567)) 6 (.int .i64 z568)) ∧ St w0 w I [cells b507 [v504], ownS ty_mvcc_Version v504 x499.l, holeN nest_mvcc_row v496 z489.rows t458.1.toNat v504, cells b429 [v496], cells b424 [U6 a2.Epoch, U6 a2.Index, .bool a2.Del, v446], ownS (tyInt .u8) v446 z447] R) n570 ⟨(0:Int), ((x499.l).length : Int), _, hm, (fu 1 (.func (.func 184) #[] #[Pt b507 0, Pt b424 0]) z (fu 5 (.int .i64 (0:Int)) z (fu 6 (.int .i64 ((x499.l).length : Int)) z z))), hst⟩ ?_
 rintro n576 _ w571 ⟨z567, z568, σ569, hm, rfl, hst⟩
 obtain ⟨n573, y574, rfl, hm, hx575⟩ := loopN_some hm
 dsimp only [mvcc_Store_Put_l2] at hm
 refine wp_seq (wp_seq (wrl (wv (.int .i64 z567) z z z (wv (.int .i64 z568) z z z (wv (.bool (decide (z567 < z568))) z z z (wl_nil (tn ?_)))))))
 refine bsplit (decide (z567 < z568)) (fun hc577 => ?_) (fun hc577 => ?_)
 {
 replace hm := bif_t hc577 hm
 refine wp_ift (cvb hc577) ?_
 refine wp_skip (tn (wp_block (wp_seq (wrl ?_))))
 refine wv (.int .i64 z567) z z z (wv (.int .i64 z568) z z z (wv (.int .i64 (i64.wrap (z567 + z568))) z z z (wv (.int .u64 (u64.wrap (i64.wrap (z567 + z568)))) z z (by kernel_rfl) (wv (.int .u64 (iShr .u64 (u64.wrap (i64.wrap (z567 + z568))) (1:Int))) z z (x_shr (by decide) z z) (wv (.int .i64 (i64.wrap (iShr .u64 (u64.wrap (i64.wrap (z567 + z568))) (1:Int)))) z z (by kernel_rfl) (wv (.int .i64 (i64.wrap (iShr .u64 (u64.wrap (i64.wrap (z567 + z568))) (1:Int)))) z z z (wl_nil (tn (wp_seq (wrl (wv (.func (.func 184) #[] #[Pt b507 0, Pt b424 0]) z z z (wv (.int .i64 (i64.wrap (iShr .u64 (u64.wrap (i64.wrap (z567 + z568))) (1:Int)))) z z z ?_))))))))))))
 obtain ⟨y598, hq599, hm⟩ := bind_some hm
 refine wl_call z z (x_callv call184 (caps := [Pt b507 0, Pt b424 0]) z (vs := [I6 (i64.wrap (iShr .u64 (u64.wrap (i64.wrap (z567 + z568))) (1:Int)))]) z) ?_
 refine Calls.mono (show Calls prog 184 #[I6 (i64.wrap (iShr .u64 (u64.wrap (i64.wrap (z567 + z568))) (1:Int))), Pt b507 0, Pt b424 0] _ (fun e w' => ∃ (z596 : Bool), z596 = y598 ∧ e = .returned (.bool z596) ∧ St w0 w' I [cells b429 [v496], ownS ty_mvcc_Version v504 x499.l, holeN nest_mvcc_row v496 z489.rows t458.1.toNat v504, cells b424 [U6 a2.Epoch, U6 a2.Index, .bool a2.Del, v446], ownS (tyInt .u8) v446 z447, cells b507 [v504]] R) from ?_) ?_
 {
 clear hm; have hm := hq599
 refine calls_start (args := [I6 (i64.wrap (iShr .u64 (u64.wrap (i64.wrap (z567 + z568))) (1:Int))), Pt b507 0, Pt b424 0]) func184 z ntmps184 (Nat.le_of_ble_eq_true z) ?_
 refine wp_seq (wrl (wv (.bool false) z z z (wl_nil (tn (wp_seq ?_)))))
 replace hst := hst.pull1
 obtain ⟨css578, hq579, hst⟩ := hst.own_open
 refine wp_region_St hst 11 [0, 1, 2, 3, 4, 5, 6, 7, 8, 9, 10] [0, 0, 3, 7, 0, 16, 0, 64, 255, 511, 1023] [] z (by kernel_rfl) (by kernel_rfl) Tryz.mixed (by kernel_rfl) ?_
 refine wsr (v504) 0 z z z (by kernel_rfl) (fun w hst => x_load z isAgg238 (hst.bc1 z)) (wsr (.int .i64 (i64.wrap (iShr .u64 (u64.wrap (i64.wrap (z567 + z568))) (1:Int)))) 1 z z z (by kernel_rfl) (fun w hst => z) ?_)
 obtain ⟨x580, hx581, hm⟩ := bind_some hm
 obtain ⟨h582, h583, hi584⟩ := geto_some hx581
 refine wsr (.pointer (some (eAddr v504 ((i64.wrap (iShr .u64 (u64.wrap (i64.wrap (z567 + z568))) (1:Int))).toNat * 4 + 0)))) 2 z z z (by kernel_rfl) (fun w hst => x_index z z underlying238 sizeOf214 (hst.rsv 0 z hq579) h582 h583) ?_
 obtain ⟨cs585, hc587, hr586⟩ := Reps.get hq579 hi584
 obtain ⟨v588, rfl, f589, -⟩ := hr586
 refine wsr (.agg #[U6 x580.Epoch, U6 x580.Index, .bool x580.Del, v588]) 3 z z z (by kernel_rfl) (fun w hst => x_loadN (cs := [U6 x580.Epoch, U6 x580.Index, .bool x580.Del, v588]) z isAgg214 sizeOf214 (eCells (o := 0) (hst.rcell 0 z hc587) z)) (wsr (Pt b424 0) 4 z z z (by kernel_rfl) (fun w hst => x_field z underlying214 z sizeOf26 z) (wsr (.int .u64 a2.Epoch) 5 z z z (by kernel_rfl) (fun w hst => x_load z isAgg26 (hst.bc4 z)) (wsr (Pt b424 1) 6 z z z (by kernel_rfl) (fun w hst => x_field z underlying214 z sizeOf26 z) (wsr (.int .u64 a2.Index) 7 z z z (by kernel_rfl) (fun w hst => x_load z isAgg26 (hst.bc4 z)) ?_))))
 refine ws_e1 8 (by kernel_rfl) ?_
 refine nxe [9, 10] (by kernel_rfl) z z ?_
 clear hst
 intro w hst
 obtain ⟨t591, ht592, hm⟩ := bind_some hm
 refine wec call185 [.agg #[U6 x580.Epoch, U6 x580.Index, .bool x580.Del, v588], U6 a2.Epoch, U6 a2.Index] z z ?_
 refine (mvcc_ahead_ref (f589.mono ro_rd) hst.to0 ht592).mono ?_
 rintro _ w593 ⟨rfl, hst⟩
 refine ⟨_, z, ?_⟩
 replace hst := hst.of0
 refine ws_next (pend' := []) hst (by kernel_rfl) pk_nil ?_
 refine wsr (.bool (!t591)) 9 z z z (by kernel_rfl) (fun w hst => z) (wsr (.bool (!t591)) 10 z z z (by kernel_rfl) (fun w hst => z) ?_)
 refine ws_nil ?_
 intro w hst
 replace hst := hst.own_close hq579
 refine tn (wp_ret ?_)
 refine post_ret (vs := [.bool (!t591)]) results184 (rvs_cons (rv_tmp z) rvs_nil) ?_
 replace hst := hst.pull1.pull5.pull5.pull4.pull4.pull5.keep6
 obtain rfl := some_inj hm
 exact ⟨(!t591), z, z, hst⟩
}
 clear hst
 rintro _ w600 ⟨z596, rfl, rfl, hst⟩
 refine ⟨_, z, ?_⟩
 try dsimp only at hm
 refine wv (.bool (!z596)) z z z (wl_nil (tn ?_))
 refine bsplit (!z596) (fun hc601 => ?_) (fun hc601 => ?_)
 {
 replace hm := bif_t hc601 hm
 refine wp_ift (cvb hc601) ?_
 refine wrl (wv (.int .i64 (i64.wrap (iShr .u64 (u64.wrap (i64.wrap (z567 + z568))) (1:Int)))) z z z (wv (.int .i64 (i64.wrap ((i64.wrap (iShr .u64 (u64.wrap (i64.wrap (z567 + z568))) (1:Int))) + (1:Int)))) z z z (wv (.int .i64 (i64.wrap ((i64.wrap (iShr .u64 (u64.wrap (i64.wrap (z567 + z568))) (1:Int))) + (1:Int)))) z z z (wl_nil (blk_n (tn ?_))))))
 replace hst := hst.pull4.pull4.pull2.pull4.pull4.pull5.keep6
 obtain rfl := some_inj hm
 exact ⟨_, Nat.lt_succ_self _, (i64.wrap ((i64.wrap (iShr .u64 (u64.wrap (i64.wrap (z567 + z568))) (1:Int))) + (1:Int))), z568, _, hx575, (fu 1 (.func (.func 184) #[] #[Pt b507 0, Pt b424 0]) z (fu 5 (.int .i64 (i64.wrap ((i64.wrap (iShr .u64 (u64.wrap (i64.wrap (z567 + z568))) (1:Int))) + (1:Int)))) z (fu 6 (.int .i64 z568) z z))), hst⟩
}
 {
 replace hm := bif_f hc601 hm
 refine wp_iff (cvb hc601) ?_
 refine wrl (wv (.int .i64 (i64.wrap (iShr .u64 (u64.wrap (i64.wrap (z567 + z568))) (1:Int)))) z z z (wv (.int .i64 (i64.wrap (iShr .u64 (u64.wrap (i64.wrap (z567 + z568))) (1:Int)))) z z z (wl_nil (blk_n (tn ?_)))))
 replace hst := hst.pull4.pull4.pull2.pull4.pull4.pull5.keep6
 obtain rfl := some_inj hm
 exact ⟨_, Nat.lt_succ_self _, z567, (i64.wrap (iShr .u64 (u64.wrap (i64.wrap (z567 + z568))) (1:Int))), _, hx575, (fu 1 (.func (.func 184) #[] #[Pt b507 0, Pt b424 0]) z (fu 5 (.int .i64 z567) z (fu 6 (.int .i64 (i64.wrap (iShr .u64 (u64.wrap (i64.wrap (z567 + z568))) (1:Int)))) z z))), hst⟩
}
}
 {
 replace hm := bif_f hc577 hm
 refine wp_iff (cvb hc577) ?_
 refine wp_exit (then_x (then_x ?_))
 replace hm := inr_up hm hx575
 refine blk_x (tn (wp_seq (wrl ?_)))
 refine wv (.int .i64 z567) z z z (wv (.int .i64 z567) z z z (wl_nil (tn (wp_ret ?_))))
 refine post_ret (vs := [I6 z567]) results179 (rvs_cons (rv_tmp z) rvs_nil) ?_
 replace hst := hst.pull5.pull5.pull4.pull4.pull5.keep6
 obtain rfl := some_inj hm
 exact ⟨z567, z, z, hst⟩
}
}
 clear hst
 rintro _ w606 ⟨z602, rfl, rfl, hst⟩
 refine ⟨_, z, ?_⟩
 try dsimp only at hm
 refine wv (.int .i64 z602) z z z (wl_nil (tn ?_))
 obtain ⟨y639, hm, hx640⟩ := joinO_some hm
 refine wp_cut (fun a w => ∃ (I636 : HL) (σ637 : Nat → Value), (mvcc_Store_Put_j3 x499 z602 a2 z447 z489 t458) () = some r ∧ a = Fr 93 (upd (upd (upd (upd (upd σ637 0 (Pt b429 0)) 5 (Pt b424 0)) 6 (.int .i64 t458.1)) 8 (Pt b507 0)) 9 (.int .i64 z602)) ∧ I.le I636 ∧ St w0 w I636 [cells b429 [v496], ownS ty_mvcc_Version v504 x499.l, holeN nest_mvcc_row v496 z489.rows t458.1.toNat v504, cells b424 [U6 a2.Epoch, U6 a2.Index, .bool a2.Del, v446], ownS (tyInt .u8) v446 z447, cells b507 [v504]] R) ?_ ?_
 {
 have hL641 := HL.le.refl I
 refine wp_seq ?_
 replace hst := hst.pull1
 obtain ⟨css607, hq608, hst⟩ := hst.own_open
 refine wq_regionS hst Tryz.mixed (by kernel_rfl) ?_
 refine wq_run (v := .int .i64 z602) z z (fun w hst => z) ?_
 refine wq_run (v := v504) z z (fun w hst => x_load z isAgg238 (hst.bc5 z)) ?_
 refine wq_run (v := .int .i64 ((x499.l).length : Int)) z z (fun w hst => x_len z underlying238 (hst.rsv 0 z hq608)) ?_
 refine wq_run (v := .bool (decide (z602 < ((x499.l).length : Int)))) z z (fun w hst => z) ?_
 refine wq_run (v := .bool (decide (z602 < ((x499.l).length : Int)))) z z (fun w hst => z) ?_
 refine bsplit (decide (z602 < ((x499.l).length : Int))) (fun hc609 => ?_) (fun hc609 => ?_)
 {
 replace hm := bif_t hc609 hm
 refine wq_run (v := v504) ((wanted_eq z z z (cvb hc609)).trans z) z (fun w hst => x_load z isAgg238 (hst.bc5 z)) ?_
 refine wq_run (v := .int .i64 z602) ((wanted_eq z z z (cvb hc609)).trans z) z (fun w hst => z) ?_
 obtain ⟨x610, hx611, hm⟩ := bind_some hm
 obtain ⟨h612, h613, hi614⟩ := geto_some hx611
 refine wq_run (v := .pointer (some (eAddr v504 (z602.toNat * 4 + 0)))) ((wanted_eq z z z (cvb hc609)).trans z) z (fun w hst => x_index z z underlying238 sizeOf214 (hst.rsv 0 z hq608) h612 h613) ?_
 refine wq_run (v := .pointer (some (eAddr v504 (z602.toNat * 4 + 0)))) ((wanted_eq z z z (cvb hc609)).trans z) z (fun w hst => x_field_e z underlying214 z sizeOf26 z) ?_
 obtain ⟨cs615, hc617, hr616⟩ := Reps.get hq608 hi614
 obtain ⟨v618, rfl, f619, -⟩ := hr616
 refine wq_run (v := .int .u64 x610.Epoch) ((wanted_eq z z z (cvb hc609)).trans z) z (fun w hst => x_load z isAgg26 ((hst.rcell 0 z hc617) 0 _ z)) ?_
 refine wq_run (v := Pt b424 0) ((wanted_eq z z z (cvb hc609)).trans z) z (fun w hst => x_field z underlying214 z sizeOf26 z) ?_
 refine wq_run (v := .int .u64 a2.Epoch) ((wanted_eq z z z (cvb hc609)).trans z) z (fun w hst => x_load z isAgg26 (hst.bc3 z)) ?_
 refine wq_run (v := .bool (x610.Epoch == a2.Epoch)) ((wanted_eq z z z (cvb hc609)).trans z) z (fun w hst => z) ?_
 refine wq_run (v := .bool (x610.Epoch == a2.Epoch)) z z (fun w hst => x_pick_t hc609 z z) ?_
 refine wq_run (v := .bool (x610.Epoch == a2.Epoch)) z z (fun w hst => z) ?_
 refine bsplit (x610.Epoch == a2.Epoch) (fun hc621 => ?_) (fun hc621 => ?_)
 {
 replace hm := bif_t hc621 hm
 refine wq_run (v := v504) ((wanted_eq z z z (cvb hc621)).trans z) z (fun w hst => x_load z isAgg238 (hst.bc5 z)) ?_
 refine wq_run (v := .int .i64 z602) ((wanted_eq z z z (cvb hc621)).trans z) z (fun w hst => z) ?_
 refine wq_run (v := .pointer (some (eAddr v504 (z602.toNat * 4 + 0)))) ((wanted_eq z z z (cvb hc621)).trans z) z (fun w hst => x_index z z underlying238 sizeOf214 (hst.rsv 0 z hq608) h612 h613) ?_
 refine wq_run (v := .pointer (some (eAddr v504 (z602.toNat * 4 + 1)))) ((wanted_eq z z z (cvb hc621)).trans z) z (fun w hst => x_field_e z underlying214 z sizeOf26 z) ?_
 refine wq_run (v := .int .u64 x610.Index) ((wanted_eq z z z (cvb hc621)).trans z) z (fun w hst => x_load z isAgg26 ((hst.rcell 0 z hc617) 1 _ z)) ?_
 refine wq_run (v := Pt b424 1) ((wanted_eq z z z (cvb hc621)).trans z) z (fun w hst => x_field z underlying214 z sizeOf26 z) ?_
 refine wq_run (v := .int .u64 a2.Index) ((wanted_eq z z z (cvb hc621)).trans z) z (fun w hst => x_load z isAgg26 (hst.bc3 z)) ?_
 refine wq_run (v := .bool (x610.Index == a2.Index)) ((wanted_eq z z z (cvb hc621)).trans z) z (fun w hst => z) ?_
 refine wq_run (v := .bool (x610.Index == a2.Index)) z z (fun w hst => x_pick_t hc621 z z) ?_
 refine wq_nil ?_
 intro w hst
 replace hst := hst.own_close hq608
 refine tn ?_
 refine bsplit (x610.Index == a2.Index) (fun hc622 => ?_) (fun hc622 => ?_)
 {
 replace hm := bif_t hc622 hm
 refine wp_ift (cvb hc622) ?_
 refine wp_seq (wrl (wv (v504) z z (x_load z isAgg238 (hst.bc5 z)) (wv (.int .i64 z602) z z z (wv (.agg #[U6 a2.Epoch, U6 a2.Index, .bool a2.Del, v446]) z z (x_loadN (cs := [U6 a2.Epoch, U6 a2.Index, .bool a2.Del, v446]) z isAgg214 sizeOf214 (hst.bcs3 0 z)) (wv (.pointer (some (eAddr v504 (z602.toNat * 4 + 0)))) z z (x_index z z underlying238 sizeOf214 hst.sv0 h612 h613) ?_)))))
 obtain ⟨cs623, hr624, hc625⟩ := hst.og0 hi614
 obtain ⟨v626, rfl, f627, -⟩ := hr624
 replace hst := hst.pull4
 obtain ⟨I629, hI630, f631, hst⟩ := hst.own_fix
 replace f2_0 := f2_0.mono (rd_le hI630)
 replace f619 := f619.mono (ro_le hI630)
 replace f627 := f627.mono (ro_le hI630)
 replace hI0 := hI0.trans hI630
 replace hL641 := hL641.trans hI630
 obtain ⟨w632, hr633, hst⟩ := hst.own_store (P := prog) (t := 214) (y := ({ Epoch := a2.Epoch, Index := a2.Index, Del := a2.Del, Val := z447 } : mvcc_Version)) hi614 0 (.agg #[U6 a2.Epoch, U6 a2.Index, .bool a2.Del, v446]) sizeOf214 (Nat.le_of_ble_eq_true z) (oC z (oC z (oC z (oC (one_of_sliceV (ro_sliceV f631)) oN)))) (fun cs h => ⟨_, setMany_all (ty_mvcc_Version.len h) z, f631, one_of_sliceV (ro_sliceV f631)⟩)
 have hi634 := set_get hi614 ({ Epoch := a2.Epoch, Index := a2.Index, Del := a2.Del, Val := z447 } : mvcc_Version)
 have h635 := set_lt h613 z602.toNat ({ Epoch := a2.Epoch, Index := a2.Index, Del := a2.Del, Val := z447 } : mvcc_Version)
 refine wl_unit z z (x_unit hr633) ?_
 refine wl_nil (tn (wp_ret (then_r ?_)))
 replace hm := inr_up hm hx640
 replace hst := hst.pull2.pull1
 replace hst := St.nest_close (N := nest_mvcc_row) hst hi503
 replace hst := hst.pull1
 replace hst := at_mvcc_Store_close (pv := Pt b429 0) (x := ({ rows := (z489.rows.set t458.1.toNat ({ rank := x499.rank, l := (x499.l.set z602.toNat ({ Epoch := a2.Epoch, Index := a2.Index, Del := a2.Del, Val := z447 } : mvcc_Version)) } : mvcc_row)) } : mvcc_Store)) hst z
 replace hst := objO_some hst
 obtain rfl := some_inj hm
 refine post_ret (vs := []) results123 rvs_nil ?_
 exact ⟨_, z, hI0, hst.keep1⟩
}
 {
 replace hm := bif_f hc622 hm
 refine wp_iff (cvb hc622) ?_
 refine wp_skip (tn ?_)
 replace hst := hst.pull5.pull5.pull5.pull5.pull4.pull5.keep6
 obtain rfl := some_inj hm
 exact ⟨_, _, hx640, (fu 0 (Pt b429 0) z (fu 5 (Pt b424 0) z (fu 6 (.int .i64 t458.1) z (fu 8 (Pt b507 0) z (fu 9 (.int .i64 z602) z z))))), hL641, hst⟩
}
}
 {
 replace hm := bif_f hc621 hm
 refine wq_off ((wanted_eq z z z (cvb hc621)).trans z) z ?_
 refine wq_off ((wanted_eq z z z (cvb hc621)).trans z) z ?_
 refine wq_off ((wanted_eq z z z (cvb hc621)).trans z) z ?_
 refine wq_off ((wanted_eq z z z (cvb hc621)).trans z) z ?_
 refine wq_off ((wanted_eq z z z (cvb hc621)).trans z) z ?_
 refine wq_off ((wanted_eq z z z (cvb hc621)).trans z) z ?_
 refine wq_off ((wanted_eq z z z (cvb hc621)).trans z) z ?_
 refine wq_off ((wanted_eq z z z (cvb hc621)).trans z) z ?_
 refine wq_run (v := .bool false) z z (fun w hst => x_pick_f hc621 z z) ?_
 refine wq_nil ?_
 intro w hst
 replace hst := hst.own_close hq608
 refine tn ?_
 refine wp_iff z ?_
 refine wp_skip (tn ?_)
 replace hst := hst.pull5.pull5.pull5.pull5.pull4.pull5.keep6
 obtain rfl := some_inj hm
 exact ⟨_, _, hx640, (fu 0 (Pt b429 0) z (fu 5 (Pt b424 0) z (fu 6 (.int .i64 t458.1) z (fu 8 (Pt b507 0) z (fu 9 (.int .i64 z602) z z))))), hL641, hst⟩
}
}
 {
 replace hm := bif_f hc609 hm
 refine wq_off ((wanted_eq z z z (cvb hc609)).trans z) z ?_
 refine wq_off ((wanted_eq z z z (cvb hc609)).trans z) z ?_
 refine wq_off ((wanted_eq z z z (cvb hc609)).trans z) z ?_
 refine wq_off ((wanted_eq z z z (cvb hc609)).trans z) z ?_
 refine wq_off ((wanted_eq z z z (cvb hc609)).trans z) z ?_
 refine wq_off ((wanted_eq z z z (cvb hc609)).trans z) z ?_
 refine wq_off ((wanted_eq z z z (cvb hc609)).trans z) z ?_
 refine wq_off ((wanted_eq z z z (cvb hc609)).trans z) z ?_
 refine wq_run (v := .bool false) z z (fun w hst => x_pick_f hc609 z z) ?_
 refine wq_run (v := .bool false) z z (fun w hst => z) ?_
 refine wq_off ((wanted_eq z z z z).trans z) z ?_
 refine wq_off ((wanted_eq z z z z).trans z) z ?_
 refine wq_off ((wanted_eq z z z z).trans z) z ?_
 refine wq_off ((wanted_eq z z z z).trans z) z ?_
 refine wq_off ((wanted_eq z z z z).trans z) z ?_
 refine wq_off ((wanted_eq z z z z).trans z) z ?_
 refine wq_off ((wanted_eq z z z z).trans z) z ?_
 refine wq_off ((wanted_eq z z z z).trans z) z ?_
 refine wq_run (v := .bool false) z z (fun w hst => x_pick_f z z z) ?_
 refine wq_nil ?_
 intro w hst
 replace hst := hst.own_close hq608
 refine tn ?_
 refine wp_iff z ?_
 refine wp_skip (tn ?_)
 replace hst := hst.pull5.pull5.pull5.pull5.pull4.pull5.keep6
 obtain rfl := some_inj hm
 exact ⟨_, _, hx640, (fu 0 (Pt b429 0) z (fu 5 (Pt b424 0) z (fu 6 (.int .i64 t458.1) z (fu 8 (Pt b507 0) z (fu 9 (.int .i64 z602) z z))))), hL641, hst⟩
}
}
 {
 clear hst
 rintro _ w642 ⟨I636, σ637, hm, rfl, hL638, hst⟩
 dsimp only [mvcc_Store_Put_j3] at hm
 replace f2_0 := f2_0.mono (rd_le hL638)
 replace hI0 := hI0.trans hL638
 refine wp_region_St hst 13 [0, 1, 2, 3, 4, 5, 6, 7, 8, 9, 10, 11, 12] [0, 1, 3, 7, 0, 0, 0, 0, 128, 480, 1023, 2047, 4095] [] z (by kernel_rfl) (by kernel_rfl) Tryz.mixed (by kernel_rfl) ?_
 refine wsr (Pt b429 0) 0 z z z (by kernel_rfl) (fun w hst => z) (wsr (Pt b429 0) 1 z z z (by kernel_rfl) (fun w hst => z) (wsr (Pt b429 0) 2 z z z (by kernel_rfl) (fun w hst => x_field z underlying201 z sizeOf199 z) (wsr (v496) 3 z z z (by kernel_rfl) (fun w hst => x_load z isAgg199 (hst.bc0 z)) (wsr (.int .i64 t458.1) 4 z z z (by kernel_rfl) (fun w hst => z) (wsr (v504) 5 z z z (by kernel_rfl) (fun w hst => x_load z isAgg238 (hst.bc5 z)) (wsr (.int .i64 z602) 6 z z z (by kernel_rfl) (fun w hst => z) (wsr (.agg #[U6 a2.Epoch, U6 a2.Index, .bool a2.Del, v446]) 7 z z z (by kernel_rfl) (fun w hst => x_loadN (cs := [U6 a2.Epoch, U6 a2.Index, .bool a2.Del, v446]) z isAgg214 sizeOf214 (hst.bcs3 0 z)) ?_)))))))
 refine ws_e1 8 (by kernel_rfl) ?_
 refine nxe [9, 10, 11, 12] (by kernel_rfl) z z ?_
 clear hst
 intro w hst
 replace hst := hst.pull4
 obtain ⟨I644, hI645, f646, hst⟩ := hst.own_fix
 replace f2_0 := f2_0.mono (rd_le hI645)
 replace hI0 := hI0.trans hI645
 obtain ⟨b647, w648, ew649, eb650, hst⟩ := hst.lits (E := ty_mvcc_Version) (xs := [({ Epoch := a2.Epoch, Index := a2.Index, Del := a2.Del, Val := z447 } : mvcc_Version)]) [[U6 a2.Epoch, U6 a2.Index, .bool a2.Del, v446]] 214 1 z (Reps.cons ⟨_, z, f646, one_of_sliceV (ro_sliceV f646)⟩ Reps.nil)
 refine we_run (v := (.slice (some ⟨b647, 0, none⟩) 1 1)) (w' := w648) z (x_als (by kernel_rfl) ew649 eb650) ?_
 refine ws_next (pend' := [(6, I6 z602), (5, v504), (4, I6 t458.1), (3, v496), (2, Pt b429 0), (1, Pt b429 0), (0, Pt b429 0)]) hst (by kernel_rfl) (pkr z z (fun w hst => z) (pkr z z (fun w hst => x_load z isAgg238 (hst.bc5 z)) (pkr z z (fun w hst => z) (pkr z z (fun w hst => x_load z isAgg199 (hst.bc1 z)) (pkr z z (fun w hst => x_field z underlying201 z sizeOf199 z) (pkr z z (fun w hst => z) (pkr z z (fun w hst => z) pk_nil))))))) ?_
 refine ws_e1 9 (by kernel_rfl) ?_
 refine nxe [10, 11, 12] (by kernel_rfl) z z ?_
 clear hst
 intro w hst
 replace hst := hst.pull2
 obtain ⟨t652, ht653, hm⟩ := bind_some hm
 refine wec call186 [v504, I6 z602, (.slice (some ⟨b647, 0, none⟩) 1 1)] z z ?_
 refine (slices_Insert_mvcc_Version_mvcc_Version_ref hst.to2 ht653).mono ?_
 rintro _ w654 ⟨v657, rfl, hst⟩
 refine ⟨_, z, ?_⟩
 replace hst := hst.of1
 refine ws_next (pend' := [(4, I6 t458.1), (3, v496), (2, Pt b429 0), (1, Pt b429 0), (0, Pt b429 0)]) hst (by kernel_rfl) (pkr z z (fun w hst => z) (pkr z z (fun w hst => x_load z isAgg199 (hst.bc1 z)) (pkr z z (fun w hst => x_field z underlying201 z sizeOf199 z) (pkr z z (fun w hst => z) (pkr z z (fun w hst => z) pk_nil))))) ?_
 refine wsr (.pointer (some (eAddr v496 (t458.1.toNat * 2 + 0)))) 10 z z z (by kernel_rfl) (fun w hst => x_index z z underlying199 sizeOf240 (hst.holesv 2 z) h501 h502) (wsr (.pointer (some (eAddr v496 (t458.1.toNat * 2 + 1)))) 11 z z z (by kernel_rfl) (fun w hst => x_field_e z underlying240 z sizeOf238 z) ?_)
 refine ws_e1 12 (by kernel_rfl) ?_
 refine nxe [] (by kernel_rfl) z z ?_
 clear hst
 intro w hst
 replace hst := hst.pull2
 obtain ⟨w659, hr660, hst⟩ := hst.hole_store (P := prog) (t := 238) hi503 hst.sv1 sizeOf238
 refine we_unit z (x_unit hr660) ?_
 refine ws_next (pend' := []) hst (by kernel_rfl) pk_nil ?_
 refine ws_nil ?_
 intro w hst
 replace hst := hst.pull1
 replace hst := St.nest_close (N := nest_mvcc_row) hst hi503
 replace hst := hst.pull1
 replace hst := at_mvcc_Store_close (pv := Pt b429 0) (x := ({ rows := (z489.rows.set t458.1.toNat ({ rank := x499.rank, l := t652 } : mvcc_row)) } : mvcc_Store)) hst z
 replace hst := objO_some hst
 obtain rfl := some_inj hm
 refine post_end (vs := []) results123 rvs_nil ?_
 exact ⟨_, z, hI0, hst.keep1⟩
}
}
}
}
}

theorem lane_State_finish_ref {w0 w : World} {I : HL} {R : SP} {a0 : (Option lane_State)} {p0 : Value} {a1 : api_Command} {r1_0 : Value} {r1_1 : Value} {r1_2 : Value} {r1_3 : Value} {r1_4 : Value} {r1_5 : Value} {r1_6 : Value} {r1_7 : Value} (f1_0 : Rd tyF64 R I r1_0 a1.Hold.Gets) (f1_1 : Rd tyF2 R I r1_1 a1.Hold.Scans) (f1_2 : Rd tyF64 R I r1_2 a1.Hold.Puts) (f1_3 : Rd (tyInt .u8) R I r1_3 a1.Hold.Data) (f1_4 : Rd ty_api_Write R I r1_4 a1.Writes) (f1_5 : Rd ty_api_Got R I r1_5 a1.R.Gots) (f1_6 : Rd (tySl ty_api_Pair) R I r1_6 a1.R.Scans) (f1_7 : Rd ty_api_Part R I r1_7 a1.Parts) (hst : St w0 w I [objO at_lane_State p0 a0] R) {r : (api_Effect × (Option lane_State))} (hm : lane_State_finish a0 a1 = some r) :
  Calls prog 49 #[p0, .agg #[U1 a1.Kind, U6 a1.ID.Session, U6 a1.ID.Seq, U6 a1.Epoch, U6 a1.Index, I6 a1.E, U6 a1.Hold.ID.Session, U6 a1.Hold.ID.Seq, U6 a1.Hold.Epoch, r1_0, r1_1, r1_2, r1_3, r1_4, I6 a1.R.E, U6 a1.R.Epoch, U6 a1.R.Index, r1_5, r1_6, U6 a1.Shards, r1_7, U6 a1.Rule.ID, I6 a1.Rule.From, I6 a1.Rule.To, F6 a1.Rule.Lo, F6 a1.Rule.Hi, U6 a1.Rule.Authority, I6 a1.Rule.Quota, .bool a1.On]] w fun e w' => ∃ (I' : HL) (q0_0 : Value) (q0_1 : Value), e = .returned (.agg #[U1 r.1.Kind, U6 r.1.ID.Session, U6 r.1.ID.Seq, I6 r.1.R.E, U6 r.1.R.Epoch, U6 r.1.R.Index, q0_0, q0_1]) ∧ I.le I' ∧ St w0 w' I' [ownS ty_api_Got q0_0 r.1.R.Gots, ownS (tySl ty_api_Pair) q0_1 r.1.R.Scans, objO at_lane_State p0 r.2] R := by {
 rcases a0 with _ | o0
 {
 obtain ⟨rfl, hst'⟩ := objO_none hst
 clear hst
 have hst := hst'
 clear hst'
 dsimp only [lane_State_finish] at hm
 refine calls_start (args := [.pointer none, .agg #[U1 a1.Kind, U6 a1.ID.Session, U6 a1.ID.Seq, U6 a1.Epoch, U6 a1.Index, I6 a1.E, U6 a1.Hold.ID.Session, U6 a1.Hold.ID.Seq, U6 a1.Hold.Epoch, r1_0, r1_1, r1_2, r1_3, r1_4, I6 a1.R.E, U6 a1.R.Epoch, U6 a1.R.Index, r1_5, r1_6, U6 a1.Shards, r1_7, U6 a1.Rule.ID, I6 a1.Rule.From, I6 a1.Rule.To, F6 a1.Rule.Lo, F6 a1.Rule.Hi, U6 a1.Rule.Authority, I6 a1.Rule.Quota, .bool a1.On]]) func49 z ntmps49 (Nat.le_of_ble_eq_true z) ?_
 have hI0 := HL.le.refl I
 refine wp_seq (wrl ?_)
 obtain ⟨b313, w314, ew315, eb316, hst⟩ := hst.box [U1 a1.Kind, U6 a1.ID.Session, U6 a1.ID.Seq, U6 a1.Epoch, U6 a1.Index, I6 a1.E, U6 a1.Hold.ID.Session, U6 a1.Hold.ID.Seq, U6 a1.Hold.Epoch, r1_0, r1_1, r1_2, r1_3, r1_4, I6 a1.R.E, U6 a1.R.Epoch, U6 a1.R.Index, r1_5, r1_6, U6 a1.Shards, r1_7, U6 a1.Rule.ID, I6 a1.Rule.From, I6 a1.Rule.To, F6 a1.Rule.Lo, F6 a1.Rule.Hi, U6 a1.Rule.Authority, I6 a1.Rule.Quota, .bool a1.On] 49
 refine wl_run (v := Pt b313 0) (w' := w314) z z (x_al (by kernel_rfl) ew315 eb316) ?_
 obtain ⟨b320, w321, ew322, eb323, hst⟩ := hst.box [Zb, Zu, Zu, Zi, Zu, Zu, Zs, Zs] 35
 refine wl_run (v := Pt b320 0) (w' := w321) z z (x_al (by kernel_rfl) ew322 eb323) ?_
 refine wl_nil (tn (wp_seq (wp_seq ?_)))
 refine wp_region_St hst 12 [0, 1, 2, 3, 4, 5, 6, 7, 8, 9, 10, 11] [0, 1, 3, 7, 0, 16, 63, 127, 255, 511, 1023, 2047] [] z (by kernel_rfl) (by kernel_rfl) Tryz.mixed (by kernel_rfl) ?_
 refine wsr (.pointer none) 0 z z z (by kernel_rfl) (fun w hst => z) ?_
 cases hm
}
 {
 replace hst := objO_get hst
 dsimp only [lane_State_finish] at hm
 refine calls_start (args := [p0, .agg #[U1 a1.Kind, U6 a1.ID.Session, U6 a1.ID.Seq, U6 a1.Epoch, U6 a1.Index, I6 a1.E, U6 a1.Hold.ID.Session, U6 a1.Hold.ID.Seq, U6 a1.Hold.Epoch, r1_0, r1_1, r1_2, r1_3, r1_4, I6 a1.R.E, U6 a1.R.Epoch, U6 a1.R.Index, r1_5, r1_6, U6 a1.Shards, r1_7, U6 a1.Rule.ID, I6 a1.Rule.From, I6 a1.Rule.To, F6 a1.Rule.Lo, F6 a1.Rule.Hi, U6 a1.Rule.Authority, I6 a1.Rule.Quota, .bool a1.On]]) func49 z ntmps49 (Nat.le_of_ble_eq_true z) ?_
 have hI0 := HL.le.refl I
 refine wp_seq (wrl ?_)
 obtain ⟨b325, w326, ew327, eb328, hst⟩ := hst.box [U1 a1.Kind, U6 a1.ID.Session, U6 a1.ID.Seq, U6 a1.Epoch, U6 a1.Index, I6 a1.E, U6 a1.Hold.ID.Session, U6 a1.Hold.ID.Seq, U6 a1.Hold.Epoch, r1_0, r1_1, r1_2, r1_3, r1_4, I6 a1.R.E, U6 a1.R.Epoch, U6 a1.R.Index, r1_5, r1_6, U6 a1.Shards, r1_7, U6 a1.Rule.ID, I6 a1.Rule.From, I6 a1.Rule.To, F6 a1.Rule.Lo, F6 a1.Rule.Hi, U6 a1.Rule.Authority, I6 a1.Rule.Quota, .bool a1.On] 49
 refine wl_run (v := Pt b325 0) (w' := w326) z z (x_al (by kernel_rfl) ew327 eb328) ?_
 obtain ⟨b332, w333, ew334, eb335, hst⟩ := hst.box [Zb, Zu, Zu, Zi, Zu, Zu, Zs, Zs] 35
 refine wl_run (v := Pt b332 0) (w' := w333) z z (x_al (by kernel_rfl) ew334 eb335) ?_
 refine wl_nil (tn (wp_seq (wp_seq ?_)))
 replace hst := hst.pull2
 obtain ⟨b337, v338, v340, v342, v344, v346, v348, v350, rfl, hst'⟩ := at_lane_State_open hst
 clear hst
 have hst := hst'
 clear hst'
 refine wp_region_St hst 12 [0, 1, 2, 3, 4, 5, 6, 7, 8, 9, 10, 11] [0, 1, 3, 7, 0, 16, 63, 127, 255, 511, 1023, 2047] [] z (by kernel_rfl) (by kernel_rfl) Tryz.mixed (by kernel_rfl) ?_
 refine wsr (Pt b337 0) 0 z z z (by kernel_rfl) (fun w hst => z) (wsr (Pt b337 0) 1 z z z (by kernel_rfl) (fun w hst => z) (wsr (Pt b337 3) 2 z z z (by kernel_rfl) (fun w hst => x_field z underlying111 z sizeOf103 z) (wsr (v340) 3 z z z (by kernel_rfl) (fun w hst => x_load z isAgg103 (hst.bc0 z)) (wsr (Pt b325 1) 4 z z z (by kernel_rfl) (fun w hst => x_field z underlying49 z sizeOf28 z) (wsr (.agg #[U6 a1.ID.Session, U6 a1.ID.Seq]) 5 z z z (by kernel_rfl) (fun w hst => x_loadN (cs := [U6 a1.ID.Session, U6 a1.ID.Seq]) z isAgg28 sizeOf28 (hst.bcs9 1 z)) ?_)))))
 refine ws_e1 6 (by kernel_rfl) ?_
 refine nxe [7, 8, 9, 10, 11] (by kernel_rfl) z z ?_
 clear hst
 intro w hst
 replace hst := hst.pull2
 obtain ⟨t352, ht353, hm⟩ := bind_some hm
 refine wec call122 [v340, .agg #[U6 a1.ID.Session, U6 a1.ID.Seq]] z z ?_
 refine (locks_Table_Drop_ref hst.to1 ht353).mono ?_
 rintro _ w354 ⟨rfl, hst⟩
 refine ⟨_, z, ?_⟩
 replace hst := hst.of1
 refine ws_next (pend' := []) hst (by kernel_rfl) pk_nil ?_
 refine wsr (.bool t352.1) 7 z z z (by kernel_rfl) (fun w hst => z) ?_
 refine bsplit t352.1 (fun hc357 => ?_) (fun hc357 => ?_)
 {
 replace hm := bif_t hc357 hm
 refine ws_q (v := Pt b325 5) 8 [9, 10, 11] (by kernel_rfl) z z (yi_run ((wanted_eq z z z (cvb hc357)).trans z) (fun w hst => x_field z underlying49 z sizeOf29 z)) (ws_q (v := .int .i64 a1.E) 9 [10, 11] (by kernel_rfl) z z (yi_run ((wanted_eq z z z (cvb hc357)).trans z) (fun w hst => x_load z isAgg29 (hst.bc9 z))) (ws_q (v := .bool (a1.E == (0:Int))) 10 [11] (by kernel_rfl) z z (yi_run ((wanted_eq z z z (cvb hc357)).trans z) (fun w hst => z)) (wsr (.bool (a1.E == (0:Int))) 11 z z z (by kernel_rfl) (fun w hst => x_pick_t hc357 z z) ?_)))
 refine ws_nil ?_
 intro w hst
 refine tn ?_
 refine bsplit (a1.E == (0:Int)) (fun hc358 => ?_) (fun hc358 => ?_)
 {
 replace hm := bif_t hc358 hm
 refine wp_ift (cvb hc358) ?_
 refine wp_seq (wrl (wv (Pt b325 13) z z (x_field z underlying49 z sizeOf42 z) (wv (r1_4) z z (x_load z isAgg42 (hst.bc9 z)) (wv (.int .i64 ((a1.Writes).length : Int)) z z (x_len z underlying42 (rd_sliceV f1_4)) (wv (.int .i64 (0:Int)) z z z (wl_nil (tn (wp_block ?_))))))))
 replace hst := hst.pull7.pull7.pull7.pull7.pull7.pull5.pull7.pull7
 replace hst := at_lane_State_close (pv := Pt b337 0) (x := ({ wide := o0.wide, epoch := o0.epoch, store := o0.store, locks := t352.2, last := o0.last, book := o0.book, open_ := o0.open_, out := o0.out, used := o0.used } : lane_State)) hst z
 obtain ⟨n449, hm⟩ := loopO_some hm
 refine wp_loop_n (fun n a w => ∃ (I447 : HL) (z445 : lane_State) (z446 : Int) (σ448 : Nat → Value), loopN (lane_State_finish_l0 a1) n (z445, z446) = some r ∧ a = Fr 46 (upd (upd (upd (upd (upd (upd σ448 0 (Pt b337 0)) 3 (Pt b325 0)) 4 (Pt b332 0)) 20 (r1_4)) 21 (.int .i64 ((a1.Writes).length : Int))) 22 (.int .i64 z446)) ∧ I.le I447 ∧ St w0 w I447 [at_lane_State (Pt b337 0) z445, cells b332 [Zb, Zu, Zu, Zi, Zu, Zu, Zs, Zs], cells b325 [U1 a1.Kind, U6 a1.ID.Session, U6 a1.ID.Seq, U6 a1.Epoch, U6 a1.Index, I6 a1.E, U6 a1.Hold.ID.Session, U6 a1.Hold.ID.Seq, U6 a1.Hold.Epoch, r1_0, r1_1, r1_2, r1_3, r1_4, I6 a1.R.E, U6 a1.R.Epoch, U6 a1.R.Index, r1_5, r1_6, U6 a1.Shards, r1_7, U6 a1.Rule.ID, I6 a1.Rule.From, I6 a1.Rule.To, F6 a1.Rule.Lo, F6 a1.Rule.Hi, U6 a1.Rule.Authority, I6 a1.Rule.Quota, .bool a1.On]] R) n449 ⟨_, ({ wide := o0.wide, epoch := o0.epoch, store := o0.store, locks := t352.2, last := o0.last, book := o0.book, open_ := o0.open_, out := o0.out, used := o0.used } : lane_State), (0:Int), _, hm, (fu 0 (Pt b337 0) z (fu 3 (Pt b325 0) z (fu 4 (Pt b332 0) z (fu 20 r1_4 z (fu 21 (.int .i64 ((a1.Writes).length : Int)) z (fu 22 (.int .i64 (0:Int)) z z)))))), (HL.le.refl _), hst⟩ ?_
 rintro n455 _ w450 ⟨I447, z445, z446, σ448, hm, rfl, hL451, hst⟩
 obtain ⟨n452, y453, rfl, hm, hx454⟩ := loopN_some hm
 dsimp only [lane_State_finish_l0] at hm
 replace f1_0 := f1_0.mono (rd_le hL451)
 replace f1_1 := f1_1.mono (rd_le hL451)
 replace f1_2 := f1_2.mono (rd_le hL451)
 replace f1_3 := f1_3.mono (rd_le hL451)
 replace f1_4 := f1_4.mono (rd_le hL451)
 replace f1_5 := f1_5.mono (rd_le hL451)
 replace f1_6 := f1_6.mono (rd_le hL451)
 replace f1_7 := f1_7.mono (rd_le hL451)
 replace hI0 := hI0.trans hL451
 refine wp_seq (wrl (wv (.bool (decide (z446 < ((a1.Writes).length : Int)))) z z z (wl_nil (tn (wp_seq ?_)))))
 refine bsplit (decide (z446 < ((a1.Writes).length : Int))) (fun hc456 => ?_) (fun hc456 => ?_)
 {
 replace hm := bif_t hc456 hm
 refine wp_ift (cvb hc456) ?_
 refine wp_skip (tn (wp_seq (wp_block (wp_seq (wrl ?_)))))
 obtain ⟨x457, hx458, hm⟩ := bind_some hm
 obtain ⟨h459, h460, hi461⟩ := geto_some hx458
 refine wv (.pointer (some (eAddr r1_4 (z446.toNat * 3 + 0)))) z z (x_index z z underlying42 sizeOf41 (rd_sliceV f1_4) h459 h460) ?_
 obtain ⟨cs462, hr463, hc464⟩ := Rd.getF f1_4 hi461
 obtain ⟨v465, rfl, f466, -⟩ := hr463
 refine wv (.agg #[F6 x457.At, .bool x457.Del, v465]) z z (x_loadN (cs := [F6 x457.At, .bool x457.Del, v465]) z isAgg41 sizeOf41 (eCells (o := 0) (hc464 (HL.le.refl _) hst) z)) ?_
 obtain ⟨b469, w470, ew471, eb472, hst⟩ := hst.box [Zf, .bool false, Zs] 41
 refine wl_run (v := Pt b469 0) (w' := w470) z z (x_al (by kernel_rfl) ew471 eb472) ?_
 obtain ⟨w474, hr475, hst⟩ := hst.bx [F6 x457.At, .bool x457.Del, v465] sizeOf41 z (oC z (oC z (oC (one_of_sliceV (rd_sliceV f466)) oN))) (by kernel_rfl)
 refine wl_unit z z (x_unit hr475) ?_
 refine wl_nil (tn ?_)
 replace hst := hst.pull1
 obtain ⟨b476, v477, v479, v481, v483, v485, v487, v489, e491, hst'⟩ := at_lane_State_open hst
 clear hst
 have e491 := ptr_inj e491
 subst e491
 have hst := hst'
 clear hst'
 refine wp_region_St hst 16 [0, 1, 2, 3, 4, 5, 6, 7, 8, 9, 10, 11, 12, 13, 14, 15] [0, 1, 3, 7, 0, 16, 0, 64, 0, 256, 0, 1024, 0, 4096, 16320, 32767] [] z (by kernel_rfl) (by kernel_rfl) Tryz.mixed (by kernel_rfl) ?_
 refine wsr (Pt b337 0) 0 z z z (by kernel_rfl) (fun w hst => z) (wsr (Pt b337 0) 1 z z z (by kernel_rfl) (fun w hst => z) (wsr (Pt b337 2) 2 z z z (by kernel_rfl) (fun w hst => x_field z underlying111 z sizeOf101 z) (wsr (v477) 3 z z z (by kernel_rfl) (fun w hst => x_load z isAgg101 (hst.bc0 z)) (wsr (Pt b469 0) 4 z z z (by kernel_rfl) (fun w hst => x_field z underlying41 z sizeOf37 z) (wsr (.float .f64 x457.At) 5 z z z (by kernel_rfl) (fun w hst => x_load z isAgg37 (hst.bc8 z)) (wsr (Pt b325 3) 6 z z z (by kernel_rfl) (fun w hst => x_field z underlying49 z sizeOf26 z) (wsr (.int .u64 a1.Epoch) 7 z z z (by kernel_rfl) (fun w hst => x_load z isAgg26 (hst.bc10 z)) (wsr (Pt b325 4) 8 z z z (by kernel_rfl) (fun w hst => x_field z underlying49 z sizeOf26 z) (wsr (.int .u64 a1.Index) 9 z z z (by kernel_rfl) (fun w hst => x_load z isAgg26 (hst.bc10 z)) (wsr (Pt b469 1) 10 z z z (by kernel_rfl) (fun w hst => x_field z underlying41 z sizeOf4 z) (wsr (.bool x457.Del) 11 z z z (by kernel_rfl) (fun w hst => x_load z isAgg4 (hst.bc8 z)) (wsr (Pt b469 2) 12 z z z (by kernel_rfl) (fun w hst => x_field z underlying41 z sizeOf22 z) ?_))))))))))))
 refine wsr (v465) 13 rfl rfl rfl (by kernel_rfl) (fun w hst => x_load rfl isAgg22 (hst.bc8 rfl)) (wsr (.agg #[U6 a1.Epoch, U6 a1.Index, .bool x457.Del, v465]) 14 rfl rfl rfl (by kernel_rfl) (fun w hst => by obtain ⟨_, _, hv_, _⟩ := (rd_sliceV f466); rw [hv_]; kernel_rfl) ?_)
 refine ws_e1 15 (by kernel_rfl) ?_
 refine nxe [] (by kernel_rfl) z z ?_
 clear hst
 intro w hst
 replace hst := hst.pull1
 obtain ⟨t493, ht494, hm⟩ := bind_some hm
 refine wec call123 [v477, F6 x457.At, .agg #[U6 a1.Epoch, U6 a1.Index, .bool x457.Del, v465]] z z ?_
 refine (mvcc_Store_Put_ref (a2 := ({ Epoch := a1.Epoch, Index := a1.Index, Del := x457.Del, Val := x457.Val } : mvcc_Version)) (f466.mono (rd_weak _)) hst.to1 ht494).mono ?_
 rintro _ w495 ⟨I496, rfl, hI497, hst⟩
 refine ⟨_, z, ?_⟩
 replace hst := hst.of1
 replace f1_0 := f1_0.mono (rd_le hI497)
 replace f1_1 := f1_1.mono (rd_le hI497)
 replace f1_2 := f1_2.mono (rd_le hI497)
 replace f1_3 := f1_3.mono (rd_le hI497)
 replace f1_4 := f1_4.mono (rd_le hI497)
 replace f1_5 := f1_5.mono (rd_le hI497)
 replace f1_6 := f1_6.mono (rd_le hI497)
 replace f1_7 := f1_7.mono (rd_le hI497)
 replace f466 := f466.mono (rd_le hI497)
 replace hI0 := hI0.trans hI497
 replace hL451 := hL451.trans hI497
 refine ws_next (pend' := []) hst (by kernel_rfl) pk_nil ?_
 refine ws_nil ?_
 intro w hst
 refine blk_n (tn (wrl ?_))
 refine wv (.int .i64 (i64.wrap (z446 + (1:Int)))) z z z (wv (.int .i64 (i64.wrap (z446 + (1:Int)))) z z z (wl_nil (tn ?_)))
 replace hst := hst.pull7.pull7.pull7.pull7.pull7.pull7.pull6.pull7
 replace hst := at_lane_State_close (pv := Pt b337 0) (x := ({ wide := z445.wide, epoch := z445.epoch, store := t493, locks := z445.locks, last := z445.last, book := z445.book, open_ := z445.open_, out := z445.out, used := z445.used } : lane_State)) hst z
 replace hst := hst.pull3.pull3.pull2.keep3
 obtain rfl := some_inj hm
 exact ⟨_, Nat.lt_succ_self _, _, ({ wide := z445.wide, epoch := z445.epoch, store := t493, locks := z445.locks, last := z445.last, book := z445.book, open_ := z445.open_, out := z445.out, used := z445.used } : lane_State), (i64.wrap (z446 + (1:Int))), _, hx454, (fu 0 (Pt b337 0) z (fu 3 (Pt b325 0) z (fu 4 (Pt b332 0) z (fu 20 r1_4 z (fu 21 (.int .i64 ((a1.Writes).length : Int)) z (fu 22 (.int .i64 (i64.wrap (z446 + (1:Int)))) z z)))))), hL451, hst⟩
}
 {
 replace hm := bif_f hc456 hm
 refine wp_iff (cvb hc456) ?_
 refine wp_exit (then_x (then_x ?_))
 replace hm := inr_up hm hx454
 refine blk_x (tn (wp_seq (wrl ?_)))
 refine wv (Pt b325 1) z z (x_field z underlying49 z sizeOf28 z) (wv (.agg #[U6 a1.ID.Session, U6 a1.ID.Seq]) z z (x_loadN (cs := [U6 a1.ID.Session, U6 a1.ID.Seq]) z isAgg28 sizeOf28 (hst.bcs2 1 z)) (wv (.agg #[U1 (3:Int), U6 a1.ID.Session, U6 a1.ID.Seq, Zi, Zu, Zu, Zs, Zs]) z z (by kernel_rfl) ?_))
 replace hst := hst.pull1
 obtain ⟨w500, hr501, hst⟩ := hst.bx [U1 (3:Int), U6 a1.ID.Session, U6 a1.ID.Seq, Zi, Zu, Zu, Zs, Zs] sizeOf35 z (oC z (oC z (oC z (oC z (oC z (oC z (oC z (oC z oN)))))))) (by kernel_rfl)
 refine wl_unit z z (x_unit hr501) ?_
 refine wl_nil (tn (wp_ret ?_))
 replace hst := hst.own_nil ty_api_Got
 replace hst := hst.own_nil (tySl ty_api_Pair)
 replace hst := hst.pull3
 replace hst := objO_some hst
 obtain rfl := some_inj hm
 refine post_ret (vs := [.agg #[U1 (3:Int), U6 a1.ID.Session, U6 a1.ID.Seq, Zi, Zu, Zu, Zs, Zs]]) results49 (rvs_cons (rv_cell (cs := [U1 (3:Int), U6 a1.ID.Session, U6 a1.ID.Seq, Zi, Zu, Zu, Zs, Zs]) z isAgg35 sizeOf35 (hst.bcs3 0 z)) rvs_nil) ?_
 replace hst := hst.pull1.pull2
 exact ⟨_, Zs, Zs, z, hI0, hst.keep3⟩
}
}
 {
 replace hm := bif_f hc358 hm
 refine wp_iff (cvb hc358) ?_
 refine wp_skip (tn (wp_seq (wrl ?_)))
 refine wv (Pt b325 1) z z (x_field z underlying49 z sizeOf28 z) (wv (.agg #[U6 a1.ID.Session, U6 a1.ID.Seq]) z z (x_loadN (cs := [U6 a1.ID.Session, U6 a1.ID.Seq]) z isAgg28 sizeOf28 (hst.bcs9 1 z)) (wv (.agg #[U1 (3:Int), U6 a1.ID.Session, U6 a1.ID.Seq, Zi, Zu, Zu, Zs, Zs]) z z (by kernel_rfl) ?_))
 replace hst := hst.pull8
 obtain ⟨w504, hr505, hst⟩ := hst.bx [U1 (3:Int), U6 a1.ID.Session, U6 a1.ID.Seq, Zi, Zu, Zu, Zs, Zs] sizeOf35 z (oC z (oC z (oC z (oC z (oC z (oC z (oC z (oC z oN)))))))) (by kernel_rfl)
 refine wl_unit z z (x_unit hr505) ?_
 refine wl_nil (tn (wp_ret ?_))
 replace hst := hst.own_nil ty_api_Got
 replace hst := hst.own_nil (tySl ty_api_Pair)
 replace hst := hst.pull10.pull10.pull10.pull10.pull10.pull8.pull10.pull10
 replace hst := at_lane_State_close (pv := Pt b337 0) (x := ({ wide := o0.wide, epoch := o0.epoch, store := o0.store, locks := t352.2, last := o0.last, book := o0.book, open_ := o0.open_, out := o0.out, used := o0.used } : lane_State)) hst z
 replace hst := objO_some hst
 obtain rfl := some_inj hm
 refine post_ret (vs := [.agg #[U1 (3:Int), U6 a1.ID.Session, U6 a1.ID.Seq, Zi, Zu, Zu, Zs, Zs]]) results49 (rvs_cons (rv_cell (cs := [U1 (3:Int), U6 a1.ID.Session, U6 a1.ID.Seq, Zi, Zu, Zu, Zs, Zs]) z isAgg35 sizeOf35 (hst.bcs3 0 z)) rvs_nil) ?_
 replace hst := hst.pull1.pull2
 exact ⟨_, Zs, Zs, z, hI0, hst.keep3⟩
}
}
 {
 replace hm := bif_f hc357 hm
 refine ws_q (v := undef) 8 [9, 10, 11] (by kernel_rfl) z z (yi_off ((wanted_eq z z z (cvb hc357)).trans z)) (ws_q (v := undef) 9 [10, 11] (by kernel_rfl) z z (yi_off ((wanted_eq z z z (cvb hc357)).trans z)) (ws_q (v := undef) 10 [11] (by kernel_rfl) z z (yi_off ((wanted_eq z z z (cvb hc357)).trans z)) (wsr (.bool false) 11 z z z (by kernel_rfl) (fun w hst => x_pick_f hc357 z z) ?_)))
 refine ws_nil ?_
 intro w hst
 refine tn ?_
 refine wp_iff z ?_
 refine wp_skip (tn (wp_seq (wrl ?_)))
 refine wv (Pt b325 1) z z (x_field z underlying49 z sizeOf28 z) (wv (.agg #[U6 a1.ID.Session, U6 a1.ID.Seq]) z z (x_loadN (cs := [U6 a1.ID.Session, U6 a1.ID.Seq]) z isAgg28 sizeOf28 (hst.bcs9 1 z)) (wv (.agg #[U1 (3:Int), U6 a1.ID.Session, U6 a1.ID.Seq, Zi, Zu, Zu, Zs, Zs]) z z (by kernel_rfl) ?_))
 replace hst := hst.pull8
 obtain ⟨w508, hr509, hst⟩ := hst.bx [U1 (3:Int), U6 a1.ID.Session, U6 a1.ID.Seq, Zi, Zu, Zu, Zs, Zs] sizeOf35 z (oC z (oC z (oC z (oC z (oC z (oC z (oC z (oC z oN)))))))) (by kernel_rfl)
 refine wl_unit z z (x_unit hr509) ?_
 refine wl_nil (tn (wp_ret ?_))
 replace hst := hst.own_nil ty_api_Got
 replace hst := hst.own_nil (tySl ty_api_Pair)
 replace hst := hst.pull10.pull10.pull10.pull10.pull10.pull8.pull10.pull10
 replace hst := at_lane_State_close (pv := Pt b337 0) (x := ({ wide := o0.wide, epoch := o0.epoch, store := o0.store, locks := t352.2, last := o0.last, book := o0.book, open_ := o0.open_, out := o0.out, used := o0.used } : lane_State)) hst z
 replace hst := objO_some hst
 obtain rfl := some_inj hm
 refine post_ret (vs := [.agg #[U1 (3:Int), U6 a1.ID.Session, U6 a1.ID.Seq, Zi, Zu, Zu, Zs, Zs]]) results49 (rvs_cons (rv_cell (cs := [U1 (3:Int), U6 a1.ID.Session, U6 a1.ID.Seq, Zi, Zu, Zu, Zs, Zs]) z isAgg35 sizeOf35 (hst.bcs3 0 z)) rvs_nil) ?_
 replace hst := hst.pull1.pull2
 exact ⟨_, Zs, Zs, z, hI0, hst.keep3⟩
}
}
}

theorem policy_Book_Grant_ref {w0 w : World} {I : HL} {R : SP} {a0 : (Option policy_Book)} {p0 : Value} {a1 : api_Rule} {a2 : Int}  (hst : St w0 w I [objO at_policy_Book p0 a0] R) {r : Unit} (hm : policy_Book_Grant a0 a1 a2 = some r) :
  Calls prog 53 #[p0, .agg #[U6 a1.ID, I6 a1.From, I6 a1.To, F6 a1.Lo, F6 a1.Hi, U6 a1.Authority, I6 a1.Quota], U6 a2] w fun e w' => e = .returned (.tuple #[]) ∧ St w0 w' I [objO at_policy_Book p0 a0] R := by {
 rcases a0 with _ | o0
 {
 obtain ⟨rfl, hst'⟩ := objO_none hst
 clear hst
 have hst := hst'
 clear hst'
 dsimp only [policy_Book_Grant] at hm
 refine calls_start (args := [.pointer none, .agg #[U6 a1.ID, I6 a1.From, I6 a1.To, F6 a1.Lo, F6 a1.Hi, U6 a1.Authority, I6 a1.Quota], U6 a2]) func53 z ntmps53 (Nat.le_of_ble_eq_true z) ?_
 refine wp_seq (wrl ?_)
 obtain ⟨b130, w131, ew132, eb133, hst⟩ := hst.box [U6 a1.ID, I6 a1.From, I6 a1.To, F6 a1.Lo, F6 a1.Hi, U6 a1.Authority, I6 a1.Quota] 39
 refine wl_run (v := Pt b130 0) (w' := w131) z z (x_al (by kernel_rfl) ew132 eb133) ?_
 refine wl_nil (tn (wp_seq (wp_seq (wrl (wv (.pointer none) z z z (wv (.bool true) z z (by kernel_rfl) (wl_nil (tn ?_))))))))
 refine wp_ift z ?_
 refine wp_ret (then_r ?_)
 replace hst := hst.objO_nil at_policy_Book
 obtain rfl := some_inj hm
 refine post_ret (vs := []) results53 rvs_nil ?_
 exact ⟨z, hst.keep1⟩
}
 {
 replace hst := objO_get hst
 dsimp only [policy_Book_Grant] at hm
 refine calls_start (args := [p0, .agg #[U6 a1.ID, I6 a1.From, I6 a1.To, F6 a1.Lo, F6 a1.Hi, U6 a1.Authority, I6 a1.Quota], U6 a2]) func53 z ntmps53 (Nat.le_of_ble_eq_true z) ?_
 refine wp_seq (wrl ?_)
 obtain ⟨b135, w136, ew137, eb138, hst⟩ := hst.box [U6 a1.ID, I6 a1.From, I6 a1.To, F6 a1.Lo, F6 a1.Hi, U6 a1.Authority, I6 a1.Quota] 39
 refine wl_run (v := Pt b135 0) (w' := w136) z z (x_al (by kernel_rfl) ew137 eb138) ?_
 refine wl_nil (tn (wp_seq (wp_seq (wrl (wv (p0) z z z ?_)))))
 replace hst := hst.pull1
 obtain ⟨b140, v141, rfl, hst'⟩ := at_policy_Book_open hst
 clear hst
 have hst := hst'
 clear hst'
 refine wv (.bool false) z z (by kernel_rfl) (wl_nil (tn ?_))
 refine wp_iff z ?_
 refine wp_skip (tn (wp_seq (wrl ?_)))
 refine wv (Pt b140 0) z z z (wv (Pt b135 0) z z (x_field z underlying39 z sizeOf26 z) (wv (.int .u64 a1.ID) z z (x_load z isAgg26 (hst.bc2 z)) (wv (.int .u64 a2) z z z ?_)))
 cases hm
}
}

theorem policy_Book_Revoke_ref {w0 w : World} {I : HL} {R : SP} {a0 : (Option policy_Book)} {p0 : Value} {a1 : Int} {a2 : Int}  (hst : St w0 w I [objO at_policy_Book p0 a0] R) {r : (Bool × (Option policy_Book))} (hm : policy_Book_Revoke a0 a1 a2 = some r) :
  Calls prog 54 #[p0, U6 a1, U6 a2] w fun e w' => e = .returned (.bool r.1) ∧ St w0 w' I [objO at_policy_Book p0 r.2] R := by {
 rcases a0 with _ | o0
 {
 obtain ⟨rfl, hst'⟩ := objO_none hst
 clear hst
 have hst := hst'
 clear hst'
 dsimp only [policy_Book_Revoke] at hm
 refine calls_start (args := [.pointer none, U6 a1, U6 a2]) func54 z ntmps54 (Nat.le_of_ble_eq_true z) ?_
 refine wp_seq (wrl (wv (.bool false) z z z (wl_nil (tn (wp_seq (wp_seq (wrl (wv (.pointer none) z z z (wv (.bool true) z z (by kernel_rfl) (wl_nil (tn ?_)))))))))))
 refine wp_ift z ?_
 refine wp_seq (wrl (wv (.bool false) z z z (wl_nil (tn (wp_ret (then_r ?_))))))
 replace hst := hst.objO_nil at_policy_Book
 obtain rfl := some_inj hm
 refine post_ret (vs := [.bool false]) results54 (rvs_cons (rv_tmp z) rvs_nil) ?_
 exact ⟨z, hst.keep1⟩
}
 {
 replace hst := objO_get hst
 dsimp only [policy_Book_Revoke] at hm
 refine calls_start (args := [p0, U6 a1, U6 a2]) func54 z ntmps54 (Nat.le_of_ble_eq_true z) ?_
 refine wp_seq (wrl (wv (.bool false) z z z (wl_nil (tn (wp_seq (wp_seq (wrl (wv (p0) z z z ?_))))))))
 obtain ⟨b182, v183, rfl, hst'⟩ := at_policy_Book_open hst
 clear hst
 have hst := hst'
 clear hst'
 refine wv (.bool false) z z (by kernel_rfl) (wl_nil (tn ?_))
 refine wp_iff z ?_
 refine wp_skip (tn (wp_seq (wrl ?_)))
 refine wv (.bool false) z z z (wl_nil (tn (wp_seq (wp_seq (wrl (wv (Pt b182 0) z z z (wv (Pt b182 0) z z z (wv (Pt b182 0) z z (x_field z underlying209 z sizeOf207 z) (wv (v183) z z (x_load z isAgg207 (hst.bc0 z)) (wv (.int .i64 ((o0.l).length : Int)) z z (x_len z underlying207 hst.sv1) (wv (.int .i64 (0:Int)) z z z (wl_nil (tn (wp_block ?_))))))))))))))
 replace hst := hst.pull1.pull1
 replace hst := at_policy_Book_close (pv := Pt b182 0) (x := o0) hst z
 obtain ⟨n224, hm⟩ := loopO_some hm
 refine wp_loop_n (fun n a w => ∃ (z220 : policy_Book) (z221 : Int) (z222 : Bool) (σ223 : Nat → Value), loopN (policy_Book_Revoke_l0 o0 a1 a2) n (z220, z221, z222) = some r ∧ a = Fr 52 (upd (upd (upd (upd (upd (upd σ223 0 (Pt b182 0)) 1 (.int .u64 a1)) 2 (.int .u64 a2)) 7 (.bool z222)) 15 (.int .i64 ((o0.l).length : Int))) 16 (.int .i64 z221)) ∧ St w0 w I [at_policy_Book (Pt b182 0) z220] R) n224 ⟨o0, (0:Int), false, _, hm, (fu 0 (Pt b182 0) z (fu 1 (.int .u64 a1) z (fu 2 (.int .u64 a2) z (fu 7 (.bool false) z (fu 15 (.int .i64 ((o0.l).length : Int)) z (fu 16 (.int .i64 (0:Int)) z z)))))), hst⟩ ?_
 rintro n230 _ w225 ⟨z220, z221, z222, σ223, hm, rfl, hst⟩
 obtain ⟨n227, y228, rfl, hm, hx229⟩ := loopN_some hm
 dsimp only [policy_Book_Revoke_l0] at hm
 refine wp_seq (wrl (wv (.bool (decide (z221 < ((o0.l).length : Int)))) z z z (wl_nil (tn (wp_seq ?_)))))
 refine bsplit (decide (z221 < ((o0.l).length : Int))) (fun hc231 => ?_) (fun hc231 => ?_)
 {
 replace hm := bif_t hc231 hm
 refine wp_ift (cvb hc231) ?_
 refine wp_skip (tn (wp_seq (wp_block (wp_seq (wrl ?_)))))
 refine wv (.int .i64 z221) z z z (wv (.int .i64 z221) z z z (wl_nil (tn (wp_seq (wrl (wv (Pt b182 0) z z z ?_))))))
 obtain ⟨b232, v233, e235, hst'⟩ := at_policy_Book_open hst
 clear hst
 have e235 := ptr_inj e235
 subst e235
 have hst := hst'
 clear hst'
 refine wv (Pt b182 0) z z z (wv (Pt b182 0) z z (x_field z underlying209 z sizeOf207 z) (wv (v233) z z (x_load z isAgg207 (hst.bc0 z)) (wv (.int .i64 z221) z z z ?_)))
 obtain ⟨x236, hx237, hm⟩ := bind_some hm
 obtain ⟨h238, h239, hi240⟩ := geto_some hx237
 refine wv (.pointer (some (eAddr v233 (z221.toNat * 9 + 0)))) z z (x_index z z underlying207 sizeOf224 hst.sv1 h238 h239) (wv (.pointer (some (eAddr v233 (z221.toNat * 9 + 0)))) z z (x_field_e z underlying224 z sizeOf39 z) (wv (.pointer (some (eAddr v233 (z221.toNat * 9 + 0)))) z z (x_field_e z underlying39 z sizeOf26 z) (wv (.int .u64 x236.r.ID) z z (x_load z isAgg26 (hst.ol1 hi240 (by rintro _ rfl; rfl))) (wv (.int .u64 a1) z z z (wv (.bool (x236.r.ID == a1)) z z z (wv (.bool (x236.r.ID == a1)) z z z ?_))))))
 refine bsplit (x236.r.ID == a1) (fun hc241 => ?_) (fun hc241 => ?_)
 {
 replace hm := bif_t hc241 hm
 refine wv (Pt b182 0) ((wanted_eq z z z (cvb hc241)).trans z) z z (wv (Pt b182 0) ((wanted_eq z z z (cvb hc241)).trans z) z z (wv (Pt b182 0) ((wanted_eq z z z (cvb hc241)).trans z) z (x_field z underlying209 z sizeOf207 z) (wv (v233) ((wanted_eq z z z (cvb hc241)).trans z) z (x_load z isAgg207 (hst.bc0 z)) (wv (.int .i64 z221) ((wanted_eq z z z (cvb hc241)).trans z) z z (wv (.pointer (some (eAddr v233 (z221.toNat * 9 + 0)))) ((wanted_eq z z z (cvb hc241)).trans z) z (x_index z z underlying207 sizeOf224 hst.sv1 h238 h239) (wv (.pointer (some (eAddr v233 (z221.toNat * 9 + 8)))) ((wanted_eq z z z (cvb hc241)).trans z) z (x_field_e z underlying224 z sizeOf26 z) (wv (.int .u64 x236.to_) ((wanted_eq z z z (cvb hc241)).trans z) z (x_load z isAgg26 (hst.ol1 hi240 (by rintro _ rfl; rfl))) (wv (.bool (x236.to_ == (0:Int))) ((wanted_eq z z z (cvb hc241)).trans z) z z (wv (.bool (x236.to_ == (0:Int))) z z (x_pick_t hc241 z z) (wl_nil (tn ?_)))))))))))
 refine bsplit (x236.to_ == (0:Int)) (fun hc242 => ?_) (fun hc242 => ?_)
 {
 replace hm := bif_t hc242 hm
 refine wp_ift (cvb hc242) ?_
 refine wrl (wv (Pt b182 0) z z z (wv (Pt b182 0) z z z (wv (Pt b182 0) z z (x_field z underlying209 z sizeOf207 z) (wv (v233) z z (x_load z isAgg207 (hst.bc0 z)) (wv (.int .i64 z221) z z z (wv (.int .u64 a2) z z z (wv (.int .u64 (if (1:Int) > a2 then (1:Int) else a2)) z z (by kernel_rfl) (wv (.pointer (some (eAddr v233 (z221.toNat * 9 + 0)))) z z (x_index z z underlying207 sizeOf224 hst.sv1 h238 h239) (wv (.pointer (some (eAddr v233 (z221.toNat * 9 + 8)))) z z (x_field_e z underlying224 z sizeOf26 z) ?_)))))))))
 replace hst := hst.pull1
 obtain ⟨w243, hr244, hst⟩ := hst.own_store (P := prog) (t := 26) (y := ({ r := x236.r, from_ := x236.from_, to_ := (if (1:Int) > a2 then (1:Int) else a2) } : policy_line)) hi240 8 (.int .u64 (if (1:Int) > a2 then (1:Int) else a2)) sizeOf26 (Nat.le_of_ble_eq_true z) (oC z oN) (by rintro _ rfl; rfl)
 have hi245 := set_get hi240 ({ r := x236.r, from_ := x236.from_, to_ := (if (1:Int) > a2 then (1:Int) else a2) } : policy_line)
 have h246 := set_lt h239 z221.toNat ({ r := x236.r, from_ := x236.from_, to_ := (if (1:Int) > a2 then (1:Int) else a2) } : policy_line)
 refine wl_unit z z (x_unit hr244) ?_
 refine wv (.bool true) z z z (wl_nil (blk_n (tn (wrl (wv (.int .i64 (i64.wrap (z221 + (1:Int)))) z z z (wv (.int .i64 (i64.wrap (z221 + (1:Int)))) z z z (wl_nil (tn ?_))))))))
 replace hst := hst.pull1
 replace hst := at_policy_Book_close (pv := Pt b182 0) (x := ({ l := (z220.l.set z221.toNat ({ r := x236.r, from_ := x236.from_, to_ := (if (1:Int) > a2 then (1:Int) else a2) } : policy_line)) } : policy_Book)) hst z
 replace hst := hst.keep1
 obtain rfl := some_inj hm
 exact ⟨_, Nat.lt_succ_self _, ({ l := (z220.l.set z221.toNat ({ r := x236.r, from_ := x236.from_, to_ := (if (1:Int) > a2 then (1:Int) else a2) } : policy_line)) } : policy_Book), (i64.wrap (z221 + (1:Int))), true, _, hx229, (fu 0 (Pt b182 0) z (fu 1 (.int .u64 a1) z (fu 2 (.int .u64 a2) z (fu 7 (.bool true) z (fu 15 (.int .i64 ((o0.l).length : Int)) z (fu 16 (.int .i64 (i64.wrap (z221 + (1:Int)))) z z)))))), hst⟩
}
 {
 replace hm := bif_f hc242 hm
 refine wp_iff (cvb hc242) ?_
 refine wp_skip (blk_n (tn (wrl ?_)))
 refine wv (.int .i64 (i64.wrap (z221 + (1:Int)))) z z z (wv (.int .i64 (i64.wrap (z221 + (1:Int)))) z z z (wl_nil (tn ?_)))
 replace hst := hst.pull1.pull1
 replace hst := at_policy_Book_close (pv := Pt b182 0) (x := z220) hst z
 replace hst := hst.keep1
 obtain rfl := some_inj hm
 exact ⟨_, Nat.lt_succ_self _, z220, (i64.wrap (z221 + (1:Int))), z222, _, hx229, (fu 0 (Pt b182 0) z (fu 1 (.int .u64 a1) z (fu 2 (.int .u64 a2) z (fu 7 (.bool z222) z (fu 15 (.int .i64 ((o0.l).length : Int)) z (fu 16 (.int .i64 (i64.wrap (z221 + (1:Int)))) z z)))))), hst⟩
}
}
 {
 replace hm := bif_f hc241 hm
 refine wo hc241 z z z z z z (wo hc241 z z z z z z (wo hc241 z z z z z z (wo hc241 z z z z z z (wo hc241 z z z z z z (wo hc241 z z z z z z (wo hc241 z z z z z z (wo hc241 z z z z z z (wo hc241 z z z z z z (wv (.bool false) z z (x_pick_f hc241 z z) (wl_nil (tn ?_)))))))))))
 refine wp_iff z ?_
 refine wp_skip (blk_n (tn (wrl ?_)))
 refine wv (.int .i64 (i64.wrap (z221 + (1:Int)))) z z z (wv (.int .i64 (i64.wrap (z221 + (1:Int)))) z z z (wl_nil (tn ?_)))
 replace hst := hst.pull1.pull1
 replace hst := at_policy_Book_close (pv := Pt b182 0) (x := z220) hst z
 replace hst := hst.keep1
 obtain rfl := some_inj hm
 exact ⟨_, Nat.lt_succ_self _, z220, (i64.wrap (z221 + (1:Int))), z222, _, hx229, (fu 0 (Pt b182 0) z (fu 1 (.int .u64 a1) z (fu 2 (.int .u64 a2) z (fu 7 (.bool z222) z (fu 15 (.int .i64 ((o0.l).length : Int)) z (fu 16 (.int .i64 (i64.wrap (z221 + (1:Int)))) z z)))))), hst⟩
}
}
 {
 replace hm := bif_f hc231 hm
 refine wp_iff (cvb hc231) ?_
 refine wp_exit (then_x (then_x ?_))
 replace hm := inr_up hm hx229
 refine blk_x (tn (wp_seq (wrl ?_)))
 refine wv (.bool z222) z z z (wv (.bool z222) z z z (wl_nil (tn (wp_ret ?_))))
 replace hst := objO_some hst
 obtain rfl := some_inj hm
 refine post_ret (vs := [.bool z222]) results54 (rvs_cons (rv_tmp z) rvs_nil) ?_
 exact ⟨z, hst.keep1⟩
}
}
}

theorem lane_State_Apply_ref {w0 w : World} {I : HL} {R : SP} {a0 : (Option lane_State)} {p0 : Value} {a1 : Int} {a2 : api_Command} {r2_0 : Value} {r2_1 : Value} {r2_2 : Value} {r2_3 : Value} {r2_4 : Value} {r2_5 : Value} {r2_6 : Value} {r2_7 : Value} (f2_0 : Rd tyF64 R I r2_0 a2.Hold.Gets) (f2_1 : Rd tyF2 R I r2_1 a2.Hold.Scans) (f2_2 : Rd tyF64 R I r2_2 a2.Hold.Puts) (f2_3 : Rd (tyInt .u8) R I r2_3 a2.Hold.Data) (f2_4 : Rd ty_api_Write R I r2_4 a2.Writes) (f2_5 : Rd ty_api_Got R I r2_5 a2.R.Gots) (f2_6 : Rd (tySl ty_api_Pair) R I r2_6 a2.R.Scans) (f2_7 : Rd ty_api_Part R I r2_7 a2.Parts) (hst : St w0 w I [objO at_lane_State p0 a0] R) {r : (api_Effect × (Option lane_State))} (hm : lane_State_Apply a0 a1 a2 = some r) :
  Calls prog 14 #[p0, U6 a1, .agg #[U1 a2.Kind, U6 a2.ID.Session, U6 a2.ID.Seq, U6 a2.Epoch, U6 a2.Index, I6 a2.E, U6 a2.Hold.ID.Session, U6 a2.Hold.ID.Seq, U6 a2.Hold.Epoch, r2_0, r2_1, r2_2, r2_3, r2_4, I6 a2.R.E, U6 a2.R.Epoch, U6 a2.R.Index, r2_5, r2_6, U6 a2.Shards, r2_7, U6 a2.Rule.ID, I6 a2.Rule.From, I6 a2.Rule.To, F6 a2.Rule.Lo, F6 a2.Rule.Hi, U6 a2.Rule.Authority, I6 a2.Rule.Quota, .bool a2.On]] w fun e w' => ∃ (I' : HL) (q0_0 : Value) (q0_1 : Value), e = .returned (.agg #[U1 r.1.Kind, U6 r.1.ID.Session, U6 r.1.ID.Seq, I6 r.1.R.E, U6 r.1.R.Epoch, U6 r.1.R.Index, q0_0, q0_1]) ∧ I.le I' ∧ St w0 w' I' [ownS ty_api_Got q0_0 r.1.R.Gots, ownS (tySl ty_api_Pair) q0_1 r.1.R.Scans, objO at_lane_State p0 r.2] R := by {
 rcases a0 with _ | o0
 {
 obtain ⟨rfl, hst'⟩ := objO_none hst
 clear hst
 have hst := hst'
 clear hst'
 dsimp only [lane_State_Apply] at hm
 refine calls_start (args := [.pointer none, U6 a1, .agg #[U1 a2.Kind, U6 a2.ID.Session, U6 a2.ID.Seq, U6 a2.Epoch, U6 a2.Index, I6 a2.E, U6 a2.Hold.ID.Session, U6 a2.Hold.ID.Seq, U6 a2.Hold.Epoch, r2_0, r2_1, r2_2, r2_3, r2_4, I6 a2.R.E, U6 a2.R.Epoch, U6 a2.R.Index, r2_5, r2_6, U6 a2.Shards, r2_7, U6 a2.Rule.ID, I6 a2.Rule.From, I6 a2.Rule.To, F6 a2.Rule.Lo, F6 a2.Rule.Hi, U6 a2.Rule.Authority, I6 a2.Rule.Quota, .bool a2.On]]) func14 z ntmps14 (Nat.le_of_ble_eq_true z) ?_
 have hI0 := HL.le.refl I
 refine wp_seq (wrl ?_)
 obtain ⟨b129, w130, ew131, eb132, hst⟩ := hst.box [U1 a2.Kind, U6 a2.ID.Session, U6 a2.ID.Seq, U6 a2.Epoch, U6 a2.Index, I6 a2.E, U6 a2.Hold.ID.Session, U6 a2.Hold.ID.Seq, U6 a2.Hold.Epoch, r2_0, r2_1, r2_2, r2_3, r2_4, I6 a2.R.E, U6 a2.R.Epoch, U6 a2.R.Index, r2_5, r2_6, U6 a2.Shards, r2_7, U6 a2.Rule.ID, I6 a2.Rule.From, I6 a2.Rule.To, F6 a2.Rule.Lo, F6 a2.Rule.Hi, U6 a2.Rule.Authority, I6 a2.Rule.Quota, .bool a2.On] 49
 refine wl_run (v := Pt b129 0) (w' := w130) z z (x_al (by kernel_rfl) ew131 eb132) ?_
 obtain ⟨b136, w137, ew138, eb139, hst⟩ := hst.box [Zb, Zu, Zu, Zi, Zu, Zu, Zs, Zs] 35
 refine wl_run (v := Pt b136 0) (w' := w137) z z (x_al (by kernel_rfl) ew138 eb139) ?_
 refine wl_nil (tn (wp_seq (wp_seq (wrl (wv (.pointer none) z z z (wv (.bool true) z z (by kernel_rfl) (wl_nil (tn ?_))))))))
 refine wp_ift z ?_
 refine wp_seq (wrl (wv (.agg #[Zb, Zu, Zu, Zi, Zu, Zu, Zs, Zs]) z z (by kernel_rfl) ?_))
 obtain ⟨w143, hr144, hst⟩ := hst.bx [Zb, Zu, Zu, Zi, Zu, Zu, Zs, Zs] sizeOf35 z (oC z (oC z (oC z (oC z (oC z (oC z (oC z (oC z oN)))))))) (by kernel_rfl)
 refine wl_unit z z (x_unit hr144) ?_
 refine wl_nil (tn (wp_ret (then_r ?_)))
 replace hst := hst.own_nil ty_api_Got
 replace hst := hst.own_nil (tySl ty_api_Pair)
 replace hst := hst.objO_nil at_lane_State
 obtain rfl := some_inj hm
 refine post_ret (vs := [.agg #[Zb, Zu, Zu, Zi, Zu, Zu, Zs, Zs]]) results14 (rvs_cons (rv_cell (cs := [Zb, Zu, Zu, Zi, Zu, Zu, Zs, Zs]) z isAgg35 sizeOf35 (hst.bcs3 0 z)) rvs_nil) ?_
 replace hst := hst.pull1.pull2
 exact ⟨_, Zs, Zs, z, hI0, hst.keep3⟩
}
 {
 replace hst := objO_get hst
 dsimp only [lane_State_Apply] at hm
 refine calls_start (args := [p0, U6 a1, .agg #[U1 a2.Kind, U6 a2.ID.Session, U6 a2.ID.Seq, U6 a2.Epoch, U6 a2.Index, I6 a2.E, U6 a2.Hold.ID.Session, U6 a2.Hold.ID.Seq, U6 a2.Hold.Epoch, r2_0, r2_1, r2_2, r2_3, r2_4, I6 a2.R.E, U6 a2.R.Epoch, U6 a2.R.Index, r2_5, r2_6, U6 a2.Shards, r2_7, U6 a2.Rule.ID, I6 a2.Rule.From, I6 a2.Rule.To, F6 a2.Rule.Lo, F6 a2.Rule.Hi, U6 a2.Rule.Authority, I6 a2.Rule.Quota, .bool a2.On]]) func14 z ntmps14 (Nat.le_of_ble_eq_true z) ?_
 have hI0 := HL.le.refl I
 refine wp_seq (wrl ?_)
 obtain ⟨b145, w146, ew147, eb148, hst⟩ := hst.box [U1 a2.Kind, U6 a2.ID.Session, U6 a2.ID.Seq, U6 a2.Epoch, U6 a2.Index, I6 a2.E, U6 a2.Hold.ID.Session, U6 a2.Hold.ID.Seq, U6 a2.Hold.Epoch, r2_0, r2_1, r2_2, r2_3, r2_4, I6 a2.R.E, U6 a2.R.Epoch, U6 a2.R.Index, r2_5, r2_6, U6 a2.Shards, r2_7, U6 a2.Rule.ID, I6 a2.Rule.From, I6 a2.Rule.To, F6 a2.Rule.Lo, F6 a2.Rule.Hi, U6 a2.Rule.Authority, I6 a2.Rule.Quota, .bool a2.On] 49
 refine wl_run (v := Pt b145 0) (w' := w146) z z (x_al (by kernel_rfl) ew147 eb148) ?_
 obtain ⟨b152, w153, ew154, eb155, hst⟩ := hst.box [Zb, Zu, Zu, Zi, Zu, Zu, Zs, Zs] 35
 refine wl_run (v := Pt b152 0) (w' := w153) z z (x_al (by kernel_rfl) ew154 eb155) ?_
 refine wl_nil (tn (wp_seq (wp_seq (wrl (wv (p0) z z z ?_)))))
 replace hst := hst.pull2
 obtain ⟨b157, v158, v160, v162, v164, v166, v168, v170, rfl, hst'⟩ := at_lane_State_open hst
 clear hst
 have hst := hst'
 clear hst'
 refine wv (.bool false) z z (by kernel_rfl) (wl_nil (tn ?_))
 refine wp_iff z ?_
 refine wp_skip (tn (wp_seq (wp_seq (wrl ?_))))
 refine wv (Pt b145 0) z z (x_field z underlying49 z sizeOf5 z) (wv (.int .u8 a2.Kind) z z (x_load z isAgg5 (hst.bc9 z)) (wl_nil (tn (wp_block (wp_seq (wrl (wv (.bool (a2.Kind == (1:Int))) z z z (wv (.bool (a2.Kind == (1:Int))) z z z (wl_nil (tn ?_))))))))))
 refine bsplit (a2.Kind == (1:Int)) (fun hc172 => ?_) (fun hc172 => ?_)
 {
 replace hm := bif_t hc172 hm
 refine wp_ift (cvb hc172) ?_
 refine wp_seq (wrl (wv (Pt b157 0) z z z (wv (.agg #[U1 a2.Kind, U6 a2.ID.Session, U6 a2.ID.Seq, U6 a2.Epoch, U6 a2.Index, I6 a2.E, U6 a2.Hold.ID.Session, U6 a2.Hold.ID.Seq, U6 a2.Hold.Epoch, r2_0, r2_1, r2_2, r2_3, r2_4, I6 a2.R.E, U6 a2.R.Epoch, U6 a2.R.Index, r2_5, r2_6, U6 a2.Shards, r2_7, U6 a2.Rule.ID, I6 a2.Rule.From, I6 a2.Rule.To, F6 a2.Rule.Lo, F6 a2.Rule.Hi, U6 a2.Rule.Authority, I6 a2.Rule.Quota, .bool a2.On]) z z (x_loadN (cs := [U1 a2.Kind, U6 a2.ID.Session, U6 a2.ID.Seq, U6 a2.Epoch, U6 a2.Index, I6 a2.E, U6 a2.Hold.ID.Session, U6 a2.Hold.ID.Seq, U6 a2.Hold.Epoch, r2_0, r2_1, r2_2, r2_3, r2_4, I6 a2.R.E, U6 a2.R.Epoch, U6 a2.R.Index, r2_5, r2_6, U6 a2.Shards, r2_7, U6 a2.Rule.ID, I6 a2.Rule.From, I6 a2.Rule.To, F6 a2.Rule.Lo, F6 a2.Rule.Hi, U6 a2.Rule.Authority, I6 a2.Rule.Quota, .bool a2.On]) z isAgg49 sizeOf49 (hst.bcs9 0 z)) ?_)))
 replace hst := hst.pull7.pull7.pull7.pull7.pull7.pull7.pull7.pull7
 replace hst := at_lane_State_close (pv := Pt b157 0) (x := o0) hst z
 replace hst := objO_some hst
 obtain ⟨t173, ht174, hm⟩ := bind_some hm
 refine wc call47 [Pt b157 0, .agg #[U1 a2.Kind, U6 a2.ID.Session, U6 a2.ID.Seq, U6 a2.Epoch, U6 a2.Index, I6 a2.E, U6 a2.Hold.ID.Session, U6 a2.Hold.ID.Seq, U6 a2.Hold.Epoch, r2_0, r2_1, r2_2, r2_3, r2_4, I6 a2.R.E, U6 a2.R.Epoch, U6 a2.R.Index, r2_5, r2_6, U6 a2.Shards, r2_7, U6 a2.Rule.ID, I6 a2.Rule.From, I6 a2.Rule.To, F6 a2.Rule.Lo, F6 a2.Rule.Hi, U6 a2.Rule.Authority, I6 a2.Rule.Quota, .bool a2.On]] z z z ?_
 refine (lane_State_shut_ref (f2_0.mono (rd_weak _)) (f2_1.mono (rd_weak _)) (f2_2.mono (rd_weak _)) (f2_3.mono (rd_weak _)) (f2_4.mono (rd_weak _)) (f2_5.mono (rd_weak _)) (f2_6.mono (rd_weak _)) (f2_7.mono (rd_weak _)) hst.to1 ht174).mono ?_
 rintro _ w175 ⟨v178, v180, rfl, hst⟩
 refine ⟨_, z, ?_⟩
 replace hst := hst.of3.pull2
 rcases he183 : t173.2 with _ | y182
 · rw [he183] at hm; cases hm
 rw [he183] at hm hst; dsimp only at hm; replace hst := objO_get hst
 replace hst := hst.pull3
 obtain ⟨w184, hr185, hst⟩ := hst.bx [U1 t173.1.Kind, U6 t173.1.ID.Session, U6 t173.1.ID.Seq, I6 t173.1.R.E, U6 t173.1.R.Epoch, U6 t173.1.R.Index, v178, v180] sizeOf35 z (oC z (oC z (oC z (oC z (oC z (oC z (oC (one_of_sliceV hst.sv2) (oC (one_of_sliceV hst.sv3) oN)))))))) (by kernel_rfl)
 refine wl_unit z z (x_unit hr185) ?_
 refine wl_nil (tn (wp_ret (blk_r (then_r ?_))))
 replace hst := hst.pull1
 replace hst := objO_some hst
 obtain rfl := some_inj hm
 refine post_ret (vs := [.agg #[U1 t173.1.Kind, U6 t173.1.ID.Session, U6 t173.1.ID.Seq, I6 t173.1.R.E, U6 t173.1.R.Epoch, U6 t173.1.R.Index, v178, v180]]) results14 (rvs_cons (rv_cell (cs := [U1 t173.1.Kind, U6 t173.1.ID.Session, U6 t173.1.ID.Seq, I6 t173.1.R.E, U6 t173.1.R.Epoch, U6 t173.1.R.Index, v178, v180]) z isAgg35 sizeOf35 (hst.bcs1 0 z)) rvs_nil) ?_
 replace hst := hst.pull3.pull3
 exact ⟨_, v178, v180, z, hI0, hst.keep3⟩
}
 {
 replace hm := bif_f hc172 hm
 refine wp_iff (cvb hc172) ?_
 refine wp_seq (wrl (wv (.bool (a2.Kind == (2:Int))) z z z (wv (.bool (a2.Kind == (2:Int))) z z z (wl_nil (tn ?_)))))
 refine bsplit (a2.Kind == (2:Int)) (fun hc186 => ?_) (fun hc186 => ?_)
 {
 replace hm := bif_t hc186 hm
 refine wp_ift (cvb hc186) ?_
 refine wp_seq (wrl (wv (Pt b157 0) z z z (wv (.agg #[U1 a2.Kind, U6 a2.ID.Session, U6 a2.ID.Seq, U6 a2.Epoch, U6 a2.Index, I6 a2.E, U6 a2.Hold.ID.Session, U6 a2.Hold.ID.Seq, U6 a2.Hold.Epoch, r2_0, r2_1, r2_2, r2_3, r2_4, I6 a2.R.E, U6 a2.R.Epoch, U6 a2.R.Index, r2_5, r2_6, U6 a2.Shards, r2_7, U6 a2.Rule.ID, I6 a2.Rule.From, I6 a2.Rule.To, F6 a2.Rule.Lo, F6 a2.Rule.Hi, U6 a2.Rule.Authority, I6 a2.Rule.Quota, .bool a2.On]) z z (x_loadN (cs := [U1 a2.Kind, U6 a2.ID.Session, U6 a2.ID.Seq, U6 a2.Epoch, U6 a2.Index, I6 a2.E, U6 a2.Hold.ID.Session, U6 a2.Hold.ID.Seq, U6 a2.Hold.Epoch, r2_0, r2_1, r2_2, r2_3, r2_4, I6 a2.R.E, U6 a2.R.Epoch, U6 a2.R.Index, r2_5, r2_6, U6 a2.Shards, r2_7, U6 a2.Rule.ID, I6 a2.Rule.From, I6 a2.Rule.To, F6 a2.Rule.Lo, F6 a2.Rule.Hi, U6 a2.Rule.Authority, I6 a2.Rule.Quota, .bool a2.On]) z isAgg49 sizeOf49 (hst.bcs9 0 z)) ?_)))
 replace hst := hst.pull7.pull7.pull7.pull7.pull7.pull7.pull7.pull7
 replace hst := at_lane_State_close (pv := Pt b157 0) (x := o0) hst z
 replace hst := objO_some hst
 obtain ⟨t187, ht188, hm⟩ := bind_some hm
 refine wc call48 [Pt b157 0, .agg #[U1 a2.Kind, U6 a2.ID.Session, U6 a2.ID.Seq, U6 a2.Epoch, U6 a2.Index, I6 a2.E, U6 a2.Hold.ID.Session, U6 a2.Hold.ID.Seq, U6 a2.Hold.Epoch, r2_0, r2_1, r2_2, r2_3, r2_4, I6 a2.R.E, U6 a2.R.Epoch, U6 a2.R.Index, r2_5, r2_6, U6 a2.Shards, r2_7, U6 a2.Rule.ID, I6 a2.Rule.From, I6 a2.Rule.To, F6 a2.Rule.Lo, F6 a2.Rule.Hi, U6 a2.Rule.Authority, I6 a2.Rule.Quota, .bool a2.On]] z z z ?_
 refine (lane_State_prepare_ref (f2_0.mono (rd_weak _)) (f2_1.mono (rd_weak _)) (f2_2.mono (rd_weak _)) (f2_3.mono (rd_weak _)) (f2_4.mono (rd_weak _)) (f2_5.mono (rd_weak _)) (f2_6.mono (rd_weak _)) (f2_7.mono (rd_weak _)) hst.to1 ht188).mono ?_
 rintro _ w189 ⟨I190, v192, v194, rfl, hI191, hst⟩
 refine ⟨_, z, ?_⟩
 replace hst := hst.of3
 replace f2_0 := f2_0.mono (rd_le hI191)
 replace f2_1 := f2_1.mono (rd_le hI191)
 replace f2_2 := f2_2.mono (rd_le hI191)
 replace f2_3 := f2_3.mono (rd_le hI191)
 replace f2_4 := f2_4.mono (rd_le hI191)
 replace f2_5 := f2_5.mono (rd_le hI191)
 replace f2_6 := f2_6.mono (rd_le hI191)
 replace f2_7 := f2_7.mono (rd_le hI191)
 replace hI0 := hI0.trans hI191
 replace hst := hst.pull2
 rcases he197 : t187.2 with _ | y196
 · rw [he197] at hm; cases hm
 rw [he197] at hm hst; dsimp only at hm; replace hst := objO_get hst
 replace hst := hst.pull3
 obtain ⟨w198, hr199, hst⟩ := hst.bx [U1 t187.1.Kind, U6 t187.1.ID.Session, U6 t187.1.ID.Seq, I6 t187.1.R.E, U6 t187.1.R.Epoch, U6 t187.1.R.Index, v192, v194] sizeOf35 z (oC z (oC z (oC z (oC z (oC z (oC z (oC (one_of_sliceV hst.sv2) (oC (one_of_sliceV hst.sv3) oN)))))))) (by kernel_rfl)
 refine wl_unit z z (x_unit hr199) ?_
 refine wl_nil (tn (wp_ret (blk_r (then_r ?_))))
 replace hst := hst.pull1
 replace hst := objO_some hst
 obtain rfl := some_inj hm
 refine post_ret (vs := [.agg #[U1 t187.1.Kind, U6 t187.1.ID.Session, U6 t187.1.ID.Seq, I6 t187.1.R.E, U6 t187.1.R.Epoch, U6 t187.1.R.Index, v192, v194]]) results14 (rvs_cons (rv_cell (cs := [U1 t187.1.Kind, U6 t187.1.ID.Session, U6 t187.1.ID.Seq, I6 t187.1.R.E, U6 t187.1.R.Epoch, U6 t187.1.R.Index, v192, v194]) z isAgg35 sizeOf35 (hst.bcs1 0 z)) rvs_nil) ?_
 replace hst := hst.pull3.pull3
 exact ⟨_, v192, v194, z, hI0, hst.keep3⟩
}
 {
 replace hm := bif_f hc186 hm
 refine wp_iff (cvb hc186) ?_
 refine wp_seq (wrl (wv (.bool (a2.Kind == (3:Int))) z z z (wv (.bool (a2.Kind == (3:Int))) z z z (wl_nil (tn ?_)))))
 refine bsplit (a2.Kind == (3:Int)) (fun hc200 => ?_) (fun hc200 => ?_)
 {
 replace hm := bif_t hc200 hm
 refine wp_ift (cvb hc200) ?_
 refine wp_seq (wrl (wv (Pt b157 0) z z z (wv (.agg #[U1 a2.Kind, U6 a2.ID.Session, U6 a2.ID.Seq, U6 a2.Epoch, U6 a2.Index, I6 a2.E, U6 a2.Hold.ID.Session, U6 a2.Hold.ID.Seq, U6 a2.Hold.Epoch, r2_0, r2_1, r2_2, r2_3, r2_4, I6 a2.R.E, U6 a2.R.Epoch, U6 a2.R.Index, r2_5, r2_6, U6 a2.Shards, r2_7, U6 a2.Rule.ID, I6 a2.Rule.From, I6 a2.Rule.To, F6 a2.Rule.Lo, F6 a2.Rule.Hi, U6 a2.Rule.Authority, I6 a2.Rule.Quota, .bool a2.On]) z z (x_loadN (cs := [U1 a2.Kind, U6 a2.ID.Session, U6 a2.ID.Seq, U6 a2.Epoch, U6 a2.Index, I6 a2.E, U6 a2.Hold.ID.Session, U6 a2.Hold.ID.Seq, U6 a2.Hold.Epoch, r2_0, r2_1, r2_2, r2_3, r2_4, I6 a2.R.E, U6 a2.R.Epoch, U6 a2.R.Index, r2_5, r2_6, U6 a2.Shards, r2_7, U6 a2.Rule.ID, I6 a2.Rule.From, I6 a2.Rule.To, F6 a2.Rule.Lo, F6 a2.Rule.Hi, U6 a2.Rule.Authority, I6 a2.Rule.Quota, .bool a2.On]) z isAgg49 sizeOf49 (hst.bcs9 0 z)) ?_)))
 replace hst := hst.pull7.pull7.pull7.pull7.pull7.pull7.pull7.pull7
 replace hst := at_lane_State_close (pv := Pt b157 0) (x := o0) hst z
 replace hst := objO_some hst
 obtain ⟨t201, ht202, hm⟩ := bind_some hm
 refine wc call49 [Pt b157 0, .agg #[U1 a2.Kind, U6 a2.ID.Session, U6 a2.ID.Seq, U6 a2.Epoch, U6 a2.Index, I6 a2.E, U6 a2.Hold.ID.Session, U6 a2.Hold.ID.Seq, U6 a2.Hold.Epoch, r2_0, r2_1, r2_2, r2_3, r2_4, I6 a2.R.E, U6 a2.R.Epoch, U6 a2.R.Index, r2_5, r2_6, U6 a2.Shards, r2_7, U6 a2.Rule.ID, I6 a2.Rule.From, I6 a2.Rule.To, F6 a2.Rule.Lo, F6 a2.Rule.Hi, U6 a2.Rule.Authority, I6 a2.Rule.Quota, .bool a2.On]] z z z ?_
 refine (lane_State_finish_ref (f2_0.mono (rd_weak _)) (f2_1.mono (rd_weak _)) (f2_2.mono (rd_weak _)) (f2_3.mono (rd_weak _)) (f2_4.mono (rd_weak _)) (f2_5.mono (rd_weak _)) (f2_6.mono (rd_weak _)) (f2_7.mono (rd_weak _)) hst.to1 ht202).mono ?_
 rintro _ w203 ⟨I204, v206, v208, rfl, hI205, hst⟩
 refine ⟨_, z, ?_⟩
 replace hst := hst.of3
 replace f2_0 := f2_0.mono (rd_le hI205)
 replace f2_1 := f2_1.mono (rd_le hI205)
 replace f2_2 := f2_2.mono (rd_le hI205)
 replace f2_3 := f2_3.mono (rd_le hI205)
 replace f2_4 := f2_4.mono (rd_le hI205)
 replace f2_5 := f2_5.mono (rd_le hI205)
 replace f2_6 := f2_6.mono (rd_le hI205)
 replace f2_7 := f2_7.mono (rd_le hI205)
 replace hI0 := hI0.trans hI205
 replace hst := hst.pull2
 rcases he211 : t201.2 with _ | y210
 · rw [he211] at hm; cases hm
 rw [he211] at hm hst; dsimp only at hm; replace hst := objO_get hst
 replace hst := hst.pull3
 obtain ⟨w212, hr213, hst⟩ := hst.bx [U1 t201.1.Kind, U6 t201.1.ID.Session, U6 t201.1.ID.Seq, I6 t201.1.R.E, U6 t201.1.R.Epoch, U6 t201.1.R.Index, v206, v208] sizeOf35 z (oC z (oC z (oC z (oC z (oC z (oC z (oC (one_of_sliceV hst.sv2) (oC (one_of_sliceV hst.sv3) oN)))))))) (by kernel_rfl)
 refine wl_unit z z (x_unit hr213) ?_
 refine wl_nil (tn (wp_ret (blk_r (then_r ?_))))
 replace hst := hst.pull1
 replace hst := objO_some hst
 obtain rfl := some_inj hm
 refine post_ret (vs := [.agg #[U1 t201.1.Kind, U6 t201.1.ID.Session, U6 t201.1.ID.Seq, I6 t201.1.R.E, U6 t201.1.R.Epoch, U6 t201.1.R.Index, v206, v208]]) results14 (rvs_cons (rv_cell (cs := [U1 t201.1.Kind, U6 t201.1.ID.Session, U6 t201.1.ID.Seq, I6 t201.1.R.E, U6 t201.1.R.Epoch, U6 t201.1.R.Index, v206, v208]) z isAgg35 sizeOf35 (hst.bcs1 0 z)) rvs_nil) ?_
 replace hst := hst.pull3.pull3
 exact ⟨_, v206, v208, z, hI0, hst.keep3⟩
}
 {
 replace hm := bif_f hc200 hm
 refine wp_iff (cvb hc200) ?_
 refine wp_seq (wrl (wv (.bool (a2.Kind == (4:Int))) z z z (wv (.bool (a2.Kind == (4:Int))) z z z (wl_nil (tn ?_)))))
 refine bsplit (a2.Kind == (4:Int)) (fun hc214 => ?_) (fun hc214 => ?_)
 {
 replace hm := bif_t hc214 hm
 refine wp_ift (cvb hc214) ?_
 refine wp_seq (wrl (wv (Pt b157 0) z z z (wv (.int .u64 a1) z z z (wv (.agg #[U1 a2.Kind, U6 a2.ID.Session, U6 a2.ID.Seq, U6 a2.Epoch, U6 a2.Index, I6 a2.E, U6 a2.Hold.ID.Session, U6 a2.Hold.ID.Seq, U6 a2.Hold.Epoch, r2_0, r2_1, r2_2, r2_3, r2_4, I6 a2.R.E, U6 a2.R.Epoch, U6 a2.R.Index, r2_5, r2_6, U6 a2.Shards, r2_7, U6 a2.Rule.ID, I6 a2.Rule.From, I6 a2.Rule.To, F6 a2.Rule.Lo, F6 a2.Rule.Hi, U6 a2.Rule.Authority, I6 a2.Rule.Quota, .bool a2.On]) z z (x_loadN (cs := [U1 a2.Kind, U6 a2.ID.Session, U6 a2.ID.Seq, U6 a2.Epoch, U6 a2.Index, I6 a2.E, U6 a2.Hold.ID.Session, U6 a2.Hold.ID.Seq, U6 a2.Hold.Epoch, r2_0, r2_1, r2_2, r2_3, r2_4, I6 a2.R.E, U6 a2.R.Epoch, U6 a2.R.Index, r2_5, r2_6, U6 a2.Shards, r2_7, U6 a2.Rule.ID, I6 a2.Rule.From, I6 a2.Rule.To, F6 a2.Rule.Lo, F6 a2.Rule.Hi, U6 a2.Rule.Authority, I6 a2.Rule.Quota, .bool a2.On]) z isAgg49 sizeOf49 (hst.bcs9 0 z)) ?_))))
 cases hm
}
 {
 replace hm := bif_f hc214 hm
 refine wp_iff (cvb hc214) ?_
 refine wp_seq (wrl (wv (.bool (a2.Kind == (5:Int))) z z z (wv (.bool (a2.Kind == (5:Int))) z z z (wl_nil (tn ?_)))))
 refine bsplit (a2.Kind == (5:Int)) (fun hc215 => ?_) (fun hc215 => ?_)
 {
 replace hm := bif_t hc215 hm
 refine wp_ift (cvb hc215) ?_
 refine wp_seq (wrl (wv (Pt b157 0) z z z (wv (Pt b145 1) z z (x_field z underlying49 z sizeOf28 z) (wv (.agg #[U6 a2.ID.Session, U6 a2.ID.Seq]) z z (x_loadN (cs := [U6 a2.ID.Session, U6 a2.ID.Seq]) z isAgg28 sizeOf28 (hst.bcs9 1 z)) ?_))))
 cases hm
}
 {
 replace hm := bif_f hc215 hm
 refine wp_iff (cvb hc215) ?_
 refine wp_seq (wrl (wv (.bool (a2.Kind == (6:Int))) z z z (wv (.bool (a2.Kind == (6:Int))) z z z (wl_nil (tn ?_)))))
 refine bsplit (a2.Kind == (6:Int)) (fun hc216 => ?_) (fun hc216 => ?_)
 {
 replace hm := bif_t hc216 hm
 refine wp_ift (cvb hc216) ?_
 refine wp_seq (wrl (wv (Pt b145 28) z z (x_field z underlying49 z sizeOf4 z) (wv (.bool a2.On) z z (x_load z isAgg4 (hst.bc9 z)) (wl_nil (tn ?_)))))
 refine bsplit a2.On (fun hc217 => ?_) (fun hc217 => ?_)
 {
 replace hm := bif_t hc217 hm
 refine wp_ift (cvb hc217) ?_
 refine wp_region_St hst 11 [0, 1, 2, 3, 4, 5, 6, 7, 8, 9, 10] [0, 1, 3, 7, 0, 16, 0, 64, 192, 448, 1023] [] z (by kernel_rfl) (by kernel_rfl) Tryz.mixed (by kernel_rfl) ?_
 refine wsr (Pt b157 0) 0 z z z (by kernel_rfl) (fun w hst => z) (wsr (Pt b157 0) 1 z z z (by kernel_rfl) (fun w hst => z) (wsr (Pt b157 5) 2 z z z (by kernel_rfl) (fun w hst => x_field z underlying111 z sizeOf107 z) (wsr (v164) 3 z z z (by kernel_rfl) (fun w hst => x_load z isAgg107 (hst.bc0 z)) (wsr (Pt b145 21) 4 z z z (by kernel_rfl) (fun w hst => x_field z underlying49 z sizeOf39 z) (wsr (.agg #[U6 a2.Rule.ID, I6 a2.Rule.From, I6 a2.Rule.To, F6 a2.Rule.Lo, F6 a2.Rule.Hi, U6 a2.Rule.Authority, I6 a2.Rule.Quota]) 5 z z z (by kernel_rfl) (fun w hst => x_loadN (cs := [U6 a2.Rule.ID, I6 a2.Rule.From, I6 a2.Rule.To, F6 a2.Rule.Lo, F6 a2.Rule.Hi, U6 a2.Rule.Authority, I6 a2.Rule.Quota]) z isAgg39 sizeOf39 (hst.bcs9 21 z)) (wsr (Pt b157 0) 6 z z z (by kernel_rfl) (fun w hst => z) (wsr (Pt b157 0) 7 z z z (by kernel_rfl) (fun w hst => z) (wsr (Pt b157 1) 8 z z z (by kernel_rfl) (fun w hst => x_field z underlying111 z sizeOf26 z) (wsr (.int .u64 o0.epoch) 9 z z z (by kernel_rfl) (fun w hst => x_load z isAgg26 (hst.bc0 z)) ?_)))))))))
 refine ws_e1 10 (by kernel_rfl) ?_
 cases hm
}
 {
 replace hm := bif_f hc217 hm
 refine wp_iff (cvb hc217) ?_
 refine wp_region_St hst 12 [0, 1, 2, 3, 4, 5, 6, 7, 8, 9, 10, 11] [0, 1, 3, 7, 0, 16, 48, 0, 128, 384, 896, 2047] [] z (by kernel_rfl) (by kernel_rfl) Tryz.mixed (by kernel_rfl) ?_
 refine wsr (Pt b157 0) 0 z z z (by kernel_rfl) (fun w hst => z) (wsr (Pt b157 0) 1 z z z (by kernel_rfl) (fun w hst => z) (wsr (Pt b157 5) 2 z z z (by kernel_rfl) (fun w hst => x_field z underlying111 z sizeOf107 z) (wsr (v164) 3 z z z (by kernel_rfl) (fun w hst => x_load z isAgg107 (hst.bc0 z)) (wsr (Pt b145 21) 4 z z z (by kernel_rfl) (fun w hst => x_field z underlying49 z sizeOf39 z) (wsr (Pt b145 21) 5 z z z (by kernel_rfl) (fun w hst => x_field z underlying39 z sizeOf26 z) (wsr (.int .u64 a2.Rule.ID) 6 z z z (by kernel_rfl) (fun w hst => x_load z isAgg26 (hst.bc9 z)) (wsr (Pt b157 0) 7 z z z (by kernel_rfl) (fun w hst => z) (wsr (Pt b157 0) 8 z z z (by kernel_rfl) (fun w hst => z) (wsr (Pt b157 1) 9 z z z (by kernel_rfl) (fun w hst => x_field z underlying111 z sizeOf26 z) (wsr (.int .u64 o0.epoch) 10 z z z (by kernel_rfl) (fun w hst => x_load z isAgg26 (hst.bc0 z)) ?_))))))))))
 refine ws_e1 11 (by kernel_rfl) ?_
 cases hm
}
}
 {
 replace hm := bif_f hc216 hm
 refine wp_iff (cvb hc216) ?_
 refine wp_seq (wrl (wv (.bool (a2.Kind == (7:Int))) z z z (wv (.bool (a2.Kind == (7:Int))) z z z (wl_nil (tn ?_)))))
 refine bsplit (a2.Kind == (7:Int)) (fun hc218 => ?_) (fun hc218 => ?_)
 {
 replace hm := bif_t hc218 hm
 refine wp_ift (cvb hc218) ?_
 refine wp_seq (wrl (wv (Pt b157 0) z z z (wv (.int .u64 a1) z z z (wv (.agg #[U1 a2.Kind, U6 a2.ID.Session, U6 a2.ID.Seq, U6 a2.Epoch, U6 a2.Index, I6 a2.E, U6 a2.Hold.ID.Session, U6 a2.Hold.ID.Seq, U6 a2.Hold.Epoch, r2_0, r2_1, r2_2, r2_3, r2_4, I6 a2.R.E, U6 a2.R.Epoch, U6 a2.R.Index, r2_5, r2_6, U6 a2.Shards, r2_7, U6 a2.Rule.ID, I6 a2.Rule.From, I6 a2.Rule.To, F6 a2.Rule.Lo, F6 a2.Rule.Hi, U6 a2.Rule.Authority, I6 a2.Rule.Quota, .bool a2.On]) z z (x_loadN (cs := [U1 a2.Kind, U6 a2.ID.Session, U6 a2.ID.Seq, U6 a2.Epoch, U6 a2.Index, I6 a2.E, U6 a2.Hold.ID.Session, U6 a2.Hold.ID.Seq, U6 a2.Hold.Epoch, r2_0, r2_1, r2_2, r2_3, r2_4, I6 a2.R.E, U6 a2.R.Epoch, U6 a2.R.Index, r2_5, r2_6, U6 a2.Shards, r2_7, U6 a2.Rule.ID, I6 a2.Rule.From, I6 a2.Rule.To, F6 a2.Rule.Lo, F6 a2.Rule.Hi, U6 a2.Rule.Authority, I6 a2.Rule.Quota, .bool a2.On]) z isAgg49 sizeOf49 (hst.bcs9 0 z)) ?_))))
 cases hm
}
 {
 replace hm := bif_f hc218 hm
 refine wp_iff (cvb hc218) ?_
 refine wp_skip (blk_n (tn (wp_seq (wrl ?_))))
 refine wv (.agg #[Zb, Zu, Zu, Zi, Zu, Zu, Zs, Zs]) z z (by kernel_rfl) ?_
 replace hst := hst.pull8
 obtain ⟨w221, hr222, hst⟩ := hst.bx [Zb, Zu, Zu, Zi, Zu, Zu, Zs, Zs] sizeOf35 z (oC z (oC z (oC z (oC z (oC z (oC z (oC z (oC z oN)))))))) (by kernel_rfl)
 refine wl_unit z z (x_unit hr222) ?_
 refine wl_nil (tn (wp_ret ?_))
 replace hst := hst.own_nil ty_api_Got
 replace hst := hst.own_nil (tySl ty_api_Pair)
 replace hst := hst.pull10.pull10.pull10.pull10.pull10.pull10.pull10.pull10
 replace hst := at_lane_State_close (pv := Pt b157 0) (x := o0) hst z
 replace hst := objO_some hst
 obtain rfl := some_inj hm
 refine post_ret (vs := [.agg #[Zb, Zu, Zu, Zi, Zu, Zu, Zs, Zs]]) results14 (rvs_cons (rv_cell (cs := [Zb, Zu, Zu, Zi, Zu, Zu, Zs, Zs]) z isAgg35 sizeOf35 (hst.bcs3 0 z)) rvs_nil) ?_
 replace hst := hst.pull1.pull2
 exact ⟨_, Zs, Zs, z, hI0, hst.keep3⟩
}
}
}
}
}
}
}
}
}

theorem lane_State_Epoch_ref {w0 w : World} {I : HL} {R : SP} {a0 : (Option lane_State)} {p0 : Value}  (hst : St w0 w I [objO at_lane_State p0 a0] R) {r : (Int)} (hm : lane_State_Epoch a0 = some r) :
  Calls prog 24 #[p0] w fun e w' => e = .returned (.int .u64 r) ∧ St w0 w' I [objO at_lane_State p0 a0] R := by {
 rcases a0 with _ | o0
 {
 obtain ⟨rfl, hst'⟩ := objO_none hst
 clear hst
 have hst := hst'
 clear hst'
 dsimp only [lane_State_Epoch] at hm
 refine calls_start (args := [.pointer none]) func24 z ntmps24 (Nat.le_of_ble_eq_true z) ?_
 refine wp_seq (wrl (wv (.int .u64 (0:Int)) z z z (wl_nil (tn (wp_seq (wp_seq (wrl (wv (.pointer none) z z z (wv (.bool true) z z (by kernel_rfl) (wl_nil (tn ?_)))))))))))
 refine wp_ift z ?_
 refine wp_seq (wrl (wv (.int .u64 (0:Int)) z z z (wl_nil (tn (wp_ret (then_r ?_))))))
 replace hst := hst.objO_nil at_lane_State
 obtain rfl := some_inj hm
 refine post_ret (vs := [Zu]) results24 (rvs_cons (rv_tmp z) rvs_nil) ?_
 exact ⟨z, hst.keep1⟩
}
 {
 replace hst := objO_get hst
 dsimp only [lane_State_Epoch] at hm
 refine calls_start (args := [p0]) func24 z ntmps24 (Nat.le_of_ble_eq_true z) ?_
 refine wp_seq (wrl (wv (.int .u64 (0:Int)) z z z (wl_nil (tn (wp_seq (wp_seq (wrl (wv (p0) z z z ?_))))))))
 obtain ⟨b63, v64, v66, v68, v70, v72, v74, v76, rfl, hst'⟩ := at_lane_State_open hst
 clear hst
 have hst := hst'
 clear hst'
 refine wv (.bool false) z z (by kernel_rfl) (wl_nil (tn ?_))
 refine wp_iff z ?_
 refine wp_skip (tn (wp_seq (wrl ?_)))
 refine wv (Pt b63 0) z z z (wv (Pt b63 0) z z z (wv (Pt b63 1) z z (x_field z underlying111 z sizeOf26 z) (wv (.int .u64 o0.epoch) z z (x_load z isAgg26 (hst.bc0 z)) (wv (.int .u64 o0.epoch) z z z (wl_nil (tn (wp_ret ?_)))))))
 replace hst := hst.pull7.pull7.pull7.pull7.pull7.pull7.pull7.pull7
 replace hst := at_lane_State_close (pv := Pt b63 0) (x := o0) hst z
 replace hst := objO_some hst
 obtain rfl := some_inj hm
 refine post_ret (vs := [U6 o0.epoch]) results24 (rvs_cons (rv_tmp z) rvs_nil) ?_
 exact ⟨z, hst.keep1⟩
}
}

theorem law16_awake_ref {w0 w : World} {I : HL} {R : SP}   (hst : St w0 w I [] R) {r : (Bool)} (hm : law16_awake = some r) :
  Calls prog 12 #[] w fun e w' => ∃ (I' : HL), e = .returned (.bool r) ∧ I.le I' ∧ St w0 w' I' [] R := by {
 unfold law16_awake at hm
 refine calls_start (args := []) func12 z ntmps12 (Nat.le_of_ble_eq_true z) ?_
 have hI0 := HL.le.refl I
 refine wp_seq (wrl (wv (.bool false) z z z (wl_nil (tn (wp_seq (wrl ?_))))))
 obtain ⟨t52, ht53, hm⟩ := bind_some hm
 refine wc call13 [I6 (4:Int)] z z z ?_
 refine (lane_New_ref hst.to0 ht53).mono ?_
 rintro _ w54 ⟨v57, rfl, hst⟩
 refine ⟨_, z, ?_⟩
 replace hst := hst.of1
 refine wv (v57) z z z (wl_nil (tn (wp_seq (wrl (wv (v57) z z z (wv (.agg #[U1 (1:Int), Zu, Zu, U6 (1:Int), Zu, Zi, Zu, Zu, Zu, Zs, Zs, Zs, Zs, Zs, Zi, Zu, Zu, Zs, Zs, Zu, Zs, Zu, Zi, Zi, Zf, Zf, Zu, Zi, .bool false]) z z (by kernel_rfl) ?_))))))
 replace hst := objO_some hst
 have f67 : Ro tyF64 I (.slice none 0 0) [] := ro_nil
 have f68 : Ro tyF2 I (.slice none 0 0) [] := ro_nil
 have f69 : Ro tyF64 I (.slice none 0 0) [] := ro_nil
 have f70 : Ro (tyInt .u8) I (.slice none 0 0) [] := ro_nil
 have f71 : Ro ty_api_Write I (.slice none 0 0) [] := ro_nil
 have f72 : Ro ty_api_Got I (.slice none 0 0) [] := ro_nil
 have f73 : Ro (tySl ty_api_Pair) I (.slice none 0 0) [] := ro_nil
 have f74 : Ro ty_api_Part I (.slice none 0 0) [] := ro_nil
 obtain ⟨t75, ht76, hm⟩ := bind_some hm
 refine wc call14 [v57, U6 (1:Int), .agg #[U1 (1:Int), Zu, Zu, U6 (1:Int), Zu, Zi, Zu, Zu, Zu, Zs, Zs, Zs, Zs, Zs, Zi, Zu, Zu, Zs, Zs, Zu, Zs, Zu, Zi, Zi, Zf, Zf, Zu, Zi, .bool false]] z z z ?_
 refine (lane_State_Apply_ref (a2 := ({ Kind := (1:Int), ID := ({ Session := (0:Int), Seq := (0:Int) } : api_ID), Epoch := (1:Int), Index := (0:Int), E := (0:Int), Hold := zero_api_Hold, Writes := [], R := zero_api_Reply, Shards := (0:Int), Parts := [], Rule := zero_api_Rule, On := false } : api_Command)) (f67.mono ro_rd) (f68.mono ro_rd) (f69.mono ro_rd) (f70.mono ro_rd) (f71.mono ro_rd) (f72.mono ro_rd) (f73.mono ro_rd) (f74.mono ro_rd) hst.to1 ht76).mono ?_
 rintro _ w77 ⟨I78, v80, v82, rfl, hI79, hst⟩
 refine ⟨_, z, ?_⟩
 replace hst := hst.of3
 replace f67 := f67.mono (ro_le hI79)
 replace f68 := f68.mono (ro_le hI79)
 replace f69 := f69.mono (ro_le hI79)
 replace f70 := f70.mono (ro_le hI79)
 replace f71 := f71.mono (ro_le hI79)
 replace f72 := f72.mono (ro_le hI79)
 replace f73 := f73.mono (ro_le hI79)
 replace f74 := f74.mono (ro_le hI79)
 replace hI0 := hI0.trans hI79
 replace hst := hst.pull2
 rcases he85 : t75.2 with _ | y84
 · rw [he85] at hm; cases hm
 rw [he85] at hm hst; dsimp only at hm; replace hst := objO_get hst
 obtain ⟨b88, w89, ew90, eb91, hst⟩ := hst.box [Zb, Zu, Zu, Zi, Zu, Zu, Zs, Zs] 35
 refine wl_run (v := Pt b88 0) (w' := w89) z z (x_al (by kernel_rfl) ew90 eb91) ?_
 obtain ⟨w93, hr94, hst⟩ := hst.bx [U1 t75.1.Kind, U6 t75.1.ID.Session, U6 t75.1.ID.Seq, I6 t75.1.R.E, U6 t75.1.R.Epoch, U6 t75.1.R.Index, v80, v82] sizeOf35 z (oC z (oC z (oC z (oC z (oC z (oC z (oC (one_of_sliceV hst.sv2) (oC (one_of_sliceV hst.sv3) oN)))))))) (by kernel_rfl)
 refine wl_unit z z (x_unit hr94) ?_
 refine wl_nil (tn (wp_seq (wrl (wv (Pt b88 0) z z (x_field z underlying35 z sizeOf5 z) (wv (.int .u8 t75.1.Kind) z z (x_load z isAgg5 (hst.bc0 z)) (wv (.bool (t75.1.Kind == (1:Int))) z z z (wv (.bool (t75.1.Kind == (1:Int))) z z z ?_)))))))
 refine bsplit (t75.1.Kind == (1:Int)) (fun hc95 => ?_) (fun hc95 => ?_)
 {
 replace hm := bif_t hc95 hm
 refine wv (v57) ((wanted_eq z z z (cvb hc95)).trans z) z z ?_
 replace hst := hst.pull1
 replace hst := objO_some hst
 obtain ⟨t96, ht97, hm⟩ := bind_some hm
 refine wl_call ((wanted_eq z z z (cvb hc95)).trans z) z (x_call call24 z (vs := [v57]) z) ?_
 refine (lane_State_Epoch_ref hst.to1 ht97).mono ?_
 rintro _ w98 ⟨rfl, hst⟩
 refine ⟨_, z, ?_⟩
 replace hst := hst.of1
 replace hst := objO_get hst
 refine wv (.bool (t96 == (2:Int))) ((wanted_eq z z z (cvb hc95)).trans z) z z (wv (.bool (t96 == (2:Int))) z z (x_pick_t hc95 z z) (wv (.bool (t96 == (2:Int))) z z z ?_))
 refine bsplit (t96 == (2:Int)) (fun hc101 => ?_) (fun hc101 => ?_)
 {
 replace hm := bif_t hc101 hm
 refine wv (.bool true) z z (x_pick_t hc101 z z) (wv (.bool true) z z z (wl_nil (tn (wp_ret ?_))))
 obtain rfl := some_inj hm
 refine post_ret (vs := [.bool true]) results12 (rvs_cons (rv_tmp z) rvs_nil) ?_
 exact ⟨_, z, hI0, hst.keep0⟩
}
 {
 replace hm := bif_f hc101 hm
 refine wv (.bool false) z z (x_pick_f hc101 z z) (wv (.bool false) z z z (wl_nil (tn (wp_ret ?_))))
 obtain rfl := some_inj hm
 refine post_ret (vs := [.bool false]) results12 (rvs_cons (rv_tmp z) rvs_nil) ?_
 exact ⟨_, z, hI0, hst.keep0⟩
}
}
 {
 replace hm := bif_f hc95 hm
 refine wo hc95 z z z z z z (wo hc95 z z z z z z (wo hc95 z z z z z z (wv (.bool false) z z (x_pick_f hc95 z z) (wv (.bool false) z z z (wv (.bool false) z z (x_pick_f z z z) (wv (.bool false) z z z (wl_nil (tn (wp_ret ?_)))))))))
 obtain rfl := some_inj hm
 refine post_ret (vs := [.bool false]) results12 (rvs_cons (rv_tmp z) rvs_nil) ?_
 exact ⟨_, z, hI0, hst.keep0⟩
}
}

theorem ref16_New_ref {w0 w : World} {I : HL} {R : SP} {a0 : Int}  (hst : St w0 w I [] R) {r : (ref16_State)} (hm : ref16_New a0 = some r) :
  Calls prog 26 #[I6 a0] w fun e w' => ∃ (q0 : Value), e = .returned (q0) ∧ St w0 w' I [at_ref16_State q0 r] R := by {
 unfold ref16_New at hm
 refine calls_start (args := [I6 a0]) func26 z ntmps26 (Nat.le_of_ble_eq_true z) ?_
 refine wp_seq (wrl (wv (.pointer none) z z z (wl_nil (tn (wp_seq (wrl (wv (.int .i64 a0) z z z (wv (.agg #[I6 a0, U6 (1:Int), Zs, Zs, Zs, Zs, Zs, Zs, Zs]) z z (by kernel_rfl) ?_))))))))
 obtain ⟨b51, w52, ew53, eb54, hst⟩ := hst.box [I6 a0, U6 (1:Int), Zs, Zs, Zs, Zs, Zs, Zs, Zs] 130
 refine wl_run (v := Pt b51 0) (w' := w52) z z (x_al (by kernel_rfl) ew53 eb54) ?_
 refine wv (Pt b51 0) z z z (wl_nil (tn (wp_ret ?_)))
 have f56 : Ro ty_ref11_Version I (.slice none 0 0) [] := ro_nil
 have f57 : Ro ty_api_Hold I (.slice none 0 0) [] := ro_nil
 have f58 : Ro ty_ref11_Answer I (.slice none 0 0) [] := ro_nil
 have f59 : Ro ty_ref11_Line I (.slice none 0 0) [] := ro_nil
 replace hst := hst.own_nil ty_api_Decision
 replace hst := hst.own_nil ty_api_Item
 replace hst := hst.own_nil ty_ref16_Used
 replace hst := hst.pull1.pull2.pull3
 replace hst := at_ref16_State_close (pv := Pt b51 0) (x := ({ Wide := a0, Epoch := (1:Int), V := [], H := [], A := [], B := [], Open := [], Out := [], Used := [] } : ref16_State)) hst ⟨z, f56, f57, f58, f59⟩
 obtain rfl := some_inj hm
 refine post_ret (vs := [Pt b51 0]) results26 (rvs_cons (rv_tmp z) rvs_nil) ?_
 exact ⟨.pointer (some ⟨b51, 0, none⟩), z, hst.keep1⟩
}

theorem ref12_Tape_Next_ref {w0 w : World} {I : HL} {R : SP} {a0 : ref12_Tape} {p0 : Value} {a1 : Int}  (hst : St w0 w I [at_ref12_Tape p0 a0] R) {r : (Int × ref12_Tape)} (hm : ref12_Tape_Next a0 a1 = some r) :
  Calls prog 64 #[p0, I6 a1] w fun e w' => e = .returned (.int .i64 r.1) ∧ St w0 w' I [at_ref12_Tape p0 r.2] R := by {
 unfold ref12_Tape_Next at hm
 refine calls_start (args := [p0, I6 a1]) func64 z ntmps64 (Nat.le_of_ble_eq_true z) ?_
 refine wp_seq (wrl (wv (.int .i64 (0:Int)) z z z (wl_nil (tn (wp_seq (wp_seq ?_))))))
 obtain ⟨b61, v62, ⟨rfl, f64⟩, hst'⟩ := at_ref12_Tape_open hst
 clear hst
 have hst := hst'
 clear hst'
 refine wq_regionS hst Tryz.mixed (by kernel_rfl) ?_
 refine wq_run (v := Pt b61 0) z z (fun w hst => z) ?_
 refine wq_run (v := Pt b61 0) z z (fun w hst => z) ?_
 refine wq_run (v := Pt b61 1) z z (fun w hst => x_field z underlying74 z sizeOf3 z) ?_
 refine wq_run (v := .int .i64 a0.I) z z (fun w hst => x_load z isAgg3 (hst.bc0 z)) ?_
 refine wq_run (v := Pt b61 0) z z (fun w hst => z) ?_
 refine wq_run (v := Pt b61 0) z z (fun w hst => z) ?_
 refine wq_run (v := Pt b61 0) z z (fun w hst => x_field z underlying74 z sizeOf22 z) ?_
 refine wq_run (v := v62) z z (fun w hst => x_load z isAgg22 (hst.bc0 z)) ?_
 refine wq_run (v := .int .i64 ((a0.L).length : Int)) z z (fun w hst => x_len z underlying22 (ro_sliceV f64)) ?_
 refine wq_run (v := .bool (decide (a0.I ≥ ((a0.L).length : Int)))) z z (fun w hst => z) ?_
 refine wq_nil ?_
 intro w hst
 refine tn ?_
 refine bsplit (decide (a0.I ≥ ((a0.L).length : Int))) (fun hc65 => ?_) (fun hc65 => ?_)
 {
 replace hm := bif_t hc65 hm
 refine wp_ift (cvb hc65) ?_
 refine wp_seq (wrl (wv (.int .i64 (0:Int)) z z z (wl_nil (tn (wp_ret (then_r ?_))))))
 replace hst := at_ref12_Tape_close (pv := Pt b61 0) (x := a0) hst ⟨z, f64⟩
 obtain rfl := some_inj hm
 refine post_ret (vs := [Zi]) results64 (rvs_cons (rv_tmp z) rvs_nil) ?_
 exact ⟨z, hst.keep1⟩
}
 {
 replace hm := bif_f hc65 hm
 refine wp_iff (cvb hc65) ?_
 refine wp_skip (tn (wp_seq (wrl ?_)))
 refine wv (Pt b61 0) z z z (wv (Pt b61 0) z z z (wv (Pt b61 1) z z (x_field z underlying74 z sizeOf3 z) (wv (.int .i64 a0.I) z z (x_load z isAgg3 (hst.bc0 z)) (wv (.int .i64 (i64.wrap (a0.I + (1:Int)))) z z z (wv (Pt b61 0) z z z (wv (Pt b61 1) z z (x_field z underlying74 z sizeOf3 z) ?_))))))
 obtain ⟨w66, hr67, hst⟩ := hst.by_ [v62, I6 (i64.wrap (a0.I + (1:Int)))] 1 (.int .i64 (i64.wrap (a0.I + (1:Int)))) sizeOf3 z (oC z oN) (by kernel_rfl)
 refine wl_unit z z (x_unit hr67) ?_
 refine wl_nil (tn (wp_seq ?_))
 refine wq_regionS hst Tryz.mixed (by kernel_rfl) ?_
 refine wq_run (v := Pt b61 0) z z (fun w hst => z) ?_
 refine wq_run (v := Pt b61 0) z z (fun w hst => z) ?_
 refine wq_run (v := Pt b61 0) z z (fun w hst => x_field z underlying74 z sizeOf22 z) ?_
 refine wq_run (v := v62) z z (fun w hst => x_load z isAgg22 (hst.bc0 z)) ?_
 refine wq_run (v := Pt b61 0) z z (fun w hst => z) ?_
 refine wq_run (v := Pt b61 0) z z (fun w hst => z) ?_
 refine wq_run (v := Pt b61 1) z z (fun w hst => x_field z underlying74 z sizeOf3 z) ?_
 refine wq_run (v := .int .i64 (i64.wrap (a0.I + (1:Int)))) z z (fun w hst => x_load z isAgg3 (hst.bc0 z)) ?_
 refine wq_run (v := .int .i64 (i64.wrap ((i64.wrap (a0.I + (1:Int))) - (1:Int)))) z z (fun w hst => z) ?_
 obtain ⟨x68, hx69, hm⟩ := bind_some hm
 obtain ⟨h70, h71, hi72⟩ := geto_some hx69
 refine wq_run (v := .pointer (some (eAddr v62 ((i64.wrap ((i64.wrap (a0.I + (1:Int))) - (1:Int))).toNat * 1 + 0)))) z z (fun w hst => x_index z z underlying22 sizeOf5 (ro_sliceV f64) h70 h71) ?_
 refine wq_run (v := .int .u8 x68) z z (fun w hst => x_load z isAgg5 (ro_load f64 hst hi72 (by rintro _ rfl; rfl))) ?_
 refine wq_run (v := .int .i64 (i64.wrap x68)) z z (fun w hst => by kernel_rfl) ?_
 refine wq_run (v := .int .i64 a1) z z (fun w hst => z) ?_
 obtain ⟨hg73, hm⟩ := gd_some hm
 refine wq_run (v := .int .i64 (Int.tmod (i64.wrap x68) a1)) z z (fun w hst => x_rem (not_t hg73) z z) ?_
 refine wq_run (v := .int .i64 (Int.tmod (i64.wrap x68) a1)) z z (fun w hst => z) ?_
 refine wq_nil ?_
 intro w hst
 refine tn (wp_ret ?_)
 replace hst := at_ref12_Tape_close (pv := Pt b61 0) (x := ({ L := a0.L, I := (i64.wrap (a0.I + (1:Int))) } : ref12_Tape)) hst ⟨z, f64⟩
 obtain rfl := some_inj hm
 refine post_ret (vs := [I6 (Int.tmod (i64.wrap x68) a1)]) results64 (rvs_cons (rv_tmp z) rvs_nil) ?_
 exact ⟨z, hst.keep1⟩
}
}

theorem ref12_Tape_Of_ref {w0 w : World} {I : HL} {R : SP} {a0 : ref12_Tape} {p0 : Value}  (hst : St w0 w I [at_ref12_Tape p0 a0] R) {r : (api_ID × ref12_Tape)} (hm : ref12_Tape_Of a0 = some r) :
  Calls prog 27 #[p0] w fun e w' => e = .returned (.agg #[U6 r.1.Session, U6 r.1.Seq]) ∧ St w0 w' I [at_ref12_Tape p0 r.2] R := by {
 unfold ref12_Tape_Of at hm
 refine calls_start (args := [p0]) func27 z ntmps27 (Nat.le_of_ble_eq_true z) ?_
 refine wp_seq (wrl ?_)
 obtain ⟨b59, w60, ew61, eb62, hst⟩ := hst.box [Zu, Zu] 28
 refine wl_run (v := Pt b59 0) (w' := w60) z z (x_al (by kernel_rfl) ew61 eb62) ?_
 refine wl_nil (tn (wp_seq (wrl (wv (p0) z z z ?_))))
 replace hst := hst.pull1
 obtain ⟨t64, ht65, hm⟩ := bind_some hm
 refine wc call64 [p0, I6 (4:Int)] z z z ?_
 refine (ref12_Tape_Next_ref hst.to1 ht65).mono ?_
 rintro _ w66 ⟨rfl, hst⟩
 refine ⟨_, z, ?_⟩
 replace hst := hst.of1
 refine wv (.int .u64 (u64.wrap t64.1)) z z (by kernel_rfl) (wv (p0) z z z ?_)
 obtain ⟨t69, ht70, hm⟩ := bind_some hm
 refine wc call64 [p0, I6 (4:Int)] z z z ?_
 refine (ref12_Tape_Next_ref hst.to1 ht70).mono ?_
 rintro _ w71 ⟨rfl, hst⟩
 refine ⟨_, z, ?_⟩
 replace hst := hst.of1
 refine wv (.int .i64 (i64.wrap ((1:Int) + t69.1))) z z z (wv (.int .u64 (u64.wrap (i64.wrap ((1:Int) + t69.1)))) z z (by kernel_rfl) (wv (.agg #[U6 (u64.wrap t64.1), U6 (u64.wrap (i64.wrap ((1:Int) + t69.1)))]) z z (by kernel_rfl) ?_))
 replace hst := hst.pull1
 obtain ⟨w74, hr75, hst⟩ := hst.bx [U6 (u64.wrap t64.1), U6 (u64.wrap (i64.wrap ((1:Int) + t69.1)))] sizeOf28 z (oC z (oC z oN)) (by kernel_rfl)
 refine wl_unit z z (x_unit hr75) ?_
 refine wl_nil (tn (wp_ret ?_))
 obtain rfl := some_inj hm
 refine post_ret (vs := [.agg #[U6 (u64.wrap t64.1), U6 (u64.wrap (i64.wrap ((1:Int) + t69.1)))]]) results27 (rvs_cons (rv_cell (cs := [U6 (u64.wrap t64.1), U6 (u64.wrap (i64.wrap ((1:Int) + t69.1)))]) z isAgg28 sizeOf28 (hst.bcs0 0 z)) rvs_nil) ?_
 replace hst := hst.pull1
 exact ⟨z, hst.keep1⟩
}

theorem ref12_small_ref {w0 w : World} {I : HL} {R : SP} {a0 : Int}  (hst : St w0 w I [] R) {r : (Nat)} (hm : ref12_small a0 = some r) :
  Calls prog 65 #[U1 a0] w fun e w' => e = .returned (.float .f64 r) ∧ St w0 w' I [] R := by {
 unfold ref12_small at hm
 refine calls_start (args := [U1 a0]) func65 z ntmps65 (Nat.le_of_ble_eq_true z) ?_
 refine wp_seq (wrl (wv (.float .f64 (0:Nat)) z z z (wl_nil (tn (wp_seq (wrl ?_))))))
 obtain ⟨b68, w69, ew70, eb71, hst⟩ := hst.lits (E := tyF64) (xs := [(0:Nat), (4607182418800017408:Nat), (13830554455654793216:Nat), (4612811918334230528:Nat), (9094988921128908188:Nat), (18318360957983683996:Nat), (4602678819172646912:Nat), (4613937818241073152:Nat)]) [[Zf], [F6 (4607182418800017408:Nat)], [F6 (13830554455654793216:Nat)], [F6 (4612811918334230528:Nat)], [F6 (9094988921128908188:Nat)], [F6 (18318360957983683996:Nat)], [F6 (4602678819172646912:Nat)], [F6 (4613937818241073152:Nat)]] 37 8 z (Reps.cons z (Reps.cons z (Reps.cons z (Reps.cons z (Reps.cons z (Reps.cons z (Reps.cons z (Reps.cons z Reps.nil))))))))
 refine wl_run (v := (.slice (some ⟨b68, 0, none⟩) 8 8)) (w' := w69) z z (x_als (by kernel_rfl) ew70 eb71) ?_
 refine wv ((.slice (some ⟨b68, 0, none⟩) 8 8)) z z z (wl_nil (tn (wp_seq (wrl (wv ((.slice (some ⟨b68, 0, none⟩) 8 8)) z z z (wv (.int .u8 a0) z z z (wv (.int .u8 (Int.tmod a0 (8:Int))) z z (x_rem (by decide) z z) ?_)))))))
 obtain ⟨x73, hx74, hm⟩ := bind_some hm
 obtain ⟨h75, h76, hi77⟩ := geto_some hx74
 refine wv (.pointer (some (eAddr (.slice (some ⟨b68, 0, none⟩) 8 8) ((Int.tmod a0 (8:Int)).toNat * 1 + 0)))) z z (x_index z z underlying43 sizeOf37 hst.sv0 h75 h76) (wv (.float .f64 x73) z z (x_load z isAgg37 (hst.ol0 hi77 (by rintro _ rfl; rfl))) (wv (.float .f64 x73) z z z (wl_nil (tn (wp_ret ?_)))))
 obtain rfl := some_inj hm
 refine post_ret (vs := [F6 x73]) results65 (rvs_cons (rv_tmp z) rvs_nil) ?_
 exact ⟨z, hst.keep0⟩
}

theorem ref12_Tape_Float_ref {w0 w : World} {I : HL} {R : SP} {a0 : ref12_Tape} {p0 : Value}  (hst : St w0 w I [at_ref12_Tape p0 a0] R) {r : (Nat × ref12_Tape)} (hm : ref12_Tape_Float a0 = some r) :
  Calls prog 28 #[p0] w fun e w' => e = .returned (.float .f64 r.1) ∧ St w0 w' I [at_ref12_Tape p0 r.2] R := by {
 unfold ref12_Tape_Float at hm
 refine calls_start (args := [p0]) func28 z ntmps28 (Nat.le_of_ble_eq_true z) ?_
 refine wp_seq (wrl (wv (.float .f64 (0:Nat)) z z z (wl_nil (tn (wp_seq (wrl (wv (p0) z z z ?_)))))))
 obtain ⟨t64, ht65, hm⟩ := bind_some hm
 refine wc call64 [p0, I6 (8:Int)] z z z ?_
 refine (ref12_Tape_Next_ref hst.to1 ht65).mono ?_
 rintro _ w66 ⟨rfl, hst⟩
 refine ⟨_, z, ?_⟩
 replace hst := hst.of1
 refine wv (.int .u8 (u8.wrap t64.1)) z z (by kernel_rfl) ?_
 obtain ⟨t69, ht70, hm⟩ := bind_some hm
 refine wc call65 [U1 (u8.wrap t64.1)] z z z ?_
 refine (ref12_small_ref hst.to0 ht70).mono ?_
 rintro _ w71 ⟨rfl, hst⟩
 refine ⟨_, z, ?_⟩
 replace hst := hst.of0
 refine wv (.float .f64 t69) z z z (wl_nil (tn (wp_ret ?_)))
 obtain rfl := some_inj hm
 refine post_ret (vs := [F6 t69]) results28 (rvs_cons (rv_tmp z) rvs_nil) ?_
 exact ⟨z, hst.keep1⟩
}

theorem ref12_Tape_Val_ref {w0 w : World} {I : HL} {R : SP} {a0 : ref12_Tape} {p0 : Value}  (hst : St w0 w I [at_ref12_Tape p0 a0] R) {r : ((List Int) × ref12_Tape)} (hm : ref12_Tape_Val a0 = some r) :
  Calls prog 66 #[p0] w fun e w' => ∃ (q0_0 : Value), e = .returned (q0_0) ∧ St w0 w' I [ownS (tyInt .u8) q0_0 r.1, at_ref12_Tape p0 r.2] R := by {
 unfold ref12_Tape_Val at hm
 refine calls_start (args := [p0]) func66 z ntmps66 (Nat.le_of_ble_eq_true z) ?_
 refine wp_seq (wrl (wv ((.slice none 0 0)) z z z (wl_nil (tn (wp_seq (wrl (wv ((.slice none 0 0)) z z z (wl_nil (tn (wp_seq (wrl (wv (p0) z z z ?_))))))))))))
 obtain ⟨t291, ht292, hm⟩ := bind_some hm
 refine wc call64 [p0, I6 (4:Int)] z z z ?_
 refine (ref12_Tape_Next_ref hst.to1 ht292).mono ?_
 rintro _ w293 ⟨rfl, hst⟩
 refine ⟨_, z, ?_⟩
 replace hst := hst.of1
 refine wv (.int .i64 t291.1) z z z (wl_nil (tn (wp_seq (wp_seq (wrl (wv (.int .i64 (0:Int)) z z z (wl_nil (tn (wp_block ?_)))))))))
 replace hst := hst.own_nil (tyInt .u8)
 obtain ⟨n355, hm⟩ := loopO_some hm
 refine wp_loop_n (fun n a w => ∃ (z349 : ref12_Tape) (z350 : (List Int)) (z353 : Int) (v351 : Value) (σ354 : Nat → Value), loopN (ref12_Tape_Val_l0 t291) n (z349, z350, z353) = some r ∧ a = Fr 21 (upd (upd (upd (upd σ354 0 (p0)) 3 (v351)) 4 (.int .i64 t291.1)) 5 (.int .i64 z353)) ∧ St w0 w I [ownS (tyInt .u8) v351 z350, at_ref12_Tape p0 z349] R) n355 ⟨t291.2, [], (0:Int), Zs, _, hm, (fu 0 p0 z (fu 3 (.slice none 0 0) z (fu 4 (.int .i64 t291.1) z (fu 5 (.int .i64 (0:Int)) z z)))), hst⟩ ?_
 rintro n361 _ w356 ⟨z349, z350, z353, v351, σ354, hm, rfl, hst⟩
 obtain ⟨n358, y359, rfl, hm, hx360⟩ := loopN_some hm
 dsimp only [ref12_Tape_Val_l0] at hm
 refine wp_seq (wp_seq (wrl (wv (.int .i64 z353) z z z (wv (.int .i64 t291.1) z z z (wv (.bool (decide (z353 < t291.1))) z z z (wl_nil (tn ?_)))))))
 refine bsplit (decide (z353 < t291.1)) (fun hc362 => ?_) (fun hc362 => ?_)
 {
 replace hm := bif_t hc362 hm
 refine wp_ift (cvb hc362) ?_
 refine wp_skip (tn (wp_seq (wp_block (wrl ?_))))
 refine wv (v351) z z z (wv (p0) z z z ?_)
 replace hst := hst.pull1
 obtain ⟨t363, ht364, hm⟩ := bind_some hm
 refine wc call64 [p0, I6 (26:Int)] z z z ?_
 refine (ref12_Tape_Next_ref hst.to1 ht364).mono ?_
 rintro _ w365 ⟨rfl, hst⟩
 refine ⟨_, z, ?_⟩
 replace hst := hst.of1
 refine wv (.int .i64 (i64.wrap ((97:Int) + t363.1))) z z z (wv (.int .u8 (u8.wrap (i64.wrap ((97:Int) + t363.1)))) z z (by kernel_rfl) ?_)
 obtain ⟨b368, w369, ew370, eb371, hst⟩ := hst.lits (E := (tyInt .u8)) (xs := [(u8.wrap (i64.wrap ((97:Int) + t363.1)))]) [[U1 (u8.wrap (i64.wrap ((97:Int) + t363.1)))]] 5 1 z (Reps.cons z Reps.nil)
 refine wl_run (v := (.slice (some ⟨b368, 0, none⟩) 1 1)) (w' := w369) z z (x_als (by kernel_rfl) ew370 eb371) ?_
 obtain ⟨hg373, hm⟩ := gd_some hm
 replace hst := hst.pull2
 obtain ⟨v374, w375, hr376, hst⟩ := run_append elem_22 underlying22 hst hst.src1 (room_of hg373 z) 22
 refine wl_run (v := v374) (w' := w375) z z (x_append z z hr376) ?_
 refine wv (v374) z z z (wl_nil (blk_n (tn (wrl (wv (.int .i64 z353) z z z (wv (.int .i64 (i64.wrap (z353 + (1:Int)))) z z z (wv (.int .i64 (i64.wrap (z353 + (1:Int)))) z z z (wl_nil (tn ?_)))))))))
 replace hst := hst.pull2.pull1.keep2
 obtain rfl := some_inj hm
 exact ⟨_, Nat.lt_succ_self _, t363.2, (z350 ++ ([(u8.wrap (i64.wrap ((97:Int) + t363.1)))])), (i64.wrap (z353 + (1:Int))), v374, _, hx360, (fu 0 p0 z (fu 3 v374 z (fu 4 (.int .i64 t291.1) z (fu 5 (.int .i64 (i64.wrap (z353 + (1:Int)))) z z)))), hst⟩
}
 {
 replace hm := bif_f hc362 hm
 refine wp_iff (cvb hc362) ?_
 refine wp_exit (then_x (then_x ?_))
 replace hm := inr_up hm hx360
 refine blk_x (tn (wp_seq (wrl ?_)))
 refine wv (v351) z z z (wv (v351) z z z (wl_nil (tn (wp_ret ?_))))
 obtain rfl := some_inj hm
 refine post_ret (vs := [v351]) results66 (rvs_cons (rv_tmp z) rvs_nil) ?_
 replace hst := hst.pull1.pull1
 exact ⟨v351, z, hst.keep2⟩
}
}

theorem ref13_OfWrites_ref {w0 w : World} {I : HL} {R : SP} {a0 : ref12_Tape} {p0 : Value}  (hst : St w0 w I [at_ref12_Tape p0 a0] R) {r : ((List api_Write) × ref12_Tape)} (hm : ref13_OfWrites a0 = some r) :
  Calls prog 29 #[p0] w fun e w' => ∃ (I' : HL) (q0_0 : Value), e = .returned (q0_0) ∧ I.le I' ∧ St w0 w' I' [ownS ty_api_Write q0_0 r.1, at_ref12_Tape p0 r.2] R := by {
 unfold ref13_OfWrites at hm
 refine calls_start (args := [p0]) func29 z ntmps29 (Nat.le_of_ble_eq_true z) ?_
 have hI0 := HL.le.refl I
 refine wp_seq (wrl (wv ((.slice none 0 0)) z z z (wl_nil (tn (wp_seq (wrl (wv ((.slice none 0 0)) z z z (wl_nil (tn (wp_seq (wrl (wv (p0) z z z ?_))))))))))))
 obtain ⟨t411, ht412, hm⟩ := bind_some hm
 refine wc call64 [p0, I6 (3:Int)] z z z ?_
 refine (ref12_Tape_Next_ref hst.to1 ht412).mono ?_
 rintro _ w413 ⟨rfl, hst⟩
 refine ⟨_, z, ?_⟩
 replace hst := hst.of1
 refine wv (.int .i64 t411.1) z z z (wl_nil (tn (wp_seq (wp_seq (wrl (wv (.int .i64 (0:Int)) z z z (wl_nil (tn (wp_block ?_)))))))))
 replace hst := hst.own_nil ty_api_Write
 obtain ⟨n587, hm⟩ := loopO_some hm
 refine wp_loop_n (fun n a w => ∃ (I585 : HL) (z580 : ref12_Tape) (z581 : (List api_Write)) (z584 : Int) (v582 : Value) (σ586 : Nat → Value), loopN (ref13_OfWrites_l0 t411) n (z580, z581, z584) = some r ∧ a = Fr 31 (upd (upd (upd (upd σ586 0 (p0)) 3 (v582)) 4 (.int .i64 t411.1)) 5 (.int .i64 z584)) ∧ I.le I585 ∧ St w0 w I585 [ownS ty_api_Write v582 z581, at_ref12_Tape p0 z580] R) n587 ⟨_, t411.2, [], (0:Int), Zs, _, hm, (fu 0 p0 z (fu 3 (.slice none 0 0) z (fu 4 (.int .i64 t411.1) z (fu 5 (.int .i64 (0:Int)) z z)))), (HL.le.refl _), hst⟩ ?_
 rintro n593 _ w588 ⟨I585, z580, z581, z584, v582, σ586, hm, rfl, hL589, hst⟩
 obtain ⟨n590, y591, rfl, hm, hx592⟩ := loopN_some hm
 dsimp only [ref13_OfWrites_l0] at hm
 replace hI0 := hI0.trans hL589
 refine wp_seq (wp_seq (wrl (wv (.int .i64 z584) z z z (wv (.int .i64 t411.1) z z z (wv (.bool (decide (z584 < t411.1))) z z z (wl_nil (tn ?_)))))))
 refine bsplit (decide (z584 < t411.1)) (fun hc594 => ?_) (fun hc594 => ?_)
 {
 replace hm := bif_t hc594 hm
 refine wp_ift (cvb hc594) ?_
 refine wp_skip (tn (wp_seq (wp_block (wp_seq (wrl ?_)))))
 refine wv (p0) z z z ?_
 replace hst := hst.pull1
 obtain ⟨t595, ht596, hm⟩ := bind_some hm
 refine wc call28 [p0] z z z ?_
 refine (ref12_Tape_Float_ref hst.to1 ht596).mono ?_
 rintro _ w597 ⟨rfl, hst⟩
 refine ⟨_, z, ?_⟩
 replace hst := hst.of1
 refine wv (p0) z z z ?_
 obtain ⟨t600, ht601, hm⟩ := bind_some hm
 refine wc call64 [p0, I6 (4:Int)] z z z ?_
 refine (ref12_Tape_Next_ref hst.to1 ht601).mono ?_
 rintro _ w602 ⟨rfl, hst⟩
 refine ⟨_, z, ?_⟩
 replace hst := hst.of1
 refine wv (.bool (t600.1 == (0:Int))) z z z (wv (.agg #[F6 t595.1, .bool (t600.1 == (0:Int)), Zs]) z z (by kernel_rfl) ?_)
 obtain ⟨b607, w608, ew609, eb610, hst⟩ := hst.box [Zf, .bool false, Zs] 41
 refine wl_run (v := Pt b607 0) (w' := w608) z z (x_al (by kernel_rfl) ew609 eb610) ?_
 obtain ⟨w612, hr613, hst⟩ := hst.bx [F6 t595.1, .bool (t600.1 == (0:Int)), Zs] sizeOf41 z (oC z (oC z (oC z oN))) (by kernel_rfl)
 refine wl_unit z z (x_unit hr613) ?_
 refine wl_nil (tn ?_)
 obtain ⟨y630, hm, hx631⟩ := bind_some hm
 refine wp_cut (fun a w => ∃ (z624 : ref12_Tape) (z627 : (List Int)) (v626 : Value) (σ628 : Nat → Value), (ref13_OfWrites_j1 z581 t595 t600 z584) (z624, z627) = some y591 ∧ a = Fr 31 (upd (upd (upd (upd (upd σ628 0 (p0)) 3 (v582)) 4 (.int .i64 t411.1)) 5 (.int .i64 z584)) 6 (Pt b607 0)) ∧ St w0 w I585 [at_ref12_Tape p0 z624, ownS ty_api_Write v582 z581, cells b607 [F6 t595.1, .bool (t600.1 == (0:Int)), v626], ownS (tyInt .u8) v626 z627] R) ?_ ?_
 {
 refine wp_seq (wrl (wv (Pt b607 1) z z (x_field z underlying41 z sizeOf4 z) (wv (.bool (t600.1 == (0:Int))) z z (x_load z isAgg4 (hst.bc0 z)) (wv (.bool (!(t600.1 == (0:Int)))) z z z (wl_nil (tn ?_))))))
 refine bsplit (!(t600.1 == (0:Int))) (fun hc614 => ?_) (fun hc614 => ?_)
 {
 replace hm := bif_t hc614 hm
 refine wp_ift (cvb hc614) ?_
 refine wrl (wv (p0) z z z ?_)
 replace hst := hst.pull1
 obtain ⟨t615, ht616, hm⟩ := bind_some hm
 refine wc call66 [p0] z z z ?_
 refine (ref12_Tape_Val_ref hst.to1 ht616).mono ?_
 rintro _ w617 ⟨v620, rfl, hst⟩
 refine ⟨_, z, ?_⟩
 replace hst := hst.of2
 refine wv (Pt b607 2) z z (x_field z underlying41 z sizeOf22 z) ?_
 replace hst := hst.pull2
 obtain ⟨w622, hr623, hst⟩ := hst.boxStore1 (P := prog) (t := 22) (cs' := [F6 t595.1, .bool (t600.1 == (0:Int)), v620]) 2 v620 (one_of_sliceV hst.sv1) sizeOf22 z z
 refine wl_unit z z (x_unit hr623) ?_
 refine wl_nil (tn ?_)
 replace hst := hst.pull1.pull1.pull3.pull3.keep4
 obtain rfl := some_inj hm
 exact ⟨t615.2, t615.1, v620, _, hx631, (fu 0 p0 z (fu 3 v582 z (fu 4 (.int .i64 t411.1) z (fu 5 (.int .i64 z584) z (fu 6 (Pt b607 0) z z))))), hst⟩
}
 {
 replace hm := bif_f hc614 hm
 refine wp_iff (cvb hc614) ?_
 refine wp_skip (tn ?_)
 replace hst := hst.own_nil (tyInt .u8)
 replace hst := hst.pull1.pull3.pull3.keep4
 obtain rfl := some_inj hm
 exact ⟨t600.2, ([]), Zs, _, hx631, (fu 0 p0 z (fu 3 v582 z (fu 4 (.int .i64 t411.1) z (fu 5 (.int .i64 z584) z (fu 6 (Pt b607 0) z z))))), hst⟩
}
}
 {
 clear hst
 rintro _ w632 ⟨z624, z627, v626, σ628, hm, rfl, hst⟩
 dsimp only [ref13_OfWrites_j1] at hm
 refine wrl (wv (v582) z z z (wv (.agg #[F6 t595.1, .bool (t600.1 == (0:Int)), v626]) z z (x_loadN (cs := [F6 t595.1, .bool (t600.1 == (0:Int)), v626]) z isAgg41 sizeOf41 (hst.bcs2 0 z)) ?_))
 replace hst := hst.pull3
 obtain ⟨I634, hI635, f636, hst⟩ := hst.own_fix
 replace hI0 := hI0.trans hI635
 replace hL589 := hL589.trans hI635
 obtain ⟨b637, w638, ew639, eb640, hst⟩ := hst.lits (E := ty_api_Write) (xs := [({ At := t595.1, Del := (t600.1 == (0:Int)), Val := z627 } : api_Write)]) [[F6 t595.1, .bool (t600.1 == (0:Int)), v626]] 41 1 z (Reps.cons ⟨_, z, f636, one_of_sliceV (ro_sliceV f636)⟩ Reps.nil)
 refine wl_run (v := (.slice (some ⟨b637, 0, none⟩) 1 1)) (w' := w638) z z (x_als (by kernel_rfl) ew639 eb640) ?_
 obtain ⟨hg642, hm⟩ := gd_some hm
 replace hst := hst.pull2
 obtain ⟨v643, w644, hr645, hst⟩ := run_append elem_42 underlying42 hst hst.src1 (room_of hg642 z) 42
 refine wl_run (v := v643) (w' := w644) z z (x_append z z hr645) ?_
 refine wv (v643) z z z (wl_nil (blk_n (tn (wrl (wv (.int .i64 z584) z z z (wv (.int .i64 (i64.wrap (z584 + (1:Int)))) z z z (wv (.int .i64 (i64.wrap (z584 + (1:Int)))) z z z (wl_nil (tn ?_)))))))))
 replace hst := hst.pull2.pull1.keep2
 obtain rfl := some_inj hm
 exact ⟨_, Nat.lt_succ_self _, _, z624, (z581 ++ ([({ At := t595.1, Del := (t600.1 == (0:Int)), Val := z627 } : api_Write)])), (i64.wrap (z584 + (1:Int))), v643, _, hx592, (fu 0 p0 z (fu 3 v643 z (fu 4 (.int .i64 t411.1) z (fu 5 (.int .i64 (i64.wrap (z584 + (1:Int)))) z z)))), hL589, hst⟩
}
}
 {
 replace hm := bif_f hc594 hm
 refine wp_iff (cvb hc594) ?_
 refine wp_exit (then_x (then_x ?_))
 replace hm := inr_up hm hx592
 refine blk_x (tn (wp_seq (wrl ?_)))
 refine wv (v582) z z z (wv (v582) z z z (wl_nil (tn (wp_ret ?_))))
 obtain rfl := some_inj hm
 refine post_ret (vs := [v582]) results29 (rvs_cons (rv_tmp z) rvs_nil) ?_
 replace hst := hst.pull1.pull1
 exact ⟨_, v582, z, hI0, hst.keep2⟩
}
}

theorem ref16_State_May_ref {w0 w : World} {I : HL} {R : SP} {a0 : ref16_State} {p0 : Value}  (hst : St w0 w I [at_ref16_State p0 a0] R) {r : (Bool)} (hm : ref16_State_May a0 = some r) :
  Calls prog 67 #[p0] w fun e w' => e = .returned (.bool r) ∧ St w0 w' I [at_ref16_State p0 a0] R := by {
 unfold ref16_State_May at hm
 refine calls_start (args := [p0]) func67 z ntmps67 (Nat.le_of_ble_eq_true z) ?_
 refine wp_seq (wrl (wv (.bool false) z z z (wl_nil (tn (wp_seq (wp_seq (wrl (wv (.int .i64 (0:Int)) z z z (wl_nil (tn (wp_block ?_)))))))))))
 obtain ⟨n504, hm⟩ := loopO_some hm
 refine wp_loop_n (fun n a w => ∃ (z502 : Int) (σ503 : Nat → Value), loopN (ref16_State_May_l0 a0) n z502 = some r ∧ a = Fr 26 (upd (upd σ503 0 (p0)) 3 (.int .i64 z502)) ∧ St w0 w I [at_ref16_State p0 a0] R) n504 ⟨(0:Int), _, hm, (fu 0 p0 z (fu 3 (.int .i64 (0:Int)) z z)), hst⟩ ?_
 rintro n510 _ w505 ⟨z502, σ503, hm, rfl, hst⟩
 obtain ⟨n507, y508, rfl, hm, hx509⟩ := loopN_some hm
 dsimp only [ref16_State_May_l0] at hm
 refine wp_seq (wp_seq (wrl (wv (.int .i64 z502) z z z (wv (p0) z z z ?_))))
 obtain ⟨b511, v512, v515, v518, v521, v524, v526, v528, ⟨rfl, f514, f517, f520, f523⟩, hst'⟩ := at_ref16_State_open hst
 clear hst
 have hst := hst'
 clear hst'
 refine wv (Pt b511 0) z z z (wv (Pt b511 3) z z (x_field z underlying130 z sizeOf125 z) (wv (v515) z z (x_load z isAgg125 (hst.bc0 z)) (wv (.int .i64 ((a0.H).length : Int)) z z (x_len z underlying125 (ro_sliceV f517)) (wv (.bool (decide (z502 < ((a0.H).length : Int)))) z z z (wl_nil (tn ?_))))))
 refine bsplit (decide (z502 < ((a0.H).length : Int))) (fun hc530 => ?_) (fun hc530 => ?_)
 {
 replace hm := bif_t hc530 hm
 refine wp_ift (cvb hc530) ?_
 refine wp_skip (tn (wp_seq (wp_block (wp_seq ?_))))
 refine wq_regionS hst Tryz.mixed (by kernel_rfl) ?_
 refine wq_run (v := Pt b511 0) z z (fun w hst => z) ?_
 refine wq_run (v := Pt b511 0) z z (fun w hst => z) ?_
 refine wq_run (v := Pt b511 3) z z (fun w hst => x_field z underlying130 z sizeOf125 z) ?_
 refine wq_run (v := v515) z z (fun w hst => x_load z isAgg125 (hst.bc0 z)) ?_
 refine wq_run (v := .int .i64 z502) z z (fun w hst => z) ?_
 obtain ⟨x531, hx532, hm⟩ := bind_some hm
 obtain ⟨h533, h534, hi535⟩ := geto_some hx532
 refine wq_run (v := .pointer (some (eAddr v515 (z502.toNat * 7 + 0)))) z z (fun w hst => x_index z z underlying125 sizeOf46 (ro_sliceV f517) h533 h534) ?_
 refine wq_run (v := .pointer (some (eAddr v515 (z502.toNat * 7 + 2)))) z z (fun w hst => x_field_e z underlying46 z sizeOf26 z) ?_
 obtain ⟨cs536, hr537, hc538⟩ := Ro.getF f517 hi535
 obtain ⟨v539, v542, v545, v548, rfl, f540, f543, f546, f549, -⟩ := hr537
 refine wq_run (v := .int .u64 x531.Epoch) z z (fun w hst => x_load z isAgg26 ((hc538 (HL.le.refl _) hst) 2 _ z)) ?_
 refine wq_run (v := Pt b511 0) z z (fun w hst => z) ?_
 refine wq_run (v := Pt b511 0) z z (fun w hst => z) ?_
 refine wq_run (v := Pt b511 1) z z (fun w hst => x_field z underlying130 z sizeOf26 z) ?_
 refine wq_run (v := .int .u64 a0.Epoch) z z (fun w hst => x_load z isAgg26 (hst.bc0 z)) ?_
 refine wq_run (v := .bool (decide (x531.Epoch ≤ a0.Epoch))) z z (fun w hst => z) ?_
 refine wq_nil ?_
 intro w hst
 refine tn ?_
 refine bsplit (decide (x531.Epoch ≤ a0.Epoch)) (fun hc551 => ?_) (fun hc551 => ?_)
 {
 replace hm := bif_t hc551 hm
 refine wp_ift (cvb hc551) ?_
 refine wp_seq (wrl (wv (.bool false) z z z (wl_nil (tn (wp_ret (blk_r (then_r (then_r ?_))))))))
 replace hm := inr_up hm hx509
 refine blk_r (then_r ?_)
 replace hst := hst.pull3.pull3.pull3.pull3
 replace hst := at_ref16_State_close (pv := Pt b511 0) (x := a0) hst ⟨z, f514, f517, f520, f523⟩
 obtain rfl := some_inj hm
 refine post_ret (vs := [.bool false]) results67 (rvs_cons (rv_tmp z) rvs_nil) ?_
 exact ⟨z, hst.keep1⟩
}
 {
 replace hm := bif_f hc551 hm
 refine wp_iff (cvb hc551) ?_
 refine wp_skip (blk_n (tn (wrl ?_)))
 refine wv (.int .i64 z502) z z z (wv (.int .i64 (i64.wrap (z502 + (1:Int)))) z z z (wv (.int .i64 (i64.wrap (z502 + (1:Int)))) z z z (wl_nil (tn ?_))))
 replace hst := hst.pull3.pull3.pull3.pull3
 replace hst := at_ref16_State_close (pv := Pt b511 0) (x := a0) hst ⟨z, f514, f517, f520, f523⟩
 replace hst := hst.keep1
 obtain rfl := some_inj hm
 exact ⟨_, Nat.lt_succ_self _, (i64.wrap (z502 + (1:Int))), _, hx509, (fu 0 (Pt b511 0) z (fu 3 (.int .i64 (i64.wrap (z502 + (1:Int)))) z z)), hst⟩
}
}
 {
 replace hm := bif_f hc530 hm
 refine wp_iff (cvb hc530) ?_
 refine wp_exit (then_x (then_x ?_))
 replace hm := inr_up hm hx509
 refine blk_x (tn (wp_seq (wrl ?_)))
 refine wv (.bool true) z z z (wl_nil (tn (wp_ret ?_)))
 replace hst := hst.pull3.pull3.pull3.pull3
 replace hst := at_ref16_State_close (pv := Pt b511 0) (x := a0) hst ⟨z, f514, f517, f520, f523⟩
 obtain rfl := some_inj hm
 refine post_ret (vs := [.bool true]) results67 (rvs_cons (rv_tmp z) rvs_nil) ?_
 exact ⟨z, hst.keep1⟩
}
}

end Go.Proofs.YtgnkkopjkgdieaaGreat
