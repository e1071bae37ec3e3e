/- The Go functions refine their models, part 2. -/
import Derived.Test.YtddhkbholbcebaaLabelKeepsR1
set_option linter.unusedVariables false
set_option linter.unusedSimpArgs false
set_option maxRecDepth 100000
set_option maxHeartbeats 4000000
namespace Go.Proofs.Ytddhkbholbcebaa
open Go Go.V
open _root_.Go.Proofs.Try IntKind
attribute [local irreducible] wpList Code.wp wpQuiet Calls bodyPost Oper.wp wpS Nx PendOK YieldsIn
theorem slices_Clone_int_int_ref {w0 w : World} {I : HL} {R : SP} {a0 : (List Int)} {r0_0 : Value} (f0_0 : Rd (tyInt .i64) R I r0_0 a0) (hst : St w0 w I [] R) {r : (List Int)} (hm : slices_Clone_int_int a0 = some r) :
  Calls prog 36 #[r0_0] w fun e w' => ∃ (q0_0 : Value), e = .returned (q0_0) ∧ St w0 w' I [ownS (tyInt .i64) q0_0 r] R := by {
 unfold slices_Clone_int_int at hm
 obtain ⟨hg, hm⟩ := gd_some hm
 obtain rfl := some_inj hm
 have hsv := rd_sliceV f0_0
 refine calls_start (args := [r0_0]) func36 z ntmps36 (Nat.le_of_ble_eq_true z) ?_
 refine wp_seq (wrl (wv ((.slice none 0 0)) z z z (wl_nil (tn (wp_seq (wp_seq (wrl (wv (r0_0) z z z (wv (.bool (isNil r0_0)) z z (x_slnil z hsv z underlying41) (wl_nil (tn ?_)))))))))))
 refine bsplit (isNil r0_0) (fun hc34 => ?_) (fun hc34 => ?_)
 {
 refine wp_ift (cvb hc34) ?_
 refine wp_seq (wrl (wv ((.slice none 0 0)) z z z (wl_nil (tn (wp_ret (then_r ?_))))))
 refine post_ret (vs := [Zs]) results36 (rvs_cons (rv_tmp z) rvs_nil) ?_
 obtain rfl := List.eq_nil_of_length_eq_zero (isNil_len hsv hc34)
 exact ⟨_, z, (hst.own_nil (tyInt .i64)).keep1⟩
}
 {
 refine wp_iff (cvb hc34) ?_
 refine wp_skip (tn (wp_seq (wrl ?_)))
 obtain ⟨b, w1, ew, eb, hst⟩ := hst.lits (E := (tyInt .i64)) (xs := []) [] 3 0 z Reps.nil
 refine wl_run (v := (.slice (some ⟨b, 0, none⟩) 0 0)) (w' := w1) z z (x_als (by kernel_rfl) ew eb) ?_
 refine wv (r0_0) z z z ?_
 obtain ⟨v2, w2, hr, hst⟩ := run_append elem_41 underlying41 hst (Src.of_rd hst f0_0 flat_int) (room_of hg z) 41
 refine wl_run (v := v2) (w' := w2) z z (x_append z z hr) ?_
 refine wv (v2) z z z (wl_nil (tn (wp_ret ?_)))
 refine post_ret (vs := [v2]) results36 (rvs_cons (rv_tmp z) rvs_nil) ?_
 rw [List.nil_append] at hst
 exact ⟨_, z, hst.keep1⟩
}
}

theorem label_Lattice_Order_ref {w0 w : World} {I : HL} {R : SP} {a0 : (Option label_Lattice)} {p0 : Value}  (hst : St w0 w I [objO at_label_Lattice p0 a0] R) {r : ((List Int))} (hm : label_Lattice_Order a0 = some r) :
  Calls prog 22 #[p0] w fun e w' => ∃ (q0_0 : Value), e = .returned (q0_0) ∧ St w0 w' I [ownS (tyInt .i64) q0_0 r, objO at_label_Lattice p0 a0] R := by {
 rcases a0 with _ | o0
 {
 obtain ⟨rfl, hst'⟩ := objO_none hst
 clear hst
 have hst := hst'
 clear hst'
 dsimp only [label_Lattice_Order] at hm
 refine calls_start (args := [.pointer none]) func22 z ntmps22 (Nat.le_of_ble_eq_true z) ?_
 refine wp_seq (wrl (wv ((.slice none 0 0)) z z z (wl_nil (tn (wp_seq (wp_seq (wrl (wv (.pointer none) z z z (wv (.bool true) z z (by kernel_rfl) (wl_nil (tn ?_)))))))))))
 refine wp_ift z ?_
 refine wp_seq (wrl (wv ((.slice none 0 0)) z z z (wl_nil (tn (wp_ret (then_r ?_))))))
 replace hst := hst.own_nil (tyInt .i64)
 replace hst := hst.objO_nil at_label_Lattice
 obtain rfl := some_inj hm
 refine post_ret (vs := [Zs]) results22 (rvs_cons (rv_tmp z) rvs_nil) ?_
 replace hst := hst.pull1
 exact ⟨(.slice none 0 0), z, hst.keep2⟩
}
 {
 replace hst := objO_get hst
 dsimp only [label_Lattice_Order] at hm
 refine calls_start (args := [p0]) func22 z ntmps22 (Nat.le_of_ble_eq_true z) ?_
 refine wp_seq (wrl (wv ((.slice none 0 0)) z z z (wl_nil (tn (wp_seq (wp_seq (wrl (wv (p0) z z z ?_))))))))
 obtain ⟨b47, v48, v50, v52, v54, v56, v58, rfl, hst'⟩ := at_label_Lattice_open hst
 clear hst
 have hst := hst'
 clear hst'
 refine wv (.bool false) z z (by kernel_rfl) (wl_nil (tn ?_))
 refine wp_iff z ?_
 refine wp_skip (tn (wp_seq (wrl ?_)))
 refine wv (Pt b47 0) z z z (wv (Pt b47 0) z z z (wv (Pt b47 5) z z (x_field z underlying49 z sizeOf41 z) (wv (v58) z z (x_load z isAgg41 (hst.bc0 z)) ?_)))
 replace hst := hst.pull6
 obtain ⟨css60, hq61, hst⟩ := hst.own_open
 obtain ⟨t62, ht63, hm⟩ := bind_some hm
 refine wc call36 [v58] z z z ?_
 refine (slices_Clone_int_int_ref (hst.rdrow0 hq61) hst.to0 ht63).mono ?_
 rintro _ w64 ⟨v67, rfl, hst⟩
 refine ⟨_, z, ?_⟩
 replace hst := hst.of1.pull1.own_close hq61
 refine wv (v67) z z z (wl_nil (tn (wp_ret ?_)))
 replace hst := hst.pull7.pull7.pull7.pull7.pull7.pull7
 replace hst := at_label_Lattice_close (pv := Pt b47 0) (x := o0) hst z
 replace hst := objO_some hst
 obtain rfl := some_inj hm
 refine post_ret (vs := [v67]) results22 (rvs_cons (rv_tmp z) rvs_nil) ?_
 replace hst := hst.pull1
 exact ⟨v67, z, hst.keep2⟩
}
}

theorem label_Lattice_Len_ref {w0 w : World} {I : HL} {R : SP} {a0 : (Option label_Lattice)} {p0 : Value}  (hst : St w0 w I [objO at_label_Lattice p0 a0] R) {r : (Int)} (hm : label_Lattice_Len a0 = some r) :
  Calls prog 12 #[p0] w fun e w' => e = .returned (.int .i64 r) ∧ St w0 w' I [objO at_label_Lattice p0 a0] R := by {
 rcases a0 with _ | o0
 {
 obtain ⟨rfl, hst'⟩ := objO_none hst
 clear hst
 have hst := hst'
 clear hst'
 dsimp only [label_Lattice_Len] at hm
 refine calls_start (args := [.pointer none]) func12 z ntmps12 (Nat.le_of_ble_eq_true z) ?_
 refine wp_seq (wrl (wv (.int .i64 (0:Int)) z z z (wl_nil (tn (wp_seq (wp_seq (wrl (wv (.pointer none) z z z (wv (.bool true) z z (by kernel_rfl) (wl_nil (tn ?_)))))))))))
 refine wp_ift z ?_
 refine wp_seq (wrl (wv (.int .i64 (0:Int)) z z z (wl_nil (tn (wp_ret (then_r ?_))))))
 replace hst := hst.objO_nil at_label_Lattice
 obtain rfl := some_inj hm
 refine post_ret (vs := [Zi]) results12 (rvs_cons (rv_tmp z) rvs_nil) ?_
 exact ⟨z, hst.keep1⟩
}
 {
 replace hst := objO_get hst
 dsimp only [label_Lattice_Len] at hm
 refine calls_start (args := [p0]) func12 z ntmps12 (Nat.le_of_ble_eq_true z) ?_
 refine wp_seq (wrl (wv (.int .i64 (0:Int)) z z z (wl_nil (tn (wp_seq (wp_seq (wrl (wv (p0) z z z ?_))))))))
 obtain ⟨b134, v135, v137, v139, v141, v143, v145, rfl, hst'⟩ := at_label_Lattice_open hst
 clear hst
 have hst := hst'
 clear hst'
 refine wv (.bool false) z z (by kernel_rfl) (wl_nil (tn ?_))
 refine wp_iff z ?_
 refine wp_skip (tn (wp_seq (wrl ?_)))
 refine wv (Pt b134 0) z z z (wv (Pt b134 0) z z z (wv (Pt b134 0) z z (x_field z underlying49 z sizeOf28 z) (wv (v135) z z (x_load z isAgg28 (hst.bc0 z)) (wv (.int .i64 ((o0.up).length : Int)) z z (x_len z underlying28 hst.sv1) (wv (.int .i64 ((o0.up).length : Int)) z z z (wl_nil (tn (wp_ret ?_))))))))
 replace hst := hst.pull6.pull6.pull6.pull6.pull6.pull6.pull6
 replace hst := at_label_Lattice_close (pv := Pt b134 0) (x := o0) hst z
 replace hst := objO_some hst
 obtain rfl := some_inj hm
 refine post_ret (vs := [I6 ((o0.up).length : Int)]) results12 (rvs_cons (rv_tmp z) rvs_nil) ?_
 exact ⟨z, hst.keep1⟩
}
}

theorem label_Lattice_Is_ref {w0 w : World} {I : HL} {R : SP} {a0 : (Option label_Lattice)} {p0 : Value} {a1 : Int}  (hst : St w0 w I [objO at_label_Lattice p0 a0] R) {r : (Bool)} (hm : label_Lattice_Is a0 a1 = some r) :
  Calls prog 23 #[p0, I6 a1] w fun e w' => e = .returned (.bool r) ∧ St w0 w' I [objO at_label_Lattice p0 a0] R := by {
 unfold label_Lattice_Is at hm
 refine calls_start (args := [p0, I6 a1]) func23 z ntmps23 (Nat.le_of_ble_eq_true z) ?_
 refine wp_seq (wrl (wv (.bool false) z z z (wl_nil (tn (wp_seq (wrl (wv (.int .i64 a1) z z z (wv (.bool (decide (a1 ≥ (0:Int)))) z z z (wv (.bool (decide (a1 ≥ (0:Int)))) z z z ?_)))))))))
 refine bsplit (decide (a1 ≥ (0:Int))) (fun hc125 => ?_) (fun hc125 => ?_)
 {
 replace hm := bif_t hc125 hm
 refine wv (.int .i64 a1) ((wanted_eq z z z (cvb hc125)).trans z) z z (wv (p0) ((wanted_eq z z z (cvb hc125)).trans z) z z ?_)
 obtain ⟨t126, ht127, hm⟩ := bind_some hm
 refine wl_call ((wanted_eq z z z (cvb hc125)).trans z) z (x_call call12 z (vs := [p0]) z) ?_
 refine (label_Lattice_Len_ref hst.to1 ht127).mono ?_
 rintro _ w128 ⟨rfl, hst⟩
 refine ⟨_, z, ?_⟩
 replace hst := hst.of1
 refine wv (.bool (decide (a1 < t126))) ((wanted_eq z z z (cvb hc125)).trans z) z z (wv (.bool (decide (a1 < t126))) z z (x_pick_t hc125 z z) (wv (.bool (decide (a1 < t126))) z z z (wl_nil (tn (wp_ret ?_)))))
 obtain rfl := some_inj hm
 refine post_ret (vs := [.bool (decide (a1 < t126))]) results23 (rvs_cons (rv_tmp z) rvs_nil) ?_
 exact ⟨z, hst.keep1⟩
}
 {
 replace hm := bif_f hc125 hm
 refine wo hc125 z z z z z z (wo hc125 z z z z z z (wo hc125 z z z z z z (wo hc125 z z z z z z (wv (.bool false) z z (x_pick_f hc125 z z) (wv (.bool false) z z z (wl_nil (tn (wp_ret ?_))))))))
 obtain rfl := some_inj hm
 refine post_ret (vs := [.bool false]) results23 (rvs_cons (rv_tmp z) rvs_nil) ?_
 exact ⟨z, hst.keep1⟩
}
}

theorem label_Lattice_Join_ref {w0 w : World} {I : HL} {R : SP} {a0 : (Option label_Lattice)} {p0 : Value} {a1 : Int} {a2 : Int}  (hst : St w0 w I [objO at_label_Lattice p0 a0] R) {r : (Int)} (hm : label_Lattice_Join a0 a1 a2 = some r) :
  Calls prog 13 #[p0, I6 a1, I6 a2] w fun e w' => e = .returned (.int .i64 r) ∧ St w0 w' I [objO at_label_Lattice p0 a0] R := by {
 rcases a0 with _ | o0
 {
 obtain ⟨rfl, hst'⟩ := objO_none hst
 clear hst
 have hst := hst'
 clear hst'
 dsimp only [label_Lattice_Join] at hm
 refine calls_start (args := [.pointer none, I6 a1, I6 a2]) func13 z ntmps13 (Nat.le_of_ble_eq_true z) ?_
 refine wp_seq (wrl (wv (.int .i64 (0:Int)) z z z (wl_nil (tn (wp_seq (wp_seq (wrl (wv (.pointer none) z z z (wv (.int .i64 a1) z z z ?_)))))))))
 replace hst := hst.objO_nil at_label_Lattice
 obtain ⟨t174, ht175, hm⟩ := bind_some hm
 refine wc call23 [.pointer none, I6 a1] z z z ?_
 refine (label_Lattice_Is_ref hst.to1 ht175).mono ?_
 rintro _ w176 ⟨rfl, hst⟩
 refine ⟨_, z, ?_⟩
 replace hst := hst.of1
 refine wv (.bool (!t174)) z z z (wv (.bool (!t174)) z z z ?_)
 refine bsplit (!t174) (fun hc179 => ?_) (fun hc179 => ?_)
 {
 replace hm := bif_t hc179 hm
 refine wo hc179 z z z z z z (wo hc179 z z z z z z (wo hc179 z z z z z z (wo hc179 z z z z z z (wv (.bool true) z z (x_pick_t hc179 z z) (wl_nil (tn ?_))))))
 refine wp_ift z ?_
 refine wp_seq (wrl (wv (.int .i64 ((-1):Int)) z z z (wl_nil (tn (wp_ret (then_r ?_))))))
 replace hst := hst.objO_nil at_label_Lattice
 obtain rfl := some_inj hm
 refine post_ret (vs := [I6 ((-1):Int)]) results13 (rvs_cons (rv_tmp z) rvs_nil) ?_
 exact ⟨z, hst.keep1⟩
}
 {
 replace hm := bif_f hc179 hm
 refine wv (.pointer none) ((wanted_eq z z z (cvb hc179)).trans z) z z (wv (.int .i64 a2) ((wanted_eq z z z (cvb hc179)).trans z) z z ?_)
 replace hst := hst.objO_nil at_label_Lattice
 obtain ⟨t181, ht182, hm⟩ := bind_some hm
 refine wl_call ((wanted_eq z z z (cvb hc179)).trans z) z (x_call call23 z (vs := [.pointer none, I6 a2]) z) ?_
 refine (label_Lattice_Is_ref hst.to1 ht182).mono ?_
 rintro _ w183 ⟨rfl, hst⟩
 refine ⟨_, z, ?_⟩
 replace hst := hst.of1
 refine wv (.bool (!t181)) ((wanted_eq z z z (cvb hc179)).trans z) z z (wv (.bool (!t181)) z z (x_pick_f hc179 z z) (wl_nil (tn ?_)))
 refine bsplit (!t181) (fun hc186 => ?_) (fun hc186 => ?_)
 {
 replace hm := bif_t hc186 hm
 refine wp_ift (cvb hc186) ?_
 refine wp_seq (wrl (wv (.int .i64 ((-1):Int)) z z z (wl_nil (tn (wp_ret (then_r ?_))))))
 replace hst := hst.objO_nil at_label_Lattice
 obtain rfl := some_inj hm
 refine post_ret (vs := [I6 ((-1):Int)]) results13 (rvs_cons (rv_tmp z) rvs_nil) ?_
 exact ⟨z, hst.keep1⟩
}
 {
 replace hm := bif_f hc186 hm
 refine wp_iff (cvb hc186) ?_
 refine wp_skip (tn (wp_seq (wrl ?_)))
 refine wv (.pointer none) z z z ?_
 cases hm
}
}
}
 {
 replace hst := objO_get hst
 dsimp only [label_Lattice_Join] at hm
 refine calls_start (args := [p0, I6 a1, I6 a2]) func13 z ntmps13 (Nat.le_of_ble_eq_true z) ?_
 refine wp_seq (wrl (wv (.int .i64 (0:Int)) z z z (wl_nil (tn (wp_seq (wp_seq (wrl (wv (p0) z z z (wv (.int .i64 a1) z z z ?_)))))))))
 replace hst := objO_some hst
 obtain ⟨t187, ht188, hm⟩ := bind_some hm
 refine wc call23 [p0, I6 a1] z z z ?_
 refine (label_Lattice_Is_ref hst.to1 ht188).mono ?_
 rintro _ w189 ⟨rfl, hst⟩
 refine ⟨_, z, ?_⟩
 replace hst := hst.of1
 replace hst := objO_get hst
 refine wv (.bool (!t187)) z z z (wv (.bool (!t187)) z z z ?_)
 refine bsplit (!t187) (fun hc192 => ?_) (fun hc192 => ?_)
 {
 replace hm := bif_t hc192 hm
 refine wo hc192 z z z z z z (wo hc192 z z z z z z (wo hc192 z z z z z z (wo hc192 z z z z z z (wv (.bool true) z z (x_pick_t hc192 z z) (wl_nil (tn ?_))))))
 refine wp_ift z ?_
 refine wp_seq (wrl (wv (.int .i64 ((-1):Int)) z z z (wl_nil (tn (wp_ret (then_r ?_))))))
 replace hst := objO_some hst
 obtain rfl := some_inj hm
 refine post_ret (vs := [I6 ((-1):Int)]) results13 (rvs_cons (rv_tmp z) rvs_nil) ?_
 exact ⟨z, hst.keep1⟩
}
 {
 replace hm := bif_f hc192 hm
 refine wv (p0) ((wanted_eq z z z (cvb hc192)).trans z) z z (wv (.int .i64 a2) ((wanted_eq z z z (cvb hc192)).trans z) z z ?_)
 replace hst := objO_some hst
 obtain ⟨t193, ht194, hm⟩ := bind_some hm
 refine wl_call ((wanted_eq z z z (cvb hc192)).trans z) z (x_call call23 z (vs := [p0, I6 a2]) z) ?_
 refine (label_Lattice_Is_ref hst.to1 ht194).mono ?_
 rintro _ w195 ⟨rfl, hst⟩
 refine ⟨_, z, ?_⟩
 replace hst := hst.of1
 replace hst := objO_get hst
 refine wv (.bool (!t193)) ((wanted_eq z z z (cvb hc192)).trans z) z z (wv (.bool (!t193)) z z (x_pick_f hc192 z z) (wl_nil (tn ?_)))
 refine bsplit (!t193) (fun hc198 => ?_) (fun hc198 => ?_)
 {
 replace hm := bif_t hc198 hm
 refine wp_ift (cvb hc198) ?_
 refine wp_seq (wrl (wv (.int .i64 ((-1):Int)) z z z (wl_nil (tn (wp_ret (then_r ?_))))))
 replace hst := objO_some hst
 obtain rfl := some_inj hm
 refine post_ret (vs := [I6 ((-1):Int)]) results13 (rvs_cons (rv_tmp z) rvs_nil) ?_
 exact ⟨z, hst.keep1⟩
}
 {
 replace hm := bif_f hc198 hm
 refine wp_iff (cvb hc198) ?_
 refine wp_skip (tn (wp_seq (wrl ?_)))
 refine wv (p0) z z z ?_
 obtain ⟨b199, v200, v202, v204, v206, v208, v210, rfl, hst'⟩ := at_label_Lattice_open hst
 clear hst
 have hst := hst'
 clear hst'
 refine wv (Pt b199 0) z z z (wv (Pt b199 2) z z (x_field z underlying49 z sizeOf47 z) (wv (v204) z z (x_load z isAgg47 (hst.bc0 z)) (wv (.int .i64 a1) z z z ?_)))
 obtain ⟨x212, hx213, hm⟩ := bind_some hm
 obtain ⟨h214, h215, hi216⟩ := geto_some hx213
 refine wv (.pointer (some (eAddr v204 (a1.toNat * 1 + 0)))) z z (x_index z z underlying47 sizeOf41 hst.sv3 h214 h215) ?_
 obtain ⟨cs217, hr218, hc219⟩ := hst.og3 hi216
 obtain ⟨v220, rfl, f221, -⟩ := hr218
 refine wv (v220) z z (x_load z isAgg41 (hc219 0 _ z)) (wv (.int .i64 a2) z z z ?_)
 obtain ⟨x223, hx224, hm⟩ := bind_some hm
 obtain ⟨h225, h226, hi227⟩ := geto_some hx224
 refine wv (.pointer (some (eAddr v220 (a2.toNat * 1 + 0)))) z z (x_index z z underlying41 sizeOf3 (ro_sliceV f221) h225 h226) (wv (.int .i64 x223) z z (x_load z isAgg3 (ro_load f221 hst hi227 (by rintro _ rfl; rfl))) (wv (.int .i64 x223) z z z (wl_nil (tn (wp_ret ?_)))))
 replace hst := hst.pull6.pull6.pull6.pull6.pull6.pull6.pull6
 replace hst := at_label_Lattice_close (pv := Pt b199 0) (x := o0) hst z
 replace hst := objO_some hst
 obtain rfl := some_inj hm
 refine post_ret (vs := [I6 x223]) results13 (rvs_cons (rv_tmp z) rvs_nil) ?_
 exact ⟨z, hst.keep1⟩
}
}
}
}

theorem label_Lattice_Rank_ref {w0 w : World} {I : HL} {R : SP} {a0 : (Option label_Lattice)} {p0 : Value} {a1 : Int}  (hst : St w0 w I [objO at_label_Lattice p0 a0] R) {r : (Int)} (hm : label_Lattice_Rank a0 a1 = some r) :
  Calls prog 18 #[p0, I6 a1] w fun e w' => e = .returned (.int .i64 r) ∧ St w0 w' I [objO at_label_Lattice p0 a0] R := by {
 rcases a0 with _ | o0
 {
 obtain ⟨rfl, hst'⟩ := objO_none hst
 clear hst
 have hst := hst'
 clear hst'
 dsimp only [label_Lattice_Rank] at hm
 refine calls_start (args := [.pointer none, I6 a1]) func18 z ntmps18 (Nat.le_of_ble_eq_true z) ?_
 refine wp_seq (wrl (wv (.int .i64 (0:Int)) z z z (wl_nil (tn (wp_seq (wp_seq (wrl (wv (.pointer none) z z z (wv (.int .i64 a1) z z z ?_)))))))))
 replace hst := hst.objO_nil at_label_Lattice
 obtain ⟨t156, ht157, hm⟩ := bind_some hm
 refine wc call23 [.pointer none, I6 a1] z z z ?_
 refine (label_Lattice_Is_ref hst.to1 ht157).mono ?_
 rintro _ w158 ⟨rfl, hst⟩
 refine ⟨_, z, ?_⟩
 replace hst := hst.of1
 refine wv (.bool (!t156)) z z z (wl_nil (tn ?_))
 refine bsplit (!t156) (fun hc161 => ?_) (fun hc161 => ?_)
 {
 replace hm := bif_t hc161 hm
 refine wp_ift (cvb hc161) ?_
 refine wp_seq (wrl (wv (.int .i64 ((-1):Int)) z z z (wl_nil (tn (wp_ret (then_r ?_))))))
 replace hst := hst.objO_nil at_label_Lattice
 obtain rfl := some_inj hm
 refine post_ret (vs := [I6 ((-1):Int)]) results18 (rvs_cons (rv_tmp z) rvs_nil) ?_
 exact ⟨z, hst.keep1⟩
}
 {
 replace hm := bif_f hc161 hm
 refine wp_iff (cvb hc161) ?_
 refine wp_skip (tn (wp_seq (wrl ?_)))
 refine wv (.pointer none) z z z ?_
 cases hm
}
}
 {
 replace hst := objO_get hst
 dsimp only [label_Lattice_Rank] at hm
 refine calls_start (args := [p0, I6 a1]) func18 z ntmps18 (Nat.le_of_ble_eq_true z) ?_
 refine wp_seq (wrl (wv (.int .i64 (0:Int)) z z z (wl_nil (tn (wp_seq (wp_seq (wrl (wv (p0) z z z (wv (.int .i64 a1) z z z ?_)))))))))
 replace hst := objO_some hst
 obtain ⟨t162, ht163, hm⟩ := bind_some hm
 refine wc call23 [p0, I6 a1] z z z ?_
 refine (label_Lattice_Is_ref hst.to1 ht163).mono ?_
 rintro _ w164 ⟨rfl, hst⟩
 refine ⟨_, z, ?_⟩
 replace hst := hst.of1
 replace hst := objO_get hst
 refine wv (.bool (!t162)) z z z (wl_nil (tn ?_))
 refine bsplit (!t162) (fun hc167 => ?_) (fun hc167 => ?_)
 {
 replace hm := bif_t hc167 hm
 refine wp_ift (cvb hc167) ?_
 refine wp_seq (wrl (wv (.int .i64 ((-1):Int)) z z z (wl_nil (tn (wp_ret (then_r ?_))))))
 replace hst := objO_some hst
 obtain rfl := some_inj hm
 refine post_ret (vs := [I6 ((-1):Int)]) results18 (rvs_cons (rv_tmp z) rvs_nil) ?_
 exact ⟨z, hst.keep1⟩
}
 {
 replace hm := bif_f hc167 hm
 refine wp_iff (cvb hc167) ?_
 refine wp_skip (tn (wp_seq (wrl ?_)))
 refine wv (p0) z z z ?_
 obtain ⟨b168, v169, v171, v173, v175, v177, v179, rfl, hst'⟩ := at_label_Lattice_open hst
 clear hst
 have hst := hst'
 clear hst'
 refine wv (Pt b168 0) z z z (wv (Pt b168 4) z z (x_field z underlying49 z sizeOf41 z) (wv (v177) z z (x_load z isAgg41 (hst.bc0 z)) (wv (.int .i64 a1) z z z ?_)))
 obtain ⟨x181, hx182, hm⟩ := bind_some hm
 obtain ⟨h183, h184, hi185⟩ := geto_some hx182
 refine wv (.pointer (some (eAddr v177 (a1.toNat * 1 + 0)))) z z (x_index z z underlying41 sizeOf3 hst.sv5 h183 h184) (wv (.int .i64 x181) z z (x_load z isAgg3 (hst.ol5 hi185 (by rintro _ rfl; rfl))) (wv (.int .i64 x181) z z z (wl_nil (tn (wp_ret ?_)))))
 replace hst := hst.pull6.pull6.pull6.pull6.pull6.pull6.pull6
 replace hst := at_label_Lattice_close (pv := Pt b168 0) (x := o0) hst z
 replace hst := objO_some hst
 obtain rfl := some_inj hm
 refine post_ret (vs := [I6 x181]) results18 (rvs_cons (rv_tmp z) rvs_nil) ?_
 exact ⟨z, hst.keep1⟩
}
}
}

theorem law03_awake_ref {w0 w : World} {I : HL} {R : SP}   (hst : St w0 w I [] R) {r : (Bool)} (hm : law03_awake = some r) :
  Calls prog 9 #[] w fun e w' => ∃ (I' : HL), e = .returned (.bool r) ∧ I.le I' ∧ St w0 w' I' [] R := by {
 unfold law03_awake at hm
 refine calls_start (args := []) func9 z ntmps9 (Nat.le_of_ble_eq_true z) ?_
 have hI0 := HL.le.refl I
 refine wp_seq (wrl (wv (.bool false) z z z (wl_nil (tn (wp_seq (wrl ?_))))))
 obtain ⟨b133, w134, ew135, eb136, hst⟩ := hst.lits (E := (tyInt .u64)) (xs := [(3:Int), (2:Int)]) [[U6 (3:Int)], [U6 (2:Int)]] 43 2 z (Reps.cons z (Reps.cons z Reps.nil))
 refine wl_run (v := (.slice (some ⟨b133, 0, none⟩) 2 2)) (w' := w134) z z (x_als (by kernel_rfl) ew135 eb136) ?_
 obtain ⟨css138, hq139, hst⟩ := hst.own_open
 obtain ⟨t140, ht141, hm⟩ := bind_some hm
 refine wc call10 [(.slice (some ⟨b133, 0, none⟩) 2 2)] z z z ?_
 refine (label_New_ref (hst.rdrow0 hq139) hst.to0 ht141).mono ?_
 rintro _ w142 ⟨I143, v145, rfl, hI144, hst⟩
 refine ⟨_, z, ?_⟩
 replace hst := hst.of1
 replace hI0 := hI0.trans hI144
 replace hst := hst.pull1.own_close (hq139.imp fun _ _ => Ty.mono _ (ro_le hI144))
 refine wv (.tuple #[v145, I6 t140.2]) z z z (wv (v145) z z z (wv (.int .i64 t140.2) z z z (wv (v145) z z z (wv (.int .i64 t140.2) z z z (wl_nil (tn (wp_seq (wrl (wv (.int .i64 t140.2) z z z (wv (.bool (t140.2 == (0:Int))) z z z (wv (.bool (t140.2 == (0:Int))) z z z ?_)))))))))))
 refine bsplit (t140.2 == (0:Int)) (fun hc147 => ?_) (fun hc147 => ?_)
 {
 replace hm := bif_t hc147 hm
 refine wv (v145) ((wanted_eq z z z (cvb hc147)).trans z) z z ?_
 replace hst := hst.pull1
 obtain ⟨t148, ht149, hm⟩ := bind_some hm
 refine wl_call ((wanted_eq z z z (cvb hc147)).trans z) z (x_call call13 z (vs := [v145, Zi, I6 (1:Int)]) z) ?_
 refine (label_Lattice_Join_ref hst.to1 ht149).mono ?_
 rintro _ w150 ⟨rfl, hst⟩
 refine ⟨_, z, ?_⟩
 replace hst := hst.of1
 refine wv (.bool (t148 == (1:Int))) ((wanted_eq z z z (cvb hc147)).trans z) z z (wv (.bool (t148 == (1:Int))) z z (x_pick_t hc147 z z) (wv (.bool (t148 == (1:Int))) z z z ?_))
 refine bsplit (t148 == (1:Int)) (fun hc153 => ?_) (fun hc153 => ?_)
 {
 replace hm := bif_t hc153 hm
 refine wv (v145) ((wanted_eq z z z (cvb hc153)).trans z) z z ?_
 obtain ⟨t154, ht155, hm⟩ := bind_some hm
 refine wl_call ((wanted_eq z z z (cvb hc153)).trans z) z (x_call call18 z (vs := [v145, I6 (1:Int)]) z) ?_
 refine (label_Lattice_Rank_ref hst.to1 ht155).mono ?_
 rintro _ w156 ⟨rfl, hst⟩
 refine ⟨_, z, ?_⟩
 replace hst := hst.of1
 refine wv (.bool (t154 == (1:Int))) ((wanted_eq z z z (cvb hc153)).trans z) z z (wv (.bool (t154 == (1:Int))) z z (x_pick_t hc153 z z) (wv (.bool (t154 == (1:Int))) z z z ?_))
 refine bsplit (t154 == (1:Int)) (fun hc159 => ?_) (fun hc159 => ?_)
 {
 replace hm := bif_t hc159 hm
 refine wv (v145) ((wanted_eq z z z (cvb hc159)).trans z) z z ?_
 obtain ⟨t160, ht161, hm⟩ := bind_some hm
 refine wl_call ((wanted_eq z z z (cvb hc159)).trans z) z (x_call call18 z (vs := [v145, Zi]) z) ?_
 refine (label_Lattice_Rank_ref hst.to1 ht161).mono ?_
 rintro _ w162 ⟨rfl, hst⟩
 refine ⟨_, z, ?_⟩
 replace hst := hst.of1
 refine wv (.bool (t160 == (0:Int))) ((wanted_eq z z z (cvb hc159)).trans z) z z (wv (.bool (t160 == (0:Int))) z z (x_pick_t hc159 z z) (wv (.bool (t160 == (0:Int))) z z z (wl_nil (tn (wp_ret ?_)))))
 obtain rfl := some_inj hm
 refine post_ret (vs := [.bool (t160 == (0:Int))]) results9 (rvs_cons (rv_tmp z) rvs_nil) ?_
 exact ⟨_, z, hI0, hst.keep0⟩
}
 {
 replace hm := bif_f hc159 hm
 refine wo hc159 z z z z z z (wo hc159 z z z z z z (wo hc159 z z z z z z (wv (.bool false) z z (x_pick_f hc159 z z) (wv (.bool false) z z z (wl_nil (tn (wp_ret ?_)))))))
 obtain rfl := some_inj hm
 refine post_ret (vs := [.bool false]) results9 (rvs_cons (rv_tmp z) rvs_nil) ?_
 exact ⟨_, z, hI0, hst.keep0⟩
}
}
 {
 replace hm := bif_f hc153 hm
 refine wo hc153 z z z z z z (wo hc153 z z z z z z (wo hc153 z z z z z z (wv (.bool false) z z (x_pick_f hc153 z z) (wv (.bool false) z z z (wz z z z z z z (wz z z z z z z (wz z z z z z z (wv (.bool false) z z (x_pick_f z z z) (wv (.bool false) z z z (wl_nil (tn (wp_ret ?_))))))))))))
 obtain rfl := some_inj hm
 refine post_ret (vs := [.bool false]) results9 (rvs_cons (rv_tmp z) rvs_nil) ?_
 exact ⟨_, z, hI0, hst.keep0⟩
}
}
 {
 replace hm := bif_f hc147 hm
 refine wo hc147 z z z z z z (wo hc147 z z z z z z (wo hc147 z z z z z z (wv (.bool false) z z (x_pick_f hc147 z z) (wv (.bool false) z z z (wz z z z z z z (wz z z z z z z (wz z z z z z z (wv (.bool false) z z (x_pick_f z z z) (wv (.bool false) z z z (wz z z z z z z (wz z z z z z z (wz z z z z z z ?_))))))))))))
 refine wv (.bool false) z z (x_pick_f z z z) (wv (.bool false) z z z (wl_nil (tn (wp_ret ?_))))
 obtain rfl := some_inj hm
 refine post_ret (vs := [.bool false]) results9 (rvs_cons (rv_tmp z) rvs_nil) ?_
 exact ⟨_, z, hI0, hst.keep0⟩
}
}

theorem ref03_Leq_ref {w0 w : World} {I : HL} {R : SP} {a0 : (List Int)} {r0_0 : Value} {a1 : Int} {a2 : Int} (f0_0 : Rd (tyInt .u64) R I r0_0 a0) (hst : St w0 w I [] R) {r : (Bool)} (hm : ref03_Leq a0 a1 a2 = some r) :
  Calls prog 32 #[r0_0, I6 a1, I6 a2] w fun e w' => e = .returned (.bool r) ∧ St w0 w' I [] R := by {
 unfold ref03_Leq at hm
 refine calls_start (args := [r0_0, I6 a1, I6 a2]) func32 z ntmps32 (Nat.le_of_ble_eq_true z) ?_
 refine wp_seq (wrl (wv (.bool false) z z z (wl_nil (tn (wp_seq (wrl (wv (.int .i64 a1) z z z (wv (.bool (decide (a1 ≥ (0:Int)))) z z z (wv (.bool (decide (a1 ≥ (0:Int)))) z z z ?_)))))))))
 refine bsplit (decide (a1 ≥ (0:Int))) (fun hc139 => ?_) (fun hc139 => ?_)
 {
 replace hm := bif_t hc139 hm
 refine wv (.int .i64 a2) ((wanted_eq z z z (cvb hc139)).trans z) z z (wv (.bool (decide (a2 ≥ (0:Int)))) ((wanted_eq z z z (cvb hc139)).trans z) z z (wv (.bool (decide (a2 ≥ (0:Int)))) z z (x_pick_t hc139 z z) (wv (.bool (decide (a2 ≥ (0:Int)))) z z z ?_)))
 refine bsplit (decide (a2 ≥ (0:Int))) (fun hc140 => ?_) (fun hc140 => ?_)
 {
 replace hm := bif_t hc140 hm
 refine wv (.int .i64 a1) ((wanted_eq z z z (cvb hc140)).trans z) z z (wv (r0_0) ((wanted_eq z z z (cvb hc140)).trans z) z z (wv (.int .i64 ((a0).length : Int)) ((wanted_eq z z z (cvb hc140)).trans z) z (x_len z underlying28 (rd_sliceV f0_0)) (wv (.bool (decide (a1 < ((a0).length : Int)))) ((wanted_eq z z z (cvb hc140)).trans z) z z (wv (.bool (decide (a1 < ((a0).length : Int)))) z z (x_pick_t hc140 z z) (wv (.bool (decide (a1 < ((a0).length : Int)))) z z z ?_)))))
 refine bsplit (decide (a1 < ((a0).length : Int))) (fun hc141 => ?_) (fun hc141 => ?_)
 {
 replace hm := bif_t hc141 hm
 refine wv (.int .i64 a2) ((wanted_eq z z z (cvb hc141)).trans z) z z (wv (r0_0) ((wanted_eq z z z (cvb hc141)).trans z) z z (wv (.int .i64 ((a0).length : Int)) ((wanted_eq z z z (cvb hc141)).trans z) z (x_len z underlying28 (rd_sliceV f0_0)) (wv (.bool (decide (a2 < ((a0).length : Int)))) ((wanted_eq z z z (cvb hc141)).trans z) z z (wv (.bool (decide (a2 < ((a0).length : Int)))) z z (x_pick_t hc141 z z) (wv (.bool (decide (a2 < ((a0).length : Int)))) z z z ?_)))))
 refine bsplit (decide (a2 < ((a0).length : Int))) (fun hc142 => ?_) (fun hc142 => ?_)
 {
 replace hm := bif_t hc142 hm
 refine wv (r0_0) ((wanted_eq z z z (cvb hc142)).trans z) z z (wv (.int .i64 a1) ((wanted_eq z z z (cvb hc142)).trans z) z z ?_)
 obtain ⟨x143, hx144, hm⟩ := bind_some hm
 obtain ⟨h145, h146, hi147⟩ := geto_some hx144
 refine wv (.pointer (some (eAddr r0_0 (a1.toNat * 1 + 0)))) ((wanted_eq z z z (cvb hc142)).trans z) z (x_index z z underlying28 sizeOf43 (rd_sliceV f0_0) h145 h146) (wv (.int .u64 x143) ((wanted_eq z z z (cvb hc142)).trans z) z (x_load z isAgg43 (rd_load f0_0 (HL.le.refl _) hst hi147 (by rintro _ rfl; rfl))) (wv (.int .i64 a2) ((wanted_eq z z z (cvb hc142)).trans z) z z ?_))
 obtain ⟨hg148, hm⟩ := gd_some hm
 refine wv (.int .u64 (iShr .u64 x143 a2)) ((wanted_eq z z z (cvb hc142)).trans z) z (x_shr (of_decide_eq_true hg148) z z) (wv (.int .u64 (bAnd .u64 (iShr .u64 x143 a2) (1:Int))) ((wanted_eq z z z (cvb hc142)).trans z) z z (wv (.bool ((bAnd .u64 (iShr .u64 x143 a2) (1:Int)) == (1:Int))) ((wanted_eq z z z (cvb hc142)).trans z) z z (wv (.bool ((bAnd .u64 (iShr .u64 x143 a2) (1:Int)) == (1:Int))) z z (x_pick_t hc142 z z) (wv (.bool ((bAnd .u64 (iShr .u64 x143 a2) (1:Int)) == (1:Int))) z z z (wl_nil (tn (wp_ret ?_)))))))
 obtain rfl := some_inj hm
 refine post_ret (vs := [.bool ((bAnd .u64 (iShr .u64 x143 a2) (1:Int)) == (1:Int))]) results32 (rvs_cons (rv_tmp z) rvs_nil) ?_
 exact ⟨z, hst.keep0⟩
}
 {
 replace hm := bif_f hc142 hm
 refine wo hc142 z z z z z z (wo hc142 z z z z z z (wo hc142 z z z z z z (wo hc142 z z z z z z (wo hc142 z z z z z z (wo hc142 z z z z z z (wo hc142 z z z z z z (wo hc142 z z z z z z (wv (.bool false) z z (x_pick_f hc142 z z) (wv (.bool false) z z z (wl_nil (tn (wp_ret ?_))))))))))))
 obtain rfl := some_inj hm
 refine post_ret (vs := [.bool false]) results32 (rvs_cons (rv_tmp z) rvs_nil) ?_
 exact ⟨z, hst.keep0⟩
}
}
 {
 replace hm := bif_f hc141 hm
 refine wo hc141 z z z z z z (wo hc141 z z z z z z (wo hc141 z z z z z z (wo hc141 z z z z z z (wv (.bool false) z z (x_pick_f hc141 z z) (wv (.bool false) z z z (wz z z z z z z (wz z z z z z z (wz z z z z z z (wz z z z z z z (wz z z z z z z (wz z z z z z z (wz z z z z z z ?_))))))))))))
 refine wz z z z z z z (wv (.bool false) z z (x_pick_f z z z) (wv (.bool false) z z z (wl_nil (tn (wp_ret ?_)))))
 obtain rfl := some_inj hm
 refine post_ret (vs := [.bool false]) results32 (rvs_cons (rv_tmp z) rvs_nil) ?_
 exact ⟨z, hst.keep0⟩
}
}
 {
 replace hm := bif_f hc140 hm
 refine wo hc140 z z z z z z (wo hc140 z z z z z z (wo hc140 z z z z z z (wo hc140 z z z z z z (wv (.bool false) z z (x_pick_f hc140 z z) (wv (.bool false) z z z (wz z z z z z z (wz z z z z z z (wz z z z z z z (wz z z z z z z (wv (.bool false) z z (x_pick_f z z z) (wv (.bool false) z z z (wz z z z z z z ?_))))))))))))
 refine wz z z z z z z (wz z z z z z z (wz z z z z z z (wz z z z z z z (wz z z z z z z (wz z z z z z z (wz z z z z z z (wv (.bool false) z z (x_pick_f z z z) (wv (.bool false) z z z (wl_nil (tn (wp_ret ?_)))))))))))
 obtain rfl := some_inj hm
 refine post_ret (vs := [.bool false]) results32 (rvs_cons (rv_tmp z) rvs_nil) ?_
 exact ⟨z, hst.keep0⟩
}
}
 {
 replace hm := bif_f hc139 hm
 refine wo hc139 z z z z z z (wo hc139 z z z z z z (wv (.bool false) z z (x_pick_f hc139 z z) (wv (.bool false) z z z (wz z z z z z z (wz z z z z z z (wz z z z z z z (wz z z z z z z (wv (.bool false) z z (x_pick_f z z z) (wv (.bool false) z z z (wz z z z z z z (wz z z z z z z (wz z z z z z z ?_))))))))))))
 refine wz z z z z z z (wv (.bool false) z z (x_pick_f z z z) (wv (.bool false) z z z (wz z z z z z z (wz z z z z z z (wz z z z z z z (wz z z z z z z (wz z z z z z z (wz z z z z z z (wz z z z z z z (wz z z z z z z (wv (.bool false) z z (x_pick_f z z z) (wv (.bool false) z z z ?_))))))))))))
 refine wl_nil (tn (wp_ret ?_))
 obtain rfl := some_inj hm
 refine post_ret (vs := [.bool false]) results32 (rvs_cons (rv_tmp z) rvs_nil) ?_
 exact ⟨z, hst.keep0⟩
}
}

theorem ref03_Order_ref {w0 w : World} {I : HL} {R : SP} {a0 : (List Int)} {r0_0 : Value} (f0_0 : Rd (tyInt .u64) R I r0_0 a0) (hst : St w0 w I [] R) {r : ((List Int))} (hm : ref03_Order a0 = some r) :
  Calls prog 35 #[r0_0] w fun e w' => ∃ (q0_0 : Value), e = .returned (q0_0) ∧ St w0 w' I [ownS (tyInt .i64) q0_0 r] R := by {
 unfold ref03_Order at hm
 refine calls_start (args := [r0_0]) func35 z ntmps35 (Nat.le_of_ble_eq_true z) ?_
 refine wp_seq (wrl (wv ((.slice none 0 0)) z z z (wl_nil (tn (wp_seq (wrl (wv ((.slice none 0 0)) z z z (wl_nil (tn (wp_seq (wp_seq (wrl (wv (.int .i64 (0:Int)) z z z (wl_nil (tn (wp_block ?_))))))))))))))))
 replace hst := hst.own_nil (tyInt .i64)
 obtain ⟨n1436, hm⟩ := loopO_some hm
 refine wp_loop_n (fun n a w => ∃ (z1431 : (List Int)) (z1434 : Int) (v1432 : Value) (σ1435 : Nat → Value), loopN (ref03_Order_l0 a0) n (z1431, z1434) = some r ∧ a = Fr 40 (upd (upd (upd σ1435 0 (r0_0)) 3 (v1432)) 4 (.int .i64 z1434)) ∧ St w0 w I [ownS (tyInt .i64) v1432 z1431] R) n1436 ⟨[], (0:Int), Zs, _, hm, (fu 0 r0_0 z (fu 3 (.slice none 0 0) z (fu 4 (.int .i64 (0:Int)) z z))), hst⟩ ?_
 rintro n1442 _ w1437 ⟨z1431, z1434, v1432, σ1435, hm, rfl, hst⟩
 obtain ⟨n1439, y1440, rfl, hm, hx1441⟩ := loopN_some hm
 dsimp only [ref03_Order_l0] at hm
 refine wp_seq (wp_seq (wrl (wv (.int .i64 z1434) z z z (wv (r0_0) z z z (wv (.int .i64 ((a0).length : Int)) z z (x_len z underlying28 (rd_sliceV f0_0)) (wv (.bool (decide (z1434 ≤ ((a0).length : Int)))) z z z (wl_nil (tn ?_))))))))
 refine bsplit (decide (z1434 ≤ ((a0).length : Int))) (fun hc1443 => ?_) (fun hc1443 => ?_)
 {
 replace hm := bif_t hc1443 hm
 refine wp_ift (cvb hc1443) ?_
 refine wp_skip (tn (wp_seq (wp_block (wp_seq (wrl ?_)))))
 refine wv (.int .i64 (0:Int)) z z z (wl_nil (tn (wp_block ?_)))
 obtain ⟨n1554, hm⟩ := loopO_some hm
 refine wp_loop_n (fun n a w => ∃ (z1549 : (List Int)) (z1552 : Int) (v1550 : Value) (σ1553 : Nat → Value), loopN (ref03_Order_l1 a0 z1434) n (z1549, z1552) = some y1440 ∧ a = Fr 40 (upd (upd (upd (upd σ1553 0 (r0_0)) 3 (v1550)) 4 (.int .i64 z1434)) 5 (.int .i64 z1552)) ∧ St w0 w I [ownS (tyInt .i64) v1550 z1549] R) n1554 ⟨z1431, (0:Int), v1432, _, hm, (fu 0 r0_0 z (fu 3 v1432 z (fu 4 (.int .i64 z1434) z (fu 5 (.int .i64 (0:Int)) z z)))), hst⟩ ?_
 rintro n1560 _ w1555 ⟨z1549, z1552, v1550, σ1553, hm, rfl, hst⟩
 obtain ⟨n1557, y1558, rfl, hm, hx1559⟩ := loopN_some hm
 dsimp only [ref03_Order_l1] at hm
 refine wp_seq (wp_seq (wrl (wv (.int .i64 z1552) z z z (wv (r0_0) z z z (wv (.int .i64 ((a0).length : Int)) z z (x_len z underlying28 (rd_sliceV f0_0)) (wv (.bool (decide (z1552 < ((a0).length : Int)))) z z z (wl_nil (tn ?_))))))))
 refine bsplit (decide (z1552 < ((a0).length : Int))) (fun hc1561 => ?_) (fun hc1561 => ?_)
 {
 replace hm := bif_t hc1561 hm
 refine wp_ift (cvb hc1561) ?_
 refine wp_skip (tn (wp_seq (wp_block (wp_seq (wrl ?_)))))
 refine wv (.int .i64 (0:Int)) z z z (wl_nil (tn ?_))
 obtain ⟨y1598, hm, hx1599⟩ := bind_some hm
 refine wp_cut (fun a w => ∃ (z1595 : Int) (σ1596 : Nat → Value), (ref03_Order_j2 z1434 z1549 z1552) z1595 = some y1558 ∧ a = Fr 40 (upd (upd (upd (upd (upd σ1596 0 (r0_0)) 3 (v1550)) 4 (.int .i64 z1434)) 5 (.int .i64 z1552)) 6 (.int .i64 z1595)) ∧ St w0 w I [ownS (tyInt .i64) v1550 z1549] R) ?_ ?_
 {
 refine wp_seq (wrl (wv (.int .i64 (0:Int)) z z z (wl_nil (tn (wp_block ?_)))))
 obtain ⟨n1581, hm⟩ := loopO_some hm
 refine wp_loop_n (fun n a w => ∃ (z1578 : Int) (z1579 : Int) (σ1580 : Nat → Value), loopN (ref03_Order_l3 a0 z1552) n (z1578, z1579) = some y1598 ∧ a = Fr 40 (upd (upd (upd (upd (upd (upd σ1580 0 (r0_0)) 3 (v1550)) 4 (.int .i64 z1434)) 5 (.int .i64 z1552)) 6 (.int .i64 z1578)) 7 (.int .i64 z1579)) ∧ St w0 w I [ownS (tyInt .i64) v1550 z1549] R) n1581 ⟨(0:Int), (0:Int), _, hm, (fu 0 r0_0 z (fu 3 v1550 z (fu 4 (.int .i64 z1434) z (fu 5 (.int .i64 z1552) z (fu 6 (.int .i64 (0:Int)) z (fu 7 (.int .i64 (0:Int)) z z)))))), hst⟩ ?_
 rintro n1587 _ w1582 ⟨z1578, z1579, σ1580, hm, rfl, hst⟩
 obtain ⟨n1584, y1585, rfl, hm, hx1586⟩ := loopN_some hm
 dsimp only [ref03_Order_l3] at hm
 refine wp_seq (wp_seq (wrl (wv (.int .i64 z1579) z z z (wv (r0_0) z z z (wv (.int .i64 ((a0).length : Int)) z z (x_len z underlying28 (rd_sliceV f0_0)) (wv (.bool (decide (z1579 < ((a0).length : Int)))) z z z (wl_nil (tn ?_))))))))
 refine bsplit (decide (z1579 < ((a0).length : Int))) (fun hc1588 => ?_) (fun hc1588 => ?_)
 {
 replace hm := bif_t hc1588 hm
 refine wp_ift (cvb hc1588) ?_
 refine wp_skip (tn (wp_seq (wp_block (wp_seq (wrl ?_)))))
 refine wv (r0_0) z z z (wv (.int .i64 z1579) z z z (wv (.int .i64 z1552) z z z ?_))
 obtain ⟨t1589, ht1590, hm⟩ := bind_some hm
 refine wc call32 [r0_0, I6 z1579, I6 z1552] z z z ?_
 refine (ref03_Leq_ref (f0_0.mono (rd_weak _)) hst.to0 ht1590).mono ?_
 rintro _ w1591 ⟨rfl, hst⟩
 refine ⟨_, z, ?_⟩
 replace hst := hst.of0
 refine wl_nil (tn ?_)
 refine bsplit t1589 (fun hc1594 => ?_) (fun hc1594 => ?_)
 {
 replace hm := bif_t hc1594 hm
 refine wp_ift (cvb hc1594) ?_
 refine wrl (wv (.int .i64 z1578) z z z (wv (.int .i64 (i64.wrap (z1578 + (1:Int)))) z z z (wv (.int .i64 (i64.wrap (z1578 + (1:Int)))) z z z (wl_nil (blk_n (tn (wrl (wv (.int .i64 z1579) z z z (wv (.int .i64 (i64.wrap (z1579 + (1:Int)))) z z z (wv (.int .i64 (i64.wrap (z1579 + (1:Int)))) z z z (wl_nil (tn ?_))))))))))))
 replace hst := hst.keep1
 obtain rfl := some_inj hm
 exact ⟨_, Nat.lt_succ_self _, (i64.wrap (z1578 + (1:Int))), (i64.wrap (z1579 + (1:Int))), _, hx1586, (fu 0 r0_0 z (fu 3 v1550 z (fu 4 (.int .i64 z1434) z (fu 5 (.int .i64 z1552) z (fu 6 (.int .i64 (i64.wrap (z1578 + (1:Int)))) z (fu 7 (.int .i64 (i64.wrap (z1579 + (1:Int)))) z z)))))), hst⟩
}
 {
 replace hm := bif_f hc1594 hm
 refine wp_iff (cvb hc1594) ?_
 refine wp_skip (blk_n (tn (wrl ?_)))
 refine wv (.int .i64 z1579) z z z (wv (.int .i64 (i64.wrap (z1579 + (1:Int)))) z z z (wv (.int .i64 (i64.wrap (z1579 + (1:Int)))) z z z (wl_nil (tn ?_))))
 replace hst := hst.keep1
 obtain rfl := some_inj hm
 exact ⟨_, Nat.lt_succ_self _, z1578, (i64.wrap (z1579 + (1:Int))), _, hx1586, (fu 0 r0_0 z (fu 3 v1550 z (fu 4 (.int .i64 z1434) z (fu 5 (.int .i64 z1552) z (fu 6 (.int .i64 z1578) z (fu 7 (.int .i64 (i64.wrap (z1579 + (1:Int)))) z z)))))), hst⟩
}
}
 {
 replace hm := bif_f hc1588 hm
 refine wp_iff (cvb hc1588) ?_
 refine wp_exit (then_x (then_x ?_))
 replace hm := inr_up hm hx1586
 refine blk_x (tn ?_)
 replace hst := hst.keep1
 obtain rfl := some_inj hm
 exact ⟨z1578, _, hx1599, (fu 0 r0_0 z (fu 3 v1550 z (fu 4 (.int .i64 z1434) z (fu 5 (.int .i64 z1552) z (fu 6 (.int .i64 z1578) z z))))), hst⟩
}
}
 {
 clear hst
 rintro _ w1600 ⟨z1595, σ1596, hm, rfl, hst⟩
 dsimp only [ref03_Order_j2] at hm
 refine wp_seq (wrl (wv (.int .i64 z1595) z z z (wv (.int .i64 z1434) z z z (wv (.bool (z1595 == z1434)) z z z (wl_nil (tn ?_))))))
 refine bsplit (z1595 == z1434) (fun hc1601 => ?_) (fun hc1601 => ?_)
 {
 replace hm := bif_t hc1601 hm
 refine wp_ift (cvb hc1601) ?_
 refine wrl (wv (v1550) z z z (wv (.int .i64 z1552) z z z ?_))
 obtain ⟨b1602, w1603, ew1604, eb1605, hst⟩ := hst.lits (E := (tyInt .i64)) (xs := [z1552]) [[I6 z1552]] 3 1 z (Reps.cons z Reps.nil)
 refine wl_run (v := (.slice (some ⟨b1602, 0, none⟩) 1 1)) (w' := w1603) z z (x_als (by kernel_rfl) ew1604 eb1605) ?_
 obtain ⟨hg1607, hm⟩ := gd_some hm
 replace hst := hst.pull1
 obtain ⟨v1608, w1609, hr1610, hst⟩ := run_append elem_41 underlying41 hst hst.src1 (room_of hg1607 z) 41
 refine wl_run (v := v1608) (w' := w1609) z z (x_append z z hr1610) ?_
 refine wv (v1608) z z z (wl_nil (blk_n (tn (wrl (wv (.int .i64 z1552) z z z (wv (.int .i64 (i64.wrap (z1552 + (1:Int)))) z z z (wv (.int .i64 (i64.wrap (z1552 + (1:Int)))) z z z (wl_nil (tn ?_)))))))))
 replace hst := hst.keep1
 obtain rfl := some_inj hm
 exact ⟨_, Nat.lt_succ_self _, (z1549 ++ ([z1552])), (i64.wrap (z1552 + (1:Int))), v1608, _, hx1559, (fu 0 r0_0 z (fu 3 v1608 z (fu 4 (.int .i64 z1434) z (fu 5 (.int .i64 (i64.wrap (z1552 + (1:Int)))) z z)))), hst⟩
}
 {
 replace hm := bif_f hc1601 hm
 refine wp_iff (cvb hc1601) ?_
 refine wp_skip (blk_n (tn (wrl ?_)))
 refine wv (.int .i64 z1552) z z z (wv (.int .i64 (i64.wrap (z1552 + (1:Int)))) z z z (wv (.int .i64 (i64.wrap (z1552 + (1:Int)))) z z z (wl_nil (tn ?_))))
 replace hst := hst.keep1
 obtain rfl := some_inj hm
 exact ⟨_, Nat.lt_succ_self _, z1549, (i64.wrap (z1552 + (1:Int))), v1550, _, hx1559, (fu 0 r0_0 z (fu 3 v1550 z (fu 4 (.int .i64 z1434) z (fu 5 (.int .i64 (i64.wrap (z1552 + (1:Int)))) z z)))), hst⟩
}
}
}
 {
 replace hm := bif_f hc1561 hm
 refine wp_iff (cvb hc1561) ?_
 refine wp_exit (then_x (then_x ?_))
 replace hm := inr_up hm hx1559
 refine blk_x (blk_n (tn (wrl ?_)))
 refine wv (.int .i64 z1434) z z z (wv (.int .i64 (i64.wrap (z1434 + (1:Int)))) z z z (wv (.int .i64 (i64.wrap (z1434 + (1:Int)))) z z z (wl_nil (tn ?_))))
 replace hst := hst.keep1
 obtain rfl := some_inj hm
 exact ⟨_, Nat.lt_succ_self _, z1549, (i64.wrap (z1434 + (1:Int))), v1550, _, hx1441, (fu 0 r0_0 z (fu 3 v1550 z (fu 4 (.int .i64 (i64.wrap (z1434 + (1:Int)))) z z))), hst⟩
}
}
 {
 replace hm := bif_f hc1443 hm
 refine wp_iff (cvb hc1443) ?_
 refine wp_exit (then_x (then_x ?_))
 replace hm := inr_up hm hx1441
 refine blk_x (tn (wp_seq (wrl ?_)))
 refine wv (v1432) z z z (wv (v1432) z z z (wl_nil (tn (wp_ret ?_))))
 obtain rfl := some_inj hm
 refine post_ret (vs := [v1432]) results35 (rvs_cons (rv_tmp z) rvs_nil) ?_
 exact ⟨v1432, z, hst.keep1⟩
}
}

theorem label_Lattice_Bottom_ref {w0 w : World} {I : HL} {R : SP} {a0 : (Option label_Lattice)} {p0 : Value}  (hst : St w0 w I [objO at_label_Lattice p0 a0] R) {r : (Int)} (hm : label_Lattice_Bottom a0 = some r) :
  Calls prog 16 #[p0] w fun e w' => e = .returned (.int .i64 r) ∧ St w0 w' I [objO at_label_Lattice p0 a0] R := by {
 rcases a0 with _ | o0
 {
 obtain ⟨rfl, hst'⟩ := objO_none hst
 clear hst
 have hst := hst'
 clear hst'
 dsimp only [label_Lattice_Bottom] at hm
 refine calls_start (args := [.pointer none]) func16 z ntmps16 (Nat.le_of_ble_eq_true z) ?_
 refine wp_seq (wrl (wv (.int .i64 (0:Int)) z z z (wl_nil (tn (wp_seq (wp_seq (wrl (wv (.pointer none) z z z (wv (.bool true) z z (by kernel_rfl) (wl_nil (tn ?_)))))))))))
 refine wp_ift z ?_
 refine wp_seq (wrl (wv (.int .i64 ((-1):Int)) z z z (wl_nil (tn (wp_ret (then_r ?_))))))
 replace hst := hst.objO_nil at_label_Lattice
 obtain rfl := some_inj hm
 refine post_ret (vs := [I6 ((-1):Int)]) results16 (rvs_cons (rv_tmp z) rvs_nil) ?_
 exact ⟨z, hst.keep1⟩
}
 {
 replace hst := objO_get hst
 dsimp only [label_Lattice_Bottom] at hm
 refine calls_start (args := [p0]) func16 z ntmps16 (Nat.le_of_ble_eq_true z) ?_
 refine wp_seq (wrl (wv (.int .i64 (0:Int)) z z z (wl_nil (tn (wp_seq (wp_seq (wrl (wv (p0) z z z ?_))))))))
 obtain ⟨b156, v157, v159, v161, v163, v165, v167, rfl, hst'⟩ := at_label_Lattice_open hst
 clear hst
 have hst := hst'
 clear hst'
 refine wv (.bool false) z z (by kernel_rfl) (wl_nil (tn ?_))
 refine wp_iff z ?_
 refine wp_skip (tn (wp_seq (wrl ?_)))
 refine wv (Pt b156 0) z z z (wv (Pt b156 0) z z z (wv (Pt b156 5) z z (x_field z underlying49 z sizeOf41 z) (wv (v167) z z (x_load z isAgg41 (hst.bc0 z)) ?_)))
 obtain ⟨x169, hx170, hm⟩ := bind_some hm
 obtain ⟨h171, h172, hi173⟩ := geto_some hx170
 refine wv (.pointer (some (eAddr v167 ((0:Int).toNat * 1 + 0)))) z z (x_index z z underlying41 sizeOf3 hst.sv6 h171 h172) (wv (.int .i64 x169) z z (x_load z isAgg3 (hst.ol6 hi173 (by rintro _ rfl; rfl))) (wv (.int .i64 x169) z z z (wl_nil (tn (wp_ret ?_)))))
 replace hst := hst.pull6.pull6.pull6.pull6.pull6.pull6.pull6
 replace hst := at_label_Lattice_close (pv := Pt b156 0) (x := o0) hst z
 replace hst := objO_some hst
 obtain rfl := some_inj hm
 refine post_ret (vs := [I6 x169]) results16 (rvs_cons (rv_tmp z) rvs_nil) ?_
 exact ⟨z, hst.keep1⟩
}
}

theorem label_Lattice_Top_ref {w0 w : World} {I : HL} {R : SP} {a0 : (Option label_Lattice)} {p0 : Value}  (hst : St w0 w I [objO at_label_Lattice p0 a0] R) {r : (Int)} (hm : label_Lattice_Top a0 = some r) :
  Calls prog 17 #[p0] w fun e w' => e = .returned (.int .i64 r) ∧ St w0 w' I [objO at_label_Lattice p0 a0] R := by {
 rcases a0 with _ | o0
 {
 obtain ⟨rfl, hst'⟩ := objO_none hst
 clear hst
 have hst := hst'
 clear hst'
 dsimp only [label_Lattice_Top] at hm
 refine calls_start (args := [.pointer none]) func17 z ntmps17 (Nat.le_of_ble_eq_true z) ?_
 refine wp_seq (wrl (wv (.int .i64 (0:Int)) z z z (wl_nil (tn (wp_seq (wp_seq (wrl (wv (.pointer none) z z z (wv (.bool true) z z (by kernel_rfl) (wl_nil (tn ?_)))))))))))
 refine wp_ift z ?_
 refine wp_seq (wrl (wv (.int .i64 ((-1):Int)) z z z (wl_nil (tn (wp_ret (then_r ?_))))))
 replace hst := hst.objO_nil at_label_Lattice
 obtain rfl := some_inj hm
 refine post_ret (vs := [I6 ((-1):Int)]) results17 (rvs_cons (rv_tmp z) rvs_nil) ?_
 exact ⟨z, hst.keep1⟩
}
 {
 replace hst := objO_get hst
 dsimp only [label_Lattice_Top] at hm
 refine calls_start (args := [p0]) func17 z ntmps17 (Nat.le_of_ble_eq_true z) ?_
 refine wp_seq (wrl (wv (.int .i64 (0:Int)) z z z (wl_nil (tn (wp_seq (wp_seq (wrl (wv (p0) z z z ?_))))))))
 obtain ⟨b156, v157, v159, v161, v163, v165, v167, rfl, hst'⟩ := at_label_Lattice_open hst
 clear hst
 have hst := hst'
 clear hst'
 refine wv (.bool false) z z (by kernel_rfl) (wl_nil (tn ?_))
 refine wp_iff z ?_
 refine wp_skip (tn (wp_seq ?_))
 refine wq_regionS hst Try.mixed (by kernel_rfl) ?_
 refine wq_run (v := Pt b156 0) z z (fun w hst => z) ?_
 refine wq_run (v := Pt b156 0) z z (fun w hst => z) ?_
 refine wq_run (v := Pt b156 5) z z (fun w hst => x_field z underlying49 z sizeOf41 z) ?_
 refine wq_run (v := v167) z z (fun w hst => x_load z isAgg41 (hst.bc0 z)) ?_
 refine wq_run (v := Pt b156 0) z z (fun w hst => z) ?_
 refine wq_run (v := Pt b156 0) z z (fun w hst => z) ?_
 refine wq_run (v := Pt b156 5) z z (fun w hst => x_field z underlying49 z sizeOf41 z) ?_
 refine wq_run (v := v167) z z (fun w hst => x_load z isAgg41 (hst.bc0 z)) ?_
 refine wq_run (v := .int .i64 ((o0.all).length : Int)) z z (fun w hst => x_len z underlying41 hst.sv6) ?_
 refine wq_run (v := .int .i64 (i64.wrap (((o0.all).length : Int) - (1:Int)))) z z (fun w hst => z) ?_
 obtain ⟨x169, hx170, hm⟩ := bind_some hm
 obtain ⟨h171, h172, hi173⟩ := geto_some hx170
 refine wq_run (v := .pointer (some (eAddr v167 ((i64.wrap (((o0.all).length : Int) - (1:Int))).toNat * 1 + 0)))) z z (fun w hst => x_index z z underlying41 sizeOf3 hst.sv6 h171 h172) ?_
 refine wq_run (v := .int .i64 x169) z z (fun w hst => x_load z isAgg3 (hst.ol6 hi173 (by rintro _ rfl; rfl))) ?_
 refine wq_run (v := .int .i64 x169) z z (fun w hst => z) ?_
 refine wq_nil ?_
 intro w hst
 refine tn (wp_ret ?_)
 replace hst := hst.pull6.pull6.pull6.pull6.pull6.pull6.pull6
 replace hst := at_label_Lattice_close (pv := Pt b156 0) (x := o0) hst z
 replace hst := objO_some hst
 obtain rfl := some_inj hm
 refine post_ret (vs := [I6 x169]) results17 (rvs_cons (rv_tmp z) rvs_nil) ?_
 exact ⟨z, hst.keep1⟩
}
}

theorem label_Lattice_Leq_ref {w0 w : World} {I : HL} {R : SP} {a0 : (Option label_Lattice)} {p0 : Value} {a1 : Int} {a2 : Int}  (hst : St w0 w I [objO at_label_Lattice p0 a0] R) {r : (Bool)} (hm : label_Lattice_Leq a0 a1 a2 = some r) :
  Calls prog 15 #[p0, I6 a1, I6 a2] w fun e w' => e = .returned (.bool r) ∧ St w0 w' I [objO at_label_Lattice p0 a0] R := by {
 rcases a0 with _ | o0
 {
 obtain ⟨rfl, hst'⟩ := objO_none hst
 clear hst
 have hst := hst'
 clear hst'
 dsimp only [label_Lattice_Leq] at hm
 refine calls_start (args := [.pointer none, I6 a1, I6 a2]) func15 z ntmps15 (Nat.le_of_ble_eq_true z) ?_
 refine wp_seq (wrl (wv (.bool false) z z z (wl_nil (tn (wp_seq (wrl (wv (.pointer none) z z z (wv (.int .i64 a1) z z z ?_))))))))
 replace hst := hst.objO_nil at_label_Lattice
 obtain ⟨t281, ht282, hm⟩ := bind_some hm
 refine wc call23 [.pointer none, I6 a1] z z z ?_
 refine (label_Lattice_Is_ref hst.to1 ht282).mono ?_
 rintro _ w283 ⟨rfl, hst⟩
 refine ⟨_, z, ?_⟩
 replace hst := hst.of1
 refine wv (.bool t281) z z z ?_
 refine bsplit t281 (fun hc286 => ?_) (fun hc286 => ?_)
 {
 replace hm := bif_t hc286 hm
 refine wv (.pointer none) ((wanted_eq z z z (cvb hc286)).trans z) z z (wv (.int .i64 a2) ((wanted_eq z z z (cvb hc286)).trans z) z z ?_)
 replace hst := hst.objO_nil at_label_Lattice
 obtain ⟨t288, ht289, hm⟩ := bind_some hm
 refine wl_call ((wanted_eq z z z (cvb hc286)).trans z) z (x_call call23 z (vs := [.pointer none, I6 a2]) z) ?_
 refine (label_Lattice_Is_ref hst.to1 ht289).mono ?_
 rintro _ w290 ⟨rfl, hst⟩
 refine ⟨_, z, ?_⟩
 replace hst := hst.of1
 refine wv (.bool t288) z z (x_pick_t hc286 z z) (wv (.bool t288) z z z ?_)
 refine bsplit t288 (fun hc293 => ?_) (fun hc293 => ?_)
 {
 replace hm := bif_t hc293 hm
 refine wv (.pointer none) ((wanted_eq z z z (cvb hc293)).trans z) z z ?_
 cases hm
}
 {
 replace hm := bif_f hc293 hm
 refine wo hc293 z z z z z z (wo hc293 z z z z z z (wo hc293 z z z z z z (wo hc293 z z z z z z (wo hc293 z z z z z z (wo hc293 z z z z z z (wo hc293 z z z z z z (wo hc293 z z z z z z (wo hc293 z z z z z z (wo hc293 z z z z z z (wo hc293 z z z z z z (wv (.bool false) z z (x_pick_f hc293 z z) (wv (.bool false) z z z ?_))))))))))))
 refine wl_nil (tn (wp_ret ?_))
 replace hst := hst.objO_nil at_label_Lattice
 obtain rfl := some_inj hm
 refine post_ret (vs := [.bool false]) results15 (rvs_cons (rv_tmp z) rvs_nil) ?_
 exact ⟨z, hst.keep1⟩
}
}
 {
 replace hm := bif_f hc286 hm
 refine wo hc286 z z z z z z (wo hc286 z z z z z z (wo hc286 z z z z z z (wv (.bool false) z z (x_pick_f hc286 z z) (wv (.bool false) z z z (wz z z z z z z (wz z z z z z z (wz z z z z z z (wz z z z z z z (wz z z z z z z (wz z z z z z z (wz z z z z z z (wz z z z z z z ?_))))))))))))
 refine wz z z z z z z (wz z z z z z z (wz z z z z z z (wv (.bool false) z z (x_pick_f z z z) (wv (.bool false) z z z (wl_nil (tn (wp_ret ?_)))))))
 replace hst := hst.objO_nil at_label_Lattice
 obtain rfl := some_inj hm
 refine post_ret (vs := [.bool false]) results15 (rvs_cons (rv_tmp z) rvs_nil) ?_
 exact ⟨z, hst.keep1⟩
}
}
 {
 replace hst := objO_get hst
 dsimp only [label_Lattice_Leq] at hm
 refine calls_start (args := [p0, I6 a1, I6 a2]) func15 z ntmps15 (Nat.le_of_ble_eq_true z) ?_
 refine wp_seq (wrl (wv (.bool false) z z z (wl_nil (tn (wp_seq (wrl (wv (p0) z z z (wv (.int .i64 a1) z z z ?_))))))))
 replace hst := objO_some hst
 obtain ⟨t294, ht295, hm⟩ := bind_some hm
 refine wc call23 [p0, I6 a1] z z z ?_
 refine (label_Lattice_Is_ref hst.to1 ht295).mono ?_
 rintro _ w296 ⟨rfl, hst⟩
 refine ⟨_, z, ?_⟩
 replace hst := hst.of1
 replace hst := objO_get hst
 refine wv (.bool t294) z z z ?_
 refine bsplit t294 (fun hc299 => ?_) (fun hc299 => ?_)
 {
 replace hm := bif_t hc299 hm
 refine wv (p0) ((wanted_eq z z z (cvb hc299)).trans z) z z (wv (.int .i64 a2) ((wanted_eq z z z (cvb hc299)).trans z) z z ?_)
 replace hst := objO_some hst
 obtain ⟨t300, ht301, hm⟩ := bind_some hm
 refine wl_call ((wanted_eq z z z (cvb hc299)).trans z) z (x_call call23 z (vs := [p0, I6 a2]) z) ?_
 refine (label_Lattice_Is_ref hst.to1 ht301).mono ?_
 rintro _ w302 ⟨rfl, hst⟩
 refine ⟨_, z, ?_⟩
 replace hst := hst.of1
 replace hst := objO_get hst
 refine wv (.bool t300) z z (x_pick_t hc299 z z) (wv (.bool t300) z z z ?_)
 refine bsplit t300 (fun hc305 => ?_) (fun hc305 => ?_)
 {
 replace hm := bif_t hc305 hm
 refine wv (p0) ((wanted_eq z z z (cvb hc305)).trans z) z z ?_
 obtain ⟨b306, v307, v309, v311, v313, v315, v317, rfl, hst'⟩ := at_label_Lattice_open hst
 clear hst
 have hst := hst'
 clear hst'
 refine wv (Pt b306 0) ((wanted_eq z z z (cvb hc305)).trans z) z z (wv (Pt b306 0) ((wanted_eq z z z (cvb hc305)).trans z) z (x_field z underlying49 z sizeOf28 z) (wv (v307) ((wanted_eq z z z (cvb hc305)).trans z) z (x_load z isAgg28 (hst.bc0 z)) (wv (.int .i64 a1) ((wanted_eq z z z (cvb hc305)).trans z) z z ?_)))
 obtain ⟨x319, hx320, hm⟩ := bind_some hm
 obtain ⟨h321, h322, hi323⟩ := geto_some hx320
 refine wv (.pointer (some (eAddr v307 (a1.toNat * 1 + 0)))) ((wanted_eq z z z (cvb hc305)).trans z) z (x_index z z underlying28 sizeOf43 hst.sv1 h321 h322) (wv (.int .u64 x319) ((wanted_eq z z z (cvb hc305)).trans z) z (x_load z isAgg43 (hst.ol1 hi323 (by rintro _ rfl; rfl))) (wv (.int .i64 a2) ((wanted_eq z z z (cvb hc305)).trans z) z z ?_))
 obtain ⟨hg324, hm⟩ := gd_some hm
 refine wv (.int .u64 (iShr .u64 x319 a2)) ((wanted_eq z z z (cvb hc305)).trans z) z (x_shr (of_decide_eq_true hg324) z z) (wv (.int .u64 (bAnd .u64 (iShr .u64 x319 a2) (1:Int))) ((wanted_eq z z z (cvb hc305)).trans z) z z (wv (.bool ((bAnd .u64 (iShr .u64 x319 a2) (1:Int)) == (1:Int))) ((wanted_eq z z z (cvb hc305)).trans z) z z (wv (.bool ((bAnd .u64 (iShr .u64 x319 a2) (1:Int)) == (1:Int))) z z (x_pick_t hc305 z z) (wv (.bool ((bAnd .u64 (iShr .u64 x319 a2) (1:Int)) == (1:Int))) z z z (wl_nil (tn (wp_ret ?_)))))))
 replace hst := hst.pull6.pull6.pull6.pull6.pull6.pull6.pull6
 replace hst := at_label_Lattice_close (pv := Pt b306 0) (x := o0) hst z
 replace hst := objO_some hst
 obtain rfl := some_inj hm
 refine post_ret (vs := [.bool ((bAnd .u64 (iShr .u64 x319 a2) (1:Int)) == (1:Int))]) results15 (rvs_cons (rv_tmp z) rvs_nil) ?_
 exact ⟨z, hst.keep1⟩
}
 {
 replace hm := bif_f hc305 hm
 refine wo hc305 z z z z z z (wo hc305 z z z z z z (wo hc305 z z z z z z (wo hc305 z z z z z z (wo hc305 z z z z z z (wo hc305 z z z z z z (wo hc305 z z z z z z (wo hc305 z z z z z z (wo hc305 z z z z z z (wo hc305 z z z z z z (wo hc305 z z z z z z (wv (.bool false) z z (x_pick_f hc305 z z) (wv (.bool false) z z z ?_))))))))))))
 refine wl_nil (tn (wp_ret ?_))
 replace hst := objO_some hst
 obtain rfl := some_inj hm
 refine post_ret (vs := [.bool false]) results15 (rvs_cons (rv_tmp z) rvs_nil) ?_
 exact ⟨z, hst.keep1⟩
}
}
 {
 replace hm := bif_f hc299 hm
 refine wo hc299 z z z z z z (wo hc299 z z z z z z (wo hc299 z z z z z z (wv (.bool false) z z (x_pick_f hc299 z z) (wv (.bool false) z z z (wz z z z z z z (wz z z z z z z (wz z z z z z z (wz z z z z z z (wz z z z z z z (wz z z z z z z (wz z z z z z z (wz z z z z z z ?_))))))))))))
 refine wz z z z z z z (wz z z z z z z (wz z z z z z z (wv (.bool false) z z (x_pick_f z z z) (wv (.bool false) z z z (wl_nil (tn (wp_ret ?_)))))))
 replace hst := objO_some hst
 obtain rfl := some_inj hm
 refine post_ret (vs := [.bool false]) results15 (rvs_cons (rv_tmp z) rvs_nil) ?_
 exact ⟨z, hst.keep1⟩
}
}
}

theorem ref03_Join_ref {w0 w : World} {I : HL} {R : SP} {a0 : (List Int)} {r0_0 : Value} {a1 : Int} {a2 : Int} (f0_0 : Rd (tyInt .u64) R I r0_0 a0) (hst : St w0 w I [] R) {r : (Int)} (hm : ref03_Join a0 a1 a2 = some r) :
  Calls prog 33 #[r0_0, I6 a1, I6 a2] w fun e w' => e = .returned (.int .i64 r) ∧ St w0 w' I [] R := by {
 unfold ref03_Join at hm
 refine calls_start (args := [r0_0, I6 a1, I6 a2]) func33 z ntmps33 (Nat.le_of_ble_eq_true z) ?_
 refine wp_seq (wrl (wv (.int .i64 (0:Int)) z z z (wl_nil (tn (wp_seq (wp_seq (wrl (wv (.int .i64 (0:Int)) z z z (wl_nil (tn (wp_block ?_)))))))))))
 obtain ⟨n718, hm⟩ := loopO_some hm
 refine wp_loop_n (fun n a w => ∃ (z716 : Int) (σ717 : Nat → Value), loopN (ref03_Join_l0 a0 a1 a2) n z716 = some r ∧ a = Fr 54 (upd (upd (upd (upd σ717 0 (r0_0)) 1 (.int .i64 a1)) 2 (.int .i64 a2)) 7 (.int .i64 z716)) ∧ St w0 w I [] R) n718 ⟨(0:Int), _, hm, (fu 0 r0_0 z (fu 1 (.int .i64 a1) z (fu 2 (.int .i64 a2) z (fu 7 (.int .i64 (0:Int)) z z)))), hst⟩ ?_
 rintro n724 _ w719 ⟨z716, σ717, hm, rfl, hst⟩
 obtain ⟨n721, y722, rfl, hm, hx723⟩ := loopN_some hm
 dsimp only [ref03_Join_l0] at hm
 refine wp_seq (wp_seq (wrl (wv (.int .i64 z716) z z z (wv (r0_0) z z z (wv (.int .i64 ((a0).length : Int)) z z (x_len z underlying28 (rd_sliceV f0_0)) (wv (.bool (decide (z716 < ((a0).length : Int)))) z z z (wl_nil (tn ?_))))))))
 refine bsplit (decide (z716 < ((a0).length : Int))) (fun hc725 => ?_) (fun hc725 => ?_)
 {
 replace hm := bif_t hc725 hm
 refine wp_ift (cvb hc725) ?_
 refine wp_skip (tn (wp_seq (wp_block ?_)))
 obtain ⟨y740, hm, hx741⟩ := bind_some hm
 refine wp_cut (fun a w => ∃ (z737 : Bool) (σ738 : Nat → Value), (ref03_Join_j1 a0 a1 a2 z716) z737 = some y722 ∧ a = Fr 54 (upd (upd (upd (upd (upd σ738 0 (r0_0)) 1 (.int .i64 a1)) 2 (.int .i64 a2)) 7 (.int .i64 z716)) 8 (.bool z737)) ∧ St w0 w I [] R) ?_ ?_
 {
 refine wrl (wv (r0_0) z z z (wv (.int .i64 a1) z z z (wv (.int .i64 z716) z z z ?_)))
 obtain ⟨t726, ht727, hm⟩ := bind_some hm
 refine wc call32 [r0_0, I6 a1, I6 z716] z z z ?_
 refine (ref03_Leq_ref (f0_0.mono (rd_weak _)) hst.to0 ht727).mono ?_
 rintro _ w728 ⟨rfl, hst⟩
 refine ⟨_, z, ?_⟩
 replace hst := hst.of0
 refine wv (.bool t726) z z z ?_
 refine bsplit t726 (fun hc731 => ?_) (fun hc731 => ?_)
 {
 replace hm := bif_t hc731 hm
 refine wv (r0_0) ((wanted_eq z z z (cvb hc731)).trans z) z z (wv (.int .i64 a2) ((wanted_eq z z z (cvb hc731)).trans z) z z (wv (.int .i64 z716) ((wanted_eq z z z (cvb hc731)).trans z) z z ?_))
 obtain ⟨t732, ht733, hm⟩ := bind_some hm
 refine wl_call ((wanted_eq z z z (cvb hc731)).trans z) z (x_call call32 z (vs := [r0_0, I6 a2, I6 z716]) z) ?_
 refine (ref03_Leq_ref (f0_0.mono (rd_weak _)) hst.to0 ht733).mono ?_
 rintro _ w734 ⟨rfl, hst⟩
 refine ⟨_, z, ?_⟩
 replace hst := hst.of0
 refine wv (.bool t732) z z (x_pick_t hc731 z z) (wv (.bool t732) z z z (wl_nil (tn ?_)))
 replace hst := hst.keep0
 obtain rfl := some_inj hm
 exact ⟨t732, _, hx741, (fu 0 r0_0 z (fu 1 (.int .i64 a1) z (fu 2 (.int .i64 a2) z (fu 7 (.int .i64 z716) z (fu 8 (.bool t732) z z))))), hst⟩
}
 {
 replace hm := bif_f hc731 hm
 refine wo hc731 z z z z z z (wo hc731 z z z z z z (wo hc731 z z z z z z (wo hc731 z z z z z z (wv (.bool false) z z (x_pick_f hc731 z z) (wv (.bool false) z z z (wl_nil (tn ?_)))))))
 replace hst := hst.keep0
 obtain rfl := some_inj hm
 exact ⟨false, _, hx741, (fu 0 r0_0 z (fu 1 (.int .i64 a1) z (fu 2 (.int .i64 a2) z (fu 7 (.int .i64 z716) z (fu 8 (.bool false) z z))))), hst⟩
}
}
 {
 clear hst
 rintro _ w742 ⟨z737, σ738, hm, rfl, hst⟩
 dsimp only [ref03_Join_j1] at hm
 refine wp_seq (wp_seq (wrl (wv (.int .i64 (0:Int)) z z z (wl_nil (tn (wp_block ?_))))))
 obtain ⟨n788, hm⟩ := loopO_some hm
 refine wp_loop_n (fun n a w => ∃ (z785 : Bool) (z786 : Int) (σ787 : Nat → Value), loopN (ref03_Join_l2 a0 a1 a2 z716) n (z785, z786) = some y722 ∧ a = Fr 54 (upd (upd (upd (upd (upd (upd σ787 0 (r0_0)) 1 (.int .i64 a1)) 2 (.int .i64 a2)) 7 (.int .i64 z716)) 8 (.bool z785)) 9 (.int .i64 z786)) ∧ St w0 w I [] R) n788 ⟨z737, (0:Int), _, hm, (fu 0 r0_0 z (fu 1 (.int .i64 a1) z (fu 2 (.int .i64 a2) z (fu 7 (.int .i64 z716) z (fu 8 (.bool z737) z (fu 9 (.int .i64 (0:Int)) z z)))))), hst⟩ ?_
 rintro n794 _ w789 ⟨z785, z786, σ787, hm, rfl, hst⟩
 obtain ⟨n791, y792, rfl, hm, hx793⟩ := loopN_some hm
 dsimp only [ref03_Join_l2] at hm
 refine wp_seq (wp_seq (wrl (wv (.int .i64 z786) z z z (wv (r0_0) z z z (wv (.int .i64 ((a0).length : Int)) z z (x_len z underlying28 (rd_sliceV f0_0)) (wv (.bool (decide (z786 < ((a0).length : Int)))) z z z (wv (.bool (decide (z786 < ((a0).length : Int)))) z z z ?_)))))))
 refine bsplit (decide (z786 < ((a0).length : Int))) (fun hc795 => ?_) (fun hc795 => ?_)
 {
 replace hm := bif_t hc795 hm
 refine wv (.bool z785) ((wanted_eq z z z (cvb hc795)).trans z) z z (wv (.bool z785) z z (x_pick_t hc795 z z) (wl_nil (tn ?_)))
 refine bsplit z785 (fun hc796 => ?_) (fun hc796 => ?_)
 {
 replace hm := bif_t hc796 hm
 refine wp_ift (cvb hc796) ?_
 refine wp_skip (tn (wp_seq (wp_block (wp_seq (wrl ?_)))))
 refine wv (r0_0) z z z (wv (.int .i64 a1) z z z (wv (.int .i64 z786) z z z ?_))
 obtain ⟨t797, ht798, hm⟩ := bind_some hm
 refine wc call32 [r0_0, I6 a1, I6 z786] z z z ?_
 refine (ref03_Leq_ref (f0_0.mono (rd_weak _)) hst.to0 ht798).mono ?_
 rintro _ w799 ⟨rfl, hst⟩
 refine ⟨_, z, ?_⟩
 replace hst := hst.of0
 refine wv (.bool t797) z z z ?_
 refine bsplit t797 (fun hc802 => ?_) (fun hc802 => ?_)
 {
 replace hm := bif_t hc802 hm
 refine wv (r0_0) ((wanted_eq z z z (cvb hc802)).trans z) z z (wv (.int .i64 a2) ((wanted_eq z z z (cvb hc802)).trans z) z z (wv (.int .i64 z786) ((wanted_eq z z z (cvb hc802)).trans z) z z ?_))
 obtain ⟨t803, ht804, hm⟩ := bind_some hm
 refine wl_call ((wanted_eq z z z (cvb hc802)).trans z) z (x_call call32 z (vs := [r0_0, I6 a2, I6 z786]) z) ?_
 refine (ref03_Leq_ref (f0_0.mono (rd_weak _)) hst.to0 ht804).mono ?_
 rintro _ w805 ⟨rfl, hst⟩
 refine ⟨_, z, ?_⟩
 replace hst := hst.of0
 refine wv (.bool t803) z z (x_pick_t hc802 z z) (wv (.bool t803) z z z ?_)
 refine bsplit t803 (fun hc808 => ?_) (fun hc808 => ?_)
 {
 replace hm := bif_t hc808 hm
 refine wv (r0_0) ((wanted_eq z z z (cvb hc808)).trans z) z z (wv (.int .i64 z716) ((wanted_eq z z z (cvb hc808)).trans z) z z (wv (.int .i64 z786) ((wanted_eq z z z (cvb hc808)).trans z) z z ?_))
 obtain ⟨t809, ht810, hm⟩ := bind_some hm
 refine wl_call ((wanted_eq z z z (cvb hc808)).trans z) z (x_call call32 z (vs := [r0_0, I6 z716, I6 z786]) z) ?_
 refine (ref03_Leq_ref (f0_0.mono (rd_weak _)) hst.to0 ht810).mono ?_
 rintro _ w811 ⟨rfl, hst⟩
 refine ⟨_, z, ?_⟩
 replace hst := hst.of0
 refine wv (.bool (!t809)) ((wanted_eq z z z (cvb hc808)).trans z) z z (wv (.bool (!t809)) z z (x_pick_t hc808 z z) (wl_nil (tn ?_)))
 refine bsplit (!t809) (fun hc814 => ?_) (fun hc814 => ?_)
 {
 replace hm := bif_t hc814 hm
 refine wp_ift (cvb hc814) ?_
 refine wrl (wv (.bool false) z z z (wl_nil (blk_n (tn (wrl (wv (.int .i64 z786) z z z (wv (.int .i64 (i64.wrap (z786 + (1:Int)))) z z z (wv (.int .i64 (i64.wrap (z786 + (1:Int)))) z z z (wl_nil (tn ?_))))))))))
 replace hst := hst.keep0
 obtain rfl := some_inj hm
 exact ⟨_, Nat.lt_succ_self _, false, (i64.wrap (z786 + (1:Int))), _, hx793, (fu 0 r0_0 z (fu 1 (.int .i64 a1) z (fu 2 (.int .i64 a2) z (fu 7 (.int .i64 z716) z (fu 8 (.bool false) z (fu 9 (.int .i64 (i64.wrap (z786 + (1:Int)))) z z)))))), hst⟩
}
 {
 replace hm := bif_f hc814 hm
 refine wp_iff (cvb hc814) ?_
 refine wp_skip (blk_n (tn (wrl ?_)))
 refine wv (.int .i64 z786) z z z (wv (.int .i64 (i64.wrap (z786 + (1:Int)))) z z z (wv (.int .i64 (i64.wrap (z786 + (1:Int)))) z z z (wl_nil (tn ?_))))
 replace hst := hst.keep0
 obtain rfl := some_inj hm
 exact ⟨_, Nat.lt_succ_self _, z785, (i64.wrap (z786 + (1:Int))), _, hx793, (fu 0 r0_0 z (fu 1 (.int .i64 a1) z (fu 2 (.int .i64 a2) z (fu 7 (.int .i64 z716) z (fu 8 (.bool z785) z (fu 9 (.int .i64 (i64.wrap (z786 + (1:Int)))) z z)))))), hst⟩
}
}
 {
 replace hm := bif_f hc808 hm
 refine wo hc808 z z z z z z (wo hc808 z z z z z z (wo hc808 z z z z z z (wo hc808 z z z z z z (wo hc808 z z z z z z (wv (.bool false) z z (x_pick_f hc808 z z) (wl_nil (tn ?_)))))))
 refine wp_iff z ?_
 refine wp_skip (blk_n (tn (wrl ?_)))
 refine wv (.int .i64 z786) z z z (wv (.int .i64 (i64.wrap (z786 + (1:Int)))) z z z (wv (.int .i64 (i64.wrap (z786 + (1:Int)))) z z z (wl_nil (tn ?_))))
 replace hst := hst.keep0
 obtain rfl := some_inj hm
 exact ⟨_, Nat.lt_succ_self _, z785, (i64.wrap (z786 + (1:Int))), _, hx793, (fu 0 r0_0 z (fu 1 (.int .i64 a1) z (fu 2 (.int .i64 a2) z (fu 7 (.int .i64 z716) z (fu 8 (.bool z785) z (fu 9 (.int .i64 (i64.wrap (z786 + (1:Int)))) z z)))))), hst⟩
}
}
 {
 replace hm := bif_f hc802 hm
 refine wo hc802 z z z z z z (wo hc802 z z z z z z (wo hc802 z z z z z z (wo hc802 z z z z z z (wv (.bool false) z z (x_pick_f hc802 z z) (wv (.bool false) z z z (wz z z z z z z (wz z z z z z z (wz z z z z z z (wz z z z z z z (wz z z z z z z (wv (.bool false) z z (x_pick_f z z z) (wl_nil (tn ?_)))))))))))))
 refine wp_iff z ?_
 refine wp_skip (blk_n (tn (wrl ?_)))
 refine wv (.int .i64 z786) z z z (wv (.int .i64 (i64.wrap (z786 + (1:Int)))) z z z (wv (.int .i64 (i64.wrap (z786 + (1:Int)))) z z z (wl_nil (tn ?_))))
 replace hst := hst.keep0
 obtain rfl := some_inj hm
 exact ⟨_, Nat.lt_succ_self _, z785, (i64.wrap (z786 + (1:Int))), _, hx793, (fu 0 r0_0 z (fu 1 (.int .i64 a1) z (fu 2 (.int .i64 a2) z (fu 7 (.int .i64 z716) z (fu 8 (.bool z785) z (fu 9 (.int .i64 (i64.wrap (z786 + (1:Int)))) z z)))))), hst⟩
}
}
 {
 replace hm := bif_f hc796 hm
 refine wp_iff (cvb hc796) ?_
 refine wp_exit (then_x (then_x ?_))
 replace hm := inr_up hm hx793
 refine blk_x (tn (wp_seq (wrl ?_)))
 refine wv (.bool z785) z z z (wl_nil (tn ?_))
 refine wp_iff (cvb hc796) ?_
 refine wp_skip (blk_n (tn (wrl ?_)))
 refine wv (.int .i64 z716) z z z (wv (.int .i64 (i64.wrap (z716 + (1:Int)))) z z z (wv (.int .i64 (i64.wrap (z716 + (1:Int)))) z z z (wl_nil (tn ?_))))
 replace hst := hst.keep0
 obtain rfl := some_inj hm
 exact ⟨_, Nat.lt_succ_self _, (i64.wrap (z716 + (1:Int))), _, hx723, (fu 0 r0_0 z (fu 1 (.int .i64 a1) z (fu 2 (.int .i64 a2) z (fu 7 (.int .i64 (i64.wrap (z716 + (1:Int)))) z z)))), hst⟩
}
}
 {
 replace hm := bif_f hc795 hm
 refine wo hc795 z z z z z z (wv (.bool false) z z (x_pick_f hc795 z z) (wl_nil (tn ?_)))
 refine wp_iff z ?_
 refine wp_exit (then_x (then_x ?_))
 replace hm := inr_up hm hx793
 refine blk_x (tn (wp_seq (wrl ?_)))
 refine wv (.bool z785) z z z (wl_nil (tn ?_))
 refine bsplit z785 (fun hc815 => ?_) (fun hc815 => ?_)
 {
 replace hm := bif_t hc815 hm
 refine wp_ift (cvb hc815) ?_
 refine wp_seq (wrl (wv (.int .i64 z716) z z z (wv (.int .i64 z716) z z z (wl_nil (tn (wp_ret (blk_r (then_r (then_r ?_)))))))))
 replace hm := inr_up hm hx723
 refine blk_r (then_r ?_)
 obtain rfl := some_inj hm
 refine post_ret (vs := [I6 z716]) results33 (rvs_cons (rv_tmp z) rvs_nil) ?_
 exact ⟨z, hst.keep0⟩
}
 {
 replace hm := bif_f hc815 hm
 refine wp_iff (cvb hc815) ?_
 refine wp_skip (blk_n (tn (wrl ?_)))
 refine wv (.int .i64 z716) z z z (wv (.int .i64 (i64.wrap (z716 + (1:Int)))) z z z (wv (.int .i64 (i64.wrap (z716 + (1:Int)))) z z z (wl_nil (tn ?_))))
 replace hst := hst.keep0
 obtain rfl := some_inj hm
 exact ⟨_, Nat.lt_succ_self _, (i64.wrap (z716 + (1:Int))), _, hx723, (fu 0 r0_0 z (fu 1 (.int .i64 a1) z (fu 2 (.int .i64 a2) z (fu 7 (.int .i64 (i64.wrap (z716 + (1:Int)))) z z)))), hst⟩
}
}
}
}
 {
 replace hm := bif_f hc725 hm
 refine wp_iff (cvb hc725) ?_
 refine wp_exit (then_x (then_x ?_))
 replace hm := inr_up hm hx723
 refine blk_x (tn (wp_seq (wrl ?_)))
 refine wv (.int .i64 ((-1):Int)) z z z (wl_nil (tn (wp_ret ?_)))
 obtain rfl := some_inj hm
 refine post_ret (vs := [I6 ((-1):Int)]) results33 (rvs_cons (rv_tmp z) rvs_nil) ?_
 exact ⟨z, hst.keep0⟩
}
}

theorem label_Lattice_Meet_ref {w0 w : World} {I : HL} {R : SP} {a0 : (Option label_Lattice)} {p0 : Value} {a1 : Int} {a2 : Int}  (hst : St w0 w I [objO at_label_Lattice p0 a0] R) {r : (Int)} (hm : label_Lattice_Meet a0 a1 a2 = some r) :
  Calls prog 14 #[p0, I6 a1, I6 a2] w fun e w' => e = .returned (.int .i64 r) ∧ St w0 w' I [objO at_label_Lattice p0 a0] R := by {
 rcases a0 with _ | o0
 {
 obtain ⟨rfl, hst'⟩ := objO_none hst
 clear hst
 have hst := hst'
 clear hst'
 dsimp only [label_Lattice_Meet] at hm
 refine calls_start (args := [.pointer none, I6 a1, I6 a2]) func14 z ntmps14 (Nat.le_of_ble_eq_true z) ?_
 refine wp_seq (wrl (wv (.int .i64 (0:Int)) z z z (wl_nil (tn (wp_seq (wp_seq (wrl (wv (.pointer none) z z z (wv (.int .i64 a1) z z z ?_)))))))))
 replace hst := hst.objO_nil at_label_Lattice
 obtain ⟨t314, ht315, hm⟩ := bind_some hm
 refine wc call23 [.pointer none, I6 a1] z z z ?_
 refine (label_Lattice_Is_ref hst.to1 ht315).mono ?_
 rintro _ w316 ⟨rfl, hst⟩
 refine ⟨_, z, ?_⟩
 replace hst := hst.of1
 refine wv (.bool (!t314)) z z z (wv (.bool (!t314)) z z z ?_)
 refine bsplit (!t314) (fun hc319 => ?_) (fun hc319 => ?_)
 {
 replace hm := bif_t hc319 hm
 refine wo hc319 z z z z z z (wo hc319 z z z z z z (wo hc319 z z z z z z (wo hc319 z z z z z z (wv (.bool true) z z (x_pick_t hc319 z z) (wl_nil (tn ?_))))))
 refine wp_ift z ?_
 refine wp_seq (wrl (wv (.int .i64 ((-1):Int)) z z z (wl_nil (tn (wp_ret (then_r ?_))))))
 replace hst := hst.objO_nil at_label_Lattice
 obtain rfl := some_inj hm
 refine post_ret (vs := [I6 ((-1):Int)]) results14 (rvs_cons (rv_tmp z) rvs_nil) ?_
 exact ⟨z, hst.keep1⟩
}
 {
 replace hm := bif_f hc319 hm
 refine wv (.pointer none) ((wanted_eq z z z (cvb hc319)).trans z) z z (wv (.int .i64 a2) ((wanted_eq z z z (cvb hc319)).trans z) z z ?_)
 replace hst := hst.objO_nil at_label_Lattice
 obtain ⟨t321, ht322, hm⟩ := bind_some hm
 refine wl_call ((wanted_eq z z z (cvb hc319)).trans z) z (x_call call23 z (vs := [.pointer none, I6 a2]) z) ?_
 refine (label_Lattice_Is_ref hst.to1 ht322).mono ?_
 rintro _ w323 ⟨rfl, hst⟩
 refine ⟨_, z, ?_⟩
 replace hst := hst.of1
 refine wv (.bool (!t321)) ((wanted_eq z z z (cvb hc319)).trans z) z z (wv (.bool (!t321)) z z (x_pick_f hc319 z z) (wl_nil (tn ?_)))
 refine bsplit (!t321) (fun hc326 => ?_) (fun hc326 => ?_)
 {
 replace hm := bif_t hc326 hm
 refine wp_ift (cvb hc326) ?_
 refine wp_seq (wrl (wv (.int .i64 ((-1):Int)) z z z (wl_nil (tn (wp_ret (then_r ?_))))))
 replace hst := hst.objO_nil at_label_Lattice
 obtain rfl := some_inj hm
 refine post_ret (vs := [I6 ((-1):Int)]) results14 (rvs_cons (rv_tmp z) rvs_nil) ?_
 exact ⟨z, hst.keep1⟩
}
 {
 replace hm := bif_f hc326 hm
 refine wp_iff (cvb hc326) ?_
 refine wp_skip (tn (wp_seq (wrl ?_)))
 refine wv (.pointer none) z z z ?_
 cases hm
}
}
}
 {
 replace hst := objO_get hst
 dsimp only [label_Lattice_Meet] at hm
 refine calls_start (args := [p0, I6 a1, I6 a2]) func14 z ntmps14 (Nat.le_of_ble_eq_true z) ?_
 refine wp_seq (wrl (wv (.int .i64 (0:Int)) z z z (wl_nil (tn (wp_seq (wp_seq (wrl (wv (p0) z z z (wv (.int .i64 a1) z z z ?_)))))))))
 replace hst := objO_some hst
 obtain ⟨t327, ht328, hm⟩ := bind_some hm
 refine wc call23 [p0, I6 a1] z z z ?_
 refine (label_Lattice_Is_ref hst.to1 ht328).mono ?_
 rintro _ w329 ⟨rfl, hst⟩
 refine ⟨_, z, ?_⟩
 replace hst := hst.of1
 replace hst := objO_get hst
 refine wv (.bool (!t327)) z z z (wv (.bool (!t327)) z z z ?_)
 refine bsplit (!t327) (fun hc332 => ?_) (fun hc332 => ?_)
 {
 replace hm := bif_t hc332 hm
 refine wo hc332 z z z z z z (wo hc332 z z z z z z (wo hc332 z z z z z z (wo hc332 z z z z z z (wv (.bool true) z z (x_pick_t hc332 z z) (wl_nil (tn ?_))))))
 refine wp_ift z ?_
 refine wp_seq (wrl (wv (.int .i64 ((-1):Int)) z z z (wl_nil (tn (wp_ret (then_r ?_))))))
 replace hst := objO_some hst
 obtain rfl := some_inj hm
 refine post_ret (vs := [I6 ((-1):Int)]) results14 (rvs_cons (rv_tmp z) rvs_nil) ?_
 exact ⟨z, hst.keep1⟩
}
 {
 replace hm := bif_f hc332 hm
 refine wv (p0) ((wanted_eq z z z (cvb hc332)).trans z) z z (wv (.int .i64 a2) ((wanted_eq z z z (cvb hc332)).trans z) z z ?_)
 replace hst := objO_some hst
 obtain ⟨t333, ht334, hm⟩ := bind_some hm
 refine wl_call ((wanted_eq z z z (cvb hc332)).trans z) z (x_call call23 z (vs := [p0, I6 a2]) z) ?_
 refine (label_Lattice_Is_ref hst.to1 ht334).mono ?_
 rintro _ w335 ⟨rfl, hst⟩
 refine ⟨_, z, ?_⟩
 replace hst := hst.of1
 replace hst := objO_get hst
 refine wv (.bool (!t333)) ((wanted_eq z z z (cvb hc332)).trans z) z z (wv (.bool (!t333)) z z (x_pick_f hc332 z z) (wl_nil (tn ?_)))
 refine bsplit (!t333) (fun hc338 => ?_) (fun hc338 => ?_)
 {
 replace hm := bif_t hc338 hm
 refine wp_ift (cvb hc338) ?_
 refine wp_seq (wrl (wv (.int .i64 ((-1):Int)) z z z (wl_nil (tn (wp_ret (then_r ?_))))))
 replace hst := objO_some hst
 obtain rfl := some_inj hm
 refine post_ret (vs := [I6 ((-1):Int)]) results14 (rvs_cons (rv_tmp z) rvs_nil) ?_
 exact ⟨z, hst.keep1⟩
}
 {
 replace hm := bif_f hc338 hm
 refine wp_iff (cvb hc338) ?_
 refine wp_skip (tn (wp_seq (wrl ?_)))
 refine wv (p0) z z z ?_
 obtain ⟨b339, v340, v342, v344, v346, v348, v350, rfl, hst'⟩ := at_label_Lattice_open hst
 clear hst
 have hst := hst'
 clear hst'
 refine wv (Pt b339 0) z z z (wv (Pt b339 3) z z (x_field z underlying49 z sizeOf47 z) (wv (v346) z z (x_load z isAgg47 (hst.bc0 z)) (wv (.int .i64 a1) z z z ?_)))
 obtain ⟨x352, hx353, hm⟩ := bind_some hm
 obtain ⟨h354, h355, hi356⟩ := geto_some hx353
 refine wv (.pointer (some (eAddr v346 (a1.toNat * 1 + 0)))) z z (x_index z z underlying47 sizeOf41 hst.sv4 h354 h355) ?_
 obtain ⟨cs357, hr358, hc359⟩ := hst.og4 hi356
 obtain ⟨v360, rfl, f361, -⟩ := hr358
 refine wv (v360) z z (x_load z isAgg41 (hc359 0 _ z)) (wv (.int .i64 a2) z z z ?_)
 obtain ⟨x363, hx364, hm⟩ := bind_some hm
 obtain ⟨h365, h366, hi367⟩ := geto_some hx364
 refine wv (.pointer (some (eAddr v360 (a2.toNat * 1 + 0)))) z z (x_index z z underlying41 sizeOf3 (ro_sliceV f361) h365 h366) (wv (.int .i64 x363) z z (x_load z isAgg3 (ro_load f361 hst hi367 (by rintro _ rfl; rfl))) (wv (.int .i64 x363) z z z (wl_nil (tn (wp_ret ?_)))))
 replace hst := hst.pull6.pull6.pull6.pull6.pull6.pull6.pull6
 replace hst := at_label_Lattice_close (pv := Pt b339 0) (x := o0) hst z
 replace hst := objO_some hst
 obtain rfl := some_inj hm
 refine post_ret (vs := [I6 x363]) results14 (rvs_cons (rv_tmp z) rvs_nil) ?_
 exact ⟨z, hst.keep1⟩
}
}
}
}

theorem ref03_Meet_ref {w0 w : World} {I : HL} {R : SP} {a0 : (List Int)} {r0_0 : Value} {a1 : Int} {a2 : Int} (f0_0 : Rd (tyInt .u64) R I r0_0 a0) (hst : St w0 w I [] R) {r : (Int)} (hm : ref03_Meet a0 a1 a2 = some r) :
  Calls prog 34 #[r0_0, I6 a1, I6 a2] w fun e w' => e = .returned (.int .i64 r) ∧ St w0 w' I [] R := by {
 unfold ref03_Meet at hm
 refine calls_start (args := [r0_0, I6 a1, I6 a2]) func34 z ntmps34 (Nat.le_of_ble_eq_true z) ?_
 refine wp_seq (wrl (wv (.int .i64 (0:Int)) z z z (wl_nil (tn (wp_seq (wp_seq (wrl (wv (.int .i64 (0:Int)) z z z (wl_nil (tn (wp_block ?_)))))))))))
 obtain ⟨n729, hm⟩ := loopO_some hm
 refine wp_loop_n (fun n a w => ∃ (z727 : Int) (σ728 : Nat → Value), loopN (ref03_Meet_l0 a0 a1 a2) n z727 = some r ∧ a = Fr 54 (upd (upd (upd (upd σ728 0 (r0_0)) 1 (.int .i64 a1)) 2 (.int .i64 a2)) 7 (.int .i64 z727)) ∧ St w0 w I [] R) n729 ⟨(0:Int), _, hm, (fu 0 r0_0 z (fu 1 (.int .i64 a1) z (fu 2 (.int .i64 a2) z (fu 7 (.int .i64 (0:Int)) z z)))), hst⟩ ?_
 rintro n735 _ w730 ⟨z727, σ728, hm, rfl, hst⟩
 obtain ⟨n732, y733, rfl, hm, hx734⟩ := loopN_some hm
 dsimp only [ref03_Meet_l0] at hm
 refine wp_seq (wp_seq (wrl (wv (.int .i64 z727) z z z (wv (r0_0) z z z (wv (.int .i64 ((a0).length : Int)) z z (x_len z underlying28 (rd_sliceV f0_0)) (wv (.bool (decide (z727 < ((a0).length : Int)))) z z z (wl_nil (tn ?_))))))))
 refine bsplit (decide (z727 < ((a0).length : Int))) (fun hc736 => ?_) (fun hc736 => ?_)
 {
 replace hm := bif_t hc736 hm
 refine wp_ift (cvb hc736) ?_
 refine wp_skip (tn (wp_seq (wp_block ?_)))
 obtain ⟨y751, hm, hx752⟩ := bind_some hm
 refine wp_cut (fun a w => ∃ (z748 : Bool) (σ749 : Nat → Value), (ref03_Meet_j1 a0 a1 a2 z727) z748 = some y733 ∧ a = Fr 54 (upd (upd (upd (upd (upd σ749 0 (r0_0)) 1 (.int .i64 a1)) 2 (.int .i64 a2)) 7 (.int .i64 z727)) 8 (.bool z748)) ∧ St w0 w I [] R) ?_ ?_
 {
 refine wrl (wv (r0_0) z z z (wv (.int .i64 z727) z z z (wv (.int .i64 a1) z z z ?_)))
 obtain ⟨t737, ht738, hm⟩ := bind_some hm
 refine wc call32 [r0_0, I6 z727, I6 a1] z z z ?_
 refine (ref03_Leq_ref (f0_0.mono (rd_weak _)) hst.to0 ht738).mono ?_
 rintro _ w739 ⟨rfl, hst⟩
 refine ⟨_, z, ?_⟩
 replace hst := hst.of0
 refine wv (.bool t737) z z z ?_
 refine bsplit t737 (fun hc742 => ?_) (fun hc742 => ?_)
 {
 replace hm := bif_t hc742 hm
 refine wv (r0_0) ((wanted_eq z z z (cvb hc742)).trans z) z z (wv (.int .i64 z727) ((wanted_eq z z z (cvb hc742)).trans z) z z (wv (.int .i64 a2) ((wanted_eq z z z (cvb hc742)).trans z) z z ?_))
 obtain ⟨t743, ht744, hm⟩ := bind_some hm
 refine wl_call ((wanted_eq z z z (cvb hc742)).trans z) z (x_call call32 z (vs := [r0_0, I6 z727, I6 a2]) z) ?_
 refine (ref03_Leq_ref (f0_0.mono (rd_weak _)) hst.to0 ht744).mono ?_
 rintro _ w745 ⟨rfl, hst⟩
 refine ⟨_, z, ?_⟩
 replace hst := hst.of0
 refine wv (.bool t743) z z (x_pick_t hc742 z z) (wv (.bool t743) z z z (wl_nil (tn ?_)))
 replace hst := hst.keep0
 obtain rfl := some_inj hm
 exact ⟨t743, _, hx752, (fu 0 r0_0 z (fu 1 (.int .i64 a1) z (fu 2 (.int .i64 a2) z (fu 7 (.int .i64 z727) z (fu 8 (.bool t743) z z))))), hst⟩
}
 {
 replace hm := bif_f hc742 hm
 refine wo hc742 z z z z z z (wo hc742 z z z z z z (wo hc742 z z z z z z (wo hc742 z z z z z z (wv (.bool false) z z (x_pick_f hc742 z z) (wv (.bool false) z z z (wl_nil (tn ?_)))))))
 replace hst := hst.keep0
 obtain rfl := some_inj hm
 exact ⟨false, _, hx752, (fu 0 r0_0 z (fu 1 (.int .i64 a1) z (fu 2 (.int .i64 a2) z (fu 7 (.int .i64 z727) z (fu 8 (.bool false) z z))))), hst⟩
}
}
 {
 clear hst
 rintro _ w753 ⟨z748, σ749, hm, rfl, hst⟩
 dsimp only [ref03_Meet_j1] at hm
 refine wp_seq (wp_seq (wrl (wv (.int .i64 (0:Int)) z z z (wl_nil (tn (wp_block ?_))))))
 obtain ⟨n799, hm⟩ := loopO_some hm
 refine wp_loop_n (fun n a w => ∃ (z796 : Bool) (z797 : Int) (σ798 : Nat → Value), loopN (ref03_Meet_l2 a0 a1 a2 z727) n (z796, z797) = some y733 ∧ a = Fr 54 (upd (upd (upd (upd (upd (upd σ798 0 (r0_0)) 1 (.int .i64 a1)) 2 (.int .i64 a2)) 7 (.int .i64 z727)) 8 (.bool z796)) 9 (.int .i64 z797)) ∧ St w0 w I [] R) n799 ⟨z748, (0:Int), _, hm, (fu 0 r0_0 z (fu 1 (.int .i64 a1) z (fu 2 (.int .i64 a2) z (fu 7 (.int .i64 z727) z (fu 8 (.bool z748) z (fu 9 (.int .i64 (0:Int)) z z)))))), hst⟩ ?_
 rintro n805 _ w800 ⟨z796, z797, σ798, hm, rfl, hst⟩
 obtain ⟨n802, y803, rfl, hm, hx804⟩ := loopN_some hm
 dsimp only [ref03_Meet_l2] at hm
 refine wp_seq (wp_seq (wrl (wv (.int .i64 z797) z z z (wv (r0_0) z z z (wv (.int .i64 ((a0).length : Int)) z z (x_len z underlying28 (rd_sliceV f0_0)) (wv (.bool (decide (z797 < ((a0).length : Int)))) z z z (wv (.bool (decide (z797 < ((a0).length : Int)))) z z z ?_)))))))
 refine bsplit (decide (z797 < ((a0).length : Int))) (fun hc806 => ?_) (fun hc806 => ?_)
 {
 replace hm := bif_t hc806 hm
 refine wv (.bool z796) ((wanted_eq z z z (cvb hc806)).trans z) z z (wv (.bool z796) z z (x_pick_t hc806 z z) (wl_nil (tn ?_)))
 refine bsplit z796 (fun hc807 => ?_) (fun hc807 => ?_)
 {
 replace hm := bif_t hc807 hm
 refine wp_ift (cvb hc807) ?_
 refine wp_skip (tn (wp_seq (wp_block (wp_seq (wrl ?_)))))
 refine wv (r0_0) z z z (wv (.int .i64 z797) z z z (wv (.int .i64 a1) z z z ?_))
 obtain ⟨t808, ht809, hm⟩ := bind_some hm
 refine wc call32 [r0_0, I6 z797, I6 a1] z z z ?_
 refine (ref03_Leq_ref (f0_0.mono (rd_weak _)) hst.to0 ht809).mono ?_
 rintro _ w810 ⟨rfl, hst⟩
 refine ⟨_, z, ?_⟩
 replace hst := hst.of0
 refine wv (.bool t808) z z z ?_
 refine bsplit t808 (fun hc813 => ?_) (fun hc813 => ?_)
 {
 replace hm := bif_t hc813 hm
 refine wv (r0_0) ((wanted_eq z z z (cvb hc813)).trans z) z z (wv (.int .i64 z797) ((wanted_eq z z z (cvb hc813)).trans z) z z (wv (.int .i64 a2) ((wanted_eq z z z (cvb hc813)).trans z) z z ?_))
 obtain ⟨t814, ht815, hm⟩ := bind_some hm
 refine wl_call ((wanted_eq z z z (cvb hc813)).trans z) z (x_call call32 z (vs := [r0_0, I6 z797, I6 a2]) z) ?_
 refine (ref03_Leq_ref (f0_0.mono (rd_weak _)) hst.to0 ht815).mono ?_
 rintro _ w816 ⟨rfl, hst⟩
 refine ⟨_, z, ?_⟩
 replace hst := hst.of0
 refine wv (.bool t814) z z (x_pick_t hc813 z z) (wv (.bool t814) z z z ?_)
 refine bsplit t814 (fun hc819 => ?_) (fun hc819 => ?_)
 {
 replace hm := bif_t hc819 hm
 refine wv (r0_0) ((wanted_eq z z z (cvb hc819)).trans z) z z (wv (.int .i64 z797) ((wanted_eq z z z (cvb hc819)).trans z) z z (wv (.int .i64 z727) ((wanted_eq z z z (cvb hc819)).trans z) z z ?_))
 obtain ⟨t820, ht821, hm⟩ := bind_some hm
 refine wl_call ((wanted_eq z z z (cvb hc819)).trans z) z (x_call call32 z (vs := [r0_0, I6 z797, I6 z727]) z) ?_
 refine (ref03_Leq_ref (f0_0.mono (rd_weak _)) hst.to0 ht821).mono ?_
 rintro _ w822 ⟨rfl, hst⟩
 refine ⟨_, z, ?_⟩
 replace hst := hst.of0
 refine wv (.bool (!t820)) ((wanted_eq z z z (cvb hc819)).trans z) z z (wv (.bool (!t820)) z z (x_pick_t hc819 z z) (wl_nil (tn ?_)))
 refine bsplit (!t820) (fun hc825 => ?_) (fun hc825 => ?_)
 {
 replace hm := bif_t hc825 hm
 refine wp_ift (cvb hc825) ?_
 refine wrl (wv (.bool false) z z z (wl_nil (blk_n (tn (wrl (wv (.int .i64 z797) z z z (wv (.int .i64 (i64.wrap (z797 + (1:Int)))) z z z (wv (.int .i64 (i64.wrap (z797 + (1:Int)))) z z z (wl_nil (tn ?_))))))))))
 replace hst := hst.keep0
 obtain rfl := some_inj hm
 exact ⟨_, Nat.lt_succ_self _, false, (i64.wrap (z797 + (1:Int))), _, hx804, (fu 0 r0_0 z (fu 1 (.int .i64 a1) z (fu 2 (.int .i64 a2) z (fu 7 (.int .i64 z727) z (fu 8 (.bool false) z (fu 9 (.int .i64 (i64.wrap (z797 + (1:Int)))) z z)))))), hst⟩
}
 {
 replace hm := bif_f hc825 hm
 refine wp_iff (cvb hc825) ?_
 refine wp_skip (blk_n (tn (wrl ?_)))
 refine wv (.int .i64 z797) z z z (wv (.int .i64 (i64.wrap (z797 + (1:Int)))) z z z (wv (.int .i64 (i64.wrap (z797 + (1:Int)))) z z z (wl_nil (tn ?_))))
 replace hst := hst.keep0
 obtain rfl := some_inj hm
 exact ⟨_, Nat.lt_succ_self _, z796, (i64.wrap (z797 + (1:Int))), _, hx804, (fu 0 r0_0 z (fu 1 (.int .i64 a1) z (fu 2 (.int .i64 a2) z (fu 7 (.int .i64 z727) z (fu 8 (.bool z796) z (fu 9 (.int .i64 (i64.wrap (z797 + (1:Int)))) z z)))))), hst⟩
}
}
 {
 replace hm := bif_f hc819 hm
 refine wo hc819 z z z z z z (wo hc819 z z z z z z (wo hc819 z z z z z z (wo hc819 z z z z z z (wo hc819 z z z z z z (wv (.bool false) z z (x_pick_f hc819 z z) (wl_nil (tn ?_)))))))
 refine wp_iff z ?_
 refine wp_skip (blk_n (tn (wrl ?_)))
 refine wv (.int .i64 z797) z z z (wv (.int .i64 (i64.wrap (z797 + (1:Int)))) z z z (wv (.int .i64 (i64.wrap (z797 + (1:Int)))) z z z (wl_nil (tn ?_))))
 replace hst := hst.keep0
 obtain rfl := some_inj hm
 exact ⟨_, Nat.lt_succ_self _, z796, (i64.wrap (z797 + (1:Int))), _, hx804, (fu 0 r0_0 z (fu 1 (.int .i64 a1) z (fu 2 (.int .i64 a2) z (fu 7 (.int .i64 z727) z (fu 8 (.bool z796) z (fu 9 (.int .i64 (i64.wrap (z797 + (1:Int)))) z z)))))), hst⟩
}
}
 {
 replace hm := bif_f hc813 hm
 refine wo hc813 z z z z z z (wo hc813 z z z z z z (wo hc813 z z z z z z (wo hc813 z z z z z z (wv (.bool false) z z (x_pick_f hc813 z z) (wv (.bool false) z z z (wz z z z z z z (wz z z z z z z (wz z z z z z z (wz z z z z z z (wz z z z z z z (wv (.bool false) z z (x_pick_f z z z) (wl_nil (tn ?_)))))))))))))
 refine wp_iff z ?_
 refine wp_skip (blk_n (tn (wrl ?_)))
 refine wv (.int .i64 z797) z z z (wv (.int .i64 (i64.wrap (z797 + (1:Int)))) z z z (wv (.int .i64 (i64.wrap (z797 + (1:Int)))) z z z (wl_nil (tn ?_))))
 replace hst := hst.keep0
 obtain rfl := some_inj hm
 exact ⟨_, Nat.lt_succ_self _, z796, (i64.wrap (z797 + (1:Int))), _, hx804, (fu 0 r0_0 z (fu 1 (.int .i64 a1) z (fu 2 (.int .i64 a2) z (fu 7 (.int .i64 z727) z (fu 8 (.bool z796) z (fu 9 (.int .i64 (i64.wrap (z797 + (1:Int)))) z z)))))), hst⟩
}
}
 {
 replace hm := bif_f hc807 hm
 refine wp_iff (cvb hc807) ?_
 refine wp_exit (then_x (then_x ?_))
 replace hm := inr_up hm hx804
 refine blk_x (tn (wp_seq (wrl ?_)))
 refine wv (.bool z796) z z z (wl_nil (tn ?_))
 refine wp_iff (cvb hc807) ?_
 refine wp_skip (blk_n (tn (wrl ?_)))
 refine wv (.int .i64 z727) z z z (wv (.int .i64 (i64.wrap (z727 + (1:Int)))) z z z (wv (.int .i64 (i64.wrap (z727 + (1:Int)))) z z z (wl_nil (tn ?_))))
 replace hst := hst.keep0
 obtain rfl := some_inj hm
 exact ⟨_, Nat.lt_succ_self _, (i64.wrap (z727 + (1:Int))), _, hx734, (fu 0 r0_0 z (fu 1 (.int .i64 a1) z (fu 2 (.int .i64 a2) z (fu 7 (.int .i64 (i64.wrap (z727 + (1:Int)))) z z)))), hst⟩
}
}
 {
 replace hm := bif_f hc806 hm
 refine wo hc806 z z z z z z (wv (.bool false) z z (x_pick_f hc806 z z) (wl_nil (tn ?_)))
 refine wp_iff z ?_
 refine wp_exit (then_x (then_x ?_))
 replace hm := inr_up hm hx804
 refine blk_x (tn (wp_seq (wrl ?_)))
 refine wv (.bool z796) z z z (wl_nil (tn ?_))
 refine bsplit z796 (fun hc826 => ?_) (fun hc826 => ?_)
 {
 replace hm := bif_t hc826 hm
 refine wp_ift (cvb hc826) ?_
 refine wp_seq (wrl (wv (.int .i64 z727) z z z (wv (.int .i64 z727) z z z (wl_nil (tn (wp_ret (blk_r (then_r (then_r ?_)))))))))
 replace hm := inr_up hm hx734
 refine blk_r (then_r ?_)
 obtain rfl := some_inj hm
 refine post_ret (vs := [I6 z727]) results34 (rvs_cons (rv_tmp z) rvs_nil) ?_
 exact ⟨z, hst.keep0⟩
}
 {
 replace hm := bif_f hc826 hm
 refine wp_iff (cvb hc826) ?_
 refine wp_skip (blk_n (tn (wrl ?_)))
 refine wv (.int .i64 z727) z z z (wv (.int .i64 (i64.wrap (z727 + (1:Int)))) z z z (wv (.int .i64 (i64.wrap (z727 + (1:Int)))) z z z (wl_nil (tn ?_))))
 replace hst := hst.keep0
 obtain rfl := some_inj hm
 exact ⟨_, Nat.lt_succ_self _, (i64.wrap (z727 + (1:Int))), _, hx734, (fu 0 r0_0 z (fu 1 (.int .i64 a1) z (fu 2 (.int .i64 a2) z (fu 7 (.int .i64 (i64.wrap (z727 + (1:Int)))) z z)))), hst⟩
}
}
}
}
 {
 replace hm := bif_f hc736 hm
 refine wp_iff (cvb hc736) ?_
 refine wp_exit (then_x (then_x ?_))
 replace hm := inr_up hm hx734
 refine blk_x (tn (wp_seq (wrl ?_)))
 refine wv (.int .i64 ((-1):Int)) z z z (wl_nil (tn (wp_ret ?_)))
 obtain rfl := some_inj hm
 refine post_ret (vs := [I6 ((-1):Int)]) results34 (rvs_cons (rv_tmp z) rvs_nil) ?_
 exact ⟨z, hst.keep0⟩
}
}

theorem label_Lattice_Below_ref {w0 w : World} {I : HL} {R : SP} {a0 : (Option label_Lattice)} {p0 : Value} {a1 : Int}  (hst : St w0 w I [objO at_label_Lattice p0 a0] R) {r : ((List Int))} (hm : label_Lattice_Below a0 a1 = some r) :
  Calls prog 24 #[p0, I6 a1] w fun e w' => ∃ (q0_0 : Value), e = .returned (q0_0) ∧ St w0 w' I [ownS (tyInt .i64) q0_0 r, objO at_label_Lattice p0 a0] R := by {
 unfold label_Lattice_Below at hm
 refine calls_start (args := [p0, I6 a1]) func24 z ntmps24 (Nat.le_of_ble_eq_true z) ?_
 refine wp_seq (wrl (wv ((.slice none 0 0)) z z z (wl_nil (tn (wp_seq (wrl (wv ((.slice none 0 0)) z z z (wl_nil (tn (wp_seq (wp_seq (wrl (wv (p0) z z z ?_)))))))))))))
 obtain ⟨t648, ht649, hm⟩ := bind_some hm
 refine wc call12 [p0] z z z ?_
 refine (label_Lattice_Len_ref hst.to1 ht649).mono ?_
 rintro _ w650 ⟨rfl, hst⟩
 refine ⟨_, z, ?_⟩
 replace hst := hst.of1
 refine wv (.int .i64 (0:Int)) z z z (wl_nil (tn (wp_block ?_)))
 replace hst := hst.own_nil (tyInt .i64)
 obtain ⟨n713, hm⟩ := loopO_some hm
 refine wp_loop_n (fun n a w => ∃ (z708 : (List Int)) (z711 : Int) (v709 : Value) (σ712 : Nat → Value), loopN (label_Lattice_Below_l0 t648 a0 a1) n (z708, z711) = some r ∧ a = Fr 22 (upd (upd (upd (upd (upd σ712 0 (p0)) 1 (.int .i64 a1)) 5 (v709)) 8 (.int .i64 t648)) 9 (.int .i64 z711)) ∧ St w0 w I [ownS (tyInt .i64) v709 z708, objO at_label_Lattice p0 a0] R) n713 ⟨[], (0:Int), Zs, _, hm, (fu 0 p0 z (fu 1 (.int .i64 a1) z (fu 5 (.slice none 0 0) z (fu 8 (.int .i64 t648) z (fu 9 (.int .i64 (0:Int)) z z))))), hst⟩ ?_
 rintro n719 _ w714 ⟨z708, z711, v709, σ712, hm, rfl, hst⟩
 obtain ⟨n716, y717, rfl, hm, hx718⟩ := loopN_some hm
 dsimp only [label_Lattice_Below_l0] at hm
 refine wp_seq (wrl (wv (.bool (decide (z711 < t648))) z z z (wl_nil (tn (wp_seq ?_)))))
 refine bsplit (decide (z711 < t648)) (fun hc720 => ?_) (fun hc720 => ?_)
 {
 replace hm := bif_t hc720 hm
 refine wp_ift (cvb hc720) ?_
 refine wp_skip (tn (wp_seq (wp_block (wp_seq (wrl ?_)))))
 refine wv (.int .i64 z711) z z z (wv (.int .i64 z711) z z z (wl_nil (tn (wp_seq (wrl (wv (p0) z z z (wv (.int .i64 z711) z z z (wv (.int .i64 a1) z z z ?_))))))))
 replace hst := hst.pull1
 obtain ⟨t721, ht722, hm⟩ := bind_some hm
 refine wc call15 [p0, I6 z711, I6 a1] z z z ?_
 refine (label_Lattice_Leq_ref hst.to1 ht722).mono ?_
 rintro _ w723 ⟨rfl, hst⟩
 refine ⟨_, z, ?_⟩
 replace hst := hst.of1
 refine wl_nil (tn ?_)
 refine bsplit t721 (fun hc726 => ?_) (fun hc726 => ?_)
 {
 replace hm := bif_t hc726 hm
 refine wp_ift (cvb hc726) ?_
 refine wrl (wv (v709) z z z (wv (.int .i64 z711) z z z ?_))
 obtain ⟨b727, w728, ew729, eb730, hst⟩ := hst.lits (E := (tyInt .i64)) (xs := [z711]) [[I6 z711]] 3 1 z (Reps.cons z Reps.nil)
 refine wl_run (v := (.slice (some ⟨b727, 0, none⟩) 1 1)) (w' := w728) z z (x_als (by kernel_rfl) ew729 eb730) ?_
 obtain ⟨hg732, hm⟩ := gd_some hm
 replace hst := hst.pull2
 obtain ⟨v733, w734, hr735, hst⟩ := run_append elem_41 underlying41 hst hst.src1 (room_of hg732 z) 41
 refine wl_run (v := v733) (w' := w734) z z (x_append z z hr735) ?_
 refine wv (v733) z z z (wl_nil (blk_n (tn (wrl (wv (.int .i64 (i64.wrap (z711 + (1:Int)))) z z z (wv (.int .i64 (i64.wrap (z711 + (1:Int)))) z z z (wl_nil (tn ?_))))))))
 replace hst := hst.pull2.pull1.keep2
 obtain rfl := some_inj hm
 exact ⟨_, Nat.lt_succ_self _, (z708 ++ ([z711])), (i64.wrap (z711 + (1:Int))), v733, _, hx718, (fu 0 p0 z (fu 1 (.int .i64 a1) z (fu 5 v733 z (fu 8 (.int .i64 t648) z (fu 9 (.int .i64 (i64.wrap (z711 + (1:Int)))) z z))))), hst⟩
}
 {
 replace hm := bif_f hc726 hm
 refine wp_iff (cvb hc726) ?_
 refine wp_skip (blk_n (tn (wrl ?_)))
 refine wv (.int .i64 (i64.wrap (z711 + (1:Int)))) z z z (wv (.int .i64 (i64.wrap (z711 + (1:Int)))) z z z (wl_nil (tn ?_)))
 replace hst := hst.pull1.keep2
 obtain rfl := some_inj hm
 exact ⟨_, Nat.lt_succ_self _, z708, (i64.wrap (z711 + (1:Int))), v709, _, hx718, (fu 0 p0 z (fu 1 (.int .i64 a1) z (fu 5 v709 z (fu 8 (.int .i64 t648) z (fu 9 (.int .i64 (i64.wrap (z711 + (1:Int)))) z z))))), hst⟩
}
}
 {
 replace hm := bif_f hc720 hm
 refine wp_iff (cvb hc720) ?_
 refine wp_exit (then_x (then_x ?_))
 replace hm := inr_up hm hx718
 refine blk_x (tn (wp_seq (wrl ?_)))
 refine wv (v709) z z z (wv (v709) z z z (wl_nil (tn (wp_ret ?_))))
 obtain rfl := some_inj hm
 refine post_ret (vs := [v709]) results24 (rvs_cons (rv_tmp z) rvs_nil) ?_
 replace hst := hst.pull1.pull1
 exact ⟨v709, z, hst.keep2⟩
}
}

end Go.Proofs.Ytddhkbholbcebaa
