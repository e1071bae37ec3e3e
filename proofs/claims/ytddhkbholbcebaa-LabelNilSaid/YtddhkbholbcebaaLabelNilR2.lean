/- The Go functions refine their models, part 2. -/
import Derived.Test.YtddhkbholbcebaaLabelNilR1
set_option linter.unusedVariables false
set_option linter.unusedSimpArgs false
set_option maxRecDepth 100000
set_option maxHeartbeats 4000000
namespace Go.Proofs.Ytddhkbholbcebaa
open Go Go.V
open _root_.Go.Proofs.Try IntKind
attribute [local irreducible] wpList Code.wp wpQuiet Calls bodyPost Oper.wp wpS Nx PendOK YieldsIn
theorem label_Lattice_Len_ref {w0 w : World} {I : HL} {R : SP} {a0 : (Option label_Lattice)} {p0 : Value}  (hst : St w0 w I [objO at_label_Lattice p0 a0] R) {r : (Int)} (hm : label_Lattice_Len a0 = some r) :
  Calls prog 12 #[p0] w fun e w' => e = .returned (.int .i64 r) ∧ St w0 w' I [objO at_label_Lattice p0 a0] R := by {
 rcases a0 with _ | o0
 {
 obtain ⟨rfl, hst'⟩ := objO_none hst
 clear hst
 have hst := hst'
 clear hst'
 dsimp only [label_Lattice_Len] at hm
 refine calls_start (args := [.pointer none]) func12 z ntmps12 (Nat.le_of_ble_eq_true z) ?_
 refine wp_seq (wrl (wv (.int .i64 (0:Int)) z z z (wl_nil (tn (wp_seq (wp_seq (wrl (wv (.pointer none) z z z (wv (.bool true) z z (by kernel_rfl) (wl_nil (tn ?_)))))))))))
 refine wp_ift z ?_
 refine wp_seq (wrl (wv (.int .i64 (0:Int)) z z z (wl_nil (tn (wp_ret (then_r ?_))))))
 replace hst := hst.objO_nil at_label_Lattice
 obtain rfl := some_inj hm
 refine post_ret (vs := [Zi]) results12 (rvs_cons (rv_tmp z) rvs_nil) ?_
 exact ⟨z, hst.keep1⟩
}
 {
 replace hst := objO_get hst
 dsimp only [label_Lattice_Len] at hm
 refine calls_start (args := [p0]) func12 z ntmps12 (Nat.le_of_ble_eq_true z) ?_
 refine wp_seq (wrl (wv (.int .i64 (0:Int)) z z z (wl_nil (tn (wp_seq (wp_seq (wrl (wv (p0) z z z ?_))))))))
 obtain ⟨b34, v35, v37, v39, v41, v43, v45, rfl, hst'⟩ := at_label_Lattice_open hst
 clear hst
 have hst := hst'
 clear hst'
 refine wv (.bool false) z z (by kernel_rfl) (wl_nil (tn ?_))
 refine wp_iff z ?_
 refine wp_skip (tn (wp_seq (wrl ?_)))
 refine wv (Pt b34 0) z z z (wv (Pt b34 0) z z z (wv (Pt b34 0) z z (x_field z underlying49 z sizeOf28 z) (wv (v35) z z (x_load z isAgg28 (hst.bc0 z)) (wv (.int .i64 ((o0.up).length : Int)) z z (x_len z underlying28 hst.sv1) (wv (.int .i64 ((o0.up).length : Int)) z z z (wl_nil (tn (wp_ret ?_))))))))
 replace hst := hst.pull6.pull6.pull6.pull6.pull6.pull6.pull6
 replace hst := at_label_Lattice_close (pv := Pt b34 0) (x := o0) hst z
 replace hst := objO_some hst
 obtain rfl := some_inj hm
 refine post_ret (vs := [I6 ((o0.up).length : Int)]) results12 (rvs_cons (rv_tmp z) rvs_nil) ?_
 exact ⟨z, hst.keep1⟩
}
}

theorem label_Lattice_Is_ref {w0 w : World} {I : HL} {R : SP} {a0 : (Option label_Lattice)} {p0 : Value} {a1 : Int}  (hst : St w0 w I [objO at_label_Lattice p0 a0] R) {r : (Bool)} (hm : label_Lattice_Is a0 a1 = some r) :
  Calls prog 23 #[p0, I6 a1] w fun e w' => e = .returned (.bool r) ∧ St w0 w' I [objO at_label_Lattice p0 a0] R := by {
 unfold label_Lattice_Is at hm
 refine calls_start (args := [p0, I6 a1]) func23 z ntmps23 (Nat.le_of_ble_eq_true z) ?_
 refine wp_seq (wrl (wv (.bool false) z z z (wl_nil (tn (wp_seq (wrl (wv (.int .i64 a1) z z z (wv (.bool (decide (a1 ≥ (0:Int)))) z z z (wv (.bool (decide (a1 ≥ (0:Int)))) z z z ?_)))))))))
 refine bsplit (decide (a1 ≥ (0:Int))) (fun hc25 => ?_) (fun hc25 => ?_)
 {
 replace hm := bif_t hc25 hm
 refine wv (.int .i64 a1) ((wanted_eq z z z (cvb hc25)).trans z) z z (wv (p0) ((wanted_eq z z z (cvb hc25)).trans z) z z ?_)
 obtain ⟨t26, ht27, hm⟩ := bind_some hm
 refine wl_call ((wanted_eq z z z (cvb hc25)).trans z) z (x_call call12 z (vs := [p0]) z) ?_
 refine (label_Lattice_Len_ref hst.to1 ht27).mono ?_
 rintro _ w28 ⟨rfl, hst⟩
 refine ⟨_, z, ?_⟩
 replace hst := hst.of1
 refine wv (.bool (decide (a1 < t26))) ((wanted_eq z z z (cvb hc25)).trans z) z z (wv (.bool (decide (a1 < t26))) z z (x_pick_t hc25 z z) (wv (.bool (decide (a1 < t26))) z z z (wl_nil (tn (wp_ret ?_)))))
 obtain rfl := some_inj hm
 refine post_ret (vs := [.bool (decide (a1 < t26))]) results23 (rvs_cons (rv_tmp z) rvs_nil) ?_
 exact ⟨z, hst.keep1⟩
}
 {
 replace hm := bif_f hc25 hm
 refine wo hc25 z z z z z z (wo hc25 z z z z z z (wo hc25 z z z z z z (wo hc25 z z z z z z (wv (.bool false) z z (x_pick_f hc25 z z) (wv (.bool false) z z z (wl_nil (tn (wp_ret ?_))))))))
 obtain rfl := some_inj hm
 refine post_ret (vs := [.bool false]) results23 (rvs_cons (rv_tmp z) rvs_nil) ?_
 exact ⟨z, hst.keep1⟩
}
}

theorem label_Lattice_Join_ref {w0 w : World} {I : HL} {R : SP} {a0 : (Option label_Lattice)} {p0 : Value} {a1 : Int} {a2 : Int}  (hst : St w0 w I [objO at_label_Lattice p0 a0] R) {r : (Int)} (hm : label_Lattice_Join a0 a1 a2 = some r) :
  Calls prog 13 #[p0, I6 a1, I6 a2] w fun e w' => e = .returned (.int .i64 r) ∧ St w0 w' I [objO at_label_Lattice p0 a0] R := by {
 rcases a0 with _ | o0
 {
 obtain ⟨rfl, hst'⟩ := objO_none hst
 clear hst
 have hst := hst'
 clear hst'
 dsimp only [label_Lattice_Join] at hm
 refine calls_start (args := [.pointer none, I6 a1, I6 a2]) func13 z ntmps13 (Nat.le_of_ble_eq_true z) ?_
 refine wp_seq (wrl (wv (.int .i64 (0:Int)) z z z (wl_nil (tn (wp_seq (wp_seq (wrl (wv (.pointer none) z z z (wv (.int .i64 a1) z z z ?_)))))))))
 replace hst := hst.objO_nil at_label_Lattice
 obtain ⟨t74, ht75, hm⟩ := bind_some hm
 refine wc call23 [.pointer none, I6 a1] z z z ?_
 refine (label_Lattice_Is_ref hst.to1 ht75).mono ?_
 rintro _ w76 ⟨rfl, hst⟩
 refine ⟨_, z, ?_⟩
 replace hst := hst.of1
 refine wv (.bool (!t74)) z z z (wv (.bool (!t74)) z z z ?_)
 refine bsplit (!t74) (fun hc79 => ?_) (fun hc79 => ?_)
 {
 replace hm := bif_t hc79 hm
 refine wo hc79 z z z z z z (wo hc79 z z z z z z (wo hc79 z z z z z z (wo hc79 z z z z z z (wv (.bool true) z z (x_pick_t hc79 z z) (wl_nil (tn ?_))))))
 refine wp_ift z ?_
 refine wp_seq (wrl (wv (.int .i64 ((-1):Int)) z z z (wl_nil (tn (wp_ret (then_r ?_))))))
 replace hst := hst.objO_nil at_label_Lattice
 obtain rfl := some_inj hm
 refine post_ret (vs := [I6 ((-1):Int)]) results13 (rvs_cons (rv_tmp z) rvs_nil) ?_
 exact ⟨z, hst.keep1⟩
}
 {
 replace hm := bif_f hc79 hm
 refine wv (.pointer none) ((wanted_eq z z z (cvb hc79)).trans z) z z (wv (.int .i64 a2) ((wanted_eq z z z (cvb hc79)).trans z) z z ?_)
 replace hst := hst.objO_nil at_label_Lattice
 obtain ⟨t81, ht82, hm⟩ := bind_some hm
 refine wl_call ((wanted_eq z z z (cvb hc79)).trans z) z (x_call call23 z (vs := [.pointer none, I6 a2]) z) ?_
 refine (label_Lattice_Is_ref hst.to1 ht82).mono ?_
 rintro _ w83 ⟨rfl, hst⟩
 refine ⟨_, z, ?_⟩
 replace hst := hst.of1
 refine wv (.bool (!t81)) ((wanted_eq z z z (cvb hc79)).trans z) z z (wv (.bool (!t81)) z z (x_pick_f hc79 z z) (wl_nil (tn ?_)))
 refine bsplit (!t81) (fun hc86 => ?_) (fun hc86 => ?_)
 {
 replace hm := bif_t hc86 hm
 refine wp_ift (cvb hc86) ?_
 refine wp_seq (wrl (wv (.int .i64 ((-1):Int)) z z z (wl_nil (tn (wp_ret (then_r ?_))))))
 replace hst := hst.objO_nil at_label_Lattice
 obtain rfl := some_inj hm
 refine post_ret (vs := [I6 ((-1):Int)]) results13 (rvs_cons (rv_tmp z) rvs_nil) ?_
 exact ⟨z, hst.keep1⟩
}
 {
 replace hm := bif_f hc86 hm
 refine wp_iff (cvb hc86) ?_
 refine wp_skip (tn (wp_seq (wrl ?_)))
 refine wv (.pointer none) z z z ?_
 cases hm
}
}
}
 {
 replace hst := objO_get hst
 dsimp only [label_Lattice_Join] at hm
 refine calls_start (args := [p0, I6 a1, I6 a2]) func13 z ntmps13 (Nat.le_of_ble_eq_true z) ?_
 refine wp_seq (wrl (wv (.int .i64 (0:Int)) z z z (wl_nil (tn (wp_seq (wp_seq (wrl (wv (p0) z z z (wv (.int .i64 a1) z z z ?_)))))))))
 replace hst := objO_some hst
 obtain ⟨t87, ht88, hm⟩ := bind_some hm
 refine wc call23 [p0, I6 a1] z z z ?_
 refine (label_Lattice_Is_ref hst.to1 ht88).mono ?_
 rintro _ w89 ⟨rfl, hst⟩
 refine ⟨_, z, ?_⟩
 replace hst := hst.of1
 replace hst := objO_get hst
 refine wv (.bool (!t87)) z z z (wv (.bool (!t87)) z z z ?_)
 refine bsplit (!t87) (fun hc92 => ?_) (fun hc92 => ?_)
 {
 replace hm := bif_t hc92 hm
 refine wo hc92 z z z z z z (wo hc92 z z z z z z (wo hc92 z z z z z z (wo hc92 z z z z z z (wv (.bool true) z z (x_pick_t hc92 z z) (wl_nil (tn ?_))))))
 refine wp_ift z ?_
 refine wp_seq (wrl (wv (.int .i64 ((-1):Int)) z z z (wl_nil (tn (wp_ret (then_r ?_))))))
 replace hst := objO_some hst
 obtain rfl := some_inj hm
 refine post_ret (vs := [I6 ((-1):Int)]) results13 (rvs_cons (rv_tmp z) rvs_nil) ?_
 exact ⟨z, hst.keep1⟩
}
 {
 replace hm := bif_f hc92 hm
 refine wv (p0) ((wanted_eq z z z (cvb hc92)).trans z) z z (wv (.int .i64 a2) ((wanted_eq z z z (cvb hc92)).trans z) z z ?_)
 replace hst := objO_some hst
 obtain ⟨t93, ht94, hm⟩ := bind_some hm
 refine wl_call ((wanted_eq z z z (cvb hc92)).trans z) z (x_call call23 z (vs := [p0, I6 a2]) z) ?_
 refine (label_Lattice_Is_ref hst.to1 ht94).mono ?_
 rintro _ w95 ⟨rfl, hst⟩
 refine ⟨_, z, ?_⟩
 replace hst := hst.of1
 replace hst := objO_get hst
 refine wv (.bool (!t93)) ((wanted_eq z z z (cvb hc92)).trans z) z z (wv (.bool (!t93)) z z (x_pick_f hc92 z z) (wl_nil (tn ?_)))
 refine bsplit (!t93) (fun hc98 => ?_) (fun hc98 => ?_)
 {
 replace hm := bif_t hc98 hm
 refine wp_ift (cvb hc98) ?_
 refine wp_seq (wrl (wv (.int .i64 ((-1):Int)) z z z (wl_nil (tn (wp_ret (then_r ?_))))))
 replace hst := objO_some hst
 obtain rfl := some_inj hm
 refine post_ret (vs := [I6 ((-1):Int)]) results13 (rvs_cons (rv_tmp z) rvs_nil) ?_
 exact ⟨z, hst.keep1⟩
}
 {
 replace hm := bif_f hc98 hm
 refine wp_iff (cvb hc98) ?_
 refine wp_skip (tn (wp_seq (wrl ?_)))
 refine wv (p0) z z z ?_
 obtain ⟨b99, v100, v102, v104, v106, v108, v110, rfl, hst'⟩ := at_label_Lattice_open hst
 clear hst
 have hst := hst'
 clear hst'
 refine wv (Pt b99 0) z z z (wv (Pt b99 2) z z (x_field z underlying49 z sizeOf47 z) (wv (v104) z z (x_load z isAgg47 (hst.bc0 z)) (wv (.int .i64 a1) z z z ?_)))
 obtain ⟨x112, hx113, hm⟩ := bind_some hm
 obtain ⟨h114, h115, hi116⟩ := geto_some hx113
 refine wv (.pointer (some (eAddr v104 (a1.toNat * 1 + 0)))) z z (x_index z z underlying47 sizeOf41 hst.sv3 h114 h115) ?_
 obtain ⟨cs117, hr118, hc119⟩ := hst.og3 hi116
 obtain ⟨v120, rfl, f121, -⟩ := hr118
 refine wv (v120) z z (x_load z isAgg41 (hc119 0 _ z)) (wv (.int .i64 a2) z z z ?_)
 obtain ⟨x123, hx124, hm⟩ := bind_some hm
 obtain ⟨h125, h126, hi127⟩ := geto_some hx124
 refine wv (.pointer (some (eAddr v120 (a2.toNat * 1 + 0)))) z z (x_index z z underlying41 sizeOf3 (ro_sliceV f121) h125 h126) (wv (.int .i64 x123) z z (x_load z isAgg3 (ro_load f121 hst hi127 (by rintro _ rfl; rfl))) (wv (.int .i64 x123) z z z (wl_nil (tn (wp_ret ?_)))))
 replace hst := hst.pull6.pull6.pull6.pull6.pull6.pull6.pull6
 replace hst := at_label_Lattice_close (pv := Pt b99 0) (x := o0) hst z
 replace hst := objO_some hst
 obtain rfl := some_inj hm
 refine post_ret (vs := [I6 x123]) results13 (rvs_cons (rv_tmp z) rvs_nil) ?_
 exact ⟨z, hst.keep1⟩
}
}
}
}

theorem label_Lattice_Rank_ref {w0 w : World} {I : HL} {R : SP} {a0 : (Option label_Lattice)} {p0 : Value} {a1 : Int}  (hst : St w0 w I [objO at_label_Lattice p0 a0] R) {r : (Int)} (hm : label_Lattice_Rank a0 a1 = some r) :
  Calls prog 18 #[p0, I6 a1] w fun e w' => e = .returned (.int .i64 r) ∧ St w0 w' I [objO at_label_Lattice p0 a0] R := by {
 rcases a0 with _ | o0
 {
 obtain ⟨rfl, hst'⟩ := objO_none hst
 clear hst
 have hst := hst'
 clear hst'
 dsimp only [label_Lattice_Rank] at hm
 refine calls_start (args := [.pointer none, I6 a1]) func18 z ntmps18 (Nat.le_of_ble_eq_true z) ?_
 refine wp_seq (wrl (wv (.int .i64 (0:Int)) z z z (wl_nil (tn (wp_seq (wp_seq (wrl (wv (.pointer none) z z z (wv (.int .i64 a1) z z z ?_)))))))))
 replace hst := hst.objO_nil at_label_Lattice
 obtain ⟨t56, ht57, hm⟩ := bind_some hm
 refine wc call23 [.pointer none, I6 a1] z z z ?_
 refine (label_Lattice_Is_ref hst.to1 ht57).mono ?_
 rintro _ w58 ⟨rfl, hst⟩
 refine ⟨_, z, ?_⟩
 replace hst := hst.of1
 refine wv (.bool (!t56)) z z z (wl_nil (tn ?_))
 refine bsplit (!t56) (fun hc61 => ?_) (fun hc61 => ?_)
 {
 replace hm := bif_t hc61 hm
 refine wp_ift (cvb hc61) ?_
 refine wp_seq (wrl (wv (.int .i64 ((-1):Int)) z z z (wl_nil (tn (wp_ret (then_r ?_))))))
 replace hst := hst.objO_nil at_label_Lattice
 obtain rfl := some_inj hm
 refine post_ret (vs := [I6 ((-1):Int)]) results18 (rvs_cons (rv_tmp z) rvs_nil) ?_
 exact ⟨z, hst.keep1⟩
}
 {
 replace hm := bif_f hc61 hm
 refine wp_iff (cvb hc61) ?_
 refine wp_skip (tn (wp_seq (wrl ?_)))
 refine wv (.pointer none) z z z ?_
 cases hm
}
}
 {
 replace hst := objO_get hst
 dsimp only [label_Lattice_Rank] at hm
 refine calls_start (args := [p0, I6 a1]) func18 z ntmps18 (Nat.le_of_ble_eq_true z) ?_
 refine wp_seq (wrl (wv (.int .i64 (0:Int)) z z z (wl_nil (tn (wp_seq (wp_seq (wrl (wv (p0) z z z (wv (.int .i64 a1) z z z ?_)))))))))
 replace hst := objO_some hst
 obtain ⟨t62, ht63, hm⟩ := bind_some hm
 refine wc call23 [p0, I6 a1] z z z ?_
 refine (label_Lattice_Is_ref hst.to1 ht63).mono ?_
 rintro _ w64 ⟨rfl, hst⟩
 refine ⟨_, z, ?_⟩
 replace hst := hst.of1
 replace hst := objO_get hst
 refine wv (.bool (!t62)) z z z (wl_nil (tn ?_))
 refine bsplit (!t62) (fun hc67 => ?_) (fun hc67 => ?_)
 {
 replace hm := bif_t hc67 hm
 refine wp_ift (cvb hc67) ?_
 refine wp_seq (wrl (wv (.int .i64 ((-1):Int)) z z z (wl_nil (tn (wp_ret (then_r ?_))))))
 replace hst := objO_some hst
 obtain rfl := some_inj hm
 refine post_ret (vs := [I6 ((-1):Int)]) results18 (rvs_cons (rv_tmp z) rvs_nil) ?_
 exact ⟨z, hst.keep1⟩
}
 {
 replace hm := bif_f hc67 hm
 refine wp_iff (cvb hc67) ?_
 refine wp_skip (tn (wp_seq (wrl ?_)))
 refine wv (p0) z z z ?_
 obtain ⟨b68, v69, v71, v73, v75, v77, v79, rfl, hst'⟩ := at_label_Lattice_open hst
 clear hst
 have hst := hst'
 clear hst'
 refine wv (Pt b68 0) z z z (wv (Pt b68 4) z z (x_field z underlying49 z sizeOf41 z) (wv (v77) z z (x_load z isAgg41 (hst.bc0 z)) (wv (.int .i64 a1) z z z ?_)))
 obtain ⟨x81, hx82, hm⟩ := bind_some hm
 obtain ⟨h83, h84, hi85⟩ := geto_some hx82
 refine wv (.pointer (some (eAddr v77 (a1.toNat * 1 + 0)))) z z (x_index z z underlying41 sizeOf3 hst.sv5 h83 h84) (wv (.int .i64 x81) z z (x_load z isAgg3 (hst.ol5 hi85 (by rintro _ rfl; rfl))) (wv (.int .i64 x81) z z z (wl_nil (tn (wp_ret ?_)))))
 replace hst := hst.pull6.pull6.pull6.pull6.pull6.pull6.pull6
 replace hst := at_label_Lattice_close (pv := Pt b68 0) (x := o0) hst z
 replace hst := objO_some hst
 obtain rfl := some_inj hm
 refine post_ret (vs := [I6 x81]) results18 (rvs_cons (rv_tmp z) rvs_nil) ?_
 exact ⟨z, hst.keep1⟩
}
}
}

theorem law03_awake_ref {w0 w : World} {I : HL} {R : SP}   (hst : St w0 w I [] R) {r : (Bool)} (hm : law03_awake = some r) :
  Calls prog 9 #[] w fun e w' => ∃ (I' : HL), e = .returned (.bool r) ∧ I.le I' ∧ St w0 w' I' [] R := by {
 unfold law03_awake at hm
 refine calls_start (args := []) func9 z ntmps9 (Nat.le_of_ble_eq_true z) ?_
 have hI0 := HL.le.refl I
 refine wp_seq (wrl (wv (.bool false) z z z (wl_nil (tn (wp_seq (wrl ?_))))))
 obtain ⟨b33, w34, ew35, eb36, hst⟩ := hst.lits (E := (tyInt .u64)) (xs := [(3:Int), (2:Int)]) [[U6 (3:Int)], [U6 (2:Int)]] 43 2 z (Reps.cons z (Reps.cons z Reps.nil))
 refine wl_run (v := (.slice (some ⟨b33, 0, none⟩) 2 2)) (w' := w34) z z (x_als (by kernel_rfl) ew35 eb36) ?_
 obtain ⟨css38, hq39, hst⟩ := hst.own_open
 obtain ⟨t40, ht41, hm⟩ := bind_some hm
 refine wc call10 [(.slice (some ⟨b33, 0, none⟩) 2 2)] z z z ?_
 refine (label_New_ref (hst.rdrow0 hq39) hst.to0 ht41).mono ?_
 rintro _ w42 ⟨I43, v45, rfl, hI44, hst⟩
 refine ⟨_, z, ?_⟩
 replace hst := hst.of1
 replace hI0 := hI0.trans hI44
 replace hst := hst.pull1.own_close (hq39.imp fun _ _ => Ty.mono _ (ro_le hI44))
 refine wv (.tuple #[v45, I6 t40.2]) z z z (wv (v45) z z z (wv (.int .i64 t40.2) z z z (wv (v45) z z z (wv (.int .i64 t40.2) z z z (wl_nil (tn (wp_seq (wrl (wv (.int .i64 t40.2) z z z (wv (.bool (t40.2 == (0:Int))) z z z (wv (.bool (t40.2 == (0:Int))) z z z ?_)))))))))))
 refine bsplit (t40.2 == (0:Int)) (fun hc47 => ?_) (fun hc47 => ?_)
 {
 replace hm := bif_t hc47 hm
 refine wv (v45) ((wanted_eq z z z (cvb hc47)).trans z) z z ?_
 replace hst := hst.pull1
 obtain ⟨t48, ht49, hm⟩ := bind_some hm
 refine wl_call ((wanted_eq z z z (cvb hc47)).trans z) z (x_call call13 z (vs := [v45, Zi, I6 (1:Int)]) z) ?_
 refine (label_Lattice_Join_ref hst.to1 ht49).mono ?_
 rintro _ w50 ⟨rfl, hst⟩
 refine ⟨_, z, ?_⟩
 replace hst := hst.of1
 refine wv (.bool (t48 == (1:Int))) ((wanted_eq z z z (cvb hc47)).trans z) z z (wv (.bool (t48 == (1:Int))) z z (x_pick_t hc47 z z) (wv (.bool (t48 == (1:Int))) z z z ?_))
 refine bsplit (t48 == (1:Int)) (fun hc53 => ?_) (fun hc53 => ?_)
 {
 replace hm := bif_t hc53 hm
 refine wv (v45) ((wanted_eq z z z (cvb hc53)).trans z) z z ?_
 obtain ⟨t54, ht55, hm⟩ := bind_some hm
 refine wl_call ((wanted_eq z z z (cvb hc53)).trans z) z (x_call call18 z (vs := [v45, I6 (1:Int)]) z) ?_
 refine (label_Lattice_Rank_ref hst.to1 ht55).mono ?_
 rintro _ w56 ⟨rfl, hst⟩
 refine ⟨_, z, ?_⟩
 replace hst := hst.of1
 refine wv (.bool (t54 == (1:Int))) ((wanted_eq z z z (cvb hc53)).trans z) z z (wv (.bool (t54 == (1:Int))) z z (x_pick_t hc53 z z) (wv (.bool (t54 == (1:Int))) z z z ?_))
 refine bsplit (t54 == (1:Int)) (fun hc59 => ?_) (fun hc59 => ?_)
 {
 replace hm := bif_t hc59 hm
 refine wv (v45) ((wanted_eq z z z (cvb hc59)).trans z) z z ?_
 obtain ⟨t60, ht61, hm⟩ := bind_some hm
 refine wl_call ((wanted_eq z z z (cvb hc59)).trans z) z (x_call call18 z (vs := [v45, Zi]) z) ?_
 refine (label_Lattice_Rank_ref hst.to1 ht61).mono ?_
 rintro _ w62 ⟨rfl, hst⟩
 refine ⟨_, z, ?_⟩
 replace hst := hst.of1
 refine wv (.bool (t60 == (0:Int))) ((wanted_eq z z z (cvb hc59)).trans z) z z (wv (.bool (t60 == (0:Int))) z z (x_pick_t hc59 z z) (wv (.bool (t60 == (0:Int))) z z z (wl_nil (tn (wp_ret ?_)))))
 obtain rfl := some_inj hm
 refine post_ret (vs := [.bool (t60 == (0:Int))]) results9 (rvs_cons (rv_tmp z) rvs_nil) ?_
 exact ⟨_, z, hI0, hst.keep0⟩
}
 {
 replace hm := bif_f hc59 hm
 refine wo hc59 z z z z z z (wo hc59 z z z z z z (wo hc59 z z z z z z (wv (.bool false) z z (x_pick_f hc59 z z) (wv (.bool false) z z z (wl_nil (tn (wp_ret ?_)))))))
 obtain rfl := some_inj hm
 refine post_ret (vs := [.bool false]) results9 (rvs_cons (rv_tmp z) rvs_nil) ?_
 exact ⟨_, z, hI0, hst.keep0⟩
}
}
 {
 replace hm := bif_f hc53 hm
 refine wo hc53 z z z z z z (wo hc53 z z z z z z (wo hc53 z z z z z z (wv (.bool false) z z (x_pick_f hc53 z z) (wv (.bool false) z z z (wz z z z z z z (wz z z z z z z (wz z z z z z z (wv (.bool false) z z (x_pick_f z z z) (wv (.bool false) z z z (wl_nil (tn (wp_ret ?_))))))))))))
 obtain rfl := some_inj hm
 refine post_ret (vs := [.bool false]) results9 (rvs_cons (rv_tmp z) rvs_nil) ?_
 exact ⟨_, z, hI0, hst.keep0⟩
}
}
 {
 replace hm := bif_f hc47 hm
 refine wo hc47 z z z z z z (wo hc47 z z z z z z (wo hc47 z z z z z z (wv (.bool false) z z (x_pick_f hc47 z z) (wv (.bool false) z z z (wz z z z z z z (wz z z z z z z (wz z z z z z z (wv (.bool false) z z (x_pick_f z z z) (wv (.bool false) z z z (wz z z z z z z (wz z z z z z z (wz z z z z z z ?_))))))))))))
 refine wv (.bool false) z z (x_pick_f z z z) (wv (.bool false) z z z (wl_nil (tn (wp_ret ?_))))
 obtain rfl := some_inj hm
 refine post_ret (vs := [.bool false]) results9 (rvs_cons (rv_tmp z) rvs_nil) ?_
 exact ⟨_, z, hI0, hst.keep0⟩
}
}

theorem label_Lattice_Leq_ref {w0 w : World} {I : HL} {R : SP} {a0 : (Option label_Lattice)} {p0 : Value} {a1 : Int} {a2 : Int}  (hst : St w0 w I [objO at_label_Lattice p0 a0] R) {r : (Bool)} (hm : label_Lattice_Leq a0 a1 a2 = some r) :
  Calls prog 15 #[p0, I6 a1, I6 a2] w fun e w' => e = .returned (.bool r) ∧ St w0 w' I [objO at_label_Lattice p0 a0] R := by {
 rcases a0 with _ | o0
 {
 obtain ⟨rfl, hst'⟩ := objO_none hst
 clear hst
 have hst := hst'
 clear hst'
 dsimp only [label_Lattice_Leq] at hm
 refine calls_start (args := [.pointer none, I6 a1, I6 a2]) func15 z ntmps15 (Nat.le_of_ble_eq_true z) ?_
 refine wp_seq (wrl (wv (.bool false) z z z (wl_nil (tn (wp_seq (wrl (wv (.pointer none) z z z (wv (.int .i64 a1) z z z ?_))))))))
 replace hst := hst.objO_nil at_label_Lattice
 obtain ⟨t69, ht70, hm⟩ := bind_some hm
 refine wc call23 [.pointer none, I6 a1] z z z ?_
 refine (label_Lattice_Is_ref hst.to1 ht70).mono ?_
 rintro _ w71 ⟨rfl, hst⟩
 refine ⟨_, z, ?_⟩
 replace hst := hst.of1
 refine wv (.bool t69) z z z ?_
 refine bsplit t69 (fun hc74 => ?_) (fun hc74 => ?_)
 {
 replace hm := bif_t hc74 hm
 refine wv (.pointer none) ((wanted_eq z z z (cvb hc74)).trans z) z z (wv (.int .i64 a2) ((wanted_eq z z z (cvb hc74)).trans z) z z ?_)
 replace hst := hst.objO_nil at_label_Lattice
 obtain ⟨t76, ht77, hm⟩ := bind_some hm
 refine wl_call ((wanted_eq z z z (cvb hc74)).trans z) z (x_call call23 z (vs := [.pointer none, I6 a2]) z) ?_
 refine (label_Lattice_Is_ref hst.to1 ht77).mono ?_
 rintro _ w78 ⟨rfl, hst⟩
 refine ⟨_, z, ?_⟩
 replace hst := hst.of1
 refine wv (.bool t76) z z (x_pick_t hc74 z z) (wv (.bool t76) z z z ?_)
 refine bsplit t76 (fun hc81 => ?_) (fun hc81 => ?_)
 {
 replace hm := bif_t hc81 hm
 refine wv (.pointer none) ((wanted_eq z z z (cvb hc81)).trans z) z z ?_
 cases hm
}
 {
 replace hm := bif_f hc81 hm
 refine wo hc81 z z z z z z (wo hc81 z z z z z z (wo hc81 z z z z z z (wo hc81 z z z z z z (wo hc81 z z z z z z (wo hc81 z z z z z z (wo hc81 z z z z z z (wo hc81 z z z z z z (wo hc81 z z z z z z (wo hc81 z z z z z z (wo hc81 z z z z z z (wv (.bool false) z z (x_pick_f hc81 z z) (wv (.bool false) z z z ?_))))))))))))
 refine wl_nil (tn (wp_ret ?_))
 replace hst := hst.objO_nil at_label_Lattice
 obtain rfl := some_inj hm
 refine post_ret (vs := [.bool false]) results15 (rvs_cons (rv_tmp z) rvs_nil) ?_
 exact ⟨z, hst.keep1⟩
}
}
 {
 replace hm := bif_f hc74 hm
 refine wo hc74 z z z z z z (wo hc74 z z z z z z (wo hc74 z z z z z z (wv (.bool false) z z (x_pick_f hc74 z z) (wv (.bool false) z z z (wz z z z z z z (wz z z z z z z (wz z z z z z z (wz z z z z z z (wz z z z z z z (wz z z z z z z (wz z z z z z z (wz z z z z z z ?_))))))))))))
 refine wz z z z z z z (wz z z z z z z (wz z z z z z z (wv (.bool false) z z (x_pick_f z z z) (wv (.bool false) z z z (wl_nil (tn (wp_ret ?_)))))))
 replace hst := hst.objO_nil at_label_Lattice
 obtain rfl := some_inj hm
 refine post_ret (vs := [.bool false]) results15 (rvs_cons (rv_tmp z) rvs_nil) ?_
 exact ⟨z, hst.keep1⟩
}
}
 {
 replace hst := objO_get hst
 dsimp only [label_Lattice_Leq] at hm
 refine calls_start (args := [p0, I6 a1, I6 a2]) func15 z ntmps15 (Nat.le_of_ble_eq_true z) ?_
 refine wp_seq (wrl (wv (.bool false) z z z (wl_nil (tn (wp_seq (wrl (wv (p0) z z z (wv (.int .i64 a1) z z z ?_))))))))
 replace hst := objO_some hst
 obtain ⟨t82, ht83, hm⟩ := bind_some hm
 refine wc call23 [p0, I6 a1] z z z ?_
 refine (label_Lattice_Is_ref hst.to1 ht83).mono ?_
 rintro _ w84 ⟨rfl, hst⟩
 refine ⟨_, z, ?_⟩
 replace hst := hst.of1
 replace hst := objO_get hst
 refine wv (.bool t82) z z z ?_
 refine bsplit t82 (fun hc87 => ?_) (fun hc87 => ?_)
 {
 replace hm := bif_t hc87 hm
 refine wv (p0) ((wanted_eq z z z (cvb hc87)).trans z) z z (wv (.int .i64 a2) ((wanted_eq z z z (cvb hc87)).trans z) z z ?_)
 replace hst := objO_some hst
 obtain ⟨t88, ht89, hm⟩ := bind_some hm
 refine wl_call ((wanted_eq z z z (cvb hc87)).trans z) z (x_call call23 z (vs := [p0, I6 a2]) z) ?_
 refine (label_Lattice_Is_ref hst.to1 ht89).mono ?_
 rintro _ w90 ⟨rfl, hst⟩
 refine ⟨_, z, ?_⟩
 replace hst := hst.of1
 replace hst := objO_get hst
 refine wv (.bool t88) z z (x_pick_t hc87 z z) (wv (.bool t88) z z z ?_)
 refine bsplit t88 (fun hc93 => ?_) (fun hc93 => ?_)
 {
 replace hm := bif_t hc93 hm
 refine wv (p0) ((wanted_eq z z z (cvb hc93)).trans z) z z ?_
 obtain ⟨b94, v95, v97, v99, v101, v103, v105, rfl, hst'⟩ := at_label_Lattice_open hst
 clear hst
 have hst := hst'
 clear hst'
 refine wv (Pt b94 0) ((wanted_eq z z z (cvb hc93)).trans z) z z (wv (Pt b94 0) ((wanted_eq z z z (cvb hc93)).trans z) z (x_field z underlying49 z sizeOf28 z) (wv (v95) ((wanted_eq z z z (cvb hc93)).trans z) z (x_load z isAgg28 (hst.bc0 z)) (wv (.int .i64 a1) ((wanted_eq z z z (cvb hc93)).trans z) z z ?_)))
 obtain ⟨x107, hx108, hm⟩ := bind_some hm
 obtain ⟨h109, h110, hi111⟩ := geto_some hx108
 refine wv (.pointer (some (eAddr v95 (a1.toNat * 1 + 0)))) ((wanted_eq z z z (cvb hc93)).trans z) z (x_index z z underlying28 sizeOf43 hst.sv1 h109 h110) (wv (.int .u64 x107) ((wanted_eq z z z (cvb hc93)).trans z) z (x_load z isAgg43 (hst.ol1 hi111 (by rintro _ rfl; rfl))) (wv (.int .i64 a2) ((wanted_eq z z z (cvb hc93)).trans z) z z ?_))
 obtain ⟨hg112, hm⟩ := gd_some hm
 refine wv (.int .u64 (iShr .u64 x107 a2)) ((wanted_eq z z z (cvb hc93)).trans z) z (x_shr (of_decide_eq_true hg112) z z) (wv (.int .u64 (bAnd .u64 (iShr .u64 x107 a2) (1:Int))) ((wanted_eq z z z (cvb hc93)).trans z) z z (wv (.bool ((bAnd .u64 (iShr .u64 x107 a2) (1:Int)) == (1:Int))) ((wanted_eq z z z (cvb hc93)).trans z) z z (wv (.bool ((bAnd .u64 (iShr .u64 x107 a2) (1:Int)) == (1:Int))) z z (x_pick_t hc93 z z) (wv (.bool ((bAnd .u64 (iShr .u64 x107 a2) (1:Int)) == (1:Int))) z z z (wl_nil (tn (wp_ret ?_)))))))
 replace hst := hst.pull6.pull6.pull6.pull6.pull6.pull6.pull6
 replace hst := at_label_Lattice_close (pv := Pt b94 0) (x := o0) hst z
 replace hst := objO_some hst
 obtain rfl := some_inj hm
 refine post_ret (vs := [.bool ((bAnd .u64 (iShr .u64 x107 a2) (1:Int)) == (1:Int))]) results15 (rvs_cons (rv_tmp z) rvs_nil) ?_
 exact ⟨z, hst.keep1⟩
}
 {
 replace hm := bif_f hc93 hm
 refine wo hc93 z z z z z z (wo hc93 z z z z z z (wo hc93 z z z z z z (wo hc93 z z z z z z (wo hc93 z z z z z z (wo hc93 z z z z z z (wo hc93 z z z z z z (wo hc93 z z z z z z (wo hc93 z z z z z z (wo hc93 z z z z z z (wo hc93 z z z z z z (wv (.bool false) z z (x_pick_f hc93 z z) (wv (.bool false) z z z ?_))))))))))))
 refine wl_nil (tn (wp_ret ?_))
 replace hst := objO_some hst
 obtain rfl := some_inj hm
 refine post_ret (vs := [.bool false]) results15 (rvs_cons (rv_tmp z) rvs_nil) ?_
 exact ⟨z, hst.keep1⟩
}
}
 {
 replace hm := bif_f hc87 hm
 refine wo hc87 z z z z z z (wo hc87 z z z z z z (wo hc87 z z z z z z (wv (.bool false) z z (x_pick_f hc87 z z) (wv (.bool false) z z z (wz z z z z z z (wz z z z z z z (wz z z z z z z (wz z z z z z z (wz z z z z z z (wz z z z z z z (wz z z z z z z (wz z z z z z z ?_))))))))))))
 refine wz z z z z z z (wz z z z z z z (wz z z z z z z (wv (.bool false) z z (x_pick_f z z z) (wv (.bool false) z z z (wl_nil (tn (wp_ret ?_)))))))
 replace hst := objO_some hst
 obtain rfl := some_inj hm
 refine post_ret (vs := [.bool false]) results15 (rvs_cons (rv_tmp z) rvs_nil) ?_
 exact ⟨z, hst.keep1⟩
}
}
}

theorem label_Lattice_Meet_ref {w0 w : World} {I : HL} {R : SP} {a0 : (Option label_Lattice)} {p0 : Value} {a1 : Int} {a2 : Int}  (hst : St w0 w I [objO at_label_Lattice p0 a0] R) {r : (Int)} (hm : label_Lattice_Meet a0 a1 a2 = some r) :
  Calls prog 14 #[p0, I6 a1, I6 a2] w fun e w' => e = .returned (.int .i64 r) ∧ St w0 w' I [objO at_label_Lattice p0 a0] R := by {
 rcases a0 with _ | o0
 {
 obtain ⟨rfl, hst'⟩ := objO_none hst
 clear hst
 have hst := hst'
 clear hst'
 dsimp only [label_Lattice_Meet] at hm
 refine calls_start (args := [.pointer none, I6 a1, I6 a2]) func14 z ntmps14 (Nat.le_of_ble_eq_true z) ?_
 refine wp_seq (wrl (wv (.int .i64 (0:Int)) z z z (wl_nil (tn (wp_seq (wp_seq (wrl (wv (.pointer none) z z z (wv (.int .i64 a1) z z z ?_)))))))))
 replace hst := hst.objO_nil at_label_Lattice
 obtain ⟨t93, ht94, hm⟩ := bind_some hm
 refine wc call23 [.pointer none, I6 a1] z z z ?_
 refine (label_Lattice_Is_ref hst.to1 ht94).mono ?_
 rintro _ w95 ⟨rfl, hst⟩
 refine ⟨_, z, ?_⟩
 replace hst := hst.of1
 refine wv (.bool (!t93)) z z z (wv (.bool (!t93)) z z z ?_)
 refine bsplit (!t93) (fun hc98 => ?_) (fun hc98 => ?_)
 {
 replace hm := bif_t hc98 hm
 refine wo hc98 z z z z z z (wo hc98 z z z z z z (wo hc98 z z z z z z (wo hc98 z z z z z z (wv (.bool true) z z (x_pick_t hc98 z z) (wl_nil (tn ?_))))))
 refine wp_ift z ?_
 refine wp_seq (wrl (wv (.int .i64 ((-1):Int)) z z z (wl_nil (tn (wp_ret (then_r ?_))))))
 replace hst := hst.objO_nil at_label_Lattice
 obtain rfl := some_inj hm
 refine post_ret (vs := [I6 ((-1):Int)]) results14 (rvs_cons (rv_tmp z) rvs_nil) ?_
 exact ⟨z, hst.keep1⟩
}
 {
 replace hm := bif_f hc98 hm
 refine wv (.pointer none) ((wanted_eq z z z (cvb hc98)).trans z) z z (wv (.int .i64 a2) ((wanted_eq z z z (cvb hc98)).trans z) z z ?_)
 replace hst := hst.objO_nil at_label_Lattice
 obtain ⟨t100, ht101, hm⟩ := bind_some hm
 refine wl_call ((wanted_eq z z z (cvb hc98)).trans z) z (x_call call23 z (vs := [.pointer none, I6 a2]) z) ?_
 refine (label_Lattice_Is_ref hst.to1 ht101).mono ?_
 rintro _ w102 ⟨rfl, hst⟩
 refine ⟨_, z, ?_⟩
 replace hst := hst.of1
 refine wv (.bool (!t100)) ((wanted_eq z z z (cvb hc98)).trans z) z z (wv (.bool (!t100)) z z (x_pick_f hc98 z z) (wl_nil (tn ?_)))
 refine bsplit (!t100) (fun hc105 => ?_) (fun hc105 => ?_)
 {
 replace hm := bif_t hc105 hm
 refine wp_ift (cvb hc105) ?_
 refine wp_seq (wrl (wv (.int .i64 ((-1):Int)) z z z (wl_nil (tn (wp_ret (then_r ?_))))))
 replace hst := hst.objO_nil at_label_Lattice
 obtain rfl := some_inj hm
 refine post_ret (vs := [I6 ((-1):Int)]) results14 (rvs_cons (rv_tmp z) rvs_nil) ?_
 exact ⟨z, hst.keep1⟩
}
 {
 replace hm := bif_f hc105 hm
 refine wp_iff (cvb hc105) ?_
 refine wp_skip (tn (wp_seq (wrl ?_)))
 refine wv (.pointer none) z z z ?_
 cases hm
}
}
}
 {
 replace hst := objO_get hst
 dsimp only [label_Lattice_Meet] at hm
 refine calls_start (args := [p0, I6 a1, I6 a2]) func14 z ntmps14 (Nat.le_of_ble_eq_true z) ?_
 refine wp_seq (wrl (wv (.int .i64 (0:Int)) z z z (wl_nil (tn (wp_seq (wp_seq (wrl (wv (p0) z z z (wv (.int .i64 a1) z z z ?_)))))))))
 replace hst := objO_some hst
 obtain ⟨t106, ht107, hm⟩ := bind_some hm
 refine wc call23 [p0, I6 a1] z z z ?_
 refine (label_Lattice_Is_ref hst.to1 ht107).mono ?_
 rintro _ w108 ⟨rfl, hst⟩
 refine ⟨_, z, ?_⟩
 replace hst := hst.of1
 replace hst := objO_get hst
 refine wv (.bool (!t106)) z z z (wv (.bool (!t106)) z z z ?_)
 refine bsplit (!t106) (fun hc111 => ?_) (fun hc111 => ?_)
 {
 replace hm := bif_t hc111 hm
 refine wo hc111 z z z z z z (wo hc111 z z z z z z (wo hc111 z z z z z z (wo hc111 z z z z z z (wv (.bool true) z z (x_pick_t hc111 z z) (wl_nil (tn ?_))))))
 refine wp_ift z ?_
 refine wp_seq (wrl (wv (.int .i64 ((-1):Int)) z z z (wl_nil (tn (wp_ret (then_r ?_))))))
 replace hst := objO_some hst
 obtain rfl := some_inj hm
 refine post_ret (vs := [I6 ((-1):Int)]) results14 (rvs_cons (rv_tmp z) rvs_nil) ?_
 exact ⟨z, hst.keep1⟩
}
 {
 replace hm := bif_f hc111 hm
 refine wv (p0) ((wanted_eq z z z (cvb hc111)).trans z) z z (wv (.int .i64 a2) ((wanted_eq z z z (cvb hc111)).trans z) z z ?_)
 replace hst := objO_some hst
 obtain ⟨t112, ht113, hm⟩ := bind_some hm
 refine wl_call ((wanted_eq z z z (cvb hc111)).trans z) z (x_call call23 z (vs := [p0, I6 a2]) z) ?_
 refine (label_Lattice_Is_ref hst.to1 ht113).mono ?_
 rintro _ w114 ⟨rfl, hst⟩
 refine ⟨_, z, ?_⟩
 replace hst := hst.of1
 replace hst := objO_get hst
 refine wv (.bool (!t112)) ((wanted_eq z z z (cvb hc111)).trans z) z z (wv (.bool (!t112)) z z (x_pick_f hc111 z z) (wl_nil (tn ?_)))
 refine bsplit (!t112) (fun hc117 => ?_) (fun hc117 => ?_)
 {
 replace hm := bif_t hc117 hm
 refine wp_ift (cvb hc117) ?_
 refine wp_seq (wrl (wv (.int .i64 ((-1):Int)) z z z (wl_nil (tn (wp_ret (then_r ?_))))))
 replace hst := objO_some hst
 obtain rfl := some_inj hm
 refine post_ret (vs := [I6 ((-1):Int)]) results14 (rvs_cons (rv_tmp z) rvs_nil) ?_
 exact ⟨z, hst.keep1⟩
}
 {
 replace hm := bif_f hc117 hm
 refine wp_iff (cvb hc117) ?_
 refine wp_skip (tn (wp_seq (wrl ?_)))
 refine wv (p0) z z z ?_
 obtain ⟨b118, v119, v121, v123, v125, v127, v129, rfl, hst'⟩ := at_label_Lattice_open hst
 clear hst
 have hst := hst'
 clear hst'
 refine wv (Pt b118 0) z z z (wv (Pt b118 3) z z (x_field z underlying49 z sizeOf47 z) (wv (v125) z z (x_load z isAgg47 (hst.bc0 z)) (wv (.int .i64 a1) z z z ?_)))
 obtain ⟨x131, hx132, hm⟩ := bind_some hm
 obtain ⟨h133, h134, hi135⟩ := geto_some hx132
 refine wv (.pointer (some (eAddr v125 (a1.toNat * 1 + 0)))) z z (x_index z z underlying47 sizeOf41 hst.sv4 h133 h134) ?_
 obtain ⟨cs136, hr137, hc138⟩ := hst.og4 hi135
 obtain ⟨v139, rfl, f140, -⟩ := hr137
 refine wv (v139) z z (x_load z isAgg41 (hc138 0 _ z)) (wv (.int .i64 a2) z z z ?_)
 obtain ⟨x142, hx143, hm⟩ := bind_some hm
 obtain ⟨h144, h145, hi146⟩ := geto_some hx143
 refine wv (.pointer (some (eAddr v139 (a2.toNat * 1 + 0)))) z z (x_index z z underlying41 sizeOf3 (ro_sliceV f140) h144 h145) (wv (.int .i64 x142) z z (x_load z isAgg3 (ro_load f140 hst hi146 (by rintro _ rfl; rfl))) (wv (.int .i64 x142) z z z (wl_nil (tn (wp_ret ?_)))))
 replace hst := hst.pull6.pull6.pull6.pull6.pull6.pull6.pull6
 replace hst := at_label_Lattice_close (pv := Pt b118 0) (x := o0) hst z
 replace hst := objO_some hst
 obtain rfl := some_inj hm
 refine post_ret (vs := [I6 x142]) results14 (rvs_cons (rv_tmp z) rvs_nil) ?_
 exact ⟨z, hst.keep1⟩
}
}
}
}

theorem label_Lattice_Bottom_ref {w0 w : World} {I : HL} {R : SP} {a0 : (Option label_Lattice)} {p0 : Value}  (hst : St w0 w I [objO at_label_Lattice p0 a0] R) {r : (Int)} (hm : label_Lattice_Bottom a0 = some r) :
  Calls prog 16 #[p0] w fun e w' => e = .returned (.int .i64 r) ∧ St w0 w' I [objO at_label_Lattice p0 a0] R := by {
 rcases a0 with _ | o0
 {
 obtain ⟨rfl, hst'⟩ := objO_none hst
 clear hst
 have hst := hst'
 clear hst'
 dsimp only [label_Lattice_Bottom] at hm
 refine calls_start (args := [.pointer none]) func16 z ntmps16 (Nat.le_of_ble_eq_true z) ?_
 refine wp_seq (wrl (wv (.int .i64 (0:Int)) z z z (wl_nil (tn (wp_seq (wp_seq (wrl (wv (.pointer none) z z z (wv (.bool true) z z (by kernel_rfl) (wl_nil (tn ?_)))))))))))
 refine wp_ift z ?_
 refine wp_seq (wrl (wv (.int .i64 ((-1):Int)) z z z (wl_nil (tn (wp_ret (then_r ?_))))))
 replace hst := hst.objO_nil at_label_Lattice
 obtain rfl := some_inj hm
 refine post_ret (vs := [I6 ((-1):Int)]) results16 (rvs_cons (rv_tmp z) rvs_nil) ?_
 exact ⟨z, hst.keep1⟩
}
 {
 replace hst := objO_get hst
 dsimp only [label_Lattice_Bottom] at hm
 refine calls_start (args := [p0]) func16 z ntmps16 (Nat.le_of_ble_eq_true z) ?_
 refine wp_seq (wrl (wv (.int .i64 (0:Int)) z z z (wl_nil (tn (wp_seq (wp_seq (wrl (wv (p0) z z z ?_))))))))
 obtain ⟨b62, v63, v65, v67, v69, v71, v73, rfl, hst'⟩ := at_label_Lattice_open hst
 clear hst
 have hst := hst'
 clear hst'
 refine wv (.bool false) z z (by kernel_rfl) (wl_nil (tn ?_))
 refine wp_iff z ?_
 refine wp_skip (tn (wp_seq (wrl ?_)))
 refine wv (Pt b62 0) z z z (wv (Pt b62 0) z z z (wv (Pt b62 5) z z (x_field z underlying49 z sizeOf41 z) (wv (v73) z z (x_load z isAgg41 (hst.bc0 z)) ?_)))
 obtain ⟨x75, hx76, hm⟩ := bind_some hm
 obtain ⟨h77, h78, hi79⟩ := geto_some hx76
 refine wv (.pointer (some (eAddr v73 ((0:Int).toNat * 1 + 0)))) z z (x_index z z underlying41 sizeOf3 hst.sv6 h77 h78) (wv (.int .i64 x75) z z (x_load z isAgg3 (hst.ol6 hi79 (by rintro _ rfl; rfl))) (wv (.int .i64 x75) z z z (wl_nil (tn (wp_ret ?_)))))
 replace hst := hst.pull6.pull6.pull6.pull6.pull6.pull6.pull6
 replace hst := at_label_Lattice_close (pv := Pt b62 0) (x := o0) hst z
 replace hst := objO_some hst
 obtain rfl := some_inj hm
 refine post_ret (vs := [I6 x75]) results16 (rvs_cons (rv_tmp z) rvs_nil) ?_
 exact ⟨z, hst.keep1⟩
}
}

theorem label_Lattice_Top_ref {w0 w : World} {I : HL} {R : SP} {a0 : (Option label_Lattice)} {p0 : Value}  (hst : St w0 w I [objO at_label_Lattice p0 a0] R) {r : (Int)} (hm : label_Lattice_Top a0 = some r) :
  Calls prog 17 #[p0] w fun e w' => e = .returned (.int .i64 r) ∧ St w0 w' I [objO at_label_Lattice p0 a0] R := by {
 rcases a0 with _ | o0
 {
 obtain ⟨rfl, hst'⟩ := objO_none hst
 clear hst
 have hst := hst'
 clear hst'
 dsimp only [label_Lattice_Top] at hm
 refine calls_start (args := [.pointer none]) func17 z ntmps17 (Nat.le_of_ble_eq_true z) ?_
 refine wp_seq (wrl (wv (.int .i64 (0:Int)) z z z (wl_nil (tn (wp_seq (wp_seq (wrl (wv (.pointer none) z z z (wv (.bool true) z z (by kernel_rfl) (wl_nil (tn ?_)))))))))))
 refine wp_ift z ?_
 refine wp_seq (wrl (wv (.int .i64 ((-1):Int)) z z z (wl_nil (tn (wp_ret (then_r ?_))))))
 replace hst := hst.objO_nil at_label_Lattice
 obtain rfl := some_inj hm
 refine post_ret (vs := [I6 ((-1):Int)]) results17 (rvs_cons (rv_tmp z) rvs_nil) ?_
 exact ⟨z, hst.keep1⟩
}
 {
 replace hst := objO_get hst
 dsimp only [label_Lattice_Top] at hm
 refine calls_start (args := [p0]) func17 z ntmps17 (Nat.le_of_ble_eq_true z) ?_
 refine wp_seq (wrl (wv (.int .i64 (0:Int)) z z z (wl_nil (tn (wp_seq (wp_seq (wrl (wv (p0) z z z ?_))))))))
 obtain ⟨b69, v70, v72, v74, v76, v78, v80, rfl, hst'⟩ := at_label_Lattice_open hst
 clear hst
 have hst := hst'
 clear hst'
 refine wv (.bool false) z z (by kernel_rfl) (wl_nil (tn ?_))
 refine wp_iff z ?_
 refine wp_skip (tn (wp_seq ?_))
 refine wq_regionS hst Try.mixed (by kernel_rfl) ?_
 refine wq_run (v := Pt b69 0) z z (fun w hst => z) ?_
 refine wq_run (v := Pt b69 0) z z (fun w hst => z) ?_
 refine wq_run (v := Pt b69 5) z z (fun w hst => x_field z underlying49 z sizeOf41 z) ?_
 refine wq_run (v := v80) z z (fun w hst => x_load z isAgg41 (hst.bc0 z)) ?_
 refine wq_run (v := Pt b69 0) z z (fun w hst => z) ?_
 refine wq_run (v := Pt b69 0) z z (fun w hst => z) ?_
 refine wq_run (v := Pt b69 5) z z (fun w hst => x_field z underlying49 z sizeOf41 z) ?_
 refine wq_run (v := v80) z z (fun w hst => x_load z isAgg41 (hst.bc0 z)) ?_
 refine wq_run (v := .int .i64 ((o0.all).length : Int)) z z (fun w hst => x_len z underlying41 hst.sv6) ?_
 refine wq_run (v := .int .i64 (i64.wrap (((o0.all).length : Int) - (1:Int)))) z z (fun w hst => z) ?_
 obtain ⟨x82, hx83, hm⟩ := bind_some hm
 obtain ⟨h84, h85, hi86⟩ := geto_some hx83
 refine wq_run (v := .pointer (some (eAddr v80 ((i64.wrap (((o0.all).length : Int) - (1:Int))).toNat * 1 + 0)))) z z (fun w hst => x_index z z underlying41 sizeOf3 hst.sv6 h84 h85) ?_
 refine wq_run (v := .int .i64 x82) z z (fun w hst => x_load z isAgg3 (hst.ol6 hi86 (by rintro _ rfl; rfl))) ?_
 refine wq_run (v := .int .i64 x82) z z (fun w hst => z) ?_
 refine wq_nil ?_
 intro w hst
 refine tn (wp_ret ?_)
 replace hst := hst.pull6.pull6.pull6.pull6.pull6.pull6.pull6
 replace hst := at_label_Lattice_close (pv := Pt b69 0) (x := o0) hst z
 replace hst := objO_some hst
 obtain rfl := some_inj hm
 refine post_ret (vs := [I6 x82]) results17 (rvs_cons (rv_tmp z) rvs_nil) ?_
 exact ⟨z, hst.keep1⟩
}
}

theorem slices_Clone_int_int_ref {w0 w : World} {I : HL} {R : SP} {a0 : (List Int)} {r0_0 : Value} (f0_0 : Rd (tyInt .i64) R I r0_0 a0) (hst : St w0 w I [] R) {r : (List Int)} (hm : slices_Clone_int_int a0 = some r) :
  Calls prog 36 #[r0_0] w fun e w' => ∃ (q0_0 : Value), e = .returned (q0_0) ∧ St w0 w' I [ownS (tyInt .i64) q0_0 r] R := by {
 unfold slices_Clone_int_int at hm
 obtain ⟨hg, hm⟩ := gd_some hm
 obtain rfl := some_inj hm
 have hsv := rd_sliceV f0_0
 refine calls_start (args := [r0_0]) func36 z ntmps36 (Nat.le_of_ble_eq_true z) ?_
 refine wp_seq (wrl (wv ((.slice none 0 0)) z z z (wl_nil (tn (wp_seq (wp_seq (wrl (wv (r0_0) z z z (wv (.bool (isNil r0_0)) z z (x_slnil z hsv z underlying41) (wl_nil (tn ?_)))))))))))
 refine bsplit (isNil r0_0) (fun hc80 => ?_) (fun hc80 => ?_)
 {
 refine wp_ift (cvb hc80) ?_
 refine wp_seq (wrl (wv ((.slice none 0 0)) z z z (wl_nil (tn (wp_ret (then_r ?_))))))
 refine post_ret (vs := [Zs]) results36 (rvs_cons (rv_tmp z) rvs_nil) ?_
 obtain rfl := List.eq_nil_of_length_eq_zero (isNil_len hsv hc80)
 exact ⟨_, z, (hst.own_nil (tyInt .i64)).keep1⟩
}
 {
 refine wp_iff (cvb hc80) ?_
 refine wp_skip (tn (wp_seq (wrl ?_)))
 obtain ⟨b, w1, ew, eb, hst⟩ := hst.lits (E := (tyInt .i64)) (xs := []) [] 3 0 z Reps.nil
 refine wl_run (v := (.slice (some ⟨b, 0, none⟩) 0 0)) (w' := w1) z z (x_als (by kernel_rfl) ew eb) ?_
 refine wv (r0_0) z z z ?_
 obtain ⟨v2, w2, hr, hst⟩ := run_append elem_41 underlying41 hst (Src.of_rd hst f0_0 flat_int) (room_of hg z) 41
 refine wl_run (v := v2) (w' := w2) z z (x_append z z hr) ?_
 refine wv (v2) z z z (wl_nil (tn (wp_ret ?_)))
 refine post_ret (vs := [v2]) results36 (rvs_cons (rv_tmp z) rvs_nil) ?_
 rw [List.nil_append] at hst
 exact ⟨_, z, hst.keep1⟩
}
}

theorem label_Lattice_Order_ref {w0 w : World} {I : HL} {R : SP} {a0 : (Option label_Lattice)} {p0 : Value}  (hst : St w0 w I [objO at_label_Lattice p0 a0] R) {r : ((List Int))} (hm : label_Lattice_Order a0 = some r) :
  Calls prog 22 #[p0] w fun e w' => ∃ (q0_0 : Value), e = .returned (q0_0) ∧ St w0 w' I [ownS (tyInt .i64) q0_0 r, objO at_label_Lattice p0 a0] R := by {
 rcases a0 with _ | o0
 {
 obtain ⟨rfl, hst'⟩ := objO_none hst
 clear hst
 have hst := hst'
 clear hst'
 dsimp only [label_Lattice_Order] at hm
 refine calls_start (args := [.pointer none]) func22 z ntmps22 (Nat.le_of_ble_eq_true z) ?_
 refine wp_seq (wrl (wv ((.slice none 0 0)) z z z (wl_nil (tn (wp_seq (wp_seq (wrl (wv (.pointer none) z z z (wv (.bool true) z z (by kernel_rfl) (wl_nil (tn ?_)))))))))))
 refine wp_ift z ?_
 refine wp_seq (wrl (wv ((.slice none 0 0)) z z z (wl_nil (tn (wp_ret (then_r ?_))))))
 replace hst := hst.own_nil (tyInt .i64)
 replace hst := hst.objO_nil at_label_Lattice
 obtain rfl := some_inj hm
 refine post_ret (vs := [Zs]) results22 (rvs_cons (rv_tmp z) rvs_nil) ?_
 replace hst := hst.pull1
 exact ⟨(.slice none 0 0), z, hst.keep2⟩
}
 {
 replace hst := objO_get hst
 dsimp only [label_Lattice_Order] at hm
 refine calls_start (args := [p0]) func22 z ntmps22 (Nat.le_of_ble_eq_true z) ?_
 refine wp_seq (wrl (wv ((.slice none 0 0)) z z z (wl_nil (tn (wp_seq (wp_seq (wrl (wv (p0) z z z ?_))))))))
 obtain ⟨b93, v94, v96, v98, v100, v102, v104, rfl, hst'⟩ := at_label_Lattice_open hst
 clear hst
 have hst := hst'
 clear hst'
 refine wv (.bool false) z z (by kernel_rfl) (wl_nil (tn ?_))
 refine wp_iff z ?_
 refine wp_skip (tn (wp_seq (wrl ?_)))
 refine wv (Pt b93 0) z z z (wv (Pt b93 0) z z z (wv (Pt b93 5) z z (x_field z underlying49 z sizeOf41 z) (wv (v104) z z (x_load z isAgg41 (hst.bc0 z)) ?_)))
 replace hst := hst.pull6
 obtain ⟨css106, hq107, hst⟩ := hst.own_open
 obtain ⟨t108, ht109, hm⟩ := bind_some hm
 refine wc call36 [v104] z z z ?_
 refine (slices_Clone_int_int_ref (hst.rdrow0 hq107) hst.to0 ht109).mono ?_
 rintro _ w110 ⟨v113, rfl, hst⟩
 refine ⟨_, z, ?_⟩
 replace hst := hst.of1.pull1.own_close hq107
 refine wv (v113) z z z (wl_nil (tn (wp_ret ?_)))
 replace hst := hst.pull7.pull7.pull7.pull7.pull7.pull7
 replace hst := at_label_Lattice_close (pv := Pt b93 0) (x := o0) hst z
 replace hst := objO_some hst
 obtain rfl := some_inj hm
 refine post_ret (vs := [v113]) results22 (rvs_cons (rv_tmp z) rvs_nil) ?_
 replace hst := hst.pull1
 exact ⟨v113, z, hst.keep2⟩
}
}

theorem label_Lattice_Below_ref {w0 w : World} {I : HL} {R : SP} {a0 : (Option label_Lattice)} {p0 : Value} {a1 : Int}  (hst : St w0 w I [objO at_label_Lattice p0 a0] R) {r : ((List Int))} (hm : label_Lattice_Below a0 a1 = some r) :
  Calls prog 24 #[p0, I6 a1] w fun e w' => ∃ (q0_0 : Value), e = .returned (q0_0) ∧ St w0 w' I [ownS (tyInt .i64) q0_0 r, objO at_label_Lattice p0 a0] R := by {
 unfold label_Lattice_Below at hm
 refine calls_start (args := [p0, I6 a1]) func24 z ntmps24 (Nat.le_of_ble_eq_true z) ?_
 refine wp_seq (wrl (wv ((.slice none 0 0)) z z z (wl_nil (tn (wp_seq (wrl (wv ((.slice none 0 0)) z z z (wl_nil (tn (wp_seq (wp_seq (wrl (wv (p0) z z z ?_)))))))))))))
 obtain ⟨t166, ht167, hm⟩ := bind_some hm
 refine wc call12 [p0] z z z ?_
 refine (label_Lattice_Len_ref hst.to1 ht167).mono ?_
 rintro _ w168 ⟨rfl, hst⟩
 refine ⟨_, z, ?_⟩
 replace hst := hst.of1
 refine wv (.int .i64 (0:Int)) z z z (wl_nil (tn (wp_block ?_)))
 replace hst := hst.own_nil (tyInt .i64)
 obtain ⟨n231, hm⟩ := loopO_some hm
 refine wp_loop_n (fun n a w => ∃ (z226 : (List Int)) (z229 : Int) (v227 : Value) (σ230 : Nat → Value), loopN (label_Lattice_Below_l0 t166 a0 a1) n (z226, z229) = some r ∧ a = Fr 22 (upd (upd (upd (upd (upd σ230 0 (p0)) 1 (.int .i64 a1)) 5 (v227)) 8 (.int .i64 t166)) 9 (.int .i64 z229)) ∧ St w0 w I [ownS (tyInt .i64) v227 z226, objO at_label_Lattice p0 a0] R) n231 ⟨[], (0:Int), Zs, _, hm, (fu 0 p0 z (fu 1 (.int .i64 a1) z (fu 5 (.slice none 0 0) z (fu 8 (.int .i64 t166) z (fu 9 (.int .i64 (0:Int)) z z))))), hst⟩ ?_
 rintro n237 _ w232 ⟨z226, z229, v227, σ230, hm, rfl, hst⟩
 obtain ⟨n234, y235, rfl, hm, hx236⟩ := loopN_some hm
 dsimp only [label_Lattice_Below_l0] at hm
 refine wp_seq (wrl (wv (.bool (decide (z229 < t166))) z z z (wl_nil (tn (wp_seq ?_)))))
 refine bsplit (decide (z229 < t166)) (fun hc238 => ?_) (fun hc238 => ?_)
 {
 replace hm := bif_t hc238 hm
 refine wp_ift (cvb hc238) ?_
 refine wp_skip (tn (wp_seq (wp_block (wp_seq (wrl ?_)))))
 refine wv (.int .i64 z229) z z z (wv (.int .i64 z229) z z z (wl_nil (tn (wp_seq (wrl (wv (p0) z z z (wv (.int .i64 z229) z z z (wv (.int .i64 a1) z z z ?_))))))))
 replace hst := hst.pull1
 obtain ⟨t239, ht240, hm⟩ := bind_some hm
 refine wc call15 [p0, I6 z229, I6 a1] z z z ?_
 refine (label_Lattice_Leq_ref hst.to1 ht240).mono ?_
 rintro _ w241 ⟨rfl, hst⟩
 refine ⟨_, z, ?_⟩
 replace hst := hst.of1
 refine wl_nil (tn ?_)
 refine bsplit t239 (fun hc244 => ?_) (fun hc244 => ?_)
 {
 replace hm := bif_t hc244 hm
 refine wp_ift (cvb hc244) ?_
 refine wrl (wv (v227) z z z (wv (.int .i64 z229) z z z ?_))
 obtain ⟨b245, w246, ew247, eb248, hst⟩ := hst.lits (E := (tyInt .i64)) (xs := [z229]) [[I6 z229]] 3 1 z (Reps.cons z Reps.nil)
 refine wl_run (v := (.slice (some ⟨b245, 0, none⟩) 1 1)) (w' := w246) z z (x_als (by kernel_rfl) ew247 eb248) ?_
 obtain ⟨hg250, hm⟩ := gd_some hm
 replace hst := hst.pull2
 obtain ⟨v251, w252, hr253, hst⟩ := run_append elem_41 underlying41 hst hst.src1 (room_of hg250 z) 41
 refine wl_run (v := v251) (w' := w252) z z (x_append z z hr253) ?_
 refine wv (v251) z z z (wl_nil (blk_n (tn (wrl (wv (.int .i64 (i64.wrap (z229 + (1:Int)))) z z z (wv (.int .i64 (i64.wrap (z229 + (1:Int)))) z z z (wl_nil (tn ?_))))))))
 replace hst := hst.pull2.pull1.keep2
 obtain rfl := some_inj hm
 exact ⟨_, Nat.lt_succ_self _, (z226 ++ ([z229])), (i64.wrap (z229 + (1:Int))), v251, _, hx236, (fu 0 p0 z (fu 1 (.int .i64 a1) z (fu 5 v251 z (fu 8 (.int .i64 t166) z (fu 9 (.int .i64 (i64.wrap (z229 + (1:Int)))) z z))))), hst⟩
}
 {
 replace hm := bif_f hc244 hm
 refine wp_iff (cvb hc244) ?_
 refine wp_skip (blk_n (tn (wrl ?_)))
 refine wv (.int .i64 (i64.wrap (z229 + (1:Int)))) z z z (wv (.int .i64 (i64.wrap (z229 + (1:Int)))) z z z (wl_nil (tn ?_)))
 replace hst := hst.pull1.keep2
 obtain rfl := some_inj hm
 exact ⟨_, Nat.lt_succ_self _, z226, (i64.wrap (z229 + (1:Int))), v227, _, hx236, (fu 0 p0 z (fu 1 (.int .i64 a1) z (fu 5 v227 z (fu 8 (.int .i64 t166) z (fu 9 (.int .i64 (i64.wrap (z229 + (1:Int)))) z z))))), hst⟩
}
}
 {
 replace hm := bif_f hc238 hm
 refine wp_iff (cvb hc238) ?_
 refine wp_exit (then_x (then_x ?_))
 replace hm := inr_up hm hx236
 refine blk_x (tn (wp_seq (wrl ?_)))
 refine wv (v227) z z z (wv (v227) z z z (wl_nil (tn (wp_ret ?_))))
 obtain rfl := some_inj hm
 refine post_ret (vs := [v227]) results24 (rvs_cons (rv_tmp z) rvs_nil) ?_
 replace hst := hst.pull1.pull1
 exact ⟨v227, z, hst.keep2⟩
}
}

theorem law03_LabelNil_ref {w0 w : World} {I : HL} {R : SP} {a0 : Int} {a1 : Int}  (hst : St w0 w I [] R) {r : (Bool)} (hm : law03_LabelNil a0 a1 = some r) :
  Calls prog 8 #[I6 a0, I6 a1] w fun e w' => ∃ (I' : HL), e = .returned (.bool r) ∧ I.le I' ∧ St w0 w' I' [] R := by {
 unfold law03_LabelNil at hm
 refine calls_start (args := [I6 a0, I6 a1]) func8 z ntmps8 (Nat.le_of_ble_eq_true z) ?_
 have hI0 := HL.le.refl I
 refine wp_seq (wrl (wv (.bool false) z z z (wl_nil (tn (wp_seq (wrl (wv (.pointer none) z z z (wl_nil (tn (wp_seq (wrl ?_)))))))))))
 obtain ⟨t79, ht80, hm⟩ := bind_some hm
 refine wc call9 [] z z z ?_
 refine (law03_awake_ref hst.to0 ht80).mono ?_
 rintro _ w81 ⟨I82, rfl, hI83, hst⟩
 refine ⟨_, z, ?_⟩
 replace hst := hst.of0
 replace hI0 := hI0.trans hI83
 refine wv (.bool t79) z z z ?_
 refine bsplit t79 (fun hc84 => ?_) (fun hc84 => ?_)
 {
 replace hm := bif_t hc84 hm
 refine wv (.pointer none) ((wanted_eq z z z (cvb hc84)).trans z) z z ?_
 replace hst := hst.objO_nil at_label_Lattice
 obtain ⟨t86, ht87, hm⟩ := bind_some hm
 refine wl_call ((wanted_eq z z z (cvb hc84)).trans z) z (x_call call12 z (vs := [.pointer none]) z) ?_
 refine (label_Lattice_Len_ref hst.to1 ht87).mono ?_
 rintro _ w88 ⟨rfl, hst⟩
 refine ⟨_, z, ?_⟩
 replace hst := hst.of1
 refine wv (.bool (t86 == (0:Int))) ((wanted_eq z z z (cvb hc84)).trans z) z z (wv (.bool (t86 == (0:Int))) z z (x_pick_t hc84 z z) (wv (.bool (t86 == (0:Int))) z z z ?_))
 refine bsplit (t86 == (0:Int)) (fun hc91 => ?_) (fun hc91 => ?_)
 {
 replace hm := bif_t hc91 hm
 refine wv (.pointer none) ((wanted_eq z z z (cvb hc91)).trans z) z z (wv (.int .i64 a0) ((wanted_eq z z z (cvb hc91)).trans z) z z ?_)
 replace hst := hst.objO_nil at_label_Lattice
 obtain ⟨t93, ht94, hm⟩ := bind_some hm
 refine wl_call ((wanted_eq z z z (cvb hc91)).trans z) z (x_call call23 z (vs := [.pointer none, I6 a0]) z) ?_
 refine (label_Lattice_Is_ref hst.to1 ht94).mono ?_
 rintro _ w95 ⟨rfl, hst⟩
 refine ⟨_, z, ?_⟩
 replace hst := hst.of1
 refine wv (.bool (!t93)) ((wanted_eq z z z (cvb hc91)).trans z) z z (wv (.bool (!t93)) z z (x_pick_t hc91 z z) (wv (.bool (!t93)) z z z ?_))
 refine bsplit (!t93) (fun hc98 => ?_) (fun hc98 => ?_)
 {
 replace hm := bif_t hc98 hm
 refine wv (.pointer none) ((wanted_eq z z z (cvb hc98)).trans z) z z (wv (.int .i64 a0) ((wanted_eq z z z (cvb hc98)).trans z) z z (wv (.int .i64 a1) ((wanted_eq z z z (cvb hc98)).trans z) z z ?_))
 replace hst := hst.objO_nil at_label_Lattice
 obtain ⟨t100, ht101, hm⟩ := bind_some hm
 refine wl_call ((wanted_eq z z z (cvb hc98)).trans z) z (x_call call15 z (vs := [.pointer none, I6 a0, I6 a1]) z) ?_
 refine (label_Lattice_Leq_ref hst.to1 ht101).mono ?_
 rintro _ w102 ⟨rfl, hst⟩
 refine ⟨_, z, ?_⟩
 replace hst := hst.of1
 refine wv (.bool (!t100)) ((wanted_eq z z z (cvb hc98)).trans z) z z (wv (.bool (!t100)) z z (x_pick_t hc98 z z) (wv (.bool (!t100)) z z z ?_))
 refine bsplit (!t100) (fun hc105 => ?_) (fun hc105 => ?_)
 {
 replace hm := bif_t hc105 hm
 refine wv (.pointer none) ((wanted_eq z z z (cvb hc105)).trans z) z z (wv (.int .i64 a0) ((wanted_eq z z z (cvb hc105)).trans z) z z (wv (.int .i64 a1) ((wanted_eq z z z (cvb hc105)).trans z) z z ?_))
 replace hst := hst.objO_nil at_label_Lattice
 obtain ⟨t107, ht108, hm⟩ := bind_some hm
 refine wl_call ((wanted_eq z z z (cvb hc105)).trans z) z (x_call call13 z (vs := [.pointer none, I6 a0, I6 a1]) z) ?_
 refine (label_Lattice_Join_ref hst.to1 ht108).mono ?_
 rintro _ w109 ⟨rfl, hst⟩
 refine ⟨_, z, ?_⟩
 replace hst := hst.of1
 refine wv (.bool (t107 == ((-1):Int))) ((wanted_eq z z z (cvb hc105)).trans z) z z (wv (.bool (t107 == ((-1):Int))) z z (x_pick_t hc105 z z) (wv (.bool (t107 == ((-1):Int))) z z z ?_))
 refine bsplit (t107 == ((-1):Int)) (fun hc112 => ?_) (fun hc112 => ?_)
 {
 replace hm := bif_t hc112 hm
 refine wv (.pointer none) ((wanted_eq z z z (cvb hc112)).trans z) z z (wv (.int .i64 a0) ((wanted_eq z z z (cvb hc112)).trans z) z z (wv (.int .i64 a1) ((wanted_eq z z z (cvb hc112)).trans z) z z ?_))
 replace hst := hst.objO_nil at_label_Lattice
 obtain ⟨t114, ht115, hm⟩ := bind_some hm
 refine wl_call ((wanted_eq z z z (cvb hc112)).trans z) z (x_call call14 z (vs := [.pointer none, I6 a0, I6 a1]) z) ?_
 refine (label_Lattice_Meet_ref hst.to1 ht115).mono ?_
 rintro _ w116 ⟨rfl, hst⟩
 refine ⟨_, z, ?_⟩
 replace hst := hst.of1
 refine wv (.bool (t114 == ((-1):Int))) ((wanted_eq z z z (cvb hc112)).trans z) z z (wv (.bool (t114 == ((-1):Int))) z z (x_pick_t hc112 z z) (wv (.bool (t114 == ((-1):Int))) z z z ?_))
 refine bsplit (t114 == ((-1):Int)) (fun hc119 => ?_) (fun hc119 => ?_)
 {
 replace hm := bif_t hc119 hm
 refine wv (.pointer none) ((wanted_eq z z z (cvb hc119)).trans z) z z ?_
 replace hst := hst.objO_nil at_label_Lattice
 obtain ⟨t121, ht122, hm⟩ := bind_some hm
 refine wl_call ((wanted_eq z z z (cvb hc119)).trans z) z (x_call call16 z (vs := [.pointer none]) z) ?_
 refine (label_Lattice_Bottom_ref hst.to1 ht122).mono ?_
 rintro _ w123 ⟨rfl, hst⟩
 refine ⟨_, z, ?_⟩
 replace hst := hst.of1
 refine wv (.bool (t121 == ((-1):Int))) ((wanted_eq z z z (cvb hc119)).trans z) z z (wv (.bool (t121 == ((-1):Int))) z z (x_pick_t hc119 z z) (wv (.bool (t121 == ((-1):Int))) z z z ?_))
 refine bsplit (t121 == ((-1):Int)) (fun hc126 => ?_) (fun hc126 => ?_)
 {
 replace hm := bif_t hc126 hm
 refine wv (.pointer none) ((wanted_eq z z z (cvb hc126)).trans z) z z ?_
 replace hst := hst.objO_nil at_label_Lattice
 obtain ⟨t128, ht129, hm⟩ := bind_some hm
 refine wl_call ((wanted_eq z z z (cvb hc126)).trans z) z (x_call call17 z (vs := [.pointer none]) z) ?_
 refine (label_Lattice_Top_ref hst.to1 ht129).mono ?_
 rintro _ w130 ⟨rfl, hst⟩
 refine ⟨_, z, ?_⟩
 replace hst := hst.of1
 refine wv (.bool (t128 == ((-1):Int))) ((wanted_eq z z z (cvb hc126)).trans z) z z (wv (.bool (t128 == ((-1):Int))) z z (x_pick_t hc126 z z) (wv (.bool (t128 == ((-1):Int))) z z z ?_))
 refine bsplit (t128 == ((-1):Int)) (fun hc133 => ?_) (fun hc133 => ?_)
 {
 replace hm := bif_t hc133 hm
 refine wv (.pointer none) ((wanted_eq z z z (cvb hc133)).trans z) z z (wv (.int .i64 a0) ((wanted_eq z z z (cvb hc133)).trans z) z z ?_)
 replace hst := hst.objO_nil at_label_Lattice
 obtain ⟨t135, ht136, hm⟩ := bind_some hm
 refine wl_call ((wanted_eq z z z (cvb hc133)).trans z) z (x_call call18 z (vs := [.pointer none, I6 a0]) z) ?_
 refine (label_Lattice_Rank_ref hst.to1 ht136).mono ?_
 rintro _ w137 ⟨rfl, hst⟩
 refine ⟨_, z, ?_⟩
 replace hst := hst.of1
 refine wv (.bool (t135 == ((-1):Int))) ((wanted_eq z z z (cvb hc133)).trans z) z z (wv (.bool (t135 == ((-1):Int))) z z (x_pick_t hc133 z z) (wv (.bool (t135 == ((-1):Int))) z z z ?_))
 refine bsplit (t135 == ((-1):Int)) (fun hc140 => ?_) (fun hc140 => ?_)
 {
 replace hm := bif_t hc140 hm
 refine wv (.pointer none) ((wanted_eq z z z (cvb hc140)).trans z) z z ?_
 replace hst := hst.objO_nil at_label_Lattice
 obtain ⟨t142, ht143, hm⟩ := bind_some hm
 refine wl_call ((wanted_eq z z z (cvb hc140)).trans z) z (x_call call22 z (vs := [.pointer none]) z) ?_
 refine (label_Lattice_Order_ref hst.to1 ht143).mono ?_
 rintro _ w144 ⟨v147, rfl, hst⟩
 refine ⟨_, z, ?_⟩
 replace hst := hst.of2
 refine wv (.int .i64 ((t142).length : Int)) ((wanted_eq z z z (cvb hc140)).trans z) z (x_len z underlying41 hst.sv0) (wv (.pointer none) ((wanted_eq z z z (cvb hc140)).trans z) z z (wv (.int .i64 a0) ((wanted_eq z z z (cvb hc140)).trans z) z z ?_))
 replace hst := hst.objO_nil at_label_Lattice
 obtain ⟨t150, ht151, hm⟩ := bind_some hm
 refine wl_call ((wanted_eq z z z (cvb hc140)).trans z) z (x_call call24 z (vs := [.pointer none, I6 a0]) z) ?_
 refine (label_Lattice_Below_ref hst.to1 ht151).mono ?_
 rintro _ w152 ⟨v155, rfl, hst⟩
 refine ⟨_, z, ?_⟩
 replace hst := hst.of2
 refine wv (.int .i64 ((t150).length : Int)) ((wanted_eq z z z (cvb hc140)).trans z) z (x_len z underlying41 hst.sv0) (wv (.int .i64 (i64.wrap (((t142).length : Int) + ((t150).length : Int)))) ((wanted_eq z z z (cvb hc140)).trans z) z z (wv (.bool ((i64.wrap (((t142).length : Int) + ((t150).length : Int))) == (0:Int))) ((wanted_eq z z z (cvb hc140)).trans z) z z (wv (.bool ((i64.wrap (((t142).length : Int) + ((t150).length : Int))) == (0:Int))) z z (x_pick_t hc140 z z) (wv (.bool ((i64.wrap (((t142).length : Int) + ((t150).length : Int))) == (0:Int))) z z z (wl_nil (tn (wp_ret ?_)))))))
 obtain rfl := some_inj hm
 refine post_ret (vs := [.bool ((i64.wrap (((t142).length : Int) + ((t150).length : Int))) == (0:Int))]) results8 (rvs_cons (rv_tmp z) rvs_nil) ?_
 exact ⟨_, z, hI0, hst.keep0⟩
}
 {
 replace hm := bif_f hc140 hm
 refine wo hc140 z z z z z z (wo hc140 z z z z z z (wo hc140 z z z z z z (wo hc140 z z z z z z (wo hc140 z z z z z z (wo hc140 z z z z z z (wo hc140 z z z z z z (wo hc140 z z z z z z (wo hc140 z z z z z z (wv (.bool false) z z (x_pick_f hc140 z z) (wv (.bool false) z z z (wl_nil (tn (wp_ret ?_)))))))))))))
 obtain rfl := some_inj hm
 refine post_ret (vs := [.bool false]) results8 (rvs_cons (rv_tmp z) rvs_nil) ?_
 exact ⟨_, z, hI0, hst.keep0⟩
}
}
 {
 replace hm := bif_f hc133 hm
 refine wo hc133 z z z z z z (wo hc133 z z z z z z (wo hc133 z z z z z z (wo hc133 z z z z z z (wv (.bool false) z z (x_pick_f hc133 z z) (wv (.bool false) z z z (wz z z z z z z (wz z z z z z z (wz z z z z z z (wz z z z z z z (wz z z z z z z (wz z z z z z z (wz z z z z z z ?_))))))))))))
 refine wz z z z z z z (wz z z z z z z (wv (.bool false) z z (x_pick_f z z z) (wv (.bool false) z z z (wl_nil (tn (wp_ret ?_))))))
 obtain rfl := some_inj hm
 refine post_ret (vs := [.bool false]) results8 (rvs_cons (rv_tmp z) rvs_nil) ?_
 exact ⟨_, z, hI0, hst.keep0⟩
}
}
 {
 replace hm := bif_f hc126 hm
 refine wo hc126 z z z z z z (wo hc126 z z z z z z (wo hc126 z z z z z z (wv (.bool false) z z (x_pick_f hc126 z z) (wv (.bool false) z z z (wz z z z z z z (wz z z z z z z (wz z z z z z z (wz z z z z z z (wv (.bool false) z z (x_pick_f z z z) (wv (.bool false) z z z (wz z z z z z z (wz z z z z z z ?_))))))))))))
 refine wz z z z z z z (wz z z z z z z (wz z z z z z z (wz z z z z z z (wz z z z z z z (wz z z z z z z (wz z z z z z z (wv (.bool false) z z (x_pick_f z z z) (wv (.bool false) z z z (wl_nil (tn (wp_ret ?_)))))))))))
 obtain rfl := some_inj hm
 refine post_ret (vs := [.bool false]) results8 (rvs_cons (rv_tmp z) rvs_nil) ?_
 exact ⟨_, z, hI0, hst.keep0⟩
}
}
 {
 replace hm := bif_f hc119 hm
 refine wo hc119 z z z z z z (wo hc119 z z z z z z (wo hc119 z z z z z z (wv (.bool false) z z (x_pick_f hc119 z z) (wv (.bool false) z z z (wz z z z z z z (wz z z z z z z (wz z z z z z z (wv (.bool false) z z (x_pick_f z z z) (wv (.bool false) z z z (wz z z z z z z (wz z z z z z z (wz z z z z z z ?_))))))))))))
 refine wz z z z z z z (wv (.bool false) z z (x_pick_f z z z) (wv (.bool false) z z z (wz z z z z z z (wz z z z z z z (wz z z z z z z (wz z z z z z z (wz z z z z z z (wz z z z z z z (wz z z z z z z (wz z z z z z z (wz z z z z z z (wv (.bool false) z z (x_pick_f z z z) ?_))))))))))))
 refine wv (.bool false) z z z (wl_nil (tn (wp_ret ?_)))
 obtain rfl := some_inj hm
 refine post_ret (vs := [.bool false]) results8 (rvs_cons (rv_tmp z) rvs_nil) ?_
 exact ⟨_, z, hI0, hst.keep0⟩
}
}
 {
 replace hm := bif_f hc112 hm
 refine wo hc112 z z z z z z (wo hc112 z z z z z z (wo hc112 z z z z z z (wo hc112 z z z z z z (wo hc112 z z z z z z (wv (.bool false) z z (x_pick_f hc112 z z) (wv (.bool false) z z z (wz z z z z z z (wz z z z z z z (wz z z z z z z (wv (.bool false) z z (x_pick_f z z z) (wv (.bool false) z z z (wz z z z z z z ?_))))))))))))
 refine wz z z z z z z (wz z z z z z z (wv (.bool false) z z (x_pick_f z z z) (wv (.bool false) z z z (wz z z z z z z (wz z z z z z z (wz z z z z z z (wz z z z z z z (wv (.bool false) z z (x_pick_f z z z) (wv (.bool false) z z z (wz z z z z z z (wz z z z z z z (wz z z z z z z ?_))))))))))))
 refine wz z z z z z z (wz z z z z z z (wz z z z z z z (wz z z z z z z (wz z z z z z z (wz z z z z z z (wv (.bool false) z z (x_pick_f z z z) (wv (.bool false) z z z (wl_nil (tn (wp_ret ?_))))))))))
 obtain rfl := some_inj hm
 refine post_ret (vs := [.bool false]) results8 (rvs_cons (rv_tmp z) rvs_nil) ?_
 exact ⟨_, z, hI0, hst.keep0⟩
}
}
 {
 replace hm := bif_f hc105 hm
 refine wo hc105 z z z z z z (wo hc105 z z z z z z (wo hc105 z z z z z z (wo hc105 z z z z z z (wo hc105 z z z z z z (wv (.bool false) z z (x_pick_f hc105 z z) (wv (.bool false) z z z (wz z z z z z z (wz z z z z z z (wz z z z z z z (wz z z z z z z (wz z z z z z z (wv (.bool false) z z (x_pick_f z z z) ?_))))))))))))
 refine wv (.bool false) z z z (wz z z z z z z (wz z z z z z z (wz z z z z z z (wv (.bool false) z z (x_pick_f z z z) (wv (.bool false) z z z (wz z z z z z z (wz z z z z z z (wz z z z z z z (wv (.bool false) z z (x_pick_f z z z) (wv (.bool false) z z z (wz z z z z z z (wz z z z z z z ?_))))))))))))
 refine wz z z z z z z (wz z z z z z z (wv (.bool false) z z (x_pick_f z z z) (wv (.bool false) z z z (wz z z z z z z (wz z z z z z z (wz z z z z z z (wz z z z z z z (wz z z z z z z (wz z z z z z z (wz z z z z z z (wz z z z z z z (wz z z z z z z ?_))))))))))))
 refine wv (.bool false) z z (x_pick_f z z z) (wv (.bool false) z z z (wl_nil (tn (wp_ret ?_))))
 obtain rfl := some_inj hm
 refine post_ret (vs := [.bool false]) results8 (rvs_cons (rv_tmp z) rvs_nil) ?_
 exact ⟨_, z, hI0, hst.keep0⟩
}
}
 {
 replace hm := bif_f hc98 hm
 refine wo hc98 z z z z z z (wo hc98 z z z z z z (wo hc98 z z z z z z (wo hc98 z z z z z z (wo hc98 z z z z z z (wv (.bool false) z z (x_pick_f hc98 z z) (wv (.bool false) z z z (wz z z z z z z (wz z z z z z z (wz z z z z z z (wz z z z z z z (wz z z z z z z (wv (.bool false) z z (x_pick_f z z z) ?_))))))))))))
 refine wv (.bool false) z z z (wz z z z z z z (wz z z z z z z (wz z z z z z z (wz z z z z z z (wz z z z z z z (wv (.bool false) z z (x_pick_f z z z) (wv (.bool false) z z z (wz z z z z z z (wz z z z z z z (wz z z z z z z (wv (.bool false) z z (x_pick_f z z z) (wv (.bool false) z z z ?_))))))))))))
 refine wz z z z z z z (wz z z z z z z (wz z z z z z z (wv (.bool false) z z (x_pick_f z z z) (wv (.bool false) z z z (wz z z z z z z (wz z z z z z z (wz z z z z z z (wz z z z z z z (wv (.bool false) z z (x_pick_f z z z) (wv (.bool false) z z z (wz z z z z z z (wz z z z z z z ?_))))))))))))
 refine wz z z z z z z (wz z z z z z z (wz z z z z z z (wz z z z z z z (wz z z z z z z (wz z z z z z z (wz z z z z z z (wv (.bool false) z z (x_pick_f z z z) (wv (.bool false) z z z (wl_nil (tn (wp_ret ?_)))))))))))
 obtain rfl := some_inj hm
 refine post_ret (vs := [.bool false]) results8 (rvs_cons (rv_tmp z) rvs_nil) ?_
 exact ⟨_, z, hI0, hst.keep0⟩
}
}
 {
 replace hm := bif_f hc91 hm
 refine wo hc91 z z z z z z (wo hc91 z z z z z z (wo hc91 z z z z z z (wo hc91 z z z z z z (wv (.bool false) z z (x_pick_f hc91 z z) (wv (.bool false) z z z (wz z z z z z z (wz z z z z z z (wz z z z z z z (wz z z z z z z (wz z z z z z z (wv (.bool false) z z (x_pick_f z z z) (wv (.bool false) z z z ?_))))))))))))
 refine wz z z z z z z (wz z z z z z z (wz z z z z z z (wz z z z z z z (wz z z z z z z (wv (.bool false) z z (x_pick_f z z z) (wv (.bool false) z z z (wz z z z z z z (wz z z z z z z (wz z z z z z z (wz z z z z z z (wz z z z z z z (wv (.bool false) z z (x_pick_f z z z) ?_))))))))))))
 refine wv (.bool false) z z z (wz z z z z z z (wz z z z z z z (wz z z z z z z (wv (.bool false) z z (x_pick_f z z z) (wv (.bool false) z z z (wz z z z z z z (wz z z z z z z (wz z z z z z z (wv (.bool false) z z (x_pick_f z z z) (wv (.bool false) z z z (wz z z z z z z (wz z z z z z z ?_))))))))))))
 refine wz z z z z z z (wz z z z z z z (wv (.bool false) z z (x_pick_f z z z) (wv (.bool false) z z z (wz z z z z z z (wz z z z z z z (wz z z z z z z (wz z z z z z z (wz z z z z z z (wz z z z z z z (wz z z z z z z (wz z z z z z z (wz z z z z z z ?_))))))))))))
 refine wv (.bool false) z z (x_pick_f z z z) (wv (.bool false) z z z (wl_nil (tn (wp_ret ?_))))
 obtain rfl := some_inj hm
 refine post_ret (vs := [.bool false]) results8 (rvs_cons (rv_tmp z) rvs_nil) ?_
 exact ⟨_, z, hI0, hst.keep0⟩
}
}
 {
 replace hm := bif_f hc84 hm
 refine wo hc84 z z z z z z (wo hc84 z z z z z z (wo hc84 z z z z z z (wv (.bool false) z z (x_pick_f hc84 z z) (wv (.bool false) z z z (wz z z z z z z (wz z z z z z z (wz z z z z z z (wz z z z z z z (wv (.bool false) z z (x_pick_f z z z) (wv (.bool false) z z z (wz z z z z z z (wz z z z z z z ?_))))))))))))
 refine wz z z z z z z (wz z z z z z z (wz z z z z z z (wv (.bool false) z z (x_pick_f z z z) (wv (.bool false) z z z (wz z z z z z z (wz z z z z z z (wz z z z z z z (wz z z z z z z (wz z z z z z z (wv (.bool false) z z (x_pick_f z z z) (wv (.bool false) z z z (wz z z z z z z ?_))))))))))))
 refine wz z z z z z z (wz z z z z z z (wz z z z z z z (wz z z z z z z (wv (.bool false) z z (x_pick_f z z z) (wv (.bool false) z z z (wz z z z z z z (wz z z z z z z (wz z z z z z z (wv (.bool false) z z (x_pick_f z z z) (wv (.bool false) z z z (wz z z z z z z (wz z z z z z z ?_))))))))))))
 refine wz z z z z z z (wv (.bool false) z z (x_pick_f z z z) (wv (.bool false) z z z (wz z z z z z z (wz z z z z z z (wz z z z z z z (wz z z z z z z (wv (.bool false) z z (x_pick_f z z z) (wv (.bool false) z z z (wz z z z z z z (wz z z z z z z (wz z z z z z z (wz z z z z z z ?_))))))))))))
 refine wz z z z z z z (wz z z z z z z (wz z z z z z z (wz z z z z z z (wz z z z z z z (wv (.bool false) z z (x_pick_f z z z) (wv (.bool false) z z z (wl_nil (tn (wp_ret ?_)))))))))
 obtain rfl := some_inj hm
 refine post_ret (vs := [.bool false]) results8 (rvs_cons (rv_tmp z) rvs_nil) ?_
 exact ⟨_, z, hI0, hst.keep0⟩
}
}

end Go.Proofs.Ytddhkbholbcebaa
