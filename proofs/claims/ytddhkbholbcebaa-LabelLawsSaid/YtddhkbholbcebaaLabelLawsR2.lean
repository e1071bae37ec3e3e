/- The Go functions refine their models, part 2. -/
import Derived.Test.YtddhkbholbcebaaLabelLawsR1
set_option linter.unusedVariables false
set_option linter.unusedSimpArgs false
set_option maxRecDepth 100000
set_option maxHeartbeats 4000000
namespace Go.Proofs.Ytddhkbholbcebaa
open Go Go.V
open _root_.Go.Proofs.Try IntKind
attribute [local irreducible] wpList Code.wp wpQuiet Calls bodyPost Oper.wp wpS Nx PendOK YieldsIn
theorem label_Lattice_Len_ref {w0 w : World} {I : HL} {R : SP} {a0 : (Option label_Lattice)} {p0 : Value}  (hst : St w0 w I [objO at_label_Lattice p0 a0] R) {r : (Int)} (hm : label_Lattice_Len a0 = some r) :
  Calls prog 12 #[p0] w fun e w' => e = .returned (.int .i64 r) ∧ St w0 w' I [objO at_label_Lattice p0 a0] R := by {
 rcases a0 with _ | o0
 {
 obtain ⟨rfl, hst'⟩ := objO_none hst
 clear hst
 have hst := hst'
 clear hst'
 dsimp only [label_Lattice_Len] at hm
 refine calls_start (args := [.pointer none]) func12 z ntmps12 (Nat.le_of_ble_eq_true z) ?_
 refine wp_seq (wrl (wv (.int .i64 (0:Int)) z z z (wl_nil (tn (wp_seq (wp_seq (wrl (wv (.pointer none) z z z (wv (.bool true) z z (by kernel_rfl) (wl_nil (tn ?_)))))))))))
 refine wp_ift z ?_
 refine wp_seq (wrl (wv (.int .i64 (0:Int)) z z z (wl_nil (tn (wp_ret (then_r ?_))))))
 replace hst := hst.objO_nil at_label_Lattice
 obtain rfl := some_inj hm
 refine post_ret (vs := [Zi]) results12 (rvs_cons (rv_tmp z) rvs_nil) ?_
 exact ⟨z, hst.keep1⟩
}
 {
 replace hst := objO_get hst
 dsimp only [label_Lattice_Len] at hm
 refine calls_start (args := [p0]) func12 z ntmps12 (Nat.le_of_ble_eq_true z) ?_
 refine wp_seq (wrl (wv (.int .i64 (0:Int)) z z z (wl_nil (tn (wp_seq (wp_seq (wrl (wv (p0) z z z ?_))))))))
 obtain ⟨b35, v36, v38, v40, v42, v44, v46, rfl, hst'⟩ := at_label_Lattice_open hst
 clear hst
 have hst := hst'
 clear hst'
 refine wv (.bool false) z z (by kernel_rfl) (wl_nil (tn ?_))
 refine wp_iff z ?_
 refine wp_skip (tn (wp_seq (wrl ?_)))
 refine wv (Pt b35 0) z z z (wv (Pt b35 0) z z z (wv (Pt b35 0) z z (x_field z underlying49 z sizeOf28 z) (wv (v36) z z (x_load z isAgg28 (hst.bc0 z)) (wv (.int .i64 ((o0.up).length : Int)) z z (x_len z underlying28 hst.sv1) (wv (.int .i64 ((o0.up).length : Int)) z z z (wl_nil (tn (wp_ret ?_))))))))
 replace hst := hst.pull6.pull6.pull6.pull6.pull6.pull6.pull6
 replace hst := at_label_Lattice_close (pv := Pt b35 0) (x := o0) hst z
 replace hst := objO_some hst
 obtain rfl := some_inj hm
 refine post_ret (vs := [I6 ((o0.up).length : Int)]) results12 (rvs_cons (rv_tmp z) rvs_nil) ?_
 exact ⟨z, hst.keep1⟩
}
}

theorem label_Lattice_Is_ref {w0 w : World} {I : HL} {R : SP} {a0 : (Option label_Lattice)} {p0 : Value} {a1 : Int}  (hst : St w0 w I [objO at_label_Lattice p0 a0] R) {r : (Bool)} (hm : label_Lattice_Is a0 a1 = some r) :
  Calls prog 23 #[p0, I6 a1] w fun e w' => e = .returned (.bool r) ∧ St w0 w' I [objO at_label_Lattice p0 a0] R := by {
 unfold label_Lattice_Is at hm
 refine calls_start (args := [p0, I6 a1]) func23 z ntmps23 (Nat.le_of_ble_eq_true z) ?_
 refine wp_seq (wrl (wv (.bool false) z z z (wl_nil (tn (wp_seq (wrl (wv (.int .i64 a1) z z z (wv (.bool (decide (a1 ≥ (0:Int)))) z z z (wv (.bool (decide (a1 ≥ (0:Int)))) z z z ?_)))))))))
 refine bsplit (decide (a1 ≥ (0:Int))) (fun hc26 => ?_) (fun hc26 => ?_)
 {
 replace hm := bif_t hc26 hm
 refine wv (.int .i64 a1) ((wanted_eq z z z (cvb hc26)).trans z) z z (wv (p0) ((wanted_eq z z z (cvb hc26)).trans z) z z ?_)
 obtain ⟨t27, ht28, hm⟩ := bind_some hm
 refine wl_call ((wanted_eq z z z (cvb hc26)).trans z) z (x_call call12 z (vs := [p0]) z) ?_
 refine (label_Lattice_Len_ref hst.to1 ht28).mono ?_
 rintro _ w29 ⟨rfl, hst⟩
 refine ⟨_, z, ?_⟩
 replace hst := hst.of1
 refine wv (.bool (decide (a1 < t27))) ((wanted_eq z z z (cvb hc26)).trans z) z z (wv (.bool (decide (a1 < t27))) z z (x_pick_t hc26 z z) (wv (.bool (decide (a1 < t27))) z z z (wl_nil (tn (wp_ret ?_)))))
 obtain rfl := some_inj hm
 refine post_ret (vs := [.bool (decide (a1 < t27))]) results23 (rvs_cons (rv_tmp z) rvs_nil) ?_
 exact ⟨z, hst.keep1⟩
}
 {
 replace hm := bif_f hc26 hm
 refine wo hc26 z z z z z z (wo hc26 z z z z z z (wo hc26 z z z z z z (wo hc26 z z z z z z (wv (.bool false) z z (x_pick_f hc26 z z) (wv (.bool false) z z z (wl_nil (tn (wp_ret ?_))))))))
 obtain rfl := some_inj hm
 refine post_ret (vs := [.bool false]) results23 (rvs_cons (rv_tmp z) rvs_nil) ?_
 exact ⟨z, hst.keep1⟩
}
}

theorem label_Lattice_Join_ref {w0 w : World} {I : HL} {R : SP} {a0 : (Option label_Lattice)} {p0 : Value} {a1 : Int} {a2 : Int}  (hst : St w0 w I [objO at_label_Lattice p0 a0] R) {r : (Int)} (hm : label_Lattice_Join a0 a1 a2 = some r) :
  Calls prog 13 #[p0, I6 a1, I6 a2] w fun e w' => e = .returned (.int .i64 r) ∧ St w0 w' I [objO at_label_Lattice p0 a0] R := by {
 rcases a0 with _ | o0
 {
 obtain ⟨rfl, hst'⟩ := objO_none hst
 clear hst
 have hst := hst'
 clear hst'
 dsimp only [label_Lattice_Join] at hm
 refine calls_start (args := [.pointer none, I6 a1, I6 a2]) func13 z ntmps13 (Nat.le_of_ble_eq_true z) ?_
 refine wp_seq (wrl (wv (.int .i64 (0:Int)) z z z (wl_nil (tn (wp_seq (wp_seq (wrl (wv (.pointer none) z z z (wv (.int .i64 a1) z z z ?_)))))))))
 replace hst := hst.objO_nil at_label_Lattice
 obtain ⟨t75, ht76, hm⟩ := bind_some hm
 refine wc call23 [.pointer none, I6 a1] z z z ?_
 refine (label_Lattice_Is_ref hst.to1 ht76).mono ?_
 rintro _ w77 ⟨rfl, hst⟩
 refine ⟨_, z, ?_⟩
 replace hst := hst.of1
 refine wv (.bool (!t75)) z z z (wv (.bool (!t75)) z z z ?_)
 refine bsplit (!t75) (fun hc80 => ?_) (fun hc80 => ?_)
 {
 replace hm := bif_t hc80 hm
 refine wo hc80 z z z z z z (wo hc80 z z z z z z (wo hc80 z z z z z z (wo hc80 z z z z z z (wv (.bool true) z z (x_pick_t hc80 z z) (wl_nil (tn ?_))))))
 refine wp_ift z ?_
 refine wp_seq (wrl (wv (.int .i64 ((-1):Int)) z z z (wl_nil (tn (wp_ret (then_r ?_))))))
 replace hst := hst.objO_nil at_label_Lattice
 obtain rfl := some_inj hm
 refine post_ret (vs := [I6 ((-1):Int)]) results13 (rvs_cons (rv_tmp z) rvs_nil) ?_
 exact ⟨z, hst.keep1⟩
}
 {
 replace hm := bif_f hc80 hm
 refine wv (.pointer none) ((wanted_eq z z z (cvb hc80)).trans z) z z (wv (.int .i64 a2) ((wanted_eq z z z (cvb hc80)).trans z) z z ?_)
 replace hst := hst.objO_nil at_label_Lattice
 obtain ⟨t82, ht83, hm⟩ := bind_some hm
 refine wl_call ((wanted_eq z z z (cvb hc80)).trans z) z (x_call call23 z (vs := [.pointer none, I6 a2]) z) ?_
 refine (label_Lattice_Is_ref hst.to1 ht83).mono ?_
 rintro _ w84 ⟨rfl, hst⟩
 refine ⟨_, z, ?_⟩
 replace hst := hst.of1
 refine wv (.bool (!t82)) ((wanted_eq z z z (cvb hc80)).trans z) z z (wv (.bool (!t82)) z z (x_pick_f hc80 z z) (wl_nil (tn ?_)))
 refine bsplit (!t82) (fun hc87 => ?_) (fun hc87 => ?_)
 {
 replace hm := bif_t hc87 hm
 refine wp_ift (cvb hc87) ?_
 refine wp_seq (wrl (wv (.int .i64 ((-1):Int)) z z z (wl_nil (tn (wp_ret (then_r ?_))))))
 replace hst := hst.objO_nil at_label_Lattice
 obtain rfl := some_inj hm
 refine post_ret (vs := [I6 ((-1):Int)]) results13 (rvs_cons (rv_tmp z) rvs_nil) ?_
 exact ⟨z, hst.keep1⟩
}
 {
 replace hm := bif_f hc87 hm
 refine wp_iff (cvb hc87) ?_
 refine wp_skip (tn (wp_seq (wrl ?_)))
 refine wv (.pointer none) z z z ?_
 cases hm
}
}
}
 {
 replace hst := objO_get hst
 dsimp only [label_Lattice_Join] at hm
 refine calls_start (args := [p0, I6 a1, I6 a2]) func13 z ntmps13 (Nat.le_of_ble_eq_true z) ?_
 refine wp_seq (wrl (wv (.int .i64 (0:Int)) z z z (wl_nil (tn (wp_seq (wp_seq (wrl (wv (p0) z z z (wv (.int .i64 a1) z z z ?_)))))))))
 replace hst := objO_some hst
 obtain ⟨t88, ht89, hm⟩ := bind_some hm
 refine wc call23 [p0, I6 a1] z z z ?_
 refine (label_Lattice_Is_ref hst.to1 ht89).mono ?_
 rintro _ w90 ⟨rfl, hst⟩
 refine ⟨_, z, ?_⟩
 replace hst := hst.of1
 replace hst := objO_get hst
 refine wv (.bool (!t88)) z z z (wv (.bool (!t88)) z z z ?_)
 refine bsplit (!t88) (fun hc93 => ?_) (fun hc93 => ?_)
 {
 replace hm := bif_t hc93 hm
 refine wo hc93 z z z z z z (wo hc93 z z z z z z (wo hc93 z z z z z z (wo hc93 z z z z z z (wv (.bool true) z z (x_pick_t hc93 z z) (wl_nil (tn ?_))))))
 refine wp_ift z ?_
 refine wp_seq (wrl (wv (.int .i64 ((-1):Int)) z z z (wl_nil (tn (wp_ret (then_r ?_))))))
 replace hst := objO_some hst
 obtain rfl := some_inj hm
 refine post_ret (vs := [I6 ((-1):Int)]) results13 (rvs_cons (rv_tmp z) rvs_nil) ?_
 exact ⟨z, hst.keep1⟩
}
 {
 replace hm := bif_f hc93 hm
 refine wv (p0) ((wanted_eq z z z (cvb hc93)).trans z) z z (wv (.int .i64 a2) ((wanted_eq z z z (cvb hc93)).trans z) z z ?_)
 replace hst := objO_some hst
 obtain ⟨t94, ht95, hm⟩ := bind_some hm
 refine wl_call ((wanted_eq z z z (cvb hc93)).trans z) z (x_call call23 z (vs := [p0, I6 a2]) z) ?_
 refine (label_Lattice_Is_ref hst.to1 ht95).mono ?_
 rintro _ w96 ⟨rfl, hst⟩
 refine ⟨_, z, ?_⟩
 replace hst := hst.of1
 replace hst := objO_get hst
 refine wv (.bool (!t94)) ((wanted_eq z z z (cvb hc93)).trans z) z z (wv (.bool (!t94)) z z (x_pick_f hc93 z z) (wl_nil (tn ?_)))
 refine bsplit (!t94) (fun hc99 => ?_) (fun hc99 => ?_)
 {
 replace hm := bif_t hc99 hm
 refine wp_ift (cvb hc99) ?_
 refine wp_seq (wrl (wv (.int .i64 ((-1):Int)) z z z (wl_nil (tn (wp_ret (then_r ?_))))))
 replace hst := objO_some hst
 obtain rfl := some_inj hm
 refine post_ret (vs := [I6 ((-1):Int)]) results13 (rvs_cons (rv_tmp z) rvs_nil) ?_
 exact ⟨z, hst.keep1⟩
}
 {
 replace hm := bif_f hc99 hm
 refine wp_iff (cvb hc99) ?_
 refine wp_skip (tn (wp_seq (wrl ?_)))
 refine wv (p0) z z z ?_
 obtain ⟨b100, v101, v103, v105, v107, v109, v111, rfl, hst'⟩ := at_label_Lattice_open hst
 clear hst
 have hst := hst'
 clear hst'
 refine wv (Pt b100 0) z z z (wv (Pt b100 2) z z (x_field z underlying49 z sizeOf47 z) (wv (v105) z z (x_load z isAgg47 (hst.bc0 z)) (wv (.int .i64 a1) z z z ?_)))
 obtain ⟨x113, hx114, hm⟩ := bind_some hm
 obtain ⟨h115, h116, hi117⟩ := geto_some hx114
 refine wv (.pointer (some (eAddr v105 (a1.toNat * 1 + 0)))) z z (x_index z z underlying47 sizeOf41 hst.sv3 h115 h116) ?_
 obtain ⟨cs118, hr119, hc120⟩ := hst.og3 hi117
 obtain ⟨v121, rfl, f122, -⟩ := hr119
 refine wv (v121) z z (x_load z isAgg41 (hc120 0 _ z)) (wv (.int .i64 a2) z z z ?_)
 obtain ⟨x124, hx125, hm⟩ := bind_some hm
 obtain ⟨h126, h127, hi128⟩ := geto_some hx125
 refine wv (.pointer (some (eAddr v121 (a2.toNat * 1 + 0)))) z z (x_index z z underlying41 sizeOf3 (ro_sliceV f122) h126 h127) (wv (.int .i64 x124) z z (x_load z isAgg3 (ro_load f122 hst hi128 (by rintro _ rfl; rfl))) (wv (.int .i64 x124) z z z (wl_nil (tn (wp_ret ?_)))))
 replace hst := hst.pull6.pull6.pull6.pull6.pull6.pull6.pull6
 replace hst := at_label_Lattice_close (pv := Pt b100 0) (x := o0) hst z
 replace hst := objO_some hst
 obtain rfl := some_inj hm
 refine post_ret (vs := [I6 x124]) results13 (rvs_cons (rv_tmp z) rvs_nil) ?_
 exact ⟨z, hst.keep1⟩
}
}
}
}

theorem label_Lattice_Rank_ref {w0 w : World} {I : HL} {R : SP} {a0 : (Option label_Lattice)} {p0 : Value} {a1 : Int}  (hst : St w0 w I [objO at_label_Lattice p0 a0] R) {r : (Int)} (hm : label_Lattice_Rank a0 a1 = some r) :
  Calls prog 18 #[p0, I6 a1] w fun e w' => e = .returned (.int .i64 r) ∧ St w0 w' I [objO at_label_Lattice p0 a0] R := by {
 rcases a0 with _ | o0
 {
 obtain ⟨rfl, hst'⟩ := objO_none hst
 clear hst
 have hst := hst'
 clear hst'
 dsimp only [label_Lattice_Rank] at hm
 refine calls_start (args := [.pointer none, I6 a1]) func18 z ntmps18 (Nat.le_of_ble_eq_true z) ?_
 refine wp_seq (wrl (wv (.int .i64 (0:Int)) z z z (wl_nil (tn (wp_seq (wp_seq (wrl (wv (.pointer none) z z z (wv (.int .i64 a1) z z z ?_)))))))))
 replace hst := hst.objO_nil at_label_Lattice
 obtain ⟨t57, ht58, hm⟩ := bind_some hm
 refine wc call23 [.pointer none, I6 a1] z z z ?_
 refine (label_Lattice_Is_ref hst.to1 ht58).mono ?_
 rintro _ w59 ⟨rfl, hst⟩
 refine ⟨_, z, ?_⟩
 replace hst := hst.of1
 refine wv (.bool (!t57)) z z z (wl_nil (tn ?_))
 refine bsplit (!t57) (fun hc62 => ?_) (fun hc62 => ?_)
 {
 replace hm := bif_t hc62 hm
 refine wp_ift (cvb hc62) ?_
 refine wp_seq (wrl (wv (.int .i64 ((-1):Int)) z z z (wl_nil (tn (wp_ret (then_r ?_))))))
 replace hst := hst.objO_nil at_label_Lattice
 obtain rfl := some_inj hm
 refine post_ret (vs := [I6 ((-1):Int)]) results18 (rvs_cons (rv_tmp z) rvs_nil) ?_
 exact ⟨z, hst.keep1⟩
}
 {
 replace hm := bif_f hc62 hm
 refine wp_iff (cvb hc62) ?_
 refine wp_skip (tn (wp_seq (wrl ?_)))
 refine wv (.pointer none) z z z ?_
 cases hm
}
}
 {
 replace hst := objO_get hst
 dsimp only [label_Lattice_Rank] at hm
 refine calls_start (args := [p0, I6 a1]) func18 z ntmps18 (Nat.le_of_ble_eq_true z) ?_
 refine wp_seq (wrl (wv (.int .i64 (0:Int)) z z z (wl_nil (tn (wp_seq (wp_seq (wrl (wv (p0) z z z (wv (.int .i64 a1) z z z ?_)))))))))
 replace hst := objO_some hst
 obtain ⟨t63, ht64, hm⟩ := bind_some hm
 refine wc call23 [p0, I6 a1] z z z ?_
 refine (label_Lattice_Is_ref hst.to1 ht64).mono ?_
 rintro _ w65 ⟨rfl, hst⟩
 refine ⟨_, z, ?_⟩
 replace hst := hst.of1
 replace hst := objO_get hst
 refine wv (.bool (!t63)) z z z (wl_nil (tn ?_))
 refine bsplit (!t63) (fun hc68 => ?_) (fun hc68 => ?_)
 {
 replace hm := bif_t hc68 hm
 refine wp_ift (cvb hc68) ?_
 refine wp_seq (wrl (wv (.int .i64 ((-1):Int)) z z z (wl_nil (tn (wp_ret (then_r ?_))))))
 replace hst := objO_some hst
 obtain rfl := some_inj hm
 refine post_ret (vs := [I6 ((-1):Int)]) results18 (rvs_cons (rv_tmp z) rvs_nil) ?_
 exact ⟨z, hst.keep1⟩
}
 {
 replace hm := bif_f hc68 hm
 refine wp_iff (cvb hc68) ?_
 refine wp_skip (tn (wp_seq (wrl ?_)))
 refine wv (p0) z z z ?_
 obtain ⟨b69, v70, v72, v74, v76, v78, v80, rfl, hst'⟩ := at_label_Lattice_open hst
 clear hst
 have hst := hst'
 clear hst'
 refine wv (Pt b69 0) z z z (wv (Pt b69 4) z z (x_field z underlying49 z sizeOf41 z) (wv (v78) z z (x_load z isAgg41 (hst.bc0 z)) (wv (.int .i64 a1) z z z ?_)))
 obtain ⟨x82, hx83, hm⟩ := bind_some hm
 obtain ⟨h84, h85, hi86⟩ := geto_some hx83
 refine wv (.pointer (some (eAddr v78 (a1.toNat * 1 + 0)))) z z (x_index z z underlying41 sizeOf3 hst.sv5 h84 h85) (wv (.int .i64 x82) z z (x_load z isAgg3 (hst.ol5 hi86 (by rintro _ rfl; rfl))) (wv (.int .i64 x82) z z z (wl_nil (tn (wp_ret ?_)))))
 replace hst := hst.pull6.pull6.pull6.pull6.pull6.pull6.pull6
 replace hst := at_label_Lattice_close (pv := Pt b69 0) (x := o0) hst z
 replace hst := objO_some hst
 obtain rfl := some_inj hm
 refine post_ret (vs := [I6 x82]) results18 (rvs_cons (rv_tmp z) rvs_nil) ?_
 exact ⟨z, hst.keep1⟩
}
}
}

theorem law03_awake_ref {w0 w : World} {I : HL} {R : SP}   (hst : St w0 w I [] R) {r : (Bool)} (hm : law03_awake = some r) :
  Calls prog 9 #[] w fun e w' => ∃ (I' : HL), e = .returned (.bool r) ∧ I.le I' ∧ St w0 w' I' [] R := by {
 unfold law03_awake at hm
 refine calls_start (args := []) func9 z ntmps9 (Nat.le_of_ble_eq_true z) ?_
 have hI0 := HL.le.refl I
 refine wp_seq (wrl (wv (.bool false) z z z (wl_nil (tn (wp_seq (wrl ?_))))))
 obtain ⟨b34, w35, ew36, eb37, hst⟩ := hst.lits (E := (tyInt .u64)) (xs := [(3:Int), (2:Int)]) [[U6 (3:Int)], [U6 (2:Int)]] 43 2 z (Reps.cons z (Reps.cons z Reps.nil))
 refine wl_run (v := (.slice (some ⟨b34, 0, none⟩) 2 2)) (w' := w35) z z (x_als (by kernel_rfl) ew36 eb37) ?_
 obtain ⟨css39, hq40, hst⟩ := hst.own_open
 obtain ⟨t41, ht42, hm⟩ := bind_some hm
 refine wc call10 [(.slice (some ⟨b34, 0, none⟩) 2 2)] z z z ?_
 refine (label_New_ref (hst.rdrow0 hq40) hst.to0 ht42).mono ?_
 rintro _ w43 ⟨I44, v46, rfl, hI45, hst⟩
 refine ⟨_, z, ?_⟩
 replace hst := hst.of1
 replace hI0 := hI0.trans hI45
 replace hst := hst.pull1.own_close (hq40.imp fun _ _ => Ty.mono _ (ro_le hI45))
 refine wv (.tuple #[v46, I6 t41.2]) z z z (wv (v46) z z z (wv (.int .i64 t41.2) z z z (wv (v46) z z z (wv (.int .i64 t41.2) z z z (wl_nil (tn (wp_seq (wrl (wv (.int .i64 t41.2) z z z (wv (.bool (t41.2 == (0:Int))) z z z (wv (.bool (t41.2 == (0:Int))) z z z ?_)))))))))))
 refine bsplit (t41.2 == (0:Int)) (fun hc48 => ?_) (fun hc48 => ?_)
 {
 replace hm := bif_t hc48 hm
 refine wv (v46) ((wanted_eq z z z (cvb hc48)).trans z) z z ?_
 replace hst := hst.pull1
 obtain ⟨t49, ht50, hm⟩ := bind_some hm
 refine wl_call ((wanted_eq z z z (cvb hc48)).trans z) z (x_call call13 z (vs := [v46, Zi, I6 (1:Int)]) z) ?_
 refine (label_Lattice_Join_ref hst.to1 ht50).mono ?_
 rintro _ w51 ⟨rfl, hst⟩
 refine ⟨_, z, ?_⟩
 replace hst := hst.of1
 refine wv (.bool (t49 == (1:Int))) ((wanted_eq z z z (cvb hc48)).trans z) z z (wv (.bool (t49 == (1:Int))) z z (x_pick_t hc48 z z) (wv (.bool (t49 == (1:Int))) z z z ?_))
 refine bsplit (t49 == (1:Int)) (fun hc54 => ?_) (fun hc54 => ?_)
 {
 replace hm := bif_t hc54 hm
 refine wv (v46) ((wanted_eq z z z (cvb hc54)).trans z) z z ?_
 obtain ⟨t55, ht56, hm⟩ := bind_some hm
 refine wl_call ((wanted_eq z z z (cvb hc54)).trans z) z (x_call call18 z (vs := [v46, I6 (1:Int)]) z) ?_
 refine (label_Lattice_Rank_ref hst.to1 ht56).mono ?_
 rintro _ w57 ⟨rfl, hst⟩
 refine ⟨_, z, ?_⟩
 replace hst := hst.of1
 refine wv (.bool (t55 == (1:Int))) ((wanted_eq z z z (cvb hc54)).trans z) z z (wv (.bool (t55 == (1:Int))) z z (x_pick_t hc54 z z) (wv (.bool (t55 == (1:Int))) z z z ?_))
 refine bsplit (t55 == (1:Int)) (fun hc60 => ?_) (fun hc60 => ?_)
 {
 replace hm := bif_t hc60 hm
 refine wv (v46) ((wanted_eq z z z (cvb hc60)).trans z) z z ?_
 obtain ⟨t61, ht62, hm⟩ := bind_some hm
 refine wl_call ((wanted_eq z z z (cvb hc60)).trans z) z (x_call call18 z (vs := [v46, Zi]) z) ?_
 refine (label_Lattice_Rank_ref hst.to1 ht62).mono ?_
 rintro _ w63 ⟨rfl, hst⟩
 refine ⟨_, z, ?_⟩
 replace hst := hst.of1
 refine wv (.bool (t61 == (0:Int))) ((wanted_eq z z z (cvb hc60)).trans z) z z (wv (.bool (t61 == (0:Int))) z z (x_pick_t hc60 z z) (wv (.bool (t61 == (0:Int))) z z z (wl_nil (tn (wp_ret ?_)))))
 obtain rfl := some_inj hm
 refine post_ret (vs := [.bool (t61 == (0:Int))]) results9 (rvs_cons (rv_tmp z) rvs_nil) ?_
 exact ⟨_, z, hI0, hst.keep0⟩
}
 {
 replace hm := bif_f hc60 hm
 refine wo hc60 z z z z z z (wo hc60 z z z z z z (wo hc60 z z z z z z (wv (.bool false) z z (x_pick_f hc60 z z) (wv (.bool false) z z z (wl_nil (tn (wp_ret ?_)))))))
 obtain rfl := some_inj hm
 refine post_ret (vs := [.bool false]) results9 (rvs_cons (rv_tmp z) rvs_nil) ?_
 exact ⟨_, z, hI0, hst.keep0⟩
}
}
 {
 replace hm := bif_f hc54 hm
 refine wo hc54 z z z z z z (wo hc54 z z z z z z (wo hc54 z z z z z z (wv (.bool false) z z (x_pick_f hc54 z z) (wv (.bool false) z z z (wz z z z z z z (wz z z z z z z (wz z z z z z z (wv (.bool false) z z (x_pick_f z z z) (wv (.bool false) z z z (wl_nil (tn (wp_ret ?_))))))))))))
 obtain rfl := some_inj hm
 refine post_ret (vs := [.bool false]) results9 (rvs_cons (rv_tmp z) rvs_nil) ?_
 exact ⟨_, z, hI0, hst.keep0⟩
}
}
 {
 replace hm := bif_f hc48 hm
 refine wo hc48 z z z z z z (wo hc48 z z z z z z (wo hc48 z z z z z z (wv (.bool false) z z (x_pick_f hc48 z z) (wv (.bool false) z z z (wz z z z z z z (wz z z z z z z (wz z z z z z z (wv (.bool false) z z (x_pick_f z z z) (wv (.bool false) z z z (wz z z z z z z (wz z z z z z z (wz z z z z z z ?_))))))))))))
 refine wv (.bool false) z z (x_pick_f z z z) (wv (.bool false) z z z (wl_nil (tn (wp_ret ?_))))
 obtain rfl := some_inj hm
 refine post_ret (vs := [.bool false]) results9 (rvs_cons (rv_tmp z) rvs_nil) ?_
 exact ⟨_, z, hI0, hst.keep0⟩
}
}

theorem law03_order_ref {w0 w : World} {I : HL} {R : SP} {a0 : Int} {a1 : (List Int)} {r1_0 : Value} (f1_0 : Rd (tyInt .u8) R I r1_0 a1) (hst : St w0 w I [] R) {r : ((List Int))} (hm : law03_order a0 a1 = some r) :
  Calls prog 11 #[U1 a0, r1_0] w fun e w' => ∃ (q0_0 : Value), e = .returned (q0_0) ∧ St w0 w' I [ownS (tyInt .u64) q0_0 r] R := by {
 unfold law03_order at hm
 refine calls_start (args := [U1 a0, r1_0]) func11 z ntmps11 (Nat.le_of_ble_eq_true z) ?_
 refine wp_seq (wrl (wv ((.slice none 0 0)) z z z (wl_nil (tn (wp_seq (wrl (wv (.int .u8 a0) z z z (wv (.int .i64 (i64.wrap a0)) z z (by kernel_rfl) (wv (.int .i64 (Int.tmod (i64.wrap a0) (6:Int))) z z (x_rem (by decide) z z) (wv (.int .i64 (i64.wrap ((1:Int) + (Int.tmod (i64.wrap a0) (6:Int))))) z z z (wv (.int .i64 (i64.wrap ((1:Int) + (Int.tmod (i64.wrap a0) (6:Int))))) z z z (wl_nil (tn (wp_seq (wrl (wv (.int .i64 (i64.wrap ((1:Int) + (Int.tmod (i64.wrap a0) (6:Int))))) z z z ?_))))))))))))))))
 obtain ⟨hg281, hm⟩ := gd_some hm
 obtain ⟨v282, w283, hr284, hst⟩ := run_mk (k := .i64) (k' := .i64) (zm := (0:Int)) elem_28 hst hg281 (by decide) z
 refine wl_run (v := v282) (w' := w283) z z (x_make z z hr284) ?_
 refine wv (v282) z z z (wl_nil (tn (wp_seq (wp_seq (wrl (wv (.int .i64 (i64.wrap ((1:Int) + (Int.tmod (i64.wrap a0) (6:Int))))) z z z (wv (.int .i64 (i64.wrap ((i64.wrap ((1:Int) + (Int.tmod (i64.wrap a0) (6:Int)))) - (1:Int)))) z z z (wv (.int .i64 (i64.wrap ((i64.wrap ((1:Int) + (Int.tmod (i64.wrap a0) (6:Int)))) - (1:Int)))) z z z (wl_nil (tn (wp_block ?_)))))))))))
 obtain ⟨n459, hm⟩ := loopO_some hm
 refine wp_loop_n (fun n a w => ∃ (z456 : Int) (z457 : (List Int)) (σ458 : Nat → Value), loopN (law03_order_l0 a0 a1) n (z456, z457) = some r ∧ a = Fr 63 (upd (upd (upd (upd σ458 1 (r1_0)) 5 (.int .i64 (i64.wrap ((1:Int) + (Int.tmod (i64.wrap a0) (6:Int)))))) 6 (v282)) 7 (.int .i64 z456)) ∧ St w0 w I [ownS (tyInt .u64) v282 z457] R) n459 ⟨(i64.wrap ((i64.wrap ((1:Int) + (Int.tmod (i64.wrap a0) (6:Int)))) - (1:Int))), (List.replicate (Int.toNat (i64.wrap ((1:Int) + (Int.tmod (i64.wrap a0) (6:Int))))) (0:Int)), _, hm, (fu 1 r1_0 z (fu 5 (.int .i64 (i64.wrap ((1:Int) + (Int.tmod (i64.wrap a0) (6:Int))))) z (fu 6 v282 z (fu 7 (.int .i64 (i64.wrap ((i64.wrap ((1:Int) + (Int.tmod (i64.wrap a0) (6:Int)))) - (1:Int)))) z z)))), hst⟩ ?_
 rintro n465 _ w460 ⟨z456, z457, σ458, hm, rfl, hst⟩
 obtain ⟨n462, y463, rfl, hm, hx464⟩ := loopN_some hm
 dsimp only [law03_order_l0] at hm
 refine wp_seq (wp_seq (wrl (wv (.int .i64 z456) z z z (wv (.bool (decide (z456 ≥ (0:Int)))) z z z (wl_nil (tn ?_))))))
 refine bsplit (decide (z456 ≥ (0:Int))) (fun hc466 => ?_) (fun hc466 => ?_)
 {
 replace hm := bif_t hc466 hm
 refine wp_ift (cvb hc466) ?_
 refine wp_skip (tn (wp_seq (wp_block (wp_seq (wrl ?_)))))
 refine wv (v282) z z z (wv (.int .i64 z456) z z z (wv (.int .i64 z456) z z z ?_))
 obtain ⟨hg467, hm⟩ := gd_some hm
 refine wv (.int .u64 (iShl .u64 (1:Int) z456)) z z (x_shl (of_decide_eq_true hg467) z z) ?_
 obtain ⟨x468, hx469, hm⟩ := bind_some hm
 obtain ⟨h470, h471, hi472⟩ := geto_some hx469
 refine wv (.pointer (some (eAddr v282 (z456.toNat * 1 + 0)))) z z (x_index z z underlying28 sizeOf43 hst.sv0 h470 h471) ?_
 obtain ⟨w473, hr474, hst⟩ := hst.own_store (P := prog) (t := 43) (y := (iShl .u64 (1:Int) z456)) hi472 0 (.int .u64 (iShl .u64 (1:Int) z456)) sizeOf43 (Nat.le_of_ble_eq_true z) (oC z oN) (by rintro _ rfl; rfl)
 have hi475 := set_get hi472 (iShl .u64 (1:Int) z456)
 have h476 := set_lt h471 z456.toNat (iShl .u64 (1:Int) z456)
 refine wl_unit z z (x_unit hr474) ?_
 refine wl_nil (tn (wp_seq (wrl (wv (.int .i64 z456) z z z (wv (.int .i64 (i64.wrap (z456 + (1:Int)))) z z z (wv (.int .i64 (i64.wrap (z456 + (1:Int)))) z z z (wl_nil (tn (wp_block ?_)))))))))
 obtain ⟨n521, hm⟩ := loopO_some hm
 refine wp_loop_n (fun n a w => ∃ (z518 : Int) (z519 : (List Int)) (σ520 : Nat → Value), loopN (law03_order_l1 a0 z456 a1) n (z518, z519) = some y463 ∧ a = Fr 63 (upd (upd (upd (upd (upd σ520 1 (r1_0)) 5 (.int .i64 (i64.wrap ((1:Int) + (Int.tmod (i64.wrap a0) (6:Int)))))) 6 (v282)) 7 (.int .i64 z456)) 8 (.int .i64 z518)) ∧ St w0 w I [ownS (tyInt .u64) v282 z519] R) n521 ⟨(i64.wrap (z456 + (1:Int))), (z457.set z456.toNat (iShl .u64 (1:Int) z456)), _, hm, (fu 1 r1_0 z (fu 5 (.int .i64 (i64.wrap ((1:Int) + (Int.tmod (i64.wrap a0) (6:Int))))) z (fu 6 v282 z (fu 7 (.int .i64 z456) z (fu 8 (.int .i64 (i64.wrap (z456 + (1:Int)))) z z))))), hst⟩ ?_
 rintro n527 _ w522 ⟨z518, z519, σ520, hm, rfl, hst⟩
 obtain ⟨n524, y525, rfl, hm, hx526⟩ := loopN_some hm
 dsimp only [law03_order_l1] at hm
 refine wp_seq (wp_seq (wrl (wv (.int .i64 z518) z z z (wv (.int .i64 (i64.wrap ((1:Int) + (Int.tmod (i64.wrap a0) (6:Int))))) z z z (wv (.bool (decide (z518 < (i64.wrap ((1:Int) + (Int.tmod (i64.wrap a0) (6:Int))))))) z z z (wl_nil (tn ?_)))))))
 refine bsplit (decide (z518 < (i64.wrap ((1:Int) + (Int.tmod (i64.wrap a0) (6:Int)))))) (fun hc528 => ?_) (fun hc528 => ?_)
 {
 replace hm := bif_t hc528 hm
 refine wp_ift (cvb hc528) ?_
 refine wp_skip (tn (wp_seq (wp_block (wp_seq (wrl ?_)))))
 refine wv (.int .i64 z456) z z z (wv (.int .i64 (i64.wrap (z456 * (6:Int)))) z z z (wv (.int .i64 z518) z z z (wv (.int .i64 (i64.wrap ((i64.wrap (z456 * (6:Int))) + z518))) z z z (wv (.int .i64 (i64.wrap ((i64.wrap (z456 * (6:Int))) + z518))) z z z (wl_nil (tn (wp_seq (wrl (wv (.int .i64 (i64.wrap ((i64.wrap (z456 * (6:Int))) + z518))) z z z (wv (r1_0) z z z (wv (.int .i64 ((a1).length : Int)) z z (x_len z underlying22 (rd_sliceV f1_0)) (wv (.bool (decide ((i64.wrap ((i64.wrap (z456 * (6:Int))) + z518)) < ((a1).length : Int)))) z z z (wv (.bool (decide ((i64.wrap ((i64.wrap (z456 * (6:Int))) + z518)) < ((a1).length : Int)))) z z z ?_)))))))))))))
 refine bsplit (decide ((i64.wrap ((i64.wrap (z456 * (6:Int))) + z518)) < ((a1).length : Int))) (fun hc529 => ?_) (fun hc529 => ?_)
 {
 replace hm := bif_t hc529 hm
 refine wv (r1_0) ((wanted_eq z z z (cvb hc529)).trans z) z z (wv (.int .i64 (i64.wrap ((i64.wrap (z456 * (6:Int))) + z518))) ((wanted_eq z z z (cvb hc529)).trans z) z z ?_)
 obtain ⟨x530, hx531, hm⟩ := bind_some hm
 obtain ⟨h532, h533, hi534⟩ := geto_some hx531
 refine wv (.pointer (some (eAddr r1_0 ((i64.wrap ((i64.wrap (z456 * (6:Int))) + z518)).toNat * 1 + 0)))) ((wanted_eq z z z (cvb hc529)).trans z) z (x_index z z underlying22 sizeOf5 (rd_sliceV f1_0) h532 h533) (wv (.int .u8 x530) ((wanted_eq z z z (cvb hc529)).trans z) z (x_load z isAgg5 (rd_load f1_0 (HL.le.refl _) hst hi534 (by rintro _ rfl; rfl))) (wv (.int .u8 (Int.tmod x530 (2:Int))) ((wanted_eq z z z (cvb hc529)).trans z) z (x_rem (by decide) z z) (wv (.bool ((Int.tmod x530 (2:Int)) == (1:Int))) ((wanted_eq z z z (cvb hc529)).trans z) z z (wv (.bool ((Int.tmod x530 (2:Int)) == (1:Int))) z z (x_pick_t hc529 z z) (wl_nil (tn ?_))))))
 refine bsplit ((Int.tmod x530 (2:Int)) == (1:Int)) (fun hc535 => ?_) (fun hc535 => ?_)
 {
 replace hm := bif_t hc535 hm
 refine wp_ift (cvb hc535) ?_
 refine wp_region_St hst 13 [0, 1, 2, 3, 4, 5, 6, 7, 8, 9, 10, 11, 12] [0, 0, 0, 0, 12, 28, 0, 0, 192, 448, 1020, 2047, 4095] [] z (by kernel_rfl) (by kernel_rfl) Try.mixed (by kernel_rfl) ?_
 refine wsr (v282) 0 z z z (by kernel_rfl) (fun w hst => z) (wsr (.int .i64 z456) 1 z z z (by kernel_rfl) (fun w hst => z) (wsr (v282) 2 z z z (by kernel_rfl) (fun w hst => z) (wsr (.int .i64 z456) 3 z z z (by kernel_rfl) (fun w hst => z) ?_)))
 obtain ⟨x536, hx537, hm⟩ := bind_some hm
 obtain ⟨h538, h539, hi540⟩ := geto_some hx537
 refine wsr (.pointer (some (eAddr v282 (z456.toNat * 1 + 0)))) 4 z z z (by kernel_rfl) (fun w hst => x_index z z underlying28 sizeOf43 hst.sv0 h538 h539) (wsr (.int .u64 x536) 5 z z z (by kernel_rfl) (fun w hst => x_load z isAgg43 (hst.ol0 hi540 (by rintro _ rfl; rfl))) (wsr (v282) 6 z z z (by kernel_rfl) (fun w hst => z) (wsr (.int .i64 z518) 7 z z z (by kernel_rfl) (fun w hst => z) ?_)))
 obtain ⟨x541, hx542, hm⟩ := bind_some hm
 obtain ⟨h543, h544, hi545⟩ := geto_some hx542
 refine wsr (.pointer (some (eAddr v282 (z518.toNat * 1 + 0)))) 8 z z z (by kernel_rfl) (fun w hst => x_index z z underlying28 sizeOf43 hst.sv0 h543 h544) (wsr (.int .u64 x541) 9 z z z (by kernel_rfl) (fun w hst => x_load z isAgg43 (hst.ol0 hi545 (by rintro _ rfl; rfl))) (wsr (.int .u64 (bOr .u64 x536 x541)) 10 z z z (by kernel_rfl) (fun w hst => z) (wsr (.pointer (some (eAddr v282 (z456.toNat * 1 + 0)))) 11 z z z (by kernel_rfl) (fun w hst => x_index z z underlying28 sizeOf43 hst.sv0 h538 h539) ?_)))
 refine ws_e1 12 (by kernel_rfl) ?_
 refine nxe [] (by kernel_rfl) z z ?_
 clear hst
 intro w hst
 obtain ⟨w546, hr547, hst⟩ := hst.own_store (P := prog) (t := 43) (y := (bOr .u64 x536 x541)) hi540 0 (.int .u64 (bOr .u64 x536 x541)) sizeOf43 (Nat.le_of_ble_eq_true z) (oC z oN) (by rintro _ rfl; rfl)
 have hi548 := set_get hi540 (bOr .u64 x536 x541)
 have h549 := set_lt h539 z456.toNat (bOr .u64 x536 x541)
 refine we_unit z (x_unit hr547) ?_
 refine ws_next (pend' := []) hst (by kernel_rfl) pk_nil ?_
 refine ws_nil ?_
 intro w hst
 refine blk_n (tn (wrl ?_))
 refine wv (.int .i64 z518) z z z (wv (.int .i64 (i64.wrap (z518 + (1:Int)))) z z z (wv (.int .i64 (i64.wrap (z518 + (1:Int)))) z z z (wl_nil (tn ?_))))
 replace hst := hst.keep1
 obtain rfl := some_inj hm
 exact ⟨_, Nat.lt_succ_self _, (i64.wrap (z518 + (1:Int))), (z519.set z456.toNat (bOr .u64 x536 x541)), _, hx526, (fu 1 r1_0 z (fu 5 (.int .i64 (i64.wrap ((1:Int) + (Int.tmod (i64.wrap a0) (6:Int))))) z (fu 6 v282 z (fu 7 (.int .i64 z456) z (fu 8 (.int .i64 (i64.wrap (z518 + (1:Int)))) z z))))), hst⟩
}
 {
 replace hm := bif_f hc535 hm
 refine wp_iff (cvb hc535) ?_
 refine wp_skip (blk_n (tn (wrl ?_)))
 refine wv (.int .i64 z518) z z z (wv (.int .i64 (i64.wrap (z518 + (1:Int)))) z z z (wv (.int .i64 (i64.wrap (z518 + (1:Int)))) z z z (wl_nil (tn ?_))))
 replace hst := hst.keep1
 obtain rfl := some_inj hm
 exact ⟨_, Nat.lt_succ_self _, (i64.wrap (z518 + (1:Int))), z519, _, hx526, (fu 1 r1_0 z (fu 5 (.int .i64 (i64.wrap ((1:Int) + (Int.tmod (i64.wrap a0) (6:Int))))) z (fu 6 v282 z (fu 7 (.int .i64 z456) z (fu 8 (.int .i64 (i64.wrap (z518 + (1:Int)))) z z))))), hst⟩
}
}
 {
 replace hm := bif_f hc529 hm
 refine wo hc529 z z z z z z (wo hc529 z z z z z z (wo hc529 z z z z z z (wo hc529 z z z z z z (wo hc529 z z z z z z (wo hc529 z z z z z z (wv (.bool false) z z (x_pick_f hc529 z z) (wl_nil (tn ?_))))))))
 refine wp_iff z ?_
 refine wp_skip (blk_n (tn (wrl ?_)))
 refine wv (.int .i64 z518) z z z (wv (.int .i64 (i64.wrap (z518 + (1:Int)))) z z z (wv (.int .i64 (i64.wrap (z518 + (1:Int)))) z z z (wl_nil (tn ?_))))
 replace hst := hst.keep1
 obtain rfl := some_inj hm
 exact ⟨_, Nat.lt_succ_self _, (i64.wrap (z518 + (1:Int))), z519, _, hx526, (fu 1 r1_0 z (fu 5 (.int .i64 (i64.wrap ((1:Int) + (Int.tmod (i64.wrap a0) (6:Int))))) z (fu 6 v282 z (fu 7 (.int .i64 z456) z (fu 8 (.int .i64 (i64.wrap (z518 + (1:Int)))) z z))))), hst⟩
}
}
 {
 replace hm := bif_f hc528 hm
 refine wp_iff (cvb hc528) ?_
 refine wp_exit (then_x (then_x ?_))
 replace hm := inr_up hm hx526
 refine blk_x (blk_n (tn (wrl ?_)))
 refine wv (.int .i64 z456) z z z (wv (.int .i64 (i64.wrap (z456 - (1:Int)))) z z z (wv (.int .i64 (i64.wrap (z456 - (1:Int)))) z z z (wl_nil (tn ?_))))
 replace hst := hst.keep1
 obtain rfl := some_inj hm
 exact ⟨_, Nat.lt_succ_self _, (i64.wrap (z456 - (1:Int))), z519, _, hx464, (fu 1 r1_0 z (fu 5 (.int .i64 (i64.wrap ((1:Int) + (Int.tmod (i64.wrap a0) (6:Int))))) z (fu 6 v282 z (fu 7 (.int .i64 (i64.wrap (z456 - (1:Int)))) z z)))), hst⟩
}
}
 {
 replace hm := bif_f hc466 hm
 refine wp_iff (cvb hc466) ?_
 refine wp_exit (then_x (then_x ?_))
 replace hm := inr_up hm hx464
 refine blk_x (tn (wp_seq (wrl ?_)))
 refine wv (v282) z z z (wv (v282) z z z (wl_nil (tn (wp_ret ?_))))
 obtain rfl := some_inj hm
 refine post_ret (vs := [v282]) results11 (rvs_cons (rv_tmp z) rvs_nil) ?_
 exact ⟨v282, z, hst.keep1⟩
}
}

theorem label_Lattice_Meet_ref {w0 w : World} {I : HL} {R : SP} {a0 : (Option label_Lattice)} {p0 : Value} {a1 : Int} {a2 : Int}  (hst : St w0 w I [objO at_label_Lattice p0 a0] R) {r : (Int)} (hm : label_Lattice_Meet a0 a1 a2 = some r) :
  Calls prog 14 #[p0, I6 a1, I6 a2] w fun e w' => e = .returned (.int .i64 r) ∧ St w0 w' I [objO at_label_Lattice p0 a0] R := by {
 rcases a0 with _ | o0
 {
 obtain ⟨rfl, hst'⟩ := objO_none hst
 clear hst
 have hst := hst'
 clear hst'
 dsimp only [label_Lattice_Meet] at hm
 refine calls_start (args := [.pointer none, I6 a1, I6 a2]) func14 z ntmps14 (Nat.le_of_ble_eq_true z) ?_
 refine wp_seq (wrl (wv (.int .i64 (0:Int)) z z z (wl_nil (tn (wp_seq (wp_seq (wrl (wv (.pointer none) z z z (wv (.int .i64 a1) z z z ?_)))))))))
 replace hst := hst.objO_nil at_label_Lattice
 obtain ⟨t106, ht107, hm⟩ := bind_some hm
 refine wc call23 [.pointer none, I6 a1] z z z ?_
 refine (label_Lattice_Is_ref hst.to1 ht107).mono ?_
 rintro _ w108 ⟨rfl, hst⟩
 refine ⟨_, z, ?_⟩
 replace hst := hst.of1
 refine wv (.bool (!t106)) z z z (wv (.bool (!t106)) z z z ?_)
 refine bsplit (!t106) (fun hc111 => ?_) (fun hc111 => ?_)
 {
 replace hm := bif_t hc111 hm
 refine wo hc111 z z z z z z (wo hc111 z z z z z z (wo hc111 z z z z z z (wo hc111 z z z z z z (wv (.bool true) z z (x_pick_t hc111 z z) (wl_nil (tn ?_))))))
 refine wp_ift z ?_
 refine wp_seq (wrl (wv (.int .i64 ((-1):Int)) z z z (wl_nil (tn (wp_ret (then_r ?_))))))
 replace hst := hst.objO_nil at_label_Lattice
 obtain rfl := some_inj hm
 refine post_ret (vs := [I6 ((-1):Int)]) results14 (rvs_cons (rv_tmp z) rvs_nil) ?_
 exact ⟨z, hst.keep1⟩
}
 {
 replace hm := bif_f hc111 hm
 refine wv (.pointer none) ((wanted_eq z z z (cvb hc111)).trans z) z z (wv (.int .i64 a2) ((wanted_eq z z z (cvb hc111)).trans z) z z ?_)
 replace hst := hst.objO_nil at_label_Lattice
 obtain ⟨t113, ht114, hm⟩ := bind_some hm
 refine wl_call ((wanted_eq z z z (cvb hc111)).trans z) z (x_call call23 z (vs := [.pointer none, I6 a2]) z) ?_
 refine (label_Lattice_Is_ref hst.to1 ht114).mono ?_
 rintro _ w115 ⟨rfl, hst⟩
 refine ⟨_, z, ?_⟩
 replace hst := hst.of1
 refine wv (.bool (!t113)) ((wanted_eq z z z (cvb hc111)).trans z) z z (wv (.bool (!t113)) z z (x_pick_f hc111 z z) (wl_nil (tn ?_)))
 refine bsplit (!t113) (fun hc118 => ?_) (fun hc118 => ?_)
 {
 replace hm := bif_t hc118 hm
 refine wp_ift (cvb hc118) ?_
 refine wp_seq (wrl (wv (.int .i64 ((-1):Int)) z z z (wl_nil (tn (wp_ret (then_r ?_))))))
 replace hst := hst.objO_nil at_label_Lattice
 obtain rfl := some_inj hm
 refine post_ret (vs := [I6 ((-1):Int)]) results14 (rvs_cons (rv_tmp z) rvs_nil) ?_
 exact ⟨z, hst.keep1⟩
}
 {
 replace hm := bif_f hc118 hm
 refine wp_iff (cvb hc118) ?_
 refine wp_skip (tn (wp_seq (wrl ?_)))
 refine wv (.pointer none) z z z ?_
 cases hm
}
}
}
 {
 replace hst := objO_get hst
 dsimp only [label_Lattice_Meet] at hm
 refine calls_start (args := [p0, I6 a1, I6 a2]) func14 z ntmps14 (Nat.le_of_ble_eq_true z) ?_
 refine wp_seq (wrl (wv (.int .i64 (0:Int)) z z z (wl_nil (tn (wp_seq (wp_seq (wrl (wv (p0) z z z (wv (.int .i64 a1) z z z ?_)))))))))
 replace hst := objO_some hst
 obtain ⟨t119, ht120, hm⟩ := bind_some hm
 refine wc call23 [p0, I6 a1] z z z ?_
 refine (label_Lattice_Is_ref hst.to1 ht120).mono ?_
 rintro _ w121 ⟨rfl, hst⟩
 refine ⟨_, z, ?_⟩
 replace hst := hst.of1
 replace hst := objO_get hst
 refine wv (.bool (!t119)) z z z (wv (.bool (!t119)) z z z ?_)
 refine bsplit (!t119) (fun hc124 => ?_) (fun hc124 => ?_)
 {
 replace hm := bif_t hc124 hm
 refine wo hc124 z z z z z z (wo hc124 z z z z z z (wo hc124 z z z z z z (wo hc124 z z z z z z (wv (.bool true) z z (x_pick_t hc124 z z) (wl_nil (tn ?_))))))
 refine wp_ift z ?_
 refine wp_seq (wrl (wv (.int .i64 ((-1):Int)) z z z (wl_nil (tn (wp_ret (then_r ?_))))))
 replace hst := objO_some hst
 obtain rfl := some_inj hm
 refine post_ret (vs := [I6 ((-1):Int)]) results14 (rvs_cons (rv_tmp z) rvs_nil) ?_
 exact ⟨z, hst.keep1⟩
}
 {
 replace hm := bif_f hc124 hm
 refine wv (p0) ((wanted_eq z z z (cvb hc124)).trans z) z z (wv (.int .i64 a2) ((wanted_eq z z z (cvb hc124)).trans z) z z ?_)
 replace hst := objO_some hst
 obtain ⟨t125, ht126, hm⟩ := bind_some hm
 refine wl_call ((wanted_eq z z z (cvb hc124)).trans z) z (x_call call23 z (vs := [p0, I6 a2]) z) ?_
 refine (label_Lattice_Is_ref hst.to1 ht126).mono ?_
 rintro _ w127 ⟨rfl, hst⟩
 refine ⟨_, z, ?_⟩
 replace hst := hst.of1
 replace hst := objO_get hst
 refine wv (.bool (!t125)) ((wanted_eq z z z (cvb hc124)).trans z) z z (wv (.bool (!t125)) z z (x_pick_f hc124 z z) (wl_nil (tn ?_)))
 refine bsplit (!t125) (fun hc130 => ?_) (fun hc130 => ?_)
 {
 replace hm := bif_t hc130 hm
 refine wp_ift (cvb hc130) ?_
 refine wp_seq (wrl (wv (.int .i64 ((-1):Int)) z z z (wl_nil (tn (wp_ret (then_r ?_))))))
 replace hst := objO_some hst
 obtain rfl := some_inj hm
 refine post_ret (vs := [I6 ((-1):Int)]) results14 (rvs_cons (rv_tmp z) rvs_nil) ?_
 exact ⟨z, hst.keep1⟩
}
 {
 replace hm := bif_f hc130 hm
 refine wp_iff (cvb hc130) ?_
 refine wp_skip (tn (wp_seq (wrl ?_)))
 refine wv (p0) z z z ?_
 obtain ⟨b131, v132, v134, v136, v138, v140, v142, rfl, hst'⟩ := at_label_Lattice_open hst
 clear hst
 have hst := hst'
 clear hst'
 refine wv (Pt b131 0) z z z (wv (Pt b131 3) z z (x_field z underlying49 z sizeOf47 z) (wv (v138) z z (x_load z isAgg47 (hst.bc0 z)) (wv (.int .i64 a1) z z z ?_)))
 obtain ⟨x144, hx145, hm⟩ := bind_some hm
 obtain ⟨h146, h147, hi148⟩ := geto_some hx145
 refine wv (.pointer (some (eAddr v138 (a1.toNat * 1 + 0)))) z z (x_index z z underlying47 sizeOf41 hst.sv4 h146 h147) ?_
 obtain ⟨cs149, hr150, hc151⟩ := hst.og4 hi148
 obtain ⟨v152, rfl, f153, -⟩ := hr150
 refine wv (v152) z z (x_load z isAgg41 (hc151 0 _ z)) (wv (.int .i64 a2) z z z ?_)
 obtain ⟨x155, hx156, hm⟩ := bind_some hm
 obtain ⟨h157, h158, hi159⟩ := geto_some hx156
 refine wv (.pointer (some (eAddr v152 (a2.toNat * 1 + 0)))) z z (x_index z z underlying41 sizeOf3 (ro_sliceV f153) h157 h158) (wv (.int .i64 x155) z z (x_load z isAgg3 (ro_load f153 hst hi159 (by rintro _ rfl; rfl))) (wv (.int .i64 x155) z z z (wl_nil (tn (wp_ret ?_)))))
 replace hst := hst.pull6.pull6.pull6.pull6.pull6.pull6.pull6
 replace hst := at_label_Lattice_close (pv := Pt b131 0) (x := o0) hst z
 replace hst := objO_some hst
 obtain rfl := some_inj hm
 refine post_ret (vs := [I6 x155]) results14 (rvs_cons (rv_tmp z) rvs_nil) ?_
 exact ⟨z, hst.keep1⟩
}
}
}
}

theorem label_Lattice_Leq_ref {w0 w : World} {I : HL} {R : SP} {a0 : (Option label_Lattice)} {p0 : Value} {a1 : Int} {a2 : Int}  (hst : St w0 w I [objO at_label_Lattice p0 a0] R) {r : (Bool)} (hm : label_Lattice_Leq a0 a1 a2 = some r) :
  Calls prog 15 #[p0, I6 a1, I6 a2] w fun e w' => e = .returned (.bool r) ∧ St w0 w' I [objO at_label_Lattice p0 a0] R := by {
 rcases a0 with _ | o0
 {
 obtain ⟨rfl, hst'⟩ := objO_none hst
 clear hst
 have hst := hst'
 clear hst'
 dsimp only [label_Lattice_Leq] at hm
 refine calls_start (args := [.pointer none, I6 a1, I6 a2]) func15 z ntmps15 (Nat.le_of_ble_eq_true z) ?_
 refine wp_seq (wrl (wv (.bool false) z z z (wl_nil (tn (wp_seq (wrl (wv (.pointer none) z z z (wv (.int .i64 a1) z z z ?_))))))))
 replace hst := hst.objO_nil at_label_Lattice
 obtain ⟨t157, ht158, hm⟩ := bind_some hm
 refine wc call23 [.pointer none, I6 a1] z z z ?_
 refine (label_Lattice_Is_ref hst.to1 ht158).mono ?_
 rintro _ w159 ⟨rfl, hst⟩
 refine ⟨_, z, ?_⟩
 replace hst := hst.of1
 refine wv (.bool t157) z z z ?_
 refine bsplit t157 (fun hc162 => ?_) (fun hc162 => ?_)
 {
 replace hm := bif_t hc162 hm
 refine wv (.pointer none) ((wanted_eq z z z (cvb hc162)).trans z) z z (wv (.int .i64 a2) ((wanted_eq z z z (cvb hc162)).trans z) z z ?_)
 replace hst := hst.objO_nil at_label_Lattice
 obtain ⟨t164, ht165, hm⟩ := bind_some hm
 refine wl_call ((wanted_eq z z z (cvb hc162)).trans z) z (x_call call23 z (vs := [.pointer none, I6 a2]) z) ?_
 refine (label_Lattice_Is_ref hst.to1 ht165).mono ?_
 rintro _ w166 ⟨rfl, hst⟩
 refine ⟨_, z, ?_⟩
 replace hst := hst.of1
 refine wv (.bool t164) z z (x_pick_t hc162 z z) (wv (.bool t164) z z z ?_)
 refine bsplit t164 (fun hc169 => ?_) (fun hc169 => ?_)
 {
 replace hm := bif_t hc169 hm
 refine wv (.pointer none) ((wanted_eq z z z (cvb hc169)).trans z) z z ?_
 cases hm
}
 {
 replace hm := bif_f hc169 hm
 refine wo hc169 z z z z z z (wo hc169 z z z z z z (wo hc169 z z z z z z (wo hc169 z z z z z z (wo hc169 z z z z z z (wo hc169 z z z z z z (wo hc169 z z z z z z (wo hc169 z z z z z z (wo hc169 z z z z z z (wo hc169 z z z z z z (wo hc169 z z z z z z (wv (.bool false) z z (x_pick_f hc169 z z) (wv (.bool false) z z z ?_))))))))))))
 refine wl_nil (tn (wp_ret ?_))
 replace hst := hst.objO_nil at_label_Lattice
 obtain rfl := some_inj hm
 refine post_ret (vs := [.bool false]) results15 (rvs_cons (rv_tmp z) rvs_nil) ?_
 exact ⟨z, hst.keep1⟩
}
}
 {
 replace hm := bif_f hc162 hm
 refine wo hc162 z z z z z z (wo hc162 z z z z z z (wo hc162 z z z z z z (wv (.bool false) z z (x_pick_f hc162 z z) (wv (.bool false) z z z (wz z z z z z z (wz z z z z z z (wz z z z z z z (wz z z z z z z (wz z z z z z z (wz z z z z z z (wz z z z z z z (wz z z z z z z ?_))))))))))))
 refine wz z z z z z z (wz z z z z z z (wz z z z z z z (wv (.bool false) z z (x_pick_f z z z) (wv (.bool false) z z z (wl_nil (tn (wp_ret ?_)))))))
 replace hst := hst.objO_nil at_label_Lattice
 obtain rfl := some_inj hm
 refine post_ret (vs := [.bool false]) results15 (rvs_cons (rv_tmp z) rvs_nil) ?_
 exact ⟨z, hst.keep1⟩
}
}
 {
 replace hst := objO_get hst
 dsimp only [label_Lattice_Leq] at hm
 refine calls_start (args := [p0, I6 a1, I6 a2]) func15 z ntmps15 (Nat.le_of_ble_eq_true z) ?_
 refine wp_seq (wrl (wv (.bool false) z z z (wl_nil (tn (wp_seq (wrl (wv (p0) z z z (wv (.int .i64 a1) z z z ?_))))))))
 replace hst := objO_some hst
 obtain ⟨t170, ht171, hm⟩ := bind_some hm
 refine wc call23 [p0, I6 a1] z z z ?_
 refine (label_Lattice_Is_ref hst.to1 ht171).mono ?_
 rintro _ w172 ⟨rfl, hst⟩
 refine ⟨_, z, ?_⟩
 replace hst := hst.of1
 replace hst := objO_get hst
 refine wv (.bool t170) z z z ?_
 refine bsplit t170 (fun hc175 => ?_) (fun hc175 => ?_)
 {
 replace hm := bif_t hc175 hm
 refine wv (p0) ((wanted_eq z z z (cvb hc175)).trans z) z z (wv (.int .i64 a2) ((wanted_eq z z z (cvb hc175)).trans z) z z ?_)
 replace hst := objO_some hst
 obtain ⟨t176, ht177, hm⟩ := bind_some hm
 refine wl_call ((wanted_eq z z z (cvb hc175)).trans z) z (x_call call23 z (vs := [p0, I6 a2]) z) ?_
 refine (label_Lattice_Is_ref hst.to1 ht177).mono ?_
 rintro _ w178 ⟨rfl, hst⟩
 refine ⟨_, z, ?_⟩
 replace hst := hst.of1
 replace hst := objO_get hst
 refine wv (.bool t176) z z (x_pick_t hc175 z z) (wv (.bool t176) z z z ?_)
 refine bsplit t176 (fun hc181 => ?_) (fun hc181 => ?_)
 {
 replace hm := bif_t hc181 hm
 refine wv (p0) ((wanted_eq z z z (cvb hc181)).trans z) z z ?_
 obtain ⟨b182, v183, v185, v187, v189, v191, v193, rfl, hst'⟩ := at_label_Lattice_open hst
 clear hst
 have hst := hst'
 clear hst'
 refine wv (Pt b182 0) ((wanted_eq z z z (cvb hc181)).trans z) z z (wv (Pt b182 0) ((wanted_eq z z z (cvb hc181)).trans z) z (x_field z underlying49 z sizeOf28 z) (wv (v183) ((wanted_eq z z z (cvb hc181)).trans z) z (x_load z isAgg28 (hst.bc0 z)) (wv (.int .i64 a1) ((wanted_eq z z z (cvb hc181)).trans z) z z ?_)))
 obtain ⟨x195, hx196, hm⟩ := bind_some hm
 obtain ⟨h197, h198, hi199⟩ := geto_some hx196
 refine wv (.pointer (some (eAddr v183 (a1.toNat * 1 + 0)))) ((wanted_eq z z z (cvb hc181)).trans z) z (x_index z z underlying28 sizeOf43 hst.sv1 h197 h198) (wv (.int .u64 x195) ((wanted_eq z z z (cvb hc181)).trans z) z (x_load z isAgg43 (hst.ol1 hi199 (by rintro _ rfl; rfl))) (wv (.int .i64 a2) ((wanted_eq z z z (cvb hc181)).trans z) z z ?_))
 obtain ⟨hg200, hm⟩ := gd_some hm
 refine wv (.int .u64 (iShr .u64 x195 a2)) ((wanted_eq z z z (cvb hc181)).trans z) z (x_shr (of_decide_eq_true hg200) z z) (wv (.int .u64 (bAnd .u64 (iShr .u64 x195 a2) (1:Int))) ((wanted_eq z z z (cvb hc181)).trans z) z z (wv (.bool ((bAnd .u64 (iShr .u64 x195 a2) (1:Int)) == (1:Int))) ((wanted_eq z z z (cvb hc181)).trans z) z z (wv (.bool ((bAnd .u64 (iShr .u64 x195 a2) (1:Int)) == (1:Int))) z z (x_pick_t hc181 z z) (wv (.bool ((bAnd .u64 (iShr .u64 x195 a2) (1:Int)) == (1:Int))) z z z (wl_nil (tn (wp_ret ?_)))))))
 replace hst := hst.pull6.pull6.pull6.pull6.pull6.pull6.pull6
 replace hst := at_label_Lattice_close (pv := Pt b182 0) (x := o0) hst z
 replace hst := objO_some hst
 obtain rfl := some_inj hm
 refine post_ret (vs := [.bool ((bAnd .u64 (iShr .u64 x195 a2) (1:Int)) == (1:Int))]) results15 (rvs_cons (rv_tmp z) rvs_nil) ?_
 exact ⟨z, hst.keep1⟩
}
 {
 replace hm := bif_f hc181 hm
 refine wo hc181 z z z z z z (wo hc181 z z z z z z (wo hc181 z z z z z z (wo hc181 z z z z z z (wo hc181 z z z z z z (wo hc181 z z z z z z (wo hc181 z z z z z z (wo hc181 z z z z z z (wo hc181 z z z z z z (wo hc181 z z z z z z (wo hc181 z z z z z z (wv (.bool false) z z (x_pick_f hc181 z z) (wv (.bool false) z z z ?_))))))))))))
 refine wl_nil (tn (wp_ret ?_))
 replace hst := objO_some hst
 obtain rfl := some_inj hm
 refine post_ret (vs := [.bool false]) results15 (rvs_cons (rv_tmp z) rvs_nil) ?_
 exact ⟨z, hst.keep1⟩
}
}
 {
 replace hm := bif_f hc175 hm
 refine wo hc175 z z z z z z (wo hc175 z z z z z z (wo hc175 z z z z z z (wv (.bool false) z z (x_pick_f hc175 z z) (wv (.bool false) z z z (wz z z z z z z (wz z z z z z z (wz z z z z z z (wz z z z z z z (wz z z z z z z (wz z z z z z z (wz z z z z z z (wz z z z z z z ?_))))))))))))
 refine wz z z z z z z (wz z z z z z z (wz z z z z z z (wv (.bool false) z z (x_pick_f z z z) (wv (.bool false) z z z (wl_nil (tn (wp_ret ?_)))))))
 replace hst := objO_some hst
 obtain rfl := some_inj hm
 refine post_ret (vs := [.bool false]) results15 (rvs_cons (rv_tmp z) rvs_nil) ?_
 exact ⟨z, hst.keep1⟩
}
}
}

theorem label_Lattice_Bottom_ref {w0 w : World} {I : HL} {R : SP} {a0 : (Option label_Lattice)} {p0 : Value}  (hst : St w0 w I [objO at_label_Lattice p0 a0] R) {r : (Int)} (hm : label_Lattice_Bottom a0 = some r) :
  Calls prog 16 #[p0] w fun e w' => e = .returned (.int .i64 r) ∧ St w0 w' I [objO at_label_Lattice p0 a0] R := by {
 rcases a0 with _ | o0
 {
 obtain ⟨rfl, hst'⟩ := objO_none hst
 clear hst
 have hst := hst'
 clear hst'
 dsimp only [label_Lattice_Bottom] at hm
 refine calls_start (args := [.pointer none]) func16 z ntmps16 (Nat.le_of_ble_eq_true z) ?_
 refine wp_seq (wrl (wv (.int .i64 (0:Int)) z z z (wl_nil (tn (wp_seq (wp_seq (wrl (wv (.pointer none) z z z (wv (.bool true) z z (by kernel_rfl) (wl_nil (tn ?_)))))))))))
 refine wp_ift z ?_
 refine wp_seq (wrl (wv (.int .i64 ((-1):Int)) z z z (wl_nil (tn (wp_ret (then_r ?_))))))
 replace hst := hst.objO_nil at_label_Lattice
 obtain rfl := some_inj hm
 refine post_ret (vs := [I6 ((-1):Int)]) results16 (rvs_cons (rv_tmp z) rvs_nil) ?_
 exact ⟨z, hst.keep1⟩
}
 {
 replace hst := objO_get hst
 dsimp only [label_Lattice_Bottom] at hm
 refine calls_start (args := [p0]) func16 z ntmps16 (Nat.le_of_ble_eq_true z) ?_
 refine wp_seq (wrl (wv (.int .i64 (0:Int)) z z z (wl_nil (tn (wp_seq (wp_seq (wrl (wv (p0) z z z ?_))))))))
 obtain ⟨b135, v136, v138, v140, v142, v144, v146, rfl, hst'⟩ := at_label_Lattice_open hst
 clear hst
 have hst := hst'
 clear hst'
 refine wv (.bool false) z z (by kernel_rfl) (wl_nil (tn ?_))
 refine wp_iff z ?_
 refine wp_skip (tn (wp_seq (wrl ?_)))
 refine wv (Pt b135 0) z z z (wv (Pt b135 0) z z z (wv (Pt b135 5) z z (x_field z underlying49 z sizeOf41 z) (wv (v146) z z (x_load z isAgg41 (hst.bc0 z)) ?_)))
 obtain ⟨x148, hx149, hm⟩ := bind_some hm
 obtain ⟨h150, h151, hi152⟩ := geto_some hx149
 refine wv (.pointer (some (eAddr v146 ((0:Int).toNat * 1 + 0)))) z z (x_index z z underlying41 sizeOf3 hst.sv6 h150 h151) (wv (.int .i64 x148) z z (x_load z isAgg3 (hst.ol6 hi152 (by rintro _ rfl; rfl))) (wv (.int .i64 x148) z z z (wl_nil (tn (wp_ret ?_)))))
 replace hst := hst.pull6.pull6.pull6.pull6.pull6.pull6.pull6
 replace hst := at_label_Lattice_close (pv := Pt b135 0) (x := o0) hst z
 replace hst := objO_some hst
 obtain rfl := some_inj hm
 refine post_ret (vs := [I6 x148]) results16 (rvs_cons (rv_tmp z) rvs_nil) ?_
 exact ⟨z, hst.keep1⟩
}
}

theorem label_Lattice_Top_ref {w0 w : World} {I : HL} {R : SP} {a0 : (Option label_Lattice)} {p0 : Value}  (hst : St w0 w I [objO at_label_Lattice p0 a0] R) {r : (Int)} (hm : label_Lattice_Top a0 = some r) :
  Calls prog 17 #[p0] w fun e w' => e = .returned (.int .i64 r) ∧ St w0 w' I [objO at_label_Lattice p0 a0] R := by {
 rcases a0 with _ | o0
 {
 obtain ⟨rfl, hst'⟩ := objO_none hst
 clear hst
 have hst := hst'
 clear hst'
 dsimp only [label_Lattice_Top] at hm
 refine calls_start (args := [.pointer none]) func17 z ntmps17 (Nat.le_of_ble_eq_true z) ?_
 refine wp_seq (wrl (wv (.int .i64 (0:Int)) z z z (wl_nil (tn (wp_seq (wp_seq (wrl (wv (.pointer none) z z z (wv (.bool true) z z (by kernel_rfl) (wl_nil (tn ?_)))))))))))
 refine wp_ift z ?_
 refine wp_seq (wrl (wv (.int .i64 ((-1):Int)) z z z (wl_nil (tn (wp_ret (then_r ?_))))))
 replace hst := hst.objO_nil at_label_Lattice
 obtain rfl := some_inj hm
 refine post_ret (vs := [I6 ((-1):Int)]) results17 (rvs_cons (rv_tmp z) rvs_nil) ?_
 exact ⟨z, hst.keep1⟩
}
 {
 replace hst := objO_get hst
 dsimp only [label_Lattice_Top] at hm
 refine calls_start (args := [p0]) func17 z ntmps17 (Nat.le_of_ble_eq_true z) ?_
 refine wp_seq (wrl (wv (.int .i64 (0:Int)) z z z (wl_nil (tn (wp_seq (wp_seq (wrl (wv (p0) z z z ?_))))))))
 obtain ⟨b146, v147, v149, v151, v153, v155, v157, rfl, hst'⟩ := at_label_Lattice_open hst
 clear hst
 have hst := hst'
 clear hst'
 refine wv (.bool false) z z (by kernel_rfl) (wl_nil (tn ?_))
 refine wp_iff z ?_
 refine wp_skip (tn (wp_seq ?_))
 refine wq_regionS hst Try.mixed (by kernel_rfl) ?_
 refine wq_run (v := Pt b146 0) z z (fun w hst => z) ?_
 refine wq_run (v := Pt b146 0) z z (fun w hst => z) ?_
 refine wq_run (v := Pt b146 5) z z (fun w hst => x_field z underlying49 z sizeOf41 z) ?_
 refine wq_run (v := v157) z z (fun w hst => x_load z isAgg41 (hst.bc0 z)) ?_
 refine wq_run (v := Pt b146 0) z z (fun w hst => z) ?_
 refine wq_run (v := Pt b146 0) z z (fun w hst => z) ?_
 refine wq_run (v := Pt b146 5) z z (fun w hst => x_field z underlying49 z sizeOf41 z) ?_
 refine wq_run (v := v157) z z (fun w hst => x_load z isAgg41 (hst.bc0 z)) ?_
 refine wq_run (v := .int .i64 ((o0.all).length : Int)) z z (fun w hst => x_len z underlying41 hst.sv6) ?_
 refine wq_run (v := .int .i64 (i64.wrap (((o0.all).length : Int) - (1:Int)))) z z (fun w hst => z) ?_
 obtain ⟨x159, hx160, hm⟩ := bind_some hm
 obtain ⟨h161, h162, hi163⟩ := geto_some hx160
 refine wq_run (v := .pointer (some (eAddr v157 ((i64.wrap (((o0.all).length : Int) - (1:Int))).toNat * 1 + 0)))) z z (fun w hst => x_index z z underlying41 sizeOf3 hst.sv6 h161 h162) ?_
 refine wq_run (v := .int .i64 x159) z z (fun w hst => x_load z isAgg3 (hst.ol6 hi163 (by rintro _ rfl; rfl))) ?_
 refine wq_run (v := .int .i64 x159) z z (fun w hst => z) ?_
 refine wq_nil ?_
 intro w hst
 refine tn (wp_ret ?_)
 replace hst := hst.pull6.pull6.pull6.pull6.pull6.pull6.pull6
 replace hst := at_label_Lattice_close (pv := Pt b146 0) (x := o0) hst z
 replace hst := objO_some hst
 obtain rfl := some_inj hm
 refine post_ret (vs := [I6 x159]) results17 (rvs_cons (rv_tmp z) rvs_nil) ?_
 exact ⟨z, hst.keep1⟩
}
}

theorem law03_LabelLaws_ref {w0 w : World} {I : HL} {R : SP} {a0 : Int} {a1 : (List Int)} {r1_0 : Value} {a2 : Int} {a3 : Int} {a4 : Int} (f1_0 : Rd (tyInt .u8) R I r1_0 a1) (hst : St w0 w I [] R) {r : (Bool)} (hm : law03_LabelLaws a0 a1 a2 a3 a4 = some r) :
  Calls prog 3 #[U1 a0, r1_0, U1 a2, U1 a3, U1 a4] w fun e w' => ∃ (I' : HL), e = .returned (.bool r) ∧ I.le I' ∧ St w0 w' I' [] R := by {
 unfold law03_LabelLaws at hm
 refine calls_start (args := [U1 a0, r1_0, U1 a2, U1 a3, U1 a4]) func3 z ntmps3 (Nat.le_of_ble_eq_true z) ?_
 have hI0 := HL.le.refl I
 refine wp_seq (wrl (wv (.bool false) z z z (wl_nil (tn (wp_seq (wp_seq (wrl ?_)))))))
 obtain ⟨t154, ht155, hm⟩ := bind_some hm
 refine wc call9 [] z z z ?_
 refine (law03_awake_ref hst.to0 ht155).mono ?_
 rintro _ w156 ⟨I157, rfl, hI158, hst⟩
 refine ⟨_, z, ?_⟩
 replace hst := hst.of0
 replace f1_0 := f1_0.mono (rd_le hI158)
 replace hI0 := hI0.trans hI158
 refine wv (.bool (!t154)) z z z (wl_nil (tn ?_))
 refine bsplit (!t154) (fun hc159 => ?_) (fun hc159 => ?_)
 {
 replace hm := bif_t hc159 hm
 refine wp_ift (cvb hc159) ?_
 refine wp_seq (wrl (wv (.bool false) z z z (wl_nil (tn (wp_ret (then_r ?_))))))
 obtain rfl := some_inj hm
 refine post_ret (vs := [.bool false]) results3 (rvs_cons (rv_tmp z) rvs_nil) ?_
 exact ⟨_, z, hI0, hst.keep0⟩
}
 {
 replace hm := bif_f hc159 hm
 refine wp_iff (cvb hc159) ?_
 refine wp_skip (tn (wp_seq (wrl ?_)))
 refine wv (.int .u8 a0) z z z (wv (r1_0) z z z ?_)
 obtain ⟨t160, ht161, hm⟩ := bind_some hm
 refine wc call11 [U1 a0, r1_0] z z z ?_
 refine (law03_order_ref (f1_0.mono (rd_weak _)) hst.to0 ht161).mono ?_
 rintro _ w162 ⟨v165, rfl, hst⟩
 refine ⟨_, z, ?_⟩
 replace hst := hst.of1
 obtain ⟨css167, hq168, hst⟩ := hst.own_open
 obtain ⟨t169, ht170, hm⟩ := bind_some hm
 refine wc call10 [v165] z z z ?_
 refine (label_New_ref (hst.rdrow0 hq168) hst.to0 ht170).mono ?_
 rintro _ w171 ⟨I172, v174, rfl, hI173, hst⟩
 refine ⟨_, z, ?_⟩
 replace hst := hst.of1
 replace f1_0 := f1_0.mono (rd_le hI173)
 replace hI0 := hI0.trans hI173
 replace hst := hst.pull1.own_close (hq168.imp fun _ _ => Ty.mono _ (ro_le hI173))
 refine wv (.tuple #[v174, I6 t169.2]) z z z (wv (v174) z z z (wv (.int .i64 t169.2) z z z (wv (v174) z z z (wv (.int .i64 t169.2) z z z (wl_nil (tn (wp_seq (wp_seq (wrl (wv (.int .i64 t169.2) z z z (wv (.bool (t169.2 != (0:Int))) z z z (wl_nil (tn ?_)))))))))))))
 refine bsplit (t169.2 != (0:Int)) (fun hc176 => ?_) (fun hc176 => ?_)
 {
 replace hm := bif_t hc176 hm
 refine wp_ift (cvb hc176) ?_
 refine wp_seq (wrl (wv (.bool true) z z z (wl_nil (tn (wp_ret (then_r ?_))))))
 obtain rfl := some_inj hm
 refine post_ret (vs := [.bool true]) results3 (rvs_cons (rv_tmp z) rvs_nil) ?_
 exact ⟨_, z, hI0, hst.keep0⟩
}
 {
 replace hm := bif_f hc176 hm
 refine wp_iff (cvb hc176) ?_
 refine wp_skip (tn (wp_seq (wrl ?_)))
 refine wv (.int .u8 a2) z z z (wv (.int .i64 (i64.wrap a2)) z z (by kernel_rfl) (wv (v174) z z z ?_))
 replace hst := hst.pull1
 obtain ⟨t177, ht178, hm⟩ := bind_some hm
 refine wc call12 [v174] z z z ?_
 refine (label_Lattice_Len_ref hst.to1 ht178).mono ?_
 rintro _ w179 ⟨rfl, hst⟩
 refine ⟨_, z, ?_⟩
 replace hst := hst.of1
 obtain ⟨hg182, hm⟩ := gd_some hm
 refine wv (.int .i64 (Int.tmod (i64.wrap a2) t177)) z z (x_rem (not_t hg182) z z) (wv (.int .i64 (Int.tmod (i64.wrap a2) t177)) z z z (wl_nil (tn (wp_seq (wrl (wv (.int .u8 a3) z z z (wv (.int .i64 (i64.wrap a3)) z z (by kernel_rfl) (wv (v174) z z z ?_))))))))
 obtain ⟨t183, ht184, hm⟩ := bind_some hm
 refine wc call12 [v174] z z z ?_
 refine (label_Lattice_Len_ref hst.to1 ht184).mono ?_
 rintro _ w185 ⟨rfl, hst⟩
 refine ⟨_, z, ?_⟩
 replace hst := hst.of1
 obtain ⟨hg188, hm⟩ := gd_some hm
 refine wv (.int .i64 (Int.tmod (i64.wrap a3) t183)) z z (x_rem (not_t hg188) z z) (wv (.int .i64 (Int.tmod (i64.wrap a3) t183)) z z z (wl_nil (tn (wp_seq (wrl (wv (.int .u8 a4) z z z (wv (.int .i64 (i64.wrap a4)) z z (by kernel_rfl) (wv (v174) z z z ?_))))))))
 obtain ⟨t189, ht190, hm⟩ := bind_some hm
 refine wc call12 [v174] z z z ?_
 refine (label_Lattice_Len_ref hst.to1 ht190).mono ?_
 rintro _ w191 ⟨rfl, hst⟩
 refine ⟨_, z, ?_⟩
 replace hst := hst.of1
 obtain ⟨hg194, hm⟩ := gd_some hm
 refine wv (.int .i64 (Int.tmod (i64.wrap a4) t189)) z z (x_rem (not_t hg194) z z) (wv (.int .i64 (Int.tmod (i64.wrap a4) t189)) z z z (wl_nil (tn (wp_seq (wrl (wv (v174) z z z (wv (.int .i64 (Int.tmod (i64.wrap a2) t177)) z z z (wv (.int .i64 (Int.tmod (i64.wrap a3) t183)) z z z ?_))))))))
 obtain ⟨t195, ht196, hm⟩ := bind_some hm
 refine wc call13 [v174, I6 (Int.tmod (i64.wrap a2) t177), I6 (Int.tmod (i64.wrap a3) t183)] z z z ?_
 refine (label_Lattice_Join_ref hst.to1 ht196).mono ?_
 rintro _ w197 ⟨rfl, hst⟩
 refine ⟨_, z, ?_⟩
 replace hst := hst.of1
 refine wv (.int .i64 t195) z z z (wl_nil (tn (wp_seq (wrl (wv (v174) z z z (wv (.int .i64 (Int.tmod (i64.wrap a2) t177)) z z z (wv (.int .i64 (Int.tmod (i64.wrap a3) t183)) z z z ?_)))))))
 obtain ⟨t200, ht201, hm⟩ := bind_some hm
 refine wc call14 [v174, I6 (Int.tmod (i64.wrap a2) t177), I6 (Int.tmod (i64.wrap a3) t183)] z z z ?_
 refine (label_Lattice_Meet_ref hst.to1 ht201).mono ?_
 rintro _ w202 ⟨rfl, hst⟩
 refine ⟨_, z, ?_⟩
 replace hst := hst.of1
 refine wv (.int .i64 t200) z z z (wl_nil (tn (wp_seq (wrl (wv (.int .i64 t195) z z z (wv (v174) z z z (wv (.int .i64 (Int.tmod (i64.wrap a3) t183)) z z z (wv (.int .i64 (Int.tmod (i64.wrap a2) t177)) z z z ?_))))))))
 obtain ⟨t205, ht206, hm⟩ := bind_some hm
 refine wc call13 [v174, I6 (Int.tmod (i64.wrap a3) t183), I6 (Int.tmod (i64.wrap a2) t177)] z z z ?_
 refine (label_Lattice_Join_ref hst.to1 ht206).mono ?_
 rintro _ w207 ⟨rfl, hst⟩
 refine ⟨_, z, ?_⟩
 replace hst := hst.of1
 refine wv (.bool (t195 == t205)) z z z (wv (.bool (t195 == t205)) z z z ?_)
 refine bsplit (t195 == t205) (fun hc210 => ?_) (fun hc210 => ?_)
 {
 replace hm := bif_t hc210 hm
 refine wv (.int .i64 t200) ((wanted_eq z z z (cvb hc210)).trans z) z z (wv (v174) ((wanted_eq z z z (cvb hc210)).trans z) z z (wv (.int .i64 (Int.tmod (i64.wrap a3) t183)) ((wanted_eq z z z (cvb hc210)).trans z) z z (wv (.int .i64 (Int.tmod (i64.wrap a2) t177)) ((wanted_eq z z z (cvb hc210)).trans z) z z ?_)))
 obtain ⟨t211, ht212, hm⟩ := bind_some hm
 refine wl_call ((wanted_eq z z z (cvb hc210)).trans z) z (x_call call14 z (vs := [v174, I6 (Int.tmod (i64.wrap a3) t183), I6 (Int.tmod (i64.wrap a2) t177)]) z) ?_
 refine (label_Lattice_Meet_ref hst.to1 ht212).mono ?_
 rintro _ w213 ⟨rfl, hst⟩
 refine ⟨_, z, ?_⟩
 replace hst := hst.of1
 refine wv (.bool (t200 == t211)) ((wanted_eq z z z (cvb hc210)).trans z) z z (wv (.bool (t200 == t211)) z z (x_pick_t hc210 z z) (wv (.bool (t200 == t211)) z z z ?_))
 refine bsplit (t200 == t211) (fun hc216 => ?_) (fun hc216 => ?_)
 {
 replace hm := bif_t hc216 hm
 refine wv (v174) ((wanted_eq z z z (cvb hc216)).trans z) z z (wv (.int .i64 t195) ((wanted_eq z z z (cvb hc216)).trans z) z z (wv (.int .i64 (Int.tmod (i64.wrap a4) t189)) ((wanted_eq z z z (cvb hc216)).trans z) z z ?_))
 obtain ⟨t217, ht218, hm⟩ := bind_some hm
 refine wl_call ((wanted_eq z z z (cvb hc216)).trans z) z (x_call call13 z (vs := [v174, I6 t195, I6 (Int.tmod (i64.wrap a4) t189)]) z) ?_
 refine (label_Lattice_Join_ref hst.to1 ht218).mono ?_
 rintro _ w219 ⟨rfl, hst⟩
 refine ⟨_, z, ?_⟩
 replace hst := hst.of1
 refine wv (v174) ((wanted_eq z z z (cvb hc216)).trans z) z z (wv (.int .i64 (Int.tmod (i64.wrap a2) t177)) ((wanted_eq z z z (cvb hc216)).trans z) z z (wv (v174) ((wanted_eq z z z (cvb hc216)).trans z) z z (wv (.int .i64 (Int.tmod (i64.wrap a3) t183)) ((wanted_eq z z z (cvb hc216)).trans z) z z (wv (.int .i64 (Int.tmod (i64.wrap a4) t189)) ((wanted_eq z z z (cvb hc216)).trans z) z z ?_))))
 obtain ⟨t222, ht223, hm⟩ := bind_some hm
 refine wl_call ((wanted_eq z z z (cvb hc216)).trans z) z (x_call call13 z (vs := [v174, I6 (Int.tmod (i64.wrap a3) t183), I6 (Int.tmod (i64.wrap a4) t189)]) z) ?_
 refine (label_Lattice_Join_ref hst.to1 ht223).mono ?_
 rintro _ w224 ⟨rfl, hst⟩
 refine ⟨_, z, ?_⟩
 replace hst := hst.of1
 obtain ⟨t227, ht228, hm⟩ := bind_some hm
 refine wl_call ((wanted_eq z z z (cvb hc216)).trans z) z (x_call call13 z (vs := [v174, I6 (Int.tmod (i64.wrap a2) t177), I6 t222]) z) ?_
 refine (label_Lattice_Join_ref hst.to1 ht228).mono ?_
 rintro _ w229 ⟨rfl, hst⟩
 refine ⟨_, z, ?_⟩
 replace hst := hst.of1
 refine wv (.bool (t217 == t227)) ((wanted_eq z z z (cvb hc216)).trans z) z z (wv (.bool (t217 == t227)) z z (x_pick_t hc216 z z) (wv (.bool (t217 == t227)) z z z ?_))
 refine bsplit (t217 == t227) (fun hc232 => ?_) (fun hc232 => ?_)
 {
 replace hm := bif_t hc232 hm
 refine wv (v174) ((wanted_eq z z z (cvb hc232)).trans z) z z (wv (.int .i64 t200) ((wanted_eq z z z (cvb hc232)).trans z) z z (wv (.int .i64 (Int.tmod (i64.wrap a4) t189)) ((wanted_eq z z z (cvb hc232)).trans z) z z ?_))
 obtain ⟨t233, ht234, hm⟩ := bind_some hm
 refine wl_call ((wanted_eq z z z (cvb hc232)).trans z) z (x_call call14 z (vs := [v174, I6 t200, I6 (Int.tmod (i64.wrap a4) t189)]) z) ?_
 refine (label_Lattice_Meet_ref hst.to1 ht234).mono ?_
 rintro _ w235 ⟨rfl, hst⟩
 refine ⟨_, z, ?_⟩
 replace hst := hst.of1
 refine wv (v174) ((wanted_eq z z z (cvb hc232)).trans z) z z (wv (.int .i64 (Int.tmod (i64.wrap a2) t177)) ((wanted_eq z z z (cvb hc232)).trans z) z z (wv (v174) ((wanted_eq z z z (cvb hc232)).trans z) z z (wv (.int .i64 (Int.tmod (i64.wrap a3) t183)) ((wanted_eq z z z (cvb hc232)).trans z) z z (wv (.int .i64 (Int.tmod (i64.wrap a4) t189)) ((wanted_eq z z z (cvb hc232)).trans z) z z ?_))))
 obtain ⟨t238, ht239, hm⟩ := bind_some hm
 refine wl_call ((wanted_eq z z z (cvb hc232)).trans z) z (x_call call14 z (vs := [v174, I6 (Int.tmod (i64.wrap a3) t183), I6 (Int.tmod (i64.wrap a4) t189)]) z) ?_
 refine (label_Lattice_Meet_ref hst.to1 ht239).mono ?_
 rintro _ w240 ⟨rfl, hst⟩
 refine ⟨_, z, ?_⟩
 replace hst := hst.of1
 obtain ⟨t243, ht244, hm⟩ := bind_some hm
 refine wl_call ((wanted_eq z z z (cvb hc232)).trans z) z (x_call call14 z (vs := [v174, I6 (Int.tmod (i64.wrap a2) t177), I6 t238]) z) ?_
 refine (label_Lattice_Meet_ref hst.to1 ht244).mono ?_
 rintro _ w245 ⟨rfl, hst⟩
 refine ⟨_, z, ?_⟩
 replace hst := hst.of1
 refine wv (.bool (t233 == t243)) ((wanted_eq z z z (cvb hc232)).trans z) z z (wv (.bool (t233 == t243)) z z (x_pick_t hc232 z z) (wv (.bool (t233 == t243)) z z z ?_))
 refine bsplit (t233 == t243) (fun hc248 => ?_) (fun hc248 => ?_)
 {
 replace hm := bif_t hc248 hm
 refine wv (v174) ((wanted_eq z z z (cvb hc248)).trans z) z z (wv (.int .i64 (Int.tmod (i64.wrap a2) t177)) ((wanted_eq z z z (cvb hc248)).trans z) z z (wv (.int .i64 t200) ((wanted_eq z z z (cvb hc248)).trans z) z z ?_))
 obtain ⟨t249, ht250, hm⟩ := bind_some hm
 refine wl_call ((wanted_eq z z z (cvb hc248)).trans z) z (x_call call13 z (vs := [v174, I6 (Int.tmod (i64.wrap a2) t177), I6 t200]) z) ?_
 refine (label_Lattice_Join_ref hst.to1 ht250).mono ?_
 rintro _ w251 ⟨rfl, hst⟩
 refine ⟨_, z, ?_⟩
 replace hst := hst.of1
 refine wv (.int .i64 (Int.tmod (i64.wrap a2) t177)) ((wanted_eq z z z (cvb hc248)).trans z) z z (wv (.bool (t249 == (Int.tmod (i64.wrap a2) t177))) ((wanted_eq z z z (cvb hc248)).trans z) z z (wv (.bool (t249 == (Int.tmod (i64.wrap a2) t177))) z z (x_pick_t hc248 z z) (wv (.bool (t249 == (Int.tmod (i64.wrap a2) t177))) z z z ?_)))
 refine bsplit (t249 == (Int.tmod (i64.wrap a2) t177)) (fun hc254 => ?_) (fun hc254 => ?_)
 {
 replace hm := bif_t hc254 hm
 refine wv (v174) ((wanted_eq z z z (cvb hc254)).trans z) z z (wv (.int .i64 (Int.tmod (i64.wrap a2) t177)) ((wanted_eq z z z (cvb hc254)).trans z) z z (wv (.int .i64 t195) ((wanted_eq z z z (cvb hc254)).trans z) z z ?_))
 obtain ⟨t255, ht256, hm⟩ := bind_some hm
 refine wl_call ((wanted_eq z z z (cvb hc254)).trans z) z (x_call call14 z (vs := [v174, I6 (Int.tmod (i64.wrap a2) t177), I6 t195]) z) ?_
 refine (label_Lattice_Meet_ref hst.to1 ht256).mono ?_
 rintro _ w257 ⟨rfl, hst⟩
 refine ⟨_, z, ?_⟩
 replace hst := hst.of1
 refine wv (.int .i64 (Int.tmod (i64.wrap a2) t177)) ((wanted_eq z z z (cvb hc254)).trans z) z z (wv (.bool (t255 == (Int.tmod (i64.wrap a2) t177))) ((wanted_eq z z z (cvb hc254)).trans z) z z (wv (.bool (t255 == (Int.tmod (i64.wrap a2) t177))) z z (x_pick_t hc254 z z) (wv (.bool (t255 == (Int.tmod (i64.wrap a2) t177))) z z z ?_)))
 refine bsplit (t255 == (Int.tmod (i64.wrap a2) t177)) (fun hc260 => ?_) (fun hc260 => ?_)
 {
 replace hm := bif_t hc260 hm
 refine wv (v174) ((wanted_eq z z z (cvb hc260)).trans z) z z (wv (.int .i64 (Int.tmod (i64.wrap a2) t177)) ((wanted_eq z z z (cvb hc260)).trans z) z z (wv (.int .i64 (Int.tmod (i64.wrap a3) t183)) ((wanted_eq z z z (cvb hc260)).trans z) z z ?_))
 obtain ⟨t261, ht262, hm⟩ := bind_some hm
 refine wl_call ((wanted_eq z z z (cvb hc260)).trans z) z (x_call call15 z (vs := [v174, I6 (Int.tmod (i64.wrap a2) t177), I6 (Int.tmod (i64.wrap a3) t183)]) z) ?_
 refine (label_Lattice_Leq_ref hst.to1 ht262).mono ?_
 rintro _ w263 ⟨rfl, hst⟩
 refine ⟨_, z, ?_⟩
 replace hst := hst.of1
 refine wv (.int .i64 t195) ((wanted_eq z z z (cvb hc260)).trans z) z z (wv (.int .i64 (Int.tmod (i64.wrap a3) t183)) ((wanted_eq z z z (cvb hc260)).trans z) z z (wv (.bool (t195 == (Int.tmod (i64.wrap a3) t183))) ((wanted_eq z z z (cvb hc260)).trans z) z z (wv (.bool (t261 == (t195 == (Int.tmod (i64.wrap a3) t183)))) ((wanted_eq z z z (cvb hc260)).trans z) z (by kernel_rfl) (wv (.bool (t261 == (t195 == (Int.tmod (i64.wrap a3) t183)))) z z (x_pick_t hc260 z z) (wv (.bool (t261 == (t195 == (Int.tmod (i64.wrap a3) t183)))) z z z ?_)))))
 refine bsplit (t261 == (t195 == (Int.tmod (i64.wrap a3) t183))) (fun hc266 => ?_) (fun hc266 => ?_)
 {
 replace hm := bif_t hc266 hm
 refine wv (v174) ((wanted_eq z z z (cvb hc266)).trans z) z z (wv (v174) ((wanted_eq z z z (cvb hc266)).trans z) z z ?_)
 obtain ⟨t267, ht268, hm⟩ := bind_some hm
 refine wl_call ((wanted_eq z z z (cvb hc266)).trans z) z (x_call call16 z (vs := [v174]) z) ?_
 refine (label_Lattice_Bottom_ref hst.to1 ht268).mono ?_
 rintro _ w269 ⟨rfl, hst⟩
 refine ⟨_, z, ?_⟩
 replace hst := hst.of1
 refine wv (.int .i64 (Int.tmod (i64.wrap a2) t177)) ((wanted_eq z z z (cvb hc266)).trans z) z z ?_
 obtain ⟨t272, ht273, hm⟩ := bind_some hm
 refine wl_call ((wanted_eq z z z (cvb hc266)).trans z) z (x_call call15 z (vs := [v174, I6 t267, I6 (Int.tmod (i64.wrap a2) t177)]) z) ?_
 refine (label_Lattice_Leq_ref hst.to1 ht273).mono ?_
 rintro _ w274 ⟨rfl, hst⟩
 refine ⟨_, z, ?_⟩
 replace hst := hst.of1
 refine wv (.bool t272) z z (x_pick_t hc266 z z) (wv (.bool t272) z z z ?_)
 refine bsplit t272 (fun hc277 => ?_) (fun hc277 => ?_)
 {
 replace hm := bif_t hc277 hm
 refine wv (v174) ((wanted_eq z z z (cvb hc277)).trans z) z z (wv (.int .i64 (Int.tmod (i64.wrap a2) t177)) ((wanted_eq z z z (cvb hc277)).trans z) z z (wv (v174) ((wanted_eq z z z (cvb hc277)).trans z) z z ?_))
 obtain ⟨t278, ht279, hm⟩ := bind_some hm
 refine wl_call ((wanted_eq z z z (cvb hc277)).trans z) z (x_call call17 z (vs := [v174]) z) ?_
 refine (label_Lattice_Top_ref hst.to1 ht279).mono ?_
 rintro _ w280 ⟨rfl, hst⟩
 refine ⟨_, z, ?_⟩
 replace hst := hst.of1
 obtain ⟨t283, ht284, hm⟩ := bind_some hm
 refine wl_call ((wanted_eq z z z (cvb hc277)).trans z) z (x_call call15 z (vs := [v174, I6 (Int.tmod (i64.wrap a2) t177), I6 t278]) z) ?_
 refine (label_Lattice_Leq_ref hst.to1 ht284).mono ?_
 rintro _ w285 ⟨rfl, hst⟩
 refine ⟨_, z, ?_⟩
 replace hst := hst.of1
 refine wv (.bool t283) z z (x_pick_t hc277 z z) (wv (.bool t283) z z z ?_)
 refine bsplit t283 (fun hc288 => ?_) (fun hc288 => ?_)
 {
 replace hm := bif_t hc288 hm
 refine wv (v174) ((wanted_eq z z z (cvb hc288)).trans z) z z (wv (.int .i64 (Int.tmod (i64.wrap a2) t177)) ((wanted_eq z z z (cvb hc288)).trans z) z z (wv (.int .i64 (Int.tmod (i64.wrap a3) t183)) ((wanted_eq z z z (cvb hc288)).trans z) z z ?_))
 obtain ⟨t289, ht290, hm⟩ := bind_some hm
 refine wl_call ((wanted_eq z z z (cvb hc288)).trans z) z (x_call call15 z (vs := [v174, I6 (Int.tmod (i64.wrap a2) t177), I6 (Int.tmod (i64.wrap a3) t183)]) z) ?_
 refine (label_Lattice_Leq_ref hst.to1 ht290).mono ?_
 rintro _ w291 ⟨rfl, hst⟩
 refine ⟨_, z, ?_⟩
 replace hst := hst.of1
 refine wv (.bool (!t289)) ((wanted_eq z z z (cvb hc288)).trans z) z z (wv (.bool (!t289)) ((wanted_eq z z z (cvb hc288)).trans z) z z ?_)
 refine bsplit (!t289) (fun hc294 => ?_) (fun hc294 => ?_)
 {
 replace hm := bif_t hc294 hm
 refine wo hc294 z z z z z z (wo hc294 z z z z z z (wo hc294 z z z z z z (wo hc294 z z z z z z (wo hc294 z z z z z z (wo hc294 z z z z z z (wo hc294 z z z z z z (wv (.bool true) ((wanted_eq z z z (cvb hc288)).trans z) z (x_pick_t hc294 z z) (wv (.bool true) z z (x_pick_t hc288 z z) (wv (.bool true) z z z (wl_nil (tn (wp_ret ?_))))))))))))
 obtain rfl := some_inj hm
 refine post_ret (vs := [.bool true]) results3 (rvs_cons (rv_tmp z) rvs_nil) ?_
 exact ⟨_, z, hI0, hst.keep0⟩
}
 {
 replace hm := bif_f hc294 hm
 refine wv (v174) ((wanted_eq z z z (cvb hc294)).trans z) z z (wv (.int .i64 (Int.tmod (i64.wrap a2) t177)) ((wanted_eq z z z (cvb hc294)).trans z) z z ?_)
 obtain ⟨t295, ht296, hm⟩ := bind_some hm
 refine wl_call ((wanted_eq z z z (cvb hc294)).trans z) z (x_call call18 z (vs := [v174, I6 (Int.tmod (i64.wrap a2) t177)]) z) ?_
 refine (label_Lattice_Rank_ref hst.to1 ht296).mono ?_
 rintro _ w297 ⟨rfl, hst⟩
 refine ⟨_, z, ?_⟩
 replace hst := hst.of1
 refine wv (v174) ((wanted_eq z z z (cvb hc294)).trans z) z z (wv (.int .i64 (Int.tmod (i64.wrap a3) t183)) ((wanted_eq z z z (cvb hc294)).trans z) z z ?_)
 obtain ⟨t300, ht301, hm⟩ := bind_some hm
 refine wl_call ((wanted_eq z z z (cvb hc294)).trans z) z (x_call call18 z (vs := [v174, I6 (Int.tmod (i64.wrap a3) t183)]) z) ?_
 refine (label_Lattice_Rank_ref hst.to1 ht301).mono ?_
 rintro _ w302 ⟨rfl, hst⟩
 refine ⟨_, z, ?_⟩
 replace hst := hst.of1
 refine wv (.bool (decide (t295 ≤ t300))) ((wanted_eq z z z (cvb hc294)).trans z) z z (wv (.bool (decide (t295 ≤ t300))) ((wanted_eq z z z (cvb hc288)).trans z) z (x_pick_f hc294 z z) (wv (.bool (decide (t295 ≤ t300))) z z (x_pick_t hc288 z z) (wv (.bool (decide (t295 ≤ t300))) z z z (wl_nil (tn (wp_ret ?_))))))
 obtain rfl := some_inj hm
 refine post_ret (vs := [.bool (decide (t295 ≤ t300))]) results3 (rvs_cons (rv_tmp z) rvs_nil) ?_
 exact ⟨_, z, hI0, hst.keep0⟩
}
}
 {
 replace hm := bif_f hc288 hm
 refine wo hc288 z z z z z z (wo hc288 z z z z z z (wo hc288 z z z z z z (wo hc288 z z z z z z (wo hc288 z z z z z z (wo hc288 z z z z z z (wl_off (wanted_undef z z z z) z (wl_off (wanted_undef z z z z) z (wl_off (wanted_undef z z z z) z (wl_off (wanted_undef z z z z) z (wl_off (wanted_undef z z z z) z (wl_off (wanted_undef z z z z) z (wl_off (wanted_undef z z z z) z ?_))))))))))))
 refine wo hc288 z z z z z z (wv (.bool false) z z (x_pick_f hc288 z z) (wv (.bool false) z z z (wl_nil (tn (wp_ret ?_)))))
 obtain rfl := some_inj hm
 refine post_ret (vs := [.bool false]) results3 (rvs_cons (rv_tmp z) rvs_nil) ?_
 exact ⟨_, z, hI0, hst.keep0⟩
}
}
 {
 replace hm := bif_f hc277 hm
 refine wo hc277 z z z z z z (wo hc277 z z z z z z (wo hc277 z z z z z z (wo hc277 z z z z z z (wo hc277 z z z z z z (wv (.bool false) z z (x_pick_f hc277 z z) (wv (.bool false) z z z (wz z z z z z z (wz z z z z z z (wz z z z z z z (wz z z z z z z (wz z z z z z z (wz z z z z z z ?_))))))))))))
 refine wl_off (wanted_undef z z z z) z (wl_off (wanted_undef z z z z) z (wl_off (wanted_undef z z z z) z (wl_off (wanted_undef z z z z) z (wl_off (wanted_undef z z z z) z (wl_off (wanted_undef z z z z) z (wl_off (wanted_undef z z z z) z (wz z z z z z z (wv (.bool false) z z (x_pick_f z z z) (wv (.bool false) z z z (wl_nil (tn (wp_ret ?_))))))))))))
 obtain rfl := some_inj hm
 refine post_ret (vs := [.bool false]) results3 (rvs_cons (rv_tmp z) rvs_nil) ?_
 exact ⟨_, z, hI0, hst.keep0⟩
}
}
 {
 replace hm := bif_f hc266 hm
 refine wo hc266 z z z z z z (wo hc266 z z z z z z (wo hc266 z z z z z z (wo hc266 z z z z z z (wo hc266 z z z z z z (wv (.bool false) z z (x_pick_f hc266 z z) (wv (.bool false) z z z (wz z z z z z z (wz z z z z z z (wz z z z z z z (wz z z z z z z (wz z z z z z z (wv (.bool false) z z (x_pick_f z z z) ?_))))))))))))
 refine wv (.bool false) z z z (wz z z z z z z (wz z z z z z z (wz z z z z z z (wz z z z z z z (wz z z z z z z (wz z z z z z z (wl_off (wanted_undef z z z z) z (wl_off (wanted_undef z z z z) z (wl_off (wanted_undef z z z z) z (wl_off (wanted_undef z z z z) z (wl_off (wanted_undef z z z z) z (wl_off (wanted_undef z z z z) z ?_))))))))))))
 refine wl_off (wanted_undef z z z z) z (wz z z z z z z (wv (.bool false) z z (x_pick_f z z z) (wv (.bool false) z z z (wl_nil (tn (wp_ret ?_))))))
 obtain rfl := some_inj hm
 refine post_ret (vs := [.bool false]) results3 (rvs_cons (rv_tmp z) rvs_nil) ?_
 exact ⟨_, z, hI0, hst.keep0⟩
}
}
 {
 replace hm := bif_f hc260 hm
 refine wo hc260 z z z z z z (wo hc260 z z z z z z (wo hc260 z z z z z z (wo hc260 z z z z z z (wo hc260 z z z z z z (wo hc260 z z z z z z (wo hc260 z z z z z z (wo hc260 z z z z z z (wv (.bool false) z z (x_pick_f hc260 z z) (wv (.bool false) z z z (wz z z z z z z (wz z z z z z z (wz z z z z z z ?_))))))))))))
 refine wz z z z z z z (wz z z z z z z (wv (.bool false) z z (x_pick_f z z z) (wv (.bool false) z z z (wz z z z z z z (wz z z z z z z (wz z z z z z z (wz z z z z z z (wz z z z z z z (wv (.bool false) z z (x_pick_f z z z) (wv (.bool false) z z z (wz z z z z z z (wz z z z z z z ?_))))))))))))
 refine wz z z z z z z (wz z z z z z z (wz z z z z z z (wz z z z z z z (wl_off (wanted_undef z z z z) z (wl_off (wanted_undef z z z z) z (wl_off (wanted_undef z z z z) z (wl_off (wanted_undef z z z z) z (wl_off (wanted_undef z z z z) z (wl_off (wanted_undef z z z z) z (wl_off (wanted_undef z z z z) z (wz z z z z z z (wv (.bool false) z z (x_pick_f z z z) ?_))))))))))))
 refine wv (.bool false) z z z (wl_nil (tn (wp_ret ?_)))
 obtain rfl := some_inj hm
 refine post_ret (vs := [.bool false]) results3 (rvs_cons (rv_tmp z) rvs_nil) ?_
 exact ⟨_, z, hI0, hst.keep0⟩
}
}
 {
 replace hm := bif_f hc254 hm
 refine wo hc254 z z z z z z (wo hc254 z z z z z z (wo hc254 z z z z z z (wo hc254 z z z z z z (wo hc254 z z z z z z (wo hc254 z z z z z z (wv (.bool false) z z (x_pick_f hc254 z z) (wv (.bool false) z z z (wz z z z z z z (wz z z z z z z (wz z z z z z z (wz z z z z z z (wz z z z z z z ?_))))))))))))
 refine wz z z z z z z (wz z z z z z z (wz z z z z z z (wv (.bool false) z z (x_pick_f z z z) (wv (.bool false) z z z (wz z z z z z z (wz z z z z z z (wz z z z z z z (wz z z z z z z (wz z z z z z z (wv (.bool false) z z (x_pick_f z z z) (wv (.bool false) z z z (wz z z z z z z ?_))))))))))))
 refine wz z z z z z z (wz z z z z z z (wz z z z z z z (wz z z z z z z (wv (.bool false) z z (x_pick_f z z z) (wv (.bool false) z z z (wz z z z z z z (wz z z z z z z (wz z z z z z z (wz z z z z z z (wz z z z z z z (wz z z z z z z (wl_off (wanted_undef z z z z) z ?_))))))))))))
 refine wl_off (wanted_undef z z z z) z (wl_off (wanted_undef z z z z) z (wl_off (wanted_undef z z z z) z (wl_off (wanted_undef z z z z) z (wl_off (wanted_undef z z z z) z (wl_off (wanted_undef z z z z) z (wz z z z z z z (wv (.bool false) z z (x_pick_f z z z) (wv (.bool false) z z z (wl_nil (tn (wp_ret ?_)))))))))))
 obtain rfl := some_inj hm
 refine post_ret (vs := [.bool false]) results3 (rvs_cons (rv_tmp z) rvs_nil) ?_
 exact ⟨_, z, hI0, hst.keep0⟩
}
}
 {
 replace hm := bif_f hc248 hm
 refine wo hc248 z z z z z z (wo hc248 z z z z z z (wo hc248 z z z z z z (wo hc248 z z z z z z (wo hc248 z z z z z z (wo hc248 z z z z z z (wv (.bool false) z z (x_pick_f hc248 z z) (wv (.bool false) z z z (wz z z z z z z (wz z z z z z z (wz z z z z z z (wz z z z z z z (wz z z z z z z ?_))))))))))))
 refine wz z z z z z z (wv (.bool false) z z (x_pick_f z z z) (wv (.bool false) z z z (wz z z z z z z (wz z z z z z z (wz z z z z z z (wz z z z z z z (wz z z z z z z (wz z z z z z z (wz z z z z z z (wz z z z z z z (wv (.bool false) z z (x_pick_f z z z) (wv (.bool false) z z z ?_))))))))))))
 refine wz z z z z z z (wz z z z z z z (wz z z z z z z (wz z z z z z z (wz z z z z z z (wv (.bool false) z z (x_pick_f z z z) (wv (.bool false) z z z (wz z z z z z z (wz z z z z z z (wz z z z z z z (wz z z z z z z (wz z z z z z z (wv (.bool false) z z (x_pick_f z z z) ?_))))))))))))
 refine wv (.bool false) z z z (wz z z z z z z (wz z z z z z z (wz z z z z z z (wz z z z z z z (wz z z z z z z (wz z z z z z z (wl_off (wanted_undef z z z z) z (wl_off (wanted_undef z z z z) z (wl_off (wanted_undef z z z z) z (wl_off (wanted_undef z z z z) z (wl_off (wanted_undef z z z z) z (wl_off (wanted_undef z z z z) z ?_))))))))))))
 refine wl_off (wanted_undef z z z z) z (wz z z z z z z (wv (.bool false) z z (x_pick_f z z z) (wv (.bool false) z z z (wl_nil (tn (wp_ret ?_))))))
 obtain rfl := some_inj hm
 refine post_ret (vs := [.bool false]) results3 (rvs_cons (rv_tmp z) rvs_nil) ?_
 exact ⟨_, z, hI0, hst.keep0⟩
}
}
 {
 replace hm := bif_f hc232 hm
 refine wo hc232 z z z z z z (wo hc232 z z z z z z (wo hc232 z z z z z z (wo hc232 z z z z z z (wo hc232 z z z z z z (wo hc232 z z z z z z (wo hc232 z z z z z z (wo hc232 z z z z z z (wo hc232 z z z z z z (wo hc232 z z z z z z (wo hc232 z z z z z z (wo hc232 z z z z z z (wv (.bool false) z z (x_pick_f hc232 z z) ?_))))))))))))
 refine wv (.bool false) z z z (wz z z z z z z (wz z z z z z z (wz z z z z z z (wz z z z z z z (wz z z z z z z (wz z z z z z z (wv (.bool false) z z (x_pick_f z z z) (wv (.bool false) z z z (wz z z z z z z (wz z z z z z z (wz z z z z z z (wz z z z z z z ?_))))))))))))
 refine wz z z z z z z (wz z z z z z z (wv (.bool false) z z (x_pick_f z z z) (wv (.bool false) z z z (wz z z z z z z (wz z z z z z z (wz z z z z z z (wz z z z z z z (wz z z z z z z (wz z z z z z z (wz z z z z z z (wz z z z z z z (wv (.bool false) z z (x_pick_f z z z) ?_))))))))))))
 refine wv (.bool false) z z z (wz z z z z z z (wz z z z z z z (wz z z z z z z (wz z z z z z z (wz z z z z z z (wv (.bool false) z z (x_pick_f z z z) (wv (.bool false) z z z (wz z z z z z z (wz z z z z z z (wz z z z z z z (wz z z z z z z (wz z z z z z z ?_))))))))))))
 refine wv (.bool false) z z (x_pick_f z z z) (wv (.bool false) z z z (wz z z z z z z (wz z z z z z z (wz z z z z z z (wz z z z z z z (wz z z z z z z (wz z z z z z z (wl_off (wanted_undef z z z z) z (wl_off (wanted_undef z z z z) z (wl_off (wanted_undef z z z z) z (wl_off (wanted_undef z z z z) z (wl_off (wanted_undef z z z z) z ?_))))))))))))
 refine wl_off (wanted_undef z z z z) z (wl_off (wanted_undef z z z z) z (wz z z z z z z (wv (.bool false) z z (x_pick_f z z z) (wv (.bool false) z z z (wl_nil (tn (wp_ret ?_)))))))
 obtain rfl := some_inj hm
 refine post_ret (vs := [.bool false]) results3 (rvs_cons (rv_tmp z) rvs_nil) ?_
 exact ⟨_, z, hI0, hst.keep0⟩
}
}
 {
 replace hm := bif_f hc216 hm
 refine wo hc216 z z z z z z (wo hc216 z z z z z z (wo hc216 z z z z z z (wo hc216 z z z z z z (wo hc216 z z z z z z (wo hc216 z z z z z z (wo hc216 z z z z z z (wo hc216 z z z z z z (wo hc216 z z z z z z (wo hc216 z z z z z z (wo hc216 z z z z z z (wo hc216 z z z z z z (wv (.bool false) z z (x_pick_f hc216 z z) ?_))))))))))))
 refine wv (.bool false) z z z (wz z z z z z z (wz z z z z z z (wz z z z z z z (wz z z z z z z (wz z z z z z z (wz z z z z z z (wz z z z z z z (wz z z z z z z (wz z z z z z z (wz z z z z z z (wz z z z z z z (wz z z z z z z ?_))))))))))))
 refine wv (.bool false) z z (x_pick_f z z z) (wv (.bool false) z z z (wz z z z z z z (wz z z z z z z (wz z z z z z z (wz z z z z z z (wz z z z z z z (wz z z z z z z (wv (.bool false) z z (x_pick_f z z z) (wv (.bool false) z z z (wz z z z z z z (wz z z z z z z (wz z z z z z z ?_))))))))))))
 refine wz z z z z z z (wz z z z z z z (wz z z z z z z (wv (.bool false) z z (x_pick_f z z z) (wv (.bool false) z z z (wz z z z z z z (wz z z z z z z (wz z z z z z z (wz z z z z z z (wz z z z z z z (wz z z z z z z (wz z z z z z z (wz z z z z z z ?_))))))))))))
 refine wv (.bool false) z z (x_pick_f z z z) (wv (.bool false) z z z (wz z z z z z z (wz z z z z z z (wz z z z z z z (wz z z z z z z (wz z z z z z z (wv (.bool false) z z (x_pick_f z z z) (wv (.bool false) z z z (wz z z z z z z (wz z z z z z z (wz z z z z z z (wz z z z z z z ?_))))))))))))
 refine wz z z z z z z (wv (.bool false) z z (x_pick_f z z z) (wv (.bool false) z z z (wz z z z z z z (wz z z z z z z (wz z z z z z z (wz z z z z z z (wz z z z z z z (wz z z z z z z (wl_off (wanted_undef z z z z) z (wl_off (wanted_undef z z z z) z (wl_off (wanted_undef z z z z) z (wl_off (wanted_undef z z z z) z ?_))))))))))))
 refine wl_off (wanted_undef z z z z) z (wl_off (wanted_undef z z z z) z (wl_off (wanted_undef z z z z) z (wz z z z z z z (wv (.bool false) z z (x_pick_f z z z) (wv (.bool false) z z z (wl_nil (tn (wp_ret ?_))))))))
 obtain rfl := some_inj hm
 refine post_ret (vs := [.bool false]) results3 (rvs_cons (rv_tmp z) rvs_nil) ?_
 exact ⟨_, z, hI0, hst.keep0⟩
}
}
 {
 replace hm := bif_f hc210 hm
 refine wo hc210 z z z z z z (wo hc210 z z z z z z (wo hc210 z z z z z z (wo hc210 z z z z z z (wo hc210 z z z z z z (wo hc210 z z z z z z (wv (.bool false) z z (x_pick_f hc210 z z) (wv (.bool false) z z z (wz z z z z z z (wz z z z z z z (wz z z z z z z (wz z z z z z z (wz z z z z z z ?_))))))))))))
 refine wz z z z z z z (wz z z z z z z (wz z z z z z z (wz z z z z z z (wz z z z z z z (wz z z z z z z (wz z z z z z z (wv (.bool false) z z (x_pick_f z z z) (wv (.bool false) z z z (wz z z z z z z (wz z z z z z z (wz z z z z z z (wz z z z z z z ?_))))))))))))
 refine wz z z z z z z (wz z z z z z z (wz z z z z z z (wz z z z z z z (wz z z z z z z (wz z z z z z z (wz z z z z z z (wz z z z z z z (wv (.bool false) z z (x_pick_f z z z) (wv (.bool false) z z z (wz z z z z z z (wz z z z z z z (wz z z z z z z ?_))))))))))))
 refine wz z z z z z z (wz z z z z z z (wz z z z z z z (wv (.bool false) z z (x_pick_f z z z) (wv (.bool false) z z z (wz z z z z z z (wz z z z z z z (wz z z z z z z (wz z z z z z z (wz z z z z z z (wz z z z z z z (wv (.bool false) z z (x_pick_f z z z) (wv (.bool false) z z z ?_))))))))))))
 refine wz z z z z z z (wz z z z z z z (wz z z z z z z (wz z z z z z z (wz z z z z z z (wz z z z z z z (wz z z z z z z (wz z z z z z z (wv (.bool false) z z (x_pick_f z z z) (wv (.bool false) z z z (wz z z z z z z (wz z z z z z z (wz z z z z z z ?_))))))))))))
 refine wz z z z z z z (wz z z z z z z (wv (.bool false) z z (x_pick_f z z z) (wv (.bool false) z z z (wz z z z z z z (wz z z z z z z (wz z z z z z z (wz z z z z z z (wz z z z z z z (wv (.bool false) z z (x_pick_f z z z) (wv (.bool false) z z z (wz z z z z z z (wz z z z z z z ?_))))))))))))
 refine wz z z z z z z (wz z z z z z z (wz z z z z z z (wz z z z z z z (wl_off (wanted_undef z z z z) z (wl_off (wanted_undef z z z z) z (wl_off (wanted_undef z z z z) z (wl_off (wanted_undef z z z z) z (wl_off (wanted_undef z z z z) z (wl_off (wanted_undef z z z z) z (wl_off (wanted_undef z z z z) z (wz z z z z z z (wv (.bool false) z z (x_pick_f z z z) ?_))))))))))))
 refine wv (.bool false) z z z (wl_nil (tn (wp_ret ?_)))
 obtain rfl := some_inj hm
 refine post_ret (vs := [.bool false]) results3 (rvs_cons (rv_tmp z) rvs_nil) ?_
 exact ⟨_, z, hI0, hst.keep0⟩
}
}
}
}

end Go.Proofs.Ytddhkbholbcebaa
