/- The Go functions refine their models, part 2. -/
import Derived.Test.YtddhkbholbcebaaLabelChecksR1
set_option linter.unusedVariables false
set_option linter.unusedSimpArgs false
set_option maxRecDepth 100000
set_option maxHeartbeats 4000000
namespace Go.Proofs.Ytddhkbholbcebaa
open Go Go.V
open _root_.Go.Proofs.Try IntKind
attribute [local irreducible] wpList Code.wp wpQuiet Calls bodyPost Oper.wp wpS Nx PendOK YieldsIn
theorem label_Lattice_Len_ref {w0 w : World} {I : HL} {R : SP} {a0 : (Option label_Lattice)} {p0 : Value}  (hst : St w0 w I [objO at_label_Lattice p0 a0] R) {r : (Int)} (hm : label_Lattice_Len a0 = some r) :
  Calls prog 12 #[p0] w fun e w' => e = .returned (.int .i64 r) ∧ St w0 w' I [objO at_label_Lattice p0 a0] R := by {
 rcases a0 with _ | o0
 {
 obtain ⟨rfl, hst'⟩ := objO_none hst
 clear hst
 have hst := hst'
 clear hst'
 dsimp only [label_Lattice_Len] at hm
 refine calls_start (args := [.pointer none]) func12 z ntmps12 (Nat.le_of_ble_eq_true z) ?_
 refine wp_seq (wrl (wv (.int .i64 (0:Int)) z z z (wl_nil (tn (wp_seq (wp_seq (wrl (wv (.pointer none) z z z (wv (.bool true) z z (by kernel_rfl) (wl_nil (tn ?_)))))))))))
 refine wp_ift z ?_
 refine wp_seq (wrl (wv (.int .i64 (0:Int)) z z z (wl_nil (tn (wp_ret (then_r ?_))))))
 replace hst := hst.objO_nil at_label_Lattice
 obtain rfl := some_inj hm
 refine post_ret (vs := [Zi]) results12 (rvs_cons (rv_tmp z) rvs_nil) ?_
 exact ⟨z, hst.keep1⟩
}
 {
 replace hst := objO_get hst
 dsimp only [label_Lattice_Len] at hm
 refine calls_start (args := [p0]) func12 z ntmps12 (Nat.le_of_ble_eq_true z) ?_
 refine wp_seq (wrl (wv (.int .i64 (0:Int)) z z z (wl_nil (tn (wp_seq (wp_seq (wrl (wv (p0) z z z ?_))))))))
 obtain ⟨b35, v36, v38, v40, v42, v44, v46, rfl, hst'⟩ := at_label_Lattice_open hst
 clear hst
 have hst := hst'
 clear hst'
 refine wv (.bool false) z z (by kernel_rfl) (wl_nil (tn ?_))
 refine wp_iff z ?_
 refine wp_skip (tn (wp_seq (wrl ?_)))
 refine wv (Pt b35 0) z z z (wv (Pt b35 0) z z z (wv (Pt b35 0) z z (x_field z underlying49 z sizeOf28 z) (wv (v36) z z (x_load z isAgg28 (hst.bc0 z)) (wv (.int .i64 ((o0.up).length : Int)) z z (x_len z underlying28 hst.sv1) (wv (.int .i64 ((o0.up).length : Int)) z z z (wl_nil (tn (wp_ret ?_))))))))
 replace hst := hst.pull6.pull6.pull6.pull6.pull6.pull6.pull6
 replace hst := at_label_Lattice_close (pv := Pt b35 0) (x := o0) hst z
 replace hst := objO_some hst
 obtain rfl := some_inj hm
 refine post_ret (vs := [I6 ((o0.up).length : Int)]) results12 (rvs_cons (rv_tmp z) rvs_nil) ?_
 exact ⟨z, hst.keep1⟩
}
}

theorem label_Lattice_Is_ref {w0 w : World} {I : HL} {R : SP} {a0 : (Option label_Lattice)} {p0 : Value} {a1 : Int}  (hst : St w0 w I [objO at_label_Lattice p0 a0] R) {r : (Bool)} (hm : label_Lattice_Is a0 a1 = some r) :
  Calls prog 23 #[p0, I6 a1] w fun e w' => e = .returned (.bool r) ∧ St w0 w' I [objO at_label_Lattice p0 a0] R := by {
 unfold label_Lattice_Is at hm
 refine calls_start (args := [p0, I6 a1]) func23 z ntmps23 (Nat.le_of_ble_eq_true z) ?_
 refine wp_seq (wrl (wv (.bool false) z z z (wl_nil (tn (wp_seq (wrl (wv (.int .i64 a1) z z z (wv (.bool (decide (a1 ≥ (0:Int)))) z z z (wv (.bool (decide (a1 ≥ (0:Int)))) z z z ?_)))))))))
 refine bsplit (decide (a1 ≥ (0:Int))) (fun hc26 => ?_) (fun hc26 => ?_)
 {
 replace hm := bif_t hc26 hm
 refine wv (.int .i64 a1) ((wanted_eq z z z (cvb hc26)).trans z) z z (wv (p0) ((wanted_eq z z z (cvb hc26)).trans z) z z ?_)
 obtain ⟨t27, ht28, hm⟩ := bind_some hm
 refine wl_call ((wanted_eq z z z (cvb hc26)).trans z) z (x_call call12 z (vs := [p0]) z) ?_
 refine (label_Lattice_Len_ref hst.to1 ht28).mono ?_
 rintro _ w29 ⟨rfl, hst⟩
 refine ⟨_, z, ?_⟩
 replace hst := hst.of1
 refine wv (.bool (decide (a1 < t27))) ((wanted_eq z z z (cvb hc26)).trans z) z z (wv (.bool (decide (a1 < t27))) z z (x_pick_t hc26 z z) (wv (.bool (decide (a1 < t27))) z z z (wl_nil (tn (wp_ret ?_)))))
 obtain rfl := some_inj hm
 refine post_ret (vs := [.bool (decide (a1 < t27))]) results23 (rvs_cons (rv_tmp z) rvs_nil) ?_
 exact ⟨z, hst.keep1⟩
}
 {
 replace hm := bif_f hc26 hm
 refine wo hc26 z z z z z z (wo hc26 z z z z z z (wo hc26 z z z z z z (wo hc26 z z z z z z (wv (.bool false) z z (x_pick_f hc26 z z) (wv (.bool false) z z z (wl_nil (tn (wp_ret ?_))))))))
 obtain rfl := some_inj hm
 refine post_ret (vs := [.bool false]) results23 (rvs_cons (rv_tmp z) rvs_nil) ?_
 exact ⟨z, hst.keep1⟩
}
}

theorem label_Lattice_Join_ref {w0 w : World} {I : HL} {R : SP} {a0 : (Option label_Lattice)} {p0 : Value} {a1 : Int} {a2 : Int}  (hst : St w0 w I [objO at_label_Lattice p0 a0] R) {r : (Int)} (hm : label_Lattice_Join a0 a1 a2 = some r) :
  Calls prog 13 #[p0, I6 a1, I6 a2] w fun e w' => e = .returned (.int .i64 r) ∧ St w0 w' I [objO at_label_Lattice p0 a0] R := by {
 rcases a0 with _ | o0
 {
 obtain ⟨rfl, hst'⟩ := objO_none hst
 clear hst
 have hst := hst'
 clear hst'
 dsimp only [label_Lattice_Join] at hm
 refine calls_start (args := [.pointer none, I6 a1, I6 a2]) func13 z ntmps13 (Nat.le_of_ble_eq_true z) ?_
 refine wp_seq (wrl (wv (.int .i64 (0:Int)) z z z (wl_nil (tn (wp_seq (wp_seq (wrl (wv (.pointer none) z z z (wv (.int .i64 a1) z z z ?_)))))))))
 replace hst := hst.objO_nil at_label_Lattice
 obtain ⟨t75, ht76, hm⟩ := bind_some hm
 refine wc call23 [.pointer none, I6 a1] z z z ?_
 refine (label_Lattice_Is_ref hst.to1 ht76).mono ?_
 rintro _ w77 ⟨rfl, hst⟩
 refine ⟨_, z, ?_⟩
 replace hst := hst.of1
 refine wv (.bool (!t75)) z z z (wv (.bool (!t75)) z z z ?_)
 refine bsplit (!t75) (fun hc80 => ?_) (fun hc80 => ?_)
 {
 replace hm := bif_t hc80 hm
 refine wo hc80 z z z z z z (wo hc80 z z z z z z (wo hc80 z z z z z z (wo hc80 z z z z z z (wv (.bool true) z z (x_pick_t hc80 z z) (wl_nil (tn ?_))))))
 refine wp_ift z ?_
 refine wp_seq (wrl (wv (.int .i64 ((-1):Int)) z z z (wl_nil (tn (wp_ret (then_r ?_))))))
 replace hst := hst.objO_nil at_label_Lattice
 obtain rfl := some_inj hm
 refine post_ret (vs := [I6 ((-1):Int)]) results13 (rvs_cons (rv_tmp z) rvs_nil) ?_
 exact ⟨z, hst.keep1⟩
}
 {
 replace hm := bif_f hc80 hm
 refine wv (.pointer none) ((wanted_eq z z z (cvb hc80)).trans z) z z (wv (.int .i64 a2) ((wanted_eq z z z (cvb hc80)).trans z) z z ?_)
 replace hst := hst.objO_nil at_label_Lattice
 obtain ⟨t82, ht83, hm⟩ := bind_some hm
 refine wl_call ((wanted_eq z z z (cvb hc80)).trans z) z (x_call call23 z (vs := [.pointer none, I6 a2]) z) ?_
 refine (label_Lattice_Is_ref hst.to1 ht83).mono ?_
 rintro _ w84 ⟨rfl, hst⟩
 refine ⟨_, z, ?_⟩
 replace hst := hst.of1
 refine wv (.bool (!t82)) ((wanted_eq z z z (cvb hc80)).trans z) z z (wv (.bool (!t82)) z z (x_pick_f hc80 z z) (wl_nil (tn ?_)))
 refine bsplit (!t82) (fun hc87 => ?_) (fun hc87 => ?_)
 {
 replace hm := bif_t hc87 hm
 refine wp_ift (cvb hc87) ?_
 refine wp_seq (wrl (wv (.int .i64 ((-1):Int)) z z z (wl_nil (tn (wp_ret (then_r ?_))))))
 replace hst := hst.objO_nil at_label_Lattice
 obtain rfl := some_inj hm
 refine post_ret (vs := [I6 ((-1):Int)]) results13 (rvs_cons (rv_tmp z) rvs_nil) ?_
 exact ⟨z, hst.keep1⟩
}
 {
 replace hm := bif_f hc87 hm
 refine wp_iff (cvb hc87) ?_
 refine wp_skip (tn (wp_seq (wrl ?_)))
 refine wv (.pointer none) z z z ?_
 cases hm
}
}
}
 {
 replace hst := objO_get hst
 dsimp only [label_Lattice_Join] at hm
 refine calls_start (args := [p0, I6 a1, I6 a2]) func13 z ntmps13 (Nat.le_of_ble_eq_true z) ?_
 refine wp_seq (wrl (wv (.int .i64 (0:Int)) z z z (wl_nil (tn (wp_seq (wp_seq (wrl (wv (p0) z z z (wv (.int .i64 a1) z z z ?_)))))))))
 replace hst := objO_some hst
 obtain ⟨t88, ht89, hm⟩ := bind_some hm
 refine wc call23 [p0, I6 a1] z z z ?_
 refine (label_Lattice_Is_ref hst.to1 ht89).mono ?_
 rintro _ w90 ⟨rfl, hst⟩
 refine ⟨_, z, ?_⟩
 replace hst := hst.of1
 replace hst := objO_get hst
 refine wv (.bool (!t88)) z z z (wv (.bool (!t88)) z z z ?_)
 refine bsplit (!t88) (fun hc93 => ?_) (fun hc93 => ?_)
 {
 replace hm := bif_t hc93 hm
 refine wo hc93 z z z z z z (wo hc93 z z z z z z (wo hc93 z z z z z z (wo hc93 z z z z z z (wv (.bool true) z z (x_pick_t hc93 z z) (wl_nil (tn ?_))))))
 refine wp_ift z ?_
 refine wp_seq (wrl (wv (.int .i64 ((-1):Int)) z z z (wl_nil (tn (wp_ret (then_r ?_))))))
 replace hst := objO_some hst
 obtain rfl := some_inj hm
 refine post_ret (vs := [I6 ((-1):Int)]) results13 (rvs_cons (rv_tmp z) rvs_nil) ?_
 exact ⟨z, hst.keep1⟩
}
 {
 replace hm := bif_f hc93 hm
 refine wv (p0) ((wanted_eq z z z (cvb hc93)).trans z) z z (wv (.int .i64 a2) ((wanted_eq z z z (cvb hc93)).trans z) z z ?_)
 replace hst := objO_some hst
 obtain ⟨t94, ht95, hm⟩ := bind_some hm
 refine wl_call ((wanted_eq z z z (cvb hc93)).trans z) z (x_call call23 z (vs := [p0, I6 a2]) z) ?_
 refine (label_Lattice_Is_ref hst.to1 ht95).mono ?_
 rintro _ w96 ⟨rfl, hst⟩
 refine ⟨_, z, ?_⟩
 replace hst := hst.of1
 replace hst := objO_get hst
 refine wv (.bool (!t94)) ((wanted_eq z z z (cvb hc93)).trans z) z z (wv (.bool (!t94)) z z (x_pick_f hc93 z z) (wl_nil (tn ?_)))
 refine bsplit (!t94) (fun hc99 => ?_) (fun hc99 => ?_)
 {
 replace hm := bif_t hc99 hm
 refine wp_ift (cvb hc99) ?_
 refine wp_seq (wrl (wv (.int .i64 ((-1):Int)) z z z (wl_nil (tn (wp_ret (then_r ?_))))))
 replace hst := objO_some hst
 obtain rfl := some_inj hm
 refine post_ret (vs := [I6 ((-1):Int)]) results13 (rvs_cons (rv_tmp z) rvs_nil) ?_
 exact ⟨z, hst.keep1⟩
}
 {
 replace hm := bif_f hc99 hm
 refine wp_iff (cvb hc99) ?_
 refine wp_skip (tn (wp_seq (wrl ?_)))
 refine wv (p0) z z z ?_
 obtain ⟨b100, v101, v103, v105, v107, v109, v111, rfl, hst'⟩ := at_label_Lattice_open hst
 clear hst
 have hst := hst'
 clear hst'
 refine wv (Pt b100 0) z z z (wv (Pt b100 2) z z (x_field z underlying49 z sizeOf47 z) (wv (v105) z z (x_load z isAgg47 (hst.bc0 z)) (wv (.int .i64 a1) z z z ?_)))
 obtain ⟨x113, hx114, hm⟩ := bind_some hm
 obtain ⟨h115, h116, hi117⟩ := geto_some hx114
 refine wv (.pointer (some (eAddr v105 (a1.toNat * 1 + 0)))) z z (x_index z z underlying47 sizeOf41 hst.sv3 h115 h116) ?_
 obtain ⟨cs118, hr119, hc120⟩ := hst.og3 hi117
 obtain ⟨v121, rfl, f122, -⟩ := hr119
 refine wv (v121) z z (x_load z isAgg41 (hc120 0 _ z)) (wv (.int .i64 a2) z z z ?_)
 obtain ⟨x124, hx125, hm⟩ := bind_some hm
 obtain ⟨h126, h127, hi128⟩ := geto_some hx125
 refine wv (.pointer (some (eAddr v121 (a2.toNat * 1 + 0)))) z z (x_index z z underlying41 sizeOf3 (ro_sliceV f122) h126 h127) (wv (.int .i64 x124) z z (x_load z isAgg3 (ro_load f122 hst hi128 (by rintro _ rfl; rfl))) (wv (.int .i64 x124) z z z (wl_nil (tn (wp_ret ?_)))))
 replace hst := hst.pull6.pull6.pull6.pull6.pull6.pull6.pull6
 replace hst := at_label_Lattice_close (pv := Pt b100 0) (x := o0) hst z
 replace hst := objO_some hst
 obtain rfl := some_inj hm
 refine post_ret (vs := [I6 x124]) results13 (rvs_cons (rv_tmp z) rvs_nil) ?_
 exact ⟨z, hst.keep1⟩
}
}
}
}

theorem label_Lattice_Rank_ref {w0 w : World} {I : HL} {R : SP} {a0 : (Option label_Lattice)} {p0 : Value} {a1 : Int}  (hst : St w0 w I [objO at_label_Lattice p0 a0] R) {r : (Int)} (hm : label_Lattice_Rank a0 a1 = some r) :
  Calls prog 18 #[p0, I6 a1] w fun e w' => e = .returned (.int .i64 r) ∧ St w0 w' I [objO at_label_Lattice p0 a0] R := by {
 rcases a0 with _ | o0
 {
 obtain ⟨rfl, hst'⟩ := objO_none hst
 clear hst
 have hst := hst'
 clear hst'
 dsimp only [label_Lattice_Rank] at hm
 refine calls_start (args := [.pointer none, I6 a1]) func18 z ntmps18 (Nat.le_of_ble_eq_true z) ?_
 refine wp_seq (wrl (wv (.int .i64 (0:Int)) z z z (wl_nil (tn (wp_seq (wp_seq (wrl (wv (.pointer none) z z z (wv (.int .i64 a1) z z z ?_)))))))))
 replace hst := hst.objO_nil at_label_Lattice
 obtain ⟨t57, ht58, hm⟩ := bind_some hm
 refine wc call23 [.pointer none, I6 a1] z z z ?_
 refine (label_Lattice_Is_ref hst.to1 ht58).mono ?_
 rintro _ w59 ⟨rfl, hst⟩
 refine ⟨_, z, ?_⟩
 replace hst := hst.of1
 refine wv (.bool (!t57)) z z z (wl_nil (tn ?_))
 refine bsplit (!t57) (fun hc62 => ?_) (fun hc62 => ?_)
 {
 replace hm := bif_t hc62 hm
 refine wp_ift (cvb hc62) ?_
 refine wp_seq (wrl (wv (.int .i64 ((-1):Int)) z z z (wl_nil (tn (wp_ret (then_r ?_))))))
 replace hst := hst.objO_nil at_label_Lattice
 obtain rfl := some_inj hm
 refine post_ret (vs := [I6 ((-1):Int)]) results18 (rvs_cons (rv_tmp z) rvs_nil) ?_
 exact ⟨z, hst.keep1⟩
}
 {
 replace hm := bif_f hc62 hm
 refine wp_iff (cvb hc62) ?_
 refine wp_skip (tn (wp_seq (wrl ?_)))
 refine wv (.pointer none) z z z ?_
 cases hm
}
}
 {
 replace hst := objO_get hst
 dsimp only [label_Lattice_Rank] at hm
 refine calls_start (args := [p0, I6 a1]) func18 z ntmps18 (Nat.le_of_ble_eq_true z) ?_
 refine wp_seq (wrl (wv (.int .i64 (0:Int)) z z z (wl_nil (tn (wp_seq (wp_seq (wrl (wv (p0) z z z (wv (.int .i64 a1) z z z ?_)))))))))
 replace hst := objO_some hst
 obtain ⟨t63, ht64, hm⟩ := bind_some hm
 refine wc call23 [p0, I6 a1] z z z ?_
 refine (label_Lattice_Is_ref hst.to1 ht64).mono ?_
 rintro _ w65 ⟨rfl, hst⟩
 refine ⟨_, z, ?_⟩
 replace hst := hst.of1
 replace hst := objO_get hst
 refine wv (.bool (!t63)) z z z (wl_nil (tn ?_))
 refine bsplit (!t63) (fun hc68 => ?_) (fun hc68 => ?_)
 {
 replace hm := bif_t hc68 hm
 refine wp_ift (cvb hc68) ?_
 refine wp_seq (wrl (wv (.int .i64 ((-1):Int)) z z z (wl_nil (tn (wp_ret (then_r ?_))))))
 replace hst := objO_some hst
 obtain rfl := some_inj hm
 refine post_ret (vs := [I6 ((-1):Int)]) results18 (rvs_cons (rv_tmp z) rvs_nil) ?_
 exact ⟨z, hst.keep1⟩
}
 {
 replace hm := bif_f hc68 hm
 refine wp_iff (cvb hc68) ?_
 refine wp_skip (tn (wp_seq (wrl ?_)))
 refine wv (p0) z z z ?_
 obtain ⟨b69, v70, v72, v74, v76, v78, v80, rfl, hst'⟩ := at_label_Lattice_open hst
 clear hst
 have hst := hst'
 clear hst'
 refine wv (Pt b69 0) z z z (wv (Pt b69 4) z z (x_field z underlying49 z sizeOf41 z) (wv (v78) z z (x_load z isAgg41 (hst.bc0 z)) (wv (.int .i64 a1) z z z ?_)))
 obtain ⟨x82, hx83, hm⟩ := bind_some hm
 obtain ⟨h84, h85, hi86⟩ := geto_some hx83
 refine wv (.pointer (some (eAddr v78 (a1.toNat * 1 + 0)))) z z (x_index z z underlying41 sizeOf3 hst.sv5 h84 h85) (wv (.int .i64 x82) z z (x_load z isAgg3 (hst.ol5 hi86 (by rintro _ rfl; rfl))) (wv (.int .i64 x82) z z z (wl_nil (tn (wp_ret ?_)))))
 replace hst := hst.pull6.pull6.pull6.pull6.pull6.pull6.pull6
 replace hst := at_label_Lattice_close (pv := Pt b69 0) (x := o0) hst z
 replace hst := objO_some hst
 obtain rfl := some_inj hm
 refine post_ret (vs := [I6 x82]) results18 (rvs_cons (rv_tmp z) rvs_nil) ?_
 exact ⟨z, hst.keep1⟩
}
}
}

theorem law03_awake_ref {w0 w : World} {I : HL} {R : SP}   (hst : St w0 w I [] R) {r : (Bool)} (hm : law03_awake = some r) :
  Calls prog 9 #[] w fun e w' => ∃ (I' : HL), e = .returned (.bool r) ∧ I.le I' ∧ St w0 w' I' [] R := by {
 unfold law03_awake at hm
 refine calls_start (args := []) func9 z ntmps9 (Nat.le_of_ble_eq_true z) ?_
 have hI0 := HL.le.refl I
 refine wp_seq (wrl (wv (.bool false) z z z (wl_nil (tn (wp_seq (wrl ?_))))))
 obtain ⟨b34, w35, ew36, eb37, hst⟩ := hst.lits (E := (tyInt .u64)) (xs := [(3:Int), (2:Int)]) [[U6 (3:Int)], [U6 (2:Int)]] 43 2 z (Reps.cons z (Reps.cons z Reps.nil))
 refine wl_run (v := (.slice (some ⟨b34, 0, none⟩) 2 2)) (w' := w35) z z (x_als (by kernel_rfl) ew36 eb37) ?_
 obtain ⟨css39, hq40, hst⟩ := hst.own_open
 obtain ⟨t41, ht42, hm⟩ := bind_some hm
 refine wc call10 [(.slice (some ⟨b34, 0, none⟩) 2 2)] z z z ?_
 refine (label_New_ref (hst.rdrow0 hq40) hst.to0 ht42).mono ?_
 rintro _ w43 ⟨I44, v46, rfl, hI45, hst⟩
 refine ⟨_, z, ?_⟩
 replace hst := hst.of1
 replace hI0 := hI0.trans hI45
 replace hst := hst.pull1.own_close (hq40.imp fun _ _ => Ty.mono _ (ro_le hI45))
 refine wv (.tuple #[v46, I6 t41.2]) z z z (wv (v46) z z z (wv (.int .i64 t41.2) z z z (wv (v46) z z z (wv (.int .i64 t41.2) z z z (wl_nil (tn (wp_seq (wrl (wv (.int .i64 t41.2) z z z (wv (.bool (t41.2 == (0:Int))) z z z (wv (.bool (t41.2 == (0:Int))) z z z ?_)))))))))))
 refine bsplit (t41.2 == (0:Int)) (fun hc48 => ?_) (fun hc48 => ?_)
 {
 replace hm := bif_t hc48 hm
 refine wv (v46) ((wanted_eq z z z (cvb hc48)).trans z) z z ?_
 replace hst := hst.pull1
 obtain ⟨t49, ht50, hm⟩ := bind_some hm
 refine wl_call ((wanted_eq z z z (cvb hc48)).trans z) z (x_call call13 z (vs := [v46, Zi, I6 (1:Int)]) z) ?_
 refine (label_Lattice_Join_ref hst.to1 ht50).mono ?_
 rintro _ w51 ⟨rfl, hst⟩
 refine ⟨_, z, ?_⟩
 replace hst := hst.of1
 refine wv (.bool (t49 == (1:Int))) ((wanted_eq z z z (cvb hc48)).trans z) z z (wv (.bool (t49 == (1:Int))) z z (x_pick_t hc48 z z) (wv (.bool (t49 == (1:Int))) z z z ?_))
 refine bsplit (t49 == (1:Int)) (fun hc54 => ?_) (fun hc54 => ?_)
 {
 replace hm := bif_t hc54 hm
 refine wv (v46) ((wanted_eq z z z (cvb hc54)).trans z) z z ?_
 obtain ⟨t55, ht56, hm⟩ := bind_some hm
 refine wl_call ((wanted_eq z z z (cvb hc54)).trans z) z (x_call call18 z (vs := [v46, I6 (1:Int)]) z) ?_
 refine (label_Lattice_Rank_ref hst.to1 ht56).mono ?_
 rintro _ w57 ⟨rfl, hst⟩
 refine ⟨_, z, ?_⟩
 replace hst := hst.of1
 refine wv (.bool (t55 == (1:Int))) ((wanted_eq z z z (cvb hc54)).trans z) z z (wv (.bool (t55 == (1:Int))) z z (x_pick_t hc54 z z) (wv (.bool (t55 == (1:Int))) z z z ?_))
 refine bsplit (t55 == (1:Int)) (fun hc60 => ?_) (fun hc60 => ?_)
 {
 replace hm := bif_t hc60 hm
 refine wv (v46) ((wanted_eq z z z (cvb hc60)).trans z) z z ?_
 obtain ⟨t61, ht62, hm⟩ := bind_some hm
 refine wl_call ((wanted_eq z z z (cvb hc60)).trans z) z (x_call call18 z (vs := [v46, Zi]) z) ?_
 refine (label_Lattice_Rank_ref hst.to1 ht62).mono ?_
 rintro _ w63 ⟨rfl, hst⟩
 refine ⟨_, z, ?_⟩
 replace hst := hst.of1
 refine wv (.bool (t61 == (0:Int))) ((wanted_eq z z z (cvb hc60)).trans z) z z (wv (.bool (t61 == (0:Int))) z z (x_pick_t hc60 z z) (wv (.bool (t61 == (0:Int))) z z z (wl_nil (tn (wp_ret ?_)))))
 obtain rfl := some_inj hm
 refine post_ret (vs := [.bool (t61 == (0:Int))]) results9 (rvs_cons (rv_tmp z) rvs_nil) ?_
 exact ⟨_, z, hI0, hst.keep0⟩
}
 {
 replace hm := bif_f hc60 hm
 refine wo hc60 z z z z z z (wo hc60 z z z z z z (wo hc60 z z z z z z (wv (.bool false) z z (x_pick_f hc60 z z) (wv (.bool false) z z z (wl_nil (tn (wp_ret ?_)))))))
 obtain rfl := some_inj hm
 refine post_ret (vs := [.bool false]) results9 (rvs_cons (rv_tmp z) rvs_nil) ?_
 exact ⟨_, z, hI0, hst.keep0⟩
}
}
 {
 replace hm := bif_f hc54 hm
 refine wo hc54 z z z z z z (wo hc54 z z z z z z (wo hc54 z z z z z z (wv (.bool false) z z (x_pick_f hc54 z z) (wv (.bool false) z z z (wz z z z z z z (wz z z z z z z (wz z z z z z z (wv (.bool false) z z (x_pick_f z z z) (wv (.bool false) z z z (wl_nil (tn (wp_ret ?_))))))))))))
 obtain rfl := some_inj hm
 refine post_ret (vs := [.bool false]) results9 (rvs_cons (rv_tmp z) rvs_nil) ?_
 exact ⟨_, z, hI0, hst.keep0⟩
}
}
 {
 replace hm := bif_f hc48 hm
 refine wo hc48 z z z z z z (wo hc48 z z z z z z (wo hc48 z z z z z z (wv (.bool false) z z (x_pick_f hc48 z z) (wv (.bool false) z z z (wz z z z z z z (wz z z z z z z (wz z z z z z z (wv (.bool false) z z (x_pick_f z z z) (wv (.bool false) z z z (wz z z z z z z (wz z z z z z z (wz z z z z z z ?_))))))))))))
 refine wv (.bool false) z z (x_pick_f z z z) (wv (.bool false) z z z (wl_nil (tn (wp_ret ?_))))
 obtain rfl := some_inj hm
 refine post_ret (vs := [.bool false]) results9 (rvs_cons (rv_tmp z) rvs_nil) ?_
 exact ⟨_, z, hI0, hst.keep0⟩
}
}

theorem ref03_Leq_ref {w0 w : World} {I : HL} {R : SP} {a0 : (List Int)} {r0_0 : Value} {a1 : Int} {a2 : Int} (f0_0 : Rd (tyInt .u64) R I r0_0 a0) (hst : St w0 w I [] R) {r : (Bool)} (hm : ref03_Leq a0 a1 a2 = some r) :
  Calls prog 32 #[r0_0, I6 a1, I6 a2] w fun e w' => e = .returned (.bool r) ∧ St w0 w' I [] R := by {
 unfold ref03_Leq at hm
 refine calls_start (args := [r0_0, I6 a1, I6 a2]) func32 z ntmps32 (Nat.le_of_ble_eq_true z) ?_
 refine wp_seq (wrl (wv (.bool false) z z z (wl_nil (tn (wp_seq (wrl (wv (.int .i64 a1) z z z (wv (.bool (decide (a1 ≥ (0:Int)))) z z z (wv (.bool (decide (a1 ≥ (0:Int)))) z z z ?_)))))))))
 refine bsplit (decide (a1 ≥ (0:Int))) (fun hc49 => ?_) (fun hc49 => ?_)
 {
 replace hm := bif_t hc49 hm
 refine wv (.int .i64 a2) ((wanted_eq z z z (cvb hc49)).trans z) z z (wv (.bool (decide (a2 ≥ (0:Int)))) ((wanted_eq z z z (cvb hc49)).trans z) z z (wv (.bool (decide (a2 ≥ (0:Int)))) z z (x_pick_t hc49 z z) (wv (.bool (decide (a2 ≥ (0:Int)))) z z z ?_)))
 refine bsplit (decide (a2 ≥ (0:Int))) (fun hc50 => ?_) (fun hc50 => ?_)
 {
 replace hm := bif_t hc50 hm
 refine wv (.int .i64 a1) ((wanted_eq z z z (cvb hc50)).trans z) z z (wv (r0_0) ((wanted_eq z z z (cvb hc50)).trans z) z z (wv (.int .i64 ((a0).length : Int)) ((wanted_eq z z z (cvb hc50)).trans z) z (x_len z underlying28 (rd_sliceV f0_0)) (wv (.bool (decide (a1 < ((a0).length : Int)))) ((wanted_eq z z z (cvb hc50)).trans z) z z (wv (.bool (decide (a1 < ((a0).length : Int)))) z z (x_pick_t hc50 z z) (wv (.bool (decide (a1 < ((a0).length : Int)))) z z z ?_)))))
 refine bsplit (decide (a1 < ((a0).length : Int))) (fun hc51 => ?_) (fun hc51 => ?_)
 {
 replace hm := bif_t hc51 hm
 refine wv (.int .i64 a2) ((wanted_eq z z z (cvb hc51)).trans z) z z (wv (r0_0) ((wanted_eq z z z (cvb hc51)).trans z) z z (wv (.int .i64 ((a0).length : Int)) ((wanted_eq z z z (cvb hc51)).trans z) z (x_len z underlying28 (rd_sliceV f0_0)) (wv (.bool (decide (a2 < ((a0).length : Int)))) ((wanted_eq z z z (cvb hc51)).trans z) z z (wv (.bool (decide (a2 < ((a0).length : Int)))) z z (x_pick_t hc51 z z) (wv (.bool (decide (a2 < ((a0).length : Int)))) z z z ?_)))))
 refine bsplit (decide (a2 < ((a0).length : Int))) (fun hc52 => ?_) (fun hc52 => ?_)
 {
 replace hm := bif_t hc52 hm
 refine wv (r0_0) ((wanted_eq z z z (cvb hc52)).trans z) z z (wv (.int .i64 a1) ((wanted_eq z z z (cvb hc52)).trans z) z z ?_)
 obtain ⟨x53, hx54, hm⟩ := bind_some hm
 obtain ⟨h55, h56, hi57⟩ := geto_some hx54
 refine wv (.pointer (some (eAddr r0_0 (a1.toNat * 1 + 0)))) ((wanted_eq z z z (cvb hc52)).trans z) z (x_index z z underlying28 sizeOf43 (rd_sliceV f0_0) h55 h56) (wv (.int .u64 x53) ((wanted_eq z z z (cvb hc52)).trans z) z (x_load z isAgg43 (rd_load f0_0 (HL.le.refl _) hst hi57 (by rintro _ rfl; rfl))) (wv (.int .i64 a2) ((wanted_eq z z z (cvb hc52)).trans z) z z ?_))
 obtain ⟨hg58, hm⟩ := gd_some hm
 refine wv (.int .u64 (iShr .u64 x53 a2)) ((wanted_eq z z z (cvb hc52)).trans z) z (x_shr (of_decide_eq_true hg58) z z) (wv (.int .u64 (bAnd .u64 (iShr .u64 x53 a2) (1:Int))) ((wanted_eq z z z (cvb hc52)).trans z) z z (wv (.bool ((bAnd .u64 (iShr .u64 x53 a2) (1:Int)) == (1:Int))) ((wanted_eq z z z (cvb hc52)).trans z) z z (wv (.bool ((bAnd .u64 (iShr .u64 x53 a2) (1:Int)) == (1:Int))) z z (x_pick_t hc52 z z) (wv (.bool ((bAnd .u64 (iShr .u64 x53 a2) (1:Int)) == (1:Int))) z z z (wl_nil (tn (wp_ret ?_)))))))
 obtain rfl := some_inj hm
 refine post_ret (vs := [.bool ((bAnd .u64 (iShr .u64 x53 a2) (1:Int)) == (1:Int))]) results32 (rvs_cons (rv_tmp z) rvs_nil) ?_
 exact ⟨z, hst.keep0⟩
}
 {
 replace hm := bif_f hc52 hm
 refine wo hc52 z z z z z z (wo hc52 z z z z z z (wo hc52 z z z z z z (wo hc52 z z z z z z (wo hc52 z z z z z z (wo hc52 z z z z z z (wo hc52 z z z z z z (wo hc52 z z z z z z (wv (.bool false) z z (x_pick_f hc52 z z) (wv (.bool false) z z z (wl_nil (tn (wp_ret ?_))))))))))))
 obtain rfl := some_inj hm
 refine post_ret (vs := [.bool false]) results32 (rvs_cons (rv_tmp z) rvs_nil) ?_
 exact ⟨z, hst.keep0⟩
}
}
 {
 replace hm := bif_f hc51 hm
 refine wo hc51 z z z z z z (wo hc51 z z z z z z (wo hc51 z z z z z z (wo hc51 z z z z z z (wv (.bool false) z z (x_pick_f hc51 z z) (wv (.bool false) z z z (wz z z z z z z (wz z z z z z z (wz z z z z z z (wz z z z z z z (wz z z z z z z (wz z z z z z z (wz z z z z z z ?_))))))))))))
 refine wz z z z z z z (wv (.bool false) z z (x_pick_f z z z) (wv (.bool false) z z z (wl_nil (tn (wp_ret ?_)))))
 obtain rfl := some_inj hm
 refine post_ret (vs := [.bool false]) results32 (rvs_cons (rv_tmp z) rvs_nil) ?_
 exact ⟨z, hst.keep0⟩
}
}
 {
 replace hm := bif_f hc50 hm
 refine wo hc50 z z z z z z (wo hc50 z z z z z z (wo hc50 z z z z z z (wo hc50 z z z z z z (wv (.bool false) z z (x_pick_f hc50 z z) (wv (.bool false) z z z (wz z z z z z z (wz z z z z z z (wz z z z z z z (wz z z z z z z (wv (.bool false) z z (x_pick_f z z z) (wv (.bool false) z z z (wz z z z z z z ?_))))))))))))
 refine wz z z z z z z (wz z z z z z z (wz z z z z z z (wz z z z z z z (wz z z z z z z (wz z z z z z z (wz z z z z z z (wv (.bool false) z z (x_pick_f z z z) (wv (.bool false) z z z (wl_nil (tn (wp_ret ?_)))))))))))
 obtain rfl := some_inj hm
 refine post_ret (vs := [.bool false]) results32 (rvs_cons (rv_tmp z) rvs_nil) ?_
 exact ⟨z, hst.keep0⟩
}
}
 {
 replace hm := bif_f hc49 hm
 refine wo hc49 z z z z z z (wo hc49 z z z z z z (wv (.bool false) z z (x_pick_f hc49 z z) (wv (.bool false) z z z (wz z z z z z z (wz z z z z z z (wz z z z z z z (wz z z z z z z (wv (.bool false) z z (x_pick_f z z z) (wv (.bool false) z z z (wz z z z z z z (wz z z z z z z (wz z z z z z z ?_))))))))))))
 refine wz z z z z z z (wv (.bool false) z z (x_pick_f z z z) (wv (.bool false) z z z (wz z z z z z z (wz z z z z z z (wz z z z z z z (wz z z z z z z (wz z z z z z z (wz z z z z z z (wz z z z z z z (wz z z z z z z (wv (.bool false) z z (x_pick_f z z z) (wv (.bool false) z z z ?_))))))))))))
 refine wl_nil (tn (wp_ret ?_))
 obtain rfl := some_inj hm
 refine post_ret (vs := [.bool false]) results32 (rvs_cons (rv_tmp z) rvs_nil) ?_
 exact ⟨z, hst.keep0⟩
}
}

theorem ref03_Join_ref {w0 w : World} {I : HL} {R : SP} {a0 : (List Int)} {r0_0 : Value} {a1 : Int} {a2 : Int} (f0_0 : Rd (tyInt .u64) R I r0_0 a0) (hst : St w0 w I [] R) {r : (Int)} (hm : ref03_Join a0 a1 a2 = some r) :
  Calls prog 33 #[r0_0, I6 a1, I6 a2] w fun e w' => e = .returned (.int .i64 r) ∧ St w0 w' I [] R := by {
 unfold ref03_Join at hm
 refine calls_start (args := [r0_0, I6 a1, I6 a2]) func33 z ntmps33 (Nat.le_of_ble_eq_true z) ?_
 refine wp_seq (wrl (wv (.int .i64 (0:Int)) z z z (wl_nil (tn (wp_seq (wp_seq (wrl (wv (.int .i64 (0:Int)) z z z (wl_nil (tn (wp_block ?_)))))))))))
 obtain ⟨n1353, hm⟩ := loopO_some hm
 refine wp_loop_n (fun n a w => ∃ (z1351 : Int) (σ1352 : Nat → Value), loopN (ref03_Join_l0 a0 a1 a2) n z1351 = some r ∧ a = Fr 54 (upd (upd (upd (upd σ1352 0 (r0_0)) 1 (.int .i64 a1)) 2 (.int .i64 a2)) 7 (.int .i64 z1351)) ∧ St w0 w I [] R) n1353 ⟨(0:Int), _, hm, (fu 0 r0_0 z (fu 1 (.int .i64 a1) z (fu 2 (.int .i64 a2) z (fu 7 (.int .i64 (0:Int)) z z)))), hst⟩ ?_
 rintro n1359 _ w1354 ⟨z1351, σ1352, hm, rfl, hst⟩
 obtain ⟨n1356, y1357, rfl, hm, hx1358⟩ := loopN_some hm
 dsimp only [ref03_Join_l0] at hm
 refine wp_seq (wp_seq (wrl (wv (.int .i64 z1351) z z z (wv (r0_0) z z z (wv (.int .i64 ((a0).length : Int)) z z (x_len z underlying28 (rd_sliceV f0_0)) (wv (.bool (decide (z1351 < ((a0).length : Int)))) z z z (wl_nil (tn ?_))))))))
 refine bsplit (decide (z1351 < ((a0).length : Int))) (fun hc1360 => ?_) (fun hc1360 => ?_)
 {
 replace hm := bif_t hc1360 hm
 refine wp_ift (cvb hc1360) ?_
 refine wp_skip (tn (wp_seq (wp_block ?_)))
 obtain ⟨y1375, hm, hx1376⟩ := bind_some hm
 refine wp_cut (fun a w => ∃ (z1372 : Bool) (σ1373 : Nat → Value), (ref03_Join_j1 a0 a1 a2 z1351) z1372 = some y1357 ∧ a = Fr 54 (upd (upd (upd (upd (upd σ1373 0 (r0_0)) 1 (.int .i64 a1)) 2 (.int .i64 a2)) 7 (.int .i64 z1351)) 8 (.bool z1372)) ∧ St w0 w I [] R) ?_ ?_
 {
 refine wrl (wv (r0_0) z z z (wv (.int .i64 a1) z z z (wv (.int .i64 z1351) z z z ?_)))
 obtain ⟨t1361, ht1362, hm⟩ := bind_some hm
 refine wc call32 [r0_0, I6 a1, I6 z1351] z z z ?_
 refine (ref03_Leq_ref (f0_0.mono (rd_weak _)) hst.to0 ht1362).mono ?_
 rintro _ w1363 ⟨rfl, hst⟩
 refine ⟨_, z, ?_⟩
 replace hst := hst.of0
 refine wv (.bool t1361) z z z ?_
 refine bsplit t1361 (fun hc1366 => ?_) (fun hc1366 => ?_)
 {
 replace hm := bif_t hc1366 hm
 refine wv (r0_0) ((wanted_eq z z z (cvb hc1366)).trans z) z z (wv (.int .i64 a2) ((wanted_eq z z z (cvb hc1366)).trans z) z z (wv (.int .i64 z1351) ((wanted_eq z z z (cvb hc1366)).trans z) z z ?_))
 obtain ⟨t1367, ht1368, hm⟩ := bind_some hm
 refine wl_call ((wanted_eq z z z (cvb hc1366)).trans z) z (x_call call32 z (vs := [r0_0, I6 a2, I6 z1351]) z) ?_
 refine (ref03_Leq_ref (f0_0.mono (rd_weak _)) hst.to0 ht1368).mono ?_
 rintro _ w1369 ⟨rfl, hst⟩
 refine ⟨_, z, ?_⟩
 replace hst := hst.of0
 refine wv (.bool t1367) z z (x_pick_t hc1366 z z) (wv (.bool t1367) z z z (wl_nil (tn ?_)))
 replace hst := hst.keep0
 obtain rfl := some_inj hm
 exact ⟨t1367, _, hx1376, (fu 0 r0_0 z (fu 1 (.int .i64 a1) z (fu 2 (.int .i64 a2) z (fu 7 (.int .i64 z1351) z (fu 8 (.bool t1367) z z))))), hst⟩
}
 {
 replace hm := bif_f hc1366 hm
 refine wo hc1366 z z z z z z (wo hc1366 z z z z z z (wo hc1366 z z z z z z (wo hc1366 z z z z z z (wv (.bool false) z z (x_pick_f hc1366 z z) (wv (.bool false) z z z (wl_nil (tn ?_)))))))
 replace hst := hst.keep0
 obtain rfl := some_inj hm
 exact ⟨false, _, hx1376, (fu 0 r0_0 z (fu 1 (.int .i64 a1) z (fu 2 (.int .i64 a2) z (fu 7 (.int .i64 z1351) z (fu 8 (.bool false) z z))))), hst⟩
}
}
 {
 clear hst
 rintro _ w1377 ⟨z1372, σ1373, hm, rfl, hst⟩
 dsimp only [ref03_Join_j1] at hm
 refine wp_seq (wp_seq (wrl (wv (.int .i64 (0:Int)) z z z (wl_nil (tn (wp_block ?_))))))
 obtain ⟨n1423, hm⟩ := loopO_some hm
 refine wp_loop_n (fun n a w => ∃ (z1420 : Bool) (z1421 : Int) (σ1422 : Nat → Value), loopN (ref03_Join_l2 a0 a1 a2 z1351) n (z1420, z1421) = some y1357 ∧ a = Fr 54 (upd (upd (upd (upd (upd (upd σ1422 0 (r0_0)) 1 (.int .i64 a1)) 2 (.int .i64 a2)) 7 (.int .i64 z1351)) 8 (.bool z1420)) 9 (.int .i64 z1421)) ∧ St w0 w I [] R) n1423 ⟨z1372, (0:Int), _, hm, (fu 0 r0_0 z (fu 1 (.int .i64 a1) z (fu 2 (.int .i64 a2) z (fu 7 (.int .i64 z1351) z (fu 8 (.bool z1372) z (fu 9 (.int .i64 (0:Int)) z z)))))), hst⟩ ?_
 rintro n1429 _ w1424 ⟨z1420, z1421, σ1422, hm, rfl, hst⟩
 obtain ⟨n1426, y1427, rfl, hm, hx1428⟩ := loopN_some hm
 dsimp only [ref03_Join_l2] at hm
 refine wp_seq (wp_seq (wrl (wv (.int .i64 z1421) z z z (wv (r0_0) z z z (wv (.int .i64 ((a0).length : Int)) z z (x_len z underlying28 (rd_sliceV f0_0)) (wv (.bool (decide (z1421 < ((a0).length : Int)))) z z z (wv (.bool (decide (z1421 < ((a0).length : Int)))) z z z ?_)))))))
 refine bsplit (decide (z1421 < ((a0).length : Int))) (fun hc1430 => ?_) (fun hc1430 => ?_)
 {
 replace hm := bif_t hc1430 hm
 refine wv (.bool z1420) ((wanted_eq z z z (cvb hc1430)).trans z) z z (wv (.bool z1420) z z (x_pick_t hc1430 z z) (wl_nil (tn ?_)))
 refine bsplit z1420 (fun hc1431 => ?_) (fun hc1431 => ?_)
 {
 replace hm := bif_t hc1431 hm
 refine wp_ift (cvb hc1431) ?_
 refine wp_skip (tn (wp_seq (wp_block (wp_seq (wrl ?_)))))
 refine wv (r0_0) z z z (wv (.int .i64 a1) z z z (wv (.int .i64 z1421) z z z ?_))
 obtain ⟨t1432, ht1433, hm⟩ := bind_some hm
 refine wc call32 [r0_0, I6 a1, I6 z1421] z z z ?_
 refine (ref03_Leq_ref (f0_0.mono (rd_weak _)) hst.to0 ht1433).mono ?_
 rintro _ w1434 ⟨rfl, hst⟩
 refine ⟨_, z, ?_⟩
 replace hst := hst.of0
 refine wv (.bool t1432) z z z ?_
 refine bsplit t1432 (fun hc1437 => ?_) (fun hc1437 => ?_)
 {
 replace hm := bif_t hc1437 hm
 refine wv (r0_0) ((wanted_eq z z z (cvb hc1437)).trans z) z z (wv (.int .i64 a2) ((wanted_eq z z z (cvb hc1437)).trans z) z z (wv (.int .i64 z1421) ((wanted_eq z z z (cvb hc1437)).trans z) z z ?_))
 obtain ⟨t1438, ht1439, hm⟩ := bind_some hm
 refine wl_call ((wanted_eq z z z (cvb hc1437)).trans z) z (x_call call32 z (vs := [r0_0, I6 a2, I6 z1421]) z) ?_
 refine (ref03_Leq_ref (f0_0.mono (rd_weak _)) hst.to0 ht1439).mono ?_
 rintro _ w1440 ⟨rfl, hst⟩
 refine ⟨_, z, ?_⟩
 replace hst := hst.of0
 refine wv (.bool t1438) z z (x_pick_t hc1437 z z) (wv (.bool t1438) z z z ?_)
 refine bsplit t1438 (fun hc1443 => ?_) (fun hc1443 => ?_)
 {
 replace hm := bif_t hc1443 hm
 refine wv (r0_0) ((wanted_eq z z z (cvb hc1443)).trans z) z z (wv (.int .i64 z1351) ((wanted_eq z z z (cvb hc1443)).trans z) z z (wv (.int .i64 z1421) ((wanted_eq z z z (cvb hc1443)).trans z) z z ?_))
 obtain ⟨t1444, ht1445, hm⟩ := bind_some hm
 refine wl_call ((wanted_eq z z z (cvb hc1443)).trans z) z (x_call call32 z (vs := [r0_0, I6 z1351, I6 z1421]) z) ?_
 refine (ref03_Leq_ref (f0_0.mono (rd_weak _)) hst.to0 ht1445).mono ?_
 rintro _ w1446 ⟨rfl, hst⟩
 refine ⟨_, z, ?_⟩
 replace hst := hst.of0
 refine wv (.bool (!t1444)) ((wanted_eq z z z (cvb hc1443)).trans z) z z (wv (.bool (!t1444)) z z (x_pick_t hc1443 z z) (wl_nil (tn ?_)))
 refine bsplit (!t1444) (fun hc1449 => ?_) (fun hc1449 => ?_)
 {
 replace hm := bif_t hc1449 hm
 refine wp_ift (cvb hc1449) ?_
 refine wrl (wv (.bool false) z z z (wl_nil (blk_n (tn (wrl (wv (.int .i64 z1421) z z z (wv (.int .i64 (i64.wrap (z1421 + (1:Int)))) z z z (wv (.int .i64 (i64.wrap (z1421 + (1:Int)))) z z z (wl_nil (tn ?_))))))))))
 replace hst := hst.keep0
 obtain rfl := some_inj hm
 exact ⟨_, Nat.lt_succ_self _, false, (i64.wrap (z1421 + (1:Int))), _, hx1428, (fu 0 r0_0 z (fu 1 (.int .i64 a1) z (fu 2 (.int .i64 a2) z (fu 7 (.int .i64 z1351) z (fu 8 (.bool false) z (fu 9 (.int .i64 (i64.wrap (z1421 + (1:Int)))) z z)))))), hst⟩
}
 {
 replace hm := bif_f hc1449 hm
 refine wp_iff (cvb hc1449) ?_
 refine wp_skip (blk_n (tn (wrl ?_)))
 refine wv (.int .i64 z1421) z z z (wv (.int .i64 (i64.wrap (z1421 + (1:Int)))) z z z (wv (.int .i64 (i64.wrap (z1421 + (1:Int)))) z z z (wl_nil (tn ?_))))
 replace hst := hst.keep0
 obtain rfl := some_inj hm
 exact ⟨_, Nat.lt_succ_self _, z1420, (i64.wrap (z1421 + (1:Int))), _, hx1428, (fu 0 r0_0 z (fu 1 (.int .i64 a1) z (fu 2 (.int .i64 a2) z (fu 7 (.int .i64 z1351) z (fu 8 (.bool z1420) z (fu 9 (.int .i64 (i64.wrap (z1421 + (1:Int)))) z z)))))), hst⟩
}
}
 {
 replace hm := bif_f hc1443 hm
 refine wo hc1443 z z z z z z (wo hc1443 z z z z z z (wo hc1443 z z z z z z (wo hc1443 z z z z z z (wo hc1443 z z z z z z (wv (.bool false) z z (x_pick_f hc1443 z z) (wl_nil (tn ?_)))))))
 refine wp_iff z ?_
 refine wp_skip (blk_n (tn (wrl ?_)))
 refine wv (.int .i64 z1421) z z z (wv (.int .i64 (i64.wrap (z1421 + (1:Int)))) z z z (wv (.int .i64 (i64.wrap (z1421 + (1:Int)))) z z z (wl_nil (tn ?_))))
 replace hst := hst.keep0
 obtain rfl := some_inj hm
 exact ⟨_, Nat.lt_succ_self _, z1420, (i64.wrap (z1421 + (1:Int))), _, hx1428, (fu 0 r0_0 z (fu 1 (.int .i64 a1) z (fu 2 (.int .i64 a2) z (fu 7 (.int .i64 z1351) z (fu 8 (.bool z1420) z (fu 9 (.int .i64 (i64.wrap (z1421 + (1:Int)))) z z)))))), hst⟩
}
}
 {
 replace hm := bif_f hc1437 hm
 refine wo hc1437 z z z z z z (wo hc1437 z z z z z z (wo hc1437 z z z z z z (wo hc1437 z z z z z z (wv (.bool false) z z (x_pick_f hc1437 z z) (wv (.bool false) z z z (wz z z z z z z (wz z z z z z z (wz z z z z z z (wz z z z z z z (wz z z z z z z (wv (.bool false) z z (x_pick_f z z z) (wl_nil (tn ?_)))))))))))))
 refine wp_iff z ?_
 refine wp_skip (blk_n (tn (wrl ?_)))
 refine wv (.int .i64 z1421) z z z (wv (.int .i64 (i64.wrap (z1421 + (1:Int)))) z z z (wv (.int .i64 (i64.wrap (z1421 + (1:Int)))) z z z (wl_nil (tn ?_))))
 replace hst := hst.keep0
 obtain rfl := some_inj hm
 exact ⟨_, Nat.lt_succ_self _, z1420, (i64.wrap (z1421 + (1:Int))), _, hx1428, (fu 0 r0_0 z (fu 1 (.int .i64 a1) z (fu 2 (.int .i64 a2) z (fu 7 (.int .i64 z1351) z (fu 8 (.bool z1420) z (fu 9 (.int .i64 (i64.wrap (z1421 + (1:Int)))) z z)))))), hst⟩
}
}
 {
 replace hm := bif_f hc1431 hm
 refine wp_iff (cvb hc1431) ?_
 refine wp_exit (then_x (then_x ?_))
 replace hm := inr_up hm hx1428
 refine blk_x (tn (wp_seq (wrl ?_)))
 refine wv (.bool z1420) z z z (wl_nil (tn ?_))
 refine wp_iff (cvb hc1431) ?_
 refine wp_skip (blk_n (tn (wrl ?_)))
 refine wv (.int .i64 z1351) z z z (wv (.int .i64 (i64.wrap (z1351 + (1:Int)))) z z z (wv (.int .i64 (i64.wrap (z1351 + (1:Int)))) z z z (wl_nil (tn ?_))))
 replace hst := hst.keep0
 obtain rfl := some_inj hm
 exact ⟨_, Nat.lt_succ_self _, (i64.wrap (z1351 + (1:Int))), _, hx1358, (fu 0 r0_0 z (fu 1 (.int .i64 a1) z (fu 2 (.int .i64 a2) z (fu 7 (.int .i64 (i64.wrap (z1351 + (1:Int)))) z z)))), hst⟩
}
}
 {
 replace hm := bif_f hc1430 hm
 refine wo hc1430 z z z z z z (wv (.bool false) z z (x_pick_f hc1430 z z) (wl_nil (tn ?_)))
 refine wp_iff z ?_
 refine wp_exit (then_x (then_x ?_))
 replace hm := inr_up hm hx1428
 refine blk_x (tn (wp_seq (wrl ?_)))
 refine wv (.bool z1420) z z z (wl_nil (tn ?_))
 refine bsplit z1420 (fun hc1450 => ?_) (fun hc1450 => ?_)
 {
 replace hm := bif_t hc1450 hm
 refine wp_ift (cvb hc1450) ?_
 refine wp_seq (wrl (wv (.int .i64 z1351) z z z (wv (.int .i64 z1351) z z z (wl_nil (tn (wp_ret (blk_r (then_r (then_r ?_)))))))))
 replace hm := inr_up hm hx1358
 refine blk_r (then_r ?_)
 obtain rfl := some_inj hm
 refine post_ret (vs := [I6 z1351]) results33 (rvs_cons (rv_tmp z) rvs_nil) ?_
 exact ⟨z, hst.keep0⟩
}
 {
 replace hm := bif_f hc1450 hm
 refine wp_iff (cvb hc1450) ?_
 refine wp_skip (blk_n (tn (wrl ?_)))
 refine wv (.int .i64 z1351) z z z (wv (.int .i64 (i64.wrap (z1351 + (1:Int)))) z z z (wv (.int .i64 (i64.wrap (z1351 + (1:Int)))) z z z (wl_nil (tn ?_))))
 replace hst := hst.keep0
 obtain rfl := some_inj hm
 exact ⟨_, Nat.lt_succ_self _, (i64.wrap (z1351 + (1:Int))), _, hx1358, (fu 0 r0_0 z (fu 1 (.int .i64 a1) z (fu 2 (.int .i64 a2) z (fu 7 (.int .i64 (i64.wrap (z1351 + (1:Int)))) z z)))), hst⟩
}
}
}
}
 {
 replace hm := bif_f hc1360 hm
 refine wp_iff (cvb hc1360) ?_
 refine wp_exit (then_x (then_x ?_))
 replace hm := inr_up hm hx1358
 refine blk_x (tn (wp_seq (wrl ?_)))
 refine wv (.int .i64 ((-1):Int)) z z z (wl_nil (tn (wp_ret ?_)))
 obtain rfl := some_inj hm
 refine post_ret (vs := [I6 ((-1):Int)]) results33 (rvs_cons (rv_tmp z) rvs_nil) ?_
 exact ⟨z, hst.keep0⟩
}
}

theorem ref03_Meet_ref {w0 w : World} {I : HL} {R : SP} {a0 : (List Int)} {r0_0 : Value} {a1 : Int} {a2 : Int} (f0_0 : Rd (tyInt .u64) R I r0_0 a0) (hst : St w0 w I [] R) {r : (Int)} (hm : ref03_Meet a0 a1 a2 = some r) :
  Calls prog 34 #[r0_0, I6 a1, I6 a2] w fun e w' => e = .returned (.int .i64 r) ∧ St w0 w' I [] R := by {
 unfold ref03_Meet at hm
 refine calls_start (args := [r0_0, I6 a1, I6 a2]) func34 z ntmps34 (Nat.le_of_ble_eq_true z) ?_
 refine wp_seq (wrl (wv (.int .i64 (0:Int)) z z z (wl_nil (tn (wp_seq (wp_seq (wrl (wv (.int .i64 (0:Int)) z z z (wl_nil (tn (wp_block ?_)))))))))))
 obtain ⟨n1359, hm⟩ := loopO_some hm
 refine wp_loop_n (fun n a w => ∃ (z1357 : Int) (σ1358 : Nat → Value), loopN (ref03_Meet_l0 a0 a1 a2) n z1357 = some r ∧ a = Fr 54 (upd (upd (upd (upd σ1358 0 (r0_0)) 1 (.int .i64 a1)) 2 (.int .i64 a2)) 7 (.int .i64 z1357)) ∧ St w0 w I [] R) n1359 ⟨(0:Int), _, hm, (fu 0 r0_0 z (fu 1 (.int .i64 a1) z (fu 2 (.int .i64 a2) z (fu 7 (.int .i64 (0:Int)) z z)))), hst⟩ ?_
 rintro n1365 _ w1360 ⟨z1357, σ1358, hm, rfl, hst⟩
 obtain ⟨n1362, y1363, rfl, hm, hx1364⟩ := loopN_some hm
 dsimp only [ref03_Meet_l0] at hm
 refine wp_seq (wp_seq (wrl (wv (.int .i64 z1357) z z z (wv (r0_0) z z z (wv (.int .i64 ((a0).length : Int)) z z (x_len z underlying28 (rd_sliceV f0_0)) (wv (.bool (decide (z1357 < ((a0).length : Int)))) z z z (wl_nil (tn ?_))))))))
 refine bsplit (decide (z1357 < ((a0).length : Int))) (fun hc1366 => ?_) (fun hc1366 => ?_)
 {
 replace hm := bif_t hc1366 hm
 refine wp_ift (cvb hc1366) ?_
 refine wp_skip (tn (wp_seq (wp_block ?_)))
 obtain ⟨y1381, hm, hx1382⟩ := bind_some hm
 refine wp_cut (fun a w => ∃ (z1378 : Bool) (σ1379 : Nat → Value), (ref03_Meet_j1 a0 a1 a2 z1357) z1378 = some y1363 ∧ a = Fr 54 (upd (upd (upd (upd (upd σ1379 0 (r0_0)) 1 (.int .i64 a1)) 2 (.int .i64 a2)) 7 (.int .i64 z1357)) 8 (.bool z1378)) ∧ St w0 w I [] R) ?_ ?_
 {
 refine wrl (wv (r0_0) z z z (wv (.int .i64 z1357) z z z (wv (.int .i64 a1) z z z ?_)))
 obtain ⟨t1367, ht1368, hm⟩ := bind_some hm
 refine wc call32 [r0_0, I6 z1357, I6 a1] z z z ?_
 refine (ref03_Leq_ref (f0_0.mono (rd_weak _)) hst.to0 ht1368).mono ?_
 rintro _ w1369 ⟨rfl, hst⟩
 refine ⟨_, z, ?_⟩
 replace hst := hst.of0
 refine wv (.bool t1367) z z z ?_
 refine bsplit t1367 (fun hc1372 => ?_) (fun hc1372 => ?_)
 {
 replace hm := bif_t hc1372 hm
 refine wv (r0_0) ((wanted_eq z z z (cvb hc1372)).trans z) z z (wv (.int .i64 z1357) ((wanted_eq z z z (cvb hc1372)).trans z) z z (wv (.int .i64 a2) ((wanted_eq z z z (cvb hc1372)).trans z) z z ?_))
 obtain ⟨t1373, ht1374, hm⟩ := bind_some hm
 refine wl_call ((wanted_eq z z z (cvb hc1372)).trans z) z (x_call call32 z (vs := [r0_0, I6 z1357, I6 a2]) z) ?_
 refine (ref03_Leq_ref (f0_0.mono (rd_weak _)) hst.to0 ht1374).mono ?_
 rintro _ w1375 ⟨rfl, hst⟩
 refine ⟨_, z, ?_⟩
 replace hst := hst.of0
 refine wv (.bool t1373) z z (x_pick_t hc1372 z z) (wv (.bool t1373) z z z (wl_nil (tn ?_)))
 replace hst := hst.keep0
 obtain rfl := some_inj hm
 exact ⟨t1373, _, hx1382, (fu 0 r0_0 z (fu 1 (.int .i64 a1) z (fu 2 (.int .i64 a2) z (fu 7 (.int .i64 z1357) z (fu 8 (.bool t1373) z z))))), hst⟩
}
 {
 replace hm := bif_f hc1372 hm
 refine wo hc1372 z z z z z z (wo hc1372 z z z z z z (wo hc1372 z z z z z z (wo hc1372 z z z z z z (wv (.bool false) z z (x_pick_f hc1372 z z) (wv (.bool false) z z z (wl_nil (tn ?_)))))))
 replace hst := hst.keep0
 obtain rfl := some_inj hm
 exact ⟨false, _, hx1382, (fu 0 r0_0 z (fu 1 (.int .i64 a1) z (fu 2 (.int .i64 a2) z (fu 7 (.int .i64 z1357) z (fu 8 (.bool false) z z))))), hst⟩
}
}
 {
 clear hst
 rintro _ w1383 ⟨z1378, σ1379, hm, rfl, hst⟩
 dsimp only [ref03_Meet_j1] at hm
 refine wp_seq (wp_seq (wrl (wv (.int .i64 (0:Int)) z z z (wl_nil (tn (wp_block ?_))))))
 obtain ⟨n1429, hm⟩ := loopO_some hm
 refine wp_loop_n (fun n a w => ∃ (z1426 : Bool) (z1427 : Int) (σ1428 : Nat → Value), loopN (ref03_Meet_l2 a0 a1 a2 z1357) n (z1426, z1427) = some y1363 ∧ a = Fr 54 (upd (upd (upd (upd (upd (upd σ1428 0 (r0_0)) 1 (.int .i64 a1)) 2 (.int .i64 a2)) 7 (.int .i64 z1357)) 8 (.bool z1426)) 9 (.int .i64 z1427)) ∧ St w0 w I [] R) n1429 ⟨z1378, (0:Int), _, hm, (fu 0 r0_0 z (fu 1 (.int .i64 a1) z (fu 2 (.int .i64 a2) z (fu 7 (.int .i64 z1357) z (fu 8 (.bool z1378) z (fu 9 (.int .i64 (0:Int)) z z)))))), hst⟩ ?_
 rintro n1435 _ w1430 ⟨z1426, z1427, σ1428, hm, rfl, hst⟩
 obtain ⟨n1432, y1433, rfl, hm, hx1434⟩ := loopN_some hm
 dsimp only [ref03_Meet_l2] at hm
 refine wp_seq (wp_seq (wrl (wv (.int .i64 z1427) z z z (wv (r0_0) z z z (wv (.int .i64 ((a0).length : Int)) z z (x_len z underlying28 (rd_sliceV f0_0)) (wv (.bool (decide (z1427 < ((a0).length : Int)))) z z z (wv (.bool (decide (z1427 < ((a0).length : Int)))) z z z ?_)))))))
 refine bsplit (decide (z1427 < ((a0).length : Int))) (fun hc1436 => ?_) (fun hc1436 => ?_)
 {
 replace hm := bif_t hc1436 hm
 refine wv (.bool z1426) ((wanted_eq z z z (cvb hc1436)).trans z) z z (wv (.bool z1426) z z (x_pick_t hc1436 z z) (wl_nil (tn ?_)))
 refine bsplit z1426 (fun hc1437 => ?_) (fun hc1437 => ?_)
 {
 replace hm := bif_t hc1437 hm
 refine wp_ift (cvb hc1437) ?_
 refine wp_skip (tn (wp_seq (wp_block (wp_seq (wrl ?_)))))
 refine wv (r0_0) z z z (wv (.int .i64 z1427) z z z (wv (.int .i64 a1) z z z ?_))
 obtain ⟨t1438, ht1439, hm⟩ := bind_some hm
 refine wc call32 [r0_0, I6 z1427, I6 a1] z z z ?_
 refine (ref03_Leq_ref (f0_0.mono (rd_weak _)) hst.to0 ht1439).mono ?_
 rintro _ w1440 ⟨rfl, hst⟩
 refine ⟨_, z, ?_⟩
 replace hst := hst.of0
 refine wv (.bool t1438) z z z ?_
 refine bsplit t1438 (fun hc1443 => ?_) (fun hc1443 => ?_)
 {
 replace hm := bif_t hc1443 hm
 refine wv (r0_0) ((wanted_eq z z z (cvb hc1443)).trans z) z z (wv (.int .i64 z1427) ((wanted_eq z z z (cvb hc1443)).trans z) z z (wv (.int .i64 a2) ((wanted_eq z z z (cvb hc1443)).trans z) z z ?_))
 obtain ⟨t1444, ht1445, hm⟩ := bind_some hm
 refine wl_call ((wanted_eq z z z (cvb hc1443)).trans z) z (x_call call32 z (vs := [r0_0, I6 z1427, I6 a2]) z) ?_
 refine (ref03_Leq_ref (f0_0.mono (rd_weak _)) hst.to0 ht1445).mono ?_
 rintro _ w1446 ⟨rfl, hst⟩
 refine ⟨_, z, ?_⟩
 replace hst := hst.of0
 refine wv (.bool t1444) z z (x_pick_t hc1443 z z) (wv (.bool t1444) z z z ?_)
 refine bsplit t1444 (fun hc1449 => ?_) (fun hc1449 => ?_)
 {
 replace hm := bif_t hc1449 hm
 refine wv (r0_0) ((wanted_eq z z z (cvb hc1449)).trans z) z z (wv (.int .i64 z1427) ((wanted_eq z z z (cvb hc1449)).trans z) z z (wv (.int .i64 z1357) ((wanted_eq z z z (cvb hc1449)).trans z) z z ?_))
 obtain ⟨t1450, ht1451, hm⟩ := bind_some hm
 refine wl_call ((wanted_eq z z z (cvb hc1449)).trans z) z (x_call call32 z (vs := [r0_0, I6 z1427, I6 z1357]) z) ?_
 refine (ref03_Leq_ref (f0_0.mono (rd_weak _)) hst.to0 ht1451).mono ?_
 rintro _ w1452 ⟨rfl, hst⟩
 refine ⟨_, z, ?_⟩
 replace hst := hst.of0
 refine wv (.bool (!t1450)) ((wanted_eq z z z (cvb hc1449)).trans z) z z (wv (.bool (!t1450)) z z (x_pick_t hc1449 z z) (wl_nil (tn ?_)))
 refine bsplit (!t1450) (fun hc1455 => ?_) (fun hc1455 => ?_)
 {
 replace hm := bif_t hc1455 hm
 refine wp_ift (cvb hc1455) ?_
 refine wrl (wv (.bool false) z z z (wl_nil (blk_n (tn (wrl (wv (.int .i64 z1427) z z z (wv (.int .i64 (i64.wrap (z1427 + (1:Int)))) z z z (wv (.int .i64 (i64.wrap (z1427 + (1:Int)))) z z z (wl_nil (tn ?_))))))))))
 replace hst := hst.keep0
 obtain rfl := some_inj hm
 exact ⟨_, Nat.lt_succ_self _, false, (i64.wrap (z1427 + (1:Int))), _, hx1434, (fu 0 r0_0 z (fu 1 (.int .i64 a1) z (fu 2 (.int .i64 a2) z (fu 7 (.int .i64 z1357) z (fu 8 (.bool false) z (fu 9 (.int .i64 (i64.wrap (z1427 + (1:Int)))) z z)))))), hst⟩
}
 {
 replace hm := bif_f hc1455 hm
 refine wp_iff (cvb hc1455) ?_
 refine wp_skip (blk_n (tn (wrl ?_)))
 refine wv (.int .i64 z1427) z z z (wv (.int .i64 (i64.wrap (z1427 + (1:Int)))) z z z (wv (.int .i64 (i64.wrap (z1427 + (1:Int)))) z z z (wl_nil (tn ?_))))
 replace hst := hst.keep0
 obtain rfl := some_inj hm
 exact ⟨_, Nat.lt_succ_self _, z1426, (i64.wrap (z1427 + (1:Int))), _, hx1434, (fu 0 r0_0 z (fu 1 (.int .i64 a1) z (fu 2 (.int .i64 a2) z (fu 7 (.int .i64 z1357) z (fu 8 (.bool z1426) z (fu 9 (.int .i64 (i64.wrap (z1427 + (1:Int)))) z z)))))), hst⟩
}
}
 {
 replace hm := bif_f hc1449 hm
 refine wo hc1449 z z z z z z (wo hc1449 z z z z z z (wo hc1449 z z z z z z (wo hc1449 z z z z z z (wo hc1449 z z z z z z (wv (.bool false) z z (x_pick_f hc1449 z z) (wl_nil (tn ?_)))))))
 refine wp_iff z ?_
 refine wp_skip (blk_n (tn (wrl ?_)))
 refine wv (.int .i64 z1427) z z z (wv (.int .i64 (i64.wrap (z1427 + (1:Int)))) z z z (wv (.int .i64 (i64.wrap (z1427 + (1:Int)))) z z z (wl_nil (tn ?_))))
 replace hst := hst.keep0
 obtain rfl := some_inj hm
 exact ⟨_, Nat.lt_succ_self _, z1426, (i64.wrap (z1427 + (1:Int))), _, hx1434, (fu 0 r0_0 z (fu 1 (.int .i64 a1) z (fu 2 (.int .i64 a2) z (fu 7 (.int .i64 z1357) z (fu 8 (.bool z1426) z (fu 9 (.int .i64 (i64.wrap (z1427 + (1:Int)))) z z)))))), hst⟩
}
}
 {
 replace hm := bif_f hc1443 hm
 refine wo hc1443 z z z z z z (wo hc1443 z z z z z z (wo hc1443 z z z z z z (wo hc1443 z z z z z z (wv (.bool false) z z (x_pick_f hc1443 z z) (wv (.bool false) z z z (wz z z z z z z (wz z z z z z z (wz z z z z z z (wz z z z z z z (wz z z z z z z (wv (.bool false) z z (x_pick_f z z z) (wl_nil (tn ?_)))))))))))))
 refine wp_iff z ?_
 refine wp_skip (blk_n (tn (wrl ?_)))
 refine wv (.int .i64 z1427) z z z (wv (.int .i64 (i64.wrap (z1427 + (1:Int)))) z z z (wv (.int .i64 (i64.wrap (z1427 + (1:Int)))) z z z (wl_nil (tn ?_))))
 replace hst := hst.keep0
 obtain rfl := some_inj hm
 exact ⟨_, Nat.lt_succ_self _, z1426, (i64.wrap (z1427 + (1:Int))), _, hx1434, (fu 0 r0_0 z (fu 1 (.int .i64 a1) z (fu 2 (.int .i64 a2) z (fu 7 (.int .i64 z1357) z (fu 8 (.bool z1426) z (fu 9 (.int .i64 (i64.wrap (z1427 + (1:Int)))) z z)))))), hst⟩
}
}
 {
 replace hm := bif_f hc1437 hm
 refine wp_iff (cvb hc1437) ?_
 refine wp_exit (then_x (then_x ?_))
 replace hm := inr_up hm hx1434
 refine blk_x (tn (wp_seq (wrl ?_)))
 refine wv (.bool z1426) z z z (wl_nil (tn ?_))
 refine wp_iff (cvb hc1437) ?_
 refine wp_skip (blk_n (tn (wrl ?_)))
 refine wv (.int .i64 z1357) z z z (wv (.int .i64 (i64.wrap (z1357 + (1:Int)))) z z z (wv (.int .i64 (i64.wrap (z1357 + (1:Int)))) z z z (wl_nil (tn ?_))))
 replace hst := hst.keep0
 obtain rfl := some_inj hm
 exact ⟨_, Nat.lt_succ_self _, (i64.wrap (z1357 + (1:Int))), _, hx1364, (fu 0 r0_0 z (fu 1 (.int .i64 a1) z (fu 2 (.int .i64 a2) z (fu 7 (.int .i64 (i64.wrap (z1357 + (1:Int)))) z z)))), hst⟩
}
}
 {
 replace hm := bif_f hc1436 hm
 refine wo hc1436 z z z z z z (wv (.bool false) z z (x_pick_f hc1436 z z) (wl_nil (tn ?_)))
 refine wp_iff z ?_
 refine wp_exit (then_x (then_x ?_))
 replace hm := inr_up hm hx1434
 refine blk_x (tn (wp_seq (wrl ?_)))
 refine wv (.bool z1426) z z z (wl_nil (tn ?_))
 refine bsplit z1426 (fun hc1456 => ?_) (fun hc1456 => ?_)
 {
 replace hm := bif_t hc1456 hm
 refine wp_ift (cvb hc1456) ?_
 refine wp_seq (wrl (wv (.int .i64 z1357) z z z (wv (.int .i64 z1357) z z z (wl_nil (tn (wp_ret (blk_r (then_r (then_r ?_)))))))))
 replace hm := inr_up hm hx1364
 refine blk_r (then_r ?_)
 obtain rfl := some_inj hm
 refine post_ret (vs := [I6 z1357]) results34 (rvs_cons (rv_tmp z) rvs_nil) ?_
 exact ⟨z, hst.keep0⟩
}
 {
 replace hm := bif_f hc1456 hm
 refine wp_iff (cvb hc1456) ?_
 refine wp_skip (blk_n (tn (wrl ?_)))
 refine wv (.int .i64 z1357) z z z (wv (.int .i64 (i64.wrap (z1357 + (1:Int)))) z z z (wv (.int .i64 (i64.wrap (z1357 + (1:Int)))) z z z (wl_nil (tn ?_))))
 replace hst := hst.keep0
 obtain rfl := some_inj hm
 exact ⟨_, Nat.lt_succ_self _, (i64.wrap (z1357 + (1:Int))), _, hx1364, (fu 0 r0_0 z (fu 1 (.int .i64 a1) z (fu 2 (.int .i64 a2) z (fu 7 (.int .i64 (i64.wrap (z1357 + (1:Int)))) z z)))), hst⟩
}
}
}
}
 {
 replace hm := bif_f hc1366 hm
 refine wp_iff (cvb hc1366) ?_
 refine wp_exit (then_x (then_x ?_))
 replace hm := inr_up hm hx1364
 refine blk_x (tn (wp_seq (wrl ?_)))
 refine wv (.int .i64 ((-1):Int)) z z z (wl_nil (tn (wp_ret ?_)))
 obtain rfl := some_inj hm
 refine post_ret (vs := [I6 ((-1):Int)]) results34 (rvs_cons (rv_tmp z) rvs_nil) ?_
 exact ⟨z, hst.keep0⟩
}
}

theorem ref03_Check_ref {w0 w : World} {I : HL} {R : SP} {a0 : (List Int)} {r0_0 : Value} (f0_0 : Rd (tyInt .u64) R I r0_0 a0) (hst : St w0 w I [] R) {r : (Int)} (hm : ref03_Check a0 = some r) :
  Calls prog 19 #[r0_0] w fun e w' => e = .returned (.int .i64 r) ∧ St w0 w' I [] R := by {
 unfold ref03_Check at hm
 refine calls_start (args := [r0_0]) func19 z ntmps19 (Nat.le_of_ble_eq_true z) ?_
 refine wp_seq (wrl (wv (.int .i64 (0:Int)) z z z (wl_nil (tn (wp_seq (wrl (wv (r0_0) z z z (wv (.int .i64 ((a0).length : Int)) z z (x_len z underlying28 (rd_sliceV f0_0)) (wv (.int .i64 ((a0).length : Int)) z z z (wl_nil (tn (wp_seq (wp_seq (wrl (wv (.int .i64 ((a0).length : Int)) z z z (wv (.bool (decide (((a0).length : Int) < (1:Int)))) z z z (wv (.bool (decide (((a0).length : Int) < (1:Int)))) z z z ?_)))))))))))))))))
 refine bsplit (decide (((a0).length : Int) < (1:Int))) (fun hc1044 => ?_) (fun hc1044 => ?_)
 {
 replace hm := bif_t hc1044 hm
 refine wo hc1044 z z z z z z (wo hc1044 z z z z z z (wv (.bool true) z z (x_pick_t hc1044 z z) (wl_nil (tn ?_))))
 refine wp_ift z ?_
 refine wp_seq (wrl (wv (.int .i64 (1:Int)) z z z (wl_nil (tn (wp_ret (then_r ?_))))))
 obtain rfl := some_inj hm
 refine post_ret (vs := [I6 (1:Int)]) results19 (rvs_cons (rv_tmp z) rvs_nil) ?_
 exact ⟨z, hst.keep0⟩
}
 {
 replace hm := bif_f hc1044 hm
 refine wv (.int .i64 ((a0).length : Int)) ((wanted_eq z z z (cvb hc1044)).trans z) z z (wv (.bool (decide (((a0).length : Int) > (16:Int)))) ((wanted_eq z z z (cvb hc1044)).trans z) z z (wv (.bool (decide (((a0).length : Int) > (16:Int)))) z z (x_pick_f hc1044 z z) (wl_nil (tn ?_))))
 refine bsplit (decide (((a0).length : Int) > (16:Int))) (fun hc1045 => ?_) (fun hc1045 => ?_)
 {
 replace hm := bif_t hc1045 hm
 refine wp_ift (cvb hc1045) ?_
 refine wp_seq (wrl (wv (.int .i64 (1:Int)) z z z (wl_nil (tn (wp_ret (then_r ?_))))))
 obtain rfl := some_inj hm
 refine post_ret (vs := [I6 (1:Int)]) results19 (rvs_cons (rv_tmp z) rvs_nil) ?_
 exact ⟨z, hst.keep0⟩
}
 {
 replace hm := bif_f hc1045 hm
 refine wp_iff (cvb hc1045) ?_
 refine wp_skip (tn ?_)
 obtain ⟨y1898, hm, hx1899⟩ := joinO_some hm
 refine wp_cut (fun a w => ∃ (σ1896 : Nat → Value), (ref03_Check_j0 a0) () = some r ∧ a = Fr 100 (upd (upd σ1896 0 (r0_0)) 3 (.int .i64 ((a0).length : Int))) ∧ St w0 w I [] R) ?_ ?_
 {
 refine wp_seq (wrl (wv (.int .i64 (0:Int)) z z z (wl_nil (tn (wp_block ?_)))))
 obtain ⟨n1608, hm⟩ := loopO_some hm
 refine wp_loop_n (fun n a w => ∃ (z1606 : Int) (σ1607 : Nat → Value), loopN (ref03_Check_l1 a0) n z1606 = some y1898 ∧ a = Fr 100 (upd (upd (upd σ1607 0 (r0_0)) 3 (.int .i64 ((a0).length : Int))) 4 (.int .i64 z1606)) ∧ St w0 w I [] R) n1608 ⟨(0:Int), _, hm, (fu 0 r0_0 z (fu 3 (.int .i64 ((a0).length : Int)) z (fu 4 (.int .i64 (0:Int)) z z))), hst⟩ ?_
 rintro n1614 _ w1609 ⟨z1606, σ1607, hm, rfl, hst⟩
 obtain ⟨n1611, y1612, rfl, hm, hx1613⟩ := loopN_some hm
 dsimp only [ref03_Check_l1] at hm
 refine wp_seq (wp_seq (wrl (wv (.int .i64 z1606) z z z (wv (.int .i64 ((a0).length : Int)) z z z (wv (.bool (decide (z1606 < ((a0).length : Int)))) z z z (wl_nil (tn ?_)))))))
 refine bsplit (decide (z1606 < ((a0).length : Int))) (fun hc1615 => ?_) (fun hc1615 => ?_)
 {
 replace hm := bif_t hc1615 hm
 refine wp_ift (cvb hc1615) ?_
 refine wp_skip (tn (wp_seq (wp_block (wp_seq (wp_seq (wrl ?_))))))
 refine wv (r0_0) z z z (wv (.int .i64 z1606) z z z ?_)
 obtain ⟨x1616, hx1617, hm⟩ := bind_some hm
 obtain ⟨h1618, h1619, hi1620⟩ := geto_some hx1617
 refine wv (.pointer (some (eAddr r0_0 (z1606.toNat * 1 + 0)))) z z (x_index z z underlying28 sizeOf43 (rd_sliceV f0_0) h1618 h1619) (wv (.int .u64 x1616) z z (x_load z isAgg43 (rd_load f0_0 (HL.le.refl _) hst hi1620 (by rintro _ rfl; rfl))) (wv (.int .i64 ((a0).length : Int)) z z z ?_))
 obtain ⟨hg1621, hm⟩ := gd_some hm
 refine wv (.int .u64 (iShr .u64 x1616 ((a0).length : Int))) z z (x_shr (of_decide_eq_true hg1621) z z) (wv (.bool ((iShr .u64 x1616 ((a0).length : Int)) != (0:Int))) z z z (wv (.bool ((iShr .u64 x1616 ((a0).length : Int)) != (0:Int))) z z z ?_))
 refine bsplit ((iShr .u64 x1616 ((a0).length : Int)) != (0:Int)) (fun hc1622 => ?_) (fun hc1622 => ?_)
 {
 replace hm := bif_t hc1622 hm
 refine wo hc1622 z z z z z z (wo hc1622 z z z z z z (wo hc1622 z z z z z z (wo hc1622 z z z z z z (wo hc1622 z z z z z z (wv (.bool true) z z (x_pick_t hc1622 z z) (wl_nil (tn ?_)))))))
 refine wp_ift z ?_
 refine wp_seq (wrl (wv (.int .i64 (15:Int)) z z z (wl_nil (tn (wp_ret (then_r (blk_r (then_r (then_r ?_)))))))))
 replace hm := inr_up hm hx1613
 refine blk_r (then_r ?_)
 replace hm := inr_up hm hx1899
 obtain rfl := some_inj hm
 refine post_ret (vs := [I6 (15:Int)]) results19 (rvs_cons (rv_tmp z) rvs_nil) ?_
 exact ⟨z, hst.keep0⟩
}
 {
 replace hm := bif_f hc1622 hm
 refine wv (r0_0) ((wanted_eq z z z (cvb hc1622)).trans z) z z (wv (.int .i64 z1606) ((wanted_eq z z z (cvb hc1622)).trans z) z z (wv (.int .i64 z1606) ((wanted_eq z z z (cvb hc1622)).trans z) z z ?_))
 obtain ⟨t1623, ht1624, hm⟩ := bind_some hm
 refine wl_call ((wanted_eq z z z (cvb hc1622)).trans z) z (x_call call32 z (vs := [r0_0, I6 z1606, I6 z1606]) z) ?_
 refine (ref03_Leq_ref (f0_0.mono (rd_weak _)) hst.to0 ht1624).mono ?_
 rintro _ w1625 ⟨rfl, hst⟩
 refine ⟨_, z, ?_⟩
 replace hst := hst.of0
 refine wv (.bool (!t1623)) ((wanted_eq z z z (cvb hc1622)).trans z) z z (wv (.bool (!t1623)) z z (x_pick_f hc1622 z z) (wl_nil (tn ?_)))
 refine bsplit (!t1623) (fun hc1628 => ?_) (fun hc1628 => ?_)
 {
 replace hm := bif_t hc1628 hm
 refine wp_ift (cvb hc1628) ?_
 refine wp_seq (wrl (wv (.int .i64 (15:Int)) z z z (wl_nil (tn (wp_ret (then_r (blk_r (then_r (then_r ?_)))))))))
 replace hm := inr_up hm hx1613
 refine blk_r (then_r ?_)
 replace hm := inr_up hm hx1899
 obtain rfl := some_inj hm
 refine post_ret (vs := [I6 (15:Int)]) results19 (rvs_cons (rv_tmp z) rvs_nil) ?_
 exact ⟨z, hst.keep0⟩
}
 {
 replace hm := bif_f hc1628 hm
 refine wp_iff (cvb hc1628) ?_
 refine wp_skip (tn (wp_seq (wrl ?_)))
 refine wv (.int .i64 (0:Int)) z z z (wl_nil (tn (wp_block ?_)))
 obtain ⟨n1803, hm⟩ := loopO_some hm
 refine wp_loop_n (fun n a w => ∃ (z1801 : Int) (σ1802 : Nat → Value), loopN (ref03_Check_l2 a0 z1606) n z1801 = some y1612 ∧ a = Fr 100 (upd (upd (upd (upd σ1802 0 (r0_0)) 3 (.int .i64 ((a0).length : Int))) 4 (.int .i64 z1606)) 5 (.int .i64 z1801)) ∧ St w0 w I [] R) n1803 ⟨(0:Int), _, hm, (fu 0 r0_0 z (fu 3 (.int .i64 ((a0).length : Int)) z (fu 4 (.int .i64 z1606) z (fu 5 (.int .i64 (0:Int)) z z)))), hst⟩ ?_
 rintro n1809 _ w1804 ⟨z1801, σ1802, hm, rfl, hst⟩
 obtain ⟨n1806, y1807, rfl, hm, hx1808⟩ := loopN_some hm
 dsimp only [ref03_Check_l2] at hm
 refine wp_seq (wp_seq (wrl (wv (.int .i64 z1801) z z z (wv (.int .i64 ((a0).length : Int)) z z z (wv (.bool (decide (z1801 < ((a0).length : Int)))) z z z (wl_nil (tn ?_)))))))
 refine bsplit (decide (z1801 < ((a0).length : Int))) (fun hc1810 => ?_) (fun hc1810 => ?_)
 {
 replace hm := bif_t hc1810 hm
 refine wp_ift (cvb hc1810) ?_
 refine wp_skip (tn (wp_seq (wp_block ?_)))
 obtain ⟨y1826, hm, hx1827⟩ := joinO_some hm
 refine wp_cut (fun a w => ∃ (σ1824 : Nat → Value), (ref03_Check_j3 a0 z1606 z1801) () = some y1807 ∧ a = Fr 100 (upd (upd (upd (upd σ1824 0 (r0_0)) 3 (.int .i64 ((a0).length : Int))) 4 (.int .i64 z1606)) 5 (.int .i64 z1801)) ∧ St w0 w I [] R) ?_ ?_
 {
 refine wp_seq (wrl (wv (.int .i64 z1606) z z z (wv (.int .i64 z1801) z z z (wv (.bool (z1606 != z1801)) z z z (wv (.bool (z1606 != z1801)) z z z ?_)))))
 refine bsplit (z1606 != z1801) (fun hc1811 => ?_) (fun hc1811 => ?_)
 {
 replace hm := bif_t hc1811 hm
 refine wv (r0_0) ((wanted_eq z z z (cvb hc1811)).trans z) z z (wv (.int .i64 z1606) ((wanted_eq z z z (cvb hc1811)).trans z) z z (wv (.int .i64 z1801) ((wanted_eq z z z (cvb hc1811)).trans z) z z ?_))
 obtain ⟨t1812, ht1813, hm⟩ := bind_some hm
 refine wl_call ((wanted_eq z z z (cvb hc1811)).trans z) z (x_call call32 z (vs := [r0_0, I6 z1606, I6 z1801]) z) ?_
 refine (ref03_Leq_ref (f0_0.mono (rd_weak _)) hst.to0 ht1813).mono ?_
 rintro _ w1814 ⟨rfl, hst⟩
 refine ⟨_, z, ?_⟩
 replace hst := hst.of0
 refine wv (.bool t1812) z z (x_pick_t hc1811 z z) (wv (.bool t1812) z z z ?_)
 refine bsplit t1812 (fun hc1817 => ?_) (fun hc1817 => ?_)
 {
 replace hm := bif_t hc1817 hm
 refine wv (r0_0) ((wanted_eq z z z (cvb hc1817)).trans z) z z (wv (.int .i64 z1801) ((wanted_eq z z z (cvb hc1817)).trans z) z z (wv (.int .i64 z1606) ((wanted_eq z z z (cvb hc1817)).trans z) z z ?_))
 obtain ⟨t1818, ht1819, hm⟩ := bind_some hm
 refine wl_call ((wanted_eq z z z (cvb hc1817)).trans z) z (x_call call32 z (vs := [r0_0, I6 z1801, I6 z1606]) z) ?_
 refine (ref03_Leq_ref (f0_0.mono (rd_weak _)) hst.to0 ht1819).mono ?_
 rintro _ w1820 ⟨rfl, hst⟩
 refine ⟨_, z, ?_⟩
 replace hst := hst.of0
 refine wv (.bool t1818) z z (x_pick_t hc1817 z z) (wl_nil (tn ?_))
 refine bsplit t1818 (fun hc1823 => ?_) (fun hc1823 => ?_)
 {
 replace hm := bif_t hc1823 hm
 refine wp_ift (cvb hc1823) ?_
 refine wp_seq (wrl (wv (.int .i64 (15:Int)) z z z (wl_nil (tn (wp_ret (then_r ?_))))))
 replace hm := inr_up hm hx1827
 refine blk_r (then_r (then_r ?_))
 replace hm := inr_up hm hx1808
 refine blk_r (blk_r (then_r (then_r ?_)))
 replace hm := inr_up hm hx1613
 refine blk_r (then_r ?_)
 replace hm := inr_up hm hx1899
 obtain rfl := some_inj hm
 refine post_ret (vs := [I6 (15:Int)]) results19 (rvs_cons (rv_tmp z) rvs_nil) ?_
 exact ⟨z, hst.keep0⟩
}
 {
 replace hm := bif_f hc1823 hm
 refine wp_iff (cvb hc1823) ?_
 refine wp_skip (tn ?_)
 replace hst := hst.keep0
 obtain rfl := some_inj hm
 exact ⟨_, hx1827, (fu 0 r0_0 z (fu 3 (.int .i64 ((a0).length : Int)) z (fu 4 (.int .i64 z1606) z (fu 5 (.int .i64 z1801) z z)))), hst⟩
}
}
 {
 replace hm := bif_f hc1817 hm
 refine wo hc1817 z z z z z z (wo hc1817 z z z z z z (wo hc1817 z z z z z z (wo hc1817 z z z z z z (wv (.bool false) z z (x_pick_f hc1817 z z) (wl_nil (tn ?_))))))
 refine wp_iff z ?_
 refine wp_skip (tn ?_)
 replace hst := hst.keep0
 obtain rfl := some_inj hm
 exact ⟨_, hx1827, (fu 0 r0_0 z (fu 3 (.int .i64 ((a0).length : Int)) z (fu 4 (.int .i64 z1606) z (fu 5 (.int .i64 z1801) z z)))), hst⟩
}
}
 {
 replace hm := bif_f hc1811 hm
 refine wo hc1811 z z z z z z (wo hc1811 z z z z z z (wo hc1811 z z z z z z (wo hc1811 z z z z z z (wv (.bool false) z z (x_pick_f hc1811 z z) (wv (.bool false) z z z (wz z z z z z z (wz z z z z z z (wz z z z z z z (wz z z z z z z (wv (.bool false) z z (x_pick_f z z z) (wl_nil (tn ?_))))))))))))
 refine wp_iff z ?_
 refine wp_skip (tn ?_)
 replace hst := hst.keep0
 obtain rfl := some_inj hm
 exact ⟨_, hx1827, (fu 0 r0_0 z (fu 3 (.int .i64 ((a0).length : Int)) z (fu 4 (.int .i64 z1606) z (fu 5 (.int .i64 z1801) z z)))), hst⟩
}
}
 {
 clear hst
 rintro _ w1828 ⟨σ1824, hm, rfl, hst⟩
 dsimp only [ref03_Check_j3] at hm
 refine wp_seq (wrl (wv (.int .i64 (0:Int)) z z z (wl_nil (tn (wp_block ?_)))))
 obtain ⟨n1870, hm⟩ := loopO_some hm
 refine wp_loop_n (fun n a w => ∃ (z1868 : Int) (σ1869 : Nat → Value), loopN (ref03_Check_l4 a0 z1606 z1801) n z1868 = some y1807 ∧ a = Fr 100 (upd (upd (upd (upd (upd σ1869 0 (r0_0)) 3 (.int .i64 ((a0).length : Int))) 4 (.int .i64 z1606)) 5 (.int .i64 z1801)) 6 (.int .i64 z1868)) ∧ St w0 w I [] R) n1870 ⟨(0:Int), _, hm, (fu 0 r0_0 z (fu 3 (.int .i64 ((a0).length : Int)) z (fu 4 (.int .i64 z1606) z (fu 5 (.int .i64 z1801) z (fu 6 (.int .i64 (0:Int)) z z))))), hst⟩ ?_
 rintro n1876 _ w1871 ⟨z1868, σ1869, hm, rfl, hst⟩
 obtain ⟨n1873, y1874, rfl, hm, hx1875⟩ := loopN_some hm
 dsimp only [ref03_Check_l4] at hm
 refine wp_seq (wp_seq (wrl (wv (.int .i64 z1868) z z z (wv (.int .i64 ((a0).length : Int)) z z z (wv (.bool (decide (z1868 < ((a0).length : Int)))) z z z (wl_nil (tn ?_)))))))
 refine bsplit (decide (z1868 < ((a0).length : Int))) (fun hc1877 => ?_) (fun hc1877 => ?_)
 {
 replace hm := bif_t hc1877 hm
 refine wp_ift (cvb hc1877) ?_
 refine wp_skip (tn (wp_seq (wp_block (wp_seq (wrl ?_)))))
 refine wv (r0_0) z z z (wv (.int .i64 z1606) z z z (wv (.int .i64 z1801) z z z ?_))
 obtain ⟨t1878, ht1879, hm⟩ := bind_some hm
 refine wc call32 [r0_0, I6 z1606, I6 z1801] z z z ?_
 refine (ref03_Leq_ref (f0_0.mono (rd_weak _)) hst.to0 ht1879).mono ?_
 rintro _ w1880 ⟨rfl, hst⟩
 refine ⟨_, z, ?_⟩
 replace hst := hst.of0
 refine wv (.bool t1878) z z z ?_
 refine bsplit t1878 (fun hc1883 => ?_) (fun hc1883 => ?_)
 {
 replace hm := bif_t hc1883 hm
 refine wv (r0_0) ((wanted_eq z z z (cvb hc1883)).trans z) z z (wv (.int .i64 z1801) ((wanted_eq z z z (cvb hc1883)).trans z) z z (wv (.int .i64 z1868) ((wanted_eq z z z (cvb hc1883)).trans z) z z ?_))
 obtain ⟨t1884, ht1885, hm⟩ := bind_some hm
 refine wl_call ((wanted_eq z z z (cvb hc1883)).trans z) z (x_call call32 z (vs := [r0_0, I6 z1801, I6 z1868]) z) ?_
 refine (ref03_Leq_ref (f0_0.mono (rd_weak _)) hst.to0 ht1885).mono ?_
 rintro _ w1886 ⟨rfl, hst⟩
 refine ⟨_, z, ?_⟩
 replace hst := hst.of0
 refine wv (.bool t1884) z z (x_pick_t hc1883 z z) (wv (.bool t1884) z z z ?_)
 refine bsplit t1884 (fun hc1889 => ?_) (fun hc1889 => ?_)
 {
 replace hm := bif_t hc1889 hm
 refine wv (r0_0) ((wanted_eq z z z (cvb hc1889)).trans z) z z (wv (.int .i64 z1606) ((wanted_eq z z z (cvb hc1889)).trans z) z z (wv (.int .i64 z1868) ((wanted_eq z z z (cvb hc1889)).trans z) z z ?_))
 obtain ⟨t1890, ht1891, hm⟩ := bind_some hm
 refine wl_call ((wanted_eq z z z (cvb hc1889)).trans z) z (x_call call32 z (vs := [r0_0, I6 z1606, I6 z1868]) z) ?_
 refine (ref03_Leq_ref (f0_0.mono (rd_weak _)) hst.to0 ht1891).mono ?_
 rintro _ w1892 ⟨rfl, hst⟩
 refine ⟨_, z, ?_⟩
 replace hst := hst.of0
 refine wv (.bool (!t1890)) ((wanted_eq z z z (cvb hc1889)).trans z) z z (wv (.bool (!t1890)) z z (x_pick_t hc1889 z z) (wl_nil (tn ?_)))
 refine bsplit (!t1890) (fun hc1895 => ?_) (fun hc1895 => ?_)
 {
 replace hm := bif_t hc1895 hm
 refine wp_ift (cvb hc1895) ?_
 refine wp_seq (wrl (wv (.int .i64 (15:Int)) z z z (wl_nil (tn (wp_ret (blk_r (then_r (then_r ?_))))))))
 replace hm := inr_up hm hx1875
 refine blk_r (blk_r (then_r (then_r ?_)))
 replace hm := inr_up hm hx1808
 refine blk_r (blk_r (then_r (then_r ?_)))
 replace hm := inr_up hm hx1613
 refine blk_r (then_r ?_)
 replace hm := inr_up hm hx1899
 obtain rfl := some_inj hm
 refine post_ret (vs := [I6 (15:Int)]) results19 (rvs_cons (rv_tmp z) rvs_nil) ?_
 exact ⟨z, hst.keep0⟩
}
 {
 replace hm := bif_f hc1895 hm
 refine wp_iff (cvb hc1895) ?_
 refine wp_skip (blk_n (tn (wrl ?_)))
 refine wv (.int .i64 z1868) z z z (wv (.int .i64 (i64.wrap (z1868 + (1:Int)))) z z z (wv (.int .i64 (i64.wrap (z1868 + (1:Int)))) z z z (wl_nil (tn ?_))))
 replace hst := hst.keep0
 obtain rfl := some_inj hm
 exact ⟨_, Nat.lt_succ_self _, (i64.wrap (z1868 + (1:Int))), _, hx1875, (fu 0 r0_0 z (fu 3 (.int .i64 ((a0).length : Int)) z (fu 4 (.int .i64 z1606) z (fu 5 (.int .i64 z1801) z (fu 6 (.int .i64 (i64.wrap (z1868 + (1:Int)))) z z))))), hst⟩
}
}
 {
 replace hm := bif_f hc1889 hm
 refine wo hc1889 z z z z z z (wo hc1889 z z z z z z (wo hc1889 z z z z z z (wo hc1889 z z z z z z (wo hc1889 z z z z z z (wv (.bool false) z z (x_pick_f hc1889 z z) (wl_nil (tn ?_)))))))
 refine wp_iff z ?_
 refine wp_skip (blk_n (tn (wrl ?_)))
 refine wv (.int .i64 z1868) z z z (wv (.int .i64 (i64.wrap (z1868 + (1:Int)))) z z z (wv (.int .i64 (i64.wrap (z1868 + (1:Int)))) z z z (wl_nil (tn ?_))))
 replace hst := hst.keep0
 obtain rfl := some_inj hm
 exact ⟨_, Nat.lt_succ_self _, (i64.wrap (z1868 + (1:Int))), _, hx1875, (fu 0 r0_0 z (fu 3 (.int .i64 ((a0).length : Int)) z (fu 4 (.int .i64 z1606) z (fu 5 (.int .i64 z1801) z (fu 6 (.int .i64 (i64.wrap (z1868 + (1:Int)))) z z))))), hst⟩
}
}
 {
 replace hm := bif_f hc1883 hm
 refine wo hc1883 z z z z z z (wo hc1883 z z z z z z (wo hc1883 z z z z z z (wo hc1883 z z z z z z (wv (.bool false) z z (x_pick_f hc1883 z z) (wv (.bool false) z z z (wz z z z z z z (wz z z z z z z (wz z z z z z z (wz z z z z z z (wz z z z z z z (wv (.bool false) z z (x_pick_f z z z) (wl_nil (tn ?_)))))))))))))
 refine wp_iff z ?_
 refine wp_skip (blk_n (tn (wrl ?_)))
 refine wv (.int .i64 z1868) z z z (wv (.int .i64 (i64.wrap (z1868 + (1:Int)))) z z z (wv (.int .i64 (i64.wrap (z1868 + (1:Int)))) z z z (wl_nil (tn ?_))))
 replace hst := hst.keep0
 obtain rfl := some_inj hm
 exact ⟨_, Nat.lt_succ_self _, (i64.wrap (z1868 + (1:Int))), _, hx1875, (fu 0 r0_0 z (fu 3 (.int .i64 ((a0).length : Int)) z (fu 4 (.int .i64 z1606) z (fu 5 (.int .i64 z1801) z (fu 6 (.int .i64 (i64.wrap (z1868 + (1:Int)))) z z))))), hst⟩
}
}
 {
 replace hm := bif_f hc1877 hm
 refine wp_iff (cvb hc1877) ?_
 refine wp_exit (then_x (then_x ?_))
 replace hm := inr_up hm hx1875
 refine blk_x (blk_n (tn (wrl ?_)))
 refine wv (.int .i64 z1801) z z z (wv (.int .i64 (i64.wrap (z1801 + (1:Int)))) z z z (wv (.int .i64 (i64.wrap (z1801 + (1:Int)))) z z z (wl_nil (tn ?_))))
 replace hst := hst.keep0
 obtain rfl := some_inj hm
 exact ⟨_, Nat.lt_succ_self _, (i64.wrap (z1801 + (1:Int))), _, hx1808, (fu 0 r0_0 z (fu 3 (.int .i64 ((a0).length : Int)) z (fu 4 (.int .i64 z1606) z (fu 5 (.int .i64 (i64.wrap (z1801 + (1:Int)))) z z)))), hst⟩
}
}
}
 {
 replace hm := bif_f hc1810 hm
 refine wp_iff (cvb hc1810) ?_
 refine wp_exit (then_x (then_x ?_))
 replace hm := inr_up hm hx1808
 refine blk_x (blk_n (tn (wrl ?_)))
 refine wv (.int .i64 z1606) z z z (wv (.int .i64 (i64.wrap (z1606 + (1:Int)))) z z z (wv (.int .i64 (i64.wrap (z1606 + (1:Int)))) z z z (wl_nil (tn ?_))))
 replace hst := hst.keep0
 obtain rfl := some_inj hm
 exact ⟨_, Nat.lt_succ_self _, (i64.wrap (z1606 + (1:Int))), _, hx1613, (fu 0 r0_0 z (fu 3 (.int .i64 ((a0).length : Int)) z (fu 4 (.int .i64 (i64.wrap (z1606 + (1:Int)))) z z))), hst⟩
}
}
}
}
 {
 replace hm := bif_f hc1615 hm
 refine wp_iff (cvb hc1615) ?_
 refine wp_exit (then_x (then_x ?_))
 replace hm := inr_up hm hx1613
 refine blk_x (tn ?_)
 replace hst := hst.keep0
 obtain rfl := some_inj hm
 exact ⟨_, hx1899, (fu 0 r0_0 z (fu 3 (.int .i64 ((a0).length : Int)) z z)), hst⟩
}
}
 {
 clear hst
 rintro _ w1900 ⟨σ1896, hm, rfl, hst⟩
 dsimp only [ref03_Check_j0] at hm
 refine wp_seq (wp_seq (wrl (wv (.int .i64 (0:Int)) z z z (wl_nil (tn (wp_block ?_))))))
 obtain ⟨n2003, hm⟩ := loopO_some hm
 refine wp_loop_n (fun n a w => ∃ (z2001 : Int) (σ2002 : Nat → Value), loopN (ref03_Check_l5 a0) n z2001 = some r ∧ a = Fr 100 (upd (upd (upd σ2002 0 (r0_0)) 3 (.int .i64 ((a0).length : Int))) 7 (.int .i64 z2001)) ∧ St w0 w I [] R) n2003 ⟨(0:Int), _, hm, (fu 0 r0_0 z (fu 3 (.int .i64 ((a0).length : Int)) z (fu 7 (.int .i64 (0:Int)) z z))), hst⟩ ?_
 rintro n2009 _ w2004 ⟨z2001, σ2002, hm, rfl, hst⟩
 obtain ⟨n2006, y2007, rfl, hm, hx2008⟩ := loopN_some hm
 dsimp only [ref03_Check_l5] at hm
 refine wp_seq (wp_seq (wrl (wv (.int .i64 z2001) z z z (wv (.int .i64 ((a0).length : Int)) z z z (wv (.bool (decide (z2001 < ((a0).length : Int)))) z z z (wl_nil (tn ?_)))))))
 refine bsplit (decide (z2001 < ((a0).length : Int))) (fun hc2010 => ?_) (fun hc2010 => ?_)
 {
 replace hm := bif_t hc2010 hm
 refine wp_ift (cvb hc2010) ?_
 refine wp_skip (tn (wp_seq (wp_block (wp_seq (wrl ?_)))))
 refine wv (.int .i64 (0:Int)) z z z (wl_nil (tn (wp_block ?_)))
 obtain ⟨n2040, hm⟩ := loopO_some hm
 refine wp_loop_n (fun n a w => ∃ (z2038 : Int) (σ2039 : Nat → Value), loopN (ref03_Check_l6 a0 z2001) n z2038 = some y2007 ∧ a = Fr 100 (upd (upd (upd (upd σ2039 0 (r0_0)) 3 (.int .i64 ((a0).length : Int))) 7 (.int .i64 z2001)) 8 (.int .i64 z2038)) ∧ St w0 w I [] R) n2040 ⟨(0:Int), _, hm, (fu 0 r0_0 z (fu 3 (.int .i64 ((a0).length : Int)) z (fu 7 (.int .i64 z2001) z (fu 8 (.int .i64 (0:Int)) z z)))), hst⟩ ?_
 rintro n2046 _ w2041 ⟨z2038, σ2039, hm, rfl, hst⟩
 obtain ⟨n2043, y2044, rfl, hm, hx2045⟩ := loopN_some hm
 dsimp only [ref03_Check_l6] at hm
 refine wp_seq (wp_seq (wrl (wv (.int .i64 z2038) z z z (wv (.int .i64 ((a0).length : Int)) z z z (wv (.bool (decide (z2038 < ((a0).length : Int)))) z z z (wl_nil (tn ?_)))))))
 refine bsplit (decide (z2038 < ((a0).length : Int))) (fun hc2047 => ?_) (fun hc2047 => ?_)
 {
 replace hm := bif_t hc2047 hm
 refine wp_ift (cvb hc2047) ?_
 refine wp_skip (tn (wp_seq (wp_block (wp_seq (wrl ?_)))))
 refine wv (r0_0) z z z (wv (.int .i64 z2001) z z z (wv (.int .i64 z2038) z z z ?_))
 obtain ⟨t2048, ht2049, hm⟩ := bind_some hm
 refine wc call33 [r0_0, I6 z2001, I6 z2038] z z z ?_
 refine (ref03_Join_ref (f0_0.mono (rd_weak _)) hst.to0 ht2049).mono ?_
 rintro _ w2050 ⟨rfl, hst⟩
 refine ⟨_, z, ?_⟩
 replace hst := hst.of0
 refine wv (.bool (decide (t2048 < (0:Int)))) z z z (wv (.bool (decide (t2048 < (0:Int)))) z z z ?_)
 refine bsplit (decide (t2048 < (0:Int))) (fun hc2053 => ?_) (fun hc2053 => ?_)
 {
 replace hm := bif_t hc2053 hm
 refine wo hc2053 z z z z z z (wo hc2053 z z z z z z (wo hc2053 z z z z z z (wo hc2053 z z z z z z (wo hc2053 z z z z z z (wv (.bool true) z z (x_pick_t hc2053 z z) (wl_nil (tn ?_)))))))
 refine wp_ift z ?_
 refine wp_seq (wrl (wv (.int .i64 (15:Int)) z z z (wl_nil (tn (wp_ret (blk_r (then_r (then_r ?_))))))))
 replace hm := inr_up hm hx2045
 refine blk_r (blk_r (then_r (then_r ?_)))
 replace hm := inr_up hm hx2008
 refine blk_r (then_r ?_)
 obtain rfl := some_inj hm
 refine post_ret (vs := [I6 (15:Int)]) results19 (rvs_cons (rv_tmp z) rvs_nil) ?_
 exact ⟨z, hst.keep0⟩
}
 {
 replace hm := bif_f hc2053 hm
 refine wv (r0_0) ((wanted_eq z z z (cvb hc2053)).trans z) z z (wv (.int .i64 z2001) ((wanted_eq z z z (cvb hc2053)).trans z) z z (wv (.int .i64 z2038) ((wanted_eq z z z (cvb hc2053)).trans z) z z ?_))
 obtain ⟨t2054, ht2055, hm⟩ := bind_some hm
 refine wl_call ((wanted_eq z z z (cvb hc2053)).trans z) z (x_call call34 z (vs := [r0_0, I6 z2001, I6 z2038]) z) ?_
 refine (ref03_Meet_ref (f0_0.mono (rd_weak _)) hst.to0 ht2055).mono ?_
 rintro _ w2056 ⟨rfl, hst⟩
 refine ⟨_, z, ?_⟩
 replace hst := hst.of0
 refine wv (.bool (decide (t2054 < (0:Int)))) ((wanted_eq z z z (cvb hc2053)).trans z) z z (wv (.bool (decide (t2054 < (0:Int)))) z z (x_pick_f hc2053 z z) (wl_nil (tn ?_)))
 refine bsplit (decide (t2054 < (0:Int))) (fun hc2059 => ?_) (fun hc2059 => ?_)
 {
 replace hm := bif_t hc2059 hm
 refine wp_ift (cvb hc2059) ?_
 refine wp_seq (wrl (wv (.int .i64 (15:Int)) z z z (wl_nil (tn (wp_ret (blk_r (then_r (then_r ?_))))))))
 replace hm := inr_up hm hx2045
 refine blk_r (blk_r (then_r (then_r ?_)))
 replace hm := inr_up hm hx2008
 refine blk_r (then_r ?_)
 obtain rfl := some_inj hm
 refine post_ret (vs := [I6 (15:Int)]) results19 (rvs_cons (rv_tmp z) rvs_nil) ?_
 exact ⟨z, hst.keep0⟩
}
 {
 replace hm := bif_f hc2059 hm
 refine wp_iff (cvb hc2059) ?_
 refine wp_skip (blk_n (tn (wrl ?_)))
 refine wv (.int .i64 z2038) z z z (wv (.int .i64 (i64.wrap (z2038 + (1:Int)))) z z z (wv (.int .i64 (i64.wrap (z2038 + (1:Int)))) z z z (wl_nil (tn ?_))))
 replace hst := hst.keep0
 obtain rfl := some_inj hm
 exact ⟨_, Nat.lt_succ_self _, (i64.wrap (z2038 + (1:Int))), _, hx2045, (fu 0 r0_0 z (fu 3 (.int .i64 ((a0).length : Int)) z (fu 7 (.int .i64 z2001) z (fu 8 (.int .i64 (i64.wrap (z2038 + (1:Int)))) z z)))), hst⟩
}
}
}
 {
 replace hm := bif_f hc2047 hm
 refine wp_iff (cvb hc2047) ?_
 refine wp_exit (then_x (then_x ?_))
 replace hm := inr_up hm hx2045
 refine blk_x (blk_n (tn (wrl ?_)))
 refine wv (.int .i64 z2001) z z z (wv (.int .i64 (i64.wrap (z2001 + (1:Int)))) z z z (wv (.int .i64 (i64.wrap (z2001 + (1:Int)))) z z z (wl_nil (tn ?_))))
 replace hst := hst.keep0
 obtain rfl := some_inj hm
 exact ⟨_, Nat.lt_succ_self _, (i64.wrap (z2001 + (1:Int))), _, hx2008, (fu 0 r0_0 z (fu 3 (.int .i64 ((a0).length : Int)) z (fu 7 (.int .i64 (i64.wrap (z2001 + (1:Int)))) z z))), hst⟩
}
}
 {
 replace hm := bif_f hc2010 hm
 refine wp_iff (cvb hc2010) ?_
 refine wp_exit (then_x (then_x ?_))
 replace hm := inr_up hm hx2008
 refine blk_x (tn (wp_seq (wrl ?_)))
 refine wv (.int .i64 (0:Int)) z z z (wl_nil (tn (wp_ret ?_)))
 obtain rfl := some_inj hm
 refine post_ret (vs := [Zi]) results19 (rvs_cons (rv_tmp z) rvs_nil) ?_
 exact ⟨z, hst.keep0⟩
}
}
}
}
}

theorem ref03_Order_ref {w0 w : World} {I : HL} {R : SP} {a0 : (List Int)} {r0_0 : Value} (f0_0 : Rd (tyInt .u64) R I r0_0 a0) (hst : St w0 w I [] R) {r : ((List Int))} (hm : ref03_Order a0 = some r) :
  Calls prog 35 #[r0_0] w fun e w' => ∃ (q0_0 : Value), e = .returned (q0_0) ∧ St w0 w' I [ownS (tyInt .i64) q0_0 r] R := by {
 unfold ref03_Order at hm
 refine calls_start (args := [r0_0]) func35 z ntmps35 (Nat.le_of_ble_eq_true z) ?_
 refine wp_seq (wrl (wv ((.slice none 0 0)) z z z (wl_nil (tn (wp_seq (wrl (wv ((.slice none 0 0)) z z z (wl_nil (tn (wp_seq (wp_seq (wrl (wv (.int .i64 (0:Int)) z z z (wl_nil (tn (wp_block ?_))))))))))))))))
 replace hst := hst.own_nil (tyInt .i64)
 obtain ⟨n1356, hm⟩ := loopO_some hm
 refine wp_loop_n (fun n a w => ∃ (z1351 : (List Int)) (z1354 : Int) (v1352 : Value) (σ1355 : Nat → Value), loopN (ref03_Order_l0 a0) n (z1351, z1354) = some r ∧ a = Fr 40 (upd (upd (upd σ1355 0 (r0_0)) 3 (v1352)) 4 (.int .i64 z1354)) ∧ St w0 w I [ownS (tyInt .i64) v1352 z1351] R) n1356 ⟨[], (0:Int), Zs, _, hm, (fu 0 r0_0 z (fu 3 (.slice none 0 0) z (fu 4 (.int .i64 (0:Int)) z z))), hst⟩ ?_
 rintro n1362 _ w1357 ⟨z1351, z1354, v1352, σ1355, hm, rfl, hst⟩
 obtain ⟨n1359, y1360, rfl, hm, hx1361⟩ := loopN_some hm
 dsimp only [ref03_Order_l0] at hm
 refine wp_seq (wp_seq (wrl (wv (.int .i64 z1354) z z z (wv (r0_0) z z z (wv (.int .i64 ((a0).length : Int)) z z (x_len z underlying28 (rd_sliceV f0_0)) (wv (.bool (decide (z1354 ≤ ((a0).length : Int)))) z z z (wl_nil (tn ?_))))))))
 refine bsplit (decide (z1354 ≤ ((a0).length : Int))) (fun hc1363 => ?_) (fun hc1363 => ?_)
 {
 replace hm := bif_t hc1363 hm
 refine wp_ift (cvb hc1363) ?_
 refine wp_skip (tn (wp_seq (wp_block (wp_seq (wrl ?_)))))
 refine wv (.int .i64 (0:Int)) z z z (wl_nil (tn (wp_block ?_)))
 obtain ⟨n1474, hm⟩ := loopO_some hm
 refine wp_loop_n (fun n a w => ∃ (z1469 : (List Int)) (z1472 : Int) (v1470 : Value) (σ1473 : Nat → Value), loopN (ref03_Order_l1 a0 z1354) n (z1469, z1472) = some y1360 ∧ a = Fr 40 (upd (upd (upd (upd σ1473 0 (r0_0)) 3 (v1470)) 4 (.int .i64 z1354)) 5 (.int .i64 z1472)) ∧ St w0 w I [ownS (tyInt .i64) v1470 z1469] R) n1474 ⟨z1351, (0:Int), v1352, _, hm, (fu 0 r0_0 z (fu 3 v1352 z (fu 4 (.int .i64 z1354) z (fu 5 (.int .i64 (0:Int)) z z)))), hst⟩ ?_
 rintro n1480 _ w1475 ⟨z1469, z1472, v1470, σ1473, hm, rfl, hst⟩
 obtain ⟨n1477, y1478, rfl, hm, hx1479⟩ := loopN_some hm
 dsimp only [ref03_Order_l1] at hm
 refine wp_seq (wp_seq (wrl (wv (.int .i64 z1472) z z z (wv (r0_0) z z z (wv (.int .i64 ((a0).length : Int)) z z (x_len z underlying28 (rd_sliceV f0_0)) (wv (.bool (decide (z1472 < ((a0).length : Int)))) z z z (wl_nil (tn ?_))))))))
 refine bsplit (decide (z1472 < ((a0).length : Int))) (fun hc1481 => ?_) (fun hc1481 => ?_)
 {
 replace hm := bif_t hc1481 hm
 refine wp_ift (cvb hc1481) ?_
 refine wp_skip (tn (wp_seq (wp_block (wp_seq (wrl ?_)))))
 refine wv (.int .i64 (0:Int)) z z z (wl_nil (tn ?_))
 obtain ⟨y1518, hm, hx1519⟩ := bind_some hm
 refine wp_cut (fun a w => ∃ (z1515 : Int) (σ1516 : Nat → Value), (ref03_Order_j2 z1354 z1469 z1472) z1515 = some y1478 ∧ a = Fr 40 (upd (upd (upd (upd (upd σ1516 0 (r0_0)) 3 (v1470)) 4 (.int .i64 z1354)) 5 (.int .i64 z1472)) 6 (.int .i64 z1515)) ∧ St w0 w I [ownS (tyInt .i64) v1470 z1469] R) ?_ ?_
 {
 refine wp_seq (wrl (wv (.int .i64 (0:Int)) z z z (wl_nil (tn (wp_block ?_)))))
 obtain ⟨n1501, hm⟩ := loopO_some hm
 refine wp_loop_n (fun n a w => ∃ (z1498 : Int) (z1499 : Int) (σ1500 : Nat → Value), loopN (ref03_Order_l3 a0 z1472) n (z1498, z1499) = some y1518 ∧ a = Fr 40 (upd (upd (upd (upd (upd (upd σ1500 0 (r0_0)) 3 (v1470)) 4 (.int .i64 z1354)) 5 (.int .i64 z1472)) 6 (.int .i64 z1498)) 7 (.int .i64 z1499)) ∧ St w0 w I [ownS (tyInt .i64) v1470 z1469] R) n1501 ⟨(0:Int), (0:Int), _, hm, (fu 0 r0_0 z (fu 3 v1470 z (fu 4 (.int .i64 z1354) z (fu 5 (.int .i64 z1472) z (fu 6 (.int .i64 (0:Int)) z (fu 7 (.int .i64 (0:Int)) z z)))))), hst⟩ ?_
 rintro n1507 _ w1502 ⟨z1498, z1499, σ1500, hm, rfl, hst⟩
 obtain ⟨n1504, y1505, rfl, hm, hx1506⟩ := loopN_some hm
 dsimp only [ref03_Order_l3] at hm
 refine wp_seq (wp_seq (wrl (wv (.int .i64 z1499) z z z (wv (r0_0) z z z (wv (.int .i64 ((a0).length : Int)) z z (x_len z underlying28 (rd_sliceV f0_0)) (wv (.bool (decide (z1499 < ((a0).length : Int)))) z z z (wl_nil (tn ?_))))))))
 refine bsplit (decide (z1499 < ((a0).length : Int))) (fun hc1508 => ?_) (fun hc1508 => ?_)
 {
 replace hm := bif_t hc1508 hm
 refine wp_ift (cvb hc1508) ?_
 refine wp_skip (tn (wp_seq (wp_block (wp_seq (wrl ?_)))))
 refine wv (r0_0) z z z (wv (.int .i64 z1499) z z z (wv (.int .i64 z1472) z z z ?_))
 obtain ⟨t1509, ht1510, hm⟩ := bind_some hm
 refine wc call32 [r0_0, I6 z1499, I6 z1472] z z z ?_
 refine (ref03_Leq_ref (f0_0.mono (rd_weak _)) hst.to0 ht1510).mono ?_
 rintro _ w1511 ⟨rfl, hst⟩
 refine ⟨_, z, ?_⟩
 replace hst := hst.of0
 refine wl_nil (tn ?_)
 refine bsplit t1509 (fun hc1514 => ?_) (fun hc1514 => ?_)
 {
 replace hm := bif_t hc1514 hm
 refine wp_ift (cvb hc1514) ?_
 refine wrl (wv (.int .i64 z1498) z z z (wv (.int .i64 (i64.wrap (z1498 + (1:Int)))) z z z (wv (.int .i64 (i64.wrap (z1498 + (1:Int)))) z z z (wl_nil (blk_n (tn (wrl (wv (.int .i64 z1499) z z z (wv (.int .i64 (i64.wrap (z1499 + (1:Int)))) z z z (wv (.int .i64 (i64.wrap (z1499 + (1:Int)))) z z z (wl_nil (tn ?_))))))))))))
 replace hst := hst.keep1
 obtain rfl := some_inj hm
 exact ⟨_, Nat.lt_succ_self _, (i64.wrap (z1498 + (1:Int))), (i64.wrap (z1499 + (1:Int))), _, hx1506, (fu 0 r0_0 z (fu 3 v1470 z (fu 4 (.int .i64 z1354) z (fu 5 (.int .i64 z1472) z (fu 6 (.int .i64 (i64.wrap (z1498 + (1:Int)))) z (fu 7 (.int .i64 (i64.wrap (z1499 + (1:Int)))) z z)))))), hst⟩
}
 {
 replace hm := bif_f hc1514 hm
 refine wp_iff (cvb hc1514) ?_
 refine wp_skip (blk_n (tn (wrl ?_)))
 refine wv (.int .i64 z1499) z z z (wv (.int .i64 (i64.wrap (z1499 + (1:Int)))) z z z (wv (.int .i64 (i64.wrap (z1499 + (1:Int)))) z z z (wl_nil (tn ?_))))
 replace hst := hst.keep1
 obtain rfl := some_inj hm
 exact ⟨_, Nat.lt_succ_self _, z1498, (i64.wrap (z1499 + (1:Int))), _, hx1506, (fu 0 r0_0 z (fu 3 v1470 z (fu 4 (.int .i64 z1354) z (fu 5 (.int .i64 z1472) z (fu 6 (.int .i64 z1498) z (fu 7 (.int .i64 (i64.wrap (z1499 + (1:Int)))) z z)))))), hst⟩
}
}
 {
 replace hm := bif_f hc1508 hm
 refine wp_iff (cvb hc1508) ?_
 refine wp_exit (then_x (then_x ?_))
 replace hm := inr_up hm hx1506
 refine blk_x (tn ?_)
 replace hst := hst.keep1
 obtain rfl := some_inj hm
 exact ⟨z1498, _, hx1519, (fu 0 r0_0 z (fu 3 v1470 z (fu 4 (.int .i64 z1354) z (fu 5 (.int .i64 z1472) z (fu 6 (.int .i64 z1498) z z))))), hst⟩
}
}
 {
 clear hst
 rintro _ w1520 ⟨z1515, σ1516, hm, rfl, hst⟩
 dsimp only [ref03_Order_j2] at hm
 refine wp_seq (wrl (wv (.int .i64 z1515) z z z (wv (.int .i64 z1354) z z z (wv (.bool (z1515 == z1354)) z z z (wl_nil (tn ?_))))))
 refine bsplit (z1515 == z1354) (fun hc1521 => ?_) (fun hc1521 => ?_)
 {
 replace hm := bif_t hc1521 hm
 refine wp_ift (cvb hc1521) ?_
 refine wrl (wv (v1470) z z z (wv (.int .i64 z1472) z z z ?_))
 obtain ⟨b1522, w1523, ew1524, eb1525, hst⟩ := hst.lits (E := (tyInt .i64)) (xs := [z1472]) [[I6 z1472]] 3 1 z (Reps.cons z Reps.nil)
 refine wl_run (v := (.slice (some ⟨b1522, 0, none⟩) 1 1)) (w' := w1523) z z (x_als (by kernel_rfl) ew1524 eb1525) ?_
 obtain ⟨hg1527, hm⟩ := gd_some hm
 replace hst := hst.pull1
 obtain ⟨v1528, w1529, hr1530, hst⟩ := run_append elem_41 underlying41 hst hst.src1 (room_of hg1527 z) 41
 refine wl_run (v := v1528) (w' := w1529) z z (x_append z z hr1530) ?_
 refine wv (v1528) z z z (wl_nil (blk_n (tn (wrl (wv (.int .i64 z1472) z z z (wv (.int .i64 (i64.wrap (z1472 + (1:Int)))) z z z (wv (.int .i64 (i64.wrap (z1472 + (1:Int)))) z z z (wl_nil (tn ?_)))))))))
 replace hst := hst.keep1
 obtain rfl := some_inj hm
 exact ⟨_, Nat.lt_succ_self _, (z1469 ++ ([z1472])), (i64.wrap (z1472 + (1:Int))), v1528, _, hx1479, (fu 0 r0_0 z (fu 3 v1528 z (fu 4 (.int .i64 z1354) z (fu 5 (.int .i64 (i64.wrap (z1472 + (1:Int)))) z z)))), hst⟩
}
 {
 replace hm := bif_f hc1521 hm
 refine wp_iff (cvb hc1521) ?_
 refine wp_skip (blk_n (tn (wrl ?_)))
 refine wv (.int .i64 z1472) z z z (wv (.int .i64 (i64.wrap (z1472 + (1:Int)))) z z z (wv (.int .i64 (i64.wrap (z1472 + (1:Int)))) z z z (wl_nil (tn ?_))))
 replace hst := hst.keep1
 obtain rfl := some_inj hm
 exact ⟨_, Nat.lt_succ_self _, z1469, (i64.wrap (z1472 + (1:Int))), v1470, _, hx1479, (fu 0 r0_0 z (fu 3 v1470 z (fu 4 (.int .i64 z1354) z (fu 5 (.int .i64 (i64.wrap (z1472 + (1:Int)))) z z)))), hst⟩
}
}
}
 {
 replace hm := bif_f hc1481 hm
 refine wp_iff (cvb hc1481) ?_
 refine wp_exit (then_x (then_x ?_))
 replace hm := inr_up hm hx1479
 refine blk_x (blk_n (tn (wrl ?_)))
 refine wv (.int .i64 z1354) z z z (wv (.int .i64 (i64.wrap (z1354 + (1:Int)))) z z z (wv (.int .i64 (i64.wrap (z1354 + (1:Int)))) z z z (wl_nil (tn ?_))))
 replace hst := hst.keep1
 obtain rfl := some_inj hm
 exact ⟨_, Nat.lt_succ_self _, z1469, (i64.wrap (z1354 + (1:Int))), v1470, _, hx1361, (fu 0 r0_0 z (fu 3 v1470 z (fu 4 (.int .i64 (i64.wrap (z1354 + (1:Int)))) z z))), hst⟩
}
}
 {
 replace hm := bif_f hc1363 hm
 refine wp_iff (cvb hc1363) ?_
 refine wp_exit (then_x (then_x ?_))
 replace hm := inr_up hm hx1361
 refine blk_x (tn (wp_seq (wrl ?_)))
 refine wv (v1352) z z z (wv (v1352) z z z (wl_nil (tn (wp_ret ?_))))
 obtain rfl := some_inj hm
 refine post_ret (vs := [v1352]) results35 (rvs_cons (rv_tmp z) rvs_nil) ?_
 exact ⟨v1352, z, hst.keep1⟩
}
}

theorem slices_Clone_int_int_ref {w0 w : World} {I : HL} {R : SP} {a0 : (List Int)} {r0_0 : Value} (f0_0 : Rd (tyInt .i64) R I r0_0 a0) (hst : St w0 w I [] R) {r : (List Int)} (hm : slices_Clone_int_int a0 = some r) :
  Calls prog 36 #[r0_0] w fun e w' => ∃ (q0_0 : Value), e = .returned (q0_0) ∧ St w0 w' I [ownS (tyInt .i64) q0_0 r] R := by {
 unfold slices_Clone_int_int at hm
 obtain ⟨hg, hm⟩ := gd_some hm
 obtain rfl := some_inj hm
 have hsv := rd_sliceV f0_0
 refine calls_start (args := [r0_0]) func36 z ntmps36 (Nat.le_of_ble_eq_true z) ?_
 refine wp_seq (wrl (wv ((.slice none 0 0)) z z z (wl_nil (tn (wp_seq (wp_seq (wrl (wv (r0_0) z z z (wv (.bool (isNil r0_0)) z z (x_slnil z hsv z underlying41) (wl_nil (tn ?_)))))))))))
 refine bsplit (isNil r0_0) (fun hc66 => ?_) (fun hc66 => ?_)
 {
 refine wp_ift (cvb hc66) ?_
 refine wp_seq (wrl (wv ((.slice none 0 0)) z z z (wl_nil (tn (wp_ret (then_r ?_))))))
 refine post_ret (vs := [Zs]) results36 (rvs_cons (rv_tmp z) rvs_nil) ?_
 obtain rfl := List.eq_nil_of_length_eq_zero (isNil_len hsv hc66)
 exact ⟨_, z, (hst.own_nil (tyInt .i64)).keep1⟩
}
 {
 refine wp_iff (cvb hc66) ?_
 refine wp_skip (tn (wp_seq (wrl ?_)))
 obtain ⟨b, w1, ew, eb, hst⟩ := hst.lits (E := (tyInt .i64)) (xs := []) [] 3 0 z Reps.nil
 refine wl_run (v := (.slice (some ⟨b, 0, none⟩) 0 0)) (w' := w1) z z (x_als (by kernel_rfl) ew eb) ?_
 refine wv (r0_0) z z z ?_
 obtain ⟨v2, w2, hr, hst⟩ := run_append elem_41 underlying41 hst (Src.of_rd hst f0_0 flat_int) (room_of hg z) 41
 refine wl_run (v := v2) (w' := w2) z z (x_append z z hr) ?_
 refine wv (v2) z z z (wl_nil (tn (wp_ret ?_)))
 refine post_ret (vs := [v2]) results36 (rvs_cons (rv_tmp z) rvs_nil) ?_
 rw [List.nil_append] at hst
 exact ⟨_, z, hst.keep1⟩
}
}

theorem label_Lattice_Order_ref {w0 w : World} {I : HL} {R : SP} {a0 : (Option label_Lattice)} {p0 : Value}  (hst : St w0 w I [objO at_label_Lattice p0 a0] R) {r : ((List Int))} (hm : label_Lattice_Order a0 = some r) :
  Calls prog 22 #[p0] w fun e w' => ∃ (q0_0 : Value), e = .returned (q0_0) ∧ St w0 w' I [ownS (tyInt .i64) q0_0 r, objO at_label_Lattice p0 a0] R := by {
 rcases a0 with _ | o0
 {
 obtain ⟨rfl, hst'⟩ := objO_none hst
 clear hst
 have hst := hst'
 clear hst'
 dsimp only [label_Lattice_Order] at hm
 refine calls_start (args := [.pointer none]) func22 z ntmps22 (Nat.le_of_ble_eq_true z) ?_
 refine wp_seq (wrl (wv ((.slice none 0 0)) z z z (wl_nil (tn (wp_seq (wp_seq (wrl (wv (.pointer none) z z z (wv (.bool true) z z (by kernel_rfl) (wl_nil (tn ?_)))))))))))
 refine wp_ift z ?_
 refine wp_seq (wrl (wv ((.slice none 0 0)) z z z (wl_nil (tn (wp_ret (then_r ?_))))))
 replace hst := hst.own_nil (tyInt .i64)
 replace hst := hst.objO_nil at_label_Lattice
 obtain rfl := some_inj hm
 refine post_ret (vs := [Zs]) results22 (rvs_cons (rv_tmp z) rvs_nil) ?_
 replace hst := hst.pull1
 exact ⟨(.slice none 0 0), z, hst.keep2⟩
}
 {
 replace hst := objO_get hst
 dsimp only [label_Lattice_Order] at hm
 refine calls_start (args := [p0]) func22 z ntmps22 (Nat.le_of_ble_eq_true z) ?_
 refine wp_seq (wrl (wv ((.slice none 0 0)) z z z (wl_nil (tn (wp_seq (wp_seq (wrl (wv (p0) z z z ?_))))))))
 obtain ⟨b79, v80, v82, v84, v86, v88, v90, rfl, hst'⟩ := at_label_Lattice_open hst
 clear hst
 have hst := hst'
 clear hst'
 refine wv (.bool false) z z (by kernel_rfl) (wl_nil (tn ?_))
 refine wp_iff z ?_
 refine wp_skip (tn (wp_seq (wrl ?_)))
 refine wv (Pt b79 0) z z z (wv (Pt b79 0) z z z (wv (Pt b79 5) z z (x_field z underlying49 z sizeOf41 z) (wv (v90) z z (x_load z isAgg41 (hst.bc0 z)) ?_)))
 replace hst := hst.pull6
 obtain ⟨css92, hq93, hst⟩ := hst.own_open
 obtain ⟨t94, ht95, hm⟩ := bind_some hm
 refine wc call36 [v90] z z z ?_
 refine (slices_Clone_int_int_ref (hst.rdrow0 hq93) hst.to0 ht95).mono ?_
 rintro _ w96 ⟨v99, rfl, hst⟩
 refine ⟨_, z, ?_⟩
 replace hst := hst.of1.pull1.own_close hq93
 refine wv (v99) z z z (wl_nil (tn (wp_ret ?_)))
 replace hst := hst.pull7.pull7.pull7.pull7.pull7.pull7
 replace hst := at_label_Lattice_close (pv := Pt b79 0) (x := o0) hst z
 replace hst := objO_some hst
 obtain rfl := some_inj hm
 refine post_ret (vs := [v99]) results22 (rvs_cons (rv_tmp z) rvs_nil) ?_
 replace hst := hst.pull1
 exact ⟨v99, z, hst.keep2⟩
}
}

theorem label_Lattice_Bottom_ref {w0 w : World} {I : HL} {R : SP} {a0 : (Option label_Lattice)} {p0 : Value}  (hst : St w0 w I [objO at_label_Lattice p0 a0] R) {r : (Int)} (hm : label_Lattice_Bottom a0 = some r) :
  Calls prog 16 #[p0] w fun e w' => e = .returned (.int .i64 r) ∧ St w0 w' I [objO at_label_Lattice p0 a0] R := by {
 rcases a0 with _ | o0
 {
 obtain ⟨rfl, hst'⟩ := objO_none hst
 clear hst
 have hst := hst'
 clear hst'
 dsimp only [label_Lattice_Bottom] at hm
 refine calls_start (args := [.pointer none]) func16 z ntmps16 (Nat.le_of_ble_eq_true z) ?_
 refine wp_seq (wrl (wv (.int .i64 (0:Int)) z z z (wl_nil (tn (wp_seq (wp_seq (wrl (wv (.pointer none) z z z (wv (.bool true) z z (by kernel_rfl) (wl_nil (tn ?_)))))))))))
 refine wp_ift z ?_
 refine wp_seq (wrl (wv (.int .i64 ((-1):Int)) z z z (wl_nil (tn (wp_ret (then_r ?_))))))
 replace hst := hst.objO_nil at_label_Lattice
 obtain rfl := some_inj hm
 refine post_ret (vs := [I6 ((-1):Int)]) results16 (rvs_cons (rv_tmp z) rvs_nil) ?_
 exact ⟨z, hst.keep1⟩
}
 {
 replace hst := objO_get hst
 dsimp only [label_Lattice_Bottom] at hm
 refine calls_start (args := [p0]) func16 z ntmps16 (Nat.le_of_ble_eq_true z) ?_
 refine wp_seq (wrl (wv (.int .i64 (0:Int)) z z z (wl_nil (tn (wp_seq (wp_seq (wrl (wv (p0) z z z ?_))))))))
 obtain ⟨b76, v77, v79, v81, v83, v85, v87, rfl, hst'⟩ := at_label_Lattice_open hst
 clear hst
 have hst := hst'
 clear hst'
 refine wv (.bool false) z z (by kernel_rfl) (wl_nil (tn ?_))
 refine wp_iff z ?_
 refine wp_skip (tn (wp_seq (wrl ?_)))
 refine wv (Pt b76 0) z z z (wv (Pt b76 0) z z z (wv (Pt b76 5) z z (x_field z underlying49 z sizeOf41 z) (wv (v87) z z (x_load z isAgg41 (hst.bc0 z)) ?_)))
 obtain ⟨x89, hx90, hm⟩ := bind_some hm
 obtain ⟨h91, h92, hi93⟩ := geto_some hx90
 refine wv (.pointer (some (eAddr v87 ((0:Int).toNat * 1 + 0)))) z z (x_index z z underlying41 sizeOf3 hst.sv6 h91 h92) (wv (.int .i64 x89) z z (x_load z isAgg3 (hst.ol6 hi93 (by rintro _ rfl; rfl))) (wv (.int .i64 x89) z z z (wl_nil (tn (wp_ret ?_)))))
 replace hst := hst.pull6.pull6.pull6.pull6.pull6.pull6.pull6
 replace hst := at_label_Lattice_close (pv := Pt b76 0) (x := o0) hst z
 replace hst := objO_some hst
 obtain rfl := some_inj hm
 refine post_ret (vs := [I6 x89]) results16 (rvs_cons (rv_tmp z) rvs_nil) ?_
 exact ⟨z, hst.keep1⟩
}
}

theorem label_Lattice_Top_ref {w0 w : World} {I : HL} {R : SP} {a0 : (Option label_Lattice)} {p0 : Value}  (hst : St w0 w I [objO at_label_Lattice p0 a0] R) {r : (Int)} (hm : label_Lattice_Top a0 = some r) :
  Calls prog 17 #[p0] w fun e w' => e = .returned (.int .i64 r) ∧ St w0 w' I [objO at_label_Lattice p0 a0] R := by {
 rcases a0 with _ | o0
 {
 obtain ⟨rfl, hst'⟩ := objO_none hst
 clear hst
 have hst := hst'
 clear hst'
 dsimp only [label_Lattice_Top] at hm
 refine calls_start (args := [.pointer none]) func17 z ntmps17 (Nat.le_of_ble_eq_true z) ?_
 refine wp_seq (wrl (wv (.int .i64 (0:Int)) z z z (wl_nil (tn (wp_seq (wp_seq (wrl (wv (.pointer none) z z z (wv (.bool true) z z (by kernel_rfl) (wl_nil (tn ?_)))))))))))
 refine wp_ift z ?_
 refine wp_seq (wrl (wv (.int .i64 ((-1):Int)) z z z (wl_nil (tn (wp_ret (then_r ?_))))))
 replace hst := hst.objO_nil at_label_Lattice
 obtain rfl := some_inj hm
 refine post_ret (vs := [I6 ((-1):Int)]) results17 (rvs_cons (rv_tmp z) rvs_nil) ?_
 exact ⟨z, hst.keep1⟩
}
 {
 replace hst := objO_get hst
 dsimp only [label_Lattice_Top] at hm
 refine calls_start (args := [p0]) func17 z ntmps17 (Nat.le_of_ble_eq_true z) ?_
 refine wp_seq (wrl (wv (.int .i64 (0:Int)) z z z (wl_nil (tn (wp_seq (wp_seq (wrl (wv (p0) z z z ?_))))))))
 obtain ⟨b76, v77, v79, v81, v83, v85, v87, rfl, hst'⟩ := at_label_Lattice_open hst
 clear hst
 have hst := hst'
 clear hst'
 refine wv (.bool false) z z (by kernel_rfl) (wl_nil (tn ?_))
 refine wp_iff z ?_
 refine wp_skip (tn (wp_seq ?_))
 refine wq_regionS hst Try.mixed (by kernel_rfl) ?_
 refine wq_run (v := Pt b76 0) z z (fun w hst => z) ?_
 refine wq_run (v := Pt b76 0) z z (fun w hst => z) ?_
 refine wq_run (v := Pt b76 5) z z (fun w hst => x_field z underlying49 z sizeOf41 z) ?_
 refine wq_run (v := v87) z z (fun w hst => x_load z isAgg41 (hst.bc0 z)) ?_
 refine wq_run (v := Pt b76 0) z z (fun w hst => z) ?_
 refine wq_run (v := Pt b76 0) z z (fun w hst => z) ?_
 refine wq_run (v := Pt b76 5) z z (fun w hst => x_field z underlying49 z sizeOf41 z) ?_
 refine wq_run (v := v87) z z (fun w hst => x_load z isAgg41 (hst.bc0 z)) ?_
 refine wq_run (v := .int .i64 ((o0.all).length : Int)) z z (fun w hst => x_len z underlying41 hst.sv6) ?_
 refine wq_run (v := .int .i64 (i64.wrap (((o0.all).length : Int) - (1:Int)))) z z (fun w hst => z) ?_
 obtain ⟨x89, hx90, hm⟩ := bind_some hm
 obtain ⟨h91, h92, hi93⟩ := geto_some hx90
 refine wq_run (v := .pointer (some (eAddr v87 ((i64.wrap (((o0.all).length : Int) - (1:Int))).toNat * 1 + 0)))) z z (fun w hst => x_index z z underlying41 sizeOf3 hst.sv6 h91 h92) ?_
 refine wq_run (v := .int .i64 x89) z z (fun w hst => x_load z isAgg3 (hst.ol6 hi93 (by rintro _ rfl; rfl))) ?_
 refine wq_run (v := .int .i64 x89) z z (fun w hst => z) ?_
 refine wq_nil ?_
 intro w hst
 refine tn (wp_ret ?_)
 replace hst := hst.pull6.pull6.pull6.pull6.pull6.pull6.pull6
 replace hst := at_label_Lattice_close (pv := Pt b76 0) (x := o0) hst z
 replace hst := objO_some hst
 obtain rfl := some_inj hm
 refine post_ret (vs := [I6 x89]) results17 (rvs_cons (rv_tmp z) rvs_nil) ?_
 exact ⟨z, hst.keep1⟩
}
}

theorem label_Lattice_Leq_ref {w0 w : World} {I : HL} {R : SP} {a0 : (Option label_Lattice)} {p0 : Value} {a1 : Int} {a2 : Int}  (hst : St w0 w I [objO at_label_Lattice p0 a0] R) {r : (Bool)} (hm : label_Lattice_Leq a0 a1 a2 = some r) :
  Calls prog 15 #[p0, I6 a1, I6 a2] w fun e w' => e = .returned (.bool r) ∧ St w0 w' I [objO at_label_Lattice p0 a0] R := by {
 rcases a0 with _ | o0
 {
 obtain ⟨rfl, hst'⟩ := objO_none hst
 clear hst
 have hst := hst'
 clear hst'
 dsimp only [label_Lattice_Leq] at hm
 refine calls_start (args := [.pointer none, I6 a1, I6 a2]) func15 z ntmps15 (Nat.le_of_ble_eq_true z) ?_
 refine wp_seq (wrl (wv (.bool false) z z z (wl_nil (tn (wp_seq (wrl (wv (.pointer none) z z z (wv (.int .i64 a1) z z z ?_))))))))
 replace hst := hst.objO_nil at_label_Lattice
 obtain ⟨t201, ht202, hm⟩ := bind_some hm
 refine wc call23 [.pointer none, I6 a1] z z z ?_
 refine (label_Lattice_Is_ref hst.to1 ht202).mono ?_
 rintro _ w203 ⟨rfl, hst⟩
 refine ⟨_, z, ?_⟩
 replace hst := hst.of1
 refine wv (.bool t201) z z z ?_
 refine bsplit t201 (fun hc206 => ?_) (fun hc206 => ?_)
 {
 replace hm := bif_t hc206 hm
 refine wv (.pointer none) ((wanted_eq z z z (cvb hc206)).trans z) z z (wv (.int .i64 a2) ((wanted_eq z z z (cvb hc206)).trans z) z z ?_)
 replace hst := hst.objO_nil at_label_Lattice
 obtain ⟨t208, ht209, hm⟩ := bind_some hm
 refine wl_call ((wanted_eq z z z (cvb hc206)).trans z) z (x_call call23 z (vs := [.pointer none, I6 a2]) z) ?_
 refine (label_Lattice_Is_ref hst.to1 ht209).mono ?_
 rintro _ w210 ⟨rfl, hst⟩
 refine ⟨_, z, ?_⟩
 replace hst := hst.of1
 refine wv (.bool t208) z z (x_pick_t hc206 z z) (wv (.bool t208) z z z ?_)
 refine bsplit t208 (fun hc213 => ?_) (fun hc213 => ?_)
 {
 replace hm := bif_t hc213 hm
 refine wv (.pointer none) ((wanted_eq z z z (cvb hc213)).trans z) z z ?_
 cases hm
}
 {
 replace hm := bif_f hc213 hm
 refine wo hc213 z z z z z z (wo hc213 z z z z z z (wo hc213 z z z z z z (wo hc213 z z z z z z (wo hc213 z z z z z z (wo hc213 z z z z z z (wo hc213 z z z z z z (wo hc213 z z z z z z (wo hc213 z z z z z z (wo hc213 z z z z z z (wo hc213 z z z z z z (wv (.bool false) z z (x_pick_f hc213 z z) (wv (.bool false) z z z ?_))))))))))))
 refine wl_nil (tn (wp_ret ?_))
 replace hst := hst.objO_nil at_label_Lattice
 obtain rfl := some_inj hm
 refine post_ret (vs := [.bool false]) results15 (rvs_cons (rv_tmp z) rvs_nil) ?_
 exact ⟨z, hst.keep1⟩
}
}
 {
 replace hm := bif_f hc206 hm
 refine wo hc206 z z z z z z (wo hc206 z z z z z z (wo hc206 z z z z z z (wv (.bool false) z z (x_pick_f hc206 z z) (wv (.bool false) z z z (wz z z z z z z (wz z z z z z z (wz z z z z z z (wz z z z z z z (wz z z z z z z (wz z z z z z z (wz z z z z z z (wz z z z z z z ?_))))))))))))
 refine wz z z z z z z (wz z z z z z z (wz z z z z z z (wv (.bool false) z z (x_pick_f z z z) (wv (.bool false) z z z (wl_nil (tn (wp_ret ?_)))))))
 replace hst := hst.objO_nil at_label_Lattice
 obtain rfl := some_inj hm
 refine post_ret (vs := [.bool false]) results15 (rvs_cons (rv_tmp z) rvs_nil) ?_
 exact ⟨z, hst.keep1⟩
}
}
 {
 replace hst := objO_get hst
 dsimp only [label_Lattice_Leq] at hm
 refine calls_start (args := [p0, I6 a1, I6 a2]) func15 z ntmps15 (Nat.le_of_ble_eq_true z) ?_
 refine wp_seq (wrl (wv (.bool false) z z z (wl_nil (tn (wp_seq (wrl (wv (p0) z z z (wv (.int .i64 a1) z z z ?_))))))))
 replace hst := objO_some hst
 obtain ⟨t214, ht215, hm⟩ := bind_some hm
 refine wc call23 [p0, I6 a1] z z z ?_
 refine (label_Lattice_Is_ref hst.to1 ht215).mono ?_
 rintro _ w216 ⟨rfl, hst⟩
 refine ⟨_, z, ?_⟩
 replace hst := hst.of1
 replace hst := objO_get hst
 refine wv (.bool t214) z z z ?_
 refine bsplit t214 (fun hc219 => ?_) (fun hc219 => ?_)
 {
 replace hm := bif_t hc219 hm
 refine wv (p0) ((wanted_eq z z z (cvb hc219)).trans z) z z (wv (.int .i64 a2) ((wanted_eq z z z (cvb hc219)).trans z) z z ?_)
 replace hst := objO_some hst
 obtain ⟨t220, ht221, hm⟩ := bind_some hm
 refine wl_call ((wanted_eq z z z (cvb hc219)).trans z) z (x_call call23 z (vs := [p0, I6 a2]) z) ?_
 refine (label_Lattice_Is_ref hst.to1 ht221).mono ?_
 rintro _ w222 ⟨rfl, hst⟩
 refine ⟨_, z, ?_⟩
 replace hst := hst.of1
 replace hst := objO_get hst
 refine wv (.bool t220) z z (x_pick_t hc219 z z) (wv (.bool t220) z z z ?_)
 refine bsplit t220 (fun hc225 => ?_) (fun hc225 => ?_)
 {
 replace hm := bif_t hc225 hm
 refine wv (p0) ((wanted_eq z z z (cvb hc225)).trans z) z z ?_
 obtain ⟨b226, v227, v229, v231, v233, v235, v237, rfl, hst'⟩ := at_label_Lattice_open hst
 clear hst
 have hst := hst'
 clear hst'
 refine wv (Pt b226 0) ((wanted_eq z z z (cvb hc225)).trans z) z z (wv (Pt b226 0) ((wanted_eq z z z (cvb hc225)).trans z) z (x_field z underlying49 z sizeOf28 z) (wv (v227) ((wanted_eq z z z (cvb hc225)).trans z) z (x_load z isAgg28 (hst.bc0 z)) (wv (.int .i64 a1) ((wanted_eq z z z (cvb hc225)).trans z) z z ?_)))
 obtain ⟨x239, hx240, hm⟩ := bind_some hm
 obtain ⟨h241, h242, hi243⟩ := geto_some hx240
 refine wv (.pointer (some (eAddr v227 (a1.toNat * 1 + 0)))) ((wanted_eq z z z (cvb hc225)).trans z) z (x_index z z underlying28 sizeOf43 hst.sv1 h241 h242) (wv (.int .u64 x239) ((wanted_eq z z z (cvb hc225)).trans z) z (x_load z isAgg43 (hst.ol1 hi243 (by rintro _ rfl; rfl))) (wv (.int .i64 a2) ((wanted_eq z z z (cvb hc225)).trans z) z z ?_))
 obtain ⟨hg244, hm⟩ := gd_some hm
 refine wv (.int .u64 (iShr .u64 x239 a2)) ((wanted_eq z z z (cvb hc225)).trans z) z (x_shr (of_decide_eq_true hg244) z z) (wv (.int .u64 (bAnd .u64 (iShr .u64 x239 a2) (1:Int))) ((wanted_eq z z z (cvb hc225)).trans z) z z (wv (.bool ((bAnd .u64 (iShr .u64 x239 a2) (1:Int)) == (1:Int))) ((wanted_eq z z z (cvb hc225)).trans z) z z (wv (.bool ((bAnd .u64 (iShr .u64 x239 a2) (1:Int)) == (1:Int))) z z (x_pick_t hc225 z z) (wv (.bool ((bAnd .u64 (iShr .u64 x239 a2) (1:Int)) == (1:Int))) z z z (wl_nil (tn (wp_ret ?_)))))))
 replace hst := hst.pull6.pull6.pull6.pull6.pull6.pull6.pull6
 replace hst := at_label_Lattice_close (pv := Pt b226 0) (x := o0) hst z
 replace hst := objO_some hst
 obtain rfl := some_inj hm
 refine post_ret (vs := [.bool ((bAnd .u64 (iShr .u64 x239 a2) (1:Int)) == (1:Int))]) results15 (rvs_cons (rv_tmp z) rvs_nil) ?_
 exact ⟨z, hst.keep1⟩
}
 {
 replace hm := bif_f hc225 hm
 refine wo hc225 z z z z z z (wo hc225 z z z z z z (wo hc225 z z z z z z (wo hc225 z z z z z z (wo hc225 z z z z z z (wo hc225 z z z z z z (wo hc225 z z z z z z (wo hc225 z z z z z z (wo hc225 z z z z z z (wo hc225 z z z z z z (wo hc225 z z z z z z (wv (.bool false) z z (x_pick_f hc225 z z) (wv (.bool false) z z z ?_))))))))))))
 refine wl_nil (tn (wp_ret ?_))
 replace hst := objO_some hst
 obtain rfl := some_inj hm
 refine post_ret (vs := [.bool false]) results15 (rvs_cons (rv_tmp z) rvs_nil) ?_
 exact ⟨z, hst.keep1⟩
}
}
 {
 replace hm := bif_f hc219 hm
 refine wo hc219 z z z z z z (wo hc219 z z z z z z (wo hc219 z z z z z z (wv (.bool false) z z (x_pick_f hc219 z z) (wv (.bool false) z z z (wz z z z z z z (wz z z z z z z (wz z z z z z z (wz z z z z z z (wz z z z z z z (wz z z z z z z (wz z z z z z z (wz z z z z z z ?_))))))))))))
 refine wz z z z z z z (wz z z z z z z (wz z z z z z z (wv (.bool false) z z (x_pick_f z z z) (wv (.bool false) z z z (wl_nil (tn (wp_ret ?_)))))))
 replace hst := objO_some hst
 obtain rfl := some_inj hm
 refine post_ret (vs := [.bool false]) results15 (rvs_cons (rv_tmp z) rvs_nil) ?_
 exact ⟨z, hst.keep1⟩
}
}
}

theorem label_Lattice_Meet_ref {w0 w : World} {I : HL} {R : SP} {a0 : (Option label_Lattice)} {p0 : Value} {a1 : Int} {a2 : Int}  (hst : St w0 w I [objO at_label_Lattice p0 a0] R) {r : (Int)} (hm : label_Lattice_Meet a0 a1 a2 = some r) :
  Calls prog 14 #[p0, I6 a1, I6 a2] w fun e w' => e = .returned (.int .i64 r) ∧ St w0 w' I [objO at_label_Lattice p0 a0] R := by {
 rcases a0 with _ | o0
 {
 obtain ⟨rfl, hst'⟩ := objO_none hst
 clear hst
 have hst := hst'
 clear hst'
 dsimp only [label_Lattice_Meet] at hm
 refine calls_start (args := [.pointer none, I6 a1, I6 a2]) func14 z ntmps14 (Nat.le_of_ble_eq_true z) ?_
 refine wp_seq (wrl (wv (.int .i64 (0:Int)) z z z (wl_nil (tn (wp_seq (wp_seq (wrl (wv (.pointer none) z z z (wv (.int .i64 a1) z z z ?_)))))))))
 replace hst := hst.objO_nil at_label_Lattice
 obtain ⟨t234, ht235, hm⟩ := bind_some hm
 refine wc call23 [.pointer none, I6 a1] z z z ?_
 refine (label_Lattice_Is_ref hst.to1 ht235).mono ?_
 rintro _ w236 ⟨rfl, hst⟩
 refine ⟨_, z, ?_⟩
 replace hst := hst.of1
 refine wv (.bool (!t234)) z z z (wv (.bool (!t234)) z z z ?_)
 refine bsplit (!t234) (fun hc239 => ?_) (fun hc239 => ?_)
 {
 replace hm := bif_t hc239 hm
 refine wo hc239 z z z z z z (wo hc239 z z z z z z (wo hc239 z z z z z z (wo hc239 z z z z z z (wv (.bool true) z z (x_pick_t hc239 z z) (wl_nil (tn ?_))))))
 refine wp_ift z ?_
 refine wp_seq (wrl (wv (.int .i64 ((-1):Int)) z z z (wl_nil (tn (wp_ret (then_r ?_))))))
 replace hst := hst.objO_nil at_label_Lattice
 obtain rfl := some_inj hm
 refine post_ret (vs := [I6 ((-1):Int)]) results14 (rvs_cons (rv_tmp z) rvs_nil) ?_
 exact ⟨z, hst.keep1⟩
}
 {
 replace hm := bif_f hc239 hm
 refine wv (.pointer none) ((wanted_eq z z z (cvb hc239)).trans z) z z (wv (.int .i64 a2) ((wanted_eq z z z (cvb hc239)).trans z) z z ?_)
 replace hst := hst.objO_nil at_label_Lattice
 obtain ⟨t241, ht242, hm⟩ := bind_some hm
 refine wl_call ((wanted_eq z z z (cvb hc239)).trans z) z (x_call call23 z (vs := [.pointer none, I6 a2]) z) ?_
 refine (label_Lattice_Is_ref hst.to1 ht242).mono ?_
 rintro _ w243 ⟨rfl, hst⟩
 refine ⟨_, z, ?_⟩
 replace hst := hst.of1
 refine wv (.bool (!t241)) ((wanted_eq z z z (cvb hc239)).trans z) z z (wv (.bool (!t241)) z z (x_pick_f hc239 z z) (wl_nil (tn ?_)))
 refine bsplit (!t241) (fun hc246 => ?_) (fun hc246 => ?_)
 {
 replace hm := bif_t hc246 hm
 refine wp_ift (cvb hc246) ?_
 refine wp_seq (wrl (wv (.int .i64 ((-1):Int)) z z z (wl_nil (tn (wp_ret (then_r ?_))))))
 replace hst := hst.objO_nil at_label_Lattice
 obtain rfl := some_inj hm
 refine post_ret (vs := [I6 ((-1):Int)]) results14 (rvs_cons (rv_tmp z) rvs_nil) ?_
 exact ⟨z, hst.keep1⟩
}
 {
 replace hm := bif_f hc246 hm
 refine wp_iff (cvb hc246) ?_
 refine wp_skip (tn (wp_seq (wrl ?_)))
 refine wv (.pointer none) z z z ?_
 cases hm
}
}
}
 {
 replace hst := objO_get hst
 dsimp only [label_Lattice_Meet] at hm
 refine calls_start (args := [p0, I6 a1, I6 a2]) func14 z ntmps14 (Nat.le_of_ble_eq_true z) ?_
 refine wp_seq (wrl (wv (.int .i64 (0:Int)) z z z (wl_nil (tn (wp_seq (wp_seq (wrl (wv (p0) z z z (wv (.int .i64 a1) z z z ?_)))))))))
 replace hst := objO_some hst
 obtain ⟨t247, ht248, hm⟩ := bind_some hm
 refine wc call23 [p0, I6 a1] z z z ?_
 refine (label_Lattice_Is_ref hst.to1 ht248).mono ?_
 rintro _ w249 ⟨rfl, hst⟩
 refine ⟨_, z, ?_⟩
 replace hst := hst.of1
 replace hst := objO_get hst
 refine wv (.bool (!t247)) z z z (wv (.bool (!t247)) z z z ?_)
 refine bsplit (!t247) (fun hc252 => ?_) (fun hc252 => ?_)
 {
 replace hm := bif_t hc252 hm
 refine wo hc252 z z z z z z (wo hc252 z z z z z z (wo hc252 z z z z z z (wo hc252 z z z z z z (wv (.bool true) z z (x_pick_t hc252 z z) (wl_nil (tn ?_))))))
 refine wp_ift z ?_
 refine wp_seq (wrl (wv (.int .i64 ((-1):Int)) z z z (wl_nil (tn (wp_ret (then_r ?_))))))
 replace hst := objO_some hst
 obtain rfl := some_inj hm
 refine post_ret (vs := [I6 ((-1):Int)]) results14 (rvs_cons (rv_tmp z) rvs_nil) ?_
 exact ⟨z, hst.keep1⟩
}
 {
 replace hm := bif_f hc252 hm
 refine wv (p0) ((wanted_eq z z z (cvb hc252)).trans z) z z (wv (.int .i64 a2) ((wanted_eq z z z (cvb hc252)).trans z) z z ?_)
 replace hst := objO_some hst
 obtain ⟨t253, ht254, hm⟩ := bind_some hm
 refine wl_call ((wanted_eq z z z (cvb hc252)).trans z) z (x_call call23 z (vs := [p0, I6 a2]) z) ?_
 refine (label_Lattice_Is_ref hst.to1 ht254).mono ?_
 rintro _ w255 ⟨rfl, hst⟩
 refine ⟨_, z, ?_⟩
 replace hst := hst.of1
 replace hst := objO_get hst
 refine wv (.bool (!t253)) ((wanted_eq z z z (cvb hc252)).trans z) z z (wv (.bool (!t253)) z z (x_pick_f hc252 z z) (wl_nil (tn ?_)))
 refine bsplit (!t253) (fun hc258 => ?_) (fun hc258 => ?_)
 {
 replace hm := bif_t hc258 hm
 refine wp_ift (cvb hc258) ?_
 refine wp_seq (wrl (wv (.int .i64 ((-1):Int)) z z z (wl_nil (tn (wp_ret (then_r ?_))))))
 replace hst := objO_some hst
 obtain rfl := some_inj hm
 refine post_ret (vs := [I6 ((-1):Int)]) results14 (rvs_cons (rv_tmp z) rvs_nil) ?_
 exact ⟨z, hst.keep1⟩
}
 {
 replace hm := bif_f hc258 hm
 refine wp_iff (cvb hc258) ?_
 refine wp_skip (tn (wp_seq (wrl ?_)))
 refine wv (p0) z z z ?_
 obtain ⟨b259, v260, v262, v264, v266, v268, v270, rfl, hst'⟩ := at_label_Lattice_open hst
 clear hst
 have hst := hst'
 clear hst'
 refine wv (Pt b259 0) z z z (wv (Pt b259 3) z z (x_field z underlying49 z sizeOf47 z) (wv (v266) z z (x_load z isAgg47 (hst.bc0 z)) (wv (.int .i64 a1) z z z ?_)))
 obtain ⟨x272, hx273, hm⟩ := bind_some hm
 obtain ⟨h274, h275, hi276⟩ := geto_some hx273
 refine wv (.pointer (some (eAddr v266 (a1.toNat * 1 + 0)))) z z (x_index z z underlying47 sizeOf41 hst.sv4 h274 h275) ?_
 obtain ⟨cs277, hr278, hc279⟩ := hst.og4 hi276
 obtain ⟨v280, rfl, f281, -⟩ := hr278
 refine wv (v280) z z (x_load z isAgg41 (hc279 0 _ z)) (wv (.int .i64 a2) z z z ?_)
 obtain ⟨x283, hx284, hm⟩ := bind_some hm
 obtain ⟨h285, h286, hi287⟩ := geto_some hx284
 refine wv (.pointer (some (eAddr v280 (a2.toNat * 1 + 0)))) z z (x_index z z underlying41 sizeOf3 (ro_sliceV f281) h285 h286) (wv (.int .i64 x283) z z (x_load z isAgg3 (ro_load f281 hst hi287 (by rintro _ rfl; rfl))) (wv (.int .i64 x283) z z z (wl_nil (tn (wp_ret ?_)))))
 replace hst := hst.pull6.pull6.pull6.pull6.pull6.pull6.pull6
 replace hst := at_label_Lattice_close (pv := Pt b259 0) (x := o0) hst z
 replace hst := objO_some hst
 obtain rfl := some_inj hm
 refine post_ret (vs := [I6 x283]) results14 (rvs_cons (rv_tmp z) rvs_nil) ?_
 exact ⟨z, hst.keep1⟩
}
}
}
}

theorem label_Lattice_Below_ref {w0 w : World} {I : HL} {R : SP} {a0 : (Option label_Lattice)} {p0 : Value} {a1 : Int}  (hst : St w0 w I [objO at_label_Lattice p0 a0] R) {r : ((List Int))} (hm : label_Lattice_Below a0 a1 = some r) :
  Calls prog 24 #[p0, I6 a1] w fun e w' => ∃ (q0_0 : Value), e = .returned (q0_0) ∧ St w0 w' I [ownS (tyInt .i64) q0_0 r, objO at_label_Lattice p0 a0] R := by {
 unfold label_Lattice_Below at hm
 refine calls_start (args := [p0, I6 a1]) func24 z ntmps24 (Nat.le_of_ble_eq_true z) ?_
 refine wp_seq (wrl (wv ((.slice none 0 0)) z z z (wl_nil (tn (wp_seq (wrl (wv ((.slice none 0 0)) z z z (wl_nil (tn (wp_seq (wp_seq (wrl (wv (p0) z z z ?_)))))))))))))
 obtain ⟨t568, ht569, hm⟩ := bind_some hm
 refine wc call12 [p0] z z z ?_
 refine (label_Lattice_Len_ref hst.to1 ht569).mono ?_
 rintro _ w570 ⟨rfl, hst⟩
 refine ⟨_, z, ?_⟩
 replace hst := hst.of1
 refine wv (.int .i64 (0:Int)) z z z (wl_nil (tn (wp_block ?_)))
 replace hst := hst.own_nil (tyInt .i64)
 obtain ⟨n633, hm⟩ := loopO_some hm
 refine wp_loop_n (fun n a w => ∃ (z628 : (List Int)) (z631 : Int) (v629 : Value) (σ632 : Nat → Value), loopN (label_Lattice_Below_l0 t568 a0 a1) n (z628, z631) = some r ∧ a = Fr 22 (upd (upd (upd (upd (upd σ632 0 (p0)) 1 (.int .i64 a1)) 5 (v629)) 8 (.int .i64 t568)) 9 (.int .i64 z631)) ∧ St w0 w I [ownS (tyInt .i64) v629 z628, objO at_label_Lattice p0 a0] R) n633 ⟨[], (0:Int), Zs, _, hm, (fu 0 p0 z (fu 1 (.int .i64 a1) z (fu 5 (.slice none 0 0) z (fu 8 (.int .i64 t568) z (fu 9 (.int .i64 (0:Int)) z z))))), hst⟩ ?_
 rintro n639 _ w634 ⟨z628, z631, v629, σ632, hm, rfl, hst⟩
 obtain ⟨n636, y637, rfl, hm, hx638⟩ := loopN_some hm
 dsimp only [label_Lattice_Below_l0] at hm
 refine wp_seq (wrl (wv (.bool (decide (z631 < t568))) z z z (wl_nil (tn (wp_seq ?_)))))
 refine bsplit (decide (z631 < t568)) (fun hc640 => ?_) (fun hc640 => ?_)
 {
 replace hm := bif_t hc640 hm
 refine wp_ift (cvb hc640) ?_
 refine wp_skip (tn (wp_seq (wp_block (wp_seq (wrl ?_)))))
 refine wv (.int .i64 z631) z z z (wv (.int .i64 z631) z z z (wl_nil (tn (wp_seq (wrl (wv (p0) z z z (wv (.int .i64 z631) z z z (wv (.int .i64 a1) z z z ?_))))))))
 replace hst := hst.pull1
 obtain ⟨t641, ht642, hm⟩ := bind_some hm
 refine wc call15 [p0, I6 z631, I6 a1] z z z ?_
 refine (label_Lattice_Leq_ref hst.to1 ht642).mono ?_
 rintro _ w643 ⟨rfl, hst⟩
 refine ⟨_, z, ?_⟩
 replace hst := hst.of1
 refine wl_nil (tn ?_)
 refine bsplit t641 (fun hc646 => ?_) (fun hc646 => ?_)
 {
 replace hm := bif_t hc646 hm
 refine wp_ift (cvb hc646) ?_
 refine wrl (wv (v629) z z z (wv (.int .i64 z631) z z z ?_))
 obtain ⟨b647, w648, ew649, eb650, hst⟩ := hst.lits (E := (tyInt .i64)) (xs := [z631]) [[I6 z631]] 3 1 z (Reps.cons z Reps.nil)
 refine wl_run (v := (.slice (some ⟨b647, 0, none⟩) 1 1)) (w' := w648) z z (x_als (by kernel_rfl) ew649 eb650) ?_
 obtain ⟨hg652, hm⟩ := gd_some hm
 replace hst := hst.pull2
 obtain ⟨v653, w654, hr655, hst⟩ := run_append elem_41 underlying41 hst hst.src1 (room_of hg652 z) 41
 refine wl_run (v := v653) (w' := w654) z z (x_append z z hr655) ?_
 refine wv (v653) z z z (wl_nil (blk_n (tn (wrl (wv (.int .i64 (i64.wrap (z631 + (1:Int)))) z z z (wv (.int .i64 (i64.wrap (z631 + (1:Int)))) z z z (wl_nil (tn ?_))))))))
 replace hst := hst.pull2.pull1.keep2
 obtain rfl := some_inj hm
 exact ⟨_, Nat.lt_succ_self _, (z628 ++ ([z631])), (i64.wrap (z631 + (1:Int))), v653, _, hx638, (fu 0 p0 z (fu 1 (.int .i64 a1) z (fu 5 v653 z (fu 8 (.int .i64 t568) z (fu 9 (.int .i64 (i64.wrap (z631 + (1:Int)))) z z))))), hst⟩
}
 {
 replace hm := bif_f hc646 hm
 refine wp_iff (cvb hc646) ?_
 refine wp_skip (blk_n (tn (wrl ?_)))
 refine wv (.int .i64 (i64.wrap (z631 + (1:Int)))) z z z (wv (.int .i64 (i64.wrap (z631 + (1:Int)))) z z z (wl_nil (tn ?_)))
 replace hst := hst.pull1.keep2
 obtain rfl := some_inj hm
 exact ⟨_, Nat.lt_succ_self _, z628, (i64.wrap (z631 + (1:Int))), v629, _, hx638, (fu 0 p0 z (fu 1 (.int .i64 a1) z (fu 5 v629 z (fu 8 (.int .i64 t568) z (fu 9 (.int .i64 (i64.wrap (z631 + (1:Int)))) z z))))), hst⟩
}
}
 {
 replace hm := bif_f hc640 hm
 refine wp_iff (cvb hc640) ?_
 refine wp_exit (then_x (then_x ?_))
 replace hm := inr_up hm hx638
 refine blk_x (tn (wp_seq (wrl ?_)))
 refine wv (v629) z z z (wv (v629) z z z (wl_nil (tn (wp_ret ?_))))
 obtain rfl := some_inj hm
 refine post_ret (vs := [v629]) results24 (rvs_cons (rv_tmp z) rvs_nil) ?_
 replace hst := hst.pull1.pull1
 exact ⟨v629, z, hst.keep2⟩
}
}

end Go.Proofs.Ytddhkbholbcebaa
