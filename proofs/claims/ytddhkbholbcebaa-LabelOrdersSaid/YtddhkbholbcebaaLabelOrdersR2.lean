/- The Go functions refine their models, part 2. -/
import Derived.Test.YtddhkbholbcebaaLabelOrdersR1
set_option linter.unusedVariables false
set_option linter.unusedSimpArgs false
set_option maxRecDepth 100000
set_option maxHeartbeats 4000000
namespace Go.Proofs.Ytddhkbholbcebaa
open Go Go.V
open _root_.Go.Proofs.Try IntKind
attribute [local irreducible] wpList Code.wp wpQuiet Calls bodyPost Oper.wp wpS Nx PendOK YieldsIn
theorem label_Lattice_Len_ref {w0 w : World} {I : HL} {R : SP} {a0 : (Option label_Lattice)} {p0 : Value}  (hst : St w0 w I [objO at_label_Lattice p0 a0] R) {r : (Int)} (hm : label_Lattice_Len a0 = some r) :
  Calls prog 12 #[p0] w fun e w' => e = .returned (.int .i64 r) ∧ St w0 w' I [objO at_label_Lattice p0 a0] R := by {
 rcases a0 with _ | o0
 {
 obtain ⟨rfl, hst'⟩ := objO_none hst
 clear hst
 have hst := hst'
 clear hst'
 dsimp only [label_Lattice_Len] at hm
 refine calls_start (args := [.pointer none]) func12 z ntmps12 (Nat.le_of_ble_eq_true z) ?_
 refine wp_seq (wrl (wv (.int .i64 (0:Int)) z z z (wl_nil (tn (wp_seq (wp_seq (wrl (wv (.pointer none) z z z (wv (.bool true) z z (by kernel_rfl) (wl_nil (tn ?_)))))))))))
 refine wp_ift z ?_
 refine wp_seq (wrl (wv (.int .i64 (0:Int)) z z z (wl_nil (tn (wp_ret (then_r ?_))))))
 replace hst := hst.objO_nil at_label_Lattice
 obtain rfl := some_inj hm
 refine post_ret (vs := [Zi]) results12 (rvs_cons (rv_tmp z) rvs_nil) ?_
 exact ⟨z, hst.keep1⟩
}
 {
 replace hst := objO_get hst
 dsimp only [label_Lattice_Len] at hm
 refine calls_start (args := [p0]) func12 z ntmps12 (Nat.le_of_ble_eq_true z) ?_
 refine wp_seq (wrl (wv (.int .i64 (0:Int)) z z z (wl_nil (tn (wp_seq (wp_seq (wrl (wv (p0) z z z ?_))))))))
 obtain ⟨b35, v36, v38, v40, v42, v44, v46, rfl, hst'⟩ := at_label_Lattice_open hst
 clear hst
 have hst := hst'
 clear hst'
 refine wv (.bool false) z z (by kernel_rfl) (wl_nil (tn ?_))
 refine wp_iff z ?_
 refine wp_skip (tn (wp_seq (wrl ?_)))
 refine wv (Pt b35 0) z z z (wv (Pt b35 0) z z z (wv (Pt b35 0) z z (x_field z underlying49 z sizeOf28 z) (wv (v36) z z (x_load z isAgg28 (hst.bc0 z)) (wv (.int .i64 ((o0.up).length : Int)) z z (x_len z underlying28 hst.sv1) (wv (.int .i64 ((o0.up).length : Int)) z z z (wl_nil (tn (wp_ret ?_))))))))
 replace hst := hst.pull6.pull6.pull6.pull6.pull6.pull6.pull6
 replace hst := at_label_Lattice_close (pv := Pt b35 0) (x := o0) hst z
 replace hst := objO_some hst
 obtain rfl := some_inj hm
 refine post_ret (vs := [I6 ((o0.up).length : Int)]) results12 (rvs_cons (rv_tmp z) rvs_nil) ?_
 exact ⟨z, hst.keep1⟩
}
}

theorem label_Lattice_Is_ref {w0 w : World} {I : HL} {R : SP} {a0 : (Option label_Lattice)} {p0 : Value} {a1 : Int}  (hst : St w0 w I [objO at_label_Lattice p0 a0] R) {r : (Bool)} (hm : label_Lattice_Is a0 a1 = some r) :
  Calls prog 23 #[p0, I6 a1] w fun e w' => e = .returned (.bool r) ∧ St w0 w' I [objO at_label_Lattice p0 a0] R := by {
 unfold label_Lattice_Is at hm
 refine calls_start (args := [p0, I6 a1]) func23 z ntmps23 (Nat.le_of_ble_eq_true z) ?_
 refine wp_seq (wrl (wv (.bool false) z z z (wl_nil (tn (wp_seq (wrl (wv (.int .i64 a1) z z z (wv (.bool (decide (a1 ≥ (0:Int)))) z z z (wv (.bool (decide (a1 ≥ (0:Int)))) z z z ?_)))))))))
 refine bsplit (decide (a1 ≥ (0:Int))) (fun hc26 => ?_) (fun hc26 => ?_)
 {
 replace hm := bif_t hc26 hm
 refine wv (.int .i64 a1) ((wanted_eq z z z (cvb hc26)).trans z) z z (wv (p0) ((wanted_eq z z z (cvb hc26)).trans z) z z ?_)
 obtain ⟨t27, ht28, hm⟩ := bind_some hm
 refine wl_call ((wanted_eq z z z (cvb hc26)).trans z) z (x_call call12 z (vs := [p0]) z) ?_
 refine (label_Lattice_Len_ref hst.to1 ht28).mono ?_
 rintro _ w29 ⟨rfl, hst⟩
 refine ⟨_, z, ?_⟩
 replace hst := hst.of1
 refine wv (.bool (decide (a1 < t27))) ((wanted_eq z z z (cvb hc26)).trans z) z z (wv (.bool (decide (a1 < t27))) z z (x_pick_t hc26 z z) (wv (.bool (decide (a1 < t27))) z z z (wl_nil (tn (wp_ret ?_)))))
 obtain rfl := some_inj hm
 refine post_ret (vs := [.bool (decide (a1 < t27))]) results23 (rvs_cons (rv_tmp z) rvs_nil) ?_
 exact ⟨z, hst.keep1⟩
}
 {
 replace hm := bif_f hc26 hm
 refine wo hc26 z z z z z z (wo hc26 z z z z z z (wo hc26 z z z z z z (wo hc26 z z z z z z (wv (.bool false) z z (x_pick_f hc26 z z) (wv (.bool false) z z z (wl_nil (tn (wp_ret ?_))))))))
 obtain rfl := some_inj hm
 refine post_ret (vs := [.bool false]) results23 (rvs_cons (rv_tmp z) rvs_nil) ?_
 exact ⟨z, hst.keep1⟩
}
}

theorem label_Lattice_Join_ref {w0 w : World} {I : HL} {R : SP} {a0 : (Option label_Lattice)} {p0 : Value} {a1 : Int} {a2 : Int}  (hst : St w0 w I [objO at_label_Lattice p0 a0] R) {r : (Int)} (hm : label_Lattice_Join a0 a1 a2 = some r) :
  Calls prog 13 #[p0, I6 a1, I6 a2] w fun e w' => e = .returned (.int .i64 r) ∧ St w0 w' I [objO at_label_Lattice p0 a0] R := by {
 rcases a0 with _ | o0
 {
 obtain ⟨rfl, hst'⟩ := objO_none hst
 clear hst
 have hst := hst'
 clear hst'
 dsimp only [label_Lattice_Join] at hm
 refine calls_start (args := [.pointer none, I6 a1, I6 a2]) func13 z ntmps13 (Nat.le_of_ble_eq_true z) ?_
 refine wp_seq (wrl (wv (.int .i64 (0:Int)) z z z (wl_nil (tn (wp_seq (wp_seq (wrl (wv (.pointer none) z z z (wv (.int .i64 a1) z z z ?_)))))))))
 replace hst := hst.objO_nil at_label_Lattice
 obtain ⟨t75, ht76, hm⟩ := bind_some hm
 refine wc call23 [.pointer none, I6 a1] z z z ?_
 refine (label_Lattice_Is_ref hst.to1 ht76).mono ?_
 rintro _ w77 ⟨rfl, hst⟩
 refine ⟨_, z, ?_⟩
 replace hst := hst.of1
 refine wv (.bool (!t75)) z z z (wv (.bool (!t75)) z z z ?_)
 refine bsplit (!t75) (fun hc80 => ?_) (fun hc80 => ?_)
 {
 replace hm := bif_t hc80 hm
 refine wo hc80 z z z z z z (wo hc80 z z z z z z (wo hc80 z z z z z z (wo hc80 z z z z z z (wv (.bool true) z z (x_pick_t hc80 z z) (wl_nil (tn ?_))))))
 refine wp_ift z ?_
 refine wp_seq (wrl (wv (.int .i64 ((-1):Int)) z z z (wl_nil (tn (wp_ret (then_r ?_))))))
 replace hst := hst.objO_nil at_label_Lattice
 obtain rfl := some_inj hm
 refine post_ret (vs := [I6 ((-1):Int)]) results13 (rvs_cons (rv_tmp z) rvs_nil) ?_
 exact ⟨z, hst.keep1⟩
}
 {
 replace hm := bif_f hc80 hm
 refine wv (.pointer none) ((wanted_eq z z z (cvb hc80)).trans z) z z (wv (.int .i64 a2) ((wanted_eq z z z (cvb hc80)).trans z) z z ?_)
 replace hst := hst.objO_nil at_label_Lattice
 obtain ⟨t82, ht83, hm⟩ := bind_some hm
 refine wl_call ((wanted_eq z z z (cvb hc80)).trans z) z (x_call call23 z (vs := [.pointer none, I6 a2]) z) ?_
 refine (label_Lattice_Is_ref hst.to1 ht83).mono ?_
 rintro _ w84 ⟨rfl, hst⟩
 refine ⟨_, z, ?_⟩
 replace hst := hst.of1
 refine wv (.bool (!t82)) ((wanted_eq z z z (cvb hc80)).trans z) z z (wv (.bool (!t82)) z z (x_pick_f hc80 z z) (wl_nil (tn ?_)))
 refine bsplit (!t82) (fun hc87 => ?_) (fun hc87 => ?_)
 {
 replace hm := bif_t hc87 hm
 refine wp_ift (cvb hc87) ?_
 refine wp_seq (wrl (wv (.int .i64 ((-1):Int)) z z z (wl_nil (tn (wp_ret (then_r ?_))))))
 replace hst := hst.objO_nil at_label_Lattice
 obtain rfl := some_inj hm
 refine post_ret (vs := [I6 ((-1):Int)]) results13 (rvs_cons (rv_tmp z) rvs_nil) ?_
 exact ⟨z, hst.keep1⟩
}
 {
 replace hm := bif_f hc87 hm
 refine wp_iff (cvb hc87) ?_
 refine wp_skip (tn (wp_seq (wrl ?_)))
 refine wv (.pointer none) z z z ?_
 cases hm
}
}
}
 {
 replace hst := objO_get hst
 dsimp only [label_Lattice_Join] at hm
 refine calls_start (args := [p0, I6 a1, I6 a2]) func13 z ntmps13 (Nat.le_of_ble_eq_true z) ?_
 refine wp_seq (wrl (wv (.int .i64 (0:Int)) z z z (wl_nil (tn (wp_seq (wp_seq (wrl (wv (p0) z z z (wv (.int .i64 a1) z z z ?_)))))))))
 replace hst := objO_some hst
 obtain ⟨t88, ht89, hm⟩ := bind_some hm
 refine wc call23 [p0, I6 a1] z z z ?_
 refine (label_Lattice_Is_ref hst.to1 ht89).mono ?_
 rintro _ w90 ⟨rfl, hst⟩
 refine ⟨_, z, ?_⟩
 replace hst := hst.of1
 replace hst := objO_get hst
 refine wv (.bool (!t88)) z z z (wv (.bool (!t88)) z z z ?_)
 refine bsplit (!t88) (fun hc93 => ?_) (fun hc93 => ?_)
 {
 replace hm := bif_t hc93 hm
 refine wo hc93 z z z z z z (wo hc93 z z z z z z (wo hc93 z z z z z z (wo hc93 z z z z z z (wv (.bool true) z z (x_pick_t hc93 z z) (wl_nil (tn ?_))))))
 refine wp_ift z ?_
 refine wp_seq (wrl (wv (.int .i64 ((-1):Int)) z z z (wl_nil (tn (wp_ret (then_r ?_))))))
 replace hst := objO_some hst
 obtain rfl := some_inj hm
 refine post_ret (vs := [I6 ((-1):Int)]) results13 (rvs_cons (rv_tmp z) rvs_nil) ?_
 exact ⟨z, hst.keep1⟩
}
 {
 replace hm := bif_f hc93 hm
 refine wv (p0) ((wanted_eq z z z (cvb hc93)).trans z) z z (wv (.int .i64 a2) ((wanted_eq z z z (cvb hc93)).trans z) z z ?_)
 replace hst := objO_some hst
 obtain ⟨t94, ht95, hm⟩ := bind_some hm
 refine wl_call ((wanted_eq z z z (cvb hc93)).trans z) z (x_call call23 z (vs := [p0, I6 a2]) z) ?_
 refine (label_Lattice_Is_ref hst.to1 ht95).mono ?_
 rintro _ w96 ⟨rfl, hst⟩
 refine ⟨_, z, ?_⟩
 replace hst := hst.of1
 replace hst := objO_get hst
 refine wv (.bool (!t94)) ((wanted_eq z z z (cvb hc93)).trans z) z z (wv (.bool (!t94)) z z (x_pick_f hc93 z z) (wl_nil (tn ?_)))
 refine bsplit (!t94) (fun hc99 => ?_) (fun hc99 => ?_)
 {
 replace hm := bif_t hc99 hm
 refine wp_ift (cvb hc99) ?_
 refine wp_seq (wrl (wv (.int .i64 ((-1):Int)) z z z (wl_nil (tn (wp_ret (then_r ?_))))))
 replace hst := objO_some hst
 obtain rfl := some_inj hm
 refine post_ret (vs := [I6 ((-1):Int)]) results13 (rvs_cons (rv_tmp z) rvs_nil) ?_
 exact ⟨z, hst.keep1⟩
}
 {
 replace hm := bif_f hc99 hm
 refine wp_iff (cvb hc99) ?_
 refine wp_skip (tn (wp_seq (wrl ?_)))
 refine wv (p0) z z z ?_
 obtain ⟨b100, v101, v103, v105, v107, v109, v111, rfl, hst'⟩ := at_label_Lattice_open hst
 clear hst
 have hst := hst'
 clear hst'
 refine wv (Pt b100 0) z z z (wv (Pt b100 2) z z (x_field z underlying49 z sizeOf47 z) (wv (v105) z z (x_load z isAgg47 (hst.bc0 z)) (wv (.int .i64 a1) z z z ?_)))
 obtain ⟨x113, hx114, hm⟩ := bind_some hm
 obtain ⟨h115, h116, hi117⟩ := geto_some hx114
 refine wv (.pointer (some (eAddr v105 (a1.toNat * 1 + 0)))) z z (x_index z z underlying47 sizeOf41 hst.sv3 h115 h116) ?_
 obtain ⟨cs118, hr119, hc120⟩ := hst.og3 hi117
 obtain ⟨v121, rfl, f122, -⟩ := hr119
 refine wv (v121) z z (x_load z isAgg41 (hc120 0 _ z)) (wv (.int .i64 a2) z z z ?_)
 obtain ⟨x124, hx125, hm⟩ := bind_some hm
 obtain ⟨h126, h127, hi128⟩ := geto_some hx125
 refine wv (.pointer (some (eAddr v121 (a2.toNat * 1 + 0)))) z z (x_index z z underlying41 sizeOf3 (ro_sliceV f122) h126 h127) (wv (.int .i64 x124) z z (x_load z isAgg3 (ro_load f122 hst hi128 (by rintro _ rfl; rfl))) (wv (.int .i64 x124) z z z (wl_nil (tn (wp_ret ?_)))))
 replace hst := hst.pull6.pull6.pull6.pull6.pull6.pull6.pull6
 replace hst := at_label_Lattice_close (pv := Pt b100 0) (x := o0) hst z
 replace hst := objO_some hst
 obtain rfl := some_inj hm
 refine post_ret (vs := [I6 x124]) results13 (rvs_cons (rv_tmp z) rvs_nil) ?_
 exact ⟨z, hst.keep1⟩
}
}
}
}

theorem label_Lattice_Rank_ref {w0 w : World} {I : HL} {R : SP} {a0 : (Option label_Lattice)} {p0 : Value} {a1 : Int}  (hst : St w0 w I [objO at_label_Lattice p0 a0] R) {r : (Int)} (hm : label_Lattice_Rank a0 a1 = some r) :
  Calls prog 18 #[p0, I6 a1] w fun e w' => e = .returned (.int .i64 r) ∧ St w0 w' I [objO at_label_Lattice p0 a0] R := by {
 rcases a0 with _ | o0
 {
 obtain ⟨rfl, hst'⟩ := objO_none hst
 clear hst
 have hst := hst'
 clear hst'
 dsimp only [label_Lattice_Rank] at hm
 refine calls_start (args := [.pointer none, I6 a1]) func18 z ntmps18 (Nat.le_of_ble_eq_true z) ?_
 refine wp_seq (wrl (wv (.int .i64 (0:Int)) z z z (wl_nil (tn (wp_seq (wp_seq (wrl (wv (.pointer none) z z z (wv (.int .i64 a1) z z z ?_)))))))))
 replace hst := hst.objO_nil at_label_Lattice
 obtain ⟨t57, ht58, hm⟩ := bind_some hm
 refine wc call23 [.pointer none, I6 a1] z z z ?_
 refine (label_Lattice_Is_ref hst.to1 ht58).mono ?_
 rintro _ w59 ⟨rfl, hst⟩
 refine ⟨_, z, ?_⟩
 replace hst := hst.of1
 refine wv (.bool (!t57)) z z z (wl_nil (tn ?_))
 refine bsplit (!t57) (fun hc62 => ?_) (fun hc62 => ?_)
 {
 replace hm := bif_t hc62 hm
 refine wp_ift (cvb hc62) ?_
 refine wp_seq (wrl (wv (.int .i64 ((-1):Int)) z z z (wl_nil (tn (wp_ret (then_r ?_))))))
 replace hst := hst.objO_nil at_label_Lattice
 obtain rfl := some_inj hm
 refine post_ret (vs := [I6 ((-1):Int)]) results18 (rvs_cons (rv_tmp z) rvs_nil) ?_
 exact ⟨z, hst.keep1⟩
}
 {
 replace hm := bif_f hc62 hm
 refine wp_iff (cvb hc62) ?_
 refine wp_skip (tn (wp_seq (wrl ?_)))
 refine wv (.pointer none) z z z ?_
 cases hm
}
}
 {
 replace hst := objO_get hst
 dsimp only [label_Lattice_Rank] at hm
 refine calls_start (args := [p0, I6 a1]) func18 z ntmps18 (Nat.le_of_ble_eq_true z) ?_
 refine wp_seq (wrl (wv (.int .i64 (0:Int)) z z z (wl_nil (tn (wp_seq (wp_seq (wrl (wv (p0) z z z (wv (.int .i64 a1) z z z ?_)))))))))
 replace hst := objO_some hst
 obtain ⟨t63, ht64, hm⟩ := bind_some hm
 refine wc call23 [p0, I6 a1] z z z ?_
 refine (label_Lattice_Is_ref hst.to1 ht64).mono ?_
 rintro _ w65 ⟨rfl, hst⟩
 refine ⟨_, z, ?_⟩
 replace hst := hst.of1
 replace hst := objO_get hst
 refine wv (.bool (!t63)) z z z (wl_nil (tn ?_))
 refine bsplit (!t63) (fun hc68 => ?_) (fun hc68 => ?_)
 {
 replace hm := bif_t hc68 hm
 refine wp_ift (cvb hc68) ?_
 refine wp_seq (wrl (wv (.int .i64 ((-1):Int)) z z z (wl_nil (tn (wp_ret (then_r ?_))))))
 replace hst := objO_some hst
 obtain rfl := some_inj hm
 refine post_ret (vs := [I6 ((-1):Int)]) results18 (rvs_cons (rv_tmp z) rvs_nil) ?_
 exact ⟨z, hst.keep1⟩
}
 {
 replace hm := bif_f hc68 hm
 refine wp_iff (cvb hc68) ?_
 refine wp_skip (tn (wp_seq (wrl ?_)))
 refine wv (p0) z z z ?_
 obtain ⟨b69, v70, v72, v74, v76, v78, v80, rfl, hst'⟩ := at_label_Lattice_open hst
 clear hst
 have hst := hst'
 clear hst'
 refine wv (Pt b69 0) z z z (wv (Pt b69 4) z z (x_field z underlying49 z sizeOf41 z) (wv (v78) z z (x_load z isAgg41 (hst.bc0 z)) (wv (.int .i64 a1) z z z ?_)))
 obtain ⟨x82, hx83, hm⟩ := bind_some hm
 obtain ⟨h84, h85, hi86⟩ := geto_some hx83
 refine wv (.pointer (some (eAddr v78 (a1.toNat * 1 + 0)))) z z (x_index z z underlying41 sizeOf3 hst.sv5 h84 h85) (wv (.int .i64 x82) z z (x_load z isAgg3 (hst.ol5 hi86 (by rintro _ rfl; rfl))) (wv (.int .i64 x82) z z z (wl_nil (tn (wp_ret ?_)))))
 replace hst := hst.pull6.pull6.pull6.pull6.pull6.pull6.pull6
 replace hst := at_label_Lattice_close (pv := Pt b69 0) (x := o0) hst z
 replace hst := objO_some hst
 obtain rfl := some_inj hm
 refine post_ret (vs := [I6 x82]) results18 (rvs_cons (rv_tmp z) rvs_nil) ?_
 exact ⟨z, hst.keep1⟩
}
}
}

theorem law03_awake_ref {w0 w : World} {I : HL} {R : SP}   (hst : St w0 w I [] R) {r : (Bool)} (hm : law03_awake = some r) :
  Calls prog 9 #[] w fun e w' => ∃ (I' : HL), e = .returned (.bool r) ∧ I.le I' ∧ St w0 w' I' [] R := by {
 unfold law03_awake at hm
 refine calls_start (args := []) func9 z ntmps9 (Nat.le_of_ble_eq_true z) ?_
 have hI0 := HL.le.refl I
 refine wp_seq (wrl (wv (.bool false) z z z (wl_nil (tn (wp_seq (wrl ?_))))))
 obtain ⟨b34, w35, ew36, eb37, hst⟩ := hst.lits (E := (tyInt .u64)) (xs := [(3:Int), (2:Int)]) [[U6 (3:Int)], [U6 (2:Int)]] 43 2 z (Reps.cons z (Reps.cons z Reps.nil))
 refine wl_run (v := (.slice (some ⟨b34, 0, none⟩) 2 2)) (w' := w35) z z (x_als (by kernel_rfl) ew36 eb37) ?_
 obtain ⟨css39, hq40, hst⟩ := hst.own_open
 obtain ⟨t41, ht42, hm⟩ := bind_some hm
 refine wc call10 [(.slice (some ⟨b34, 0, none⟩) 2 2)] z z z ?_
 refine (label_New_ref (hst.rdrow0 hq40) hst.to0 ht42).mono ?_
 rintro _ w43 ⟨I44, v46, rfl, hI45, hst⟩
 refine ⟨_, z, ?_⟩
 replace hst := hst.of1
 replace hI0 := hI0.trans hI45
 replace hst := hst.pull1.own_close (hq40.imp fun _ _ => Ty.mono _ (ro_le hI45))
 refine wv (.tuple #[v46, I6 t41.2]) z z z (wv (v46) z z z (wv (.int .i64 t41.2) z z z (wv (v46) z z z (wv (.int .i64 t41.2) z z z (wl_nil (tn (wp_seq (wrl (wv (.int .i64 t41.2) z z z (wv (.bool (t41.2 == (0:Int))) z z z (wv (.bool (t41.2 == (0:Int))) z z z ?_)))))))))))
 refine bsplit (t41.2 == (0:Int)) (fun hc48 => ?_) (fun hc48 => ?_)
 {
 replace hm := bif_t hc48 hm
 refine wv (v46) ((wanted_eq z z z (cvb hc48)).trans z) z z ?_
 replace hst := hst.pull1
 obtain ⟨t49, ht50, hm⟩ := bind_some hm
 refine wl_call ((wanted_eq z z z (cvb hc48)).trans z) z (x_call call13 z (vs := [v46, Zi, I6 (1:Int)]) z) ?_
 refine (label_Lattice_Join_ref hst.to1 ht50).mono ?_
 rintro _ w51 ⟨rfl, hst⟩
 refine ⟨_, z, ?_⟩
 replace hst := hst.of1
 refine wv (.bool (t49 == (1:Int))) ((wanted_eq z z z (cvb hc48)).trans z) z z (wv (.bool (t49 == (1:Int))) z z (x_pick_t hc48 z z) (wv (.bool (t49 == (1:Int))) z z z ?_))
 refine bsplit (t49 == (1:Int)) (fun hc54 => ?_) (fun hc54 => ?_)
 {
 replace hm := bif_t hc54 hm
 refine wv (v46) ((wanted_eq z z z (cvb hc54)).trans z) z z ?_
 obtain ⟨t55, ht56, hm⟩ := bind_some hm
 refine wl_call ((wanted_eq z z z (cvb hc54)).trans z) z (x_call call18 z (vs := [v46, I6 (1:Int)]) z) ?_
 refine (label_Lattice_Rank_ref hst.to1 ht56).mono ?_
 rintro _ w57 ⟨rfl, hst⟩
 refine ⟨_, z, ?_⟩
 replace hst := hst.of1
 refine wv (.bool (t55 == (1:Int))) ((wanted_eq z z z (cvb hc54)).trans z) z z (wv (.bool (t55 == (1:Int))) z z (x_pick_t hc54 z z) (wv (.bool (t55 == (1:Int))) z z z ?_))
 refine bsplit (t55 == (1:Int)) (fun hc60 => ?_) (fun hc60 => ?_)
 {
 replace hm := bif_t hc60 hm
 refine wv (v46) ((wanted_eq z z z (cvb hc60)).trans z) z z ?_
 obtain ⟨t61, ht62, hm⟩ := bind_some hm
 refine wl_call ((wanted_eq z z z (cvb hc60)).trans z) z (x_call call18 z (vs := [v46, Zi]) z) ?_
 refine (label_Lattice_Rank_ref hst.to1 ht62).mono ?_
 rintro _ w63 ⟨rfl, hst⟩
 refine ⟨_, z, ?_⟩
 replace hst := hst.of1
 refine wv (.bool (t61 == (0:Int))) ((wanted_eq z z z (cvb hc60)).trans z) z z (wv (.bool (t61 == (0:Int))) z z (x_pick_t hc60 z z) (wv (.bool (t61 == (0:Int))) z z z (wl_nil (tn (wp_ret ?_)))))
 obtain rfl := some_inj hm
 refine post_ret (vs := [.bool (t61 == (0:Int))]) results9 (rvs_cons (rv_tmp z) rvs_nil) ?_
 exact ⟨_, z, hI0, hst.keep0⟩
}
 {
 replace hm := bif_f hc60 hm
 refine wo hc60 z z z z z z (wo hc60 z z z z z z (wo hc60 z z z z z z (wv (.bool false) z z (x_pick_f hc60 z z) (wv (.bool false) z z z (wl_nil (tn (wp_ret ?_)))))))
 obtain rfl := some_inj hm
 refine post_ret (vs := [.bool false]) results9 (rvs_cons (rv_tmp z) rvs_nil) ?_
 exact ⟨_, z, hI0, hst.keep0⟩
}
}
 {
 replace hm := bif_f hc54 hm
 refine wo hc54 z z z z z z (wo hc54 z z z z z z (wo hc54 z z z z z z (wv (.bool false) z z (x_pick_f hc54 z z) (wv (.bool false) z z z (wz z z z z z z (wz z z z z z z (wz z z z z z z (wv (.bool false) z z (x_pick_f z z z) (wv (.bool false) z z z (wl_nil (tn (wp_ret ?_))))))))))))
 obtain rfl := some_inj hm
 refine post_ret (vs := [.bool false]) results9 (rvs_cons (rv_tmp z) rvs_nil) ?_
 exact ⟨_, z, hI0, hst.keep0⟩
}
}
 {
 replace hm := bif_f hc48 hm
 refine wo hc48 z z z z z z (wo hc48 z z z z z z (wo hc48 z z z z z z (wv (.bool false) z z (x_pick_f hc48 z z) (wv (.bool false) z z z (wz z z z z z z (wz z z z z z z (wz z z z z z z (wv (.bool false) z z (x_pick_f z z z) (wv (.bool false) z z z (wz z z z z z z (wz z z z z z z (wz z z z z z z ?_))))))))))))
 refine wv (.bool false) z z (x_pick_f z z z) (wv (.bool false) z z z (wl_nil (tn (wp_ret ?_))))
 obtain rfl := some_inj hm
 refine post_ret (vs := [.bool false]) results9 (rvs_cons (rv_tmp z) rvs_nil) ?_
 exact ⟨_, z, hI0, hst.keep0⟩
}
}

theorem law03_order_ref {w0 w : World} {I : HL} {R : SP} {a0 : Int} {a1 : (List Int)} {r1_0 : Value} (f1_0 : Rd (tyInt .u8) R I r1_0 a1) (hst : St w0 w I [] R) {r : ((List Int))} (hm : law03_order a0 a1 = some r) :
  Calls prog 11 #[U1 a0, r1_0] w fun e w' => ∃ (q0_0 : Value), e = .returned (q0_0) ∧ St w0 w' I [ownS (tyInt .u64) q0_0 r] R := by {
 unfold law03_order at hm
 refine calls_start (args := [U1 a0, r1_0]) func11 z ntmps11 (Nat.le_of_ble_eq_true z) ?_
 refine wp_seq (wrl (wv ((.slice none 0 0)) z z z (wl_nil (tn (wp_seq (wrl (wv (.int .u8 a0) z z z (wv (.int .i64 (i64.wrap a0)) z z (by kernel_rfl) (wv (.int .i64 (Int.tmod (i64.wrap a0) (6:Int))) z z (x_rem (by decide) z z) (wv (.int .i64 (i64.wrap ((1:Int) + (Int.tmod (i64.wrap a0) (6:Int))))) z z z (wv (.int .i64 (i64.wrap ((1:Int) + (Int.tmod (i64.wrap a0) (6:Int))))) z z z (wl_nil (tn (wp_seq (wrl (wv (.int .i64 (i64.wrap ((1:Int) + (Int.tmod (i64.wrap a0) (6:Int))))) z z z ?_))))))))))))))))
 obtain ⟨hg281, hm⟩ := gd_some hm
 obtain ⟨v282, w283, hr284, hst⟩ := run_mk (k := .i64) (k' := .i64) (zm := (0:Int)) elem_28 hst hg281 (by decide) z
 refine wl_run (v := v282) (w' := w283) z z (x_make z z hr284) ?_
 refine wv (v282) z z z (wl_nil (tn (wp_seq (wp_seq (wrl (wv (.int .i64 (i64.wrap ((1:Int) + (Int.tmod (i64.wrap a0) (6:Int))))) z z z (wv (.int .i64 (i64.wrap ((i64.wrap ((1:Int) + (Int.tmod (i64.wrap a0) (6:Int)))) - (1:Int)))) z z z (wv (.int .i64 (i64.wrap ((i64.wrap ((1:Int) + (Int.tmod (i64.wrap a0) (6:Int)))) - (1:Int)))) z z z (wl_nil (tn (wp_block ?_)))))))))))
 obtain ⟨n459, hm⟩ := loopO_some hm
 refine wp_loop_n (fun n a w => ∃ (z456 : Int) (z457 : (List Int)) (σ458 : Nat → Value), loopN (law03_order_l0 a0 a1) n (z456, z457) = some r ∧ a = Fr 63 (upd (upd (upd (upd σ458 1 (r1_0)) 5 (.int .i64 (i64.wrap ((1:Int) + (Int.tmod (i64.wrap a0) (6:Int)))))) 6 (v282)) 7 (.int .i64 z456)) ∧ St w0 w I [ownS (tyInt .u64) v282 z457] R) n459 ⟨(i64.wrap ((i64.wrap ((1:Int) + (Int.tmod (i64.wrap a0) (6:Int)))) - (1:Int))), (List.replicate (Int.toNat (i64.wrap ((1:Int) + (Int.tmod (i64.wrap a0) (6:Int))))) (0:Int)), _, hm, (fu 1 r1_0 z (fu 5 (.int .i64 (i64.wrap ((1:Int) + (Int.tmod (i64.wrap a0) (6:Int))))) z (fu 6 v282 z (fu 7 (.int .i64 (i64.wrap ((i64.wrap ((1:Int) + (Int.tmod (i64.wrap a0) (6:Int)))) - (1:Int)))) z z)))), hst⟩ ?_
 rintro n465 _ w460 ⟨z456, z457, σ458, hm, rfl, hst⟩
 obtain ⟨n462, y463, rfl, hm, hx464⟩ := loopN_some hm
 dsimp only [law03_order_l0] at hm
 refine wp_seq (wp_seq (wrl (wv (.int .i64 z456) z z z (wv (.bool (decide (z456 ≥ (0:Int)))) z z z (wl_nil (tn ?_))))))
 refine bsplit (decide (z456 ≥ (0:Int))) (fun hc466 => ?_) (fun hc466 => ?_)
 {
 replace hm := bif_t hc466 hm
 refine wp_ift (cvb hc466) ?_
 refine wp_skip (tn (wp_seq (wp_block (wp_seq (wrl ?_)))))
 refine wv (v282) z z z (wv (.int .i64 z456) z z z (wv (.int .i64 z456) z z z ?_))
 obtain ⟨hg467, hm⟩ := gd_some hm
 refine wv (.int .u64 (iShl .u64 (1:Int) z456)) z z (x_shl (of_decide_eq_true hg467) z z) ?_
 obtain ⟨x468, hx469, hm⟩ := bind_some hm
 obtain ⟨h470, h471, hi472⟩ := geto_some hx469
 refine wv (.pointer (some (eAddr v282 (z456.toNat * 1 + 0)))) z z (x_index z z underlying28 sizeOf43 hst.sv0 h470 h471) ?_
 obtain ⟨w473, hr474, hst⟩ := hst.own_store (P := prog) (t := 43) (y := (iShl .u64 (1:Int) z456)) hi472 0 (.int .u64 (iShl .u64 (1:Int) z456)) sizeOf43 (Nat.le_of_ble_eq_true z) (oC z oN) (by rintro _ rfl; rfl)
 have hi475 := set_get hi472 (iShl .u64 (1:Int) z456)
 have h476 := set_lt h471 z456.toNat (iShl .u64 (1:Int) z456)
 refine wl_unit z z (x_unit hr474) ?_
 refine wl_nil (tn (wp_seq (wrl (wv (.int .i64 z456) z z z (wv (.int .i64 (i64.wrap (z456 + (1:Int)))) z z z (wv (.int .i64 (i64.wrap (z456 + (1:Int)))) z z z (wl_nil (tn (wp_block ?_)))))))))
 obtain ⟨n521, hm⟩ := loopO_some hm
 refine wp_loop_n (fun n a w => ∃ (z518 : Int) (z519 : (List Int)) (σ520 : Nat → Value), loopN (law03_order_l1 a0 z456 a1) n (z518, z519) = some y463 ∧ a = Fr 63 (upd (upd (upd (upd (upd σ520 1 (r1_0)) 5 (.int .i64 (i64.wrap ((1:Int) + (Int.tmod (i64.wrap a0) (6:Int)))))) 6 (v282)) 7 (.int .i64 z456)) 8 (.int .i64 z518)) ∧ St w0 w I [ownS (tyInt .u64) v282 z519] R) n521 ⟨(i64.wrap (z456 + (1:Int))), (z457.set z456.toNat (iShl .u64 (1:Int) z456)), _, hm, (fu 1 r1_0 z (fu 5 (.int .i64 (i64.wrap ((1:Int) + (Int.tmod (i64.wrap a0) (6:Int))))) z (fu 6 v282 z (fu 7 (.int .i64 z456) z (fu 8 (.int .i64 (i64.wrap (z456 + (1:Int)))) z z))))), hst⟩ ?_
 rintro n527 _ w522 ⟨z518, z519, σ520, hm, rfl, hst⟩
 obtain ⟨n524, y525, rfl, hm, hx526⟩ := loopN_some hm
 dsimp only [law03_order_l1] at hm
 refine wp_seq (wp_seq (wrl (wv (.int .i64 z518) z z z (wv (.int .i64 (i64.wrap ((1:Int) + (Int.tmod (i64.wrap a0) (6:Int))))) z z z (wv (.bool (decide (z518 < (i64.wrap ((1:Int) + (Int.tmod (i64.wrap a0) (6:Int))))))) z z z (wl_nil (tn ?_)))))))
 refine bsplit (decide (z518 < (i64.wrap ((1:Int) + (Int.tmod (i64.wrap a0) (6:Int)))))) (fun hc528 => ?_) (fun hc528 => ?_)
 {
 replace hm := bif_t hc528 hm
 refine wp_ift (cvb hc528) ?_
 refine wp_skip (tn (wp_seq (wp_block (wp_seq (wrl ?_)))))
 refine wv (.int .i64 z456) z z z (wv (.int .i64 (i64.wrap (z456 * (6:Int)))) z z z (wv (.int .i64 z518) z z z (wv (.int .i64 (i64.wrap ((i64.wrap (z456 * (6:Int))) + z518))) z z z (wv (.int .i64 (i64.wrap ((i64.wrap (z456 * (6:Int))) + z518))) z z z (wl_nil (tn (wp_seq (wrl (wv (.int .i64 (i64.wrap ((i64.wrap (z456 * (6:Int))) + z518))) z z z (wv (r1_0) z z z (wv (.int .i64 ((a1).length : Int)) z z (x_len z underlying22 (rd_sliceV f1_0)) (wv (.bool (decide ((i64.wrap ((i64.wrap (z456 * (6:Int))) + z518)) < ((a1).length : Int)))) z z z (wv (.bool (decide ((i64.wrap ((i64.wrap (z456 * (6:Int))) + z518)) < ((a1).length : Int)))) z z z ?_)))))))))))))
 refine bsplit (decide ((i64.wrap ((i64.wrap (z456 * (6:Int))) + z518)) < ((a1).length : Int))) (fun hc529 => ?_) (fun hc529 => ?_)
 {
 replace hm := bif_t hc529 hm
 refine wv (r1_0) ((wanted_eq z z z (cvb hc529)).trans z) z z (wv (.int .i64 (i64.wrap ((i64.wrap (z456 * (6:Int))) + z518))) ((wanted_eq z z z (cvb hc529)).trans z) z z ?_)
 obtain ⟨x530, hx531, hm⟩ := bind_some hm
 obtain ⟨h532, h533, hi534⟩ := geto_some hx531
 refine wv (.pointer (some (eAddr r1_0 ((i64.wrap ((i64.wrap (z456 * (6:Int))) + z518)).toNat * 1 + 0)))) ((wanted_eq z z z (cvb hc529)).trans z) z (x_index z z underlying22 sizeOf5 (rd_sliceV f1_0) h532 h533) (wv (.int .u8 x530) ((wanted_eq z z z (cvb hc529)).trans z) z (x_load z isAgg5 (rd_load f1_0 (HL.le.refl _) hst hi534 (by rintro _ rfl; rfl))) (wv (.int .u8 (Int.tmod x530 (2:Int))) ((wanted_eq z z z (cvb hc529)).trans z) z (x_rem (by decide) z z) (wv (.bool ((Int.tmod x530 (2:Int)) == (1:Int))) ((wanted_eq z z z (cvb hc529)).trans z) z z (wv (.bool ((Int.tmod x530 (2:Int)) == (1:Int))) z z (x_pick_t hc529 z z) (wl_nil (tn ?_))))))
 refine bsplit ((Int.tmod x530 (2:Int)) == (1:Int)) (fun hc535 => ?_) (fun hc535 => ?_)
 {
 replace hm := bif_t hc535 hm
 refine wp_ift (cvb hc535) ?_
 refine wp_region_St hst 13 [0, 1, 2, 3, 4, 5, 6, 7, 8, 9, 10, 11, 12] [0, 0, 0, 0, 12, 28, 0, 0, 192, 448, 1020, 2047, 4095] [] z (by kernel_rfl) (by kernel_rfl) Try.mixed (by kernel_rfl) ?_
 refine wsr (v282) 0 z z z (by kernel_rfl) (fun w hst => z) (wsr (.int .i64 z456) 1 z z z (by kernel_rfl) (fun w hst => z) (wsr (v282) 2 z z z (by kernel_rfl) (fun w hst => z) (wsr (.int .i64 z456) 3 z z z (by kernel_rfl) (fun w hst => z) ?_)))
 obtain ⟨x536, hx537, hm⟩ := bind_some hm
 obtain ⟨h538, h539, hi540⟩ := geto_some hx537
 refine wsr (.pointer (some (eAddr v282 (z456.toNat * 1 + 0)))) 4 z z z (by kernel_rfl) (fun w hst => x_index z z underlying28 sizeOf43 hst.sv0 h538 h539) (wsr (.int .u64 x536) 5 z z z (by kernel_rfl) (fun w hst => x_load z isAgg43 (hst.ol0 hi540 (by rintro _ rfl; rfl))) (wsr (v282) 6 z z z (by kernel_rfl) (fun w hst => z) (wsr (.int .i64 z518) 7 z z z (by kernel_rfl) (fun w hst => z) ?_)))
 obtain ⟨x541, hx542, hm⟩ := bind_some hm
 obtain ⟨h543, h544, hi545⟩ := geto_some hx542
 refine wsr (.pointer (some (eAddr v282 (z518.toNat * 1 + 0)))) 8 z z z (by kernel_rfl) (fun w hst => x_index z z underlying28 sizeOf43 hst.sv0 h543 h544) (wsr (.int .u64 x541) 9 z z z (by kernel_rfl) (fun w hst => x_load z isAgg43 (hst.ol0 hi545 (by rintro _ rfl; rfl))) (wsr (.int .u64 (bOr .u64 x536 x541)) 10 z z z (by kernel_rfl) (fun w hst => z) (wsr (.pointer (some (eAddr v282 (z456.toNat * 1 + 0)))) 11 z z z (by kernel_rfl) (fun w hst => x_index z z underlying28 sizeOf43 hst.sv0 h538 h539) ?_)))
 refine ws_e1 12 (by kernel_rfl) ?_
 refine nxe [] (by kernel_rfl) z z ?_
 clear hst
 intro w hst
 obtain ⟨w546, hr547, hst⟩ := hst.own_store (P := prog) (t := 43) (y := (bOr .u64 x536 x541)) hi540 0 (.int .u64 (bOr .u64 x536 x541)) sizeOf43 (Nat.le_of_ble_eq_true z) (oC z oN) (by rintro _ rfl; rfl)
 have hi548 := set_get hi540 (bOr .u64 x536 x541)
 have h549 := set_lt h539 z456.toNat (bOr .u64 x536 x541)
 refine we_unit z (x_unit hr547) ?_
 refine ws_next (pend' := []) hst (by kernel_rfl) pk_nil ?_
 refine ws_nil ?_
 intro w hst
 refine blk_n (tn (wrl ?_))
 refine wv (.int .i64 z518) z z z (wv (.int .i64 (i64.wrap (z518 + (1:Int)))) z z z (wv (.int .i64 (i64.wrap (z518 + (1:Int)))) z z z (wl_nil (tn ?_))))
 replace hst := hst.keep1
 obtain rfl := some_inj hm
 exact ⟨_, Nat.lt_succ_self _, (i64.wrap (z518 + (1:Int))), (z519.set z456.toNat (bOr .u64 x536 x541)), _, hx526, (fu 1 r1_0 z (fu 5 (.int .i64 (i64.wrap ((1:Int) + (Int.tmod (i64.wrap a0) (6:Int))))) z (fu 6 v282 z (fu 7 (.int .i64 z456) z (fu 8 (.int .i64 (i64.wrap (z518 + (1:Int)))) z z))))), hst⟩
}
 {
 replace hm := bif_f hc535 hm
 refine wp_iff (cvb hc535) ?_
 refine wp_skip (blk_n (tn (wrl ?_)))
 refine wv (.int .i64 z518) z z z (wv (.int .i64 (i64.wrap (z518 + (1:Int)))) z z z (wv (.int .i64 (i64.wrap (z518 + (1:Int)))) z z z (wl_nil (tn ?_))))
 replace hst := hst.keep1
 obtain rfl := some_inj hm
 exact ⟨_, Nat.lt_succ_self _, (i64.wrap (z518 + (1:Int))), z519, _, hx526, (fu 1 r1_0 z (fu 5 (.int .i64 (i64.wrap ((1:Int) + (Int.tmod (i64.wrap a0) (6:Int))))) z (fu 6 v282 z (fu 7 (.int .i64 z456) z (fu 8 (.int .i64 (i64.wrap (z518 + (1:Int)))) z z))))), hst⟩
}
}
 {
 replace hm := bif_f hc529 hm
 refine wo hc529 z z z z z z (wo hc529 z z z z z z (wo hc529 z z z z z z (wo hc529 z z z z z z (wo hc529 z z z z z z (wo hc529 z z z z z z (wv (.bool false) z z (x_pick_f hc529 z z) (wl_nil (tn ?_))))))))
 refine wp_iff z ?_
 refine wp_skip (blk_n (tn (wrl ?_)))
 refine wv (.int .i64 z518) z z z (wv (.int .i64 (i64.wrap (z518 + (1:Int)))) z z z (wv (.int .i64 (i64.wrap (z518 + (1:Int)))) z z z (wl_nil (tn ?_))))
 replace hst := hst.keep1
 obtain rfl := some_inj hm
 exact ⟨_, Nat.lt_succ_self _, (i64.wrap (z518 + (1:Int))), z519, _, hx526, (fu 1 r1_0 z (fu 5 (.int .i64 (i64.wrap ((1:Int) + (Int.tmod (i64.wrap a0) (6:Int))))) z (fu 6 v282 z (fu 7 (.int .i64 z456) z (fu 8 (.int .i64 (i64.wrap (z518 + (1:Int)))) z z))))), hst⟩
}
}
 {
 replace hm := bif_f hc528 hm
 refine wp_iff (cvb hc528) ?_
 refine wp_exit (then_x (then_x ?_))
 replace hm := inr_up hm hx526
 refine blk_x (blk_n (tn (wrl ?_)))
 refine wv (.int .i64 z456) z z z (wv (.int .i64 (i64.wrap (z456 - (1:Int)))) z z z (wv (.int .i64 (i64.wrap (z456 - (1:Int)))) z z z (wl_nil (tn ?_))))
 replace hst := hst.keep1
 obtain rfl := some_inj hm
 exact ⟨_, Nat.lt_succ_self _, (i64.wrap (z456 - (1:Int))), z519, _, hx464, (fu 1 r1_0 z (fu 5 (.int .i64 (i64.wrap ((1:Int) + (Int.tmod (i64.wrap a0) (6:Int))))) z (fu 6 v282 z (fu 7 (.int .i64 (i64.wrap (z456 - (1:Int)))) z z)))), hst⟩
}
}
 {
 replace hm := bif_f hc466 hm
 refine wp_iff (cvb hc466) ?_
 refine wp_exit (then_x (then_x ?_))
 replace hm := inr_up hm hx464
 refine blk_x (tn (wp_seq (wrl ?_)))
 refine wv (v282) z z z (wv (v282) z z z (wl_nil (tn (wp_ret ?_))))
 obtain rfl := some_inj hm
 refine post_ret (vs := [v282]) results11 (rvs_cons (rv_tmp z) rvs_nil) ?_
 exact ⟨v282, z, hst.keep1⟩
}
}

theorem ref03_Leq_ref {w0 w : World} {I : HL} {R : SP} {a0 : (List Int)} {r0_0 : Value} {a1 : Int} {a2 : Int} (f0_0 : Rd (tyInt .u64) R I r0_0 a0) (hst : St w0 w I [] R) {r : (Bool)} (hm : ref03_Leq a0 a1 a2 = some r) :
  Calls prog 32 #[r0_0, I6 a1, I6 a2] w fun e w' => e = .returned (.bool r) ∧ St w0 w' I [] R := by {
 unfold ref03_Leq at hm
 refine calls_start (args := [r0_0, I6 a1, I6 a2]) func32 z ntmps32 (Nat.le_of_ble_eq_true z) ?_
 refine wp_seq (wrl (wv (.bool false) z z z (wl_nil (tn (wp_seq (wrl (wv (.int .i64 a1) z z z (wv (.bool (decide (a1 ≥ (0:Int)))) z z z (wv (.bool (decide (a1 ≥ (0:Int)))) z z z ?_)))))))))
 refine bsplit (decide (a1 ≥ (0:Int))) (fun hc47 => ?_) (fun hc47 => ?_)
 {
 replace hm := bif_t hc47 hm
 refine wv (.int .i64 a2) ((wanted_eq z z z (cvb hc47)).trans z) z z (wv (.bool (decide (a2 ≥ (0:Int)))) ((wanted_eq z z z (cvb hc47)).trans z) z z (wv (.bool (decide (a2 ≥ (0:Int)))) z z (x_pick_t hc47 z z) (wv (.bool (decide (a2 ≥ (0:Int)))) z z z ?_)))
 refine bsplit (decide (a2 ≥ (0:Int))) (fun hc48 => ?_) (fun hc48 => ?_)
 {
 replace hm := bif_t hc48 hm
 refine wv (.int .i64 a1) ((wanted_eq z z z (cvb hc48)).trans z) z z (wv (r0_0) ((wanted_eq z z z (cvb hc48)).trans z) z z (wv (.int .i64 ((a0).length : Int)) ((wanted_eq z z z (cvb hc48)).trans z) z (x_len z underlying28 (rd_sliceV f0_0)) (wv (.bool (decide (a1 < ((a0).length : Int)))) ((wanted_eq z z z (cvb hc48)).trans z) z z (wv (.bool (decide (a1 < ((a0).length : Int)))) z z (x_pick_t hc48 z z) (wv (.bool (decide (a1 < ((a0).length : Int)))) z z z ?_)))))
 refine bsplit (decide (a1 < ((a0).length : Int))) (fun hc49 => ?_) (fun hc49 => ?_)
 {
 replace hm := bif_t hc49 hm
 refine wv (.int .i64 a2) ((wanted_eq z z z (cvb hc49)).trans z) z z (wv (r0_0) ((wanted_eq z z z (cvb hc49)).trans z) z z (wv (.int .i64 ((a0).length : Int)) ((wanted_eq z z z (cvb hc49)).trans z) z (x_len z underlying28 (rd_sliceV f0_0)) (wv (.bool (decide (a2 < ((a0).length : Int)))) ((wanted_eq z z z (cvb hc49)).trans z) z z (wv (.bool (decide (a2 < ((a0).length : Int)))) z z (x_pick_t hc49 z z) (wv (.bool (decide (a2 < ((a0).length : Int)))) z z z ?_)))))
 refine bsplit (decide (a2 < ((a0).length : Int))) (fun hc50 => ?_) (fun hc50 => ?_)
 {
 replace hm := bif_t hc50 hm
 refine wv (r0_0) ((wanted_eq z z z (cvb hc50)).trans z) z z (wv (.int .i64 a1) ((wanted_eq z z z (cvb hc50)).trans z) z z ?_)
 obtain ⟨x51, hx52, hm⟩ := bind_some hm
 obtain ⟨h53, h54, hi55⟩ := geto_some hx52
 refine wv (.pointer (some (eAddr r0_0 (a1.toNat * 1 + 0)))) ((wanted_eq z z z (cvb hc50)).trans z) z (x_index z z underlying28 sizeOf43 (rd_sliceV f0_0) h53 h54) (wv (.int .u64 x51) ((wanted_eq z z z (cvb hc50)).trans z) z (x_load z isAgg43 (rd_load f0_0 (HL.le.refl _) hst hi55 (by rintro _ rfl; rfl))) (wv (.int .i64 a2) ((wanted_eq z z z (cvb hc50)).trans z) z z ?_))
 obtain ⟨hg56, hm⟩ := gd_some hm
 refine wv (.int .u64 (iShr .u64 x51 a2)) ((wanted_eq z z z (cvb hc50)).trans z) z (x_shr (of_decide_eq_true hg56) z z) (wv (.int .u64 (bAnd .u64 (iShr .u64 x51 a2) (1:Int))) ((wanted_eq z z z (cvb hc50)).trans z) z z (wv (.bool ((bAnd .u64 (iShr .u64 x51 a2) (1:Int)) == (1:Int))) ((wanted_eq z z z (cvb hc50)).trans z) z z (wv (.bool ((bAnd .u64 (iShr .u64 x51 a2) (1:Int)) == (1:Int))) z z (x_pick_t hc50 z z) (wv (.bool ((bAnd .u64 (iShr .u64 x51 a2) (1:Int)) == (1:Int))) z z z (wl_nil (tn (wp_ret ?_)))))))
 obtain rfl := some_inj hm
 refine post_ret (vs := [.bool ((bAnd .u64 (iShr .u64 x51 a2) (1:Int)) == (1:Int))]) results32 (rvs_cons (rv_tmp z) rvs_nil) ?_
 exact ⟨z, hst.keep0⟩
}
 {
 replace hm := bif_f hc50 hm
 refine wo hc50 z z z z z z (wo hc50 z z z z z z (wo hc50 z z z z z z (wo hc50 z z z z z z (wo hc50 z z z z z z (wo hc50 z z z z z z (wo hc50 z z z z z z (wo hc50 z z z z z z (wv (.bool false) z z (x_pick_f hc50 z z) (wv (.bool false) z z z (wl_nil (tn (wp_ret ?_))))))))))))
 obtain rfl := some_inj hm
 refine post_ret (vs := [.bool false]) results32 (rvs_cons (rv_tmp z) rvs_nil) ?_
 exact ⟨z, hst.keep0⟩
}
}
 {
 replace hm := bif_f hc49 hm
 refine wo hc49 z z z z z z (wo hc49 z z z z z z (wo hc49 z z z z z z (wo hc49 z z z z z z (wv (.bool false) z z (x_pick_f hc49 z z) (wv (.bool false) z z z (wz z z z z z z (wz z z z z z z (wz z z z z z z (wz z z z z z z (wz z z z z z z (wz z z z z z z (wz z z z z z z ?_))))))))))))
 refine wz z z z z z z (wv (.bool false) z z (x_pick_f z z z) (wv (.bool false) z z z (wl_nil (tn (wp_ret ?_)))))
 obtain rfl := some_inj hm
 refine post_ret (vs := [.bool false]) results32 (rvs_cons (rv_tmp z) rvs_nil) ?_
 exact ⟨z, hst.keep0⟩
}
}
 {
 replace hm := bif_f hc48 hm
 refine wo hc48 z z z z z z (wo hc48 z z z z z z (wo hc48 z z z z z z (wo hc48 z z z z z z (wv (.bool false) z z (x_pick_f hc48 z z) (wv (.bool false) z z z (wz z z z z z z (wz z z z z z z (wz z z z z z z (wz z z z z z z (wv (.bool false) z z (x_pick_f z z z) (wv (.bool false) z z z (wz z z z z z z ?_))))))))))))
 refine wz z z z z z z (wz z z z z z z (wz z z z z z z (wz z z z z z z (wz z z z z z z (wz z z z z z z (wz z z z z z z (wv (.bool false) z z (x_pick_f z z z) (wv (.bool false) z z z (wl_nil (tn (wp_ret ?_)))))))))))
 obtain rfl := some_inj hm
 refine post_ret (vs := [.bool false]) results32 (rvs_cons (rv_tmp z) rvs_nil) ?_
 exact ⟨z, hst.keep0⟩
}
}
 {
 replace hm := bif_f hc47 hm
 refine wo hc47 z z z z z z (wo hc47 z z z z z z (wv (.bool false) z z (x_pick_f hc47 z z) (wv (.bool false) z z z (wz z z z z z z (wz z z z z z z (wz z z z z z z (wz z z z z z z (wv (.bool false) z z (x_pick_f z z z) (wv (.bool false) z z z (wz z z z z z z (wz z z z z z z (wz z z z z z z ?_))))))))))))
 refine wz z z z z z z (wv (.bool false) z z (x_pick_f z z z) (wv (.bool false) z z z (wz z z z z z z (wz z z z z z z (wz z z z z z z (wz z z z z z z (wz z z z z z z (wz z z z z z z (wz z z z z z z (wz z z z z z z (wv (.bool false) z z (x_pick_f z z z) (wv (.bool false) z z z ?_))))))))))))
 refine wl_nil (tn (wp_ret ?_))
 obtain rfl := some_inj hm
 refine post_ret (vs := [.bool false]) results32 (rvs_cons (rv_tmp z) rvs_nil) ?_
 exact ⟨z, hst.keep0⟩
}
}

theorem ref03_Join_ref {w0 w : World} {I : HL} {R : SP} {a0 : (List Int)} {r0_0 : Value} {a1 : Int} {a2 : Int} (f0_0 : Rd (tyInt .u64) R I r0_0 a0) (hst : St w0 w I [] R) {r : (Int)} (hm : ref03_Join a0 a1 a2 = some r) :
  Calls prog 33 #[r0_0, I6 a1, I6 a2] w fun e w' => e = .returned (.int .i64 r) ∧ St w0 w' I [] R := by {
 unfold ref03_Join at hm
 refine calls_start (args := [r0_0, I6 a1, I6 a2]) func33 z ntmps33 (Nat.le_of_ble_eq_true z) ?_
 refine wp_seq (wrl (wv (.int .i64 (0:Int)) z z z (wl_nil (tn (wp_seq (wp_seq (wrl (wv (.int .i64 (0:Int)) z z z (wl_nil (tn (wp_block ?_)))))))))))
 obtain ⟨n1351, hm⟩ := loopO_some hm
 refine wp_loop_n (fun n a w => ∃ (z1349 : Int) (σ1350 : Nat → Value), loopN (ref03_Join_l0 a0 a1 a2) n z1349 = some r ∧ a = Fr 54 (upd (upd (upd (upd σ1350 0 (r0_0)) 1 (.int .i64 a1)) 2 (.int .i64 a2)) 7 (.int .i64 z1349)) ∧ St w0 w I [] R) n1351 ⟨(0:Int), _, hm, (fu 0 r0_0 z (fu 1 (.int .i64 a1) z (fu 2 (.int .i64 a2) z (fu 7 (.int .i64 (0:Int)) z z)))), hst⟩ ?_
 rintro n1357 _ w1352 ⟨z1349, σ1350, hm, rfl, hst⟩
 obtain ⟨n1354, y1355, rfl, hm, hx1356⟩ := loopN_some hm
 dsimp only [ref03_Join_l0] at hm
 refine wp_seq (wp_seq (wrl (wv (.int .i64 z1349) z z z (wv (r0_0) z z z (wv (.int .i64 ((a0).length : Int)) z z (x_len z underlying28 (rd_sliceV f0_0)) (wv (.bool (decide (z1349 < ((a0).length : Int)))) z z z (wl_nil (tn ?_))))))))
 refine bsplit (decide (z1349 < ((a0).length : Int))) (fun hc1358 => ?_) (fun hc1358 => ?_)
 {
 replace hm := bif_t hc1358 hm
 refine wp_ift (cvb hc1358) ?_
 refine wp_skip (tn (wp_seq (wp_block ?_)))
 obtain ⟨y1373, hm, hx1374⟩ := bind_some hm
 refine wp_cut (fun a w => ∃ (z1370 : Bool) (σ1371 : Nat → Value), (ref03_Join_j1 a0 a1 a2 z1349) z1370 = some y1355 ∧ a = Fr 54 (upd (upd (upd (upd (upd σ1371 0 (r0_0)) 1 (.int .i64 a1)) 2 (.int .i64 a2)) 7 (.int .i64 z1349)) 8 (.bool z1370)) ∧ St w0 w I [] R) ?_ ?_
 {
 refine wrl (wv (r0_0) z z z (wv (.int .i64 a1) z z z (wv (.int .i64 z1349) z z z ?_)))
 obtain ⟨t1359, ht1360, hm⟩ := bind_some hm
 refine wc call32 [r0_0, I6 a1, I6 z1349] z z z ?_
 refine (ref03_Leq_ref (f0_0.mono (rd_weak _)) hst.to0 ht1360).mono ?_
 rintro _ w1361 ⟨rfl, hst⟩
 refine ⟨_, z, ?_⟩
 replace hst := hst.of0
 refine wv (.bool t1359) z z z ?_
 refine bsplit t1359 (fun hc1364 => ?_) (fun hc1364 => ?_)
 {
 replace hm := bif_t hc1364 hm
 refine wv (r0_0) ((wanted_eq z z z (cvb hc1364)).trans z) z z (wv (.int .i64 a2) ((wanted_eq z z z (cvb hc1364)).trans z) z z (wv (.int .i64 z1349) ((wanted_eq z z z (cvb hc1364)).trans z) z z ?_))
 obtain ⟨t1365, ht1366, hm⟩ := bind_some hm
 refine wl_call ((wanted_eq z z z (cvb hc1364)).trans z) z (x_call call32 z (vs := [r0_0, I6 a2, I6 z1349]) z) ?_
 refine (ref03_Leq_ref (f0_0.mono (rd_weak _)) hst.to0 ht1366).mono ?_
 rintro _ w1367 ⟨rfl, hst⟩
 refine ⟨_, z, ?_⟩
 replace hst := hst.of0
 refine wv (.bool t1365) z z (x_pick_t hc1364 z z) (wv (.bool t1365) z z z (wl_nil (tn ?_)))
 replace hst := hst.keep0
 obtain rfl := some_inj hm
 exact ⟨t1365, _, hx1374, (fu 0 r0_0 z (fu 1 (.int .i64 a1) z (fu 2 (.int .i64 a2) z (fu 7 (.int .i64 z1349) z (fu 8 (.bool t1365) z z))))), hst⟩
}
 {
 replace hm := bif_f hc1364 hm
 refine wo hc1364 z z z z z z (wo hc1364 z z z z z z (wo hc1364 z z z z z z (wo hc1364 z z z z z z (wv (.bool false) z z (x_pick_f hc1364 z z) (wv (.bool false) z z z (wl_nil (tn ?_)))))))
 replace hst := hst.keep0
 obtain rfl := some_inj hm
 exact ⟨false, _, hx1374, (fu 0 r0_0 z (fu 1 (.int .i64 a1) z (fu 2 (.int .i64 a2) z (fu 7 (.int .i64 z1349) z (fu 8 (.bool false) z z))))), hst⟩
}
}
 {
 clear hst
 rintro _ w1375 ⟨z1370, σ1371, hm, rfl, hst⟩
 dsimp only [ref03_Join_j1] at hm
 refine wp_seq (wp_seq (wrl (wv (.int .i64 (0:Int)) z z z (wl_nil (tn (wp_block ?_))))))
 obtain ⟨n1421, hm⟩ := loopO_some hm
 refine wp_loop_n (fun n a w => ∃ (z1418 : Bool) (z1419 : Int) (σ1420 : Nat → Value), loopN (ref03_Join_l2 a0 a1 a2 z1349) n (z1418, z1419) = some y1355 ∧ a = Fr 54 (upd (upd (upd (upd (upd (upd σ1420 0 (r0_0)) 1 (.int .i64 a1)) 2 (.int .i64 a2)) 7 (.int .i64 z1349)) 8 (.bool z1418)) 9 (.int .i64 z1419)) ∧ St w0 w I [] R) n1421 ⟨z1370, (0:Int), _, hm, (fu 0 r0_0 z (fu 1 (.int .i64 a1) z (fu 2 (.int .i64 a2) z (fu 7 (.int .i64 z1349) z (fu 8 (.bool z1370) z (fu 9 (.int .i64 (0:Int)) z z)))))), hst⟩ ?_
 rintro n1427 _ w1422 ⟨z1418, z1419, σ1420, hm, rfl, hst⟩
 obtain ⟨n1424, y1425, rfl, hm, hx1426⟩ := loopN_some hm
 dsimp only [ref03_Join_l2] at hm
 refine wp_seq (wp_seq (wrl (wv (.int .i64 z1419) z z z (wv (r0_0) z z z (wv (.int .i64 ((a0).length : Int)) z z (x_len z underlying28 (rd_sliceV f0_0)) (wv (.bool (decide (z1419 < ((a0).length : Int)))) z z z (wv (.bool (decide (z1419 < ((a0).length : Int)))) z z z ?_)))))))
 refine bsplit (decide (z1419 < ((a0).length : Int))) (fun hc1428 => ?_) (fun hc1428 => ?_)
 {
 replace hm := bif_t hc1428 hm
 refine wv (.bool z1418) ((wanted_eq z z z (cvb hc1428)).trans z) z z (wv (.bool z1418) z z (x_pick_t hc1428 z z) (wl_nil (tn ?_)))
 refine bsplit z1418 (fun hc1429 => ?_) (fun hc1429 => ?_)
 {
 replace hm := bif_t hc1429 hm
 refine wp_ift (cvb hc1429) ?_
 refine wp_skip (tn (wp_seq (wp_block (wp_seq (wrl ?_)))))
 refine wv (r0_0) z z z (wv (.int .i64 a1) z z z (wv (.int .i64 z1419) z z z ?_))
 obtain ⟨t1430, ht1431, hm⟩ := bind_some hm
 refine wc call32 [r0_0, I6 a1, I6 z1419] z z z ?_
 refine (ref03_Leq_ref (f0_0.mono (rd_weak _)) hst.to0 ht1431).mono ?_
 rintro _ w1432 ⟨rfl, hst⟩
 refine ⟨_, z, ?_⟩
 replace hst := hst.of0
 refine wv (.bool t1430) z z z ?_
 refine bsplit t1430 (fun hc1435 => ?_) (fun hc1435 => ?_)
 {
 replace hm := bif_t hc1435 hm
 refine wv (r0_0) ((wanted_eq z z z (cvb hc1435)).trans z) z z (wv (.int .i64 a2) ((wanted_eq z z z (cvb hc1435)).trans z) z z (wv (.int .i64 z1419) ((wanted_eq z z z (cvb hc1435)).trans z) z z ?_))
 obtain ⟨t1436, ht1437, hm⟩ := bind_some hm
 refine wl_call ((wanted_eq z z z (cvb hc1435)).trans z) z (x_call call32 z (vs := [r0_0, I6 a2, I6 z1419]) z) ?_
 refine (ref03_Leq_ref (f0_0.mono (rd_weak _)) hst.to0 ht1437).mono ?_
 rintro _ w1438 ⟨rfl, hst⟩
 refine ⟨_, z, ?_⟩
 replace hst := hst.of0
 refine wv (.bool t1436) z z (x_pick_t hc1435 z z) (wv (.bool t1436) z z z ?_)
 refine bsplit t1436 (fun hc1441 => ?_) (fun hc1441 => ?_)
 {
 replace hm := bif_t hc1441 hm
 refine wv (r0_0) ((wanted_eq z z z (cvb hc1441)).trans z) z z (wv (.int .i64 z1349) ((wanted_eq z z z (cvb hc1441)).trans z) z z (wv (.int .i64 z1419) ((wanted_eq z z z (cvb hc1441)).trans z) z z ?_))
 obtain ⟨t1442, ht1443, hm⟩ := bind_some hm
 refine wl_call ((wanted_eq z z z (cvb hc1441)).trans z) z (x_call call32 z (vs := [r0_0, I6 z1349, I6 z1419]) z) ?_
 refine (ref03_Leq_ref (f0_0.mono (rd_weak _)) hst.to0 ht1443).mono ?_
 rintro _ w1444 ⟨rfl, hst⟩
 refine ⟨_, z, ?_⟩
 replace hst := hst.of0
 refine wv (.bool (!t1442)) ((wanted_eq z z z (cvb hc1441)).trans z) z z (wv (.bool (!t1442)) z z (x_pick_t hc1441 z z) (wl_nil (tn ?_)))
 refine bsplit (!t1442) (fun hc1447 => ?_) (fun hc1447 => ?_)
 {
 replace hm := bif_t hc1447 hm
 refine wp_ift (cvb hc1447) ?_
 refine wrl (wv (.bool false) z z z (wl_nil (blk_n (tn (wrl (wv (.int .i64 z1419) z z z (wv (.int .i64 (i64.wrap (z1419 + (1:Int)))) z z z (wv (.int .i64 (i64.wrap (z1419 + (1:Int)))) z z z (wl_nil (tn ?_))))))))))
 replace hst := hst.keep0
 obtain rfl := some_inj hm
 exact ⟨_, Nat.lt_succ_self _, false, (i64.wrap (z1419 + (1:Int))), _, hx1426, (fu 0 r0_0 z (fu 1 (.int .i64 a1) z (fu 2 (.int .i64 a2) z (fu 7 (.int .i64 z1349) z (fu 8 (.bool false) z (fu 9 (.int .i64 (i64.wrap (z1419 + (1:Int)))) z z)))))), hst⟩
}
 {
 replace hm := bif_f hc1447 hm
 refine wp_iff (cvb hc1447) ?_
 refine wp_skip (blk_n (tn (wrl ?_)))
 refine wv (.int .i64 z1419) z z z (wv (.int .i64 (i64.wrap (z1419 + (1:Int)))) z z z (wv (.int .i64 (i64.wrap (z1419 + (1:Int)))) z z z (wl_nil (tn ?_))))
 replace hst := hst.keep0
 obtain rfl := some_inj hm
 exact ⟨_, Nat.lt_succ_self _, z1418, (i64.wrap (z1419 + (1:Int))), _, hx1426, (fu 0 r0_0 z (fu 1 (.int .i64 a1) z (fu 2 (.int .i64 a2) z (fu 7 (.int .i64 z1349) z (fu 8 (.bool z1418) z (fu 9 (.int .i64 (i64.wrap (z1419 + (1:Int)))) z z)))))), hst⟩
}
}
 {
 replace hm := bif_f hc1441 hm
 refine wo hc1441 z z z z z z (wo hc1441 z z z z z z (wo hc1441 z z z z z z (wo hc1441 z z z z z z (wo hc1441 z z z z z z (wv (.bool false) z z (x_pick_f hc1441 z z) (wl_nil (tn ?_)))))))
 refine wp_iff z ?_
 refine wp_skip (blk_n (tn (wrl ?_)))
 refine wv (.int .i64 z1419) z z z (wv (.int .i64 (i64.wrap (z1419 + (1:Int)))) z z z (wv (.int .i64 (i64.wrap (z1419 + (1:Int)))) z z z (wl_nil (tn ?_))))
 replace hst := hst.keep0
 obtain rfl := some_inj hm
 exact ⟨_, Nat.lt_succ_self _, z1418, (i64.wrap (z1419 + (1:Int))), _, hx1426, (fu 0 r0_0 z (fu 1 (.int .i64 a1) z (fu 2 (.int .i64 a2) z (fu 7 (.int .i64 z1349) z (fu 8 (.bool z1418) z (fu 9 (.int .i64 (i64.wrap (z1419 + (1:Int)))) z z)))))), hst⟩
}
}
 {
 replace hm := bif_f hc1435 hm
 refine wo hc1435 z z z z z z (wo hc1435 z z z z z z (wo hc1435 z z z z z z (wo hc1435 z z z z z z (wv (.bool false) z z (x_pick_f hc1435 z z) (wv (.bool false) z z z (wz z z z z z z (wz z z z z z z (wz z z z z z z (wz z z z z z z (wz z z z z z z (wv (.bool false) z z (x_pick_f z z z) (wl_nil (tn ?_)))))))))))))
 refine wp_iff z ?_
 refine wp_skip (blk_n (tn (wrl ?_)))
 refine wv (.int .i64 z1419) z z z (wv (.int .i64 (i64.wrap (z1419 + (1:Int)))) z z z (wv (.int .i64 (i64.wrap (z1419 + (1:Int)))) z z z (wl_nil (tn ?_))))
 replace hst := hst.keep0
 obtain rfl := some_inj hm
 exact ⟨_, Nat.lt_succ_self _, z1418, (i64.wrap (z1419 + (1:Int))), _, hx1426, (fu 0 r0_0 z (fu 1 (.int .i64 a1) z (fu 2 (.int .i64 a2) z (fu 7 (.int .i64 z1349) z (fu 8 (.bool z1418) z (fu 9 (.int .i64 (i64.wrap (z1419 + (1:Int)))) z z)))))), hst⟩
}
}
 {
 replace hm := bif_f hc1429 hm
 refine wp_iff (cvb hc1429) ?_
 refine wp_exit (then_x (then_x ?_))
 replace hm := inr_up hm hx1426
 refine blk_x (tn (wp_seq (wrl ?_)))
 refine wv (.bool z1418) z z z (wl_nil (tn ?_))
 refine wp_iff (cvb hc1429) ?_
 refine wp_skip (blk_n (tn (wrl ?_)))
 refine wv (.int .i64 z1349) z z z (wv (.int .i64 (i64.wrap (z1349 + (1:Int)))) z z z (wv (.int .i64 (i64.wrap (z1349 + (1:Int)))) z z z (wl_nil (tn ?_))))
 replace hst := hst.keep0
 obtain rfl := some_inj hm
 exact ⟨_, Nat.lt_succ_self _, (i64.wrap (z1349 + (1:Int))), _, hx1356, (fu 0 r0_0 z (fu 1 (.int .i64 a1) z (fu 2 (.int .i64 a2) z (fu 7 (.int .i64 (i64.wrap (z1349 + (1:Int)))) z z)))), hst⟩
}
}
 {
 replace hm := bif_f hc1428 hm
 refine wo hc1428 z z z z z z (wv (.bool false) z z (x_pick_f hc1428 z z) (wl_nil (tn ?_)))
 refine wp_iff z ?_
 refine wp_exit (then_x (then_x ?_))
 replace hm := inr_up hm hx1426
 refine blk_x (tn (wp_seq (wrl ?_)))
 refine wv (.bool z1418) z z z (wl_nil (tn ?_))
 refine bsplit z1418 (fun hc1448 => ?_) (fun hc1448 => ?_)
 {
 replace hm := bif_t hc1448 hm
 refine wp_ift (cvb hc1448) ?_
 refine wp_seq (wrl (wv (.int .i64 z1349) z z z (wv (.int .i64 z1349) z z z (wl_nil (tn (wp_ret (blk_r (then_r (then_r ?_)))))))))
 replace hm := inr_up hm hx1356
 refine blk_r (then_r ?_)
 obtain rfl := some_inj hm
 refine post_ret (vs := [I6 z1349]) results33 (rvs_cons (rv_tmp z) rvs_nil) ?_
 exact ⟨z, hst.keep0⟩
}
 {
 replace hm := bif_f hc1448 hm
 refine wp_iff (cvb hc1448) ?_
 refine wp_skip (blk_n (tn (wrl ?_)))
 refine wv (.int .i64 z1349) z z z (wv (.int .i64 (i64.wrap (z1349 + (1:Int)))) z z z (wv (.int .i64 (i64.wrap (z1349 + (1:Int)))) z z z (wl_nil (tn ?_))))
 replace hst := hst.keep0
 obtain rfl := some_inj hm
 exact ⟨_, Nat.lt_succ_self _, (i64.wrap (z1349 + (1:Int))), _, hx1356, (fu 0 r0_0 z (fu 1 (.int .i64 a1) z (fu 2 (.int .i64 a2) z (fu 7 (.int .i64 (i64.wrap (z1349 + (1:Int)))) z z)))), hst⟩
}
}
}
}
 {
 replace hm := bif_f hc1358 hm
 refine wp_iff (cvb hc1358) ?_
 refine wp_exit (then_x (then_x ?_))
 replace hm := inr_up hm hx1356
 refine blk_x (tn (wp_seq (wrl ?_)))
 refine wv (.int .i64 ((-1):Int)) z z z (wl_nil (tn (wp_ret ?_)))
 obtain rfl := some_inj hm
 refine post_ret (vs := [I6 ((-1):Int)]) results33 (rvs_cons (rv_tmp z) rvs_nil) ?_
 exact ⟨z, hst.keep0⟩
}
}

theorem ref03_Meet_ref {w0 w : World} {I : HL} {R : SP} {a0 : (List Int)} {r0_0 : Value} {a1 : Int} {a2 : Int} (f0_0 : Rd (tyInt .u64) R I r0_0 a0) (hst : St w0 w I [] R) {r : (Int)} (hm : ref03_Meet a0 a1 a2 = some r) :
  Calls prog 34 #[r0_0, I6 a1, I6 a2] w fun e w' => e = .returned (.int .i64 r) ∧ St w0 w' I [] R := by {
 unfold ref03_Meet at hm
 refine calls_start (args := [r0_0, I6 a1, I6 a2]) func34 z ntmps34 (Nat.le_of_ble_eq_true z) ?_
 refine wp_seq (wrl (wv (.int .i64 (0:Int)) z z z (wl_nil (tn (wp_seq (wp_seq (wrl (wv (.int .i64 (0:Int)) z z z (wl_nil (tn (wp_block ?_)))))))))))
 obtain ⟨n1357, hm⟩ := loopO_some hm
 refine wp_loop_n (fun n a w => ∃ (z1355 : Int) (σ1356 : Nat → Value), loopN (ref03_Meet_l0 a0 a1 a2) n z1355 = some r ∧ a = Fr 54 (upd (upd (upd (upd σ1356 0 (r0_0)) 1 (.int .i64 a1)) 2 (.int .i64 a2)) 7 (.int .i64 z1355)) ∧ St w0 w I [] R) n1357 ⟨(0:Int), _, hm, (fu 0 r0_0 z (fu 1 (.int .i64 a1) z (fu 2 (.int .i64 a2) z (fu 7 (.int .i64 (0:Int)) z z)))), hst⟩ ?_
 rintro n1363 _ w1358 ⟨z1355, σ1356, hm, rfl, hst⟩
 obtain ⟨n1360, y1361, rfl, hm, hx1362⟩ := loopN_some hm
 dsimp only [ref03_Meet_l0] at hm
 refine wp_seq (wp_seq (wrl (wv (.int .i64 z1355) z z z (wv (r0_0) z z z (wv (.int .i64 ((a0).length : Int)) z z (x_len z underlying28 (rd_sliceV f0_0)) (wv (.bool (decide (z1355 < ((a0).length : Int)))) z z z (wl_nil (tn ?_))))))))
 refine bsplit (decide (z1355 < ((a0).length : Int))) (fun hc1364 => ?_) (fun hc1364 => ?_)
 {
 replace hm := bif_t hc1364 hm
 refine wp_ift (cvb hc1364) ?_
 refine wp_skip (tn (wp_seq (wp_block ?_)))
 obtain ⟨y1379, hm, hx1380⟩ := bind_some hm
 refine wp_cut (fun a w => ∃ (z1376 : Bool) (σ1377 : Nat → Value), (ref03_Meet_j1 a0 a1 a2 z1355) z1376 = some y1361 ∧ a = Fr 54 (upd (upd (upd (upd (upd σ1377 0 (r0_0)) 1 (.int .i64 a1)) 2 (.int .i64 a2)) 7 (.int .i64 z1355)) 8 (.bool z1376)) ∧ St w0 w I [] R) ?_ ?_
 {
 refine wrl (wv (r0_0) z z z (wv (.int .i64 z1355) z z z (wv (.int .i64 a1) z z z ?_)))
 obtain ⟨t1365, ht1366, hm⟩ := bind_some hm
 refine wc call32 [r0_0, I6 z1355, I6 a1] z z z ?_
 refine (ref03_Leq_ref (f0_0.mono (rd_weak _)) hst.to0 ht1366).mono ?_
 rintro _ w1367 ⟨rfl, hst⟩
 refine ⟨_, z, ?_⟩
 replace hst := hst.of0
 refine wv (.bool t1365) z z z ?_
 refine bsplit t1365 (fun hc1370 => ?_) (fun hc1370 => ?_)
 {
 replace hm := bif_t hc1370 hm
 refine wv (r0_0) ((wanted_eq z z z (cvb hc1370)).trans z) z z (wv (.int .i64 z1355) ((wanted_eq z z z (cvb hc1370)).trans z) z z (wv (.int .i64 a2) ((wanted_eq z z z (cvb hc1370)).trans z) z z ?_))
 obtain ⟨t1371, ht1372, hm⟩ := bind_some hm
 refine wl_call ((wanted_eq z z z (cvb hc1370)).trans z) z (x_call call32 z (vs := [r0_0, I6 z1355, I6 a2]) z) ?_
 refine (ref03_Leq_ref (f0_0.mono (rd_weak _)) hst.to0 ht1372).mono ?_
 rintro _ w1373 ⟨rfl, hst⟩
 refine ⟨_, z, ?_⟩
 replace hst := hst.of0
 refine wv (.bool t1371) z z (x_pick_t hc1370 z z) (wv (.bool t1371) z z z (wl_nil (tn ?_)))
 replace hst := hst.keep0
 obtain rfl := some_inj hm
 exact ⟨t1371, _, hx1380, (fu 0 r0_0 z (fu 1 (.int .i64 a1) z (fu 2 (.int .i64 a2) z (fu 7 (.int .i64 z1355) z (fu 8 (.bool t1371) z z))))), hst⟩
}
 {
 replace hm := bif_f hc1370 hm
 refine wo hc1370 z z z z z z (wo hc1370 z z z z z z (wo hc1370 z z z z z z (wo hc1370 z z z z z z (wv (.bool false) z z (x_pick_f hc1370 z z) (wv (.bool false) z z z (wl_nil (tn ?_)))))))
 replace hst := hst.keep0
 obtain rfl := some_inj hm
 exact ⟨false, _, hx1380, (fu 0 r0_0 z (fu 1 (.int .i64 a1) z (fu 2 (.int .i64 a2) z (fu 7 (.int .i64 z1355) z (fu 8 (.bool false) z z))))), hst⟩
}
}
 {
 clear hst
 rintro _ w1381 ⟨z1376, σ1377, hm, rfl, hst⟩
 dsimp only [ref03_Meet_j1] at hm
 refine wp_seq (wp_seq (wrl (wv (.int .i64 (0:Int)) z z z (wl_nil (tn (wp_block ?_))))))
 obtain ⟨n1427, hm⟩ := loopO_some hm
 refine wp_loop_n (fun n a w => ∃ (z1424 : Bool) (z1425 : Int) (σ1426 : Nat → Value), loopN (ref03_Meet_l2 a0 a1 a2 z1355) n (z1424, z1425) = some y1361 ∧ a = Fr 54 (upd (upd (upd (upd (upd (upd σ1426 0 (r0_0)) 1 (.int .i64 a1)) 2 (.int .i64 a2)) 7 (.int .i64 z1355)) 8 (.bool z1424)) 9 (.int .i64 z1425)) ∧ St w0 w I [] R) n1427 ⟨z1376, (0:Int), _, hm, (fu 0 r0_0 z (fu 1 (.int .i64 a1) z (fu 2 (.int .i64 a2) z (fu 7 (.int .i64 z1355) z (fu 8 (.bool z1376) z (fu 9 (.int .i64 (0:Int)) z z)))))), hst⟩ ?_
 rintro n1433 _ w1428 ⟨z1424, z1425, σ1426, hm, rfl, hst⟩
 obtain ⟨n1430, y1431, rfl, hm, hx1432⟩ := loopN_some hm
 dsimp only [ref03_Meet_l2] at hm
 refine wp_seq (wp_seq (wrl (wv (.int .i64 z1425) z z z (wv (r0_0) z z z (wv (.int .i64 ((a0).length : Int)) z z (x_len z underlying28 (rd_sliceV f0_0)) (wv (.bool (decide (z1425 < ((a0).length : Int)))) z z z (wv (.bool (decide (z1425 < ((a0).length : Int)))) z z z ?_)))))))
 refine bsplit (decide (z1425 < ((a0).length : Int))) (fun hc1434 => ?_) (fun hc1434 => ?_)
 {
 replace hm := bif_t hc1434 hm
 refine wv (.bool z1424) ((wanted_eq z z z (cvb hc1434)).trans z) z z (wv (.bool z1424) z z (x_pick_t hc1434 z z) (wl_nil (tn ?_)))
 refine bsplit z1424 (fun hc1435 => ?_) (fun hc1435 => ?_)
 {
 replace hm := bif_t hc1435 hm
 refine wp_ift (cvb hc1435) ?_
 refine wp_skip (tn (wp_seq (wp_block (wp_seq (wrl ?_)))))
 refine wv (r0_0) z z z (wv (.int .i64 z1425) z z z (wv (.int .i64 a1) z z z ?_))
 obtain ⟨t1436, ht1437, hm⟩ := bind_some hm
 refine wc call32 [r0_0, I6 z1425, I6 a1] z z z ?_
 refine (ref03_Leq_ref (f0_0.mono (rd_weak _)) hst.to0 ht1437).mono ?_
 rintro _ w1438 ⟨rfl, hst⟩
 refine ⟨_, z, ?_⟩
 replace hst := hst.of0
 refine wv (.bool t1436) z z z ?_
 refine bsplit t1436 (fun hc1441 => ?_) (fun hc1441 => ?_)
 {
 replace hm := bif_t hc1441 hm
 refine wv (r0_0) ((wanted_eq z z z (cvb hc1441)).trans z) z z (wv (.int .i64 z1425) ((wanted_eq z z z (cvb hc1441)).trans z) z z (wv (.int .i64 a2) ((wanted_eq z z z (cvb hc1441)).trans z) z z ?_))
 obtain ⟨t1442, ht1443, hm⟩ := bind_some hm
 refine wl_call ((wanted_eq z z z (cvb hc1441)).trans z) z (x_call call32 z (vs := [r0_0, I6 z1425, I6 a2]) z) ?_
 refine (ref03_Leq_ref (f0_0.mono (rd_weak _)) hst.to0 ht1443).mono ?_
 rintro _ w1444 ⟨rfl, hst⟩
 refine ⟨_, z, ?_⟩
 replace hst := hst.of0
 refine wv (.bool t1442) z z (x_pick_t hc1441 z z) (wv (.bool t1442) z z z ?_)
 refine bsplit t1442 (fun hc1447 => ?_) (fun hc1447 => ?_)
 {
 replace hm := bif_t hc1447 hm
 refine wv (r0_0) ((wanted_eq z z z (cvb hc1447)).trans z) z z (wv (.int .i64 z1425) ((wanted_eq z z z (cvb hc1447)).trans z) z z (wv (.int .i64 z1355) ((wanted_eq z z z (cvb hc1447)).trans z) z z ?_))
 obtain ⟨t1448, ht1449, hm⟩ := bind_some hm
 refine wl_call ((wanted_eq z z z (cvb hc1447)).trans z) z (x_call call32 z (vs := [r0_0, I6 z1425, I6 z1355]) z) ?_
 refine (ref03_Leq_ref (f0_0.mono (rd_weak _)) hst.to0 ht1449).mono ?_
 rintro _ w1450 ⟨rfl, hst⟩
 refine ⟨_, z, ?_⟩
 replace hst := hst.of0
 refine wv (.bool (!t1448)) ((wanted_eq z z z (cvb hc1447)).trans z) z z (wv (.bool (!t1448)) z z (x_pick_t hc1447 z z) (wl_nil (tn ?_)))
 refine bsplit (!t1448) (fun hc1453 => ?_) (fun hc1453 => ?_)
 {
 replace hm := bif_t hc1453 hm
 refine wp_ift (cvb hc1453) ?_
 refine wrl (wv (.bool false) z z z (wl_nil (blk_n (tn (wrl (wv (.int .i64 z1425) z z z (wv (.int .i64 (i64.wrap (z1425 + (1:Int)))) z z z (wv (.int .i64 (i64.wrap (z1425 + (1:Int)))) z z z (wl_nil (tn ?_))))))))))
 replace hst := hst.keep0
 obtain rfl := some_inj hm
 exact ⟨_, Nat.lt_succ_self _, false, (i64.wrap (z1425 + (1:Int))), _, hx1432, (fu 0 r0_0 z (fu 1 (.int .i64 a1) z (fu 2 (.int .i64 a2) z (fu 7 (.int .i64 z1355) z (fu 8 (.bool false) z (fu 9 (.int .i64 (i64.wrap (z1425 + (1:Int)))) z z)))))), hst⟩
}
 {
 replace hm := bif_f hc1453 hm
 refine wp_iff (cvb hc1453) ?_
 refine wp_skip (blk_n (tn (wrl ?_)))
 refine wv (.int .i64 z1425) z z z (wv (.int .i64 (i64.wrap (z1425 + (1:Int)))) z z z (wv (.int .i64 (i64.wrap (z1425 + (1:Int)))) z z z (wl_nil (tn ?_))))
 replace hst := hst.keep0
 obtain rfl := some_inj hm
 exact ⟨_, Nat.lt_succ_self _, z1424, (i64.wrap (z1425 + (1:Int))), _, hx1432, (fu 0 r0_0 z (fu 1 (.int .i64 a1) z (fu 2 (.int .i64 a2) z (fu 7 (.int .i64 z1355) z (fu 8 (.bool z1424) z (fu 9 (.int .i64 (i64.wrap (z1425 + (1:Int)))) z z)))))), hst⟩
}
}
 {
 replace hm := bif_f hc1447 hm
 refine wo hc1447 z z z z z z (wo hc1447 z z z z z z (wo hc1447 z z z z z z (wo hc1447 z z z z z z (wo hc1447 z z z z z z (wv (.bool false) z z (x_pick_f hc1447 z z) (wl_nil (tn ?_)))))))
 refine wp_iff z ?_
 refine wp_skip (blk_n (tn (wrl ?_)))
 refine wv (.int .i64 z1425) z z z (wv (.int .i64 (i64.wrap (z1425 + (1:Int)))) z z z (wv (.int .i64 (i64.wrap (z1425 + (1:Int)))) z z z (wl_nil (tn ?_))))
 replace hst := hst.keep0
 obtain rfl := some_inj hm
 exact ⟨_, Nat.lt_succ_self _, z1424, (i64.wrap (z1425 + (1:Int))), _, hx1432, (fu 0 r0_0 z (fu 1 (.int .i64 a1) z (fu 2 (.int .i64 a2) z (fu 7 (.int .i64 z1355) z (fu 8 (.bool z1424) z (fu 9 (.int .i64 (i64.wrap (z1425 + (1:Int)))) z z)))))), hst⟩
}
}
 {
 replace hm := bif_f hc1441 hm
 refine wo hc1441 z z z z z z (wo hc1441 z z z z z z (wo hc1441 z z z z z z (wo hc1441 z z z z z z (wv (.bool false) z z (x_pick_f hc1441 z z) (wv (.bool false) z z z (wz z z z z z z (wz z z z z z z (wz z z z z z z (wz z z z z z z (wz z z z z z z (wv (.bool false) z z (x_pick_f z z z) (wl_nil (tn ?_)))))))))))))
 refine wp_iff z ?_
 refine wp_skip (blk_n (tn (wrl ?_)))
 refine wv (.int .i64 z1425) z z z (wv (.int .i64 (i64.wrap (z1425 + (1:Int)))) z z z (wv (.int .i64 (i64.wrap (z1425 + (1:Int)))) z z z (wl_nil (tn ?_))))
 replace hst := hst.keep0
 obtain rfl := some_inj hm
 exact ⟨_, Nat.lt_succ_self _, z1424, (i64.wrap (z1425 + (1:Int))), _, hx1432, (fu 0 r0_0 z (fu 1 (.int .i64 a1) z (fu 2 (.int .i64 a2) z (fu 7 (.int .i64 z1355) z (fu 8 (.bool z1424) z (fu 9 (.int .i64 (i64.wrap (z1425 + (1:Int)))) z z)))))), hst⟩
}
}
 {
 replace hm := bif_f hc1435 hm
 refine wp_iff (cvb hc1435) ?_
 refine wp_exit (then_x (then_x ?_))
 replace hm := inr_up hm hx1432
 refine blk_x (tn (wp_seq (wrl ?_)))
 refine wv (.bool z1424) z z z (wl_nil (tn ?_))
 refine wp_iff (cvb hc1435) ?_
 refine wp_skip (blk_n (tn (wrl ?_)))
 refine wv (.int .i64 z1355) z z z (wv (.int .i64 (i64.wrap (z1355 + (1:Int)))) z z z (wv (.int .i64 (i64.wrap (z1355 + (1:Int)))) z z z (wl_nil (tn ?_))))
 replace hst := hst.keep0
 obtain rfl := some_inj hm
 exact ⟨_, Nat.lt_succ_self _, (i64.wrap (z1355 + (1:Int))), _, hx1362, (fu 0 r0_0 z (fu 1 (.int .i64 a1) z (fu 2 (.int .i64 a2) z (fu 7 (.int .i64 (i64.wrap (z1355 + (1:Int)))) z z)))), hst⟩
}
}
 {
 replace hm := bif_f hc1434 hm
 refine wo hc1434 z z z z z z (wv (.bool false) z z (x_pick_f hc1434 z z) (wl_nil (tn ?_)))
 refine wp_iff z ?_
 refine wp_exit (then_x (then_x ?_))
 replace hm := inr_up hm hx1432
 refine blk_x (tn (wp_seq (wrl ?_)))
 refine wv (.bool z1424) z z z (wl_nil (tn ?_))
 refine bsplit z1424 (fun hc1454 => ?_) (fun hc1454 => ?_)
 {
 replace hm := bif_t hc1454 hm
 refine wp_ift (cvb hc1454) ?_
 refine wp_seq (wrl (wv (.int .i64 z1355) z z z (wv (.int .i64 z1355) z z z (wl_nil (tn (wp_ret (blk_r (then_r (then_r ?_)))))))))
 replace hm := inr_up hm hx1362
 refine blk_r (then_r ?_)
 obtain rfl := some_inj hm
 refine post_ret (vs := [I6 z1355]) results34 (rvs_cons (rv_tmp z) rvs_nil) ?_
 exact ⟨z, hst.keep0⟩
}
 {
 replace hm := bif_f hc1454 hm
 refine wp_iff (cvb hc1454) ?_
 refine wp_skip (blk_n (tn (wrl ?_)))
 refine wv (.int .i64 z1355) z z z (wv (.int .i64 (i64.wrap (z1355 + (1:Int)))) z z z (wv (.int .i64 (i64.wrap (z1355 + (1:Int)))) z z z (wl_nil (tn ?_))))
 replace hst := hst.keep0
 obtain rfl := some_inj hm
 exact ⟨_, Nat.lt_succ_self _, (i64.wrap (z1355 + (1:Int))), _, hx1362, (fu 0 r0_0 z (fu 1 (.int .i64 a1) z (fu 2 (.int .i64 a2) z (fu 7 (.int .i64 (i64.wrap (z1355 + (1:Int)))) z z)))), hst⟩
}
}
}
}
 {
 replace hm := bif_f hc1364 hm
 refine wp_iff (cvb hc1364) ?_
 refine wp_exit (then_x (then_x ?_))
 replace hm := inr_up hm hx1362
 refine blk_x (tn (wp_seq (wrl ?_)))
 refine wv (.int .i64 ((-1):Int)) z z z (wl_nil (tn (wp_ret ?_)))
 obtain rfl := some_inj hm
 refine post_ret (vs := [I6 ((-1):Int)]) results34 (rvs_cons (rv_tmp z) rvs_nil) ?_
 exact ⟨z, hst.keep0⟩
}
}

theorem ref03_Check_ref {w0 w : World} {I : HL} {R : SP} {a0 : (List Int)} {r0_0 : Value} (f0_0 : Rd (tyInt .u64) R I r0_0 a0) (hst : St w0 w I [] R) {r : (Int)} (hm : ref03_Check a0 = some r) :
  Calls prog 19 #[r0_0] w fun e w' => e = .returned (.int .i64 r) ∧ St w0 w' I [] R := by {
 unfold ref03_Check at hm
 refine calls_start (args := [r0_0]) func19 z ntmps19 (Nat.le_of_ble_eq_true z) ?_
 refine wp_seq (wrl (wv (.int .i64 (0:Int)) z z z (wl_nil (tn (wp_seq (wrl (wv (r0_0) z z z (wv (.int .i64 ((a0).length : Int)) z z (x_len z underlying28 (rd_sliceV f0_0)) (wv (.int .i64 ((a0).length : Int)) z z z (wl_nil (tn (wp_seq (wp_seq (wrl (wv (.int .i64 ((a0).length : Int)) z z z (wv (.bool (decide (((a0).length : Int) < (1:Int)))) z z z (wv (.bool (decide (((a0).length : Int) < (1:Int)))) z z z ?_)))))))))))))))))
 refine bsplit (decide (((a0).length : Int) < (1:Int))) (fun hc1042 => ?_) (fun hc1042 => ?_)
 {
 replace hm := bif_t hc1042 hm
 refine wo hc1042 z z z z z z (wo hc1042 z z z z z z (wv (.bool true) z z (x_pick_t hc1042 z z) (wl_nil (tn ?_))))
 refine wp_ift z ?_
 refine wp_seq (wrl (wv (.int .i64 (1:Int)) z z z (wl_nil (tn (wp_ret (then_r ?_))))))
 obtain rfl := some_inj hm
 refine post_ret (vs := [I6 (1:Int)]) results19 (rvs_cons (rv_tmp z) rvs_nil) ?_
 exact ⟨z, hst.keep0⟩
}
 {
 replace hm := bif_f hc1042 hm
 refine wv (.int .i64 ((a0).length : Int)) ((wanted_eq z z z (cvb hc1042)).trans z) z z (wv (.bool (decide (((a0).length : Int) > (16:Int)))) ((wanted_eq z z z (cvb hc1042)).trans z) z z (wv (.bool (decide (((a0).length : Int) > (16:Int)))) z z (x_pick_f hc1042 z z) (wl_nil (tn ?_))))
 refine bsplit (decide (((a0).length : Int) > (16:Int))) (fun hc1043 => ?_) (fun hc1043 => ?_)
 {
 replace hm := bif_t hc1043 hm
 refine wp_ift (cvb hc1043) ?_
 refine wp_seq (wrl (wv (.int .i64 (1:Int)) z z z (wl_nil (tn (wp_ret (then_r ?_))))))
 obtain rfl := some_inj hm
 refine post_ret (vs := [I6 (1:Int)]) results19 (rvs_cons (rv_tmp z) rvs_nil) ?_
 exact ⟨z, hst.keep0⟩
}
 {
 replace hm := bif_f hc1043 hm
 refine wp_iff (cvb hc1043) ?_
 refine wp_skip (tn ?_)
 obtain ⟨y1896, hm, hx1897⟩ := joinO_some hm
 refine wp_cut (fun a w => ∃ (σ1894 : Nat → Value), (ref03_Check_j0 a0) () = some r ∧ a = Fr 100 (upd (upd σ1894 0 (r0_0)) 3 (.int .i64 ((a0).length : Int))) ∧ St w0 w I [] R) ?_ ?_
 {
 refine wp_seq (wrl (wv (.int .i64 (0:Int)) z z z (wl_nil (tn (wp_block ?_)))))
 obtain ⟨n1606, hm⟩ := loopO_some hm
 refine wp_loop_n (fun n a w => ∃ (z1604 : Int) (σ1605 : Nat → Value), loopN (ref03_Check_l1 a0) n z1604 = some y1896 ∧ a = Fr 100 (upd (upd (upd σ1605 0 (r0_0)) 3 (.int .i64 ((a0).length : Int))) 4 (.int .i64 z1604)) ∧ St w0 w I [] R) n1606 ⟨(0:Int), _, hm, (fu 0 r0_0 z (fu 3 (.int .i64 ((a0).length : Int)) z (fu 4 (.int .i64 (0:Int)) z z))), hst⟩ ?_
 rintro n1612 _ w1607 ⟨z1604, σ1605, hm, rfl, hst⟩
 obtain ⟨n1609, y1610, rfl, hm, hx1611⟩ := loopN_some hm
 dsimp only [ref03_Check_l1] at hm
 refine wp_seq (wp_seq (wrl (wv (.int .i64 z1604) z z z (wv (.int .i64 ((a0).length : Int)) z z z (wv (.bool (decide (z1604 < ((a0).length : Int)))) z z z (wl_nil (tn ?_)))))))
 refine bsplit (decide (z1604 < ((a0).length : Int))) (fun hc1613 => ?_) (fun hc1613 => ?_)
 {
 replace hm := bif_t hc1613 hm
 refine wp_ift (cvb hc1613) ?_
 refine wp_skip (tn (wp_seq (wp_block (wp_seq (wp_seq (wrl ?_))))))
 refine wv (r0_0) z z z (wv (.int .i64 z1604) z z z ?_)
 obtain ⟨x1614, hx1615, hm⟩ := bind_some hm
 obtain ⟨h1616, h1617, hi1618⟩ := geto_some hx1615
 refine wv (.pointer (some (eAddr r0_0 (z1604.toNat * 1 + 0)))) z z (x_index z z underlying28 sizeOf43 (rd_sliceV f0_0) h1616 h1617) (wv (.int .u64 x1614) z z (x_load z isAgg43 (rd_load f0_0 (HL.le.refl _) hst hi1618 (by rintro _ rfl; rfl))) (wv (.int .i64 ((a0).length : Int)) z z z ?_))
 obtain ⟨hg1619, hm⟩ := gd_some hm
 refine wv (.int .u64 (iShr .u64 x1614 ((a0).length : Int))) z z (x_shr (of_decide_eq_true hg1619) z z) (wv (.bool ((iShr .u64 x1614 ((a0).length : Int)) != (0:Int))) z z z (wv (.bool ((iShr .u64 x1614 ((a0).length : Int)) != (0:Int))) z z z ?_))
 refine bsplit ((iShr .u64 x1614 ((a0).length : Int)) != (0:Int)) (fun hc1620 => ?_) (fun hc1620 => ?_)
 {
 replace hm := bif_t hc1620 hm
 refine wo hc1620 z z z z z z (wo hc1620 z z z z z z (wo hc1620 z z z z z z (wo hc1620 z z z z z z (wo hc1620 z z z z z z (wv (.bool true) z z (x_pick_t hc1620 z z) (wl_nil (tn ?_)))))))
 refine wp_ift z ?_
 refine wp_seq (wrl (wv (.int .i64 (15:Int)) z z z (wl_nil (tn (wp_ret (then_r (blk_r (then_r (then_r ?_)))))))))
 replace hm := inr_up hm hx1611
 refine blk_r (then_r ?_)
 replace hm := inr_up hm hx1897
 obtain rfl := some_inj hm
 refine post_ret (vs := [I6 (15:Int)]) results19 (rvs_cons (rv_tmp z) rvs_nil) ?_
 exact ⟨z, hst.keep0⟩
}
 {
 replace hm := bif_f hc1620 hm
 refine wv (r0_0) ((wanted_eq z z z (cvb hc1620)).trans z) z z (wv (.int .i64 z1604) ((wanted_eq z z z (cvb hc1620)).trans z) z z (wv (.int .i64 z1604) ((wanted_eq z z z (cvb hc1620)).trans z) z z ?_))
 obtain ⟨t1621, ht1622, hm⟩ := bind_some hm
 refine wl_call ((wanted_eq z z z (cvb hc1620)).trans z) z (x_call call32 z (vs := [r0_0, I6 z1604, I6 z1604]) z) ?_
 refine (ref03_Leq_ref (f0_0.mono (rd_weak _)) hst.to0 ht1622).mono ?_
 rintro _ w1623 ⟨rfl, hst⟩
 refine ⟨_, z, ?_⟩
 replace hst := hst.of0
 refine wv (.bool (!t1621)) ((wanted_eq z z z (cvb hc1620)).trans z) z z (wv (.bool (!t1621)) z z (x_pick_f hc1620 z z) (wl_nil (tn ?_)))
 refine bsplit (!t1621) (fun hc1626 => ?_) (fun hc1626 => ?_)
 {
 replace hm := bif_t hc1626 hm
 refine wp_ift (cvb hc1626) ?_
 refine wp_seq (wrl (wv (.int .i64 (15:Int)) z z z (wl_nil (tn (wp_ret (then_r (blk_r (then_r (then_r ?_)))))))))
 replace hm := inr_up hm hx1611
 refine blk_r (then_r ?_)
 replace hm := inr_up hm hx1897
 obtain rfl := some_inj hm
 refine post_ret (vs := [I6 (15:Int)]) results19 (rvs_cons (rv_tmp z) rvs_nil) ?_
 exact ⟨z, hst.keep0⟩
}
 {
 replace hm := bif_f hc1626 hm
 refine wp_iff (cvb hc1626) ?_
 refine wp_skip (tn (wp_seq (wrl ?_)))
 refine wv (.int .i64 (0:Int)) z z z (wl_nil (tn (wp_block ?_)))
 obtain ⟨n1801, hm⟩ := loopO_some hm
 refine wp_loop_n (fun n a w => ∃ (z1799 : Int) (σ1800 : Nat → Value), loopN (ref03_Check_l2 a0 z1604) n z1799 = some y1610 ∧ a = Fr 100 (upd (upd (upd (upd σ1800 0 (r0_0)) 3 (.int .i64 ((a0).length : Int))) 4 (.int .i64 z1604)) 5 (.int .i64 z1799)) ∧ St w0 w I [] R) n1801 ⟨(0:Int), _, hm, (fu 0 r0_0 z (fu 3 (.int .i64 ((a0).length : Int)) z (fu 4 (.int .i64 z1604) z (fu 5 (.int .i64 (0:Int)) z z)))), hst⟩ ?_
 rintro n1807 _ w1802 ⟨z1799, σ1800, hm, rfl, hst⟩
 obtain ⟨n1804, y1805, rfl, hm, hx1806⟩ := loopN_some hm
 dsimp only [ref03_Check_l2] at hm
 refine wp_seq (wp_seq (wrl (wv (.int .i64 z1799) z z z (wv (.int .i64 ((a0).length : Int)) z z z (wv (.bool (decide (z1799 < ((a0).length : Int)))) z z z (wl_nil (tn ?_)))))))
 refine bsplit (decide (z1799 < ((a0).length : Int))) (fun hc1808 => ?_) (fun hc1808 => ?_)
 {
 replace hm := bif_t hc1808 hm
 refine wp_ift (cvb hc1808) ?_
 refine wp_skip (tn (wp_seq (wp_block ?_)))
 obtain ⟨y1824, hm, hx1825⟩ := joinO_some hm
 refine wp_cut (fun a w => ∃ (σ1822 : Nat → Value), (ref03_Check_j3 a0 z1604 z1799) () = some y1805 ∧ a = Fr 100 (upd (upd (upd (upd σ1822 0 (r0_0)) 3 (.int .i64 ((a0).length : Int))) 4 (.int .i64 z1604)) 5 (.int .i64 z1799)) ∧ St w0 w I [] R) ?_ ?_
 {
 refine wp_seq (wrl (wv (.int .i64 z1604) z z z (wv (.int .i64 z1799) z z z (wv (.bool (z1604 != z1799)) z z z (wv (.bool (z1604 != z1799)) z z z ?_)))))
 refine bsplit (z1604 != z1799) (fun hc1809 => ?_) (fun hc1809 => ?_)
 {
 replace hm := bif_t hc1809 hm
 refine wv (r0_0) ((wanted_eq z z z (cvb hc1809)).trans z) z z (wv (.int .i64 z1604) ((wanted_eq z z z (cvb hc1809)).trans z) z z (wv (.int .i64 z1799) ((wanted_eq z z z (cvb hc1809)).trans z) z z ?_))
 obtain ⟨t1810, ht1811, hm⟩ := bind_some hm
 refine wl_call ((wanted_eq z z z (cvb hc1809)).trans z) z (x_call call32 z (vs := [r0_0, I6 z1604, I6 z1799]) z) ?_
 refine (ref03_Leq_ref (f0_0.mono (rd_weak _)) hst.to0 ht1811).mono ?_
 rintro _ w1812 ⟨rfl, hst⟩
 refine ⟨_, z, ?_⟩
 replace hst := hst.of0
 refine wv (.bool t1810) z z (x_pick_t hc1809 z z) (wv (.bool t1810) z z z ?_)
 refine bsplit t1810 (fun hc1815 => ?_) (fun hc1815 => ?_)
 {
 replace hm := bif_t hc1815 hm
 refine wv (r0_0) ((wanted_eq z z z (cvb hc1815)).trans z) z z (wv (.int .i64 z1799) ((wanted_eq z z z (cvb hc1815)).trans z) z z (wv (.int .i64 z1604) ((wanted_eq z z z (cvb hc1815)).trans z) z z ?_))
 obtain ⟨t1816, ht1817, hm⟩ := bind_some hm
 refine wl_call ((wanted_eq z z z (cvb hc1815)).trans z) z (x_call call32 z (vs := [r0_0, I6 z1799, I6 z1604]) z) ?_
 refine (ref03_Leq_ref (f0_0.mono (rd_weak _)) hst.to0 ht1817).mono ?_
 rintro _ w1818 ⟨rfl, hst⟩
 refine ⟨_, z, ?_⟩
 replace hst := hst.of0
 refine wv (.bool t1816) z z (x_pick_t hc1815 z z) (wl_nil (tn ?_))
 refine bsplit t1816 (fun hc1821 => ?_) (fun hc1821 => ?_)
 {
 replace hm := bif_t hc1821 hm
 refine wp_ift (cvb hc1821) ?_
 refine wp_seq (wrl (wv (.int .i64 (15:Int)) z z z (wl_nil (tn (wp_ret (then_r ?_))))))
 replace hm := inr_up hm hx1825
 refine blk_r (then_r (then_r ?_))
 replace hm := inr_up hm hx1806
 refine blk_r (blk_r (then_r (then_r ?_)))
 replace hm := inr_up hm hx1611
 refine blk_r (then_r ?_)
 replace hm := inr_up hm hx1897
 obtain rfl := some_inj hm
 refine post_ret (vs := [I6 (15:Int)]) results19 (rvs_cons (rv_tmp z) rvs_nil) ?_
 exact ⟨z, hst.keep0⟩
}
 {
 replace hm := bif_f hc1821 hm
 refine wp_iff (cvb hc1821) ?_
 refine wp_skip (tn ?_)
 replace hst := hst.keep0
 obtain rfl := some_inj hm
 exact ⟨_, hx1825, (fu 0 r0_0 z (fu 3 (.int .i64 ((a0).length : Int)) z (fu 4 (.int .i64 z1604) z (fu 5 (.int .i64 z1799) z z)))), hst⟩
}
}
 {
 replace hm := bif_f hc1815 hm
 refine wo hc1815 z z z z z z (wo hc1815 z z z z z z (wo hc1815 z z z z z z (wo hc1815 z z z z z z (wv (.bool false) z z (x_pick_f hc1815 z z) (wl_nil (tn ?_))))))
 refine wp_iff z ?_
 refine wp_skip (tn ?_)
 replace hst := hst.keep0
 obtain rfl := some_inj hm
 exact ⟨_, hx1825, (fu 0 r0_0 z (fu 3 (.int .i64 ((a0).length : Int)) z (fu 4 (.int .i64 z1604) z (fu 5 (.int .i64 z1799) z z)))), hst⟩
}
}
 {
 replace hm := bif_f hc1809 hm
 refine wo hc1809 z z z z z z (wo hc1809 z z z z z z (wo hc1809 z z z z z z (wo hc1809 z z z z z z (wv (.bool false) z z (x_pick_f hc1809 z z) (wv (.bool false) z z z (wz z z z z z z (wz z z z z z z (wz z z z z z z (wz z z z z z z (wv (.bool false) z z (x_pick_f z z z) (wl_nil (tn ?_))))))))))))
 refine wp_iff z ?_
 refine wp_skip (tn ?_)
 replace hst := hst.keep0
 obtain rfl := some_inj hm
 exact ⟨_, hx1825, (fu 0 r0_0 z (fu 3 (.int .i64 ((a0).length : Int)) z (fu 4 (.int .i64 z1604) z (fu 5 (.int .i64 z1799) z z)))), hst⟩
}
}
 {
 clear hst
 rintro _ w1826 ⟨σ1822, hm, rfl, hst⟩
 dsimp only [ref03_Check_j3] at hm
 refine wp_seq (wrl (wv (.int .i64 (0:Int)) z z z (wl_nil (tn (wp_block ?_)))))
 obtain ⟨n1868, hm⟩ := loopO_some hm
 refine wp_loop_n (fun n a w => ∃ (z1866 : Int) (σ1867 : Nat → Value), loopN (ref03_Check_l4 a0 z1604 z1799) n z1866 = some y1805 ∧ a = Fr 100 (upd (upd (upd (upd (upd σ1867 0 (r0_0)) 3 (.int .i64 ((a0).length : Int))) 4 (.int .i64 z1604)) 5 (.int .i64 z1799)) 6 (.int .i64 z1866)) ∧ St w0 w I [] R) n1868 ⟨(0:Int), _, hm, (fu 0 r0_0 z (fu 3 (.int .i64 ((a0).length : Int)) z (fu 4 (.int .i64 z1604) z (fu 5 (.int .i64 z1799) z (fu 6 (.int .i64 (0:Int)) z z))))), hst⟩ ?_
 rintro n1874 _ w1869 ⟨z1866, σ1867, hm, rfl, hst⟩
 obtain ⟨n1871, y1872, rfl, hm, hx1873⟩ := loopN_some hm
 dsimp only [ref03_Check_l4] at hm
 refine wp_seq (wp_seq (wrl (wv (.int .i64 z1866) z z z (wv (.int .i64 ((a0).length : Int)) z z z (wv (.bool (decide (z1866 < ((a0).length : Int)))) z z z (wl_nil (tn ?_)))))))
 refine bsplit (decide (z1866 < ((a0).length : Int))) (fun hc1875 => ?_) (fun hc1875 => ?_)
 {
 replace hm := bif_t hc1875 hm
 refine wp_ift (cvb hc1875) ?_
 refine wp_skip (tn (wp_seq (wp_block (wp_seq (wrl ?_)))))
 refine wv (r0_0) z z z (wv (.int .i64 z1604) z z z (wv (.int .i64 z1799) z z z ?_))
 obtain ⟨t1876, ht1877, hm⟩ := bind_some hm
 refine wc call32 [r0_0, I6 z1604, I6 z1799] z z z ?_
 refine (ref03_Leq_ref (f0_0.mono (rd_weak _)) hst.to0 ht1877).mono ?_
 rintro _ w1878 ⟨rfl, hst⟩
 refine ⟨_, z, ?_⟩
 replace hst := hst.of0
 refine wv (.bool t1876) z z z ?_
 refine bsplit t1876 (fun hc1881 => ?_) (fun hc1881 => ?_)
 {
 replace hm := bif_t hc1881 hm
 refine wv (r0_0) ((wanted_eq z z z (cvb hc1881)).trans z) z z (wv (.int .i64 z1799) ((wanted_eq z z z (cvb hc1881)).trans z) z z (wv (.int .i64 z1866) ((wanted_eq z z z (cvb hc1881)).trans z) z z ?_))
 obtain ⟨t1882, ht1883, hm⟩ := bind_some hm
 refine wl_call ((wanted_eq z z z (cvb hc1881)).trans z) z (x_call call32 z (vs := [r0_0, I6 z1799, I6 z1866]) z) ?_
 refine (ref03_Leq_ref (f0_0.mono (rd_weak _)) hst.to0 ht1883).mono ?_
 rintro _ w1884 ⟨rfl, hst⟩
 refine ⟨_, z, ?_⟩
 replace hst := hst.of0
 refine wv (.bool t1882) z z (x_pick_t hc1881 z z) (wv (.bool t1882) z z z ?_)
 refine bsplit t1882 (fun hc1887 => ?_) (fun hc1887 => ?_)
 {
 replace hm := bif_t hc1887 hm
 refine wv (r0_0) ((wanted_eq z z z (cvb hc1887)).trans z) z z (wv (.int .i64 z1604) ((wanted_eq z z z (cvb hc1887)).trans z) z z (wv (.int .i64 z1866) ((wanted_eq z z z (cvb hc1887)).trans z) z z ?_))
 obtain ⟨t1888, ht1889, hm⟩ := bind_some hm
 refine wl_call ((wanted_eq z z z (cvb hc1887)).trans z) z (x_call call32 z (vs := [r0_0, I6 z1604, I6 z1866]) z) ?_
 refine (ref03_Leq_ref (f0_0.mono (rd_weak _)) hst.to0 ht1889).mono ?_
 rintro _ w1890 ⟨rfl, hst⟩
 refine ⟨_, z, ?_⟩
 replace hst := hst.of0
 refine wv (.bool (!t1888)) ((wanted_eq z z z (cvb hc1887)).trans z) z z (wv (.bool (!t1888)) z z (x_pick_t hc1887 z z) (wl_nil (tn ?_)))
 refine bsplit (!t1888) (fun hc1893 => ?_) (fun hc1893 => ?_)
 {
 replace hm := bif_t hc1893 hm
 refine wp_ift (cvb hc1893) ?_
 refine wp_seq (wrl (wv (.int .i64 (15:Int)) z z z (wl_nil (tn (wp_ret (blk_r (then_r (then_r ?_))))))))
 replace hm := inr_up hm hx1873
 refine blk_r (blk_r (then_r (then_r ?_)))
 replace hm := inr_up hm hx1806
 refine blk_r (blk_r (then_r (then_r ?_)))
 replace hm := inr_up hm hx1611
 refine blk_r (then_r ?_)
 replace hm := inr_up hm hx1897
 obtain rfl := some_inj hm
 refine post_ret (vs := [I6 (15:Int)]) results19 (rvs_cons (rv_tmp z) rvs_nil) ?_
 exact ⟨z, hst.keep0⟩
}
 {
 replace hm := bif_f hc1893 hm
 refine wp_iff (cvb hc1893) ?_
 refine wp_skip (blk_n (tn (wrl ?_)))
 refine wv (.int .i64 z1866) z z z (wv (.int .i64 (i64.wrap (z1866 + (1:Int)))) z z z (wv (.int .i64 (i64.wrap (z1866 + (1:Int)))) z z z (wl_nil (tn ?_))))
 replace hst := hst.keep0
 obtain rfl := some_inj hm
 exact ⟨_, Nat.lt_succ_self _, (i64.wrap (z1866 + (1:Int))), _, hx1873, (fu 0 r0_0 z (fu 3 (.int .i64 ((a0).length : Int)) z (fu 4 (.int .i64 z1604) z (fu 5 (.int .i64 z1799) z (fu 6 (.int .i64 (i64.wrap (z1866 + (1:Int)))) z z))))), hst⟩
}
}
 {
 replace hm := bif_f hc1887 hm
 refine wo hc1887 z z z z z z (wo hc1887 z z z z z z (wo hc1887 z z z z z z (wo hc1887 z z z z z z (wo hc1887 z z z z z z (wv (.bool false) z z (x_pick_f hc1887 z z) (wl_nil (tn ?_)))))))
 refine wp_iff z ?_
 refine wp_skip (blk_n (tn (wrl ?_)))
 refine wv (.int .i64 z1866) z z z (wv (.int .i64 (i64.wrap (z1866 + (1:Int)))) z z z (wv (.int .i64 (i64.wrap (z1866 + (1:Int)))) z z z (wl_nil (tn ?_))))
 replace hst := hst.keep0
 obtain rfl := some_inj hm
 exact ⟨_, Nat.lt_succ_self _, (i64.wrap (z1866 + (1:Int))), _, hx1873, (fu 0 r0_0 z (fu 3 (.int .i64 ((a0).length : Int)) z (fu 4 (.int .i64 z1604) z (fu 5 (.int .i64 z1799) z (fu 6 (.int .i64 (i64.wrap (z1866 + (1:Int)))) z z))))), hst⟩
}
}
 {
 replace hm := bif_f hc1881 hm
 refine wo hc1881 z z z z z z (wo hc1881 z z z z z z (wo hc1881 z z z z z z (wo hc1881 z z z z z z (wv (.bool false) z z (x_pick_f hc1881 z z) (wv (.bool false) z z z (wz z z z z z z (wz z z z z z z (wz z z z z z z (wz z z z z z z (wz z z z z z z (wv (.bool false) z z (x_pick_f z z z) (wl_nil (tn ?_)))))))))))))
 refine wp_iff z ?_
 refine wp_skip (blk_n (tn (wrl ?_)))
 refine wv (.int .i64 z1866) z z z (wv (.int .i64 (i64.wrap (z1866 + (1:Int)))) z z z (wv (.int .i64 (i64.wrap (z1866 + (1:Int)))) z z z (wl_nil (tn ?_))))
 replace hst := hst.keep0
 obtain rfl := some_inj hm
 exact ⟨_, Nat.lt_succ_self _, (i64.wrap (z1866 + (1:Int))), _, hx1873, (fu 0 r0_0 z (fu 3 (.int .i64 ((a0).length : Int)) z (fu 4 (.int .i64 z1604) z (fu 5 (.int .i64 z1799) z (fu 6 (.int .i64 (i64.wrap (z1866 + (1:Int)))) z z))))), hst⟩
}
}
 {
 replace hm := bif_f hc1875 hm
 refine wp_iff (cvb hc1875) ?_
 refine wp_exit (then_x (then_x ?_))
 replace hm := inr_up hm hx1873
 refine blk_x (blk_n (tn (wrl ?_)))
 refine wv (.int .i64 z1799) z z z (wv (.int .i64 (i64.wrap (z1799 + (1:Int)))) z z z (wv (.int .i64 (i64.wrap (z1799 + (1:Int)))) z z z (wl_nil (tn ?_))))
 replace hst := hst.keep0
 obtain rfl := some_inj hm
 exact ⟨_, Nat.lt_succ_self _, (i64.wrap (z1799 + (1:Int))), _, hx1806, (fu 0 r0_0 z (fu 3 (.int .i64 ((a0).length : Int)) z (fu 4 (.int .i64 z1604) z (fu 5 (.int .i64 (i64.wrap (z1799 + (1:Int)))) z z)))), hst⟩
}
}
}
 {
 replace hm := bif_f hc1808 hm
 refine wp_iff (cvb hc1808) ?_
 refine wp_exit (then_x (then_x ?_))
 replace hm := inr_up hm hx1806
 refine blk_x (blk_n (tn (wrl ?_)))
 refine wv (.int .i64 z1604) z z z (wv (.int .i64 (i64.wrap (z1604 + (1:Int)))) z z z (wv (.int .i64 (i64.wrap (z1604 + (1:Int)))) z z z (wl_nil (tn ?_))))
 replace hst := hst.keep0
 obtain rfl := some_inj hm
 exact ⟨_, Nat.lt_succ_self _, (i64.wrap (z1604 + (1:Int))), _, hx1611, (fu 0 r0_0 z (fu 3 (.int .i64 ((a0).length : Int)) z (fu 4 (.int .i64 (i64.wrap (z1604 + (1:Int)))) z z))), hst⟩
}
}
}
}
 {
 replace hm := bif_f hc1613 hm
 refine wp_iff (cvb hc1613) ?_
 refine wp_exit (then_x (then_x ?_))
 replace hm := inr_up hm hx1611
 refine blk_x (tn ?_)
 replace hst := hst.keep0
 obtain rfl := some_inj hm
 exact ⟨_, hx1897, (fu 0 r0_0 z (fu 3 (.int .i64 ((a0).length : Int)) z z)), hst⟩
}
}
 {
 clear hst
 rintro _ w1898 ⟨σ1894, hm, rfl, hst⟩
 dsimp only [ref03_Check_j0] at hm
 refine wp_seq (wp_seq (wrl (wv (.int .i64 (0:Int)) z z z (wl_nil (tn (wp_block ?_))))))
 obtain ⟨n2001, hm⟩ := loopO_some hm
 refine wp_loop_n (fun n a w => ∃ (z1999 : Int) (σ2000 : Nat → Value), loopN (ref03_Check_l5 a0) n z1999 = some r ∧ a = Fr 100 (upd (upd (upd σ2000 0 (r0_0)) 3 (.int .i64 ((a0).length : Int))) 7 (.int .i64 z1999)) ∧ St w0 w I [] R) n2001 ⟨(0:Int), _, hm, (fu 0 r0_0 z (fu 3 (.int .i64 ((a0).length : Int)) z (fu 7 (.int .i64 (0:Int)) z z))), hst⟩ ?_
 rintro n2007 _ w2002 ⟨z1999, σ2000, hm, rfl, hst⟩
 obtain ⟨n2004, y2005, rfl, hm, hx2006⟩ := loopN_some hm
 dsimp only [ref03_Check_l5] at hm
 refine wp_seq (wp_seq (wrl (wv (.int .i64 z1999) z z z (wv (.int .i64 ((a0).length : Int)) z z z (wv (.bool (decide (z1999 < ((a0).length : Int)))) z z z (wl_nil (tn ?_)))))))
 refine bsplit (decide (z1999 < ((a0).length : Int))) (fun hc2008 => ?_) (fun hc2008 => ?_)
 {
 replace hm := bif_t hc2008 hm
 refine wp_ift (cvb hc2008) ?_
 refine wp_skip (tn (wp_seq (wp_block (wp_seq (wrl ?_)))))
 refine wv (.int .i64 (0:Int)) z z z (wl_nil (tn (wp_block ?_)))
 obtain ⟨n2038, hm⟩ := loopO_some hm
 refine wp_loop_n (fun n a w => ∃ (z2036 : Int) (σ2037 : Nat → Value), loopN (ref03_Check_l6 a0 z1999) n z2036 = some y2005 ∧ a = Fr 100 (upd (upd (upd (upd σ2037 0 (r0_0)) 3 (.int .i64 ((a0).length : Int))) 7 (.int .i64 z1999)) 8 (.int .i64 z2036)) ∧ St w0 w I [] R) n2038 ⟨(0:Int), _, hm, (fu 0 r0_0 z (fu 3 (.int .i64 ((a0).length : Int)) z (fu 7 (.int .i64 z1999) z (fu 8 (.int .i64 (0:Int)) z z)))), hst⟩ ?_
 rintro n2044 _ w2039 ⟨z2036, σ2037, hm, rfl, hst⟩
 obtain ⟨n2041, y2042, rfl, hm, hx2043⟩ := loopN_some hm
 dsimp only [ref03_Check_l6] at hm
 refine wp_seq (wp_seq (wrl (wv (.int .i64 z2036) z z z (wv (.int .i64 ((a0).length : Int)) z z z (wv (.bool (decide (z2036 < ((a0).length : Int)))) z z z (wl_nil (tn ?_)))))))
 refine bsplit (decide (z2036 < ((a0).length : Int))) (fun hc2045 => ?_) (fun hc2045 => ?_)
 {
 replace hm := bif_t hc2045 hm
 refine wp_ift (cvb hc2045) ?_
 refine wp_skip (tn (wp_seq (wp_block (wp_seq (wrl ?_)))))
 refine wv (r0_0) z z z (wv (.int .i64 z1999) z z z (wv (.int .i64 z2036) z z z ?_))
 obtain ⟨t2046, ht2047, hm⟩ := bind_some hm
 refine wc call33 [r0_0, I6 z1999, I6 z2036] z z z ?_
 refine (ref03_Join_ref (f0_0.mono (rd_weak _)) hst.to0 ht2047).mono ?_
 rintro _ w2048 ⟨rfl, hst⟩
 refine ⟨_, z, ?_⟩
 replace hst := hst.of0
 refine wv (.bool (decide (t2046 < (0:Int)))) z z z (wv (.bool (decide (t2046 < (0:Int)))) z z z ?_)
 refine bsplit (decide (t2046 < (0:Int))) (fun hc2051 => ?_) (fun hc2051 => ?_)
 {
 replace hm := bif_t hc2051 hm
 refine wo hc2051 z z z z z z (wo hc2051 z z z z z z (wo hc2051 z z z z z z (wo hc2051 z z z z z z (wo hc2051 z z z z z z (wv (.bool true) z z (x_pick_t hc2051 z z) (wl_nil (tn ?_)))))))
 refine wp_ift z ?_
 refine wp_seq (wrl (wv (.int .i64 (15:Int)) z z z (wl_nil (tn (wp_ret (blk_r (then_r (then_r ?_))))))))
 replace hm := inr_up hm hx2043
 refine blk_r (blk_r (then_r (then_r ?_)))
 replace hm := inr_up hm hx2006
 refine blk_r (then_r ?_)
 obtain rfl := some_inj hm
 refine post_ret (vs := [I6 (15:Int)]) results19 (rvs_cons (rv_tmp z) rvs_nil) ?_
 exact ⟨z, hst.keep0⟩
}
 {
 replace hm := bif_f hc2051 hm
 refine wv (r0_0) ((wanted_eq z z z (cvb hc2051)).trans z) z z (wv (.int .i64 z1999) ((wanted_eq z z z (cvb hc2051)).trans z) z z (wv (.int .i64 z2036) ((wanted_eq z z z (cvb hc2051)).trans z) z z ?_))
 obtain ⟨t2052, ht2053, hm⟩ := bind_some hm
 refine wl_call ((wanted_eq z z z (cvb hc2051)).trans z) z (x_call call34 z (vs := [r0_0, I6 z1999, I6 z2036]) z) ?_
 refine (ref03_Meet_ref (f0_0.mono (rd_weak _)) hst.to0 ht2053).mono ?_
 rintro _ w2054 ⟨rfl, hst⟩
 refine ⟨_, z, ?_⟩
 replace hst := hst.of0
 refine wv (.bool (decide (t2052 < (0:Int)))) ((wanted_eq z z z (cvb hc2051)).trans z) z z (wv (.bool (decide (t2052 < (0:Int)))) z z (x_pick_f hc2051 z z) (wl_nil (tn ?_)))
 refine bsplit (decide (t2052 < (0:Int))) (fun hc2057 => ?_) (fun hc2057 => ?_)
 {
 replace hm := bif_t hc2057 hm
 refine wp_ift (cvb hc2057) ?_
 refine wp_seq (wrl (wv (.int .i64 (15:Int)) z z z (wl_nil (tn (wp_ret (blk_r (then_r (then_r ?_))))))))
 replace hm := inr_up hm hx2043
 refine blk_r (blk_r (then_r (then_r ?_)))
 replace hm := inr_up hm hx2006
 refine blk_r (then_r ?_)
 obtain rfl := some_inj hm
 refine post_ret (vs := [I6 (15:Int)]) results19 (rvs_cons (rv_tmp z) rvs_nil) ?_
 exact ⟨z, hst.keep0⟩
}
 {
 replace hm := bif_f hc2057 hm
 refine wp_iff (cvb hc2057) ?_
 refine wp_skip (blk_n (tn (wrl ?_)))
 refine wv (.int .i64 z2036) z z z (wv (.int .i64 (i64.wrap (z2036 + (1:Int)))) z z z (wv (.int .i64 (i64.wrap (z2036 + (1:Int)))) z z z (wl_nil (tn ?_))))
 replace hst := hst.keep0
 obtain rfl := some_inj hm
 exact ⟨_, Nat.lt_succ_self _, (i64.wrap (z2036 + (1:Int))), _, hx2043, (fu 0 r0_0 z (fu 3 (.int .i64 ((a0).length : Int)) z (fu 7 (.int .i64 z1999) z (fu 8 (.int .i64 (i64.wrap (z2036 + (1:Int)))) z z)))), hst⟩
}
}
}
 {
 replace hm := bif_f hc2045 hm
 refine wp_iff (cvb hc2045) ?_
 refine wp_exit (then_x (then_x ?_))
 replace hm := inr_up hm hx2043
 refine blk_x (blk_n (tn (wrl ?_)))
 refine wv (.int .i64 z1999) z z z (wv (.int .i64 (i64.wrap (z1999 + (1:Int)))) z z z (wv (.int .i64 (i64.wrap (z1999 + (1:Int)))) z z z (wl_nil (tn ?_))))
 replace hst := hst.keep0
 obtain rfl := some_inj hm
 exact ⟨_, Nat.lt_succ_self _, (i64.wrap (z1999 + (1:Int))), _, hx2006, (fu 0 r0_0 z (fu 3 (.int .i64 ((a0).length : Int)) z (fu 7 (.int .i64 (i64.wrap (z1999 + (1:Int)))) z z))), hst⟩
}
}
 {
 replace hm := bif_f hc2008 hm
 refine wp_iff (cvb hc2008) ?_
 refine wp_exit (then_x (then_x ?_))
 replace hm := inr_up hm hx2006
 refine blk_x (tn (wp_seq (wrl ?_)))
 refine wv (.int .i64 (0:Int)) z z z (wl_nil (tn (wp_ret ?_)))
 obtain rfl := some_inj hm
 refine post_ret (vs := [Zi]) results19 (rvs_cons (rv_tmp z) rvs_nil) ?_
 exact ⟨z, hst.keep0⟩
}
}
}
}
}

theorem ref03_Order_ref {w0 w : World} {I : HL} {R : SP} {a0 : (List Int)} {r0_0 : Value} (f0_0 : Rd (tyInt .u64) R I r0_0 a0) (hst : St w0 w I [] R) {r : ((List Int))} (hm : ref03_Order a0 = some r) :
  Calls prog 35 #[r0_0] w fun e w' => ∃ (q0_0 : Value), e = .returned (q0_0) ∧ St w0 w' I [ownS (tyInt .i64) q0_0 r] R := by {
 unfold ref03_Order at hm
 refine calls_start (args := [r0_0]) func35 z ntmps35 (Nat.le_of_ble_eq_true z) ?_
 refine wp_seq (wrl (wv ((.slice none 0 0)) z z z (wl_nil (tn (wp_seq (wrl (wv ((.slice none 0 0)) z z z (wl_nil (tn (wp_seq (wp_seq (wrl (wv (.int .i64 (0:Int)) z z z (wl_nil (tn (wp_block ?_))))))))))))))))
 replace hst := hst.own_nil (tyInt .i64)
 obtain ⟨n1355, hm⟩ := loopO_some hm
 refine wp_loop_n (fun n a w => ∃ (z1350 : (List Int)) (z1353 : Int) (v1351 : Value) (σ1354 : Nat → Value), loopN (ref03_Order_l0 a0) n (z1350, z1353) = some r ∧ a = Fr 40 (upd (upd (upd σ1354 0 (r0_0)) 3 (v1351)) 4 (.int .i64 z1353)) ∧ St w0 w I [ownS (tyInt .i64) v1351 z1350] R) n1355 ⟨[], (0:Int), Zs, _, hm, (fu 0 r0_0 z (fu 3 (.slice none 0 0) z (fu 4 (.int .i64 (0:Int)) z z))), hst⟩ ?_
 rintro n1361 _ w1356 ⟨z1350, z1353, v1351, σ1354, hm, rfl, hst⟩
 obtain ⟨n1358, y1359, rfl, hm, hx1360⟩ := loopN_some hm
 dsimp only [ref03_Order_l0] at hm
 refine wp_seq (wp_seq (wrl (wv (.int .i64 z1353) z z z (wv (r0_0) z z z (wv (.int .i64 ((a0).length : Int)) z z (x_len z underlying28 (rd_sliceV f0_0)) (wv (.bool (decide (z1353 ≤ ((a0).length : Int)))) z z z (wl_nil (tn ?_))))))))
 refine bsplit (decide (z1353 ≤ ((a0).length : Int))) (fun hc1362 => ?_) (fun hc1362 => ?_)
 {
 replace hm := bif_t hc1362 hm
 refine wp_ift (cvb hc1362) ?_
 refine wp_skip (tn (wp_seq (wp_block (wp_seq (wrl ?_)))))
 refine wv (.int .i64 (0:Int)) z z z (wl_nil (tn (wp_block ?_)))
 obtain ⟨n1473, hm⟩ := loopO_some hm
 refine wp_loop_n (fun n a w => ∃ (z1468 : (List Int)) (z1471 : Int) (v1469 : Value) (σ1472 : Nat → Value), loopN (ref03_Order_l1 a0 z1353) n (z1468, z1471) = some y1359 ∧ a = Fr 40 (upd (upd (upd (upd σ1472 0 (r0_0)) 3 (v1469)) 4 (.int .i64 z1353)) 5 (.int .i64 z1471)) ∧ St w0 w I [ownS (tyInt .i64) v1469 z1468] R) n1473 ⟨z1350, (0:Int), v1351, _, hm, (fu 0 r0_0 z (fu 3 v1351 z (fu 4 (.int .i64 z1353) z (fu 5 (.int .i64 (0:Int)) z z)))), hst⟩ ?_
 rintro n1479 _ w1474 ⟨z1468, z1471, v1469, σ1472, hm, rfl, hst⟩
 obtain ⟨n1476, y1477, rfl, hm, hx1478⟩ := loopN_some hm
 dsimp only [ref03_Order_l1] at hm
 refine wp_seq (wp_seq (wrl (wv (.int .i64 z1471) z z z (wv (r0_0) z z z (wv (.int .i64 ((a0).length : Int)) z z (x_len z underlying28 (rd_sliceV f0_0)) (wv (.bool (decide (z1471 < ((a0).length : Int)))) z z z (wl_nil (tn ?_))))))))
 refine bsplit (decide (z1471 < ((a0).length : Int))) (fun hc1480 => ?_) (fun hc1480 => ?_)
 {
 replace hm := bif_t hc1480 hm
 refine wp_ift (cvb hc1480) ?_
 refine wp_skip (tn (wp_seq (wp_block (wp_seq (wrl ?_)))))
 refine wv (.int .i64 (0:Int)) z z z (wl_nil (tn ?_))
 obtain ⟨y1517, hm, hx1518⟩ := bind_some hm
 refine wp_cut (fun a w => ∃ (z1514 : Int) (σ1515 : Nat → Value), (ref03_Order_j2 z1353 z1468 z1471) z1514 = some y1477 ∧ a = Fr 40 (upd (upd (upd (upd (upd σ1515 0 (r0_0)) 3 (v1469)) 4 (.int .i64 z1353)) 5 (.int .i64 z1471)) 6 (.int .i64 z1514)) ∧ St w0 w I [ownS (tyInt .i64) v1469 z1468] R) ?_ ?_
 {
 refine wp_seq (wrl (wv (.int .i64 (0:Int)) z z z (wl_nil (tn (wp_block ?_)))))
 obtain ⟨n1500, hm⟩ := loopO_some hm
 refine wp_loop_n (fun n a w => ∃ (z1497 : Int) (z1498 : Int) (σ1499 : Nat → Value), loopN (ref03_Order_l3 a0 z1471) n (z1497, z1498) = some y1517 ∧ a = Fr 40 (upd (upd (upd (upd (upd (upd σ1499 0 (r0_0)) 3 (v1469)) 4 (.int .i64 z1353)) 5 (.int .i64 z1471)) 6 (.int .i64 z1497)) 7 (.int .i64 z1498)) ∧ St w0 w I [ownS (tyInt .i64) v1469 z1468] R) n1500 ⟨(0:Int), (0:Int), _, hm, (fu 0 r0_0 z (fu 3 v1469 z (fu 4 (.int .i64 z1353) z (fu 5 (.int .i64 z1471) z (fu 6 (.int .i64 (0:Int)) z (fu 7 (.int .i64 (0:Int)) z z)))))), hst⟩ ?_
 rintro n1506 _ w1501 ⟨z1497, z1498, σ1499, hm, rfl, hst⟩
 obtain ⟨n1503, y1504, rfl, hm, hx1505⟩ := loopN_some hm
 dsimp only [ref03_Order_l3] at hm
 refine wp_seq (wp_seq (wrl (wv (.int .i64 z1498) z z z (wv (r0_0) z z z (wv (.int .i64 ((a0).length : Int)) z z (x_len z underlying28 (rd_sliceV f0_0)) (wv (.bool (decide (z1498 < ((a0).length : Int)))) z z z (wl_nil (tn ?_))))))))
 refine bsplit (decide (z1498 < ((a0).length : Int))) (fun hc1507 => ?_) (fun hc1507 => ?_)
 {
 replace hm := bif_t hc1507 hm
 refine wp_ift (cvb hc1507) ?_
 refine wp_skip (tn (wp_seq (wp_block (wp_seq (wrl ?_)))))
 refine wv (r0_0) z z z (wv (.int .i64 z1498) z z z (wv (.int .i64 z1471) z z z ?_))
 obtain ⟨t1508, ht1509, hm⟩ := bind_some hm
 refine wc call32 [r0_0, I6 z1498, I6 z1471] z z z ?_
 refine (ref03_Leq_ref (f0_0.mono (rd_weak _)) hst.to0 ht1509).mono ?_
 rintro _ w1510 ⟨rfl, hst⟩
 refine ⟨_, z, ?_⟩
 replace hst := hst.of0
 refine wl_nil (tn ?_)
 refine bsplit t1508 (fun hc1513 => ?_) (fun hc1513 => ?_)
 {
 replace hm := bif_t hc1513 hm
 refine wp_ift (cvb hc1513) ?_
 refine wrl (wv (.int .i64 z1497) z z z (wv (.int .i64 (i64.wrap (z1497 + (1:Int)))) z z z (wv (.int .i64 (i64.wrap (z1497 + (1:Int)))) z z z (wl_nil (blk_n (tn (wrl (wv (.int .i64 z1498) z z z (wv (.int .i64 (i64.wrap (z1498 + (1:Int)))) z z z (wv (.int .i64 (i64.wrap (z1498 + (1:Int)))) z z z (wl_nil (tn ?_))))))))))))
 replace hst := hst.keep1
 obtain rfl := some_inj hm
 exact ⟨_, Nat.lt_succ_self _, (i64.wrap (z1497 + (1:Int))), (i64.wrap (z1498 + (1:Int))), _, hx1505, (fu 0 r0_0 z (fu 3 v1469 z (fu 4 (.int .i64 z1353) z (fu 5 (.int .i64 z1471) z (fu 6 (.int .i64 (i64.wrap (z1497 + (1:Int)))) z (fu 7 (.int .i64 (i64.wrap (z1498 + (1:Int)))) z z)))))), hst⟩
}
 {
 replace hm := bif_f hc1513 hm
 refine wp_iff (cvb hc1513) ?_
 refine wp_skip (blk_n (tn (wrl ?_)))
 refine wv (.int .i64 z1498) z z z (wv (.int .i64 (i64.wrap (z1498 + (1:Int)))) z z z (wv (.int .i64 (i64.wrap (z1498 + (1:Int)))) z z z (wl_nil (tn ?_))))
 replace hst := hst.keep1
 obtain rfl := some_inj hm
 exact ⟨_, Nat.lt_succ_self _, z1497, (i64.wrap (z1498 + (1:Int))), _, hx1505, (fu 0 r0_0 z (fu 3 v1469 z (fu 4 (.int .i64 z1353) z (fu 5 (.int .i64 z1471) z (fu 6 (.int .i64 z1497) z (fu 7 (.int .i64 (i64.wrap (z1498 + (1:Int)))) z z)))))), hst⟩
}
}
 {
 replace hm := bif_f hc1507 hm
 refine wp_iff (cvb hc1507) ?_
 refine wp_exit (then_x (then_x ?_))
 replace hm := inr_up hm hx1505
 refine blk_x (tn ?_)
 replace hst := hst.keep1
 obtain rfl := some_inj hm
 exact ⟨z1497, _, hx1518, (fu 0 r0_0 z (fu 3 v1469 z (fu 4 (.int .i64 z1353) z (fu 5 (.int .i64 z1471) z (fu 6 (.int .i64 z1497) z z))))), hst⟩
}
}
 {
 clear hst
 rintro _ w1519 ⟨z1514, σ1515, hm, rfl, hst⟩
 dsimp only [ref03_Order_j2] at hm
 refine wp_seq (wrl (wv (.int .i64 z1514) z z z (wv (.int .i64 z1353) z z z (wv (.bool (z1514 == z1353)) z z z (wl_nil (tn ?_))))))
 refine bsplit (z1514 == z1353) (fun hc1520 => ?_) (fun hc1520 => ?_)
 {
 replace hm := bif_t hc1520 hm
 refine wp_ift (cvb hc1520) ?_
 refine wrl (wv (v1469) z z z (wv (.int .i64 z1471) z z z ?_))
 obtain ⟨b1521, w1522, ew1523, eb1524, hst⟩ := hst.lits (E := (tyInt .i64)) (xs := [z1471]) [[I6 z1471]] 3 1 z (Reps.cons z Reps.nil)
 refine wl_run (v := (.slice (some ⟨b1521, 0, none⟩) 1 1)) (w' := w1522) z z (x_als (by kernel_rfl) ew1523 eb1524) ?_
 obtain ⟨hg1526, hm⟩ := gd_some hm
 replace hst := hst.pull1
 obtain ⟨v1527, w1528, hr1529, hst⟩ := run_append elem_41 underlying41 hst hst.src1 (room_of hg1526 z) 41
 refine wl_run (v := v1527) (w' := w1528) z z (x_append z z hr1529) ?_
 refine wv (v1527) z z z (wl_nil (blk_n (tn (wrl (wv (.int .i64 z1471) z z z (wv (.int .i64 (i64.wrap (z1471 + (1:Int)))) z z z (wv (.int .i64 (i64.wrap (z1471 + (1:Int)))) z z z (wl_nil (tn ?_)))))))))
 replace hst := hst.keep1
 obtain rfl := some_inj hm
 exact ⟨_, Nat.lt_succ_self _, (z1468 ++ ([z1471])), (i64.wrap (z1471 + (1:Int))), v1527, _, hx1478, (fu 0 r0_0 z (fu 3 v1527 z (fu 4 (.int .i64 z1353) z (fu 5 (.int .i64 (i64.wrap (z1471 + (1:Int)))) z z)))), hst⟩
}
 {
 replace hm := bif_f hc1520 hm
 refine wp_iff (cvb hc1520) ?_
 refine wp_skip (blk_n (tn (wrl ?_)))
 refine wv (.int .i64 z1471) z z z (wv (.int .i64 (i64.wrap (z1471 + (1:Int)))) z z z (wv (.int .i64 (i64.wrap (z1471 + (1:Int)))) z z z (wl_nil (tn ?_))))
 replace hst := hst.keep1
 obtain rfl := some_inj hm
 exact ⟨_, Nat.lt_succ_self _, z1468, (i64.wrap (z1471 + (1:Int))), v1469, _, hx1478, (fu 0 r0_0 z (fu 3 v1469 z (fu 4 (.int .i64 z1353) z (fu 5 (.int .i64 (i64.wrap (z1471 + (1:Int)))) z z)))), hst⟩
}
}
}
 {
 replace hm := bif_f hc1480 hm
 refine wp_iff (cvb hc1480) ?_
 refine wp_exit (then_x (then_x ?_))
 replace hm := inr_up hm hx1478
 refine blk_x (blk_n (tn (wrl ?_)))
 refine wv (.int .i64 z1353) z z z (wv (.int .i64 (i64.wrap (z1353 + (1:Int)))) z z z (wv (.int .i64 (i64.wrap (z1353 + (1:Int)))) z z z (wl_nil (tn ?_))))
 replace hst := hst.keep1
 obtain rfl := some_inj hm
 exact ⟨_, Nat.lt_succ_self _, z1468, (i64.wrap (z1353 + (1:Int))), v1469, _, hx1360, (fu 0 r0_0 z (fu 3 v1469 z (fu 4 (.int .i64 (i64.wrap (z1353 + (1:Int)))) z z))), hst⟩
}
}
 {
 replace hm := bif_f hc1362 hm
 refine wp_iff (cvb hc1362) ?_
 refine wp_exit (then_x (then_x ?_))
 replace hm := inr_up hm hx1360
 refine blk_x (tn (wp_seq (wrl ?_)))
 refine wv (v1351) z z z (wv (v1351) z z z (wl_nil (tn (wp_ret ?_))))
 obtain rfl := some_inj hm
 refine post_ret (vs := [v1351]) results35 (rvs_cons (rv_tmp z) rvs_nil) ?_
 exact ⟨v1351, z, hst.keep1⟩
}
}

theorem slices_Clone_int_int_ref {w0 w : World} {I : HL} {R : SP} {a0 : (List Int)} {r0_0 : Value} (f0_0 : Rd (tyInt .i64) R I r0_0 a0) (hst : St w0 w I [] R) {r : (List Int)} (hm : slices_Clone_int_int a0 = some r) :
  Calls prog 36 #[r0_0] w fun e w' => ∃ (q0_0 : Value), e = .returned (q0_0) ∧ St w0 w' I [ownS (tyInt .i64) q0_0 r] R := by {
 unfold slices_Clone_int_int at hm
 obtain ⟨hg, hm⟩ := gd_some hm
 obtain rfl := some_inj hm
 have hsv := rd_sliceV f0_0
 refine calls_start (args := [r0_0]) func36 z ntmps36 (Nat.le_of_ble_eq_true z) ?_
 refine wp_seq (wrl (wv ((.slice none 0 0)) z z z (wl_nil (tn (wp_seq (wp_seq (wrl (wv (r0_0) z z z (wv (.bool (isNil r0_0)) z z (x_slnil z hsv z underlying41) (wl_nil (tn ?_)))))))))))
 refine bsplit (isNil r0_0) (fun hc65 => ?_) (fun hc65 => ?_)
 {
 refine wp_ift (cvb hc65) ?_
 refine wp_seq (wrl (wv ((.slice none 0 0)) z z z (wl_nil (tn (wp_ret (then_r ?_))))))
 refine post_ret (vs := [Zs]) results36 (rvs_cons (rv_tmp z) rvs_nil) ?_
 obtain rfl := List.eq_nil_of_length_eq_zero (isNil_len hsv hc65)
 exact ⟨_, z, (hst.own_nil (tyInt .i64)).keep1⟩
}
 {
 refine wp_iff (cvb hc65) ?_
 refine wp_skip (tn (wp_seq (wrl ?_)))
 obtain ⟨b, w1, ew, eb, hst⟩ := hst.lits (E := (tyInt .i64)) (xs := []) [] 3 0 z Reps.nil
 refine wl_run (v := (.slice (some ⟨b, 0, none⟩) 0 0)) (w' := w1) z z (x_als (by kernel_rfl) ew eb) ?_
 refine wv (r0_0) z z z ?_
 obtain ⟨v2, w2, hr, hst⟩ := run_append elem_41 underlying41 hst (Src.of_rd hst f0_0 flat_int) (room_of hg z) 41
 refine wl_run (v := v2) (w' := w2) z z (x_append z z hr) ?_
 refine wv (v2) z z z (wl_nil (tn (wp_ret ?_)))
 refine post_ret (vs := [v2]) results36 (rvs_cons (rv_tmp z) rvs_nil) ?_
 rw [List.nil_append] at hst
 exact ⟨_, z, hst.keep1⟩
}
}

theorem label_Lattice_Order_ref {w0 w : World} {I : HL} {R : SP} {a0 : (Option label_Lattice)} {p0 : Value}  (hst : St w0 w I [objO at_label_Lattice p0 a0] R) {r : ((List Int))} (hm : label_Lattice_Order a0 = some r) :
  Calls prog 22 #[p0] w fun e w' => ∃ (q0_0 : Value), e = .returned (q0_0) ∧ St w0 w' I [ownS (tyInt .i64) q0_0 r, objO at_label_Lattice p0 a0] R := by {
 rcases a0 with _ | o0
 {
 obtain ⟨rfl, hst'⟩ := objO_none hst
 clear hst
 have hst := hst'
 clear hst'
 dsimp only [label_Lattice_Order] at hm
 refine calls_start (args := [.pointer none]) func22 z ntmps22 (Nat.le_of_ble_eq_true z) ?_
 refine wp_seq (wrl (wv ((.slice none 0 0)) z z z (wl_nil (tn (wp_seq (wp_seq (wrl (wv (.pointer none) z z z (wv (.bool true) z z (by kernel_rfl) (wl_nil (tn ?_)))))))))))
 refine wp_ift z ?_
 refine wp_seq (wrl (wv ((.slice none 0 0)) z z z (wl_nil (tn (wp_ret (then_r ?_))))))
 replace hst := hst.own_nil (tyInt .i64)
 replace hst := hst.objO_nil at_label_Lattice
 obtain rfl := some_inj hm
 refine post_ret (vs := [Zs]) results22 (rvs_cons (rv_tmp z) rvs_nil) ?_
 replace hst := hst.pull1
 exact ⟨(.slice none 0 0), z, hst.keep2⟩
}
 {
 replace hst := objO_get hst
 dsimp only [label_Lattice_Order] at hm
 refine calls_start (args := [p0]) func22 z ntmps22 (Nat.le_of_ble_eq_true z) ?_
 refine wp_seq (wrl (wv ((.slice none 0 0)) z z z (wl_nil (tn (wp_seq (wp_seq (wrl (wv (p0) z z z ?_))))))))
 obtain ⟨b78, v79, v81, v83, v85, v87, v89, rfl, hst'⟩ := at_label_Lattice_open hst
 clear hst
 have hst := hst'
 clear hst'
 refine wv (.bool false) z z (by kernel_rfl) (wl_nil (tn ?_))
 refine wp_iff z ?_
 refine wp_skip (tn (wp_seq (wrl ?_)))
 refine wv (Pt b78 0) z z z (wv (Pt b78 0) z z z (wv (Pt b78 5) z z (x_field z underlying49 z sizeOf41 z) (wv (v89) z z (x_load z isAgg41 (hst.bc0 z)) ?_)))
 replace hst := hst.pull6
 obtain ⟨css91, hq92, hst⟩ := hst.own_open
 obtain ⟨t93, ht94, hm⟩ := bind_some hm
 refine wc call36 [v89] z z z ?_
 refine (slices_Clone_int_int_ref (hst.rdrow0 hq92) hst.to0 ht94).mono ?_
 rintro _ w95 ⟨v98, rfl, hst⟩
 refine ⟨_, z, ?_⟩
 replace hst := hst.of1.pull1.own_close hq92
 refine wv (v98) z z z (wl_nil (tn (wp_ret ?_)))
 replace hst := hst.pull7.pull7.pull7.pull7.pull7.pull7
 replace hst := at_label_Lattice_close (pv := Pt b78 0) (x := o0) hst z
 replace hst := objO_some hst
 obtain rfl := some_inj hm
 refine post_ret (vs := [v98]) results22 (rvs_cons (rv_tmp z) rvs_nil) ?_
 replace hst := hst.pull1
 exact ⟨v98, z, hst.keep2⟩
}
}

theorem label_Lattice_Bottom_ref {w0 w : World} {I : HL} {R : SP} {a0 : (Option label_Lattice)} {p0 : Value}  (hst : St w0 w I [objO at_label_Lattice p0 a0] R) {r : (Int)} (hm : label_Lattice_Bottom a0 = some r) :
  Calls prog 16 #[p0] w fun e w' => e = .returned (.int .i64 r) ∧ St w0 w' I [objO at_label_Lattice p0 a0] R := by {
 rcases a0 with _ | o0
 {
 obtain ⟨rfl, hst'⟩ := objO_none hst
 clear hst
 have hst := hst'
 clear hst'
 dsimp only [label_Lattice_Bottom] at hm
 refine calls_start (args := [.pointer none]) func16 z ntmps16 (Nat.le_of_ble_eq_true z) ?_
 refine wp_seq (wrl (wv (.int .i64 (0:Int)) z z z (wl_nil (tn (wp_seq (wp_seq (wrl (wv (.pointer none) z z z (wv (.bool true) z z (by kernel_rfl) (wl_nil (tn ?_)))))))))))
 refine wp_ift z ?_
 refine wp_seq (wrl (wv (.int .i64 ((-1):Int)) z z z (wl_nil (tn (wp_ret (then_r ?_))))))
 replace hst := hst.objO_nil at_label_Lattice
 obtain rfl := some_inj hm
 refine post_ret (vs := [I6 ((-1):Int)]) results16 (rvs_cons (rv_tmp z) rvs_nil) ?_
 exact ⟨z, hst.keep1⟩
}
 {
 replace hst := objO_get hst
 dsimp only [label_Lattice_Bottom] at hm
 refine calls_start (args := [p0]) func16 z ntmps16 (Nat.le_of_ble_eq_true z) ?_
 refine wp_seq (wrl (wv (.int .i64 (0:Int)) z z z (wl_nil (tn (wp_seq (wp_seq (wrl (wv (p0) z z z ?_))))))))
 obtain ⟨b75, v76, v78, v80, v82, v84, v86, rfl, hst'⟩ := at_label_Lattice_open hst
 clear hst
 have hst := hst'
 clear hst'
 refine wv (.bool false) z z (by kernel_rfl) (wl_nil (tn ?_))
 refine wp_iff z ?_
 refine wp_skip (tn (wp_seq (wrl ?_)))
 refine wv (Pt b75 0) z z z (wv (Pt b75 0) z z z (wv (Pt b75 5) z z (x_field z underlying49 z sizeOf41 z) (wv (v86) z z (x_load z isAgg41 (hst.bc0 z)) ?_)))
 obtain ⟨x88, hx89, hm⟩ := bind_some hm
 obtain ⟨h90, h91, hi92⟩ := geto_some hx89
 refine wv (.pointer (some (eAddr v86 ((0:Int).toNat * 1 + 0)))) z z (x_index z z underlying41 sizeOf3 hst.sv6 h90 h91) (wv (.int .i64 x88) z z (x_load z isAgg3 (hst.ol6 hi92 (by rintro _ rfl; rfl))) (wv (.int .i64 x88) z z z (wl_nil (tn (wp_ret ?_)))))
 replace hst := hst.pull6.pull6.pull6.pull6.pull6.pull6.pull6
 replace hst := at_label_Lattice_close (pv := Pt b75 0) (x := o0) hst z
 replace hst := objO_some hst
 obtain rfl := some_inj hm
 refine post_ret (vs := [I6 x88]) results16 (rvs_cons (rv_tmp z) rvs_nil) ?_
 exact ⟨z, hst.keep1⟩
}
}

theorem label_Lattice_Top_ref {w0 w : World} {I : HL} {R : SP} {a0 : (Option label_Lattice)} {p0 : Value}  (hst : St w0 w I [objO at_label_Lattice p0 a0] R) {r : (Int)} (hm : label_Lattice_Top a0 = some r) :
  Calls prog 17 #[p0] w fun e w' => e = .returned (.int .i64 r) ∧ St w0 w' I [objO at_label_Lattice p0 a0] R := by {
 rcases a0 with _ | o0
 {
 obtain ⟨rfl, hst'⟩ := objO_none hst
 clear hst
 have hst := hst'
 clear hst'
 dsimp only [label_Lattice_Top] at hm
 refine calls_start (args := [.pointer none]) func17 z ntmps17 (Nat.le_of_ble_eq_true z) ?_
 refine wp_seq (wrl (wv (.int .i64 (0:Int)) z z z (wl_nil (tn (wp_seq (wp_seq (wrl (wv (.pointer none) z z z (wv (.bool true) z z (by kernel_rfl) (wl_nil (tn ?_)))))))))))
 refine wp_ift z ?_
 refine wp_seq (wrl (wv (.int .i64 ((-1):Int)) z z z (wl_nil (tn (wp_ret (then_r ?_))))))
 replace hst := hst.objO_nil at_label_Lattice
 obtain rfl := some_inj hm
 refine post_ret (vs := [I6 ((-1):Int)]) results17 (rvs_cons (rv_tmp z) rvs_nil) ?_
 exact ⟨z, hst.keep1⟩
}
 {
 replace hst := objO_get hst
 dsimp only [label_Lattice_Top] at hm
 refine calls_start (args := [p0]) func17 z ntmps17 (Nat.le_of_ble_eq_true z) ?_
 refine wp_seq (wrl (wv (.int .i64 (0:Int)) z z z (wl_nil (tn (wp_seq (wp_seq (wrl (wv (p0) z z z ?_))))))))
 obtain ⟨b75, v76, v78, v80, v82, v84, v86, rfl, hst'⟩ := at_label_Lattice_open hst
 clear hst
 have hst := hst'
 clear hst'
 refine wv (.bool false) z z (by kernel_rfl) (wl_nil (tn ?_))
 refine wp_iff z ?_
 refine wp_skip (tn (wp_seq ?_))
 refine wq_regionS hst Try.mixed (by kernel_rfl) ?_
 refine wq_run (v := Pt b75 0) z z (fun w hst => z) ?_
 refine wq_run (v := Pt b75 0) z z (fun w hst => z) ?_
 refine wq_run (v := Pt b75 5) z z (fun w hst => x_field z underlying49 z sizeOf41 z) ?_
 refine wq_run (v := v86) z z (fun w hst => x_load z isAgg41 (hst.bc0 z)) ?_
 refine wq_run (v := Pt b75 0) z z (fun w hst => z) ?_
 refine wq_run (v := Pt b75 0) z z (fun w hst => z) ?_
 refine wq_run (v := Pt b75 5) z z (fun w hst => x_field z underlying49 z sizeOf41 z) ?_
 refine wq_run (v := v86) z z (fun w hst => x_load z isAgg41 (hst.bc0 z)) ?_
 refine wq_run (v := .int .i64 ((o0.all).length : Int)) z z (fun w hst => x_len z underlying41 hst.sv6) ?_
 refine wq_run (v := .int .i64 (i64.wrap (((o0.all).length : Int) - (1:Int)))) z z (fun w hst => z) ?_
 obtain ⟨x88, hx89, hm⟩ := bind_some hm
 obtain ⟨h90, h91, hi92⟩ := geto_some hx89
 refine wq_run (v := .pointer (some (eAddr v86 ((i64.wrap (((o0.all).length : Int) - (1:Int))).toNat * 1 + 0)))) z z (fun w hst => x_index z z underlying41 sizeOf3 hst.sv6 h90 h91) ?_
 refine wq_run (v := .int .i64 x88) z z (fun w hst => x_load z isAgg3 (hst.ol6 hi92 (by rintro _ rfl; rfl))) ?_
 refine wq_run (v := .int .i64 x88) z z (fun w hst => z) ?_
 refine wq_nil ?_
 intro w hst
 refine tn (wp_ret ?_)
 replace hst := hst.pull6.pull6.pull6.pull6.pull6.pull6.pull6
 replace hst := at_label_Lattice_close (pv := Pt b75 0) (x := o0) hst z
 replace hst := objO_some hst
 obtain rfl := some_inj hm
 refine post_ret (vs := [I6 x88]) results17 (rvs_cons (rv_tmp z) rvs_nil) ?_
 exact ⟨z, hst.keep1⟩
}
}

theorem label_Lattice_Leq_ref {w0 w : World} {I : HL} {R : SP} {a0 : (Option label_Lattice)} {p0 : Value} {a1 : Int} {a2 : Int}  (hst : St w0 w I [objO at_label_Lattice p0 a0] R) {r : (Bool)} (hm : label_Lattice_Leq a0 a1 a2 = some r) :
  Calls prog 15 #[p0, I6 a1, I6 a2] w fun e w' => e = .returned (.bool r) ∧ St w0 w' I [objO at_label_Lattice p0 a0] R := by {
 rcases a0 with _ | o0
 {
 obtain ⟨rfl, hst'⟩ := objO_none hst
 clear hst
 have hst := hst'
 clear hst'
 dsimp only [label_Lattice_Leq] at hm
 refine calls_start (args := [.pointer none, I6 a1, I6 a2]) func15 z ntmps15 (Nat.le_of_ble_eq_true z) ?_
 refine wp_seq (wrl (wv (.bool false) z z z (wl_nil (tn (wp_seq (wrl (wv (.pointer none) z z z (wv (.int .i64 a1) z z z ?_))))))))
 replace hst := hst.objO_nil at_label_Lattice
 obtain ⟨t200, ht201, hm⟩ := bind_some hm
 refine wc call23 [.pointer none, I6 a1] z z z ?_
 refine (label_Lattice_Is_ref hst.to1 ht201).mono ?_
 rintro _ w202 ⟨rfl, hst⟩
 refine ⟨_, z, ?_⟩
 replace hst := hst.of1
 refine wv (.bool t200) z z z ?_
 refine bsplit t200 (fun hc205 => ?_) (fun hc205 => ?_)
 {
 replace hm := bif_t hc205 hm
 refine wv (.pointer none) ((wanted_eq z z z (cvb hc205)).trans z) z z (wv (.int .i64 a2) ((wanted_eq z z z (cvb hc205)).trans z) z z ?_)
 replace hst := hst.objO_nil at_label_Lattice
 obtain ⟨t207, ht208, hm⟩ := bind_some hm
 refine wl_call ((wanted_eq z z z (cvb hc205)).trans z) z (x_call call23 z (vs := [.pointer none, I6 a2]) z) ?_
 refine (label_Lattice_Is_ref hst.to1 ht208).mono ?_
 rintro _ w209 ⟨rfl, hst⟩
 refine ⟨_, z, ?_⟩
 replace hst := hst.of1
 refine wv (.bool t207) z z (x_pick_t hc205 z z) (wv (.bool t207) z z z ?_)
 refine bsplit t207 (fun hc212 => ?_) (fun hc212 => ?_)
 {
 replace hm := bif_t hc212 hm
 refine wv (.pointer none) ((wanted_eq z z z (cvb hc212)).trans z) z z ?_
 cases hm
}
 {
 replace hm := bif_f hc212 hm
 refine wo hc212 z z z z z z (wo hc212 z z z z z z (wo hc212 z z z z z z (wo hc212 z z z z z z (wo hc212 z z z z z z (wo hc212 z z z z z z (wo hc212 z z z z z z (wo hc212 z z z z z z (wo hc212 z z z z z z (wo hc212 z z z z z z (wo hc212 z z z z z z (wv (.bool false) z z (x_pick_f hc212 z z) (wv (.bool false) z z z ?_))))))))))))
 refine wl_nil (tn (wp_ret ?_))
 replace hst := hst.objO_nil at_label_Lattice
 obtain rfl := some_inj hm
 refine post_ret (vs := [.bool false]) results15 (rvs_cons (rv_tmp z) rvs_nil) ?_
 exact ⟨z, hst.keep1⟩
}
}
 {
 replace hm := bif_f hc205 hm
 refine wo hc205 z z z z z z (wo hc205 z z z z z z (wo hc205 z z z z z z (wv (.bool false) z z (x_pick_f hc205 z z) (wv (.bool false) z z z (wz z z z z z z (wz z z z z z z (wz z z z z z z (wz z z z z z z (wz z z z z z z (wz z z z z z z (wz z z z z z z (wz z z z z z z ?_))))))))))))
 refine wz z z z z z z (wz z z z z z z (wz z z z z z z (wv (.bool false) z z (x_pick_f z z z) (wv (.bool false) z z z (wl_nil (tn (wp_ret ?_)))))))
 replace hst := hst.objO_nil at_label_Lattice
 obtain rfl := some_inj hm
 refine post_ret (vs := [.bool false]) results15 (rvs_cons (rv_tmp z) rvs_nil) ?_
 exact ⟨z, hst.keep1⟩
}
}
 {
 replace hst := objO_get hst
 dsimp only [label_Lattice_Leq] at hm
 refine calls_start (args := [p0, I6 a1, I6 a2]) func15 z ntmps15 (Nat.le_of_ble_eq_true z) ?_
 refine wp_seq (wrl (wv (.bool false) z z z (wl_nil (tn (wp_seq (wrl (wv (p0) z z z (wv (.int .i64 a1) z z z ?_))))))))
 replace hst := objO_some hst
 obtain ⟨t213, ht214, hm⟩ := bind_some hm
 refine wc call23 [p0, I6 a1] z z z ?_
 refine (label_Lattice_Is_ref hst.to1 ht214).mono ?_
 rintro _ w215 ⟨rfl, hst⟩
 refine ⟨_, z, ?_⟩
 replace hst := hst.of1
 replace hst := objO_get hst
 refine wv (.bool t213) z z z ?_
 refine bsplit t213 (fun hc218 => ?_) (fun hc218 => ?_)
 {
 replace hm := bif_t hc218 hm
 refine wv (p0) ((wanted_eq z z z (cvb hc218)).trans z) z z (wv (.int .i64 a2) ((wanted_eq z z z (cvb hc218)).trans z) z z ?_)
 replace hst := objO_some hst
 obtain ⟨t219, ht220, hm⟩ := bind_some hm
 refine wl_call ((wanted_eq z z z (cvb hc218)).trans z) z (x_call call23 z (vs := [p0, I6 a2]) z) ?_
 refine (label_Lattice_Is_ref hst.to1 ht220).mono ?_
 rintro _ w221 ⟨rfl, hst⟩
 refine ⟨_, z, ?_⟩
 replace hst := hst.of1
 replace hst := objO_get hst
 refine wv (.bool t219) z z (x_pick_t hc218 z z) (wv (.bool t219) z z z ?_)
 refine bsplit t219 (fun hc224 => ?_) (fun hc224 => ?_)
 {
 replace hm := bif_t hc224 hm
 refine wv (p0) ((wanted_eq z z z (cvb hc224)).trans z) z z ?_
 obtain ⟨b225, v226, v228, v230, v232, v234, v236, rfl, hst'⟩ := at_label_Lattice_open hst
 clear hst
 have hst := hst'
 clear hst'
 refine wv (Pt b225 0) ((wanted_eq z z z (cvb hc224)).trans z) z z (wv (Pt b225 0) ((wanted_eq z z z (cvb hc224)).trans z) z (x_field z underlying49 z sizeOf28 z) (wv (v226) ((wanted_eq z z z (cvb hc224)).trans z) z (x_load z isAgg28 (hst.bc0 z)) (wv (.int .i64 a1) ((wanted_eq z z z (cvb hc224)).trans z) z z ?_)))
 obtain ⟨x238, hx239, hm⟩ := bind_some hm
 obtain ⟨h240, h241, hi242⟩ := geto_some hx239
 refine wv (.pointer (some (eAddr v226 (a1.toNat * 1 + 0)))) ((wanted_eq z z z (cvb hc224)).trans z) z (x_index z z underlying28 sizeOf43 hst.sv1 h240 h241) (wv (.int .u64 x238) ((wanted_eq z z z (cvb hc224)).trans z) z (x_load z isAgg43 (hst.ol1 hi242 (by rintro _ rfl; rfl))) (wv (.int .i64 a2) ((wanted_eq z z z (cvb hc224)).trans z) z z ?_))
 obtain ⟨hg243, hm⟩ := gd_some hm
 refine wv (.int .u64 (iShr .u64 x238 a2)) ((wanted_eq z z z (cvb hc224)).trans z) z (x_shr (of_decide_eq_true hg243) z z) (wv (.int .u64 (bAnd .u64 (iShr .u64 x238 a2) (1:Int))) ((wanted_eq z z z (cvb hc224)).trans z) z z (wv (.bool ((bAnd .u64 (iShr .u64 x238 a2) (1:Int)) == (1:Int))) ((wanted_eq z z z (cvb hc224)).trans z) z z (wv (.bool ((bAnd .u64 (iShr .u64 x238 a2) (1:Int)) == (1:Int))) z z (x_pick_t hc224 z z) (wv (.bool ((bAnd .u64 (iShr .u64 x238 a2) (1:Int)) == (1:Int))) z z z (wl_nil (tn (wp_ret ?_)))))))
 replace hst := hst.pull6.pull6.pull6.pull6.pull6.pull6.pull6
 replace hst := at_label_Lattice_close (pv := Pt b225 0) (x := o0) hst z
 replace hst := objO_some hst
 obtain rfl := some_inj hm
 refine post_ret (vs := [.bool ((bAnd .u64 (iShr .u64 x238 a2) (1:Int)) == (1:Int))]) results15 (rvs_cons (rv_tmp z) rvs_nil) ?_
 exact ⟨z, hst.keep1⟩
}
 {
 replace hm := bif_f hc224 hm
 refine wo hc224 z z z z z z (wo hc224 z z z z z z (wo hc224 z z z z z z (wo hc224 z z z z z z (wo hc224 z z z z z z (wo hc224 z z z z z z (wo hc224 z z z z z z (wo hc224 z z z z z z (wo hc224 z z z z z z (wo hc224 z z z z z z (wo hc224 z z z z z z (wv (.bool false) z z (x_pick_f hc224 z z) (wv (.bool false) z z z ?_))))))))))))
 refine wl_nil (tn (wp_ret ?_))
 replace hst := objO_some hst
 obtain rfl := some_inj hm
 refine post_ret (vs := [.bool false]) results15 (rvs_cons (rv_tmp z) rvs_nil) ?_
 exact ⟨z, hst.keep1⟩
}
}
 {
 replace hm := bif_f hc218 hm
 refine wo hc218 z z z z z z (wo hc218 z z z z z z (wo hc218 z z z z z z (wv (.bool false) z z (x_pick_f hc218 z z) (wv (.bool false) z z z (wz z z z z z z (wz z z z z z z (wz z z z z z z (wz z z z z z z (wz z z z z z z (wz z z z z z z (wz z z z z z z (wz z z z z z z ?_))))))))))))
 refine wz z z z z z z (wz z z z z z z (wz z z z z z z (wv (.bool false) z z (x_pick_f z z z) (wv (.bool false) z z z (wl_nil (tn (wp_ret ?_)))))))
 replace hst := objO_some hst
 obtain rfl := some_inj hm
 refine post_ret (vs := [.bool false]) results15 (rvs_cons (rv_tmp z) rvs_nil) ?_
 exact ⟨z, hst.keep1⟩
}
}
}

theorem label_Lattice_Meet_ref {w0 w : World} {I : HL} {R : SP} {a0 : (Option label_Lattice)} {p0 : Value} {a1 : Int} {a2 : Int}  (hst : St w0 w I [objO at_label_Lattice p0 a0] R) {r : (Int)} (hm : label_Lattice_Meet a0 a1 a2 = some r) :
  Calls prog 14 #[p0, I6 a1, I6 a2] w fun e w' => e = .returned (.int .i64 r) ∧ St w0 w' I [objO at_label_Lattice p0 a0] R := by {
 rcases a0 with _ | o0
 {
 obtain ⟨rfl, hst'⟩ := objO_none hst
 clear hst
 have hst := hst'
 clear hst'
 dsimp only [label_Lattice_Meet] at hm
 refine calls_start (args := [.pointer none, I6 a1, I6 a2]) func14 z ntmps14 (Nat.le_of_ble_eq_true z) ?_
 refine wp_seq (wrl (wv (.int .i64 (0:Int)) z z z (wl_nil (tn (wp_seq (wp_seq (wrl (wv (.pointer none) z z z (wv (.int .i64 a1) z z z ?_)))))))))
 replace hst := hst.objO_nil at_label_Lattice
 obtain ⟨t233, ht234, hm⟩ := bind_some hm
 refine wc call23 [.pointer none, I6 a1] z z z ?_
 refine (label_Lattice_Is_ref hst.to1 ht234).mono ?_
 rintro _ w235 ⟨rfl, hst⟩
 refine ⟨_, z, ?_⟩
 replace hst := hst.of1
 refine wv (.bool (!t233)) z z z (wv (.bool (!t233)) z z z ?_)
 refine bsplit (!t233) (fun hc238 => ?_) (fun hc238 => ?_)
 {
 replace hm := bif_t hc238 hm
 refine wo hc238 z z z z z z (wo hc238 z z z z z z (wo hc238 z z z z z z (wo hc238 z z z z z z (wv (.bool true) z z (x_pick_t hc238 z z) (wl_nil (tn ?_))))))
 refine wp_ift z ?_
 refine wp_seq (wrl (wv (.int .i64 ((-1):Int)) z z z (wl_nil (tn (wp_ret (then_r ?_))))))
 replace hst := hst.objO_nil at_label_Lattice
 obtain rfl := some_inj hm
 refine post_ret (vs := [I6 ((-1):Int)]) results14 (rvs_cons (rv_tmp z) rvs_nil) ?_
 exact ⟨z, hst.keep1⟩
}
 {
 replace hm := bif_f hc238 hm
 refine wv (.pointer none) ((wanted_eq z z z (cvb hc238)).trans z) z z (wv (.int .i64 a2) ((wanted_eq z z z (cvb hc238)).trans z) z z ?_)
 replace hst := hst.objO_nil at_label_Lattice
 obtain ⟨t240, ht241, hm⟩ := bind_some hm
 refine wl_call ((wanted_eq z z z (cvb hc238)).trans z) z (x_call call23 z (vs := [.pointer none, I6 a2]) z) ?_
 refine (label_Lattice_Is_ref hst.to1 ht241).mono ?_
 rintro _ w242 ⟨rfl, hst⟩
 refine ⟨_, z, ?_⟩
 replace hst := hst.of1
 refine wv (.bool (!t240)) ((wanted_eq z z z (cvb hc238)).trans z) z z (wv (.bool (!t240)) z z (x_pick_f hc238 z z) (wl_nil (tn ?_)))
 refine bsplit (!t240) (fun hc245 => ?_) (fun hc245 => ?_)
 {
 replace hm := bif_t hc245 hm
 refine wp_ift (cvb hc245) ?_
 refine wp_seq (wrl (wv (.int .i64 ((-1):Int)) z z z (wl_nil (tn (wp_ret (then_r ?_))))))
 replace hst := hst.objO_nil at_label_Lattice
 obtain rfl := some_inj hm
 refine post_ret (vs := [I6 ((-1):Int)]) results14 (rvs_cons (rv_tmp z) rvs_nil) ?_
 exact ⟨z, hst.keep1⟩
}
 {
 replace hm := bif_f hc245 hm
 refine wp_iff (cvb hc245) ?_
 refine wp_skip (tn (wp_seq (wrl ?_)))
 refine wv (.pointer none) z z z ?_
 cases hm
}
}
}
 {
 replace hst := objO_get hst
 dsimp only [label_Lattice_Meet] at hm
 refine calls_start (args := [p0, I6 a1, I6 a2]) func14 z ntmps14 (Nat.le_of_ble_eq_true z) ?_
 refine wp_seq (wrl (wv (.int .i64 (0:Int)) z z z (wl_nil (tn (wp_seq (wp_seq (wrl (wv (p0) z z z (wv (.int .i64 a1) z z z ?_)))))))))
 replace hst := objO_some hst
 obtain ⟨t246, ht247, hm⟩ := bind_some hm
 refine wc call23 [p0, I6 a1] z z z ?_
 refine (label_Lattice_Is_ref hst.to1 ht247).mono ?_
 rintro _ w248 ⟨rfl, hst⟩
 refine ⟨_, z, ?_⟩
 replace hst := hst.of1
 replace hst := objO_get hst
 refine wv (.bool (!t246)) z z z (wv (.bool (!t246)) z z z ?_)
 refine bsplit (!t246) (fun hc251 => ?_) (fun hc251 => ?_)
 {
 replace hm := bif_t hc251 hm
 refine wo hc251 z z z z z z (wo hc251 z z z z z z (wo hc251 z z z z z z (wo hc251 z z z z z z (wv (.bool true) z z (x_pick_t hc251 z z) (wl_nil (tn ?_))))))
 refine wp_ift z ?_
 refine wp_seq (wrl (wv (.int .i64 ((-1):Int)) z z z (wl_nil (tn (wp_ret (then_r ?_))))))
 replace hst := objO_some hst
 obtain rfl := some_inj hm
 refine post_ret (vs := [I6 ((-1):Int)]) results14 (rvs_cons (rv_tmp z) rvs_nil) ?_
 exact ⟨z, hst.keep1⟩
}
 {
 replace hm := bif_f hc251 hm
 refine wv (p0) ((wanted_eq z z z (cvb hc251)).trans z) z z (wv (.int .i64 a2) ((wanted_eq z z z (cvb hc251)).trans z) z z ?_)
 replace hst := objO_some hst
 obtain ⟨t252, ht253, hm⟩ := bind_some hm
 refine wl_call ((wanted_eq z z z (cvb hc251)).trans z) z (x_call call23 z (vs := [p0, I6 a2]) z) ?_
 refine (label_Lattice_Is_ref hst.to1 ht253).mono ?_
 rintro _ w254 ⟨rfl, hst⟩
 refine ⟨_, z, ?_⟩
 replace hst := hst.of1
 replace hst := objO_get hst
 refine wv (.bool (!t252)) ((wanted_eq z z z (cvb hc251)).trans z) z z (wv (.bool (!t252)) z z (x_pick_f hc251 z z) (wl_nil (tn ?_)))
 refine bsplit (!t252) (fun hc257 => ?_) (fun hc257 => ?_)
 {
 replace hm := bif_t hc257 hm
 refine wp_ift (cvb hc257) ?_
 refine wp_seq (wrl (wv (.int .i64 ((-1):Int)) z z z (wl_nil (tn (wp_ret (then_r ?_))))))
 replace hst := objO_some hst
 obtain rfl := some_inj hm
 refine post_ret (vs := [I6 ((-1):Int)]) results14 (rvs_cons (rv_tmp z) rvs_nil) ?_
 exact ⟨z, hst.keep1⟩
}
 {
 replace hm := bif_f hc257 hm
 refine wp_iff (cvb hc257) ?_
 refine wp_skip (tn (wp_seq (wrl ?_)))
 refine wv (p0) z z z ?_
 obtain ⟨b258, v259, v261, v263, v265, v267, v269, rfl, hst'⟩ := at_label_Lattice_open hst
 clear hst
 have hst := hst'
 clear hst'
 refine wv (Pt b258 0) z z z (wv (Pt b258 3) z z (x_field z underlying49 z sizeOf47 z) (wv (v265) z z (x_load z isAgg47 (hst.bc0 z)) (wv (.int .i64 a1) z z z ?_)))
 obtain ⟨x271, hx272, hm⟩ := bind_some hm
 obtain ⟨h273, h274, hi275⟩ := geto_some hx272
 refine wv (.pointer (some (eAddr v265 (a1.toNat * 1 + 0)))) z z (x_index z z underlying47 sizeOf41 hst.sv4 h273 h274) ?_
 obtain ⟨cs276, hr277, hc278⟩ := hst.og4 hi275
 obtain ⟨v279, rfl, f280, -⟩ := hr277
 refine wv (v279) z z (x_load z isAgg41 (hc278 0 _ z)) (wv (.int .i64 a2) z z z ?_)
 obtain ⟨x282, hx283, hm⟩ := bind_some hm
 obtain ⟨h284, h285, hi286⟩ := geto_some hx283
 refine wv (.pointer (some (eAddr v279 (a2.toNat * 1 + 0)))) z z (x_index z z underlying41 sizeOf3 (ro_sliceV f280) h284 h285) (wv (.int .i64 x282) z z (x_load z isAgg3 (ro_load f280 hst hi286 (by rintro _ rfl; rfl))) (wv (.int .i64 x282) z z z (wl_nil (tn (wp_ret ?_)))))
 replace hst := hst.pull6.pull6.pull6.pull6.pull6.pull6.pull6
 replace hst := at_label_Lattice_close (pv := Pt b258 0) (x := o0) hst z
 replace hst := objO_some hst
 obtain rfl := some_inj hm
 refine post_ret (vs := [I6 x282]) results14 (rvs_cons (rv_tmp z) rvs_nil) ?_
 exact ⟨z, hst.keep1⟩
}
}
}
}

theorem label_Lattice_Below_ref {w0 w : World} {I : HL} {R : SP} {a0 : (Option label_Lattice)} {p0 : Value} {a1 : Int}  (hst : St w0 w I [objO at_label_Lattice p0 a0] R) {r : ((List Int))} (hm : label_Lattice_Below a0 a1 = some r) :
  Calls prog 24 #[p0, I6 a1] w fun e w' => ∃ (q0_0 : Value), e = .returned (q0_0) ∧ St w0 w' I [ownS (tyInt .i64) q0_0 r, objO at_label_Lattice p0 a0] R := by {
 unfold label_Lattice_Below at hm
 refine calls_start (args := [p0, I6 a1]) func24 z ntmps24 (Nat.le_of_ble_eq_true z) ?_
 refine wp_seq (wrl (wv ((.slice none 0 0)) z z z (wl_nil (tn (wp_seq (wrl (wv ((.slice none 0 0)) z z z (wl_nil (tn (wp_seq (wp_seq (wrl (wv (p0) z z z ?_)))))))))))))
 obtain ⟨t567, ht568, hm⟩ := bind_some hm
 refine wc call12 [p0] z z z ?_
 refine (label_Lattice_Len_ref hst.to1 ht568).mono ?_
 rintro _ w569 ⟨rfl, hst⟩
 refine ⟨_, z, ?_⟩
 replace hst := hst.of1
 refine wv (.int .i64 (0:Int)) z z z (wl_nil (tn (wp_block ?_)))
 replace hst := hst.own_nil (tyInt .i64)
 obtain ⟨n632, hm⟩ := loopO_some hm
 refine wp_loop_n (fun n a w => ∃ (z627 : (List Int)) (z630 : Int) (v628 : Value) (σ631 : Nat → Value), loopN (label_Lattice_Below_l0 t567 a0 a1) n (z627, z630) = some r ∧ a = Fr 22 (upd (upd (upd (upd (upd σ631 0 (p0)) 1 (.int .i64 a1)) 5 (v628)) 8 (.int .i64 t567)) 9 (.int .i64 z630)) ∧ St w0 w I [ownS (tyInt .i64) v628 z627, objO at_label_Lattice p0 a0] R) n632 ⟨[], (0:Int), Zs, _, hm, (fu 0 p0 z (fu 1 (.int .i64 a1) z (fu 5 (.slice none 0 0) z (fu 8 (.int .i64 t567) z (fu 9 (.int .i64 (0:Int)) z z))))), hst⟩ ?_
 rintro n638 _ w633 ⟨z627, z630, v628, σ631, hm, rfl, hst⟩
 obtain ⟨n635, y636, rfl, hm, hx637⟩ := loopN_some hm
 dsimp only [label_Lattice_Below_l0] at hm
 refine wp_seq (wrl (wv (.bool (decide (z630 < t567))) z z z (wl_nil (tn (wp_seq ?_)))))
 refine bsplit (decide (z630 < t567)) (fun hc639 => ?_) (fun hc639 => ?_)
 {
 replace hm := bif_t hc639 hm
 refine wp_ift (cvb hc639) ?_
 refine wp_skip (tn (wp_seq (wp_block (wp_seq (wrl ?_)))))
 refine wv (.int .i64 z630) z z z (wv (.int .i64 z630) z z z (wl_nil (tn (wp_seq (wrl (wv (p0) z z z (wv (.int .i64 z630) z z z (wv (.int .i64 a1) z z z ?_))))))))
 replace hst := hst.pull1
 obtain ⟨t640, ht641, hm⟩ := bind_some hm
 refine wc call15 [p0, I6 z630, I6 a1] z z z ?_
 refine (label_Lattice_Leq_ref hst.to1 ht641).mono ?_
 rintro _ w642 ⟨rfl, hst⟩
 refine ⟨_, z, ?_⟩
 replace hst := hst.of1
 refine wl_nil (tn ?_)
 refine bsplit t640 (fun hc645 => ?_) (fun hc645 => ?_)
 {
 replace hm := bif_t hc645 hm
 refine wp_ift (cvb hc645) ?_
 refine wrl (wv (v628) z z z (wv (.int .i64 z630) z z z ?_))
 obtain ⟨b646, w647, ew648, eb649, hst⟩ := hst.lits (E := (tyInt .i64)) (xs := [z630]) [[I6 z630]] 3 1 z (Reps.cons z Reps.nil)
 refine wl_run (v := (.slice (some ⟨b646, 0, none⟩) 1 1)) (w' := w647) z z (x_als (by kernel_rfl) ew648 eb649) ?_
 obtain ⟨hg651, hm⟩ := gd_some hm
 replace hst := hst.pull2
 obtain ⟨v652, w653, hr654, hst⟩ := run_append elem_41 underlying41 hst hst.src1 (room_of hg651 z) 41
 refine wl_run (v := v652) (w' := w653) z z (x_append z z hr654) ?_
 refine wv (v652) z z z (wl_nil (blk_n (tn (wrl (wv (.int .i64 (i64.wrap (z630 + (1:Int)))) z z z (wv (.int .i64 (i64.wrap (z630 + (1:Int)))) z z z (wl_nil (tn ?_))))))))
 replace hst := hst.pull2.pull1.keep2
 obtain rfl := some_inj hm
 exact ⟨_, Nat.lt_succ_self _, (z627 ++ ([z630])), (i64.wrap (z630 + (1:Int))), v652, _, hx637, (fu 0 p0 z (fu 1 (.int .i64 a1) z (fu 5 v652 z (fu 8 (.int .i64 t567) z (fu 9 (.int .i64 (i64.wrap (z630 + (1:Int)))) z z))))), hst⟩
}
 {
 replace hm := bif_f hc645 hm
 refine wp_iff (cvb hc645) ?_
 refine wp_skip (blk_n (tn (wrl ?_)))
 refine wv (.int .i64 (i64.wrap (z630 + (1:Int)))) z z z (wv (.int .i64 (i64.wrap (z630 + (1:Int)))) z z z (wl_nil (tn ?_)))
 replace hst := hst.pull1.keep2
 obtain rfl := some_inj hm
 exact ⟨_, Nat.lt_succ_self _, z627, (i64.wrap (z630 + (1:Int))), v628, _, hx637, (fu 0 p0 z (fu 1 (.int .i64 a1) z (fu 5 v628 z (fu 8 (.int .i64 t567) z (fu 9 (.int .i64 (i64.wrap (z630 + (1:Int)))) z z))))), hst⟩
}
}
 {
 replace hm := bif_f hc639 hm
 refine wp_iff (cvb hc639) ?_
 refine wp_exit (then_x (then_x ?_))
 replace hm := inr_up hm hx637
 refine blk_x (tn (wp_seq (wrl ?_)))
 refine wv (v628) z z z (wv (v628) z z z (wl_nil (tn (wp_ret ?_))))
 obtain rfl := some_inj hm
 refine post_ret (vs := [v628]) results24 (rvs_cons (rv_tmp z) rvs_nil) ?_
 replace hst := hst.pull1.pull1
 exact ⟨v628, z, hst.keep2⟩
}
}

end Go.Proofs.Ytddhkbholbcebaa
