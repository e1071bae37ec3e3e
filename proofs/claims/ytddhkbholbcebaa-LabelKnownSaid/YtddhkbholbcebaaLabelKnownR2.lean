/- The Go functions refine their models, part 2. -/
import Derived.Test.YtddhkbholbcebaaLabelKnownR1
set_option linter.unusedVariables false
set_option linter.unusedSimpArgs false
set_option maxRecDepth 100000
set_option maxHeartbeats 4000000
namespace Go.Proofs.Ytddhkbholbcebaa
open Go Go.V
open _root_.Go.Proofs.Try IntKind
attribute [local irreducible] wpList Code.wp wpQuiet Calls bodyPost Oper.wp wpS Nx PendOK YieldsIn
theorem label_Lattice_Len_ref {w0 w : World} {I : HL} {R : SP} {a0 : (Option label_Lattice)} {p0 : Value}  (hst : St w0 w I [objO at_label_Lattice p0 a0] R) {r : (Int)} (hm : label_Lattice_Len a0 = some r) :
  Calls prog 12 #[p0] w fun e w' => e = .returned (.int .i64 r) ∧ St w0 w' I [objO at_label_Lattice p0 a0] R := by {
 rcases a0 with _ | o0
 {
 obtain ⟨rfl, hst'⟩ := objO_none hst
 clear hst
 have hst := hst'
 clear hst'
 dsimp only [label_Lattice_Len] at hm
 refine calls_start (args := [.pointer none]) func12 z ntmps12 (Nat.le_of_ble_eq_true z) ?_
 refine wp_seq (wrl (wv (.int .i64 (0:Int)) z z z (wl_nil (tn (wp_seq (wp_seq (wrl (wv (.pointer none) z z z (wv (.bool true) z z (by kernel_rfl) (wl_nil (tn ?_)))))))))))
 refine wp_ift z ?_
 refine wp_seq (wrl (wv (.int .i64 (0:Int)) z z z (wl_nil (tn (wp_ret (then_r ?_))))))
 replace hst := hst.objO_nil at_label_Lattice
 obtain rfl := some_inj hm
 refine post_ret (vs := [Zi]) results12 (rvs_cons (rv_tmp z) rvs_nil) ?_
 exact ⟨z, hst.keep1⟩
}
 {
 replace hst := objO_get hst
 dsimp only [label_Lattice_Len] at hm
 refine calls_start (args := [p0]) func12 z ntmps12 (Nat.le_of_ble_eq_true z) ?_
 refine wp_seq (wrl (wv (.int .i64 (0:Int)) z z z (wl_nil (tn (wp_seq (wp_seq (wrl (wv (p0) z z z ?_))))))))
 obtain ⟨b50, v51, v53, v55, v57, v59, v61, rfl, hst'⟩ := at_label_Lattice_open hst
 clear hst
 have hst := hst'
 clear hst'
 refine wv (.bool false) z z (by kernel_rfl) (wl_nil (tn ?_))
 refine wp_iff z ?_
 refine wp_skip (tn (wp_seq (wrl ?_)))
 refine wv (Pt b50 0) z z z (wv (Pt b50 0) z z z (wv (Pt b50 0) z z (x_field z underlying49 z sizeOf28 z) (wv (v51) z z (x_load z isAgg28 (hst.bc0 z)) (wv (.int .i64 ((o0.up).length : Int)) z z (x_len z underlying28 hst.sv1) (wv (.int .i64 ((o0.up).length : Int)) z z z (wl_nil (tn (wp_ret ?_))))))))
 replace hst := hst.pull6.pull6.pull6.pull6.pull6.pull6.pull6
 replace hst := at_label_Lattice_close (pv := Pt b50 0) (x := o0) hst z
 replace hst := objO_some hst
 obtain rfl := some_inj hm
 refine post_ret (vs := [I6 ((o0.up).length : Int)]) results12 (rvs_cons (rv_tmp z) rvs_nil) ?_
 exact ⟨z, hst.keep1⟩
}
}

theorem label_Lattice_Is_ref {w0 w : World} {I : HL} {R : SP} {a0 : (Option label_Lattice)} {p0 : Value} {a1 : Int}  (hst : St w0 w I [objO at_label_Lattice p0 a0] R) {r : (Bool)} (hm : label_Lattice_Is a0 a1 = some r) :
  Calls prog 23 #[p0, I6 a1] w fun e w' => e = .returned (.bool r) ∧ St w0 w' I [objO at_label_Lattice p0 a0] R := by {
 unfold label_Lattice_Is at hm
 refine calls_start (args := [p0, I6 a1]) func23 z ntmps23 (Nat.le_of_ble_eq_true z) ?_
 refine wp_seq (wrl (wv (.bool false) z z z (wl_nil (tn (wp_seq (wrl (wv (.int .i64 a1) z z z (wv (.bool (decide (a1 ≥ (0:Int)))) z z z (wv (.bool (decide (a1 ≥ (0:Int)))) z z z ?_)))))))))
 refine bsplit (decide (a1 ≥ (0:Int))) (fun hc41 => ?_) (fun hc41 => ?_)
 {
 replace hm := bif_t hc41 hm
 refine wv (.int .i64 a1) ((wanted_eq z z z (cvb hc41)).trans z) z z (wv (p0) ((wanted_eq z z z (cvb hc41)).trans z) z z ?_)
 obtain ⟨t42, ht43, hm⟩ := bind_some hm
 refine wl_call ((wanted_eq z z z (cvb hc41)).trans z) z (x_call call12 z (vs := [p0]) z) ?_
 refine (label_Lattice_Len_ref hst.to1 ht43).mono ?_
 rintro _ w44 ⟨rfl, hst⟩
 refine ⟨_, z, ?_⟩
 replace hst := hst.of1
 refine wv (.bool (decide (a1 < t42))) ((wanted_eq z z z (cvb hc41)).trans z) z z (wv (.bool (decide (a1 < t42))) z z (x_pick_t hc41 z z) (wv (.bool (decide (a1 < t42))) z z z (wl_nil (tn (wp_ret ?_)))))
 obtain rfl := some_inj hm
 refine post_ret (vs := [.bool (decide (a1 < t42))]) results23 (rvs_cons (rv_tmp z) rvs_nil) ?_
 exact ⟨z, hst.keep1⟩
}
 {
 replace hm := bif_f hc41 hm
 refine wo hc41 z z z z z z (wo hc41 z z z z z z (wo hc41 z z z z z z (wo hc41 z z z z z z (wv (.bool false) z z (x_pick_f hc41 z z) (wv (.bool false) z z z (wl_nil (tn (wp_ret ?_))))))))
 obtain rfl := some_inj hm
 refine post_ret (vs := [.bool false]) results23 (rvs_cons (rv_tmp z) rvs_nil) ?_
 exact ⟨z, hst.keep1⟩
}
}

theorem label_Lattice_Join_ref {w0 w : World} {I : HL} {R : SP} {a0 : (Option label_Lattice)} {p0 : Value} {a1 : Int} {a2 : Int}  (hst : St w0 w I [objO at_label_Lattice p0 a0] R) {r : (Int)} (hm : label_Lattice_Join a0 a1 a2 = some r) :
  Calls prog 13 #[p0, I6 a1, I6 a2] w fun e w' => e = .returned (.int .i64 r) ∧ St w0 w' I [objO at_label_Lattice p0 a0] R := by {
 rcases a0 with _ | o0
 {
 obtain ⟨rfl, hst'⟩ := objO_none hst
 clear hst
 have hst := hst'
 clear hst'
 dsimp only [label_Lattice_Join] at hm
 refine calls_start (args := [.pointer none, I6 a1, I6 a2]) func13 z ntmps13 (Nat.le_of_ble_eq_true z) ?_
 refine wp_seq (wrl (wv (.int .i64 (0:Int)) z z z (wl_nil (tn (wp_seq (wp_seq (wrl (wv (.pointer none) z z z (wv (.int .i64 a1) z z z ?_)))))))))
 replace hst := hst.objO_nil at_label_Lattice
 obtain ⟨t90, ht91, hm⟩ := bind_some hm
 refine wc call23 [.pointer none, I6 a1] z z z ?_
 refine (label_Lattice_Is_ref hst.to1 ht91).mono ?_
 rintro _ w92 ⟨rfl, hst⟩
 refine ⟨_, z, ?_⟩
 replace hst := hst.of1
 refine wv (.bool (!t90)) z z z (wv (.bool (!t90)) z z z ?_)
 refine bsplit (!t90) (fun hc95 => ?_) (fun hc95 => ?_)
 {
 replace hm := bif_t hc95 hm
 refine wo hc95 z z z z z z (wo hc95 z z z z z z (wo hc95 z z z z z z (wo hc95 z z z z z z (wv (.bool true) z z (x_pick_t hc95 z z) (wl_nil (tn ?_))))))
 refine wp_ift z ?_
 refine wp_seq (wrl (wv (.int .i64 ((-1):Int)) z z z (wl_nil (tn (wp_ret (then_r ?_))))))
 replace hst := hst.objO_nil at_label_Lattice
 obtain rfl := some_inj hm
 refine post_ret (vs := [I6 ((-1):Int)]) results13 (rvs_cons (rv_tmp z) rvs_nil) ?_
 exact ⟨z, hst.keep1⟩
}
 {
 replace hm := bif_f hc95 hm
 refine wv (.pointer none) ((wanted_eq z z z (cvb hc95)).trans z) z z (wv (.int .i64 a2) ((wanted_eq z z z (cvb hc95)).trans z) z z ?_)
 replace hst := hst.objO_nil at_label_Lattice
 obtain ⟨t97, ht98, hm⟩ := bind_some hm
 refine wl_call ((wanted_eq z z z (cvb hc95)).trans z) z (x_call call23 z (vs := [.pointer none, I6 a2]) z) ?_
 refine (label_Lattice_Is_ref hst.to1 ht98).mono ?_
 rintro _ w99 ⟨rfl, hst⟩
 refine ⟨_, z, ?_⟩
 replace hst := hst.of1
 refine wv (.bool (!t97)) ((wanted_eq z z z (cvb hc95)).trans z) z z (wv (.bool (!t97)) z z (x_pick_f hc95 z z) (wl_nil (tn ?_)))
 refine bsplit (!t97) (fun hc102 => ?_) (fun hc102 => ?_)
 {
 replace hm := bif_t hc102 hm
 refine wp_ift (cvb hc102) ?_
 refine wp_seq (wrl (wv (.int .i64 ((-1):Int)) z z z (wl_nil (tn (wp_ret (then_r ?_))))))
 replace hst := hst.objO_nil at_label_Lattice
 obtain rfl := some_inj hm
 refine post_ret (vs := [I6 ((-1):Int)]) results13 (rvs_cons (rv_tmp z) rvs_nil) ?_
 exact ⟨z, hst.keep1⟩
}
 {
 replace hm := bif_f hc102 hm
 refine wp_iff (cvb hc102) ?_
 refine wp_skip (tn (wp_seq (wrl ?_)))
 refine wv (.pointer none) z z z ?_
 cases hm
}
}
}
 {
 replace hst := objO_get hst
 dsimp only [label_Lattice_Join] at hm
 refine calls_start (args := [p0, I6 a1, I6 a2]) func13 z ntmps13 (Nat.le_of_ble_eq_true z) ?_
 refine wp_seq (wrl (wv (.int .i64 (0:Int)) z z z (wl_nil (tn (wp_seq (wp_seq (wrl (wv (p0) z z z (wv (.int .i64 a1) z z z ?_)))))))))
 replace hst := objO_some hst
 obtain ⟨t103, ht104, hm⟩ := bind_some hm
 refine wc call23 [p0, I6 a1] z z z ?_
 refine (label_Lattice_Is_ref hst.to1 ht104).mono ?_
 rintro _ w105 ⟨rfl, hst⟩
 refine ⟨_, z, ?_⟩
 replace hst := hst.of1
 replace hst := objO_get hst
 refine wv (.bool (!t103)) z z z (wv (.bool (!t103)) z z z ?_)
 refine bsplit (!t103) (fun hc108 => ?_) (fun hc108 => ?_)
 {
 replace hm := bif_t hc108 hm
 refine wo hc108 z z z z z z (wo hc108 z z z z z z (wo hc108 z z z z z z (wo hc108 z z z z z z (wv (.bool true) z z (x_pick_t hc108 z z) (wl_nil (tn ?_))))))
 refine wp_ift z ?_
 refine wp_seq (wrl (wv (.int .i64 ((-1):Int)) z z z (wl_nil (tn (wp_ret (then_r ?_))))))
 replace hst := objO_some hst
 obtain rfl := some_inj hm
 refine post_ret (vs := [I6 ((-1):Int)]) results13 (rvs_cons (rv_tmp z) rvs_nil) ?_
 exact ⟨z, hst.keep1⟩
}
 {
 replace hm := bif_f hc108 hm
 refine wv (p0) ((wanted_eq z z z (cvb hc108)).trans z) z z (wv (.int .i64 a2) ((wanted_eq z z z (cvb hc108)).trans z) z z ?_)
 replace hst := objO_some hst
 obtain ⟨t109, ht110, hm⟩ := bind_some hm
 refine wl_call ((wanted_eq z z z (cvb hc108)).trans z) z (x_call call23 z (vs := [p0, I6 a2]) z) ?_
 refine (label_Lattice_Is_ref hst.to1 ht110).mono ?_
 rintro _ w111 ⟨rfl, hst⟩
 refine ⟨_, z, ?_⟩
 replace hst := hst.of1
 replace hst := objO_get hst
 refine wv (.bool (!t109)) ((wanted_eq z z z (cvb hc108)).trans z) z z (wv (.bool (!t109)) z z (x_pick_f hc108 z z) (wl_nil (tn ?_)))
 refine bsplit (!t109) (fun hc114 => ?_) (fun hc114 => ?_)
 {
 replace hm := bif_t hc114 hm
 refine wp_ift (cvb hc114) ?_
 refine wp_seq (wrl (wv (.int .i64 ((-1):Int)) z z z (wl_nil (tn (wp_ret (then_r ?_))))))
 replace hst := objO_some hst
 obtain rfl := some_inj hm
 refine post_ret (vs := [I6 ((-1):Int)]) results13 (rvs_cons (rv_tmp z) rvs_nil) ?_
 exact ⟨z, hst.keep1⟩
}
 {
 replace hm := bif_f hc114 hm
 refine wp_iff (cvb hc114) ?_
 refine wp_skip (tn (wp_seq (wrl ?_)))
 refine wv (p0) z z z ?_
 obtain ⟨b115, v116, v118, v120, v122, v124, v126, rfl, hst'⟩ := at_label_Lattice_open hst
 clear hst
 have hst := hst'
 clear hst'
 refine wv (Pt b115 0) z z z (wv (Pt b115 2) z z (x_field z underlying49 z sizeOf47 z) (wv (v120) z z (x_load z isAgg47 (hst.bc0 z)) (wv (.int .i64 a1) z z z ?_)))
 obtain ⟨x128, hx129, hm⟩ := bind_some hm
 obtain ⟨h130, h131, hi132⟩ := geto_some hx129
 refine wv (.pointer (some (eAddr v120 (a1.toNat * 1 + 0)))) z z (x_index z z underlying47 sizeOf41 hst.sv3 h130 h131) ?_
 obtain ⟨cs133, hr134, hc135⟩ := hst.og3 hi132
 obtain ⟨v136, rfl, f137, -⟩ := hr134
 refine wv (v136) z z (x_load z isAgg41 (hc135 0 _ z)) (wv (.int .i64 a2) z z z ?_)
 obtain ⟨x139, hx140, hm⟩ := bind_some hm
 obtain ⟨h141, h142, hi143⟩ := geto_some hx140
 refine wv (.pointer (some (eAddr v136 (a2.toNat * 1 + 0)))) z z (x_index z z underlying41 sizeOf3 (ro_sliceV f137) h141 h142) (wv (.int .i64 x139) z z (x_load z isAgg3 (ro_load f137 hst hi143 (by rintro _ rfl; rfl))) (wv (.int .i64 x139) z z z (wl_nil (tn (wp_ret ?_)))))
 replace hst := hst.pull6.pull6.pull6.pull6.pull6.pull6.pull6
 replace hst := at_label_Lattice_close (pv := Pt b115 0) (x := o0) hst z
 replace hst := objO_some hst
 obtain rfl := some_inj hm
 refine post_ret (vs := [I6 x139]) results13 (rvs_cons (rv_tmp z) rvs_nil) ?_
 exact ⟨z, hst.keep1⟩
}
}
}
}

theorem label_Lattice_Rank_ref {w0 w : World} {I : HL} {R : SP} {a0 : (Option label_Lattice)} {p0 : Value} {a1 : Int}  (hst : St w0 w I [objO at_label_Lattice p0 a0] R) {r : (Int)} (hm : label_Lattice_Rank a0 a1 = some r) :
  Calls prog 18 #[p0, I6 a1] w fun e w' => e = .returned (.int .i64 r) ∧ St w0 w' I [objO at_label_Lattice p0 a0] R := by {
 rcases a0 with _ | o0
 {
 obtain ⟨rfl, hst'⟩ := objO_none hst
 clear hst
 have hst := hst'
 clear hst'
 dsimp only [label_Lattice_Rank] at hm
 refine calls_start (args := [.pointer none, I6 a1]) func18 z ntmps18 (Nat.le_of_ble_eq_true z) ?_
 refine wp_seq (wrl (wv (.int .i64 (0:Int)) z z z (wl_nil (tn (wp_seq (wp_seq (wrl (wv (.pointer none) z z z (wv (.int .i64 a1) z z z ?_)))))))))
 replace hst := hst.objO_nil at_label_Lattice
 obtain ⟨t72, ht73, hm⟩ := bind_some hm
 refine wc call23 [.pointer none, I6 a1] z z z ?_
 refine (label_Lattice_Is_ref hst.to1 ht73).mono ?_
 rintro _ w74 ⟨rfl, hst⟩
 refine ⟨_, z, ?_⟩
 replace hst := hst.of1
 refine wv (.bool (!t72)) z z z (wl_nil (tn ?_))
 refine bsplit (!t72) (fun hc77 => ?_) (fun hc77 => ?_)
 {
 replace hm := bif_t hc77 hm
 refine wp_ift (cvb hc77) ?_
 refine wp_seq (wrl (wv (.int .i64 ((-1):Int)) z z z (wl_nil (tn (wp_ret (then_r ?_))))))
 replace hst := hst.objO_nil at_label_Lattice
 obtain rfl := some_inj hm
 refine post_ret (vs := [I6 ((-1):Int)]) results18 (rvs_cons (rv_tmp z) rvs_nil) ?_
 exact ⟨z, hst.keep1⟩
}
 {
 replace hm := bif_f hc77 hm
 refine wp_iff (cvb hc77) ?_
 refine wp_skip (tn (wp_seq (wrl ?_)))
 refine wv (.pointer none) z z z ?_
 cases hm
}
}
 {
 replace hst := objO_get hst
 dsimp only [label_Lattice_Rank] at hm
 refine calls_start (args := [p0, I6 a1]) func18 z ntmps18 (Nat.le_of_ble_eq_true z) ?_
 refine wp_seq (wrl (wv (.int .i64 (0:Int)) z z z (wl_nil (tn (wp_seq (wp_seq (wrl (wv (p0) z z z (wv (.int .i64 a1) z z z ?_)))))))))
 replace hst := objO_some hst
 obtain ⟨t78, ht79, hm⟩ := bind_some hm
 refine wc call23 [p0, I6 a1] z z z ?_
 refine (label_Lattice_Is_ref hst.to1 ht79).mono ?_
 rintro _ w80 ⟨rfl, hst⟩
 refine ⟨_, z, ?_⟩
 replace hst := hst.of1
 replace hst := objO_get hst
 refine wv (.bool (!t78)) z z z (wl_nil (tn ?_))
 refine bsplit (!t78) (fun hc83 => ?_) (fun hc83 => ?_)
 {
 replace hm := bif_t hc83 hm
 refine wp_ift (cvb hc83) ?_
 refine wp_seq (wrl (wv (.int .i64 ((-1):Int)) z z z (wl_nil (tn (wp_ret (then_r ?_))))))
 replace hst := objO_some hst
 obtain rfl := some_inj hm
 refine post_ret (vs := [I6 ((-1):Int)]) results18 (rvs_cons (rv_tmp z) rvs_nil) ?_
 exact ⟨z, hst.keep1⟩
}
 {
 replace hm := bif_f hc83 hm
 refine wp_iff (cvb hc83) ?_
 refine wp_skip (tn (wp_seq (wrl ?_)))
 refine wv (p0) z z z ?_
 obtain ⟨b84, v85, v87, v89, v91, v93, v95, rfl, hst'⟩ := at_label_Lattice_open hst
 clear hst
 have hst := hst'
 clear hst'
 refine wv (Pt b84 0) z z z (wv (Pt b84 4) z z (x_field z underlying49 z sizeOf41 z) (wv (v93) z z (x_load z isAgg41 (hst.bc0 z)) (wv (.int .i64 a1) z z z ?_)))
 obtain ⟨x97, hx98, hm⟩ := bind_some hm
 obtain ⟨h99, h100, hi101⟩ := geto_some hx98
 refine wv (.pointer (some (eAddr v93 (a1.toNat * 1 + 0)))) z z (x_index z z underlying41 sizeOf3 hst.sv5 h99 h100) (wv (.int .i64 x97) z z (x_load z isAgg3 (hst.ol5 hi101 (by rintro _ rfl; rfl))) (wv (.int .i64 x97) z z z (wl_nil (tn (wp_ret ?_)))))
 replace hst := hst.pull6.pull6.pull6.pull6.pull6.pull6.pull6
 replace hst := at_label_Lattice_close (pv := Pt b84 0) (x := o0) hst z
 replace hst := objO_some hst
 obtain rfl := some_inj hm
 refine post_ret (vs := [I6 x97]) results18 (rvs_cons (rv_tmp z) rvs_nil) ?_
 exact ⟨z, hst.keep1⟩
}
}
}

theorem law03_awake_ref {w0 w : World} {I : HL} {R : SP}   (hst : St w0 w I [] R) {r : (Bool)} (hm : law03_awake = some r) :
  Calls prog 9 #[] w fun e w' => ∃ (I' : HL), e = .returned (.bool r) ∧ I.le I' ∧ St w0 w' I' [] R := by {
 unfold law03_awake at hm
 refine calls_start (args := []) func9 z ntmps9 (Nat.le_of_ble_eq_true z) ?_
 have hI0 := HL.le.refl I
 refine wp_seq (wrl (wv (.bool false) z z z (wl_nil (tn (wp_seq (wrl ?_))))))
 obtain ⟨b49, w50, ew51, eb52, hst⟩ := hst.lits (E := (tyInt .u64)) (xs := [(3:Int), (2:Int)]) [[U6 (3:Int)], [U6 (2:Int)]] 43 2 z (Reps.cons z (Reps.cons z Reps.nil))
 refine wl_run (v := (.slice (some ⟨b49, 0, none⟩) 2 2)) (w' := w50) z z (x_als (by kernel_rfl) ew51 eb52) ?_
 obtain ⟨css54, hq55, hst⟩ := hst.own_open
 obtain ⟨t56, ht57, hm⟩ := bind_some hm
 refine wc call10 [(.slice (some ⟨b49, 0, none⟩) 2 2)] z z z ?_
 refine (label_New_ref (hst.rdrow0 hq55) hst.to0 ht57).mono ?_
 rintro _ w58 ⟨I59, v61, rfl, hI60, hst⟩
 refine ⟨_, z, ?_⟩
 replace hst := hst.of1
 replace hI0 := hI0.trans hI60
 replace hst := hst.pull1.own_close (hq55.imp fun _ _ => Ty.mono _ (ro_le hI60))
 refine wv (.tuple #[v61, I6 t56.2]) z z z (wv (v61) z z z (wv (.int .i64 t56.2) z z z (wv (v61) z z z (wv (.int .i64 t56.2) z z z (wl_nil (tn (wp_seq (wrl (wv (.int .i64 t56.2) z z z (wv (.bool (t56.2 == (0:Int))) z z z (wv (.bool (t56.2 == (0:Int))) z z z ?_)))))))))))
 refine bsplit (t56.2 == (0:Int)) (fun hc63 => ?_) (fun hc63 => ?_)
 {
 replace hm := bif_t hc63 hm
 refine wv (v61) ((wanted_eq z z z (cvb hc63)).trans z) z z ?_
 replace hst := hst.pull1
 obtain ⟨t64, ht65, hm⟩ := bind_some hm
 refine wl_call ((wanted_eq z z z (cvb hc63)).trans z) z (x_call call13 z (vs := [v61, Zi, I6 (1:Int)]) z) ?_
 refine (label_Lattice_Join_ref hst.to1 ht65).mono ?_
 rintro _ w66 ⟨rfl, hst⟩
 refine ⟨_, z, ?_⟩
 replace hst := hst.of1
 refine wv (.bool (t64 == (1:Int))) ((wanted_eq z z z (cvb hc63)).trans z) z z (wv (.bool (t64 == (1:Int))) z z (x_pick_t hc63 z z) (wv (.bool (t64 == (1:Int))) z z z ?_))
 refine bsplit (t64 == (1:Int)) (fun hc69 => ?_) (fun hc69 => ?_)
 {
 replace hm := bif_t hc69 hm
 refine wv (v61) ((wanted_eq z z z (cvb hc69)).trans z) z z ?_
 obtain ⟨t70, ht71, hm⟩ := bind_some hm
 refine wl_call ((wanted_eq z z z (cvb hc69)).trans z) z (x_call call18 z (vs := [v61, I6 (1:Int)]) z) ?_
 refine (label_Lattice_Rank_ref hst.to1 ht71).mono ?_
 rintro _ w72 ⟨rfl, hst⟩
 refine ⟨_, z, ?_⟩
 replace hst := hst.of1
 refine wv (.bool (t70 == (1:Int))) ((wanted_eq z z z (cvb hc69)).trans z) z z (wv (.bool (t70 == (1:Int))) z z (x_pick_t hc69 z z) (wv (.bool (t70 == (1:Int))) z z z ?_))
 refine bsplit (t70 == (1:Int)) (fun hc75 => ?_) (fun hc75 => ?_)
 {
 replace hm := bif_t hc75 hm
 refine wv (v61) ((wanted_eq z z z (cvb hc75)).trans z) z z ?_
 obtain ⟨t76, ht77, hm⟩ := bind_some hm
 refine wl_call ((wanted_eq z z z (cvb hc75)).trans z) z (x_call call18 z (vs := [v61, Zi]) z) ?_
 refine (label_Lattice_Rank_ref hst.to1 ht77).mono ?_
 rintro _ w78 ⟨rfl, hst⟩
 refine ⟨_, z, ?_⟩
 replace hst := hst.of1
 refine wv (.bool (t76 == (0:Int))) ((wanted_eq z z z (cvb hc75)).trans z) z z (wv (.bool (t76 == (0:Int))) z z (x_pick_t hc75 z z) (wv (.bool (t76 == (0:Int))) z z z (wl_nil (tn (wp_ret ?_)))))
 obtain rfl := some_inj hm
 refine post_ret (vs := [.bool (t76 == (0:Int))]) results9 (rvs_cons (rv_tmp z) rvs_nil) ?_
 exact ⟨_, z, hI0, hst.keep0⟩
}
 {
 replace hm := bif_f hc75 hm
 refine wo hc75 z z z z z z (wo hc75 z z z z z z (wo hc75 z z z z z z (wv (.bool false) z z (x_pick_f hc75 z z) (wv (.bool false) z z z (wl_nil (tn (wp_ret ?_)))))))
 obtain rfl := some_inj hm
 refine post_ret (vs := [.bool false]) results9 (rvs_cons (rv_tmp z) rvs_nil) ?_
 exact ⟨_, z, hI0, hst.keep0⟩
}
}
 {
 replace hm := bif_f hc69 hm
 refine wo hc69 z z z z z z (wo hc69 z z z z z z (wo hc69 z z z z z z (wv (.bool false) z z (x_pick_f hc69 z z) (wv (.bool false) z z z (wz z z z z z z (wz z z z z z z (wz z z z z z z (wv (.bool false) z z (x_pick_f z z z) (wv (.bool false) z z z (wl_nil (tn (wp_ret ?_))))))))))))
 obtain rfl := some_inj hm
 refine post_ret (vs := [.bool false]) results9 (rvs_cons (rv_tmp z) rvs_nil) ?_
 exact ⟨_, z, hI0, hst.keep0⟩
}
}
 {
 replace hm := bif_f hc63 hm
 refine wo hc63 z z z z z z (wo hc63 z z z z z z (wo hc63 z z z z z z (wv (.bool false) z z (x_pick_f hc63 z z) (wv (.bool false) z z z (wz z z z z z z (wz z z z z z z (wz z z z z z z (wv (.bool false) z z (x_pick_f z z z) (wv (.bool false) z z z (wz z z z z z z (wz z z z z z z (wz z z z z z z ?_))))))))))))
 refine wv (.bool false) z z (x_pick_f z z z) (wv (.bool false) z z z (wl_nil (tn (wp_ret ?_))))
 obtain rfl := some_inj hm
 refine post_ret (vs := [.bool false]) results9 (rvs_cons (rv_tmp z) rvs_nil) ?_
 exact ⟨_, z, hI0, hst.keep0⟩
}
}

theorem ref03_Leq_ref {w0 w : World} {I : HL} {R : SP} {a0 : (List Int)} {r0_0 : Value} {a1 : Int} {a2 : Int} (f0_0 : Rd (tyInt .u64) R I r0_0 a0) (hst : St w0 w I [] R) {r : (Bool)} (hm : ref03_Leq a0 a1 a2 = some r) :
  Calls prog 32 #[r0_0, I6 a1, I6 a2] w fun e w' => e = .returned (.bool r) ∧ St w0 w' I [] R := by {
 unfold ref03_Leq at hm
 refine calls_start (args := [r0_0, I6 a1, I6 a2]) func32 z ntmps32 (Nat.le_of_ble_eq_true z) ?_
 refine wp_seq (wrl (wv (.bool false) z z z (wl_nil (tn (wp_seq (wrl (wv (.int .i64 a1) z z z (wv (.bool (decide (a1 ≥ (0:Int)))) z z z (wv (.bool (decide (a1 ≥ (0:Int)))) z z z ?_)))))))))
 refine bsplit (decide (a1 ≥ (0:Int))) (fun hc49 => ?_) (fun hc49 => ?_)
 {
 replace hm := bif_t hc49 hm
 refine wv (.int .i64 a2) ((wanted_eq z z z (cvb hc49)).trans z) z z (wv (.bool (decide (a2 ≥ (0:Int)))) ((wanted_eq z z z (cvb hc49)).trans z) z z (wv (.bool (decide (a2 ≥ (0:Int)))) z z (x_pick_t hc49 z z) (wv (.bool (decide (a2 ≥ (0:Int)))) z z z ?_)))
 refine bsplit (decide (a2 ≥ (0:Int))) (fun hc50 => ?_) (fun hc50 => ?_)
 {
 replace hm := bif_t hc50 hm
 refine wv (.int .i64 a1) ((wanted_eq z z z (cvb hc50)).trans z) z z (wv (r0_0) ((wanted_eq z z z (cvb hc50)).trans z) z z (wv (.int .i64 ((a0).length : Int)) ((wanted_eq z z z (cvb hc50)).trans z) z (x_len z underlying28 (rd_sliceV f0_0)) (wv (.bool (decide (a1 < ((a0).length : Int)))) ((wanted_eq z z z (cvb hc50)).trans z) z z (wv (.bool (decide (a1 < ((a0).length : Int)))) z z (x_pick_t hc50 z z) (wv (.bool (decide (a1 < ((a0).length : Int)))) z z z ?_)))))
 refine bsplit (decide (a1 < ((a0).length : Int))) (fun hc51 => ?_) (fun hc51 => ?_)
 {
 replace hm := bif_t hc51 hm
 refine wv (.int .i64 a2) ((wanted_eq z z z (cvb hc51)).trans z) z z (wv (r0_0) ((wanted_eq z z z (cvb hc51)).trans z) z z (wv (.int .i64 ((a0).length : Int)) ((wanted_eq z z z (cvb hc51)).trans z) z (x_len z underlying28 (rd_sliceV f0_0)) (wv (.bool (decide (a2 < ((a0).length : Int)))) ((wanted_eq z z z (cvb hc51)).trans z) z z (wv (.bool (decide (a2 < ((a0).length : Int)))) z z (x_pick_t hc51 z z) (wv (.bool (decide (a2 < ((a0).length : Int)))) z z z ?_)))))
 refine bsplit (decide (a2 < ((a0).length : Int))) (fun hc52 => ?_) (fun hc52 => ?_)
 {
 replace hm := bif_t hc52 hm
 refine wv (r0_0) ((wanted_eq z z z (cvb hc52)).trans z) z z (wv (.int .i64 a1) ((wanted_eq z z z (cvb hc52)).trans z) z z ?_)
 obtain ⟨x53, hx54, hm⟩ := bind_some hm
 obtain ⟨h55, h56, hi57⟩ := geto_some hx54
 refine wv (.pointer (some (eAddr r0_0 (a1.toNat * 1 + 0)))) ((wanted_eq z z z (cvb hc52)).trans z) z (x_index z z underlying28 sizeOf43 (rd_sliceV f0_0) h55 h56) (wv (.int .u64 x53) ((wanted_eq z z z (cvb hc52)).trans z) z (x_load z isAgg43 (rd_load f0_0 (HL.le.refl _) hst hi57 (by rintro _ rfl; rfl))) (wv (.int .i64 a2) ((wanted_eq z z z (cvb hc52)).trans z) z z ?_))
 obtain ⟨hg58, hm⟩ := gd_some hm
 refine wv (.int .u64 (iShr .u64 x53 a2)) ((wanted_eq z z z (cvb hc52)).trans z) z (x_shr (of_decide_eq_true hg58) z z) (wv (.int .u64 (bAnd .u64 (iShr .u64 x53 a2) (1:Int))) ((wanted_eq z z z (cvb hc52)).trans z) z z (wv (.bool ((bAnd .u64 (iShr .u64 x53 a2) (1:Int)) == (1:Int))) ((wanted_eq z z z (cvb hc52)).trans z) z z (wv (.bool ((bAnd .u64 (iShr .u64 x53 a2) (1:Int)) == (1:Int))) z z (x_pick_t hc52 z z) (wv (.bool ((bAnd .u64 (iShr .u64 x53 a2) (1:Int)) == (1:Int))) z z z (wl_nil (tn (wp_ret ?_)))))))
 obtain rfl := some_inj hm
 refine post_ret (vs := [.bool ((bAnd .u64 (iShr .u64 x53 a2) (1:Int)) == (1:Int))]) results32 (rvs_cons (rv_tmp z) rvs_nil) ?_
 exact ⟨z, hst.keep0⟩
}
 {
 replace hm := bif_f hc52 hm
 refine wo hc52 z z z z z z (wo hc52 z z z z z z (wo hc52 z z z z z z (wo hc52 z z z z z z (wo hc52 z z z z z z (wo hc52 z z z z z z (wo hc52 z z z z z z (wo hc52 z z z z z z (wv (.bool false) z z (x_pick_f hc52 z z) (wv (.bool false) z z z (wl_nil (tn (wp_ret ?_))))))))))))
 obtain rfl := some_inj hm
 refine post_ret (vs := [.bool false]) results32 (rvs_cons (rv_tmp z) rvs_nil) ?_
 exact ⟨z, hst.keep0⟩
}
}
 {
 replace hm := bif_f hc51 hm
 refine wo hc51 z z z z z z (wo hc51 z z z z z z (wo hc51 z z z z z z (wo hc51 z z z z z z (wv (.bool false) z z (x_pick_f hc51 z z) (wv (.bool false) z z z (wz z z z z z z (wz z z z z z z (wz z z z z z z (wz z z z z z z (wz z z z z z z (wz z z z z z z (wz z z z z z z ?_))))))))))))
 refine wz z z z z z z (wv (.bool false) z z (x_pick_f z z z) (wv (.bool false) z z z (wl_nil (tn (wp_ret ?_)))))
 obtain rfl := some_inj hm
 refine post_ret (vs := [.bool false]) results32 (rvs_cons (rv_tmp z) rvs_nil) ?_
 exact ⟨z, hst.keep0⟩
}
}
 {
 replace hm := bif_f hc50 hm
 refine wo hc50 z z z z z z (wo hc50 z z z z z z (wo hc50 z z z z z z (wo hc50 z z z z z z (wv (.bool false) z z (x_pick_f hc50 z z) (wv (.bool false) z z z (wz z z z z z z (wz z z z z z z (wz z z z z z z (wz z z z z z z (wv (.bool false) z z (x_pick_f z z z) (wv (.bool false) z z z (wz z z z z z z ?_))))))))))))
 refine wz z z z z z z (wz z z z z z z (wz z z z z z z (wz z z z z z z (wz z z z z z z (wz z z z z z z (wz z z z z z z (wv (.bool false) z z (x_pick_f z z z) (wv (.bool false) z z z (wl_nil (tn (wp_ret ?_)))))))))))
 obtain rfl := some_inj hm
 refine post_ret (vs := [.bool false]) results32 (rvs_cons (rv_tmp z) rvs_nil) ?_
 exact ⟨z, hst.keep0⟩
}
}
 {
 replace hm := bif_f hc49 hm
 refine wo hc49 z z z z z z (wo hc49 z z z z z z (wv (.bool false) z z (x_pick_f hc49 z z) (wv (.bool false) z z z (wz z z z z z z (wz z z z z z z (wz z z z z z z (wz z z z z z z (wv (.bool false) z z (x_pick_f z z z) (wv (.bool false) z z z (wz z z z z z z (wz z z z z z z (wz z z z z z z ?_))))))))))))
 refine wz z z z z z z (wv (.bool false) z z (x_pick_f z z z) (wv (.bool false) z z z (wz z z z z z z (wz z z z z z z (wz z z z z z z (wz z z z z z z (wz z z z z z z (wz z z z z z z (wz z z z z z z (wz z z z z z z (wv (.bool false) z z (x_pick_f z z z) (wv (.bool false) z z z ?_))))))))))))
 refine wl_nil (tn (wp_ret ?_))
 obtain rfl := some_inj hm
 refine post_ret (vs := [.bool false]) results32 (rvs_cons (rv_tmp z) rvs_nil) ?_
 exact ⟨z, hst.keep0⟩
}
}

theorem ref03_Order_ref {w0 w : World} {I : HL} {R : SP} {a0 : (List Int)} {r0_0 : Value} (f0_0 : Rd (tyInt .u64) R I r0_0 a0) (hst : St w0 w I [] R) {r : ((List Int))} (hm : ref03_Order a0 = some r) :
  Calls prog 35 #[r0_0] w fun e w' => ∃ (q0_0 : Value), e = .returned (q0_0) ∧ St w0 w' I [ownS (tyInt .i64) q0_0 r] R := by {
 unfold ref03_Order at hm
 refine calls_start (args := [r0_0]) func35 z ntmps35 (Nat.le_of_ble_eq_true z) ?_
 refine wp_seq (wrl (wv ((.slice none 0 0)) z z z (wl_nil (tn (wp_seq (wrl (wv ((.slice none 0 0)) z z z (wl_nil (tn (wp_seq (wp_seq (wrl (wv (.int .i64 (0:Int)) z z z (wl_nil (tn (wp_block ?_))))))))))))))))
 replace hst := hst.own_nil (tyInt .i64)
 obtain ⟨n1346, hm⟩ := loopO_some hm
 refine wp_loop_n (fun n a w => ∃ (z1341 : (List Int)) (z1344 : Int) (v1342 : Value) (σ1345 : Nat → Value), loopN (ref03_Order_l0 a0) n (z1341, z1344) = some r ∧ a = Fr 40 (upd (upd (upd σ1345 0 (r0_0)) 3 (v1342)) 4 (.int .i64 z1344)) ∧ St w0 w I [ownS (tyInt .i64) v1342 z1341] R) n1346 ⟨[], (0:Int), Zs, _, hm, (fu 0 r0_0 z (fu 3 (.slice none 0 0) z (fu 4 (.int .i64 (0:Int)) z z))), hst⟩ ?_
 rintro n1352 _ w1347 ⟨z1341, z1344, v1342, σ1345, hm, rfl, hst⟩
 obtain ⟨n1349, y1350, rfl, hm, hx1351⟩ := loopN_some hm
 dsimp only [ref03_Order_l0] at hm
 refine wp_seq (wp_seq (wrl (wv (.int .i64 z1344) z z z (wv (r0_0) z z z (wv (.int .i64 ((a0).length : Int)) z z (x_len z underlying28 (rd_sliceV f0_0)) (wv (.bool (decide (z1344 ≤ ((a0).length : Int)))) z z z (wl_nil (tn ?_))))))))
 refine bsplit (decide (z1344 ≤ ((a0).length : Int))) (fun hc1353 => ?_) (fun hc1353 => ?_)
 {
 replace hm := bif_t hc1353 hm
 refine wp_ift (cvb hc1353) ?_
 refine wp_skip (tn (wp_seq (wp_block (wp_seq (wrl ?_)))))
 refine wv (.int .i64 (0:Int)) z z z (wl_nil (tn (wp_block ?_)))
 obtain ⟨n1464, hm⟩ := loopO_some hm
 refine wp_loop_n (fun n a w => ∃ (z1459 : (List Int)) (z1462 : Int) (v1460 : Value) (σ1463 : Nat → Value), loopN (ref03_Order_l1 a0 z1344) n (z1459, z1462) = some y1350 ∧ a = Fr 40 (upd (upd (upd (upd σ1463 0 (r0_0)) 3 (v1460)) 4 (.int .i64 z1344)) 5 (.int .i64 z1462)) ∧ St w0 w I [ownS (tyInt .i64) v1460 z1459] R) n1464 ⟨z1341, (0:Int), v1342, _, hm, (fu 0 r0_0 z (fu 3 v1342 z (fu 4 (.int .i64 z1344) z (fu 5 (.int .i64 (0:Int)) z z)))), hst⟩ ?_
 rintro n1470 _ w1465 ⟨z1459, z1462, v1460, σ1463, hm, rfl, hst⟩
 obtain ⟨n1467, y1468, rfl, hm, hx1469⟩ := loopN_some hm
 dsimp only [ref03_Order_l1] at hm
 refine wp_seq (wp_seq (wrl (wv (.int .i64 z1462) z z z (wv (r0_0) z z z (wv (.int .i64 ((a0).length : Int)) z z (x_len z underlying28 (rd_sliceV f0_0)) (wv (.bool (decide (z1462 < ((a0).length : Int)))) z z z (wl_nil (tn ?_))))))))
 refine bsplit (decide (z1462 < ((a0).length : Int))) (fun hc1471 => ?_) (fun hc1471 => ?_)
 {
 replace hm := bif_t hc1471 hm
 refine wp_ift (cvb hc1471) ?_
 refine wp_skip (tn (wp_seq (wp_block (wp_seq (wrl ?_)))))
 refine wv (.int .i64 (0:Int)) z z z (wl_nil (tn ?_))
 obtain ⟨y1508, hm, hx1509⟩ := bind_some hm
 refine wp_cut (fun a w => ∃ (z1505 : Int) (σ1506 : Nat → Value), (ref03_Order_j2 z1344 z1459 z1462) z1505 = some y1468 ∧ a = Fr 40 (upd (upd (upd (upd (upd σ1506 0 (r0_0)) 3 (v1460)) 4 (.int .i64 z1344)) 5 (.int .i64 z1462)) 6 (.int .i64 z1505)) ∧ St w0 w I [ownS (tyInt .i64) v1460 z1459] R) ?_ ?_
 {
 refine wp_seq (wrl (wv (.int .i64 (0:Int)) z z z (wl_nil (tn (wp_block ?_)))))
 obtain ⟨n1491, hm⟩ := loopO_some hm
 refine wp_loop_n (fun n a w => ∃ (z1488 : Int) (z1489 : Int) (σ1490 : Nat → Value), loopN (ref03_Order_l3 a0 z1462) n (z1488, z1489) = some y1508 ∧ a = Fr 40 (upd (upd (upd (upd (upd (upd σ1490 0 (r0_0)) 3 (v1460)) 4 (.int .i64 z1344)) 5 (.int .i64 z1462)) 6 (.int .i64 z1488)) 7 (.int .i64 z1489)) ∧ St w0 w I [ownS (tyInt .i64) v1460 z1459] R) n1491 ⟨(0:Int), (0:Int), _, hm, (fu 0 r0_0 z (fu 3 v1460 z (fu 4 (.int .i64 z1344) z (fu 5 (.int .i64 z1462) z (fu 6 (.int .i64 (0:Int)) z (fu 7 (.int .i64 (0:Int)) z z)))))), hst⟩ ?_
 rintro n1497 _ w1492 ⟨z1488, z1489, σ1490, hm, rfl, hst⟩
 obtain ⟨n1494, y1495, rfl, hm, hx1496⟩ := loopN_some hm
 dsimp only [ref03_Order_l3] at hm
 refine wp_seq (wp_seq (wrl (wv (.int .i64 z1489) z z z (wv (r0_0) z z z (wv (.int .i64 ((a0).length : Int)) z z (x_len z underlying28 (rd_sliceV f0_0)) (wv (.bool (decide (z1489 < ((a0).length : Int)))) z z z (wl_nil (tn ?_))))))))
 refine bsplit (decide (z1489 < ((a0).length : Int))) (fun hc1498 => ?_) (fun hc1498 => ?_)
 {
 replace hm := bif_t hc1498 hm
 refine wp_ift (cvb hc1498) ?_
 refine wp_skip (tn (wp_seq (wp_block (wp_seq (wrl ?_)))))
 refine wv (r0_0) z z z (wv (.int .i64 z1489) z z z (wv (.int .i64 z1462) z z z ?_))
 obtain ⟨t1499, ht1500, hm⟩ := bind_some hm
 refine wc call32 [r0_0, I6 z1489, I6 z1462] z z z ?_
 refine (ref03_Leq_ref (f0_0.mono (rd_weak _)) hst.to0 ht1500).mono ?_
 rintro _ w1501 ⟨rfl, hst⟩
 refine ⟨_, z, ?_⟩
 replace hst := hst.of0
 refine wl_nil (tn ?_)
 refine bsplit t1499 (fun hc1504 => ?_) (fun hc1504 => ?_)
 {
 replace hm := bif_t hc1504 hm
 refine wp_ift (cvb hc1504) ?_
 refine wrl (wv (.int .i64 z1488) z z z (wv (.int .i64 (i64.wrap (z1488 + (1:Int)))) z z z (wv (.int .i64 (i64.wrap (z1488 + (1:Int)))) z z z (wl_nil (blk_n (tn (wrl (wv (.int .i64 z1489) z z z (wv (.int .i64 (i64.wrap (z1489 + (1:Int)))) z z z (wv (.int .i64 (i64.wrap (z1489 + (1:Int)))) z z z (wl_nil (tn ?_))))))))))))
 replace hst := hst.keep1
 obtain rfl := some_inj hm
 exact ⟨_, Nat.lt_succ_self _, (i64.wrap (z1488 + (1:Int))), (i64.wrap (z1489 + (1:Int))), _, hx1496, (fu 0 r0_0 z (fu 3 v1460 z (fu 4 (.int .i64 z1344) z (fu 5 (.int .i64 z1462) z (fu 6 (.int .i64 (i64.wrap (z1488 + (1:Int)))) z (fu 7 (.int .i64 (i64.wrap (z1489 + (1:Int)))) z z)))))), hst⟩
}
 {
 replace hm := bif_f hc1504 hm
 refine wp_iff (cvb hc1504) ?_
 refine wp_skip (blk_n (tn (wrl ?_)))
 refine wv (.int .i64 z1489) z z z (wv (.int .i64 (i64.wrap (z1489 + (1:Int)))) z z z (wv (.int .i64 (i64.wrap (z1489 + (1:Int)))) z z z (wl_nil (tn ?_))))
 replace hst := hst.keep1
 obtain rfl := some_inj hm
 exact ⟨_, Nat.lt_succ_self _, z1488, (i64.wrap (z1489 + (1:Int))), _, hx1496, (fu 0 r0_0 z (fu 3 v1460 z (fu 4 (.int .i64 z1344) z (fu 5 (.int .i64 z1462) z (fu 6 (.int .i64 z1488) z (fu 7 (.int .i64 (i64.wrap (z1489 + (1:Int)))) z z)))))), hst⟩
}
}
 {
 replace hm := bif_f hc1498 hm
 refine wp_iff (cvb hc1498) ?_
 refine wp_exit (then_x (then_x ?_))
 replace hm := inr_up hm hx1496
 refine blk_x (tn ?_)
 replace hst := hst.keep1
 obtain rfl := some_inj hm
 exact ⟨z1488, _, hx1509, (fu 0 r0_0 z (fu 3 v1460 z (fu 4 (.int .i64 z1344) z (fu 5 (.int .i64 z1462) z (fu 6 (.int .i64 z1488) z z))))), hst⟩
}
}
 {
 clear hst
 rintro _ w1510 ⟨z1505, σ1506, hm, rfl, hst⟩
 dsimp only [ref03_Order_j2] at hm
 refine wp_seq (wrl (wv (.int .i64 z1505) z z z (wv (.int .i64 z1344) z z z (wv (.bool (z1505 == z1344)) z z z (wl_nil (tn ?_))))))
 refine bsplit (z1505 == z1344) (fun hc1511 => ?_) (fun hc1511 => ?_)
 {
 replace hm := bif_t hc1511 hm
 refine wp_ift (cvb hc1511) ?_
 refine wrl (wv (v1460) z z z (wv (.int .i64 z1462) z z z ?_))
 obtain ⟨b1512, w1513, ew1514, eb1515, hst⟩ := hst.lits (E := (tyInt .i64)) (xs := [z1462]) [[I6 z1462]] 3 1 z (Reps.cons z Reps.nil)
 refine wl_run (v := (.slice (some ⟨b1512, 0, none⟩) 1 1)) (w' := w1513) z z (x_als (by kernel_rfl) ew1514 eb1515) ?_
 obtain ⟨hg1517, hm⟩ := gd_some hm
 replace hst := hst.pull1
 obtain ⟨v1518, w1519, hr1520, hst⟩ := run_append elem_41 underlying41 hst hst.src1 (room_of hg1517 z) 41
 refine wl_run (v := v1518) (w' := w1519) z z (x_append z z hr1520) ?_
 refine wv (v1518) z z z (wl_nil (blk_n (tn (wrl (wv (.int .i64 z1462) z z z (wv (.int .i64 (i64.wrap (z1462 + (1:Int)))) z z z (wv (.int .i64 (i64.wrap (z1462 + (1:Int)))) z z z (wl_nil (tn ?_)))))))))
 replace hst := hst.keep1
 obtain rfl := some_inj hm
 exact ⟨_, Nat.lt_succ_self _, (z1459 ++ ([z1462])), (i64.wrap (z1462 + (1:Int))), v1518, _, hx1469, (fu 0 r0_0 z (fu 3 v1518 z (fu 4 (.int .i64 z1344) z (fu 5 (.int .i64 (i64.wrap (z1462 + (1:Int)))) z z)))), hst⟩
}
 {
 replace hm := bif_f hc1511 hm
 refine wp_iff (cvb hc1511) ?_
 refine wp_skip (blk_n (tn (wrl ?_)))
 refine wv (.int .i64 z1462) z z z (wv (.int .i64 (i64.wrap (z1462 + (1:Int)))) z z z (wv (.int .i64 (i64.wrap (z1462 + (1:Int)))) z z z (wl_nil (tn ?_))))
 replace hst := hst.keep1
 obtain rfl := some_inj hm
 exact ⟨_, Nat.lt_succ_self _, z1459, (i64.wrap (z1462 + (1:Int))), v1460, _, hx1469, (fu 0 r0_0 z (fu 3 v1460 z (fu 4 (.int .i64 z1344) z (fu 5 (.int .i64 (i64.wrap (z1462 + (1:Int)))) z z)))), hst⟩
}
}
}
 {
 replace hm := bif_f hc1471 hm
 refine wp_iff (cvb hc1471) ?_
 refine wp_exit (then_x (then_x ?_))
 replace hm := inr_up hm hx1469
 refine blk_x (blk_n (tn (wrl ?_)))
 refine wv (.int .i64 z1344) z z z (wv (.int .i64 (i64.wrap (z1344 + (1:Int)))) z z z (wv (.int .i64 (i64.wrap (z1344 + (1:Int)))) z z z (wl_nil (tn ?_))))
 replace hst := hst.keep1
 obtain rfl := some_inj hm
 exact ⟨_, Nat.lt_succ_self _, z1459, (i64.wrap (z1344 + (1:Int))), v1460, _, hx1351, (fu 0 r0_0 z (fu 3 v1460 z (fu 4 (.int .i64 (i64.wrap (z1344 + (1:Int)))) z z))), hst⟩
}
}
 {
 replace hm := bif_f hc1353 hm
 refine wp_iff (cvb hc1353) ?_
 refine wp_exit (then_x (then_x ?_))
 replace hm := inr_up hm hx1351
 refine blk_x (tn (wp_seq (wrl ?_)))
 refine wv (v1342) z z z (wv (v1342) z z z (wl_nil (tn (wp_ret ?_))))
 obtain rfl := some_inj hm
 refine post_ret (vs := [v1342]) results35 (rvs_cons (rv_tmp z) rvs_nil) ?_
 exact ⟨v1342, z, hst.keep1⟩
}
}

theorem slices_Clone_int_int_ref {w0 w : World} {I : HL} {R : SP} {a0 : (List Int)} {r0_0 : Value} (f0_0 : Rd (tyInt .i64) R I r0_0 a0) (hst : St w0 w I [] R) {r : (List Int)} (hm : slices_Clone_int_int a0 = some r) :
  Calls prog 36 #[r0_0] w fun e w' => ∃ (q0_0 : Value), e = .returned (q0_0) ∧ St w0 w' I [ownS (tyInt .i64) q0_0 r] R := by {
 unfold slices_Clone_int_int at hm
 obtain ⟨hg, hm⟩ := gd_some hm
 obtain rfl := some_inj hm
 have hsv := rd_sliceV f0_0
 refine calls_start (args := [r0_0]) func36 z ntmps36 (Nat.le_of_ble_eq_true z) ?_
 refine wp_seq (wrl (wv ((.slice none 0 0)) z z z (wl_nil (tn (wp_seq (wp_seq (wrl (wv (r0_0) z z z (wv (.bool (isNil r0_0)) z z (x_slnil z hsv z underlying41) (wl_nil (tn ?_)))))))))))
 refine bsplit (isNil r0_0) (fun hc56 => ?_) (fun hc56 => ?_)
 {
 refine wp_ift (cvb hc56) ?_
 refine wp_seq (wrl (wv ((.slice none 0 0)) z z z (wl_nil (tn (wp_ret (then_r ?_))))))
 refine post_ret (vs := [Zs]) results36 (rvs_cons (rv_tmp z) rvs_nil) ?_
 obtain rfl := List.eq_nil_of_length_eq_zero (isNil_len hsv hc56)
 exact ⟨_, z, (hst.own_nil (tyInt .i64)).keep1⟩
}
 {
 refine wp_iff (cvb hc56) ?_
 refine wp_skip (tn (wp_seq (wrl ?_)))
 obtain ⟨b, w1, ew, eb, hst⟩ := hst.lits (E := (tyInt .i64)) (xs := []) [] 3 0 z Reps.nil
 refine wl_run (v := (.slice (some ⟨b, 0, none⟩) 0 0)) (w' := w1) z z (x_als (by kernel_rfl) ew eb) ?_
 refine wv (r0_0) z z z ?_
 obtain ⟨v2, w2, hr, hst⟩ := run_append elem_41 underlying41 hst (Src.of_rd hst f0_0 flat_int) (room_of hg z) 41
 refine wl_run (v := v2) (w' := w2) z z (x_append z z hr) ?_
 refine wv (v2) z z z (wl_nil (tn (wp_ret ?_)))
 refine post_ret (vs := [v2]) results36 (rvs_cons (rv_tmp z) rvs_nil) ?_
 rw [List.nil_append] at hst
 exact ⟨_, z, hst.keep1⟩
}
}

theorem label_Lattice_Order_ref {w0 w : World} {I : HL} {R : SP} {a0 : (Option label_Lattice)} {p0 : Value}  (hst : St w0 w I [objO at_label_Lattice p0 a0] R) {r : ((List Int))} (hm : label_Lattice_Order a0 = some r) :
  Calls prog 22 #[p0] w fun e w' => ∃ (q0_0 : Value), e = .returned (q0_0) ∧ St w0 w' I [ownS (tyInt .i64) q0_0 r, objO at_label_Lattice p0 a0] R := by {
 rcases a0 with _ | o0
 {
 obtain ⟨rfl, hst'⟩ := objO_none hst
 clear hst
 have hst := hst'
 clear hst'
 dsimp only [label_Lattice_Order] at hm
 refine calls_start (args := [.pointer none]) func22 z ntmps22 (Nat.le_of_ble_eq_true z) ?_
 refine wp_seq (wrl (wv ((.slice none 0 0)) z z z (wl_nil (tn (wp_seq (wp_seq (wrl (wv (.pointer none) z z z (wv (.bool true) z z (by kernel_rfl) (wl_nil (tn ?_)))))))))))
 refine wp_ift z ?_
 refine wp_seq (wrl (wv ((.slice none 0 0)) z z z (wl_nil (tn (wp_ret (then_r ?_))))))
 replace hst := hst.own_nil (tyInt .i64)
 replace hst := hst.objO_nil at_label_Lattice
 obtain rfl := some_inj hm
 refine post_ret (vs := [Zs]) results22 (rvs_cons (rv_tmp z) rvs_nil) ?_
 replace hst := hst.pull1
 exact ⟨(.slice none 0 0), z, hst.keep2⟩
}
 {
 replace hst := objO_get hst
 dsimp only [label_Lattice_Order] at hm
 refine calls_start (args := [p0]) func22 z ntmps22 (Nat.le_of_ble_eq_true z) ?_
 refine wp_seq (wrl (wv ((.slice none 0 0)) z z z (wl_nil (tn (wp_seq (wp_seq (wrl (wv (p0) z z z ?_))))))))
 obtain ⟨b69, v70, v72, v74, v76, v78, v80, rfl, hst'⟩ := at_label_Lattice_open hst
 clear hst
 have hst := hst'
 clear hst'
 refine wv (.bool false) z z (by kernel_rfl) (wl_nil (tn ?_))
 refine wp_iff z ?_
 refine wp_skip (tn (wp_seq (wrl ?_)))
 refine wv (Pt b69 0) z z z (wv (Pt b69 0) z z z (wv (Pt b69 5) z z (x_field z underlying49 z sizeOf41 z) (wv (v80) z z (x_load z isAgg41 (hst.bc0 z)) ?_)))
 replace hst := hst.pull6
 obtain ⟨css82, hq83, hst⟩ := hst.own_open
 obtain ⟨t84, ht85, hm⟩ := bind_some hm
 refine wc call36 [v80] z z z ?_
 refine (slices_Clone_int_int_ref (hst.rdrow0 hq83) hst.to0 ht85).mono ?_
 rintro _ w86 ⟨v89, rfl, hst⟩
 refine ⟨_, z, ?_⟩
 replace hst := hst.of1.pull1.own_close hq83
 refine wv (v89) z z z (wl_nil (tn (wp_ret ?_)))
 replace hst := hst.pull7.pull7.pull7.pull7.pull7.pull7
 replace hst := at_label_Lattice_close (pv := Pt b69 0) (x := o0) hst z
 replace hst := objO_some hst
 obtain rfl := some_inj hm
 refine post_ret (vs := [v89]) results22 (rvs_cons (rv_tmp z) rvs_nil) ?_
 replace hst := hst.pull1
 exact ⟨v89, z, hst.keep2⟩
}
}

theorem label_Lattice_Bottom_ref {w0 w : World} {I : HL} {R : SP} {a0 : (Option label_Lattice)} {p0 : Value}  (hst : St w0 w I [objO at_label_Lattice p0 a0] R) {r : (Int)} (hm : label_Lattice_Bottom a0 = some r) :
  Calls prog 16 #[p0] w fun e w' => e = .returned (.int .i64 r) ∧ St w0 w' I [objO at_label_Lattice p0 a0] R := by {
 rcases a0 with _ | o0
 {
 obtain ⟨rfl, hst'⟩ := objO_none hst
 clear hst
 have hst := hst'
 clear hst'
 dsimp only [label_Lattice_Bottom] at hm
 refine calls_start (args := [.pointer none]) func16 z ntmps16 (Nat.le_of_ble_eq_true z) ?_
 refine wp_seq (wrl (wv (.int .i64 (0:Int)) z z z (wl_nil (tn (wp_seq (wp_seq (wrl (wv (.pointer none) z z z (wv (.bool true) z z (by kernel_rfl) (wl_nil (tn ?_)))))))))))
 refine wp_ift z ?_
 refine wp_seq (wrl (wv (.int .i64 ((-1):Int)) z z z (wl_nil (tn (wp_ret (then_r ?_))))))
 replace hst := hst.objO_nil at_label_Lattice
 obtain rfl := some_inj hm
 refine post_ret (vs := [I6 ((-1):Int)]) results16 (rvs_cons (rv_tmp z) rvs_nil) ?_
 exact ⟨z, hst.keep1⟩
}
 {
 replace hst := objO_get hst
 dsimp only [label_Lattice_Bottom] at hm
 refine calls_start (args := [p0]) func16 z ntmps16 (Nat.le_of_ble_eq_true z) ?_
 refine wp_seq (wrl (wv (.int .i64 (0:Int)) z z z (wl_nil (tn (wp_seq (wp_seq (wrl (wv (p0) z z z ?_))))))))
 obtain ⟨b66, v67, v69, v71, v73, v75, v77, rfl, hst'⟩ := at_label_Lattice_open hst
 clear hst
 have hst := hst'
 clear hst'
 refine wv (.bool false) z z (by kernel_rfl) (wl_nil (tn ?_))
 refine wp_iff z ?_
 refine wp_skip (tn (wp_seq (wrl ?_)))
 refine wv (Pt b66 0) z z z (wv (Pt b66 0) z z z (wv (Pt b66 5) z z (x_field z underlying49 z sizeOf41 z) (wv (v77) z z (x_load z isAgg41 (hst.bc0 z)) ?_)))
 obtain ⟨x79, hx80, hm⟩ := bind_some hm
 obtain ⟨h81, h82, hi83⟩ := geto_some hx80
 refine wv (.pointer (some (eAddr v77 ((0:Int).toNat * 1 + 0)))) z z (x_index z z underlying41 sizeOf3 hst.sv6 h81 h82) (wv (.int .i64 x79) z z (x_load z isAgg3 (hst.ol6 hi83 (by rintro _ rfl; rfl))) (wv (.int .i64 x79) z z z (wl_nil (tn (wp_ret ?_)))))
 replace hst := hst.pull6.pull6.pull6.pull6.pull6.pull6.pull6
 replace hst := at_label_Lattice_close (pv := Pt b66 0) (x := o0) hst z
 replace hst := objO_some hst
 obtain rfl := some_inj hm
 refine post_ret (vs := [I6 x79]) results16 (rvs_cons (rv_tmp z) rvs_nil) ?_
 exact ⟨z, hst.keep1⟩
}
}

theorem label_Lattice_Top_ref {w0 w : World} {I : HL} {R : SP} {a0 : (Option label_Lattice)} {p0 : Value}  (hst : St w0 w I [objO at_label_Lattice p0 a0] R) {r : (Int)} (hm : label_Lattice_Top a0 = some r) :
  Calls prog 17 #[p0] w fun e w' => e = .returned (.int .i64 r) ∧ St w0 w' I [objO at_label_Lattice p0 a0] R := by {
 rcases a0 with _ | o0
 {
 obtain ⟨rfl, hst'⟩ := objO_none hst
 clear hst
 have hst := hst'
 clear hst'
 dsimp only [label_Lattice_Top] at hm
 refine calls_start (args := [.pointer none]) func17 z ntmps17 (Nat.le_of_ble_eq_true z) ?_
 refine wp_seq (wrl (wv (.int .i64 (0:Int)) z z z (wl_nil (tn (wp_seq (wp_seq (wrl (wv (.pointer none) z z z (wv (.bool true) z z (by kernel_rfl) (wl_nil (tn ?_)))))))))))
 refine wp_ift z ?_
 refine wp_seq (wrl (wv (.int .i64 ((-1):Int)) z z z (wl_nil (tn (wp_ret (then_r ?_))))))
 replace hst := hst.objO_nil at_label_Lattice
 obtain rfl := some_inj hm
 refine post_ret (vs := [I6 ((-1):Int)]) results17 (rvs_cons (rv_tmp z) rvs_nil) ?_
 exact ⟨z, hst.keep1⟩
}
 {
 replace hst := objO_get hst
 dsimp only [label_Lattice_Top] at hm
 refine calls_start (args := [p0]) func17 z ntmps17 (Nat.le_of_ble_eq_true z) ?_
 refine wp_seq (wrl (wv (.int .i64 (0:Int)) z z z (wl_nil (tn (wp_seq (wp_seq (wrl (wv (p0) z z z ?_))))))))
 obtain ⟨b66, v67, v69, v71, v73, v75, v77, rfl, hst'⟩ := at_label_Lattice_open hst
 clear hst
 have hst := hst'
 clear hst'
 refine wv (.bool false) z z (by kernel_rfl) (wl_nil (tn ?_))
 refine wp_iff z ?_
 refine wp_skip (tn (wp_seq ?_))
 refine wq_regionS hst Try.mixed (by kernel_rfl) ?_
 refine wq_run (v := Pt b66 0) z z (fun w hst => z) ?_
 refine wq_run (v := Pt b66 0) z z (fun w hst => z) ?_
 refine wq_run (v := Pt b66 5) z z (fun w hst => x_field z underlying49 z sizeOf41 z) ?_
 refine wq_run (v := v77) z z (fun w hst => x_load z isAgg41 (hst.bc0 z)) ?_
 refine wq_run (v := Pt b66 0) z z (fun w hst => z) ?_
 refine wq_run (v := Pt b66 0) z z (fun w hst => z) ?_
 refine wq_run (v := Pt b66 5) z z (fun w hst => x_field z underlying49 z sizeOf41 z) ?_
 refine wq_run (v := v77) z z (fun w hst => x_load z isAgg41 (hst.bc0 z)) ?_
 refine wq_run (v := .int .i64 ((o0.all).length : Int)) z z (fun w hst => x_len z underlying41 hst.sv6) ?_
 refine wq_run (v := .int .i64 (i64.wrap (((o0.all).length : Int) - (1:Int)))) z z (fun w hst => z) ?_
 obtain ⟨x79, hx80, hm⟩ := bind_some hm
 obtain ⟨h81, h82, hi83⟩ := geto_some hx80
 refine wq_run (v := .pointer (some (eAddr v77 ((i64.wrap (((o0.all).length : Int) - (1:Int))).toNat * 1 + 0)))) z z (fun w hst => x_index z z underlying41 sizeOf3 hst.sv6 h81 h82) ?_
 refine wq_run (v := .int .i64 x79) z z (fun w hst => x_load z isAgg3 (hst.ol6 hi83 (by rintro _ rfl; rfl))) ?_
 refine wq_run (v := .int .i64 x79) z z (fun w hst => z) ?_
 refine wq_nil ?_
 intro w hst
 refine tn (wp_ret ?_)
 replace hst := hst.pull6.pull6.pull6.pull6.pull6.pull6.pull6
 replace hst := at_label_Lattice_close (pv := Pt b66 0) (x := o0) hst z
 replace hst := objO_some hst
 obtain rfl := some_inj hm
 refine post_ret (vs := [I6 x79]) results17 (rvs_cons (rv_tmp z) rvs_nil) ?_
 exact ⟨z, hst.keep1⟩
}
}

theorem label_Lattice_Leq_ref {w0 w : World} {I : HL} {R : SP} {a0 : (Option label_Lattice)} {p0 : Value} {a1 : Int} {a2 : Int}  (hst : St w0 w I [objO at_label_Lattice p0 a0] R) {r : (Bool)} (hm : label_Lattice_Leq a0 a1 a2 = some r) :
  Calls prog 15 #[p0, I6 a1, I6 a2] w fun e w' => e = .returned (.bool r) ∧ St w0 w' I [objO at_label_Lattice p0 a0] R := by {
 rcases a0 with _ | o0
 {
 obtain ⟨rfl, hst'⟩ := objO_none hst
 clear hst
 have hst := hst'
 clear hst'
 dsimp only [label_Lattice_Leq] at hm
 refine calls_start (args := [.pointer none, I6 a1, I6 a2]) func15 z ntmps15 (Nat.le_of_ble_eq_true z) ?_
 refine wp_seq (wrl (wv (.bool false) z z z (wl_nil (tn (wp_seq (wrl (wv (.pointer none) z z z (wv (.int .i64 a1) z z z ?_))))))))
 replace hst := hst.objO_nil at_label_Lattice
 obtain ⟨t191, ht192, hm⟩ := bind_some hm
 refine wc call23 [.pointer none, I6 a1] z z z ?_
 refine (label_Lattice_Is_ref hst.to1 ht192).mono ?_
 rintro _ w193 ⟨rfl, hst⟩
 refine ⟨_, z, ?_⟩
 replace hst := hst.of1
 refine wv (.bool t191) z z z ?_
 refine bsplit t191 (fun hc196 => ?_) (fun hc196 => ?_)
 {
 replace hm := bif_t hc196 hm
 refine wv (.pointer none) ((wanted_eq z z z (cvb hc196)).trans z) z z (wv (.int .i64 a2) ((wanted_eq z z z (cvb hc196)).trans z) z z ?_)
 replace hst := hst.objO_nil at_label_Lattice
 obtain ⟨t198, ht199, hm⟩ := bind_some hm
 refine wl_call ((wanted_eq z z z (cvb hc196)).trans z) z (x_call call23 z (vs := [.pointer none, I6 a2]) z) ?_
 refine (label_Lattice_Is_ref hst.to1 ht199).mono ?_
 rintro _ w200 ⟨rfl, hst⟩
 refine ⟨_, z, ?_⟩
 replace hst := hst.of1
 refine wv (.bool t198) z z (x_pick_t hc196 z z) (wv (.bool t198) z z z ?_)
 refine bsplit t198 (fun hc203 => ?_) (fun hc203 => ?_)
 {
 replace hm := bif_t hc203 hm
 refine wv (.pointer none) ((wanted_eq z z z (cvb hc203)).trans z) z z ?_
 cases hm
}
 {
 replace hm := bif_f hc203 hm
 refine wo hc203 z z z z z z (wo hc203 z z z z z z (wo hc203 z z z z z z (wo hc203 z z z z z z (wo hc203 z z z z z z (wo hc203 z z z z z z (wo hc203 z z z z z z (wo hc203 z z z z z z (wo hc203 z z z z z z (wo hc203 z z z z z z (wo hc203 z z z z z z (wv (.bool false) z z (x_pick_f hc203 z z) (wv (.bool false) z z z ?_))))))))))))
 refine wl_nil (tn (wp_ret ?_))
 replace hst := hst.objO_nil at_label_Lattice
 obtain rfl := some_inj hm
 refine post_ret (vs := [.bool false]) results15 (rvs_cons (rv_tmp z) rvs_nil) ?_
 exact ⟨z, hst.keep1⟩
}
}
 {
 replace hm := bif_f hc196 hm
 refine wo hc196 z z z z z z (wo hc196 z z z z z z (wo hc196 z z z z z z (wv (.bool false) z z (x_pick_f hc196 z z) (wv (.bool false) z z z (wz z z z z z z (wz z z z z z z (wz z z z z z z (wz z z z z z z (wz z z z z z z (wz z z z z z z (wz z z z z z z (wz z z z z z z ?_))))))))))))
 refine wz z z z z z z (wz z z z z z z (wz z z z z z z (wv (.bool false) z z (x_pick_f z z z) (wv (.bool false) z z z (wl_nil (tn (wp_ret ?_)))))))
 replace hst := hst.objO_nil at_label_Lattice
 obtain rfl := some_inj hm
 refine post_ret (vs := [.bool false]) results15 (rvs_cons (rv_tmp z) rvs_nil) ?_
 exact ⟨z, hst.keep1⟩
}
}
 {
 replace hst := objO_get hst
 dsimp only [label_Lattice_Leq] at hm
 refine calls_start (args := [p0, I6 a1, I6 a2]) func15 z ntmps15 (Nat.le_of_ble_eq_true z) ?_
 refine wp_seq (wrl (wv (.bool false) z z z (wl_nil (tn (wp_seq (wrl (wv (p0) z z z (wv (.int .i64 a1) z z z ?_))))))))
 replace hst := objO_some hst
 obtain ⟨t204, ht205, hm⟩ := bind_some hm
 refine wc call23 [p0, I6 a1] z z z ?_
 refine (label_Lattice_Is_ref hst.to1 ht205).mono ?_
 rintro _ w206 ⟨rfl, hst⟩
 refine ⟨_, z, ?_⟩
 replace hst := hst.of1
 replace hst := objO_get hst
 refine wv (.bool t204) z z z ?_
 refine bsplit t204 (fun hc209 => ?_) (fun hc209 => ?_)
 {
 replace hm := bif_t hc209 hm
 refine wv (p0) ((wanted_eq z z z (cvb hc209)).trans z) z z (wv (.int .i64 a2) ((wanted_eq z z z (cvb hc209)).trans z) z z ?_)
 replace hst := objO_some hst
 obtain ⟨t210, ht211, hm⟩ := bind_some hm
 refine wl_call ((wanted_eq z z z (cvb hc209)).trans z) z (x_call call23 z (vs := [p0, I6 a2]) z) ?_
 refine (label_Lattice_Is_ref hst.to1 ht211).mono ?_
 rintro _ w212 ⟨rfl, hst⟩
 refine ⟨_, z, ?_⟩
 replace hst := hst.of1
 replace hst := objO_get hst
 refine wv (.bool t210) z z (x_pick_t hc209 z z) (wv (.bool t210) z z z ?_)
 refine bsplit t210 (fun hc215 => ?_) (fun hc215 => ?_)
 {
 replace hm := bif_t hc215 hm
 refine wv (p0) ((wanted_eq z z z (cvb hc215)).trans z) z z ?_
 obtain ⟨b216, v217, v219, v221, v223, v225, v227, rfl, hst'⟩ := at_label_Lattice_open hst
 clear hst
 have hst := hst'
 clear hst'
 refine wv (Pt b216 0) ((wanted_eq z z z (cvb hc215)).trans z) z z (wv (Pt b216 0) ((wanted_eq z z z (cvb hc215)).trans z) z (x_field z underlying49 z sizeOf28 z) (wv (v217) ((wanted_eq z z z (cvb hc215)).trans z) z (x_load z isAgg28 (hst.bc0 z)) (wv (.int .i64 a1) ((wanted_eq z z z (cvb hc215)).trans z) z z ?_)))
 obtain ⟨x229, hx230, hm⟩ := bind_some hm
 obtain ⟨h231, h232, hi233⟩ := geto_some hx230
 refine wv (.pointer (some (eAddr v217 (a1.toNat * 1 + 0)))) ((wanted_eq z z z (cvb hc215)).trans z) z (x_index z z underlying28 sizeOf43 hst.sv1 h231 h232) (wv (.int .u64 x229) ((wanted_eq z z z (cvb hc215)).trans z) z (x_load z isAgg43 (hst.ol1 hi233 (by rintro _ rfl; rfl))) (wv (.int .i64 a2) ((wanted_eq z z z (cvb hc215)).trans z) z z ?_))
 obtain ⟨hg234, hm⟩ := gd_some hm
 refine wv (.int .u64 (iShr .u64 x229 a2)) ((wanted_eq z z z (cvb hc215)).trans z) z (x_shr (of_decide_eq_true hg234) z z) (wv (.int .u64 (bAnd .u64 (iShr .u64 x229 a2) (1:Int))) ((wanted_eq z z z (cvb hc215)).trans z) z z (wv (.bool ((bAnd .u64 (iShr .u64 x229 a2) (1:Int)) == (1:Int))) ((wanted_eq z z z (cvb hc215)).trans z) z z (wv (.bool ((bAnd .u64 (iShr .u64 x229 a2) (1:Int)) == (1:Int))) z z (x_pick_t hc215 z z) (wv (.bool ((bAnd .u64 (iShr .u64 x229 a2) (1:Int)) == (1:Int))) z z z (wl_nil (tn (wp_ret ?_)))))))
 replace hst := hst.pull6.pull6.pull6.pull6.pull6.pull6.pull6
 replace hst := at_label_Lattice_close (pv := Pt b216 0) (x := o0) hst z
 replace hst := objO_some hst
 obtain rfl := some_inj hm
 refine post_ret (vs := [.bool ((bAnd .u64 (iShr .u64 x229 a2) (1:Int)) == (1:Int))]) results15 (rvs_cons (rv_tmp z) rvs_nil) ?_
 exact ⟨z, hst.keep1⟩
}
 {
 replace hm := bif_f hc215 hm
 refine wo hc215 z z z z z z (wo hc215 z z z z z z (wo hc215 z z z z z z (wo hc215 z z z z z z (wo hc215 z z z z z z (wo hc215 z z z z z z (wo hc215 z z z z z z (wo hc215 z z z z z z (wo hc215 z z z z z z (wo hc215 z z z z z z (wo hc215 z z z z z z (wv (.bool false) z z (x_pick_f hc215 z z) (wv (.bool false) z z z ?_))))))))))))
 refine wl_nil (tn (wp_ret ?_))
 replace hst := objO_some hst
 obtain rfl := some_inj hm
 refine post_ret (vs := [.bool false]) results15 (rvs_cons (rv_tmp z) rvs_nil) ?_
 exact ⟨z, hst.keep1⟩
}
}
 {
 replace hm := bif_f hc209 hm
 refine wo hc209 z z z z z z (wo hc209 z z z z z z (wo hc209 z z z z z z (wv (.bool false) z z (x_pick_f hc209 z z) (wv (.bool false) z z z (wz z z z z z z (wz z z z z z z (wz z z z z z z (wz z z z z z z (wz z z z z z z (wz z z z z z z (wz z z z z z z (wz z z z z z z ?_))))))))))))
 refine wz z z z z z z (wz z z z z z z (wz z z z z z z (wv (.bool false) z z (x_pick_f z z z) (wv (.bool false) z z z (wl_nil (tn (wp_ret ?_)))))))
 replace hst := objO_some hst
 obtain rfl := some_inj hm
 refine post_ret (vs := [.bool false]) results15 (rvs_cons (rv_tmp z) rvs_nil) ?_
 exact ⟨z, hst.keep1⟩
}
}
}

theorem ref03_Join_ref {w0 w : World} {I : HL} {R : SP} {a0 : (List Int)} {r0_0 : Value} {a1 : Int} {a2 : Int} (f0_0 : Rd (tyInt .u64) R I r0_0 a0) (hst : St w0 w I [] R) {r : (Int)} (hm : ref03_Join a0 a1 a2 = some r) :
  Calls prog 33 #[r0_0, I6 a1, I6 a2] w fun e w' => e = .returned (.int .i64 r) ∧ St w0 w' I [] R := by {
 unfold ref03_Join at hm
 refine calls_start (args := [r0_0, I6 a1, I6 a2]) func33 z ntmps33 (Nat.le_of_ble_eq_true z) ?_
 refine wp_seq (wrl (wv (.int .i64 (0:Int)) z z z (wl_nil (tn (wp_seq (wp_seq (wrl (wv (.int .i64 (0:Int)) z z z (wl_nil (tn (wp_block ?_)))))))))))
 obtain ⟨n628, hm⟩ := loopO_some hm
 refine wp_loop_n (fun n a w => ∃ (z626 : Int) (σ627 : Nat → Value), loopN (ref03_Join_l0 a0 a1 a2) n z626 = some r ∧ a = Fr 54 (upd (upd (upd (upd σ627 0 (r0_0)) 1 (.int .i64 a1)) 2 (.int .i64 a2)) 7 (.int .i64 z626)) ∧ St w0 w I [] R) n628 ⟨(0:Int), _, hm, (fu 0 r0_0 z (fu 1 (.int .i64 a1) z (fu 2 (.int .i64 a2) z (fu 7 (.int .i64 (0:Int)) z z)))), hst⟩ ?_
 rintro n634 _ w629 ⟨z626, σ627, hm, rfl, hst⟩
 obtain ⟨n631, y632, rfl, hm, hx633⟩ := loopN_some hm
 dsimp only [ref03_Join_l0] at hm
 refine wp_seq (wp_seq (wrl (wv (.int .i64 z626) z z z (wv (r0_0) z z z (wv (.int .i64 ((a0).length : Int)) z z (x_len z underlying28 (rd_sliceV f0_0)) (wv (.bool (decide (z626 < ((a0).length : Int)))) z z z (wl_nil (tn ?_))))))))
 refine bsplit (decide (z626 < ((a0).length : Int))) (fun hc635 => ?_) (fun hc635 => ?_)
 {
 replace hm := bif_t hc635 hm
 refine wp_ift (cvb hc635) ?_
 refine wp_skip (tn (wp_seq (wp_block ?_)))
 obtain ⟨y650, hm, hx651⟩ := bind_some hm
 refine wp_cut (fun a w => ∃ (z647 : Bool) (σ648 : Nat → Value), (ref03_Join_j1 a0 a1 a2 z626) z647 = some y632 ∧ a = Fr 54 (upd (upd (upd (upd (upd σ648 0 (r0_0)) 1 (.int .i64 a1)) 2 (.int .i64 a2)) 7 (.int .i64 z626)) 8 (.bool z647)) ∧ St w0 w I [] R) ?_ ?_
 {
 refine wrl (wv (r0_0) z z z (wv (.int .i64 a1) z z z (wv (.int .i64 z626) z z z ?_)))
 obtain ⟨t636, ht637, hm⟩ := bind_some hm
 refine wc call32 [r0_0, I6 a1, I6 z626] z z z ?_
 refine (ref03_Leq_ref (f0_0.mono (rd_weak _)) hst.to0 ht637).mono ?_
 rintro _ w638 ⟨rfl, hst⟩
 refine ⟨_, z, ?_⟩
 replace hst := hst.of0
 refine wv (.bool t636) z z z ?_
 refine bsplit t636 (fun hc641 => ?_) (fun hc641 => ?_)
 {
 replace hm := bif_t hc641 hm
 refine wv (r0_0) ((wanted_eq z z z (cvb hc641)).trans z) z z (wv (.int .i64 a2) ((wanted_eq z z z (cvb hc641)).trans z) z z (wv (.int .i64 z626) ((wanted_eq z z z (cvb hc641)).trans z) z z ?_))
 obtain ⟨t642, ht643, hm⟩ := bind_some hm
 refine wl_call ((wanted_eq z z z (cvb hc641)).trans z) z (x_call call32 z (vs := [r0_0, I6 a2, I6 z626]) z) ?_
 refine (ref03_Leq_ref (f0_0.mono (rd_weak _)) hst.to0 ht643).mono ?_
 rintro _ w644 ⟨rfl, hst⟩
 refine ⟨_, z, ?_⟩
 replace hst := hst.of0
 refine wv (.bool t642) z z (x_pick_t hc641 z z) (wv (.bool t642) z z z (wl_nil (tn ?_)))
 replace hst := hst.keep0
 obtain rfl := some_inj hm
 exact ⟨t642, _, hx651, (fu 0 r0_0 z (fu 1 (.int .i64 a1) z (fu 2 (.int .i64 a2) z (fu 7 (.int .i64 z626) z (fu 8 (.bool t642) z z))))), hst⟩
}
 {
 replace hm := bif_f hc641 hm
 refine wo hc641 z z z z z z (wo hc641 z z z z z z (wo hc641 z z z z z z (wo hc641 z z z z z z (wv (.bool false) z z (x_pick_f hc641 z z) (wv (.bool false) z z z (wl_nil (tn ?_)))))))
 replace hst := hst.keep0
 obtain rfl := some_inj hm
 exact ⟨false, _, hx651, (fu 0 r0_0 z (fu 1 (.int .i64 a1) z (fu 2 (.int .i64 a2) z (fu 7 (.int .i64 z626) z (fu 8 (.bool false) z z))))), hst⟩
}
}
 {
 clear hst
 rintro _ w652 ⟨z647, σ648, hm, rfl, hst⟩
 dsimp only [ref03_Join_j1] at hm
 refine wp_seq (wp_seq (wrl (wv (.int .i64 (0:Int)) z z z (wl_nil (tn (wp_block ?_))))))
 obtain ⟨n698, hm⟩ := loopO_some hm
 refine wp_loop_n (fun n a w => ∃ (z695 : Bool) (z696 : Int) (σ697 : Nat → Value), loopN (ref03_Join_l2 a0 a1 a2 z626) n (z695, z696) = some y632 ∧ a = Fr 54 (upd (upd (upd (upd (upd (upd σ697 0 (r0_0)) 1 (.int .i64 a1)) 2 (.int .i64 a2)) 7 (.int .i64 z626)) 8 (.bool z695)) 9 (.int .i64 z696)) ∧ St w0 w I [] R) n698 ⟨z647, (0:Int), _, hm, (fu 0 r0_0 z (fu 1 (.int .i64 a1) z (fu 2 (.int .i64 a2) z (fu 7 (.int .i64 z626) z (fu 8 (.bool z647) z (fu 9 (.int .i64 (0:Int)) z z)))))), hst⟩ ?_
 rintro n704 _ w699 ⟨z695, z696, σ697, hm, rfl, hst⟩
 obtain ⟨n701, y702, rfl, hm, hx703⟩ := loopN_some hm
 dsimp only [ref03_Join_l2] at hm
 refine wp_seq (wp_seq (wrl (wv (.int .i64 z696) z z z (wv (r0_0) z z z (wv (.int .i64 ((a0).length : Int)) z z (x_len z underlying28 (rd_sliceV f0_0)) (wv (.bool (decide (z696 < ((a0).length : Int)))) z z z (wv (.bool (decide (z696 < ((a0).length : Int)))) z z z ?_)))))))
 refine bsplit (decide (z696 < ((a0).length : Int))) (fun hc705 => ?_) (fun hc705 => ?_)
 {
 replace hm := bif_t hc705 hm
 refine wv (.bool z695) ((wanted_eq z z z (cvb hc705)).trans z) z z (wv (.bool z695) z z (x_pick_t hc705 z z) (wl_nil (tn ?_)))
 refine bsplit z695 (fun hc706 => ?_) (fun hc706 => ?_)
 {
 replace hm := bif_t hc706 hm
 refine wp_ift (cvb hc706) ?_
 refine wp_skip (tn (wp_seq (wp_block (wp_seq (wrl ?_)))))
 refine wv (r0_0) z z z (wv (.int .i64 a1) z z z (wv (.int .i64 z696) z z z ?_))
 obtain ⟨t707, ht708, hm⟩ := bind_some hm
 refine wc call32 [r0_0, I6 a1, I6 z696] z z z ?_
 refine (ref03_Leq_ref (f0_0.mono (rd_weak _)) hst.to0 ht708).mono ?_
 rintro _ w709 ⟨rfl, hst⟩
 refine ⟨_, z, ?_⟩
 replace hst := hst.of0
 refine wv (.bool t707) z z z ?_
 refine bsplit t707 (fun hc712 => ?_) (fun hc712 => ?_)
 {
 replace hm := bif_t hc712 hm
 refine wv (r0_0) ((wanted_eq z z z (cvb hc712)).trans z) z z (wv (.int .i64 a2) ((wanted_eq z z z (cvb hc712)).trans z) z z (wv (.int .i64 z696) ((wanted_eq z z z (cvb hc712)).trans z) z z ?_))
 obtain ⟨t713, ht714, hm⟩ := bind_some hm
 refine wl_call ((wanted_eq z z z (cvb hc712)).trans z) z (x_call call32 z (vs := [r0_0, I6 a2, I6 z696]) z) ?_
 refine (ref03_Leq_ref (f0_0.mono (rd_weak _)) hst.to0 ht714).mono ?_
 rintro _ w715 ⟨rfl, hst⟩
 refine ⟨_, z, ?_⟩
 replace hst := hst.of0
 refine wv (.bool t713) z z (x_pick_t hc712 z z) (wv (.bool t713) z z z ?_)
 refine bsplit t713 (fun hc718 => ?_) (fun hc718 => ?_)
 {
 replace hm := bif_t hc718 hm
 refine wv (r0_0) ((wanted_eq z z z (cvb hc718)).trans z) z z (wv (.int .i64 z626) ((wanted_eq z z z (cvb hc718)).trans z) z z (wv (.int .i64 z696) ((wanted_eq z z z (cvb hc718)).trans z) z z ?_))
 obtain ⟨t719, ht720, hm⟩ := bind_some hm
 refine wl_call ((wanted_eq z z z (cvb hc718)).trans z) z (x_call call32 z (vs := [r0_0, I6 z626, I6 z696]) z) ?_
 refine (ref03_Leq_ref (f0_0.mono (rd_weak _)) hst.to0 ht720).mono ?_
 rintro _ w721 ⟨rfl, hst⟩
 refine ⟨_, z, ?_⟩
 replace hst := hst.of0
 refine wv (.bool (!t719)) ((wanted_eq z z z (cvb hc718)).trans z) z z (wv (.bool (!t719)) z z (x_pick_t hc718 z z) (wl_nil (tn ?_)))
 refine bsplit (!t719) (fun hc724 => ?_) (fun hc724 => ?_)
 {
 replace hm := bif_t hc724 hm
 refine wp_ift (cvb hc724) ?_
 refine wrl (wv (.bool false) z z z (wl_nil (blk_n (tn (wrl (wv (.int .i64 z696) z z z (wv (.int .i64 (i64.wrap (z696 + (1:Int)))) z z z (wv (.int .i64 (i64.wrap (z696 + (1:Int)))) z z z (wl_nil (tn ?_))))))))))
 replace hst := hst.keep0
 obtain rfl := some_inj hm
 exact ⟨_, Nat.lt_succ_self _, false, (i64.wrap (z696 + (1:Int))), _, hx703, (fu 0 r0_0 z (fu 1 (.int .i64 a1) z (fu 2 (.int .i64 a2) z (fu 7 (.int .i64 z626) z (fu 8 (.bool false) z (fu 9 (.int .i64 (i64.wrap (z696 + (1:Int)))) z z)))))), hst⟩
}
 {
 replace hm := bif_f hc724 hm
 refine wp_iff (cvb hc724) ?_
 refine wp_skip (blk_n (tn (wrl ?_)))
 refine wv (.int .i64 z696) z z z (wv (.int .i64 (i64.wrap (z696 + (1:Int)))) z z z (wv (.int .i64 (i64.wrap (z696 + (1:Int)))) z z z (wl_nil (tn ?_))))
 replace hst := hst.keep0
 obtain rfl := some_inj hm
 exact ⟨_, Nat.lt_succ_self _, z695, (i64.wrap (z696 + (1:Int))), _, hx703, (fu 0 r0_0 z (fu 1 (.int .i64 a1) z (fu 2 (.int .i64 a2) z (fu 7 (.int .i64 z626) z (fu 8 (.bool z695) z (fu 9 (.int .i64 (i64.wrap (z696 + (1:Int)))) z z)))))), hst⟩
}
}
 {
 replace hm := bif_f hc718 hm
 refine wo hc718 z z z z z z (wo hc718 z z z z z z (wo hc718 z z z z z z (wo hc718 z z z z z z (wo hc718 z z z z z z (wv (.bool false) z z (x_pick_f hc718 z z) (wl_nil (tn ?_)))))))
 refine wp_iff z ?_
 refine wp_skip (blk_n (tn (wrl ?_)))
 refine wv (.int .i64 z696) z z z (wv (.int .i64 (i64.wrap (z696 + (1:Int)))) z z z (wv (.int .i64 (i64.wrap (z696 + (1:Int)))) z z z (wl_nil (tn ?_))))
 replace hst := hst.keep0
 obtain rfl := some_inj hm
 exact ⟨_, Nat.lt_succ_self _, z695, (i64.wrap (z696 + (1:Int))), _, hx703, (fu 0 r0_0 z (fu 1 (.int .i64 a1) z (fu 2 (.int .i64 a2) z (fu 7 (.int .i64 z626) z (fu 8 (.bool z695) z (fu 9 (.int .i64 (i64.wrap (z696 + (1:Int)))) z z)))))), hst⟩
}
}
 {
 replace hm := bif_f hc712 hm
 refine wo hc712 z z z z z z (wo hc712 z z z z z z (wo hc712 z z z z z z (wo hc712 z z z z z z (wv (.bool false) z z (x_pick_f hc712 z z) (wv (.bool false) z z z (wz z z z z z z (wz z z z z z z (wz z z z z z z (wz z z z z z z (wz z z z z z z (wv (.bool false) z z (x_pick_f z z z) (wl_nil (tn ?_)))))))))))))
 refine wp_iff z ?_
 refine wp_skip (blk_n (tn (wrl ?_)))
 refine wv (.int .i64 z696) z z z (wv (.int .i64 (i64.wrap (z696 + (1:Int)))) z z z (wv (.int .i64 (i64.wrap (z696 + (1:Int)))) z z z (wl_nil (tn ?_))))
 replace hst := hst.keep0
 obtain rfl := some_inj hm
 exact ⟨_, Nat.lt_succ_self _, z695, (i64.wrap (z696 + (1:Int))), _, hx703, (fu 0 r0_0 z (fu 1 (.int .i64 a1) z (fu 2 (.int .i64 a2) z (fu 7 (.int .i64 z626) z (fu 8 (.bool z695) z (fu 9 (.int .i64 (i64.wrap (z696 + (1:Int)))) z z)))))), hst⟩
}
}
 {
 replace hm := bif_f hc706 hm
 refine wp_iff (cvb hc706) ?_
 refine wp_exit (then_x (then_x ?_))
 replace hm := inr_up hm hx703
 refine blk_x (tn (wp_seq (wrl ?_)))
 refine wv (.bool z695) z z z (wl_nil (tn ?_))
 refine wp_iff (cvb hc706) ?_
 refine wp_skip (blk_n (tn (wrl ?_)))
 refine wv (.int .i64 z626) z z z (wv (.int .i64 (i64.wrap (z626 + (1:Int)))) z z z (wv (.int .i64 (i64.wrap (z626 + (1:Int)))) z z z (wl_nil (tn ?_))))
 replace hst := hst.keep0
 obtain rfl := some_inj hm
 exact ⟨_, Nat.lt_succ_self _, (i64.wrap (z626 + (1:Int))), _, hx633, (fu 0 r0_0 z (fu 1 (.int .i64 a1) z (fu 2 (.int .i64 a2) z (fu 7 (.int .i64 (i64.wrap (z626 + (1:Int)))) z z)))), hst⟩
}
}
 {
 replace hm := bif_f hc705 hm
 refine wo hc705 z z z z z z (wv (.bool false) z z (x_pick_f hc705 z z) (wl_nil (tn ?_)))
 refine wp_iff z ?_
 refine wp_exit (then_x (then_x ?_))
 replace hm := inr_up hm hx703
 refine blk_x (tn (wp_seq (wrl ?_)))
 refine wv (.bool z695) z z z (wl_nil (tn ?_))
 refine bsplit z695 (fun hc725 => ?_) (fun hc725 => ?_)
 {
 replace hm := bif_t hc725 hm
 refine wp_ift (cvb hc725) ?_
 refine wp_seq (wrl (wv (.int .i64 z626) z z z (wv (.int .i64 z626) z z z (wl_nil (tn (wp_ret (blk_r (then_r (then_r ?_)))))))))
 replace hm := inr_up hm hx633
 refine blk_r (then_r ?_)
 obtain rfl := some_inj hm
 refine post_ret (vs := [I6 z626]) results33 (rvs_cons (rv_tmp z) rvs_nil) ?_
 exact ⟨z, hst.keep0⟩
}
 {
 replace hm := bif_f hc725 hm
 refine wp_iff (cvb hc725) ?_
 refine wp_skip (blk_n (tn (wrl ?_)))
 refine wv (.int .i64 z626) z z z (wv (.int .i64 (i64.wrap (z626 + (1:Int)))) z z z (wv (.int .i64 (i64.wrap (z626 + (1:Int)))) z z z (wl_nil (tn ?_))))
 replace hst := hst.keep0
 obtain rfl := some_inj hm
 exact ⟨_, Nat.lt_succ_self _, (i64.wrap (z626 + (1:Int))), _, hx633, (fu 0 r0_0 z (fu 1 (.int .i64 a1) z (fu 2 (.int .i64 a2) z (fu 7 (.int .i64 (i64.wrap (z626 + (1:Int)))) z z)))), hst⟩
}
}
}
}
 {
 replace hm := bif_f hc635 hm
 refine wp_iff (cvb hc635) ?_
 refine wp_exit (then_x (then_x ?_))
 replace hm := inr_up hm hx633
 refine blk_x (tn (wp_seq (wrl ?_)))
 refine wv (.int .i64 ((-1):Int)) z z z (wl_nil (tn (wp_ret ?_)))
 obtain rfl := some_inj hm
 refine post_ret (vs := [I6 ((-1):Int)]) results33 (rvs_cons (rv_tmp z) rvs_nil) ?_
 exact ⟨z, hst.keep0⟩
}
}

theorem label_Lattice_Meet_ref {w0 w : World} {I : HL} {R : SP} {a0 : (Option label_Lattice)} {p0 : Value} {a1 : Int} {a2 : Int}  (hst : St w0 w I [objO at_label_Lattice p0 a0] R) {r : (Int)} (hm : label_Lattice_Meet a0 a1 a2 = some r) :
  Calls prog 14 #[p0, I6 a1, I6 a2] w fun e w' => e = .returned (.int .i64 r) ∧ St w0 w' I [objO at_label_Lattice p0 a0] R := by {
 rcases a0 with _ | o0
 {
 obtain ⟨rfl, hst'⟩ := objO_none hst
 clear hst
 have hst := hst'
 clear hst'
 dsimp only [label_Lattice_Meet] at hm
 refine calls_start (args := [.pointer none, I6 a1, I6 a2]) func14 z ntmps14 (Nat.le_of_ble_eq_true z) ?_
 refine wp_seq (wrl (wv (.int .i64 (0:Int)) z z z (wl_nil (tn (wp_seq (wp_seq (wrl (wv (.pointer none) z z z (wv (.int .i64 a1) z z z ?_)))))))))
 replace hst := hst.objO_nil at_label_Lattice
 obtain ⟨t224, ht225, hm⟩ := bind_some hm
 refine wc call23 [.pointer none, I6 a1] z z z ?_
 refine (label_Lattice_Is_ref hst.to1 ht225).mono ?_
 rintro _ w226 ⟨rfl, hst⟩
 refine ⟨_, z, ?_⟩
 replace hst := hst.of1
 refine wv (.bool (!t224)) z z z (wv (.bool (!t224)) z z z ?_)
 refine bsplit (!t224) (fun hc229 => ?_) (fun hc229 => ?_)
 {
 replace hm := bif_t hc229 hm
 refine wo hc229 z z z z z z (wo hc229 z z z z z z (wo hc229 z z z z z z (wo hc229 z z z z z z (wv (.bool true) z z (x_pick_t hc229 z z) (wl_nil (tn ?_))))))
 refine wp_ift z ?_
 refine wp_seq (wrl (wv (.int .i64 ((-1):Int)) z z z (wl_nil (tn (wp_ret (then_r ?_))))))
 replace hst := hst.objO_nil at_label_Lattice
 obtain rfl := some_inj hm
 refine post_ret (vs := [I6 ((-1):Int)]) results14 (rvs_cons (rv_tmp z) rvs_nil) ?_
 exact ⟨z, hst.keep1⟩
}
 {
 replace hm := bif_f hc229 hm
 refine wv (.pointer none) ((wanted_eq z z z (cvb hc229)).trans z) z z (wv (.int .i64 a2) ((wanted_eq z z z (cvb hc229)).trans z) z z ?_)
 replace hst := hst.objO_nil at_label_Lattice
 obtain ⟨t231, ht232, hm⟩ := bind_some hm
 refine wl_call ((wanted_eq z z z (cvb hc229)).trans z) z (x_call call23 z (vs := [.pointer none, I6 a2]) z) ?_
 refine (label_Lattice_Is_ref hst.to1 ht232).mono ?_
 rintro _ w233 ⟨rfl, hst⟩
 refine ⟨_, z, ?_⟩
 replace hst := hst.of1
 refine wv (.bool (!t231)) ((wanted_eq z z z (cvb hc229)).trans z) z z (wv (.bool (!t231)) z z (x_pick_f hc229 z z) (wl_nil (tn ?_)))
 refine bsplit (!t231) (fun hc236 => ?_) (fun hc236 => ?_)
 {
 replace hm := bif_t hc236 hm
 refine wp_ift (cvb hc236) ?_
 refine wp_seq (wrl (wv (.int .i64 ((-1):Int)) z z z (wl_nil (tn (wp_ret (then_r ?_))))))
 replace hst := hst.objO_nil at_label_Lattice
 obtain rfl := some_inj hm
 refine post_ret (vs := [I6 ((-1):Int)]) results14 (rvs_cons (rv_tmp z) rvs_nil) ?_
 exact ⟨z, hst.keep1⟩
}
 {
 replace hm := bif_f hc236 hm
 refine wp_iff (cvb hc236) ?_
 refine wp_skip (tn (wp_seq (wrl ?_)))
 refine wv (.pointer none) z z z ?_
 cases hm
}
}
}
 {
 replace hst := objO_get hst
 dsimp only [label_Lattice_Meet] at hm
 refine calls_start (args := [p0, I6 a1, I6 a2]) func14 z ntmps14 (Nat.le_of_ble_eq_true z) ?_
 refine wp_seq (wrl (wv (.int .i64 (0:Int)) z z z (wl_nil (tn (wp_seq (wp_seq (wrl (wv (p0) z z z (wv (.int .i64 a1) z z z ?_)))))))))
 replace hst := objO_some hst
 obtain ⟨t237, ht238, hm⟩ := bind_some hm
 refine wc call23 [p0, I6 a1] z z z ?_
 refine (label_Lattice_Is_ref hst.to1 ht238).mono ?_
 rintro _ w239 ⟨rfl, hst⟩
 refine ⟨_, z, ?_⟩
 replace hst := hst.of1
 replace hst := objO_get hst
 refine wv (.bool (!t237)) z z z (wv (.bool (!t237)) z z z ?_)
 refine bsplit (!t237) (fun hc242 => ?_) (fun hc242 => ?_)
 {
 replace hm := bif_t hc242 hm
 refine wo hc242 z z z z z z (wo hc242 z z z z z z (wo hc242 z z z z z z (wo hc242 z z z z z z (wv (.bool true) z z (x_pick_t hc242 z z) (wl_nil (tn ?_))))))
 refine wp_ift z ?_
 refine wp_seq (wrl (wv (.int .i64 ((-1):Int)) z z z (wl_nil (tn (wp_ret (then_r ?_))))))
 replace hst := objO_some hst
 obtain rfl := some_inj hm
 refine post_ret (vs := [I6 ((-1):Int)]) results14 (rvs_cons (rv_tmp z) rvs_nil) ?_
 exact ⟨z, hst.keep1⟩
}
 {
 replace hm := bif_f hc242 hm
 refine wv (p0) ((wanted_eq z z z (cvb hc242)).trans z) z z (wv (.int .i64 a2) ((wanted_eq z z z (cvb hc242)).trans z) z z ?_)
 replace hst := objO_some hst
 obtain ⟨t243, ht244, hm⟩ := bind_some hm
 refine wl_call ((wanted_eq z z z (cvb hc242)).trans z) z (x_call call23 z (vs := [p0, I6 a2]) z) ?_
 refine (label_Lattice_Is_ref hst.to1 ht244).mono ?_
 rintro _ w245 ⟨rfl, hst⟩
 refine ⟨_, z, ?_⟩
 replace hst := hst.of1
 replace hst := objO_get hst
 refine wv (.bool (!t243)) ((wanted_eq z z z (cvb hc242)).trans z) z z (wv (.bool (!t243)) z z (x_pick_f hc242 z z) (wl_nil (tn ?_)))
 refine bsplit (!t243) (fun hc248 => ?_) (fun hc248 => ?_)
 {
 replace hm := bif_t hc248 hm
 refine wp_ift (cvb hc248) ?_
 refine wp_seq (wrl (wv (.int .i64 ((-1):Int)) z z z (wl_nil (tn (wp_ret (then_r ?_))))))
 replace hst := objO_some hst
 obtain rfl := some_inj hm
 refine post_ret (vs := [I6 ((-1):Int)]) results14 (rvs_cons (rv_tmp z) rvs_nil) ?_
 exact ⟨z, hst.keep1⟩
}
 {
 replace hm := bif_f hc248 hm
 refine wp_iff (cvb hc248) ?_
 refine wp_skip (tn (wp_seq (wrl ?_)))
 refine wv (p0) z z z ?_
 obtain ⟨b249, v250, v252, v254, v256, v258, v260, rfl, hst'⟩ := at_label_Lattice_open hst
 clear hst
 have hst := hst'
 clear hst'
 refine wv (Pt b249 0) z z z (wv (Pt b249 3) z z (x_field z underlying49 z sizeOf47 z) (wv (v256) z z (x_load z isAgg47 (hst.bc0 z)) (wv (.int .i64 a1) z z z ?_)))
 obtain ⟨x262, hx263, hm⟩ := bind_some hm
 obtain ⟨h264, h265, hi266⟩ := geto_some hx263
 refine wv (.pointer (some (eAddr v256 (a1.toNat * 1 + 0)))) z z (x_index z z underlying47 sizeOf41 hst.sv4 h264 h265) ?_
 obtain ⟨cs267, hr268, hc269⟩ := hst.og4 hi266
 obtain ⟨v270, rfl, f271, -⟩ := hr268
 refine wv (v270) z z (x_load z isAgg41 (hc269 0 _ z)) (wv (.int .i64 a2) z z z ?_)
 obtain ⟨x273, hx274, hm⟩ := bind_some hm
 obtain ⟨h275, h276, hi277⟩ := geto_some hx274
 refine wv (.pointer (some (eAddr v270 (a2.toNat * 1 + 0)))) z z (x_index z z underlying41 sizeOf3 (ro_sliceV f271) h275 h276) (wv (.int .i64 x273) z z (x_load z isAgg3 (ro_load f271 hst hi277 (by rintro _ rfl; rfl))) (wv (.int .i64 x273) z z z (wl_nil (tn (wp_ret ?_)))))
 replace hst := hst.pull6.pull6.pull6.pull6.pull6.pull6.pull6
 replace hst := at_label_Lattice_close (pv := Pt b249 0) (x := o0) hst z
 replace hst := objO_some hst
 obtain rfl := some_inj hm
 refine post_ret (vs := [I6 x273]) results14 (rvs_cons (rv_tmp z) rvs_nil) ?_
 exact ⟨z, hst.keep1⟩
}
}
}
}

theorem ref03_Meet_ref {w0 w : World} {I : HL} {R : SP} {a0 : (List Int)} {r0_0 : Value} {a1 : Int} {a2 : Int} (f0_0 : Rd (tyInt .u64) R I r0_0 a0) (hst : St w0 w I [] R) {r : (Int)} (hm : ref03_Meet a0 a1 a2 = some r) :
  Calls prog 34 #[r0_0, I6 a1, I6 a2] w fun e w' => e = .returned (.int .i64 r) ∧ St w0 w' I [] R := by {
 unfold ref03_Meet at hm
 refine calls_start (args := [r0_0, I6 a1, I6 a2]) func34 z ntmps34 (Nat.le_of_ble_eq_true z) ?_
 refine wp_seq (wrl (wv (.int .i64 (0:Int)) z z z (wl_nil (tn (wp_seq (wp_seq (wrl (wv (.int .i64 (0:Int)) z z z (wl_nil (tn (wp_block ?_)))))))))))
 obtain ⟨n639, hm⟩ := loopO_some hm
 refine wp_loop_n (fun n a w => ∃ (z637 : Int) (σ638 : Nat → Value), loopN (ref03_Meet_l0 a0 a1 a2) n z637 = some r ∧ a = Fr 54 (upd (upd (upd (upd σ638 0 (r0_0)) 1 (.int .i64 a1)) 2 (.int .i64 a2)) 7 (.int .i64 z637)) ∧ St w0 w I [] R) n639 ⟨(0:Int), _, hm, (fu 0 r0_0 z (fu 1 (.int .i64 a1) z (fu 2 (.int .i64 a2) z (fu 7 (.int .i64 (0:Int)) z z)))), hst⟩ ?_
 rintro n645 _ w640 ⟨z637, σ638, hm, rfl, hst⟩
 obtain ⟨n642, y643, rfl, hm, hx644⟩ := loopN_some hm
 dsimp only [ref03_Meet_l0] at hm
 refine wp_seq (wp_seq (wrl (wv (.int .i64 z637) z z z (wv (r0_0) z z z (wv (.int .i64 ((a0).length : Int)) z z (x_len z underlying28 (rd_sliceV f0_0)) (wv (.bool (decide (z637 < ((a0).length : Int)))) z z z (wl_nil (tn ?_))))))))
 refine bsplit (decide (z637 < ((a0).length : Int))) (fun hc646 => ?_) (fun hc646 => ?_)
 {
 replace hm := bif_t hc646 hm
 refine wp_ift (cvb hc646) ?_
 refine wp_skip (tn (wp_seq (wp_block ?_)))
 obtain ⟨y661, hm, hx662⟩ := bind_some hm
 refine wp_cut (fun a w => ∃ (z658 : Bool) (σ659 : Nat → Value), (ref03_Meet_j1 a0 a1 a2 z637) z658 = some y643 ∧ a = Fr 54 (upd (upd (upd (upd (upd σ659 0 (r0_0)) 1 (.int .i64 a1)) 2 (.int .i64 a2)) 7 (.int .i64 z637)) 8 (.bool z658)) ∧ St w0 w I [] R) ?_ ?_
 {
 refine wrl (wv (r0_0) z z z (wv (.int .i64 z637) z z z (wv (.int .i64 a1) z z z ?_)))
 obtain ⟨t647, ht648, hm⟩ := bind_some hm
 refine wc call32 [r0_0, I6 z637, I6 a1] z z z ?_
 refine (ref03_Leq_ref (f0_0.mono (rd_weak _)) hst.to0 ht648).mono ?_
 rintro _ w649 ⟨rfl, hst⟩
 refine ⟨_, z, ?_⟩
 replace hst := hst.of0
 refine wv (.bool t647) z z z ?_
 refine bsplit t647 (fun hc652 => ?_) (fun hc652 => ?_)
 {
 replace hm := bif_t hc652 hm
 refine wv (r0_0) ((wanted_eq z z z (cvb hc652)).trans z) z z (wv (.int .i64 z637) ((wanted_eq z z z (cvb hc652)).trans z) z z (wv (.int .i64 a2) ((wanted_eq z z z (cvb hc652)).trans z) z z ?_))
 obtain ⟨t653, ht654, hm⟩ := bind_some hm
 refine wl_call ((wanted_eq z z z (cvb hc652)).trans z) z (x_call call32 z (vs := [r0_0, I6 z637, I6 a2]) z) ?_
 refine (ref03_Leq_ref (f0_0.mono (rd_weak _)) hst.to0 ht654).mono ?_
 rintro _ w655 ⟨rfl, hst⟩
 refine ⟨_, z, ?_⟩
 replace hst := hst.of0
 refine wv (.bool t653) z z (x_pick_t hc652 z z) (wv (.bool t653) z z z (wl_nil (tn ?_)))
 replace hst := hst.keep0
 obtain rfl := some_inj hm
 exact ⟨t653, _, hx662, (fu 0 r0_0 z (fu 1 (.int .i64 a1) z (fu 2 (.int .i64 a2) z (fu 7 (.int .i64 z637) z (fu 8 (.bool t653) z z))))), hst⟩
}
 {
 replace hm := bif_f hc652 hm
 refine wo hc652 z z z z z z (wo hc652 z z z z z z (wo hc652 z z z z z z (wo hc652 z z z z z z (wv (.bool false) z z (x_pick_f hc652 z z) (wv (.bool false) z z z (wl_nil (tn ?_)))))))
 replace hst := hst.keep0
 obtain rfl := some_inj hm
 exact ⟨false, _, hx662, (fu 0 r0_0 z (fu 1 (.int .i64 a1) z (fu 2 (.int .i64 a2) z (fu 7 (.int .i64 z637) z (fu 8 (.bool false) z z))))), hst⟩
}
}
 {
 clear hst
 rintro _ w663 ⟨z658, σ659, hm, rfl, hst⟩
 dsimp only [ref03_Meet_j1] at hm
 refine wp_seq (wp_seq (wrl (wv (.int .i64 (0:Int)) z z z (wl_nil (tn (wp_block ?_))))))
 obtain ⟨n709, hm⟩ := loopO_some hm
 refine wp_loop_n (fun n a w => ∃ (z706 : Bool) (z707 : Int) (σ708 : Nat → Value), loopN (ref03_Meet_l2 a0 a1 a2 z637) n (z706, z707) = some y643 ∧ a = Fr 54 (upd (upd (upd (upd (upd (upd σ708 0 (r0_0)) 1 (.int .i64 a1)) 2 (.int .i64 a2)) 7 (.int .i64 z637)) 8 (.bool z706)) 9 (.int .i64 z707)) ∧ St w0 w I [] R) n709 ⟨z658, (0:Int), _, hm, (fu 0 r0_0 z (fu 1 (.int .i64 a1) z (fu 2 (.int .i64 a2) z (fu 7 (.int .i64 z637) z (fu 8 (.bool z658) z (fu 9 (.int .i64 (0:Int)) z z)))))), hst⟩ ?_
 rintro n715 _ w710 ⟨z706, z707, σ708, hm, rfl, hst⟩
 obtain ⟨n712, y713, rfl, hm, hx714⟩ := loopN_some hm
 dsimp only [ref03_Meet_l2] at hm
 refine wp_seq (wp_seq (wrl (wv (.int .i64 z707) z z z (wv (r0_0) z z z (wv (.int .i64 ((a0).length : Int)) z z (x_len z underlying28 (rd_sliceV f0_0)) (wv (.bool (decide (z707 < ((a0).length : Int)))) z z z (wv (.bool (decide (z707 < ((a0).length : Int)))) z z z ?_)))))))
 refine bsplit (decide (z707 < ((a0).length : Int))) (fun hc716 => ?_) (fun hc716 => ?_)
 {
 replace hm := bif_t hc716 hm
 refine wv (.bool z706) ((wanted_eq z z z (cvb hc716)).trans z) z z (wv (.bool z706) z z (x_pick_t hc716 z z) (wl_nil (tn ?_)))
 refine bsplit z706 (fun hc717 => ?_) (fun hc717 => ?_)
 {
 replace hm := bif_t hc717 hm
 refine wp_ift (cvb hc717) ?_
 refine wp_skip (tn (wp_seq (wp_block (wp_seq (wrl ?_)))))
 refine wv (r0_0) z z z (wv (.int .i64 z707) z z z (wv (.int .i64 a1) z z z ?_))
 obtain ⟨t718, ht719, hm⟩ := bind_some hm
 refine wc call32 [r0_0, I6 z707, I6 a1] z z z ?_
 refine (ref03_Leq_ref (f0_0.mono (rd_weak _)) hst.to0 ht719).mono ?_
 rintro _ w720 ⟨rfl, hst⟩
 refine ⟨_, z, ?_⟩
 replace hst := hst.of0
 refine wv (.bool t718) z z z ?_
 refine bsplit t718 (fun hc723 => ?_) (fun hc723 => ?_)
 {
 replace hm := bif_t hc723 hm
 refine wv (r0_0) ((wanted_eq z z z (cvb hc723)).trans z) z z (wv (.int .i64 z707) ((wanted_eq z z z (cvb hc723)).trans z) z z (wv (.int .i64 a2) ((wanted_eq z z z (cvb hc723)).trans z) z z ?_))
 obtain ⟨t724, ht725, hm⟩ := bind_some hm
 refine wl_call ((wanted_eq z z z (cvb hc723)).trans z) z (x_call call32 z (vs := [r0_0, I6 z707, I6 a2]) z) ?_
 refine (ref03_Leq_ref (f0_0.mono (rd_weak _)) hst.to0 ht725).mono ?_
 rintro _ w726 ⟨rfl, hst⟩
 refine ⟨_, z, ?_⟩
 replace hst := hst.of0
 refine wv (.bool t724) z z (x_pick_t hc723 z z) (wv (.bool t724) z z z ?_)
 refine bsplit t724 (fun hc729 => ?_) (fun hc729 => ?_)
 {
 replace hm := bif_t hc729 hm
 refine wv (r0_0) ((wanted_eq z z z (cvb hc729)).trans z) z z (wv (.int .i64 z707) ((wanted_eq z z z (cvb hc729)).trans z) z z (wv (.int .i64 z637) ((wanted_eq z z z (cvb hc729)).trans z) z z ?_))
 obtain ⟨t730, ht731, hm⟩ := bind_some hm
 refine wl_call ((wanted_eq z z z (cvb hc729)).trans z) z (x_call call32 z (vs := [r0_0, I6 z707, I6 z637]) z) ?_
 refine (ref03_Leq_ref (f0_0.mono (rd_weak _)) hst.to0 ht731).mono ?_
 rintro _ w732 ⟨rfl, hst⟩
 refine ⟨_, z, ?_⟩
 replace hst := hst.of0
 refine wv (.bool (!t730)) ((wanted_eq z z z (cvb hc729)).trans z) z z (wv (.bool (!t730)) z z (x_pick_t hc729 z z) (wl_nil (tn ?_)))
 refine bsplit (!t730) (fun hc735 => ?_) (fun hc735 => ?_)
 {
 replace hm := bif_t hc735 hm
 refine wp_ift (cvb hc735) ?_
 refine wrl (wv (.bool false) z z z (wl_nil (blk_n (tn (wrl (wv (.int .i64 z707) z z z (wv (.int .i64 (i64.wrap (z707 + (1:Int)))) z z z (wv (.int .i64 (i64.wrap (z707 + (1:Int)))) z z z (wl_nil (tn ?_))))))))))
 replace hst := hst.keep0
 obtain rfl := some_inj hm
 exact ⟨_, Nat.lt_succ_self _, false, (i64.wrap (z707 + (1:Int))), _, hx714, (fu 0 r0_0 z (fu 1 (.int .i64 a1) z (fu 2 (.int .i64 a2) z (fu 7 (.int .i64 z637) z (fu 8 (.bool false) z (fu 9 (.int .i64 (i64.wrap (z707 + (1:Int)))) z z)))))), hst⟩
}
 {
 replace hm := bif_f hc735 hm
 refine wp_iff (cvb hc735) ?_
 refine wp_skip (blk_n (tn (wrl ?_)))
 refine wv (.int .i64 z707) z z z (wv (.int .i64 (i64.wrap (z707 + (1:Int)))) z z z (wv (.int .i64 (i64.wrap (z707 + (1:Int)))) z z z (wl_nil (tn ?_))))
 replace hst := hst.keep0
 obtain rfl := some_inj hm
 exact ⟨_, Nat.lt_succ_self _, z706, (i64.wrap (z707 + (1:Int))), _, hx714, (fu 0 r0_0 z (fu 1 (.int .i64 a1) z (fu 2 (.int .i64 a2) z (fu 7 (.int .i64 z637) z (fu 8 (.bool z706) z (fu 9 (.int .i64 (i64.wrap (z707 + (1:Int)))) z z)))))), hst⟩
}
}
 {
 replace hm := bif_f hc729 hm
 refine wo hc729 z z z z z z (wo hc729 z z z z z z (wo hc729 z z z z z z (wo hc729 z z z z z z (wo hc729 z z z z z z (wv (.bool false) z z (x_pick_f hc729 z z) (wl_nil (tn ?_)))))))
 refine wp_iff z ?_
 refine wp_skip (blk_n (tn (wrl ?_)))
 refine wv (.int .i64 z707) z z z (wv (.int .i64 (i64.wrap (z707 + (1:Int)))) z z z (wv (.int .i64 (i64.wrap (z707 + (1:Int)))) z z z (wl_nil (tn ?_))))
 replace hst := hst.keep0
 obtain rfl := some_inj hm
 exact ⟨_, Nat.lt_succ_self _, z706, (i64.wrap (z707 + (1:Int))), _, hx714, (fu 0 r0_0 z (fu 1 (.int .i64 a1) z (fu 2 (.int .i64 a2) z (fu 7 (.int .i64 z637) z (fu 8 (.bool z706) z (fu 9 (.int .i64 (i64.wrap (z707 + (1:Int)))) z z)))))), hst⟩
}
}
 {
 replace hm := bif_f hc723 hm
 refine wo hc723 z z z z z z (wo hc723 z z z z z z (wo hc723 z z z z z z (wo hc723 z z z z z z (wv (.bool false) z z (x_pick_f hc723 z z) (wv (.bool false) z z z (wz z z z z z z (wz z z z z z z (wz z z z z z z (wz z z z z z z (wz z z z z z z (wv (.bool false) z z (x_pick_f z z z) (wl_nil (tn ?_)))))))))))))
 refine wp_iff z ?_
 refine wp_skip (blk_n (tn (wrl ?_)))
 refine wv (.int .i64 z707) z z z (wv (.int .i64 (i64.wrap (z707 + (1:Int)))) z z z (wv (.int .i64 (i64.wrap (z707 + (1:Int)))) z z z (wl_nil (tn ?_))))
 replace hst := hst.keep0
 obtain rfl := some_inj hm
 exact ⟨_, Nat.lt_succ_self _, z706, (i64.wrap (z707 + (1:Int))), _, hx714, (fu 0 r0_0 z (fu 1 (.int .i64 a1) z (fu 2 (.int .i64 a2) z (fu 7 (.int .i64 z637) z (fu 8 (.bool z706) z (fu 9 (.int .i64 (i64.wrap (z707 + (1:Int)))) z z)))))), hst⟩
}
}
 {
 replace hm := bif_f hc717 hm
 refine wp_iff (cvb hc717) ?_
 refine wp_exit (then_x (then_x ?_))
 replace hm := inr_up hm hx714
 refine blk_x (tn (wp_seq (wrl ?_)))
 refine wv (.bool z706) z z z (wl_nil (tn ?_))
 refine wp_iff (cvb hc717) ?_
 refine wp_skip (blk_n (tn (wrl ?_)))
 refine wv (.int .i64 z637) z z z (wv (.int .i64 (i64.wrap (z637 + (1:Int)))) z z z (wv (.int .i64 (i64.wrap (z637 + (1:Int)))) z z z (wl_nil (tn ?_))))
 replace hst := hst.keep0
 obtain rfl := some_inj hm
 exact ⟨_, Nat.lt_succ_self _, (i64.wrap (z637 + (1:Int))), _, hx644, (fu 0 r0_0 z (fu 1 (.int .i64 a1) z (fu 2 (.int .i64 a2) z (fu 7 (.int .i64 (i64.wrap (z637 + (1:Int)))) z z)))), hst⟩
}
}
 {
 replace hm := bif_f hc716 hm
 refine wo hc716 z z z z z z (wv (.bool false) z z (x_pick_f hc716 z z) (wl_nil (tn ?_)))
 refine wp_iff z ?_
 refine wp_exit (then_x (then_x ?_))
 replace hm := inr_up hm hx714
 refine blk_x (tn (wp_seq (wrl ?_)))
 refine wv (.bool z706) z z z (wl_nil (tn ?_))
 refine bsplit z706 (fun hc736 => ?_) (fun hc736 => ?_)
 {
 replace hm := bif_t hc736 hm
 refine wp_ift (cvb hc736) ?_
 refine wp_seq (wrl (wv (.int .i64 z637) z z z (wv (.int .i64 z637) z z z (wl_nil (tn (wp_ret (blk_r (then_r (then_r ?_)))))))))
 replace hm := inr_up hm hx644
 refine blk_r (then_r ?_)
 obtain rfl := some_inj hm
 refine post_ret (vs := [I6 z637]) results34 (rvs_cons (rv_tmp z) rvs_nil) ?_
 exact ⟨z, hst.keep0⟩
}
 {
 replace hm := bif_f hc736 hm
 refine wp_iff (cvb hc736) ?_
 refine wp_skip (blk_n (tn (wrl ?_)))
 refine wv (.int .i64 z637) z z z (wv (.int .i64 (i64.wrap (z637 + (1:Int)))) z z z (wv (.int .i64 (i64.wrap (z637 + (1:Int)))) z z z (wl_nil (tn ?_))))
 replace hst := hst.keep0
 obtain rfl := some_inj hm
 exact ⟨_, Nat.lt_succ_self _, (i64.wrap (z637 + (1:Int))), _, hx644, (fu 0 r0_0 z (fu 1 (.int .i64 a1) z (fu 2 (.int .i64 a2) z (fu 7 (.int .i64 (i64.wrap (z637 + (1:Int)))) z z)))), hst⟩
}
}
}
}
 {
 replace hm := bif_f hc646 hm
 refine wp_iff (cvb hc646) ?_
 refine wp_exit (then_x (then_x ?_))
 replace hm := inr_up hm hx644
 refine blk_x (tn (wp_seq (wrl ?_)))
 refine wv (.int .i64 ((-1):Int)) z z z (wl_nil (tn (wp_ret ?_)))
 obtain rfl := some_inj hm
 refine post_ret (vs := [I6 ((-1):Int)]) results34 (rvs_cons (rv_tmp z) rvs_nil) ?_
 exact ⟨z, hst.keep0⟩
}
}

theorem label_Lattice_Below_ref {w0 w : World} {I : HL} {R : SP} {a0 : (Option label_Lattice)} {p0 : Value} {a1 : Int}  (hst : St w0 w I [objO at_label_Lattice p0 a0] R) {r : ((List Int))} (hm : label_Lattice_Below a0 a1 = some r) :
  Calls prog 24 #[p0, I6 a1] w fun e w' => ∃ (q0_0 : Value), e = .returned (q0_0) ∧ St w0 w' I [ownS (tyInt .i64) q0_0 r, objO at_label_Lattice p0 a0] R := by {
 unfold label_Lattice_Below at hm
 refine calls_start (args := [p0, I6 a1]) func24 z ntmps24 (Nat.le_of_ble_eq_true z) ?_
 refine wp_seq (wrl (wv ((.slice none 0 0)) z z z (wl_nil (tn (wp_seq (wrl (wv ((.slice none 0 0)) z z z (wl_nil (tn (wp_seq (wp_seq (wrl (wv (p0) z z z ?_)))))))))))))
 obtain ⟨t558, ht559, hm⟩ := bind_some hm
 refine wc call12 [p0] z z z ?_
 refine (label_Lattice_Len_ref hst.to1 ht559).mono ?_
 rintro _ w560 ⟨rfl, hst⟩
 refine ⟨_, z, ?_⟩
 replace hst := hst.of1
 refine wv (.int .i64 (0:Int)) z z z (wl_nil (tn (wp_block ?_)))
 replace hst := hst.own_nil (tyInt .i64)
 obtain ⟨n623, hm⟩ := loopO_some hm
 refine wp_loop_n (fun n a w => ∃ (z618 : (List Int)) (z621 : Int) (v619 : Value) (σ622 : Nat → Value), loopN (label_Lattice_Below_l0 t558 a0 a1) n (z618, z621) = some r ∧ a = Fr 22 (upd (upd (upd (upd (upd σ622 0 (p0)) 1 (.int .i64 a1)) 5 (v619)) 8 (.int .i64 t558)) 9 (.int .i64 z621)) ∧ St w0 w I [ownS (tyInt .i64) v619 z618, objO at_label_Lattice p0 a0] R) n623 ⟨[], (0:Int), Zs, _, hm, (fu 0 p0 z (fu 1 (.int .i64 a1) z (fu 5 (.slice none 0 0) z (fu 8 (.int .i64 t558) z (fu 9 (.int .i64 (0:Int)) z z))))), hst⟩ ?_
 rintro n629 _ w624 ⟨z618, z621, v619, σ622, hm, rfl, hst⟩
 obtain ⟨n626, y627, rfl, hm, hx628⟩ := loopN_some hm
 dsimp only [label_Lattice_Below_l0] at hm
 refine wp_seq (wrl (wv (.bool (decide (z621 < t558))) z z z (wl_nil (tn (wp_seq ?_)))))
 refine bsplit (decide (z621 < t558)) (fun hc630 => ?_) (fun hc630 => ?_)
 {
 replace hm := bif_t hc630 hm
 refine wp_ift (cvb hc630) ?_
 refine wp_skip (tn (wp_seq (wp_block (wp_seq (wrl ?_)))))
 refine wv (.int .i64 z621) z z z (wv (.int .i64 z621) z z z (wl_nil (tn (wp_seq (wrl (wv (p0) z z z (wv (.int .i64 z621) z z z (wv (.int .i64 a1) z z z ?_))))))))
 replace hst := hst.pull1
 obtain ⟨t631, ht632, hm⟩ := bind_some hm
 refine wc call15 [p0, I6 z621, I6 a1] z z z ?_
 refine (label_Lattice_Leq_ref hst.to1 ht632).mono ?_
 rintro _ w633 ⟨rfl, hst⟩
 refine ⟨_, z, ?_⟩
 replace hst := hst.of1
 refine wl_nil (tn ?_)
 refine bsplit t631 (fun hc636 => ?_) (fun hc636 => ?_)
 {
 replace hm := bif_t hc636 hm
 refine wp_ift (cvb hc636) ?_
 refine wrl (wv (v619) z z z (wv (.int .i64 z621) z z z ?_))
 obtain ⟨b637, w638, ew639, eb640, hst⟩ := hst.lits (E := (tyInt .i64)) (xs := [z621]) [[I6 z621]] 3 1 z (Reps.cons z Reps.nil)
 refine wl_run (v := (.slice (some ⟨b637, 0, none⟩) 1 1)) (w' := w638) z z (x_als (by kernel_rfl) ew639 eb640) ?_
 obtain ⟨hg642, hm⟩ := gd_some hm
 replace hst := hst.pull2
 obtain ⟨v643, w644, hr645, hst⟩ := run_append elem_41 underlying41 hst hst.src1 (room_of hg642 z) 41
 refine wl_run (v := v643) (w' := w644) z z (x_append z z hr645) ?_
 refine wv (v643) z z z (wl_nil (blk_n (tn (wrl (wv (.int .i64 (i64.wrap (z621 + (1:Int)))) z z z (wv (.int .i64 (i64.wrap (z621 + (1:Int)))) z z z (wl_nil (tn ?_))))))))
 replace hst := hst.pull2.pull1.keep2
 obtain rfl := some_inj hm
 exact ⟨_, Nat.lt_succ_self _, (z618 ++ ([z621])), (i64.wrap (z621 + (1:Int))), v643, _, hx628, (fu 0 p0 z (fu 1 (.int .i64 a1) z (fu 5 v643 z (fu 8 (.int .i64 t558) z (fu 9 (.int .i64 (i64.wrap (z621 + (1:Int)))) z z))))), hst⟩
}
 {
 replace hm := bif_f hc636 hm
 refine wp_iff (cvb hc636) ?_
 refine wp_skip (blk_n (tn (wrl ?_)))
 refine wv (.int .i64 (i64.wrap (z621 + (1:Int)))) z z z (wv (.int .i64 (i64.wrap (z621 + (1:Int)))) z z z (wl_nil (tn ?_)))
 replace hst := hst.pull1.keep2
 obtain rfl := some_inj hm
 exact ⟨_, Nat.lt_succ_self _, z618, (i64.wrap (z621 + (1:Int))), v619, _, hx628, (fu 0 p0 z (fu 1 (.int .i64 a1) z (fu 5 v619 z (fu 8 (.int .i64 t558) z (fu 9 (.int .i64 (i64.wrap (z621 + (1:Int)))) z z))))), hst⟩
}
}
 {
 replace hm := bif_f hc630 hm
 refine wp_iff (cvb hc630) ?_
 refine wp_exit (then_x (then_x ?_))
 replace hm := inr_up hm hx628
 refine blk_x (tn (wp_seq (wrl ?_)))
 refine wv (v619) z z z (wv (v619) z z z (wl_nil (tn (wp_ret ?_))))
 obtain rfl := some_inj hm
 refine post_ret (vs := [v619]) results24 (rvs_cons (rv_tmp z) rvs_nil) ?_
 replace hst := hst.pull1.pull1
 exact ⟨v619, z, hst.keep2⟩
}
}

end Go.Proofs.Ytddhkbholbcebaa
