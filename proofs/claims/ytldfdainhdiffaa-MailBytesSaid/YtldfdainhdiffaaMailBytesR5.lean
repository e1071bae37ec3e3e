/- The Go functions refine their models, part 5. -/
import Derived.Test.YtldfdainhdiffaaMailBytesR4
set_option linter.unusedVariables false
set_option linter.unusedSimpArgs false
set_option maxRecDepth 100000
set_option maxHeartbeats 4000000
namespace Go.Proofs.Ytldfdainhdiffaa
open Go Go.V
open _root_.Go.Proofs.Try IntKind
attribute [local irreducible] wpList Code.wp wpQuiet Calls bodyPost Oper.wp wpS Nx PendOK YieldsIn
theorem ref11_SameHold_ref {w0 w : World} {I : HL} {R : SP} {a0 : api_Hold} {r0_0 : Value} {r0_1 : Value} {r0_2 : Value} {r0_3 : Value} {a1 : api_Hold} {r1_0 : Value} {r1_1 : Value} {r1_2 : Value} {r1_3 : Value} (f0_0 : Rd tyF64 R I r0_0 a0.Gets) (f0_1 : Rd tyF2 R I r0_1 a0.Scans) (f0_2 : Rd tyF64 R I r0_2 a0.Puts) (f0_3 : Rd (tyInt .u8) R I r0_3 a0.Data) (f1_0 : Rd tyF64 R I r1_0 a1.Gets) (f1_1 : Rd tyF2 R I r1_1 a1.Scans) (f1_2 : Rd tyF64 R I r1_2 a1.Puts) (f1_3 : Rd (tyInt .u8) R I r1_3 a1.Data) (hst : St w0 w I [] R) {r : (Bool)} (hm : ref11_SameHold a0 a1 = some r) :
  Calls prog 42 #[.agg #[U6 a0.ID.Session, U6 a0.ID.Seq, U6 a0.Epoch, r0_0, r0_1, r0_2, r0_3], .agg #[U6 a1.ID.Session, U6 a1.ID.Seq, U6 a1.Epoch, r1_0, r1_1, r1_2, r1_3]] w fun e w' => e = .returned (.bool r) ∧ St w0 w' I [] R := by {
 unfold ref11_SameHold at hm
 refine calls_start (args := [.agg #[U6 a0.ID.Session, U6 a0.ID.Seq, U6 a0.Epoch, r0_0, r0_1, r0_2, r0_3], .agg #[U6 a1.ID.Session, U6 a1.ID.Seq, U6 a1.Epoch, r1_0, r1_1, r1_2, r1_3]]) func42 z ntmps42 (Nat.le_of_ble_eq_true z) ?_
 refine wp_seq (wrl ?_)
 obtain ⟨b509, w510, ew511, eb512, hst⟩ := hst.box [U6 a0.ID.Session, U6 a0.ID.Seq, U6 a0.Epoch, r0_0, r0_1, r0_2, r0_3] 36
 refine wl_run (v := Pt b509 0) (w' := w510) z z (x_al (by kernel_rfl) ew511 eb512) ?_
 obtain ⟨b514, w515, ew516, eb517, hst⟩ := hst.box [U6 a1.ID.Session, U6 a1.ID.Seq, U6 a1.Epoch, r1_0, r1_1, r1_2, r1_3] 36
 refine wl_run (v := Pt b514 0) (w' := w515) z z (x_al (by kernel_rfl) ew516 eb517) ?_
 refine wv (.bool false) z z z (wl_nil (tn (wp_seq (wp_seq (wrl (wv (Pt b509 0) z z (x_field z underlying36 z sizeOf32 z) (wv (.agg #[U6 a0.ID.Session, U6 a0.ID.Seq]) z z (x_loadN (cs := [U6 a0.ID.Session, U6 a0.ID.Seq]) z isAgg32 sizeOf32 (hst.bcs1 0 z)) (wv (Pt b514 0) z z (x_field z underlying36 z sizeOf32 z) (wv (.agg #[U6 a1.ID.Session, U6 a1.ID.Seq]) z z (x_loadN (cs := [U6 a1.ID.Session, U6 a1.ID.Seq]) z isAgg32 sizeOf32 (hst.bcs0 0 z)) (wv (.bool (!((a0.ID.Session == a1.ID.Session) && (a0.ID.Seq == a1.ID.Seq)))) z z (x_aggne2 z z (by kernel_rfl) underlying32 (by kernel_rfl) (by kernel_rfl) (by kernel_rfl) underlying25 underlying25 (fun _ _ _ => by kernel_rfl) (fun _ _ _ => by kernel_rfl)) (wv (.bool (!((a0.ID.Session == a1.ID.Session) && (a0.ID.Seq == a1.ID.Seq)))) z z z ?_)))))))))))
 refine bsplit (!((a0.ID.Session == a1.ID.Session) && (a0.ID.Seq == a1.ID.Seq))) (fun hc519 => ?_) (fun hc519 => ?_)
 {
 replace hm := bif_t hc519 hm
 refine wo hc519 z z z z z z (wo hc519 z z z z z z (wo hc519 z z z z z z (wo hc519 z z z z z z (wo hc519 z z z z z z (wv (.bool true) z z (x_pick_t hc519 z z) (wv (.bool true) z z z (wz z z z z z z (wz z z z z z z (wz z z z z z z (wz z z z z z z (wz z z z z z z (wz z z z z z z ?_))))))))))))
 refine wz z z z z z z (wv (.bool true) z z (x_pick_t z z z) (wv (.bool true) z z z (wz z z z z z z (wz z z z z z z (wz z z z z z z (wz z z z z z z (wz z z z z z z (wz z z z z z z (wz z z z z z z (wv (.bool true) z z (x_pick_t z z z) (wv (.bool true) z z z (wz z z z z z z ?_))))))))))))
 refine wz z z z z z z (wz z z z z z z (wz z z z z z z (wz z z z z z z (wz z z z z z z (wz z z z z z z (wv (.bool true) z z (x_pick_t z z z) (wv (.bool true) z z z (wz z z z z z z (wz z z z z z z (wz z z z z z z (wz z z z z z z (wz z z z z z z ?_))))))))))))
 refine wz z z z z z z (wz z z z z z z (wv (.bool true) z z (x_pick_t z z z) (wl_nil (tn ?_))))
 refine wp_ift z ?_
 refine wp_seq (wrl (wv (.bool false) z z z (wl_nil (tn (wp_ret (then_r ?_))))))
 obtain rfl := some_inj hm
 refine post_ret (vs := [.bool false]) results42 (rvs_cons (rv_tmp z) rvs_nil) ?_
 exact ⟨z, hst.keep0⟩
}
 {
 replace hm := bif_f hc519 hm
 refine wv (Pt b509 2) ((wanted_eq z z z (cvb hc519)).trans z) z (x_field z underlying36 z sizeOf25 z) (wv (.int .u64 a0.Epoch) ((wanted_eq z z z (cvb hc519)).trans z) z (x_load z isAgg25 (hst.bc1 z)) (wv (Pt b514 2) ((wanted_eq z z z (cvb hc519)).trans z) z (x_field z underlying36 z sizeOf25 z) (wv (.int .u64 a1.Epoch) ((wanted_eq z z z (cvb hc519)).trans z) z (x_load z isAgg25 (hst.bc0 z)) (wv (.bool (a0.Epoch != a1.Epoch)) ((wanted_eq z z z (cvb hc519)).trans z) z z (wv (.bool (a0.Epoch != a1.Epoch)) z z (x_pick_f hc519 z z) (wv (.bool (a0.Epoch != a1.Epoch)) z z z ?_))))))
 refine bsplit (a0.Epoch != a1.Epoch) (fun hc520 => ?_) (fun hc520 => ?_)
 {
 replace hm := bif_t hc520 hm
 refine wo hc520 z z z z z z (wo hc520 z z z z z z (wo hc520 z z z z z z (wo hc520 z z z z z z (wo hc520 z z z z z z (wo hc520 z z z z z z (wo hc520 z z z z z z (wv (.bool true) z z (x_pick_t hc520 z z) (wv (.bool true) z z z (wz z z z z z z (wz z z z z z z (wz z z z z z z (wz z z z z z z ?_))))))))))))
 refine wz z z z z z z (wz z z z z z z (wz z z z z z z (wv (.bool true) z z (x_pick_t z z z) (wv (.bool true) z z z (wz z z z z z z (wz z z z z z z (wz z z z z z z (wz z z z z z z (wz z z z z z z (wz z z z z z z (wz z z z z z z (wv (.bool true) z z (x_pick_t z z z) ?_))))))))))))
 refine wv (.bool true) z z z (wz z z z z z z (wz z z z z z z (wz z z z z z z (wz z z z z z z (wz z z z z z z (wz z z z z z z (wz z z z z z z (wv (.bool true) z z (x_pick_t z z z) (wl_nil (tn ?_))))))))))
 refine wp_ift z ?_
 refine wp_seq (wrl (wv (.bool false) z z z (wl_nil (tn (wp_ret (then_r ?_))))))
 obtain rfl := some_inj hm
 refine post_ret (vs := [.bool false]) results42 (rvs_cons (rv_tmp z) rvs_nil) ?_
 exact ⟨z, hst.keep0⟩
}
 {
 replace hm := bif_f hc520 hm
 refine wv (Pt b509 3) ((wanted_eq z z z (cvb hc520)).trans z) z (x_field z underlying36 z sizeOf33 z) (wv (r0_0) ((wanted_eq z z z (cvb hc520)).trans z) z (x_load z isAgg33 (hst.bc1 z)) (wv (.int .i64 ((a0.Gets).length : Int)) ((wanted_eq z z z (cvb hc520)).trans z) z (x_len z underlying33 (rd_sliceV f0_0)) (wv (Pt b514 3) ((wanted_eq z z z (cvb hc520)).trans z) z (x_field z underlying36 z sizeOf33 z) (wv (r1_0) ((wanted_eq z z z (cvb hc520)).trans z) z (x_load z isAgg33 (hst.bc0 z)) (wv (.int .i64 ((a1.Gets).length : Int)) ((wanted_eq z z z (cvb hc520)).trans z) z (x_len z underlying33 (rd_sliceV f1_0)) (wv (.bool (((a0.Gets).length : Int) != ((a1.Gets).length : Int))) ((wanted_eq z z z (cvb hc520)).trans z) z z (wv (.bool (((a0.Gets).length : Int) != ((a1.Gets).length : Int))) z z (x_pick_f hc520 z z) (wv (.bool (((a0.Gets).length : Int) != ((a1.Gets).length : Int))) z z z ?_))))))))
 refine bsplit (((a0.Gets).length : Int) != ((a1.Gets).length : Int)) (fun hc521 => ?_) (fun hc521 => ?_)
 {
 replace hm := bif_t hc521 hm
 refine wo hc521 z z z z z z (wo hc521 z z z z z z (wo hc521 z z z z z z (wo hc521 z z z z z z (wo hc521 z z z z z z (wo hc521 z z z z z z (wo hc521 z z z z z z (wv (.bool true) z z (x_pick_t hc521 z z) (wv (.bool true) z z z (wz z z z z z z (wz z z z z z z (wz z z z z z z (wz z z z z z z ?_))))))))))))
 refine wz z z z z z z (wz z z z z z z (wz z z z z z z (wv (.bool true) z z (x_pick_t z z z) (wv (.bool true) z z z (wz z z z z z z (wz z z z z z z (wz z z z z z z (wz z z z z z z (wz z z z z z z (wz z z z z z z (wz z z z z z z (wv (.bool true) z z (x_pick_t z z z) ?_))))))))))))
 refine wl_nil (tn ?_)
 refine wp_ift z ?_
 refine wp_seq (wrl (wv (.bool false) z z z (wl_nil (tn (wp_ret (then_r ?_))))))
 obtain rfl := some_inj hm
 refine post_ret (vs := [.bool false]) results42 (rvs_cons (rv_tmp z) rvs_nil) ?_
 exact ⟨z, hst.keep0⟩
}
 {
 replace hm := bif_f hc521 hm
 refine wv (Pt b509 4) ((wanted_eq z z z (cvb hc521)).trans z) z (x_field z underlying36 z sizeOf34 z) (wv (r0_1) ((wanted_eq z z z (cvb hc521)).trans z) z (x_load z isAgg34 (hst.bc1 z)) (wv (.int .i64 ((a0.Scans).length : Int)) ((wanted_eq z z z (cvb hc521)).trans z) z (x_len z underlying34 (rd_sliceV f0_1)) (wv (Pt b514 4) ((wanted_eq z z z (cvb hc521)).trans z) z (x_field z underlying36 z sizeOf34 z) (wv (r1_1) ((wanted_eq z z z (cvb hc521)).trans z) z (x_load z isAgg34 (hst.bc0 z)) (wv (.int .i64 ((a1.Scans).length : Int)) ((wanted_eq z z z (cvb hc521)).trans z) z (x_len z underlying34 (rd_sliceV f1_1)) (wv (.bool (((a0.Scans).length : Int) != ((a1.Scans).length : Int))) ((wanted_eq z z z (cvb hc521)).trans z) z z (wv (.bool (((a0.Scans).length : Int) != ((a1.Scans).length : Int))) z z (x_pick_f hc521 z z) (wv (.bool (((a0.Scans).length : Int) != ((a1.Scans).length : Int))) z z z ?_))))))))
 refine bsplit (((a0.Scans).length : Int) != ((a1.Scans).length : Int)) (fun hc522 => ?_) (fun hc522 => ?_)
 {
 replace hm := bif_t hc522 hm
 refine wo hc522 z z z z z z (wo hc522 z z z z z z (wo hc522 z z z z z z (wo hc522 z z z z z z (wo hc522 z z z z z z (wo hc522 z z z z z z (wo hc522 z z z z z z (wv (.bool true) z z (x_pick_t hc522 z z) (wv (.bool true) z z z (wz z z z z z z (wz z z z z z z (wz z z z z z z (wz z z z z z z ?_))))))))))))
 refine wz z z z z z z (wz z z z z z z (wz z z z z z z (wv (.bool true) z z (x_pick_t z z z) (wl_nil (tn ?_)))))
 refine wp_ift z ?_
 refine wp_seq (wrl (wv (.bool false) z z z (wl_nil (tn (wp_ret (then_r ?_))))))
 obtain rfl := some_inj hm
 refine post_ret (vs := [.bool false]) results42 (rvs_cons (rv_tmp z) rvs_nil) ?_
 exact ⟨z, hst.keep0⟩
}
 {
 replace hm := bif_f hc522 hm
 refine wv (Pt b509 5) ((wanted_eq z z z (cvb hc522)).trans z) z (x_field z underlying36 z sizeOf33 z) (wv (r0_2) ((wanted_eq z z z (cvb hc522)).trans z) z (x_load z isAgg33 (hst.bc1 z)) (wv (.int .i64 ((a0.Puts).length : Int)) ((wanted_eq z z z (cvb hc522)).trans z) z (x_len z underlying33 (rd_sliceV f0_2)) (wv (Pt b514 5) ((wanted_eq z z z (cvb hc522)).trans z) z (x_field z underlying36 z sizeOf33 z) (wv (r1_2) ((wanted_eq z z z (cvb hc522)).trans z) z (x_load z isAgg33 (hst.bc0 z)) (wv (.int .i64 ((a1.Puts).length : Int)) ((wanted_eq z z z (cvb hc522)).trans z) z (x_len z underlying33 (rd_sliceV f1_2)) (wv (.bool (((a0.Puts).length : Int) != ((a1.Puts).length : Int))) ((wanted_eq z z z (cvb hc522)).trans z) z z (wv (.bool (((a0.Puts).length : Int) != ((a1.Puts).length : Int))) z z (x_pick_f hc522 z z) (wv (.bool (((a0.Puts).length : Int) != ((a1.Puts).length : Int))) z z z ?_))))))))
 refine bsplit (((a0.Puts).length : Int) != ((a1.Puts).length : Int)) (fun hc523 => ?_) (fun hc523 => ?_)
 {
 replace hm := bif_t hc523 hm
 refine wo hc523 z z z z z z (wo hc523 z z z z z z (wo hc523 z z z z z z (wo hc523 z z z z z z (wo hc523 z z z z z z (wo hc523 z z z z z z (wo hc523 z z z z z z (wv (.bool true) z z (x_pick_t hc523 z z) (wl_nil (tn ?_)))))))))
 refine wp_ift z ?_
 refine wp_seq (wrl (wv (.bool false) z z z (wl_nil (tn (wp_ret (then_r ?_))))))
 obtain rfl := some_inj hm
 refine post_ret (vs := [.bool false]) results42 (rvs_cons (rv_tmp z) rvs_nil) ?_
 exact ⟨z, hst.keep0⟩
}
 {
 replace hm := bif_f hc523 hm
 refine wv (Pt b509 6) ((wanted_eq z z z (cvb hc523)).trans z) z (x_field z underlying36 z sizeOf22 z) (wv (r0_3) ((wanted_eq z z z (cvb hc523)).trans z) z (x_load z isAgg22 (hst.bc1 z)) (wv (.string (toStr a0.Data)) ((wanted_eq z z z (cvb hc523)).trans z) z (x_tostr underlying22 underlying9 underlying5 z (Src.of_rd hst f0_3 flat_int)) (wv (Pt b514 6) ((wanted_eq z z z (cvb hc523)).trans z) z (x_field z underlying36 z sizeOf22 z) (wv (r1_3) ((wanted_eq z z z (cvb hc523)).trans z) z (x_load z isAgg22 (hst.bc0 z)) (wv (.string (toStr a1.Data)) ((wanted_eq z z z (cvb hc523)).trans z) z (x_tostr underlying22 underlying9 underlying5 z (Src.of_rd hst f1_3 flat_int)) (wv (.bool (!(sEq (toStr a0.Data) (toStr a1.Data)))) ((wanted_eq z z z (cvb hc523)).trans z) z (by kernel_rfl) (wv (.bool (!(sEq (toStr a0.Data) (toStr a1.Data)))) z z (x_pick_f hc523 z z) (wl_nil (tn ?_)))))))))
 refine bsplit (!(sEq (toStr a0.Data) (toStr a1.Data))) (fun hc524 => ?_) (fun hc524 => ?_)
 {
 replace hm := bif_t hc524 hm
 refine wp_ift (cvb hc524) ?_
 refine wp_seq (wrl (wv (.bool false) z z z (wl_nil (tn (wp_ret (then_r ?_))))))
 obtain rfl := some_inj hm
 refine post_ret (vs := [.bool false]) results42 (rvs_cons (rv_tmp z) rvs_nil) ?_
 exact ⟨z, hst.keep0⟩
}
 {
 replace hm := bif_f hc524 hm
 refine wp_iff (cvb hc524) ?_
 refine wp_skip (tn ?_)
 obtain ⟨y588, hm, hx589⟩ := joinO_some hm
 refine wp_cut (fun a w => ∃ (σ586 : Nat → Value), (ref11_SameHold_j0 a0 a1) () = some r ∧ a = Fr 131 (upd (upd σ586 2 (Pt b509 0)) 3 (Pt b514 0)) ∧ St w0 w I [cells b509 [U6 a0.ID.Session, U6 a0.ID.Seq, U6 a0.Epoch, r0_0, r0_1, r0_2, r0_3], cells b514 [U6 a1.ID.Session, U6 a1.ID.Seq, U6 a1.Epoch, r1_0, r1_1, r1_2, r1_3]] R) ?_ ?_
 {
 refine wp_seq (wrl (wv (.int .i64 (0:Int)) z z z (wl_nil (tn (wp_block ?_)))))
 obtain ⟨n562, hm⟩ := loopO_some hm
 refine wp_loop_n (fun n a w => ∃ (z560 : Int) (σ561 : Nat → Value), loopN (ref11_SameHold_l1 a0 a1) n z560 = some y588 ∧ a = Fr 131 (upd (upd (upd σ561 2 (Pt b509 0)) 3 (Pt b514 0)) 5 (.int .i64 z560)) ∧ St w0 w I [cells b514 [U6 a1.ID.Session, U6 a1.ID.Seq, U6 a1.Epoch, r1_0, r1_1, r1_2, r1_3], cells b509 [U6 a0.ID.Session, U6 a0.ID.Seq, U6 a0.Epoch, r0_0, r0_1, r0_2, r0_3]] R) n562 ⟨(0:Int), _, hm, (fu 2 (Pt b509 0) z (fu 3 (Pt b514 0) z (fu 5 (.int .i64 (0:Int)) z z))), hst⟩ ?_
 rintro n568 _ w563 ⟨z560, σ561, hm, rfl, hst⟩
 obtain ⟨n565, y566, rfl, hm, hx567⟩ := loopN_some hm
 dsimp only [ref11_SameHold_l1] at hm
 refine wp_seq (wp_seq (wrl (wv (.int .i64 z560) z z z (wv (Pt b509 3) z z (x_field z underlying36 z sizeOf33 z) (wv (r0_0) z z (x_load z isAgg33 (hst.bc1 z)) (wv (.int .i64 ((a0.Gets).length : Int)) z z (x_len z underlying33 (rd_sliceV f0_0)) (wv (.bool (decide (z560 < ((a0.Gets).length : Int)))) z z z (wl_nil (tn ?_)))))))))
 refine bsplit (decide (z560 < ((a0.Gets).length : Int))) (fun hc569 => ?_) (fun hc569 => ?_)
 {
 replace hm := bif_t hc569 hm
 refine wp_ift (cvb hc569) ?_
 refine wp_skip (tn (wp_seq (wp_block (wp_seq ?_))))
 refine wp_region_St hst 12 [0, 1, 2, 3, 4, 5, 6, 7, 8, 9, 10, 11] [0, 1, 0, 7, 15, 0, 32, 0, 224, 480, 1023, 2047] [] z (by kernel_rfl) (by kernel_rfl) Try.mixed (by kernel_rfl) ?_
 refine wsr (Pt b509 3) 0 z z z (by kernel_rfl) (fun w hst => x_field z underlying36 z sizeOf33 z) (wsr (r0_0) 1 z z z (by kernel_rfl) (fun w hst => x_load z isAgg33 (hst.bc1 z)) (wsr (.int .i64 z560) 2 z z z (by kernel_rfl) (fun w hst => z) ?_))
 obtain ⟨x570, hx571, hm⟩ := bind_some hm
 obtain ⟨h572, h573, hi574⟩ := geto_some hx571
 refine wsr (.pointer (some (eAddr r0_0 (z560.toNat * 1 + 0)))) 3 z z z (by kernel_rfl) (fun w hst => x_index z z underlying33 sizeOf44 (rd_sliceV f0_0) h572 h573) (wsr (.float .f64 x570) 4 z z z (by kernel_rfl) (fun w hst => x_load z isAgg44 (rd_load f0_0 (HL.le.refl _) hst hi574 (by rintro _ rfl; rfl))) (wsr (Pt b514 3) 5 z z z (by kernel_rfl) (fun w hst => x_field z underlying36 z sizeOf33 z) (wsr (r1_0) 6 z z z (by kernel_rfl) (fun w hst => x_load z isAgg33 (hst.bc0 z)) (wsr (.int .i64 z560) 7 z z z (by kernel_rfl) (fun w hst => z) ?_))))
 obtain ⟨x575, hx576, hm⟩ := bind_some hm
 obtain ⟨h577, h578, hi579⟩ := geto_some hx576
 refine wsr (.pointer (some (eAddr r1_0 (z560.toNat * 1 + 0)))) 8 z z z (by kernel_rfl) (fun w hst => x_index z z underlying33 sizeOf44 (rd_sliceV f1_0) h577 h578) (wsr (.float .f64 x575) 9 z z z (by kernel_rfl) (fun w hst => x_load z isAgg44 (rd_load f1_0 (HL.le.refl _) hst hi579 (by rintro _ rfl; rfl))) ?_)
 refine ws_e1 10 (by kernel_rfl) ?_
 refine nxe [11] (by kernel_rfl) z z ?_
 clear hst
 intro w hst
 obtain ⟨t580, ht581, hm⟩ := bind_some hm
 refine wec call64 [F6 x570, F6 x575] z z ?_
 refine (ref01_Same_ref hst.to0 ht581).mono ?_
 rintro _ w582 ⟨rfl, hst⟩
 refine ⟨_, z, ?_⟩
 replace hst := hst.of0
 refine ws_next (pend' := []) hst (by kernel_rfl) pk_nil ?_
 refine wsr (.bool (!t580)) 11 z z z (by kernel_rfl) (fun w hst => z) ?_
 refine ws_nil ?_
 intro w hst
 refine tn ?_
 refine bsplit (!t580) (fun hc585 => ?_) (fun hc585 => ?_)
 {
 replace hm := bif_t hc585 hm
 refine wp_ift (cvb hc585) ?_
 refine wp_seq (wrl (wv (.bool false) z z z (wl_nil (tn (wp_ret (blk_r (then_r (then_r ?_))))))))
 replace hm := inr_up hm hx567
 refine blk_r (then_r ?_)
 replace hm := inr_up hm hx589
 obtain rfl := some_inj hm
 refine post_ret (vs := [.bool false]) results42 (rvs_cons (rv_tmp z) rvs_nil) ?_
 exact ⟨z, hst.keep0⟩
}
 {
 replace hm := bif_f hc585 hm
 refine wp_iff (cvb hc585) ?_
 refine wp_skip (blk_n (tn (wrl ?_)))
 refine wv (.int .i64 z560) z z z (wv (.int .i64 (i64.wrap (z560 + (1:Int)))) z z z (wv (.int .i64 (i64.wrap (z560 + (1:Int)))) z z z (wl_nil (tn ?_))))
 replace hst := hst.pull1.pull1.keep2
 obtain rfl := some_inj hm
 exact ⟨_, Nat.lt_succ_self _, (i64.wrap (z560 + (1:Int))), _, hx567, (fu 2 (Pt b509 0) z (fu 3 (Pt b514 0) z (fu 5 (.int .i64 (i64.wrap (z560 + (1:Int)))) z z))), hst⟩
}
}
 {
 replace hm := bif_f hc569 hm
 refine wp_iff (cvb hc569) ?_
 refine wp_exit (then_x (then_x ?_))
 replace hm := inr_up hm hx567
 refine blk_x (tn ?_)
 replace hst := hst.pull1.keep2
 obtain rfl := some_inj hm
 exact ⟨_, hx589, (fu 2 (Pt b509 0) z (fu 3 (Pt b514 0) z z)), hst⟩
}
}
 {
 clear hst
 rintro _ w590 ⟨σ586, hm, rfl, hst⟩
 dsimp only [ref11_SameHold_j0] at hm
 obtain ⟨y672, hm, hx673⟩ := joinO_some hm
 refine wp_cut (fun a w => ∃ (σ670 : Nat → Value), (ref11_SameHold_j2 a0 a1) () = some r ∧ a = Fr 131 (upd (upd σ670 2 (Pt b509 0)) 3 (Pt b514 0)) ∧ St w0 w I [cells b509 [U6 a0.ID.Session, U6 a0.ID.Seq, U6 a0.Epoch, r0_0, r0_1, r0_2, r0_3], cells b514 [U6 a1.ID.Session, U6 a1.ID.Seq, U6 a1.Epoch, r1_0, r1_1, r1_2, r1_3]] R) ?_ ?_
 {
 refine wp_seq (wrl (wv (.int .i64 (0:Int)) z z z (wl_nil (tn (wp_block ?_)))))
 obtain ⟨n640, hm⟩ := loopO_some hm
 refine wp_loop_n (fun n a w => ∃ (z638 : Int) (σ639 : Nat → Value), loopN (ref11_SameHold_l3 a0 a1) n z638 = some y672 ∧ a = Fr 131 (upd (upd (upd σ639 2 (Pt b509 0)) 3 (Pt b514 0)) 6 (.int .i64 z638)) ∧ St w0 w I [cells b509 [U6 a0.ID.Session, U6 a0.ID.Seq, U6 a0.Epoch, r0_0, r0_1, r0_2, r0_3], cells b514 [U6 a1.ID.Session, U6 a1.ID.Seq, U6 a1.Epoch, r1_0, r1_1, r1_2, r1_3]] R) n640 ⟨(0:Int), _, hm, (fu 2 (Pt b509 0) z (fu 3 (Pt b514 0) z (fu 6 (.int .i64 (0:Int)) z z))), hst⟩ ?_
 rintro n646 _ w641 ⟨z638, σ639, hm, rfl, hst⟩
 obtain ⟨n643, y644, rfl, hm, hx645⟩ := loopN_some hm
 dsimp only [ref11_SameHold_l3] at hm
 refine wp_seq (wp_seq (wrl (wv (.int .i64 z638) z z z (wv (Pt b509 4) z z (x_field z underlying36 z sizeOf34 z) (wv (r0_1) z z (x_load z isAgg34 (hst.bc0 z)) (wv (.int .i64 ((a0.Scans).length : Int)) z z (x_len z underlying34 (rd_sliceV f0_1)) (wv (.bool (decide (z638 < ((a0.Scans).length : Int)))) z z z (wl_nil (tn ?_)))))))))
 refine bsplit (decide (z638 < ((a0.Scans).length : Int))) (fun hc647 => ?_) (fun hc647 => ?_)
 {
 replace hm := bif_t hc647 hm
 refine wp_ift (cvb hc647) ?_
 refine wp_skip (tn (wp_seq (wp_block (wp_seq ?_))))
 refine wp_region_St hst 30 [0, 1, 2, 3, 4, 5, 6, 7, 8, 9, 10, 11, 12, 13, 14, 15, 16, 17, 18, 19, 20, 21, 22, 23, 24, 25, 26, 27, 28, 29] [0, 1, 0, 7, 15, 31, 0, 64, 0, 448, 960, 1984, 4095, 8191, 16383, 32767, 65535, 32767, 262143, 524287, 1048575, 32767, 2129919, 32767, 14712831, 31490047, 65044479, 134217727, 268435455, 536870911] [] z (by kernel_rfl) (by kernel_rfl) Try.mixed (by kernel_rfl) ?_
 refine wsr (Pt b509 4) 0 z z z (by kernel_rfl) (fun w hst => x_field z underlying36 z sizeOf34 z) (wsr (r0_1) 1 z z z (by kernel_rfl) (fun w hst => x_load z isAgg34 (hst.bc0 z)) (wsr (.int .i64 z638) 2 z z z (by kernel_rfl) (fun w hst => z) ?_))
 obtain ⟨x648, hx649, hm⟩ := bind_some hm
 obtain ⟨h650, h651, hi652⟩ := geto_some hx649
 refine wsr (.pointer (some (eAddr r0_1 (z638.toNat * 2 + 0)))) 3 z z z (by kernel_rfl) (fun w hst => x_index z z underlying34 sizeOf102 (rd_sliceV f0_1) h650 h651) (wsr (.pointer (some (eAddr r0_1 (z638.toNat * 2 + 0)))) 4 z z z (by kernel_rfl) (fun w hst => x_index_arr_e (i := (0:Int)) z z underlying102 sizeOf44 (by decide) (by decide) z) (wsr (.float .f64 x648.1) 5 z z z (by kernel_rfl) (fun w hst => x_load z isAgg44 (rd_load f0_1 (HL.le.refl _) hst hi652 (by rintro _ rfl; rfl))) (wsr (Pt b514 4) 6 z z z (by kernel_rfl) (fun w hst => x_field z underlying36 z sizeOf34 z) (wsr (r1_1) 7 z z z (by kernel_rfl) (fun w hst => x_load z isAgg34 (hst.bc1 z)) (wsr (.int .i64 z638) 8 z z z (by kernel_rfl) (fun w hst => z) ?_)))))
 obtain ⟨x653, hx654, hm⟩ := bind_some hm
 obtain ⟨h655, h656, hi657⟩ := geto_some hx654
 refine wsr (.pointer (some (eAddr r1_1 (z638.toNat * 2 + 0)))) 9 z z z (by kernel_rfl) (fun w hst => x_index z z underlying34 sizeOf102 (rd_sliceV f1_1) h655 h656) (wsr (.pointer (some (eAddr r1_1 (z638.toNat * 2 + 0)))) 10 z z z (by kernel_rfl) (fun w hst => x_index_arr_e (i := (0:Int)) z z underlying102 sizeOf44 (by decide) (by decide) z) (wsr (.float .f64 x653.1) 11 z z z (by kernel_rfl) (fun w hst => x_load z isAgg44 (rd_load f1_1 (HL.le.refl _) hst hi657 (by rintro _ rfl; rfl))) ?_))
 refine ws_e1 12 (by kernel_rfl) ?_
 refine nxe [13, 14, 15, 16, 17, 18, 19, 20, 21, 22, 23, 24, 25, 26, 27, 28, 29] (by kernel_rfl) z z ?_
 clear hst
 intro w hst
 obtain ⟨t658, ht659, hm⟩ := bind_some hm
 refine wec call64 [F6 x648.1, F6 x653.1] z z ?_
 refine (ref01_Same_ref hst.to0 ht659).mono ?_
 rintro _ w660 ⟨rfl, hst⟩
 refine ⟨_, z, ?_⟩
 replace hst := hst.of0
 refine ws_next (pend' := []) hst (by kernel_rfl) pk_nil ?_
 refine wsr (.bool (!t658)) 13 z z z (by kernel_rfl) (fun w hst => z) (wsr (.bool (!t658)) 14 z z z (by kernel_rfl) (fun w hst => z) ?_)
 refine bsplit (!t658) (fun hc663 => ?_) (fun hc663 => ?_)
 {
 replace hm := bif_t hc663 hm
 refine ws_q (v := undef) 15 [16, 17, 18, 19, 20, 21, 22, 23, 24, 25, 26, 27, 28, 29] (by kernel_rfl) z z (yi_off ((wanted_eq z z z (cvb hc663)).trans z)) (ws_q (v := undef) 16 [17, 18, 19, 20, 21, 22, 23, 24, 25, 26, 27, 28, 29] (by kernel_rfl) z z (yi_off ((wanted_eq z z z (cvb hc663)).trans z)) (ws_q (v := undef) 17 [18, 19, 20, 21, 22, 23, 24, 25, 26, 27, 28, 29] (by kernel_rfl) z z (yi_off ((wanted_eq z z z (cvb hc663)).trans z)) (ws_q (v := undef) 18 [19, 20, 21, 22, 23, 24, 25, 26, 27, 28, 29] (by kernel_rfl) z z (yi_off ((wanted_eq z z z (cvb hc663)).trans z)) (ws_q (v := undef) 19 [20, 21, 22, 23, 24, 25, 26, 27, 28, 29] (by kernel_rfl) z z (yi_off ((wanted_eq z z z (cvb hc663)).trans z)) (ws_q (v := undef) 20 [21, 22, 23, 24, 25, 26, 27, 28, 29] (by kernel_rfl) z z (yi_off ((wanted_eq z z z (cvb hc663)).trans z)) (ws_q (v := undef) 21 [22, 23, 24, 25, 26, 27, 28, 29] (by kernel_rfl) z z (yi_off ((wanted_eq z z z (cvb hc663)).trans z)) (ws_q (v := undef) 22 [23, 24, 25, 26, 27, 28, 29] (by kernel_rfl) z z (yi_off ((wanted_eq z z z (cvb hc663)).trans z)) (ws_q (v := undef) 23 [24, 25, 26, 27, 28, 29] (by kernel_rfl) z z (yi_off ((wanted_eq z z z (cvb hc663)).trans z)) (ws_q (v := undef) 24 [25, 26, 27, 28, 29] (by kernel_rfl) z z (yi_off ((wanted_eq z z z (cvb hc663)).trans z)) (ws_q (v := undef) 25 [26, 27, 28, 29] (by kernel_rfl) z z (yi_off ((wanted_eq z z z (cvb hc663)).trans z)) (ws_q (v := undef) 26 [27, 28, 29] (by kernel_rfl) z z (yi_off ((wanted_eq z z z (cvb hc663)).trans z)) (ws_q (v := undef) 27 [28, 29] (by kernel_rfl) z z (yi_off ((wanted_eq z z z (cvb hc663)).trans z)) ?_))))))))))))
 refine ws_q (v := undef) 28 [29] (by kernel_rfl) z z (yi_off ((wanted_eq z z z (cvb hc663)).trans z)) (wsr (.bool true) 29 z z z (by kernel_rfl) (fun w hst => x_pick_t hc663 z z) ?_)
 refine ws_nil ?_
 intro w hst
 refine tn ?_
 refine wp_ift z ?_
 refine wp_seq (wrl (wv (.bool false) z z z (wl_nil (tn (wp_ret (blk_r (then_r (then_r ?_))))))))
 replace hm := inr_up hm hx645
 refine blk_r (then_r ?_)
 replace hm := inr_up hm hx673
 obtain rfl := some_inj hm
 refine post_ret (vs := [.bool false]) results42 (rvs_cons (rv_tmp z) rvs_nil) ?_
 exact ⟨z, hst.keep0⟩
}
 {
 replace hm := bif_f hc663 hm
 refine ws_q (v := Pt b509 4) 15 [16, 17, 18, 19, 20, 21, 22, 23, 24, 25, 26, 27, 28, 29] (by kernel_rfl) z z (yi_run ((wanted_eq z z z (cvb hc663)).trans z) (fun w hst => x_field z underlying36 z sizeOf34 z)) (ws_q (v := r0_1) 16 [17, 18, 19, 20, 21, 22, 23, 24, 25, 26, 27, 28, 29] (by kernel_rfl) z z (yi_run ((wanted_eq z z z (cvb hc663)).trans z) (fun w hst => x_load z isAgg34 (hst.bc0 z))) (ws_q (v := .int .i64 z638) 17 [18, 19, 20, 21, 22, 23, 24, 25, 26, 27, 28, 29] (by kernel_rfl) z z (yi_run ((wanted_eq z z z (cvb hc663)).trans z) (fun w hst => z)) (ws_q (v := .pointer (some (eAddr r0_1 (z638.toNat * 2 + 0)))) 18 [19, 20, 21, 22, 23, 24, 25, 26, 27, 28, 29] (by kernel_rfl) z z (yi_run ((wanted_eq z z z (cvb hc663)).trans z) (fun w hst => x_index z z underlying34 sizeOf102 (rd_sliceV f0_1) h650 h651)) (ws_q (v := .pointer (some (eAddr r0_1 (z638.toNat * 2 + 1)))) 19 [20, 21, 22, 23, 24, 25, 26, 27, 28, 29] (by kernel_rfl) z z (yi_run ((wanted_eq z z z (cvb hc663)).trans z) (fun w hst => x_index_arr_e (i := (1:Int)) z z underlying102 sizeOf44 (by decide) (by decide) z)) (ws_q (v := .float .f64 x648.2) 20 [21, 22, 23, 24, 25, 26, 27, 28, 29] (by kernel_rfl) z z (yi_run ((wanted_eq z z z (cvb hc663)).trans z) (fun w hst => x_load z isAgg44 (rd_load f0_1 (HL.le.refl _) hst hi652 (by rintro _ rfl; rfl)))) (ws_q (v := Pt b514 4) 21 [22, 23, 24, 25, 26, 27, 28, 29] (by kernel_rfl) z z (yi_run ((wanted_eq z z z (cvb hc663)).trans z) (fun w hst => x_field z underlying36 z sizeOf34 z)) (ws_q (v := r1_1) 22 [23, 24, 25, 26, 27, 28, 29] (by kernel_rfl) z z (yi_run ((wanted_eq z z z (cvb hc663)).trans z) (fun w hst => x_load z isAgg34 (hst.bc1 z))) (ws_q (v := .int .i64 z638) 23 [24, 25, 26, 27, 28, 29] (by kernel_rfl) z z (yi_run ((wanted_eq z z z (cvb hc663)).trans z) (fun w hst => z)) (ws_q (v := .pointer (some (eAddr r1_1 (z638.toNat * 2 + 0)))) 24 [25, 26, 27, 28, 29] (by kernel_rfl) z z (yi_run ((wanted_eq z z z (cvb hc663)).trans z) (fun w hst => x_index z z underlying34 sizeOf102 (rd_sliceV f1_1) h655 h656)) (ws_q (v := .pointer (some (eAddr r1_1 (z638.toNat * 2 + 1)))) 25 [26, 27, 28, 29] (by kernel_rfl) z z (yi_run ((wanted_eq z z z (cvb hc663)).trans z) (fun w hst => x_index_arr_e (i := (1:Int)) z z underlying102 sizeOf44 (by decide) (by decide) z)) (ws_q (v := .float .f64 x653.2) 26 [27, 28, 29] (by kernel_rfl) z z (yi_run ((wanted_eq z z z (cvb hc663)).trans z) (fun w hst => x_load z isAgg44 (rd_load f1_1 (HL.le.refl _) hst hi657 (by rintro _ rfl; rfl)))) ?_)))))))))))
 refine ws_e1 27 (by kernel_rfl) ?_
 refine nxe [28, 29] (by kernel_rfl) z ((wanted_eq z z z (cvb hc663)).trans z) ?_
 clear hst
 intro w hst
 obtain ⟨t664, ht665, hm⟩ := bind_some hm
 refine wec call64 [F6 x648.2, F6 x653.2] z z ?_
 refine (ref01_Same_ref hst.to0 ht665).mono ?_
 rintro _ w666 ⟨rfl, hst⟩
 refine ⟨_, z, ?_⟩
 replace hst := hst.of0
 refine ws_next (pend' := []) hst (by kernel_rfl) pk_nil ?_
 refine ws_q (v := .bool (!t664)) 28 [29] (by kernel_rfl) z z (yi_run ((wanted_eq z z z (cvb hc663)).trans z) (fun w hst => z)) (wsr (.bool (!t664)) 29 z z z (by kernel_rfl) (fun w hst => x_pick_f hc663 z z) ?_)
 refine ws_nil ?_
 intro w hst
 refine tn ?_
 refine bsplit (!t664) (fun hc669 => ?_) (fun hc669 => ?_)
 {
 replace hm := bif_t hc669 hm
 refine wp_ift (cvb hc669) ?_
 refine wp_seq (wrl (wv (.bool false) z z z (wl_nil (tn (wp_ret (blk_r (then_r (then_r ?_))))))))
 replace hm := inr_up hm hx645
 refine blk_r (then_r ?_)
 replace hm := inr_up hm hx673
 obtain rfl := some_inj hm
 refine post_ret (vs := [.bool false]) results42 (rvs_cons (rv_tmp z) rvs_nil) ?_
 exact ⟨z, hst.keep0⟩
}
 {
 replace hm := bif_f hc669 hm
 refine wp_iff (cvb hc669) ?_
 refine wp_skip (blk_n (tn (wrl ?_)))
 refine wv (.int .i64 z638) z z z (wv (.int .i64 (i64.wrap (z638 + (1:Int)))) z z z (wv (.int .i64 (i64.wrap (z638 + (1:Int)))) z z z (wl_nil (tn ?_))))
 replace hst := hst.pull1.pull1.keep2
 obtain rfl := some_inj hm
 exact ⟨_, Nat.lt_succ_self _, (i64.wrap (z638 + (1:Int))), _, hx645, (fu 2 (Pt b509 0) z (fu 3 (Pt b514 0) z (fu 6 (.int .i64 (i64.wrap (z638 + (1:Int)))) z z))), hst⟩
}
}
}
 {
 replace hm := bif_f hc647 hm
 refine wp_iff (cvb hc647) ?_
 refine wp_exit (then_x (then_x ?_))
 replace hm := inr_up hm hx645
 refine blk_x (tn ?_)
 replace hst := hst.pull1.pull1.keep2
 obtain rfl := some_inj hm
 exact ⟨_, hx673, (fu 2 (Pt b509 0) z (fu 3 (Pt b514 0) z z)), hst⟩
}
}
 {
 clear hst
 rintro _ w674 ⟨σ670, hm, rfl, hst⟩
 dsimp only [ref11_SameHold_j2] at hm
 refine wp_seq (wp_seq (wrl (wv (.int .i64 (0:Int)) z z z (wl_nil (tn (wp_block ?_))))))
 obtain ⟨n712, hm⟩ := loopO_some hm
 refine wp_loop_n (fun n a w => ∃ (z710 : Int) (σ711 : Nat → Value), loopN (ref11_SameHold_l4 a0 a1) n z710 = some r ∧ a = Fr 131 (upd (upd (upd σ711 2 (Pt b509 0)) 3 (Pt b514 0)) 7 (.int .i64 z710)) ∧ St w0 w I [cells b509 [U6 a0.ID.Session, U6 a0.ID.Seq, U6 a0.Epoch, r0_0, r0_1, r0_2, r0_3], cells b514 [U6 a1.ID.Session, U6 a1.ID.Seq, U6 a1.Epoch, r1_0, r1_1, r1_2, r1_3]] R) n712 ⟨(0:Int), _, hm, (fu 2 (Pt b509 0) z (fu 3 (Pt b514 0) z (fu 7 (.int .i64 (0:Int)) z z))), hst⟩ ?_
 rintro n718 _ w713 ⟨z710, σ711, hm, rfl, hst⟩
 obtain ⟨n715, y716, rfl, hm, hx717⟩ := loopN_some hm
 dsimp only [ref11_SameHold_l4] at hm
 refine wp_seq (wp_seq (wrl (wv (.int .i64 z710) z z z (wv (Pt b509 5) z z (x_field z underlying36 z sizeOf33 z) (wv (r0_2) z z (x_load z isAgg33 (hst.bc0 z)) (wv (.int .i64 ((a0.Puts).length : Int)) z z (x_len z underlying33 (rd_sliceV f0_2)) (wv (.bool (decide (z710 < ((a0.Puts).length : Int)))) z z z (wl_nil (tn ?_)))))))))
 refine bsplit (decide (z710 < ((a0.Puts).length : Int))) (fun hc719 => ?_) (fun hc719 => ?_)
 {
 replace hm := bif_t hc719 hm
 refine wp_ift (cvb hc719) ?_
 refine wp_skip (tn (wp_seq (wp_block (wp_seq ?_))))
 refine wp_region_St hst 12 [0, 1, 2, 3, 4, 5, 6, 7, 8, 9, 10, 11] [0, 1, 0, 7, 15, 0, 32, 0, 224, 480, 1023, 2047] [] z (by kernel_rfl) (by kernel_rfl) Try.mixed (by kernel_rfl) ?_
 refine wsr (Pt b509 5) 0 z z z (by kernel_rfl) (fun w hst => x_field z underlying36 z sizeOf33 z) (wsr (r0_2) 1 z z z (by kernel_rfl) (fun w hst => x_load z isAgg33 (hst.bc0 z)) (wsr (.int .i64 z710) 2 z z z (by kernel_rfl) (fun w hst => z) ?_))
 obtain ⟨x720, hx721, hm⟩ := bind_some hm
 obtain ⟨h722, h723, hi724⟩ := geto_some hx721
 refine wsr (.pointer (some (eAddr r0_2 (z710.toNat * 1 + 0)))) 3 z z z (by kernel_rfl) (fun w hst => x_index z z underlying33 sizeOf44 (rd_sliceV f0_2) h722 h723) (wsr (.float .f64 x720) 4 z z z (by kernel_rfl) (fun w hst => x_load z isAgg44 (rd_load f0_2 (HL.le.refl _) hst hi724 (by rintro _ rfl; rfl))) (wsr (Pt b514 5) 5 z z z (by kernel_rfl) (fun w hst => x_field z underlying36 z sizeOf33 z) (wsr (r1_2) 6 z z z (by kernel_rfl) (fun w hst => x_load z isAgg33 (hst.bc1 z)) (wsr (.int .i64 z710) 7 z z z (by kernel_rfl) (fun w hst => z) ?_))))
 obtain ⟨x725, hx726, hm⟩ := bind_some hm
 obtain ⟨h727, h728, hi729⟩ := geto_some hx726
 refine wsr (.pointer (some (eAddr r1_2 (z710.toNat * 1 + 0)))) 8 z z z (by kernel_rfl) (fun w hst => x_index z z underlying33 sizeOf44 (rd_sliceV f1_2) h727 h728) (wsr (.float .f64 x725) 9 z z z (by kernel_rfl) (fun w hst => x_load z isAgg44 (rd_load f1_2 (HL.le.refl _) hst hi729 (by rintro _ rfl; rfl))) ?_)
 refine ws_e1 10 (by kernel_rfl) ?_
 refine nxe [11] (by kernel_rfl) z z ?_
 clear hst
 intro w hst
 obtain ⟨t730, ht731, hm⟩ := bind_some hm
 refine wec call64 [F6 x720, F6 x725] z z ?_
 refine (ref01_Same_ref hst.to0 ht731).mono ?_
 rintro _ w732 ⟨rfl, hst⟩
 refine ⟨_, z, ?_⟩
 replace hst := hst.of0
 refine ws_next (pend' := []) hst (by kernel_rfl) pk_nil ?_
 refine wsr (.bool (!t730)) 11 z z z (by kernel_rfl) (fun w hst => z) ?_
 refine ws_nil ?_
 intro w hst
 refine tn ?_
 refine bsplit (!t730) (fun hc735 => ?_) (fun hc735 => ?_)
 {
 replace hm := bif_t hc735 hm
 refine wp_ift (cvb hc735) ?_
 refine wp_seq (wrl (wv (.bool false) z z z (wl_nil (tn (wp_ret (blk_r (then_r (then_r ?_))))))))
 replace hm := inr_up hm hx717
 refine blk_r (then_r ?_)
 obtain rfl := some_inj hm
 refine post_ret (vs := [.bool false]) results42 (rvs_cons (rv_tmp z) rvs_nil) ?_
 exact ⟨z, hst.keep0⟩
}
 {
 replace hm := bif_f hc735 hm
 refine wp_iff (cvb hc735) ?_
 refine wp_skip (blk_n (tn (wrl ?_)))
 refine wv (.int .i64 z710) z z z (wv (.int .i64 (i64.wrap (z710 + (1:Int)))) z z z (wv (.int .i64 (i64.wrap (z710 + (1:Int)))) z z z (wl_nil (tn ?_))))
 replace hst := hst.pull1.pull1.keep2
 obtain rfl := some_inj hm
 exact ⟨_, Nat.lt_succ_self _, (i64.wrap (z710 + (1:Int))), _, hx717, (fu 2 (Pt b509 0) z (fu 3 (Pt b514 0) z (fu 7 (.int .i64 (i64.wrap (z710 + (1:Int)))) z z))), hst⟩
}
}
 {
 replace hm := bif_f hc719 hm
 refine wp_iff (cvb hc719) ?_
 refine wp_exit (then_x (then_x ?_))
 replace hm := inr_up hm hx717
 refine blk_x (tn (wp_seq (wrl ?_)))
 refine wv (.bool true) z z z (wl_nil (tn (wp_ret ?_)))
 obtain rfl := some_inj hm
 refine post_ret (vs := [.bool true]) results42 (rvs_cons (rv_tmp z) rvs_nil) ?_
 exact ⟨z, hst.keep0⟩
}
}
}
}
}
}
}
}
}
}

theorem ref11_SameGots_ref {w0 w : World} {I : HL} {R : SP} {a0 : (List api_Got)} {r0_0 : Value} {a1 : (List api_Got)} {r1_0 : Value} (f0_0 : Rd ty_api_Got R I r0_0 a0) (f1_0 : Rd ty_api_Got R I r1_0 a1) (hst : St w0 w I [] R) {r : (Bool)} (hm : ref11_SameGots a0 a1 = some r) :
  Calls prog 65 #[r0_0, r1_0] w fun e w' => e = .returned (.bool r) ∧ St w0 w' I [] R := by {
 unfold ref11_SameGots at hm
 refine calls_start (args := [r0_0, r1_0]) func65 z ntmps65 (Nat.le_of_ble_eq_true z) ?_
 refine wp_seq (wrl (wv (.bool false) z z z (wl_nil (tn (wp_seq (wp_seq (wrl (wv (r0_0) z z z (wv (.int .i64 ((a0).length : Int)) z z (x_len z underlying38 (rd_sliceV f0_0)) (wv (r1_0) z z z (wv (.int .i64 ((a1).length : Int)) z z (x_len z underlying38 (rd_sliceV f1_0)) (wv (.bool (((a0).length : Int) != ((a1).length : Int))) z z z (wl_nil (tn ?_))))))))))))))
 refine bsplit (((a0).length : Int) != ((a1).length : Int)) (fun hc373 => ?_) (fun hc373 => ?_)
 {
 replace hm := bif_t hc373 hm
 refine wp_ift (cvb hc373) ?_
 refine wp_seq (wrl (wv (.bool false) z z z (wl_nil (tn (wp_ret (then_r ?_))))))
 obtain rfl := some_inj hm
 refine post_ret (vs := [.bool false]) results65 (rvs_cons (rv_tmp z) rvs_nil) ?_
 exact ⟨z, hst.keep0⟩
}
 {
 replace hm := bif_f hc373 hm
 refine wp_iff (cvb hc373) ?_
 refine wp_skip (tn (wp_seq (wp_seq (wrl ?_))))
 refine wv (.int .i64 (0:Int)) z z z (wl_nil (tn (wp_block ?_)))
 obtain ⟨n427, hm⟩ := loopO_some hm
 refine wp_loop_n (fun n a w => ∃ (z425 : Int) (σ426 : Nat → Value), loopN (ref11_SameGots_l0 a0 a1) n z425 = some r ∧ a = Fr 43 (upd (upd (upd σ426 0 (r0_0)) 1 (r1_0)) 5 (.int .i64 z425)) ∧ St w0 w I [] R) n427 ⟨(0:Int), _, hm, (fu 0 r0_0 z (fu 1 r1_0 z (fu 5 (.int .i64 (0:Int)) z z))), hst⟩ ?_
 rintro n433 _ w428 ⟨z425, σ426, hm, rfl, hst⟩
 obtain ⟨n430, y431, rfl, hm, hx432⟩ := loopN_some hm
 dsimp only [ref11_SameGots_l0] at hm
 refine wp_seq (wp_seq (wrl (wv (.int .i64 z425) z z z (wv (r0_0) z z z (wv (.int .i64 ((a0).length : Int)) z z (x_len z underlying38 (rd_sliceV f0_0)) (wv (.bool (decide (z425 < ((a0).length : Int)))) z z z (wl_nil (tn ?_))))))))
 refine bsplit (decide (z425 < ((a0).length : Int))) (fun hc434 => ?_) (fun hc434 => ?_)
 {
 replace hm := bif_t hc434 hm
 refine wp_ift (cvb hc434) ?_
 refine wp_skip (tn (wp_seq (wp_block (wp_seq ?_))))
 refine wq_regionS hst Try.mixed (by kernel_rfl) ?_
 refine wq_run (v := r0_0) z z (fun w hst => z) ?_
 refine wq_run (v := .int .i64 z425) z z (fun w hst => z) ?_
 obtain ⟨x435, hx436, hm⟩ := bind_some hm
 obtain ⟨h437, h438, hi439⟩ := geto_some hx436
 refine wq_run (v := .pointer (some (eAddr r0_0 (z425.toNat * 2 + 0)))) z z (fun w hst => x_index z z underlying38 sizeOf104 (rd_sliceV f0_0) h437 h438) ?_
 refine wq_run (v := .pointer (some (eAddr r0_0 (z425.toNat * 2 + 0)))) z z (fun w hst => x_field_e z underlying104 z sizeOf4 z) ?_
 obtain ⟨cs440, hr441, hc442⟩ := Rd.getF f0_0 hi439
 obtain ⟨v443, rfl, f444, -⟩ := hr441
 refine wq_run (v := .bool x435.Has) z z (fun w hst => x_load z isAgg4 ((hc442 (HL.le.refl _) hst) 0 _ z)) ?_
 refine wq_run (v := r1_0) z z (fun w hst => z) ?_
 refine wq_run (v := .int .i64 z425) z z (fun w hst => z) ?_
 obtain ⟨x446, hx447, hm⟩ := bind_some hm
 obtain ⟨h448, h449, hi450⟩ := geto_some hx447
 refine wq_run (v := .pointer (some (eAddr r1_0 (z425.toNat * 2 + 0)))) z z (fun w hst => x_index z z underlying38 sizeOf104 (rd_sliceV f1_0) h448 h449) ?_
 refine wq_run (v := .pointer (some (eAddr r1_0 (z425.toNat * 2 + 0)))) z z (fun w hst => x_field_e z underlying104 z sizeOf4 z) ?_
 obtain ⟨cs451, hr452, hc453⟩ := Rd.getF f1_0 hi450
 obtain ⟨v454, rfl, f455, -⟩ := hr452
 refine wq_run (v := .bool x446.Has) z z (fun w hst => x_load z isAgg4 ((hc453 (HL.le.refl _) hst) 0 _ z)) ?_
 refine wq_run (v := .bool (!(x435.Has == x446.Has))) z z (fun w hst => by kernel_rfl) ?_
 refine wq_run (v := .bool (!(x435.Has == x446.Has))) z z (fun w hst => z) ?_
 refine bsplit (!(x435.Has == x446.Has)) (fun hc457 => ?_) (fun hc457 => ?_)
 {
 replace hm := bif_t hc457 hm
 refine wq_off ((wanted_eq z z z (cvb hc457)).trans z) z ?_
 refine wq_off ((wanted_eq z z z (cvb hc457)).trans z) z ?_
 refine wq_off ((wanted_eq z z z (cvb hc457)).trans z) z ?_
 refine wq_off ((wanted_eq z z z (cvb hc457)).trans z) z ?_
 refine wq_off ((wanted_eq z z z (cvb hc457)).trans z) z ?_
 refine wq_off ((wanted_eq z z z (cvb hc457)).trans z) z ?_
 refine wq_off ((wanted_eq z z z (cvb hc457)).trans z) z ?_
 refine wq_off ((wanted_eq z z z (cvb hc457)).trans z) z ?_
 refine wq_off ((wanted_eq z z z (cvb hc457)).trans z) z ?_
 refine wq_off ((wanted_eq z z z (cvb hc457)).trans z) z ?_
 refine wq_off ((wanted_eq z z z (cvb hc457)).trans z) z ?_
 refine wq_off ((wanted_eq z z z (cvb hc457)).trans z) z ?_
 refine wq_off ((wanted_eq z z z (cvb hc457)).trans z) z ?_
 refine wq_run (v := .bool true) z z (fun w hst => x_pick_t hc457 z z) ?_
 refine wq_nil ?_
 intro w hst
 refine tn ?_
 refine wp_ift z ?_
 refine wp_seq (wrl (wv (.bool false) z z z (wl_nil (tn (wp_ret (blk_r (then_r (then_r ?_))))))))
 replace hm := inr_up hm hx432
 refine blk_r (then_r ?_)
 obtain rfl := some_inj hm
 refine post_ret (vs := [.bool false]) results65 (rvs_cons (rv_tmp z) rvs_nil) ?_
 exact ⟨z, hst.keep0⟩
}
 {
 replace hm := bif_f hc457 hm
 refine wq_run (v := r0_0) ((wanted_eq z z z (cvb hc457)).trans z) z (fun w hst => z) ?_
 refine wq_run (v := .int .i64 z425) ((wanted_eq z z z (cvb hc457)).trans z) z (fun w hst => z) ?_
 refine wq_run (v := .pointer (some (eAddr r0_0 (z425.toNat * 2 + 0)))) ((wanted_eq z z z (cvb hc457)).trans z) z (fun w hst => x_index z z underlying38 sizeOf104 (rd_sliceV f0_0) h437 h438) ?_
 refine wq_run (v := .pointer (some (eAddr r0_0 (z425.toNat * 2 + 1)))) ((wanted_eq z z z (cvb hc457)).trans z) z (fun w hst => x_field_e z underlying104 z sizeOf22 z) ?_
 refine wq_run (v := v443) ((wanted_eq z z z (cvb hc457)).trans z) z (fun w hst => x_load z isAgg22 ((hc442 (HL.le.refl _) hst) 1 _ z)) ?_
 refine wq_run (v := .string (toStr x435.Val)) ((wanted_eq z z z (cvb hc457)).trans z) z (fun w hst => x_tostr underlying22 underlying9 underlying5 z (Src.of_rd hst f444 flat_int)) ?_
 refine wq_run (v := r1_0) ((wanted_eq z z z (cvb hc457)).trans z) z (fun w hst => z) ?_
 refine wq_run (v := .int .i64 z425) ((wanted_eq z z z (cvb hc457)).trans z) z (fun w hst => z) ?_
 refine wq_run (v := .pointer (some (eAddr r1_0 (z425.toNat * 2 + 0)))) ((wanted_eq z z z (cvb hc457)).trans z) z (fun w hst => x_index z z underlying38 sizeOf104 (rd_sliceV f1_0) h448 h449) ?_
 refine wq_run (v := .pointer (some (eAddr r1_0 (z425.toNat * 2 + 1)))) ((wanted_eq z z z (cvb hc457)).trans z) z (fun w hst => x_field_e z underlying104 z sizeOf22 z) ?_
 refine wq_run (v := v454) ((wanted_eq z z z (cvb hc457)).trans z) z (fun w hst => x_load z isAgg22 ((hc453 (HL.le.refl _) hst) 1 _ z)) ?_
 refine wq_run (v := .string (toStr x446.Val)) ((wanted_eq z z z (cvb hc457)).trans z) z (fun w hst => x_tostr underlying22 underlying9 underlying5 z (Src.of_rd hst f455 flat_int)) ?_
 refine wq_run (v := .bool (!(sEq (toStr x435.Val) (toStr x446.Val)))) ((wanted_eq z z z (cvb hc457)).trans z) z (fun w hst => by kernel_rfl) ?_
 refine wq_run (v := .bool (!(sEq (toStr x435.Val) (toStr x446.Val)))) z z (fun w hst => x_pick_f hc457 z z) ?_
 refine wq_nil ?_
 intro w hst
 refine tn ?_
 refine bsplit (!(sEq (toStr x435.Val) (toStr x446.Val))) (fun hc458 => ?_) (fun hc458 => ?_)
 {
 replace hm := bif_t hc458 hm
 refine wp_ift (cvb hc458) ?_
 refine wp_seq (wrl (wv (.bool false) z z z (wl_nil (tn (wp_ret (blk_r (then_r (then_r ?_))))))))
 replace hm := inr_up hm hx432
 refine blk_r (then_r ?_)
 obtain rfl := some_inj hm
 refine post_ret (vs := [.bool false]) results65 (rvs_cons (rv_tmp z) rvs_nil) ?_
 exact ⟨z, hst.keep0⟩
}
 {
 replace hm := bif_f hc458 hm
 refine wp_iff (cvb hc458) ?_
 refine wp_skip (blk_n (tn (wrl ?_)))
 refine wv (.int .i64 z425) z z z (wv (.int .i64 (i64.wrap (z425 + (1:Int)))) z z z (wv (.int .i64 (i64.wrap (z425 + (1:Int)))) z z z (wl_nil (tn ?_))))
 replace hst := hst.keep0
 obtain rfl := some_inj hm
 exact ⟨_, Nat.lt_succ_self _, (i64.wrap (z425 + (1:Int))), _, hx432, (fu 0 r0_0 z (fu 1 r1_0 z (fu 5 (.int .i64 (i64.wrap (z425 + (1:Int)))) z z))), hst⟩
}
}
}
 {
 replace hm := bif_f hc434 hm
 refine wp_iff (cvb hc434) ?_
 refine wp_exit (then_x (then_x ?_))
 replace hm := inr_up hm hx432
 refine blk_x (tn (wp_seq (wrl ?_)))
 refine wv (.bool true) z z z (wl_nil (tn (wp_ret ?_)))
 obtain rfl := some_inj hm
 refine post_ret (vs := [.bool true]) results65 (rvs_cons (rv_tmp z) rvs_nil) ?_
 exact ⟨z, hst.keep0⟩
}
}
}

theorem ref11_SamePairs_ref {w0 w : World} {I : HL} {R : SP} {a0 : (List api_Pair)} {r0_0 : Value} {a1 : (List api_Pair)} {r1_0 : Value} (f0_0 : Rd ty_api_Pair R I r0_0 a0) (f1_0 : Rd ty_api_Pair R I r1_0 a1) (hst : St w0 w I [] R) {r : (Bool)} (hm : ref11_SamePairs a0 a1 = some r) :
  Calls prog 66 #[r0_0, r1_0] w fun e w' => e = .returned (.bool r) ∧ St w0 w' I [] R := by {
 unfold ref11_SamePairs at hm
 refine calls_start (args := [r0_0, r1_0]) func66 z ntmps66 (Nat.le_of_ble_eq_true z) ?_
 refine wp_seq (wrl (wv (.bool false) z z z (wl_nil (tn (wp_seq (wp_seq (wrl (wv (r0_0) z z z (wv (.int .i64 ((a0).length : Int)) z z (x_len z underlying105 (rd_sliceV f0_0)) (wv (r1_0) z z z (wv (.int .i64 ((a1).length : Int)) z z (x_len z underlying105 (rd_sliceV f1_0)) (wv (.bool (((a0).length : Int) != ((a1).length : Int))) z z z (wl_nil (tn ?_))))))))))))))
 refine bsplit (((a0).length : Int) != ((a1).length : Int)) (fun hc432 => ?_) (fun hc432 => ?_)
 {
 replace hm := bif_t hc432 hm
 refine wp_ift (cvb hc432) ?_
 refine wp_seq (wrl (wv (.bool false) z z z (wl_nil (tn (wp_ret (then_r ?_))))))
 obtain rfl := some_inj hm
 refine post_ret (vs := [.bool false]) results66 (rvs_cons (rv_tmp z) rvs_nil) ?_
 exact ⟨z, hst.keep0⟩
}
 {
 replace hm := bif_f hc432 hm
 refine wp_iff (cvb hc432) ?_
 refine wp_skip (tn (wp_seq (wp_seq (wrl ?_))))
 refine wv (.int .i64 (0:Int)) z z z (wl_nil (tn (wp_block ?_)))
 obtain ⟨n520, hm⟩ := loopO_some hm
 refine wp_loop_n (fun n a w => ∃ (z518 : Int) (σ519 : Nat → Value), loopN (ref11_SamePairs_l0 a0 a1) n z518 = some r ∧ a = Fr 44 (upd (upd (upd σ519 0 (r0_0)) 1 (r1_0)) 5 (.int .i64 z518)) ∧ St w0 w I [] R) n520 ⟨(0:Int), _, hm, (fu 0 r0_0 z (fu 1 r1_0 z (fu 5 (.int .i64 (0:Int)) z z))), hst⟩ ?_
 rintro n526 _ w521 ⟨z518, σ519, hm, rfl, hst⟩
 obtain ⟨n523, y524, rfl, hm, hx525⟩ := loopN_some hm
 dsimp only [ref11_SamePairs_l0] at hm
 refine wp_seq (wp_seq (wrl (wv (.int .i64 z518) z z z (wv (r0_0) z z z (wv (.int .i64 ((a0).length : Int)) z z (x_len z underlying105 (rd_sliceV f0_0)) (wv (.bool (decide (z518 < ((a0).length : Int)))) z z z (wl_nil (tn ?_))))))))
 refine bsplit (decide (z518 < ((a0).length : Int))) (fun hc527 => ?_) (fun hc527 => ?_)
 {
 replace hm := bif_t hc527 hm
 refine wp_ift (cvb hc527) ?_
 refine wp_skip (tn (wp_seq (wp_block (wp_seq ?_))))
 refine wp_region_St hst 27 [0, 1, 2, 3, 4, 5, 6, 7, 8, 9, 10, 11, 12, 13, 14, 15, 16, 17, 18, 19, 20, 21, 22, 23, 24, 25, 26] [0, 0, 3, 7, 15, 0, 0, 96, 224, 480, 1023, 2047, 4095, 8191, 8191, 32767, 65535, 131071, 262143, 8191, 8191, 1581055, 3678207, 7872511, 16261119, 33554431, 67108863] [] z (by kernel_rfl) (by kernel_rfl) Try.mixed (by kernel_rfl) ?_
 refine wsr (r0_0) 0 z z z (by kernel_rfl) (fun w hst => z) (wsr (.int .i64 z518) 1 z z z (by kernel_rfl) (fun w hst => z) ?_)
 obtain ⟨x528, hx529, hm⟩ := bind_some hm
 obtain ⟨h530, h531, hi532⟩ := geto_some hx529
 refine wsr (.pointer (some (eAddr r0_0 (z518.toNat * 2 + 0)))) 2 z z z (by kernel_rfl) (fun w hst => x_index z z underlying105 sizeOf107 (rd_sliceV f0_0) h530 h531) (wsr (.pointer (some (eAddr r0_0 (z518.toNat * 2 + 0)))) 3 z z z (by kernel_rfl) (fun w hst => x_field_e z underlying107 z sizeOf44 z) ?_)
 obtain ⟨cs533, hr534, hc535⟩ := Rd.getF f0_0 hi532
 obtain ⟨v536, rfl, f537, -⟩ := hr534
 refine wsr (.float .f64 x528.At) 4 z z z (by kernel_rfl) (fun w hst => x_load z isAgg44 ((hc535 (HL.le.refl _) hst) 0 _ z)) (wsr (r1_0) 5 z z z (by kernel_rfl) (fun w hst => z) (wsr (.int .i64 z518) 6 z z z (by kernel_rfl) (fun w hst => z) ?_))
 obtain ⟨x539, hx540, hm⟩ := bind_some hm
 obtain ⟨h541, h542, hi543⟩ := geto_some hx540
 refine wsr (.pointer (some (eAddr r1_0 (z518.toNat * 2 + 0)))) 7 z z z (by kernel_rfl) (fun w hst => x_index z z underlying105 sizeOf107 (rd_sliceV f1_0) h541 h542) (wsr (.pointer (some (eAddr r1_0 (z518.toNat * 2 + 0)))) 8 z z z (by kernel_rfl) (fun w hst => x_field_e z underlying107 z sizeOf44 z) ?_)
 obtain ⟨cs544, hr545, hc546⟩ := Rd.getF f1_0 hi543
 obtain ⟨v547, rfl, f548, -⟩ := hr545
 refine wsr (.float .f64 x539.At) 9 z z z (by kernel_rfl) (fun w hst => x_load z isAgg44 ((hc546 (HL.le.refl _) hst) 0 _ z)) ?_
 refine ws_e1 10 (by kernel_rfl) ?_
 refine nxe [11, 12, 13, 14, 15, 16, 17, 18, 19, 20, 21, 22, 23, 24, 25, 26] (by kernel_rfl) z z ?_
 clear hst
 intro w hst
 obtain ⟨t550, ht551, hm⟩ := bind_some hm
 refine wec call64 [F6 x528.At, F6 x539.At] z z ?_
 refine (ref01_Same_ref hst.to0 ht551).mono ?_
 rintro _ w552 ⟨rfl, hst⟩
 refine ⟨_, z, ?_⟩
 replace hst := hst.of0
 refine ws_next (pend' := []) hst (by kernel_rfl) pk_nil ?_
 refine wsr (.bool (!t550)) 11 z z z (by kernel_rfl) (fun w hst => z) (wsr (.bool (!t550)) 12 z z z (by kernel_rfl) (fun w hst => z) ?_)
 refine bsplit (!t550) (fun hc555 => ?_) (fun hc555 => ?_)
 {
 replace hm := bif_t hc555 hm
 refine ws_q (v := undef) 13 [14, 15, 16, 17, 18, 19, 20, 21, 22, 23, 24, 25, 26] (by kernel_rfl) z z (yi_off ((wanted_eq z z z (cvb hc555)).trans z)) (ws_q (v := undef) 14 [15, 16, 17, 18, 19, 20, 21, 22, 23, 24, 25, 26] (by kernel_rfl) z z (yi_off ((wanted_eq z z z (cvb hc555)).trans z)) (ws_q (v := undef) 15 [16, 17, 18, 19, 20, 21, 22, 23, 24, 25, 26] (by kernel_rfl) z z (yi_off ((wanted_eq z z z (cvb hc555)).trans z)) (ws_q (v := undef) 16 [17, 18, 19, 20, 21, 22, 23, 24, 25, 26] (by kernel_rfl) z z (yi_off ((wanted_eq z z z (cvb hc555)).trans z)) (ws_q (v := undef) 17 [18, 19, 20, 21, 22, 23, 24, 25, 26] (by kernel_rfl) z z (yi_off ((wanted_eq z z z (cvb hc555)).trans z)) (ws_q (v := undef) 18 [19, 20, 21, 22, 23, 24, 25, 26] (by kernel_rfl) z z (yi_off ((wanted_eq z z z (cvb hc555)).trans z)) (ws_q (v := undef) 19 [20, 21, 22, 23, 24, 25, 26] (by kernel_rfl) z z (yi_off ((wanted_eq z z z (cvb hc555)).trans z)) (ws_q (v := undef) 20 [21, 22, 23, 24, 25, 26] (by kernel_rfl) z z (yi_off ((wanted_eq z z z (cvb hc555)).trans z)) (ws_q (v := undef) 21 [22, 23, 24, 25, 26] (by kernel_rfl) z z (yi_off ((wanted_eq z z z (cvb hc555)).trans z)) (ws_q (v := undef) 22 [23, 24, 25, 26] (by kernel_rfl) z z (yi_off ((wanted_eq z z z (cvb hc555)).trans z)) (ws_q (v := undef) 23 [24, 25, 26] (by kernel_rfl) z z (yi_off ((wanted_eq z z z (cvb hc555)).trans z)) (ws_q (v := undef) 24 [25, 26] (by kernel_rfl) z z (yi_off ((wanted_eq z z z (cvb hc555)).trans z)) (ws_q (v := undef) 25 [26] (by kernel_rfl) z z (yi_off ((wanted_eq z z z (cvb hc555)).trans z)) ?_))))))))))))
 refine wsr (.bool true) 26 z z z (by kernel_rfl) (fun w hst => x_pick_t hc555 z z) ?_
 refine ws_nil ?_
 intro w hst
 refine tn ?_
 refine wp_ift z ?_
 refine wp_seq (wrl (wv (.bool false) z z z (wl_nil (tn (wp_ret (blk_r (then_r (then_r ?_))))))))
 replace hm := inr_up hm hx525
 refine blk_r (then_r ?_)
 obtain rfl := some_inj hm
 refine post_ret (vs := [.bool false]) results66 (rvs_cons (rv_tmp z) rvs_nil) ?_
 exact ⟨z, hst.keep0⟩
}
 {
 replace hm := bif_f hc555 hm
 refine ws_q (v := r0_0) 13 [14, 15, 16, 17, 18, 19, 20, 21, 22, 23, 24, 25, 26] (by kernel_rfl) z z (yi_run ((wanted_eq z z z (cvb hc555)).trans z) (fun w hst => z)) (ws_q (v := .int .i64 z518) 14 [15, 16, 17, 18, 19, 20, 21, 22, 23, 24, 25, 26] (by kernel_rfl) z z (yi_run ((wanted_eq z z z (cvb hc555)).trans z) (fun w hst => z)) (ws_q (v := .pointer (some (eAddr r0_0 (z518.toNat * 2 + 0)))) 15 [16, 17, 18, 19, 20, 21, 22, 23, 24, 25, 26] (by kernel_rfl) z z (yi_run ((wanted_eq z z z (cvb hc555)).trans z) (fun w hst => x_index z z underlying105 sizeOf107 (rd_sliceV f0_0) h530 h531)) (ws_q (v := .pointer (some (eAddr r0_0 (z518.toNat * 2 + 1)))) 16 [17, 18, 19, 20, 21, 22, 23, 24, 25, 26] (by kernel_rfl) z z (yi_run ((wanted_eq z z z (cvb hc555)).trans z) (fun w hst => x_field_e z underlying107 z sizeOf22 z)) ?_)))
 obtain ⟨cs556, hr557, hc558⟩ := Rd.getF f0_0 hi532
 obtain ⟨v559, rfl, f560, -⟩ := hr557
 refine ws_q (v := v559) 17 [18, 19, 20, 21, 22, 23, 24, 25, 26] (by kernel_rfl) z z (yi_run ((wanted_eq z z z (cvb hc555)).trans z) (fun w hst => x_load z isAgg22 ((hc558 (HL.le.refl _) hst) 1 _ z))) (ws_q (v := .string (toStr x528.Val)) 18 [19, 20, 21, 22, 23, 24, 25, 26] (by kernel_rfl) z z (yi_run ((wanted_eq z z z (cvb hc555)).trans z) (fun w hst => x_tostr underlying22 underlying9 underlying5 z (Src.of_rd hst f560 flat_int))) (ws_q (v := r1_0) 19 [20, 21, 22, 23, 24, 25, 26] (by kernel_rfl) z z (yi_run ((wanted_eq z z z (cvb hc555)).trans z) (fun w hst => z)) (ws_q (v := .int .i64 z518) 20 [21, 22, 23, 24, 25, 26] (by kernel_rfl) z z (yi_run ((wanted_eq z z z (cvb hc555)).trans z) (fun w hst => z)) (ws_q (v := .pointer (some (eAddr r1_0 (z518.toNat * 2 + 0)))) 21 [22, 23, 24, 25, 26] (by kernel_rfl) z z (yi_run ((wanted_eq z z z (cvb hc555)).trans z) (fun w hst => x_index z z underlying105 sizeOf107 (rd_sliceV f1_0) h541 h542)) (ws_q (v := .pointer (some (eAddr r1_0 (z518.toNat * 2 + 1)))) 22 [23, 24, 25, 26] (by kernel_rfl) z z (yi_run ((wanted_eq z z z (cvb hc555)).trans z) (fun w hst => x_field_e z underlying107 z sizeOf22 z)) ?_)))))
 obtain ⟨cs562, hr563, hc564⟩ := Rd.getF f1_0 hi543
 obtain ⟨v565, rfl, f566, -⟩ := hr563
 refine ws_q (v := v565) 23 [24, 25, 26] (by kernel_rfl) z z (yi_run ((wanted_eq z z z (cvb hc555)).trans z) (fun w hst => x_load z isAgg22 ((hc564 (HL.le.refl _) hst) 1 _ z))) (ws_q (v := .string (toStr x539.Val)) 24 [25, 26] (by kernel_rfl) z z (yi_run ((wanted_eq z z z (cvb hc555)).trans z) (fun w hst => x_tostr underlying22 underlying9 underlying5 z (Src.of_rd hst f566 flat_int))) (ws_q (v := .bool (!(sEq (toStr x528.Val) (toStr x539.Val)))) 25 [26] (by kernel_rfl) z z (yi_run ((wanted_eq z z z (cvb hc555)).trans z) (fun w hst => by kernel_rfl)) (wsr (.bool (!(sEq (toStr x528.Val) (toStr x539.Val)))) 26 z z z (by kernel_rfl) (fun w hst => x_pick_f hc555 z z) ?_)))
 refine ws_nil ?_
 intro w hst
 refine tn ?_
 refine bsplit (!(sEq (toStr x528.Val) (toStr x539.Val))) (fun hc568 => ?_) (fun hc568 => ?_)
 {
 replace hm := bif_t hc568 hm
 refine wp_ift (cvb hc568) ?_
 refine wp_seq (wrl (wv (.bool false) z z z (wl_nil (tn (wp_ret (blk_r (then_r (then_r ?_))))))))
 replace hm := inr_up hm hx525
 refine blk_r (then_r ?_)
 obtain rfl := some_inj hm
 refine post_ret (vs := [.bool false]) results66 (rvs_cons (rv_tmp z) rvs_nil) ?_
 exact ⟨z, hst.keep0⟩
}
 {
 replace hm := bif_f hc568 hm
 refine wp_iff (cvb hc568) ?_
 refine wp_skip (blk_n (tn (wrl ?_)))
 refine wv (.int .i64 z518) z z z (wv (.int .i64 (i64.wrap (z518 + (1:Int)))) z z z (wv (.int .i64 (i64.wrap (z518 + (1:Int)))) z z z (wl_nil (tn ?_))))
 replace hst := hst.keep0
 obtain rfl := some_inj hm
 exact ⟨_, Nat.lt_succ_self _, (i64.wrap (z518 + (1:Int))), _, hx525, (fu 0 r0_0 z (fu 1 r1_0 z (fu 5 (.int .i64 (i64.wrap (z518 + (1:Int)))) z z))), hst⟩
}
}
}
 {
 replace hm := bif_f hc527 hm
 refine wp_iff (cvb hc527) ?_
 refine wp_exit (then_x (then_x ?_))
 replace hm := inr_up hm hx525
 refine blk_x (tn (wp_seq (wrl ?_)))
 refine wv (.bool true) z z z (wl_nil (tn (wp_ret ?_)))
 obtain rfl := some_inj hm
 refine post_ret (vs := [.bool true]) results66 (rvs_cons (rv_tmp z) rvs_nil) ?_
 exact ⟨z, hst.keep0⟩
}
}
}

theorem ref11_SameReply_ref {w0 w : World} {I : HL} {R : SP} {a0 : api_Reply} {r0_0 : Value} {r0_1 : Value} {a1 : api_Reply} {r1_0 : Value} {r1_1 : Value} (f0_0 : Rd ty_api_Got R I r0_0 a0.Gots) (f0_1 : Rd (tySl ty_api_Pair) R I r0_1 a0.Scans) (f1_0 : Rd ty_api_Got R I r1_0 a1.Gots) (f1_1 : Rd (tySl ty_api_Pair) R I r1_1 a1.Scans) (hst : St w0 w I [] R) {r : (Bool)} (hm : ref11_SameReply a0 a1 = some r) :
  Calls prog 43 #[.agg #[I6 a0.E, U6 a0.Epoch, U6 a0.Index, r0_0, r0_1], .agg #[I6 a1.E, U6 a1.Epoch, U6 a1.Index, r1_0, r1_1]] w fun e w' => e = .returned (.bool r) ∧ St w0 w' I [] R := by {
 unfold ref11_SameReply at hm
 refine calls_start (args := [.agg #[I6 a0.E, U6 a0.Epoch, U6 a0.Index, r0_0, r0_1], .agg #[I6 a1.E, U6 a1.Epoch, U6 a1.Index, r1_0, r1_1]]) func43 z ntmps43 (Nat.le_of_ble_eq_true z) ?_
 refine wp_seq (wrl ?_)
 obtain ⟨b391, w392, ew393, eb394, hst⟩ := hst.box [I6 a0.E, U6 a0.Epoch, U6 a0.Index, r0_0, r0_1] 41
 refine wl_run (v := Pt b391 0) (w' := w392) z z (x_al (by kernel_rfl) ew393 eb394) ?_
 obtain ⟨b396, w397, ew398, eb399, hst⟩ := hst.box [I6 a1.E, U6 a1.Epoch, U6 a1.Index, r1_0, r1_1] 41
 refine wl_run (v := Pt b396 0) (w' := w397) z z (x_al (by kernel_rfl) ew398 eb399) ?_
 refine wv (.bool false) z z z (wl_nil (tn (wp_seq (wp_seq (wrl (wv (Pt b391 0) z z (x_field z underlying41 z sizeOf37 z) (wv (.int .i64 a0.E) z z (x_load z isAgg37 (hst.bc1 z)) (wv (Pt b396 0) z z (x_field z underlying41 z sizeOf37 z) (wv (.int .i64 a1.E) z z (x_load z isAgg37 (hst.bc0 z)) (wv (.bool (a0.E != a1.E)) z z z (wv (.bool (a0.E != a1.E)) z z z ?_)))))))))))
 refine bsplit (a0.E != a1.E) (fun hc401 => ?_) (fun hc401 => ?_)
 {
 replace hm := bif_t hc401 hm
 refine wo hc401 z z z z z z (wo hc401 z z z z z z (wo hc401 z z z z z z (wo hc401 z z z z z z (wo hc401 z z z z z z (wv (.bool true) z z (x_pick_t hc401 z z) (wv (.bool true) z z z (wz z z z z z z (wz z z z z z z (wz z z z z z z (wz z z z z z z (wz z z z z z z (wv (.bool true) z z (x_pick_t z z z) ?_))))))))))))
 refine wv (.bool true) z z z (wz z z z z z z (wz z z z z z z (wz z z z z z z (wz z z z z z z (wz z z z z z z (wz z z z z z z (wv (.bool true) z z (x_pick_t z z z) (wv (.bool true) z z z (wz z z z z z z (wz z z z z z z (wz z z z z z z (wz z z z z z z ?_))))))))))))
 refine wz z z z z z z (wz z z z z z z (wz z z z z z z (wv (.bool true) z z (x_pick_t z z z) (wl_nil (tn ?_)))))
 refine wp_ift z ?_
 refine wp_seq (wrl (wv (.bool false) z z z (wl_nil (tn (wp_ret (then_r ?_))))))
 obtain rfl := some_inj hm
 refine post_ret (vs := [.bool false]) results43 (rvs_cons (rv_tmp z) rvs_nil) ?_
 exact ⟨z, hst.keep0⟩
}
 {
 replace hm := bif_f hc401 hm
 refine wv (Pt b391 1) ((wanted_eq z z z (cvb hc401)).trans z) z (x_field z underlying41 z sizeOf25 z) (wv (.int .u64 a0.Epoch) ((wanted_eq z z z (cvb hc401)).trans z) z (x_load z isAgg25 (hst.bc1 z)) (wv (Pt b396 1) ((wanted_eq z z z (cvb hc401)).trans z) z (x_field z underlying41 z sizeOf25 z) (wv (.int .u64 a1.Epoch) ((wanted_eq z z z (cvb hc401)).trans z) z (x_load z isAgg25 (hst.bc0 z)) (wv (.bool (a0.Epoch != a1.Epoch)) ((wanted_eq z z z (cvb hc401)).trans z) z z (wv (.bool (a0.Epoch != a1.Epoch)) z z (x_pick_f hc401 z z) (wv (.bool (a0.Epoch != a1.Epoch)) z z z ?_))))))
 refine bsplit (a0.Epoch != a1.Epoch) (fun hc402 => ?_) (fun hc402 => ?_)
 {
 replace hm := bif_t hc402 hm
 refine wo hc402 z z z z z z (wo hc402 z z z z z z (wo hc402 z z z z z z (wo hc402 z z z z z z (wo hc402 z z z z z z (wv (.bool true) z z (x_pick_t hc402 z z) (wv (.bool true) z z z (wz z z z z z z (wz z z z z z z (wz z z z z z z (wz z z z z z z (wz z z z z z z (wz z z z z z z ?_))))))))))))
 refine wv (.bool true) z z (x_pick_t z z z) (wv (.bool true) z z z (wz z z z z z z (wz z z z z z z (wz z z z z z z (wz z z z z z z (wz z z z z z z (wz z z z z z z (wz z z z z z z (wv (.bool true) z z (x_pick_t z z z) (wl_nil (tn ?_)))))))))))
 refine wp_ift z ?_
 refine wp_seq (wrl (wv (.bool false) z z z (wl_nil (tn (wp_ret (then_r ?_))))))
 obtain rfl := some_inj hm
 refine post_ret (vs := [.bool false]) results43 (rvs_cons (rv_tmp z) rvs_nil) ?_
 exact ⟨z, hst.keep0⟩
}
 {
 replace hm := bif_f hc402 hm
 refine wv (Pt b391 2) ((wanted_eq z z z (cvb hc402)).trans z) z (x_field z underlying41 z sizeOf25 z) (wv (.int .u64 a0.Index) ((wanted_eq z z z (cvb hc402)).trans z) z (x_load z isAgg25 (hst.bc1 z)) (wv (Pt b396 2) ((wanted_eq z z z (cvb hc402)).trans z) z (x_field z underlying41 z sizeOf25 z) (wv (.int .u64 a1.Index) ((wanted_eq z z z (cvb hc402)).trans z) z (x_load z isAgg25 (hst.bc0 z)) (wv (.bool (a0.Index != a1.Index)) ((wanted_eq z z z (cvb hc402)).trans z) z z (wv (.bool (a0.Index != a1.Index)) z z (x_pick_f hc402 z z) (wv (.bool (a0.Index != a1.Index)) z z z ?_))))))
 refine bsplit (a0.Index != a1.Index) (fun hc403 => ?_) (fun hc403 => ?_)
 {
 replace hm := bif_t hc403 hm
 refine wo hc403 z z z z z z (wo hc403 z z z z z z (wo hc403 z z z z z z (wo hc403 z z z z z z (wo hc403 z z z z z z (wo hc403 z z z z z z (wv (.bool true) z z (x_pick_t hc403 z z) (wv (.bool true) z z z (wz z z z z z z (wz z z z z z z (wz z z z z z z (wz z z z z z z (wz z z z z z z ?_))))))))))))
 refine wz z z z z z z (wz z z z z z z (wv (.bool true) z z (x_pick_t z z z) (wl_nil (tn ?_))))
 refine wp_ift z ?_
 refine wp_seq (wrl (wv (.bool false) z z z (wl_nil (tn (wp_ret (then_r ?_))))))
 obtain rfl := some_inj hm
 refine post_ret (vs := [.bool false]) results43 (rvs_cons (rv_tmp z) rvs_nil) ?_
 exact ⟨z, hst.keep0⟩
}
 {
 replace hm := bif_f hc403 hm
 refine wv (Pt b391 3) ((wanted_eq z z z (cvb hc403)).trans z) z (x_field z underlying41 z sizeOf38 z) (wv (r0_0) ((wanted_eq z z z (cvb hc403)).trans z) z (x_load z isAgg38 (hst.bc1 z)) (wv (Pt b396 3) ((wanted_eq z z z (cvb hc403)).trans z) z (x_field z underlying41 z sizeOf38 z) (wv (r1_0) ((wanted_eq z z z (cvb hc403)).trans z) z (x_load z isAgg38 (hst.bc0 z)) ?_)))
 obtain ⟨t404, ht405, hm⟩ := bind_some hm
 refine wl_call ((wanted_eq z z z (cvb hc403)).trans z) z (x_call call65 z (vs := [r0_0, r1_0]) z) ?_
 refine (ref11_SameGots_ref (f0_0.mono (rd_weak _)) (f1_0.mono (rd_weak _)) hst.to0 ht405).mono ?_
 rintro _ w406 ⟨rfl, hst⟩
 refine ⟨_, z, ?_⟩
 replace hst := hst.of0
 refine wv (.bool (!t404)) ((wanted_eq z z z (cvb hc403)).trans z) z z (wv (.bool (!t404)) z z (x_pick_f hc403 z z) (wv (.bool (!t404)) z z z ?_))
 refine bsplit (!t404) (fun hc409 => ?_) (fun hc409 => ?_)
 {
 replace hm := bif_t hc409 hm
 refine wo hc409 z z z z z z (wo hc409 z z z z z z (wo hc409 z z z z z z (wo hc409 z z z z z z (wo hc409 z z z z z z (wo hc409 z z z z z z (wo hc409 z z z z z z (wv (.bool true) z z (x_pick_t hc409 z z) (wl_nil (tn ?_)))))))))
 refine wp_ift z ?_
 refine wp_seq (wrl (wv (.bool false) z z z (wl_nil (tn (wp_ret (then_r ?_))))))
 obtain rfl := some_inj hm
 refine post_ret (vs := [.bool false]) results43 (rvs_cons (rv_tmp z) rvs_nil) ?_
 exact ⟨z, hst.keep0⟩
}
 {
 replace hm := bif_f hc409 hm
 refine wv (Pt b391 4) ((wanted_eq z z z (cvb hc409)).trans z) z (x_field z underlying41 z sizeOf39 z) (wv (r0_1) ((wanted_eq z z z (cvb hc409)).trans z) z (x_load z isAgg39 (hst.bc1 z)) (wv (.int .i64 ((a0.Scans).length : Int)) ((wanted_eq z z z (cvb hc409)).trans z) z (x_len z underlying39 (rd_sliceV f0_1)) (wv (Pt b396 4) ((wanted_eq z z z (cvb hc409)).trans z) z (x_field z underlying41 z sizeOf39 z) (wv (r1_1) ((wanted_eq z z z (cvb hc409)).trans z) z (x_load z isAgg39 (hst.bc0 z)) (wv (.int .i64 ((a1.Scans).length : Int)) ((wanted_eq z z z (cvb hc409)).trans z) z (x_len z underlying39 (rd_sliceV f1_1)) (wv (.bool (((a0.Scans).length : Int) != ((a1.Scans).length : Int))) ((wanted_eq z z z (cvb hc409)).trans z) z z (wv (.bool (((a0.Scans).length : Int) != ((a1.Scans).length : Int))) z z (x_pick_f hc409 z z) (wl_nil (tn ?_)))))))))
 refine bsplit (((a0.Scans).length : Int) != ((a1.Scans).length : Int)) (fun hc410 => ?_) (fun hc410 => ?_)
 {
 replace hm := bif_t hc410 hm
 refine wp_ift (cvb hc410) ?_
 refine wp_seq (wrl (wv (.bool false) z z z (wl_nil (tn (wp_ret (then_r ?_))))))
 obtain rfl := some_inj hm
 refine post_ret (vs := [.bool false]) results43 (rvs_cons (rv_tmp z) rvs_nil) ?_
 exact ⟨z, hst.keep0⟩
}
 {
 replace hm := bif_f hc410 hm
 refine wp_iff (cvb hc410) ?_
 refine wp_skip (tn (wp_seq (wp_seq (wrl ?_))))
 refine wv (.int .i64 (0:Int)) z z z (wl_nil (tn (wp_block ?_)))
 obtain ⟨n472, hm⟩ := loopO_some hm
 refine wp_loop_n (fun n a w => ∃ (z470 : Int) (σ471 : Nat → Value), loopN (ref11_SameReply_l0 a0 a1) n z470 = some r ∧ a = Fr 61 (upd (upd (upd σ471 2 (Pt b391 0)) 3 (Pt b396 0)) 5 (.int .i64 z470)) ∧ St w0 w I [cells b396 [I6 a1.E, U6 a1.Epoch, U6 a1.Index, r1_0, r1_1], cells b391 [I6 a0.E, U6 a0.Epoch, U6 a0.Index, r0_0, r0_1]] R) n472 ⟨(0:Int), _, hm, (fu 2 (Pt b391 0) z (fu 3 (Pt b396 0) z (fu 5 (.int .i64 (0:Int)) z z))), hst⟩ ?_
 rintro n478 _ w473 ⟨z470, σ471, hm, rfl, hst⟩
 obtain ⟨n475, y476, rfl, hm, hx477⟩ := loopN_some hm
 dsimp only [ref11_SameReply_l0] at hm
 refine wp_seq (wp_seq (wrl (wv (.int .i64 z470) z z z (wv (Pt b391 4) z z (x_field z underlying41 z sizeOf39 z) (wv (r0_1) z z (x_load z isAgg39 (hst.bc1 z)) (wv (.int .i64 ((a0.Scans).length : Int)) z z (x_len z underlying39 (rd_sliceV f0_1)) (wv (.bool (decide (z470 < ((a0.Scans).length : Int)))) z z z (wl_nil (tn ?_)))))))))
 refine bsplit (decide (z470 < ((a0.Scans).length : Int))) (fun hc479 => ?_) (fun hc479 => ?_)
 {
 replace hm := bif_t hc479 hm
 refine wp_ift (cvb hc479) ?_
 refine wp_skip (tn (wp_seq (wp_block (wp_seq ?_))))
 refine wp_region_St hst 12 [0, 1, 2, 3, 4, 5, 6, 7, 8, 9, 10, 11] [0, 1, 0, 7, 15, 0, 32, 0, 224, 480, 1023, 2047] [] z (by kernel_rfl) (by kernel_rfl) Try.mixed (by kernel_rfl) ?_
 refine wsr (Pt b391 4) 0 z z z (by kernel_rfl) (fun w hst => x_field z underlying41 z sizeOf39 z) (wsr (r0_1) 1 z z z (by kernel_rfl) (fun w hst => x_load z isAgg39 (hst.bc1 z)) (wsr (.int .i64 z470) 2 z z z (by kernel_rfl) (fun w hst => z) ?_))
 obtain ⟨x480, hx481, hm⟩ := bind_some hm
 obtain ⟨h482, h483, hi484⟩ := geto_some hx481
 refine wsr (.pointer (some (eAddr r0_1 (z470.toNat * 1 + 0)))) 3 z z z (by kernel_rfl) (fun w hst => x_index z z underlying39 sizeOf105 (rd_sliceV f0_1) h482 h483) ?_
 obtain ⟨cs485, hr486, hc487⟩ := Rd.getF f0_1 hi484
 obtain ⟨v488, rfl, f489, -⟩ := hr486
 refine wsr (v488) 4 z z z (by kernel_rfl) (fun w hst => x_load z isAgg105 ((hc487 (HL.le.refl _) hst) 0 _ z)) (wsr (Pt b396 4) 5 z z z (by kernel_rfl) (fun w hst => x_field z underlying41 z sizeOf39 z) (wsr (r1_1) 6 z z z (by kernel_rfl) (fun w hst => x_load z isAgg39 (hst.bc0 z)) (wsr (.int .i64 z470) 7 z z z (by kernel_rfl) (fun w hst => z) ?_)))
 obtain ⟨x491, hx492, hm⟩ := bind_some hm
 obtain ⟨h493, h494, hi495⟩ := geto_some hx492
 refine wsr (.pointer (some (eAddr r1_1 (z470.toNat * 1 + 0)))) 8 z z z (by kernel_rfl) (fun w hst => x_index z z underlying39 sizeOf105 (rd_sliceV f1_1) h493 h494) ?_
 obtain ⟨cs496, hr497, hc498⟩ := Rd.getF f1_1 hi495
 obtain ⟨v499, rfl, f500, -⟩ := hr497
 refine wsr (v499) 9 z z z (by kernel_rfl) (fun w hst => x_load z isAgg105 ((hc498 (HL.le.refl _) hst) 0 _ z)) ?_
 refine ws_e1 10 (by kernel_rfl) ?_
 refine nxe [11] (by kernel_rfl) z z ?_
 clear hst
 intro w hst
 obtain ⟨t502, ht503, hm⟩ := bind_some hm
 refine wec call66 [v488, v499] z z ?_
 refine (ref11_SamePairs_ref (f489.mono (rd_weak _)) (f500.mono (rd_weak _)) hst.to0 ht503).mono ?_
 rintro _ w504 ⟨rfl, hst⟩
 refine ⟨_, z, ?_⟩
 replace hst := hst.of0
 refine ws_next (pend' := []) hst (by kernel_rfl) pk_nil ?_
 refine wsr (.bool (!t502)) 11 z z z (by kernel_rfl) (fun w hst => z) ?_
 refine ws_nil ?_
 intro w hst
 refine tn ?_
 refine bsplit (!t502) (fun hc507 => ?_) (fun hc507 => ?_)
 {
 replace hm := bif_t hc507 hm
 refine wp_ift (cvb hc507) ?_
 refine wp_seq (wrl (wv (.bool false) z z z (wl_nil (tn (wp_ret (blk_r (then_r (then_r ?_))))))))
 replace hm := inr_up hm hx477
 refine blk_r (then_r ?_)
 obtain rfl := some_inj hm
 refine post_ret (vs := [.bool false]) results43 (rvs_cons (rv_tmp z) rvs_nil) ?_
 exact ⟨z, hst.keep0⟩
}
 {
 replace hm := bif_f hc507 hm
 refine wp_iff (cvb hc507) ?_
 refine wp_skip (blk_n (tn (wrl ?_)))
 refine wv (.int .i64 z470) z z z (wv (.int .i64 (i64.wrap (z470 + (1:Int)))) z z z (wv (.int .i64 (i64.wrap (z470 + (1:Int)))) z z z (wl_nil (tn ?_))))
 replace hst := hst.pull1.pull1.keep2
 obtain rfl := some_inj hm
 exact ⟨_, Nat.lt_succ_self _, (i64.wrap (z470 + (1:Int))), _, hx477, (fu 2 (Pt b391 0) z (fu 3 (Pt b396 0) z (fu 5 (.int .i64 (i64.wrap (z470 + (1:Int)))) z z))), hst⟩
}
}
 {
 replace hm := bif_f hc479 hm
 refine wp_iff (cvb hc479) ?_
 refine wp_exit (then_x (then_x ?_))
 replace hm := inr_up hm hx477
 refine blk_x (tn (wp_seq (wrl ?_)))
 refine wv (.bool true) z z z (wl_nil (tn (wp_ret ?_)))
 obtain rfl := some_inj hm
 refine post_ret (vs := [.bool true]) results43 (rvs_cons (rv_tmp z) rvs_nil) ?_
 exact ⟨z, hst.keep0⟩
}
}
}
}
}
}
}

theorem law17_same_ref {w0 w : World} {I : HL} {R : SP} {a0 : api_Mail} {r0_0 : Value} {r0_1 : Value} {r0_2 : Value} {r0_3 : Value} {r0_4 : Value} {r0_5 : Value} {r0_6 : Value} {r0_7 : Value} {r0_8 : Value} {r0_9 : Value} {r0_10 : Value} {r0_11 : Value} {r0_12 : Value} {r0_13 : Value} {r0_14 : Value} {r0_15 : Value} {a1 : api_Mail} {r1_0 : Value} {r1_1 : Value} {r1_2 : Value} {r1_3 : Value} {r1_4 : Value} {r1_5 : Value} {r1_6 : Value} {r1_7 : Value} {r1_8 : Value} {r1_9 : Value} {r1_10 : Value} {r1_11 : Value} {r1_12 : Value} {r1_13 : Value} {r1_14 : Value} {r1_15 : Value} (f0_0 : Rd ty_api_Entry R I r0_0 a0.M.Entries) (f0_1 : Rd (tyInt .u8) R I r0_1 a0.M.S.Data) (f0_2 : Rd tyF64 R I r0_2 a0.H.Gets) (f0_3 : Rd tyF2 R I r0_3 a0.H.Scans) (f0_4 : Rd tyF64 R I r0_4 a0.H.Puts) (f0_5 : Rd (tyInt .u8) R I r0_5 a0.H.Data) (f0_6 : Rd ty_api_Got R I r0_6 a0.R.Gots) (f0_7 : Rd (tySl ty_api_Pair) R I r0_7 a0.R.Scans) (f0_8 : Rd tyF64 R I r0_8 a0.C.Hold.Gets) (f0_9 : Rd tyF2 R I r0_9 a0.C.Hold.Scans) (f0_10 : Rd tyF64 R I r0_10 a0.C.Hold.Puts) (f0_11 : Rd (tyInt .u8) R I r0_11 a0.C.Hold.Data) (f0_12 : Rd ty_api_Write R I r0_12 a0.C.Writes) (f0_13 : Rd ty_api_Got R I r0_13 a0.C.R.Gots) (f0_14 : Rd (tySl ty_api_Pair) R I r0_14 a0.C.R.Scans) (f0_15 : Rd ty_api_Part R I r0_15 a0.C.Parts) (f1_0 : Rd ty_api_Entry R I r1_0 a1.M.Entries) (f1_1 : Rd (tyInt .u8) R I r1_1 a1.M.S.Data) (f1_2 : Rd tyF64 R I r1_2 a1.H.Gets) (f1_3 : Rd tyF2 R I r1_3 a1.H.Scans) (f1_4 : Rd tyF64 R I r1_4 a1.H.Puts) (f1_5 : Rd (tyInt .u8) R I r1_5 a1.H.Data) (f1_6 : Rd ty_api_Got R I r1_6 a1.R.Gots) (f1_7 : Rd (tySl ty_api_Pair) R I r1_7 a1.R.Scans) (f1_8 : Rd tyF64 R I r1_8 a1.C.Hold.Gets) (f1_9 : Rd tyF2 R I r1_9 a1.C.Hold.Scans) (f1_10 : Rd tyF64 R I r1_10 a1.C.Hold.Puts) (f1_11 : Rd (tyInt .u8) R I r1_11 a1.C.Hold.Data) (f1_12 : Rd ty_api_Write R I r1_12 a1.C.Writes) (f1_13 : Rd ty_api_Got R I r1_13 a1.C.R.Gots) (f1_14 : Rd (tySl ty_api_Pair) R I r1_14 a1.C.R.Scans) (f1_15 : Rd ty_api_Part R I r1_15 a1.C.Parts) (hst : St w0 w I [] R) {r : (Bool)} (hm : law17_same a0 a1 = some r) :
  Calls prog 11 #[.agg #[U1 a0.Kind, U1 a0.M.Kind, I6 a0.M.From, I6 a0.M.To, U6 a0.M.Term, U6 a0.M.Index, U6 a0.M.LogTerm, U6 a0.M.Commit, .bool a0.M.OK, r0_0, U6 a0.M.S.Index, U6 a0.M.S.Term, U6 a0.M.S.Voters, r0_1, U6 a0.H.ID.Session, U6 a0.H.ID.Seq, U6 a0.H.Epoch, r0_2, r0_3, r0_4, r0_5, U6 a0.ID.Session, U6 a0.ID.Seq, I6 a0.R.E, U6 a0.R.Epoch, U6 a0.R.Index, r0_6, r0_7, U1 a0.C.Kind, U6 a0.C.ID.Session, U6 a0.C.ID.Seq, U6 a0.C.Epoch, U6 a0.C.Index, I6 a0.C.E, U6 a0.C.Hold.ID.Session, U6 a0.C.Hold.ID.Seq, U6 a0.C.Hold.Epoch, r0_8, r0_9, r0_10, r0_11, r0_12, I6 a0.C.R.E, U6 a0.C.R.Epoch, U6 a0.C.R.Index, r0_13, r0_14, U6 a0.C.Shards, r0_15, U6 a0.C.Rule.ID, I6 a0.C.Rule.From, I6 a0.C.Rule.To, F6 a0.C.Rule.Lo, F6 a0.C.Rule.Hi, U6 a0.C.Rule.Authority, I6 a0.C.Rule.Quota, .bool a0.C.On], .agg #[U1 a1.Kind, U1 a1.M.Kind, I6 a1.M.From, I6 a1.M.To, U6 a1.M.Term, U6 a1.M.Index, U6 a1.M.LogTerm, U6 a1.M.Commit, .bool a1.M.OK, r1_0, U6 a1.M.S.Index, U6 a1.M.S.Term, U6 a1.M.S.Voters, r1_1, U6 a1.H.ID.Session, U6 a1.H.ID.Seq, U6 a1.H.Epoch, r1_2, r1_3, r1_4, r1_5, U6 a1.ID.Session, U6 a1.ID.Seq, I6 a1.R.E, U6 a1.R.Epoch, U6 a1.R.Index, r1_6, r1_7, U1 a1.C.Kind, U6 a1.C.ID.Session, U6 a1.C.ID.Seq, U6 a1.C.Epoch, U6 a1.C.Index, I6 a1.C.E, U6 a1.C.Hold.ID.Session, U6 a1.C.Hold.ID.Seq, U6 a1.C.Hold.Epoch, r1_8, r1_9, r1_10, r1_11, r1_12, I6 a1.C.R.E, U6 a1.C.R.Epoch, U6 a1.C.R.Index, r1_13, r1_14, U6 a1.C.Shards, r1_15, U6 a1.C.Rule.ID, I6 a1.C.Rule.From, I6 a1.C.Rule.To, F6 a1.C.Rule.Lo, F6 a1.C.Rule.Hi, U6 a1.C.Rule.Authority, I6 a1.C.Rule.Quota, .bool a1.C.On]] w fun e w' => e = .returned (.bool r) ∧ St w0 w' I [] R := by {
 unfold law17_same at hm
 refine calls_start (args := [.agg #[U1 a0.Kind, U1 a0.M.Kind, I6 a0.M.From, I6 a0.M.To, U6 a0.M.Term, U6 a0.M.Index, U6 a0.M.LogTerm, U6 a0.M.Commit, .bool a0.M.OK, r0_0, U6 a0.M.S.Index, U6 a0.M.S.Term, U6 a0.M.S.Voters, r0_1, U6 a0.H.ID.Session, U6 a0.H.ID.Seq, U6 a0.H.Epoch, r0_2, r0_3, r0_4, r0_5, U6 a0.ID.Session, U6 a0.ID.Seq, I6 a0.R.E, U6 a0.R.Epoch, U6 a0.R.Index, r0_6, r0_7, U1 a0.C.Kind, U6 a0.C.ID.Session, U6 a0.C.ID.Seq, U6 a0.C.Epoch, U6 a0.C.Index, I6 a0.C.E, U6 a0.C.Hold.ID.Session, U6 a0.C.Hold.ID.Seq, U6 a0.C.Hold.Epoch, r0_8, r0_9, r0_10, r0_11, r0_12, I6 a0.C.R.E, U6 a0.C.R.Epoch, U6 a0.C.R.Index, r0_13, r0_14, U6 a0.C.Shards, r0_15, U6 a0.C.Rule.ID, I6 a0.C.Rule.From, I6 a0.C.Rule.To, F6 a0.C.Rule.Lo, F6 a0.C.Rule.Hi, U6 a0.C.Rule.Authority, I6 a0.C.Rule.Quota, .bool a0.C.On], .agg #[U1 a1.Kind, U1 a1.M.Kind, I6 a1.M.From, I6 a1.M.To, U6 a1.M.Term, U6 a1.M.Index, U6 a1.M.LogTerm, U6 a1.M.Commit, .bool a1.M.OK, r1_0, U6 a1.M.S.Index, U6 a1.M.S.Term, U6 a1.M.S.Voters, r1_1, U6 a1.H.ID.Session, U6 a1.H.ID.Seq, U6 a1.H.Epoch, r1_2, r1_3, r1_4, r1_5, U6 a1.ID.Session, U6 a1.ID.Seq, I6 a1.R.E, U6 a1.R.Epoch, U6 a1.R.Index, r1_6, r1_7, U1 a1.C.Kind, U6 a1.C.ID.Session, U6 a1.C.ID.Seq, U6 a1.C.Epoch, U6 a1.C.Index, I6 a1.C.E, U6 a1.C.Hold.ID.Session, U6 a1.C.Hold.ID.Seq, U6 a1.C.Hold.Epoch, r1_8, r1_9, r1_10, r1_11, r1_12, I6 a1.C.R.E, U6 a1.C.R.Epoch, U6 a1.C.R.Index, r1_13, r1_14, U6 a1.C.Shards, r1_15, U6 a1.C.Rule.ID, I6 a1.C.Rule.From, I6 a1.C.Rule.To, F6 a1.C.Rule.Lo, F6 a1.C.Rule.Hi, U6 a1.C.Rule.Authority, I6 a1.C.Rule.Quota, .bool a1.C.On]]) func11 z ntmps11 (Nat.le_of_ble_eq_true z) ?_
 refine wp_seq (wrl ?_)
 obtain ⟨b326, w327, ew328, eb329, hst⟩ := hst.box [U1 a0.Kind, U1 a0.M.Kind, I6 a0.M.From, I6 a0.M.To, U6 a0.M.Term, U6 a0.M.Index, U6 a0.M.LogTerm, U6 a0.M.Commit, .bool a0.M.OK, r0_0, U6 a0.M.S.Index, U6 a0.M.S.Term, U6 a0.M.S.Voters, r0_1, U6 a0.H.ID.Session, U6 a0.H.ID.Seq, U6 a0.H.Epoch, r0_2, r0_3, r0_4, r0_5, U6 a0.ID.Session, U6 a0.ID.Seq, I6 a0.R.E, U6 a0.R.Epoch, U6 a0.R.Index, r0_6, r0_7, U1 a0.C.Kind, U6 a0.C.ID.Session, U6 a0.C.ID.Seq, U6 a0.C.Epoch, U6 a0.C.Index, I6 a0.C.E, U6 a0.C.Hold.ID.Session, U6 a0.C.Hold.ID.Seq, U6 a0.C.Hold.Epoch, r0_8, r0_9, r0_10, r0_11, r0_12, I6 a0.C.R.E, U6 a0.C.R.Epoch, U6 a0.C.R.Index, r0_13, r0_14, U6 a0.C.Shards, r0_15, U6 a0.C.Rule.ID, I6 a0.C.Rule.From, I6 a0.C.Rule.To, F6 a0.C.Rule.Lo, F6 a0.C.Rule.Hi, U6 a0.C.Rule.Authority, I6 a0.C.Rule.Quota, .bool a0.C.On] 50
 refine wl_run (v := Pt b326 0) (w' := w327) z z (x_al (by kernel_rfl) ew328 eb329) ?_
 obtain ⟨b331, w332, ew333, eb334, hst⟩ := hst.box [U1 a1.Kind, U1 a1.M.Kind, I6 a1.M.From, I6 a1.M.To, U6 a1.M.Term, U6 a1.M.Index, U6 a1.M.LogTerm, U6 a1.M.Commit, .bool a1.M.OK, r1_0, U6 a1.M.S.Index, U6 a1.M.S.Term, U6 a1.M.S.Voters, r1_1, U6 a1.H.ID.Session, U6 a1.H.ID.Seq, U6 a1.H.Epoch, r1_2, r1_3, r1_4, r1_5, U6 a1.ID.Session, U6 a1.ID.Seq, I6 a1.R.E, U6 a1.R.Epoch, U6 a1.R.Index, r1_6, r1_7, U1 a1.C.Kind, U6 a1.C.ID.Session, U6 a1.C.ID.Seq, U6 a1.C.Epoch, U6 a1.C.Index, I6 a1.C.E, U6 a1.C.Hold.ID.Session, U6 a1.C.Hold.ID.Seq, U6 a1.C.Hold.Epoch, r1_8, r1_9, r1_10, r1_11, r1_12, I6 a1.C.R.E, U6 a1.C.R.Epoch, U6 a1.C.R.Index, r1_13, r1_14, U6 a1.C.Shards, r1_15, U6 a1.C.Rule.ID, I6 a1.C.Rule.From, I6 a1.C.Rule.To, F6 a1.C.Rule.Lo, F6 a1.C.Rule.Hi, U6 a1.C.Rule.Authority, I6 a1.C.Rule.Quota, .bool a1.C.On] 50
 refine wl_run (v := Pt b331 0) (w' := w332) z z (x_al (by kernel_rfl) ew333 eb334) ?_
 refine wv (.bool false) z z z (wl_nil (tn (wp_seq (wrl (wv (Pt b326 1) z z (x_field z underlying50 z sizeOf30 z) (wv (.agg #[U1 a0.M.Kind, I6 a0.M.From, I6 a0.M.To, U6 a0.M.Term, U6 a0.M.Index, U6 a0.M.LogTerm, U6 a0.M.Commit, .bool a0.M.OK, r0_0, U6 a0.M.S.Index, U6 a0.M.S.Term, U6 a0.M.S.Voters, r0_1]) z z (x_loadN (cs := [U1 a0.M.Kind, I6 a0.M.From, I6 a0.M.To, U6 a0.M.Term, U6 a0.M.Index, U6 a0.M.LogTerm, U6 a0.M.Commit, .bool a0.M.OK, r0_0, U6 a0.M.S.Index, U6 a0.M.S.Term, U6 a0.M.S.Voters, r0_1]) z isAgg30 sizeOf30 (hst.bcs1 1 z)) ?_))))))
 obtain ⟨b338, w339, ew340, eb341, hst⟩ := hst.box [Zb, Zi, Zi, Zu, Zu, Zu, Zu, .bool false, Zs, Zu, Zu, Zu, Zs] 30
 refine wl_run (v := Pt b338 0) (w' := w339) z z (x_al (by kernel_rfl) ew340 eb341) ?_
 obtain ⟨w343, hr344, hst⟩ := hst.bx [U1 a0.M.Kind, I6 a0.M.From, I6 a0.M.To, U6 a0.M.Term, U6 a0.M.Index, U6 a0.M.LogTerm, U6 a0.M.Commit, .bool a0.M.OK, r0_0, U6 a0.M.S.Index, U6 a0.M.S.Term, U6 a0.M.S.Voters, r0_1] sizeOf30 z (oC z (oC z (oC z (oC z (oC z (oC z (oC z (oC z (oC (one_of_sliceV (rd_sliceV f0_0)) (oC z (oC z (oC z (oC (one_of_sliceV (rd_sliceV f0_1)) oN))))))))))))) (by kernel_rfl)
 refine wl_unit z z (x_unit hr344) ?_
 refine wl_nil (tn (wp_seq (wrl (wv (Pt b331 1) z z (x_field z underlying50 z sizeOf30 z) (wv (.agg #[U1 a1.M.Kind, I6 a1.M.From, I6 a1.M.To, U6 a1.M.Term, U6 a1.M.Index, U6 a1.M.LogTerm, U6 a1.M.Commit, .bool a1.M.OK, r1_0, U6 a1.M.S.Index, U6 a1.M.S.Term, U6 a1.M.S.Voters, r1_1]) z z (x_loadN (cs := [U1 a1.M.Kind, I6 a1.M.From, I6 a1.M.To, U6 a1.M.Term, U6 a1.M.Index, U6 a1.M.LogTerm, U6 a1.M.Commit, .bool a1.M.OK, r1_0, U6 a1.M.S.Index, U6 a1.M.S.Term, U6 a1.M.S.Voters, r1_1]) z isAgg30 sizeOf30 (hst.bcs1 1 z)) ?_)))))
 obtain ⟨b347, w348, ew349, eb350, hst⟩ := hst.box [Zb, Zi, Zi, Zu, Zu, Zu, Zu, .bool false, Zs, Zu, Zu, Zu, Zs] 30
 refine wl_run (v := Pt b347 0) (w' := w348) z z (x_al (by kernel_rfl) ew349 eb350) ?_
 obtain ⟨w352, hr353, hst⟩ := hst.bx [U1 a1.M.Kind, I6 a1.M.From, I6 a1.M.To, U6 a1.M.Term, U6 a1.M.Index, U6 a1.M.LogTerm, U6 a1.M.Commit, .bool a1.M.OK, r1_0, U6 a1.M.S.Index, U6 a1.M.S.Term, U6 a1.M.S.Voters, r1_1] sizeOf30 z (oC z (oC z (oC z (oC z (oC z (oC z (oC z (oC z (oC (one_of_sliceV (rd_sliceV f1_0)) (oC z (oC z (oC z (oC (one_of_sliceV (rd_sliceV f1_1)) oN))))))))))))) (by kernel_rfl)
 refine wl_unit z z (x_unit hr353) ?_
 refine wl_nil (tn (wp_seq (wp_seq (wrl (wv (Pt b338 0) z z (x_field z underlying30 z sizeOf5 z) (wv (.int .u8 a0.M.Kind) z z (x_load z isAgg5 (hst.bc1 z)) (wv (Pt b347 0) z z (x_field z underlying30 z sizeOf5 z) (wv (.int .u8 a1.M.Kind) z z (x_load z isAgg5 (hst.bc0 z)) (wv (.bool (a0.M.Kind != a1.M.Kind)) z z z (wv (.bool (a0.M.Kind != a1.M.Kind)) z z z ?_))))))))))
 refine bsplit (a0.M.Kind != a1.M.Kind) (fun hc354 => ?_) (fun hc354 => ?_)
 {
 replace hm := bif_t hc354 hm
 refine wo hc354 z z z z z z (wo hc354 z z z z z z (wo hc354 z z z z z z (wo hc354 z z z z z z (wo hc354 z z z z z z (wv (.bool true) z z (x_pick_t hc354 z z) (wv (.bool true) z z z (wz z z z z z z (wz z z z z z z (wz z z z z z z (wz z z z z z z (wz z z z z z z (wv (.bool true) z z (x_pick_t z z z) ?_))))))))))))
 refine wv (.bool true) z z z (wz z z z z z z (wz z z z z z z (wz z z z z z z (wz z z z z z z (wz z z z z z z (wv (.bool true) z z (x_pick_t z z z) (wv (.bool true) z z z (wz z z z z z z (wz z z z z z z (wz z z z z z z (wz z z z z z z (wz z z z z z z ?_))))))))))))
 refine wv (.bool true) z z (x_pick_t z z z) (wv (.bool true) z z z (wz z z z z z z (wz z z z z z z (wz z z z z z z (wz z z z z z z (wz z z z z z z (wv (.bool true) z z (x_pick_t z z z) (wv (.bool true) z z z (wz z z z z z z (wz z z z z z z (wz z z z z z z (wz z z z z z z ?_))))))))))))
 refine wz z z z z z z (wv (.bool true) z z (x_pick_t z z z) (wv (.bool true) z z z (wz z z z z z z (wz z z z z z z (wz z z z z z z (wz z z z z z z (wz z z z z z z (wv (.bool true) z z (x_pick_t z z z) (wv (.bool true) z z z (wz z z z z z z (wz z z z z z z (wz z z z z z z ?_))))))))))))
 refine wz z z z z z z (wz z z z z z z (wz z z z z z z (wv (.bool true) z z (x_pick_t z z z) (wv (.bool true) z z z (wz z z z z z z (wz z z z z z z (wz z z z z z z (wz z z z z z z (wz z z z z z z (wz z z z z z z (wz z z z z z z (wv (.bool true) z z (x_pick_t z z z) ?_))))))))))))
 refine wv (.bool true) z z z (wz z z z z z z (wz z z z z z z (wz z z z z z z (wz z z z z z z (wz z z z z z z (wz z z z z z z (wz z z z z z z (wv (.bool true) z z (x_pick_t z z z) (wv (.bool true) z z z (wz z z z z z z (wz z z z z z z (wz z z z z z z ?_))))))))))))
 refine wz z z z z z z (wz z z z z z z (wz z z z z z z (wz z z z z z z (wv (.bool true) z z (x_pick_t z z z) (wv (.bool true) z z z (wz z z z z z z (wz z z z z z z (wz z z z z z z (wz z z z z z z (wz z z z z z z (wz z z z z z z (wz z z z z z z ?_))))))))))))
 refine wz z z z z z z (wz z z z z z z (wv (.bool true) z z (x_pick_t z z z) (wl_nil (tn ?_))))
 refine wp_ift z ?_
 refine wp_seq (wrl (wv (.bool false) z z z (wl_nil (tn (wp_ret (then_r ?_))))))
 obtain rfl := some_inj hm
 refine post_ret (vs := [.bool false]) results11 (rvs_cons (rv_tmp z) rvs_nil) ?_
 exact ⟨z, hst.keep0⟩
}
 {
 replace hm := bif_f hc354 hm
 refine wv (Pt b338 1) ((wanted_eq z z z (cvb hc354)).trans z) z (x_field z underlying30 z sizeOf3 z) (wv (.int .i64 a0.M.From) ((wanted_eq z z z (cvb hc354)).trans z) z (x_load z isAgg3 (hst.bc1 z)) (wv (Pt b347 1) ((wanted_eq z z z (cvb hc354)).trans z) z (x_field z underlying30 z sizeOf3 z) (wv (.int .i64 a1.M.From) ((wanted_eq z z z (cvb hc354)).trans z) z (x_load z isAgg3 (hst.bc0 z)) (wv (.bool (a0.M.From != a1.M.From)) ((wanted_eq z z z (cvb hc354)).trans z) z z (wv (.bool (a0.M.From != a1.M.From)) z z (x_pick_f hc354 z z) (wv (.bool (a0.M.From != a1.M.From)) z z z ?_))))))
 refine bsplit (a0.M.From != a1.M.From) (fun hc355 => ?_) (fun hc355 => ?_)
 {
 replace hm := bif_t hc355 hm
 refine wo hc355 z z z z z z (wo hc355 z z z z z z (wo hc355 z z z z z z (wo hc355 z z z z z z (wo hc355 z z z z z z (wv (.bool true) z z (x_pick_t hc355 z z) (wv (.bool true) z z z (wz z z z z z z (wz z z z z z z (wz z z z z z z (wz z z z z z z (wz z z z z z z (wv (.bool true) z z (x_pick_t z z z) ?_))))))))))))
 refine wv (.bool true) z z z (wz z z z z z z (wz z z z z z z (wz z z z z z z (wz z z z z z z (wz z z z z z z (wv (.bool true) z z (x_pick_t z z z) (wv (.bool true) z z z (wz z z z z z z (wz z z z z z z (wz z z z z z z (wz z z z z z z (wz z z z z z z ?_))))))))))))
 refine wv (.bool true) z z (x_pick_t z z z) (wv (.bool true) z z z (wz z z z z z z (wz z z z z z z (wz z z z z z z (wz z z z z z z (wz z z z z z z (wv (.bool true) z z (x_pick_t z z z) (wv (.bool true) z z z (wz z z z z z z (wz z z z z z z (wz z z z z z z (wz z z z z z z ?_))))))))))))
 refine wz z z z z z z (wv (.bool true) z z (x_pick_t z z z) (wv (.bool true) z z z (wz z z z z z z (wz z z z z z z (wz z z z z z z (wz z z z z z z (wz z z z z z z (wz z z z z z z (wv (.bool true) z z (x_pick_t z z z) (wv (.bool true) z z z (wz z z z z z z (wz z z z z z z ?_))))))))))))
 refine wz z z z z z z (wz z z z z z z (wz z z z z z z (wz z z z z z z (wz z z z z z z (wv (.bool true) z z (x_pick_t z z z) (wv (.bool true) z z z (wz z z z z z z (wz z z z z z z (wz z z z z z z (wz z z z z z z (wz z z z z z z (wz z z z z z z ?_))))))))))))
 refine wz z z z z z z (wv (.bool true) z z (x_pick_t z z z) (wv (.bool true) z z z (wz z z z z z z (wz z z z z z z (wz z z z z z z (wz z z z z z z (wz z z z z z z (wz z z z z z z (wz z z z z z z (wv (.bool true) z z (x_pick_t z z z) (wv (.bool true) z z z (wz z z z z z z ?_))))))))))))
 refine wz z z z z z z (wz z z z z z z (wz z z z z z z (wz z z z z z z (wz z z z z z z (wz z z z z z z (wz z z z z z z (wz z z z z z z (wv (.bool true) z z (x_pick_t z z z) (wl_nil (tn ?_))))))))))
 refine wp_ift z ?_
 refine wp_seq (wrl (wv (.bool false) z z z (wl_nil (tn (wp_ret (then_r ?_))))))
 obtain rfl := some_inj hm
 refine post_ret (vs := [.bool false]) results11 (rvs_cons (rv_tmp z) rvs_nil) ?_
 exact ⟨z, hst.keep0⟩
}
 {
 replace hm := bif_f hc355 hm
 refine wv (Pt b338 2) ((wanted_eq z z z (cvb hc355)).trans z) z (x_field z underlying30 z sizeOf3 z) (wv (.int .i64 a0.M.To) ((wanted_eq z z z (cvb hc355)).trans z) z (x_load z isAgg3 (hst.bc1 z)) (wv (Pt b347 2) ((wanted_eq z z z (cvb hc355)).trans z) z (x_field z underlying30 z sizeOf3 z) (wv (.int .i64 a1.M.To) ((wanted_eq z z z (cvb hc355)).trans z) z (x_load z isAgg3 (hst.bc0 z)) (wv (.bool (a0.M.To != a1.M.To)) ((wanted_eq z z z (cvb hc355)).trans z) z z (wv (.bool (a0.M.To != a1.M.To)) z z (x_pick_f hc355 z z) (wv (.bool (a0.M.To != a1.M.To)) z z z ?_))))))
 refine bsplit (a0.M.To != a1.M.To) (fun hc356 => ?_) (fun hc356 => ?_)
 {
 replace hm := bif_t hc356 hm
 refine wo hc356 z z z z z z (wo hc356 z z z z z z (wo hc356 z z z z z z (wo hc356 z z z z z z (wo hc356 z z z z z z (wv (.bool true) z z (x_pick_t hc356 z z) (wv (.bool true) z z z (wz z z z z z z (wz z z z z z z (wz z z z z z z (wz z z z z z z (wz z z z z z z (wv (.bool true) z z (x_pick_t z z z) ?_))))))))))))
 refine wv (.bool true) z z z (wz z z z z z z (wz z z z z z z (wz z z z z z z (wz z z z z z z (wz z z z z z z (wv (.bool true) z z (x_pick_t z z z) (wv (.bool true) z z z (wz z z z z z z (wz z z z z z z (wz z z z z z z (wz z z z z z z (wz z z z z z z ?_))))))))))))
 refine wv (.bool true) z z (x_pick_t z z z) (wv (.bool true) z z z (wz z z z z z z (wz z z z z z z (wz z z z z z z (wz z z z z z z (wz z z z z z z (wv (.bool true) z z (x_pick_t z z z) (wv (.bool true) z z z (wz z z z z z z (wz z z z z z z (wz z z z z z z (wz z z z z z z ?_))))))))))))
 refine wz z z z z z z (wz z z z z z z (wv (.bool true) z z (x_pick_t z z z) (wv (.bool true) z z z (wz z z z z z z (wz z z z z z z (wz z z z z z z (wz z z z z z z (wz z z z z z z (wz z z z z z z (wz z z z z z z (wv (.bool true) z z (x_pick_t z z z) (wv (.bool true) z z z ?_))))))))))))
 refine wz z z z z z z (wz z z z z z z (wz z z z z z z (wz z z z z z z (wz z z z z z z (wz z z z z z z (wz z z z z z z (wv (.bool true) z z (x_pick_t z z z) (wv (.bool true) z z z (wz z z z z z z (wz z z z z z z (wz z z z z z z (wz z z z z z z ?_))))))))))))
 refine wz z z z z z z (wz z z z z z z (wz z z z z z z (wv (.bool true) z z (x_pick_t z z z) (wv (.bool true) z z z (wz z z z z z z (wz z z z z z z (wz z z z z z z (wz z z z z z z (wz z z z z z z (wz z z z z z z (wz z z z z z z (wz z z z z z z ?_))))))))))))
 refine wz z z z z z z (wv (.bool true) z z (x_pick_t z z z) (wl_nil (tn ?_)))
 refine wp_ift z ?_
 refine wp_seq (wrl (wv (.bool false) z z z (wl_nil (tn (wp_ret (then_r ?_))))))
 obtain rfl := some_inj hm
 refine post_ret (vs := [.bool false]) results11 (rvs_cons (rv_tmp z) rvs_nil) ?_
 exact ⟨z, hst.keep0⟩
}
 {
 replace hm := bif_f hc356 hm
 refine wv (Pt b338 3) ((wanted_eq z z z (cvb hc356)).trans z) z (x_field z underlying30 z sizeOf25 z) (wv (.int .u64 a0.M.Term) ((wanted_eq z z z (cvb hc356)).trans z) z (x_load z isAgg25 (hst.bc1 z)) (wv (Pt b347 3) ((wanted_eq z z z (cvb hc356)).trans z) z (x_field z underlying30 z sizeOf25 z) (wv (.int .u64 a1.M.Term) ((wanted_eq z z z (cvb hc356)).trans z) z (x_load z isAgg25 (hst.bc0 z)) (wv (.bool (a0.M.Term != a1.M.Term)) ((wanted_eq z z z (cvb hc356)).trans z) z z (wv (.bool (a0.M.Term != a1.M.Term)) z z (x_pick_f hc356 z z) (wv (.bool (a0.M.Term != a1.M.Term)) z z z ?_))))))
 refine bsplit (a0.M.Term != a1.M.Term) (fun hc357 => ?_) (fun hc357 => ?_)
 {
 replace hm := bif_t hc357 hm
 refine wo hc357 z z z z z z (wo hc357 z z z z z z (wo hc357 z z z z z z (wo hc357 z z z z z z (wo hc357 z z z z z z (wv (.bool true) z z (x_pick_t hc357 z z) (wv (.bool true) z z z (wz z z z z z z (wz z z z z z z (wz z z z z z z (wz z z z z z z (wz z z z z z z (wv (.bool true) z z (x_pick_t z z z) ?_))))))))))))
 refine wv (.bool true) z z z (wz z z z z z z (wz z z z z z z (wz z z z z z z (wz z z z z z z (wz z z z z z z (wv (.bool true) z z (x_pick_t z z z) (wv (.bool true) z z z (wz z z z z z z (wz z z z z z z (wz z z z z z z (wz z z z z z z (wz z z z z z z ?_))))))))))))
 refine wv (.bool true) z z (x_pick_t z z z) (wv (.bool true) z z z (wz z z z z z z (wz z z z z z z (wz z z z z z z (wz z z z z z z (wz z z z z z z (wz z z z z z z (wv (.bool true) z z (x_pick_t z z z) (wv (.bool true) z z z (wz z z z z z z (wz z z z z z z (wz z z z z z z ?_))))))))))))
 refine wz z z z z z z (wz z z z z z z (wz z z z z z z (wz z z z z z z (wv (.bool true) z z (x_pick_t z z z) (wv (.bool true) z z z (wz z z z z z z (wz z z z z z z (wz z z z z z z (wz z z z z z z (wz z z z z z z (wz z z z z z z (wz z z z z z z ?_))))))))))))
 refine wv (.bool true) z z (x_pick_t z z z) (wv (.bool true) z z z (wz z z z z z z (wz z z z z z z (wz z z z z z z (wz z z z z z z (wz z z z z z z (wz z z z z z z (wz z z z z z z (wv (.bool true) z z (x_pick_t z z z) (wv (.bool true) z z z (wz z z z z z z (wz z z z z z z ?_))))))))))))
 refine wz z z z z z z (wz z z z z z z (wz z z z z z z (wz z z z z z z (wz z z z z z z (wz z z z z z z (wz z z z z z z (wv (.bool true) z z (x_pick_t z z z) (wl_nil (tn ?_)))))))))
 refine wp_ift z ?_
 refine wp_seq (wrl (wv (.bool false) z z z (wl_nil (tn (wp_ret (then_r ?_))))))
 obtain rfl := some_inj hm
 refine post_ret (vs := [.bool false]) results11 (rvs_cons (rv_tmp z) rvs_nil) ?_
 exact ⟨z, hst.keep0⟩
}
 {
 replace hm := bif_f hc357 hm
 refine wv (Pt b338 4) ((wanted_eq z z z (cvb hc357)).trans z) z (x_field z underlying30 z sizeOf25 z) (wv (.int .u64 a0.M.Index) ((wanted_eq z z z (cvb hc357)).trans z) z (x_load z isAgg25 (hst.bc1 z)) (wv (Pt b347 4) ((wanted_eq z z z (cvb hc357)).trans z) z (x_field z underlying30 z sizeOf25 z) (wv (.int .u64 a1.M.Index) ((wanted_eq z z z (cvb hc357)).trans z) z (x_load z isAgg25 (hst.bc0 z)) (wv (.bool (a0.M.Index != a1.M.Index)) ((wanted_eq z z z (cvb hc357)).trans z) z z (wv (.bool (a0.M.Index != a1.M.Index)) z z (x_pick_f hc357 z z) (wv (.bool (a0.M.Index != a1.M.Index)) z z z ?_))))))
 refine bsplit (a0.M.Index != a1.M.Index) (fun hc358 => ?_) (fun hc358 => ?_)
 {
 replace hm := bif_t hc358 hm
 refine wo hc358 z z z z z z (wo hc358 z z z z z z (wo hc358 z z z z z z (wo hc358 z z z z z z (wo hc358 z z z z z z (wv (.bool true) z z (x_pick_t hc358 z z) (wv (.bool true) z z z (wz z z z z z z (wz z z z z z z (wz z z z z z z (wz z z z z z z (wz z z z z z z (wv (.bool true) z z (x_pick_t z z z) ?_))))))))))))
 refine wv (.bool true) z z z (wz z z z z z z (wz z z z z z z (wz z z z z z z (wz z z z z z z (wz z z z z z z (wv (.bool true) z z (x_pick_t z z z) (wv (.bool true) z z z (wz z z z z z z (wz z z z z z z (wz z z z z z z (wz z z z z z z (wz z z z z z z ?_))))))))))))
 refine wz z z z z z z (wv (.bool true) z z (x_pick_t z z z) (wv (.bool true) z z z (wz z z z z z z (wz z z z z z z (wz z z z z z z (wz z z z z z z (wz z z z z z z (wz z z z z z z (wz z z z z z z (wv (.bool true) z z (x_pick_t z z z) (wv (.bool true) z z z (wz z z z z z z ?_))))))))))))
 refine wz z z z z z z (wz z z z z z z (wz z z z z z z (wz z z z z z z (wz z z z z z z (wz z z z z z z (wv (.bool true) z z (x_pick_t z z z) (wv (.bool true) z z z (wz z z z z z z (wz z z z z z z (wz z z z z z z (wz z z z z z z (wz z z z z z z ?_))))))))))))
 refine wz z z z z z z (wz z z z z z z (wv (.bool true) z z (x_pick_t z z z) (wv (.bool true) z z z (wz z z z z z z (wz z z z z z z (wz z z z z z z (wz z z z z z z (wz z z z z z z (wz z z z z z z (wz z z z z z z (wz z z z z z z (wz z z z z z z ?_))))))))))))
 refine wv (.bool true) z z (x_pick_t z z z) (wl_nil (tn ?_))
 refine wp_ift z ?_
 refine wp_seq (wrl (wv (.bool false) z z z (wl_nil (tn (wp_ret (then_r ?_))))))
 obtain rfl := some_inj hm
 refine post_ret (vs := [.bool false]) results11 (rvs_cons (rv_tmp z) rvs_nil) ?_
 exact ⟨z, hst.keep0⟩
}
 {
 replace hm := bif_f hc358 hm
 refine wv (Pt b338 5) ((wanted_eq z z z (cvb hc358)).trans z) z (x_field z underlying30 z sizeOf25 z) (wv (.int .u64 a0.M.LogTerm) ((wanted_eq z z z (cvb hc358)).trans z) z (x_load z isAgg25 (hst.bc1 z)) (wv (Pt b347 5) ((wanted_eq z z z (cvb hc358)).trans z) z (x_field z underlying30 z sizeOf25 z) (wv (.int .u64 a1.M.LogTerm) ((wanted_eq z z z (cvb hc358)).trans z) z (x_load z isAgg25 (hst.bc0 z)) (wv (.bool (a0.M.LogTerm != a1.M.LogTerm)) ((wanted_eq z z z (cvb hc358)).trans z) z z (wv (.bool (a0.M.LogTerm != a1.M.LogTerm)) z z (x_pick_f hc358 z z) (wv (.bool (a0.M.LogTerm != a1.M.LogTerm)) z z z ?_))))))
 refine bsplit (a0.M.LogTerm != a1.M.LogTerm) (fun hc359 => ?_) (fun hc359 => ?_)
 {
 replace hm := bif_t hc359 hm
 refine wo hc359 z z z z z z (wo hc359 z z z z z z (wo hc359 z z z z z z (wo hc359 z z z z z z (wo hc359 z z z z z z (wv (.bool true) z z (x_pick_t hc359 z z) (wv (.bool true) z z z (wz z z z z z z (wz z z z z z z (wz z z z z z z (wz z z z z z z (wz z z z z z z (wv (.bool true) z z (x_pick_t z z z) ?_))))))))))))
 refine wv (.bool true) z z z (wz z z z z z z (wz z z z z z z (wz z z z z z z (wz z z z z z z (wz z z z z z z (wz z z z z z z (wv (.bool true) z z (x_pick_t z z z) (wv (.bool true) z z z (wz z z z z z z (wz z z z z z z (wz z z z z z z (wz z z z z z z ?_))))))))))))
 refine wz z z z z z z (wz z z z z z z (wz z z z z z z (wv (.bool true) z z (x_pick_t z z z) (wv (.bool true) z z z (wz z z z z z z (wz z z z z z z (wz z z z z z z (wz z z z z z z (wz z z z z z z (wz z z z z z z (wz z z z z z z (wv (.bool true) z z (x_pick_t z z z) ?_))))))))))))
 refine wv (.bool true) z z z (wz z z z z z z (wz z z z z z z (wz z z z z z z (wz z z z z z z (wz z z z z z z (wz z z z z z z (wz z z z z z z (wv (.bool true) z z (x_pick_t z z z) (wv (.bool true) z z z (wz z z z z z z (wz z z z z z z (wz z z z z z z ?_))))))))))))
 refine wz z z z z z z (wz z z z z z z (wz z z z z z z (wz z z z z z z (wz z z z z z z (wz z z z z z z (wv (.bool true) z z (x_pick_t z z z) (wl_nil (tn ?_))))))))
 refine wp_ift z ?_
 refine wp_seq (wrl (wv (.bool false) z z z (wl_nil (tn (wp_ret (then_r ?_))))))
 obtain rfl := some_inj hm
 refine post_ret (vs := [.bool false]) results11 (rvs_cons (rv_tmp z) rvs_nil) ?_
 exact ⟨z, hst.keep0⟩
}
 {
 replace hm := bif_f hc359 hm
 refine wv (Pt b338 6) ((wanted_eq z z z (cvb hc359)).trans z) z (x_field z underlying30 z sizeOf25 z) (wv (.int .u64 a0.M.Commit) ((wanted_eq z z z (cvb hc359)).trans z) z (x_load z isAgg25 (hst.bc1 z)) (wv (Pt b347 6) ((wanted_eq z z z (cvb hc359)).trans z) z (x_field z underlying30 z sizeOf25 z) (wv (.int .u64 a1.M.Commit) ((wanted_eq z z z (cvb hc359)).trans z) z (x_load z isAgg25 (hst.bc0 z)) (wv (.bool (a0.M.Commit != a1.M.Commit)) ((wanted_eq z z z (cvb hc359)).trans z) z z (wv (.bool (a0.M.Commit != a1.M.Commit)) z z (x_pick_f hc359 z z) (wv (.bool (a0.M.Commit != a1.M.Commit)) z z z ?_))))))
 refine bsplit (a0.M.Commit != a1.M.Commit) (fun hc360 => ?_) (fun hc360 => ?_)
 {
 replace hm := bif_t hc360 hm
 refine wo hc360 z z z z z z (wo hc360 z z z z z z (wo hc360 z z z z z z (wo hc360 z z z z z z (wo hc360 z z z z z z (wv (.bool true) z z (x_pick_t hc360 z z) (wv (.bool true) z z z (wz z z z z z z (wz z z z z z z (wz z z z z z z (wz z z z z z z (wz z z z z z z (wz z z z z z z ?_))))))))))))
 refine wv (.bool true) z z (x_pick_t z z z) (wv (.bool true) z z z (wz z z z z z z (wz z z z z z z (wz z z z z z z (wz z z z z z z (wz z z z z z z (wz z z z z z z (wz z z z z z z (wv (.bool true) z z (x_pick_t z z z) (wv (.bool true) z z z (wz z z z z z z (wz z z z z z z ?_))))))))))))
 refine wz z z z z z z (wz z z z z z z (wz z z z z z z (wz z z z z z z (wz z z z z z z (wv (.bool true) z z (x_pick_t z z z) (wv (.bool true) z z z (wz z z z z z z (wz z z z z z z (wz z z z z z z (wz z z z z z z (wz z z z z z z (wz z z z z z z ?_))))))))))))
 refine wz z z z z z z (wv (.bool true) z z (x_pick_t z z z) (wv (.bool true) z z z (wz z z z z z z (wz z z z z z z (wz z z z z z z (wz z z z z z z (wz z z z z z z (wz z z z z z z (wz z z z z z z (wz z z z z z z (wz z z z z z z (wv (.bool true) z z (x_pick_t z z z) ?_))))))))))))
 refine wl_nil (tn ?_)
 refine wp_ift z ?_
 refine wp_seq (wrl (wv (.bool false) z z z (wl_nil (tn (wp_ret (then_r ?_))))))
 obtain rfl := some_inj hm
 refine post_ret (vs := [.bool false]) results11 (rvs_cons (rv_tmp z) rvs_nil) ?_
 exact ⟨z, hst.keep0⟩
}
 {
 replace hm := bif_f hc360 hm
 refine wv (Pt b338 7) ((wanted_eq z z z (cvb hc360)).trans z) z (x_field z underlying30 z sizeOf4 z) (wv (.bool a0.M.OK) ((wanted_eq z z z (cvb hc360)).trans z) z (x_load z isAgg4 (hst.bc1 z)) (wv (Pt b347 7) ((wanted_eq z z z (cvb hc360)).trans z) z (x_field z underlying30 z sizeOf4 z) (wv (.bool a1.M.OK) ((wanted_eq z z z (cvb hc360)).trans z) z (x_load z isAgg4 (hst.bc0 z)) (wv (.bool (!(a0.M.OK == a1.M.OK))) ((wanted_eq z z z (cvb hc360)).trans z) z (by kernel_rfl) (wv (.bool (!(a0.M.OK == a1.M.OK))) z z (x_pick_f hc360 z z) (wv (.bool (!(a0.M.OK == a1.M.OK))) z z z ?_))))))
 refine bsplit (!(a0.M.OK == a1.M.OK)) (fun hc361 => ?_) (fun hc361 => ?_)
 {
 replace hm := bif_t hc361 hm
 refine wo hc361 z z z z z z (wo hc361 z z z z z z (wo hc361 z z z z z z (wo hc361 z z z z z z (wo hc361 z z z z z z (wo hc361 z z z z z z (wv (.bool true) z z (x_pick_t hc361 z z) (wv (.bool true) z z z (wz z z z z z z (wz z z z z z z (wz z z z z z z (wz z z z z z z (wz z z z z z z ?_))))))))))))
 refine wz z z z z z z (wz z z z z z z (wv (.bool true) z z (x_pick_t z z z) (wv (.bool true) z z z (wz z z z z z z (wz z z z z z z (wz z z z z z z (wz z z z z z z (wz z z z z z z (wz z z z z z z (wz z z z z z z (wv (.bool true) z z (x_pick_t z z z) (wv (.bool true) z z z ?_))))))))))))
 refine wz z z z z z z (wz z z z z z z (wz z z z z z z (wz z z z z z z (wz z z z z z z (wz z z z z z z (wz z z z z z z (wv (.bool true) z z (x_pick_t z z z) (wv (.bool true) z z z (wz z z z z z z (wz z z z z z z (wz z z z z z z (wz z z z z z z ?_))))))))))))
 refine wz z z z z z z (wz z z z z z z (wz z z z z z z (wz z z z z z z (wz z z z z z z (wv (.bool true) z z (x_pick_t z z z) (wl_nil (tn ?_)))))))
 refine wp_ift z ?_
 refine wp_seq (wrl (wv (.bool false) z z z (wl_nil (tn (wp_ret (then_r ?_))))))
 obtain rfl := some_inj hm
 refine post_ret (vs := [.bool false]) results11 (rvs_cons (rv_tmp z) rvs_nil) ?_
 exact ⟨z, hst.keep0⟩
}
 {
 replace hm := bif_f hc361 hm
 refine wv (Pt b338 8) ((wanted_eq z z z (cvb hc361)).trans z) z (x_field z underlying30 z sizeOf26 z) (wv (r0_0) ((wanted_eq z z z (cvb hc361)).trans z) z (x_load z isAgg26 (hst.bc1 z)) (wv (Pt b347 8) ((wanted_eq z z z (cvb hc361)).trans z) z (x_field z underlying30 z sizeOf26 z) (wv (r1_0) ((wanted_eq z z z (cvb hc361)).trans z) z (x_load z isAgg26 (hst.bc0 z)) ?_)))
 obtain ⟨t362, ht363, hm⟩ := bind_some hm
 refine wl_call ((wanted_eq z z z (cvb hc361)).trans z) z (x_call call41 z (vs := [r0_0, r1_0]) z) ?_
 refine (ref08_SameEntries_ref (f0_0.mono (rd_weak _)) (f1_0.mono (rd_weak _)) hst.to0 ht363).mono ?_
 rintro _ w364 ⟨rfl, hst⟩
 refine ⟨_, z, ?_⟩
 replace hst := hst.of0
 refine wv (.bool (!t362)) ((wanted_eq z z z (cvb hc361)).trans z) z z (wv (.bool (!t362)) z z (x_pick_f hc361 z z) (wv (.bool (!t362)) z z z ?_))
 refine bsplit (!t362) (fun hc367 => ?_) (fun hc367 => ?_)
 {
 replace hm := bif_t hc367 hm
 refine wo hc367 z z z z z z (wo hc367 z z z z z z (wo hc367 z z z z z z (wo hc367 z z z z z z (wo hc367 z z z z z z (wo hc367 z z z z z z (wo hc367 z z z z z z (wv (.bool true) z z (x_pick_t hc367 z z) (wv (.bool true) z z z (wz z z z z z z (wz z z z z z z (wz z z z z z z (wz z z z z z z ?_))))))))))))
 refine wz z z z z z z (wz z z z z z z (wz z z z z z z (wv (.bool true) z z (x_pick_t z z z) (wv (.bool true) z z z (wz z z z z z z (wz z z z z z z (wz z z z z z z (wz z z z z z z (wz z z z z z z (wz z z z z z z (wz z z z z z z (wv (.bool true) z z (x_pick_t z z z) ?_))))))))))))
 refine wv (.bool true) z z z (wz z z z z z z (wz z z z z z z (wz z z z z z z (wz z z z z z z (wz z z z z z z (wz z z z z z z (wz z z z z z z (wz z z z z z z (wz z z z z z z (wv (.bool true) z z (x_pick_t z z z) (wl_nil (tn ?_))))))))))))
 refine wp_ift z ?_
 refine wp_seq (wrl (wv (.bool false) z z z (wl_nil (tn (wp_ret (then_r ?_))))))
 obtain rfl := some_inj hm
 refine post_ret (vs := [.bool false]) results11 (rvs_cons (rv_tmp z) rvs_nil) ?_
 exact ⟨z, hst.keep0⟩
}
 {
 replace hm := bif_f hc367 hm
 refine wv (Pt b338 9) ((wanted_eq z z z (cvb hc367)).trans z) z (x_field z underlying30 z sizeOf28 z) (wv (Pt b338 9) ((wanted_eq z z z (cvb hc367)).trans z) z (x_field z underlying28 z sizeOf25 z) (wv (.int .u64 a0.M.S.Index) ((wanted_eq z z z (cvb hc367)).trans z) z (x_load z isAgg25 (hst.bc1 z)) (wv (Pt b347 9) ((wanted_eq z z z (cvb hc367)).trans z) z (x_field z underlying30 z sizeOf28 z) (wv (Pt b347 9) ((wanted_eq z z z (cvb hc367)).trans z) z (x_field z underlying28 z sizeOf25 z) (wv (.int .u64 a1.M.S.Index) ((wanted_eq z z z (cvb hc367)).trans z) z (x_load z isAgg25 (hst.bc0 z)) (wv (.bool (a0.M.S.Index != a1.M.S.Index)) ((wanted_eq z z z (cvb hc367)).trans z) z z (wv (.bool (a0.M.S.Index != a1.M.S.Index)) z z (x_pick_f hc367 z z) (wv (.bool (a0.M.S.Index != a1.M.S.Index)) z z z ?_))))))))
 refine bsplit (a0.M.S.Index != a1.M.S.Index) (fun hc368 => ?_) (fun hc368 => ?_)
 {
 replace hm := bif_t hc368 hm
 refine wo hc368 z z z z z z (wo hc368 z z z z z z (wo hc368 z z z z z z (wo hc368 z z z z z z (wo hc368 z z z z z z (wo hc368 z z z z z z (wo hc368 z z z z z z (wv (.bool true) z z (x_pick_t hc368 z z) (wv (.bool true) z z z (wz z z z z z z (wz z z z z z z (wz z z z z z z (wz z z z z z z ?_))))))))))))
 refine wz z z z z z z (wz z z z z z z (wz z z z z z z (wv (.bool true) z z (x_pick_t z z z) (wv (.bool true) z z z (wz z z z z z z (wz z z z z z z (wz z z z z z z (wz z z z z z z (wz z z z z z z (wz z z z z z z (wz z z z z z z (wz z z z z z z ?_))))))))))))
 refine wz z z z z z z (wv (.bool true) z z (x_pick_t z z z) (wl_nil (tn ?_)))
 refine wp_ift z ?_
 refine wp_seq (wrl (wv (.bool false) z z z (wl_nil (tn (wp_ret (then_r ?_))))))
 obtain rfl := some_inj hm
 refine post_ret (vs := [.bool false]) results11 (rvs_cons (rv_tmp z) rvs_nil) ?_
 exact ⟨z, hst.keep0⟩
}
 {
 replace hm := bif_f hc368 hm
 refine wv (Pt b338 9) ((wanted_eq z z z (cvb hc368)).trans z) z (x_field z underlying30 z sizeOf28 z) (wv (Pt b338 10) ((wanted_eq z z z (cvb hc368)).trans z) z (x_field z underlying28 z sizeOf25 z) (wv (.int .u64 a0.M.S.Term) ((wanted_eq z z z (cvb hc368)).trans z) z (x_load z isAgg25 (hst.bc1 z)) (wv (Pt b347 9) ((wanted_eq z z z (cvb hc368)).trans z) z (x_field z underlying30 z sizeOf28 z) (wv (Pt b347 10) ((wanted_eq z z z (cvb hc368)).trans z) z (x_field z underlying28 z sizeOf25 z) (wv (.int .u64 a1.M.S.Term) ((wanted_eq z z z (cvb hc368)).trans z) z (x_load z isAgg25 (hst.bc0 z)) (wv (.bool (a0.M.S.Term != a1.M.S.Term)) ((wanted_eq z z z (cvb hc368)).trans z) z z (wv (.bool (a0.M.S.Term != a1.M.S.Term)) z z (x_pick_f hc368 z z) (wv (.bool (a0.M.S.Term != a1.M.S.Term)) z z z ?_))))))))
 refine bsplit (a0.M.S.Term != a1.M.S.Term) (fun hc369 => ?_) (fun hc369 => ?_)
 {
 replace hm := bif_t hc369 hm
 refine wo hc369 z z z z z z (wo hc369 z z z z z z (wo hc369 z z z z z z (wo hc369 z z z z z z (wo hc369 z z z z z z (wo hc369 z z z z z z (wo hc369 z z z z z z (wv (.bool true) z z (x_pick_t hc369 z z) (wv (.bool true) z z z (wz z z z z z z (wz z z z z z z (wz z z z z z z (wz z z z z z z ?_))))))))))))
 refine wz z z z z z z (wz z z z z z z (wz z z z z z z (wz z z z z z z (wz z z z z z z (wv (.bool true) z z (x_pick_t z z z) (wl_nil (tn ?_)))))))
 refine wp_ift z ?_
 refine wp_seq (wrl (wv (.bool false) z z z (wl_nil (tn (wp_ret (then_r ?_))))))
 obtain rfl := some_inj hm
 refine post_ret (vs := [.bool false]) results11 (rvs_cons (rv_tmp z) rvs_nil) ?_
 exact ⟨z, hst.keep0⟩
}
 {
 replace hm := bif_f hc369 hm
 refine wv (Pt b338 9) ((wanted_eq z z z (cvb hc369)).trans z) z (x_field z underlying30 z sizeOf28 z) (wv (Pt b338 11) ((wanted_eq z z z (cvb hc369)).trans z) z (x_field z underlying28 z sizeOf25 z) (wv (.int .u64 a0.M.S.Voters) ((wanted_eq z z z (cvb hc369)).trans z) z (x_load z isAgg25 (hst.bc1 z)) (wv (Pt b347 9) ((wanted_eq z z z (cvb hc369)).trans z) z (x_field z underlying30 z sizeOf28 z) (wv (Pt b347 11) ((wanted_eq z z z (cvb hc369)).trans z) z (x_field z underlying28 z sizeOf25 z) (wv (.int .u64 a1.M.S.Voters) ((wanted_eq z z z (cvb hc369)).trans z) z (x_load z isAgg25 (hst.bc0 z)) (wv (.bool (a0.M.S.Voters != a1.M.S.Voters)) ((wanted_eq z z z (cvb hc369)).trans z) z z (wv (.bool (a0.M.S.Voters != a1.M.S.Voters)) z z (x_pick_f hc369 z z) (wv (.bool (a0.M.S.Voters != a1.M.S.Voters)) z z z ?_))))))))
 refine bsplit (a0.M.S.Voters != a1.M.S.Voters) (fun hc370 => ?_) (fun hc370 => ?_)
 {
 replace hm := bif_t hc370 hm
 refine wo hc370 z z z z z z (wo hc370 z z z z z z (wo hc370 z z z z z z (wo hc370 z z z z z z (wo hc370 z z z z z z (wo hc370 z z z z z z (wo hc370 z z z z z z (wo hc370 z z z z z z (wo hc370 z z z z z z (wv (.bool true) z z (x_pick_t hc370 z z) (wl_nil (tn ?_)))))))))))
 refine wp_ift z ?_
 refine wp_seq (wrl (wv (.bool false) z z z (wl_nil (tn (wp_ret (then_r ?_))))))
 obtain rfl := some_inj hm
 refine post_ret (vs := [.bool false]) results11 (rvs_cons (rv_tmp z) rvs_nil) ?_
 exact ⟨z, hst.keep0⟩
}
 {
 replace hm := bif_f hc370 hm
 refine wv (Pt b338 9) ((wanted_eq z z z (cvb hc370)).trans z) z (x_field z underlying30 z sizeOf28 z) (wv (Pt b338 12) ((wanted_eq z z z (cvb hc370)).trans z) z (x_field z underlying28 z sizeOf22 z) (wv (r0_1) ((wanted_eq z z z (cvb hc370)).trans z) z (x_load z isAgg22 (hst.bc1 z)) (wv (.string (toStr a0.M.S.Data)) ((wanted_eq z z z (cvb hc370)).trans z) z (x_tostr underlying22 underlying9 underlying5 z (Src.of_rd hst f0_1 flat_int)) (wv (Pt b347 9) ((wanted_eq z z z (cvb hc370)).trans z) z (x_field z underlying30 z sizeOf28 z) (wv (Pt b347 12) ((wanted_eq z z z (cvb hc370)).trans z) z (x_field z underlying28 z sizeOf22 z) (wv (r1_1) ((wanted_eq z z z (cvb hc370)).trans z) z (x_load z isAgg22 (hst.bc0 z)) (wv (.string (toStr a1.M.S.Data)) ((wanted_eq z z z (cvb hc370)).trans z) z (x_tostr underlying22 underlying9 underlying5 z (Src.of_rd hst f1_1 flat_int)) (wv (.bool (!(sEq (toStr a0.M.S.Data) (toStr a1.M.S.Data)))) ((wanted_eq z z z (cvb hc370)).trans z) z (by kernel_rfl) (wv (.bool (!(sEq (toStr a0.M.S.Data) (toStr a1.M.S.Data)))) z z (x_pick_f hc370 z z) (wl_nil (tn ?_)))))))))))
 refine bsplit (!(sEq (toStr a0.M.S.Data) (toStr a1.M.S.Data))) (fun hc371 => ?_) (fun hc371 => ?_)
 {
 replace hm := bif_t hc371 hm
 refine wp_ift (cvb hc371) ?_
 refine wp_seq (wrl (wv (.bool false) z z z (wl_nil (tn (wp_ret (then_r ?_))))))
 obtain rfl := some_inj hm
 refine post_ret (vs := [.bool false]) results11 (rvs_cons (rv_tmp z) rvs_nil) ?_
 exact ⟨z, hst.keep0⟩
}
 {
 replace hm := bif_f hc371 hm
 refine wp_iff (cvb hc371) ?_
 refine wp_skip (tn (wp_seq ?_))
 refine wp_region_St hst 38 [0, 1, 2, 3, 4, 5, 6, 7, 8, 9, 10, 11, 12, 13, 14, 15, 16, 17, 18, 19, 20, 21, 22, 23, 24, 25, 26, 27, 28, 29, 30, 31, 32, 33, 34, 35, 36, 37] [0, 1, 0, 4, 15, 31, 63, 127, 63, 319, 1023, 2047, 4095, 8191, 16383, 8191, 40959, 131071, 262143, 524287, 1048575, 2097151, 1048575, 5242879, 16777215, 33554431, 67108863, 134217727, 268435455, 536870911, 1073741823, 134217727, 2281701375, 7516192767, 16106127359, 34359738367, 68719476735, 137438953471] [] z (by kernel_rfl) (by kernel_rfl) Try.mixed (by kernel_rfl) ?_
 refine wsr (Pt b326 0) 0 z z z (by kernel_rfl) (fun w hst => x_field z underlying50 z sizeOf5 z) (wsr (.int .u8 a0.Kind) 1 z z z (by kernel_rfl) (fun w hst => x_load z isAgg5 (hst.bc3 z)) (wsr (Pt b331 0) 2 z z z (by kernel_rfl) (fun w hst => x_field z underlying50 z sizeOf5 z) (wsr (.int .u8 a1.Kind) 3 z z z (by kernel_rfl) (fun w hst => x_load z isAgg5 (hst.bc2 z)) (wsr (.bool (a0.Kind == a1.Kind)) 4 z z z (by kernel_rfl) (fun w hst => z) (wsr (.bool (a0.Kind == a1.Kind)) 5 z z z (by kernel_rfl) (fun w hst => z) ?_)))))
 refine bsplit (a0.Kind == a1.Kind) (fun hc372 => ?_) (fun hc372 => ?_)
 {
 replace hm := bif_t hc372 hm
 refine ws_q (v := Pt b326 21) 6 [7, 8, 9, 10, 11, 12, 13, 14, 15, 16, 17, 18, 19, 20, 21, 22, 23, 24, 25, 26, 27, 28, 29, 30, 31, 32, 33, 34, 35, 36, 37] (by kernel_rfl) z z (yi_run ((wanted_eq z z z (cvb hc372)).trans z) (fun w hst => x_field z underlying50 z sizeOf32 z)) (ws_q (v := .agg #[U6 a0.ID.Session, U6 a0.ID.Seq]) 7 [8, 9, 10, 11, 12, 13, 14, 15, 16, 17, 18, 19, 20, 21, 22, 23, 24, 25, 26, 27, 28, 29, 30, 31, 32, 33, 34, 35, 36, 37] (by kernel_rfl) z z (yi_run ((wanted_eq z z z (cvb hc372)).trans z) (fun w hst => x_loadN (cs := [U6 a0.ID.Session, U6 a0.ID.Seq]) z isAgg32 sizeOf32 (hst.bcs3 21 z))) (ws_q (v := Pt b331 21) 8 [9, 10, 11, 12, 13, 14, 15, 16, 17, 18, 19, 20, 21, 22, 23, 24, 25, 26, 27, 28, 29, 30, 31, 32, 33, 34, 35, 36, 37] (by kernel_rfl) z z (yi_run ((wanted_eq z z z (cvb hc372)).trans z) (fun w hst => x_field z underlying50 z sizeOf32 z)) (ws_q (v := .agg #[U6 a1.ID.Session, U6 a1.ID.Seq]) 9 [10, 11, 12, 13, 14, 15, 16, 17, 18, 19, 20, 21, 22, 23, 24, 25, 26, 27, 28, 29, 30, 31, 32, 33, 34, 35, 36, 37] (by kernel_rfl) z z (yi_run ((wanted_eq z z z (cvb hc372)).trans z) (fun w hst => x_loadN (cs := [U6 a1.ID.Session, U6 a1.ID.Seq]) z isAgg32 sizeOf32 (hst.bcs2 21 z))) (ws_q (v := .bool ((a0.ID.Session == a1.ID.Session) && (a0.ID.Seq == a1.ID.Seq))) 10 [11, 12, 13, 14, 15, 16, 17, 18, 19, 20, 21, 22, 23, 24, 25, 26, 27, 28, 29, 30, 31, 32, 33, 34, 35, 36, 37] (by kernel_rfl) z z (yi_run ((wanted_eq z z z (cvb hc372)).trans z) (fun w hst => x_aggeq2 z z (by kernel_rfl) underlying32 (by kernel_rfl) (by kernel_rfl) (by kernel_rfl) underlying25 underlying25 (fun _ _ _ => by kernel_rfl) (fun _ _ _ => by kernel_rfl))) (wsr (.bool ((a0.ID.Session == a1.ID.Session) && (a0.ID.Seq == a1.ID.Seq))) 11 z z z (by kernel_rfl) (fun w hst => x_pick_t hc372 z z) (wsr (.bool ((a0.ID.Session == a1.ID.Session) && (a0.ID.Seq == a1.ID.Seq))) 12 z z z (by kernel_rfl) (fun w hst => z) ?_))))))
 refine bsplit ((a0.ID.Session == a1.ID.Session) && (a0.ID.Seq == a1.ID.Seq)) (fun hc373 => ?_) (fun hc373 => ?_)
 {
 replace hm := bif_t hc373 hm
 refine ws_q (v := Pt b326 14) 13 [14, 15, 16, 17, 18, 19, 20, 21, 22, 23, 24, 25, 26, 27, 28, 29, 30, 31, 32, 33, 34, 35, 36, 37] (by kernel_rfl) z z (yi_run ((wanted_eq z z z (cvb hc373)).trans z) (fun w hst => x_field z underlying50 z sizeOf36 z)) (ws_q (v := .agg #[U6 a0.H.ID.Session, U6 a0.H.ID.Seq, U6 a0.H.Epoch, r0_2, r0_3, r0_4, r0_5]) 14 [15, 16, 17, 18, 19, 20, 21, 22, 23, 24, 25, 26, 27, 28, 29, 30, 31, 32, 33, 34, 35, 36, 37] (by kernel_rfl) z z (yi_run ((wanted_eq z z z (cvb hc373)).trans z) (fun w hst => x_loadN (cs := [U6 a0.H.ID.Session, U6 a0.H.ID.Seq, U6 a0.H.Epoch, r0_2, r0_3, r0_4, r0_5]) z isAgg36 sizeOf36 (hst.bcs3 14 z))) (ws_q (v := Pt b331 14) 15 [16, 17, 18, 19, 20, 21, 22, 23, 24, 25, 26, 27, 28, 29, 30, 31, 32, 33, 34, 35, 36, 37] (by kernel_rfl) z z (yi_run ((wanted_eq z z z (cvb hc373)).trans z) (fun w hst => x_field z underlying50 z sizeOf36 z)) (ws_q (v := .agg #[U6 a1.H.ID.Session, U6 a1.H.ID.Seq, U6 a1.H.Epoch, r1_2, r1_3, r1_4, r1_5]) 16 [17, 18, 19, 20, 21, 22, 23, 24, 25, 26, 27, 28, 29, 30, 31, 32, 33, 34, 35, 36, 37] (by kernel_rfl) z z (yi_run ((wanted_eq z z z (cvb hc373)).trans z) (fun w hst => x_loadN (cs := [U6 a1.H.ID.Session, U6 a1.H.ID.Seq, U6 a1.H.Epoch, r1_2, r1_3, r1_4, r1_5]) z isAgg36 sizeOf36 (hst.bcs2 14 z))) ?_)))
 refine ws_e1 17 (by kernel_rfl) ?_
 refine nxe [18, 19, 20, 21, 22, 23, 24, 25, 26, 27, 28, 29, 30, 31, 32, 33, 34, 35, 36, 37] (by kernel_rfl) z ((wanted_eq z z z (cvb hc373)).trans z) ?_
 clear hst
 intro w hst
 obtain ⟨t374, ht375, hm⟩ := bind_some hm
 refine wec call42 [.agg #[U6 a0.H.ID.Session, U6 a0.H.ID.Seq, U6 a0.H.Epoch, r0_2, r0_3, r0_4, r0_5], .agg #[U6 a1.H.ID.Session, U6 a1.H.ID.Seq, U6 a1.H.Epoch, r1_2, r1_3, r1_4, r1_5]] z z ?_
 refine (ref11_SameHold_ref (f0_2.mono (rd_weak _)) (f0_3.mono (rd_weak _)) (f0_4.mono (rd_weak _)) (f0_5.mono (rd_weak _)) (f1_2.mono (rd_weak _)) (f1_3.mono (rd_weak _)) (f1_4.mono (rd_weak _)) (f1_5.mono (rd_weak _)) hst.to0 ht375).mono ?_
 rintro _ w376 ⟨rfl, hst⟩
 refine ⟨_, z, ?_⟩
 replace hst := hst.of0
 refine ws_next (pend' := []) hst (by kernel_rfl) pk_nil ?_
 refine wsr (.bool t374) 18 z z z (by kernel_rfl) (fun w hst => x_pick_t hc373 z z) (wsr (.bool t374) 19 z z z (by kernel_rfl) (fun w hst => z) ?_)
 refine bsplit t374 (fun hc379 => ?_) (fun hc379 => ?_)
 {
 replace hm := bif_t hc379 hm
 refine ws_q (v := Pt b326 23) 20 [21, 22, 23, 24, 25, 26, 27, 28, 29, 30, 31, 32, 33, 34, 35, 36, 37] (by kernel_rfl) z z (yi_run ((wanted_eq z z z (cvb hc379)).trans z) (fun w hst => x_field z underlying50 z sizeOf41 z)) (ws_q (v := .agg #[I6 a0.R.E, U6 a0.R.Epoch, U6 a0.R.Index, r0_6, r0_7]) 21 [22, 23, 24, 25, 26, 27, 28, 29, 30, 31, 32, 33, 34, 35, 36, 37] (by kernel_rfl) z z (yi_run ((wanted_eq z z z (cvb hc379)).trans z) (fun w hst => x_loadN (cs := [I6 a0.R.E, U6 a0.R.Epoch, U6 a0.R.Index, r0_6, r0_7]) z isAgg41 sizeOf41 (hst.bcs3 23 z))) (ws_q (v := Pt b331 23) 22 [23, 24, 25, 26, 27, 28, 29, 30, 31, 32, 33, 34, 35, 36, 37] (by kernel_rfl) z z (yi_run ((wanted_eq z z z (cvb hc379)).trans z) (fun w hst => x_field z underlying50 z sizeOf41 z)) (ws_q (v := .agg #[I6 a1.R.E, U6 a1.R.Epoch, U6 a1.R.Index, r1_6, r1_7]) 23 [24, 25, 26, 27, 28, 29, 30, 31, 32, 33, 34, 35, 36, 37] (by kernel_rfl) z z (yi_run ((wanted_eq z z z (cvb hc379)).trans z) (fun w hst => x_loadN (cs := [I6 a1.R.E, U6 a1.R.Epoch, U6 a1.R.Index, r1_6, r1_7]) z isAgg41 sizeOf41 (hst.bcs2 23 z))) ?_)))
 refine ws_e1 24 (by kernel_rfl) ?_
 refine nxe [25, 26, 27, 28, 29, 30, 31, 32, 33, 34, 35, 36, 37] (by kernel_rfl) z ((wanted_eq z z z (cvb hc379)).trans z) ?_
 clear hst
 intro w hst
 obtain ⟨t380, ht381, hm⟩ := bind_some hm
 refine wec call43 [.agg #[I6 a0.R.E, U6 a0.R.Epoch, U6 a0.R.Index, r0_6, r0_7], .agg #[I6 a1.R.E, U6 a1.R.Epoch, U6 a1.R.Index, r1_6, r1_7]] z z ?_
 refine (ref11_SameReply_ref (f0_6.mono (rd_weak _)) (f0_7.mono (rd_weak _)) (f1_6.mono (rd_weak _)) (f1_7.mono (rd_weak _)) hst.to0 ht381).mono ?_
 rintro _ w382 ⟨rfl, hst⟩
 refine ⟨_, z, ?_⟩
 replace hst := hst.of0
 refine ws_next (pend' := []) hst (by kernel_rfl) pk_nil ?_
 refine wsr (.bool t380) 25 z z z (by kernel_rfl) (fun w hst => x_pick_t hc379 z z) (wsr (.bool t380) 26 z z z (by kernel_rfl) (fun w hst => z) ?_)
 refine bsplit t380 (fun hc385 => ?_) (fun hc385 => ?_)
 {
 replace hm := bif_t hc385 hm
 refine ws_q (v := Pt b326 28) 27 [28, 29, 30, 31, 32, 33, 34, 35, 36, 37] (by kernel_rfl) z z (yi_run ((wanted_eq z z z (cvb hc385)).trans z) (fun w hst => x_field z underlying50 z sizeOf48 z)) (ws_q (v := .agg #[U1 a0.C.Kind, U6 a0.C.ID.Session, U6 a0.C.ID.Seq, U6 a0.C.Epoch, U6 a0.C.Index, I6 a0.C.E, U6 a0.C.Hold.ID.Session, U6 a0.C.Hold.ID.Seq, U6 a0.C.Hold.Epoch, r0_8, r0_9, r0_10, r0_11, r0_12, I6 a0.C.R.E, U6 a0.C.R.Epoch, U6 a0.C.R.Index, r0_13, r0_14, U6 a0.C.Shards, r0_15, U6 a0.C.Rule.ID, I6 a0.C.Rule.From, I6 a0.C.Rule.To, F6 a0.C.Rule.Lo, F6 a0.C.Rule.Hi, U6 a0.C.Rule.Authority, I6 a0.C.Rule.Quota, .bool a0.C.On]) 28 [29, 30, 31, 32, 33, 34, 35, 36, 37] (by kernel_rfl) z z (yi_run ((wanted_eq z z z (cvb hc385)).trans z) (fun w hst => x_loadN (cs := [U1 a0.C.Kind, U6 a0.C.ID.Session, U6 a0.C.ID.Seq, U6 a0.C.Epoch, U6 a0.C.Index, I6 a0.C.E, U6 a0.C.Hold.ID.Session, U6 a0.C.Hold.ID.Seq, U6 a0.C.Hold.Epoch, r0_8, r0_9, r0_10, r0_11, r0_12, I6 a0.C.R.E, U6 a0.C.R.Epoch, U6 a0.C.R.Index, r0_13, r0_14, U6 a0.C.Shards, r0_15, U6 a0.C.Rule.ID, I6 a0.C.Rule.From, I6 a0.C.Rule.To, F6 a0.C.Rule.Lo, F6 a0.C.Rule.Hi, U6 a0.C.Rule.Authority, I6 a0.C.Rule.Quota, .bool a0.C.On]) z isAgg48 sizeOf48 (hst.bcs3 28 z))) (ws_q (v := Pt b331 28) 31 [29, 30, 32, 33, 34, 35, 36, 37] (by kernel_rfl) z z (yi_run ((wanted_eq z z z (cvb hc385)).trans z) (fun w hst => x_field z underlying50 z sizeOf48 z)) (ws_q (v := .agg #[U1 a1.C.Kind, U6 a1.C.ID.Session, U6 a1.C.ID.Seq, U6 a1.C.Epoch, U6 a1.C.Index, I6 a1.C.E, U6 a1.C.Hold.ID.Session, U6 a1.C.Hold.ID.Seq, U6 a1.C.Hold.Epoch, r1_8, r1_9, r1_10, r1_11, r1_12, I6 a1.C.R.E, U6 a1.C.R.Epoch, U6 a1.C.R.Index, r1_13, r1_14, U6 a1.C.Shards, r1_15, U6 a1.C.Rule.ID, I6 a1.C.Rule.From, I6 a1.C.Rule.To, F6 a1.C.Rule.Lo, F6 a1.C.Rule.Hi, U6 a1.C.Rule.Authority, I6 a1.C.Rule.Quota, .bool a1.C.On]) 32 [29, 30, 33, 34, 35, 36, 37] (by kernel_rfl) z z (yi_run ((wanted_eq z z z (cvb hc385)).trans z) (fun w hst => x_loadN (cs := [U1 a1.C.Kind, U6 a1.C.ID.Session, U6 a1.C.ID.Seq, U6 a1.C.Epoch, U6 a1.C.Index, I6 a1.C.E, U6 a1.C.Hold.ID.Session, U6 a1.C.Hold.ID.Seq, U6 a1.C.Hold.Epoch, r1_8, r1_9, r1_10, r1_11, r1_12, I6 a1.C.R.E, U6 a1.C.R.Epoch, U6 a1.C.R.Index, r1_13, r1_14, U6 a1.C.Shards, r1_15, U6 a1.C.Rule.ID, I6 a1.C.Rule.From, I6 a1.C.Rule.To, F6 a1.C.Rule.Lo, F6 a1.C.Rule.Hi, U6 a1.C.Rule.Authority, I6 a1.C.Rule.Quota, .bool a1.C.On]) z isAgg48 sizeOf48 (hst.bcs2 28 z))) ?_)))
 refine ws_e1 29 (by kernel_rfl) ?_
 refine nxe [30, 33, 34, 35, 36, 37] (by kernel_rfl) z ((wanted_eq z z z (cvb hc385)).trans z) ?_
 clear hst
 intro w hst
 obtain ⟨t386, ht387, hm⟩ := bind_some hm
 refine wec call39 [.agg #[U1 a0.C.Kind, U6 a0.C.ID.Session, U6 a0.C.ID.Seq, U6 a0.C.Epoch, U6 a0.C.Index, I6 a0.C.E, U6 a0.C.Hold.ID.Session, U6 a0.C.Hold.ID.Seq, U6 a0.C.Hold.Epoch, r0_8, r0_9, r0_10, r0_11, r0_12, I6 a0.C.R.E, U6 a0.C.R.Epoch, U6 a0.C.R.Index, r0_13, r0_14, U6 a0.C.Shards, r0_15, U6 a0.C.Rule.ID, I6 a0.C.Rule.From, I6 a0.C.Rule.To, F6 a0.C.Rule.Lo, F6 a0.C.Rule.Hi, U6 a0.C.Rule.Authority, I6 a0.C.Rule.Quota, .bool a0.C.On]] z z ?_
 refine (ref13_Command_ref (f0_8.mono (rd_weak _)) (f0_9.mono (rd_weak _)) (f0_10.mono (rd_weak _)) (f0_11.mono (rd_weak _)) (f0_12.mono (rd_weak _)) (f0_13.mono (rd_weak _)) (f0_14.mono (rd_weak _)) (f0_15.mono (rd_weak _)) hst.to0 ht387).mono ?_
 rintro _ w388 ⟨v391, rfl, hst⟩
 refine ⟨_, z, ?_⟩
 replace hst := hst.of1
 refine ws_next (pend' := [(32, .agg #[U1 a1.C.Kind, U6 a1.C.ID.Session, U6 a1.C.ID.Seq, U6 a1.C.Epoch, U6 a1.C.Index, I6 a1.C.E, U6 a1.C.Hold.ID.Session, U6 a1.C.Hold.ID.Seq, U6 a1.C.Hold.Epoch, r1_8, r1_9, r1_10, r1_11, r1_12, I6 a1.C.R.E, U6 a1.C.R.Epoch, U6 a1.C.R.Index, r1_13, r1_14, U6 a1.C.Shards, r1_15, U6 a1.C.Rule.ID, I6 a1.C.Rule.From, I6 a1.C.Rule.To, F6 a1.C.Rule.Lo, F6 a1.C.Rule.Hi, U6 a1.C.Rule.Authority, I6 a1.C.Rule.Quota, .bool a1.C.On]), (31, Pt b331 28)]) hst (by kernel_rfl) (pk_cons z (yi_run ((wanted_eq z z z (cvb hc385)).trans z) (fun w hst => x_loadN (cs := [U1 a1.C.Kind, U6 a1.C.ID.Session, U6 a1.C.ID.Seq, U6 a1.C.Epoch, U6 a1.C.Index, I6 a1.C.E, U6 a1.C.Hold.ID.Session, U6 a1.C.Hold.ID.Seq, U6 a1.C.Hold.Epoch, r1_8, r1_9, r1_10, r1_11, r1_12, I6 a1.C.R.E, U6 a1.C.R.Epoch, U6 a1.C.R.Index, r1_13, r1_14, U6 a1.C.Shards, r1_15, U6 a1.C.Rule.ID, I6 a1.C.Rule.From, I6 a1.C.Rule.To, F6 a1.C.Rule.Lo, F6 a1.C.Rule.Hi, U6 a1.C.Rule.Authority, I6 a1.C.Rule.Quota, .bool a1.C.On]) z isAgg48 sizeOf48 (hst.bcs3 28 z))) (pk_cons z (yi_run ((wanted_eq z z z (cvb hc385)).trans z) (fun w hst => x_field z underlying50 z sizeOf48 z)) pk_nil)) ?_
 refine ws_q (v := .string (toStr t386)) 30 [33, 34, 35, 36, 37] (by kernel_rfl) z z (yi_run ((wanted_eq z z z (cvb hc385)).trans z) (fun w hst => x_tostr underlying22 underlying9 underlying5 z hst.src0)) ?_
 refine ws_e1 33 (by kernel_rfl) ?_
 refine nxe [34, 35, 36, 37] (by kernel_rfl) z ((wanted_eq z z z (cvb hc385)).trans z) ?_
 clear hst
 intro w hst
 obtain ⟨t393, ht394, hm⟩ := bind_some hm
 refine wec call39 [.agg #[U1 a1.C.Kind, U6 a1.C.ID.Session, U6 a1.C.ID.Seq, U6 a1.C.Epoch, U6 a1.C.Index, I6 a1.C.E, U6 a1.C.Hold.ID.Session, U6 a1.C.Hold.ID.Seq, U6 a1.C.Hold.Epoch, r1_8, r1_9, r1_10, r1_11, r1_12, I6 a1.C.R.E, U6 a1.C.R.Epoch, U6 a1.C.R.Index, r1_13, r1_14, U6 a1.C.Shards, r1_15, U6 a1.C.Rule.ID, I6 a1.C.Rule.From, I6 a1.C.Rule.To, F6 a1.C.Rule.Lo, F6 a1.C.Rule.Hi, U6 a1.C.Rule.Authority, I6 a1.C.Rule.Quota, .bool a1.C.On]] z z ?_
 refine (ref13_Command_ref (f1_8.mono (rd_weak _)) (f1_9.mono (rd_weak _)) (f1_10.mono (rd_weak _)) (f1_11.mono (rd_weak _)) (f1_12.mono (rd_weak _)) (f1_13.mono (rd_weak _)) (f1_14.mono (rd_weak _)) (f1_15.mono (rd_weak _)) hst.to0 ht394).mono ?_
 rintro _ w395 ⟨v398, rfl, hst⟩
 refine ⟨_, z, ?_⟩
 replace hst := hst.of1
 refine ws_next (pend' := [(30, .string (toStr t386))]) hst (by kernel_rfl) (pk_cons z (yi_run ((wanted_eq z z z (cvb hc385)).trans z) (fun w hst => x_tostr underlying22 underlying9 underlying5 z hst.src1)) pk_nil) ?_
 refine ws_q (v := .string (toStr t393)) 34 [35, 36, 37] (by kernel_rfl) z z (yi_run ((wanted_eq z z z (cvb hc385)).trans z) (fun w hst => x_tostr underlying22 underlying9 underlying5 z hst.src0)) (ws_q (v := .bool (sEq (toStr t386) (toStr t393))) 35 [36, 37] (by kernel_rfl) z z (yi_run ((wanted_eq z z z (cvb hc385)).trans z) (fun w hst => by kernel_rfl)) (wsr (.bool (sEq (toStr t386) (toStr t393))) 36 z z z (by kernel_rfl) (fun w hst => x_pick_t hc385 z z) (wsr (.bool (sEq (toStr t386) (toStr t393))) 37 z z z (by kernel_rfl) (fun w hst => z) ?_)))
 refine ws_nil ?_
 intro w hst
 refine tn (wp_ret ?_)
 obtain rfl := some_inj hm
 refine post_ret (vs := [.bool (sEq (toStr t386) (toStr t393))]) results11 (rvs_cons (rv_tmp z) rvs_nil) ?_
 exact ⟨z, hst.keep0⟩
}
 {
 replace hm := bif_f hc385 hm
 refine ws_q (v := undef) 27 [28, 29, 30, 31, 32, 33, 34, 35, 36, 37] (by kernel_rfl) z z (yi_off ((wanted_eq z z z (cvb hc385)).trans z)) (ws_q (v := undef) 28 [29, 30, 31, 32, 33, 34, 35, 36, 37] (by kernel_rfl) z z (yi_off ((wanted_eq z z z (cvb hc385)).trans z)) (ws_q (v := undef) 29 [30, 31, 32, 33, 34, 35, 36, 37] (by kernel_rfl) z z (yi_off ((wanted_eq z z z (cvb hc385)).trans z)) (ws_q (v := undef) 30 [31, 32, 33, 34, 35, 36, 37] (by kernel_rfl) z z (yi_off ((wanted_eq z z z (cvb hc385)).trans z)) (ws_q (v := undef) 31 [32, 33, 34, 35, 36, 37] (by kernel_rfl) z z (yi_off ((wanted_eq z z z (cvb hc385)).trans z)) (ws_q (v := undef) 32 [33, 34, 35, 36, 37] (by kernel_rfl) z z (yi_off ((wanted_eq z z z (cvb hc385)).trans z)) (ws_q (v := undef) 33 [34, 35, 36, 37] (by kernel_rfl) z z (yi_off ((wanted_eq z z z (cvb hc385)).trans z)) (ws_q (v := undef) 34 [35, 36, 37] (by kernel_rfl) z z (yi_off ((wanted_eq z z z (cvb hc385)).trans z)) (ws_q (v := undef) 35 [36, 37] (by kernel_rfl) z z (yi_off ((wanted_eq z z z (cvb hc385)).trans z)) (wsr (.bool false) 36 z z z (by kernel_rfl) (fun w hst => x_pick_f hc385 z z) (wsr (.bool false) 37 z z z (by kernel_rfl) (fun w hst => z) ?_))))))))))
 refine ws_nil ?_
 intro w hst
 refine tn (wp_ret ?_)
 obtain rfl := some_inj hm
 refine post_ret (vs := [.bool false]) results11 (rvs_cons (rv_tmp z) rvs_nil) ?_
 exact ⟨z, hst.keep0⟩
}
}
 {
 replace hm := bif_f hc379 hm
 refine ws_q (v := undef) 20 [21, 22, 23, 24, 25, 26, 27, 28, 29, 30, 31, 32, 33, 34, 35, 36, 37] (by kernel_rfl) z z (yi_off ((wanted_eq z z z (cvb hc379)).trans z)) (ws_q (v := undef) 21 [22, 23, 24, 25, 26, 27, 28, 29, 30, 31, 32, 33, 34, 35, 36, 37] (by kernel_rfl) z z (yi_off ((wanted_eq z z z (cvb hc379)).trans z)) (ws_q (v := undef) 22 [23, 24, 25, 26, 27, 28, 29, 30, 31, 32, 33, 34, 35, 36, 37] (by kernel_rfl) z z (yi_off ((wanted_eq z z z (cvb hc379)).trans z)) (ws_q (v := undef) 23 [24, 25, 26, 27, 28, 29, 30, 31, 32, 33, 34, 35, 36, 37] (by kernel_rfl) z z (yi_off ((wanted_eq z z z (cvb hc379)).trans z)) (ws_q (v := undef) 24 [25, 26, 27, 28, 29, 30, 31, 32, 33, 34, 35, 36, 37] (by kernel_rfl) z z (yi_off ((wanted_eq z z z (cvb hc379)).trans z)) (wsr (.bool false) 25 z z z (by kernel_rfl) (fun w hst => x_pick_f hc379 z z) (wsr (.bool false) 26 z z z (by kernel_rfl) (fun w hst => z) (ws_q (v := undef) 27 [28, 29, 30, 31, 32, 33, 34, 35, 36, 37] (by kernel_rfl) z z (yi_off ((wanted_eq z z z z).trans z)) (ws_q (v := undef) 28 [29, 30, 31, 32, 33, 34, 35, 36, 37] (by kernel_rfl) z z (yi_off ((wanted_eq z z z z).trans z)) (ws_q (v := undef) 29 [30, 31, 32, 33, 34, 35, 36, 37] (by kernel_rfl) z z (yi_off ((wanted_eq z z z z).trans z)) (ws_q (v := undef) 30 [31, 32, 33, 34, 35, 36, 37] (by kernel_rfl) z z (yi_off ((wanted_eq z z z z).trans z)) (ws_q (v := undef) 31 [32, 33, 34, 35, 36, 37] (by kernel_rfl) z z (yi_off ((wanted_eq z z z z).trans z)) (ws_q (v := undef) 32 [33, 34, 35, 36, 37] (by kernel_rfl) z z (yi_off ((wanted_eq z z z z).trans z)) ?_))))))))))))
 refine ws_q (v := undef) 33 [34, 35, 36, 37] (by kernel_rfl) z z (yi_off ((wanted_eq z z z z).trans z)) (ws_q (v := undef) 34 [35, 36, 37] (by kernel_rfl) z z (yi_off ((wanted_eq z z z z).trans z)) (ws_q (v := undef) 35 [36, 37] (by kernel_rfl) z z (yi_off ((wanted_eq z z z z).trans z)) (wsr (.bool false) 36 z z z (by kernel_rfl) (fun w hst => x_pick_f z z z) (wsr (.bool false) 37 z z z (by kernel_rfl) (fun w hst => z) ?_))))
 refine ws_nil ?_
 intro w hst
 refine tn (wp_ret ?_)
 obtain rfl := some_inj hm
 refine post_ret (vs := [.bool false]) results11 (rvs_cons (rv_tmp z) rvs_nil) ?_
 exact ⟨z, hst.keep0⟩
}
}
 {
 replace hm := bif_f hc373 hm
 refine ws_q (v := undef) 13 [14, 15, 16, 17, 18, 19, 20, 21, 22, 23, 24, 25, 26, 27, 28, 29, 30, 31, 32, 33, 34, 35, 36, 37] (by kernel_rfl) z z (yi_off ((wanted_eq z z z (cvb hc373)).trans z)) (ws_q (v := undef) 14 [15, 16, 17, 18, 19, 20, 21, 22, 23, 24, 25, 26, 27, 28, 29, 30, 31, 32, 33, 34, 35, 36, 37] (by kernel_rfl) z z (yi_off ((wanted_eq z z z (cvb hc373)).trans z)) (ws_q (v := undef) 15 [16, 17, 18, 19, 20, 21, 22, 23, 24, 25, 26, 27, 28, 29, 30, 31, 32, 33, 34, 35, 36, 37] (by kernel_rfl) z z (yi_off ((wanted_eq z z z (cvb hc373)).trans z)) (ws_q (v := undef) 16 [17, 18, 19, 20, 21, 22, 23, 24, 25, 26, 27, 28, 29, 30, 31, 32, 33, 34, 35, 36, 37] (by kernel_rfl) z z (yi_off ((wanted_eq z z z (cvb hc373)).trans z)) (ws_q (v := undef) 17 [18, 19, 20, 21, 22, 23, 24, 25, 26, 27, 28, 29, 30, 31, 32, 33, 34, 35, 36, 37] (by kernel_rfl) z z (yi_off ((wanted_eq z z z (cvb hc373)).trans z)) (wsr (.bool false) 18 z z z (by kernel_rfl) (fun w hst => x_pick_f hc373 z z) (wsr (.bool false) 19 z z z (by kernel_rfl) (fun w hst => z) (ws_q (v := undef) 20 [21, 22, 23, 24, 25, 26, 27, 28, 29, 30, 31, 32, 33, 34, 35, 36, 37] (by kernel_rfl) z z (yi_off ((wanted_eq z z z z).trans z)) (ws_q (v := undef) 21 [22, 23, 24, 25, 26, 27, 28, 29, 30, 31, 32, 33, 34, 35, 36, 37] (by kernel_rfl) z z (yi_off ((wanted_eq z z z z).trans z)) (ws_q (v := undef) 22 [23, 24, 25, 26, 27, 28, 29, 30, 31, 32, 33, 34, 35, 36, 37] (by kernel_rfl) z z (yi_off ((wanted_eq z z z z).trans z)) (ws_q (v := undef) 23 [24, 25, 26, 27, 28, 29, 30, 31, 32, 33, 34, 35, 36, 37] (by kernel_rfl) z z (yi_off ((wanted_eq z z z z).trans z)) (ws_q (v := undef) 24 [25, 26, 27, 28, 29, 30, 31, 32, 33, 34, 35, 36, 37] (by kernel_rfl) z z (yi_off ((wanted_eq z z z z).trans z)) (wsr (.bool false) 25 z z z (by kernel_rfl) (fun w hst => x_pick_f z z z) ?_))))))))))))
 refine wsr (.bool false) 26 z z z (by kernel_rfl) (fun w hst => z) (ws_q (v := undef) 27 [28, 29, 30, 31, 32, 33, 34, 35, 36, 37] (by kernel_rfl) z z (yi_off ((wanted_eq z z z z).trans z)) (ws_q (v := undef) 28 [29, 30, 31, 32, 33, 34, 35, 36, 37] (by kernel_rfl) z z (yi_off ((wanted_eq z z z z).trans z)) (ws_q (v := undef) 29 [30, 31, 32, 33, 34, 35, 36, 37] (by kernel_rfl) z z (yi_off ((wanted_eq z z z z).trans z)) (ws_q (v := undef) 30 [31, 32, 33, 34, 35, 36, 37] (by kernel_rfl) z z (yi_off ((wanted_eq z z z z).trans z)) (ws_q (v := undef) 31 [32, 33, 34, 35, 36, 37] (by kernel_rfl) z z (yi_off ((wanted_eq z z z z).trans z)) (ws_q (v := undef) 32 [33, 34, 35, 36, 37] (by kernel_rfl) z z (yi_off ((wanted_eq z z z z).trans z)) (ws_q (v := undef) 33 [34, 35, 36, 37] (by kernel_rfl) z z (yi_off ((wanted_eq z z z z).trans z)) (ws_q (v := undef) 34 [35, 36, 37] (by kernel_rfl) z z (yi_off ((wanted_eq z z z z).trans z)) (ws_q (v := undef) 35 [36, 37] (by kernel_rfl) z z (yi_off ((wanted_eq z z z z).trans z)) (wsr (.bool false) 36 z z z (by kernel_rfl) (fun w hst => x_pick_f z z z) (wsr (.bool false) 37 z z z (by kernel_rfl) (fun w hst => z) ?_)))))))))))
 refine ws_nil ?_
 intro w hst
 refine tn (wp_ret ?_)
 obtain rfl := some_inj hm
 refine post_ret (vs := [.bool false]) results11 (rvs_cons (rv_tmp z) rvs_nil) ?_
 exact ⟨z, hst.keep0⟩
}
}
 {
 replace hm := bif_f hc372 hm
 refine ws_q (v := undef) 6 [7, 8, 9, 10, 11, 12, 13, 14, 15, 16, 17, 18, 19, 20, 21, 22, 23, 24, 25, 26, 27, 28, 29, 30, 31, 32, 33, 34, 35, 36, 37] (by kernel_rfl) z z (yi_off ((wanted_eq z z z (cvb hc372)).trans z)) (ws_q (v := undef) 7 [8, 9, 10, 11, 12, 13, 14, 15, 16, 17, 18, 19, 20, 21, 22, 23, 24, 25, 26, 27, 28, 29, 30, 31, 32, 33, 34, 35, 36, 37] (by kernel_rfl) z z (yi_off ((wanted_eq z z z (cvb hc372)).trans z)) (ws_q (v := undef) 8 [9, 10, 11, 12, 13, 14, 15, 16, 17, 18, 19, 20, 21, 22, 23, 24, 25, 26, 27, 28, 29, 30, 31, 32, 33, 34, 35, 36, 37] (by kernel_rfl) z z (yi_off ((wanted_eq z z z (cvb hc372)).trans z)) (ws_q (v := undef) 9 [10, 11, 12, 13, 14, 15, 16, 17, 18, 19, 20, 21, 22, 23, 24, 25, 26, 27, 28, 29, 30, 31, 32, 33, 34, 35, 36, 37] (by kernel_rfl) z z (yi_off ((wanted_eq z z z (cvb hc372)).trans z)) (ws_q (v := undef) 10 [11, 12, 13, 14, 15, 16, 17, 18, 19, 20, 21, 22, 23, 24, 25, 26, 27, 28, 29, 30, 31, 32, 33, 34, 35, 36, 37] (by kernel_rfl) z z (yi_off ((wanted_eq z z z (cvb hc372)).trans z)) (wsr (.bool false) 11 z z z (by kernel_rfl) (fun w hst => x_pick_f hc372 z z) (wsr (.bool false) 12 z z z (by kernel_rfl) (fun w hst => z) (ws_q (v := undef) 13 [14, 15, 16, 17, 18, 19, 20, 21, 22, 23, 24, 25, 26, 27, 28, 29, 30, 31, 32, 33, 34, 35, 36, 37] (by kernel_rfl) z z (yi_off ((wanted_eq z z z z).trans z)) (ws_q (v := undef) 14 [15, 16, 17, 18, 19, 20, 21, 22, 23, 24, 25, 26, 27, 28, 29, 30, 31, 32, 33, 34, 35, 36, 37] (by kernel_rfl) z z (yi_off ((wanted_eq z z z z).trans z)) (ws_q (v := undef) 15 [16, 17, 18, 19, 20, 21, 22, 23, 24, 25, 26, 27, 28, 29, 30, 31, 32, 33, 34, 35, 36, 37] (by kernel_rfl) z z (yi_off ((wanted_eq z z z z).trans z)) (ws_q (v := undef) 16 [17, 18, 19, 20, 21, 22, 23, 24, 25, 26, 27, 28, 29, 30, 31, 32, 33, 34, 35, 36, 37] (by kernel_rfl) z z (yi_off ((wanted_eq z z z z).trans z)) (ws_q (v := undef) 17 [18, 19, 20, 21, 22, 23, 24, 25, 26, 27, 28, 29, 30, 31, 32, 33, 34, 35, 36, 37] (by kernel_rfl) z z (yi_off ((wanted_eq z z z z).trans z)) (wsr (.bool false) 18 z z z (by kernel_rfl) (fun w hst => x_pick_f z z z) ?_))))))))))))
 refine wsr (.bool false) 19 z z z (by kernel_rfl) (fun w hst => z) (ws_q (v := undef) 20 [21, 22, 23, 24, 25, 26, 27, 28, 29, 30, 31, 32, 33, 34, 35, 36, 37] (by kernel_rfl) z z (yi_off ((wanted_eq z z z z).trans z)) (ws_q (v := undef) 21 [22, 23, 24, 25, 26, 27, 28, 29, 30, 31, 32, 33, 34, 35, 36, 37] (by kernel_rfl) z z (yi_off ((wanted_eq z z z z).trans z)) (ws_q (v := undef) 22 [23, 24, 25, 26, 27, 28, 29, 30, 31, 32, 33, 34, 35, 36, 37] (by kernel_rfl) z z (yi_off ((wanted_eq z z z z).trans z)) (ws_q (v := undef) 23 [24, 25, 26, 27, 28, 29, 30, 31, 32, 33, 34, 35, 36, 37] (by kernel_rfl) z z (yi_off ((wanted_eq z z z z).trans z)) (ws_q (v := undef) 24 [25, 26, 27, 28, 29, 30, 31, 32, 33, 34, 35, 36, 37] (by kernel_rfl) z z (yi_off ((wanted_eq z z z z).trans z)) (wsr (.bool false) 25 z z z (by kernel_rfl) (fun w hst => x_pick_f z z z) (wsr (.bool false) 26 z z z (by kernel_rfl) (fun w hst => z) (ws_q (v := undef) 27 [28, 29, 30, 31, 32, 33, 34, 35, 36, 37] (by kernel_rfl) z z (yi_off ((wanted_eq z z z z).trans z)) (ws_q (v := undef) 28 [29, 30, 31, 32, 33, 34, 35, 36, 37] (by kernel_rfl) z z (yi_off ((wanted_eq z z z z).trans z)) (ws_q (v := undef) 29 [30, 31, 32, 33, 34, 35, 36, 37] (by kernel_rfl) z z (yi_off ((wanted_eq z z z z).trans z)) (ws_q (v := undef) 30 [31, 32, 33, 34, 35, 36, 37] (by kernel_rfl) z z (yi_off ((wanted_eq z z z z).trans z)) (ws_q (v := undef) 31 [32, 33, 34, 35, 36, 37] (by kernel_rfl) z z (yi_off ((wanted_eq z z z z).trans z)) ?_))))))))))))
 refine ws_q (v := undef) 32 [33, 34, 35, 36, 37] (by kernel_rfl) z z (yi_off ((wanted_eq z z z z).trans z)) (ws_q (v := undef) 33 [34, 35, 36, 37] (by kernel_rfl) z z (yi_off ((wanted_eq z z z z).trans z)) (ws_q (v := undef) 34 [35, 36, 37] (by kernel_rfl) z z (yi_off ((wanted_eq z z z z).trans z)) (ws_q (v := undef) 35 [36, 37] (by kernel_rfl) z z (yi_off ((wanted_eq z z z z).trans z)) (wsr (.bool false) 36 z z z (by kernel_rfl) (fun w hst => x_pick_f z z z) (wsr (.bool false) 37 z z z (by kernel_rfl) (fun w hst => z) ?_)))))
 refine ws_nil ?_
 intro w hst
 refine tn (wp_ret ?_)
 obtain rfl := some_inj hm
 refine post_ret (vs := [.bool false]) results11 (rvs_cons (rv_tmp z) rvs_nil) ?_
 exact ⟨z, hst.keep0⟩
}
}
}
}
}
}
}
}
}
}
}
}
}
}
}

end Go.Proofs.Ytldfdainhdiffaa
