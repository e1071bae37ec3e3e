/- The Go functions refine their models, part 1. -/
import Derived.Test.YtbdhhmnncknhhaaLocksKeepsR0
set_option linter.unusedVariables false
set_option linter.unusedSimpArgs false
set_option maxRecDepth 100000
set_option maxHeartbeats 4000000
namespace Go.Proofs.Ytbdhhmnncknhhaa
open Go Go.V
open _root_.Go.Proofs.Try IntKind
attribute [local irreducible] wpList Code.wp wpQuiet Calls bodyPost Oper.wp wpS Nx PendOK YieldsIn
theorem ref11_SameHold_ref {w0 w : World} {I : HL} {R : SP} {a0 : api_Hold} {r0_0 : Value} {r0_1 : Value} {r0_2 : Value} {r0_3 : Value} {a1 : api_Hold} {r1_0 : Value} {r1_1 : Value} {r1_2 : Value} {r1_3 : Value} (f0_0 : Rd tyF64 R I r0_0 a0.Gets) (f0_1 : Rd tyF2 R I r0_1 a0.Scans) (f0_2 : Rd tyF64 R I r0_2 a0.Puts) (f0_3 : Rd (tyInt .u8) R I r0_3 a0.Data) (f1_0 : Rd tyF64 R I r1_0 a1.Gets) (f1_1 : Rd tyF2 R I r1_1 a1.Scans) (f1_2 : Rd tyF64 R I r1_2 a1.Puts) (f1_3 : Rd (tyInt .u8) R I r1_3 a1.Data) (hst : St w0 w I [] R) {r : (Bool)} (hm : ref11_SameHold a0 a1 = some r) :
  Calls prog 18 #[.agg #[U6 a0.ID.Session, U6 a0.ID.Seq, U6 a0.Epoch, r0_0, r0_1, r0_2, r0_3], .agg #[U6 a1.ID.Session, U6 a1.ID.Seq, U6 a1.Epoch, r1_0, r1_1, r1_2, r1_3]] w fun e w' => e = .returned (.bool r) ∧ St w0 w' I [] R := by {
 unfold ref11_SameHold at hm
 refine calls_start (args := [.agg #[U6 a0.ID.Session, U6 a0.ID.Seq, U6 a0.Epoch, r0_0, r0_1, r0_2, r0_3], .agg #[U6 a1.ID.Session, U6 a1.ID.Seq, U6 a1.Epoch, r1_0, r1_1, r1_2, r1_3]]) func18 z ntmps18 (Nat.le_of_ble_eq_true z) ?_
 refine wp_seq (wrl ?_)
 obtain ⟨b356, w357, ew358, eb359, hst⟩ := hst.box [U6 a0.ID.Session, U6 a0.ID.Seq, U6 a0.Epoch, r0_0, r0_1, r0_2, r0_3] 34
 refine wl_run (v := Pt b356 0) (w' := w357) z z (x_al (by kernel_rfl) ew358 eb359) ?_
 obtain ⟨b361, w362, ew363, eb364, hst⟩ := hst.box [U6 a1.ID.Session, U6 a1.ID.Seq, U6 a1.Epoch, r1_0, r1_1, r1_2, r1_3] 34
 refine wl_run (v := Pt b361 0) (w' := w362) z z (x_al (by kernel_rfl) ew363 eb364) ?_
 refine wv (.bool false) z z z (wl_nil (tn (wp_seq (wp_seq (wrl (wv (Pt b356 0) z z (x_field z underlying34 z sizeOf29 z) (wv (.agg #[U6 a0.ID.Session, U6 a0.ID.Seq]) z z (x_loadN (cs := [U6 a0.ID.Session, U6 a0.ID.Seq]) z isAgg29 sizeOf29 (hst.bcs1 0 z)) (wv (Pt b361 0) z z (x_field z underlying34 z sizeOf29 z) (wv (.agg #[U6 a1.ID.Session, U6 a1.ID.Seq]) z z (x_loadN (cs := [U6 a1.ID.Session, U6 a1.ID.Seq]) z isAgg29 sizeOf29 (hst.bcs0 0 z)) (wv (.bool (!((a0.ID.Session == a1.ID.Session) && (a0.ID.Seq == a1.ID.Seq)))) z z (x_aggne2 z z (by kernel_rfl) underlying29 (by kernel_rfl) (by kernel_rfl) (by kernel_rfl) underlying27 underlying27 (fun _ _ _ => by kernel_rfl) (fun _ _ _ => by kernel_rfl)) (wv (.bool (!((a0.ID.Session == a1.ID.Session) && (a0.ID.Seq == a1.ID.Seq)))) z z z ?_)))))))))))
 refine bsplit (!((a0.ID.Session == a1.ID.Session) && (a0.ID.Seq == a1.ID.Seq))) (fun hc366 => ?_) (fun hc366 => ?_)
 {
 replace hm := bif_t hc366 hm
 refine wo hc366 z z z z z z (wo hc366 z z z z z z (wo hc366 z z z z z z (wo hc366 z z z z z z (wo hc366 z z z z z z (wv (.bool true) z z (x_pick_t hc366 z z) (wv (.bool true) z z z (wz z z z z z z (wz z z z z z z (wz z z z z z z (wz z z z z z z (wz z z z z z z (wz z z z z z z ?_))))))))))))
 refine wz z z z z z z (wv (.bool true) z z (x_pick_t z z z) (wv (.bool true) z z z (wz z z z z z z (wz z z z z z z (wz z z z z z z (wz z z z z z z (wz z z z z z z (wz z z z z z z (wz z z z z z z (wv (.bool true) z z (x_pick_t z z z) (wv (.bool true) z z z (wz z z z z z z ?_))))))))))))
 refine wz z z z z z z (wz z z z z z z (wz z z z z z z (wz z z z z z z (wz z z z z z z (wz z z z z z z (wv (.bool true) z z (x_pick_t z z z) (wv (.bool true) z z z (wz z z z z z z (wz z z z z z z (wz z z z z z z (wz z z z z z z (wz z z z z z z ?_))))))))))))
 refine wz z z z z z z (wz z z z z z z (wv (.bool true) z z (x_pick_t z z z) (wl_nil (tn ?_))))
 refine wp_ift z ?_
 refine wp_seq (wrl (wv (.bool false) z z z (wl_nil (tn (wp_ret (then_r ?_))))))
 obtain rfl := some_inj hm
 refine post_ret (vs := [.bool false]) results18 (rvs_cons (rv_tmp z) rvs_nil) ?_
 exact ⟨z, hst.keep0⟩
}
 {
 replace hm := bif_f hc366 hm
 refine wv (Pt b356 2) ((wanted_eq z z z (cvb hc366)).trans z) z (x_field z underlying34 z sizeOf27 z) (wv (.int .u64 a0.Epoch) ((wanted_eq z z z (cvb hc366)).trans z) z (x_load z isAgg27 (hst.bc1 z)) (wv (Pt b361 2) ((wanted_eq z z z (cvb hc366)).trans z) z (x_field z underlying34 z sizeOf27 z) (wv (.int .u64 a1.Epoch) ((wanted_eq z z z (cvb hc366)).trans z) z (x_load z isAgg27 (hst.bc0 z)) (wv (.bool (a0.Epoch != a1.Epoch)) ((wanted_eq z z z (cvb hc366)).trans z) z z (wv (.bool (a0.Epoch != a1.Epoch)) z z (x_pick_f hc366 z z) (wv (.bool (a0.Epoch != a1.Epoch)) z z z ?_))))))
 refine bsplit (a0.Epoch != a1.Epoch) (fun hc367 => ?_) (fun hc367 => ?_)
 {
 replace hm := bif_t hc367 hm
 refine wo hc367 z z z z z z (wo hc367 z z z z z z (wo hc367 z z z z z z (wo hc367 z z z z z z (wo hc367 z z z z z z (wo hc367 z z z z z z (wo hc367 z z z z z z (wv (.bool true) z z (x_pick_t hc367 z z) (wv (.bool true) z z z (wz z z z z z z (wz z z z z z z (wz z z z z z z (wz z z z z z z ?_))))))))))))
 refine wz z z z z z z (wz z z z z z z (wz z z z z z z (wv (.bool true) z z (x_pick_t z z z) (wv (.bool true) z z z (wz z z z z z z (wz z z z z z z (wz z z z z z z (wz z z z z z z (wz z z z z z z (wz z z z z z z (wz z z z z z z (wv (.bool true) z z (x_pick_t z z z) ?_))))))))))))
 refine wv (.bool true) z z z (wz z z z z z z (wz z z z z z z (wz z z z z z z (wz z z z z z z (wz z z z z z z (wz z z z z z z (wz z z z z z z (wv (.bool true) z z (x_pick_t z z z) (wl_nil (tn ?_))))))))))
 refine wp_ift z ?_
 refine wp_seq (wrl (wv (.bool false) z z z (wl_nil (tn (wp_ret (then_r ?_))))))
 obtain rfl := some_inj hm
 refine post_ret (vs := [.bool false]) results18 (rvs_cons (rv_tmp z) rvs_nil) ?_
 exact ⟨z, hst.keep0⟩
}
 {
 replace hm := bif_f hc367 hm
 refine wv (Pt b356 3) ((wanted_eq z z z (cvb hc367)).trans z) z (x_field z underlying34 z sizeOf30 z) (wv (r0_0) ((wanted_eq z z z (cvb hc367)).trans z) z (x_load z isAgg30 (hst.bc1 z)) (wv (.int .i64 ((a0.Gets).length : Int)) ((wanted_eq z z z (cvb hc367)).trans z) z (x_len z underlying30 (rd_sliceV f0_0)) (wv (Pt b361 3) ((wanted_eq z z z (cvb hc367)).trans z) z (x_field z underlying34 z sizeOf30 z) (wv (r1_0) ((wanted_eq z z z (cvb hc367)).trans z) z (x_load z isAgg30 (hst.bc0 z)) (wv (.int .i64 ((a1.Gets).length : Int)) ((wanted_eq z z z (cvb hc367)).trans z) z (x_len z underlying30 (rd_sliceV f1_0)) (wv (.bool (((a0.Gets).length : Int) != ((a1.Gets).length : Int))) ((wanted_eq z z z (cvb hc367)).trans z) z z (wv (.bool (((a0.Gets).length : Int) != ((a1.Gets).length : Int))) z z (x_pick_f hc367 z z) (wv (.bool (((a0.Gets).length : Int) != ((a1.Gets).length : Int))) z z z ?_))))))))
 refine bsplit (((a0.Gets).length : Int) != ((a1.Gets).length : Int)) (fun hc368 => ?_) (fun hc368 => ?_)
 {
 replace hm := bif_t hc368 hm
 refine wo hc368 z z z z z z (wo hc368 z z z z z z (wo hc368 z z z z z z (wo hc368 z z z z z z (wo hc368 z z z z z z (wo hc368 z z z z z z (wo hc368 z z z z z z (wv (.bool true) z z (x_pick_t hc368 z z) (wv (.bool true) z z z (wz z z z z z z (wz z z z z z z (wz z z z z z z (wz z z z z z z ?_))))))))))))
 refine wz z z z z z z (wz z z z z z z (wz z z z z z z (wv (.bool true) z z (x_pick_t z z z) (wv (.bool true) z z z (wz z z z z z z (wz z z z z z z (wz z z z z z z (wz z z z z z z (wz z z z z z z (wz z z z z z z (wz z z z z z z (wv (.bool true) z z (x_pick_t z z z) ?_))))))))))))
 refine wl_nil (tn ?_)
 refine wp_ift z ?_
 refine wp_seq (wrl (wv (.bool false) z z z (wl_nil (tn (wp_ret (then_r ?_))))))
 obtain rfl := some_inj hm
 refine post_ret (vs := [.bool false]) results18 (rvs_cons (rv_tmp z) rvs_nil) ?_
 exact ⟨z, hst.keep0⟩
}
 {
 replace hm := bif_f hc368 hm
 refine wv (Pt b356 4) ((wanted_eq z z z (cvb hc368)).trans z) z (x_field z underlying34 z sizeOf31 z) (wv (r0_1) ((wanted_eq z z z (cvb hc368)).trans z) z (x_load z isAgg31 (hst.bc1 z)) (wv (.int .i64 ((a0.Scans).length : Int)) ((wanted_eq z z z (cvb hc368)).trans z) z (x_len z underlying31 (rd_sliceV f0_1)) (wv (Pt b361 4) ((wanted_eq z z z (cvb hc368)).trans z) z (x_field z underlying34 z sizeOf31 z) (wv (r1_1) ((wanted_eq z z z (cvb hc368)).trans z) z (x_load z isAgg31 (hst.bc0 z)) (wv (.int .i64 ((a1.Scans).length : Int)) ((wanted_eq z z z (cvb hc368)).trans z) z (x_len z underlying31 (rd_sliceV f1_1)) (wv (.bool (((a0.Scans).length : Int) != ((a1.Scans).length : Int))) ((wanted_eq z z z (cvb hc368)).trans z) z z (wv (.bool (((a0.Scans).length : Int) != ((a1.Scans).length : Int))) z z (x_pick_f hc368 z z) (wv (.bool (((a0.Scans).length : Int) != ((a1.Scans).length : Int))) z z z ?_))))))))
 refine bsplit (((a0.Scans).length : Int) != ((a1.Scans).length : Int)) (fun hc369 => ?_) (fun hc369 => ?_)
 {
 replace hm := bif_t hc369 hm
 refine wo hc369 z z z z z z (wo hc369 z z z z z z (wo hc369 z z z z z z (wo hc369 z z z z z z (wo hc369 z z z z z z (wo hc369 z z z z z z (wo hc369 z z z z z z (wv (.bool true) z z (x_pick_t hc369 z z) (wv (.bool true) z z z (wz z z z z z z (wz z z z z z z (wz z z z z z z (wz z z z z z z ?_))))))))))))
 refine wz z z z z z z (wz z z z z z z (wz z z z z z z (wv (.bool true) z z (x_pick_t z z z) (wl_nil (tn ?_)))))
 refine wp_ift z ?_
 refine wp_seq (wrl (wv (.bool false) z z z (wl_nil (tn (wp_ret (then_r ?_))))))
 obtain rfl := some_inj hm
 refine post_ret (vs := [.bool false]) results18 (rvs_cons (rv_tmp z) rvs_nil) ?_
 exact ⟨z, hst.keep0⟩
}
 {
 replace hm := bif_f hc369 hm
 refine wv (Pt b356 5) ((wanted_eq z z z (cvb hc369)).trans z) z (x_field z underlying34 z sizeOf30 z) (wv (r0_2) ((wanted_eq z z z (cvb hc369)).trans z) z (x_load z isAgg30 (hst.bc1 z)) (wv (.int .i64 ((a0.Puts).length : Int)) ((wanted_eq z z z (cvb hc369)).trans z) z (x_len z underlying30 (rd_sliceV f0_2)) (wv (Pt b361 5) ((wanted_eq z z z (cvb hc369)).trans z) z (x_field z underlying34 z sizeOf30 z) (wv (r1_2) ((wanted_eq z z z (cvb hc369)).trans z) z (x_load z isAgg30 (hst.bc0 z)) (wv (.int .i64 ((a1.Puts).length : Int)) ((wanted_eq z z z (cvb hc369)).trans z) z (x_len z underlying30 (rd_sliceV f1_2)) (wv (.bool (((a0.Puts).length : Int) != ((a1.Puts).length : Int))) ((wanted_eq z z z (cvb hc369)).trans z) z z (wv (.bool (((a0.Puts).length : Int) != ((a1.Puts).length : Int))) z z (x_pick_f hc369 z z) (wv (.bool (((a0.Puts).length : Int) != ((a1.Puts).length : Int))) z z z ?_))))))))
 refine bsplit (((a0.Puts).length : Int) != ((a1.Puts).length : Int)) (fun hc370 => ?_) (fun hc370 => ?_)
 {
 replace hm := bif_t hc370 hm
 refine wo hc370 z z z z z z (wo hc370 z z z z z z (wo hc370 z z z z z z (wo hc370 z z z z z z (wo hc370 z z z z z z (wo hc370 z z z z z z (wo hc370 z z z z z z (wv (.bool true) z z (x_pick_t hc370 z z) (wl_nil (tn ?_)))))))))
 refine wp_ift z ?_
 refine wp_seq (wrl (wv (.bool false) z z z (wl_nil (tn (wp_ret (then_r ?_))))))
 obtain rfl := some_inj hm
 refine post_ret (vs := [.bool false]) results18 (rvs_cons (rv_tmp z) rvs_nil) ?_
 exact ⟨z, hst.keep0⟩
}
 {
 replace hm := bif_f hc370 hm
 refine wv (Pt b356 6) ((wanted_eq z z z (cvb hc370)).trans z) z (x_field z underlying34 z sizeOf32 z) (wv (r0_3) ((wanted_eq z z z (cvb hc370)).trans z) z (x_load z isAgg32 (hst.bc1 z)) (wv (.string (toStr a0.Data)) ((wanted_eq z z z (cvb hc370)).trans z) z (x_tostr underlying32 underlying9 underlying5 z (Src.of_rd hst f0_3 flat_int)) (wv (Pt b361 6) ((wanted_eq z z z (cvb hc370)).trans z) z (x_field z underlying34 z sizeOf32 z) (wv (r1_3) ((wanted_eq z z z (cvb hc370)).trans z) z (x_load z isAgg32 (hst.bc0 z)) (wv (.string (toStr a1.Data)) ((wanted_eq z z z (cvb hc370)).trans z) z (x_tostr underlying32 underlying9 underlying5 z (Src.of_rd hst f1_3 flat_int)) (wv (.bool (!(sEq (toStr a0.Data) (toStr a1.Data)))) ((wanted_eq z z z (cvb hc370)).trans z) z (by kernel_rfl) (wv (.bool (!(sEq (toStr a0.Data) (toStr a1.Data)))) z z (x_pick_f hc370 z z) (wl_nil (tn ?_)))))))))
 refine bsplit (!(sEq (toStr a0.Data) (toStr a1.Data))) (fun hc371 => ?_) (fun hc371 => ?_)
 {
 replace hm := bif_t hc371 hm
 refine wp_ift (cvb hc371) ?_
 refine wp_seq (wrl (wv (.bool false) z z z (wl_nil (tn (wp_ret (then_r ?_))))))
 obtain rfl := some_inj hm
 refine post_ret (vs := [.bool false]) results18 (rvs_cons (rv_tmp z) rvs_nil) ?_
 exact ⟨z, hst.keep0⟩
}
 {
 replace hm := bif_f hc371 hm
 refine wp_iff (cvb hc371) ?_
 refine wp_skip (tn ?_)
 obtain ⟨y435, hm, hx436⟩ := joinO_some hm
 refine wp_cut (fun a w => ∃ (σ433 : Nat → Value), (ref11_SameHold_j0 a0 a1) () = some r ∧ a = Fr 131 (upd (upd σ433 2 (Pt b356 0)) 3 (Pt b361 0)) ∧ St w0 w I [cells b356 [U6 a0.ID.Session, U6 a0.ID.Seq, U6 a0.Epoch, r0_0, r0_1, r0_2, r0_3], cells b361 [U6 a1.ID.Session, U6 a1.ID.Seq, U6 a1.Epoch, r1_0, r1_1, r1_2, r1_3]] R) ?_ ?_
 {
 refine wp_seq (wrl (wv (.int .i64 (0:Int)) z z z (wl_nil (tn (wp_block ?_)))))
 obtain ⟨n409, hm⟩ := loopO_some hm
 refine wp_loop_n (fun n a w => ∃ (z407 : Int) (σ408 : Nat → Value), loopN (ref11_SameHold_l1 a0 a1) n z407 = some y435 ∧ a = Fr 131 (upd (upd (upd σ408 2 (Pt b356 0)) 3 (Pt b361 0)) 5 (.int .i64 z407)) ∧ St w0 w I [cells b361 [U6 a1.ID.Session, U6 a1.ID.Seq, U6 a1.Epoch, r1_0, r1_1, r1_2, r1_3], cells b356 [U6 a0.ID.Session, U6 a0.ID.Seq, U6 a0.Epoch, r0_0, r0_1, r0_2, r0_3]] R) n409 ⟨(0:Int), _, hm, (fu 2 (Pt b356 0) z (fu 3 (Pt b361 0) z (fu 5 (.int .i64 (0:Int)) z z))), hst⟩ ?_
 rintro n415 _ w410 ⟨z407, σ408, hm, rfl, hst⟩
 obtain ⟨n412, y413, rfl, hm, hx414⟩ := loopN_some hm
 dsimp only [ref11_SameHold_l1] at hm
 refine wp_seq (wp_seq (wrl (wv (.int .i64 z407) z z z (wv (Pt b356 3) z z (x_field z underlying34 z sizeOf30 z) (wv (r0_0) z z (x_load z isAgg30 (hst.bc1 z)) (wv (.int .i64 ((a0.Gets).length : Int)) z z (x_len z underlying30 (rd_sliceV f0_0)) (wv (.bool (decide (z407 < ((a0.Gets).length : Int)))) z z z (wl_nil (tn ?_)))))))))
 refine bsplit (decide (z407 < ((a0.Gets).length : Int))) (fun hc416 => ?_) (fun hc416 => ?_)
 {
 replace hm := bif_t hc416 hm
 refine wp_ift (cvb hc416) ?_
 refine wp_skip (tn (wp_seq (wp_block (wp_seq ?_))))
 refine wp_region_St hst 12 [0, 1, 2, 3, 4, 5, 6, 7, 8, 9, 10, 11] [0, 1, 0, 7, 15, 0, 32, 0, 224, 480, 1023, 2047] [] z (by kernel_rfl) (by kernel_rfl) Try.mixed (by kernel_rfl) ?_
 refine wsr (Pt b356 3) 0 z z z (by kernel_rfl) (fun w hst => x_field z underlying34 z sizeOf30 z) (wsr (r0_0) 1 z z z (by kernel_rfl) (fun w hst => x_load z isAgg30 (hst.bc1 z)) (wsr (.int .i64 z407) 2 z z z (by kernel_rfl) (fun w hst => z) ?_))
 obtain ⟨x417, hx418, hm⟩ := bind_some hm
 obtain ⟨h419, h420, hi421⟩ := geto_some hx418
 refine wsr (.pointer (some (eAddr r0_0 (z407.toNat * 1 + 0)))) 3 z z z (by kernel_rfl) (fun w hst => x_index z z underlying30 sizeOf57 (rd_sliceV f0_0) h419 h420) (wsr (.float .f64 x417) 4 z z z (by kernel_rfl) (fun w hst => x_load z isAgg57 (rd_load f0_0 (HL.le.refl _) hst hi421 (by rintro _ rfl; rfl))) (wsr (Pt b361 3) 5 z z z (by kernel_rfl) (fun w hst => x_field z underlying34 z sizeOf30 z) (wsr (r1_0) 6 z z z (by kernel_rfl) (fun w hst => x_load z isAgg30 (hst.bc0 z)) (wsr (.int .i64 z407) 7 z z z (by kernel_rfl) (fun w hst => z) ?_))))
 obtain ⟨x422, hx423, hm⟩ := bind_some hm
 obtain ⟨h424, h425, hi426⟩ := geto_some hx423
 refine wsr (.pointer (some (eAddr r1_0 (z407.toNat * 1 + 0)))) 8 z z z (by kernel_rfl) (fun w hst => x_index z z underlying30 sizeOf57 (rd_sliceV f1_0) h424 h425) (wsr (.float .f64 x422) 9 z z z (by kernel_rfl) (fun w hst => x_load z isAgg57 (rd_load f1_0 (HL.le.refl _) hst hi426 (by rintro _ rfl; rfl))) ?_)
 refine ws_e1 10 (by kernel_rfl) ?_
 refine nxe [11] (by kernel_rfl) z z ?_
 clear hst
 intro w hst
 obtain ⟨t427, ht428, hm⟩ := bind_some hm
 refine wec call51 [F6 x417, F6 x422] z z ?_
 refine (ref01_Same_ref hst.to0 ht428).mono ?_
 rintro _ w429 ⟨rfl, hst⟩
 refine ⟨_, z, ?_⟩
 replace hst := hst.of0
 refine ws_next (pend' := []) hst (by kernel_rfl) pk_nil ?_
 refine wsr (.bool (!t427)) 11 z z z (by kernel_rfl) (fun w hst => z) ?_
 refine ws_nil ?_
 intro w hst
 refine tn ?_
 refine bsplit (!t427) (fun hc432 => ?_) (fun hc432 => ?_)
 {
 replace hm := bif_t hc432 hm
 refine wp_ift (cvb hc432) ?_
 refine wp_seq (wrl (wv (.bool false) z z z (wl_nil (tn (wp_ret (blk_r (then_r (then_r ?_))))))))
 replace hm := inr_up hm hx414
 refine blk_r (then_r ?_)
 replace hm := inr_up hm hx436
 obtain rfl := some_inj hm
 refine post_ret (vs := [.bool false]) results18 (rvs_cons (rv_tmp z) rvs_nil) ?_
 exact ⟨z, hst.keep0⟩
}
 {
 replace hm := bif_f hc432 hm
 refine wp_iff (cvb hc432) ?_
 refine wp_skip (blk_n (tn (wrl ?_)))
 refine wv (.int .i64 z407) z z z (wv (.int .i64 (i64.wrap (z407 + (1:Int)))) z z z (wv (.int .i64 (i64.wrap (z407 + (1:Int)))) z z z (wl_nil (tn ?_))))
 replace hst := hst.pull1.pull1.keep2
 obtain rfl := some_inj hm
 exact ⟨_, Nat.lt_succ_self _, (i64.wrap (z407 + (1:Int))), _, hx414, (fu 2 (Pt b356 0) z (fu 3 (Pt b361 0) z (fu 5 (.int .i64 (i64.wrap (z407 + (1:Int)))) z z))), hst⟩
}
}
 {
 replace hm := bif_f hc416 hm
 refine wp_iff (cvb hc416) ?_
 refine wp_exit (then_x (then_x ?_))
 replace hm := inr_up hm hx414
 refine blk_x (tn ?_)
 replace hst := hst.pull1.keep2
 obtain rfl := some_inj hm
 exact ⟨_, hx436, (fu 2 (Pt b356 0) z (fu 3 (Pt b361 0) z z)), hst⟩
}
}
 {
 clear hst
 rintro _ w437 ⟨σ433, hm, rfl, hst⟩
 dsimp only [ref11_SameHold_j0] at hm
 obtain ⟨y519, hm, hx520⟩ := joinO_some hm
 refine wp_cut (fun a w => ∃ (σ517 : Nat → Value), (ref11_SameHold_j2 a0 a1) () = some r ∧ a = Fr 131 (upd (upd σ517 2 (Pt b356 0)) 3 (Pt b361 0)) ∧ St w0 w I [cells b356 [U6 a0.ID.Session, U6 a0.ID.Seq, U6 a0.Epoch, r0_0, r0_1, r0_2, r0_3], cells b361 [U6 a1.ID.Session, U6 a1.ID.Seq, U6 a1.Epoch, r1_0, r1_1, r1_2, r1_3]] R) ?_ ?_
 {
 refine wp_seq (wrl (wv (.int .i64 (0:Int)) z z z (wl_nil (tn (wp_block ?_)))))
 obtain ⟨n487, hm⟩ := loopO_some hm
 refine wp_loop_n (fun n a w => ∃ (z485 : Int) (σ486 : Nat → Value), loopN (ref11_SameHold_l3 a0 a1) n z485 = some y519 ∧ a = Fr 131 (upd (upd (upd σ486 2 (Pt b356 0)) 3 (Pt b361 0)) 6 (.int .i64 z485)) ∧ St w0 w I [cells b356 [U6 a0.ID.Session, U6 a0.ID.Seq, U6 a0.Epoch, r0_0, r0_1, r0_2, r0_3], cells b361 [U6 a1.ID.Session, U6 a1.ID.Seq, U6 a1.Epoch, r1_0, r1_1, r1_2, r1_3]] R) n487 ⟨(0:Int), _, hm, (fu 2 (Pt b356 0) z (fu 3 (Pt b361 0) z (fu 6 (.int .i64 (0:Int)) z z))), hst⟩ ?_
 rintro n493 _ w488 ⟨z485, σ486, hm, rfl, hst⟩
 obtain ⟨n490, y491, rfl, hm, hx492⟩ := loopN_some hm
 dsimp only [ref11_SameHold_l3] at hm
 refine wp_seq (wp_seq (wrl (wv (.int .i64 z485) z z z (wv (Pt b356 4) z z (x_field z underlying34 z sizeOf31 z) (wv (r0_1) z z (x_load z isAgg31 (hst.bc0 z)) (wv (.int .i64 ((a0.Scans).length : Int)) z z (x_len z underlying31 (rd_sliceV f0_1)) (wv (.bool (decide (z485 < ((a0.Scans).length : Int)))) z z z (wl_nil (tn ?_)))))))))
 refine bsplit (decide (z485 < ((a0.Scans).length : Int))) (fun hc494 => ?_) (fun hc494 => ?_)
 {
 replace hm := bif_t hc494 hm
 refine wp_ift (cvb hc494) ?_
 refine wp_skip (tn (wp_seq (wp_block (wp_seq ?_))))
 refine wp_region_St hst 30 [0, 1, 2, 3, 4, 5, 6, 7, 8, 9, 10, 11, 12, 13, 14, 15, 16, 17, 18, 19, 20, 21, 22, 23, 24, 25, 26, 27, 28, 29] [0, 1, 0, 7, 15, 31, 0, 64, 0, 448, 960, 1984, 4095, 8191, 16383, 32767, 65535, 32767, 262143, 524287, 1048575, 32767, 2129919, 32767, 14712831, 31490047, 65044479, 134217727, 268435455, 536870911] [] z (by kernel_rfl) (by kernel_rfl) Try.mixed (by kernel_rfl) ?_
 refine wsr (Pt b356 4) 0 z z z (by kernel_rfl) (fun w hst => x_field z underlying34 z sizeOf31 z) (wsr (r0_1) 1 z z z (by kernel_rfl) (fun w hst => x_load z isAgg31 (hst.bc0 z)) (wsr (.int .i64 z485) 2 z z z (by kernel_rfl) (fun w hst => z) ?_))
 obtain ⟨x495, hx496, hm⟩ := bind_some hm
 obtain ⟨h497, h498, hi499⟩ := geto_some hx496
 refine wsr (.pointer (some (eAddr r0_1 (z485.toNat * 2 + 0)))) 3 z z z (by kernel_rfl) (fun w hst => x_index z z underlying31 sizeOf75 (rd_sliceV f0_1) h497 h498) (wsr (.pointer (some (eAddr r0_1 (z485.toNat * 2 + 0)))) 4 z z z (by kernel_rfl) (fun w hst => x_index_arr_e (i := (0:Int)) z z underlying75 sizeOf57 (by decide) (by decide) z) (wsr (.float .f64 x495.1) 5 z z z (by kernel_rfl) (fun w hst => x_load z isAgg57 (rd_load f0_1 (HL.le.refl _) hst hi499 (by rintro _ rfl; rfl))) (wsr (Pt b361 4) 6 z z z (by kernel_rfl) (fun w hst => x_field z underlying34 z sizeOf31 z) (wsr (r1_1) 7 z z z (by kernel_rfl) (fun w hst => x_load z isAgg31 (hst.bc1 z)) (wsr (.int .i64 z485) 8 z z z (by kernel_rfl) (fun w hst => z) ?_)))))
 obtain ⟨x500, hx501, hm⟩ := bind_some hm
 obtain ⟨h502, h503, hi504⟩ := geto_some hx501
 refine wsr (.pointer (some (eAddr r1_1 (z485.toNat * 2 + 0)))) 9 z z z (by kernel_rfl) (fun w hst => x_index z z underlying31 sizeOf75 (rd_sliceV f1_1) h502 h503) (wsr (.pointer (some (eAddr r1_1 (z485.toNat * 2 + 0)))) 10 z z z (by kernel_rfl) (fun w hst => x_index_arr_e (i := (0:Int)) z z underlying75 sizeOf57 (by decide) (by decide) z) (wsr (.float .f64 x500.1) 11 z z z (by kernel_rfl) (fun w hst => x_load z isAgg57 (rd_load f1_1 (HL.le.refl _) hst hi504 (by rintro _ rfl; rfl))) ?_))
 refine ws_e1 12 (by kernel_rfl) ?_
 refine nxe [13, 14, 15, 16, 17, 18, 19, 20, 21, 22, 23, 24, 25, 26, 27, 28, 29] (by kernel_rfl) z z ?_
 clear hst
 intro w hst
 obtain ⟨t505, ht506, hm⟩ := bind_some hm
 refine wec call51 [F6 x495.1, F6 x500.1] z z ?_
 refine (ref01_Same_ref hst.to0 ht506).mono ?_
 rintro _ w507 ⟨rfl, hst⟩
 refine ⟨_, z, ?_⟩
 replace hst := hst.of0
 refine ws_next (pend' := []) hst (by kernel_rfl) pk_nil ?_
 refine wsr (.bool (!t505)) 13 z z z (by kernel_rfl) (fun w hst => z) (wsr (.bool (!t505)) 14 z z z (by kernel_rfl) (fun w hst => z) ?_)
 refine bsplit (!t505) (fun hc510 => ?_) (fun hc510 => ?_)
 {
 replace hm := bif_t hc510 hm
 refine ws_q (v := undef) 15 [16, 17, 18, 19, 20, 21, 22, 23, 24, 25, 26, 27, 28, 29] (by kernel_rfl) z z (yi_off ((wanted_eq z z z (cvb hc510)).trans z)) (ws_q (v := undef) 16 [17, 18, 19, 20, 21, 22, 23, 24, 25, 26, 27, 28, 29] (by kernel_rfl) z z (yi_off ((wanted_eq z z z (cvb hc510)).trans z)) (ws_q (v := undef) 17 [18, 19, 20, 21, 22, 23, 24, 25, 26, 27, 28, 29] (by kernel_rfl) z z (yi_off ((wanted_eq z z z (cvb hc510)).trans z)) (ws_q (v := undef) 18 [19, 20, 21, 22, 23, 24, 25, 26, 27, 28, 29] (by kernel_rfl) z z (yi_off ((wanted_eq z z z (cvb hc510)).trans z)) (ws_q (v := undef) 19 [20, 21, 22, 23, 24, 25, 26, 27, 28, 29] (by kernel_rfl) z z (yi_off ((wanted_eq z z z (cvb hc510)).trans z)) (ws_q (v := undef) 20 [21, 22, 23, 24, 25, 26, 27, 28, 29] (by kernel_rfl) z z (yi_off ((wanted_eq z z z (cvb hc510)).trans z)) (ws_q (v := undef) 21 [22, 23, 24, 25, 26, 27, 28, 29] (by kernel_rfl) z z (yi_off ((wanted_eq z z z (cvb hc510)).trans z)) (ws_q (v := undef) 22 [23, 24, 25, 26, 27, 28, 29] (by kernel_rfl) z z (yi_off ((wanted_eq z z z (cvb hc510)).trans z)) (ws_q (v := undef) 23 [24, 25, 26, 27, 28, 29] (by kernel_rfl) z z (yi_off ((wanted_eq z z z (cvb hc510)).trans z)) (ws_q (v := undef) 24 [25, 26, 27, 28, 29] (by kernel_rfl) z z (yi_off ((wanted_eq z z z (cvb hc510)).trans z)) (ws_q (v := undef) 25 [26, 27, 28, 29] (by kernel_rfl) z z (yi_off ((wanted_eq z z z (cvb hc510)).trans z)) (ws_q (v := undef) 26 [27, 28, 29] (by kernel_rfl) z z (yi_off ((wanted_eq z z z (cvb hc510)).trans z)) (ws_q (v := undef) 27 [28, 29] (by kernel_rfl) z z (yi_off ((wanted_eq z z z (cvb hc510)).trans z)) ?_))))))))))))
 refine ws_q (v := undef) 28 [29] (by kernel_rfl) z z (yi_off ((wanted_eq z z z (cvb hc510)).trans z)) (wsr (.bool true) 29 z z z (by kernel_rfl) (fun w hst => x_pick_t hc510 z z) ?_)
 refine ws_nil ?_
 intro w hst
 refine tn ?_
 refine wp_ift z ?_
 refine wp_seq (wrl (wv (.bool false) z z z (wl_nil (tn (wp_ret (blk_r (then_r (then_r ?_))))))))
 replace hm := inr_up hm hx492
 refine blk_r (then_r ?_)
 replace hm := inr_up hm hx520
 obtain rfl := some_inj hm
 refine post_ret (vs := [.bool false]) results18 (rvs_cons (rv_tmp z) rvs_nil) ?_
 exact ⟨z, hst.keep0⟩
}
 {
 replace hm := bif_f hc510 hm
 refine ws_q (v := Pt b356 4) 15 [16, 17, 18, 19, 20, 21, 22, 23, 24, 25, 26, 27, 28, 29] (by kernel_rfl) z z (yi_run ((wanted_eq z z z (cvb hc510)).trans z) (fun w hst => x_field z underlying34 z sizeOf31 z)) (ws_q (v := r0_1) 16 [17, 18, 19, 20, 21, 22, 23, 24, 25, 26, 27, 28, 29] (by kernel_rfl) z z (yi_run ((wanted_eq z z z (cvb hc510)).trans z) (fun w hst => x_load z isAgg31 (hst.bc0 z))) (ws_q (v := .int .i64 z485) 17 [18, 19, 20, 21, 22, 23, 24, 25, 26, 27, 28, 29] (by kernel_rfl) z z (yi_run ((wanted_eq z z z (cvb hc510)).trans z) (fun w hst => z)) (ws_q (v := .pointer (some (eAddr r0_1 (z485.toNat * 2 + 0)))) 18 [19, 20, 21, 22, 23, 24, 25, 26, 27, 28, 29] (by kernel_rfl) z z (yi_run ((wanted_eq z z z (cvb hc510)).trans z) (fun w hst => x_index z z underlying31 sizeOf75 (rd_sliceV f0_1) h497 h498)) (ws_q (v := .pointer (some (eAddr r0_1 (z485.toNat * 2 + 1)))) 19 [20, 21, 22, 23, 24, 25, 26, 27, 28, 29] (by kernel_rfl) z z (yi_run ((wanted_eq z z z (cvb hc510)).trans z) (fun w hst => x_index_arr_e (i := (1:Int)) z z underlying75 sizeOf57 (by decide) (by decide) z)) (ws_q (v := .float .f64 x495.2) 20 [21, 22, 23, 24, 25, 26, 27, 28, 29] (by kernel_rfl) z z (yi_run ((wanted_eq z z z (cvb hc510)).trans z) (fun w hst => x_load z isAgg57 (rd_load f0_1 (HL.le.refl _) hst hi499 (by rintro _ rfl; rfl)))) (ws_q (v := Pt b361 4) 21 [22, 23, 24, 25, 26, 27, 28, 29] (by kernel_rfl) z z (yi_run ((wanted_eq z z z (cvb hc510)).trans z) (fun w hst => x_field z underlying34 z sizeOf31 z)) (ws_q (v := r1_1) 22 [23, 24, 25, 26, 27, 28, 29] (by kernel_rfl) z z (yi_run ((wanted_eq z z z (cvb hc510)).trans z) (fun w hst => x_load z isAgg31 (hst.bc1 z))) (ws_q (v := .int .i64 z485) 23 [24, 25, 26, 27, 28, 29] (by kernel_rfl) z z (yi_run ((wanted_eq z z z (cvb hc510)).trans z) (fun w hst => z)) (ws_q (v := .pointer (some (eAddr r1_1 (z485.toNat * 2 + 0)))) 24 [25, 26, 27, 28, 29] (by kernel_rfl) z z (yi_run ((wanted_eq z z z (cvb hc510)).trans z) (fun w hst => x_index z z underlying31 sizeOf75 (rd_sliceV f1_1) h502 h503)) (ws_q (v := .pointer (some (eAddr r1_1 (z485.toNat * 2 + 1)))) 25 [26, 27, 28, 29] (by kernel_rfl) z z (yi_run ((wanted_eq z z z (cvb hc510)).trans z) (fun w hst => x_index_arr_e (i := (1:Int)) z z underlying75 sizeOf57 (by decide) (by decide) z)) (ws_q (v := .float .f64 x500.2) 26 [27, 28, 29] (by kernel_rfl) z z (yi_run ((wanted_eq z z z (cvb hc510)).trans z) (fun w hst => x_load z isAgg57 (rd_load f1_1 (HL.le.refl _) hst hi504 (by rintro _ rfl; rfl)))) ?_)))))))))))
 refine ws_e1 27 (by kernel_rfl) ?_
 refine nxe [28, 29] (by kernel_rfl) z ((wanted_eq z z z (cvb hc510)).trans z) ?_
 clear hst
 intro w hst
 obtain ⟨t511, ht512, hm⟩ := bind_some hm
 refine wec call51 [F6 x495.2, F6 x500.2] z z ?_
 refine (ref01_Same_ref hst.to0 ht512).mono ?_
 rintro _ w513 ⟨rfl, hst⟩
 refine ⟨_, z, ?_⟩
 replace hst := hst.of0
 refine ws_next (pend' := []) hst (by kernel_rfl) pk_nil ?_
 refine ws_q (v := .bool (!t511)) 28 [29] (by kernel_rfl) z z (yi_run ((wanted_eq z z z (cvb hc510)).trans z) (fun w hst => z)) (wsr (.bool (!t511)) 29 z z z (by kernel_rfl) (fun w hst => x_pick_f hc510 z z) ?_)
 refine ws_nil ?_
 intro w hst
 refine tn ?_
 refine bsplit (!t511) (fun hc516 => ?_) (fun hc516 => ?_)
 {
 replace hm := bif_t hc516 hm
 refine wp_ift (cvb hc516) ?_
 refine wp_seq (wrl (wv (.bool false) z z z (wl_nil (tn (wp_ret (blk_r (then_r (then_r ?_))))))))
 replace hm := inr_up hm hx492
 refine blk_r (then_r ?_)
 replace hm := inr_up hm hx520
 obtain rfl := some_inj hm
 refine post_ret (vs := [.bool false]) results18 (rvs_cons (rv_tmp z) rvs_nil) ?_
 exact ⟨z, hst.keep0⟩
}
 {
 replace hm := bif_f hc516 hm
 refine wp_iff (cvb hc516) ?_
 refine wp_skip (blk_n (tn (wrl ?_)))
 refine wv (.int .i64 z485) z z z (wv (.int .i64 (i64.wrap (z485 + (1:Int)))) z z z (wv (.int .i64 (i64.wrap (z485 + (1:Int)))) z z z (wl_nil (tn ?_))))
 replace hst := hst.pull1.pull1.keep2
 obtain rfl := some_inj hm
 exact ⟨_, Nat.lt_succ_self _, (i64.wrap (z485 + (1:Int))), _, hx492, (fu 2 (Pt b356 0) z (fu 3 (Pt b361 0) z (fu 6 (.int .i64 (i64.wrap (z485 + (1:Int)))) z z))), hst⟩
}
}
}
 {
 replace hm := bif_f hc494 hm
 refine wp_iff (cvb hc494) ?_
 refine wp_exit (then_x (then_x ?_))
 replace hm := inr_up hm hx492
 refine blk_x (tn ?_)
 replace hst := hst.pull1.pull1.keep2
 obtain rfl := some_inj hm
 exact ⟨_, hx520, (fu 2 (Pt b356 0) z (fu 3 (Pt b361 0) z z)), hst⟩
}
}
 {
 clear hst
 rintro _ w521 ⟨σ517, hm, rfl, hst⟩
 dsimp only [ref11_SameHold_j2] at hm
 refine wp_seq (wp_seq (wrl (wv (.int .i64 (0:Int)) z z z (wl_nil (tn (wp_block ?_))))))
 obtain ⟨n559, hm⟩ := loopO_some hm
 refine wp_loop_n (fun n a w => ∃ (z557 : Int) (σ558 : Nat → Value), loopN (ref11_SameHold_l4 a0 a1) n z557 = some r ∧ a = Fr 131 (upd (upd (upd σ558 2 (Pt b356 0)) 3 (Pt b361 0)) 7 (.int .i64 z557)) ∧ St w0 w I [cells b356 [U6 a0.ID.Session, U6 a0.ID.Seq, U6 a0.Epoch, r0_0, r0_1, r0_2, r0_3], cells b361 [U6 a1.ID.Session, U6 a1.ID.Seq, U6 a1.Epoch, r1_0, r1_1, r1_2, r1_3]] R) n559 ⟨(0:Int), _, hm, (fu 2 (Pt b356 0) z (fu 3 (Pt b361 0) z (fu 7 (.int .i64 (0:Int)) z z))), hst⟩ ?_
 rintro n565 _ w560 ⟨z557, σ558, hm, rfl, hst⟩
 obtain ⟨n562, y563, rfl, hm, hx564⟩ := loopN_some hm
 dsimp only [ref11_SameHold_l4] at hm
 refine wp_seq (wp_seq (wrl (wv (.int .i64 z557) z z z (wv (Pt b356 5) z z (x_field z underlying34 z sizeOf30 z) (wv (r0_2) z z (x_load z isAgg30 (hst.bc0 z)) (wv (.int .i64 ((a0.Puts).length : Int)) z z (x_len z underlying30 (rd_sliceV f0_2)) (wv (.bool (decide (z557 < ((a0.Puts).length : Int)))) z z z (wl_nil (tn ?_)))))))))
 refine bsplit (decide (z557 < ((a0.Puts).length : Int))) (fun hc566 => ?_) (fun hc566 => ?_)
 {
 replace hm := bif_t hc566 hm
 refine wp_ift (cvb hc566) ?_
 refine wp_skip (tn (wp_seq (wp_block (wp_seq ?_))))
 refine wp_region_St hst 12 [0, 1, 2, 3, 4, 5, 6, 7, 8, 9, 10, 11] [0, 1, 0, 7, 15, 0, 32, 0, 224, 480, 1023, 2047] [] z (by kernel_rfl) (by kernel_rfl) Try.mixed (by kernel_rfl) ?_
 refine wsr (Pt b356 5) 0 z z z (by kernel_rfl) (fun w hst => x_field z underlying34 z sizeOf30 z) (wsr (r0_2) 1 z z z (by kernel_rfl) (fun w hst => x_load z isAgg30 (hst.bc0 z)) (wsr (.int .i64 z557) 2 z z z (by kernel_rfl) (fun w hst => z) ?_))
 obtain ⟨x567, hx568, hm⟩ := bind_some hm
 obtain ⟨h569, h570, hi571⟩ := geto_some hx568
 refine wsr (.pointer (some (eAddr r0_2 (z557.toNat * 1 + 0)))) 3 z z z (by kernel_rfl) (fun w hst => x_index z z underlying30 sizeOf57 (rd_sliceV f0_2) h569 h570) (wsr (.float .f64 x567) 4 z z z (by kernel_rfl) (fun w hst => x_load z isAgg57 (rd_load f0_2 (HL.le.refl _) hst hi571 (by rintro _ rfl; rfl))) (wsr (Pt b361 5) 5 z z z (by kernel_rfl) (fun w hst => x_field z underlying34 z sizeOf30 z) (wsr (r1_2) 6 z z z (by kernel_rfl) (fun w hst => x_load z isAgg30 (hst.bc1 z)) (wsr (.int .i64 z557) 7 z z z (by kernel_rfl) (fun w hst => z) ?_))))
 obtain ⟨x572, hx573, hm⟩ := bind_some hm
 obtain ⟨h574, h575, hi576⟩ := geto_some hx573
 refine wsr (.pointer (some (eAddr r1_2 (z557.toNat * 1 + 0)))) 8 z z z (by kernel_rfl) (fun w hst => x_index z z underlying30 sizeOf57 (rd_sliceV f1_2) h574 h575) (wsr (.float .f64 x572) 9 z z z (by kernel_rfl) (fun w hst => x_load z isAgg57 (rd_load f1_2 (HL.le.refl _) hst hi576 (by rintro _ rfl; rfl))) ?_)
 refine ws_e1 10 (by kernel_rfl) ?_
 refine nxe [11] (by kernel_rfl) z z ?_
 clear hst
 intro w hst
 obtain ⟨t577, ht578, hm⟩ := bind_some hm
 refine wec call51 [F6 x567, F6 x572] z z ?_
 refine (ref01_Same_ref hst.to0 ht578).mono ?_
 rintro _ w579 ⟨rfl, hst⟩
 refine ⟨_, z, ?_⟩
 replace hst := hst.of0
 refine ws_next (pend' := []) hst (by kernel_rfl) pk_nil ?_
 refine wsr (.bool (!t577)) 11 z z z (by kernel_rfl) (fun w hst => z) ?_
 refine ws_nil ?_
 intro w hst
 refine tn ?_
 refine bsplit (!t577) (fun hc582 => ?_) (fun hc582 => ?_)
 {
 replace hm := bif_t hc582 hm
 refine wp_ift (cvb hc582) ?_
 refine wp_seq (wrl (wv (.bool false) z z z (wl_nil (tn (wp_ret (blk_r (then_r (then_r ?_))))))))
 replace hm := inr_up hm hx564
 refine blk_r (then_r ?_)
 obtain rfl := some_inj hm
 refine post_ret (vs := [.bool false]) results18 (rvs_cons (rv_tmp z) rvs_nil) ?_
 exact ⟨z, hst.keep0⟩
}
 {
 replace hm := bif_f hc582 hm
 refine wp_iff (cvb hc582) ?_
 refine wp_skip (blk_n (tn (wrl ?_)))
 refine wv (.int .i64 z557) z z z (wv (.int .i64 (i64.wrap (z557 + (1:Int)))) z z z (wv (.int .i64 (i64.wrap (z557 + (1:Int)))) z z z (wl_nil (tn ?_))))
 replace hst := hst.pull1.pull1.keep2
 obtain rfl := some_inj hm
 exact ⟨_, Nat.lt_succ_self _, (i64.wrap (z557 + (1:Int))), _, hx564, (fu 2 (Pt b356 0) z (fu 3 (Pt b361 0) z (fu 7 (.int .i64 (i64.wrap (z557 + (1:Int)))) z z))), hst⟩
}
}
 {
 replace hm := bif_f hc566 hm
 refine wp_iff (cvb hc566) ?_
 refine wp_exit (then_x (then_x ?_))
 replace hm := inr_up hm hx564
 refine blk_x (tn (wp_seq (wrl ?_)))
 refine wv (.bool true) z z z (wl_nil (tn (wp_ret ?_)))
 obtain rfl := some_inj hm
 refine post_ret (vs := [.bool true]) results18 (rvs_cons (rv_tmp z) rvs_nil) ?_
 exact ⟨z, hst.keep0⟩
}
}
}
}
}
}
}
}
}
}

theorem slices_Delete_api_Hold_api_Hold_ref {w0 w : World} {I : HL} {R : SP} {a0 : (List api_Hold)} {r0_0 : Value} {a1 a2 : Int} (hst : St w0 w I [ownS ty_api_Hold r0_0 a0] R) {r : (List api_Hold)} (hm : slices_Delete_api_Hold_api_Hold a0 a1 a2 = some r) :
  Calls prog 54 #[r0_0, I6 a1, I6 a2] w fun e w' => ∃ (q0_0 : Value), e = .returned (q0_0) ∧ St w0 w' I [ownS ty_api_Hold q0_0 r] R := by {
 unfold slices_Delete_api_Hold_api_Hold at hm
 obtain ⟨hg, hm⟩ := gd_some hm
 obtain rfl := some_inj hm
 obtain ⟨hi0, hi1, hi2⟩ := fits_of hg
 obtain ⟨j, rfl⟩ := Int.eq_ofNat_of_zero_le (Int.le_trans hi0 hi1)
 obtain ⟨k, rfl⟩ := Int.eq_ofNat_of_zero_le hi0
 have hkj : k ≤ j := by omega
 have hs : ∀ w : World, (sizeOf 34).run prog w = .ok ty_api_Hold.sz w := sizeOf34
 obtain ⟨css, hr, hst⟩ := hst.own_open
 obtain ⟨n, hn⟩ : ∃ n, css.length = n := ⟨_, rfl⟩
 have hln : a0.length = n := hr.1.trans hn
 have hjn : j ≤ n := by omega
 have hsv : SliceV r0_0 n := by have := hst.row_form.2; rwa [hn] at this
 have hoc := hr.ones
 refine calls_start (args := [r0_0, I6 (k : Int), I6 (j : Int)]) func54 z ntmps54 (Nat.le_of_ble_eq_true z) ?_
 refine wp_seq (wrl (wv ((.slice none 0 0)) z z z (wl_nil (tn (wp_seq (wrl (wv (r0_0) z z z (wv (.int .i64 (k : Int)) z z z (wv (.int .i64 (j : Int)) z z z (wv (r0_0) z z z (wv (.int .i64 (n : Int)) z z (x_len z underlying22 hsv) ?_)))))))))))
 refine wl_ex z z (x_slice3 underlying22 hs z hsv z z z hkj hjn) fun v3 => ?_
 refine wl_nil (tn (wp_seq (wp_seq (wrl (wv (.int .i64 (k : Int)) z z z (wv (.int .i64 (j : Int)) z z z (wv (.bool ((k : Int) == (j : Int))) z z z (wl_nil (tn ?_)))))))))
 refine bsplit ((k : Int) == (j : Int)) (fun hc159 => ?_) (fun hc159 => ?_)
 {
 refine wp_ift (cvb hc159) ?_
 refine wp_seq (wrl (wv (r0_0) z z z (wv (r0_0) z z z (wl_nil (tn (wp_ret (then_r ?_)))))))
 refine post_ret (vs := [r0_0]) results54 (rvs_cons (rv_tmp z) rvs_nil) ?_
 rw [del_nil hc159]
 exact ⟨_, z, (hst.own_close hr).keep1⟩
}
 {
 refine wp_iff (cvb hc159) ?_
 have hne : ¬ ((k : Int) = (j : Int)) := by simpa using hc159
 have hlt : k < j := by omega
 refine wp_skip (tn (wp_seq (wrl ?_)))
 refine wv (r0_0) z z z (wv (.int .i64 (n : Int)) z z (x_len z underlying22 hsv) (wv (.int .i64 (n : Int)) z z z (wl_nil (tn (wp_seq ?_)))))
 refine wp_region_St hst 8 [0, 1, 2, 3, 4, 5, 6, 7] [0, 0, 3, 0, 0, 24, 63, 127] [7] z (by kernel_rfl) (by kernel_rfl) Try.mixed (by kernel_rfl) ?_
 refine wsr (r0_0) 0 z z z (by kernel_rfl) (fun w hst => z) (wsr (.int .i64 (k : Int)) 1 z z z (by kernel_rfl) (fun w hst => z) (wsr ((slcV ty_api_Hold.sz r0_0 0 k)) 2 z z z (by kernel_rfl) (fun w hst => x_slice (lo := (0 : Nat)) (hi := (k : Nat)) underlying22 hs z hsv (by omega) (by omega) (by omega) .i64 .i64 (.inr ⟨z, z⟩) (.inl z)) (wsr (r0_0) 3 z z z (by kernel_rfl) (fun w hst => z) (wsr (.int .i64 (j : Int)) 4 z z z (by kernel_rfl) (fun w hst => z) (wsr ((slcV ty_api_Hold.sz r0_0 j n)) 5 z z z (by kernel_rfl) (fun w hst => x_slice (lo := (j : Nat)) (hi := (n : Nat)) underlying22 hs z hsv (by omega) (by omega) (by omega) .i64 .i64 (.inl z) (.inr ⟨z, z⟩)) ?_)))))
 refine ws_e1 6 (by kernel_rfl) ?_
 refine nxe [7] (by kernel_rfl) z z ?_
 clear hst
 intro w hst
 obtain ⟨w2, hra, hst⟩ := run_appDel (P := prog) underlying22 hs hst hn hlt hjn hoc 22
 refine we_run (v := (slcV ty_api_Hold.sz r0_0 0 (k + (n - j)))) (w' := w2) z (x_append z z hra) ?_
 have hnl := (show _ from hst)
 clear hnl
 have hn2 : (css.take k ++ (css.drop j ++ css.drop (k + (n - j)))).length = n := by simp only [List.length_append, List.length_take, List.length_drop]; omega
 have hsm := row_slc hst hn2 (m := (k + (n - j))) (by omega)
 refine ws_next (pend' := []) hst (by kernel_rfl) pk_nil ?_
 refine ws_e1 7 (by kernel_rfl) ?_
 refine nxe [] (by kernel_rfl) z z ?_
 clear hst
 intro w hst
 refine we_run (v := (slcV ty_api_Hold.sz r0_0 0 (k + (n - j)))) (w' := w) z z ?_
 refine ws_next (pend' := []) hst (by kernel_rfl) pk_nil ?_
 refine ws_nil ?_
 intro w hst
 refine tn (wp_seq (wrl (wv ((slcV ty_api_Hold.sz r0_0 0 (k + (n - j)))) z z z (wv ((slcV ty_api_Hold.sz r0_0 0 (k + (n - j)))) z z z (wv (.int .i64 (((k + (n - j)) : Nat) : Int)) z z (x_len z underlying22 hsm) (wv (.int .i64 (n : Int)) z z z (wv ((slcV ty_api_Hold.sz r0_0 (k + (n - j)) n)) z z (x_sliceRe underlying22 hs z hsv z z (by omega) (by omega)) ?_)))))))
 obtain ⟨w3, hrc, hst⟩ := run_clear elem_22 z (ones_of (by kernel_rfl)) hst hn2 (m := (k + (n - j))) (by omega) 0
 refine wl_run0 z z (x_clear z hrc) ?_
 refine wl_nil (tn (wp_seq (wrl (wv ((slcV ty_api_Hold.sz r0_0 0 (k + (n - j)))) z z z (wv ((slcV ty_api_Hold.sz r0_0 0 (k + (n - j)))) z z z (wl_nil (tn (wp_ret ?_))))))))
 refine post_ret (vs := [(slcV ty_api_Hold.sz r0_0 0 (k + (n - j)))]) results54 (rvs_cons (rv_tmp z) rvs_nil) ?_
 replace hst := hst.row_part (l := 0) (h := (k + (n - j))) (Nat.zero_le _) (by simp only [List.length_append, List.length_take, List.length_drop, List.length_replicate]; omega)
 rw [del_rows hn hlt hjn (List.length_replicate ..)] at hst
 exact ⟨_, z, (hst.own_close ((hr.take k).app (hr.drop j))).keep1⟩
}
}

theorem locks_Table_Drop_ref {w0 w : World} {I : HL} {R : SP} {a0 : (Option locks_Table)} {p0 : Value} {a1 : api_ID}  (hst : St w0 w I [objO at_locks_Table p0 a0] R) {r : (Bool × (Option locks_Table))} (hm : locks_Table_Drop a0 a1 = some r) :
  Calls prog 24 #[p0, .agg #[U6 a1.Session, U6 a1.Seq]] w fun e w' => e = .returned (.bool r.1) ∧ St w0 w' I [objO at_locks_Table p0 r.2] R := by {
 rcases a0 with _ | o0
 {
 obtain ⟨rfl, hst'⟩ := objO_none hst
 clear hst
 have hst := hst'
 clear hst'
 dsimp only [locks_Table_Drop] at hm
 refine calls_start (args := [.pointer none, .agg #[U6 a1.Session, U6 a1.Seq]]) func24 z ntmps24 (Nat.le_of_ble_eq_true z) ?_
 refine wp_seq (wrl ?_)
 obtain ⟨b169, w170, ew171, eb172, hst⟩ := hst.box [U6 a1.Session, U6 a1.Seq] 29
 refine wl_run (v := Pt b169 0) (w' := w170) z z (x_al (by kernel_rfl) ew171 eb172) ?_
 refine wv (.bool false) z z z (wl_nil (tn (wp_seq (wrl (wv (.pointer none) z z z (wv (.agg #[U6 a1.Session, U6 a1.Seq]) z z (x_loadN (cs := [U6 a1.Session, U6 a1.Seq]) z isAgg29 sizeOf29 (hst.bcs0 0 z)) ?_))))))
 replace hst := hst.objO_nil at_locks_Table
 obtain ⟨t175, ht176, hm⟩ := bind_some hm
 refine wc call40 [.pointer none, .agg #[U6 a1.Session, U6 a1.Seq]] z z z ?_
 refine (locks_Table_find_ref hst.to1 ht176).mono ?_
 rintro _ w177 ⟨rfl, hst⟩
 refine ⟨_, z, ?_⟩
 replace hst := hst.of1
 refine wv (.tuple #[I6 t175.1, .bool t175.2]) z z z (wv (.int .i64 t175.1) z z z (wv (.bool t175.2) z z z (wv (.int .i64 t175.1) z z z (wv (.bool t175.2) z z z (wl_nil (tn (wp_seq (wp_seq (wrl (wv (.bool t175.2) z z z (wl_nil (tn ?_))))))))))))
 refine bsplit t175.2 (fun hc180 => ?_) (fun hc180 => ?_)
 {
 replace hm := bif_t hc180 hm
 refine wp_ift (cvb hc180) ?_
 refine wrl (wv (.pointer none) z z z (wv (.pointer none) z z z ?_))
 cases hm
}
 {
 replace hm := bif_f hc180 hm
 refine wp_iff (cvb hc180) ?_
 refine wp_skip (tn (wp_seq (wrl ?_)))
 refine wv (.bool t175.2) z z z (wv (.bool t175.2) z z z (wl_nil (tn (wp_ret ?_))))
 replace hst := hst.objO_nil at_locks_Table
 obtain rfl := some_inj hm
 refine post_ret (vs := [.bool t175.2]) results24 (rvs_cons (rv_tmp z) rvs_nil) ?_
 exact ⟨z, hst.keep1⟩
}
}
 {
 replace hst := objO_get hst
 dsimp only [locks_Table_Drop] at hm
 refine calls_start (args := [p0, .agg #[U6 a1.Session, U6 a1.Seq]]) func24 z ntmps24 (Nat.le_of_ble_eq_true z) ?_
 refine wp_seq (wrl ?_)
 obtain ⟨b181, w182, ew183, eb184, hst⟩ := hst.box [U6 a1.Session, U6 a1.Seq] 29
 refine wl_run (v := Pt b181 0) (w' := w182) z z (x_al (by kernel_rfl) ew183 eb184) ?_
 refine wv (.bool false) z z z (wl_nil (tn (wp_seq (wrl (wv (p0) z z z (wv (.agg #[U6 a1.Session, U6 a1.Seq]) z z (x_loadN (cs := [U6 a1.Session, U6 a1.Seq]) z isAgg29 sizeOf29 (hst.bcs0 0 z)) ?_))))))
 replace hst := hst.pull1
 replace hst := objO_some hst
 obtain ⟨t186, ht187, hm⟩ := bind_some hm
 refine wc call40 [p0, .agg #[U6 a1.Session, U6 a1.Seq]] z z z ?_
 refine (locks_Table_find_ref hst.to1 ht187).mono ?_
 rintro _ w188 ⟨rfl, hst⟩
 refine ⟨_, z, ?_⟩
 replace hst := hst.of1
 replace hst := objO_get hst
 refine wv (.tuple #[I6 t186.1, .bool t186.2]) z z z (wv (.int .i64 t186.1) z z z (wv (.bool t186.2) z z z (wv (.int .i64 t186.1) z z z (wv (.bool t186.2) z z z (wl_nil (tn (wp_seq (wp_seq (wrl (wv (.bool t186.2) z z z (wl_nil (tn ?_))))))))))))
 refine bsplit t186.2 (fun hc191 => ?_) (fun hc191 => ?_)
 {
 replace hm := bif_t hc191 hm
 refine wp_ift (cvb hc191) ?_
 refine wrl (wv (p0) z z z (wv (p0) z z z ?_))
 obtain ⟨b192, v193, rfl, hst'⟩ := at_locks_Table_open hst
 clear hst
 have hst := hst'
 clear hst'
 refine wv (Pt b192 0) z z z (wv (Pt b192 0) z z (x_field z underlying77 z sizeOf22 z) (wv (v193) z z (x_load z isAgg22 (hst.bc0 z)) (wv (.int .i64 t186.1) z z z (wv (.int .i64 t186.1) z z z (wv (.int .i64 (i64.wrap (t186.1 + (1:Int)))) z z z ?_)))))
 replace hst := hst.pull1
 obtain ⟨t195, ht196, hm⟩ := bind_some hm
 refine wc call54 [v193, I6 t186.1, I6 (i64.wrap (t186.1 + (1:Int)))] z z z ?_
 refine (slices_Delete_api_Hold_api_Hold_ref hst.to1 ht196).mono ?_
 rintro _ w197 ⟨v200, rfl, hst⟩
 refine ⟨_, z, ?_⟩
 replace hst := hst.of1
 refine wv (Pt b192 0) z z z (wv (Pt b192 0) z z (x_field z underlying77 z sizeOf22 z) ?_)
 replace hst := hst.pull1
 obtain ⟨w202, hr203, hst⟩ := hst.boxStore1 (P := prog) (t := 22) (cs' := [v200]) 0 v200 (one_of_sliceV hst.sv1) sizeOf22 z z
 refine wl_unit z z (x_unit hr203) ?_
 refine wl_nil (tn (wp_seq (wrl (wv (.bool t186.2) z z z (wv (.bool t186.2) z z z (wl_nil (tn (wp_ret ?_))))))))
 replace hst := hst.pull1.pull1
 replace hst := at_locks_Table_close (pv := Pt b192 0) (x := ({ l := t195 } : locks_Table)) hst z
 replace hst := objO_some hst
 obtain rfl := some_inj hm
 refine post_ret (vs := [.bool t186.2]) results24 (rvs_cons (rv_tmp z) rvs_nil) ?_
 exact ⟨z, hst.keep1⟩
}
 {
 replace hm := bif_f hc191 hm
 refine wp_iff (cvb hc191) ?_
 refine wp_skip (tn (wp_seq (wrl ?_)))
 refine wv (.bool t186.2) z z z (wv (.bool t186.2) z z z (wl_nil (tn (wp_ret ?_))))
 replace hst := objO_some hst
 obtain rfl := some_inj hm
 refine post_ret (vs := [.bool t186.2]) results24 (rvs_cons (rv_tmp z) rvs_nil) ?_
 exact ⟨z, hst.keep1⟩
}
}
}

theorem locks_Table_All_ref {w0 w : World} {I : HL} {R : SP} {a0 : (Option locks_Table)} {p0 : Value}  (hst : St w0 w I [objO at_locks_Table p0 a0] R) {r : ((List api_ID))} (hm : locks_Table_All a0 = some r) :
  Calls prog 13 #[p0] w fun e w' => ∃ (q0_0 : Value), e = .returned (q0_0) ∧ St w0 w' I [ownS ty_api_ID q0_0 r, objO at_locks_Table p0 a0] R := by {
 rcases a0 with _ | o0
 {
 obtain ⟨rfl, hst'⟩ := objO_none hst
 clear hst
 have hst := hst'
 clear hst'
 dsimp only [locks_Table_All] at hm
 refine calls_start (args := [.pointer none]) func13 z ntmps13 (Nat.le_of_ble_eq_true z) ?_
 refine wp_seq (wrl (wv ((.slice none 0 0)) z z z (wl_nil (tn (wp_seq (wrl (wv ((.slice none 0 0)) z z z (wl_nil (tn (wp_seq (wp_seq (wrl (wv (.pointer none) z z z ?_)))))))))))))
 replace hst := hst.objO_nil at_locks_Table
 obtain ⟨t327, ht328, hm⟩ := bind_some hm
 refine wc call27 [.pointer none] z z z ?_
 refine (locks_Table_Len_ref hst.to1 ht328).mono ?_
 rintro _ w329 ⟨rfl, hst⟩
 refine ⟨_, z, ?_⟩
 replace hst := hst.of1
 refine wv (.int .i64 (0:Int)) z z z (wl_nil (tn (wp_block ?_)))
 replace hst := hst.sub
 obtain ⟨n334, hm⟩ := loopO_some hm
 refine wp_loop_n (fun n a w => ∃ (σ333 : Nat → Value), loopN (locks_Table_All_l0 t327) n () = some r ∧ a = Fr 23 (upd (upd (upd (upd σ333 0 (.pointer none)) 3 ((.slice none 0 0))) 6 (.int .i64 t327)) 7 (.int .i64 (0:Int))) ∧ St w0 w I [] R) n334 ⟨_, hm, (fu 0 (.pointer none) z (fu 3 (.slice none 0 0) z (fu 6 (.int .i64 t327) z (fu 7 (.int .i64 (0:Int)) z z)))), hst⟩ ?_
 rintro n340 _ w335 ⟨σ333, hm, rfl, hst⟩
 obtain ⟨n337, y338, rfl, hm, hx339⟩ := loopN_some hm
 dsimp only [locks_Table_All_l0] at hm
 refine wp_seq (wrl (wv (.bool (decide ((0:Int) < t327))) z z z (wl_nil (tn (wp_seq ?_)))))
 refine bsplit (decide ((0:Int) < t327)) (fun hc341 => ?_) (fun hc341 => ?_)
 {
 replace hm := bif_t hc341 hm
 refine wp_ift (cvb hc341) ?_
 refine wp_skip (tn (wp_seq (wp_block (wp_seq (wrl ?_)))))
 refine wv (.int .i64 (0:Int)) z z z (wv (.int .i64 (0:Int)) z z z (wl_nil (tn (wrl (wv ((.slice none 0 0)) z z z (wv (.pointer none) z z z ?_))))))
 cases hm
}
 {
 replace hm := bif_f hc341 hm
 refine wp_iff (cvb hc341) ?_
 refine wp_exit (then_x (then_x ?_))
 replace hm := inr_up hm hx339
 refine blk_x (tn (wp_seq (wrl ?_)))
 refine wv ((.slice none 0 0)) z z z (wv ((.slice none 0 0)) z z z (wl_nil (tn (wp_ret ?_))))
 replace hst := hst.own_nil ty_api_ID
 replace hst := hst.objO_nil at_locks_Table
 obtain rfl := some_inj hm
 refine post_ret (vs := [Zs]) results13 (rvs_cons (rv_tmp z) rvs_nil) ?_
 replace hst := hst.pull1
 exact ⟨(.slice none 0 0), z, hst.keep2⟩
}
}
 {
 replace hst := objO_get hst
 dsimp only [locks_Table_All] at hm
 refine calls_start (args := [p0]) func13 z ntmps13 (Nat.le_of_ble_eq_true z) ?_
 refine wp_seq (wrl (wv ((.slice none 0 0)) z z z (wl_nil (tn (wp_seq (wrl (wv ((.slice none 0 0)) z z z (wl_nil (tn (wp_seq (wp_seq (wrl (wv (p0) z z z ?_)))))))))))))
 replace hst := objO_some hst
 obtain ⟨t344, ht345, hm⟩ := bind_some hm
 refine wc call27 [p0] z z z ?_
 refine (locks_Table_Len_ref hst.to1 ht345).mono ?_
 rintro _ w346 ⟨rfl, hst⟩
 refine ⟨_, z, ?_⟩
 replace hst := hst.of1
 replace hst := objO_get hst
 refine wv (.int .i64 (0:Int)) z z z (wl_nil (tn (wp_block ?_)))
 replace hst := hst.own_nil ty_api_ID
 obtain ⟨n460, hm⟩ := loopO_some hm
 refine wp_loop_n (fun n a w => ∃ (z455 : (List api_ID)) (z458 : Int) (v456 : Value) (σ459 : Nat → Value), loopN (locks_Table_All_l1 t344 o0) n (z455, z458) = some r ∧ a = Fr 23 (upd (upd (upd (upd σ459 0 (p0)) 3 (v456)) 6 (.int .i64 t344)) 7 (.int .i64 z458)) ∧ St w0 w I [ownS ty_api_ID v456 z455, at_locks_Table p0 o0] R) n460 ⟨[], (0:Int), Zs, _, hm, (fu 0 p0 z (fu 3 (.slice none 0 0) z (fu 6 (.int .i64 t344) z (fu 7 (.int .i64 (0:Int)) z z)))), hst⟩ ?_
 rintro n466 _ w461 ⟨z455, z458, v456, σ459, hm, rfl, hst⟩
 obtain ⟨n463, y464, rfl, hm, hx465⟩ := loopN_some hm
 dsimp only [locks_Table_All_l1] at hm
 refine wp_seq (wrl (wv (.bool (decide (z458 < t344))) z z z (wl_nil (tn (wp_seq ?_)))))
 refine bsplit (decide (z458 < t344)) (fun hc467 => ?_) (fun hc467 => ?_)
 {
 replace hm := bif_t hc467 hm
 refine wp_ift (cvb hc467) ?_
 refine wp_skip (tn (wp_seq (wp_block (wp_seq (wrl ?_)))))
 refine wv (.int .i64 z458) z z z (wv (.int .i64 z458) z z z (wl_nil (tn (wrl (wv (v456) z z z (wv (p0) z z z ?_))))))
 replace hst := hst.pull1
 obtain ⟨b468, v469, rfl, hst'⟩ := at_locks_Table_open hst
 clear hst
 have hst := hst'
 clear hst'
 refine wv (Pt b468 0) z z z (wv (Pt b468 0) z z (x_field z underlying77 z sizeOf22 z) (wv (v469) z z (x_load z isAgg22 (hst.bc0 z)) (wv (.int .i64 z458) z z z ?_)))
 obtain ⟨x471, hx472, hm⟩ := bind_some hm
 obtain ⟨h473, h474, hi475⟩ := geto_some hx472
 refine wv (.pointer (some (eAddr v469 (z458.toNat * 7 + 0)))) z z (x_index z z underlying22 sizeOf34 hst.sv1 h473 h474) (wv (.pointer (some (eAddr v469 (z458.toNat * 7 + 0)))) z z (x_field_e z underlying34 z sizeOf29 z) ?_)
 obtain ⟨cs476, hr477, hc478⟩ := hst.og1 hi475
 obtain ⟨v479, v482, v485, v488, rfl, f480, f483, f486, f489, -⟩ := hr477
 refine wv (.agg #[U6 x471.ID.Session, U6 x471.ID.Seq]) z z (x_loadN (cs := [U6 x471.ID.Session, U6 x471.ID.Seq]) z isAgg29 sizeOf29 (eCells (o := 0) hc478 z)) ?_
 obtain ⟨b491, w492, ew493, eb494, hst⟩ := hst.lits (E := ty_api_ID) (xs := [x471.ID]) [[U6 x471.ID.Session, U6 x471.ID.Seq]] 29 1 z (Reps.cons z Reps.nil)
 refine wl_run (v := (.slice (some ⟨b491, 0, none⟩) 1 1)) (w' := w492) z z (x_als (by kernel_rfl) ew493 eb494) ?_
 obtain ⟨hg496, hm⟩ := gd_some hm
 replace hst := hst.pull3
 obtain ⟨v497, w498, hr499, hst⟩ := run_append elem_37 underlying37 hst hst.src1 (room_of hg496 z) 37
 refine wl_run (v := v497) (w' := w498) z z (x_append z z hr499) ?_
 refine wv (v497) z z z (wl_nil (blk_n (tn (wrl (wv (.int .i64 (i64.wrap (z458 + (1:Int)))) z z z (wv (.int .i64 (i64.wrap (z458 + (1:Int)))) z z z (wl_nil (tn ?_))))))))
 replace hst := hst.pull3.pull3
 replace hst := at_locks_Table_close (pv := Pt b468 0) (x := o0) hst z
 replace hst := hst.pull1.keep2
 obtain rfl := some_inj hm
 exact ⟨_, Nat.lt_succ_self _, (z455 ++ ([x471.ID])), (i64.wrap (z458 + (1:Int))), v497, _, hx465, (fu 0 (Pt b468 0) z (fu 3 v497 z (fu 6 (.int .i64 t344) z (fu 7 (.int .i64 (i64.wrap (z458 + (1:Int)))) z z)))), hst⟩
}
 {
 replace hm := bif_f hc467 hm
 refine wp_iff (cvb hc467) ?_
 refine wp_exit (then_x (then_x ?_))
 replace hm := inr_up hm hx465
 refine blk_x (tn (wp_seq (wrl ?_)))
 refine wv (v456) z z z (wv (v456) z z z (wl_nil (tn (wp_ret ?_))))
 replace hst := hst.pull1
 replace hst := objO_some hst
 obtain rfl := some_inj hm
 refine post_ret (vs := [v456]) results13 (rvs_cons (rv_tmp z) rvs_nil) ?_
 replace hst := hst.pull1
 exact ⟨v456, z, hst.keep2⟩
}
}
}

theorem locks_Table_Until_ref {w0 w : World} {I : HL} {R : SP} {a0 : (Option locks_Table)} {p0 : Value} {a1 : Int}  (hst : St w0 w I [objO at_locks_Table p0 a0] R) {r : (Bool)} (hm : locks_Table_Until a0 a1 = some r) :
  Calls prog 28 #[p0, U6 a1] w fun e w' => e = .returned (.bool r) ∧ St w0 w' I [objO at_locks_Table p0 a0] R := by {
 rcases a0 with _ | o0
 {
 obtain ⟨rfl, hst'⟩ := objO_none hst
 clear hst
 have hst := hst'
 clear hst'
 dsimp only [locks_Table_Until] at hm
 refine calls_start (args := [.pointer none, U6 a1]) func28 z ntmps28 (Nat.le_of_ble_eq_true z) ?_
 refine wp_seq (wrl ?_)
 obtain ⟨b282, w283, ew284, eb285, hst⟩ := hst.box [U6 a1] 27
 refine wl_run (v := Pt b282 0) (w' := w283) z z (x_al (by kernel_rfl) ew284 eb285) ?_
 refine wv (.bool false) z z z (wl_nil (tn (wp_seq (wrl (wv (.pointer none) z z z (wv (.bool false) z z (by kernel_rfl) (wv (.bool false) z z z (wz z z z z z z (wz z z z z z z (wz z z z z z z (wz z z z z z z (wz z z z z z z (wz z z z z z z (wv (.bool false) z z (x_pick_f z z z) (wv (.bool false) z z z ?_)))))))))))))))
 refine wl_nil (tn (wp_ret ?_))
 replace hst := hst.objO_nil at_locks_Table
 obtain rfl := some_inj hm
 refine post_ret (vs := [.bool false]) results28 (rvs_cons (rv_tmp z) rvs_nil) ?_
 exact ⟨z, hst.keep1⟩
}
 {
 replace hst := objO_get hst
 dsimp only [locks_Table_Until] at hm
 refine calls_start (args := [p0, U6 a1]) func28 z ntmps28 (Nat.le_of_ble_eq_true z) ?_
 refine wp_seq (wrl ?_)
 obtain ⟨b287, w288, ew289, eb290, hst⟩ := hst.box [U6 a1] 27
 refine wl_run (v := Pt b287 0) (w' := w288) z z (x_al (by kernel_rfl) ew289 eb290) ?_
 refine wv (.bool false) z z z (wl_nil (tn (wp_seq (wrl (wv (p0) z z z ?_)))))
 replace hst := hst.pull1
 obtain ⟨b292, v293, rfl, hst'⟩ := at_locks_Table_open hst
 clear hst
 have hst := hst'
 clear hst'
 refine wv (.bool true) z z (by kernel_rfl) (wv (.bool true) z z z (wv (Pt b292 0) ((wanted_eq z z z z).trans z) z z (wv (Pt b292 0) ((wanted_eq z z z z).trans z) z z (wv (Pt b292 0) ((wanted_eq z z z z).trans z) z (x_field z underlying77 z sizeOf22 z) (wv (v293) ((wanted_eq z z z z).trans z) z (x_load z isAgg22 (hst.bc0 z)) (wv (.func (.func 56) #[] #[Pt b287 0]) ((wanted_eq z z z z).trans z) z (by kernel_rfl) ?_))))))
 obtain ⟨y405, hq406, hm⟩ := bind_some hm
 refine wl_call ((wanted_eq z z z z).trans z) z (x_callv call55 (caps := []) z (vs := [v293, .func (.func 56) #[] #[Pt b287 0]]) z) ?_
 refine Calls.mono (show Calls prog 55 #[v293, .func (.func 56) #[] #[Pt b287 0]] _ (fun e w' => ∃ (z403 : Bool), z403 = y405 ∧ e = .returned (.bool z403) ∧ St w0 w' I [cells b292 [v293], ownS ty_api_Hold v293 o0.l, cells b287 [U6 a1]] R) from ?_) ?_
 {
 clear hm; have hm := hq406
 refine calls_start (args := [v293, .func (.func 56) #[] #[Pt b287 0]]) func55 z ntmps55 (Nat.le_of_ble_eq_true z) ?_
 refine wp_seq (wrl (wv (.bool false) z z z (wl_nil (tn (wp_seq (wrl (wv (v293) z z z (wv (.func (.func 56) #[] #[Pt b287 0]) z z z ?_))))))))
 obtain ⟨y400, hq401, hm⟩ := bind_some hm
 refine wl_call z z (x_callv call83 (caps := []) z (vs := [v293, .func (.func 56) #[] #[Pt b287 0]]) z) ?_
 refine Calls.mono (show Calls prog 83 #[v293, .func (.func 56) #[] #[Pt b287 0]] _ (fun e w' => ∃ (z398 : Int), z398 = y400 ∧ e = .returned (.int .i64 z398) ∧ St w0 w' I [cells b292 [v293], ownS ty_api_Hold v293 o0.l, cells b287 [U6 a1]] R) from ?_) ?_
 {
 clear hm; have hm := hq401
 refine calls_start (args := [v293, .func (.func 56) #[] #[Pt b287 0]]) func83 z ntmps83 (Nat.le_of_ble_eq_true z) ?_
 refine wp_seq (wrl (wv (.int .i64 (0:Int)) z z z (wl_nil (tn (wp_seq (wp_seq (wrl (wv (v293) z z z (wv (.int .i64 ((o0.l).length : Int)) z z (x_len z underlying22 hst.sv1) (wv (.int .i64 (0:Int)) z z z (wl_nil (tn (wp_block ?_)))))))))))))
 obtain ⟨n360, hm⟩ := loopO_some hm
 refine wp_loop_n (fun n a w => ∃ (z358 : Int) (σ359 : Nat → Value), loopN (locks_Table_Until_l0 o0 a1) n z358 = some y400 ∧ a = Fr 19 (upd (upd (upd (upd σ359 0 (v293)) 1 (.func (.func 56) #[] #[Pt b287 0])) 7 (.int .i64 ((o0.l).length : Int))) 8 (.int .i64 z358)) ∧ St w0 w I [cells b292 [v293], ownS ty_api_Hold v293 o0.l, cells b287 [U6 a1]] R) n360 ⟨(0:Int), _, hm, (fu 0 v293 z (fu 1 (.func (.func 56) #[] #[Pt b287 0]) z (fu 7 (.int .i64 ((o0.l).length : Int)) z (fu 8 (.int .i64 (0:Int)) z z)))), hst⟩ ?_
 rintro n366 _ w361 ⟨z358, σ359, hm, rfl, hst⟩
 obtain ⟨n363, y364, rfl, hm, hx365⟩ := loopN_some hm
 dsimp only [locks_Table_Until_l0] at hm
 refine wp_seq (wrl (wv (.bool (decide (z358 < ((o0.l).length : Int)))) z z z (wl_nil (tn (wp_seq ?_)))))
 refine bsplit (decide (z358 < ((o0.l).length : Int))) (fun hc367 => ?_) (fun hc367 => ?_)
 {
 replace hm := bif_t hc367 hm
 refine wp_ift (cvb hc367) ?_
 refine wp_skip (tn (wp_seq (wp_block (wp_seq (wrl ?_)))))
 refine wv (.int .i64 z358) z z z (wv (.int .i64 z358) z z z (wl_nil (tn (wp_seq (wrl (wv (.func (.func 56) #[] #[Pt b287 0]) z z z (wv (v293) z z z (wv (.int .i64 z358) z z z ?_))))))))
 obtain ⟨x368, hx369, hm⟩ := bind_some hm
 obtain ⟨h370, h371, hi372⟩ := geto_some hx369
 refine wv (.pointer (some (eAddr v293 (z358.toNat * 7 + 0)))) z z (x_index z z underlying22 sizeOf34 hst.sv1 h370 h371) ?_
 obtain ⟨cs373, hr374, hc375⟩ := hst.og1 hi372
 obtain ⟨v376, v379, v382, v385, rfl, f377, f380, f383, f386, -⟩ := hr374
 refine wv (.agg #[U6 x368.ID.Session, U6 x368.ID.Seq, U6 x368.Epoch, v376, v379, v382, v385]) z z (x_loadN (cs := [U6 x368.ID.Session, U6 x368.ID.Seq, U6 x368.Epoch, v376, v379, v382, v385]) z isAgg34 sizeOf34 (eCells (o := 0) hc375 z)) ?_
 obtain ⟨y394, hq395, hm⟩ := bind_some hm
 refine wl_call z z (x_callv call56 (caps := [Pt b287 0]) z (vs := [.agg #[U6 x368.ID.Session, U6 x368.ID.Seq, U6 x368.Epoch, v376, v379, v382, v385]]) z) ?_
 refine Calls.mono (show Calls prog 56 #[.agg #[U6 x368.ID.Session, U6 x368.ID.Seq, U6 x368.Epoch, v376, v379, v382, v385], Pt b287 0] _ (fun e w' => () = y394 ∧ e = .returned (.bool (decide (x368.Epoch ≤ a1))) ∧ St w0 w' I [cells b292 [v293], ownS ty_api_Hold v293 o0.l, cells b287 [U6 a1]] R) from ?_) ?_
 {
 clear hm; have hm := hq395
 refine calls_start (args := [.agg #[U6 x368.ID.Session, U6 x368.ID.Seq, U6 x368.Epoch, v376, v379, v382, v385], Pt b287 0]) func56 z ntmps56 (Nat.le_of_ble_eq_true z) ?_
 refine wp_seq (wrl ?_)
 obtain ⟨b388, w389, ew390, eb391, hst⟩ := hst.box [U6 x368.ID.Session, U6 x368.ID.Seq, U6 x368.Epoch, v376, v379, v382, v385] 34
 refine wl_run (v := Pt b388 0) (w' := w389) z z (x_al (by kernel_rfl) ew390 eb391) ?_
 refine wv (.bool false) z z z (wl_nil (tn (wp_seq (wrl (wv (Pt b388 2) z z (x_field z underlying34 z sizeOf27 z) (wv (.int .u64 x368.Epoch) z z (x_load z isAgg27 (hst.bc0 z)) (wv (.int .u64 a1) z z (x_load z isAgg27 (hst.bc3 z)) (wv (.bool (decide (x368.Epoch ≤ a1))) z z z (wv (.bool (decide (x368.Epoch ≤ a1))) z z z (wl_nil (tn (wp_ret ?_))))))))))))
 refine post_ret (vs := [.bool (decide (x368.Epoch ≤ a1))]) results56 (rvs_cons (rv_tmp z) rvs_nil) ?_
 replace hst := hst.pull3.pull3.pull3.keep3
 obtain rfl := some_inj hm
 exact ⟨z, z, hst⟩
}
 clear hst
 rintro _ w396 ⟨rfl, rfl, hst⟩
 refine ⟨_, z, ?_⟩
 try dsimp only at hm
 refine wl_nil (tn ?_)
 refine bsplit (decide (x368.Epoch ≤ a1)) (fun hc397 => ?_) (fun hc397 => ?_)
 {
 replace hm := bif_t hc397 hm
 refine wp_ift (cvb hc397) ?_
 refine wp_seq (wrl (wv (.int .i64 z358) z z z (wv (.int .i64 z358) z z z (wl_nil (tn (wp_ret (blk_r (then_r (then_r ?_)))))))))
 replace hm := inr_up hm hx365
 refine blk_r (then_r ?_)
 refine post_ret (vs := [I6 z358]) results83 (rvs_cons (rv_tmp z) rvs_nil) ?_
 replace hst := hst.pull2.pull2.pull2.keep3
 obtain rfl := some_inj hm
 exact ⟨z358, z, z, hst⟩
}
 {
 replace hm := bif_f hc397 hm
 refine wp_iff (cvb hc397) ?_
 refine wp_skip (blk_n (tn (wrl ?_)))
 refine wv (.int .i64 (i64.wrap (z358 + (1:Int)))) z z z (wv (.int .i64 (i64.wrap (z358 + (1:Int)))) z z z (wl_nil (tn ?_)))
 replace hst := hst.pull2.pull2.pull2.keep3
 obtain rfl := some_inj hm
 exact ⟨_, Nat.lt_succ_self _, (i64.wrap (z358 + (1:Int))), _, hx365, (fu 0 v293 z (fu 1 (.func (.func 56) #[] #[Pt b287 0]) z (fu 7 (.int .i64 ((o0.l).length : Int)) z (fu 8 (.int .i64 (i64.wrap (z358 + (1:Int)))) z z)))), hst⟩
}
}
 {
 replace hm := bif_f hc367 hm
 refine wp_iff (cvb hc367) ?_
 refine wp_exit (then_x (then_x ?_))
 replace hm := inr_up hm hx365
 refine blk_x (tn (wp_seq (wrl ?_)))
 refine wv (.int .i64 ((-1):Int)) z z z (wl_nil (tn (wp_ret ?_)))
 refine post_ret (vs := [I6 ((-1):Int)]) results83 (rvs_cons (rv_tmp z) rvs_nil) ?_
 replace hst := hst.pull2.pull2.pull2.keep3
 obtain rfl := some_inj hm
 exact ⟨((-1):Int), z, z, hst⟩
}
}
 clear hst
 rintro _ w402 ⟨z398, rfl, rfl, hst⟩
 refine ⟨_, z, ?_⟩
 try dsimp only at hm
 refine wv (.bool (decide (z398 ≥ (0:Int)))) z z z (wv (.bool (decide (z398 ≥ (0:Int)))) z z z (wl_nil (tn (wp_ret ?_))))
 refine post_ret (vs := [.bool (decide (z398 ≥ (0:Int)))]) results55 (rvs_cons (rv_tmp z) rvs_nil) ?_
 replace hst := hst.pull2.pull2.pull2.keep3
 obtain rfl := some_inj hm
 exact ⟨(decide (z398 ≥ (0:Int))), z, z, hst⟩
}
 clear hst
 rintro _ w407 ⟨z403, rfl, rfl, hst⟩
 refine ⟨_, z, ?_⟩
 try dsimp only at hm
 refine wv (.bool z403) z z (x_pick_t z z z) (wv (.bool z403) z z z (wl_nil (tn (wp_ret ?_))))
 replace hst := hst.pull1.pull1
 replace hst := at_locks_Table_close (pv := Pt b292 0) (x := o0) hst z
 replace hst := objO_some hst
 obtain rfl := some_inj hm
 refine post_ret (vs := [.bool z403]) results28 (rvs_cons (rv_tmp z) rvs_nil) ?_
 exact ⟨z, hst.keep1⟩
}
}

theorem law12_LocksKeeps_ref {w0 w : World} {I : HL} {R : SP} {a0 : Nat} {a1 : Nat} {a2 : Int}  (hst : St w0 w I [] R) {r : (Bool)} (hm : law12_LocksKeeps a0 a1 a2 = some r) :
  Calls prog 6 #[F6 a0, F6 a1, U6 a2] w fun e w' => ∃ (I' : HL), e = .returned (.bool r) ∧ I.le I' ∧ St w0 w' I' [] R := by {
 unfold law12_LocksKeeps at hm
 refine calls_start (args := [F6 a0, F6 a1, U6 a2]) func6 z ntmps6 (Nat.le_of_ble_eq_true z) ?_
 have hI0 := HL.le.refl I
 refine wp_seq (wrl (wv (.bool false) z z z (wl_nil (tn (wp_seq (wrl (wv (.agg #[U6 (1:Int), U6 (1:Int)]) z z (by kernel_rfl) (wv (.int .u64 a2) z z z (wv (.float .f64 a0) z z z ?_)))))))))
 obtain ⟨b160, w161, ew162, eb163, hst⟩ := hst.lits (E := tyF64) (xs := [a0]) [[F6 a0]] 57 1 z (Reps.cons z Reps.nil)
 refine wl_run (v := (.slice (some ⟨b160, 0, none⟩) 1 1)) (w' := w161) z z (x_als (by kernel_rfl) ew162 eb163) ?_
 obtain ⟨b165, w166, ew167, eb168, hst⟩ := hst.byZ_new [(100:Int)] 5
 refine wl_run (v := (.slice (some ⟨b165, 0, none⟩) 1 1)) (w' := w166) z z (x_als (by kernel_rfl) ew167 eb168) ?_
 obtain ⟨w170, hr171, hst⟩ := hst.byZ_mark (P := prog) (n := 1) underlying32 underlying5 z (by decide)
 refine wl_run (v := (.slice (some ⟨b165, 0, none⟩) 1 1)) (w' := w170) z z (x_conv z hr171) ?_
 refine wv (.agg #[U6 (1:Int), U6 (1:Int), U6 a2, Zs, Zs, (.slice (some ⟨b160, 0, none⟩) 1 1), (.slice (some ⟨b165, 0, none⟩) 1 1)]) z z (by kernel_rfl) ?_
 obtain ⟨b180, w181, ew182, eb183, hst⟩ := hst.box [Zu, Zu, Zu, Zs, Zs, Zs, Zs] 34
 refine wl_run (v := Pt b180 0) (w' := w181) z z (x_al (by kernel_rfl) ew182 eb183) ?_
 obtain ⟨w185, hr186, hst⟩ := hst.bx [U6 (1:Int), U6 (1:Int), U6 a2, Zs, Zs, (.slice (some ⟨b160, 0, none⟩) 1 1), (.slice (some ⟨b165, 0, none⟩) 1 1)] sizeOf34 z (oC z (oC z (oC z (oC z (oC z (oC (one_of_sliceV hst.sv2) (oC (one_of_sliceV (byV_sv (b := b165) (xs := [(100:Int)]) (by simp))) oN))))))) (by kernel_rfl)
 refine wl_unit z z (x_unit hr186) ?_
 refine wl_nil (tn (wp_seq (wrl ?_)))
 obtain ⟨t187, ht188, hm⟩ := bind_some hm
 refine wc call10 [] z z z ?_
 refine (locks_New_ref hst.to0 ht188).mono ?_
 rintro _ w189 ⟨v192, rfl, hst⟩
 refine ⟨_, z, ?_⟩
 replace hst := hst.of1
 refine wv (v192) z z z (wl_nil (tn (wp_seq (wrl (wv (v192) z z z (wv (.agg #[U6 (1:Int), U6 (1:Int), U6 a2, Zs, Zs, (.slice (some ⟨b160, 0, none⟩) 1 1), (.slice (some ⟨b165, 0, none⟩) 1 1)]) z z (x_loadN (cs := [U6 (1:Int), U6 (1:Int), U6 a2, Zs, Zs, (.slice (some ⟨b160, 0, none⟩) 1 1), (.slice (some ⟨b165, 0, none⟩) 1 1)]) z isAgg34 sizeOf34 (hst.bcs1 0 z)) ?_))))))
 replace hst := objO_some hst
 have f194 : Ro tyF64 I (.slice none 0 0) [] := ro_nil
 have f195 : Ro tyF2 I (.slice none 0 0) [] := ro_nil
 replace hst := hst.pull3
 obtain ⟨css196, hq197, hst⟩ := hst.own_open
 replace hst := hst.pull1
 obtain ⟨t198, ht199, hm⟩ := bind_some hm
 refine wc call12 [v192, .agg #[U6 (1:Int), U6 (1:Int), U6 a2, Zs, Zs, (.slice (some ⟨b160, 0, none⟩) 1 1), (.slice (some ⟨b165, 0, none⟩) 1 1)]] z z z ?_
 refine (locks_Table_Take_ref (a1 := ({ ID := ({ Session := (1:Int), Seq := (1:Int) } : api_ID), Epoch := a2, Gets := [], Scans := [], Puts := [a0], Data := [(100:Int)] } : api_Hold)) (f194.mono ro_rd) (f195.mono ro_rd) (hst.sub.rdrow0 hq197) (Rd.of_byW (n := 1) 2 hst.sub z (by simp)) hst.to1 ht199).mono ?_
 rintro _ w200 ⟨I201, rfl, hI202, hst⟩
 refine ⟨_, z, ?_⟩
 replace hst := hst.of1
 replace f194 := f194.mono (ro_le hI202)
 replace f195 := f195.mono (ro_le hI202)
 replace hI0 := hI0.trans hI202
 replace hst := hst.pull1.own_close (hq197.imp fun _ _ => Ty.mono _ (ro_le hI202))
 replace hst := hst.pull1
 rcases he204 : t198.2 with _ | y203
 · rw [he204] at hm; cases hm
 rw [he204] at hm hst; dsimp only at hm; replace hst := objO_get hst
 refine wl_nil (tn (wp_seq (wrl (wv (Pt b180 5) z z (x_field z underlying34 z sizeOf30 z) (wv ((.slice (some ⟨b160, 0, none⟩) 1 1)) z z (x_load z isAgg30 (hst.bc2 z)) (wv (.float .f64 a1) z z z ?_))))))
 obtain ⟨x205, hx206, hm⟩ := bind_some hm
 obtain ⟨h207, h208, hi209⟩ := geto_some hx206
 refine wv (.pointer (some (eAddr (.slice (some ⟨b160, 0, none⟩) 1 1) ((0:Int).toNat * 1 + 0)))) z z (x_index z z underlying30 sizeOf57 hst.sv1 h207 h208) ?_
 replace hst := hst.pull1
 obtain ⟨w210, hr211, hst⟩ := hst.own_store (P := prog) (t := 57) (y := a1) hi209 0 (.float .f64 a1) sizeOf57 (Nat.le_of_ble_eq_true z) (oC z oN) (by rintro _ rfl; rfl)
 have hi212 := set_get hi209 a1
 have h213 := set_lt h208 (0:Int).toNat a1
 refine wl_unit z z (x_unit hr211) ?_
 refine wl_nil (tn (wp_seq (wrl (wv (Pt b180 6) z z (x_field z underlying34 z sizeOf32 z) (wv ((.slice (some ⟨b165, 0, none⟩) 1 1)) z z (x_load z isAgg32 (hst.bc2 z)) ?_)))))
 obtain ⟨x214, hx215, hm⟩ := bind_some hm
 obtain ⟨h216, h217, hi218⟩ := geto_some hx215
 refine wv (.pointer (some (eAddr (.slice (some ⟨b165, 0, none⟩) 1 1) ((0:Int).toNat * 1 + 0)))) z z (x_index z z underlying32 sizeOf5 (byV_sv (b := b165) (xs := [(100:Int)]) (by simp)) h216 h217) ?_
 replace hst := hst.pull3
 obtain ⟨w219, hr220, hst⟩ := hst.byW_store (P := prog) (t := 5) (n := 1) (i := (0:Int).toNat) (by simp) (byW_lt hi218 (by simp)) (120:Int) sizeOf5
 refine wl_unit z z (x_unit hr220) ?_
 refine wl_nil (tn (wp_seq (wrl (wv (v192) z z z (wv (Pt b180 0) z z (x_field z underlying34 z sizeOf29 z) (wv (.agg #[U6 (1:Int), U6 (1:Int)]) z z (x_loadN (cs := [U6 (1:Int), U6 (1:Int)]) z isAgg29 sizeOf29 (hst.bcs3 0 z)) ?_))))))
 replace hst := hst.pull2
 replace hst := objO_some hst
 obtain ⟨t221, ht222, hm⟩ := bind_some hm
 refine wc call14 [v192, .agg #[U6 (1:Int), U6 (1:Int)]] z z z ?_
 refine (locks_Table_Get_ref hst.to1 ht222).mono ?_
 rintro _ w223 ⟨I224, v226, v229, v232, v235, rfl, hI225, f228, f231, f234, f237, hst⟩
 refine ⟨_, z, ?_⟩
 replace hst := hst.of1
 replace f194 := f194.mono (ro_le hI225)
 replace f195 := f195.mono (ro_le hI225)
 replace hI0 := hI0.trans hI225
 replace hst := objO_get hst
 refine wv (.tuple #[.agg #[U6 t221.1.ID.Session, U6 t221.1.ID.Seq, U6 t221.1.Epoch, v226, v229, v232, v235], .bool t221.2]) z z z (wv (.agg #[U6 t221.1.ID.Session, U6 t221.1.ID.Seq, U6 t221.1.Epoch, v226, v229, v232, v235]) z z z (wv (.bool t221.2) z z z ?_))
 obtain ⟨b242, w243, ew244, eb245, hst⟩ := hst.box [Zu, Zu, Zu, Zs, Zs, Zs, Zs] 34
 refine wl_run (v := Pt b242 0) (w' := w243) z z (x_al (by kernel_rfl) ew244 eb245) ?_
 obtain ⟨w247, hr248, hst⟩ := hst.bx [U6 t221.1.ID.Session, U6 t221.1.ID.Seq, U6 t221.1.Epoch, v226, v229, v232, v235] sizeOf34 z (oC z (oC z (oC z (oC (one_of_sliceV (ro_sliceV f228)) (oC (one_of_sliceV (ro_sliceV f231)) (oC (one_of_sliceV (ro_sliceV f234)) (oC (one_of_sliceV (ro_sliceV f237)) oN))))))) (by kernel_rfl)
 refine wl_unit z z (x_unit hr248) ?_
 refine wv (.bool t221.2) z z z (wl_nil (tn (wp_seq (wrl (wv (.pointer none) z z z (wl_nil (tn (wp_seq (wrl ?_)))))))))
 obtain ⟨t249, ht250, hm⟩ := bind_some hm
 refine wc call9 [] z z z ?_
 refine (law12_awake_ref hst.to0 ht250).mono ?_
 rintro _ w251 ⟨I252, rfl, hI253, hst⟩
 refine ⟨_, z, ?_⟩
 replace hst := hst.of0
 replace f194 := f194.mono (ro_le hI253)
 replace f195 := f195.mono (ro_le hI253)
 replace f228 := f228.mono (ro_le hI253)
 replace f231 := f231.mono (ro_le hI253)
 replace f234 := f234.mono (ro_le hI253)
 replace f237 := f237.mono (ro_le hI253)
 replace hI0 := hI0.trans hI253
 refine wv (.bool t249) z z z ?_
 refine bsplit t249 (fun hc254 => ?_) (fun hc254 => ?_)
 {
 replace hm := bif_t hc254 hm
 refine wv (.bool t221.2) ((wanted_eq z z z (cvb hc254)).trans z) z z (wv (.bool t221.2) z z (x_pick_t hc254 z z) (wv (.bool t221.2) z z z ?_))
 refine bsplit t221.2 (fun hc255 => ?_) (fun hc255 => ?_)
 {
 replace hm := bif_t hc255 hm
 refine wv (.agg #[U6 t221.1.ID.Session, U6 t221.1.ID.Seq, U6 t221.1.Epoch, v226, v229, v232, v235]) ((wanted_eq z z z (cvb hc255)).trans z) z (x_loadN (cs := [U6 t221.1.ID.Session, U6 t221.1.ID.Seq, U6 t221.1.Epoch, v226, v229, v232, v235]) z isAgg34 sizeOf34 (hst.bcs0 0 z)) (wv (Pt b180 0) ((wanted_eq z z z (cvb hc255)).trans z) z (x_field z underlying34 z sizeOf29 z) (wv (.agg #[U6 (1:Int), U6 (1:Int)]) ((wanted_eq z z z (cvb hc255)).trans z) z (x_loadN (cs := [U6 (1:Int), U6 (1:Int)]) z isAgg29 sizeOf29 (hst.bcs4 0 z)) (wv (.int .u64 a2) ((wanted_eq z z z (cvb hc255)).trans z) z z (wv (.float .f64 a0) ((wanted_eq z z z (cvb hc255)).trans z) z z ?_))))
 obtain ⟨b256, w257, ew258, eb259, hst⟩ := hst.lits (E := tyF64) (xs := [a0]) [[F6 a0]] 57 1 z (Reps.cons z Reps.nil)
 refine wl_run (v := (.slice (some ⟨b256, 0, none⟩) 1 1)) (w' := w257) ((wanted_eq z z z (cvb hc255)).trans z) z (x_als (by kernel_rfl) ew258 eb259) ?_
 obtain ⟨b261, w262, ew263, eb264, hst⟩ := hst.byZ_new [(100:Int)] 5
 refine wl_run (v := (.slice (some ⟨b261, 0, none⟩) 1 1)) (w' := w262) ((wanted_eq z z z (cvb hc255)).trans z) z (x_als (by kernel_rfl) ew263 eb264) ?_
 obtain ⟨w266, hr267, hst⟩ := hst.byZ_mark (P := prog) (n := 1) underlying32 underlying5 z (by decide)
 refine wl_run (v := (.slice (some ⟨b261, 0, none⟩) 1 1)) (w' := w266) ((wanted_eq z z z (cvb hc255)).trans z) z (x_conv z hr267) ?_
 refine wv (.agg #[U6 (1:Int), U6 (1:Int), U6 a2, Zs, Zs, (.slice (some ⟨b256, 0, none⟩) 1 1), (.slice (some ⟨b261, 0, none⟩) 1 1)]) ((wanted_eq z z z (cvb hc255)).trans z) z (by kernel_rfl) ?_
 have f272 : Ro tyF64 I252 (.slice none 0 0) [] := ro_nil
 have f273 : Ro tyF2 I252 (.slice none 0 0) [] := ro_nil
 replace hst := hst.pull1
 obtain ⟨css274, hq275, hst⟩ := hst.own_open
 obtain ⟨t276, ht277, hm⟩ := bind_some hm
 refine wl_call ((wanted_eq z z z (cvb hc255)).trans z) z (x_call call18 z (vs := [.agg #[U6 t221.1.ID.Session, U6 t221.1.ID.Seq, U6 t221.1.Epoch, v226, v229, v232, v235], .agg #[U6 (1:Int), U6 (1:Int), U6 a2, Zs, Zs, (.slice (some ⟨b256, 0, none⟩) 1 1), (.slice (some ⟨b261, 0, none⟩) 1 1)]]) z) ?_
 refine (ref11_SameHold_ref (a1 := ({ ID := ({ Session := (1:Int), Seq := (1:Int) } : api_ID), Epoch := a2, Gets := [], Scans := [], Puts := [a0], Data := [(100:Int)] } : api_Hold)) (f228.mono ro_rd) (f231.mono ro_rd) (f234.mono ro_rd) (f237.mono ro_rd) (f272.mono ro_rd) (f273.mono ro_rd) (hst.rdrow0 hq275) (Rd.of_byW (n := 1) 1 hst z (by simp)) hst.to0 ht277).mono ?_
 rintro _ w278 ⟨rfl, hst⟩
 refine ⟨_, z, ?_⟩
 replace hst := hst.of0.own_close hq275
 refine wv (.bool t276) z z (x_pick_t hc255 z z) (wv (.bool t276) z z z ?_)
 refine bsplit t276 (fun hc281 => ?_) (fun hc281 => ?_)
 {
 replace hm := bif_t hc281 hm
 refine wv (.pointer none) ((wanted_eq z z z (cvb hc281)).trans z) z z (wv (.agg #[U6 (1:Int), U6 (1:Int), U6 a2, Zs, Zs, (.slice (some ⟨b160, 0, none⟩) 1 1), (.slice (some ⟨b165, 0, none⟩) 1 1)]) ((wanted_eq z z z (cvb hc281)).trans z) z (x_loadN (cs := [U6 (1:Int), U6 (1:Int), U6 a2, Zs, Zs, (.slice (some ⟨b160, 0, none⟩) 1 1), (.slice (some ⟨b165, 0, none⟩) 1 1)]) z isAgg34 sizeOf34 (hst.bcs6 0 z)) ?_)
 replace hst := hst.objO_nil at_locks_Table
 replace hst := hst.pull6
 obtain ⟨css283, hq284, hst⟩ := hst.own_open
 replace hst := hst.pull1
 obtain ⟨t285, ht286, hm⟩ := bind_some hm
 refine wl_call ((wanted_eq z z z (cvb hc281)).trans z) z (x_call call12 z (vs := [.pointer none, .agg #[U6 (1:Int), U6 (1:Int), U6 a2, Zs, Zs, (.slice (some ⟨b160, 0, none⟩) 1 1), (.slice (some ⟨b165, 0, none⟩) 1 1)]]) z) ?_
 refine (locks_Table_Take_ref (a1 := ({ ID := ({ Session := (1:Int), Seq := (1:Int) } : api_ID), Epoch := a2, Gets := [], Scans := [], Puts := (([a0]).set (0:Int).toNat a1), Data := (([(100:Int)]).set (0:Int).toNat (120:Int)) } : api_Hold)) (f194.mono ro_rd) (f195.mono ro_rd) (hst.sub.rdrow0 hq284) (Rd.of_byW (n := 1) 5 hst.sub z (by simp)) hst.to1 ht286).mono ?_
 rintro _ w287 ⟨I288, rfl, hI289, hst⟩
 refine ⟨_, z, ?_⟩
 replace hst := hst.of1
 replace f194 := f194.mono (ro_le hI289)
 replace f195 := f195.mono (ro_le hI289)
 replace f228 := f228.mono (ro_le hI289)
 replace f231 := f231.mono (ro_le hI289)
 replace f234 := f234.mono (ro_le hI289)
 replace f237 := f237.mono (ro_le hI289)
 replace f272 := f272.mono (ro_le hI289)
 replace f273 := f273.mono (ro_le hI289)
 replace hI0 := hI0.trans hI289
 replace hst := hst.pull1.own_close (hq284.imp fun _ _ => Ty.mono _ (ro_le hI289))
 refine wv (.bool (t285.1 == (2:Int))) ((wanted_eq z z z (cvb hc281)).trans z) z z (wv (.bool (t285.1 == (2:Int))) z z (x_pick_t hc281 z z) (wv (.bool (t285.1 == (2:Int))) z z z ?_))
 refine bsplit (t285.1 == (2:Int)) (fun hc290 => ?_) (fun hc290 => ?_)
 {
 replace hm := bif_t hc290 hm
 refine wv (.pointer none) ((wanted_eq z z z (cvb hc290)).trans z) z z (wv (Pt b180 0) ((wanted_eq z z z (cvb hc290)).trans z) z (x_field z underlying34 z sizeOf29 z) (wv (.agg #[U6 (1:Int), U6 (1:Int)]) ((wanted_eq z z z (cvb hc290)).trans z) z (x_loadN (cs := [U6 (1:Int), U6 (1:Int)]) z isAgg29 sizeOf29 (hst.bcs7 0 z)) ?_))
 replace hst := hst.objO_nil at_locks_Table
 obtain ⟨t292, ht293, hm⟩ := bind_some hm
 refine wl_call ((wanted_eq z z z (cvb hc290)).trans z) z (x_call call24 z (vs := [.pointer none, .agg #[U6 (1:Int), U6 (1:Int)]]) z) ?_
 refine (locks_Table_Drop_ref hst.to1 ht293).mono ?_
 rintro _ w294 ⟨rfl, hst⟩
 refine ⟨_, z, ?_⟩
 replace hst := hst.of1
 refine wv (.bool (!t292.1)) ((wanted_eq z z z (cvb hc290)).trans z) z z (wv (.bool (!t292.1)) z z (x_pick_t hc290 z z) (wv (.bool (!t292.1)) z z z ?_))
 refine bsplit (!t292.1) (fun hc297 => ?_) (fun hc297 => ?_)
 {
 replace hm := bif_t hc297 hm
 refine wv (.pointer none) ((wanted_eq z z z (cvb hc297)).trans z) z z ?_
 replace hst := hst.objO_nil at_locks_Table
 obtain ⟨t299, ht300, hm⟩ := bind_some hm
 refine wl_call ((wanted_eq z z z (cvb hc297)).trans z) z (x_call call27 z (vs := [.pointer none]) z) ?_
 refine (locks_Table_Len_ref hst.to1 ht300).mono ?_
 rintro _ w301 ⟨rfl, hst⟩
 refine ⟨_, z, ?_⟩
 replace hst := hst.of1
 refine wv (.pointer none) ((wanted_eq z z z (cvb hc297)).trans z) z z ?_
 replace hst := hst.objO_nil at_locks_Table
 obtain ⟨t305, ht306, hm⟩ := bind_some hm
 refine wl_call ((wanted_eq z z z (cvb hc297)).trans z) z (x_call call13 z (vs := [.pointer none]) z) ?_
 refine (locks_Table_All_ref hst.to1 ht306).mono ?_
 rintro _ w307 ⟨v310, rfl, hst⟩
 refine ⟨_, z, ?_⟩
 replace hst := hst.of2
 refine wv (.int .i64 ((t305).length : Int)) ((wanted_eq z z z (cvb hc297)).trans z) z (x_len z underlying37 hst.sv0) (wv (.int .i64 (i64.wrap (t299 + ((t305).length : Int)))) ((wanted_eq z z z (cvb hc297)).trans z) z z (wv (.bool ((i64.wrap (t299 + ((t305).length : Int))) == (0:Int))) ((wanted_eq z z z (cvb hc297)).trans z) z z (wv (.bool ((i64.wrap (t299 + ((t305).length : Int))) == (0:Int))) z z (x_pick_t hc297 z z) (wv (.bool ((i64.wrap (t299 + ((t305).length : Int))) == (0:Int))) z z z ?_))))
 refine bsplit ((i64.wrap (t299 + ((t305).length : Int))) == (0:Int)) (fun hc312 => ?_) (fun hc312 => ?_)
 {
 replace hm := bif_t hc312 hm
 refine wv (.pointer none) ((wanted_eq z z z (cvb hc312)).trans z) z z (wv (.int .u64 a2) ((wanted_eq z z z (cvb hc312)).trans z) z z ?_)
 replace hst := hst.objO_nil at_locks_Table
 obtain ⟨t314, ht315, hm⟩ := bind_some hm
 refine wl_call ((wanted_eq z z z (cvb hc312)).trans z) z (x_call call28 z (vs := [.pointer none, U6 a2]) z) ?_
 refine (locks_Table_Until_ref hst.to1 ht315).mono ?_
 rintro _ w316 ⟨rfl, hst⟩
 refine ⟨_, z, ?_⟩
 replace hst := hst.of1
 refine wv (.bool (!t314)) ((wanted_eq z z z (cvb hc312)).trans z) z z (wv (.bool (!t314)) z z (x_pick_t hc312 z z) (wv (.bool (!t314)) z z z (wl_nil (tn (wp_ret ?_)))))
 obtain rfl := some_inj hm
 refine post_ret (vs := [.bool (!t314)]) results6 (rvs_cons (rv_tmp z) rvs_nil) ?_
 exact ⟨_, z, hI0, hst.keep0⟩
}
 {
 replace hm := bif_f hc312 hm
 refine wo hc312 z z z z z z (wo hc312 z z z z z z (wo hc312 z z z z z z (wo hc312 z z z z z z (wv (.bool false) z z (x_pick_f hc312 z z) (wv (.bool false) z z z (wl_nil (tn (wp_ret ?_))))))))
 obtain rfl := some_inj hm
 refine post_ret (vs := [.bool false]) results6 (rvs_cons (rv_tmp z) rvs_nil) ?_
 exact ⟨_, z, hI0, hst.keep0⟩
}
}
 {
 replace hm := bif_f hc297 hm
 refine wo hc297 z z z z z z (wo hc297 z z z z z z (wo hc297 z z z z z z (wo hc297 z z z z z z (wo hc297 z z z z z z (wo hc297 z z z z z z (wo hc297 z z z z z z (wv (.bool false) z z (x_pick_f hc297 z z) (wv (.bool false) z z z (wz z z z z z z (wz z z z z z z (wz z z z z z z (wz z z z z z z ?_))))))))))))
 refine wv (.bool false) z z (x_pick_f z z z) (wv (.bool false) z z z (wl_nil (tn (wp_ret ?_))))
 obtain rfl := some_inj hm
 refine post_ret (vs := [.bool false]) results6 (rvs_cons (rv_tmp z) rvs_nil) ?_
 exact ⟨_, z, hI0, hst.keep0⟩
}
}
 {
 replace hm := bif_f hc290 hm
 refine wo hc290 z z z z z z (wo hc290 z z z z z z (wo hc290 z z z z z z (wo hc290 z z z z z z (wo hc290 z z z z z z (wv (.bool false) z z (x_pick_f hc290 z z) (wv (.bool false) z z z (wz z z z z z z (wz z z z z z z (wz z z z z z z (wz z z z z z z (wz z z z z z z (wz z z z z z z ?_))))))))))))
 refine wz z z z z z z (wv (.bool false) z z (x_pick_f z z z) (wv (.bool false) z z z (wz z z z z z z (wz z z z z z z (wz z z z z z z (wz z z z z z z (wv (.bool false) z z (x_pick_f z z z) (wv (.bool false) z z z (wl_nil (tn (wp_ret ?_)))))))))))
 obtain rfl := some_inj hm
 refine post_ret (vs := [.bool false]) results6 (rvs_cons (rv_tmp z) rvs_nil) ?_
 exact ⟨_, z, hI0, hst.keep0⟩
}
}
 {
 replace hm := bif_f hc281 hm
 refine wo hc281 z z z z z z (wo hc281 z z z z z z (wo hc281 z z z z z z (wo hc281 z z z z z z (wv (.bool false) z z (x_pick_f hc281 z z) (wv (.bool false) z z z (wz z z z z z z (wz z z z z z z (wz z z z z z z (wz z z z z z z (wz z z z z z z (wv (.bool false) z z (x_pick_f z z z) (wv (.bool false) z z z ?_))))))))))))
 refine wz z z z z z z (wz z z z z z z (wz z z z z z z (wz z z z z z z (wz z z z z z z (wz z z z z z z (wz z z z z z z (wv (.bool false) z z (x_pick_f z z z) (wv (.bool false) z z z (wz z z z z z z (wz z z z z z z (wz z z z z z z (wz z z z z z z ?_))))))))))))
 refine wv (.bool false) z z (x_pick_f z z z) (wv (.bool false) z z z (wl_nil (tn (wp_ret ?_))))
 obtain rfl := some_inj hm
 refine post_ret (vs := [.bool false]) results6 (rvs_cons (rv_tmp z) rvs_nil) ?_
 exact ⟨_, z, hI0, hst.keep0⟩
}
}
 {
 replace hm := bif_f hc255 hm
 refine wo hc255 z z z z z z (wo hc255 z z z z z z (wo hc255 z z z z z z (wo hc255 z z z z z z (wo hc255 z z z z z z (wo hc255 z z z z z z (wo hc255 z z z z z z (wo hc255 z z z z z z (wo hc255 z z z z z z (wo hc255 z z z z z z (wv (.bool false) z z (x_pick_f hc255 z z) (wv (.bool false) z z z (wz z z z z z z ?_))))))))))))
 refine wz z z z z z z (wz z z z z z z (wz z z z z z z (wv (.bool false) z z (x_pick_f z z z) (wv (.bool false) z z z (wz z z z z z z (wz z z z z z z (wz z z z z z z (wz z z z z z z (wz z z z z z z (wv (.bool false) z z (x_pick_f z z z) (wv (.bool false) z z z (wz z z z z z z ?_))))))))))))
 refine wz z z z z z z (wz z z z z z z (wz z z z z z z (wz z z z z z z (wz z z z z z z (wz z z z z z z (wv (.bool false) z z (x_pick_f z z z) (wv (.bool false) z z z (wz z z z z z z (wz z z z z z z (wz z z z z z z (wz z z z z z z (wv (.bool false) z z (x_pick_f z z z) ?_))))))))))))
 refine wv (.bool false) z z z (wl_nil (tn (wp_ret ?_)))
 obtain rfl := some_inj hm
 refine post_ret (vs := [.bool false]) results6 (rvs_cons (rv_tmp z) rvs_nil) ?_
 exact ⟨_, z, hI0, hst.keep0⟩
}
}
 {
 replace hm := bif_f hc254 hm
 refine wo hc254 z z z z z z (wv (.bool false) z z (x_pick_f hc254 z z) (wv (.bool false) z z z (wz z z z z z z (wz z z z z z z (wz z z z z z z (wz z z z z z z (wz z z z z z z (wz z z z z z z (wz z z z z z z (wz z z z z z z (wz z z z z z z (wz z z z z z z ?_))))))))))))
 refine wv (.bool false) z z (x_pick_f z z z) (wv (.bool false) z z z (wz z z z z z z (wz z z z z z z (wz z z z z z z (wz z z z z z z (wv (.bool false) z z (x_pick_f z z z) (wv (.bool false) z z z (wz z z z z z z (wz z z z z z z (wz z z z z z z (wz z z z z z z (wz z z z z z z ?_))))))))))))
 refine wv (.bool false) z z (x_pick_f z z z) (wv (.bool false) z z z (wz z z z z z z (wz z z z z z z (wz z z z z z z (wz z z z z z z (wz z z z z z z (wz z z z z z z (wz z z z z z z (wv (.bool false) z z (x_pick_f z z z) (wv (.bool false) z z z (wz z z z z z z (wz z z z z z z ?_))))))))))))
 refine wz z z z z z z (wz z z z z z z (wv (.bool false) z z (x_pick_f z z z) (wv (.bool false) z z z (wl_nil (tn (wp_ret ?_))))))
 obtain rfl := some_inj hm
 refine post_ret (vs := [.bool false]) results6 (rvs_cons (rv_tmp z) rvs_nil) ?_
 exact ⟨_, z, hI0, hst.keep0⟩
}
}

end Go.Proofs.Ytbdhhmnncknhhaa
