/- The Go functions refine their models, part 1. -/
import Derived.Test.YtgnkkopjkgdieaaGreatLaneHoldsR0
set_option linter.unusedVariables false
set_option linter.unusedSimpArgs false
set_option maxRecDepth 100000
set_option maxHeartbeats 4000000
namespace Go.Proofs.YtgnkkopjkgdieaaGreat
open Go Go.V
open _root_.Go.Proofs.Tryz IntKind
attribute [local irreducible] wpList Code.wp wpQuiet Calls bodyPost Oper.wp wpS Nx PendOK YieldsIn
theorem locks_Table_Take_ref {w0 w : World} {I : HL} {R : SP} {a0 : (Option locks_Table)} {p0 : Value} {a1 : api_Hold} {r1_0 : Value} {r1_1 : Value} {r1_2 : Value} {r1_3 : Value} (f1_0 : Rd tyF64 R I r1_0 a1.Gets) (f1_1 : Rd tyF2 R I r1_1 a1.Scans) (f1_2 : Rd tyF64 R I r1_2 a1.Puts) (f1_3 : Rd (tyInt .u8) R I r1_3 a1.Data) (hst : St w0 w I [objO at_locks_Table p0 a0] R) {r : (Int × (Option locks_Table))} (hm : locks_Table_Take a0 a1 = some r) :
  Calls prog 58 #[p0, .agg #[U6 a1.ID.Session, U6 a1.ID.Seq, U6 a1.Epoch, r1_0, r1_1, r1_2, r1_3]] w fun e w' => ∃ (I' : HL), e = .returned (.int .i64 r.1) ∧ I.le I' ∧ St w0 w' I' [objO at_locks_Table p0 r.2] R := by {
 rcases a0 with _ | o0
 {
 obtain ⟨rfl, hst'⟩ := objO_none hst
 clear hst
 have hst := hst'
 clear hst'
 dsimp only [locks_Table_Take] at hm
 refine calls_start (args := [.pointer none, .agg #[U6 a1.ID.Session, U6 a1.ID.Seq, U6 a1.Epoch, r1_0, r1_1, r1_2, r1_3]]) func58 z ntmps58 (Nat.le_of_ble_eq_true z) ?_
 have hI0 := HL.le.refl I
 refine wp_seq (wrl ?_)
 obtain ⟨b479, w480, ew481, eb482, hst⟩ := hst.box [U6 a1.ID.Session, U6 a1.ID.Seq, U6 a1.Epoch, r1_0, r1_1, r1_2, r1_3] 46
 refine wl_run (v := Pt b479 0) (w' := w480) z z (x_al (by kernel_rfl) ew481 eb482) ?_
 refine wv (.int .i64 (0:Int)) z z z (wl_nil (tn (wp_seq (wp_seq (wrl (wv (.pointer none) z z z (wv (.bool true) z z (by kernel_rfl) (wl_nil (tn ?_)))))))))
 refine wp_ift z ?_
 refine wp_seq (wrl (wv (.int .i64 (2:Int)) z z z (wl_nil (tn (wp_ret (then_r ?_))))))
 replace hst := hst.objO_nil at_locks_Table
 obtain rfl := some_inj hm
 refine post_ret (vs := [I6 (2:Int)]) results58 (rvs_cons (rv_tmp z) rvs_nil) ?_
 exact ⟨_, z, hI0, hst.keep1⟩
}
 {
 replace hst := objO_get hst
 dsimp only [locks_Table_Take] at hm
 refine calls_start (args := [p0, .agg #[U6 a1.ID.Session, U6 a1.ID.Seq, U6 a1.Epoch, r1_0, r1_1, r1_2, r1_3]]) func58 z ntmps58 (Nat.le_of_ble_eq_true z) ?_
 have hI0 := HL.le.refl I
 refine wp_seq (wrl ?_)
 obtain ⟨b484, w485, ew486, eb487, hst⟩ := hst.box [U6 a1.ID.Session, U6 a1.ID.Seq, U6 a1.Epoch, r1_0, r1_1, r1_2, r1_3] 46
 refine wl_run (v := Pt b484 0) (w' := w485) z z (x_al (by kernel_rfl) ew486 eb487) ?_
 refine wv (.int .i64 (0:Int)) z z z (wl_nil (tn (wp_seq (wp_seq (wrl (wv (p0) z z z ?_))))))
 replace hst := hst.pull1
 obtain ⟨b489, v490, rfl, hst'⟩ := at_locks_Table_open hst
 clear hst
 have hst := hst'
 clear hst'
 refine wv (.bool false) z z (by kernel_rfl) (wl_nil (tn ?_))
 refine wp_iff z ?_
 refine wp_skip (tn ?_)
 obtain ⟨y621, hm, hx622⟩ := joinO_some hm
 refine wp_cut (fun a w => ∃ (σ619 : Nat → Value), (locks_Table_Take_j0 a1 o0) () = some r ∧ a = Fr 74 (upd (upd σ619 0 (Pt b489 0)) 3 (Pt b484 0)) ∧ St w0 w I [at_locks_Table (Pt b489 0) o0, cells b484 [U6 a1.ID.Session, U6 a1.ID.Seq, U6 a1.Epoch, r1_0, r1_1, r1_2, r1_3]] R) ?_ ?_
 {
 refine wp_seq (wrl (wv (Pt b489 0) z z z (wv (Pt b489 0) z z z (wv (Pt b489 0) z z (x_field z underlying203 z sizeOf125 z) (wv (v490) z z (x_load z isAgg125 (hst.bc0 z)) (wv (.int .i64 ((o0.l).length : Int)) z z (x_len z underlying125 hst.sv1) (wv (.int .i64 (0:Int)) z z z (wl_nil (tn (wp_block ?_))))))))))
 obtain ⟨n573, hm⟩ := loopO_some hm
 refine wp_loop_n (fun n a w => ∃ (z571 : Int) (σ572 : Nat → Value), loopN (locks_Table_Take_l1 o0 a1) n z571 = some y621 ∧ a = Fr 74 (upd (upd (upd (upd (upd σ572 0 (Pt b489 0)) 3 (Pt b484 0)) 14 (v490)) 15 (.int .i64 ((o0.l).length : Int))) 16 (.int .i64 z571)) ∧ St w0 w I [cells b489 [v490], ownS ty_api_Hold v490 o0.l, cells b484 [U6 a1.ID.Session, U6 a1.ID.Seq, U6 a1.Epoch, r1_0, r1_1, r1_2, r1_3]] R) n573 ⟨(0:Int), _, hm, (fu 0 (Pt b489 0) z (fu 3 (Pt b484 0) z (fu 14 v490 z (fu 15 (.int .i64 ((o0.l).length : Int)) z (fu 16 (.int .i64 (0:Int)) z z))))), hst⟩ ?_
 rintro n579 _ w574 ⟨z571, σ572, hm, rfl, hst⟩
 obtain ⟨n576, y577, rfl, hm, hx578⟩ := loopN_some hm
 dsimp only [locks_Table_Take_l1] at hm
 refine wp_seq (wrl (wv (.bool (decide (z571 < ((o0.l).length : Int)))) z z z (wl_nil (tn (wp_seq ?_)))))
 refine bsplit (decide (z571 < ((o0.l).length : Int))) (fun hc580 => ?_) (fun hc580 => ?_)
 {
 replace hm := bif_t hc580 hm
 refine wp_ift (cvb hc580) ?_
 refine wp_skip (tn (wp_seq (wp_block (wp_seq (wrl ?_)))))
 obtain ⟨x581, hx582, hm⟩ := bind_some hm
 obtain ⟨h583, h584, hi585⟩ := geto_some hx582
 refine wv (.pointer (some (eAddr v490 (z571.toNat * 7 + 0)))) z z (x_index z z underlying125 sizeOf46 hst.sv1 h583 h584) ?_
 obtain ⟨cs586, hr587, hc588⟩ := hst.og1 hi585
 obtain ⟨v589, v592, v595, v598, rfl, f590, f593, f596, f599, -⟩ := hr587
 refine wv (.agg #[U6 x581.ID.Session, U6 x581.ID.Seq, U6 x581.Epoch, v589, v592, v595, v598]) z z (x_loadN (cs := [U6 x581.ID.Session, U6 x581.ID.Seq, U6 x581.Epoch, v589, v592, v595, v598]) z isAgg46 sizeOf46 (eCells (o := 0) hc588 z)) ?_
 obtain ⟨b605, w606, ew607, eb608, hst⟩ := hst.box [Zu, Zu, Zu, Zs, Zs, Zs, Zs] 46
 refine wl_run (v := Pt b605 0) (w' := w606) z z (x_al (by kernel_rfl) ew607 eb608) ?_
 obtain ⟨w610, hr611, hst⟩ := hst.bx [U6 x581.ID.Session, U6 x581.ID.Seq, U6 x581.Epoch, v589, v592, v595, v598] sizeOf46 z (oC z (oC z (oC z (oC (one_of_sliceV (ro_sliceV f590)) (oC (one_of_sliceV (ro_sliceV f593)) (oC (one_of_sliceV (ro_sliceV f596)) (oC (one_of_sliceV (ro_sliceV f599)) oN))))))) (by kernel_rfl)
 refine wl_unit z z (x_unit hr611) ?_
 refine wl_nil (tn (wp_seq (wrl (wv (Pt b605 0) z z (x_field z underlying46 z sizeOf28 z) (wv (.agg #[U6 x581.ID.Session, U6 x581.ID.Seq]) z z (x_loadN (cs := [U6 x581.ID.Session, U6 x581.ID.Seq]) z isAgg28 sizeOf28 (hst.bcs0 0 z)) (wv (Pt b484 0) z z (x_field z underlying46 z sizeOf28 z) (wv (.agg #[U6 a1.ID.Session, U6 a1.ID.Seq]) z z (x_loadN (cs := [U6 a1.ID.Session, U6 a1.ID.Seq]) z isAgg28 sizeOf28 (hst.bcs3 0 z)) (wv (.bool (!((x581.ID.Session == a1.ID.Session) && (x581.ID.Seq == a1.ID.Seq)))) z z (x_aggne2 z z (by kernel_rfl) underlying28 (by kernel_rfl) (by kernel_rfl) (by kernel_rfl) underlying26 underlying26 (fun _ _ _ => by kernel_rfl) (fun _ _ _ => by kernel_rfl)) (wv (.bool (!((x581.ID.Session == a1.ID.Session) && (x581.ID.Seq == a1.ID.Seq)))) z z z ?_)))))))))
 refine bsplit (!((x581.ID.Session == a1.ID.Session) && (x581.ID.Seq == a1.ID.Seq))) (fun hc612 => ?_) (fun hc612 => ?_)
 {
 replace hm := bif_t hc612 hm
 refine wv (.agg #[U6 x581.ID.Session, U6 x581.ID.Seq, U6 x581.Epoch, v589, v592, v595, v598]) ((wanted_eq z z z (cvb hc612)).trans z) z (x_loadN (cs := [U6 x581.ID.Session, U6 x581.ID.Seq, U6 x581.Epoch, v589, v592, v595, v598]) z isAgg46 sizeOf46 (hst.bcs0 0 z)) (wv (.agg #[U6 a1.ID.Session, U6 a1.ID.Seq, U6 a1.Epoch, r1_0, r1_1, r1_2, r1_3]) ((wanted_eq z z z (cvb hc612)).trans z) z (x_loadN (cs := [U6 a1.ID.Session, U6 a1.ID.Seq, U6 a1.Epoch, r1_0, r1_1, r1_2, r1_3]) z isAgg46 sizeOf46 (hst.bcs3 0 z)) ?_)
 obtain ⟨t613, ht614, hm⟩ := bind_some hm
 refine wl_call ((wanted_eq z z z (cvb hc612)).trans z) z (x_call call140 z (vs := [.agg #[U6 x581.ID.Session, U6 x581.ID.Seq, U6 x581.Epoch, v589, v592, v595, v598], .agg #[U6 a1.ID.Session, U6 a1.ID.Seq, U6 a1.Epoch, r1_0, r1_1, r1_2, r1_3]]) z) ?_
 refine (locks_Meet_ref (f590.mono ro_rd) (f593.mono ro_rd) (f596.mono ro_rd) (f599.mono ro_rd) (f1_0.mono (rd_weak _)) (f1_1.mono (rd_weak _)) (f1_2.mono (rd_weak _)) (f1_3.mono (rd_weak _)) hst.to0 ht614).mono ?_
 rintro _ w615 ⟨rfl, hst⟩
 refine ⟨_, z, ?_⟩
 replace hst := hst.of0
 refine wv (.bool t613) z z (x_pick_t hc612 z z) (wl_nil (tn ?_))
 refine bsplit t613 (fun hc618 => ?_) (fun hc618 => ?_)
 {
 replace hm := bif_t hc618 hm
 refine wp_ift (cvb hc618) ?_
 refine wp_seq (wrl (wv (.int .i64 (8:Int)) z z z (wl_nil (tn (wp_ret (blk_r (then_r (then_r ?_))))))))
 replace hm := inr_up hm hx578
 refine blk_r (then_r ?_)
 replace hm := inr_up hm hx622
 replace hst := hst.pull2.pull2
 replace hst := at_locks_Table_close (pv := Pt b489 0) (x := o0) hst z
 replace hst := objO_some hst
 obtain rfl := some_inj hm
 refine post_ret (vs := [I6 (8:Int)]) results58 (rvs_cons (rv_tmp z) rvs_nil) ?_
 exact ⟨_, z, hI0, hst.keep1⟩
}
 {
 replace hm := bif_f hc618 hm
 refine wp_iff (cvb hc618) ?_
 refine wp_skip (blk_n (tn (wrl ?_)))
 refine wv (.int .i64 (i64.wrap (z571 + (1:Int)))) z z z (wv (.int .i64 (i64.wrap (z571 + (1:Int)))) z z z (wl_nil (tn ?_)))
 replace hst := hst.pull3.pull3.pull3.keep3
 obtain rfl := some_inj hm
 exact ⟨_, Nat.lt_succ_self _, (i64.wrap (z571 + (1:Int))), _, hx578, (fu 0 (Pt b489 0) z (fu 3 (Pt b484 0) z (fu 14 v490 z (fu 15 (.int .i64 ((o0.l).length : Int)) z (fu 16 (.int .i64 (i64.wrap (z571 + (1:Int)))) z z))))), hst⟩
}
}
 {
 replace hm := bif_f hc612 hm
 refine wo hc612 z z z z z z (wo hc612 z z z z z z (wo hc612 z z z z z z (wv (.bool false) z z (x_pick_f hc612 z z) (wl_nil (tn ?_)))))
 refine wp_iff z ?_
 refine wp_skip (blk_n (tn (wrl ?_)))
 refine wv (.int .i64 (i64.wrap (z571 + (1:Int)))) z z z (wv (.int .i64 (i64.wrap (z571 + (1:Int)))) z z z (wl_nil (tn ?_)))
 replace hst := hst.pull3.pull3.pull3.keep3
 obtain rfl := some_inj hm
 exact ⟨_, Nat.lt_succ_self _, (i64.wrap (z571 + (1:Int))), _, hx578, (fu 0 (Pt b489 0) z (fu 3 (Pt b484 0) z (fu 14 v490 z (fu 15 (.int .i64 ((o0.l).length : Int)) z (fu 16 (.int .i64 (i64.wrap (z571 + (1:Int)))) z z))))), hst⟩
}
}
 {
 replace hm := bif_f hc580 hm
 refine wp_iff (cvb hc580) ?_
 refine wp_exit (then_x (then_x ?_))
 replace hm := inr_up hm hx578
 refine blk_x (tn ?_)
 replace hst := hst.pull1.pull1
 replace hst := at_locks_Table_close (pv := Pt b489 0) (x := o0) hst z
 replace hst := hst.pull1.pull1.keep2
 obtain rfl := some_inj hm
 exact ⟨_, hx622, (fu 0 (Pt b489 0) z (fu 3 (Pt b484 0) z z)), hst⟩
}
}
 {
 clear hst
 rintro _ w623 ⟨σ619, hm, rfl, hst⟩
 dsimp only [locks_Table_Take_j0] at hm
 refine wp_seq ?_
 refine wp_region_St hst 18 [0, 1, 2, 3, 4, 5, 6, 7, 8, 9, 10, 11, 12, 13, 14, 15, 16, 17] [0, 1, 0, 4, 0, 16, 48, 0, 128, 496, 0, 1024, 4080, 0, 8192, 32752, 65535, 131071] [] z (by kernel_rfl) (by kernel_rfl) Tryz.mixed (by kernel_rfl) ?_
 refine wsr (Pt b484 0) 0 z z z (by kernel_rfl) (fun w hst => x_field z underlying46 z sizeOf28 z) (wsr (.agg #[U6 a1.ID.Session, U6 a1.ID.Seq]) 1 z z z (by kernel_rfl) (fun w hst => x_loadN (cs := [U6 a1.ID.Session, U6 a1.ID.Seq]) z isAgg28 sizeOf28 (hst.bcs1 0 z)) (wsr (Pt b484 2) 2 z z z (by kernel_rfl) (fun w hst => x_field z underlying46 z sizeOf26 z) (wsr (.int .u64 a1.Epoch) 3 z z z (by kernel_rfl) (fun w hst => x_load z isAgg26 (hst.bc1 z)) (wsr (Pt b484 3) 4 z z z (by kernel_rfl) (fun w hst => x_field z underlying46 z sizeOf43 z) (wsr (r1_0) 5 z z z (by kernel_rfl) (fun w hst => x_load z isAgg43 (hst.bc1 z)) (wsr (Pt b484 4) 7 z z z (by kernel_rfl) (fun w hst => x_field z underlying46 z sizeOf44 z) (wsr (r1_1) 8 z z z (by kernel_rfl) (fun w hst => x_load z isAgg44 (hst.bc1 z)) (wsr (Pt b484 5) 10 z z z (by kernel_rfl) (fun w hst => x_field z underlying46 z sizeOf43 z) (wsr (r1_2) 11 z z z (by kernel_rfl) (fun w hst => x_load z isAgg43 (hst.bc1 z)) (wsr (Pt b484 6) 13 z z z (by kernel_rfl) (fun w hst => x_field z underlying46 z sizeOf22 z) (wsr (r1_3) 14 z z z (by kernel_rfl) (fun w hst => x_load z isAgg22 (hst.bc1 z)) ?_)))))))))))
 refine ws_e1 6 (by kernel_rfl) ?_
 refine nxe [9, 12, 15, 16, 17] (by kernel_rfl) z z ?_
 clear hst
 intro w hst
 obtain ⟨t624, ht625, hm⟩ := bind_some hm
 refine wec call141 [r1_0] z z ?_
 refine (slices_Clone_float64_float64_ref (f1_0.mono (rd_weak _)) hst.to0 ht625).mono ?_
 rintro _ w626 ⟨v629, rfl, hst⟩
 refine ⟨_, z, ?_⟩
 replace hst := hst.of1
 refine ws_next (pend' := [(14, r1_3), (13, Pt b484 6), (11, r1_2), (10, Pt b484 5), (8, r1_1), (7, Pt b484 4), (3, U6 a1.Epoch), (2, Pt b484 2), (1, .agg #[U6 a1.ID.Session, U6 a1.ID.Seq]), (0, Pt b484 0)]) hst (by kernel_rfl) (pkr z z (fun w hst => x_load z isAgg22 (hst.bc2 z)) (pkr z z (fun w hst => x_field z underlying46 z sizeOf22 z) (pkr z z (fun w hst => x_load z isAgg43 (hst.bc2 z)) (pkr z z (fun w hst => x_field z underlying46 z sizeOf43 z) (pkr z z (fun w hst => x_load z isAgg44 (hst.bc2 z)) (pkr z z (fun w hst => x_field z underlying46 z sizeOf44 z) (pkr z z (fun w hst => x_load z isAgg26 (hst.bc2 z)) (pkr z z (fun w hst => x_field z underlying46 z sizeOf26 z) (pkr z z (fun w hst => x_loadN (cs := [U6 a1.ID.Session, U6 a1.ID.Seq]) z isAgg28 sizeOf28 (hst.bcs2 0 z)) (pkr z z (fun w hst => x_field z underlying46 z sizeOf28 z) pk_nil)))))))))) ?_
 refine ws_e1 9 (by kernel_rfl) ?_
 refine nxe [12, 15, 16, 17] (by kernel_rfl) z z ?_
 clear hst
 intro w hst
 obtain ⟨t631, ht632, hm⟩ := bind_some hm
 refine wec call142 [r1_1] z z ?_
 refine (slices_Clone_2_float64_2_float64_ref (f1_1.mono (rd_weak _)) hst.to0 ht632).mono ?_
 rintro _ w633 ⟨v636, rfl, hst⟩
 refine ⟨_, z, ?_⟩
 replace hst := hst.of1
 refine ws_next (pend' := [(14, r1_3), (13, Pt b484 6), (11, r1_2), (10, Pt b484 5), (3, U6 a1.Epoch), (2, Pt b484 2), (1, .agg #[U6 a1.ID.Session, U6 a1.ID.Seq]), (0, Pt b484 0)]) hst (by kernel_rfl) (pkr z z (fun w hst => x_load z isAgg22 (hst.bc3 z)) (pkr z z (fun w hst => x_field z underlying46 z sizeOf22 z) (pkr z z (fun w hst => x_load z isAgg43 (hst.bc3 z)) (pkr z z (fun w hst => x_field z underlying46 z sizeOf43 z) (pkr z z (fun w hst => x_load z isAgg26 (hst.bc3 z)) (pkr z z (fun w hst => x_field z underlying46 z sizeOf26 z) (pkr z z (fun w hst => x_loadN (cs := [U6 a1.ID.Session, U6 a1.ID.Seq]) z isAgg28 sizeOf28 (hst.bcs3 0 z)) (pkr z z (fun w hst => x_field z underlying46 z sizeOf28 z) pk_nil)))))))) ?_
 refine ws_e1 12 (by kernel_rfl) ?_
 refine nxe [15, 16, 17] (by kernel_rfl) z z ?_
 clear hst
 intro w hst
 obtain ⟨t638, ht639, hm⟩ := bind_some hm
 refine wec call141 [r1_2] z z ?_
 refine (slices_Clone_float64_float64_ref (f1_2.mono (rd_weak _)) hst.to0 ht639).mono ?_
 rintro _ w640 ⟨v643, rfl, hst⟩
 refine ⟨_, z, ?_⟩
 replace hst := hst.of1
 refine ws_next (pend' := [(14, r1_3), (13, Pt b484 6), (3, U6 a1.Epoch), (2, Pt b484 2), (1, .agg #[U6 a1.ID.Session, U6 a1.ID.Seq]), (0, Pt b484 0)]) hst (by kernel_rfl) (pkr z z (fun w hst => x_load z isAgg22 (hst.bc4 z)) (pkr z z (fun w hst => x_field z underlying46 z sizeOf22 z) (pkr z z (fun w hst => x_load z isAgg26 (hst.bc4 z)) (pkr z z (fun w hst => x_field z underlying46 z sizeOf26 z) (pkr z z (fun w hst => x_loadN (cs := [U6 a1.ID.Session, U6 a1.ID.Seq]) z isAgg28 sizeOf28 (hst.bcs4 0 z)) (pkr z z (fun w hst => x_field z underlying46 z sizeOf28 z) pk_nil)))))) ?_
 refine ws_e1 15 (by kernel_rfl) ?_
 refine nxe [16, 17] (by kernel_rfl) z z ?_
 clear hst
 intro w hst
 obtain ⟨t645, ht646, hm⟩ := bind_some hm
 refine wec call143 [r1_3] z z ?_
 refine (slices_Clone_byte_byte_ref (f1_3.mono (rd_weak _)) hst.to0 ht646).mono ?_
 rintro _ w647 ⟨v650, rfl, hst⟩
 refine ⟨_, z, ?_⟩
 replace hst := hst.of1
 refine ws_next (pend' := [(3, U6 a1.Epoch), (2, Pt b484 2), (1, .agg #[U6 a1.ID.Session, U6 a1.ID.Seq]), (0, Pt b484 0)]) hst (by kernel_rfl) (pkr z z (fun w hst => x_load z isAgg26 (hst.bc5 z)) (pkr z z (fun w hst => x_field z underlying46 z sizeOf26 z) (pkr z z (fun w hst => x_loadN (cs := [U6 a1.ID.Session, U6 a1.ID.Seq]) z isAgg28 sizeOf28 (hst.bcs5 0 z)) (pkr z z (fun w hst => x_field z underlying46 z sizeOf28 z) pk_nil)))) ?_
 refine wsr (.agg #[U6 a1.ID.Session, U6 a1.ID.Seq, U6 a1.Epoch, v629, v636, v643, v650]) 16 rfl rfl rfl (by kernel_rfl) (fun w hst => by obtain ⟨_, _, hv_, _⟩ := hst.sv0; rw [hv_]; obtain ⟨_, _, hv_, _⟩ := hst.sv1; rw [hv_]; obtain ⟨_, _, hv_, _⟩ := hst.sv2; rw [hv_]; obtain ⟨_, _, hv_, _⟩ := hst.sv3; rw [hv_]; kernel_rfl) ?_
 refine ws_e1 17 (by kernel_rfl) ?_
 refine nxe [] (by kernel_rfl) z z ?_
 clear hst
 intro w hst
 replace hst := hst.pull5
 obtain ⟨w656, hr657, hst⟩ := hst.bx [U6 a1.ID.Session, U6 a1.ID.Seq, U6 a1.Epoch, v629, v636, v643, v650] sizeOf46 z (oC z (oC z (oC z (oC (one_of_sliceV hst.sv4) (oC (one_of_sliceV hst.sv3) (oC (one_of_sliceV hst.sv2) (oC (one_of_sliceV hst.sv1) oN))))))) (by kernel_rfl)
 refine we_unit z (x_unit hr657) ?_
 refine ws_next (pend' := []) hst (by kernel_rfl) pk_nil ?_
 refine ws_nil ?_
 intro w hst
 refine tn (wp_seq (wrl (wv (Pt b489 0) z z z (wv (Pt b484 0) z z (x_field z underlying46 z sizeOf28 z) (wv (.agg #[U6 a1.ID.Session, U6 a1.ID.Seq]) z z (x_loadN (cs := [U6 a1.ID.Session, U6 a1.ID.Seq]) z isAgg28 sizeOf28 (hst.bcs0 0 z)) ?_)))))
 replace hst := hst.pull5
 replace hst := objO_some hst
 obtain ⟨t658, ht659, hm⟩ := bind_some hm
 refine wc call135 [Pt b489 0, .agg #[U6 a1.ID.Session, U6 a1.ID.Seq]] z z z ?_
 refine (locks_Table_find_ref hst.to1 ht659).mono ?_
 rintro _ w660 ⟨rfl, hst⟩
 refine ⟨_, z, ?_⟩
 replace hst := hst.of1
 replace hst := objO_get hst
 refine wv (.tuple #[I6 t658.1, .bool t658.2]) z z z (wv (.int .i64 t658.1) z z z (wv (.bool t658.2) z z z (wv (.int .i64 t658.1) z z z (wv (.bool t658.2) z z z (wl_nil (tn (wp_seq (wp_seq (wrl (wv (.bool t658.2) z z z (wl_nil (tn ?_))))))))))))
 refine bsplit t658.2 (fun hc663 => ?_) (fun hc663 => ?_)
 {
 replace hm := bif_t hc663 hm
 refine wp_ift (cvb hc663) ?_
 obtain ⟨b664, v665, e667, hst'⟩ := at_locks_Table_open hst
 clear hst
 have e667 := ptr_inj e667
 subst e667
 have hst := hst'
 clear hst'
 refine wp_region_St hst 8 [0, 1, 2, 3, 4, 5, 6, 7] [0, 1, 3, 7, 0, 0, 63, 127] [] z (by kernel_rfl) (by kernel_rfl) Tryz.mixed (by kernel_rfl) ?_
 refine wsr (Pt b489 0) 0 z z z (by kernel_rfl) (fun w hst => z) (wsr (Pt b489 0) 1 z z z (by kernel_rfl) (fun w hst => z) (wsr (Pt b489 0) 2 z z z (by kernel_rfl) (fun w hst => x_field z underlying203 z sizeOf125 z) (wsr (v665) 3 z z z (by kernel_rfl) (fun w hst => x_load z isAgg125 (hst.bc0 z)) (wsr (.int .i64 t658.1) 4 z z z (by kernel_rfl) (fun w hst => z) (wsr (.agg #[U6 a1.ID.Session, U6 a1.ID.Seq, U6 a1.Epoch, v629, v636, v643, v650]) 5 z z z (by kernel_rfl) (fun w hst => x_loadN (cs := [U6 a1.ID.Session, U6 a1.ID.Seq, U6 a1.Epoch, v629, v636, v643, v650]) z isAgg46 sizeOf46 (hst.bcs2 0 z)) ?_)))))
 obtain ⟨x668, hx669, hm⟩ := bind_some hm
 obtain ⟨h670, h671, hi672⟩ := geto_some hx669
 refine wsr (.pointer (some (eAddr v665 (t658.1.toNat * 7 + 0)))) 6 z z z (by kernel_rfl) (fun w hst => x_index z z underlying125 sizeOf46 hst.sv1 h670 h671) ?_
 refine ws_e1 7 (by kernel_rfl) ?_
 refine nxe [] (by kernel_rfl) z z ?_
 clear hst
 intro w hst
 obtain ⟨cs673, hr674, hc675⟩ := hst.og1 hi672
 obtain ⟨v676, v679, v682, v685, rfl, f677, f680, f683, f686, -⟩ := hr674
 replace hst := hst.pull6
 obtain ⟨I688, hI689, f690, hst⟩ := hst.own_fix
 replace f1_0 := f1_0.mono (rd_le hI689)
 replace f1_1 := f1_1.mono (rd_le hI689)
 replace f1_2 := f1_2.mono (rd_le hI689)
 replace f1_3 := f1_3.mono (rd_le hI689)
 replace f677 := f677.mono (ro_le hI689)
 replace f680 := f680.mono (ro_le hI689)
 replace f683 := f683.mono (ro_le hI689)
 replace f686 := f686.mono (ro_le hI689)
 replace hI0 := hI0.trans hI689
 replace hst := hst.pull5
 obtain ⟨I691, hI692, f693, hst⟩ := hst.own_fix
 replace f1_0 := f1_0.mono (rd_le hI692)
 replace f1_1 := f1_1.mono (rd_le hI692)
 replace f1_2 := f1_2.mono (rd_le hI692)
 replace f1_3 := f1_3.mono (rd_le hI692)
 replace f677 := f677.mono (ro_le hI692)
 replace f680 := f680.mono (ro_le hI692)
 replace f683 := f683.mono (ro_le hI692)
 replace f686 := f686.mono (ro_le hI692)
 replace f690 := f690.mono (ro_le hI692)
 replace hI0 := hI0.trans hI692
 replace hst := hst.pull4
 obtain ⟨I694, hI695, f696, hst⟩ := hst.own_fix
 replace f1_0 := f1_0.mono (rd_le hI695)
 replace f1_1 := f1_1.mono (rd_le hI695)
 replace f1_2 := f1_2.mono (rd_le hI695)
 replace f1_3 := f1_3.mono (rd_le hI695)
 replace f677 := f677.mono (ro_le hI695)
 replace f680 := f680.mono (ro_le hI695)
 replace f683 := f683.mono (ro_le hI695)
 replace f686 := f686.mono (ro_le hI695)
 replace f690 := f690.mono (ro_le hI695)
 replace f693 := f693.mono (ro_le hI695)
 replace hI0 := hI0.trans hI695
 replace hst := hst.pull3
 obtain ⟨I697, hI698, f699, hst⟩ := hst.own_fix
 replace f1_0 := f1_0.mono (rd_le hI698)
 replace f1_1 := f1_1.mono (rd_le hI698)
 replace f1_2 := f1_2.mono (rd_le hI698)
 replace f1_3 := f1_3.mono (rd_le hI698)
 replace f677 := f677.mono (ro_le hI698)
 replace f680 := f680.mono (ro_le hI698)
 replace f683 := f683.mono (ro_le hI698)
 replace f686 := f686.mono (ro_le hI698)
 replace f690 := f690.mono (ro_le hI698)
 replace f693 := f693.mono (ro_le hI698)
 replace f696 := f696.mono (ro_le hI698)
 replace hI0 := hI0.trans hI698
 replace hst := hst.pull1
 obtain ⟨w700, hr701, hst⟩ := hst.own_store (P := prog) (t := 46) (y := ({ ID := a1.ID, Epoch := a1.Epoch, Gets := t624, Scans := t631, Puts := t638, Data := t645 } : api_Hold)) hi672 0 (.agg #[U6 a1.ID.Session, U6 a1.ID.Seq, U6 a1.Epoch, v629, v636, v643, v650]) sizeOf46 (Nat.le_of_ble_eq_true z) (oC z (oC z (oC z (oC (one_of_sliceV (ro_sliceV f690)) (oC (one_of_sliceV (ro_sliceV f693)) (oC (one_of_sliceV (ro_sliceV f696)) (oC (one_of_sliceV (ro_sliceV f699)) oN))))))) (fun cs h => ⟨_, _, _, _, setMany_all (ty_api_Hold.len h) z, f690, f693, f696, f699, one_of_sliceV (ro_sliceV f690), one_of_sliceV (ro_sliceV f693), one_of_sliceV (ro_sliceV f696), one_of_sliceV (ro_sliceV f699)⟩)
 have hi702 := set_get hi672 ({ ID := a1.ID, Epoch := a1.Epoch, Gets := t624, Scans := t631, Puts := t638, Data := t645 } : api_Hold)
 have h703 := set_lt h671 t658.1.toNat ({ ID := a1.ID, Epoch := a1.Epoch, Gets := t624, Scans := t631, Puts := t638, Data := t645 } : api_Hold)
 refine we_unit z (x_unit hr701) ?_
 refine ws_next (pend' := []) hst (by kernel_rfl) pk_nil ?_
 refine ws_nil ?_
 intro w hst
 refine tn (wp_seq (wrl (wv (.int .i64 (0:Int)) z z z (wl_nil (tn (wp_ret ?_))))))
 replace hst := hst.pull1
 replace hst := at_locks_Table_close (pv := Pt b489 0) (x := ({ l := (o0.l.set t658.1.toNat ({ ID := a1.ID, Epoch := a1.Epoch, Gets := t624, Scans := t631, Puts := t638, Data := t645 } : api_Hold)) } : locks_Table)) hst z
 replace hst := objO_some hst
 obtain rfl := some_inj hm
 refine post_ret (vs := [Zi]) results58 (rvs_cons (rv_tmp z) rvs_nil) ?_
 exact ⟨_, z, hI0, hst.keep1⟩
}
 {
 replace hm := bif_f hc663 hm
 refine wp_iff (cvb hc663) ?_
 obtain ⟨b704, v705, e707, hst'⟩ := at_locks_Table_open hst
 clear hst
 have e707 := ptr_inj e707
 subst e707
 have hst := hst'
 clear hst'
 refine wp_region_St hst 12 [0, 1, 2, 3, 4, 5, 6, 7, 8, 9, 10, 11] [0, 0, 2, 6, 14, 0, 0, 64, 254, 511, 1023, 2047] [] z (by kernel_rfl) (by kernel_rfl) Tryz.mixed (by kernel_rfl) ?_
 refine wsr (Pt b489 0) 0 z z z (by kernel_rfl) (fun w hst => z) (wsr (Pt b489 0) 1 z z z (by kernel_rfl) (fun w hst => z) (wsr (Pt b489 0) 2 z z z (by kernel_rfl) (fun w hst => z) (wsr (Pt b489 0) 3 z z z (by kernel_rfl) (fun w hst => x_field z underlying203 z sizeOf125 z) (wsr (v705) 4 z z z (by kernel_rfl) (fun w hst => x_load z isAgg125 (hst.bc0 z)) (wsr (.int .i64 t658.1) 5 z z z (by kernel_rfl) (fun w hst => z) (wsr (.agg #[U6 a1.ID.Session, U6 a1.ID.Seq, U6 a1.Epoch, v629, v636, v643, v650]) 6 z z z (by kernel_rfl) (fun w hst => x_loadN (cs := [U6 a1.ID.Session, U6 a1.ID.Seq, U6 a1.Epoch, v629, v636, v643, v650]) z isAgg46 sizeOf46 (hst.bcs2 0 z)) ?_))))))
 refine ws_e1 7 (by kernel_rfl) ?_
 refine nxe [8, 9, 10, 11] (by kernel_rfl) z z ?_
 clear hst
 intro w hst
 replace hst := hst.pull6
 obtain ⟨I712, hI713, f714, hst⟩ := hst.own_fix
 replace f1_0 := f1_0.mono (rd_le hI713)
 replace f1_1 := f1_1.mono (rd_le hI713)
 replace f1_2 := f1_2.mono (rd_le hI713)
 replace f1_3 := f1_3.mono (rd_le hI713)
 replace hI0 := hI0.trans hI713
 replace hst := hst.pull5
 obtain ⟨I715, hI716, f717, hst⟩ := hst.own_fix
 replace f1_0 := f1_0.mono (rd_le hI716)
 replace f1_1 := f1_1.mono (rd_le hI716)
 replace f1_2 := f1_2.mono (rd_le hI716)
 replace f1_3 := f1_3.mono (rd_le hI716)
 replace f714 := f714.mono (ro_le hI716)
 replace hI0 := hI0.trans hI716
 replace hst := hst.pull4
 obtain ⟨I718, hI719, f720, hst⟩ := hst.own_fix
 replace f1_0 := f1_0.mono (rd_le hI719)
 replace f1_1 := f1_1.mono (rd_le hI719)
 replace f1_2 := f1_2.mono (rd_le hI719)
 replace f1_3 := f1_3.mono (rd_le hI719)
 replace f714 := f714.mono (ro_le hI719)
 replace f717 := f717.mono (ro_le hI719)
 replace hI0 := hI0.trans hI719
 replace hst := hst.pull3
 obtain ⟨I721, hI722, f723, hst⟩ := hst.own_fix
 replace f1_0 := f1_0.mono (rd_le hI722)
 replace f1_1 := f1_1.mono (rd_le hI722)
 replace f1_2 := f1_2.mono (rd_le hI722)
 replace f1_3 := f1_3.mono (rd_le hI722)
 replace f714 := f714.mono (ro_le hI722)
 replace f717 := f717.mono (ro_le hI722)
 replace f720 := f720.mono (ro_le hI722)
 replace hI0 := hI0.trans hI722
 obtain ⟨b724, w725, ew726, eb727, hst⟩ := hst.lits (E := ty_api_Hold) (xs := [({ ID := a1.ID, Epoch := a1.Epoch, Gets := t624, Scans := t631, Puts := t638, Data := t645 } : api_Hold)]) [[U6 a1.ID.Session, U6 a1.ID.Seq, U6 a1.Epoch, v629, v636, v643, v650]] 46 1 z (Reps.cons ⟨_, _, _, _, z, f714, f717, f720, f723, one_of_sliceV (ro_sliceV f714), one_of_sliceV (ro_sliceV f717), one_of_sliceV (ro_sliceV f720), one_of_sliceV (ro_sliceV f723)⟩ Reps.nil)
 refine we_run (v := (.slice (some ⟨b724, 0, none⟩) 1 1)) (w' := w725) z (x_als (by kernel_rfl) ew726 eb727) ?_
 refine ws_next (pend' := [(5, I6 t658.1), (4, v705), (3, Pt b489 0), (2, Pt b489 0), (1, Pt b489 0), (0, Pt b489 0)]) hst (by kernel_rfl) (pkr z z (fun w hst => z) (pkr z z (fun w hst => x_load z isAgg125 (hst.bc1 z)) (pkr z z (fun w hst => x_field z underlying203 z sizeOf125 z) (pkr z z (fun w hst => z) (pkr z z (fun w hst => z) (pkr z z (fun w hst => z) pk_nil)))))) ?_
 refine ws_e1 8 (by kernel_rfl) ?_
 refine nxe [9, 10, 11] (by kernel_rfl) z z ?_
 clear hst
 intro w hst
 replace hst := hst.pull2
 obtain ⟨t729, ht730, hm⟩ := bind_some hm
 refine wec call144 [v705, I6 t658.1, (.slice (some ⟨b724, 0, none⟩) 1 1)] z z ?_
 refine (slices_Insert_api_Hold_api_Hold_ref hst.to2 ht730).mono ?_
 rintro _ w731 ⟨v734, rfl, hst⟩
 refine ⟨_, z, ?_⟩
 replace hst := hst.of1
 refine ws_next (pend' := [(0, Pt b489 0)]) hst (by kernel_rfl) (pkr z z (fun w hst => z) pk_nil) ?_
 refine wsr (Pt b489 0) 9 z z z (by kernel_rfl) (fun w hst => z) (wsr (Pt b489 0) 10 z z z (by kernel_rfl) (fun w hst => x_field z underlying203 z sizeOf125 z) ?_)
 refine ws_e1 11 (by kernel_rfl) ?_
 refine nxe [] (by kernel_rfl) z z ?_
 clear hst
 intro w hst
 replace hst := hst.pull1
 obtain ⟨w736, hr737, hst⟩ := hst.boxStore1 (P := prog) (t := 125) (cs' := [v734]) 0 v734 (one_of_sliceV hst.sv1) sizeOf125 z z
 refine we_unit z (x_unit hr737) ?_
 refine ws_next (pend' := []) hst (by kernel_rfl) pk_nil ?_
 refine ws_nil ?_
 intro w hst
 refine tn (wp_seq (wrl (wv (.int .i64 (0:Int)) z z z (wl_nil (tn (wp_ret ?_))))))
 replace hst := hst.pull1.pull1
 replace hst := at_locks_Table_close (pv := Pt b489 0) (x := ({ l := t729 } : locks_Table)) hst z
 replace hst := objO_some hst
 obtain rfl := some_inj hm
 refine post_ret (vs := [Zi]) results58 (rvs_cons (rv_tmp z) rvs_nil) ?_
 exact ⟨_, z, hI0, hst.keep1⟩
}
}
}
}

theorem lane_State_Hold_ref {w0 w : World} {I : HL} {R : SP} {a0 : (Option lane_State)} {p0 : Value} {a1 : api_Hold} {r1_0 : Value} {r1_1 : Value} {r1_2 : Value} {r1_3 : Value} (f1_0 : Rd tyF64 R I r1_0 a1.Gets) (f1_1 : Rd tyF2 R I r1_1 a1.Scans) (f1_2 : Rd tyF64 R I r1_2 a1.Puts) (f1_3 : Rd (tyInt .u8) R I r1_3 a1.Data) (hst : St w0 w I [objO at_lane_State p0 a0] R) {r : (Int × (Option lane_State))} (hm : lane_State_Hold a0 a1 = some r) :
  Calls prog 19 #[p0, .agg #[U6 a1.ID.Session, U6 a1.ID.Seq, U6 a1.Epoch, r1_0, r1_1, r1_2, r1_3]] w fun e w' => ∃ (I' : HL), e = .returned (.int .i64 r.1) ∧ I.le I' ∧ St w0 w' I' [objO at_lane_State p0 r.2] R := by {
 rcases a0 with _ | o0
 {
 obtain ⟨rfl, hst'⟩ := objO_none hst
 clear hst
 have hst := hst'
 clear hst'
 dsimp only [lane_State_Hold] at hm
 refine calls_start (args := [.pointer none, .agg #[U6 a1.ID.Session, U6 a1.ID.Seq, U6 a1.Epoch, r1_0, r1_1, r1_2, r1_3]]) func19 z ntmps19 (Nat.le_of_ble_eq_true z) ?_
 have hI0 := HL.le.refl I
 refine wp_seq (wrl ?_)
 obtain ⟨b236, w237, ew238, eb239, hst⟩ := hst.box [U6 a1.ID.Session, U6 a1.ID.Seq, U6 a1.Epoch, r1_0, r1_1, r1_2, r1_3] 46
 refine wl_run (v := Pt b236 0) (w' := w237) z z (x_al (by kernel_rfl) ew238 eb239) ?_
 refine wv (.int .i64 (0:Int)) z z z (wl_nil (tn (wp_seq (wp_seq (wrl (wv (.pointer none) z z z (wv (.bool true) z z (by kernel_rfl) (wl_nil (tn ?_)))))))))
 refine wp_ift z ?_
 refine wp_seq (wrl (wv (.int .i64 (2:Int)) z z z (wl_nil (tn (wp_ret (then_r ?_))))))
 replace hst := hst.objO_nil at_lane_State
 obtain rfl := some_inj hm
 refine post_ret (vs := [I6 (2:Int)]) results19 (rvs_cons (rv_tmp z) rvs_nil) ?_
 exact ⟨_, z, hI0, hst.keep1⟩
}
 {
 replace hst := objO_get hst
 dsimp only [lane_State_Hold] at hm
 refine calls_start (args := [p0, .agg #[U6 a1.ID.Session, U6 a1.ID.Seq, U6 a1.Epoch, r1_0, r1_1, r1_2, r1_3]]) func19 z ntmps19 (Nat.le_of_ble_eq_true z) ?_
 have hI0 := HL.le.refl I
 refine wp_seq (wrl ?_)
 obtain ⟨b241, w242, ew243, eb244, hst⟩ := hst.box [U6 a1.ID.Session, U6 a1.ID.Seq, U6 a1.Epoch, r1_0, r1_1, r1_2, r1_3] 46
 refine wl_run (v := Pt b241 0) (w' := w242) z z (x_al (by kernel_rfl) ew243 eb244) ?_
 refine wv (.int .i64 (0:Int)) z z z (wl_nil (tn (wp_seq (wp_seq (wrl (wv (p0) z z z ?_))))))
 replace hst := hst.pull1
 obtain ⟨b246, v247, v249, v251, v253, v255, v257, v259, rfl, hst'⟩ := at_lane_State_open hst
 clear hst
 have hst := hst'
 clear hst'
 refine wv (.bool false) z z (by kernel_rfl) (wl_nil (tn ?_))
 refine wp_iff z ?_
 refine wp_skip (tn (wp_seq ?_))
 obtain ⟨y342, hm, hx343⟩ := bind_some hm
 refine wp_mid (fun a w => ∃ (I339 : HL) (z319 : Int) (z320 : Int) (z321 : Int) (z324 : (List Nat)) (z328 : (List (Nat × Nat))) (z332 : (List Nat)) (z336 : (List Int)) (z338 : Bool) (b318 : Nat) (v323 : Value) (v327 : Value) (v331 : Value) (v335 : Value) (σ340 : Nat → Value), (lane_State_Hold_j0 a1 o0) (z319, z320, z321, z324, z328, z332, z336, z338) = some r ∧ a = Fr 59 (upd (upd (upd (upd σ340 0 (Pt b246 0)) 3 (Pt b241 0)) 5 (Pt b318 0)) 6 (.bool z338)) ∧ I.le I339 ∧ Ro tyF64 I339 v323 z324 ∧ Ro tyF2 I339 v327 z328 ∧ Ro tyF64 I339 v331 z332 ∧ Ro (tyInt .u8) I339 v335 z336 ∧ St w0 w I339 [at_lane_State (Pt b246 0) o0, cells b241 [U6 a1.ID.Session, U6 a1.ID.Seq, U6 a1.Epoch, r1_0, r1_1, r1_2, r1_3], cells b318 [U6 z319, U6 z320, U6 z321, v323, v327, v331, v335]] R) ?_ ?_
 {
 have hL344 := HL.le.refl I
 refine wp_region_St hst 13 [0, 1, 2, 3, 4, 5, 6, 7, 8, 9, 10, 11, 12] [0, 1, 3, 7, 0, 16, 63, 127, 255, 255, 0, 1535, 4095] [] z (by kernel_rfl) (by kernel_rfl) Tryz.mixed (by kernel_rfl) ?_
 refine wsr (Pt b246 0) 0 z z z (by kernel_rfl) (fun w hst => z) (wsr (Pt b246 0) 1 z z z (by kernel_rfl) (fun w hst => z) (wsr (Pt b246 3) 2 z z z (by kernel_rfl) (fun w hst => x_field z underlying111 z sizeOf103 z) (wsr (v249) 3 z z z (by kernel_rfl) (fun w hst => x_load z isAgg103 (hst.bc0 z)) (wsr (Pt b241 0) 4 z z z (by kernel_rfl) (fun w hst => x_field z underlying46 z sizeOf28 z) (wsr (.agg #[U6 a1.ID.Session, U6 a1.ID.Seq]) 5 z z z (by kernel_rfl) (fun w hst => x_loadN (cs := [U6 a1.ID.Session, U6 a1.ID.Seq]) z isAgg28 sizeOf28 (hst.bcs8 0 z)) ?_)))))
 refine ws_e2 6 10 (by kernel_rfl) ?_ ?_
 {
 refine nxe [7, 8, 9, 10, 11, 12] (by kernel_rfl) z z ?_
 clear hst
 intro w hst
 replace hst := hst.pull2
 obtain ⟨t261, ht262, hm⟩ := bind_some hm
 refine wec call56 [v249, .agg #[U6 a1.ID.Session, U6 a1.ID.Seq]] z z ?_
 refine (locks_Table_Get_ref hst.to1 ht262).mono ?_
 rintro _ w263 ⟨I264, v266, v269, v272, v275, rfl, hI265, f268, f271, f274, f277, hst⟩
 refine ⟨_, z, ?_⟩
 replace hst := hst.of1
 replace f1_0 := f1_0.mono (rd_le hI265)
 replace f1_1 := f1_1.mono (rd_le hI265)
 replace f1_2 := f1_2.mono (rd_le hI265)
 replace f1_3 := f1_3.mono (rd_le hI265)
 replace hI0 := hI0.trans hI265
 replace hL344 := hL344.trans hI265
 refine ws_next (pend' := []) hst (by kernel_rfl) pk_nil ?_
 refine wsr (.tuple #[.agg #[U6 t261.1.ID.Session, U6 t261.1.ID.Seq, U6 t261.1.Epoch, v266, v269, v272, v275], .bool t261.2]) 7 z z z (by kernel_rfl) (fun w hst => z) (wsr (.agg #[U6 t261.1.ID.Session, U6 t261.1.ID.Seq, U6 t261.1.Epoch, v266, v269, v272, v275]) 8 z z z (by kernel_rfl) (fun w hst => z) (wsr (.bool t261.2) 9 z z z (by kernel_rfl) (fun w hst => z) ?_))
 refine ws_e1 10 (by kernel_rfl) ?_
 refine nxe [11, 12] (by kernel_rfl) z z ?_
 clear hst
 intro w hst
 obtain ⟨b282, w283, ew284, eb285, hst⟩ := hst.box [Zu, Zu, Zu, Zs, Zs, Zs, Zs] 46
 refine we_run (v := Pt b282 0) (w' := w283) z (x_al (by kernel_rfl) ew284 eb285) ?_
 refine ws_next (pend' := [(9, .bool t261.2), (8, .agg #[U6 t261.1.ID.Session, U6 t261.1.ID.Seq, U6 t261.1.Epoch, v266, v269, v272, v275]), (7, .tuple #[.agg #[U6 t261.1.ID.Session, U6 t261.1.ID.Seq, U6 t261.1.Epoch, v266, v269, v272, v275], .bool t261.2])]) hst (by kernel_rfl) (pkr z z (fun w hst => z) (pkr z z (fun w hst => z) (pkr z z (fun w hst => z) pk_nil))) ?_
 refine ws_e1 11 (by kernel_rfl) ?_
 refine nxe [12] (by kernel_rfl) z z ?_
 clear hst
 intro w hst
 obtain ⟨w287, hr288, hst⟩ := hst.bx [U6 t261.1.ID.Session, U6 t261.1.ID.Seq, U6 t261.1.Epoch, v266, v269, v272, v275] sizeOf46 z (oC z (oC z (oC z (oC (one_of_sliceV (ro_sliceV f268)) (oC (one_of_sliceV (ro_sliceV f271)) (oC (one_of_sliceV (ro_sliceV f274)) (oC (one_of_sliceV (ro_sliceV f277)) oN))))))) (by kernel_rfl)
 refine we_unit z (x_unit hr288) ?_
 refine ws_next (pend' := [(9, .bool t261.2)]) hst (by kernel_rfl) (pkr z z (fun w hst => z) pk_nil) ?_
 refine wsr (.bool t261.2) 12 z z z (by kernel_rfl) (fun w hst => z) ?_
 refine ws_nil ?_
 intro w hst
 refine ⟨z, ?_⟩
 replace hst := hst.pull8.pull8.pull8.pull8.pull8.pull6.pull8.pull8
 replace hst := at_lane_State_close (pv := Pt b246 0) (x := o0) hst z
 replace hst := hst.pull1.pull2.pull2.keep3
 obtain rfl := some_inj hm
 exact ⟨_, t261.1.ID.Session, t261.1.ID.Seq, t261.1.Epoch, t261.1.Gets, t261.1.Scans, t261.1.Puts, t261.1.Data, t261.2, b282, v266, v269, v272, v275, _, hx343, (fu 0 (Pt b246 0) z (fu 3 (Pt b241 0) z (fu 5 (Pt b282 0) z (fu 6 (.bool t261.2) z z)))), hL344, f268, f271, f274, f277, hst⟩
}
 {
 refine nxe [6, 7, 8, 9, 11, 12] (by kernel_rfl) z z ?_
 clear hst
 intro w hst
 obtain ⟨b293, w294, ew295, eb296, hst⟩ := hst.box [Zu, Zu, Zu, Zs, Zs, Zs, Zs] 46
 refine we_run (v := Pt b293 0) (w' := w294) z (x_al (by kernel_rfl) ew295 eb296) ?_
 refine ws_next (pend' := [(5, .agg #[U6 a1.ID.Session, U6 a1.ID.Seq]), (4, Pt b241 0), (3, v249), (2, Pt b246 3), (1, Pt b246 0), (0, Pt b246 0)]) hst (by kernel_rfl) (pkr z z (fun w hst => x_loadN (cs := [U6 a1.ID.Session, U6 a1.ID.Seq]) z isAgg28 sizeOf28 (hst.bcs9 0 z)) (pkr z z (fun w hst => x_field z underlying46 z sizeOf28 z) (pkr z z (fun w hst => x_load z isAgg103 (hst.bc1 z)) (pkr z z (fun w hst => x_field z underlying111 z sizeOf103 z) (pkr z z (fun w hst => z) (pkr z z (fun w hst => z) pk_nil)))))) ?_
 refine ws_e1 6 (by kernel_rfl) ?_
 refine nxe [7, 8, 9, 11, 12] (by kernel_rfl) z z ?_
 clear hst
 intro w hst
 replace hst := hst.pull3
 obtain ⟨t298, ht299, hm⟩ := bind_some hm
 refine wec call56 [v249, .agg #[U6 a1.ID.Session, U6 a1.ID.Seq]] z z ?_
 refine (locks_Table_Get_ref hst.to1 ht299).mono ?_
 rintro _ w300 ⟨I301, v303, v306, v309, v312, rfl, hI302, f305, f308, f311, f314, hst⟩
 refine ⟨_, z, ?_⟩
 replace hst := hst.of1
 replace f1_0 := f1_0.mono (rd_le hI302)
 replace f1_1 := f1_1.mono (rd_le hI302)
 replace f1_2 := f1_2.mono (rd_le hI302)
 replace f1_3 := f1_3.mono (rd_le hI302)
 replace hI0 := hI0.trans hI302
 replace hL344 := hL344.trans hI302
 refine ws_next (pend' := []) hst (by kernel_rfl) pk_nil ?_
 refine wsr (.tuple #[.agg #[U6 t298.1.ID.Session, U6 t298.1.ID.Seq, U6 t298.1.Epoch, v303, v306, v309, v312], .bool t298.2]) 7 z z z (by kernel_rfl) (fun w hst => z) (wsr (.agg #[U6 t298.1.ID.Session, U6 t298.1.ID.Seq, U6 t298.1.Epoch, v303, v306, v309, v312]) 8 z z z (by kernel_rfl) (fun w hst => z) (wsr (.bool t298.2) 9 z z z (by kernel_rfl) (fun w hst => z) ?_))
 refine ws_e1 11 (by kernel_rfl) ?_
 refine nxe [12] (by kernel_rfl) z z ?_
 clear hst
 intro w hst
 replace hst := hst.pull1
 obtain ⟨w315, hr316, hst⟩ := hst.bx [U6 t298.1.ID.Session, U6 t298.1.ID.Seq, U6 t298.1.Epoch, v303, v306, v309, v312] sizeOf46 z (oC z (oC z (oC z (oC (one_of_sliceV (ro_sliceV f305)) (oC (one_of_sliceV (ro_sliceV f308)) (oC (one_of_sliceV (ro_sliceV f311)) (oC (one_of_sliceV (ro_sliceV f314)) oN))))))) (by kernel_rfl)
 refine we_unit z (x_unit hr316) ?_
 refine ws_next (pend' := [(9, .bool t298.2)]) hst (by kernel_rfl) (pkr z z (fun w hst => z) pk_nil) ?_
 refine wsr (.bool t298.2) 12 z z z (by kernel_rfl) (fun w hst => z) ?_
 refine ws_nil ?_
 intro w hst
 refine ⟨z, ?_⟩
 replace hst := hst.pull8.pull8.pull8.pull8.pull8.pull6.pull8.pull8
 replace hst := at_lane_State_close (pv := Pt b246 0) (x := o0) hst z
 replace hst := hst.pull1.pull2.pull2.keep3
 obtain rfl := some_inj hm
 exact ⟨_, t298.1.ID.Session, t298.1.ID.Seq, t298.1.Epoch, t298.1.Gets, t298.1.Scans, t298.1.Puts, t298.1.Data, t298.2, b293, v303, v306, v309, v312, _, hx343, (fu 0 (Pt b246 0) z (fu 3 (Pt b241 0) z (fu 5 (Pt b293 0) z (fu 6 (.bool t298.2) z z)))), hL344, f305, f308, f311, f314, hst⟩
}
}
 {
 clear hst
 rintro _ w345 ⟨I339, z319, z320, z321, z324, z328, z332, z336, z338, b318, v323, v327, v331, v335, σ340, hm, rfl, hL341, f325, f329, f333, f337, hst⟩
 dsimp only [lane_State_Hold_j0] at hm
 replace f1_0 := f1_0.mono (rd_le hL341)
 replace f1_1 := f1_1.mono (rd_le hL341)
 replace f1_2 := f1_2.mono (rd_le hL341)
 replace f1_3 := f1_3.mono (rd_le hL341)
 replace hI0 := hI0.trans hL341
 refine tn ?_
 obtain ⟨y390, hm, hx391⟩ := joinO_some hm
 refine wp_cut (fun a w => ∃ (σ388 : Nat → Value), (lane_State_Hold_j1 o0 a1) () = some r ∧ a = Fr 59 (upd (upd σ388 0 (Pt b246 0)) 3 (Pt b241 0)) ∧ St w0 w I339 [at_lane_State (Pt b246 0) o0, cells b241 [U6 a1.ID.Session, U6 a1.ID.Seq, U6 a1.Epoch, r1_0, r1_1, r1_2, r1_3]] R) ?_ ?_
 {
 refine wp_block (wp_seq (wrl (wv (.bool z338) z z z (wv (.bool z338) z z z ?_))))
 refine bsplit z338 (fun hc346 => ?_) (fun hc346 => ?_)
 {
 replace hm := bif_t hc346 hm
 refine wv (.agg #[U6 z319, U6 z320, U6 z321, v323, v327, v331, v335]) ((wanted_eq z z z (cvb hc346)).trans z) z (x_loadN (cs := [U6 z319, U6 z320, U6 z321, v323, v327, v331, v335]) z isAgg46 sizeOf46 (hst.bcs2 0 z)) (wv (.agg #[U6 a1.ID.Session, U6 a1.ID.Seq, U6 a1.Epoch, r1_0, r1_1, r1_2, r1_3]) ((wanted_eq z z z (cvb hc346)).trans z) z (x_loadN (cs := [U6 a1.ID.Session, U6 a1.ID.Seq, U6 a1.Epoch, r1_0, r1_1, r1_2, r1_3]) z isAgg46 sizeOf46 (hst.bcs1 0 z)) ?_)
 obtain ⟨t347, ht348, hm⟩ := bind_some hm
 refine wl_call ((wanted_eq z z z (cvb hc346)).trans z) z (x_call call57 z (vs := [.agg #[U6 z319, U6 z320, U6 z321, v323, v327, v331, v335], .agg #[U6 a1.ID.Session, U6 a1.ID.Seq, U6 a1.Epoch, r1_0, r1_1, r1_2, r1_3]]) z) ?_
 refine (locks_Same_ref (a0 := ({ ID := ({ Session := z319, Seq := z320 } : api_ID), Epoch := z321, Gets := z324, Scans := z328, Puts := z332, Data := z336 } : api_Hold)) (f325.mono ro_rd) (f329.mono ro_rd) (f333.mono ro_rd) (f337.mono ro_rd) (f1_0.mono (rd_weak _)) (f1_1.mono (rd_weak _)) (f1_2.mono (rd_weak _)) (f1_3.mono (rd_weak _)) hst.to0 ht348).mono ?_
 rintro _ w349 ⟨rfl, hst⟩
 refine ⟨_, z, ?_⟩
 replace hst := hst.of0
 refine wv (.bool t347) z z (x_pick_t hc346 z z) (wv (.bool t347) z z z (wl_nil (tn ?_)))
 refine bsplit t347 (fun hc352 => ?_) (fun hc352 => ?_)
 {
 replace hm := bif_t hc352 hm
 refine wp_ift (cvb hc352) ?_
 refine wp_seq (wrl (wv (.int .i64 (0:Int)) z z z (wl_nil (tn (wp_ret (blk_r (then_r ?_)))))))
 replace hm := inr_up hm hx391
 replace hst := objO_some hst
 obtain rfl := some_inj hm
 refine post_ret (vs := [Zi]) results19 (rvs_cons (rv_tmp z) rvs_nil) ?_
 exact ⟨_, z, hI0, hst.keep1⟩
}
 {
 replace hm := bif_f hc352 hm
 refine wp_iff (cvb hc352) ?_
 refine wp_seq (wrl (wv (.bool z338) z z z (wv (.bool z338) z z z (wv (Pt b241 0) ((wanted_eq z z z (cvb hc346)).trans z) z (x_field z underlying46 z sizeOf28 z) (wv (Pt b241 0) ((wanted_eq z z z (cvb hc346)).trans z) z (x_field z underlying28 z sizeOf26 z) (wv (.int .u64 a1.ID.Session) ((wanted_eq z z z (cvb hc346)).trans z) z (x_load z isAgg26 (hst.bc1 z)) (wv (.bool (decide (a1.ID.Session < (9223372036854775808:Int)))) ((wanted_eq z z z (cvb hc346)).trans z) z z (wv (.bool (decide (a1.ID.Session < (9223372036854775808:Int)))) ((wanted_eq z z z (cvb hc346)).trans z) z z ?_))))))))
 refine bsplit (decide (a1.ID.Session < (9223372036854775808:Int))) (fun hc353 => ?_) (fun hc353 => ?_)
 {
 replace hm := bif_t hc353 hm
 refine wo hc353 z z z z z z (wo hc353 z z z z z z (wo hc353 z z z z z z (wo hc353 z z z z z z (wo hc353 z z z z z z (wv (.bool true) ((wanted_eq z z z (cvb hc346)).trans z) z (x_pick_t hc353 z z) (wv (.bool true) z z (x_pick_t hc346 z z) (wv (.bool true) z z z (wl_nil (tn ?_)))))))))
 refine wp_ift z ?_
 refine wp_seq (wrl (wv (.int .i64 (8:Int)) z z z (wl_nil (tn (wp_ret (blk_r (then_r ?_)))))))
 replace hm := inr_up hm hx391
 replace hst := objO_some hst
 obtain rfl := some_inj hm
 refine post_ret (vs := [I6 (8:Int)]) results19 (rvs_cons (rv_tmp z) rvs_nil) ?_
 exact ⟨_, z, hI0, hst.keep1⟩
}
 {
 replace hm := bif_f hc353 hm
 refine wv (Pt b241 2) ((wanted_eq z z z (cvb hc353)).trans z) z (x_field z underlying46 z sizeOf26 z) (wv (.int .u64 a1.Epoch) ((wanted_eq z z z (cvb hc353)).trans z) z (x_load z isAgg26 (hst.bc1 z)) (wv (Pt b318 2) ((wanted_eq z z z (cvb hc353)).trans z) z (x_field z underlying46 z sizeOf26 z) (wv (.int .u64 z321) ((wanted_eq z z z (cvb hc353)).trans z) z (x_load z isAgg26 (hst.bc2 z)) (wv (.bool (decide (a1.Epoch ≤ z321))) ((wanted_eq z z z (cvb hc353)).trans z) z z (wv (.bool (decide (a1.Epoch ≤ z321))) ((wanted_eq z z z (cvb hc346)).trans z) z (x_pick_f hc353 z z) (wv (.bool (decide (a1.Epoch ≤ z321))) z z (x_pick_t hc346 z z) (wv (.bool (decide (a1.Epoch ≤ z321))) z z z (wl_nil (tn ?_)))))))))
 refine bsplit (decide (a1.Epoch ≤ z321)) (fun hc354 => ?_) (fun hc354 => ?_)
 {
 replace hm := bif_t hc354 hm
 refine wp_ift (cvb hc354) ?_
 refine wp_seq (wrl (wv (.int .i64 (8:Int)) z z z (wl_nil (tn (wp_ret (blk_r (then_r ?_)))))))
 replace hm := inr_up hm hx391
 replace hst := objO_some hst
 obtain rfl := some_inj hm
 refine post_ret (vs := [I6 (8:Int)]) results19 (rvs_cons (rv_tmp z) rvs_nil) ?_
 exact ⟨_, z, hI0, hst.keep1⟩
}
 {
 replace hm := bif_f hc354 hm
 refine wp_iff (cvb hc354) ?_
 refine wp_seq ?_
 obtain ⟨b355, v356, v358, v360, v362, v364, v366, v368, e370, hst'⟩ := at_lane_State_open hst
 clear hst
 have e370 := ptr_inj e370
 subst e370
 have hst := hst'
 clear hst'
 refine wq_regionS hst Tryz.mixed (by kernel_rfl) ?_
 refine wq_run (v := .bool z338) z z (fun w hst => z) ?_
 refine wq_run (v := .bool (!z338)) z z (fun w hst => z) ?_
 refine wq_run (v := .bool (!z338)) z z (fun w hst => z) ?_
 refine wq_off ((wanted_eq z z z (cvb (not_f hc346))).trans z) z ?_
 refine wq_off ((wanted_eq z z z (cvb (not_f hc346))).trans z) z ?_
 refine wq_off ((wanted_eq z z z (cvb (not_f hc346))).trans z) z ?_
 refine wq_off ((wanted_eq z z z (cvb (not_f hc346))).trans z) z ?_
 refine wq_off ((wanted_eq z z z (cvb (not_f hc346))).trans z) z ?_
 refine wq_off ((wanted_eq z z z (cvb (not_f hc346))).trans z) z ?_
 refine wq_off ((wanted_eq z z z (cvb (not_f hc346))).trans z) z ?_
 refine wq_run (v := .bool false) z z (fun w hst => x_pick_f (not_f hc346) z z) ?_
 refine wq_run (v := .bool false) z z (fun w hst => z) ?_
 refine wq_nil ?_
 intro w hst
 refine tn ?_
 refine wp_iff z ?_
 refine wp_skip (blk_n (tn ?_))
 replace hst := hst.pull7.pull7.pull7.pull7.pull7.pull7.pull7.pull7
 replace hst := at_lane_State_close (pv := Pt b246 0) (x := o0) hst z
 replace hst := hst.pull1.pull1.keep2
 obtain rfl := some_inj hm
 exact ⟨_, hx391, (fu 0 (Pt b246 0) z (fu 3 (Pt b241 0) z z)), hst⟩
}
}
}
}
 {
 replace hm := bif_f hc346 hm
 refine wo hc346 z z z z z z (wo hc346 z z z z z z (wo hc346 z z z z z z (wv (.bool false) z z (x_pick_f hc346 z z) (wv (.bool false) z z z (wl_nil (tn ?_))))))
 refine wp_iff z ?_
 refine wp_seq (wrl (wv (.bool z338) z z z (wv (.bool z338) z z z (wo hc346 z z z z z z (wo hc346 z z z z z z (wo hc346 z z z z z z (wo hc346 z z z z z z (wo hc346 z z z z z z (wl_off (wanted_undef z z z z) z (wl_off (wanted_undef z z z z) z (wl_off (wanted_undef z z z z) z (wl_off (wanted_undef z z z z) z (wl_off (wanted_undef z z z z) z ?_)))))))))))))
 refine wo hc346 z z z z z z (wv (.bool false) z z (x_pick_f hc346 z z) (wv (.bool false) z z z (wl_nil (tn ?_))))
 refine wp_iff z ?_
 refine wp_seq ?_
 obtain ⟨b371, v372, v374, v376, v378, v380, v382, v384, e386, hst'⟩ := at_lane_State_open hst
 clear hst
 have e386 := ptr_inj e386
 subst e386
 have hst := hst'
 clear hst'
 refine wq_regionS hst Tryz.mixed (by kernel_rfl) ?_
 refine wq_run (v := .bool z338) z z (fun w hst => z) ?_
 refine wq_run (v := .bool (!z338)) z z (fun w hst => z) ?_
 refine wq_run (v := .bool (!z338)) z z (fun w hst => z) ?_
 refine wq_run (v := Pt b241 2) ((wanted_eq z z z (cvb (not_tt hc346))).trans z) z (fun w hst => x_field z underlying46 z sizeOf26 z) ?_
 refine wq_run (v := .int .u64 a1.Epoch) ((wanted_eq z z z (cvb (not_tt hc346))).trans z) z (fun w hst => x_load z isAgg26 (hst.bc8 z)) ?_
 refine wq_run (v := Pt b246 0) ((wanted_eq z z z (cvb (not_tt hc346))).trans z) z (fun w hst => z) ?_
 refine wq_run (v := Pt b246 0) ((wanted_eq z z z (cvb (not_tt hc346))).trans z) z (fun w hst => z) ?_
 refine wq_run (v := Pt b246 1) ((wanted_eq z z z (cvb (not_tt hc346))).trans z) z (fun w hst => x_field z underlying111 z sizeOf26 z) ?_
 refine wq_run (v := .int .u64 o0.epoch) ((wanted_eq z z z (cvb (not_tt hc346))).trans z) z (fun w hst => x_load z isAgg26 (hst.bc0 z)) ?_
 refine wq_run (v := .bool (a1.Epoch != o0.epoch)) ((wanted_eq z z z (cvb (not_tt hc346))).trans z) z (fun w hst => z) ?_
 refine wq_run (v := .bool (a1.Epoch != o0.epoch)) z z (fun w hst => x_pick_t (not_tt hc346) z z) ?_
 refine wq_run (v := .bool (a1.Epoch != o0.epoch)) z z (fun w hst => z) ?_
 refine wq_nil ?_
 intro w hst
 refine tn ?_
 refine bsplit (a1.Epoch != o0.epoch) (fun hc387 => ?_) (fun hc387 => ?_)
 {
 replace hm := bif_t hc387 hm
 refine wp_ift (cvb hc387) ?_
 refine wp_seq (wrl (wv (.int .i64 (9:Int)) z z z (wl_nil (tn (wp_ret (blk_r (then_r ?_)))))))
 replace hm := inr_up hm hx391
 replace hst := hst.pull7.pull7.pull7.pull7.pull7.pull7.pull7.pull7
 replace hst := at_lane_State_close (pv := Pt b246 0) (x := o0) hst z
 replace hst := objO_some hst
 obtain rfl := some_inj hm
 refine post_ret (vs := [I6 (9:Int)]) results19 (rvs_cons (rv_tmp z) rvs_nil) ?_
 exact ⟨_, z, hI0, hst.keep1⟩
}
 {
 replace hm := bif_f hc387 hm
 refine wp_iff (cvb hc387) ?_
 refine wp_skip (blk_n (tn ?_))
 replace hst := hst.pull7.pull7.pull7.pull7.pull7.pull7.pull7.pull7
 replace hst := at_lane_State_close (pv := Pt b246 0) (x := o0) hst z
 replace hst := hst.pull1.pull1.keep2
 obtain rfl := some_inj hm
 exact ⟨_, hx391, (fu 0 (Pt b246 0) z (fu 3 (Pt b241 0) z z)), hst⟩
}
}
}
 {
 clear hst
 rintro _ w392 ⟨σ388, hm, rfl, hst⟩
 dsimp only [lane_State_Hold_j1] at hm
 refine wp_seq ?_
 obtain ⟨b393, v394, v396, v398, v400, v402, v404, v406, e408, hst'⟩ := at_lane_State_open hst
 clear hst
 have e408 := ptr_inj e408
 subst e408
 have hst := hst'
 clear hst'
 refine wp_region_St hst 7 [0, 1, 2, 3, 4, 5, 6] [0, 1, 3, 7, 0, 31, 63] [] z (by kernel_rfl) (by kernel_rfl) Tryz.mixed (by kernel_rfl) ?_
 refine wsr (Pt b246 0) 0 z z z (by kernel_rfl) (fun w hst => z) (wsr (Pt b246 0) 1 z z z (by kernel_rfl) (fun w hst => z) (wsr (Pt b246 3) 2 z z z (by kernel_rfl) (fun w hst => x_field z underlying111 z sizeOf103 z) (wsr (v396) 3 z z z (by kernel_rfl) (fun w hst => x_load z isAgg103 (hst.bc0 z)) (wsr (.agg #[U6 a1.ID.Session, U6 a1.ID.Seq, U6 a1.Epoch, r1_0, r1_1, r1_2, r1_3]) 4 z z z (by kernel_rfl) (fun w hst => x_loadN (cs := [U6 a1.ID.Session, U6 a1.ID.Seq, U6 a1.Epoch, r1_0, r1_1, r1_2, r1_3]) z isAgg46 sizeOf46 (hst.bcs8 0 z)) ?_))))
 refine ws_e1 5 (by kernel_rfl) ?_
 refine nxe [6] (by kernel_rfl) z z ?_
 clear hst
 intro w hst
 replace hst := hst.pull2
 obtain ⟨t409, ht410, hm⟩ := bind_some hm
 refine wec call58 [v396, .agg #[U6 a1.ID.Session, U6 a1.ID.Seq, U6 a1.Epoch, r1_0, r1_1, r1_2, r1_3]] z z ?_
 refine (locks_Table_Take_ref (f1_0.mono (rd_weak _)) (f1_1.mono (rd_weak _)) (f1_2.mono (rd_weak _)) (f1_3.mono (rd_weak _)) hst.to1 ht410).mono ?_
 rintro _ w411 ⟨I412, rfl, hI413, hst⟩
 refine ⟨_, z, ?_⟩
 replace hst := hst.of1
 replace f1_0 := f1_0.mono (rd_le hI413)
 replace f1_1 := f1_1.mono (rd_le hI413)
 replace f1_2 := f1_2.mono (rd_le hI413)
 replace f1_3 := f1_3.mono (rd_le hI413)
 replace f325 := f325.mono (ro_le hI413)
 replace f329 := f329.mono (ro_le hI413)
 replace f333 := f333.mono (ro_le hI413)
 replace f337 := f337.mono (ro_le hI413)
 replace hI0 := hI0.trans hI413
 refine ws_next (pend' := []) hst (by kernel_rfl) pk_nil ?_
 refine wsr (.int .i64 t409.1) 6 z z z (by kernel_rfl) (fun w hst => z) ?_
 refine ws_nil ?_
 intro w hst
 refine tn (wp_ret ?_)
 replace hst := hst.pull7.pull7.pull7.pull7.pull7.pull5.pull7.pull7
 replace hst := at_lane_State_close (pv := Pt b246 0) (x := ({ wide := o0.wide, epoch := o0.epoch, store := o0.store, locks := t409.2, last := o0.last, book := o0.book, open_ := o0.open_, out := o0.out, used := o0.used } : lane_State)) hst z
 replace hst := objO_some hst
 obtain rfl := some_inj hm
 refine post_ret (vs := [I6 t409.1]) results19 (rvs_cons (rv_tmp z) rvs_nil) ?_
 exact ⟨_, z, hI0, hst.keep1⟩
}
}
}
}

theorem math_Signbit_ref {w0 w : World} {I : HL} {R : SP} {a0 : Nat}  (hst : St w0 w I [] R) {r : (Bool)} (hm : math_Signbit a0 = some r) :
  Calls prog 145 #[F6 a0] w fun e w' => e = .returned (.bool r) ∧ St w0 w' I [] R := by {
 unfold math_Signbit at hm
 refine calls_start (args := [F6 a0]) func145 z ntmps145 (Nat.le_of_ble_eq_true z) ?_
 refine wp_seq (wrl (wv (.bool false) z z z (wl_nil (tn (wp_seq (wrl (wv (.float .f64 a0) z z z (wv (.int .u64 (Int.ofNat a0)) z z (by kernel_rfl) (wv (.int .i64 (i64.wrap (Int.ofNat a0))) z z (by kernel_rfl) (wv (.bool (decide ((i64.wrap (Int.ofNat a0)) < (0:Int)))) z z z (wv (.bool (decide ((i64.wrap (Int.ofNat a0)) < (0:Int)))) z z z (wl_nil (tn (wp_ret ?_))))))))))))))
 obtain rfl := some_inj hm
 refine post_ret (vs := [.bool (decide ((i64.wrap (Int.ofNat a0)) < (0:Int)))]) results145 (rvs_cons (rv_tmp z) rvs_nil) ?_
 exact ⟨z, hst.keep0⟩
}

theorem ref01_Ahead_ref {w0 w : World} {I : HL} {R : SP} {a0 : Nat} {a1 : Nat}  (hst : St w0 w I [] R) {r : (Bool)} (hm : ref01_Ahead a0 a1 = some r) :
  Calls prog 59 #[F6 a0, F6 a1] w fun e w' => e = .returned (.bool r) ∧ St w0 w' I [] R := by {
 unfold ref01_Ahead at hm
 refine calls_start (args := [F6 a0, F6 a1]) func59 z ntmps59 (Nat.le_of_ble_eq_true z) ?_
 refine wp_seq (wrl (wv (.bool false) z z z (wl_nil (tn (wp_seq (wp_seq (wrl (wv (.float .f64 a0) z z z (wv (.float .f64 a0) z z z (wv (.bool (fNe a0 a0)) z z z (wl_nil (tn ?_))))))))))))
 refine bsplit (fNe a0 a0) (fun hc116 => ?_) (fun hc116 => ?_)
 {
 replace hm := bif_t hc116 hm
 refine wp_ift (cvb hc116) ?_
 refine wp_seq (wrl (wv (.bool false) z z z (wl_nil (tn (wp_ret (then_r ?_))))))
 obtain rfl := some_inj hm
 refine post_ret (vs := [.bool false]) results59 (rvs_cons (rv_tmp z) rvs_nil) ?_
 exact ⟨z, hst.keep0⟩
}
 {
 replace hm := bif_f hc116 hm
 refine wp_iff (cvb hc116) ?_
 refine wp_skip (tn (wp_seq (wp_seq (wrl ?_))))
 refine wv (.float .f64 a1) z z z (wv (.float .f64 a1) z z z (wv (.bool (fNe a1 a1)) z z z (wl_nil (tn ?_))))
 refine bsplit (fNe a1 a1) (fun hc117 => ?_) (fun hc117 => ?_)
 {
 replace hm := bif_t hc117 hm
 refine wp_ift (cvb hc117) ?_
 refine wp_seq (wrl (wv (.bool true) z z z (wl_nil (tn (wp_ret (then_r ?_))))))
 obtain rfl := some_inj hm
 refine post_ret (vs := [.bool true]) results59 (rvs_cons (rv_tmp z) rvs_nil) ?_
 exact ⟨z, hst.keep0⟩
}
 {
 replace hm := bif_f hc117 hm
 refine wp_iff (cvb hc117) ?_
 refine wp_skip (tn ?_)
 obtain ⟨y133, hm, hx134⟩ := joinO_some hm
 refine wp_cut (fun a w => ∃ (σ131 : Nat → Value), (ref01_Ahead_j0 a0 a1) () = some r ∧ a = Fr 27 (upd (upd σ131 0 (.float .f64 a0)) 1 (.float .f64 a1)) ∧ St w0 w I [] R) ?_ ?_
 {
 refine wp_seq (wrl (wv (.float .f64 a0) z z z (wv (.bool (fEq a0 (0:Nat))) z z z (wv (.bool (fEq a0 (0:Nat))) z z z ?_))))
 refine bsplit (fEq a0 (0:Nat)) (fun hc118 => ?_) (fun hc118 => ?_)
 {
 replace hm := bif_t hc118 hm
 refine wv (.float .f64 a1) ((wanted_eq z z z (cvb hc118)).trans z) z z (wv (.bool (fEq a1 (0:Nat))) ((wanted_eq z z z (cvb hc118)).trans z) z z (wv (.bool (fEq a1 (0:Nat))) z z (x_pick_t hc118 z z) (wl_nil (tn ?_))))
 refine bsplit (fEq a1 (0:Nat)) (fun hc119 => ?_) (fun hc119 => ?_)
 {
 replace hm := bif_t hc119 hm
 refine wp_ift (cvb hc119) ?_
 refine wp_seq (wrl (wv (.float .f64 a0) z z z ?_))
 obtain ⟨t120, ht121, hm⟩ := bind_some hm
 refine wc call145 [F6 a0] z z z ?_
 refine (math_Signbit_ref hst.to0 ht121).mono ?_
 rintro _ w122 ⟨rfl, hst⟩
 refine ⟨_, z, ?_⟩
 replace hst := hst.of0
 refine wv (.bool t120) z z z ?_
 refine bsplit t120 (fun hc125 => ?_) (fun hc125 => ?_)
 {
 replace hm := bif_t hc125 hm
 refine wv (.float .f64 a1) ((wanted_eq z z z (cvb hc125)).trans z) z z ?_
 obtain ⟨t126, ht127, hm⟩ := bind_some hm
 refine wl_call ((wanted_eq z z z (cvb hc125)).trans z) z (x_call call145 z (vs := [F6 a1]) z) ?_
 refine (math_Signbit_ref hst.to0 ht127).mono ?_
 rintro _ w128 ⟨rfl, hst⟩
 refine ⟨_, z, ?_⟩
 replace hst := hst.of0
 refine wv (.bool (!t126)) ((wanted_eq z z z (cvb hc125)).trans z) z z (wv (.bool (!t126)) z z (x_pick_t hc125 z z) (wv (.bool (!t126)) z z z (wl_nil (tn (wp_ret (then_r ?_))))))
 replace hm := inr_up hm hx134
 obtain rfl := some_inj hm
 refine post_ret (vs := [.bool (!t126)]) results59 (rvs_cons (rv_tmp z) rvs_nil) ?_
 exact ⟨z, hst.keep0⟩
}
 {
 replace hm := bif_f hc125 hm
 refine wo hc125 z z z z z z (wo hc125 z z z z z z (wo hc125 z z z z z z (wv (.bool false) z z (x_pick_f hc125 z z) (wv (.bool false) z z z (wl_nil (tn (wp_ret (then_r ?_))))))))
 replace hm := inr_up hm hx134
 obtain rfl := some_inj hm
 refine post_ret (vs := [.bool false]) results59 (rvs_cons (rv_tmp z) rvs_nil) ?_
 exact ⟨z, hst.keep0⟩
}
}
 {
 replace hm := bif_f hc119 hm
 refine wp_iff (cvb hc119) ?_
 refine wp_skip (tn ?_)
 replace hst := hst.keep0
 obtain rfl := some_inj hm
 exact ⟨_, hx134, (fu 0 (.float .f64 a0) z (fu 1 (.float .f64 a1) z z)), hst⟩
}
}
 {
 replace hm := bif_f hc118 hm
 refine wo hc118 z z z z z z (wo hc118 z z z z z z (wv (.bool false) z z (x_pick_f hc118 z z) (wl_nil (tn ?_))))
 refine wp_iff z ?_
 refine wp_skip (tn ?_)
 replace hst := hst.keep0
 obtain rfl := some_inj hm
 exact ⟨_, hx134, (fu 0 (.float .f64 a0) z (fu 1 (.float .f64 a1) z z)), hst⟩
}
}
 {
 clear hst
 rintro _ w135 ⟨σ131, hm, rfl, hst⟩
 dsimp only [ref01_Ahead_j0] at hm
 refine wp_seq (wrl (wv (.float .f64 a0) z z z (wv (.float .f64 a1) z z z (wv (.bool (fLt a0 a1)) z z z (wv (.bool (fLt a0 a1)) z z z (wl_nil (tn (wp_ret ?_))))))))
 obtain rfl := some_inj hm
 refine post_ret (vs := [.bool (fLt a0 a1)]) results59 (rvs_cons (rv_tmp z) rvs_nil) ?_
 exact ⟨z, hst.keep0⟩
}
}
}
}

theorem ref01_Same_ref {w0 w : World} {I : HL} {R : SP} {a0 : Nat} {a1 : Nat}  (hst : St w0 w I [] R) {r : (Bool)} (hm : ref01_Same a0 a1 = some r) :
  Calls prog 20 #[F6 a0, F6 a1] w fun e w' => e = .returned (.bool r) ∧ St w0 w' I [] R := by {
 unfold ref01_Same at hm
 refine calls_start (args := [F6 a0, F6 a1]) func20 z ntmps20 (Nat.le_of_ble_eq_true z) ?_
 refine wp_seq (wrl (wv (.bool false) z z z (wl_nil (tn (wp_seq (wrl (wv (.float .f64 a0) z z z (wv (.float .f64 a1) z z z ?_))))))))
 obtain ⟨t107, ht108, hm⟩ := bind_some hm
 refine wc call59 [F6 a0, F6 a1] z z z ?_
 refine (ref01_Ahead_ref hst.to0 ht108).mono ?_
 rintro _ w109 ⟨rfl, hst⟩
 refine ⟨_, z, ?_⟩
 replace hst := hst.of0
 refine wv (.bool (!t107)) z z z (wv (.bool (!t107)) z z z ?_)
 refine bsplit (!t107) (fun hc112 => ?_) (fun hc112 => ?_)
 {
 replace hm := bif_t hc112 hm
 refine wv (.float .f64 a1) ((wanted_eq z z z (cvb hc112)).trans z) z z (wv (.float .f64 a0) ((wanted_eq z z z (cvb hc112)).trans z) z z ?_)
 obtain ⟨t113, ht114, hm⟩ := bind_some hm
 refine wl_call ((wanted_eq z z z (cvb hc112)).trans z) z (x_call call59 z (vs := [F6 a1, F6 a0]) z) ?_
 refine (ref01_Ahead_ref hst.to0 ht114).mono ?_
 rintro _ w115 ⟨rfl, hst⟩
 refine ⟨_, z, ?_⟩
 replace hst := hst.of0
 refine wv (.bool (!t113)) ((wanted_eq z z z (cvb hc112)).trans z) z z (wv (.bool (!t113)) z z (x_pick_t hc112 z z) (wv (.bool (!t113)) z z z (wl_nil (tn (wp_ret ?_)))))
 obtain rfl := some_inj hm
 refine post_ret (vs := [.bool (!t113)]) results20 (rvs_cons (rv_tmp z) rvs_nil) ?_
 exact ⟨z, hst.keep0⟩
}
 {
 replace hm := bif_f hc112 hm
 refine wo hc112 z z z z z z (wo hc112 z z z z z z (wo hc112 z z z z z z (wo hc112 z z z z z z (wv (.bool false) z z (x_pick_f hc112 z z) (wv (.bool false) z z z (wl_nil (tn (wp_ret ?_))))))))
 obtain rfl := some_inj hm
 refine post_ret (vs := [.bool false]) results20 (rvs_cons (rv_tmp z) rvs_nil) ?_
 exact ⟨z, hst.keep0⟩
}
}

theorem locks_Table_Until_ref {w0 w : World} {I : HL} {R : SP} {a0 : (Option locks_Table)} {p0 : Value} {a1 : Int}  (hst : St w0 w I [objO at_locks_Table p0 a0] R) {r : (Bool)} (hm : locks_Table_Until a0 a1 = some r) :
  Calls prog 154 #[p0, U6 a1] w fun e w' => e = .returned (.bool r) ∧ St w0 w' I [objO at_locks_Table p0 a0] R := by {
 rcases a0 with _ | o0
 {
 obtain ⟨rfl, hst'⟩ := objO_none hst
 clear hst
 have hst := hst'
 clear hst'
 dsimp only [locks_Table_Until] at hm
 refine calls_start (args := [.pointer none, U6 a1]) func154 z ntmps154 (Nat.le_of_ble_eq_true z) ?_
 refine wp_seq (wrl ?_)
 obtain ⟨b326, w327, ew328, eb329, hst⟩ := hst.box [U6 a1] 26
 refine wl_run (v := Pt b326 0) (w' := w327) z z (x_al (by kernel_rfl) ew328 eb329) ?_
 refine wv (.bool false) z z z (wl_nil (tn (wp_seq (wrl (wv (.pointer none) z z z (wv (.bool false) z z (by kernel_rfl) (wv (.bool false) z z z (wz z z z z z z (wz z z z z z z (wz z z z z z z (wz z z z z z z (wz z z z z z z (wz z z z z z z (wv (.bool false) z z (x_pick_f z z z) (wv (.bool false) z z z ?_)))))))))))))))
 refine wl_nil (tn (wp_ret ?_))
 replace hst := hst.objO_nil at_locks_Table
 obtain rfl := some_inj hm
 refine post_ret (vs := [.bool false]) results154 (rvs_cons (rv_tmp z) rvs_nil) ?_
 exact ⟨z, hst.keep1⟩
}
 {
 replace hst := objO_get hst
 dsimp only [locks_Table_Until] at hm
 refine calls_start (args := [p0, U6 a1]) func154 z ntmps154 (Nat.le_of_ble_eq_true z) ?_
 refine wp_seq (wrl ?_)
 obtain ⟨b331, w332, ew333, eb334, hst⟩ := hst.box [U6 a1] 26
 refine wl_run (v := Pt b331 0) (w' := w332) z z (x_al (by kernel_rfl) ew333 eb334) ?_
 refine wv (.bool false) z z z (wl_nil (tn (wp_seq (wrl (wv (p0) z z z ?_)))))
 replace hst := hst.pull1
 obtain ⟨b336, v337, rfl, hst'⟩ := at_locks_Table_open hst
 clear hst
 have hst := hst'
 clear hst'
 refine wv (.bool true) z z (by kernel_rfl) (wv (.bool true) z z z (wv (Pt b336 0) ((wanted_eq z z z z).trans z) z z (wv (Pt b336 0) ((wanted_eq z z z z).trans z) z z (wv (Pt b336 0) ((wanted_eq z z z z).trans z) z (x_field z underlying203 z sizeOf125 z) (wv (v337) ((wanted_eq z z z z).trans z) z (x_load z isAgg125 (hst.bc0 z)) (wv (.func (.func 204) #[] #[Pt b331 0]) ((wanted_eq z z z z).trans z) z (by kernel_rfl) ?_))))))
 obtain ⟨y449, hq450, hm⟩ := bind_some hm
 refine wl_call ((wanted_eq z z z z).trans z) z (x_callv call203 (caps := []) z (vs := [v337, .func (.func 204) #[] #[Pt b331 0]]) z) ?_
 refine Calls.mono (show Calls prog 203 #[v337, .func (.func 204) #[] #[Pt b331 0]] _ (fun e w' => ∃ (z447 : Bool), z447 = y449 ∧ e = .returned (.bool z447) ∧ St w0 w' I [cells b336 [v337], ownS ty_api_Hold v337 o0.l, cells b331 [U6 a1]] R) from ?_) ?_
 {
 clear hm; have hm := hq450
 refine calls_start (args := [v337, .func (.func 204) #[] #[Pt b331 0]]) func203 z ntmps203 (Nat.le_of_ble_eq_true z) ?_
 refine wp_seq (wrl (wv (.bool false) z z z (wl_nil (tn (wp_seq (wrl (wv (v337) z z z (wv (.func (.func 204) #[] #[Pt b331 0]) z z z ?_))))))))
 obtain ⟨y444, hq445, hm⟩ := bind_some hm
 refine wl_call z z (x_callv call222 (caps := []) z (vs := [v337, .func (.func 204) #[] #[Pt b331 0]]) z) ?_
 refine Calls.mono (show Calls prog 222 #[v337, .func (.func 204) #[] #[Pt b331 0]] _ (fun e w' => ∃ (z442 : Int), z442 = y444 ∧ e = .returned (.int .i64 z442) ∧ St w0 w' I [cells b336 [v337], ownS ty_api_Hold v337 o0.l, cells b331 [U6 a1]] R) from ?_) ?_
 {
 clear hm; have hm := hq445
 refine calls_start (args := [v337, .func (.func 204) #[] #[Pt b331 0]]) func222 z ntmps222 (Nat.le_of_ble_eq_true z) ?_
 refine wp_seq (wrl (wv (.int .i64 (0:Int)) z z z (wl_nil (tn (wp_seq (wp_seq (wrl (wv (v337) z z z (wv (.int .i64 ((o0.l).length : Int)) z z (x_len z underlying125 hst.sv1) (wv (.int .i64 (0:Int)) z z z (wl_nil (tn (wp_block ?_)))))))))))))
 obtain ⟨n404, hm⟩ := loopO_some hm
 refine wp_loop_n (fun n a w => ∃ (z402 : Int) (σ403 : Nat → Value), loopN (locks_Table_Until_l0 o0 a1) n z402 = some y444 ∧ a = Fr 19 (upd (upd (upd (upd σ403 0 (v337)) 1 (.func (.func 204) #[] #[Pt b331 0])) 7 (.int .i64 ((o0.l).length : Int))) 8 (.int .i64 z402)) ∧ St w0 w I [cells b336 [v337], ownS ty_api_Hold v337 o0.l, cells b331 [U6 a1]] R) n404 ⟨(0:Int), _, hm, (fu 0 v337 z (fu 1 (.func (.func 204) #[] #[Pt b331 0]) z (fu 7 (.int .i64 ((o0.l).length : Int)) z (fu 8 (.int .i64 (0:Int)) z z)))), hst⟩ ?_
 rintro n410 _ w405 ⟨z402, σ403, hm, rfl, hst⟩
 obtain ⟨n407, y408, rfl, hm, hx409⟩ := loopN_some hm
 dsimp only [locks_Table_Until_l0] at hm
 refine wp_seq (wrl (wv (.bool (decide (z402 < ((o0.l).length : Int)))) z z z (wl_nil (tn (wp_seq ?_)))))
 refine bsplit (decide (z402 < ((o0.l).length : Int))) (fun hc411 => ?_) (fun hc411 => ?_)
 {
 replace hm := bif_t hc411 hm
 refine wp_ift (cvb hc411) ?_
 refine wp_skip (tn (wp_seq (wp_block (wp_seq (wrl ?_)))))
 refine wv (.int .i64 z402) z z z (wv (.int .i64 z402) z z z (wl_nil (tn (wp_seq (wrl (wv (.func (.func 204) #[] #[Pt b331 0]) z z z (wv (v337) z z z (wv (.int .i64 z402) z z z ?_))))))))
 obtain ⟨x412, hx413, hm⟩ := bind_some hm
 obtain ⟨h414, h415, hi416⟩ := geto_some hx413
 refine wv (.pointer (some (eAddr v337 (z402.toNat * 7 + 0)))) z z (x_index z z underlying125 sizeOf46 hst.sv1 h414 h415) ?_
 obtain ⟨cs417, hr418, hc419⟩ := hst.og1 hi416
 obtain ⟨v420, v423, v426, v429, rfl, f421, f424, f427, f430, -⟩ := hr418
 refine wv (.agg #[U6 x412.ID.Session, U6 x412.ID.Seq, U6 x412.Epoch, v420, v423, v426, v429]) z z (x_loadN (cs := [U6 x412.ID.Session, U6 x412.ID.Seq, U6 x412.Epoch, v420, v423, v426, v429]) z isAgg46 sizeOf46 (eCells (o := 0) hc419 z)) ?_
 obtain ⟨y438, hq439, hm⟩ := bind_some hm
 refine wl_call z z (x_callv call204 (caps := [Pt b331 0]) z (vs := [.agg #[U6 x412.ID.Session, U6 x412.ID.Seq, U6 x412.Epoch, v420, v423, v426, v429]]) z) ?_
 refine Calls.mono (show Calls prog 204 #[.agg #[U6 x412.ID.Session, U6 x412.ID.Seq, U6 x412.Epoch, v420, v423, v426, v429], Pt b331 0] _ (fun e w' => () = y438 ∧ e = .returned (.bool (decide (x412.Epoch ≤ a1))) ∧ St w0 w' I [cells b336 [v337], ownS ty_api_Hold v337 o0.l, cells b331 [U6 a1]] R) from ?_) ?_
 {
 clear hm; have hm := hq439
 refine calls_start (args := [.agg #[U6 x412.ID.Session, U6 x412.ID.Seq, U6 x412.Epoch, v420, v423, v426, v429], Pt b331 0]) func204 z ntmps204 (Nat.le_of_ble_eq_true z) ?_
 refine wp_seq (wrl ?_)
 obtain ⟨b432, w433, ew434, eb435, hst⟩ := hst.box [U6 x412.ID.Session, U6 x412.ID.Seq, U6 x412.Epoch, v420, v423, v426, v429] 46
 refine wl_run (v := Pt b432 0) (w' := w433) z z (x_al (by kernel_rfl) ew434 eb435) ?_
 refine wv (.bool false) z z z (wl_nil (tn (wp_seq (wrl (wv (Pt b432 2) z z (x_field z underlying46 z sizeOf26 z) (wv (.int .u64 x412.Epoch) z z (x_load z isAgg26 (hst.bc0 z)) (wv (.int .u64 a1) z z (x_load z isAgg26 (hst.bc3 z)) (wv (.bool (decide (x412.Epoch ≤ a1))) z z z (wv (.bool (decide (x412.Epoch ≤ a1))) z z z (wl_nil (tn (wp_ret ?_))))))))))))
 refine post_ret (vs := [.bool (decide (x412.Epoch ≤ a1))]) results204 (rvs_cons (rv_tmp z) rvs_nil) ?_
 replace hst := hst.pull3.pull3.pull3.keep3
 obtain rfl := some_inj hm
 exact ⟨z, z, hst⟩
}
 clear hst
 rintro _ w440 ⟨rfl, rfl, hst⟩
 refine ⟨_, z, ?_⟩
 try dsimp only at hm
 refine wl_nil (tn ?_)
 refine bsplit (decide (x412.Epoch ≤ a1)) (fun hc441 => ?_) (fun hc441 => ?_)
 {
 replace hm := bif_t hc441 hm
 refine wp_ift (cvb hc441) ?_
 refine wp_seq (wrl (wv (.int .i64 z402) z z z (wv (.int .i64 z402) z z z (wl_nil (tn (wp_ret (blk_r (then_r (then_r ?_)))))))))
 replace hm := inr_up hm hx409
 refine blk_r (then_r ?_)
 refine post_ret (vs := [I6 z402]) results222 (rvs_cons (rv_tmp z) rvs_nil) ?_
 replace hst := hst.pull2.pull2.pull2.keep3
 obtain rfl := some_inj hm
 exact ⟨z402, z, z, hst⟩
}
 {
 replace hm := bif_f hc441 hm
 refine wp_iff (cvb hc441) ?_
 refine wp_skip (blk_n (tn (wrl ?_)))
 refine wv (.int .i64 (i64.wrap (z402 + (1:Int)))) z z z (wv (.int .i64 (i64.wrap (z402 + (1:Int)))) z z z (wl_nil (tn ?_)))
 replace hst := hst.pull2.pull2.pull2.keep3
 obtain rfl := some_inj hm
 exact ⟨_, Nat.lt_succ_self _, (i64.wrap (z402 + (1:Int))), _, hx409, (fu 0 v337 z (fu 1 (.func (.func 204) #[] #[Pt b331 0]) z (fu 7 (.int .i64 ((o0.l).length : Int)) z (fu 8 (.int .i64 (i64.wrap (z402 + (1:Int)))) z z)))), hst⟩
}
}
 {
 replace hm := bif_f hc411 hm
 refine wp_iff (cvb hc411) ?_
 refine wp_exit (then_x (then_x ?_))
 replace hm := inr_up hm hx409
 refine blk_x (tn (wp_seq (wrl ?_)))
 refine wv (.int .i64 ((-1):Int)) z z z (wl_nil (tn (wp_ret ?_)))
 refine post_ret (vs := [I6 ((-1):Int)]) results222 (rvs_cons (rv_tmp z) rvs_nil) ?_
 replace hst := hst.pull2.pull2.pull2.keep3
 obtain rfl := some_inj hm
 exact ⟨((-1):Int), z, z, hst⟩
}
}
 clear hst
 rintro _ w446 ⟨z442, rfl, rfl, hst⟩
 refine ⟨_, z, ?_⟩
 try dsimp only at hm
 refine wv (.bool (decide (z442 ≥ (0:Int)))) z z z (wv (.bool (decide (z442 ≥ (0:Int)))) z z z (wl_nil (tn (wp_ret ?_))))
 refine post_ret (vs := [.bool (decide (z442 ≥ (0:Int)))]) results203 (rvs_cons (rv_tmp z) rvs_nil) ?_
 replace hst := hst.pull2.pull2.pull2.keep3
 obtain rfl := some_inj hm
 exact ⟨(decide (z442 ≥ (0:Int))), z, z, hst⟩
}
 clear hst
 rintro _ w451 ⟨z447, rfl, rfl, hst⟩
 refine ⟨_, z, ?_⟩
 try dsimp only at hm
 refine wv (.bool z447) z z (x_pick_t z z z) (wv (.bool z447) z z z (wl_nil (tn (wp_ret ?_))))
 replace hst := hst.pull1.pull1
 replace hst := at_locks_Table_close (pv := Pt b336 0) (x := o0) hst z
 replace hst := objO_some hst
 obtain rfl := some_inj hm
 refine post_ret (vs := [.bool z447]) results154 (rvs_cons (rv_tmp z) rvs_nil) ?_
 exact ⟨z, hst.keep1⟩
}
}

theorem lane_State_May_ref {w0 w : World} {I : HL} {R : SP} {a0 : (Option lane_State)} {p0 : Value}  (hst : St w0 w I [objO at_lane_State p0 a0] R) {r : (Bool)} (hm : lane_State_May a0 = some r) :
  Calls prog 85 #[p0] w fun e w' => e = .returned (.bool r) ∧ St w0 w' I [objO at_lane_State p0 a0] R := by {
 rcases a0 with _ | o0
 {
 obtain ⟨rfl, hst'⟩ := objO_none hst
 clear hst
 have hst := hst'
 clear hst'
 dsimp only [lane_State_May] at hm
 refine calls_start (args := [.pointer none]) func85 z ntmps85 (Nat.le_of_ble_eq_true z) ?_
 refine wp_seq (wrl (wv (.bool false) z z z (wl_nil (tn (wp_seq ?_)))))
 refine wp_region_St hst 15 [0, 1, 2, 3, 4, 5, 6, 7, 8, 9, 10, 11, 12, 13, 14] [0, 1, 3, 7, 15, 31, 63, 7, 135, 391, 903, 2047, 4095, 8191, 16383] [] z (by kernel_rfl) (by kernel_rfl) Tryz.mixed (by kernel_rfl) ?_
 refine wsr (.pointer none) 0 z z z (by kernel_rfl) (fun w hst => z) (wsr (.bool false) 1 z z z (by kernel_rfl) (fun w hst => by kernel_rfl) (wsr (.bool false) 2 z z z (by kernel_rfl) (fun w hst => z) (ws_q (v := undef) 3 [4, 5, 6, 7, 8, 9, 10, 11, 12, 13, 14] (by kernel_rfl) z z (yi_off ((wanted_eq z z z z).trans z)) (ws_q (v := undef) 4 [5, 6, 7, 8, 9, 10, 11, 12, 13, 14] (by kernel_rfl) z z (yi_off ((wanted_eq z z z z).trans z)) (ws_q (v := undef) 5 [6, 7, 8, 9, 10, 11, 12, 13, 14] (by kernel_rfl) z z (yi_off ((wanted_eq z z z z).trans z)) (ws_q (v := undef) 6 [7, 8, 9, 10, 11, 12, 13, 14] (by kernel_rfl) z z (yi_off ((wanted_eq z z z z).trans z)) (ws_q (v := undef) 7 [8, 9, 10, 11, 12, 13, 14] (by kernel_rfl) z z (yi_off ((wanted_eq z z z z).trans z)) (ws_q (v := undef) 8 [9, 10, 11, 12, 13, 14] (by kernel_rfl) z z (yi_off ((wanted_eq z z z z).trans z)) (ws_q (v := undef) 9 [10, 11, 12, 13, 14] (by kernel_rfl) z z (yi_off ((wanted_eq z z z z).trans z)) (ws_q (v := undef) 10 [11, 12, 13, 14] (by kernel_rfl) z z (yi_off ((wanted_eq z z z z).trans z)) (ws_q (v := undef) 11 [12, 13, 14] (by kernel_rfl) z z (yi_off ((wanted_eq z z z z).trans z)) (ws_q (v := undef) 12 [13, 14] (by kernel_rfl) z z (yi_off ((wanted_eq z z z z).trans z)) ?_))))))))))))
 refine wsr (.bool false) 13 z z z (by kernel_rfl) (fun w hst => x_pick_f z z z) (wsr (.bool false) 14 z z z (by kernel_rfl) (fun w hst => z) ?_)
 refine ws_nil ?_
 intro w hst
 refine tn (wp_ret ?_)
 replace hst := hst.objO_nil at_lane_State
 obtain rfl := some_inj hm
 refine post_ret (vs := [.bool false]) results85 (rvs_cons (rv_tmp z) rvs_nil) ?_
 exact ⟨z, hst.keep1⟩
}
 {
 replace hst := objO_get hst
 dsimp only [lane_State_May] at hm
 refine calls_start (args := [p0]) func85 z ntmps85 (Nat.le_of_ble_eq_true z) ?_
 refine wp_seq (wrl (wv (.bool false) z z z (wl_nil (tn (wp_seq ?_)))))
 obtain ⟨b219, v220, v222, v224, v226, v228, v230, v232, rfl, hst'⟩ := at_lane_State_open hst
 clear hst
 have hst := hst'
 clear hst'
 refine wp_region_St hst 15 [0, 1, 2, 3, 4, 5, 6, 7, 8, 9, 10, 11, 12, 13, 14] [0, 1, 3, 7, 15, 31, 63, 7, 135, 391, 903, 2047, 4095, 8191, 16383] [] z (by kernel_rfl) (by kernel_rfl) Tryz.mixed (by kernel_rfl) ?_
 refine wsr (Pt b219 0) 0 z z z (by kernel_rfl) (fun w hst => z) (wsr (.bool true) 1 z z z (by kernel_rfl) (fun w hst => by kernel_rfl) (wsr (.bool true) 2 z z z (by kernel_rfl) (fun w hst => z) (ws_q (v := Pt b219 0) 3 [4, 5, 6, 7, 8, 9, 10, 11, 12, 13, 14] (by kernel_rfl) z z (yi_run ((wanted_eq z z z z).trans z) (fun w hst => z)) (ws_q (v := Pt b219 0) 4 [5, 6, 7, 8, 9, 10, 11, 12, 13, 14] (by kernel_rfl) z z (yi_run ((wanted_eq z z z z).trans z) (fun w hst => z)) (ws_q (v := Pt b219 3) 5 [6, 7, 8, 9, 10, 11, 12, 13, 14] (by kernel_rfl) z z (yi_run ((wanted_eq z z z z).trans z) (fun w hst => x_field z underlying111 z sizeOf103 z)) (ws_q (v := v222) 6 [7, 8, 9, 10, 11, 12, 13, 14] (by kernel_rfl) z z (yi_run ((wanted_eq z z z z).trans z) (fun w hst => x_load z isAgg103 (hst.bc0 z))) (ws_q (v := Pt b219 0) 7 [8, 9, 10, 11, 12, 13, 14] (by kernel_rfl) z z (yi_run ((wanted_eq z z z z).trans z) (fun w hst => z)) (ws_q (v := Pt b219 0) 8 [9, 10, 11, 12, 13, 14] (by kernel_rfl) z z (yi_run ((wanted_eq z z z z).trans z) (fun w hst => z)) (ws_q (v := Pt b219 1) 9 [10, 11, 12, 13, 14] (by kernel_rfl) z z (yi_run ((wanted_eq z z z z).trans z) (fun w hst => x_field z underlying111 z sizeOf26 z)) (ws_q (v := .int .u64 o0.epoch) 10 [11, 12, 13, 14] (by kernel_rfl) z z (yi_run ((wanted_eq z z z z).trans z) (fun w hst => x_load z isAgg26 (hst.bc0 z))) ?_))))))))))
 refine ws_e1 11 (by kernel_rfl) ?_
 refine nxe [12, 13, 14] (by kernel_rfl) z ((wanted_eq z z z z).trans z) ?_
 clear hst
 intro w hst
 replace hst := hst.pull2
 obtain ⟨t234, ht235, hm⟩ := bind_some hm
 refine wec call154 [v222, U6 o0.epoch] z z ?_
 refine (locks_Table_Until_ref hst.to1 ht235).mono ?_
 rintro _ w236 ⟨rfl, hst⟩
 refine ⟨_, z, ?_⟩
 replace hst := hst.of1
 refine ws_next (pend' := []) hst (by kernel_rfl) pk_nil ?_
 refine ws_q (v := .bool (!t234)) 12 [13, 14] (by kernel_rfl) z z (yi_run ((wanted_eq z z z z).trans z) (fun w hst => z)) (wsr (.bool (!t234)) 13 z z z (by kernel_rfl) (fun w hst => x_pick_t z z z) (wsr (.bool (!t234)) 14 z z z (by kernel_rfl) (fun w hst => z) ?_))
 refine ws_nil ?_
 intro w hst
 refine tn (wp_ret ?_)
 replace hst := hst.pull7.pull7.pull7.pull7.pull7.pull5.pull7.pull7
 replace hst := at_lane_State_close (pv := Pt b219 0) (x := o0) hst z
 replace hst := objO_some hst
 obtain rfl := some_inj hm
 refine post_ret (vs := [.bool (!t234)]) results85 (rvs_cons (rv_tmp z) rvs_nil) ?_
 exact ⟨z, hst.keep1⟩
}
}

theorem slices_Clone_mvcc_Version_mvcc_Version_ref {w0 w : World} {I : HL} {R : SP} {a0 : (List mvcc_Version)} {r0_0 : Value} (f0_0 : RdO ty_mvcc_Version R I r0_0 a0) (hst : St w0 w I [] R) {r : (List mvcc_Version)} (hm : slices_Clone_mvcc_Version_mvcc_Version a0 = some r) :
  Calls prog 181 #[r0_0] w fun e w' => ∃ (q0_0 : Value), e = .returned (q0_0) ∧ St w0 w' I [ownS ty_mvcc_Version q0_0 r] R := by {
 unfold slices_Clone_mvcc_Version_mvcc_Version at hm
 obtain ⟨hg, hm⟩ := gd_some hm
 obtain rfl := some_inj hm
 have hsv := rdo_sliceV f0_0
 refine calls_start (args := [r0_0]) func181 z ntmps181 (Nat.le_of_ble_eq_true z) ?_
 refine wp_seq (wrl (wv ((.slice none 0 0)) z z z (wl_nil (tn (wp_seq (wp_seq (wrl (wv (r0_0) z z z (wv (.bool (isNil r0_0)) z z (x_slnil z hsv z underlying238) (wl_nil (tn ?_)))))))))))
 refine bsplit (isNil r0_0) (fun hc373 => ?_) (fun hc373 => ?_)
 {
 refine wp_ift (cvb hc373) ?_
 refine wp_seq (wrl (wv ((.slice none 0 0)) z z z (wl_nil (tn (wp_ret (then_r ?_))))))
 refine post_ret (vs := [Zs]) results181 (rvs_cons (rv_tmp z) rvs_nil) ?_
 obtain rfl := List.eq_nil_of_length_eq_zero (isNil_len hsv hc373)
 exact ⟨_, z, (hst.own_nil ty_mvcc_Version).keep1⟩
}
 {
 refine wp_iff (cvb hc373) ?_
 refine wp_skip (tn (wp_seq (wrl ?_)))
 obtain ⟨b, w1, ew, eb, hst⟩ := hst.lits (E := ty_mvcc_Version) (xs := []) [] 214 0 z Reps.nil
 refine wl_run (v := (.slice (some ⟨b, 0, none⟩) 0 0)) (w' := w1) z z (x_als (by kernel_rfl) ew eb) ?_
 refine wv (r0_0) z z z ?_
 obtain ⟨v2, w2, hr, hst⟩ := run_append elem_238 underlying238 hst (Src.of_rdo hst f0_0) (room_of hg z) 238
 refine wl_run (v := v2) (w' := w2) z z (x_append z z hr) ?_
 refine wv (v2) z z z (wl_nil (tn (wp_ret ?_)))
 refine post_ret (vs := [v2]) results181 (rvs_cons (rv_tmp z) rvs_nil) ?_
 rw [List.nil_append] at hst
 exact ⟨_, z, hst.keep1⟩
}
}

theorem mvcc_Store_Trim_ref {w0 w : World} {I : HL} {R : SP} {a0 : (Option mvcc_Store)} {p0 : Value} {a1 : Int}  (hst : St w0 w I [objO at_mvcc_Store p0 a0] R) {r : ((Option mvcc_Store))} (hm : mvcc_Store_Trim a0 a1 = some r) :
  Calls prog 121 #[p0, U6 a1] w fun e w' => ∃ (I' : HL), e = .returned (.tuple #[]) ∧ I.le I' ∧ St w0 w' I' [objO at_mvcc_Store p0 r] R := by {
 rcases a0 with _ | o0
 {
 obtain ⟨rfl, hst'⟩ := objO_none hst
 clear hst
 have hst := hst'
 clear hst'
 dsimp only [mvcc_Store_Trim] at hm
 refine calls_start (args := [.pointer none, U6 a1]) func121 z ntmps121 (Nat.le_of_ble_eq_true z) ?_
 have hI0 := HL.le.refl I
 refine wp_seq (wrl ?_)
 obtain ⟨b882, w883, ew884, eb885, hst⟩ := hst.box [U6 a1] 26
 refine wl_run (v := Pt b882 0) (w' := w883) z z (x_al (by kernel_rfl) ew884 eb885) ?_
 refine wl_nil (tn (wp_seq (wp_seq (wrl (wv (.pointer none) z z z (wv (.bool true) z z (by kernel_rfl) (wl_nil (tn ?_))))))))
 refine wp_ift z ?_
 refine wp_ret (then_r ?_)
 replace hst := hst.objO_nil at_mvcc_Store
 obtain rfl := some_inj hm
 refine post_ret (vs := []) results121 rvs_nil ?_
 exact ⟨_, z, hI0, hst.keep1⟩
}
 {
 replace hst := objO_get hst
 dsimp only [mvcc_Store_Trim] at hm
 refine calls_start (args := [p0, U6 a1]) func121 z ntmps121 (Nat.le_of_ble_eq_true z) ?_
 have hI0 := HL.le.refl I
 refine wp_seq (wrl ?_)
 obtain ⟨b887, w888, ew889, eb890, hst⟩ := hst.box [U6 a1] 26
 refine wl_run (v := Pt b887 0) (w' := w888) z z (x_al (by kernel_rfl) ew889 eb890) ?_
 refine wl_nil (tn (wp_seq (wp_seq (wrl (wv (p0) z z z ?_)))))
 replace hst := hst.pull1
 obtain ⟨b892, v893, rfl, hst'⟩ := at_mvcc_Store_open hst
 clear hst
 have hst := hst'
 clear hst'
 refine wv (.bool false) z z (by kernel_rfl) (wl_nil (tn ?_))
 refine wp_iff z ?_
 refine wp_skip (tn (wp_seq (wrl ?_)))
 refine wv ((.slice none 0 0)) z z z (wl_nil (tn ?_))
 obtain ⟨y1498, hm, hx1499⟩ := bind_some hm
 refine wp_cut (fun a w => ∃ (I1495 : HL) (z1494 : (List mvcc_row)) (v1493 : Value) (σ1496 : Nat → Value), (mvcc_Store_Trim_j0) z1494 = some r ∧ a = Fr 57 (upd (upd σ1496 0 (Pt b892 0)) 4 (v1493)) ∧ I.le I1495 ∧ Ro ty_mvcc_row I1495 v893 o0.rows ∧ St w0 w I1495 [cells b892 [v893], ownN nest_mvcc_row v1493 z1494] R) ?_ ?_
 {
 have hL1500 := HL.le.refl I
 refine wp_seq (wrl (wv (Pt b892 0) z z z (wv (Pt b892 0) z z z (wv (Pt b892 0) z z (x_field z underlying201 z sizeOf199 z) ?_))))
 replace hst := hst.pull1
 obtain ⟨I896, hI897, f898, hst⟩ := hst.nest_fix (E2 := ty_mvcc_row) z nestrep_mvcc_row
 replace hI0 := hI0.trans hI897
 replace hL1500 := hL1500.trans hI897
 refine wv (v893) z z (x_load z isAgg199 (hst.bc0 z)) (wv (.int .i64 ((o0.rows).length : Int)) z z (x_len z underlying199 (ro_sliceV f898)) (wv (.int .i64 (0:Int)) z z z (wl_nil (tn (wp_block ?_)))))
 replace hst := hst.nest_nil nest_mvcc_row
 obtain ⟨n1340, hm⟩ := loopO_some hm
 refine wp_loop_n (fun n a w => ∃ (z1335 : Int) (z1336 : (List mvcc_row)) (v1337 : Value) (σ1339 : Nat → Value), loopN (mvcc_Store_Trim_l1 o0 a1) n (z1335, z1336) = some y1498 ∧ a = Fr 57 (upd (upd (upd (upd (upd (upd σ1339 0 (Pt b892 0)) 3 (Pt b887 0)) 4 (v1337)) 14 (v893)) 15 (.int .i64 ((o0.rows).length : Int))) 16 (.int .i64 z1335)) ∧ St w0 w I896 [ownN nest_mvcc_row v1337 z1336, cells b892 [v893], cells b887 [U6 a1]] R) n1340 ⟨(0:Int), [], Zs, _, hm, (fu 0 (Pt b892 0) z (fu 3 (Pt b887 0) z (fu 4 (.slice none 0 0) z (fu 14 v893 z (fu 15 (.int .i64 ((o0.rows).length : Int)) z (fu 16 (.int .i64 (0:Int)) z z)))))), hst⟩ ?_
 rintro n1346 _ w1341 ⟨z1335, z1336, v1337, σ1339, hm, rfl, hst⟩
 obtain ⟨n1343, y1344, rfl, hm, hx1345⟩ := loopN_some hm
 dsimp only [mvcc_Store_Trim_l1] at hm
 refine wp_seq (wrl (wv (.bool (decide (z1335 < ((o0.rows).length : Int)))) z z z (wl_nil (tn (wp_seq ?_)))))
 refine bsplit (decide (z1335 < ((o0.rows).length : Int))) (fun hc1347 => ?_) (fun hc1347 => ?_)
 {
 replace hm := bif_t hc1347 hm
 refine wp_ift (cvb hc1347) ?_
 refine wp_skip (tn (wp_seq (wp_block (wp_seq (wrl ?_)))))
 obtain ⟨x1348, hx1349, hm⟩ := bind_some hm
 obtain ⟨h1350, h1351, hi1352⟩ := geto_some hx1349
 refine wv (.pointer (some (eAddr v893 (z1335.toNat * 2 + 0)))) z z (x_index z z underlying199 sizeOf240 (ro_sliceV f898) h1350 h1351) ?_
 obtain ⟨cs1353, hr1354, hc1355⟩ := Ro.getF f898 hi1352
 obtain ⟨v1356, rfl, f1357, -⟩ := hr1354
 refine wv (.agg #[U6 x1348.rank, v1356]) z z (x_loadN (cs := [U6 x1348.rank, v1356]) z isAgg240 sizeOf240 (eCells (o := 0) (hc1355 (HL.le.refl _) hst) z)) ?_
 obtain ⟨b1360, w1361, ew1362, eb1363, hst⟩ := hst.box [Zu, Zs] 240
 refine wl_run (v := Pt b1360 0) (w' := w1361) z z (x_al (by kernel_rfl) ew1362 eb1363) ?_
 obtain ⟨w1365, hr1366, hst⟩ := hst.bx [U6 x1348.rank, v1356] sizeOf240 z (oC z (oC (one_of_sliceV (ro_sliceV f1357)) oN)) (by kernel_rfl)
 refine wl_unit z z (x_unit hr1366) ?_
 refine wl_nil (tn (wp_seq (wrl (wv (Pt b1360 1) z z (x_field z underlying240 z sizeOf238 z) (wv (v1356) z z (x_load z isAgg238 (hst.bc0 z)) (wv (.int .i64 ((x1348.l).length : Int)) z z (x_len z underlying238 (ro_sliceV f1357)) (wv (.func (.func 180) #[] #[Pt b1360 0, Pt b887 0]) z z (by kernel_rfl) ?_)))))))
 obtain ⟨y1435, hq1436, hm⟩ := bind_some hm
 refine wl_call z z (x_callv call179 (caps := []) z (vs := [I6 ((x1348.l).length : Int), .func (.func 180) #[] #[Pt b1360 0, Pt b887 0]]) z) ?_
 refine Calls.mono (show Calls prog 179 #[I6 ((x1348.l).length : Int), .func (.func 180) #[] #[Pt b1360 0, Pt b887 0]] _ (fun e w' => ∃ (z1433 : Int), z1433 = y1435 ∧ e = .returned (.int .i64 z1433) ∧ St w0 w' I896 [cells b892 [v893], cells b887 [U6 a1], ownN nest_mvcc_row v1337 z1336, cells b1360 [U6 x1348.rank, v1356]] R) from ?_) ?_
 {
 clear hm; have hm := hq1436
 refine calls_start (args := [I6 ((x1348.l).length : Int), .func (.func 180) #[] #[Pt b1360 0, Pt b887 0]]) func179 z ntmps179 (Nat.le_of_ble_eq_true z) ?_
 refine wp_seq (wrl (wv (.int .i64 (0:Int)) z z z (wl_nil (tn (wp_seq (wrl (wv (.int .i64 ((x1348.l).length : Int)) z z z (wv (.int .i64 (0:Int)) z z z (wv (.int .i64 ((x1348.l).length : Int)) z z z (wl_nil (tn (wp_seq (wp_block ?_)))))))))))))
 obtain ⟨n1408, hm⟩ := loopO_some hm
 refine wp_loop_n (fun n a w => ∃ (z1405 : Int) (z1406 : Int) (σ1407 : Nat → Value), loopN (mvcc_Store_Trim_l2 x1348 a1) n (z1405, z1406) = some y1435 ∧ a = Fr 26 (upd (upd (upd σ1407 1 (.func (.func 180) #[] #[Pt b1360 0, Pt b887 0])) 5 (.int .i64 z1405)) 6 (.int .i64 z1406)) ∧ St w0 w I896 [cells b1360 [U6 x1348.rank, v1356], ownN nest_mvcc_row v1337 z1336, cells b892 [v893], cells b887 [U6 a1]] R) n1408 ⟨(0:Int), ((x1348.l).length : Int), _, hm, (fu 1 (.func (.func 180) #[] #[Pt b1360 0, Pt b887 0]) z (fu 5 (.int .i64 (0:Int)) z (fu 6 (.int .i64 ((x1348.l).length : Int)) z z))), hst⟩ ?_
 rintro n1414 _ w1409 ⟨z1405, z1406, σ1407, hm, rfl, hst⟩
 obtain ⟨n1411, y1412, rfl, hm, hx1413⟩ := loopN_some hm
 dsimp only [mvcc_Store_Trim_l2] at hm
 refine wp_seq (wp_seq (wrl (wv (.int .i64 z1405) z z z (wv (.int .i64 z1406) z z z (wv (.bool (decide (z1405 < z1406))) z z z (wl_nil (tn ?_)))))))
 refine bsplit (decide (z1405 < z1406)) (fun hc1415 => ?_) (fun hc1415 => ?_)
 {
 replace hm := bif_t hc1415 hm
 refine wp_ift (cvb hc1415) ?_
 refine wp_skip (tn (wp_block (wp_seq (wrl ?_))))
 refine wv (.int .i64 z1405) z z z (wv (.int .i64 z1406) z z z (wv (.int .i64 (i64.wrap (z1405 + z1406))) z z z (wv (.int .u64 (u64.wrap (i64.wrap (z1405 + z1406)))) z z (by kernel_rfl) (wv (.int .u64 (iShr .u64 (u64.wrap (i64.wrap (z1405 + z1406))) (1:Int))) z z (x_shr (by decide) z z) (wv (.int .i64 (i64.wrap (iShr .u64 (u64.wrap (i64.wrap (z1405 + z1406))) (1:Int)))) z z (by kernel_rfl) (wv (.int .i64 (i64.wrap (iShr .u64 (u64.wrap (i64.wrap (z1405 + z1406))) (1:Int)))) z z z (wl_nil (tn (wp_seq (wrl (wv (.func (.func 180) #[] #[Pt b1360 0, Pt b887 0]) z z z (wv (.int .i64 (i64.wrap (iShr .u64 (u64.wrap (i64.wrap (z1405 + z1406))) (1:Int)))) z z z ?_))))))))))))
 obtain ⟨y1429, hq1430, hm⟩ := bind_some hm
 refine wl_call z z (x_callv call180 (caps := [Pt b1360 0, Pt b887 0]) z (vs := [I6 (i64.wrap (iShr .u64 (u64.wrap (i64.wrap (z1405 + z1406))) (1:Int)))]) z) ?_
 refine Calls.mono (show Calls prog 180 #[I6 (i64.wrap (iShr .u64 (u64.wrap (i64.wrap (z1405 + z1406))) (1:Int))), Pt b1360 0, Pt b887 0] _ (fun e w' => ∃ (z1427 : Bool), z1427 = y1429 ∧ e = .returned (.bool z1427) ∧ St w0 w' I896 [cells b892 [v893], cells b887 [U6 a1], ownN nest_mvcc_row v1337 z1336, cells b1360 [U6 x1348.rank, v1356]] R) from ?_) ?_
 {
 clear hm; have hm := hq1430
 refine calls_start (args := [I6 (i64.wrap (iShr .u64 (u64.wrap (i64.wrap (z1405 + z1406))) (1:Int))), Pt b1360 0, Pt b887 0]) func180 z ntmps180 (Nat.le_of_ble_eq_true z) ?_
 refine wp_seq (wrl (wv (.bool false) z z z (wl_nil (tn (wp_seq ?_)))))
 refine wq_regionS hst Tryz.mixed (by kernel_rfl) ?_
 refine wq_run (v := Pt b1360 1) z z (fun w hst => x_field z underlying240 z sizeOf238 z) ?_
 refine wq_run (v := v1356) z z (fun w hst => x_load z isAgg238 (hst.bc0 z)) ?_
 refine wq_run (v := .int .i64 (i64.wrap (iShr .u64 (u64.wrap (i64.wrap (z1405 + z1406))) (1:Int)))) z z (fun w hst => z) ?_
 obtain ⟨x1416, hx1417, hm⟩ := bind_some hm
 obtain ⟨h1418, h1419, hi1420⟩ := geto_some hx1417
 refine wq_run (v := .pointer (some (eAddr v1356 ((i64.wrap (iShr .u64 (u64.wrap (i64.wrap (z1405 + z1406))) (1:Int))).toNat * 4 + 0)))) z z (fun w hst => x_index z z underlying238 sizeOf214 (ro_sliceV f1357) h1418 h1419) ?_
 refine wq_run (v := .pointer (some (eAddr v1356 ((i64.wrap (iShr .u64 (u64.wrap (i64.wrap (z1405 + z1406))) (1:Int))).toNat * 4 + 0)))) z z (fun w hst => x_field_e z underlying214 z sizeOf26 z) ?_
 obtain ⟨cs1421, hr1422, hc1423⟩ := Ro.getF f1357 hi1420
 obtain ⟨v1424, rfl, f1425, -⟩ := hr1422
 refine wq_run (v := .int .u64 x1416.Epoch) z z (fun w hst => x_load z isAgg26 ((hc1423 (HL.le.refl _) hst) 0 _ z)) ?_
 refine wq_run (v := .int .u64 a1) z z (fun w hst => x_load z isAgg26 (hst.bc3 z)) ?_
 refine wq_run (v := .bool (decide (x1416.Epoch > a1))) z z (fun w hst => z) ?_
 refine wq_run (v := .bool (decide (x1416.Epoch > a1))) z z (fun w hst => z) ?_
 refine wq_nil ?_
 intro w hst
 refine tn (wp_ret ?_)
 refine post_ret (vs := [.bool (decide (x1416.Epoch > a1))]) results180 (rvs_cons (rv_tmp z) rvs_nil) ?_
 replace hst := hst.pull1.pull3.pull3.keep4
 obtain rfl := some_inj hm
 exact ⟨(decide (x1416.Epoch > a1)), z, z, hst⟩
}
 clear hst
 rintro _ w1431 ⟨z1427, rfl, rfl, hst⟩
 refine ⟨_, z, ?_⟩
 try dsimp only at hm
 refine wv (.bool (!z1427)) z z z (wl_nil (tn ?_))
 refine bsplit (!z1427) (fun hc1432 => ?_) (fun hc1432 => ?_)
 {
 replace hm := bif_t hc1432 hm
 refine wp_ift (cvb hc1432) ?_
 refine wrl (wv (.int .i64 (i64.wrap (iShr .u64 (u64.wrap (i64.wrap (z1405 + z1406))) (1:Int)))) z z z (wv (.int .i64 (i64.wrap ((i64.wrap (iShr .u64 (u64.wrap (i64.wrap (z1405 + z1406))) (1:Int))) + (1:Int)))) z z z (wv (.int .i64 (i64.wrap ((i64.wrap (iShr .u64 (u64.wrap (i64.wrap (z1405 + z1406))) (1:Int))) + (1:Int)))) z z z (wl_nil (blk_n (tn ?_))))))
 replace hst := hst.pull1.pull1.pull2.pull3.keep4
 obtain rfl := some_inj hm
 exact ⟨_, Nat.lt_succ_self _, (i64.wrap ((i64.wrap (iShr .u64 (u64.wrap (i64.wrap (z1405 + z1406))) (1:Int))) + (1:Int))), z1406, _, hx1413, (fu 1 (.func (.func 180) #[] #[Pt b1360 0, Pt b887 0]) z (fu 5 (.int .i64 (i64.wrap ((i64.wrap (iShr .u64 (u64.wrap (i64.wrap (z1405 + z1406))) (1:Int))) + (1:Int)))) z (fu 6 (.int .i64 z1406) z z))), hst⟩
}
 {
 replace hm := bif_f hc1432 hm
 refine wp_iff (cvb hc1432) ?_
 refine wrl (wv (.int .i64 (i64.wrap (iShr .u64 (u64.wrap (i64.wrap (z1405 + z1406))) (1:Int)))) z z z (wv (.int .i64 (i64.wrap (iShr .u64 (u64.wrap (i64.wrap (z1405 + z1406))) (1:Int)))) z z z (wl_nil (blk_n (tn ?_)))))
 replace hst := hst.pull1.pull1.pull2.pull3.keep4
 obtain rfl := some_inj hm
 exact ⟨_, Nat.lt_succ_self _, z1405, (i64.wrap (iShr .u64 (u64.wrap (i64.wrap (z1405 + z1406))) (1:Int))), _, hx1413, (fu 1 (.func (.func 180) #[] #[Pt b1360 0, Pt b887 0]) z (fu 5 (.int .i64 z1405) z (fu 6 (.int .i64 (i64.wrap (iShr .u64 (u64.wrap (i64.wrap (z1405 + z1406))) (1:Int)))) z z))), hst⟩
}
}
 {
 replace hm := bif_f hc1415 hm
 refine wp_iff (cvb hc1415) ?_
 refine wp_exit (then_x (then_x ?_))
 replace hm := inr_up hm hx1413
 refine blk_x (tn (wp_seq (wrl ?_)))
 refine wv (.int .i64 z1405) z z z (wv (.int .i64 z1405) z z z (wl_nil (tn (wp_ret ?_))))
 refine post_ret (vs := [I6 z1405]) results179 (rvs_cons (rv_tmp z) rvs_nil) ?_
 replace hst := hst.pull1.pull3.pull3.keep4
 obtain rfl := some_inj hm
 exact ⟨z1405, z, z, hst⟩
}
}
 clear hst
 rintro _ w1437 ⟨z1433, rfl, rfl, hst⟩
 refine ⟨_, z, ?_⟩
 try dsimp only at hm
 refine wv (.int .i64 z1433) z z z (wl_nil (tn (wp_seq (wrl (wv (Pt b1360 1) z z (x_field z underlying240 z sizeOf238 z) (wv (v1356) z z (x_load z isAgg238 (hst.bc3 z)) (wv (.int .i64 z1433) z z z (wv (.int .i64 (i64.wrap (z1433 - (1:Int)))) z z z (wv (.int .i64 (if (0:Int) > (i64.wrap (z1433 - (1:Int))) then (0:Int) else (i64.wrap (z1433 - (1:Int))))) z z (by kernel_rfl) ?_)))))))))
 obtain ⟨hg1438, hm⟩ := gd_some hm
 obtain ⟨h1439, h1440, h1441⟩ := fits_of hg1438
 have f1443 : Ro ty_mvcc_Version I896 (slcV 4 v1356 (if (0:Int) > (i64.wrap (z1433 - (1:Int))) then (0:Int) else (i64.wrap (z1433 - (1:Int)))).toNat (((x1348.l).length : Nat) : Int).toNat) (subs x1348.l (if (0:Int) > (i64.wrap (z1433 - (1:Int))) then (0:Int) else (i64.wrap (z1433 - (1:Int)))) (((x1348.l).length : Nat) : Int)) := Ro.part f1357 h1440 h1441 h1439
 refine wv ((slcV 4 v1356 (if (0:Int) > (i64.wrap (z1433 - (1:Int))) then (0:Int) else (i64.wrap (z1433 - (1:Int)))).toNat (((x1348.l).length : Nat) : Int).toNat)) z z (x_slice underlying238 sizeOf214 z (ro_sliceV f1357) h1439 h1440 h1441 .i64 .i64 (.inl z) (.inr ⟨z, z⟩)) ?_
 obtain ⟨t1444, ht1445, hm⟩ := bind_some hm
 refine wc call181 [(slcV 4 v1356 (if (0:Int) > (i64.wrap (z1433 - (1:Int))) then (0:Int) else (i64.wrap (z1433 - (1:Int)))).toNat (((x1348.l).length : Nat) : Int).toNat)] z z z ?_
 refine (slices_Clone_mvcc_Version_mvcc_Version_ref (RdO.of_ro f1443 _) hst.to0 ht1445).mono ?_
 rintro _ w1446 ⟨v1449, rfl, hst⟩
 refine ⟨_, z, ?_⟩
 replace hst := hst.of1
 refine wv (v1449) z z z (wl_nil (tn ?_))
 obtain ⟨y1474, hm, hx1475⟩ := bind_some hm
 refine wp_cut (fun a w => ∃ (z1471 : (List mvcc_Version)) (v1470 : Value) (σ1472 : Nat → Value), (mvcc_Store_Trim_j3 z1336 x1348 z1335) z1471 = some y1344 ∧ a = Fr 57 (upd (upd (upd (upd (upd (upd (upd (upd σ1472 0 (Pt b892 0)) 3 (Pt b887 0)) 4 (v1337)) 6 (Pt b1360 0)) 8 (v1470)) 14 (v893)) 15 (.int .i64 ((o0.rows).length : Int))) 16 (.int .i64 z1335)) ∧ St w0 w I896 [cells b892 [v893], cells b887 [U6 a1], ownN nest_mvcc_row v1337 z1336, cells b1360 [U6 x1348.rank, v1356], ownS ty_mvcc_Version v1470 z1471] R) ?_ ?_
 {
 refine wp_seq (wrl (wv (.int .i64 z1433) z z z (wv (.bool (decide (z1433 > (0:Int)))) z z z (wv (.bool (decide (z1433 > (0:Int)))) z z z ?_))))
 refine bsplit (decide (z1433 > (0:Int))) (fun hc1451 => ?_) (fun hc1451 => ?_)
 {
 replace hm := bif_t hc1451 hm
 refine wv (v1449) ((wanted_eq z z z (cvb hc1451)).trans z) z z ?_
 obtain ⟨x1452, hx1453, hm⟩ := bind_some hm
 obtain ⟨h1454, h1455, hi1456⟩ := geto_some hx1453
 refine wv (.pointer (some (eAddr v1449 ((0:Int).toNat * 4 + 0)))) ((wanted_eq z z z (cvb hc1451)).trans z) z (x_index z z underlying238 sizeOf214 hst.sv0 h1454 h1455) (wv (.pointer (some (eAddr v1449 ((0:Int).toNat * 4 + 2)))) ((wanted_eq z z z (cvb hc1451)).trans z) z (x_field_e z underlying214 z sizeOf4 z) ?_)
 obtain ⟨cs1457, hr1458, hc1459⟩ := hst.og0 hi1456
 obtain ⟨v1460, rfl, f1461, -⟩ := hr1458
 refine wv (.bool x1452.Del) ((wanted_eq z z z (cvb hc1451)).trans z) z (x_load z isAgg4 (hc1459 2 _ z)) (wv (.bool x1452.Del) z z (x_pick_t hc1451 z z) (wl_nil (tn ?_)))
 refine bsplit x1452.Del (fun hc1463 => ?_) (fun hc1463 => ?_)
 {
 replace hm := bif_t hc1463 hm
 refine wp_ift (cvb hc1463) ?_
 refine wrl (wv (v1449) z z z ?_)
 obtain ⟨hg1464, hm⟩ := gd_some hm
 obtain ⟨h1465, h1466, h1467⟩ := fits_of hg1464
 refine wv ((slcV 4 v1449 (1:Int).toNat (((t1444).length : Nat) : Int).toNat)) z z (x_slice underlying238 sizeOf214 z hst.sv0 h1465 h1466 h1467 .i64 .i64 (.inl z) (.inr ⟨z, z⟩)) ?_
 replace hst := hst.own_part h1466 h1467 h1465
 refine wv ((slcV 4 v1449 (1:Int).toNat (((t1444).length : Nat) : Int).toNat)) z z z (wl_nil (tn ?_))
 replace hst := hst.pull4.pull4.pull4.pull4.keep5
 obtain rfl := some_inj hm
 exact ⟨(subs t1444 (1:Int) (((t1444).length : Nat) : Int)), (slcV 4 v1449 (1:Int).toNat (((t1444).length : Nat) : Int).toNat), _, hx1475, (fu 0 (Pt b892 0) z (fu 3 (Pt b887 0) z (fu 4 v1337 z (fu 6 (Pt b1360 0) z (fu 8 (slcV 4 v1449 (1:Int).toNat (((t1444).length : Nat) : Int).toNat) z (fu 14 v893 z (fu 15 (.int .i64 ((o0.rows).length : Int)) z (fu 16 (.int .i64 z1335) z z)))))))), hst⟩
}
 {
 replace hm := bif_f hc1463 hm
 refine wp_iff (cvb hc1463) ?_
 refine wp_skip (tn ?_)
 replace hst := hst.pull4.pull4.pull4.pull4.keep5
 obtain rfl := some_inj hm
 exact ⟨t1444, v1449, _, hx1475, (fu 0 (Pt b892 0) z (fu 3 (Pt b887 0) z (fu 4 v1337 z (fu 6 (Pt b1360 0) z (fu 8 v1449 z (fu 14 v893 z (fu 15 (.int .i64 ((o0.rows).length : Int)) z (fu 16 (.int .i64 z1335) z z)))))))), hst⟩
}
}
 {
 replace hm := bif_f hc1451 hm
 refine wo hc1451 z z z z z z (wo hc1451 z z z z z z (wo hc1451 z z z z z z (wo hc1451 z z z z z z (wv (.bool false) z z (x_pick_f hc1451 z z) (wl_nil (tn ?_))))))
 refine wp_iff z ?_
 refine wp_skip (tn ?_)
 replace hst := hst.pull4.pull4.pull4.pull4.keep5
 obtain rfl := some_inj hm
 exact ⟨t1444, v1449, _, hx1475, (fu 0 (Pt b892 0) z (fu 3 (Pt b887 0) z (fu 4 v1337 z (fu 6 (Pt b1360 0) z (fu 8 v1449 z (fu 14 v893 z (fu 15 (.int .i64 ((o0.rows).length : Int)) z (fu 16 (.int .i64 z1335) z z)))))))), hst⟩
}
}
 {
 clear hst
 rintro _ w1476 ⟨z1471, v1470, σ1472, hm, rfl, hst⟩
 dsimp only [mvcc_Store_Trim_j3] at hm
 refine wp_seq (wrl (wv (v1470) z z z (wv (.int .i64 ((z1471).length : Int)) z z (x_len z underlying238 hst.sv4) (wv (.bool (decide (((z1471).length : Int) > (0:Int)))) z z z (wl_nil (tn ?_))))))
 refine bsplit (decide (((z1471).length : Int) > (0:Int))) (fun hc1477 => ?_) (fun hc1477 => ?_)
 {
 replace hm := bif_t hc1477 hm
 refine wp_ift (cvb hc1477) ?_
 refine wrl (wv (v1337) z z z (wv (Pt b1360 0) z z (x_field z underlying240 z sizeOf26 z) (wv (.int .u64 x1348.rank) z z (x_load z isAgg26 (hst.bc3 z)) (wv (v1470) z z z (wv (.agg #[U6 x1348.rank, v1470]) z z (by obtain ⟨_, _, hv_, _⟩ := hst.sv4; rw [hv_]; kernel_rfl) ?_)))))
 replace hst := hst.pull4
 have hv1485 := hst.sv0
 obtain ⟨b1480, w1481, ew1482, eb1483, hst⟩ := hst.nest_one (N := nest_mvcc_row) (x := ({ rank := x1348.rank, l := z1471 } : mvcc_row)) 240
 refine wl_run (v := (.slice (some ⟨b1480, 0, none⟩) 1 1)) (w' := w1481) z z (x_als (by obtain ⟨_, _, hv_, _⟩ := hv1485; rw [hv_]; kernel_rfl) ew1482 eb1483) ?_
 obtain ⟨hg1486, hm⟩ := gd_some hm
 replace hst := hst.pull3.pull1.pull1
 obtain ⟨v1487, w1488, hr1489, hst⟩ := run_appN (N := nest_mvcc_row) elemN_199 underlying199 hst (room_of hg1486 z) 199
 refine wl_run (v := v1487) (w' := w1488) z z (x_append z z hr1489) ?_
 refine wv (v1487) z z z (wl_nil (blk_n (tn (wrl (wv (.int .i64 (i64.wrap (z1335 + (1:Int)))) z z z (wv (.int .i64 (i64.wrap (z1335 + (1:Int)))) z z z (wl_nil (tn ?_))))))))
 replace hst := hst.pull2.pull2.pull2.keep3
 obtain rfl := some_inj hm
 exact ⟨_, Nat.lt_succ_self _, (i64.wrap (z1335 + (1:Int))), (z1336 ++ ([({ rank := x1348.rank, l := z1471 } : mvcc_row)])), v1487, _, hx1345, (fu 0 (Pt b892 0) z (fu 3 (Pt b887 0) z (fu 4 v1487 z (fu 14 v893 z (fu 15 (.int .i64 ((o0.rows).length : Int)) z (fu 16 (.int .i64 (i64.wrap (z1335 + (1:Int)))) z z)))))), hst⟩
}
 {
 replace hm := bif_f hc1477 hm
 refine wp_iff (cvb hc1477) ?_
 refine wp_skip (blk_n (tn (wrl ?_)))
 refine wv (.int .i64 (i64.wrap (z1335 + (1:Int)))) z z z (wv (.int .i64 (i64.wrap (z1335 + (1:Int)))) z z z (wl_nil (tn ?_)))
 replace hst := hst.pull1.pull1.pull2.keep3
 obtain rfl := some_inj hm
 exact ⟨_, Nat.lt_succ_self _, (i64.wrap (z1335 + (1:Int))), z1336, v1337, _, hx1345, (fu 0 (Pt b892 0) z (fu 3 (Pt b887 0) z (fu 4 v1337 z (fu 14 v893 z (fu 15 (.int .i64 ((o0.rows).length : Int)) z (fu 16 (.int .i64 (i64.wrap (z1335 + (1:Int)))) z z)))))), hst⟩
}
}
}
 {
 replace hm := bif_f hc1347 hm
 refine wp_iff (cvb hc1347) ?_
 refine wp_exit (then_x (then_x ?_))
 replace hm := inr_up hm hx1345
 refine blk_x (tn ?_)
 replace hst := hst.pull1.keep2
 obtain rfl := some_inj hm
 exact ⟨_, z1336, v1337, _, hx1499, (fu 0 (Pt b892 0) z (fu 4 v1337 z z)), hL1500, f898, hst⟩
}
}
 {
 clear hst
 rintro _ w1501 ⟨I1495, z1494, v1493, σ1496, hm, rfl, hL1497, f1491, hst⟩
 dsimp only [mvcc_Store_Trim_j0] at hm
 replace hI0 := hI0.trans hL1497
 refine wrl (wv (Pt b892 0) z z z (wv (v1493) z z z (wv (Pt b892 0) z z z (wv (Pt b892 0) z z (x_field z underlying201 z sizeOf199 z) ?_))))
 obtain ⟨w1502, hr1503, hst⟩ := hst.boxStore1 (P := prog) (t := 199) (cs' := [v1493]) 0 v1493 (one_of_sliceV (hst.nestsv 1 z)) sizeOf199 z z
 refine wl_unit z z (x_unit hr1503) ?_
 refine wl_nil ?_
 replace hst := hst.pull1.pull1
 replace hst := at_mvcc_Store_close (pv := Pt b892 0) (x := ({ rows := z1494 } : mvcc_Store)) hst z
 replace hst := objO_some hst
 obtain rfl := some_inj hm
 refine post_end (vs := []) results121 rvs_nil ?_
 exact ⟨_, z, hI0, hst.keep1⟩
}
}
}

theorem lane_State_shut_ref {w0 w : World} {I : HL} {R : SP} {a0 : (Option lane_State)} {p0 : Value} {a1 : api_Command} {r1_0 : Value} {r1_1 : Value} {r1_2 : Value} {r1_3 : Value} {r1_4 : Value} {r1_5 : Value} {r1_6 : Value} {r1_7 : Value} (f1_0 : Rd tyF64 R I r1_0 a1.Hold.Gets) (f1_1 : Rd tyF2 R I r1_1 a1.Hold.Scans) (f1_2 : Rd tyF64 R I r1_2 a1.Hold.Puts) (f1_3 : Rd (tyInt .u8) R I r1_3 a1.Hold.Data) (f1_4 : Rd ty_api_Write R I r1_4 a1.Writes) (f1_5 : Rd ty_api_Got R I r1_5 a1.R.Gots) (f1_6 : Rd (tySl ty_api_Pair) R I r1_6 a1.R.Scans) (f1_7 : Rd ty_api_Part R I r1_7 a1.Parts) (hst : St w0 w I [objO at_lane_State p0 a0] R) {r : (api_Effect × (Option lane_State))} (hm : lane_State_shut a0 a1 = some r) :
  Calls prog 47 #[p0, .agg #[U1 a1.Kind, U6 a1.ID.Session, U6 a1.ID.Seq, U6 a1.Epoch, U6 a1.Index, I6 a1.E, U6 a1.Hold.ID.Session, U6 a1.Hold.ID.Seq, U6 a1.Hold.Epoch, r1_0, r1_1, r1_2, r1_3, r1_4, I6 a1.R.E, U6 a1.R.Epoch, U6 a1.R.Index, r1_5, r1_6, U6 a1.Shards, r1_7, U6 a1.Rule.ID, I6 a1.Rule.From, I6 a1.Rule.To, F6 a1.Rule.Lo, F6 a1.Rule.Hi, U6 a1.Rule.Authority, I6 a1.Rule.Quota, .bool a1.On]] w fun e w' => ∃ (I' : HL) (q0_0 : Value) (q0_1 : Value), e = .returned (.agg #[U1 r.1.Kind, U6 r.1.ID.Session, U6 r.1.ID.Seq, I6 r.1.R.E, U6 r.1.R.Epoch, U6 r.1.R.Index, q0_0, q0_1]) ∧ I.le I' ∧ St w0 w' I' [ownS ty_api_Got q0_0 r.1.R.Gots, ownS (tySl ty_api_Pair) q0_1 r.1.R.Scans, objO at_lane_State p0 r.2] R := by {
 rcases a0 with _ | o0
 {
 obtain ⟨rfl, hst'⟩ := objO_none hst
 clear hst
 have hst := hst'
 clear hst'
 dsimp only [lane_State_shut] at hm
 refine calls_start (args := [.pointer none, .agg #[U1 a1.Kind, U6 a1.ID.Session, U6 a1.ID.Seq, U6 a1.Epoch, U6 a1.Index, I6 a1.E, U6 a1.Hold.ID.Session, U6 a1.Hold.ID.Seq, U6 a1.Hold.Epoch, r1_0, r1_1, r1_2, r1_3, r1_4, I6 a1.R.E, U6 a1.R.Epoch, U6 a1.R.Index, r1_5, r1_6, U6 a1.Shards, r1_7, U6 a1.Rule.ID, I6 a1.Rule.From, I6 a1.Rule.To, F6 a1.Rule.Lo, F6 a1.Rule.Hi, U6 a1.Rule.Authority, I6 a1.Rule.Quota, .bool a1.On]]) func47 z ntmps47 (Nat.le_of_ble_eq_true z) ?_
 have hI0 := HL.le.refl I
 refine wp_seq (wrl ?_)
 obtain ⟨b280, w281, ew282, eb283, hst⟩ := hst.box [U1 a1.Kind, U6 a1.ID.Session, U6 a1.ID.Seq, U6 a1.Epoch, U6 a1.Index, I6 a1.E, U6 a1.Hold.ID.Session, U6 a1.Hold.ID.Seq, U6 a1.Hold.Epoch, r1_0, r1_1, r1_2, r1_3, r1_4, I6 a1.R.E, U6 a1.R.Epoch, U6 a1.R.Index, r1_5, r1_6, U6 a1.Shards, r1_7, U6 a1.Rule.ID, I6 a1.Rule.From, I6 a1.Rule.To, F6 a1.Rule.Lo, F6 a1.Rule.Hi, U6 a1.Rule.Authority, I6 a1.Rule.Quota, .bool a1.On] 49
 refine wl_run (v := Pt b280 0) (w' := w281) z z (x_al (by kernel_rfl) ew282 eb283) ?_
 obtain ⟨b287, w288, ew289, eb290, hst⟩ := hst.box [Zb, Zu, Zu, Zi, Zu, Zu, Zs, Zs] 35
 refine wl_run (v := Pt b287 0) (w' := w288) z z (x_al (by kernel_rfl) ew289 eb290) ?_
 refine wl_nil (tn (wp_seq (wp_seq ?_)))
 refine wp_region_St hst 12 [0, 1, 2, 3, 4, 5, 6, 7, 8, 9, 10, 11] [0, 1, 0, 4, 12, 28, 63, 127, 255, 511, 1023, 2047] [] z (by kernel_rfl) (by kernel_rfl) Tryz.mixed (by kernel_rfl) ?_
 refine wsr (Pt b280 3) 0 z z z (by kernel_rfl) (fun w hst => x_field z underlying49 z sizeOf26 z) (wsr (.int .u64 a1.Epoch) 1 z z z (by kernel_rfl) (fun w hst => x_load z isAgg26 (hst.bc1 z)) (wsr (.pointer none) 2 z z z (by kernel_rfl) (fun w hst => z) ?_))
 cases hm
}
 {
 replace hst := objO_get hst
 dsimp only [lane_State_shut] at hm
 refine calls_start (args := [p0, .agg #[U1 a1.Kind, U6 a1.ID.Session, U6 a1.ID.Seq, U6 a1.Epoch, U6 a1.Index, I6 a1.E, U6 a1.Hold.ID.Session, U6 a1.Hold.ID.Seq, U6 a1.Hold.Epoch, r1_0, r1_1, r1_2, r1_3, r1_4, I6 a1.R.E, U6 a1.R.Epoch, U6 a1.R.Index, r1_5, r1_6, U6 a1.Shards, r1_7, U6 a1.Rule.ID, I6 a1.Rule.From, I6 a1.Rule.To, F6 a1.Rule.Lo, F6 a1.Rule.Hi, U6 a1.Rule.Authority, I6 a1.Rule.Quota, .bool a1.On]]) func47 z ntmps47 (Nat.le_of_ble_eq_true z) ?_
 have hI0 := HL.le.refl I
 refine wp_seq (wrl ?_)
 obtain ⟨b292, w293, ew294, eb295, hst⟩ := hst.box [U1 a1.Kind, U6 a1.ID.Session, U6 a1.ID.Seq, U6 a1.Epoch, U6 a1.Index, I6 a1.E, U6 a1.Hold.ID.Session, U6 a1.Hold.ID.Seq, U6 a1.Hold.Epoch, r1_0, r1_1, r1_2, r1_3, r1_4, I6 a1.R.E, U6 a1.R.Epoch, U6 a1.R.Index, r1_5, r1_6, U6 a1.Shards, r1_7, U6 a1.Rule.ID, I6 a1.Rule.From, I6 a1.Rule.To, F6 a1.Rule.Lo, F6 a1.Rule.Hi, U6 a1.Rule.Authority, I6 a1.Rule.Quota, .bool a1.On] 49
 refine wl_run (v := Pt b292 0) (w' := w293) z z (x_al (by kernel_rfl) ew294 eb295) ?_
 obtain ⟨b299, w300, ew301, eb302, hst⟩ := hst.box [Zb, Zu, Zu, Zi, Zu, Zu, Zs, Zs] 35
 refine wl_run (v := Pt b299 0) (w' := w300) z z (x_al (by kernel_rfl) ew301 eb302) ?_
 refine wl_nil (tn (wp_seq (wp_seq ?_)))
 replace hst := hst.pull2
 obtain ⟨b304, v305, v307, v309, v311, v313, v315, v317, rfl, hst'⟩ := at_lane_State_open hst
 clear hst
 have hst := hst'
 clear hst'
 refine wp_region_St hst 12 [0, 1, 2, 3, 4, 5, 6, 7, 8, 9, 10, 11] [0, 1, 0, 4, 12, 28, 63, 127, 255, 511, 1023, 2047] [] z (by kernel_rfl) (by kernel_rfl) Tryz.mixed (by kernel_rfl) ?_
 refine wsr (Pt b292 3) 0 z z z (by kernel_rfl) (fun w hst => x_field z underlying49 z sizeOf26 z) (wsr (.int .u64 a1.Epoch) 1 z z z (by kernel_rfl) (fun w hst => x_load z isAgg26 (hst.bc9 z)) (wsr (Pt b304 0) 2 z z z (by kernel_rfl) (fun w hst => z) (wsr (Pt b304 0) 3 z z z (by kernel_rfl) (fun w hst => z) (wsr (Pt b304 1) 4 z z z (by kernel_rfl) (fun w hst => x_field z underlying111 z sizeOf26 z) (wsr (.int .u64 o0.epoch) 5 z z z (by kernel_rfl) (fun w hst => x_load z isAgg26 (hst.bc0 z)) (wsr (.bool (a1.Epoch != o0.epoch)) 6 z z z (by kernel_rfl) (fun w hst => z) (wsr (.bool (a1.Epoch != o0.epoch)) 7 z z z (by kernel_rfl) (fun w hst => z) ?_)))))))
 refine bsplit (a1.Epoch != o0.epoch) (fun hc319 => ?_) (fun hc319 => ?_)
 {
 replace hm := bif_t hc319 hm
 refine ws_q (v := undef) 8 [9, 10, 11] (by kernel_rfl) z z (yi_off ((wanted_eq z z z (cvb hc319)).trans z)) (ws_q (v := undef) 9 [10, 11] (by kernel_rfl) z z (yi_off ((wanted_eq z z z (cvb hc319)).trans z)) (ws_q (v := undef) 10 [11] (by kernel_rfl) z z (yi_off ((wanted_eq z z z (cvb hc319)).trans z)) (wsr (.bool true) 11 z z z (by kernel_rfl) (fun w hst => x_pick_t hc319 z z) ?_)))
 refine ws_nil ?_
 intro w hst
 refine tn ?_
 refine wp_ift z ?_
 refine wp_seq (wrl (wv (.agg #[Zb, Zu, Zu, Zi, Zu, Zu, Zs, Zs]) z z (by kernel_rfl) ?_))
 replace hst := hst.pull8
 obtain ⟨w322, hr323, hst⟩ := hst.bx [Zb, Zu, Zu, Zi, Zu, Zu, Zs, Zs] sizeOf35 z (oC z (oC z (oC z (oC z (oC z (oC z (oC z (oC z oN)))))))) (by kernel_rfl)
 refine wl_unit z z (x_unit hr323) ?_
 refine wl_nil (tn (wp_ret (then_r ?_)))
 replace hst := hst.own_nil ty_api_Got
 replace hst := hst.own_nil (tySl ty_api_Pair)
 replace hst := hst.pull10.pull10.pull10.pull10.pull10.pull10.pull10.pull10
 replace hst := at_lane_State_close (pv := Pt b304 0) (x := o0) hst z
 replace hst := objO_some hst
 obtain rfl := some_inj hm
 refine post_ret (vs := [.agg #[Zb, Zu, Zu, Zi, Zu, Zu, Zs, Zs]]) results47 (rvs_cons (rv_cell (cs := [Zb, Zu, Zu, Zi, Zu, Zu, Zs, Zs]) z isAgg35 sizeOf35 (hst.bcs3 0 z)) rvs_nil) ?_
 replace hst := hst.pull1.pull2
 exact ⟨_, Zs, Zs, z, hI0, hst.keep3⟩
}
 {
 replace hm := bif_f hc319 hm
 refine ws_q (v := Pt b304 0) 8 [9, 10, 11] (by kernel_rfl) z z (yi_run ((wanted_eq z z z (cvb hc319)).trans z) (fun w hst => z)) ?_
 refine ws_e1 9 (by kernel_rfl) ?_
 refine nxe [10, 11] (by kernel_rfl) z ((wanted_eq z z z (cvb hc319)).trans z) ?_
 clear hst
 intro w hst
 replace hst := hst.pull7.pull7.pull7.pull7.pull7.pull7.pull7.pull7
 replace hst := at_lane_State_close (pv := Pt b304 0) (x := o0) hst z
 replace hst := objO_some hst
 obtain ⟨t324, ht325, hm⟩ := bind_some hm
 refine wec call85 [Pt b304 0] z z ?_
 refine (lane_State_May_ref hst.to1 ht325).mono ?_
 rintro _ w326 ⟨rfl, hst⟩
 refine ⟨_, z, ?_⟩
 replace hst := hst.of1
 replace hst := objO_get hst
 refine ws_next (pend' := []) hst (by kernel_rfl) pk_nil ?_
 refine ws_q (v := .bool (!t324)) 10 [11] (by kernel_rfl) z z (yi_run ((wanted_eq z z z (cvb hc319)).trans z) (fun w hst => z)) (wsr (.bool (!t324)) 11 z z z (by kernel_rfl) (fun w hst => x_pick_f hc319 z z) ?_)
 refine ws_nil ?_
 intro w hst
 refine tn ?_
 refine bsplit (!t324) (fun hc329 => ?_) (fun hc329 => ?_)
 {
 replace hm := bif_t hc329 hm
 refine wp_ift (cvb hc329) ?_
 refine wp_seq (wrl (wv (.agg #[Zb, Zu, Zu, Zi, Zu, Zu, Zs, Zs]) z z (by kernel_rfl) ?_))
 replace hst := hst.pull1
 obtain ⟨w332, hr333, hst⟩ := hst.bx [Zb, Zu, Zu, Zi, Zu, Zu, Zs, Zs] sizeOf35 z (oC z (oC z (oC z (oC z (oC z (oC z (oC z (oC z oN)))))))) (by kernel_rfl)
 refine wl_unit z z (x_unit hr333) ?_
 refine wl_nil (tn (wp_ret (then_r ?_)))
 replace hst := hst.own_nil ty_api_Got
 replace hst := hst.own_nil (tySl ty_api_Pair)
 replace hst := hst.pull3
 replace hst := objO_some hst
 obtain rfl := some_inj hm
 refine post_ret (vs := [.agg #[Zb, Zu, Zu, Zi, Zu, Zu, Zs, Zs]]) results47 (rvs_cons (rv_cell (cs := [Zb, Zu, Zu, Zi, Zu, Zu, Zs, Zs]) z isAgg35 sizeOf35 (hst.bcs3 0 z)) rvs_nil) ?_
 replace hst := hst.pull1.pull2
 exact ⟨_, Zs, Zs, z, hI0, hst.keep3⟩
}
 {
 replace hm := bif_f hc329 hm
 refine wp_iff (cvb hc329) ?_
 refine wp_skip (tn (wp_seq (wrl ?_)))
 refine wv (Pt b304 0) z z z ?_
 obtain ⟨b334, v335, v337, v339, v341, v343, v345, v347, e349, hst'⟩ := at_lane_State_open hst
 clear hst
 have e349 := ptr_inj e349
 subst e349
 have hst := hst'
 clear hst'
 refine wv (Pt b304 0) z z z (wv (Pt b304 1) z z (x_field z underlying111 z sizeOf26 z) (wv (.int .u64 o0.epoch) z z (x_load z isAgg26 (hst.bc0 z)) (wv (.int .u64 (u64.wrap (o0.epoch + (1:Int)))) z z z (wv (Pt b304 0) z z z (wv (Pt b304 1) z z (x_field z underlying111 z sizeOf26 z) ?_)))))
 obtain ⟨w350, hr351, hst⟩ := hst.by_ [I6 o0.wide, U6 (u64.wrap (o0.epoch + (1:Int))), v335, v337, v339, v341, v343, v345, v347] 1 (.int .u64 (u64.wrap (o0.epoch + (1:Int)))) sizeOf26 z (oC z oN) (by kernel_rfl)
 refine wl_unit z z (x_unit hr351) ?_
 refine wl_nil (tn (wp_seq (wp_seq (wrl (wv (Pt b304 0) z z z (wv (Pt b304 0) z z z (wv (Pt b304 1) z z (x_field z underlying111 z sizeOf26 z) (wv (.int .u64 (u64.wrap (o0.epoch + (1:Int)))) z z (x_load z isAgg26 (hst.bc0 z)) (wv (.bool (decide ((u64.wrap (o0.epoch + (1:Int))) > (9:Int)))) z z z (wl_nil (tn ?_)))))))))))
 refine bsplit (decide ((u64.wrap (o0.epoch + (1:Int))) > (9:Int))) (fun hc352 => ?_) (fun hc352 => ?_)
 {
 replace hm := bif_t hc352 hm
 refine wp_ift (cvb hc352) ?_
 refine wp_region_St hst 11 [0, 1, 2, 3, 4, 5, 6, 7, 8, 9, 10] [0, 1, 3, 7, 0, 16, 48, 112, 240, 496, 1023] [] z (by kernel_rfl) (by kernel_rfl) Tryz.mixed (by kernel_rfl) ?_
 refine wsr (Pt b304 0) 0 z z z (by kernel_rfl) (fun w hst => z) (wsr (Pt b304 0) 1 z z z (by kernel_rfl) (fun w hst => z) (wsr (Pt b304 2) 2 z z z (by kernel_rfl) (fun w hst => x_field z underlying111 z sizeOf101 z) (wsr (v335) 3 z z z (by kernel_rfl) (fun w hst => x_load z isAgg101 (hst.bc0 z)) (wsr (Pt b304 0) 4 z z z (by kernel_rfl) (fun w hst => z) (wsr (Pt b304 0) 5 z z z (by kernel_rfl) (fun w hst => z) (wsr (Pt b304 1) 6 z z z (by kernel_rfl) (fun w hst => x_field z underlying111 z sizeOf26 z) (wsr (.int .u64 (u64.wrap (o0.epoch + (1:Int)))) 7 z z z (by kernel_rfl) (fun w hst => x_load z isAgg26 (hst.bc0 z)) (wsr (.int .u64 (u64.wrap ((u64.wrap (o0.epoch + (1:Int))) - (1:Int)))) 8 z z z (by kernel_rfl) (fun w hst => z) (wsr (.int .u64 (u64.wrap ((u64.wrap ((u64.wrap (o0.epoch + (1:Int))) - (1:Int))) - (8:Int)))) 9 z z z (by kernel_rfl) (fun w hst => z) ?_)))))))))
 refine ws_e1 10 (by kernel_rfl) ?_
 refine nxe [] (by kernel_rfl) z z ?_
 clear hst
 intro w hst
 replace hst := hst.pull1
 obtain ⟨t353, ht354, hm⟩ := bind_some hm
 refine wec call121 [v335, U6 (u64.wrap ((u64.wrap ((u64.wrap (o0.epoch + (1:Int))) - (1:Int))) - (8:Int)))] z z ?_
 refine (mvcc_Store_Trim_ref hst.to1 ht354).mono ?_
 rintro _ w355 ⟨I356, rfl, hI357, hst⟩
 refine ⟨_, z, ?_⟩
 replace hst := hst.of1
 replace f1_0 := f1_0.mono (rd_le hI357)
 replace f1_1 := f1_1.mono (rd_le hI357)
 replace f1_2 := f1_2.mono (rd_le hI357)
 replace f1_3 := f1_3.mono (rd_le hI357)
 replace f1_4 := f1_4.mono (rd_le hI357)
 replace f1_5 := f1_5.mono (rd_le hI357)
 replace f1_6 := f1_6.mono (rd_le hI357)
 replace f1_7 := f1_7.mono (rd_le hI357)
 replace hI0 := hI0.trans hI357
 refine ws_next (pend' := []) hst (by kernel_rfl) pk_nil ?_
 refine ws_nil ?_
 intro w hst
 refine tn (wp_seq (wrl (wv (.agg #[U1 (1:Int), Zu, Zu, Zi, Zu, Zu, Zs, Zs]) z z (by kernel_rfl) ?_)))
 replace hst := hst.pull8
 obtain ⟨w360, hr361, hst⟩ := hst.bx [U1 (1:Int), Zu, Zu, Zi, Zu, Zu, Zs, Zs] sizeOf35 z (oC z (oC z (oC z (oC z (oC z (oC z (oC z (oC z oN)))))))) (by kernel_rfl)
 refine wl_unit z z (x_unit hr361) ?_
 refine wl_nil (tn (wp_ret ?_))
 replace hst := hst.own_nil ty_api_Got
 replace hst := hst.own_nil (tySl ty_api_Pair)
 replace hst := hst.pull10.pull10.pull10.pull10.pull10.pull10.pull9.pull10
 replace hst := at_lane_State_close (pv := Pt b304 0) (x := ({ wide := o0.wide, epoch := (u64.wrap (o0.epoch + (1:Int))), store := t353, locks := o0.locks, last := o0.last, book := o0.book, open_ := o0.open_, out := o0.out, used := o0.used } : lane_State)) hst z
 replace hst := objO_some hst
 obtain rfl := some_inj hm
 refine post_ret (vs := [.agg #[U1 (1:Int), Zu, Zu, Zi, Zu, Zu, Zs, Zs]]) results47 (rvs_cons (rv_cell (cs := [U1 (1:Int), Zu, Zu, Zi, Zu, Zu, Zs, Zs]) z isAgg35 sizeOf35 (hst.bcs3 0 z)) rvs_nil) ?_
 replace hst := hst.pull1.pull2
 exact ⟨_, Zs, Zs, z, hI0, hst.keep3⟩
}
 {
 replace hm := bif_f hc352 hm
 refine wp_iff (cvb hc352) ?_
 refine wp_skip (tn (wp_seq (wrl ?_)))
 refine wv (.agg #[U1 (1:Int), Zu, Zu, Zi, Zu, Zu, Zs, Zs]) z z (by kernel_rfl) ?_
 replace hst := hst.pull8
 obtain ⟨w364, hr365, hst⟩ := hst.bx [U1 (1:Int), Zu, Zu, Zi, Zu, Zu, Zs, Zs] sizeOf35 z (oC z (oC z (oC z (oC z (oC z (oC z (oC z (oC z oN)))))))) (by kernel_rfl)
 refine wl_unit z z (x_unit hr365) ?_
 refine wl_nil (tn (wp_ret ?_))
 replace hst := hst.own_nil ty_api_Got
 replace hst := hst.own_nil (tySl ty_api_Pair)
 replace hst := hst.pull10.pull10.pull10.pull10.pull10.pull10.pull10.pull10
 replace hst := at_lane_State_close (pv := Pt b304 0) (x := ({ wide := o0.wide, epoch := (u64.wrap (o0.epoch + (1:Int))), store := o0.store, locks := o0.locks, last := o0.last, book := o0.book, open_ := o0.open_, out := o0.out, used := o0.used } : lane_State)) hst z
 replace hst := objO_some hst
 obtain rfl := some_inj hm
 refine post_ret (vs := [.agg #[U1 (1:Int), Zu, Zu, Zi, Zu, Zu, Zs, Zs]]) results47 (rvs_cons (rv_cell (cs := [U1 (1:Int), Zu, Zu, Zi, Zu, Zu, Zs, Zs]) z isAgg35 sizeOf35 (hst.bcs3 0 z)) rvs_nil) ?_
 replace hst := hst.pull1.pull2
 exact ⟨_, Zs, Zs, z, hI0, hst.keep3⟩
}
}
}
}
}

theorem mvcc_Store_find_ref {w0 w : World} {I : HL} {R : SP} {a0 : (Option mvcc_Store)} {p0 : Value} {a1 : Int}  (hst : St w0 w I [objO at_mvcc_Store p0 a0] R) {r : (Int × Bool)} (hm : mvcc_Store_find a0 a1 = some r) :
  Calls prog 146 #[p0, U6 a1] w fun e w' => e = .returned (.tuple #[I6 r.1, .bool r.2]) ∧ St w0 w' I [objO at_mvcc_Store p0 a0] R := by {
 rcases a0 with _ | o0
 {
 obtain ⟨rfl, hst'⟩ := objO_none hst
 clear hst
 have hst := hst'
 clear hst'
 dsimp only [mvcc_Store_find] at hm
 refine calls_start (args := [.pointer none, U6 a1]) func146 z ntmps146 (Nat.le_of_ble_eq_true z) ?_
 refine wp_seq (wrl ?_)
 obtain ⟨b392, w393, ew394, eb395, hst⟩ := hst.box [.pointer none] 101
 refine wl_run (v := Pt b392 0) (w' := w393) z z (x_al (by kernel_rfl) ew394 eb395) ?_
 obtain ⟨b397, w398, ew399, eb400, hst⟩ := hst.box [U6 a1] 26
 refine wl_run (v := Pt b397 0) (w' := w398) z z (x_al (by kernel_rfl) ew399 eb400) ?_
 refine wv (.int .i64 (0:Int)) z z z (wv (.bool false) z z z (wl_nil (tn (wp_seq (wp_seq (wrl (wv (.pointer none) z z (x_load z isAgg101 (hst.bc1 z)) (wv (.bool true) z z (by kernel_rfl) (wl_nil (tn ?_))))))))))
 refine wp_ift z ?_
 refine wp_seq (wrl (wv (.int .i64 (0:Int)) z z z (wv (.bool false) z z z (wl_nil (tn (wp_ret (then_r ?_)))))))
 replace hst := hst.objO_nil at_mvcc_Store
 obtain rfl := some_inj hm
 refine post_ret (vs := [Zi, .bool false]) results146 (rvs_cons (rv_tmp z) (rvs_cons (rv_tmp z) rvs_nil)) ?_
 exact ⟨z, hst.keep1⟩
}
 {
 replace hst := objO_get hst
 dsimp only [mvcc_Store_find] at hm
 refine calls_start (args := [p0, U6 a1]) func146 z ntmps146 (Nat.le_of_ble_eq_true z) ?_
 refine wp_seq (wrl ?_)
 obtain ⟨b402, v403, rfl, hst'⟩ := at_mvcc_Store_open hst
 clear hst
 have hst := hst'
 clear hst'
 obtain ⟨b405, w406, ew407, eb408, hst⟩ := hst.box [Pt b402 0] 101
 refine wl_run (v := Pt b405 0) (w' := w406) z z (x_al (by kernel_rfl) ew407 eb408) ?_
 obtain ⟨b410, w411, ew412, eb413, hst⟩ := hst.box [U6 a1] 26
 refine wl_run (v := Pt b410 0) (w' := w411) z z (x_al (by kernel_rfl) ew412 eb413) ?_
 refine wv (.int .i64 (0:Int)) z z z (wv (.bool false) z z z (wl_nil (tn (wp_seq (wp_seq (wrl (wv (Pt b402 0) z z (x_load z isAgg101 (hst.bc1 z)) (wv (.bool false) z z (by kernel_rfl) (wl_nil (tn ?_))))))))))
 refine wp_iff z ?_
 refine wp_skip (tn (wp_seq (wrl ?_)))
 refine wv (Pt b402 0) z z (x_load z isAgg101 (hst.bc1 z)) (wv (Pt b402 0) z z z (wv (Pt b402 0) z z (x_field z underlying201 z sizeOf199 z) (wv (v403) z z (x_load z isAgg199 (hst.bc2 z)) (wv (.int .i64 ((o0.rows).length : Int)) z z (x_len z underlying199 (hst.nestsv 3 z)) (wv (.func (.func 198) #[] #[Pt b405 0, Pt b410 0]) z z (by kernel_rfl) ?_)))))
 obtain ⟨y465, hq466, hm⟩ := bind_some hm
 refine wl_call z z (x_callv call179 (caps := []) z (vs := [I6 ((o0.rows).length : Int), .func (.func 198) #[] #[Pt b405 0, Pt b410 0]]) z) ?_
 refine Calls.mono (show Calls prog 179 #[I6 ((o0.rows).length : Int), .func (.func 198) #[] #[Pt b405 0, Pt b410 0]] _ (fun e w' => ∃ (z463 : Int), z463 = y465 ∧ e = .returned (.int .i64 z463) ∧ St w0 w' I [cells b402 [v403], ownN nest_mvcc_row v403 o0.rows, cells b405 [Pt b402 0], cells b410 [U6 a1]] R) from ?_) ?_
 {
 clear hm; have hm := hq466
 refine calls_start (args := [I6 ((o0.rows).length : Int), .func (.func 198) #[] #[Pt b405 0, Pt b410 0]]) func179 z ntmps179 (Nat.le_of_ble_eq_true z) ?_
 refine wp_seq (wrl (wv (.int .i64 (0:Int)) z z z (wl_nil (tn (wp_seq (wrl (wv (.int .i64 ((o0.rows).length : Int)) z z z (wv (.int .i64 (0:Int)) z z z (wv (.int .i64 ((o0.rows).length : Int)) z z z (wl_nil (tn (wp_seq (wp_block ?_)))))))))))))
 obtain ⟨n444, hm⟩ := loopO_some hm
 refine wp_loop_n (fun n a w => ∃ (z441 : Int) (z442 : Int) (σ443 : Nat → Value), loopN (mvcc_Store_find_l0 o0 a1) n (z441, z442) = some y465 ∧ a = Fr 26 (upd (upd (upd σ443 1 (.func (.func 198) #[] #[Pt b405 0, Pt b410 0])) 5 (.int .i64 z441)) 6 (.int .i64 z442)) ∧ St w0 w I [cells b410 [U6 a1], cells b405 [Pt b402 0], cells b402 [v403], ownN nest_mvcc_row v403 o0.rows] R) n444 ⟨(0:Int), ((o0.rows).length : Int), _, hm, (fu 1 (.func (.func 198) #[] #[Pt b405 0, Pt b410 0]) z (fu 5 (.int .i64 (0:Int)) z (fu 6 (.int .i64 ((o0.rows).length : Int)) z z))), hst⟩ ?_
 rintro n450 _ w445 ⟨z441, z442, σ443, hm, rfl, hst⟩
 obtain ⟨n447, y448, rfl, hm, hx449⟩ := loopN_some hm
 dsimp only [mvcc_Store_find_l0] at hm
 refine wp_seq (wp_seq (wrl (wv (.int .i64 z441) z z z (wv (.int .i64 z442) z z z (wv (.bool (decide (z441 < z442))) z z z (wl_nil (tn ?_)))))))
 refine bsplit (decide (z441 < z442)) (fun hc451 => ?_) (fun hc451 => ?_)
 {
 replace hm := bif_t hc451 hm
 refine wp_ift (cvb hc451) ?_
 refine wp_skip (tn (wp_block (wp_seq (wrl ?_))))
 refine wv (.int .i64 z441) z z z (wv (.int .i64 z442) z z z (wv (.int .i64 (i64.wrap (z441 + z442))) z z z (wv (.int .u64 (u64.wrap (i64.wrap (z441 + z442)))) z z (by kernel_rfl) (wv (.int .u64 (iShr .u64 (u64.wrap (i64.wrap (z441 + z442))) (1:Int))) z z (x_shr (by decide) z z) (wv (.int .i64 (i64.wrap (iShr .u64 (u64.wrap (i64.wrap (z441 + z442))) (1:Int)))) z z (by kernel_rfl) (wv (.int .i64 (i64.wrap (iShr .u64 (u64.wrap (i64.wrap (z441 + z442))) (1:Int)))) z z z (wl_nil (tn (wp_seq (wrl (wv (.func (.func 198) #[] #[Pt b405 0, Pt b410 0]) z z z (wv (.int .i64 (i64.wrap (iShr .u64 (u64.wrap (i64.wrap (z441 + z442))) (1:Int)))) z z z ?_))))))))))))
 obtain ⟨y459, hq460, hm⟩ := bind_some hm
 refine wl_call z z (x_callv call198 (caps := [Pt b405 0, Pt b410 0]) z (vs := [I6 (i64.wrap (iShr .u64 (u64.wrap (i64.wrap (z441 + z442))) (1:Int)))]) z) ?_
 refine Calls.mono (show Calls prog 198 #[I6 (i64.wrap (iShr .u64 (u64.wrap (i64.wrap (z441 + z442))) (1:Int))), Pt b405 0, Pt b410 0] _ (fun e w' => ∃ (z457 : Bool), z457 = y459 ∧ e = .returned (.bool z457) ∧ St w0 w' I [cells b402 [v403], ownN nest_mvcc_row v403 o0.rows, cells b405 [Pt b402 0], cells b410 [U6 a1]] R) from ?_) ?_
 {
 clear hm; have hm := hq460
 refine calls_start (args := [I6 (i64.wrap (iShr .u64 (u64.wrap (i64.wrap (z441 + z442))) (1:Int))), Pt b405 0, Pt b410 0]) func198 z ntmps198 (Nat.le_of_ble_eq_true z) ?_
 refine wp_seq (wrl (wv (.bool false) z z z (wl_nil (tn (wp_seq ?_)))))
 refine wq_regionS hst Tryz.mixed (by kernel_rfl) ?_
 refine wq_run (v := Pt b402 0) z z (fun w hst => x_load z isAgg101 (hst.bc1 z)) ?_
 refine wq_run (v := Pt b402 0) z z (fun w hst => z) ?_
 refine wq_run (v := Pt b402 0) z z (fun w hst => x_field z underlying201 z sizeOf199 z) ?_
 refine wq_run (v := v403) z z (fun w hst => x_load z isAgg199 (hst.bc2 z)) ?_
 refine wq_run (v := .int .i64 (i64.wrap (iShr .u64 (u64.wrap (i64.wrap (z441 + z442))) (1:Int)))) z z (fun w hst => z) ?_
 obtain ⟨x452, hx453, hm⟩ := bind_some hm
 obtain ⟨h454, h455, hi456⟩ := geto_some hx453
 refine wq_run (v := .pointer (some (eAddr v403 ((i64.wrap (iShr .u64 (u64.wrap (i64.wrap (z441 + z442))) (1:Int))).toNat * 2 + 0)))) z z (fun w hst => x_index z z underlying199 sizeOf240 (hst.nestsv 3 z) h454 h455) ?_
 refine wq_run (v := .pointer (some (eAddr v403 ((i64.wrap (iShr .u64 (u64.wrap (i64.wrap (z441 + z442))) (1:Int))).toNat * 2 + 0)))) z z (fun w hst => x_field_e z underlying240 z sizeOf26 z) ?_
 refine wq_run (v := .int .u64 x452.rank) z z (fun w hst => x_load z isAgg26 (hst.nestc (N := nest_mvcc_row) (i := (i64.wrap (iShr .u64 (u64.wrap (i64.wrap (z441 + z442))) (1:Int))).toNat) (o := 0) 3 z hi456 (fun _ => z))) ?_
 refine wq_run (v := .int .u64 a1) z z (fun w hst => x_load z isAgg26 (hst.bc0 z)) ?_
 refine wq_run (v := .bool (decide (x452.rank ≥ a1))) z z (fun w hst => z) ?_
 refine wq_run (v := .bool (decide (x452.rank ≥ a1))) z z (fun w hst => z) ?_
 refine wq_nil ?_
 intro w hst
 refine tn (wp_ret ?_)
 refine post_ret (vs := [.bool (decide (x452.rank ≥ a1))]) results198 (rvs_cons (rv_tmp z) rvs_nil) ?_
 replace hst := hst.pull1.pull3.pull3.keep4
 obtain rfl := some_inj hm
 exact ⟨(decide (x452.rank ≥ a1)), z, z, hst⟩
}
 clear hst
 rintro _ w461 ⟨z457, rfl, rfl, hst⟩
 refine ⟨_, z, ?_⟩
 try dsimp only at hm
 refine wv (.bool (!z457)) z z z (wl_nil (tn ?_))
 refine bsplit (!z457) (fun hc462 => ?_) (fun hc462 => ?_)
 {
 replace hm := bif_t hc462 hm
 refine wp_ift (cvb hc462) ?_
 refine wrl (wv (.int .i64 (i64.wrap (iShr .u64 (u64.wrap (i64.wrap (z441 + z442))) (1:Int)))) z z z (wv (.int .i64 (i64.wrap ((i64.wrap (iShr .u64 (u64.wrap (i64.wrap (z441 + z442))) (1:Int))) + (1:Int)))) z z z (wv (.int .i64 (i64.wrap ((i64.wrap (iShr .u64 (u64.wrap (i64.wrap (z441 + z442))) (1:Int))) + (1:Int)))) z z z (wl_nil (blk_n (tn ?_))))))
 replace hst := hst.pull1.pull1.pull2.pull3.keep4
 obtain rfl := some_inj hm
 exact ⟨_, Nat.lt_succ_self _, (i64.wrap ((i64.wrap (iShr .u64 (u64.wrap (i64.wrap (z441 + z442))) (1:Int))) + (1:Int))), z442, _, hx449, (fu 1 (.func (.func 198) #[] #[Pt b405 0, Pt b410 0]) z (fu 5 (.int .i64 (i64.wrap ((i64.wrap (iShr .u64 (u64.wrap (i64.wrap (z441 + z442))) (1:Int))) + (1:Int)))) z (fu 6 (.int .i64 z442) z z))), hst⟩
}
 {
 replace hm := bif_f hc462 hm
 refine wp_iff (cvb hc462) ?_
 refine wrl (wv (.int .i64 (i64.wrap (iShr .u64 (u64.wrap (i64.wrap (z441 + z442))) (1:Int)))) z z z (wv (.int .i64 (i64.wrap (iShr .u64 (u64.wrap (i64.wrap (z441 + z442))) (1:Int)))) z z z (wl_nil (blk_n (tn ?_)))))
 replace hst := hst.pull1.pull1.pull2.pull3.keep4
 obtain rfl := some_inj hm
 exact ⟨_, Nat.lt_succ_self _, z441, (i64.wrap (iShr .u64 (u64.wrap (i64.wrap (z441 + z442))) (1:Int))), _, hx449, (fu 1 (.func (.func 198) #[] #[Pt b405 0, Pt b410 0]) z (fu 5 (.int .i64 z441) z (fu 6 (.int .i64 (i64.wrap (iShr .u64 (u64.wrap (i64.wrap (z441 + z442))) (1:Int)))) z z))), hst⟩
}
}
 {
 replace hm := bif_f hc451 hm
 refine wp_iff (cvb hc451) ?_
 refine wp_exit (then_x (then_x ?_))
 replace hm := inr_up hm hx449
 refine blk_x (tn (wp_seq (wrl ?_)))
 refine wv (.int .i64 z441) z z z (wv (.int .i64 z441) z z z (wl_nil (tn (wp_ret ?_))))
 refine post_ret (vs := [I6 z441]) results179 (rvs_cons (rv_tmp z) rvs_nil) ?_
 replace hst := hst.pull1.pull3.pull3.keep4
 obtain rfl := some_inj hm
 exact ⟨z441, z, z, hst⟩
}
}
 clear hst
 rintro _ w467 ⟨z463, rfl, rfl, hst⟩
 refine ⟨_, z, ?_⟩
 try dsimp only at hm
 refine wv (.int .i64 z463) z z z (wl_nil (tn (wp_seq ?_)))
 refine wq_regionS hst Tryz.mixed (by kernel_rfl) ?_
 refine wq_run (v := .int .i64 z463) z z (fun w hst => z) ?_
 refine wq_run (v := .int .i64 z463) z z (fun w hst => z) ?_
 refine wq_run (v := Pt b402 0) z z (fun w hst => x_load z isAgg101 (hst.bc2 z)) ?_
 refine wq_run (v := Pt b402 0) z z (fun w hst => z) ?_
 refine wq_run (v := Pt b402 0) z z (fun w hst => x_field z underlying201 z sizeOf199 z) ?_
 refine wq_run (v := v403) z z (fun w hst => x_load z isAgg199 (hst.bc0 z)) ?_
 refine wq_run (v := .int .i64 ((o0.rows).length : Int)) z z (fun w hst => x_len z underlying199 (hst.nestsv 1 z)) ?_
 refine wq_run (v := .bool (decide (z463 < ((o0.rows).length : Int)))) z z (fun w hst => z) ?_
 refine wq_run (v := .bool (decide (z463 < ((o0.rows).length : Int)))) z z (fun w hst => z) ?_
 refine bsplit (decide (z463 < ((o0.rows).length : Int))) (fun hc468 => ?_) (fun hc468 => ?_)
 {
 replace hm := bif_t hc468 hm
 refine wq_run (v := Pt b402 0) ((wanted_eq z z z (cvb hc468)).trans z) z (fun w hst => x_load z isAgg101 (hst.bc2 z)) ?_
 refine wq_run (v := Pt b402 0) ((wanted_eq z z z (cvb hc468)).trans z) z (fun w hst => z) ?_
 refine wq_run (v := Pt b402 0) ((wanted_eq z z z (cvb hc468)).trans z) z (fun w hst => x_field z underlying201 z sizeOf199 z) ?_
 refine wq_run (v := v403) ((wanted_eq z z z (cvb hc468)).trans z) z (fun w hst => x_load z isAgg199 (hst.bc0 z)) ?_
 refine wq_run (v := .int .i64 z463) ((wanted_eq z z z (cvb hc468)).trans z) z (fun w hst => z) ?_
 obtain ⟨x469, hx470, hm⟩ := bind_some hm
 obtain ⟨h471, h472, hi473⟩ := geto_some hx470
 refine wq_run (v := .pointer (some (eAddr v403 (z463.toNat * 2 + 0)))) ((wanted_eq z z z (cvb hc468)).trans z) z (fun w hst => x_index z z underlying199 sizeOf240 (hst.nestsv 1 z) h471 h472) ?_
 refine wq_run (v := .pointer (some (eAddr v403 (z463.toNat * 2 + 0)))) ((wanted_eq z z z (cvb hc468)).trans z) z (fun w hst => x_field_e z underlying240 z sizeOf26 z) ?_
 refine wq_run (v := .int .u64 x469.rank) ((wanted_eq z z z (cvb hc468)).trans z) z (fun w hst => x_load z isAgg26 (hst.nestc (N := nest_mvcc_row) (i := z463.toNat) (o := 0) 1 z hi473 (fun _ => z))) ?_
 refine wq_run (v := .int .u64 a1) ((wanted_eq z z z (cvb hc468)).trans z) z (fun w hst => x_load z isAgg26 (hst.bc3 z)) ?_
 refine wq_run (v := .bool (x469.rank == a1)) ((wanted_eq z z z (cvb hc468)).trans z) z (fun w hst => z) ?_
 refine wq_run (v := .bool (x469.rank == a1)) z z (fun w hst => x_pick_t hc468 z z) ?_
 refine wq_run (v := .int .i64 z463) z z (fun w hst => z) ?_
 refine wq_run (v := .bool (x469.rank == a1)) z z (fun w hst => z) ?_
 refine wq_nil ?_
 intro w hst
 refine tn (wp_ret ?_)
 replace hst := hst.pull1.pull1
 replace hst := at_mvcc_Store_close (pv := Pt b402 0) (x := o0) hst z
 replace hst := objO_some hst
 obtain rfl := some_inj hm
 refine post_ret (vs := [I6 z463, .bool (x469.rank == a1)]) results146 (rvs_cons (rv_tmp z) (rvs_cons (rv_tmp z) rvs_nil)) ?_
 exact ⟨z, hst.keep1⟩
}
 {
 replace hm := bif_f hc468 hm
 refine wq_off ((wanted_eq z z z (cvb hc468)).trans z) z ?_
 refine wq_off ((wanted_eq z z z (cvb hc468)).trans z) z ?_
 refine wq_off ((wanted_eq z z z (cvb hc468)).trans z) z ?_
 refine wq_off ((wanted_eq z z z (cvb hc468)).trans z) z ?_
 refine wq_off ((wanted_eq z z z (cvb hc468)).trans z) z ?_
 refine wq_off ((wanted_eq z z z (cvb hc468)).trans z) z ?_
 refine wq_off ((wanted_eq z z z (cvb hc468)).trans z) z ?_
 refine wq_off ((wanted_eq z z z (cvb hc468)).trans z) z ?_
 refine wq_off ((wanted_eq z z z (cvb hc468)).trans z) z ?_
 refine wq_off ((wanted_eq z z z (cvb hc468)).trans z) z ?_
 refine wq_run (v := .bool false) z z (fun w hst => x_pick_f hc468 z z) ?_
 refine wq_run (v := .int .i64 z463) z z (fun w hst => z) ?_
 refine wq_run (v := .bool false) z z (fun w hst => z) ?_
 refine wq_nil ?_
 intro w hst
 refine tn (wp_ret ?_)
 replace hst := hst.pull1.pull1
 replace hst := at_mvcc_Store_close (pv := Pt b402 0) (x := o0) hst z
 replace hst := objO_some hst
 obtain rfl := some_inj hm
 refine post_ret (vs := [I6 z463, .bool false]) results146 (rvs_cons (rv_tmp z) (rvs_cons (rv_tmp z) rvs_nil)) ?_
 exact ⟨z, hst.keep1⟩
}
}
}

theorem mvcc_read_ref {w0 w : World} {I : HL} {R : SP} {a0 : (List mvcc_Version)} {r0_0 : Value} {a1 : Int} (f0_0 : Rd ty_mvcc_Version R I r0_0 a0) (hst : St w0 w I [] R) {r : (api_Got)} (hm : mvcc_read a0 a1 = some r) :
  Calls prog 147 #[r0_0, U6 a1] w fun e w' => ∃ (q0_0 : Value), e = .returned (.agg #[.bool r.Has, q0_0]) ∧ St w0 w' I [ownS (tyInt .u8) q0_0 r.Val] R := by {
 unfold mvcc_read at hm
 refine calls_start (args := [r0_0, U6 a1]) func147 z ntmps147 (Nat.le_of_ble_eq_true z) ?_
 refine wp_seq (wrl ?_)
 have hv474 := (rd_sliceV f0_0)
 obtain ⟨b468, w469, ew470, eb471, hst⟩ := hst.box [r0_0] 238
 refine wl_run (v := Pt b468 0) (w' := w469) z z (x_al (by obtain ⟨_, _, hv_, _⟩ := hv474; rw [hv_]; kernel_rfl) ew470 eb471) ?_
 obtain ⟨b475, w476, ew477, eb478, hst⟩ := hst.box [U6 a1] 26
 refine wl_run (v := Pt b475 0) (w' := w476) z z (x_al (by kernel_rfl) ew477 eb478) ?_
 obtain ⟨b481, w482, ew483, eb484, hst⟩ := hst.box [.bool false, Zs] 61
 refine wl_run (v := Pt b481 0) (w' := w482) z z (x_al (by kernel_rfl) ew483 eb484) ?_
 refine wl_nil (tn (wp_seq (wrl (wv (r0_0) z z (x_load z isAgg238 (hst.bc2 z)) (wv (.int .i64 ((a0).length : Int)) z z (x_len z underlying238 (rd_sliceV f0_0)) (wv (.func (.func 199) #[] #[Pt b468 0, Pt b475 0]) z z (by kernel_rfl) ?_))))))
 obtain ⟨y554, hq555, hm⟩ := bind_some hm
 refine wl_call z z (x_callv call179 (caps := []) z (vs := [I6 ((a0).length : Int), .func (.func 199) #[] #[Pt b468 0, Pt b475 0]]) z) ?_
 refine Calls.mono (show Calls prog 179 #[I6 ((a0).length : Int), .func (.func 199) #[] #[Pt b468 0, Pt b475 0]] _ (fun e w' => ∃ (z552 : Int), z552 = y554 ∧ e = .returned (.int .i64 z552) ∧ St w0 w' I [cells b468 [r0_0], cells b475 [U6 a1], cells b481 [.bool false, Zs]] R) from ?_) ?_
 {
 clear hm; have hm := hq555
 refine calls_start (args := [I6 ((a0).length : Int), .func (.func 199) #[] #[Pt b468 0, Pt b475 0]]) func179 z ntmps179 (Nat.le_of_ble_eq_true z) ?_
 refine wp_seq (wrl (wv (.int .i64 (0:Int)) z z z (wl_nil (tn (wp_seq (wrl (wv (.int .i64 ((a0).length : Int)) z z z (wv (.int .i64 (0:Int)) z z z (wv (.int .i64 ((a0).length : Int)) z z z (wl_nil (tn (wp_seq (wp_block ?_)))))))))))))
 obtain ⟨n527, hm⟩ := loopO_some hm
 refine wp_loop_n (fun n a w => ∃ (z524 : Int) (z525 : Int) (σ526 : Nat → Value), loopN (mvcc_read_l0 a0 a1) n (z524, z525) = some y554 ∧ a = Fr 26 (upd (upd (upd σ526 1 (.func (.func 199) #[] #[Pt b468 0, Pt b475 0])) 5 (.int .i64 z524)) 6 (.int .i64 z525)) ∧ St w0 w I [cells b481 [.bool false, Zs], cells b475 [U6 a1], cells b468 [r0_0]] R) n527 ⟨(0:Int), ((a0).length : Int), _, hm, (fu 1 (.func (.func 199) #[] #[Pt b468 0, Pt b475 0]) z (fu 5 (.int .i64 (0:Int)) z (fu 6 (.int .i64 ((a0).length : Int)) z z))), hst⟩ ?_
 rintro n533 _ w528 ⟨z524, z525, σ526, hm, rfl, hst⟩
 obtain ⟨n530, y531, rfl, hm, hx532⟩ := loopN_some hm
 dsimp only [mvcc_read_l0] at hm
 refine wp_seq (wp_seq (wrl (wv (.int .i64 z524) z z z (wv (.int .i64 z525) z z z (wv (.bool (decide (z524 < z525))) z z z (wl_nil (tn ?_)))))))
 refine bsplit (decide (z524 < z525)) (fun hc534 => ?_) (fun hc534 => ?_)
 {
 replace hm := bif_t hc534 hm
 refine wp_ift (cvb hc534) ?_
 refine wp_skip (tn (wp_block (wp_seq (wrl ?_))))
 refine wv (.int .i64 z524) z z z (wv (.int .i64 z525) z z z (wv (.int .i64 (i64.wrap (z524 + z525))) z z z (wv (.int .u64 (u64.wrap (i64.wrap (z524 + z525)))) z z (by kernel_rfl) (wv (.int .u64 (iShr .u64 (u64.wrap (i64.wrap (z524 + z525))) (1:Int))) z z (x_shr (by decide) z z) (wv (.int .i64 (i64.wrap (iShr .u64 (u64.wrap (i64.wrap (z524 + z525))) (1:Int)))) z z (by kernel_rfl) (wv (.int .i64 (i64.wrap (iShr .u64 (u64.wrap (i64.wrap (z524 + z525))) (1:Int)))) z z z (wl_nil (tn (wp_seq (wrl (wv (.func (.func 199) #[] #[Pt b468 0, Pt b475 0]) z z z (wv (.int .i64 (i64.wrap (iShr .u64 (u64.wrap (i64.wrap (z524 + z525))) (1:Int)))) z z z ?_))))))))))))
 obtain ⟨y548, hq549, hm⟩ := bind_some hm
 refine wl_call z z (x_callv call199 (caps := [Pt b468 0, Pt b475 0]) z (vs := [I6 (i64.wrap (iShr .u64 (u64.wrap (i64.wrap (z524 + z525))) (1:Int)))]) z) ?_
 refine Calls.mono (show Calls prog 199 #[I6 (i64.wrap (iShr .u64 (u64.wrap (i64.wrap (z524 + z525))) (1:Int))), Pt b468 0, Pt b475 0] _ (fun e w' => ∃ (z546 : Bool), z546 = y548 ∧ e = .returned (.bool z546) ∧ St w0 w' I [cells b468 [r0_0], cells b475 [U6 a1], cells b481 [.bool false, Zs]] R) from ?_) ?_
 {
 clear hm; have hm := hq549
 refine calls_start (args := [I6 (i64.wrap (iShr .u64 (u64.wrap (i64.wrap (z524 + z525))) (1:Int))), Pt b468 0, Pt b475 0]) func199 z ntmps199 (Nat.le_of_ble_eq_true z) ?_
 refine wp_seq (wrl (wv (.bool false) z z z (wl_nil (tn (wp_seq ?_)))))
 refine wq_regionS hst Tryz.mixed (by kernel_rfl) ?_
 refine wq_run (v := r0_0) z z (fun w hst => x_load z isAgg238 (hst.bc2 z)) ?_
 refine wq_run (v := .int .i64 (i64.wrap (iShr .u64 (u64.wrap (i64.wrap (z524 + z525))) (1:Int)))) z z (fun w hst => z) ?_
 obtain ⟨x535, hx536, hm⟩ := bind_some hm
 obtain ⟨h537, h538, hi539⟩ := geto_some hx536
 refine wq_run (v := .pointer (some (eAddr r0_0 ((i64.wrap (iShr .u64 (u64.wrap (i64.wrap (z524 + z525))) (1:Int))).toNat * 4 + 0)))) z z (fun w hst => x_index z z underlying238 sizeOf214 (rd_sliceV f0_0) h537 h538) ?_
 refine wq_run (v := .pointer (some (eAddr r0_0 ((i64.wrap (iShr .u64 (u64.wrap (i64.wrap (z524 + z525))) (1:Int))).toNat * 4 + 0)))) z z (fun w hst => x_field_e z underlying214 z sizeOf26 z) ?_
 obtain ⟨cs540, hr541, hc542⟩ := Rd.getF f0_0 hi539
 obtain ⟨v543, rfl, f544, -⟩ := hr541
 refine wq_run (v := .int .u64 x535.Epoch) z z (fun w hst => x_load z isAgg26 ((hc542 (HL.le.refl _) hst) 0 _ z)) ?_
 refine wq_run (v := .int .u64 a1) z z (fun w hst => x_load z isAgg26 (hst.bc1 z)) ?_
 refine wq_run (v := .bool (decide (x535.Epoch > a1))) z z (fun w hst => z) ?_
 refine wq_run (v := .bool (decide (x535.Epoch > a1))) z z (fun w hst => z) ?_
 refine wq_nil ?_
 intro w hst
 refine tn (wp_ret ?_)
 refine post_ret (vs := [.bool (decide (x535.Epoch > a1))]) results199 (rvs_cons (rv_tmp z) rvs_nil) ?_
 replace hst := hst.pull1.pull2.keep3
 obtain rfl := some_inj hm
 exact ⟨(decide (x535.Epoch > a1)), z, z, hst⟩
}
 clear hst
 rintro _ w550 ⟨z546, rfl, rfl, hst⟩
 refine ⟨_, z, ?_⟩
 try dsimp only at hm
 refine wv (.bool (!z546)) z z z (wl_nil (tn ?_))
 refine bsplit (!z546) (fun hc551 => ?_) (fun hc551 => ?_)
 {
 replace hm := bif_t hc551 hm
 refine wp_ift (cvb hc551) ?_
 refine wrl (wv (.int .i64 (i64.wrap (iShr .u64 (u64.wrap (i64.wrap (z524 + z525))) (1:Int)))) z z z (wv (.int .i64 (i64.wrap ((i64.wrap (iShr .u64 (u64.wrap (i64.wrap (z524 + z525))) (1:Int))) + (1:Int)))) z z z (wv (.int .i64 (i64.wrap ((i64.wrap (iShr .u64 (u64.wrap (i64.wrap (z524 + z525))) (1:Int))) + (1:Int)))) z z z (wl_nil (blk_n (tn ?_))))))
 replace hst := hst.pull1.pull2.keep3
 obtain rfl := some_inj hm
 exact ⟨_, Nat.lt_succ_self _, (i64.wrap ((i64.wrap (iShr .u64 (u64.wrap (i64.wrap (z524 + z525))) (1:Int))) + (1:Int))), z525, _, hx532, (fu 1 (.func (.func 199) #[] #[Pt b468 0, Pt b475 0]) z (fu 5 (.int .i64 (i64.wrap ((i64.wrap (iShr .u64 (u64.wrap (i64.wrap (z524 + z525))) (1:Int))) + (1:Int)))) z (fu 6 (.int .i64 z525) z z))), hst⟩
}
 {
 replace hm := bif_f hc551 hm
 refine wp_iff (cvb hc551) ?_
 refine wrl (wv (.int .i64 (i64.wrap (iShr .u64 (u64.wrap (i64.wrap (z524 + z525))) (1:Int)))) z z z (wv (.int .i64 (i64.wrap (iShr .u64 (u64.wrap (i64.wrap (z524 + z525))) (1:Int)))) z z z (wl_nil (blk_n (tn ?_)))))
 replace hst := hst.pull1.pull2.keep3
 obtain rfl := some_inj hm
 exact ⟨_, Nat.lt_succ_self _, z524, (i64.wrap (iShr .u64 (u64.wrap (i64.wrap (z524 + z525))) (1:Int))), _, hx532, (fu 1 (.func (.func 199) #[] #[Pt b468 0, Pt b475 0]) z (fu 5 (.int .i64 z524) z (fu 6 (.int .i64 (i64.wrap (iShr .u64 (u64.wrap (i64.wrap (z524 + z525))) (1:Int)))) z z))), hst⟩
}
}
 {
 replace hm := bif_f hc534 hm
 refine wp_iff (cvb hc534) ?_
 refine wp_exit (then_x (then_x ?_))
 replace hm := inr_up hm hx532
 refine blk_x (tn (wp_seq (wrl ?_)))
 refine wv (.int .i64 z524) z z z (wv (.int .i64 z524) z z z (wl_nil (tn (wp_ret ?_))))
 refine post_ret (vs := [I6 z524]) results179 (rvs_cons (rv_tmp z) rvs_nil) ?_
 replace hst := hst.pull1.pull2.keep3
 obtain rfl := some_inj hm
 exact ⟨z524, z, z, hst⟩
}
}
 clear hst
 rintro _ w556 ⟨z552, rfl, rfl, hst⟩
 refine ⟨_, z, ?_⟩
 try dsimp only at hm
 refine wv (.int .i64 z552) z z z (wl_nil (tn (wp_seq (wp_seq (wrl (wv (.int .i64 z552) z z z (wv (.bool (z552 == (0:Int))) z z z (wv (.bool (z552 == (0:Int))) z z z ?_))))))))
 refine bsplit (z552 == (0:Int)) (fun hc557 => ?_) (fun hc557 => ?_)
 {
 replace hm := bif_t hc557 hm
 refine wo hc557 z z z z z z (wo hc557 z z z z z z (wo hc557 z z z z z z (wo hc557 z z z z z z (wo hc557 z z z z z z (wo hc557 z z z z z z (wv (.bool true) z z (x_pick_t hc557 z z) (wl_nil (tn ?_))))))))
 refine wp_ift z ?_
 refine wp_seq (wrl (wv (.agg #[.bool false, Zs]) z z (by kernel_rfl) ?_))
 replace hst := hst.pull2
 obtain ⟨w559, hr560, hst⟩ := hst.bx [.bool false, Zs] sizeOf61 z (oC z (oC z oN)) (by kernel_rfl)
 refine wl_unit z z (x_unit hr560) ?_
 refine wl_nil (tn (wp_ret (then_r ?_)))
 replace hst := hst.own_nil (tyInt .u8)
 obtain rfl := some_inj hm
 refine post_ret (vs := [.agg #[.bool false, Zs]]) results147 (rvs_cons (rv_cell (cs := [.bool false, Zs]) z isAgg61 sizeOf61 (hst.bcs1 0 z)) rvs_nil) ?_
 exact ⟨(.slice none 0 0), z, hst.keep1⟩
}
 {
 replace hm := bif_f hc557 hm
 refine wv (r0_0) ((wanted_eq z z z (cvb hc557)).trans z) z (x_load z isAgg238 (hst.bc0 z)) (wv (.int .i64 z552) ((wanted_eq z z z (cvb hc557)).trans z) z z (wv (.int .i64 (i64.wrap (z552 - (1:Int)))) ((wanted_eq z z z (cvb hc557)).trans z) z z ?_))
 obtain ⟨x561, hx562, hm⟩ := bind_some hm
 obtain ⟨h563, h564, hi565⟩ := geto_some hx562
 refine wv (.pointer (some (eAddr r0_0 ((i64.wrap (z552 - (1:Int))).toNat * 4 + 0)))) ((wanted_eq z z z (cvb hc557)).trans z) z (x_index z z underlying238 sizeOf214 (rd_sliceV f0_0) h563 h564) (wv (.pointer (some (eAddr r0_0 ((i64.wrap (z552 - (1:Int))).toNat * 4 + 2)))) ((wanted_eq z z z (cvb hc557)).trans z) z (x_field_e z underlying214 z sizeOf4 z) ?_)
 obtain ⟨cs566, hr567, hc568⟩ := Rd.getF f0_0 hi565
 obtain ⟨v569, rfl, f570, -⟩ := hr567
 refine wv (.bool x561.Del) ((wanted_eq z z z (cvb hc557)).trans z) z (x_load z isAgg4 ((hc568 (HL.le.refl _) hst) 2 _ z)) (wv (.bool x561.Del) z z (x_pick_f hc557 z z) (wl_nil (tn ?_)))
 refine bsplit x561.Del (fun hc572 => ?_) (fun hc572 => ?_)
 {
 replace hm := bif_t hc572 hm
 refine wp_ift (cvb hc572) ?_
 refine wp_seq (wrl (wv (.agg #[.bool false, Zs]) z z (by kernel_rfl) ?_))
 replace hst := hst.pull2
 obtain ⟨w574, hr575, hst⟩ := hst.bx [.bool false, Zs] sizeOf61 z (oC z (oC z oN)) (by kernel_rfl)
 refine wl_unit z z (x_unit hr575) ?_
 refine wl_nil (tn (wp_ret (then_r ?_)))
 replace hst := hst.own_nil (tyInt .u8)
 obtain rfl := some_inj hm
 refine post_ret (vs := [.agg #[.bool false, Zs]]) results147 (rvs_cons (rv_cell (cs := [.bool false, Zs]) z isAgg61 sizeOf61 (hst.bcs1 0 z)) rvs_nil) ?_
 exact ⟨(.slice none 0 0), z, hst.keep1⟩
}
 {
 replace hm := bif_f hc572 hm
 refine wp_iff (cvb hc572) ?_
 refine wp_skip (tn (wp_seq (wrl ?_)))
 refine wv (r0_0) z z (x_load z isAgg238 (hst.bc0 z)) (wv (.int .i64 z552) z z z (wv (.int .i64 (i64.wrap (z552 - (1:Int)))) z z z (wv (.pointer (some (eAddr r0_0 ((i64.wrap (z552 - (1:Int))).toNat * 4 + 0)))) z z (x_index z z underlying238 sizeOf214 (rd_sliceV f0_0) h563 h564) (wv (.pointer (some (eAddr r0_0 ((i64.wrap (z552 - (1:Int))).toNat * 4 + 3)))) z z (x_field_e z underlying214 z sizeOf22 z) (wv (v569) z z (x_load z isAgg22 ((hc568 (HL.le.refl _) hst) 3 _ z)) ?_)))))
 obtain ⟨t576, ht577, hm⟩ := bind_some hm
 refine wc call143 [v569] z z z ?_
 refine (slices_Clone_byte_byte_ref (f570.mono (rd_weak _)) hst.to0 ht577).mono ?_
 rintro _ w578 ⟨v581, rfl, hst⟩
 refine ⟨_, z, ?_⟩
 replace hst := hst.of1
 refine wv (.agg #[.bool true, v581]) z z (by obtain ⟨_, _, hv_, _⟩ := hst.sv0; rw [hv_]; kernel_rfl) ?_
 replace hst := hst.pull3
 obtain ⟨w584, hr585, hst⟩ := hst.bx [.bool true, v581] sizeOf61 z (oC z (oC (one_of_sliceV hst.sv1) oN)) (by kernel_rfl)
 refine wl_unit z z (x_unit hr585) ?_
 refine wl_nil (tn (wp_ret ?_))
 obtain rfl := some_inj hm
 refine post_ret (vs := [.agg #[.bool true, v581]]) results147 (rvs_cons (rv_cell (cs := [.bool true, v581]) z isAgg61 sizeOf61 (hst.bcs0 0 z)) rvs_nil) ?_
 replace hst := hst.pull1
 exact ⟨v581, z, hst.keep1⟩
}
}
}

theorem mvcc_Store_Get_ref {w0 w : World} {I : HL} {R : SP} {a0 : (Option mvcc_Store)} {p0 : Value} {a1 : Nat} {a2 : Int}  (hst : St w0 w I [objO at_mvcc_Store p0 a0] R) {r : (api_Got)} (hm : mvcc_Store_Get a0 a1 a2 = some r) :
  Calls prog 60 #[p0, F6 a1, U6 a2] w fun e w' => ∃ (q0_0 : Value), e = .returned (.agg #[.bool r.Has, q0_0]) ∧ St w0 w' I [ownS (tyInt .u8) q0_0 r.Val, objO at_mvcc_Store p0 a0] R := by {
 rcases a0 with _ | o0
 {
 obtain ⟨rfl, hst'⟩ := objO_none hst
 clear hst
 have hst := hst'
 clear hst'
 dsimp only [mvcc_Store_Get] at hm
 refine calls_start (args := [.pointer none, F6 a1, U6 a2]) func60 z ntmps60 (Nat.le_of_ble_eq_true z) ?_
 refine wp_seq (wrl ?_)
 obtain ⟨b361, w362, ew363, eb364, hst⟩ := hst.box [.bool false, Zs] 61
 refine wl_run (v := Pt b361 0) (w' := w362) z z (x_al (by kernel_rfl) ew363 eb364) ?_
 refine wl_nil (tn (wp_seq (wrl (wv (.pointer none) z z z (wv (.float .f64 a1) z z z ?_)))))
 obtain ⟨t366, ht367, hm⟩ := bind_some hm
 refine wc call118 [F6 a1] z z z ?_
 refine (number_Rank_ref hst.to0 ht367).mono ?_
 rintro _ w368 ⟨rfl, hst⟩
 refine ⟨_, z, ?_⟩
 replace hst := hst.of0.objO_nil at_mvcc_Store
 obtain ⟨t372, ht373, hm⟩ := bind_some hm
 refine wc call146 [.pointer none, U6 t366] z z z ?_
 refine (mvcc_Store_find_ref hst.to1 ht373).mono ?_
 rintro _ w374 ⟨rfl, hst⟩
 refine ⟨_, z, ?_⟩
 replace hst := hst.of1
 refine wv (.tuple #[I6 t372.1, .bool t372.2]) z z z (wv (.int .i64 t372.1) z z z (wv (.bool t372.2) z z z (wv (.int .i64 t372.1) z z z (wv (.bool t372.2) z z z (wl_nil (tn (wp_seq (wp_seq (wrl (wv (.bool t372.2) z z z (wv (.bool (!t372.2)) z z z (wl_nil (tn ?_)))))))))))))
 refine bsplit (!t372.2) (fun hc377 => ?_) (fun hc377 => ?_)
 {
 replace hm := bif_t hc377 hm
 refine wp_ift (cvb hc377) ?_
 refine wp_seq (wrl (wv (.agg #[.bool false, Zs]) z z (by kernel_rfl) ?_))
 replace hst := hst.pull1
 obtain ⟨w379, hr380, hst⟩ := hst.bx [.bool false, Zs] sizeOf61 z (oC z (oC z oN)) (by kernel_rfl)
 refine wl_unit z z (x_unit hr380) ?_
 refine wl_nil (tn (wp_ret (then_r ?_)))
 replace hst := hst.own_nil (tyInt .u8)
 replace hst := hst.objO_nil at_mvcc_Store
 obtain rfl := some_inj hm
 refine post_ret (vs := [.agg #[.bool false, Zs]]) results60 (rvs_cons (rv_cell (cs := [.bool false, Zs]) z isAgg61 sizeOf61 (hst.bcs2 0 z)) rvs_nil) ?_
 replace hst := hst.pull1
 exact ⟨(.slice none 0 0), z, hst.keep2⟩
}
 {
 replace hm := bif_f hc377 hm
 refine wp_iff (cvb hc377) ?_
 refine wp_skip (tn (wp_seq (wrl ?_)))
 refine wv (.pointer none) z z z ?_
 cases hm
}
}
 {
 replace hst := objO_get hst
 dsimp only [mvcc_Store_Get] at hm
 refine calls_start (args := [p0, F6 a1, U6 a2]) func60 z ntmps60 (Nat.le_of_ble_eq_true z) ?_
 refine wp_seq (wrl ?_)
 obtain ⟨b382, w383, ew384, eb385, hst⟩ := hst.box [.bool false, Zs] 61
 refine wl_run (v := Pt b382 0) (w' := w383) z z (x_al (by kernel_rfl) ew384 eb385) ?_
 refine wl_nil (tn (wp_seq (wrl (wv (p0) z z z (wv (.float .f64 a1) z z z ?_)))))
 obtain ⟨t387, ht388, hm⟩ := bind_some hm
 refine wc call118 [F6 a1] z z z ?_
 refine (number_Rank_ref hst.to0 ht388).mono ?_
 rintro _ w389 ⟨rfl, hst⟩
 refine ⟨_, z, ?_⟩
 replace hst := hst.of0.pull1
 replace hst := objO_some hst
 obtain ⟨t392, ht393, hm⟩ := bind_some hm
 refine wc call146 [p0, U6 t387] z z z ?_
 refine (mvcc_Store_find_ref hst.to1 ht393).mono ?_
 rintro _ w394 ⟨rfl, hst⟩
 refine ⟨_, z, ?_⟩
 replace hst := hst.of1
 replace hst := objO_get hst
 refine wv (.tuple #[I6 t392.1, .bool t392.2]) z z z (wv (.int .i64 t392.1) z z z (wv (.bool t392.2) z z z (wv (.int .i64 t392.1) z z z (wv (.bool t392.2) z z z (wl_nil (tn (wp_seq (wp_seq (wrl (wv (.bool t392.2) z z z (wv (.bool (!t392.2)) z z z (wl_nil (tn ?_)))))))))))))
 refine bsplit (!t392.2) (fun hc397 => ?_) (fun hc397 => ?_)
 {
 replace hm := bif_t hc397 hm
 refine wp_ift (cvb hc397) ?_
 refine wp_seq (wrl (wv (.agg #[.bool false, Zs]) z z (by kernel_rfl) ?_))
 replace hst := hst.pull1
 obtain ⟨w399, hr400, hst⟩ := hst.bx [.bool false, Zs] sizeOf61 z (oC z (oC z oN)) (by kernel_rfl)
 refine wl_unit z z (x_unit hr400) ?_
 refine wl_nil (tn (wp_ret (then_r ?_)))
 replace hst := hst.own_nil (tyInt .u8)
 replace hst := hst.pull2
 replace hst := objO_some hst
 obtain rfl := some_inj hm
 refine post_ret (vs := [.agg #[.bool false, Zs]]) results60 (rvs_cons (rv_cell (cs := [.bool false, Zs]) z isAgg61 sizeOf61 (hst.bcs2 0 z)) rvs_nil) ?_
 replace hst := hst.pull1
 exact ⟨(.slice none 0 0), z, hst.keep2⟩
}
 {
 replace hm := bif_f hc397 hm
 refine wp_iff (cvb hc397) ?_
 refine wp_skip (tn (wp_seq (wrl ?_)))
 refine wv (p0) z z z ?_
 obtain ⟨b401, v402, rfl, hst'⟩ := at_mvcc_Store_open hst
 clear hst
 have hst := hst'
 clear hst'
 refine wv (Pt b401 0) z z z (wv (Pt b401 0) z z (x_field z underlying201 z sizeOf199 z) (wv (v402) z z (x_load z isAgg199 (hst.bc0 z)) (wv (.int .i64 t392.1) z z z ?_)))
 obtain ⟨x404, hx405, hm⟩ := bind_some hm
 obtain ⟨h406, h407, hi408⟩ := geto_some hx405
 refine wv (.pointer (some (eAddr v402 (t392.1.toNat * 2 + 0)))) z z (x_index z z underlying199 sizeOf240 (hst.nestsv 1 z) h406 h407) (wv (.pointer (some (eAddr v402 (t392.1.toNat * 2 + 1)))) z z (x_field_e z underlying240 z sizeOf238 z) ?_)
 replace hst := hst.pull1
 obtain ⟨v409, hst⟩ := hst.nest_focus hi408
 refine wv (v409) z z (x_load z isAgg238 ((hst.holeall (N := nest_mvcc_row) (i := t392.1.toNat) 1 z hi408) 1 _ z)) (wv (.int .u64 a2) z z z ?_)
 obtain ⟨css411, hq412, hst⟩ := hst.own_open
 obtain ⟨t413, ht414, hm⟩ := bind_some hm
 refine wc call147 [v409, U6 a2] z z z ?_
 refine (mvcc_read_ref (hst.rdrow0 hq412) hst.to0 ht414).mono ?_
 rintro _ w415 ⟨v418, rfl, hst⟩
 refine ⟨_, z, ?_⟩
 replace hst := hst.of1.pull1.own_close hq412
 replace hst := hst.pull4
 obtain ⟨w420, hr421, hst⟩ := hst.bx [.bool t413.Has, v418] sizeOf61 z (oC z (oC (one_of_sliceV hst.sv2) oN)) (by kernel_rfl)
 refine wl_unit z z (x_unit hr421) ?_
 refine wl_nil (tn (wp_ret ?_))
 replace hst := hst.pull3.pull2
 replace hst := St.nest_close0 (N := nest_mvcc_row) hst hi408
 replace hst := hst.pull3
 replace hst := at_mvcc_Store_close (pv := Pt b401 0) (x := o0) hst z
 replace hst := objO_some hst
 obtain rfl := some_inj hm
 refine post_ret (vs := [.agg #[.bool t413.Has, v418]]) results60 (rvs_cons (rv_cell (cs := [.bool t413.Has, v418]) z isAgg61 sizeOf61 (hst.bcs1 0 z)) rvs_nil) ?_
 replace hst := hst.pull2
 exact ⟨v418, z, hst.keep2⟩
}
}
}

theorem number_Back_ref {w0 w : World} {I : HL} {R : SP} {a0 : Int}  (hst : St w0 w I [] R) {r : (Nat)} (hm : number_Back a0 = some r) :
  Calls prog 107 #[U6 a0] w fun e w' => e = .returned (.float .f64 r) ∧ St w0 w' I [] R := by {
 unfold number_Back at hm
 refine calls_start (args := [U6 a0]) func107 z ntmps107 (Nat.le_of_ble_eq_true z) ?_
 refine wp_seq (wrl (wv (.float .f64 (0:Nat)) z z z (wl_nil (tn (wp_seq (wp_seq (wrl (wv (.int .u64 a0) z z z (wv (.int .u64 (iShr .u64 a0 (63:Int))) z z (x_shr (by decide) z z) (wv (.bool ((iShr .u64 a0 (63:Int)) == (1:Int))) z z z (wl_nil (tn ?_))))))))))))
 refine bsplit ((iShr .u64 a0 (63:Int)) == (1:Int)) (fun hc566 => ?_) (fun hc566 => ?_)
 {
 replace hm := bif_t hc566 hm
 refine wp_ift (cvb hc566) ?_
 refine wp_seq (wrl (wv (.int .u64 a0) z z z (wv (.int .u64 (bAndNot .u64 a0 (9223372036854775808:Int))) z z z (wv (.float .f64 (Int.toNat (bAndNot .u64 a0 (9223372036854775808:Int)))) z z (by kernel_rfl) (wv (.float .f64 (Int.toNat (bAndNot .u64 a0 (9223372036854775808:Int)))) z z z (wl_nil (tn (wp_ret (then_r ?_)))))))))
 obtain rfl := some_inj hm
 refine post_ret (vs := [F6 (Int.toNat (bAndNot .u64 a0 (9223372036854775808:Int)))]) results107 (rvs_cons (rv_tmp z) rvs_nil) ?_
 exact ⟨z, hst.keep0⟩
}
 {
 replace hm := bif_f hc566 hm
 refine wp_iff (cvb hc566) ?_
 refine wp_skip (tn (wp_seq (wrl ?_)))
 refine wv (.int .u64 a0) z z z (wv (.int .u64 (bXor .u64 ((18446744073709551615):Int) a0)) z z (by kernel_rfl) (wv (.float .f64 (Int.toNat (bXor .u64 ((18446744073709551615):Int) a0))) z z (by kernel_rfl) (wv (.float .f64 (Int.toNat (bXor .u64 ((18446744073709551615):Int) a0))) z z z (wl_nil (tn (wp_ret ?_))))))
 obtain rfl := some_inj hm
 refine post_ret (vs := [F6 (Int.toNat (bXor .u64 ((18446744073709551615):Int) a0))]) results107 (rvs_cons (rv_tmp z) rvs_nil) ?_
 exact ⟨z, hst.keep0⟩
}
}

end Go.Proofs.YtgnkkopjkgdieaaGreat
