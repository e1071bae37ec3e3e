/- The Go functions refine their models, part 1. -/
import Derived.Test.YtgnkkopjkgdieaaGreatLaneInnerR0
set_option linter.unusedVariables false
set_option linter.unusedSimpArgs false
set_option maxRecDepth 100000
set_option maxHeartbeats 4000000
namespace Go.Proofs.YtgnkkopjkgdieaaGreat
open Go Go.V
open _root_.Go.Proofs.Tryz IntKind
attribute [local irreducible] wpList Code.wp wpQuiet Calls bodyPost Oper.wp wpS Nx PendOK YieldsIn
theorem locks_reads_ref {w0 w : World} {I : HL} {R : SP} {a0 : api_Hold} {r0_0 : Value} {r0_1 : Value} {r0_2 : Value} {r0_3 : Value} {a1 : Nat} (f0_0 : Rd tyF64 R I r0_0 a0.Gets) (f0_1 : Rd tyF2 R I r0_1 a0.Scans) (f0_2 : Rd tyF64 R I r0_2 a0.Puts) (f0_3 : Rd (tyInt .u8) R I r0_3 a0.Data) (hst : St w0 w I [] R) {r : (Bool)} (hm : locks_reads a0 a1 = some r) :
  Calls prog 195 #[.agg #[U6 a0.ID.Session, U6 a0.ID.Seq, U6 a0.Epoch, r0_0, r0_1, r0_2, r0_3], F6 a1] w fun e w' => e = .returned (.bool r) ∧ St w0 w' I [] R := by {
 unfold locks_reads at hm
 refine calls_start (args := [.agg #[U6 a0.ID.Session, U6 a0.ID.Seq, U6 a0.Epoch, r0_0, r0_1, r0_2, r0_3], F6 a1]) func195 z ntmps195 (Nat.le_of_ble_eq_true z) ?_
 refine wp_seq (wrl ?_)
 obtain ⟨b548, w549, ew550, eb551, hst⟩ := hst.box [U6 a0.ID.Session, U6 a0.ID.Seq, U6 a0.Epoch, r0_0, r0_1, r0_2, r0_3] 46
 refine wl_run (v := Pt b548 0) (w' := w549) z z (x_al (by kernel_rfl) ew550 eb551) ?_
 obtain ⟨b553, w554, ew555, eb556, hst⟩ := hst.box [F6 a1] 37
 refine wl_run (v := Pt b553 0) (w' := w554) z z (x_al (by kernel_rfl) ew555 eb556) ?_
 refine wv (.bool false) z z z (wl_nil (tn (wp_seq (wrl (wv (Pt b548 3) z z (x_field z underlying46 z sizeOf43 z) (wv (r0_0) z z (x_load z isAgg43 (hst.bc1 z)) (wv (.func (.func 216) #[] #[Pt b553 0]) z z (by kernel_rfl) ?_)))))))
 obtain ⟨y626, hq627, hm⟩ := bind_some hm
 refine wl_call z z (x_callv call213 (caps := []) z (vs := [r0_0, .func (.func 216) #[] #[Pt b553 0]]) z) ?_
 refine Calls.mono (show Calls prog 213 #[r0_0, .func (.func 216) #[] #[Pt b553 0]] _ (fun e w' => ∃ (z624 : Bool), z624 = y626 ∧ e = .returned (.bool z624) ∧ St w0 w' I [cells b548 [U6 a0.ID.Session, U6 a0.ID.Seq, U6 a0.Epoch, r0_0, r0_1, r0_2, r0_3], cells b553 [F6 a1]] R) from ?_) ?_
 {
 clear hm; have hm := hq627
 refine calls_start (args := [r0_0, .func (.func 216) #[] #[Pt b553 0]]) func213 z ntmps213 (Nat.le_of_ble_eq_true z) ?_
 refine wp_seq (wrl (wv (.bool false) z z z (wl_nil (tn (wp_seq (wrl (wv (r0_0) z z z (wv (.func (.func 216) #[] #[Pt b553 0]) z z z ?_))))))))
 obtain ⟨y621, hq622, hm⟩ := bind_some hm
 refine wl_call z z (x_callv call228 (caps := []) z (vs := [r0_0, .func (.func 216) #[] #[Pt b553 0]]) z) ?_
 refine Calls.mono (show Calls prog 228 #[r0_0, .func (.func 216) #[] #[Pt b553 0]] _ (fun e w' => ∃ (z619 : Int), z619 = y621 ∧ e = .returned (.int .i64 z619) ∧ St w0 w' I [cells b548 [U6 a0.ID.Session, U6 a0.ID.Seq, U6 a0.Epoch, r0_0, r0_1, r0_2, r0_3], cells b553 [F6 a1]] R) from ?_) ?_
 {
 clear hm; have hm := hq622
 refine calls_start (args := [r0_0, .func (.func 216) #[] #[Pt b553 0]]) func228 z ntmps228 (Nat.le_of_ble_eq_true z) ?_
 refine wp_seq (wrl (wv (.int .i64 (0:Int)) z z z (wl_nil (tn (wp_seq (wp_seq (wrl (wv (r0_0) z z z (wv (.int .i64 ((a0.Gets).length : Int)) z z (x_len z underlying43 (rd_sliceV f0_0)) (wv (.int .i64 (0:Int)) z z z (wl_nil (tn (wp_block ?_)))))))))))))
 obtain ⟨n595, hm⟩ := loopO_some hm
 refine wp_loop_n (fun n a w => ∃ (z593 : Int) (σ594 : Nat → Value), loopN (locks_reads_l0 a0 a1) n z593 = some y621 ∧ a = Fr 19 (upd (upd (upd (upd σ594 0 (r0_0)) 1 (.func (.func 216) #[] #[Pt b553 0])) 7 (.int .i64 ((a0.Gets).length : Int))) 8 (.int .i64 z593)) ∧ St w0 w I [cells b553 [F6 a1], cells b548 [U6 a0.ID.Session, U6 a0.ID.Seq, U6 a0.Epoch, r0_0, r0_1, r0_2, r0_3]] R) n595 ⟨(0:Int), _, hm, (fu 0 r0_0 z (fu 1 (.func (.func 216) #[] #[Pt b553 0]) z (fu 7 (.int .i64 ((a0.Gets).length : Int)) z (fu 8 (.int .i64 (0:Int)) z z)))), hst⟩ ?_
 rintro n601 _ w596 ⟨z593, σ594, hm, rfl, hst⟩
 obtain ⟨n598, y599, rfl, hm, hx600⟩ := loopN_some hm
 dsimp only [locks_reads_l0] at hm
 refine wp_seq (wrl (wv (.bool (decide (z593 < ((a0.Gets).length : Int)))) z z z (wl_nil (tn (wp_seq ?_)))))
 refine bsplit (decide (z593 < ((a0.Gets).length : Int))) (fun hc602 => ?_) (fun hc602 => ?_)
 {
 replace hm := bif_t hc602 hm
 refine wp_ift (cvb hc602) ?_
 refine wp_skip (tn (wp_seq (wp_block (wp_seq (wrl ?_)))))
 refine wv (.int .i64 z593) z z z (wv (.int .i64 z593) z z z (wl_nil (tn (wp_seq (wrl (wv (.func (.func 216) #[] #[Pt b553 0]) z z z (wv (r0_0) z z z (wv (.int .i64 z593) z z z ?_))))))))
 obtain ⟨x603, hx604, hm⟩ := bind_some hm
 obtain ⟨h605, h606, hi607⟩ := geto_some hx604
 refine wv (.pointer (some (eAddr r0_0 (z593.toNat * 1 + 0)))) z z (x_index z z underlying43 sizeOf37 (rd_sliceV f0_0) h605 h606) (wv (.float .f64 x603) z z (x_load z isAgg37 (rd_load f0_0 (HL.le.refl _) hst hi607 (by rintro _ rfl; rfl))) ?_)
 obtain ⟨y615, hq616, hm⟩ := bind_some hm
 refine wl_call z z (x_callv call216 (caps := [Pt b553 0]) z (vs := [F6 x603]) z) ?_
 refine Calls.mono (show Calls prog 216 #[F6 x603, Pt b553 0] _ (fun e w' => ∃ (z613 : Bool), z613 = y615 ∧ e = .returned (.bool z613) ∧ St w0 w' I [cells b548 [U6 a0.ID.Session, U6 a0.ID.Seq, U6 a0.Epoch, r0_0, r0_1, r0_2, r0_3], cells b553 [F6 a1]] R) from ?_) ?_
 {
 clear hm; have hm := hq616
 refine calls_start (args := [F6 x603, Pt b553 0]) func216 z ntmps216 (Nat.le_of_ble_eq_true z) ?_
 refine wp_seq (wrl (wv (.bool false) z z z (wl_nil (tn (wp_seq (wrl (wv (.float .f64 a1) z z (x_load z isAgg37 (hst.bc0 z)) (wv (.float .f64 x603) z z z ?_))))))))
 obtain ⟨t608, ht609, hm⟩ := bind_some hm
 refine wc call137 [F6 a1, F6 x603] z z z ?_
 refine (number_Same_ref hst.to0 ht609).mono ?_
 rintro _ w610 ⟨rfl, hst⟩
 refine ⟨_, z, ?_⟩
 replace hst := hst.of0
 refine wv (.bool t608) z z z (wl_nil (tn (wp_ret ?_)))
 refine post_ret (vs := [.bool t608]) results216 (rvs_cons (rv_tmp z) rvs_nil) ?_
 replace hst := hst.pull1.keep2
 obtain rfl := some_inj hm
 exact ⟨t608, z, z, hst⟩
}
 clear hst
 rintro _ w617 ⟨z613, rfl, rfl, hst⟩
 refine ⟨_, z, ?_⟩
 try dsimp only at hm
 refine wl_nil (tn ?_)
 refine bsplit z613 (fun hc618 => ?_) (fun hc618 => ?_)
 {
 replace hm := bif_t hc618 hm
 refine wp_ift (cvb hc618) ?_
 refine wp_seq (wrl (wv (.int .i64 z593) z z z (wv (.int .i64 z593) z z z (wl_nil (tn (wp_ret (blk_r (then_r (then_r ?_)))))))))
 replace hm := inr_up hm hx600
 refine blk_r (then_r ?_)
 refine post_ret (vs := [I6 z593]) results228 (rvs_cons (rv_tmp z) rvs_nil) ?_
 replace hst := hst.pull1.pull1.keep2
 obtain rfl := some_inj hm
 exact ⟨z593, z, z, hst⟩
}
 {
 replace hm := bif_f hc618 hm
 refine wp_iff (cvb hc618) ?_
 refine wp_skip (blk_n (tn (wrl ?_)))
 refine wv (.int .i64 (i64.wrap (z593 + (1:Int)))) z z z (wv (.int .i64 (i64.wrap (z593 + (1:Int)))) z z z (wl_nil (tn ?_)))
 replace hst := hst.pull1.keep2
 obtain rfl := some_inj hm
 exact ⟨_, Nat.lt_succ_self _, (i64.wrap (z593 + (1:Int))), _, hx600, (fu 0 r0_0 z (fu 1 (.func (.func 216) #[] #[Pt b553 0]) z (fu 7 (.int .i64 ((a0.Gets).length : Int)) z (fu 8 (.int .i64 (i64.wrap (z593 + (1:Int)))) z z)))), hst⟩
}
}
 {
 replace hm := bif_f hc602 hm
 refine wp_iff (cvb hc602) ?_
 refine wp_exit (then_x (then_x ?_))
 replace hm := inr_up hm hx600
 refine blk_x (tn (wp_seq (wrl ?_)))
 refine wv (.int .i64 ((-1):Int)) z z z (wl_nil (tn (wp_ret ?_)))
 refine post_ret (vs := [I6 ((-1):Int)]) results228 (rvs_cons (rv_tmp z) rvs_nil) ?_
 replace hst := hst.pull1.keep2
 obtain rfl := some_inj hm
 exact ⟨((-1):Int), z, z, hst⟩
}
}
 clear hst
 rintro _ w623 ⟨z619, rfl, rfl, hst⟩
 refine ⟨_, z, ?_⟩
 try dsimp only at hm
 refine wv (.bool (decide (z619 ≥ (0:Int)))) z z z (wv (.bool (decide (z619 ≥ (0:Int)))) z z z (wl_nil (tn (wp_ret ?_))))
 refine post_ret (vs := [.bool (decide (z619 ≥ (0:Int)))]) results213 (rvs_cons (rv_tmp z) rvs_nil) ?_
 replace hst := hst.pull1.pull1.keep2
 obtain rfl := some_inj hm
 exact ⟨(decide (z619 ≥ (0:Int))), z, z, hst⟩
}
 clear hst
 rintro _ w628 ⟨z624, rfl, rfl, hst⟩
 refine ⟨_, z, ?_⟩
 try dsimp only at hm
 refine wv (.bool z624) z z z ?_
 refine bsplit z624 (fun hc629 => ?_) (fun hc629 => ?_)
 {
 replace hm := bif_t hc629 hm
 refine wo hc629 z z z z z z (wo hc629 z z z z z z (wo hc629 z z z z z z (wo hc629 z z z z z z (wv (.bool true) z z (x_pick_t hc629 z z) (wv (.bool true) z z z (wl_nil (tn (wp_ret ?_))))))))
 obtain rfl := some_inj hm
 refine post_ret (vs := [.bool true]) results195 (rvs_cons (rv_tmp z) rvs_nil) ?_
 exact ⟨z, hst.keep0⟩
}
 {
 replace hm := bif_f hc629 hm
 refine wv (Pt b548 4) ((wanted_eq z z z (cvb hc629)).trans z) z (x_field z underlying46 z sizeOf44 z) (wv (r0_1) ((wanted_eq z z z (cvb hc629)).trans z) z (x_load z isAgg44 (hst.bc0 z)) (wv (.func (.func 218) #[] #[Pt b553 0]) ((wanted_eq z z z (cvb hc629)).trans z) z (by kernel_rfl) ?_))
 obtain ⟨y713, hq714, hm⟩ := bind_some hm
 refine wl_call ((wanted_eq z z z (cvb hc629)).trans z) z (x_callv call217 (caps := []) z (vs := [r0_1, .func (.func 218) #[] #[Pt b553 0]]) z) ?_
 refine Calls.mono (show Calls prog 217 #[r0_1, .func (.func 218) #[] #[Pt b553 0]] _ (fun e w' => ∃ (z711 : Bool), z711 = y713 ∧ e = .returned (.bool z711) ∧ St w0 w' I [cells b548 [U6 a0.ID.Session, U6 a0.ID.Seq, U6 a0.Epoch, r0_0, r0_1, r0_2, r0_3], cells b553 [F6 a1]] R) from ?_) ?_
 {
 clear hm; have hm := hq714
 refine calls_start (args := [r0_1, .func (.func 218) #[] #[Pt b553 0]]) func217 z ntmps217 (Nat.le_of_ble_eq_true z) ?_
 refine wp_seq (wrl (wv (.bool false) z z z (wl_nil (tn (wp_seq (wrl (wv (r0_1) z z z (wv (.func (.func 218) #[] #[Pt b553 0]) z z z ?_))))))))
 obtain ⟨y708, hq709, hm⟩ := bind_some hm
 refine wl_call z z (x_callv call229 (caps := []) z (vs := [r0_1, .func (.func 218) #[] #[Pt b553 0]]) z) ?_
 refine Calls.mono (show Calls prog 229 #[r0_1, .func (.func 218) #[] #[Pt b553 0]] _ (fun e w' => ∃ (z706 : Int), z706 = y708 ∧ e = .returned (.int .i64 z706) ∧ St w0 w' I [cells b548 [U6 a0.ID.Session, U6 a0.ID.Seq, U6 a0.Epoch, r0_0, r0_1, r0_2, r0_3], cells b553 [F6 a1]] R) from ?_) ?_
 {
 clear hm; have hm := hq709
 refine calls_start (args := [r0_1, .func (.func 218) #[] #[Pt b553 0]]) func229 z ntmps229 (Nat.le_of_ble_eq_true z) ?_
 refine wp_seq (wrl (wv (.int .i64 (0:Int)) z z z (wl_nil (tn (wp_seq (wp_seq (wrl (wv (r0_1) z z z (wv (.int .i64 ((a0.Scans).length : Int)) z z (x_len z underlying44 (rd_sliceV f0_1)) (wv (.int .i64 (0:Int)) z z z (wl_nil (tn (wp_block ?_)))))))))))))
 obtain ⟨n677, hm⟩ := loopO_some hm
 refine wp_loop_n (fun n a w => ∃ (z675 : Int) (σ676 : Nat → Value), loopN (locks_reads_l1 a0 a1) n z675 = some y708 ∧ a = Fr 19 (upd (upd (upd (upd σ676 0 (r0_1)) 1 (.func (.func 218) #[] #[Pt b553 0])) 7 (.int .i64 ((a0.Scans).length : Int))) 8 (.int .i64 z675)) ∧ St w0 w I [cells b548 [U6 a0.ID.Session, U6 a0.ID.Seq, U6 a0.Epoch, r0_0, r0_1, r0_2, r0_3], cells b553 [F6 a1]] R) n677 ⟨(0:Int), _, hm, (fu 0 r0_1 z (fu 1 (.func (.func 218) #[] #[Pt b553 0]) z (fu 7 (.int .i64 ((a0.Scans).length : Int)) z (fu 8 (.int .i64 (0:Int)) z z)))), hst⟩ ?_
 rintro n683 _ w678 ⟨z675, σ676, hm, rfl, hst⟩
 obtain ⟨n680, y681, rfl, hm, hx682⟩ := loopN_some hm
 dsimp only [locks_reads_l1] at hm
 refine wp_seq (wrl (wv (.bool (decide (z675 < ((a0.Scans).length : Int)))) z z z (wl_nil (tn (wp_seq ?_)))))
 refine bsplit (decide (z675 < ((a0.Scans).length : Int))) (fun hc684 => ?_) (fun hc684 => ?_)
 {
 replace hm := bif_t hc684 hm
 refine wp_ift (cvb hc684) ?_
 refine wp_skip (tn (wp_seq (wp_block (wp_seq (wrl ?_)))))
 refine wv (.int .i64 z675) z z z (wv (.int .i64 z675) z z z (wl_nil (tn (wp_seq (wrl (wv (.func (.func 218) #[] #[Pt b553 0]) z z z (wv (r0_1) z z z (wv (.int .i64 z675) z z z ?_))))))))
 obtain ⟨x685, hx686, hm⟩ := bind_some hm
 obtain ⟨h687, h688, hi689⟩ := geto_some hx686
 refine wv (.pointer (some (eAddr r0_1 (z675.toNat * 2 + 0)))) z z (x_index z z underlying44 sizeOf80 (rd_sliceV f0_1) h687 h688) (wv (.agg #[F6 x685.1, F6 x685.2]) z z (x_loadN (cs := [F6 x685.1, F6 x685.2]) z isAgg80 sizeOf80 (rd_loadN f0_1 (HL.le.refl _) hst hi689 0 (by rintro _ rfl; rfl))) ?_)
 obtain ⟨y702, hq703, hm⟩ := bind_some hm
 refine wl_call z z (x_callv call218 (caps := [Pt b553 0]) z (vs := [.agg #[F6 x685.1, F6 x685.2]]) z) ?_
 refine Calls.mono (show Calls prog 218 #[.agg #[F6 x685.1, F6 x685.2], Pt b553 0] _ (fun e w' => ∃ (z700 : Bool), z700 = y702 ∧ e = .returned (.bool z700) ∧ St w0 w' I [cells b548 [U6 a0.ID.Session, U6 a0.ID.Seq, U6 a0.Epoch, r0_0, r0_1, r0_2, r0_3], cells b553 [F6 a1]] R) from ?_) ?_
 {
 clear hm; have hm := hq703
 refine calls_start (args := [.agg #[F6 x685.1, F6 x685.2], Pt b553 0]) func218 z ntmps218 (Nat.le_of_ble_eq_true z) ?_
 refine wp_seq (wrl ?_)
 obtain ⟨b690, w691, ew692, eb693, hst⟩ := hst.box [F6 x685.1, F6 x685.2] 80
 refine wl_run (v := Pt b690 0) (w' := w691) z z (x_al (by kernel_rfl) ew692 eb693) ?_
 refine wv (.bool false) z z z (wl_nil (tn (wp_seq (wrl (wv (.float .f64 a1) z z (x_load z isAgg37 (hst.bc2 z)) (wv (Pt b690 0) z z (x_index_arr (i := (0:Int)) z z underlying80 sizeOf37 (by decide) (by decide)) (wv (.float .f64 x685.1) z z (x_load z isAgg37 (hst.bc0 z)) (wv (Pt b690 1) z z (x_index_arr (i := (1:Int)) z z underlying80 sizeOf37 (by decide) (by decide)) (wv (.float .f64 x685.2) z z (x_load z isAgg37 (hst.bc0 z)) ?_)))))))))
 obtain ⟨t695, ht696, hm⟩ := bind_some hm
 refine wc call215 [F6 a1, F6 x685.1, F6 x685.2] z z z ?_
 refine (number_Within_ref hst.to0 ht696).mono ?_
 rintro _ w697 ⟨rfl, hst⟩
 refine ⟨_, z, ?_⟩
 replace hst := hst.of0
 refine wv (.bool t695) z z z (wl_nil (tn (wp_ret ?_)))
 refine post_ret (vs := [.bool t695]) results218 (rvs_cons (rv_tmp z) rvs_nil) ?_
 replace hst := hst.pull2.pull2.keep2
 obtain rfl := some_inj hm
 exact ⟨t695, z, z, hst⟩
}
 clear hst
 rintro _ w704 ⟨z700, rfl, rfl, hst⟩
 refine ⟨_, z, ?_⟩
 try dsimp only at hm
 refine wl_nil (tn ?_)
 refine bsplit z700 (fun hc705 => ?_) (fun hc705 => ?_)
 {
 replace hm := bif_t hc705 hm
 refine wp_ift (cvb hc705) ?_
 refine wp_seq (wrl (wv (.int .i64 z675) z z z (wv (.int .i64 z675) z z z (wl_nil (tn (wp_ret (blk_r (then_r (then_r ?_)))))))))
 replace hm := inr_up hm hx682
 refine blk_r (then_r ?_)
 refine post_ret (vs := [I6 z675]) results229 (rvs_cons (rv_tmp z) rvs_nil) ?_
 replace hst := hst.pull1.pull1.keep2
 obtain rfl := some_inj hm
 exact ⟨z675, z, z, hst⟩
}
 {
 replace hm := bif_f hc705 hm
 refine wp_iff (cvb hc705) ?_
 refine wp_skip (blk_n (tn (wrl ?_)))
 refine wv (.int .i64 (i64.wrap (z675 + (1:Int)))) z z z (wv (.int .i64 (i64.wrap (z675 + (1:Int)))) z z z (wl_nil (tn ?_)))
 replace hst := hst.pull1.pull1.keep2
 obtain rfl := some_inj hm
 exact ⟨_, Nat.lt_succ_self _, (i64.wrap (z675 + (1:Int))), _, hx682, (fu 0 r0_1 z (fu 1 (.func (.func 218) #[] #[Pt b553 0]) z (fu 7 (.int .i64 ((a0.Scans).length : Int)) z (fu 8 (.int .i64 (i64.wrap (z675 + (1:Int)))) z z)))), hst⟩
}
}
 {
 replace hm := bif_f hc684 hm
 refine wp_iff (cvb hc684) ?_
 refine wp_exit (then_x (then_x ?_))
 replace hm := inr_up hm hx682
 refine blk_x (tn (wp_seq (wrl ?_)))
 refine wv (.int .i64 ((-1):Int)) z z z (wl_nil (tn (wp_ret ?_)))
 refine post_ret (vs := [I6 ((-1):Int)]) results229 (rvs_cons (rv_tmp z) rvs_nil) ?_
 replace hst := hst.pull1.pull1.keep2
 obtain rfl := some_inj hm
 exact ⟨((-1):Int), z, z, hst⟩
}
}
 clear hst
 rintro _ w710 ⟨z706, rfl, rfl, hst⟩
 refine ⟨_, z, ?_⟩
 try dsimp only at hm
 refine wv (.bool (decide (z706 ≥ (0:Int)))) z z z (wv (.bool (decide (z706 ≥ (0:Int)))) z z z (wl_nil (tn (wp_ret ?_))))
 refine post_ret (vs := [.bool (decide (z706 ≥ (0:Int)))]) results217 (rvs_cons (rv_tmp z) rvs_nil) ?_
 replace hst := hst.pull1.pull1.keep2
 obtain rfl := some_inj hm
 exact ⟨(decide (z706 ≥ (0:Int))), z, z, hst⟩
}
 clear hst
 rintro _ w715 ⟨z711, rfl, rfl, hst⟩
 refine ⟨_, z, ?_⟩
 try dsimp only at hm
 refine wv (.bool z711) z z (x_pick_f hc629 z z) (wv (.bool z711) z z z (wl_nil (tn (wp_ret ?_))))
 obtain rfl := some_inj hm
 refine post_ret (vs := [.bool z711]) results195 (rvs_cons (rv_tmp z) rvs_nil) ?_
 exact ⟨z, hst.keep0⟩
}
}

theorem locks_Meet_ref {w0 w : World} {I : HL} {R : SP} {a0 : api_Hold} {r0_0 : Value} {r0_1 : Value} {r0_2 : Value} {r0_3 : Value} {a1 : api_Hold} {r1_0 : Value} {r1_1 : Value} {r1_2 : Value} {r1_3 : Value} (f0_0 : Rd tyF64 R I r0_0 a0.Gets) (f0_1 : Rd tyF2 R I r0_1 a0.Scans) (f0_2 : Rd tyF64 R I r0_2 a0.Puts) (f0_3 : Rd (tyInt .u8) R I r0_3 a0.Data) (f1_0 : Rd tyF64 R I r1_0 a1.Gets) (f1_1 : Rd tyF2 R I r1_1 a1.Scans) (f1_2 : Rd tyF64 R I r1_2 a1.Puts) (f1_3 : Rd (tyInt .u8) R I r1_3 a1.Data) (hst : St w0 w I [] R) {r : (Bool)} (hm : locks_Meet a0 a1 = some r) :
  Calls prog 140 #[.agg #[U6 a0.ID.Session, U6 a0.ID.Seq, U6 a0.Epoch, r0_0, r0_1, r0_2, r0_3], .agg #[U6 a1.ID.Session, U6 a1.ID.Seq, U6 a1.Epoch, r1_0, r1_1, r1_2, r1_3]] w fun e w' => e = .returned (.bool r) ∧ St w0 w' I [] R := by {
 unfold locks_Meet at hm
 refine calls_start (args := [.agg #[U6 a0.ID.Session, U6 a0.ID.Seq, U6 a0.Epoch, r0_0, r0_1, r0_2, r0_3], .agg #[U6 a1.ID.Session, U6 a1.ID.Seq, U6 a1.Epoch, r1_0, r1_1, r1_2, r1_3]]) func140 z ntmps140 (Nat.le_of_ble_eq_true z) ?_
 refine wp_seq (wrl ?_)
 obtain ⟨b483, w484, ew485, eb486, hst⟩ := hst.box [U6 a0.ID.Session, U6 a0.ID.Seq, U6 a0.Epoch, r0_0, r0_1, r0_2, r0_3] 46
 refine wl_run (v := Pt b483 0) (w' := w484) z z (x_al (by kernel_rfl) ew485 eb486) ?_
 obtain ⟨b488, w489, ew490, eb491, hst⟩ := hst.box [U6 a1.ID.Session, U6 a1.ID.Seq, U6 a1.Epoch, r1_0, r1_1, r1_2, r1_3] 46
 refine wl_run (v := Pt b488 0) (w' := w489) z z (x_al (by kernel_rfl) ew490 eb491) ?_
 refine wv (.bool false) z z z (wl_nil (tn ?_))
 obtain ⟨y559, hm, hx560⟩ := joinO_some hm
 refine wp_cut (fun a w => ∃ (σ557 : Nat → Value), (locks_Meet_j0 a1 a0) () = some r ∧ a = Fr 37 (upd (upd σ557 2 (Pt b483 0)) 3 (Pt b488 0)) ∧ St w0 w I [cells b483 [U6 a0.ID.Session, U6 a0.ID.Seq, U6 a0.Epoch, r0_0, r0_1, r0_2, r0_3], cells b488 [U6 a1.ID.Session, U6 a1.ID.Seq, U6 a1.Epoch, r1_0, r1_1, r1_2, r1_3]] R) ?_ ?_
 {
 refine wp_seq (wrl (wv (Pt b483 5) z z (x_field z underlying46 z sizeOf43 z) (wv (r0_2) z z (x_load z isAgg43 (hst.bc1 z)) (wv (.int .i64 ((a0.Puts).length : Int)) z z (x_len z underlying43 (rd_sliceV f0_2)) (wv (.int .i64 (0:Int)) z z z (wl_nil (tn (wp_block ?_))))))))
 obtain ⟨n532, hm⟩ := loopO_some hm
 refine wp_loop_n (fun n a w => ∃ (z530 : Int) (σ531 : Nat → Value), loopN (locks_Meet_l1 a0 a1) n z530 = some y559 ∧ a = Fr 37 (upd (upd (upd (upd (upd σ531 2 (Pt b483 0)) 3 (Pt b488 0)) 10 (r0_2)) 11 (.int .i64 ((a0.Puts).length : Int))) 12 (.int .i64 z530)) ∧ St w0 w I [cells b488 [U6 a1.ID.Session, U6 a1.ID.Seq, U6 a1.Epoch, r1_0, r1_1, r1_2, r1_3], cells b483 [U6 a0.ID.Session, U6 a0.ID.Seq, U6 a0.Epoch, r0_0, r0_1, r0_2, r0_3]] R) n532 ⟨(0:Int), _, hm, (fu 2 (Pt b483 0) z (fu 3 (Pt b488 0) z (fu 10 r0_2 z (fu 11 (.int .i64 ((a0.Puts).length : Int)) z (fu 12 (.int .i64 (0:Int)) z z))))), hst⟩ ?_
 rintro n538 _ w533 ⟨z530, σ531, hm, rfl, hst⟩
 obtain ⟨n535, y536, rfl, hm, hx537⟩ := loopN_some hm
 dsimp only [locks_Meet_l1] at hm
 refine wp_seq (wrl (wv (.bool (decide (z530 < ((a0.Puts).length : Int)))) z z z (wl_nil (tn (wp_seq ?_)))))
 refine bsplit (decide (z530 < ((a0.Puts).length : Int))) (fun hc539 => ?_) (fun hc539 => ?_)
 {
 replace hm := bif_t hc539 hm
 refine wp_ift (cvb hc539) ?_
 refine wp_skip (tn (wp_seq (wp_block (wp_seq (wrl ?_)))))
 obtain ⟨x540, hx541, hm⟩ := bind_some hm
 obtain ⟨h542, h543, hi544⟩ := geto_some hx541
 refine wv (.pointer (some (eAddr r0_2 (z530.toNat * 1 + 0)))) z z (x_index z z underlying43 sizeOf37 (rd_sliceV f0_2) h542 h543) (wv (.float .f64 x540) z z (x_load z isAgg37 (rd_load f0_2 (HL.le.refl _) hst hi544 (by rintro _ rfl; rfl))) (wv (.float .f64 x540) z z z (wl_nil (tn (wp_seq (wrl (wv (.agg #[U6 a1.ID.Session, U6 a1.ID.Seq, U6 a1.Epoch, r1_0, r1_1, r1_2, r1_3]) z z (x_loadN (cs := [U6 a1.ID.Session, U6 a1.ID.Seq, U6 a1.Epoch, r1_0, r1_1, r1_2, r1_3]) z isAgg46 sizeOf46 (hst.bcs0 0 z)) (wv (.float .f64 x540) z z z (wv (.float .f64 x540) z z z ?_)))))))))
 obtain ⟨t545, ht546, hm⟩ := bind_some hm
 refine wc call194 [.agg #[U6 a1.ID.Session, U6 a1.ID.Seq, U6 a1.Epoch, r1_0, r1_1, r1_2, r1_3], F6 x540, F6 x540] z z z ?_
 refine (locks_writes_ref (f1_0.mono (rd_weak _)) (f1_1.mono (rd_weak _)) (f1_2.mono (rd_weak _)) (f1_3.mono (rd_weak _)) hst.to0 ht546).mono ?_
 rintro _ w547 ⟨rfl, hst⟩
 refine ⟨_, z, ?_⟩
 replace hst := hst.of0
 refine wv (.bool t545) z z z ?_
 refine bsplit t545 (fun hc550 => ?_) (fun hc550 => ?_)
 {
 replace hm := bif_t hc550 hm
 refine wo hc550 z z z z z z (wo hc550 z z z z z z (wo hc550 z z z z z z (wv (.bool true) z z (x_pick_t hc550 z z) (wl_nil (tn ?_)))))
 refine wp_ift z ?_
 refine wp_seq (wrl (wv (.bool true) z z z (wl_nil (tn (wp_ret (blk_r (then_r (then_r ?_))))))))
 replace hm := inr_up hm hx537
 refine blk_r (then_r ?_)
 replace hm := inr_up hm hx560
 obtain rfl := some_inj hm
 refine post_ret (vs := [.bool true]) results140 (rvs_cons (rv_tmp z) rvs_nil) ?_
 exact ⟨z, hst.keep0⟩
}
 {
 replace hm := bif_f hc550 hm
 refine wv (.agg #[U6 a1.ID.Session, U6 a1.ID.Seq, U6 a1.Epoch, r1_0, r1_1, r1_2, r1_3]) ((wanted_eq z z z (cvb hc550)).trans z) z (x_loadN (cs := [U6 a1.ID.Session, U6 a1.ID.Seq, U6 a1.Epoch, r1_0, r1_1, r1_2, r1_3]) z isAgg46 sizeOf46 (hst.bcs0 0 z)) (wv (.float .f64 x540) ((wanted_eq z z z (cvb hc550)).trans z) z z ?_)
 obtain ⟨t551, ht552, hm⟩ := bind_some hm
 refine wl_call ((wanted_eq z z z (cvb hc550)).trans z) z (x_call call195 z (vs := [.agg #[U6 a1.ID.Session, U6 a1.ID.Seq, U6 a1.Epoch, r1_0, r1_1, r1_2, r1_3], F6 x540]) z) ?_
 refine (locks_reads_ref (f1_0.mono (rd_weak _)) (f1_1.mono (rd_weak _)) (f1_2.mono (rd_weak _)) (f1_3.mono (rd_weak _)) hst.to0 ht552).mono ?_
 rintro _ w553 ⟨rfl, hst⟩
 refine ⟨_, z, ?_⟩
 replace hst := hst.of0
 refine wv (.bool t551) z z (x_pick_f hc550 z z) (wl_nil (tn ?_))
 refine bsplit t551 (fun hc556 => ?_) (fun hc556 => ?_)
 {
 replace hm := bif_t hc556 hm
 refine wp_ift (cvb hc556) ?_
 refine wp_seq (wrl (wv (.bool true) z z z (wl_nil (tn (wp_ret (blk_r (then_r (then_r ?_))))))))
 replace hm := inr_up hm hx537
 refine blk_r (then_r ?_)
 replace hm := inr_up hm hx560
 obtain rfl := some_inj hm
 refine post_ret (vs := [.bool true]) results140 (rvs_cons (rv_tmp z) rvs_nil) ?_
 exact ⟨z, hst.keep0⟩
}
 {
 replace hm := bif_f hc556 hm
 refine wp_iff (cvb hc556) ?_
 refine wp_skip (blk_n (tn (wrl ?_)))
 refine wv (.int .i64 (i64.wrap (z530 + (1:Int)))) z z z (wv (.int .i64 (i64.wrap (z530 + (1:Int)))) z z z (wl_nil (tn ?_)))
 replace hst := hst.pull1.pull1.keep2
 obtain rfl := some_inj hm
 exact ⟨_, Nat.lt_succ_self _, (i64.wrap (z530 + (1:Int))), _, hx537, (fu 2 (Pt b483 0) z (fu 3 (Pt b488 0) z (fu 10 r0_2 z (fu 11 (.int .i64 ((a0.Puts).length : Int)) z (fu 12 (.int .i64 (i64.wrap (z530 + (1:Int)))) z z))))), hst⟩
}
}
}
 {
 replace hm := bif_f hc539 hm
 refine wp_iff (cvb hc539) ?_
 refine wp_exit (then_x (then_x ?_))
 replace hm := inr_up hm hx537
 refine blk_x (tn ?_)
 replace hst := hst.pull1.keep2
 obtain rfl := some_inj hm
 exact ⟨_, hx560, (fu 2 (Pt b483 0) z (fu 3 (Pt b488 0) z z)), hst⟩
}
}
 {
 clear hst
 rintro _ w561 ⟨σ557, hm, rfl, hst⟩
 dsimp only [locks_Meet_j0] at hm
 refine wp_seq (wp_seq (wrl (wv (Pt b488 5) z z (x_field z underlying46 z sizeOf43 z) (wv (r1_2) z z (x_load z isAgg43 (hst.bc1 z)) (wv (.int .i64 ((a1.Puts).length : Int)) z z (x_len z underlying43 (rd_sliceV f1_2)) (wv (.int .i64 (0:Int)) z z z (wl_nil (tn (wp_block ?_)))))))))
 replace hst := hst.pull1.sub
 obtain ⟨n589, hm⟩ := loopO_some hm
 refine wp_loop_n (fun n a w => ∃ (z587 : Int) (σ588 : Nat → Value), loopN (locks_Meet_l2 a1 a0) n z587 = some r ∧ a = Fr 37 (upd (upd (upd (upd σ588 2 (Pt b483 0)) 27 (r1_2)) 28 (.int .i64 ((a1.Puts).length : Int))) 29 (.int .i64 z587)) ∧ St w0 w I [cells b483 [U6 a0.ID.Session, U6 a0.ID.Seq, U6 a0.Epoch, r0_0, r0_1, r0_2, r0_3]] R) n589 ⟨(0:Int), _, hm, (fu 2 (Pt b483 0) z (fu 27 r1_2 z (fu 28 (.int .i64 ((a1.Puts).length : Int)) z (fu 29 (.int .i64 (0:Int)) z z)))), hst⟩ ?_
 rintro n595 _ w590 ⟨z587, σ588, hm, rfl, hst⟩
 obtain ⟨n592, y593, rfl, hm, hx594⟩ := loopN_some hm
 dsimp only [locks_Meet_l2] at hm
 refine wp_seq (wrl (wv (.bool (decide (z587 < ((a1.Puts).length : Int)))) z z z (wl_nil (tn (wp_seq ?_)))))
 refine bsplit (decide (z587 < ((a1.Puts).length : Int))) (fun hc596 => ?_) (fun hc596 => ?_)
 {
 replace hm := bif_t hc596 hm
 refine wp_ift (cvb hc596) ?_
 refine wp_skip (tn (wp_seq (wp_block (wp_seq (wrl ?_)))))
 obtain ⟨x597, hx598, hm⟩ := bind_some hm
 obtain ⟨h599, h600, hi601⟩ := geto_some hx598
 refine wv (.pointer (some (eAddr r1_2 (z587.toNat * 1 + 0)))) z z (x_index z z underlying43 sizeOf37 (rd_sliceV f1_2) h599 h600) (wv (.float .f64 x597) z z (x_load z isAgg37 (rd_load f1_2 (HL.le.refl _) hst hi601 (by rintro _ rfl; rfl))) (wv (.float .f64 x597) z z z (wl_nil (tn (wp_seq (wrl (wv (.agg #[U6 a0.ID.Session, U6 a0.ID.Seq, U6 a0.Epoch, r0_0, r0_1, r0_2, r0_3]) z z (x_loadN (cs := [U6 a0.ID.Session, U6 a0.ID.Seq, U6 a0.Epoch, r0_0, r0_1, r0_2, r0_3]) z isAgg46 sizeOf46 (hst.bcs0 0 z)) (wv (.float .f64 x597) z z z ?_))))))))
 obtain ⟨t602, ht603, hm⟩ := bind_some hm
 refine wc call195 [.agg #[U6 a0.ID.Session, U6 a0.ID.Seq, U6 a0.Epoch, r0_0, r0_1, r0_2, r0_3], F6 x597] z z z ?_
 refine (locks_reads_ref (f0_0.mono (rd_weak _)) (f0_1.mono (rd_weak _)) (f0_2.mono (rd_weak _)) (f0_3.mono (rd_weak _)) hst.to0 ht603).mono ?_
 rintro _ w604 ⟨rfl, hst⟩
 refine ⟨_, z, ?_⟩
 replace hst := hst.of0
 refine wl_nil (tn ?_)
 refine bsplit t602 (fun hc607 => ?_) (fun hc607 => ?_)
 {
 replace hm := bif_t hc607 hm
 refine wp_ift (cvb hc607) ?_
 refine wp_seq (wrl (wv (.bool true) z z z (wl_nil (tn (wp_ret (blk_r (then_r (then_r ?_))))))))
 replace hm := inr_up hm hx594
 refine blk_r (then_r ?_)
 obtain rfl := some_inj hm
 refine post_ret (vs := [.bool true]) results140 (rvs_cons (rv_tmp z) rvs_nil) ?_
 exact ⟨z, hst.keep0⟩
}
 {
 replace hm := bif_f hc607 hm
 refine wp_iff (cvb hc607) ?_
 refine wp_skip (blk_n (tn (wrl ?_)))
 refine wv (.int .i64 (i64.wrap (z587 + (1:Int)))) z z z (wv (.int .i64 (i64.wrap (z587 + (1:Int)))) z z z (wl_nil (tn ?_)))
 replace hst := hst.keep1
 obtain rfl := some_inj hm
 exact ⟨_, Nat.lt_succ_self _, (i64.wrap (z587 + (1:Int))), _, hx594, (fu 2 (Pt b483 0) z (fu 27 r1_2 z (fu 28 (.int .i64 ((a1.Puts).length : Int)) z (fu 29 (.int .i64 (i64.wrap (z587 + (1:Int)))) z z)))), hst⟩
}
}
 {
 replace hm := bif_f hc596 hm
 refine wp_iff (cvb hc596) ?_
 refine wp_exit (then_x (then_x ?_))
 replace hm := inr_up hm hx594
 refine blk_x (tn (wp_seq (wrl ?_)))
 refine wv (.bool false) z z z (wl_nil (tn (wp_ret ?_)))
 obtain rfl := some_inj hm
 refine post_ret (vs := [.bool false]) results140 (rvs_cons (rv_tmp z) rvs_nil) ?_
 exact ⟨z, hst.keep0⟩
}
}
}

theorem slices_Clone_float64_float64_ref {w0 w : World} {I : HL} {R : SP} {a0 : (List Nat)} {r0_0 : Value} (f0_0 : Rd tyF64 R I r0_0 a0) (hst : St w0 w I [] R) {r : (List Nat)} (hm : slices_Clone_float64_float64 a0 = some r) :
  Calls prog 141 #[r0_0] w fun e w' => ∃ (q0_0 : Value), e = .returned (q0_0) ∧ St w0 w' I [ownS tyF64 q0_0 r] R := by {
 unfold slices_Clone_float64_float64 at hm
 obtain ⟨hg, hm⟩ := gd_some hm
 obtain rfl := some_inj hm
 have hsv := rd_sliceV f0_0
 refine calls_start (args := [r0_0]) func141 z ntmps141 (Nat.le_of_ble_eq_true z) ?_
 refine wp_seq (wrl (wv ((.slice none 0 0)) z z z (wl_nil (tn (wp_seq (wp_seq (wrl (wv (r0_0) z z z (wv (.bool (isNil r0_0)) z z (x_slnil z hsv z underlying43) (wl_nil (tn ?_)))))))))))
 refine bsplit (isNil r0_0) (fun hc441 => ?_) (fun hc441 => ?_)
 {
 refine wp_ift (cvb hc441) ?_
 refine wp_seq (wrl (wv ((.slice none 0 0)) z z z (wl_nil (tn (wp_ret (then_r ?_))))))
 refine post_ret (vs := [Zs]) results141 (rvs_cons (rv_tmp z) rvs_nil) ?_
 obtain rfl := List.eq_nil_of_length_eq_zero (isNil_len hsv hc441)
 exact ⟨_, z, (hst.own_nil tyF64).keep1⟩
}
 {
 refine wp_iff (cvb hc441) ?_
 refine wp_skip (tn (wp_seq (wrl ?_)))
 obtain ⟨b, w1, ew, eb, hst⟩ := hst.lits (E := tyF64) (xs := []) [] 37 0 z Reps.nil
 refine wl_run (v := (.slice (some ⟨b, 0, none⟩) 0 0)) (w' := w1) z z (x_als (by kernel_rfl) ew eb) ?_
 refine wv (r0_0) z z z ?_
 obtain ⟨v2, w2, hr, hst⟩ := run_append elem_43 underlying43 hst (Src.of_rd hst f0_0 flat_f64) (room_of hg z) 43
 refine wl_run (v := v2) (w' := w2) z z (x_append z z hr) ?_
 refine wv (v2) z z z (wl_nil (tn (wp_ret ?_)))
 refine post_ret (vs := [v2]) results141 (rvs_cons (rv_tmp z) rvs_nil) ?_
 rw [List.nil_append] at hst
 exact ⟨_, z, hst.keep1⟩
}
}

theorem slices_Clone_2_float64_2_float64_ref {w0 w : World} {I : HL} {R : SP} {a0 : (List (Nat × Nat))} {r0_0 : Value} (f0_0 : Rd tyF2 R I r0_0 a0) (hst : St w0 w I [] R) {r : (List (Nat × Nat))} (hm : slices_Clone_2_float64_2_float64 a0 = some r) :
  Calls prog 142 #[r0_0] w fun e w' => ∃ (q0_0 : Value), e = .returned (q0_0) ∧ St w0 w' I [ownS tyF2 q0_0 r] R := by {
 unfold slices_Clone_2_float64_2_float64 at hm
 obtain ⟨hg, hm⟩ := gd_some hm
 obtain rfl := some_inj hm
 have hsv := rd_sliceV f0_0
 refine calls_start (args := [r0_0]) func142 z ntmps142 (Nat.le_of_ble_eq_true z) ?_
 refine wp_seq (wrl (wv ((.slice none 0 0)) z z z (wl_nil (tn (wp_seq (wp_seq (wrl (wv (r0_0) z z z (wv (.bool (isNil r0_0)) z z (x_slnil z hsv z underlying44) (wl_nil (tn ?_)))))))))))
 refine bsplit (isNil r0_0) (fun hc441 => ?_) (fun hc441 => ?_)
 {
 refine wp_ift (cvb hc441) ?_
 refine wp_seq (wrl (wv ((.slice none 0 0)) z z z (wl_nil (tn (wp_ret (then_r ?_))))))
 refine post_ret (vs := [Zs]) results142 (rvs_cons (rv_tmp z) rvs_nil) ?_
 obtain rfl := List.eq_nil_of_length_eq_zero (isNil_len hsv hc441)
 exact ⟨_, z, (hst.own_nil tyF2).keep1⟩
}
 {
 refine wp_iff (cvb hc441) ?_
 refine wp_skip (tn (wp_seq (wrl ?_)))
 obtain ⟨b, w1, ew, eb, hst⟩ := hst.lits (E := tyF2) (xs := []) [] 80 0 z Reps.nil
 refine wl_run (v := (.slice (some ⟨b, 0, none⟩) 0 0)) (w' := w1) z z (x_als (by kernel_rfl) ew eb) ?_
 refine wv (r0_0) z z z ?_
 obtain ⟨v2, w2, hr, hst⟩ := run_append elem_44 underlying44 hst (Src.of_rd hst f0_0 flat_f2) (room_of hg z) 44
 refine wl_run (v := v2) (w' := w2) z z (x_append z z hr) ?_
 refine wv (v2) z z z (wl_nil (tn (wp_ret ?_)))
 refine post_ret (vs := [v2]) results142 (rvs_cons (rv_tmp z) rvs_nil) ?_
 rw [List.nil_append] at hst
 exact ⟨_, z, hst.keep1⟩
}
}

theorem slices_Clone_byte_byte_ref {w0 w : World} {I : HL} {R : SP} {a0 : (List Int)} {r0_0 : Value} (f0_0 : Rd (tyInt .u8) R I r0_0 a0) (hst : St w0 w I [] R) {r : (List Int)} (hm : slices_Clone_byte_byte a0 = some r) :
  Calls prog 143 #[r0_0] w fun e w' => ∃ (q0_0 : Value), e = .returned (q0_0) ∧ St w0 w' I [ownS (tyInt .u8) q0_0 r] R := by {
 unfold slices_Clone_byte_byte at hm
 obtain ⟨hg, hm⟩ := gd_some hm
 obtain rfl := some_inj hm
 have hsv := rd_sliceV f0_0
 refine calls_start (args := [r0_0]) func143 z ntmps143 (Nat.le_of_ble_eq_true z) ?_
 refine wp_seq (wrl (wv ((.slice none 0 0)) z z z (wl_nil (tn (wp_seq (wp_seq (wrl (wv (r0_0) z z z (wv (.bool (isNil r0_0)) z z (x_slnil z hsv z underlying22) (wl_nil (tn ?_)))))))))))
 refine bsplit (isNil r0_0) (fun hc441 => ?_) (fun hc441 => ?_)
 {
 refine wp_ift (cvb hc441) ?_
 refine wp_seq (wrl (wv ((.slice none 0 0)) z z z (wl_nil (tn (wp_ret (then_r ?_))))))
 refine post_ret (vs := [Zs]) results143 (rvs_cons (rv_tmp z) rvs_nil) ?_
 obtain rfl := List.eq_nil_of_length_eq_zero (isNil_len hsv hc441)
 exact ⟨_, z, (hst.own_nil (tyInt .u8)).keep1⟩
}
 {
 refine wp_iff (cvb hc441) ?_
 refine wp_skip (tn (wp_seq (wrl ?_)))
 obtain ⟨b, w1, ew, eb, hst⟩ := hst.lits (E := (tyInt .u8)) (xs := []) [] 5 0 z Reps.nil
 refine wl_run (v := (.slice (some ⟨b, 0, none⟩) 0 0)) (w' := w1) z z (x_als (by kernel_rfl) ew eb) ?_
 refine wv (r0_0) z z z ?_
 obtain ⟨v2, w2, hr, hst⟩ := run_append elem_22 underlying22 hst (Src.of_rd hst f0_0 flat_int) (room_of hg z) 22
 refine wl_run (v := v2) (w' := w2) z z (x_append z z hr) ?_
 refine wv (v2) z z z (wl_nil (tn (wp_ret ?_)))
 refine post_ret (vs := [v2]) results143 (rvs_cons (rv_tmp z) rvs_nil) ?_
 rw [List.nil_append] at hst
 exact ⟨_, z, hst.keep1⟩
}
}

theorem slices_Insert_api_Hold_api_Hold_ref {w0 w : World} {I : HL} {R : SP} {a0 : (List api_Hold)} {r0_0 : Value} {a1 : Int} {a2 : (List api_Hold)} {r2_0 : Value} (hst : St w0 w I [ownS ty_api_Hold r0_0 a0, ownS ty_api_Hold r2_0 a2] R) {r : (List api_Hold)} (hm : slices_Insert_api_Hold_api_Hold a0 a1 a2 = some r) :
  Calls prog 144 #[r0_0, I6 a1, r2_0] w fun e w' => ∃ (q0_0 : Value), e = .returned (q0_0) ∧ St w0 w' I [ownS ty_api_Hold q0_0 r] R := by {
 unfold slices_Insert_api_Hold_api_Hold at hm
 obtain ⟨hg, hm⟩ := gd_some hm
 obtain rfl := some_inj hm
 obtain ⟨hi0, hi1, hrm⟩ := insOK_of hg
 obtain ⟨k, rfl⟩ := Int.eq_ofNat_of_zero_le hi0
 have hsm := room_sum hrm
 have hk : k ≤ a0.length := by omega
 have hs : ∀ w : World, (sizeOf 46).run prog w = .ok ty_api_Hold.sz w := sizeOf46
 have hs0 : 0 < ty_api_Hold.sz := Nat.le_of_ble_eq_true rfl
 have hov : ∀ (args : Array Value) (w : World), (callFunc 196 args).run prog w = (Extern.SlicesOverlaps.overlaps #[125, 125] #[4] args >>= fun v => (pure (.value v) : Sem Next)).run prog w := by intro args w; kernel_rfl
 obtain ⟨css, hr, hst⟩ := hst.own_open
 replace hst := hst.pull1
 obtain ⟨dss, hq, hst⟩ := hst.own_open
 replace hst := hst.pull1
 obtain ⟨n, hn⟩ : ∃ n, css.length = n := ⟨_, rfl⟩
 obtain ⟨m, hm'⟩ : ∃ m, dss.length = m := ⟨_, rfl⟩
 have hln : a0.length = n := hr.1.trans hn
 have hlm : a2.length = m := hq.1.trans hm'
 rw [hln] at hsm hk
 rw [hlm] at hsm
 have hsv : SliceV r0_0 n := by have := hst.row_form.2; rwa [hn] at this
 have hsq : SliceV r2_0 m := by have := hst.pull1.row_form.2; rwa [hm'] at this
 have hoc := hr.ones
 have hoq := hq.ones
 have hw1 := wrap_add (a := n) (b := m) (by omega)
 have hw2 := wrap_add (a := k) (b := m) (by omega)
 have hw3 := wrap_sub (a := n + m) (b := k) (by omega) (by omega)
 have hrb := room_of (b := 120) hrm rfl
 rw [hln, hlm] at hrb
 refine calls_start (args := [r0_0, I6 (k : Int), r2_0]) func144 z ntmps144 (Nat.le_of_ble_eq_true z) ?_
 refine wp_seq (wrl (wv ((.slice none 0 0)) z z z (wl_nil (tn (wp_seq (wrl (wv (r0_0) z z z (wv (.int .i64 (k : Int)) z z z (wv ((slcV ty_api_Hold.sz r0_0 k n)) z z (x_slice (lo := (k : Nat)) (hi := (n : Nat)) underlying125 hs z hsv (by omega) (by omega) (by omega) .i64 .i64 (.inl z) (.inr ⟨z, z⟩)) (wl_nil (tn (wp_seq (wrl (wv (r2_0) z z z (wv (.int .i64 (m : Int)) z z (x_len z underlying125 hsq) (wv (.int .i64 (m : Int)) z z z (wl_nil (tn (wp_seq (wp_seq (wrl (wv (.int .i64 (m : Int)) z z z (wv (.bool ((m : Int) == (0:Int))) z z z ?_)))))))))))))))))))))))
 refine wl_nil (tn ?_)
 refine bsplit ((m : Int) == (0:Int)) (fun hc521 => ?_) (fun hc521 => ?_)
 {
 refine wp_ift (cvb hc521) ?_
 refine wp_seq (wrl (wv (r0_0) z z z (wv (r0_0) z z z (wl_nil (tn (wp_ret (then_r ?_)))))))
 refine post_ret (vs := [r0_0]) results144 (rvs_cons (rv_tmp z) rvs_nil) ?_
 rw [ins_nil (by rw [hlm]; exact hc521)]
 exact ⟨_, z, (hst.own_close hr).keep1⟩
}
 {
 refine wp_iff (cvb hc521) ?_
 have hm0 : m ≠ 0 := fun h => by rw [h] at hc521; cases hc521
 have hq0 : dss ≠ [] := fun h => hm0 (by rw [← hm', h]; rfl)
 refine wp_skip (tn (wp_seq (wrl ?_)))
 refine wv (r0_0) z z z (wv (.int .i64 (n : Int)) z z (x_len z underlying125 hsv) (wv (.int .i64 (n : Int)) z z z (wl_nil (tn (wp_seq (wp_seq (wrl (wv (.int .i64 (k : Int)) z z z (wv (.int .i64 (n : Int)) z z z (wv (.bool ((k : Int) == (n : Int))) z z z (wl_nil (tn ?_))))))))))))
 refine bsplit ((k : Int) == (n : Int)) (fun hc522 => ?_) (fun hc522 => ?_)
 {
 refine wp_ift (cvb hc522) ?_
 refine wp_seq (wrl (wv (r0_0) z z z (wv (r2_0) z z z ?_)))
 replace hst := (hst.own_close hr).pull1.own_close hq
 replace hst := hst.pull1
 obtain ⟨v2, w2, hra, hst⟩ := run_append elem_125 underlying125 hst hst.src1 (room_of hrm z) 125
 refine wl_run (v := v2) (w' := w2) z z (x_append z z hra) ?_
 refine wv (v2) z z z (wl_nil (tn (wp_ret (then_r ?_))))
 refine post_ret (vs := [v2]) results144 (rvs_cons (rv_tmp z) rvs_nil) ?_
 rw [ins_end (by rw [hln]; exact hc522)]
 exact ⟨_, z, hst.keep1⟩
}
 {
 refine wp_iff (cvb hc522) ?_
 have hkn : k ≠ n := fun h => by rw [h] at hc522; simp at hc522
 have hn0 : 0 < n := by omega
 have hc0 : css ≠ [] := fun h => by rw [h] at hn; simp at hn; omega
 refine wp_skip (tn (wp_seq (wp_seq (wrl ?_))))
 refine wv (.int .i64 (n : Int)) z z z (wv (.int .i64 (m : Int)) z z z (wv (.int .i64 ((n + m : Nat) : Int)) z z (ok_cast hw1 z) (wv (r0_0) z z z (wv (.int .i64 (sCap r0_0 : Int)) z z (x_cap z underlying125 hsv) (wv (.bool (decide (((n + m : Nat) : Int) > (sCap r0_0 : Int)))) z z z (wl_nil (tn ?_)))))))
 refine bsplit (decide (((n + m : Nat) : Int) > (sCap r0_0 : Int))) (fun hc523 => ?_) (fun hc523 => ?_)
 {
 refine wp_ift (cvb hc523) ?_
 refine wp_seq (wrl (wv (r0_0) z z z (wv (.int .i64 (k : Int)) z z z (wv ((slcV ty_api_Hold.sz r0_0 0 k)) z z (x_slice (lo := (0 : Nat)) (hi := (k : Nat)) underlying125 hs z hsv (by omega) (by omega) (by omega) .i64 .i64 (.inr ⟨z, z⟩) (.inl z)) (wv (.int .i64 (n : Int)) z z z (wv (.int .i64 (m : Int)) z z z (wv (.int .i64 ((n + m : Nat) : Int)) z z (ok_cast hw1 z) (wv (.int .i64 (k : Int)) z z z (wv (.int .i64 ((n + m - k : Nat) : Int)) z z (ok_cast hw3 z) ?_)))))))))
 obtain ⟨v2, w2, hra, hs2, zss, hzl, hst⟩ := run_app0 elem_125 underlying3 hst k (n + m - k) (by omega) (by have := of_decide_eq_true hc523; omega) (by rw [show k + (n + m - k) = n + m by omega]; exact hrb) hs0 125
 rw [show k + (n + m - k) = n + m by omega] at hs2
 refine wl_run (v := v2) (w' := w2) z z (x_append z z hra) ?_
 refine wv (v2) z z z (wl_nil (tn (wp_seq (wrl (wv (v2) z z z (wv (.int .i64 (k : Int)) z z z (wv ((slcV ty_api_Hold.sz v2 k (n + m))) z z (x_slice (lo := (k : Nat)) (hi := ((n + m) : Nat)) underlying125 hs z hs2 (by omega) (by omega) (by omega) .i64 .i64 (.inl z) (.inr ⟨z, z⟩)) (wv (r2_0) z z z ?_))))))))
 obtain ⟨w524, hr525, hst⟩ := run_copyRows (P := prog) (t2 := 125) (ty := 3) underlying125 hs hst hst.pull2 k m (N := n + m) (by first | omega | (simp only [List.length_append, List.length_take, List.length_drop]; omega)) (by first | omega | (simp only [List.length_append, List.length_take, List.length_drop]; omega)) (by omega) (by first | omega | (simp only [List.length_append, List.length_take, List.length_drop]; omega)) (ones_take hoq _)
 refine wl_run (v := .int .i64 (m : Nat)) (w' := w524) z z (x_copy z z hr525) ?_
 refine wl_nil (tn (wp_seq ?_))
 refine wp_region_St hst 9 [0, 1, 2, 3, 4, 5, 6, 7, 8] [0, 0, 0, 6, 15, 0, 0, 96, 255] [] z (by kernel_rfl) (by kernel_rfl) Tryz.mixed (by kernel_rfl) ?_
 refine wsr (v2) 0 z z z (by kernel_rfl) (fun w hst => z) (wsr (.int .i64 (k : Int)) 1 z z z (by kernel_rfl) (fun w hst => z) (wsr (.int .i64 (m : Int)) 2 z z z (by kernel_rfl) (fun w hst => z) (wsr (.int .i64 ((k + m : Nat) : Int)) 3 z z z (by kernel_rfl) (fun w hst => ok_cast hw2 z) (wsr ((slcV ty_api_Hold.sz v2 (k + m) (n + m))) 4 z z z (by kernel_rfl) (fun w hst => x_slice (lo := ((k + m) : Nat)) (hi := ((n + m) : Nat)) underlying125 hs z hs2 (by omega) (by omega) (by omega) .i64 .i64 (.inl z) (.inr ⟨z, z⟩)) (wsr (r0_0) 5 z z z (by kernel_rfl) (fun w hst => z) (wsr (.int .i64 (k : Int)) 6 z z z (by kernel_rfl) (fun w hst => z) (wsr ((slcV ty_api_Hold.sz r0_0 k n)) 7 z z z (by kernel_rfl) (fun w hst => x_slice (lo := (k : Nat)) (hi := (n : Nat)) underlying125 hs z hsv (by omega) (by omega) (by omega) .i64 .i64 (.inl z) (.inr ⟨z, z⟩)) ?_)))))))
 refine ws_e1 8 (by kernel_rfl) ?_
 refine nxe [] (by kernel_rfl) z z ?_
 clear hst
 intro w hst
 obtain ⟨w526, hr527, hst⟩ := run_copyRows (P := prog) (t2 := 125) (ty := 3) underlying125 hs hst (hst.pull1.row_part (l := k) (h := n) hk (by omega)) (k + m) (n - k) (N := n + m) (by first | omega | (simp only [List.length_append, List.length_take, List.length_drop]; omega)) (by first | omega | (simp only [List.length_append, List.length_take, List.length_drop]; omega)) (by omega) (by first | omega | (simp only [List.length_append, List.length_take, List.length_drop]; omega)) (ones_take (ones_drop (ones_take hoc _) _) _)
 refine we_run (v := .int .i64 ((n - k) : Nat)) (w' := w526) z (x_copy z z hr527) ?_
 refine ws_next (pend' := []) hst (by kernel_rfl) pk_nil ?_
 refine ws_nil ?_
 intro w hst
 refine tn (wp_seq (wrl (wv (v2) z z z (wv (v2) z z z (wl_nil (tn (wp_ret (then_r ?_))))))))
 refine post_ret (vs := [v2]) results144 (rvs_cons (rv_tmp z) rvs_nil) ?_
 rw [grow_rows hn hm' hk hzl] at hst
 exact ⟨_, z, (hst.own_close ((hr.take k).app (hq.app (hr.drop k)))).keep1⟩
}
 {
 refine wp_iff (cvb hc523) ?_
 have hup : n + m ≤ sCap r0_0 := by have := of_decide_eq_false hc523; omega
 obtain ⟨ess, hel, hem, hst'⟩ := hst.row_up (n + m) (by omega) hup hc0
 rw [show n + m - css.length = m by omega] at hel
 have hs2 : SliceV (upV r0_0 (n + m)) (n + m) := by have := hst'.row_form.2; rwa [List.length_append, hn, hel] at this
 clear hst
 have hst := hst'
 clear hst'
 refine wp_skip (tn (wp_seq (wrl ?_)))
 refine wv (r0_0) z z z (wv (.int .i64 (n : Int)) z z z (wv (.int .i64 (m : Int)) z z z (wv (.int .i64 ((n + m : Nat) : Int)) z z (ok_cast hw1 z) (wv ((upV r0_0 (n + m))) z z (x_sliceUp underlying125 hs z hsv z hup hn0) (wv ((upV r0_0 (n + m))) z z z (wl_nil (tn (wp_seq (wp_seq (wrl (wv (r2_0) z z z (wv ((upV r0_0 (n + m))) z z z (wv (.int .i64 (k : Int)) z z z (wv (.int .i64 (m : Int)) z z z (wv (.int .i64 ((k + m : Nat) : Int)) z z (ok_cast hw2 z) (wv ((slcV ty_api_Hold.sz (upV r0_0 (n + m)) (k + m) (n + m))) z z (x_slice (lo := ((k + m) : Nat)) (hi := ((n + m) : Nat)) underlying125 hs z hs2 (by omega) (by omega) (by omega) .i64 .i64 (.inl z) (.inr ⟨z, z⟩)) ?_))))))))))))))))
 refine wv (.bool false) z z (x_ext z z z (hov _) (run_overlaps z underlying125 hs hst.pull1 (k + m) (N := n + m) (by rw [List.length_append]; omega) (by omega) hq0 hs0)) (wv (.bool true) z z z (wl_nil (tn ?_)))
 refine wp_ift z ?_
 refine wp_seq ?_
 refine wp_region_St hst 9 [0, 1, 2, 3, 4, 5, 6, 7, 8] [0, 0, 0, 6, 15, 0, 0, 96, 255] [] z (by kernel_rfl) (by kernel_rfl) Tryz.mixed (by kernel_rfl) ?_
 refine wsr ((upV r0_0 (n + m))) 0 z z z (by kernel_rfl) (fun w hst => z) (wsr (.int .i64 (k : Int)) 1 z z z (by kernel_rfl) (fun w hst => z) (wsr (.int .i64 (m : Int)) 2 z z z (by kernel_rfl) (fun w hst => z) (wsr (.int .i64 ((k + m : Nat) : Int)) 3 z z z (by kernel_rfl) (fun w hst => ok_cast hw2 z) (wsr ((slcV ty_api_Hold.sz (upV r0_0 (n + m)) (k + m) (n + m))) 4 z z z (by kernel_rfl) (fun w hst => x_slice (lo := ((k + m) : Nat)) (hi := ((n + m) : Nat)) underlying125 hs z hs2 (by omega) (by omega) (by omega) .i64 .i64 (.inl z) (.inr ⟨z, z⟩)) (wsr ((upV r0_0 (n + m))) 5 z z z (by kernel_rfl) (fun w hst => z) (wsr (.int .i64 (k : Int)) 6 z z z (by kernel_rfl) (fun w hst => z) (wsr ((slcV ty_api_Hold.sz (upV r0_0 (n + m)) k (n + m))) 7 z z z (by kernel_rfl) (fun w hst => x_slice (lo := (k : Nat)) (hi := ((n + m) : Nat)) underlying125 hs z hs2 (by omega) (by omega) (by omega) .i64 .i64 (.inl z) (.inr ⟨z, z⟩)) ?_)))))))
 refine ws_e1 8 (by kernel_rfl) ?_
 refine nxe [] (by kernel_rfl) z z ?_
 clear hst
 intro w hst
 obtain ⟨w528, hr529, hst⟩ := run_copyRows (P := prog) (t2 := 125) (ty := 3) underlying125 hs hst (hst.row_part (l := k) (h := n + m) (by omega) (by rw [List.length_append]; omega)) (k + m) (n - k) (N := n + m) (by first | omega | (simp only [List.length_append, List.length_take, List.length_drop]; omega)) (by first | omega | (simp only [List.length_append, List.length_take, List.length_drop]; omega)) (by omega) (by first | omega | (simp only [List.length_append, List.length_take, List.length_drop]; omega)) (by rw [stay_src hn hm' hk hel]; exact ones_drop hoc _)
 refine we_run (v := .int .i64 ((n - k) : Nat)) (w' := w528) z (x_copy z z hr529) ?_
 refine ws_next (pend' := []) hst (by kernel_rfl) pk_nil ?_
 refine ws_nil ?_
 intro w hst
 refine tn (wp_seq (wrl (wv ((upV r0_0 (n + m))) z z z (wv (.int .i64 (k : Int)) z z z (wv ((slcV ty_api_Hold.sz (upV r0_0 (n + m)) k (n + m))) z z (x_slice (lo := (k : Nat)) (hi := ((n + m) : Nat)) underlying125 hs z hs2 (by omega) (by omega) (by omega) .i64 .i64 (.inl z) (.inr ⟨z, z⟩)) (wv (r2_0) z z z ?_))))))
 obtain ⟨w530, hr531, hst⟩ := run_copyRows (P := prog) (t2 := 125) (ty := 3) underlying125 hs hst hst.pull1 k m (N := n + m) (by first | omega | (simp only [List.length_append, List.length_take, List.length_drop]; omega)) (by first | omega | (simp only [List.length_append, List.length_take, List.length_drop]; omega)) (by omega) (by first | omega | (simp only [List.length_append, List.length_take, List.length_drop]; omega)) (ones_take hoq _)
 refine wl_run (v := .int .i64 (m : Nat)) (w' := w530) z z (x_copy z z hr531) ?_
 refine wl_nil (tn (wp_seq (wrl (wv ((upV r0_0 (n + m))) z z z (wv ((upV r0_0 (n + m))) z z z (wl_nil (tn (wp_ret (then_r ?_)))))))))
 refine post_ret (vs := [(upV r0_0 (n + m))]) results144 (rvs_cons (rv_tmp z) rvs_nil) ?_
 rw [stay_rows hn hm' hk hel] at hst
 exact ⟨_, z, (hst.own_close ((hr.take k).app (hq.app (hr.drop k)))).keep1⟩
}
}
}
}

theorem locks_Table_Take_ref {w0 w : World} {I : HL} {R : SP} {a0 : (Option locks_Table)} {p0 : Value} {a1 : api_Hold} {r1_0 : Value} {r1_1 : Value} {r1_2 : Value} {r1_3 : Value} (f1_0 : Rd tyF64 R I r1_0 a1.Gets) (f1_1 : Rd tyF2 R I r1_1 a1.Scans) (f1_2 : Rd tyF64 R I r1_2 a1.Puts) (f1_3 : Rd (tyInt .u8) R I r1_3 a1.Data) (hst : St w0 w I [objO at_locks_Table p0 a0] R) {r : (Int × (Option locks_Table))} (hm : locks_Table_Take a0 a1 = some r) :
  Calls prog 58 #[p0, .agg #[U6 a1.ID.Session, U6 a1.ID.Seq, U6 a1.Epoch, r1_0, r1_1, r1_2, r1_3]] w fun e w' => ∃ (I' : HL), e = .returned (.int .i64 r.1) ∧ I.le I' ∧ St w0 w' I' [objO at_locks_Table p0 r.2] R := by {
 rcases a0 with _ | o0
 {
 obtain ⟨rfl, hst'⟩ := objO_none hst
 clear hst
 have hst := hst'
 clear hst'
 dsimp only [locks_Table_Take] at hm
 refine calls_start (args := [.pointer none, .agg #[U6 a1.ID.Session, U6 a1.ID.Seq, U6 a1.Epoch, r1_0, r1_1, r1_2, r1_3]]) func58 z ntmps58 (Nat.le_of_ble_eq_true z) ?_
 have hI0 := HL.le.refl I
 refine wp_seq (wrl ?_)
 obtain ⟨b560, w561, ew562, eb563, hst⟩ := hst.box [U6 a1.ID.Session, U6 a1.ID.Seq, U6 a1.Epoch, r1_0, r1_1, r1_2, r1_3] 46
 refine wl_run (v := Pt b560 0) (w' := w561) z z (x_al (by kernel_rfl) ew562 eb563) ?_
 refine wv (.int .i64 (0:Int)) z z z (wl_nil (tn (wp_seq (wp_seq (wrl (wv (.pointer none) z z z (wv (.bool true) z z (by kernel_rfl) (wl_nil (tn ?_)))))))))
 refine wp_ift z ?_
 refine wp_seq (wrl (wv (.int .i64 (2:Int)) z z z (wl_nil (tn (wp_ret (then_r ?_))))))
 replace hst := hst.objO_nil at_locks_Table
 obtain rfl := some_inj hm
 refine post_ret (vs := [I6 (2:Int)]) results58 (rvs_cons (rv_tmp z) rvs_nil) ?_
 exact ⟨_, z, hI0, hst.keep1⟩
}
 {
 replace hst := objO_get hst
 dsimp only [locks_Table_Take] at hm
 refine calls_start (args := [p0, .agg #[U6 a1.ID.Session, U6 a1.ID.Seq, U6 a1.Epoch, r1_0, r1_1, r1_2, r1_3]]) func58 z ntmps58 (Nat.le_of_ble_eq_true z) ?_
 have hI0 := HL.le.refl I
 refine wp_seq (wrl ?_)
 obtain ⟨b565, w566, ew567, eb568, hst⟩ := hst.box [U6 a1.ID.Session, U6 a1.ID.Seq, U6 a1.Epoch, r1_0, r1_1, r1_2, r1_3] 46
 refine wl_run (v := Pt b565 0) (w' := w566) z z (x_al (by kernel_rfl) ew567 eb568) ?_
 refine wv (.int .i64 (0:Int)) z z z (wl_nil (tn (wp_seq (wp_seq (wrl (wv (p0) z z z ?_))))))
 replace hst := hst.pull1
 obtain ⟨b570, v571, rfl, hst'⟩ := at_locks_Table_open hst
 clear hst
 have hst := hst'
 clear hst'
 refine wv (.bool false) z z (by kernel_rfl) (wl_nil (tn ?_))
 refine wp_iff z ?_
 refine wp_skip (tn ?_)
 obtain ⟨y702, hm, hx703⟩ := joinO_some hm
 refine wp_cut (fun a w => ∃ (σ700 : Nat → Value), (locks_Table_Take_j0 a1 o0) () = some r ∧ a = Fr 74 (upd (upd σ700 0 (Pt b570 0)) 3 (Pt b565 0)) ∧ St w0 w I [at_locks_Table (Pt b570 0) o0, cells b565 [U6 a1.ID.Session, U6 a1.ID.Seq, U6 a1.Epoch, r1_0, r1_1, r1_2, r1_3]] R) ?_ ?_
 {
 refine wp_seq (wrl (wv (Pt b570 0) z z z (wv (Pt b570 0) z z z (wv (Pt b570 0) z z (x_field z underlying203 z sizeOf125 z) (wv (v571) z z (x_load z isAgg125 (hst.bc0 z)) (wv (.int .i64 ((o0.l).length : Int)) z z (x_len z underlying125 hst.sv1) (wv (.int .i64 (0:Int)) z z z (wl_nil (tn (wp_block ?_))))))))))
 obtain ⟨n654, hm⟩ := loopO_some hm
 refine wp_loop_n (fun n a w => ∃ (z652 : Int) (σ653 : Nat → Value), loopN (locks_Table_Take_l1 o0 a1) n z652 = some y702 ∧ a = Fr 74 (upd (upd (upd (upd (upd σ653 0 (Pt b570 0)) 3 (Pt b565 0)) 14 (v571)) 15 (.int .i64 ((o0.l).length : Int))) 16 (.int .i64 z652)) ∧ St w0 w I [cells b570 [v571], ownS ty_api_Hold v571 o0.l, cells b565 [U6 a1.ID.Session, U6 a1.ID.Seq, U6 a1.Epoch, r1_0, r1_1, r1_2, r1_3]] R) n654 ⟨(0:Int), _, hm, (fu 0 (Pt b570 0) z (fu 3 (Pt b565 0) z (fu 14 v571 z (fu 15 (.int .i64 ((o0.l).length : Int)) z (fu 16 (.int .i64 (0:Int)) z z))))), hst⟩ ?_
 rintro n660 _ w655 ⟨z652, σ653, hm, rfl, hst⟩
 obtain ⟨n657, y658, rfl, hm, hx659⟩ := loopN_some hm
 dsimp only [locks_Table_Take_l1] at hm
 refine wp_seq (wrl (wv (.bool (decide (z652 < ((o0.l).length : Int)))) z z z (wl_nil (tn (wp_seq ?_)))))
 refine bsplit (decide (z652 < ((o0.l).length : Int))) (fun hc661 => ?_) (fun hc661 => ?_)
 {
 replace hm := bif_t hc661 hm
 refine wp_ift (cvb hc661) ?_
 refine wp_skip (tn (wp_seq (wp_block (wp_seq (wrl ?_)))))
 obtain ⟨x662, hx663, hm⟩ := bind_some hm
 obtain ⟨h664, h665, hi666⟩ := geto_some hx663
 refine wv (.pointer (some (eAddr v571 (z652.toNat * 7 + 0)))) z z (x_index z z underlying125 sizeOf46 hst.sv1 h664 h665) ?_
 obtain ⟨cs667, hr668, hc669⟩ := hst.og1 hi666
 obtain ⟨v670, v673, v676, v679, rfl, f671, f674, f677, f680, -⟩ := hr668
 refine wv (.agg #[U6 x662.ID.Session, U6 x662.ID.Seq, U6 x662.Epoch, v670, v673, v676, v679]) z z (x_loadN (cs := [U6 x662.ID.Session, U6 x662.ID.Seq, U6 x662.Epoch, v670, v673, v676, v679]) z isAgg46 sizeOf46 (eCells (o := 0) hc669 z)) ?_
 obtain ⟨b686, w687, ew688, eb689, hst⟩ := hst.box [Zu, Zu, Zu, Zs, Zs, Zs, Zs] 46
 refine wl_run (v := Pt b686 0) (w' := w687) z z (x_al (by kernel_rfl) ew688 eb689) ?_
 obtain ⟨w691, hr692, hst⟩ := hst.bx [U6 x662.ID.Session, U6 x662.ID.Seq, U6 x662.Epoch, v670, v673, v676, v679] sizeOf46 z (oC z (oC z (oC z (oC (one_of_sliceV (ro_sliceV f671)) (oC (one_of_sliceV (ro_sliceV f674)) (oC (one_of_sliceV (ro_sliceV f677)) (oC (one_of_sliceV (ro_sliceV f680)) oN))))))) (by kernel_rfl)
 refine wl_unit z z (x_unit hr692) ?_
 refine wl_nil (tn (wp_seq (wrl (wv (Pt b686 0) z z (x_field z underlying46 z sizeOf28 z) (wv (.agg #[U6 x662.ID.Session, U6 x662.ID.Seq]) z z (x_loadN (cs := [U6 x662.ID.Session, U6 x662.ID.Seq]) z isAgg28 sizeOf28 (hst.bcs0 0 z)) (wv (Pt b565 0) z z (x_field z underlying46 z sizeOf28 z) (wv (.agg #[U6 a1.ID.Session, U6 a1.ID.Seq]) z z (x_loadN (cs := [U6 a1.ID.Session, U6 a1.ID.Seq]) z isAgg28 sizeOf28 (hst.bcs3 0 z)) (wv (.bool (!((x662.ID.Session == a1.ID.Session) && (x662.ID.Seq == a1.ID.Seq)))) z z (x_aggne2 z z (by kernel_rfl) underlying28 (by kernel_rfl) (by kernel_rfl) (by kernel_rfl) underlying26 underlying26 (fun _ _ _ => by kernel_rfl) (fun _ _ _ => by kernel_rfl)) (wv (.bool (!((x662.ID.Session == a1.ID.Session) && (x662.ID.Seq == a1.ID.Seq)))) z z z ?_)))))))))
 refine bsplit (!((x662.ID.Session == a1.ID.Session) && (x662.ID.Seq == a1.ID.Seq))) (fun hc693 => ?_) (fun hc693 => ?_)
 {
 replace hm := bif_t hc693 hm
 refine wv (.agg #[U6 x662.ID.Session, U6 x662.ID.Seq, U6 x662.Epoch, v670, v673, v676, v679]) ((wanted_eq z z z (cvb hc693)).trans z) z (x_loadN (cs := [U6 x662.ID.Session, U6 x662.ID.Seq, U6 x662.Epoch, v670, v673, v676, v679]) z isAgg46 sizeOf46 (hst.bcs0 0 z)) (wv (.agg #[U6 a1.ID.Session, U6 a1.ID.Seq, U6 a1.Epoch, r1_0, r1_1, r1_2, r1_3]) ((wanted_eq z z z (cvb hc693)).trans z) z (x_loadN (cs := [U6 a1.ID.Session, U6 a1.ID.Seq, U6 a1.Epoch, r1_0, r1_1, r1_2, r1_3]) z isAgg46 sizeOf46 (hst.bcs3 0 z)) ?_)
 obtain ⟨t694, ht695, hm⟩ := bind_some hm
 refine wl_call ((wanted_eq z z z (cvb hc693)).trans z) z (x_call call140 z (vs := [.agg #[U6 x662.ID.Session, U6 x662.ID.Seq, U6 x662.Epoch, v670, v673, v676, v679], .agg #[U6 a1.ID.Session, U6 a1.ID.Seq, U6 a1.Epoch, r1_0, r1_1, r1_2, r1_3]]) z) ?_
 refine (locks_Meet_ref (f671.mono ro_rd) (f674.mono ro_rd) (f677.mono ro_rd) (f680.mono ro_rd) (f1_0.mono (rd_weak _)) (f1_1.mono (rd_weak _)) (f1_2.mono (rd_weak _)) (f1_3.mono (rd_weak _)) hst.to0 ht695).mono ?_
 rintro _ w696 ⟨rfl, hst⟩
 refine ⟨_, z, ?_⟩
 replace hst := hst.of0
 refine wv (.bool t694) z z (x_pick_t hc693 z z) (wl_nil (tn ?_))
 refine bsplit t694 (fun hc699 => ?_) (fun hc699 => ?_)
 {
 replace hm := bif_t hc699 hm
 refine wp_ift (cvb hc699) ?_
 refine wp_seq (wrl (wv (.int .i64 (8:Int)) z z z (wl_nil (tn (wp_ret (blk_r (then_r (then_r ?_))))))))
 replace hm := inr_up hm hx659
 refine blk_r (then_r ?_)
 replace hm := inr_up hm hx703
 replace hst := hst.pull2.pull2
 replace hst := at_locks_Table_close (pv := Pt b570 0) (x := o0) hst z
 replace hst := objO_some hst
 obtain rfl := some_inj hm
 refine post_ret (vs := [I6 (8:Int)]) results58 (rvs_cons (rv_tmp z) rvs_nil) ?_
 exact ⟨_, z, hI0, hst.keep1⟩
}
 {
 replace hm := bif_f hc699 hm
 refine wp_iff (cvb hc699) ?_
 refine wp_skip (blk_n (tn (wrl ?_)))
 refine wv (.int .i64 (i64.wrap (z652 + (1:Int)))) z z z (wv (.int .i64 (i64.wrap (z652 + (1:Int)))) z z z (wl_nil (tn ?_)))
 replace hst := hst.pull3.pull3.pull3.keep3
 obtain rfl := some_inj hm
 exact ⟨_, Nat.lt_succ_self _, (i64.wrap (z652 + (1:Int))), _, hx659, (fu 0 (Pt b570 0) z (fu 3 (Pt b565 0) z (fu 14 v571 z (fu 15 (.int .i64 ((o0.l).length : Int)) z (fu 16 (.int .i64 (i64.wrap (z652 + (1:Int)))) z z))))), hst⟩
}
}
 {
 replace hm := bif_f hc693 hm
 refine wo hc693 z z z z z z (wo hc693 z z z z z z (wo hc693 z z z z z z (wv (.bool false) z z (x_pick_f hc693 z z) (wl_nil (tn ?_)))))
 refine wp_iff z ?_
 refine wp_skip (blk_n (tn (wrl ?_)))
 refine wv (.int .i64 (i64.wrap (z652 + (1:Int)))) z z z (wv (.int .i64 (i64.wrap (z652 + (1:Int)))) z z z (wl_nil (tn ?_)))
 replace hst := hst.pull3.pull3.pull3.keep3
 obtain rfl := some_inj hm
 exact ⟨_, Nat.lt_succ_self _, (i64.wrap (z652 + (1:Int))), _, hx659, (fu 0 (Pt b570 0) z (fu 3 (Pt b565 0) z (fu 14 v571 z (fu 15 (.int .i64 ((o0.l).length : Int)) z (fu 16 (.int .i64 (i64.wrap (z652 + (1:Int)))) z z))))), hst⟩
}
}
 {
 replace hm := bif_f hc661 hm
 refine wp_iff (cvb hc661) ?_
 refine wp_exit (then_x (then_x ?_))
 replace hm := inr_up hm hx659
 refine blk_x (tn ?_)
 replace hst := hst.pull1.pull1
 replace hst := at_locks_Table_close (pv := Pt b570 0) (x := o0) hst z
 replace hst := hst.pull1.pull1.keep2
 obtain rfl := some_inj hm
 exact ⟨_, hx703, (fu 0 (Pt b570 0) z (fu 3 (Pt b565 0) z z)), hst⟩
}
}
 {
 clear hst
 rintro _ w704 ⟨σ700, hm, rfl, hst⟩
 dsimp only [locks_Table_Take_j0] at hm
 refine wp_seq ?_
 refine wp_region_St hst 18 [0, 1, 2, 3, 4, 5, 6, 7, 8, 9, 10, 11, 12, 13, 14, 15, 16, 17] [0, 1, 0, 4, 0, 16, 48, 0, 128, 496, 0, 1024, 4080, 0, 8192, 32752, 65535, 131071] [] z (by kernel_rfl) (by kernel_rfl) Tryz.mixed (by kernel_rfl) ?_
 refine wsr (Pt b565 0) 0 z z z (by kernel_rfl) (fun w hst => x_field z underlying46 z sizeOf28 z) (wsr (.agg #[U6 a1.ID.Session, U6 a1.ID.Seq]) 1 z z z (by kernel_rfl) (fun w hst => x_loadN (cs := [U6 a1.ID.Session, U6 a1.ID.Seq]) z isAgg28 sizeOf28 (hst.bcs1 0 z)) (wsr (Pt b565 2) 2 z z z (by kernel_rfl) (fun w hst => x_field z underlying46 z sizeOf26 z) (wsr (.int .u64 a1.Epoch) 3 z z z (by kernel_rfl) (fun w hst => x_load z isAgg26 (hst.bc1 z)) (wsr (Pt b565 3) 4 z z z (by kernel_rfl) (fun w hst => x_field z underlying46 z sizeOf43 z) (wsr (r1_0) 5 z z z (by kernel_rfl) (fun w hst => x_load z isAgg43 (hst.bc1 z)) (wsr (Pt b565 4) 7 z z z (by kernel_rfl) (fun w hst => x_field z underlying46 z sizeOf44 z) (wsr (r1_1) 8 z z z (by kernel_rfl) (fun w hst => x_load z isAgg44 (hst.bc1 z)) (wsr (Pt b565 5) 10 z z z (by kernel_rfl) (fun w hst => x_field z underlying46 z sizeOf43 z) (wsr (r1_2) 11 z z z (by kernel_rfl) (fun w hst => x_load z isAgg43 (hst.bc1 z)) (wsr (Pt b565 6) 13 z z z (by kernel_rfl) (fun w hst => x_field z underlying46 z sizeOf22 z) (wsr (r1_3) 14 z z z (by kernel_rfl) (fun w hst => x_load z isAgg22 (hst.bc1 z)) ?_)))))))))))
 refine ws_e1 6 (by kernel_rfl) ?_
 refine nxe [9, 12, 15, 16, 17] (by kernel_rfl) z z ?_
 clear hst
 intro w hst
 obtain ⟨t705, ht706, hm⟩ := bind_some hm
 refine wec call141 [r1_0] z z ?_
 refine (slices_Clone_float64_float64_ref (f1_0.mono (rd_weak _)) hst.to0 ht706).mono ?_
 rintro _ w707 ⟨v710, rfl, hst⟩
 refine ⟨_, z, ?_⟩
 replace hst := hst.of1
 refine ws_next (pend' := [(14, r1_3), (13, Pt b565 6), (11, r1_2), (10, Pt b565 5), (8, r1_1), (7, Pt b565 4), (3, U6 a1.Epoch), (2, Pt b565 2), (1, .agg #[U6 a1.ID.Session, U6 a1.ID.Seq]), (0, Pt b565 0)]) hst (by kernel_rfl) (pkr z z (fun w hst => x_load z isAgg22 (hst.bc2 z)) (pkr z z (fun w hst => x_field z underlying46 z sizeOf22 z) (pkr z z (fun w hst => x_load z isAgg43 (hst.bc2 z)) (pkr z z (fun w hst => x_field z underlying46 z sizeOf43 z) (pkr z z (fun w hst => x_load z isAgg44 (hst.bc2 z)) (pkr z z (fun w hst => x_field z underlying46 z sizeOf44 z) (pkr z z (fun w hst => x_load z isAgg26 (hst.bc2 z)) (pkr z z (fun w hst => x_field z underlying46 z sizeOf26 z) (pkr z z (fun w hst => x_loadN (cs := [U6 a1.ID.Session, U6 a1.ID.Seq]) z isAgg28 sizeOf28 (hst.bcs2 0 z)) (pkr z z (fun w hst => x_field z underlying46 z sizeOf28 z) pk_nil)))))))))) ?_
 refine ws_e1 9 (by kernel_rfl) ?_
 refine nxe [12, 15, 16, 17] (by kernel_rfl) z z ?_
 clear hst
 intro w hst
 obtain ⟨t712, ht713, hm⟩ := bind_some hm
 refine wec call142 [r1_1] z z ?_
 refine (slices_Clone_2_float64_2_float64_ref (f1_1.mono (rd_weak _)) hst.to0 ht713).mono ?_
 rintro _ w714 ⟨v717, rfl, hst⟩
 refine ⟨_, z, ?_⟩
 replace hst := hst.of1
 refine ws_next (pend' := [(14, r1_3), (13, Pt b565 6), (11, r1_2), (10, Pt b565 5), (3, U6 a1.Epoch), (2, Pt b565 2), (1, .agg #[U6 a1.ID.Session, U6 a1.ID.Seq]), (0, Pt b565 0)]) hst (by kernel_rfl) (pkr z z (fun w hst => x_load z isAgg22 (hst.bc3 z)) (pkr z z (fun w hst => x_field z underlying46 z sizeOf22 z) (pkr z z (fun w hst => x_load z isAgg43 (hst.bc3 z)) (pkr z z (fun w hst => x_field z underlying46 z sizeOf43 z) (pkr z z (fun w hst => x_load z isAgg26 (hst.bc3 z)) (pkr z z (fun w hst => x_field z underlying46 z sizeOf26 z) (pkr z z (fun w hst => x_loadN (cs := [U6 a1.ID.Session, U6 a1.ID.Seq]) z isAgg28 sizeOf28 (hst.bcs3 0 z)) (pkr z z (fun w hst => x_field z underlying46 z sizeOf28 z) pk_nil)))))))) ?_
 refine ws_e1 12 (by kernel_rfl) ?_
 refine nxe [15, 16, 17] (by kernel_rfl) z z ?_
 clear hst
 intro w hst
 obtain ⟨t719, ht720, hm⟩ := bind_some hm
 refine wec call141 [r1_2] z z ?_
 refine (slices_Clone_float64_float64_ref (f1_2.mono (rd_weak _)) hst.to0 ht720).mono ?_
 rintro _ w721 ⟨v724, rfl, hst⟩
 refine ⟨_, z, ?_⟩
 replace hst := hst.of1
 refine ws_next (pend' := [(14, r1_3), (13, Pt b565 6), (3, U6 a1.Epoch), (2, Pt b565 2), (1, .agg #[U6 a1.ID.Session, U6 a1.ID.Seq]), (0, Pt b565 0)]) hst (by kernel_rfl) (pkr z z (fun w hst => x_load z isAgg22 (hst.bc4 z)) (pkr z z (fun w hst => x_field z underlying46 z sizeOf22 z) (pkr z z (fun w hst => x_load z isAgg26 (hst.bc4 z)) (pkr z z (fun w hst => x_field z underlying46 z sizeOf26 z) (pkr z z (fun w hst => x_loadN (cs := [U6 a1.ID.Session, U6 a1.ID.Seq]) z isAgg28 sizeOf28 (hst.bcs4 0 z)) (pkr z z (fun w hst => x_field z underlying46 z sizeOf28 z) pk_nil)))))) ?_
 refine ws_e1 15 (by kernel_rfl) ?_
 refine nxe [16, 17] (by kernel_rfl) z z ?_
 clear hst
 intro w hst
 obtain ⟨t726, ht727, hm⟩ := bind_some hm
 refine wec call143 [r1_3] z z ?_
 refine (slices_Clone_byte_byte_ref (f1_3.mono (rd_weak _)) hst.to0 ht727).mono ?_
 rintro _ w728 ⟨v731, rfl, hst⟩
 refine ⟨_, z, ?_⟩
 replace hst := hst.of1
 refine ws_next (pend' := [(3, U6 a1.Epoch), (2, Pt b565 2), (1, .agg #[U6 a1.ID.Session, U6 a1.ID.Seq]), (0, Pt b565 0)]) hst (by kernel_rfl) (pkr z z (fun w hst => x_load z isAgg26 (hst.bc5 z)) (pkr z z (fun w hst => x_field z underlying46 z sizeOf26 z) (pkr z z (fun w hst => x_loadN (cs := [U6 a1.ID.Session, U6 a1.ID.Seq]) z isAgg28 sizeOf28 (hst.bcs5 0 z)) (pkr z z (fun w hst => x_field z underlying46 z sizeOf28 z) pk_nil)))) ?_
 refine wsr (.agg #[U6 a1.ID.Session, U6 a1.ID.Seq, U6 a1.Epoch, v710, v717, v724, v731]) 16 rfl rfl rfl (by kernel_rfl) (fun w hst => by obtain ⟨_, _, hv_, _⟩ := hst.sv0; rw [hv_]; obtain ⟨_, _, hv_, _⟩ := hst.sv1; rw [hv_]; obtain ⟨_, _, hv_, _⟩ := hst.sv2; rw [hv_]; obtain ⟨_, _, hv_, _⟩ := hst.sv3; rw [hv_]; kernel_rfl) ?_
 refine ws_e1 17 (by kernel_rfl) ?_
 refine nxe [] (by kernel_rfl) z z ?_
 clear hst
 intro w hst
 replace hst := hst.pull5
 obtain ⟨w737, hr738, hst⟩ := hst.bx [U6 a1.ID.Session, U6 a1.ID.Seq, U6 a1.Epoch, v710, v717, v724, v731] sizeOf46 z (oC z (oC z (oC z (oC (one_of_sliceV hst.sv4) (oC (one_of_sliceV hst.sv3) (oC (one_of_sliceV hst.sv2) (oC (one_of_sliceV hst.sv1) oN))))))) (by kernel_rfl)
 refine we_unit z (x_unit hr738) ?_
 refine ws_next (pend' := []) hst (by kernel_rfl) pk_nil ?_
 refine ws_nil ?_
 intro w hst
 refine tn (wp_seq (wrl (wv (Pt b570 0) z z z (wv (Pt b565 0) z z (x_field z underlying46 z sizeOf28 z) (wv (.agg #[U6 a1.ID.Session, U6 a1.ID.Seq]) z z (x_loadN (cs := [U6 a1.ID.Session, U6 a1.ID.Seq]) z isAgg28 sizeOf28 (hst.bcs0 0 z)) ?_)))))
 replace hst := hst.pull5
 replace hst := objO_some hst
 obtain ⟨t739, ht740, hm⟩ := bind_some hm
 refine wc call135 [Pt b570 0, .agg #[U6 a1.ID.Session, U6 a1.ID.Seq]] z z z ?_
 refine (locks_Table_find_ref hst.to1 ht740).mono ?_
 rintro _ w741 ⟨rfl, hst⟩
 refine ⟨_, z, ?_⟩
 replace hst := hst.of1
 replace hst := objO_get hst
 refine wv (.tuple #[I6 t739.1, .bool t739.2]) z z z (wv (.int .i64 t739.1) z z z (wv (.bool t739.2) z z z (wv (.int .i64 t739.1) z z z (wv (.bool t739.2) z z z (wl_nil (tn (wp_seq (wp_seq (wrl (wv (.bool t739.2) z z z (wl_nil (tn ?_))))))))))))
 refine bsplit t739.2 (fun hc744 => ?_) (fun hc744 => ?_)
 {
 replace hm := bif_t hc744 hm
 refine wp_ift (cvb hc744) ?_
 obtain ⟨b745, v746, e748, hst'⟩ := at_locks_Table_open hst
 clear hst
 have e748 := ptr_inj e748
 subst e748
 have hst := hst'
 clear hst'
 refine wp_region_St hst 8 [0, 1, 2, 3, 4, 5, 6, 7] [0, 1, 3, 7, 0, 0, 63, 127] [] z (by kernel_rfl) (by kernel_rfl) Tryz.mixed (by kernel_rfl) ?_
 refine wsr (Pt b570 0) 0 z z z (by kernel_rfl) (fun w hst => z) (wsr (Pt b570 0) 1 z z z (by kernel_rfl) (fun w hst => z) (wsr (Pt b570 0) 2 z z z (by kernel_rfl) (fun w hst => x_field z underlying203 z sizeOf125 z) (wsr (v746) 3 z z z (by kernel_rfl) (fun w hst => x_load z isAgg125 (hst.bc0 z)) (wsr (.int .i64 t739.1) 4 z z z (by kernel_rfl) (fun w hst => z) (wsr (.agg #[U6 a1.ID.Session, U6 a1.ID.Seq, U6 a1.Epoch, v710, v717, v724, v731]) 5 z z z (by kernel_rfl) (fun w hst => x_loadN (cs := [U6 a1.ID.Session, U6 a1.ID.Seq, U6 a1.Epoch, v710, v717, v724, v731]) z isAgg46 sizeOf46 (hst.bcs2 0 z)) ?_)))))
 obtain ⟨x749, hx750, hm⟩ := bind_some hm
 obtain ⟨h751, h752, hi753⟩ := geto_some hx750
 refine wsr (.pointer (some (eAddr v746 (t739.1.toNat * 7 + 0)))) 6 z z z (by kernel_rfl) (fun w hst => x_index z z underlying125 sizeOf46 hst.sv1 h751 h752) ?_
 refine ws_e1 7 (by kernel_rfl) ?_
 refine nxe [] (by kernel_rfl) z z ?_
 clear hst
 intro w hst
 obtain ⟨cs754, hr755, hc756⟩ := hst.og1 hi753
 obtain ⟨v757, v760, v763, v766, rfl, f758, f761, f764, f767, -⟩ := hr755
 replace hst := hst.pull6
 obtain ⟨I769, hI770, f771, hst⟩ := hst.own_fix
 replace f1_0 := f1_0.mono (rd_le hI770)
 replace f1_1 := f1_1.mono (rd_le hI770)
 replace f1_2 := f1_2.mono (rd_le hI770)
 replace f1_3 := f1_3.mono (rd_le hI770)
 replace f758 := f758.mono (ro_le hI770)
 replace f761 := f761.mono (ro_le hI770)
 replace f764 := f764.mono (ro_le hI770)
 replace f767 := f767.mono (ro_le hI770)
 replace hI0 := hI0.trans hI770
 replace hst := hst.pull5
 obtain ⟨I772, hI773, f774, hst⟩ := hst.own_fix
 replace f1_0 := f1_0.mono (rd_le hI773)
 replace f1_1 := f1_1.mono (rd_le hI773)
 replace f1_2 := f1_2.mono (rd_le hI773)
 replace f1_3 := f1_3.mono (rd_le hI773)
 replace f758 := f758.mono (ro_le hI773)
 replace f761 := f761.mono (ro_le hI773)
 replace f764 := f764.mono (ro_le hI773)
 replace f767 := f767.mono (ro_le hI773)
 replace f771 := f771.mono (ro_le hI773)
 replace hI0 := hI0.trans hI773
 replace hst := hst.pull4
 obtain ⟨I775, hI776, f777, hst⟩ := hst.own_fix
 replace f1_0 := f1_0.mono (rd_le hI776)
 replace f1_1 := f1_1.mono (rd_le hI776)
 replace f1_2 := f1_2.mono (rd_le hI776)
 replace f1_3 := f1_3.mono (rd_le hI776)
 replace f758 := f758.mono (ro_le hI776)
 replace f761 := f761.mono (ro_le hI776)
 replace f764 := f764.mono (ro_le hI776)
 replace f767 := f767.mono (ro_le hI776)
 replace f771 := f771.mono (ro_le hI776)
 replace f774 := f774.mono (ro_le hI776)
 replace hI0 := hI0.trans hI776
 replace hst := hst.pull3
 obtain ⟨I778, hI779, f780, hst⟩ := hst.own_fix
 replace f1_0 := f1_0.mono (rd_le hI779)
 replace f1_1 := f1_1.mono (rd_le hI779)
 replace f1_2 := f1_2.mono (rd_le hI779)
 replace f1_3 := f1_3.mono (rd_le hI779)
 replace f758 := f758.mono (ro_le hI779)
 replace f761 := f761.mono (ro_le hI779)
 replace f764 := f764.mono (ro_le hI779)
 replace f767 := f767.mono (ro_le hI779)
 replace f771 := f771.mono (ro_le hI779)
 replace f774 := f774.mono (ro_le hI779)
 replace f777 := f777.mono (ro_le hI779)
 replace hI0 := hI0.trans hI779
 replace hst := hst.pull1
 obtain ⟨w781, hr782, hst⟩ := hst.own_store (P := prog) (t := 46) (y := ({ ID := a1.ID, Epoch := a1.Epoch, Gets := t705, Scans := t712, Puts := t719, Data := t726 } : api_Hold)) hi753 0 (.agg #[U6 a1.ID.Session, U6 a1.ID.Seq, U6 a1.Epoch, v710, v717, v724, v731]) sizeOf46 (Nat.le_of_ble_eq_true z) (oC z (oC z (oC z (oC (one_of_sliceV (ro_sliceV f771)) (oC (one_of_sliceV (ro_sliceV f774)) (oC (one_of_sliceV (ro_sliceV f777)) (oC (one_of_sliceV (ro_sliceV f780)) oN))))))) (fun cs h => ⟨_, _, _, _, setMany_all (ty_api_Hold.len h) z, f771, f774, f777, f780, one_of_sliceV (ro_sliceV f771), one_of_sliceV (ro_sliceV f774), one_of_sliceV (ro_sliceV f777), one_of_sliceV (ro_sliceV f780)⟩)
 have hi783 := set_get hi753 ({ ID := a1.ID, Epoch := a1.Epoch, Gets := t705, Scans := t712, Puts := t719, Data := t726 } : api_Hold)
 have h784 := set_lt h752 t739.1.toNat ({ ID := a1.ID, Epoch := a1.Epoch, Gets := t705, Scans := t712, Puts := t719, Data := t726 } : api_Hold)
 refine we_unit z (x_unit hr782) ?_
 refine ws_next (pend' := []) hst (by kernel_rfl) pk_nil ?_
 refine ws_nil ?_
 intro w hst
 refine tn (wp_seq (wrl (wv (.int .i64 (0:Int)) z z z (wl_nil (tn (wp_ret ?_))))))
 replace hst := hst.pull1
 replace hst := at_locks_Table_close (pv := Pt b570 0) (x := ({ l := (o0.l.set t739.1.toNat ({ ID := a1.ID, Epoch := a1.Epoch, Gets := t705, Scans := t712, Puts := t719, Data := t726 } : api_Hold)) } : locks_Table)) hst z
 replace hst := objO_some hst
 obtain rfl := some_inj hm
 refine post_ret (vs := [Zi]) results58 (rvs_cons (rv_tmp z) rvs_nil) ?_
 exact ⟨_, z, hI0, hst.keep1⟩
}
 {
 replace hm := bif_f hc744 hm
 refine wp_iff (cvb hc744) ?_
 obtain ⟨b785, v786, e788, hst'⟩ := at_locks_Table_open hst
 clear hst
 have e788 := ptr_inj e788
 subst e788
 have hst := hst'
 clear hst'
 refine wp_region_St hst 12 [0, 1, 2, 3, 4, 5, 6, 7, 8, 9, 10, 11] [0, 0, 2, 6, 14, 0, 0, 64, 254, 511, 1023, 2047] [] z (by kernel_rfl) (by kernel_rfl) Tryz.mixed (by kernel_rfl) ?_
 refine wsr (Pt b570 0) 0 z z z (by kernel_rfl) (fun w hst => z) (wsr (Pt b570 0) 1 z z z (by kernel_rfl) (fun w hst => z) (wsr (Pt b570 0) 2 z z z (by kernel_rfl) (fun w hst => z) (wsr (Pt b570 0) 3 z z z (by kernel_rfl) (fun w hst => x_field z underlying203 z sizeOf125 z) (wsr (v786) 4 z z z (by kernel_rfl) (fun w hst => x_load z isAgg125 (hst.bc0 z)) (wsr (.int .i64 t739.1) 5 z z z (by kernel_rfl) (fun w hst => z) (wsr (.agg #[U6 a1.ID.Session, U6 a1.ID.Seq, U6 a1.Epoch, v710, v717, v724, v731]) 6 z z z (by kernel_rfl) (fun w hst => x_loadN (cs := [U6 a1.ID.Session, U6 a1.ID.Seq, U6 a1.Epoch, v710, v717, v724, v731]) z isAgg46 sizeOf46 (hst.bcs2 0 z)) ?_))))))
 refine ws_e1 7 (by kernel_rfl) ?_
 refine nxe [8, 9, 10, 11] (by kernel_rfl) z z ?_
 clear hst
 intro w hst
 replace hst := hst.pull6
 obtain ⟨I793, hI794, f795, hst⟩ := hst.own_fix
 replace f1_0 := f1_0.mono (rd_le hI794)
 replace f1_1 := f1_1.mono (rd_le hI794)
 replace f1_2 := f1_2.mono (rd_le hI794)
 replace f1_3 := f1_3.mono (rd_le hI794)
 replace hI0 := hI0.trans hI794
 replace hst := hst.pull5
 obtain ⟨I796, hI797, f798, hst⟩ := hst.own_fix
 replace f1_0 := f1_0.mono (rd_le hI797)
 replace f1_1 := f1_1.mono (rd_le hI797)
 replace f1_2 := f1_2.mono (rd_le hI797)
 replace f1_3 := f1_3.mono (rd_le hI797)
 replace f795 := f795.mono (ro_le hI797)
 replace hI0 := hI0.trans hI797
 replace hst := hst.pull4
 obtain ⟨I799, hI800, f801, hst⟩ := hst.own_fix
 replace f1_0 := f1_0.mono (rd_le hI800)
 replace f1_1 := f1_1.mono (rd_le hI800)
 replace f1_2 := f1_2.mono (rd_le hI800)
 replace f1_3 := f1_3.mono (rd_le hI800)
 replace f795 := f795.mono (ro_le hI800)
 replace f798 := f798.mono (ro_le hI800)
 replace hI0 := hI0.trans hI800
 replace hst := hst.pull3
 obtain ⟨I802, hI803, f804, hst⟩ := hst.own_fix
 replace f1_0 := f1_0.mono (rd_le hI803)
 replace f1_1 := f1_1.mono (rd_le hI803)
 replace f1_2 := f1_2.mono (rd_le hI803)
 replace f1_3 := f1_3.mono (rd_le hI803)
 replace f795 := f795.mono (ro_le hI803)
 replace f798 := f798.mono (ro_le hI803)
 replace f801 := f801.mono (ro_le hI803)
 replace hI0 := hI0.trans hI803
 obtain ⟨b805, w806, ew807, eb808, hst⟩ := hst.lits (E := ty_api_Hold) (xs := [({ ID := a1.ID, Epoch := a1.Epoch, Gets := t705, Scans := t712, Puts := t719, Data := t726 } : api_Hold)]) [[U6 a1.ID.Session, U6 a1.ID.Seq, U6 a1.Epoch, v710, v717, v724, v731]] 46 1 z (Reps.cons ⟨_, _, _, _, z, f795, f798, f801, f804, one_of_sliceV (ro_sliceV f795), one_of_sliceV (ro_sliceV f798), one_of_sliceV (ro_sliceV f801), one_of_sliceV (ro_sliceV f804)⟩ Reps.nil)
 refine we_run (v := (.slice (some ⟨b805, 0, none⟩) 1 1)) (w' := w806) z (x_als (by kernel_rfl) ew807 eb808) ?_
 refine ws_next (pend' := [(5, I6 t739.1), (4, v786), (3, Pt b570 0), (2, Pt b570 0), (1, Pt b570 0), (0, Pt b570 0)]) hst (by kernel_rfl) (pkr z z (fun w hst => z) (pkr z z (fun w hst => x_load z isAgg125 (hst.bc1 z)) (pkr z z (fun w hst => x_field z underlying203 z sizeOf125 z) (pkr z z (fun w hst => z) (pkr z z (fun w hst => z) (pkr z z (fun w hst => z) pk_nil)))))) ?_
 refine ws_e1 8 (by kernel_rfl) ?_
 refine nxe [9, 10, 11] (by kernel_rfl) z z ?_
 clear hst
 intro w hst
 replace hst := hst.pull2
 obtain ⟨t810, ht811, hm⟩ := bind_some hm
 refine wec call144 [v786, I6 t739.1, (.slice (some ⟨b805, 0, none⟩) 1 1)] z z ?_
 refine (slices_Insert_api_Hold_api_Hold_ref hst.to2 ht811).mono ?_
 rintro _ w812 ⟨v815, rfl, hst⟩
 refine ⟨_, z, ?_⟩
 replace hst := hst.of1
 refine ws_next (pend' := [(0, Pt b570 0)]) hst (by kernel_rfl) (pkr z z (fun w hst => z) pk_nil) ?_
 refine wsr (Pt b570 0) 9 z z z (by kernel_rfl) (fun w hst => z) (wsr (Pt b570 0) 10 z z z (by kernel_rfl) (fun w hst => x_field z underlying203 z sizeOf125 z) ?_)
 refine ws_e1 11 (by kernel_rfl) ?_
 refine nxe [] (by kernel_rfl) z z ?_
 clear hst
 intro w hst
 replace hst := hst.pull1
 obtain ⟨w817, hr818, hst⟩ := hst.boxStore1 (P := prog) (t := 125) (cs' := [v815]) 0 v815 (one_of_sliceV hst.sv1) sizeOf125 z z
 refine we_unit z (x_unit hr818) ?_
 refine ws_next (pend' := []) hst (by kernel_rfl) pk_nil ?_
 refine ws_nil ?_
 intro w hst
 refine tn (wp_seq (wrl (wv (.int .i64 (0:Int)) z z z (wl_nil (tn (wp_ret ?_))))))
 replace hst := hst.pull1.pull1
 replace hst := at_locks_Table_close (pv := Pt b570 0) (x := ({ l := t810 } : locks_Table)) hst z
 replace hst := objO_some hst
 obtain rfl := some_inj hm
 refine post_ret (vs := [Zi]) results58 (rvs_cons (rv_tmp z) rvs_nil) ?_
 exact ⟨_, z, hI0, hst.keep1⟩
}
}
}
}

theorem lane_State_Hold_ref {w0 w : World} {I : HL} {R : SP} {a0 : (Option lane_State)} {p0 : Value} {a1 : api_Hold} {r1_0 : Value} {r1_1 : Value} {r1_2 : Value} {r1_3 : Value} (f1_0 : Rd tyF64 R I r1_0 a1.Gets) (f1_1 : Rd tyF2 R I r1_1 a1.Scans) (f1_2 : Rd tyF64 R I r1_2 a1.Puts) (f1_3 : Rd (tyInt .u8) R I r1_3 a1.Data) (hst : St w0 w I [objO at_lane_State p0 a0] R) {r : (Int × (Option lane_State))} (hm : lane_State_Hold a0 a1 = some r) :
  Calls prog 19 #[p0, .agg #[U6 a1.ID.Session, U6 a1.ID.Seq, U6 a1.Epoch, r1_0, r1_1, r1_2, r1_3]] w fun e w' => ∃ (I' : HL), e = .returned (.int .i64 r.1) ∧ I.le I' ∧ St w0 w' I' [objO at_lane_State p0 r.2] R := by {
 rcases a0 with _ | o0
 {
 obtain ⟨rfl, hst'⟩ := objO_none hst
 clear hst
 have hst := hst'
 clear hst'
 dsimp only [lane_State_Hold] at hm
 refine calls_start (args := [.pointer none, .agg #[U6 a1.ID.Session, U6 a1.ID.Seq, U6 a1.Epoch, r1_0, r1_1, r1_2, r1_3]]) func19 z ntmps19 (Nat.le_of_ble_eq_true z) ?_
 have hI0 := HL.le.refl I
 refine wp_seq (wrl ?_)
 obtain ⟨b317, w318, ew319, eb320, hst⟩ := hst.box [U6 a1.ID.Session, U6 a1.ID.Seq, U6 a1.Epoch, r1_0, r1_1, r1_2, r1_3] 46
 refine wl_run (v := Pt b317 0) (w' := w318) z z (x_al (by kernel_rfl) ew319 eb320) ?_
 refine wv (.int .i64 (0:Int)) z z z (wl_nil (tn (wp_seq (wp_seq (wrl (wv (.pointer none) z z z (wv (.bool true) z z (by kernel_rfl) (wl_nil (tn ?_)))))))))
 refine wp_ift z ?_
 refine wp_seq (wrl (wv (.int .i64 (2:Int)) z z z (wl_nil (tn (wp_ret (then_r ?_))))))
 replace hst := hst.objO_nil at_lane_State
 obtain rfl := some_inj hm
 refine post_ret (vs := [I6 (2:Int)]) results19 (rvs_cons (rv_tmp z) rvs_nil) ?_
 exact ⟨_, z, hI0, hst.keep1⟩
}
 {
 replace hst := objO_get hst
 dsimp only [lane_State_Hold] at hm
 refine calls_start (args := [p0, .agg #[U6 a1.ID.Session, U6 a1.ID.Seq, U6 a1.Epoch, r1_0, r1_1, r1_2, r1_3]]) func19 z ntmps19 (Nat.le_of_ble_eq_true z) ?_
 have hI0 := HL.le.refl I
 refine wp_seq (wrl ?_)
 obtain ⟨b322, w323, ew324, eb325, hst⟩ := hst.box [U6 a1.ID.Session, U6 a1.ID.Seq, U6 a1.Epoch, r1_0, r1_1, r1_2, r1_3] 46
 refine wl_run (v := Pt b322 0) (w' := w323) z z (x_al (by kernel_rfl) ew324 eb325) ?_
 refine wv (.int .i64 (0:Int)) z z z (wl_nil (tn (wp_seq (wp_seq (wrl (wv (p0) z z z ?_))))))
 replace hst := hst.pull1
 obtain ⟨b327, v328, v330, v332, v334, v336, v338, v340, rfl, hst'⟩ := at_lane_State_open hst
 clear hst
 have hst := hst'
 clear hst'
 refine wv (.bool false) z z (by kernel_rfl) (wl_nil (tn ?_))
 refine wp_iff z ?_
 refine wp_skip (tn (wp_seq ?_))
 obtain ⟨y423, hm, hx424⟩ := bind_some hm
 refine wp_mid (fun a w => ∃ (I420 : HL) (z400 : Int) (z401 : Int) (z402 : Int) (z405 : (List Nat)) (z409 : (List (Nat × Nat))) (z413 : (List Nat)) (z417 : (List Int)) (z419 : Bool) (b399 : Nat) (v404 : Value) (v408 : Value) (v412 : Value) (v416 : Value) (σ421 : Nat → Value), (lane_State_Hold_j0 a1 o0) (z400, z401, z402, z405, z409, z413, z417, z419) = some r ∧ a = Fr 59 (upd (upd (upd (upd σ421 0 (Pt b327 0)) 3 (Pt b322 0)) 5 (Pt b399 0)) 6 (.bool z419)) ∧ I.le I420 ∧ Ro tyF64 I420 v404 z405 ∧ Ro tyF2 I420 v408 z409 ∧ Ro tyF64 I420 v412 z413 ∧ Ro (tyInt .u8) I420 v416 z417 ∧ St w0 w I420 [at_lane_State (Pt b327 0) o0, cells b322 [U6 a1.ID.Session, U6 a1.ID.Seq, U6 a1.Epoch, r1_0, r1_1, r1_2, r1_3], cells b399 [U6 z400, U6 z401, U6 z402, v404, v408, v412, v416]] R) ?_ ?_
 {
 have hL425 := HL.le.refl I
 refine wp_region_St hst 13 [0, 1, 2, 3, 4, 5, 6, 7, 8, 9, 10, 11, 12] [0, 1, 3, 7, 0, 16, 63, 127, 255, 255, 0, 1535, 4095] [] z (by kernel_rfl) (by kernel_rfl) Tryz.mixed (by kernel_rfl) ?_
 refine wsr (Pt b327 0) 0 z z z (by kernel_rfl) (fun w hst => z) (wsr (Pt b327 0) 1 z z z (by kernel_rfl) (fun w hst => z) (wsr (Pt b327 3) 2 z z z (by kernel_rfl) (fun w hst => x_field z underlying111 z sizeOf103 z) (wsr (v330) 3 z z z (by kernel_rfl) (fun w hst => x_load z isAgg103 (hst.bc0 z)) (wsr (Pt b322 0) 4 z z z (by kernel_rfl) (fun w hst => x_field z underlying46 z sizeOf28 z) (wsr (.agg #[U6 a1.ID.Session, U6 a1.ID.Seq]) 5 z z z (by kernel_rfl) (fun w hst => x_loadN (cs := [U6 a1.ID.Session, U6 a1.ID.Seq]) z isAgg28 sizeOf28 (hst.bcs8 0 z)) ?_)))))
 refine ws_e2 6 10 (by kernel_rfl) ?_ ?_
 {
 refine nxe [7, 8, 9, 10, 11, 12] (by kernel_rfl) z z ?_
 clear hst
 intro w hst
 replace hst := hst.pull2
 obtain ⟨t342, ht343, hm⟩ := bind_some hm
 refine wec call56 [v330, .agg #[U6 a1.ID.Session, U6 a1.ID.Seq]] z z ?_
 refine (locks_Table_Get_ref hst.to1 ht343).mono ?_
 rintro _ w344 ⟨I345, v347, v350, v353, v356, rfl, hI346, f349, f352, f355, f358, hst⟩
 refine ⟨_, z, ?_⟩
 replace hst := hst.of1
 replace f1_0 := f1_0.mono (rd_le hI346)
 replace f1_1 := f1_1.mono (rd_le hI346)
 replace f1_2 := f1_2.mono (rd_le hI346)
 replace f1_3 := f1_3.mono (rd_le hI346)
 replace hI0 := hI0.trans hI346
 replace hL425 := hL425.trans hI346
 refine ws_next (pend' := []) hst (by kernel_rfl) pk_nil ?_
 refine wsr (.tuple #[.agg #[U6 t342.1.ID.Session, U6 t342.1.ID.Seq, U6 t342.1.Epoch, v347, v350, v353, v356], .bool t342.2]) 7 z z z (by kernel_rfl) (fun w hst => z) (wsr (.agg #[U6 t342.1.ID.Session, U6 t342.1.ID.Seq, U6 t342.1.Epoch, v347, v350, v353, v356]) 8 z z z (by kernel_rfl) (fun w hst => z) (wsr (.bool t342.2) 9 z z z (by kernel_rfl) (fun w hst => z) ?_))
 refine ws_e1 10 (by kernel_rfl) ?_
 refine nxe [11, 12] (by kernel_rfl) z z ?_
 clear hst
 intro w hst
 obtain ⟨b363, w364, ew365, eb366, hst⟩ := hst.box [Zu, Zu, Zu, Zs, Zs, Zs, Zs] 46
 refine we_run (v := Pt b363 0) (w' := w364) z (x_al (by kernel_rfl) ew365 eb366) ?_
 refine ws_next (pend' := [(9, .bool t342.2), (8, .agg #[U6 t342.1.ID.Session, U6 t342.1.ID.Seq, U6 t342.1.Epoch, v347, v350, v353, v356]), (7, .tuple #[.agg #[U6 t342.1.ID.Session, U6 t342.1.ID.Seq, U6 t342.1.Epoch, v347, v350, v353, v356], .bool t342.2])]) hst (by kernel_rfl) (pkr z z (fun w hst => z) (pkr z z (fun w hst => z) (pkr z z (fun w hst => z) pk_nil))) ?_
 refine ws_e1 11 (by kernel_rfl) ?_
 refine nxe [12] (by kernel_rfl) z z ?_
 clear hst
 intro w hst
 obtain ⟨w368, hr369, hst⟩ := hst.bx [U6 t342.1.ID.Session, U6 t342.1.ID.Seq, U6 t342.1.Epoch, v347, v350, v353, v356] sizeOf46 z (oC z (oC z (oC z (oC (one_of_sliceV (ro_sliceV f349)) (oC (one_of_sliceV (ro_sliceV f352)) (oC (one_of_sliceV (ro_sliceV f355)) (oC (one_of_sliceV (ro_sliceV f358)) oN))))))) (by kernel_rfl)
 refine we_unit z (x_unit hr369) ?_
 refine ws_next (pend' := [(9, .bool t342.2)]) hst (by kernel_rfl) (pkr z z (fun w hst => z) pk_nil) ?_
 refine wsr (.bool t342.2) 12 z z z (by kernel_rfl) (fun w hst => z) ?_
 refine ws_nil ?_
 intro w hst
 refine ⟨z, ?_⟩
 replace hst := hst.pull8.pull8.pull8.pull8.pull8.pull6.pull8.pull8
 replace hst := at_lane_State_close (pv := Pt b327 0) (x := o0) hst z
 replace hst := hst.pull1.pull2.pull2.keep3
 obtain rfl := some_inj hm
 exact ⟨_, t342.1.ID.Session, t342.1.ID.Seq, t342.1.Epoch, t342.1.Gets, t342.1.Scans, t342.1.Puts, t342.1.Data, t342.2, b363, v347, v350, v353, v356, _, hx424, (fu 0 (Pt b327 0) z (fu 3 (Pt b322 0) z (fu 5 (Pt b363 0) z (fu 6 (.bool t342.2) z z)))), hL425, f349, f352, f355, f358, hst⟩
}
 {
 refine nxe [6, 7, 8, 9, 11, 12] (by kernel_rfl) z z ?_
 clear hst
 intro w hst
 obtain ⟨b374, w375, ew376, eb377, hst⟩ := hst.box [Zu, Zu, Zu, Zs, Zs, Zs, Zs] 46
 refine we_run (v := Pt b374 0) (w' := w375) z (x_al (by kernel_rfl) ew376 eb377) ?_
 refine ws_next (pend' := [(5, .agg #[U6 a1.ID.Session, U6 a1.ID.Seq]), (4, Pt b322 0), (3, v330), (2, Pt b327 3), (1, Pt b327 0), (0, Pt b327 0)]) hst (by kernel_rfl) (pkr z z (fun w hst => x_loadN (cs := [U6 a1.ID.Session, U6 a1.ID.Seq]) z isAgg28 sizeOf28 (hst.bcs9 0 z)) (pkr z z (fun w hst => x_field z underlying46 z sizeOf28 z) (pkr z z (fun w hst => x_load z isAgg103 (hst.bc1 z)) (pkr z z (fun w hst => x_field z underlying111 z sizeOf103 z) (pkr z z (fun w hst => z) (pkr z z (fun w hst => z) pk_nil)))))) ?_
 refine ws_e1 6 (by kernel_rfl) ?_
 refine nxe [7, 8, 9, 11, 12] (by kernel_rfl) z z ?_
 clear hst
 intro w hst
 replace hst := hst.pull3
 obtain ⟨t379, ht380, hm⟩ := bind_some hm
 refine wec call56 [v330, .agg #[U6 a1.ID.Session, U6 a1.ID.Seq]] z z ?_
 refine (locks_Table_Get_ref hst.to1 ht380).mono ?_
 rintro _ w381 ⟨I382, v384, v387, v390, v393, rfl, hI383, f386, f389, f392, f395, hst⟩
 refine ⟨_, z, ?_⟩
 replace hst := hst.of1
 replace f1_0 := f1_0.mono (rd_le hI383)
 replace f1_1 := f1_1.mono (rd_le hI383)
 replace f1_2 := f1_2.mono (rd_le hI383)
 replace f1_3 := f1_3.mono (rd_le hI383)
 replace hI0 := hI0.trans hI383
 replace hL425 := hL425.trans hI383
 refine ws_next (pend' := []) hst (by kernel_rfl) pk_nil ?_
 refine wsr (.tuple #[.agg #[U6 t379.1.ID.Session, U6 t379.1.ID.Seq, U6 t379.1.Epoch, v384, v387, v390, v393], .bool t379.2]) 7 z z z (by kernel_rfl) (fun w hst => z) (wsr (.agg #[U6 t379.1.ID.Session, U6 t379.1.ID.Seq, U6 t379.1.Epoch, v384, v387, v390, v393]) 8 z z z (by kernel_rfl) (fun w hst => z) (wsr (.bool t379.2) 9 z z z (by kernel_rfl) (fun w hst => z) ?_))
 refine ws_e1 11 (by kernel_rfl) ?_
 refine nxe [12] (by kernel_rfl) z z ?_
 clear hst
 intro w hst
 replace hst := hst.pull1
 obtain ⟨w396, hr397, hst⟩ := hst.bx [U6 t379.1.ID.Session, U6 t379.1.ID.Seq, U6 t379.1.Epoch, v384, v387, v390, v393] sizeOf46 z (oC z (oC z (oC z (oC (one_of_sliceV (ro_sliceV f386)) (oC (one_of_sliceV (ro_sliceV f389)) (oC (one_of_sliceV (ro_sliceV f392)) (oC (one_of_sliceV (ro_sliceV f395)) oN))))))) (by kernel_rfl)
 refine we_unit z (x_unit hr397) ?_
 refine ws_next (pend' := [(9, .bool t379.2)]) hst (by kernel_rfl) (pkr z z (fun w hst => z) pk_nil) ?_
 refine wsr (.bool t379.2) 12 z z z (by kernel_rfl) (fun w hst => z) ?_
 refine ws_nil ?_
 intro w hst
 refine ⟨z, ?_⟩
 replace hst := hst.pull8.pull8.pull8.pull8.pull8.pull6.pull8.pull8
 replace hst := at_lane_State_close (pv := Pt b327 0) (x := o0) hst z
 replace hst := hst.pull1.pull2.pull2.keep3
 obtain rfl := some_inj hm
 exact ⟨_, t379.1.ID.Session, t379.1.ID.Seq, t379.1.Epoch, t379.1.Gets, t379.1.Scans, t379.1.Puts, t379.1.Data, t379.2, b374, v384, v387, v390, v393, _, hx424, (fu 0 (Pt b327 0) z (fu 3 (Pt b322 0) z (fu 5 (Pt b374 0) z (fu 6 (.bool t379.2) z z)))), hL425, f386, f389, f392, f395, hst⟩
}
}
 {
 clear hst
 rintro _ w426 ⟨I420, z400, z401, z402, z405, z409, z413, z417, z419, b399, v404, v408, v412, v416, σ421, hm, rfl, hL422, f406, f410, f414, f418, hst⟩
 dsimp only [lane_State_Hold_j0] at hm
 replace f1_0 := f1_0.mono (rd_le hL422)
 replace f1_1 := f1_1.mono (rd_le hL422)
 replace f1_2 := f1_2.mono (rd_le hL422)
 replace f1_3 := f1_3.mono (rd_le hL422)
 replace hI0 := hI0.trans hL422
 refine tn ?_
 obtain ⟨y471, hm, hx472⟩ := joinO_some hm
 refine wp_cut (fun a w => ∃ (σ469 : Nat → Value), (lane_State_Hold_j1 o0 a1) () = some r ∧ a = Fr 59 (upd (upd σ469 0 (Pt b327 0)) 3 (Pt b322 0)) ∧ St w0 w I420 [at_lane_State (Pt b327 0) o0, cells b322 [U6 a1.ID.Session, U6 a1.ID.Seq, U6 a1.Epoch, r1_0, r1_1, r1_2, r1_3]] R) ?_ ?_
 {
 refine wp_block (wp_seq (wrl (wv (.bool z419) z z z (wv (.bool z419) z z z ?_))))
 refine bsplit z419 (fun hc427 => ?_) (fun hc427 => ?_)
 {
 replace hm := bif_t hc427 hm
 refine wv (.agg #[U6 z400, U6 z401, U6 z402, v404, v408, v412, v416]) ((wanted_eq z z z (cvb hc427)).trans z) z (x_loadN (cs := [U6 z400, U6 z401, U6 z402, v404, v408, v412, v416]) z isAgg46 sizeOf46 (hst.bcs2 0 z)) (wv (.agg #[U6 a1.ID.Session, U6 a1.ID.Seq, U6 a1.Epoch, r1_0, r1_1, r1_2, r1_3]) ((wanted_eq z z z (cvb hc427)).trans z) z (x_loadN (cs := [U6 a1.ID.Session, U6 a1.ID.Seq, U6 a1.Epoch, r1_0, r1_1, r1_2, r1_3]) z isAgg46 sizeOf46 (hst.bcs1 0 z)) ?_)
 obtain ⟨t428, ht429, hm⟩ := bind_some hm
 refine wl_call ((wanted_eq z z z (cvb hc427)).trans z) z (x_call call57 z (vs := [.agg #[U6 z400, U6 z401, U6 z402, v404, v408, v412, v416], .agg #[U6 a1.ID.Session, U6 a1.ID.Seq, U6 a1.Epoch, r1_0, r1_1, r1_2, r1_3]]) z) ?_
 refine (locks_Same_ref (a0 := ({ ID := ({ Session := z400, Seq := z401 } : api_ID), Epoch := z402, Gets := z405, Scans := z409, Puts := z413, Data := z417 } : api_Hold)) (f406.mono ro_rd) (f410.mono ro_rd) (f414.mono ro_rd) (f418.mono ro_rd) (f1_0.mono (rd_weak _)) (f1_1.mono (rd_weak _)) (f1_2.mono (rd_weak _)) (f1_3.mono (rd_weak _)) hst.to0 ht429).mono ?_
 rintro _ w430 ⟨rfl, hst⟩
 refine ⟨_, z, ?_⟩
 replace hst := hst.of0
 refine wv (.bool t428) z z (x_pick_t hc427 z z) (wv (.bool t428) z z z (wl_nil (tn ?_)))
 refine bsplit t428 (fun hc433 => ?_) (fun hc433 => ?_)
 {
 replace hm := bif_t hc433 hm
 refine wp_ift (cvb hc433) ?_
 refine wp_seq (wrl (wv (.int .i64 (0:Int)) z z z (wl_nil (tn (wp_ret (blk_r (then_r ?_)))))))
 replace hm := inr_up hm hx472
 replace hst := objO_some hst
 obtain rfl := some_inj hm
 refine post_ret (vs := [Zi]) results19 (rvs_cons (rv_tmp z) rvs_nil) ?_
 exact ⟨_, z, hI0, hst.keep1⟩
}
 {
 replace hm := bif_f hc433 hm
 refine wp_iff (cvb hc433) ?_
 refine wp_seq (wrl (wv (.bool z419) z z z (wv (.bool z419) z z z (wv (Pt b322 0) ((wanted_eq z z z (cvb hc427)).trans z) z (x_field z underlying46 z sizeOf28 z) (wv (Pt b322 0) ((wanted_eq z z z (cvb hc427)).trans z) z (x_field z underlying28 z sizeOf26 z) (wv (.int .u64 a1.ID.Session) ((wanted_eq z z z (cvb hc427)).trans z) z (x_load z isAgg26 (hst.bc1 z)) (wv (.bool (decide (a1.ID.Session < (9223372036854775808:Int)))) ((wanted_eq z z z (cvb hc427)).trans z) z z (wv (.bool (decide (a1.ID.Session < (9223372036854775808:Int)))) ((wanted_eq z z z (cvb hc427)).trans z) z z ?_))))))))
 refine bsplit (decide (a1.ID.Session < (9223372036854775808:Int))) (fun hc434 => ?_) (fun hc434 => ?_)
 {
 replace hm := bif_t hc434 hm
 refine wo hc434 z z z z z z (wo hc434 z z z z z z (wo hc434 z z z z z z (wo hc434 z z z z z z (wo hc434 z z z z z z (wv (.bool true) ((wanted_eq z z z (cvb hc427)).trans z) z (x_pick_t hc434 z z) (wv (.bool true) z z (x_pick_t hc427 z z) (wv (.bool true) z z z (wl_nil (tn ?_)))))))))
 refine wp_ift z ?_
 refine wp_seq (wrl (wv (.int .i64 (8:Int)) z z z (wl_nil (tn (wp_ret (blk_r (then_r ?_)))))))
 replace hm := inr_up hm hx472
 replace hst := objO_some hst
 obtain rfl := some_inj hm
 refine post_ret (vs := [I6 (8:Int)]) results19 (rvs_cons (rv_tmp z) rvs_nil) ?_
 exact ⟨_, z, hI0, hst.keep1⟩
}
 {
 replace hm := bif_f hc434 hm
 refine wv (Pt b322 2) ((wanted_eq z z z (cvb hc434)).trans z) z (x_field z underlying46 z sizeOf26 z) (wv (.int .u64 a1.Epoch) ((wanted_eq z z z (cvb hc434)).trans z) z (x_load z isAgg26 (hst.bc1 z)) (wv (Pt b399 2) ((wanted_eq z z z (cvb hc434)).trans z) z (x_field z underlying46 z sizeOf26 z) (wv (.int .u64 z402) ((wanted_eq z z z (cvb hc434)).trans z) z (x_load z isAgg26 (hst.bc2 z)) (wv (.bool (decide (a1.Epoch ≤ z402))) ((wanted_eq z z z (cvb hc434)).trans z) z z (wv (.bool (decide (a1.Epoch ≤ z402))) ((wanted_eq z z z (cvb hc427)).trans z) z (x_pick_f hc434 z z) (wv (.bool (decide (a1.Epoch ≤ z402))) z z (x_pick_t hc427 z z) (wv (.bool (decide (a1.Epoch ≤ z402))) z z z (wl_nil (tn ?_)))))))))
 refine bsplit (decide (a1.Epoch ≤ z402)) (fun hc435 => ?_) (fun hc435 => ?_)
 {
 replace hm := bif_t hc435 hm
 refine wp_ift (cvb hc435) ?_
 refine wp_seq (wrl (wv (.int .i64 (8:Int)) z z z (wl_nil (tn (wp_ret (blk_r (then_r ?_)))))))
 replace hm := inr_up hm hx472
 replace hst := objO_some hst
 obtain rfl := some_inj hm
 refine post_ret (vs := [I6 (8:Int)]) results19 (rvs_cons (rv_tmp z) rvs_nil) ?_
 exact ⟨_, z, hI0, hst.keep1⟩
}
 {
 replace hm := bif_f hc435 hm
 refine wp_iff (cvb hc435) ?_
 refine wp_seq ?_
 obtain ⟨b436, v437, v439, v441, v443, v445, v447, v449, e451, hst'⟩ := at_lane_State_open hst
 clear hst
 have e451 := ptr_inj e451
 subst e451
 have hst := hst'
 clear hst'
 refine wq_regionS hst Tryz.mixed (by kernel_rfl) ?_
 refine wq_run (v := .bool z419) z z (fun w hst => z) ?_
 refine wq_run (v := .bool (!z419)) z z (fun w hst => z) ?_
 refine wq_run (v := .bool (!z419)) z z (fun w hst => z) ?_
 refine wq_off ((wanted_eq z z z (cvb (not_f hc427))).trans z) z ?_
 refine wq_off ((wanted_eq z z z (cvb (not_f hc427))).trans z) z ?_
 refine wq_off ((wanted_eq z z z (cvb (not_f hc427))).trans z) z ?_
 refine wq_off ((wanted_eq z z z (cvb (not_f hc427))).trans z) z ?_
 refine wq_off ((wanted_eq z z z (cvb (not_f hc427))).trans z) z ?_
 refine wq_off ((wanted_eq z z z (cvb (not_f hc427))).trans z) z ?_
 refine wq_off ((wanted_eq z z z (cvb (not_f hc427))).trans z) z ?_
 refine wq_run (v := .bool false) z z (fun w hst => x_pick_f (not_f hc427) z z) ?_
 refine wq_run (v := .bool false) z z (fun w hst => z) ?_
 refine wq_nil ?_
 intro w hst
 refine tn ?_
 refine wp_iff z ?_
 refine wp_skip (blk_n (tn ?_))
 replace hst := hst.pull7.pull7.pull7.pull7.pull7.pull7.pull7.pull7
 replace hst := at_lane_State_close (pv := Pt b327 0) (x := o0) hst z
 replace hst := hst.pull1.pull1.keep2
 obtain rfl := some_inj hm
 exact ⟨_, hx472, (fu 0 (Pt b327 0) z (fu 3 (Pt b322 0) z z)), hst⟩
}
}
}
}
 {
 replace hm := bif_f hc427 hm
 refine wo hc427 z z z z z z (wo hc427 z z z z z z (wo hc427 z z z z z z (wv (.bool false) z z (x_pick_f hc427 z z) (wv (.bool false) z z z (wl_nil (tn ?_))))))
 refine wp_iff z ?_
 refine wp_seq (wrl (wv (.bool z419) z z z (wv (.bool z419) z z z (wo hc427 z z z z z z (wo hc427 z z z z z z (wo hc427 z z z z z z (wo hc427 z z z z z z (wo hc427 z z z z z z (wl_off (wanted_undef z z z z) z (wl_off (wanted_undef z z z z) z (wl_off (wanted_undef z z z z) z (wl_off (wanted_undef z z z z) z (wl_off (wanted_undef z z z z) z ?_)))))))))))))
 refine wo hc427 z z z z z z (wv (.bool false) z z (x_pick_f hc427 z z) (wv (.bool false) z z z (wl_nil (tn ?_))))
 refine wp_iff z ?_
 refine wp_seq ?_
 obtain ⟨b452, v453, v455, v457, v459, v461, v463, v465, e467, hst'⟩ := at_lane_State_open hst
 clear hst
 have e467 := ptr_inj e467
 subst e467
 have hst := hst'
 clear hst'
 refine wq_regionS hst Tryz.mixed (by kernel_rfl) ?_
 refine wq_run (v := .bool z419) z z (fun w hst => z) ?_
 refine wq_run (v := .bool (!z419)) z z (fun w hst => z) ?_
 refine wq_run (v := .bool (!z419)) z z (fun w hst => z) ?_
 refine wq_run (v := Pt b322 2) ((wanted_eq z z z (cvb (not_tt hc427))).trans z) z (fun w hst => x_field z underlying46 z sizeOf26 z) ?_
 refine wq_run (v := .int .u64 a1.Epoch) ((wanted_eq z z z (cvb (not_tt hc427))).trans z) z (fun w hst => x_load z isAgg26 (hst.bc8 z)) ?_
 refine wq_run (v := Pt b327 0) ((wanted_eq z z z (cvb (not_tt hc427))).trans z) z (fun w hst => z) ?_
 refine wq_run (v := Pt b327 0) ((wanted_eq z z z (cvb (not_tt hc427))).trans z) z (fun w hst => z) ?_
 refine wq_run (v := Pt b327 1) ((wanted_eq z z z (cvb (not_tt hc427))).trans z) z (fun w hst => x_field z underlying111 z sizeOf26 z) ?_
 refine wq_run (v := .int .u64 o0.epoch) ((wanted_eq z z z (cvb (not_tt hc427))).trans z) z (fun w hst => x_load z isAgg26 (hst.bc0 z)) ?_
 refine wq_run (v := .bool (a1.Epoch != o0.epoch)) ((wanted_eq z z z (cvb (not_tt hc427))).trans z) z (fun w hst => z) ?_
 refine wq_run (v := .bool (a1.Epoch != o0.epoch)) z z (fun w hst => x_pick_t (not_tt hc427) z z) ?_
 refine wq_run (v := .bool (a1.Epoch != o0.epoch)) z z (fun w hst => z) ?_
 refine wq_nil ?_
 intro w hst
 refine tn ?_
 refine bsplit (a1.Epoch != o0.epoch) (fun hc468 => ?_) (fun hc468 => ?_)
 {
 replace hm := bif_t hc468 hm
 refine wp_ift (cvb hc468) ?_
 refine wp_seq (wrl (wv (.int .i64 (9:Int)) z z z (wl_nil (tn (wp_ret (blk_r (then_r ?_)))))))
 replace hm := inr_up hm hx472
 replace hst := hst.pull7.pull7.pull7.pull7.pull7.pull7.pull7.pull7
 replace hst := at_lane_State_close (pv := Pt b327 0) (x := o0) hst z
 replace hst := objO_some hst
 obtain rfl := some_inj hm
 refine post_ret (vs := [I6 (9:Int)]) results19 (rvs_cons (rv_tmp z) rvs_nil) ?_
 exact ⟨_, z, hI0, hst.keep1⟩
}
 {
 replace hm := bif_f hc468 hm
 refine wp_iff (cvb hc468) ?_
 refine wp_skip (blk_n (tn ?_))
 replace hst := hst.pull7.pull7.pull7.pull7.pull7.pull7.pull7.pull7
 replace hst := at_lane_State_close (pv := Pt b327 0) (x := o0) hst z
 replace hst := hst.pull1.pull1.keep2
 obtain rfl := some_inj hm
 exact ⟨_, hx472, (fu 0 (Pt b327 0) z (fu 3 (Pt b322 0) z z)), hst⟩
}
}
}
 {
 clear hst
 rintro _ w473 ⟨σ469, hm, rfl, hst⟩
 dsimp only [lane_State_Hold_j1] at hm
 refine wp_seq ?_
 obtain ⟨b474, v475, v477, v479, v481, v483, v485, v487, e489, hst'⟩ := at_lane_State_open hst
 clear hst
 have e489 := ptr_inj e489
 subst e489
 have hst := hst'
 clear hst'
 refine wp_region_St hst 7 [0, 1, 2, 3, 4, 5, 6] [0, 1, 3, 7, 0, 31, 63] [] z (by kernel_rfl) (by kernel_rfl) Tryz.mixed (by kernel_rfl) ?_
 refine wsr (Pt b327 0) 0 z z z (by kernel_rfl) (fun w hst => z) (wsr (Pt b327 0) 1 z z z (by kernel_rfl) (fun w hst => z) (wsr (Pt b327 3) 2 z z z (by kernel_rfl) (fun w hst => x_field z underlying111 z sizeOf103 z) (wsr (v477) 3 z z z (by kernel_rfl) (fun w hst => x_load z isAgg103 (hst.bc0 z)) (wsr (.agg #[U6 a1.ID.Session, U6 a1.ID.Seq, U6 a1.Epoch, r1_0, r1_1, r1_2, r1_3]) 4 z z z (by kernel_rfl) (fun w hst => x_loadN (cs := [U6 a1.ID.Session, U6 a1.ID.Seq, U6 a1.Epoch, r1_0, r1_1, r1_2, r1_3]) z isAgg46 sizeOf46 (hst.bcs8 0 z)) ?_))))
 refine ws_e1 5 (by kernel_rfl) ?_
 refine nxe [6] (by kernel_rfl) z z ?_
 clear hst
 intro w hst
 replace hst := hst.pull2
 obtain ⟨t490, ht491, hm⟩ := bind_some hm
 refine wec call58 [v477, .agg #[U6 a1.ID.Session, U6 a1.ID.Seq, U6 a1.Epoch, r1_0, r1_1, r1_2, r1_3]] z z ?_
 refine (locks_Table_Take_ref (f1_0.mono (rd_weak _)) (f1_1.mono (rd_weak _)) (f1_2.mono (rd_weak _)) (f1_3.mono (rd_weak _)) hst.to1 ht491).mono ?_
 rintro _ w492 ⟨I493, rfl, hI494, hst⟩
 refine ⟨_, z, ?_⟩
 replace hst := hst.of1
 replace f1_0 := f1_0.mono (rd_le hI494)
 replace f1_1 := f1_1.mono (rd_le hI494)
 replace f1_2 := f1_2.mono (rd_le hI494)
 replace f1_3 := f1_3.mono (rd_le hI494)
 replace f406 := f406.mono (ro_le hI494)
 replace f410 := f410.mono (ro_le hI494)
 replace f414 := f414.mono (ro_le hI494)
 replace f418 := f418.mono (ro_le hI494)
 replace hI0 := hI0.trans hI494
 refine ws_next (pend' := []) hst (by kernel_rfl) pk_nil ?_
 refine wsr (.int .i64 t490.1) 6 z z z (by kernel_rfl) (fun w hst => z) ?_
 refine ws_nil ?_
 intro w hst
 refine tn (wp_ret ?_)
 replace hst := hst.pull7.pull7.pull7.pull7.pull7.pull5.pull7.pull7
 replace hst := at_lane_State_close (pv := Pt b327 0) (x := ({ wide := o0.wide, epoch := o0.epoch, store := o0.store, locks := t490.2, last := o0.last, book := o0.book, open_ := o0.open_, out := o0.out, used := o0.used } : lane_State)) hst z
 replace hst := objO_some hst
 obtain rfl := some_inj hm
 refine post_ret (vs := [I6 t490.1]) results19 (rvs_cons (rv_tmp z) rvs_nil) ?_
 exact ⟨_, z, hI0, hst.keep1⟩
}
}
}
}

theorem mvcc_Store_find_ref {w0 w : World} {I : HL} {R : SP} {a0 : (Option mvcc_Store)} {p0 : Value} {a1 : Int}  (hst : St w0 w I [objO at_mvcc_Store p0 a0] R) {r : (Int × Bool)} (hm : mvcc_Store_find a0 a1 = some r) :
  Calls prog 146 #[p0, U6 a1] w fun e w' => e = .returned (.tuple #[I6 r.1, .bool r.2]) ∧ St w0 w' I [objO at_mvcc_Store p0 a0] R := by {
 rcases a0 with _ | o0
 {
 obtain ⟨rfl, hst'⟩ := objO_none hst
 clear hst
 have hst := hst'
 clear hst'
 dsimp only [mvcc_Store_find] at hm
 refine calls_start (args := [.pointer none, U6 a1]) func146 z ntmps146 (Nat.le_of_ble_eq_true z) ?_
 refine wp_seq (wrl ?_)
 obtain ⟨b299, w300, ew301, eb302, hst⟩ := hst.box [.pointer none] 101
 refine wl_run (v := Pt b299 0) (w' := w300) z z (x_al (by kernel_rfl) ew301 eb302) ?_
 obtain ⟨b304, w305, ew306, eb307, hst⟩ := hst.box [U6 a1] 26
 refine wl_run (v := Pt b304 0) (w' := w305) z z (x_al (by kernel_rfl) ew306 eb307) ?_
 refine wv (.int .i64 (0:Int)) z z z (wv (.bool false) z z z (wl_nil (tn (wp_seq (wp_seq (wrl (wv (.pointer none) z z (x_load z isAgg101 (hst.bc1 z)) (wv (.bool true) z z (by kernel_rfl) (wl_nil (tn ?_))))))))))
 refine wp_ift z ?_
 refine wp_seq (wrl (wv (.int .i64 (0:Int)) z z z (wv (.bool false) z z z (wl_nil (tn (wp_ret (then_r ?_)))))))
 replace hst := hst.objO_nil at_mvcc_Store
 obtain rfl := some_inj hm
 refine post_ret (vs := [Zi, .bool false]) results146 (rvs_cons (rv_tmp z) (rvs_cons (rv_tmp z) rvs_nil)) ?_
 exact ⟨z, hst.keep1⟩
}
 {
 replace hst := objO_get hst
 dsimp only [mvcc_Store_find] at hm
 refine calls_start (args := [p0, U6 a1]) func146 z ntmps146 (Nat.le_of_ble_eq_true z) ?_
 refine wp_seq (wrl ?_)
 obtain ⟨b309, v310, rfl, hst'⟩ := at_mvcc_Store_open hst
 clear hst
 have hst := hst'
 clear hst'
 obtain ⟨b312, w313, ew314, eb315, hst⟩ := hst.box [Pt b309 0] 101
 refine wl_run (v := Pt b312 0) (w' := w313) z z (x_al (by kernel_rfl) ew314 eb315) ?_
 obtain ⟨b317, w318, ew319, eb320, hst⟩ := hst.box [U6 a1] 26
 refine wl_run (v := Pt b317 0) (w' := w318) z z (x_al (by kernel_rfl) ew319 eb320) ?_
 refine wv (.int .i64 (0:Int)) z z z (wv (.bool false) z z z (wl_nil (tn (wp_seq (wp_seq (wrl (wv (Pt b309 0) z z (x_load z isAgg101 (hst.bc1 z)) (wv (.bool false) z z (by kernel_rfl) (wl_nil (tn ?_))))))))))
 refine wp_iff z ?_
 refine wp_skip (tn (wp_seq (wrl ?_)))
 refine wv (Pt b309 0) z z (x_load z isAgg101 (hst.bc1 z)) (wv (Pt b309 0) z z z (wv (Pt b309 0) z z (x_field z underlying201 z sizeOf199 z) (wv (v310) z z (x_load z isAgg199 (hst.bc2 z)) (wv (.int .i64 ((o0.rows).length : Int)) z z (x_len z underlying199 (hst.nestsv 3 z)) (wv (.func (.func 198) #[] #[Pt b312 0, Pt b317 0]) z z (by kernel_rfl) ?_)))))
 obtain ⟨y372, hq373, hm⟩ := bind_some hm
 refine wl_call z z (x_callv call179 (caps := []) z (vs := [I6 ((o0.rows).length : Int), .func (.func 198) #[] #[Pt b312 0, Pt b317 0]]) z) ?_
 refine Calls.mono (show Calls prog 179 #[I6 ((o0.rows).length : Int), .func (.func 198) #[] #[Pt b312 0, Pt b317 0]] _ (fun e w' => ∃ (z370 : Int), z370 = y372 ∧ e = .returned (.int .i64 z370) ∧ St w0 w' I [cells b309 [v310], ownN nest_mvcc_row v310 o0.rows, cells b312 [Pt b309 0], cells b317 [U6 a1]] R) from ?_) ?_
 {
 clear hm; have hm := hq373
 refine calls_start (args := [I6 ((o0.rows).length : Int), .func (.func 198) #[] #[Pt b312 0, Pt b317 0]]) func179 z ntmps179 (Nat.le_of_ble_eq_true z) ?_
 refine wp_seq (wrl (wv (.int .i64 (0:Int)) z z z (wl_nil (tn (wp_seq (wrl (wv (.int .i64 ((o0.rows).length : Int)) z z z (wv (.int .i64 (0:Int)) z z z (wv (.int .i64 ((o0.rows).length : Int)) z z z (wl_nil (tn (wp_seq (wp_block ?_)))))))))))))
 obtain ⟨n351, hm⟩ := loopO_some hm
 refine wp_loop_n (fun n a w => ∃ (z348 : Int) (z349 : Int) (σ350 : Nat → Value), loopN (mvcc_Store_find_l0 o0 a1) n (z348, z349) = some y372 ∧ a = Fr 26 (upd (upd (upd σ350 1 (.func (.func 198) #[] #[Pt b312 0, Pt b317 0])) 5 (.int .i64 z348)) 6 (.int .i64 z349)) ∧ St w0 w I [cells b317 [U6 a1], cells b312 [Pt b309 0], cells b309 [v310], ownN nest_mvcc_row v310 o0.rows] R) n351 ⟨(0:Int), ((o0.rows).length : Int), _, hm, (fu 1 (.func (.func 198) #[] #[Pt b312 0, Pt b317 0]) z (fu 5 (.int .i64 (0:Int)) z (fu 6 (.int .i64 ((o0.rows).length : Int)) z z))), hst⟩ ?_
 rintro n357 _ w352 ⟨z348, z349, σ350, hm, rfl, hst⟩
 obtain ⟨n354, y355, rfl, hm, hx356⟩ := loopN_some hm
 dsimp only [mvcc_Store_find_l0] at hm
 refine wp_seq (wp_seq (wrl (wv (.int .i64 z348) z z z (wv (.int .i64 z349) z z z (wv (.bool (decide (z348 < z349))) z z z (wl_nil (tn ?_)))))))
 refine bsplit (decide (z348 < z349)) (fun hc358 => ?_) (fun hc358 => ?_)
 {
 replace hm := bif_t hc358 hm
 refine wp_ift (cvb hc358) ?_
 refine wp_skip (tn (wp_block (wp_seq (wrl ?_))))
 refine wv (.int .i64 z348) z z z (wv (.int .i64 z349) z z z (wv (.int .i64 (i64.wrap (z348 + z349))) z z z (wv (.int .u64 (u64.wrap (i64.wrap (z348 + z349)))) z z (by kernel_rfl) (wv (.int .u64 (iShr .u64 (u64.wrap (i64.wrap (z348 + z349))) (1:Int))) z z (x_shr (by decide) z z) (wv (.int .i64 (i64.wrap (iShr .u64 (u64.wrap (i64.wrap (z348 + z349))) (1:Int)))) z z (by kernel_rfl) (wv (.int .i64 (i64.wrap (iShr .u64 (u64.wrap (i64.wrap (z348 + z349))) (1:Int)))) z z z (wl_nil (tn (wp_seq (wrl (wv (.func (.func 198) #[] #[Pt b312 0, Pt b317 0]) z z z (wv (.int .i64 (i64.wrap (iShr .u64 (u64.wrap (i64.wrap (z348 + z349))) (1:Int)))) z z z ?_))))))))))))
 obtain ⟨y366, hq367, hm⟩ := bind_some hm
 refine wl_call z z (x_callv call198 (caps := [Pt b312 0, Pt b317 0]) z (vs := [I6 (i64.wrap (iShr .u64 (u64.wrap (i64.wrap (z348 + z349))) (1:Int)))]) z) ?_
 refine Calls.mono (show Calls prog 198 #[I6 (i64.wrap (iShr .u64 (u64.wrap (i64.wrap (z348 + z349))) (1:Int))), Pt b312 0, Pt b317 0] _ (fun e w' => ∃ (z364 : Bool), z364 = y366 ∧ e = .returned (.bool z364) ∧ St w0 w' I [cells b309 [v310], ownN nest_mvcc_row v310 o0.rows, cells b312 [Pt b309 0], cells b317 [U6 a1]] R) from ?_) ?_
 {
 clear hm; have hm := hq367
 refine calls_start (args := [I6 (i64.wrap (iShr .u64 (u64.wrap (i64.wrap (z348 + z349))) (1:Int))), Pt b312 0, Pt b317 0]) func198 z ntmps198 (Nat.le_of_ble_eq_true z) ?_
 refine wp_seq (wrl (wv (.bool false) z z z (wl_nil (tn (wp_seq ?_)))))
 refine wq_regionS hst Tryz.mixed (by kernel_rfl) ?_
 refine wq_run (v := Pt b309 0) z z (fun w hst => x_load z isAgg101 (hst.bc1 z)) ?_
 refine wq_run (v := Pt b309 0) z z (fun w hst => z) ?_
 refine wq_run (v := Pt b309 0) z z (fun w hst => x_field z underlying201 z sizeOf199 z) ?_
 refine wq_run (v := v310) z z (fun w hst => x_load z isAgg199 (hst.bc2 z)) ?_
 refine wq_run (v := .int .i64 (i64.wrap (iShr .u64 (u64.wrap (i64.wrap (z348 + z349))) (1:Int)))) z z (fun w hst => z) ?_
 obtain ⟨x359, hx360, hm⟩ := bind_some hm
 obtain ⟨h361, h362, hi363⟩ := geto_some hx360
 refine wq_run (v := .pointer (some (eAddr v310 ((i64.wrap (iShr .u64 (u64.wrap (i64.wrap (z348 + z349))) (1:Int))).toNat * 2 + 0)))) z z (fun w hst => x_index z z underlying199 sizeOf240 (hst.nestsv 3 z) h361 h362) ?_
 refine wq_run (v := .pointer (some (eAddr v310 ((i64.wrap (iShr .u64 (u64.wrap (i64.wrap (z348 + z349))) (1:Int))).toNat * 2 + 0)))) z z (fun w hst => x_field_e z underlying240 z sizeOf26 z) ?_
 refine wq_run (v := .int .u64 x359.rank) z z (fun w hst => x_load z isAgg26 (hst.nestc (N := nest_mvcc_row) (i := (i64.wrap (iShr .u64 (u64.wrap (i64.wrap (z348 + z349))) (1:Int))).toNat) (o := 0) 3 z hi363 (fun _ => z))) ?_
 refine wq_run (v := .int .u64 a1) z z (fun w hst => x_load z isAgg26 (hst.bc0 z)) ?_
 refine wq_run (v := .bool (decide (x359.rank ≥ a1))) z z (fun w hst => z) ?_
 refine wq_run (v := .bool (decide (x359.rank ≥ a1))) z z (fun w hst => z) ?_
 refine wq_nil ?_
 intro w hst
 refine tn (wp_ret ?_)
 refine post_ret (vs := [.bool (decide (x359.rank ≥ a1))]) results198 (rvs_cons (rv_tmp z) rvs_nil) ?_
 replace hst := hst.pull1.pull3.pull3.keep4
 obtain rfl := some_inj hm
 exact ⟨(decide (x359.rank ≥ a1)), z, z, hst⟩
}
 clear hst
 rintro _ w368 ⟨z364, rfl, rfl, hst⟩
 refine ⟨_, z, ?_⟩
 try dsimp only at hm
 refine wv (.bool (!z364)) z z z (wl_nil (tn ?_))
 refine bsplit (!z364) (fun hc369 => ?_) (fun hc369 => ?_)
 {
 replace hm := bif_t hc369 hm
 refine wp_ift (cvb hc369) ?_
 refine wrl (wv (.int .i64 (i64.wrap (iShr .u64 (u64.wrap (i64.wrap (z348 + z349))) (1:Int)))) z z z (wv (.int .i64 (i64.wrap ((i64.wrap (iShr .u64 (u64.wrap (i64.wrap (z348 + z349))) (1:Int))) + (1:Int)))) z z z (wv (.int .i64 (i64.wrap ((i64.wrap (iShr .u64 (u64.wrap (i64.wrap (z348 + z349))) (1:Int))) + (1:Int)))) z z z (wl_nil (blk_n (tn ?_))))))
 replace hst := hst.pull1.pull1.pull2.pull3.keep4
 obtain rfl := some_inj hm
 exact ⟨_, Nat.lt_succ_self _, (i64.wrap ((i64.wrap (iShr .u64 (u64.wrap (i64.wrap (z348 + z349))) (1:Int))) + (1:Int))), z349, _, hx356, (fu 1 (.func (.func 198) #[] #[Pt b312 0, Pt b317 0]) z (fu 5 (.int .i64 (i64.wrap ((i64.wrap (iShr .u64 (u64.wrap (i64.wrap (z348 + z349))) (1:Int))) + (1:Int)))) z (fu 6 (.int .i64 z349) z z))), hst⟩
}
 {
 replace hm := bif_f hc369 hm
 refine wp_iff (cvb hc369) ?_
 refine wrl (wv (.int .i64 (i64.wrap (iShr .u64 (u64.wrap (i64.wrap (z348 + z349))) (1:Int)))) z z z (wv (.int .i64 (i64.wrap (iShr .u64 (u64.wrap (i64.wrap (z348 + z349))) (1:Int)))) z z z (wl_nil (blk_n (tn ?_)))))
 replace hst := hst.pull1.pull1.pull2.pull3.keep4
 obtain rfl := some_inj hm
 exact ⟨_, Nat.lt_succ_self _, z348, (i64.wrap (iShr .u64 (u64.wrap (i64.wrap (z348 + z349))) (1:Int))), _, hx356, (fu 1 (.func (.func 198) #[] #[Pt b312 0, Pt b317 0]) z (fu 5 (.int .i64 z348) z (fu 6 (.int .i64 (i64.wrap (iShr .u64 (u64.wrap (i64.wrap (z348 + z349))) (1:Int)))) z z))), hst⟩
}
}
 {
 replace hm := bif_f hc358 hm
 refine wp_iff (cvb hc358) ?_
 refine wp_exit (then_x (then_x ?_))
 replace hm := inr_up hm hx356
 refine blk_x (tn (wp_seq (wrl ?_)))
 refine wv (.int .i64 z348) z z z (wv (.int .i64 z348) z z z (wl_nil (tn (wp_ret ?_))))
 refine post_ret (vs := [I6 z348]) results179 (rvs_cons (rv_tmp z) rvs_nil) ?_
 replace hst := hst.pull1.pull3.pull3.keep4
 obtain rfl := some_inj hm
 exact ⟨z348, z, z, hst⟩
}
}
 clear hst
 rintro _ w374 ⟨z370, rfl, rfl, hst⟩
 refine ⟨_, z, ?_⟩
 try dsimp only at hm
 refine wv (.int .i64 z370) z z z (wl_nil (tn (wp_seq ?_)))
 refine wq_regionS hst Tryz.mixed (by kernel_rfl) ?_
 refine wq_run (v := .int .i64 z370) z z (fun w hst => z) ?_
 refine wq_run (v := .int .i64 z370) z z (fun w hst => z) ?_
 refine wq_run (v := Pt b309 0) z z (fun w hst => x_load z isAgg101 (hst.bc2 z)) ?_
 refine wq_run (v := Pt b309 0) z z (fun w hst => z) ?_
 refine wq_run (v := Pt b309 0) z z (fun w hst => x_field z underlying201 z sizeOf199 z) ?_
 refine wq_run (v := v310) z z (fun w hst => x_load z isAgg199 (hst.bc0 z)) ?_
 refine wq_run (v := .int .i64 ((o0.rows).length : Int)) z z (fun w hst => x_len z underlying199 (hst.nestsv 1 z)) ?_
 refine wq_run (v := .bool (decide (z370 < ((o0.rows).length : Int)))) z z (fun w hst => z) ?_
 refine wq_run (v := .bool (decide (z370 < ((o0.rows).length : Int)))) z z (fun w hst => z) ?_
 refine bsplit (decide (z370 < ((o0.rows).length : Int))) (fun hc375 => ?_) (fun hc375 => ?_)
 {
 replace hm := bif_t hc375 hm
 refine wq_run (v := Pt b309 0) ((wanted_eq z z z (cvb hc375)).trans z) z (fun w hst => x_load z isAgg101 (hst.bc2 z)) ?_
 refine wq_run (v := Pt b309 0) ((wanted_eq z z z (cvb hc375)).trans z) z (fun w hst => z) ?_
 refine wq_run (v := Pt b309 0) ((wanted_eq z z z (cvb hc375)).trans z) z (fun w hst => x_field z underlying201 z sizeOf199 z) ?_
 refine wq_run (v := v310) ((wanted_eq z z z (cvb hc375)).trans z) z (fun w hst => x_load z isAgg199 (hst.bc0 z)) ?_
 refine wq_run (v := .int .i64 z370) ((wanted_eq z z z (cvb hc375)).trans z) z (fun w hst => z) ?_
 obtain ⟨x376, hx377, hm⟩ := bind_some hm
 obtain ⟨h378, h379, hi380⟩ := geto_some hx377
 refine wq_run (v := .pointer (some (eAddr v310 (z370.toNat * 2 + 0)))) ((wanted_eq z z z (cvb hc375)).trans z) z (fun w hst => x_index z z underlying199 sizeOf240 (hst.nestsv 1 z) h378 h379) ?_
 refine wq_run (v := .pointer (some (eAddr v310 (z370.toNat * 2 + 0)))) ((wanted_eq z z z (cvb hc375)).trans z) z (fun w hst => x_field_e z underlying240 z sizeOf26 z) ?_
 refine wq_run (v := .int .u64 x376.rank) ((wanted_eq z z z (cvb hc375)).trans z) z (fun w hst => x_load z isAgg26 (hst.nestc (N := nest_mvcc_row) (i := z370.toNat) (o := 0) 1 z hi380 (fun _ => z))) ?_
 refine wq_run (v := .int .u64 a1) ((wanted_eq z z z (cvb hc375)).trans z) z (fun w hst => x_load z isAgg26 (hst.bc3 z)) ?_
 refine wq_run (v := .bool (x376.rank == a1)) ((wanted_eq z z z (cvb hc375)).trans z) z (fun w hst => z) ?_
 refine wq_run (v := .bool (x376.rank == a1)) z z (fun w hst => x_pick_t hc375 z z) ?_
 refine wq_run (v := .int .i64 z370) z z (fun w hst => z) ?_
 refine wq_run (v := .bool (x376.rank == a1)) z z (fun w hst => z) ?_
 refine wq_nil ?_
 intro w hst
 refine tn (wp_ret ?_)
 replace hst := hst.pull1.pull1
 replace hst := at_mvcc_Store_close (pv := Pt b309 0) (x := o0) hst z
 replace hst := objO_some hst
 obtain rfl := some_inj hm
 refine post_ret (vs := [I6 z370, .bool (x376.rank == a1)]) results146 (rvs_cons (rv_tmp z) (rvs_cons (rv_tmp z) rvs_nil)) ?_
 exact ⟨z, hst.keep1⟩
}
 {
 replace hm := bif_f hc375 hm
 refine wq_off ((wanted_eq z z z (cvb hc375)).trans z) z ?_
 refine wq_off ((wanted_eq z z z (cvb hc375)).trans z) z ?_
 refine wq_off ((wanted_eq z z z (cvb hc375)).trans z) z ?_
 refine wq_off ((wanted_eq z z z (cvb hc375)).trans z) z ?_
 refine wq_off ((wanted_eq z z z (cvb hc375)).trans z) z ?_
 refine wq_off ((wanted_eq z z z (cvb hc375)).trans z) z ?_
 refine wq_off ((wanted_eq z z z (cvb hc375)).trans z) z ?_
 refine wq_off ((wanted_eq z z z (cvb hc375)).trans z) z ?_
 refine wq_off ((wanted_eq z z z (cvb hc375)).trans z) z ?_
 refine wq_off ((wanted_eq z z z (cvb hc375)).trans z) z ?_
 refine wq_run (v := .bool false) z z (fun w hst => x_pick_f hc375 z z) ?_
 refine wq_run (v := .int .i64 z370) z z (fun w hst => z) ?_
 refine wq_run (v := .bool false) z z (fun w hst => z) ?_
 refine wq_nil ?_
 intro w hst
 refine tn (wp_ret ?_)
 replace hst := hst.pull1.pull1
 replace hst := at_mvcc_Store_close (pv := Pt b309 0) (x := o0) hst z
 replace hst := objO_some hst
 obtain rfl := some_inj hm
 refine post_ret (vs := [I6 z370, .bool false]) results146 (rvs_cons (rv_tmp z) (rvs_cons (rv_tmp z) rvs_nil)) ?_
 exact ⟨z, hst.keep1⟩
}
}
}

theorem mvcc_read_ref {w0 w : World} {I : HL} {R : SP} {a0 : (List mvcc_Version)} {r0_0 : Value} {a1 : Int} (f0_0 : Rd ty_mvcc_Version R I r0_0 a0) (hst : St w0 w I [] R) {r : (api_Got)} (hm : mvcc_read a0 a1 = some r) :
  Calls prog 147 #[r0_0, U6 a1] w fun e w' => ∃ (q0_0 : Value), e = .returned (.agg #[.bool r.Has, q0_0]) ∧ St w0 w' I [ownS (tyInt .u8) q0_0 r.Val] R := by {
 unfold mvcc_read at hm
 refine calls_start (args := [r0_0, U6 a1]) func147 z ntmps147 (Nat.le_of_ble_eq_true z) ?_
 refine wp_seq (wrl ?_)
 have hv381 := (rd_sliceV f0_0)
 obtain ⟨b375, w376, ew377, eb378, hst⟩ := hst.box [r0_0] 238
 refine wl_run (v := Pt b375 0) (w' := w376) z z (x_al (by obtain ⟨_, _, hv_, _⟩ := hv381; rw [hv_]; kernel_rfl) ew377 eb378) ?_
 obtain ⟨b382, w383, ew384, eb385, hst⟩ := hst.box [U6 a1] 26
 refine wl_run (v := Pt b382 0) (w' := w383) z z (x_al (by kernel_rfl) ew384 eb385) ?_
 obtain ⟨b388, w389, ew390, eb391, hst⟩ := hst.box [.bool false, Zs] 61
 refine wl_run (v := Pt b388 0) (w' := w389) z z (x_al (by kernel_rfl) ew390 eb391) ?_
 refine wl_nil (tn (wp_seq (wrl (wv (r0_0) z z (x_load z isAgg238 (hst.bc2 z)) (wv (.int .i64 ((a0).length : Int)) z z (x_len z underlying238 (rd_sliceV f0_0)) (wv (.func (.func 199) #[] #[Pt b375 0, Pt b382 0]) z z (by kernel_rfl) ?_))))))
 obtain ⟨y461, hq462, hm⟩ := bind_some hm
 refine wl_call z z (x_callv call179 (caps := []) z (vs := [I6 ((a0).length : Int), .func (.func 199) #[] #[Pt b375 0, Pt b382 0]]) z) ?_
 refine Calls.mono (show Calls prog 179 #[I6 ((a0).length : Int), .func (.func 199) #[] #[Pt b375 0, Pt b382 0]] _ (fun e w' => ∃ (z459 : Int), z459 = y461 ∧ e = .returned (.int .i64 z459) ∧ St w0 w' I [cells b375 [r0_0], cells b382 [U6 a1], cells b388 [.bool false, Zs]] R) from ?_) ?_
 {
 clear hm; have hm := hq462
 refine calls_start (args := [I6 ((a0).length : Int), .func (.func 199) #[] #[Pt b375 0, Pt b382 0]]) func179 z ntmps179 (Nat.le_of_ble_eq_true z) ?_
 refine wp_seq (wrl (wv (.int .i64 (0:Int)) z z z (wl_nil (tn (wp_seq (wrl (wv (.int .i64 ((a0).length : Int)) z z z (wv (.int .i64 (0:Int)) z z z (wv (.int .i64 ((a0).length : Int)) z z z (wl_nil (tn (wp_seq (wp_block ?_)))))))))))))
 obtain ⟨n434, hm⟩ := loopO_some hm
 refine wp_loop_n (fun n a w => ∃ (z431 : Int) (z432 : Int) (σ433 : Nat → Value), loopN (mvcc_read_l0 a0 a1) n (z431, z432) = some y461 ∧ a = Fr 26 (upd (upd (upd σ433 1 (.func (.func 199) #[] #[Pt b375 0, Pt b382 0])) 5 (.int .i64 z431)) 6 (.int .i64 z432)) ∧ St w0 w I [cells b388 [.bool false, Zs], cells b382 [U6 a1], cells b375 [r0_0]] R) n434 ⟨(0:Int), ((a0).length : Int), _, hm, (fu 1 (.func (.func 199) #[] #[Pt b375 0, Pt b382 0]) z (fu 5 (.int .i64 (0:Int)) z (fu 6 (.int .i64 ((a0).length : Int)) z z))), hst⟩ ?_
 rintro n440 _ w435 ⟨z431, z432, σ433, hm, rfl, hst⟩
 obtain ⟨n437, y438, rfl, hm, hx439⟩ := loopN_some hm
 dsimp only [mvcc_read_l0] at hm
 refine wp_seq (wp_seq (wrl (wv (.int .i64 z431) z z z (wv (.int .i64 z432) z z z (wv (.bool (decide (z431 < z432))) z z z (wl_nil (tn ?_)))))))
 refine bsplit (decide (z431 < z432)) (fun hc441 => ?_) (fun hc441 => ?_)
 {
 replace hm := bif_t hc441 hm
 refine wp_ift (cvb hc441) ?_
 refine wp_skip (tn (wp_block (wp_seq (wrl ?_))))
 refine wv (.int .i64 z431) z z z (wv (.int .i64 z432) z z z (wv (.int .i64 (i64.wrap (z431 + z432))) z z z (wv (.int .u64 (u64.wrap (i64.wrap (z431 + z432)))) z z (by kernel_rfl) (wv (.int .u64 (iShr .u64 (u64.wrap (i64.wrap (z431 + z432))) (1:Int))) z z (x_shr (by decide) z z) (wv (.int .i64 (i64.wrap (iShr .u64 (u64.wrap (i64.wrap (z431 + z432))) (1:Int)))) z z (by kernel_rfl) (wv (.int .i64 (i64.wrap (iShr .u64 (u64.wrap (i64.wrap (z431 + z432))) (1:Int)))) z z z (wl_nil (tn (wp_seq (wrl (wv (.func (.func 199) #[] #[Pt b375 0, Pt b382 0]) z z z (wv (.int .i64 (i64.wrap (iShr .u64 (u64.wrap (i64.wrap (z431 + z432))) (1:Int)))) z z z ?_))))))))))))
 obtain ⟨y455, hq456, hm⟩ := bind_some hm
 refine wl_call z z (x_callv call199 (caps := [Pt b375 0, Pt b382 0]) z (vs := [I6 (i64.wrap (iShr .u64 (u64.wrap (i64.wrap (z431 + z432))) (1:Int)))]) z) ?_
 refine Calls.mono (show Calls prog 199 #[I6 (i64.wrap (iShr .u64 (u64.wrap (i64.wrap (z431 + z432))) (1:Int))), Pt b375 0, Pt b382 0] _ (fun e w' => ∃ (z453 : Bool), z453 = y455 ∧ e = .returned (.bool z453) ∧ St w0 w' I [cells b375 [r0_0], cells b382 [U6 a1], cells b388 [.bool false, Zs]] R) from ?_) ?_
 {
 clear hm; have hm := hq456
 refine calls_start (args := [I6 (i64.wrap (iShr .u64 (u64.wrap (i64.wrap (z431 + z432))) (1:Int))), Pt b375 0, Pt b382 0]) func199 z ntmps199 (Nat.le_of_ble_eq_true z) ?_
 refine wp_seq (wrl (wv (.bool false) z z z (wl_nil (tn (wp_seq ?_)))))
 refine wq_regionS hst Tryz.mixed (by kernel_rfl) ?_
 refine wq_run (v := r0_0) z z (fun w hst => x_load z isAgg238 (hst.bc2 z)) ?_
 refine wq_run (v := .int .i64 (i64.wrap (iShr .u64 (u64.wrap (i64.wrap (z431 + z432))) (1:Int)))) z z (fun w hst => z) ?_
 obtain ⟨x442, hx443, hm⟩ := bind_some hm
 obtain ⟨h444, h445, hi446⟩ := geto_some hx443
 refine wq_run (v := .pointer (some (eAddr r0_0 ((i64.wrap (iShr .u64 (u64.wrap (i64.wrap (z431 + z432))) (1:Int))).toNat * 4 + 0)))) z z (fun w hst => x_index z z underlying238 sizeOf214 (rd_sliceV f0_0) h444 h445) ?_
 refine wq_run (v := .pointer (some (eAddr r0_0 ((i64.wrap (iShr .u64 (u64.wrap (i64.wrap (z431 + z432))) (1:Int))).toNat * 4 + 0)))) z z (fun w hst => x_field_e z underlying214 z sizeOf26 z) ?_
 obtain ⟨cs447, hr448, hc449⟩ := Rd.getF f0_0 hi446
 obtain ⟨v450, rfl, f451, -⟩ := hr448
 refine wq_run (v := .int .u64 x442.Epoch) z z (fun w hst => x_load z isAgg26 ((hc449 (HL.le.refl _) hst) 0 _ z)) ?_
 refine wq_run (v := .int .u64 a1) z z (fun w hst => x_load z isAgg26 (hst.bc1 z)) ?_
 refine wq_run (v := .bool (decide (x442.Epoch > a1))) z z (fun w hst => z) ?_
 refine wq_run (v := .bool (decide (x442.Epoch > a1))) z z (fun w hst => z) ?_
 refine wq_nil ?_
 intro w hst
 refine tn (wp_ret ?_)
 refine post_ret (vs := [.bool (decide (x442.Epoch > a1))]) results199 (rvs_cons (rv_tmp z) rvs_nil) ?_
 replace hst := hst.pull1.pull2.keep3
 obtain rfl := some_inj hm
 exact ⟨(decide (x442.Epoch > a1)), z, z, hst⟩
}
 clear hst
 rintro _ w457 ⟨z453, rfl, rfl, hst⟩
 refine ⟨_, z, ?_⟩
 try dsimp only at hm
 refine wv (.bool (!z453)) z z z (wl_nil (tn ?_))
 refine bsplit (!z453) (fun hc458 => ?_) (fun hc458 => ?_)
 {
 replace hm := bif_t hc458 hm
 refine wp_ift (cvb hc458) ?_
 refine wrl (wv (.int .i64 (i64.wrap (iShr .u64 (u64.wrap (i64.wrap (z431 + z432))) (1:Int)))) z z z (wv (.int .i64 (i64.wrap ((i64.wrap (iShr .u64 (u64.wrap (i64.wrap (z431 + z432))) (1:Int))) + (1:Int)))) z z z (wv (.int .i64 (i64.wrap ((i64.wrap (iShr .u64 (u64.wrap (i64.wrap (z431 + z432))) (1:Int))) + (1:Int)))) z z z (wl_nil (blk_n (tn ?_))))))
 replace hst := hst.pull1.pull2.keep3
 obtain rfl := some_inj hm
 exact ⟨_, Nat.lt_succ_self _, (i64.wrap ((i64.wrap (iShr .u64 (u64.wrap (i64.wrap (z431 + z432))) (1:Int))) + (1:Int))), z432, _, hx439, (fu 1 (.func (.func 199) #[] #[Pt b375 0, Pt b382 0]) z (fu 5 (.int .i64 (i64.wrap ((i64.wrap (iShr .u64 (u64.wrap (i64.wrap (z431 + z432))) (1:Int))) + (1:Int)))) z (fu 6 (.int .i64 z432) z z))), hst⟩
}
 {
 replace hm := bif_f hc458 hm
 refine wp_iff (cvb hc458) ?_
 refine wrl (wv (.int .i64 (i64.wrap (iShr .u64 (u64.wrap (i64.wrap (z431 + z432))) (1:Int)))) z z z (wv (.int .i64 (i64.wrap (iShr .u64 (u64.wrap (i64.wrap (z431 + z432))) (1:Int)))) z z z (wl_nil (blk_n (tn ?_)))))
 replace hst := hst.pull1.pull2.keep3
 obtain rfl := some_inj hm
 exact ⟨_, Nat.lt_succ_self _, z431, (i64.wrap (iShr .u64 (u64.wrap (i64.wrap (z431 + z432))) (1:Int))), _, hx439, (fu 1 (.func (.func 199) #[] #[Pt b375 0, Pt b382 0]) z (fu 5 (.int .i64 z431) z (fu 6 (.int .i64 (i64.wrap (iShr .u64 (u64.wrap (i64.wrap (z431 + z432))) (1:Int)))) z z))), hst⟩
}
}
 {
 replace hm := bif_f hc441 hm
 refine wp_iff (cvb hc441) ?_
 refine wp_exit (then_x (then_x ?_))
 replace hm := inr_up hm hx439
 refine blk_x (tn (wp_seq (wrl ?_)))
 refine wv (.int .i64 z431) z z z (wv (.int .i64 z431) z z z (wl_nil (tn (wp_ret ?_))))
 refine post_ret (vs := [I6 z431]) results179 (rvs_cons (rv_tmp z) rvs_nil) ?_
 replace hst := hst.pull1.pull2.keep3
 obtain rfl := some_inj hm
 exact ⟨z431, z, z, hst⟩
}
}
 clear hst
 rintro _ w463 ⟨z459, rfl, rfl, hst⟩
 refine ⟨_, z, ?_⟩
 try dsimp only at hm
 refine wv (.int .i64 z459) z z z (wl_nil (tn (wp_seq (wp_seq (wrl (wv (.int .i64 z459) z z z (wv (.bool (z459 == (0:Int))) z z z (wv (.bool (z459 == (0:Int))) z z z ?_))))))))
 refine bsplit (z459 == (0:Int)) (fun hc464 => ?_) (fun hc464 => ?_)
 {
 replace hm := bif_t hc464 hm
 refine wo hc464 z z z z z z (wo hc464 z z z z z z (wo hc464 z z z z z z (wo hc464 z z z z z z (wo hc464 z z z z z z (wo hc464 z z z z z z (wv (.bool true) z z (x_pick_t hc464 z z) (wl_nil (tn ?_))))))))
 refine wp_ift z ?_
 refine wp_seq (wrl (wv (.agg #[.bool false, Zs]) z z (by kernel_rfl) ?_))
 replace hst := hst.pull2
 obtain ⟨w466, hr467, hst⟩ := hst.bx [.bool false, Zs] sizeOf61 z (oC z (oC z oN)) (by kernel_rfl)
 refine wl_unit z z (x_unit hr467) ?_
 refine wl_nil (tn (wp_ret (then_r ?_)))
 replace hst := hst.own_nil (tyInt .u8)
 obtain rfl := some_inj hm
 refine post_ret (vs := [.agg #[.bool false, Zs]]) results147 (rvs_cons (rv_cell (cs := [.bool false, Zs]) z isAgg61 sizeOf61 (hst.bcs1 0 z)) rvs_nil) ?_
 exact ⟨(.slice none 0 0), z, hst.keep1⟩
}
 {
 replace hm := bif_f hc464 hm
 refine wv (r0_0) ((wanted_eq z z z (cvb hc464)).trans z) z (x_load z isAgg238 (hst.bc0 z)) (wv (.int .i64 z459) ((wanted_eq z z z (cvb hc464)).trans z) z z (wv (.int .i64 (i64.wrap (z459 - (1:Int)))) ((wanted_eq z z z (cvb hc464)).trans z) z z ?_))
 obtain ⟨x468, hx469, hm⟩ := bind_some hm
 obtain ⟨h470, h471, hi472⟩ := geto_some hx469
 refine wv (.pointer (some (eAddr r0_0 ((i64.wrap (z459 - (1:Int))).toNat * 4 + 0)))) ((wanted_eq z z z (cvb hc464)).trans z) z (x_index z z underlying238 sizeOf214 (rd_sliceV f0_0) h470 h471) (wv (.pointer (some (eAddr r0_0 ((i64.wrap (z459 - (1:Int))).toNat * 4 + 2)))) ((wanted_eq z z z (cvb hc464)).trans z) z (x_field_e z underlying214 z sizeOf4 z) ?_)
 obtain ⟨cs473, hr474, hc475⟩ := Rd.getF f0_0 hi472
 obtain ⟨v476, rfl, f477, -⟩ := hr474
 refine wv (.bool x468.Del) ((wanted_eq z z z (cvb hc464)).trans z) z (x_load z isAgg4 ((hc475 (HL.le.refl _) hst) 2 _ z)) (wv (.bool x468.Del) z z (x_pick_f hc464 z z) (wl_nil (tn ?_)))
 refine bsplit x468.Del (fun hc479 => ?_) (fun hc479 => ?_)
 {
 replace hm := bif_t hc479 hm
 refine wp_ift (cvb hc479) ?_
 refine wp_seq (wrl (wv (.agg #[.bool false, Zs]) z z (by kernel_rfl) ?_))
 replace hst := hst.pull2
 obtain ⟨w481, hr482, hst⟩ := hst.bx [.bool false, Zs] sizeOf61 z (oC z (oC z oN)) (by kernel_rfl)
 refine wl_unit z z (x_unit hr482) ?_
 refine wl_nil (tn (wp_ret (then_r ?_)))
 replace hst := hst.own_nil (tyInt .u8)
 obtain rfl := some_inj hm
 refine post_ret (vs := [.agg #[.bool false, Zs]]) results147 (rvs_cons (rv_cell (cs := [.bool false, Zs]) z isAgg61 sizeOf61 (hst.bcs1 0 z)) rvs_nil) ?_
 exact ⟨(.slice none 0 0), z, hst.keep1⟩
}
 {
 replace hm := bif_f hc479 hm
 refine wp_iff (cvb hc479) ?_
 refine wp_skip (tn (wp_seq (wrl ?_)))
 refine wv (r0_0) z z (x_load z isAgg238 (hst.bc0 z)) (wv (.int .i64 z459) z z z (wv (.int .i64 (i64.wrap (z459 - (1:Int)))) z z z (wv (.pointer (some (eAddr r0_0 ((i64.wrap (z459 - (1:Int))).toNat * 4 + 0)))) z z (x_index z z underlying238 sizeOf214 (rd_sliceV f0_0) h470 h471) (wv (.pointer (some (eAddr r0_0 ((i64.wrap (z459 - (1:Int))).toNat * 4 + 3)))) z z (x_field_e z underlying214 z sizeOf22 z) (wv (v476) z z (x_load z isAgg22 ((hc475 (HL.le.refl _) hst) 3 _ z)) ?_)))))
 obtain ⟨t483, ht484, hm⟩ := bind_some hm
 refine wc call143 [v476] z z z ?_
 refine (slices_Clone_byte_byte_ref (f477.mono (rd_weak _)) hst.to0 ht484).mono ?_
 rintro _ w485 ⟨v488, rfl, hst⟩
 refine ⟨_, z, ?_⟩
 replace hst := hst.of1
 refine wv (.agg #[.bool true, v488]) z z (by obtain ⟨_, _, hv_, _⟩ := hst.sv0; rw [hv_]; kernel_rfl) ?_
 replace hst := hst.pull3
 obtain ⟨w491, hr492, hst⟩ := hst.bx [.bool true, v488] sizeOf61 z (oC z (oC (one_of_sliceV hst.sv1) oN)) (by kernel_rfl)
 refine wl_unit z z (x_unit hr492) ?_
 refine wl_nil (tn (wp_ret ?_))
 obtain rfl := some_inj hm
 refine post_ret (vs := [.agg #[.bool true, v488]]) results147 (rvs_cons (rv_cell (cs := [.bool true, v488]) z isAgg61 sizeOf61 (hst.bcs0 0 z)) rvs_nil) ?_
 replace hst := hst.pull1
 exact ⟨v488, z, hst.keep1⟩
}
}
}

theorem mvcc_Store_Get_ref {w0 w : World} {I : HL} {R : SP} {a0 : (Option mvcc_Store)} {p0 : Value} {a1 : Nat} {a2 : Int}  (hst : St w0 w I [objO at_mvcc_Store p0 a0] R) {r : (api_Got)} (hm : mvcc_Store_Get a0 a1 a2 = some r) :
  Calls prog 60 #[p0, F6 a1, U6 a2] w fun e w' => ∃ (q0_0 : Value), e = .returned (.agg #[.bool r.Has, q0_0]) ∧ St w0 w' I [ownS (tyInt .u8) q0_0 r.Val, objO at_mvcc_Store p0 a0] R := by {
 rcases a0 with _ | o0
 {
 obtain ⟨rfl, hst'⟩ := objO_none hst
 clear hst
 have hst := hst'
 clear hst'
 dsimp only [mvcc_Store_Get] at hm
 refine calls_start (args := [.pointer none, F6 a1, U6 a2]) func60 z ntmps60 (Nat.le_of_ble_eq_true z) ?_
 refine wp_seq (wrl ?_)
 obtain ⟨b268, w269, ew270, eb271, hst⟩ := hst.box [.bool false, Zs] 61
 refine wl_run (v := Pt b268 0) (w' := w269) z z (x_al (by kernel_rfl) ew270 eb271) ?_
 refine wl_nil (tn (wp_seq (wrl (wv (.pointer none) z z z (wv (.float .f64 a1) z z z ?_)))))
 obtain ⟨t273, ht274, hm⟩ := bind_some hm
 refine wc call118 [F6 a1] z z z ?_
 refine (number_Rank_ref hst.to0 ht274).mono ?_
 rintro _ w275 ⟨rfl, hst⟩
 refine ⟨_, z, ?_⟩
 replace hst := hst.of0.objO_nil at_mvcc_Store
 obtain ⟨t279, ht280, hm⟩ := bind_some hm
 refine wc call146 [.pointer none, U6 t273] z z z ?_
 refine (mvcc_Store_find_ref hst.to1 ht280).mono ?_
 rintro _ w281 ⟨rfl, hst⟩
 refine ⟨_, z, ?_⟩
 replace hst := hst.of1
 refine wv (.tuple #[I6 t279.1, .bool t279.2]) z z z (wv (.int .i64 t279.1) z z z (wv (.bool t279.2) z z z (wv (.int .i64 t279.1) z z z (wv (.bool t279.2) z z z (wl_nil (tn (wp_seq (wp_seq (wrl (wv (.bool t279.2) z z z (wv (.bool (!t279.2)) z z z (wl_nil (tn ?_)))))))))))))
 refine bsplit (!t279.2) (fun hc284 => ?_) (fun hc284 => ?_)
 {
 replace hm := bif_t hc284 hm
 refine wp_ift (cvb hc284) ?_
 refine wp_seq (wrl (wv (.agg #[.bool false, Zs]) z z (by kernel_rfl) ?_))
 replace hst := hst.pull1
 obtain ⟨w286, hr287, hst⟩ := hst.bx [.bool false, Zs] sizeOf61 z (oC z (oC z oN)) (by kernel_rfl)
 refine wl_unit z z (x_unit hr287) ?_
 refine wl_nil (tn (wp_ret (then_r ?_)))
 replace hst := hst.own_nil (tyInt .u8)
 replace hst := hst.objO_nil at_mvcc_Store
 obtain rfl := some_inj hm
 refine post_ret (vs := [.agg #[.bool false, Zs]]) results60 (rvs_cons (rv_cell (cs := [.bool false, Zs]) z isAgg61 sizeOf61 (hst.bcs2 0 z)) rvs_nil) ?_
 replace hst := hst.pull1
 exact ⟨(.slice none 0 0), z, hst.keep2⟩
}
 {
 replace hm := bif_f hc284 hm
 refine wp_iff (cvb hc284) ?_
 refine wp_skip (tn (wp_seq (wrl ?_)))
 refine wv (.pointer none) z z z ?_
 cases hm
}
}
 {
 replace hst := objO_get hst
 dsimp only [mvcc_Store_Get] at hm
 refine calls_start (args := [p0, F6 a1, U6 a2]) func60 z ntmps60 (Nat.le_of_ble_eq_true z) ?_
 refine wp_seq (wrl ?_)
 obtain ⟨b289, w290, ew291, eb292, hst⟩ := hst.box [.bool false, Zs] 61
 refine wl_run (v := Pt b289 0) (w' := w290) z z (x_al (by kernel_rfl) ew291 eb292) ?_
 refine wl_nil (tn (wp_seq (wrl (wv (p0) z z z (wv (.float .f64 a1) z z z ?_)))))
 obtain ⟨t294, ht295, hm⟩ := bind_some hm
 refine wc call118 [F6 a1] z z z ?_
 refine (number_Rank_ref hst.to0 ht295).mono ?_
 rintro _ w296 ⟨rfl, hst⟩
 refine ⟨_, z, ?_⟩
 replace hst := hst.of0.pull1
 replace hst := objO_some hst
 obtain ⟨t299, ht300, hm⟩ := bind_some hm
 refine wc call146 [p0, U6 t294] z z z ?_
 refine (mvcc_Store_find_ref hst.to1 ht300).mono ?_
 rintro _ w301 ⟨rfl, hst⟩
 refine ⟨_, z, ?_⟩
 replace hst := hst.of1
 replace hst := objO_get hst
 refine wv (.tuple #[I6 t299.1, .bool t299.2]) z z z (wv (.int .i64 t299.1) z z z (wv (.bool t299.2) z z z (wv (.int .i64 t299.1) z z z (wv (.bool t299.2) z z z (wl_nil (tn (wp_seq (wp_seq (wrl (wv (.bool t299.2) z z z (wv (.bool (!t299.2)) z z z (wl_nil (tn ?_)))))))))))))
 refine bsplit (!t299.2) (fun hc304 => ?_) (fun hc304 => ?_)
 {
 replace hm := bif_t hc304 hm
 refine wp_ift (cvb hc304) ?_
 refine wp_seq (wrl (wv (.agg #[.bool false, Zs]) z z (by kernel_rfl) ?_))
 replace hst := hst.pull1
 obtain ⟨w306, hr307, hst⟩ := hst.bx [.bool false, Zs] sizeOf61 z (oC z (oC z oN)) (by kernel_rfl)
 refine wl_unit z z (x_unit hr307) ?_
 refine wl_nil (tn (wp_ret (then_r ?_)))
 replace hst := hst.own_nil (tyInt .u8)
 replace hst := hst.pull2
 replace hst := objO_some hst
 obtain rfl := some_inj hm
 refine post_ret (vs := [.agg #[.bool false, Zs]]) results60 (rvs_cons (rv_cell (cs := [.bool false, Zs]) z isAgg61 sizeOf61 (hst.bcs2 0 z)) rvs_nil) ?_
 replace hst := hst.pull1
 exact ⟨(.slice none 0 0), z, hst.keep2⟩
}
 {
 replace hm := bif_f hc304 hm
 refine wp_iff (cvb hc304) ?_
 refine wp_skip (tn (wp_seq (wrl ?_)))
 refine wv (p0) z z z ?_
 obtain ⟨b308, v309, rfl, hst'⟩ := at_mvcc_Store_open hst
 clear hst
 have hst := hst'
 clear hst'
 refine wv (Pt b308 0) z z z (wv (Pt b308 0) z z (x_field z underlying201 z sizeOf199 z) (wv (v309) z z (x_load z isAgg199 (hst.bc0 z)) (wv (.int .i64 t299.1) z z z ?_)))
 obtain ⟨x311, hx312, hm⟩ := bind_some hm
 obtain ⟨h313, h314, hi315⟩ := geto_some hx312
 refine wv (.pointer (some (eAddr v309 (t299.1.toNat * 2 + 0)))) z z (x_index z z underlying199 sizeOf240 (hst.nestsv 1 z) h313 h314) (wv (.pointer (some (eAddr v309 (t299.1.toNat * 2 + 1)))) z z (x_field_e z underlying240 z sizeOf238 z) ?_)
 replace hst := hst.pull1
 obtain ⟨v316, hst⟩ := hst.nest_focus hi315
 refine wv (v316) z z (x_load z isAgg238 ((hst.holeall (N := nest_mvcc_row) (i := t299.1.toNat) 1 z hi315) 1 _ z)) (wv (.int .u64 a2) z z z ?_)
 obtain ⟨css318, hq319, hst⟩ := hst.own_open
 obtain ⟨t320, ht321, hm⟩ := bind_some hm
 refine wc call147 [v316, U6 a2] z z z ?_
 refine (mvcc_read_ref (hst.rdrow0 hq319) hst.to0 ht321).mono ?_
 rintro _ w322 ⟨v325, rfl, hst⟩
 refine ⟨_, z, ?_⟩
 replace hst := hst.of1.pull1.own_close hq319
 replace hst := hst.pull4
 obtain ⟨w327, hr328, hst⟩ := hst.bx [.bool t320.Has, v325] sizeOf61 z (oC z (oC (one_of_sliceV hst.sv2) oN)) (by kernel_rfl)
 refine wl_unit z z (x_unit hr328) ?_
 refine wl_nil (tn (wp_ret ?_))
 replace hst := hst.pull3.pull2
 replace hst := St.nest_close0 (N := nest_mvcc_row) hst hi315
 replace hst := hst.pull3
 replace hst := at_mvcc_Store_close (pv := Pt b308 0) (x := o0) hst z
 replace hst := objO_some hst
 obtain rfl := some_inj hm
 refine post_ret (vs := [.agg #[.bool t320.Has, v325]]) results60 (rvs_cons (rv_cell (cs := [.bool t320.Has, v325]) z isAgg61 sizeOf61 (hst.bcs1 0 z)) rvs_nil) ?_
 replace hst := hst.pull2
 exact ⟨v325, z, hst.keep2⟩
}
}
}

theorem number_Back_ref {w0 w : World} {I : HL} {R : SP} {a0 : Int}  (hst : St w0 w I [] R) {r : (Nat)} (hm : number_Back a0 = some r) :
  Calls prog 107 #[U6 a0] w fun e w' => e = .returned (.float .f64 r) ∧ St w0 w' I [] R := by {
 unfold number_Back at hm
 refine calls_start (args := [U6 a0]) func107 z ntmps107 (Nat.le_of_ble_eq_true z) ?_
 refine wp_seq (wrl (wv (.float .f64 (0:Nat)) z z z (wl_nil (tn (wp_seq (wp_seq (wrl (wv (.int .u64 a0) z z z (wv (.int .u64 (iShr .u64 a0 (63:Int))) z z (x_shr (by decide) z z) (wv (.bool ((iShr .u64 a0 (63:Int)) == (1:Int))) z z z (wl_nil (tn ?_))))))))))))
 refine bsplit ((iShr .u64 a0 (63:Int)) == (1:Int)) (fun hc473 => ?_) (fun hc473 => ?_)
 {
 replace hm := bif_t hc473 hm
 refine wp_ift (cvb hc473) ?_
 refine wp_seq (wrl (wv (.int .u64 a0) z z z (wv (.int .u64 (bAndNot .u64 a0 (9223372036854775808:Int))) z z z (wv (.float .f64 (Int.toNat (bAndNot .u64 a0 (9223372036854775808:Int)))) z z (by kernel_rfl) (wv (.float .f64 (Int.toNat (bAndNot .u64 a0 (9223372036854775808:Int)))) z z z (wl_nil (tn (wp_ret (then_r ?_)))))))))
 obtain rfl := some_inj hm
 refine post_ret (vs := [F6 (Int.toNat (bAndNot .u64 a0 (9223372036854775808:Int)))]) results107 (rvs_cons (rv_tmp z) rvs_nil) ?_
 exact ⟨z, hst.keep0⟩
}
 {
 replace hm := bif_f hc473 hm
 refine wp_iff (cvb hc473) ?_
 refine wp_skip (tn (wp_seq (wrl ?_)))
 refine wv (.int .u64 a0) z z z (wv (.int .u64 (bXor .u64 ((18446744073709551615):Int) a0)) z z (by kernel_rfl) (wv (.float .f64 (Int.toNat (bXor .u64 ((18446744073709551615):Int) a0))) z z (by kernel_rfl) (wv (.float .f64 (Int.toNat (bXor .u64 ((18446744073709551615):Int) a0))) z z z (wl_nil (tn (wp_ret ?_))))))
 obtain rfl := some_inj hm
 refine post_ret (vs := [F6 (Int.toNat (bXor .u64 ((18446744073709551615):Int) a0))]) results107 (rvs_cons (rv_tmp z) rvs_nil) ?_
 exact ⟨z, hst.keep0⟩
}
}

theorem mvcc_Store_Scan_ref {w0 w : World} {I : HL} {R : SP} {a0 : (Option mvcc_Store)} {p0 : Value} {a1 : Nat} {a2 : Nat} {a3 : Int} {a4 : Int}  (hst : St w0 w I [objO at_mvcc_Store p0 a0] R) {r : ((List api_Pair))} (hm : mvcc_Store_Scan a0 a1 a2 a3 a4 = some r) :
  Calls prog 77 #[p0, F6 a1, F6 a2, U6 a3, I6 a4] w fun e w' => ∃ (I' : HL) (q0_0 : Value), e = .returned (q0_0) ∧ I.le I' ∧ St w0 w' I' [ownS ty_api_Pair q0_0 r, objO at_mvcc_Store p0 a0] R := by {
 rcases a0 with _ | o0
 {
 obtain ⟨rfl, hst'⟩ := objO_none hst
 clear hst
 have hst := hst'
 clear hst'
 dsimp only [mvcc_Store_Scan] at hm
 refine calls_start (args := [.pointer none, F6 a1, F6 a2, U6 a3, I6 a4]) func77 z ntmps77 (Nat.le_of_ble_eq_true z) ?_
 have hI0 := HL.le.refl I
 refine wp_seq (wrl (wv ((.slice none 0 0)) z z z (wl_nil (tn (wp_seq (wp_seq (wrl (wv (.pointer none) z z z (wv (.bool true) z z (by kernel_rfl) (wl_nil (tn ?_)))))))))))
 refine wp_ift z ?_
 refine wp_seq (wrl (wv ((.slice none 0 0)) z z z (wl_nil (tn (wp_ret (then_r ?_))))))
 replace hst := hst.own_nil ty_api_Pair
 replace hst := hst.objO_nil at_mvcc_Store
 obtain rfl := some_inj hm
 refine post_ret (vs := [Zs]) results77 (rvs_cons (rv_tmp z) rvs_nil) ?_
 replace hst := hst.pull1
 exact ⟨_, Zs, z, hI0, hst.keep2⟩
}
 {
 replace hst := objO_get hst
 dsimp only [mvcc_Store_Scan] at hm
 refine calls_start (args := [p0, F6 a1, F6 a2, U6 a3, I6 a4]) func77 z ntmps77 (Nat.le_of_ble_eq_true z) ?_
 have hI0 := HL.le.refl I
 refine wp_seq (wrl (wv ((.slice none 0 0)) z z z (wl_nil (tn (wp_seq (wp_seq (wrl (wv (p0) z z z ?_))))))))
 obtain ⟨b684, v685, rfl, hst'⟩ := at_mvcc_Store_open hst
 clear hst
 have hst := hst'
 clear hst'
 refine wv (.bool false) z z (by kernel_rfl) (wl_nil (tn ?_))
 refine wp_iff z ?_
 refine wp_skip (tn (wp_seq (wrl ?_)))
 refine wv ((.slice none 0 0)) z z z (wl_nil (tn (wp_seq (wp_seq (wrl (wv (Pt b684 0) z z z (wv (.float .f64 a1) z z z ?_)))))))
 obtain ⟨t688, ht689, hm⟩ := bind_some hm
 refine wc call118 [F6 a1] z z z ?_
 refine (number_Rank_ref hst.to0 ht689).mono ?_
 rintro _ w690 ⟨rfl, hst⟩
 refine ⟨_, z, ?_⟩
 replace hst := hst.of0.pull1.pull1
 replace hst := at_mvcc_Store_close (pv := Pt b684 0) (x := o0) hst z
 replace hst := objO_some hst
 obtain ⟨t693, ht694, hm⟩ := bind_some hm
 refine wc call146 [Pt b684 0, U6 t688] z z z ?_
 refine (mvcc_Store_find_ref hst.to1 ht694).mono ?_
 rintro _ w695 ⟨rfl, hst⟩
 refine ⟨_, z, ?_⟩
 replace hst := hst.of1
 replace hst := objO_get hst
 refine wv (.tuple #[I6 t693.1, .bool t693.2]) z z z (wv (.int .i64 t693.1) z z z (wv (.bool t693.2) z z z (wv (.int .i64 t693.1) z z z (wv (.bool t693.2) z z z (wl_nil (tn (wp_block ?_)))))))
 replace hst := hst.own_nil ty_api_Pair
 obtain ⟨n879, hm⟩ := loopO_some hm
 refine wp_loop_n (fun n a w => ∃ (I877 : HL) (z873 : (List api_Pair)) (z876 : Int) (v874 : Value) (σ878 : Nat → Value), loopN (mvcc_Store_Scan_l0 o0 a2 a4 a3) n (z873, z876) = some r ∧ a = Fr 80 (upd (upd (upd (upd (upd (upd σ878 0 (Pt b684 0)) 2 (.float .f64 a2)) 3 (.int .u64 a3)) 4 (.int .i64 a4)) 11 (v874)) 12 (.int .i64 z876)) ∧ I.le I877 ∧ St w0 w I877 [ownS ty_api_Pair v874 z873, at_mvcc_Store (Pt b684 0) o0] R) n879 ⟨_, [], t693.1, Zs, _, hm, (fu 0 (Pt b684 0) z (fu 2 (.float .f64 a2) z (fu 3 (.int .u64 a3) z (fu 4 (.int .i64 a4) z (fu 11 (.slice none 0 0) z (fu 12 (.int .i64 t693.1) z z)))))), (HL.le.refl _), hst⟩ ?_
 rintro n885 _ w880 ⟨I877, z873, z876, v874, σ878, hm, rfl, hL881, hst⟩
 obtain ⟨n882, y883, rfl, hm, hx884⟩ := loopN_some hm
 dsimp only [mvcc_Store_Scan_l0] at hm
 replace hI0 := hI0.trans hL881
 refine wp_seq (wp_seq ?_)
 replace hst := hst.pull1
 obtain ⟨b886, v887, e889, hst'⟩ := at_mvcc_Store_open hst
 clear hst
 have e889 := ptr_inj e889
 subst e889
 have hst := hst'
 clear hst'
 refine wp_region_St hst 26 [0, 1, 2, 3, 4, 5, 6, 7, 8, 9, 10, 11, 12, 13, 14, 15, 16, 17, 18, 19, 20, 21, 22, 23, 24, 25] [0, 0, 2, 6, 14, 30, 63, 127, 255, 511, 1023, 2047, 255, 8191, 16383, 32767, 255, 65791, 262143, 524287, 1048575, 2097151, 4194303, 2097151, 16777215, 33554431] [] z (by kernel_rfl) (by kernel_rfl) Tryz.mixed (by kernel_rfl) ?_
 refine wsr (.int .i64 z876) 0 z z z (by kernel_rfl) (fun w hst => z) (wsr (Pt b684 0) 1 z z z (by kernel_rfl) (fun w hst => z) (wsr (Pt b684 0) 2 z z z (by kernel_rfl) (fun w hst => z) (wsr (Pt b684 0) 3 z z z (by kernel_rfl) (fun w hst => x_field z underlying201 z sizeOf199 z) (wsr (v887) 4 z z z (by kernel_rfl) (fun w hst => x_load z isAgg199 (hst.bc0 z)) (wsr (.int .i64 ((o0.rows).length : Int)) 5 z z z (by kernel_rfl) (fun w hst => x_len z underlying199 (hst.nestsv 1 z)) (wsr (.bool (decide (z876 < ((o0.rows).length : Int)))) 6 z z z (by kernel_rfl) (fun w hst => z) (wsr (.bool (decide (z876 < ((o0.rows).length : Int)))) 7 z z z (by kernel_rfl) (fun w hst => z) ?_)))))))
 refine bsplit (decide (z876 < ((o0.rows).length : Int))) (fun hc890 => ?_) (fun hc890 => ?_)
 {
 replace hm := bif_t hc890 hm
 refine ws_q (v := Pt b684 0) 8 [9, 10, 11, 12, 13, 14, 15, 16, 17, 18, 19, 20, 21, 22, 23, 24, 25] (by kernel_rfl) z z (yi_run ((wanted_eq z z z (cvb hc890)).trans z) (fun w hst => z)) (ws_q (v := Pt b684 0) 9 [10, 11, 12, 13, 14, 15, 16, 17, 18, 19, 20, 21, 22, 23, 24, 25] (by kernel_rfl) z z (yi_run ((wanted_eq z z z (cvb hc890)).trans z) (fun w hst => z)) (ws_q (v := Pt b684 0) 10 [11, 12, 13, 14, 15, 16, 17, 18, 19, 20, 21, 22, 23, 24, 25] (by kernel_rfl) z z (yi_run ((wanted_eq z z z (cvb hc890)).trans z) (fun w hst => x_field z underlying201 z sizeOf199 z)) (ws_q (v := v887) 11 [12, 13, 14, 15, 16, 17, 18, 19, 20, 21, 22, 23, 24, 25] (by kernel_rfl) z z (yi_run ((wanted_eq z z z (cvb hc890)).trans z) (fun w hst => x_load z isAgg199 (hst.bc0 z))) (ws_q (v := .int .i64 z876) 12 [13, 14, 15, 16, 17, 18, 19, 20, 21, 22, 23, 24, 25] (by kernel_rfl) z z (yi_run ((wanted_eq z z z (cvb hc890)).trans z) (fun w hst => z)) ?_))))
 obtain ⟨x891, hx892, hm⟩ := bind_some hm
 obtain ⟨h893, h894, hi895⟩ := geto_some hx892
 refine ws_q (v := .pointer (some (eAddr v887 (z876.toNat * 2 + 0)))) 13 [14, 15, 16, 17, 18, 19, 20, 21, 22, 23, 24, 25] (by kernel_rfl) z z (yi_run ((wanted_eq z z z (cvb hc890)).trans z) (fun w hst => x_index z z underlying199 sizeOf240 (hst.nestsv 1 z) h893 h894)) (ws_q (v := .pointer (some (eAddr v887 (z876.toNat * 2 + 0)))) 14 [15, 16, 17, 18, 19, 20, 21, 22, 23, 24, 25] (by kernel_rfl) z z (yi_run ((wanted_eq z z z (cvb hc890)).trans z) (fun w hst => x_field_e z underlying240 z sizeOf26 z)) (ws_q (v := .int .u64 x891.rank) 15 [16, 17, 18, 19, 20, 21, 22, 23, 24, 25] (by kernel_rfl) z z (yi_run ((wanted_eq z z z (cvb hc890)).trans z) (fun w hst => x_load z isAgg26 (hst.nestc (N := nest_mvcc_row) (i := z876.toNat) (o := 0) 1 z hi895 (fun _ => z)))) (ws_q (v := .float .f64 a2) 16 [17, 18, 19, 20, 21, 22, 23, 24, 25] (by kernel_rfl) z z (yi_run ((wanted_eq z z z (cvb hc890)).trans z) (fun w hst => z)) ?_)))
 refine ws_e1 17 (by kernel_rfl) ?_
 refine nxe [18, 19, 20, 21, 22, 23, 24, 25] (by kernel_rfl) z ((wanted_eq z z z (cvb hc890)).trans z) ?_
 clear hst
 intro w hst
 obtain ⟨t896, ht897, hm⟩ := bind_some hm
 refine wec call118 [F6 a2] z z ?_
 refine (number_Rank_ref hst.to0 ht897).mono ?_
 rintro _ w898 ⟨rfl, hst⟩
 refine ⟨_, z, ?_⟩
 replace hst := hst.of0
 refine ws_next (pend' := [(15, U6 x891.rank), (14, .pointer (some (eAddr v887 (z876.toNat * 2 + 0)))), (13, .pointer (some (eAddr v887 (z876.toNat * 2 + 0)))), (12, I6 z876), (11, v887), (10, Pt b684 0), (9, Pt b684 0), (8, Pt b684 0)]) hst (by kernel_rfl) (pk_cons z (yi_run ((wanted_eq z z z (cvb hc890)).trans z) (fun w hst => x_load z isAgg26 (hst.nestc (N := nest_mvcc_row) (i := z876.toNat) (o := 0) 1 z hi895 (fun _ => z)))) (pk_cons z (yi_run ((wanted_eq z z z (cvb hc890)).trans z) (fun w hst => x_field_e z underlying240 z sizeOf26 z)) (pk_cons z (yi_run ((wanted_eq z z z (cvb hc890)).trans z) (fun w hst => x_index z z underlying199 sizeOf240 (hst.nestsv 1 z) h893 h894)) (pk_cons z (yi_run ((wanted_eq z z z (cvb hc890)).trans z) (fun w hst => z)) (pk_cons z (yi_run ((wanted_eq z z z (cvb hc890)).trans z) (fun w hst => x_load z isAgg199 (hst.bc0 z))) (pk_cons z (yi_run ((wanted_eq z z z (cvb hc890)).trans z) (fun w hst => x_field z underlying201 z sizeOf199 z)) (pk_cons z (yi_run ((wanted_eq z z z (cvb hc890)).trans z) (fun w hst => z)) (pk_cons z (yi_run ((wanted_eq z z z (cvb hc890)).trans z) (fun w hst => z)) pk_nil)))))))) ?_
 refine ws_q (v := .bool (decide (x891.rank ≤ t896))) 18 [19, 20, 21, 22, 23, 24, 25] (by kernel_rfl) z z (yi_run ((wanted_eq z z z (cvb hc890)).trans z) (fun w hst => z)) (wsr (.bool (decide (x891.rank ≤ t896))) 19 z z z (by kernel_rfl) (fun w hst => x_pick_t hc890 z z) (wsr (.bool (decide (x891.rank ≤ t896))) 20 z z z (by kernel_rfl) (fun w hst => z) ?_))
 refine bsplit (decide (x891.rank ≤ t896)) (fun hc901 => ?_) (fun hc901 => ?_)
 {
 replace hm := bif_t hc901 hm
 refine ws_q (v := v874) 21 [22, 23, 24, 25] (by kernel_rfl) z z (yi_run ((wanted_eq z z z (cvb hc901)).trans z) (fun w hst => z)) (ws_q (v := .int .i64 ((z873).length : Int)) 22 [23, 24, 25] (by kernel_rfl) z z (yi_run ((wanted_eq z z z (cvb hc901)).trans z) (fun w hst => x_len z underlying81 hst.sv2)) (ws_q (v := .int .i64 a4) 23 [24, 25] (by kernel_rfl) z z (yi_run ((wanted_eq z z z (cvb hc901)).trans z) (fun w hst => z)) (ws_q (v := .bool (decide (((z873).length : Int) < a4))) 24 [25] (by kernel_rfl) z z (yi_run ((wanted_eq z z z (cvb hc901)).trans z) (fun w hst => z)) (wsr (.bool (decide (((z873).length : Int) < a4))) 25 z z z (by kernel_rfl) (fun w hst => x_pick_t hc901 z z) ?_))))
 refine ws_nil ?_
 intro w hst
 refine tn ?_
 refine bsplit (decide (((z873).length : Int) < a4)) (fun hc902 => ?_) (fun hc902 => ?_)
 {
 replace hm := bif_t hc902 hm
 refine wp_ift (cvb hc902) ?_
 refine wp_skip (tn (wp_seq (wp_block (wp_seq (wrl ?_)))))
 refine wv (Pt b684 0) z z z (wv (Pt b684 0) z z z (wv (Pt b684 0) z z (x_field z underlying201 z sizeOf199 z) (wv (v887) z z (x_load z isAgg199 (hst.bc0 z)) (wv (.int .i64 z876) z z z (wv (.pointer (some (eAddr v887 (z876.toNat * 2 + 0)))) z z (x_index z z underlying199 sizeOf240 (hst.nestsv 1 z) h893 h894) (wv (.pointer (some (eAddr v887 (z876.toNat * 2 + 1)))) z z (x_field_e z underlying240 z sizeOf238 z) ?_))))))
 replace hst := hst.pull1
 obtain ⟨v903, hst⟩ := hst.nest_focus hi895
 refine wv (v903) z z (x_load z isAgg238 ((hst.holeall (N := nest_mvcc_row) (i := z876.toNat) 1 z hi895) 1 _ z)) (wv (.int .u64 a3) z z z ?_)
 obtain ⟨css905, hq906, hst⟩ := hst.own_open
 obtain ⟨t907, ht908, hm⟩ := bind_some hm
 refine wc call147 [v903, U6 a3] z z z ?_
 refine (mvcc_read_ref (hst.rdrow0 hq906) hst.to0 ht908).mono ?_
 rintro _ w909 ⟨v912, rfl, hst⟩
 refine ⟨_, z, ?_⟩
 replace hst := hst.of1.pull1.own_close hq906
 obtain ⟨b915, w916, ew917, eb918, hst⟩ := hst.box [.bool false, Zs] 61
 refine wl_run (v := Pt b915 0) (w' := w916) z z (x_al (by kernel_rfl) ew917 eb918) ?_
 obtain ⟨w920, hr921, hst⟩ := hst.bx [.bool t907.Has, v912] sizeOf61 z (oC z (oC (one_of_sliceV hst.sv2) oN)) (by kernel_rfl)
 refine wl_unit z z (x_unit hr921) ?_
 refine wl_nil (tn (wp_seq (wrl (wv (Pt b915 0) z z (x_field z underlying61 z sizeOf4 z) (wv (.bool t907.Has) z z (x_load z isAgg4 (hst.bc0 z)) (wl_nil (tn ?_)))))))
 refine bsplit t907.Has (fun hc922 => ?_) (fun hc922 => ?_)
 {
 replace hm := bif_t hc922 hm
 refine wp_ift (cvb hc922) ?_
 refine wp_region_St hst 16 [0, 1, 2, 3, 4, 5, 6, 7, 8, 9, 10, 11, 12, 13, 14, 15] [0, 0, 2, 6, 14, 0, 62, 126, 254, 510, 0, 1024, 4094, 8190, 16383, 32767] [15] z (by kernel_rfl) (by kernel_rfl) Tryz.mixed (by kernel_rfl) ?_
 refine wsr (v874) 0 z z z (by kernel_rfl) (fun w hst => z) (wsr (Pt b684 0) 1 z z z (by kernel_rfl) (fun w hst => z) (wsr (Pt b684 0) 2 z z z (by kernel_rfl) (fun w hst => z) (wsr (Pt b684 0) 3 z z z (by kernel_rfl) (fun w hst => x_field z underlying201 z sizeOf199 z) (wsr (v887) 4 z z z (by kernel_rfl) (fun w hst => x_load z isAgg199 (hst.bc4 z)) (wsr (.int .i64 z876) 5 z z z (by kernel_rfl) (fun w hst => z) (wsr (.pointer (some (eAddr v887 (z876.toNat * 2 + 0)))) 6 z z z (by kernel_rfl) (fun w hst => x_index z z underlying199 sizeOf240 (hst.holesv 3 z) h893 h894) (wsr (.pointer (some (eAddr v887 (z876.toNat * 2 + 0)))) 7 z z z (by kernel_rfl) (fun w hst => x_field_e z underlying240 z sizeOf26 z) (wsr (.int .u64 x891.rank) 8 z z z (by kernel_rfl) (fun w hst => x_load z isAgg26 (hst.holec (N := nest_mvcc_row) (i := z876.toNat) (o := 0) 3 z hi895 (fun _ => z))) (wsr (Pt b915 1) 10 z z z (by kernel_rfl) (fun w hst => x_field z underlying61 z sizeOf22 z) (wsr (v912) 11 z z z (by kernel_rfl) (fun w hst => x_load z isAgg22 (hst.bc0 z)) ?_))))))))))
 refine ws_e1 9 (by kernel_rfl) ?_
 refine nxe [12, 13, 14, 15] (by kernel_rfl) z z ?_
 clear hst
 intro w hst
 obtain ⟨t923, ht924, hm⟩ := bind_some hm
 refine wec call107 [U6 x891.rank] z z ?_
 refine (number_Back_ref hst.to0 ht924).mono ?_
 rintro _ w925 ⟨rfl, hst⟩
 refine ⟨_, z, ?_⟩
 replace hst := hst.of0
 refine ws_next (pend' := [(11, v912), (10, Pt b915 1), (0, v874)]) hst (by kernel_rfl) (pkr z z (fun w hst => x_load z isAgg22 (hst.bc0 z)) (pkr z z (fun w hst => x_field z underlying61 z sizeOf22 z) (pkr z z (fun w hst => z) pk_nil))) ?_
 refine wsr (.agg #[F6 t923, v912]) 12 rfl rfl rfl (by kernel_rfl) (fun w hst => by obtain ⟨_, _, hv_, _⟩ := hst.sv2; rw [hv_]; kernel_rfl) ?_
 refine ws_e1 13 (by kernel_rfl) ?_
 refine nxe [14, 15] (by kernel_rfl) z z ?_
 clear hst
 intro w hst
 replace hst := hst.pull2
 obtain ⟨I930, hI931, f932, hst⟩ := hst.own_fix
 replace hI0 := hI0.trans hI931
 replace hL881 := hL881.trans hI931
 obtain ⟨b933, w934, ew935, eb936, hst⟩ := hst.lits (E := ty_api_Pair) (xs := [({ At := t923, Val := t907.Val } : api_Pair)]) [[F6 t923, v912]] 152 1 z (Reps.cons ⟨_, z, f932, one_of_sliceV (ro_sliceV f932)⟩ Reps.nil)
 refine we_run (v := (.slice (some ⟨b933, 0, none⟩) 1 1)) (w' := w934) z (x_als (by kernel_rfl) ew935 eb936) ?_
 refine ws_next (pend' := [(0, v874)]) hst (by kernel_rfl) (pkr z z (fun w hst => z) pk_nil) ?_
 refine ws_e1 14 (by kernel_rfl) ?_
 refine nxe [15] (by kernel_rfl) z z ?_
 clear hst
 intro w hst
 obtain ⟨hg938, hm⟩ := gd_some hm
 replace hst := hst.pull5
 obtain ⟨v939, w940, hr941, hst⟩ := run_append elem_81 underlying81 hst hst.src1 (room_of hg938 z) 81
 refine we_run (v := v939) (w' := w940) z (x_append z z hr941) ?_
 refine ws_next (pend' := []) hst (by kernel_rfl) pk_nil ?_
 refine ws_e1 15 (by kernel_rfl) ?_
 refine nxe [] (by kernel_rfl) z z ?_
 clear hst
 intro w hst
 refine we_run (v := v939) (w' := w) z z ?_
 refine ws_next (pend' := []) hst (by kernel_rfl) pk_nil ?_
 refine ws_nil ?_
 intro w hst
 refine blk_n (tn (wrl ?_))
 refine wv (.int .i64 z876) z z z (wv (.int .i64 (i64.wrap (z876 + (1:Int)))) z z z (wv (.int .i64 (i64.wrap (z876 + (1:Int)))) z z z (wl_nil (tn ?_))))
 replace hst := hst.pull4.pull4
 replace hst := St.nest_close0 (N := nest_mvcc_row) hst hi895
 replace hst := hst.pull4
 replace hst := at_mvcc_Store_close (pv := Pt b684 0) (x := o0) hst z
 replace hst := hst.pull1.keep2
 obtain rfl := some_inj hm
 exact ⟨_, Nat.lt_succ_self _, _, (z873 ++ ([({ At := t923, Val := t907.Val } : api_Pair)])), (i64.wrap (z876 + (1:Int))), v939, _, hx884, (fu 0 (Pt b684 0) z (fu 2 (.float .f64 a2) z (fu 3 (.int .u64 a3) z (fu 4 (.int .i64 a4) z (fu 11 v939 z (fu 12 (.int .i64 (i64.wrap (z876 + (1:Int)))) z z)))))), hL881, hst⟩
}
 {
 replace hm := bif_f hc922 hm
 refine wp_iff (cvb hc922) ?_
 refine wp_skip (blk_n (tn (wrl ?_)))
 refine wv (.int .i64 z876) z z z (wv (.int .i64 (i64.wrap (z876 + (1:Int)))) z z z (wv (.int .i64 (i64.wrap (z876 + (1:Int)))) z z z (wl_nil (tn ?_))))
 replace hst := hst.pull3.pull2
 replace hst := St.nest_close0 (N := nest_mvcc_row) hst hi895
 replace hst := hst.pull3
 replace hst := at_mvcc_Store_close (pv := Pt b684 0) (x := o0) hst z
 replace hst := hst.pull3.keep2
 obtain rfl := some_inj hm
 exact ⟨_, Nat.lt_succ_self _, _, z873, (i64.wrap (z876 + (1:Int))), v874, _, hx884, (fu 0 (Pt b684 0) z (fu 2 (.float .f64 a2) z (fu 3 (.int .u64 a3) z (fu 4 (.int .i64 a4) z (fu 11 v874 z (fu 12 (.int .i64 (i64.wrap (z876 + (1:Int)))) z z)))))), hL881, hst⟩
}
}
 {
 replace hm := bif_f hc902 hm
 refine wp_iff (cvb hc902) ?_
 refine wp_exit (then_x (then_x ?_))
 replace hm := inr_up hm hx884
 refine blk_x (tn (wp_seq (wrl ?_)))
 refine wv (v874) z z z (wv (v874) z z z (wl_nil (tn (wp_ret ?_))))
 replace hst := hst.pull1.pull1
 replace hst := at_mvcc_Store_close (pv := Pt b684 0) (x := o0) hst z
 replace hst := objO_some hst
 obtain rfl := some_inj hm
 refine post_ret (vs := [v874]) results77 (rvs_cons (rv_tmp z) rvs_nil) ?_
 replace hst := hst.pull1
 exact ⟨_, v874, z, hI0, hst.keep2⟩
}
}
 {
 replace hm := bif_f hc901 hm
 refine ws_q (v := undef) 21 [22, 23, 24, 25] (by kernel_rfl) z z (yi_off ((wanted_eq z z z (cvb hc901)).trans z)) (ws_q (v := undef) 22 [23, 24, 25] (by kernel_rfl) z z (yi_off ((wanted_eq z z z (cvb hc901)).trans z)) (ws_q (v := undef) 23 [24, 25] (by kernel_rfl) z z (yi_off ((wanted_eq z z z (cvb hc901)).trans z)) (ws_q (v := undef) 24 [25] (by kernel_rfl) z z (yi_off ((wanted_eq z z z (cvb hc901)).trans z)) (wsr (.bool false) 25 z z z (by kernel_rfl) (fun w hst => x_pick_f hc901 z z) ?_))))
 refine ws_nil ?_
 intro w hst
 refine tn ?_
 refine wp_iff z ?_
 refine wp_exit (then_x (then_x ?_))
 replace hm := inr_up hm hx884
 refine blk_x (tn (wp_seq (wrl ?_)))
 refine wv (v874) z z z (wv (v874) z z z (wl_nil (tn (wp_ret ?_))))
 replace hst := hst.pull1.pull1
 replace hst := at_mvcc_Store_close (pv := Pt b684 0) (x := o0) hst z
 replace hst := objO_some hst
 obtain rfl := some_inj hm
 refine post_ret (vs := [v874]) results77 (rvs_cons (rv_tmp z) rvs_nil) ?_
 replace hst := hst.pull1
 exact ⟨_, v874, z, hI0, hst.keep2⟩
}
}
 {
 replace hm := bif_f hc890 hm
 refine ws_q (v := undef) 8 [9, 10, 11, 12, 13, 14, 15, 16, 17, 18, 19, 20, 21, 22, 23, 24, 25] (by kernel_rfl) z z (yi_off ((wanted_eq z z z (cvb hc890)).trans z)) (ws_q (v := undef) 9 [10, 11, 12, 13, 14, 15, 16, 17, 18, 19, 20, 21, 22, 23, 24, 25] (by kernel_rfl) z z (yi_off ((wanted_eq z z z (cvb hc890)).trans z)) (ws_q (v := undef) 10 [11, 12, 13, 14, 15, 16, 17, 18, 19, 20, 21, 22, 23, 24, 25] (by kernel_rfl) z z (yi_off ((wanted_eq z z z (cvb hc890)).trans z)) (ws_q (v := undef) 11 [12, 13, 14, 15, 16, 17, 18, 19, 20, 21, 22, 23, 24, 25] (by kernel_rfl) z z (yi_off ((wanted_eq z z z (cvb hc890)).trans z)) (ws_q (v := undef) 12 [13, 14, 15, 16, 17, 18, 19, 20, 21, 22, 23, 24, 25] (by kernel_rfl) z z (yi_off ((wanted_eq z z z (cvb hc890)).trans z)) (ws_q (v := undef) 13 [14, 15, 16, 17, 18, 19, 20, 21, 22, 23, 24, 25] (by kernel_rfl) z z (yi_off ((wanted_eq z z z (cvb hc890)).trans z)) (ws_q (v := undef) 14 [15, 16, 17, 18, 19, 20, 21, 22, 23, 24, 25] (by kernel_rfl) z z (yi_off ((wanted_eq z z z (cvb hc890)).trans z)) (ws_q (v := undef) 15 [16, 17, 18, 19, 20, 21, 22, 23, 24, 25] (by kernel_rfl) z z (yi_off ((wanted_eq z z z (cvb hc890)).trans z)) (ws_q (v := undef) 16 [17, 18, 19, 20, 21, 22, 23, 24, 25] (by kernel_rfl) z z (yi_off ((wanted_eq z z z (cvb hc890)).trans z)) (ws_q (v := undef) 17 [18, 19, 20, 21, 22, 23, 24, 25] (by kernel_rfl) z z (yi_off ((wanted_eq z z z (cvb hc890)).trans z)) (ws_q (v := undef) 18 [19, 20, 21, 22, 23, 24, 25] (by kernel_rfl) z z (yi_off ((wanted_eq z z z (cvb hc890)).trans z)) (wsr (.bool false) 19 z z z (by kernel_rfl) (fun w hst => x_pick_f hc890 z z) (wsr (.bool false) 20 z z z (by kernel_rfl) (fun w hst => z) ?_))))))))))))
 refine ws_q (v := undef) 21 [22, 23, 24, 25] (by kernel_rfl) z z (yi_off ((wanted_eq z z z z).trans z)) (ws_q (v := undef) 22 [23, 24, 25] (by kernel_rfl) z z (yi_off ((wanted_eq z z z z).trans z)) (ws_q (v := undef) 23 [24, 25] (by kernel_rfl) z z (yi_off ((wanted_eq z z z z).trans z)) (ws_q (v := undef) 24 [25] (by kernel_rfl) z z (yi_off ((wanted_eq z z z z).trans z)) (wsr (.bool false) 25 z z z (by kernel_rfl) (fun w hst => x_pick_f z z z) ?_))))
 refine ws_nil ?_
 intro w hst
 refine tn ?_
 refine wp_iff z ?_
 refine wp_exit (then_x (then_x ?_))
 replace hm := inr_up hm hx884
 refine blk_x (tn (wp_seq (wrl ?_)))
 refine wv (v874) z z z (wv (v874) z z z (wl_nil (tn (wp_ret ?_))))
 replace hst := hst.pull1.pull1
 replace hst := at_mvcc_Store_close (pv := Pt b684 0) (x := o0) hst z
 replace hst := objO_some hst
 obtain rfl := some_inj hm
 refine post_ret (vs := [v874]) results77 (rvs_cons (rv_tmp z) rvs_nil) ?_
 replace hst := hst.pull1
 exact ⟨_, v874, z, hI0, hst.keep2⟩
}
}
}

end Go.Proofs.YtgnkkopjkgdieaaGreat
