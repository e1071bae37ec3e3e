/- The Go functions refine their models, part 1. -/
import Derived.Test.YtgnkkopjkgdieaaGreatLaneReadsR0
set_option linter.unusedVariables false
set_option linter.unusedSimpArgs false
set_option maxRecDepth 100000
set_option maxHeartbeats 4000000
namespace Go.Proofs.YtgnkkopjkgdieaaGreat
open Go Go.V
open _root_.Go.Proofs.Tryz IntKind
attribute [local irreducible] wpList Code.wp wpQuiet Calls bodyPost Oper.wp wpS Nx PendOK YieldsIn
theorem locks_Meet_ref {w0 w : World} {I : HL} {R : SP} {a0 : api_Hold} {r0_0 : Value} {r0_1 : Value} {r0_2 : Value} {r0_3 : Value} {a1 : api_Hold} {r1_0 : Value} {r1_1 : Value} {r1_2 : Value} {r1_3 : Value} (f0_0 : Rd tyF64 R I r0_0 a0.Gets) (f0_1 : Rd tyF2 R I r0_1 a0.Scans) (f0_2 : Rd tyF64 R I r0_2 a0.Puts) (f0_3 : Rd (tyInt .u8) R I r0_3 a0.Data) (f1_0 : Rd tyF64 R I r1_0 a1.Gets) (f1_1 : Rd tyF2 R I r1_1 a1.Scans) (f1_2 : Rd tyF64 R I r1_2 a1.Puts) (f1_3 : Rd (tyInt .u8) R I r1_3 a1.Data) (hst : St w0 w I [] R) {r : (Bool)} (hm : locks_Meet a0 a1 = some r) :
  Calls prog 140 #[.agg #[U6 a0.ID.Session, U6 a0.ID.Seq, U6 a0.Epoch, r0_0, r0_1, r0_2, r0_3], .agg #[U6 a1.ID.Session, U6 a1.ID.Seq, U6 a1.Epoch, r1_0, r1_1, r1_2, r1_3]] w fun e w' => e = .returned (.bool r) ∧ St w0 w' I [] R := by {
 unfold locks_Meet at hm
 refine calls_start (args := [.agg #[U6 a0.ID.Session, U6 a0.ID.Seq, U6 a0.Epoch, r0_0, r0_1, r0_2, r0_3], .agg #[U6 a1.ID.Session, U6 a1.ID.Seq, U6 a1.Epoch, r1_0, r1_1, r1_2, r1_3]]) func140 z ntmps140 (Nat.le_of_ble_eq_true z) ?_
 refine wp_seq (wrl ?_)
 obtain ⟨b470, w471, ew472, eb473, hst⟩ := hst.box [U6 a0.ID.Session, U6 a0.ID.Seq, U6 a0.Epoch, r0_0, r0_1, r0_2, r0_3] 46
 refine wl_run (v := Pt b470 0) (w' := w471) z z (x_al (by kernel_rfl) ew472 eb473) ?_
 obtain ⟨b475, w476, ew477, eb478, hst⟩ := hst.box [U6 a1.ID.Session, U6 a1.ID.Seq, U6 a1.Epoch, r1_0, r1_1, r1_2, r1_3] 46
 refine wl_run (v := Pt b475 0) (w' := w476) z z (x_al (by kernel_rfl) ew477 eb478) ?_
 refine wv (.bool false) z z z (wl_nil (tn ?_))
 obtain ⟨y546, hm, hx547⟩ := joinO_some hm
 refine wp_cut (fun a w => ∃ (σ544 : Nat → Value), (locks_Meet_j0 a1 a0) () = some r ∧ a = Fr 37 (upd (upd σ544 2 (Pt b470 0)) 3 (Pt b475 0)) ∧ St w0 w I [cells b470 [U6 a0.ID.Session, U6 a0.ID.Seq, U6 a0.Epoch, r0_0, r0_1, r0_2, r0_3], cells b475 [U6 a1.ID.Session, U6 a1.ID.Seq, U6 a1.Epoch, r1_0, r1_1, r1_2, r1_3]] R) ?_ ?_
 {
 refine wp_seq (wrl (wv (Pt b470 5) z z (x_field z underlying46 z sizeOf43 z) (wv (r0_2) z z (x_load z isAgg43 (hst.bc1 z)) (wv (.int .i64 ((a0.Puts).length : Int)) z z (x_len z underlying43 (rd_sliceV f0_2)) (wv (.int .i64 (0:Int)) z z z (wl_nil (tn (wp_block ?_))))))))
 obtain ⟨n519, hm⟩ := loopO_some hm
 refine wp_loop_n (fun n a w => ∃ (z517 : Int) (σ518 : Nat → Value), loopN (locks_Meet_l1 a0 a1) n z517 = some y546 ∧ a = Fr 37 (upd (upd (upd (upd (upd σ518 2 (Pt b470 0)) 3 (Pt b475 0)) 10 (r0_2)) 11 (.int .i64 ((a0.Puts).length : Int))) 12 (.int .i64 z517)) ∧ St w0 w I [cells b475 [U6 a1.ID.Session, U6 a1.ID.Seq, U6 a1.Epoch, r1_0, r1_1, r1_2, r1_3], cells b470 [U6 a0.ID.Session, U6 a0.ID.Seq, U6 a0.Epoch, r0_0, r0_1, r0_2, r0_3]] R) n519 ⟨(0:Int), _, hm, (fu 2 (Pt b470 0) z (fu 3 (Pt b475 0) z (fu 10 r0_2 z (fu 11 (.int .i64 ((a0.Puts).length : Int)) z (fu 12 (.int .i64 (0:Int)) z z))))), hst⟩ ?_
 rintro n525 _ w520 ⟨z517, σ518, hm, rfl, hst⟩
 obtain ⟨n522, y523, rfl, hm, hx524⟩ := loopN_some hm
 dsimp only [locks_Meet_l1] at hm
 refine wp_seq (wrl (wv (.bool (decide (z517 < ((a0.Puts).length : Int)))) z z z (wl_nil (tn (wp_seq ?_)))))
 refine bsplit (decide (z517 < ((a0.Puts).length : Int))) (fun hc526 => ?_) (fun hc526 => ?_)
 {
 replace hm := bif_t hc526 hm
 refine wp_ift (cvb hc526) ?_
 refine wp_skip (tn (wp_seq (wp_block (wp_seq (wrl ?_)))))
 obtain ⟨x527, hx528, hm⟩ := bind_some hm
 obtain ⟨h529, h530, hi531⟩ := geto_some hx528
 refine wv (.pointer (some (eAddr r0_2 (z517.toNat * 1 + 0)))) z z (x_index z z underlying43 sizeOf37 (rd_sliceV f0_2) h529 h530) (wv (.float .f64 x527) z z (x_load z isAgg37 (rd_load f0_2 (HL.le.refl _) hst hi531 (by rintro _ rfl; rfl))) (wv (.float .f64 x527) z z z (wl_nil (tn (wp_seq (wrl (wv (.agg #[U6 a1.ID.Session, U6 a1.ID.Seq, U6 a1.Epoch, r1_0, r1_1, r1_2, r1_3]) z z (x_loadN (cs := [U6 a1.ID.Session, U6 a1.ID.Seq, U6 a1.Epoch, r1_0, r1_1, r1_2, r1_3]) z isAgg46 sizeOf46 (hst.bcs0 0 z)) (wv (.float .f64 x527) z z z (wv (.float .f64 x527) z z z ?_)))))))))
 obtain ⟨t532, ht533, hm⟩ := bind_some hm
 refine wc call194 [.agg #[U6 a1.ID.Session, U6 a1.ID.Seq, U6 a1.Epoch, r1_0, r1_1, r1_2, r1_3], F6 x527, F6 x527] z z z ?_
 refine (locks_writes_ref (f1_0.mono (rd_weak _)) (f1_1.mono (rd_weak _)) (f1_2.mono (rd_weak _)) (f1_3.mono (rd_weak _)) hst.to0 ht533).mono ?_
 rintro _ w534 ⟨rfl, hst⟩
 refine ⟨_, z, ?_⟩
 replace hst := hst.of0
 refine wv (.bool t532) z z z ?_
 refine bsplit t532 (fun hc537 => ?_) (fun hc537 => ?_)
 {
 replace hm := bif_t hc537 hm
 refine wo hc537 z z z z z z (wo hc537 z z z z z z (wo hc537 z z z z z z (wv (.bool true) z z (x_pick_t hc537 z z) (wl_nil (tn ?_)))))
 refine wp_ift z ?_
 refine wp_seq (wrl (wv (.bool true) z z z (wl_nil (tn (wp_ret (blk_r (then_r (then_r ?_))))))))
 replace hm := inr_up hm hx524
 refine blk_r (then_r ?_)
 replace hm := inr_up hm hx547
 obtain rfl := some_inj hm
 refine post_ret (vs := [.bool true]) results140 (rvs_cons (rv_tmp z) rvs_nil) ?_
 exact ⟨z, hst.keep0⟩
}
 {
 replace hm := bif_f hc537 hm
 refine wv (.agg #[U6 a1.ID.Session, U6 a1.ID.Seq, U6 a1.Epoch, r1_0, r1_1, r1_2, r1_3]) ((wanted_eq z z z (cvb hc537)).trans z) z (x_loadN (cs := [U6 a1.ID.Session, U6 a1.ID.Seq, U6 a1.Epoch, r1_0, r1_1, r1_2, r1_3]) z isAgg46 sizeOf46 (hst.bcs0 0 z)) (wv (.float .f64 x527) ((wanted_eq z z z (cvb hc537)).trans z) z z ?_)
 obtain ⟨t538, ht539, hm⟩ := bind_some hm
 refine wl_call ((wanted_eq z z z (cvb hc537)).trans z) z (x_call call195 z (vs := [.agg #[U6 a1.ID.Session, U6 a1.ID.Seq, U6 a1.Epoch, r1_0, r1_1, r1_2, r1_3], F6 x527]) z) ?_
 refine (locks_reads_ref (f1_0.mono (rd_weak _)) (f1_1.mono (rd_weak _)) (f1_2.mono (rd_weak _)) (f1_3.mono (rd_weak _)) hst.to0 ht539).mono ?_
 rintro _ w540 ⟨rfl, hst⟩
 refine ⟨_, z, ?_⟩
 replace hst := hst.of0
 refine wv (.bool t538) z z (x_pick_f hc537 z z) (wl_nil (tn ?_))
 refine bsplit t538 (fun hc543 => ?_) (fun hc543 => ?_)
 {
 replace hm := bif_t hc543 hm
 refine wp_ift (cvb hc543) ?_
 refine wp_seq (wrl (wv (.bool true) z z z (wl_nil (tn (wp_ret (blk_r (then_r (then_r ?_))))))))
 replace hm := inr_up hm hx524
 refine blk_r (then_r ?_)
 replace hm := inr_up hm hx547
 obtain rfl := some_inj hm
 refine post_ret (vs := [.bool true]) results140 (rvs_cons (rv_tmp z) rvs_nil) ?_
 exact ⟨z, hst.keep0⟩
}
 {
 replace hm := bif_f hc543 hm
 refine wp_iff (cvb hc543) ?_
 refine wp_skip (blk_n (tn (wrl ?_)))
 refine wv (.int .i64 (i64.wrap (z517 + (1:Int)))) z z z (wv (.int .i64 (i64.wrap (z517 + (1:Int)))) z z z (wl_nil (tn ?_)))
 replace hst := hst.pull1.pull1.keep2
 obtain rfl := some_inj hm
 exact ⟨_, Nat.lt_succ_self _, (i64.wrap (z517 + (1:Int))), _, hx524, (fu 2 (Pt b470 0) z (fu 3 (Pt b475 0) z (fu 10 r0_2 z (fu 11 (.int .i64 ((a0.Puts).length : Int)) z (fu 12 (.int .i64 (i64.wrap (z517 + (1:Int)))) z z))))), hst⟩
}
}
}
 {
 replace hm := bif_f hc526 hm
 refine wp_iff (cvb hc526) ?_
 refine wp_exit (then_x (then_x ?_))
 replace hm := inr_up hm hx524
 refine blk_x (tn ?_)
 replace hst := hst.pull1.keep2
 obtain rfl := some_inj hm
 exact ⟨_, hx547, (fu 2 (Pt b470 0) z (fu 3 (Pt b475 0) z z)), hst⟩
}
}
 {
 clear hst
 rintro _ w548 ⟨σ544, hm, rfl, hst⟩
 dsimp only [locks_Meet_j0] at hm
 refine wp_seq (wp_seq (wrl (wv (Pt b475 5) z z (x_field z underlying46 z sizeOf43 z) (wv (r1_2) z z (x_load z isAgg43 (hst.bc1 z)) (wv (.int .i64 ((a1.Puts).length : Int)) z z (x_len z underlying43 (rd_sliceV f1_2)) (wv (.int .i64 (0:Int)) z z z (wl_nil (tn (wp_block ?_)))))))))
 replace hst := hst.pull1.sub
 obtain ⟨n576, hm⟩ := loopO_some hm
 refine wp_loop_n (fun n a w => ∃ (z574 : Int) (σ575 : Nat → Value), loopN (locks_Meet_l2 a1 a0) n z574 = some r ∧ a = Fr 37 (upd (upd (upd (upd σ575 2 (Pt b470 0)) 27 (r1_2)) 28 (.int .i64 ((a1.Puts).length : Int))) 29 (.int .i64 z574)) ∧ St w0 w I [cells b470 [U6 a0.ID.Session, U6 a0.ID.Seq, U6 a0.Epoch, r0_0, r0_1, r0_2, r0_3]] R) n576 ⟨(0:Int), _, hm, (fu 2 (Pt b470 0) z (fu 27 r1_2 z (fu 28 (.int .i64 ((a1.Puts).length : Int)) z (fu 29 (.int .i64 (0:Int)) z z)))), hst⟩ ?_
 rintro n582 _ w577 ⟨z574, σ575, hm, rfl, hst⟩
 obtain ⟨n579, y580, rfl, hm, hx581⟩ := loopN_some hm
 dsimp only [locks_Meet_l2] at hm
 refine wp_seq (wrl (wv (.bool (decide (z574 < ((a1.Puts).length : Int)))) z z z (wl_nil (tn (wp_seq ?_)))))
 refine bsplit (decide (z574 < ((a1.Puts).length : Int))) (fun hc583 => ?_) (fun hc583 => ?_)
 {
 replace hm := bif_t hc583 hm
 refine wp_ift (cvb hc583) ?_
 refine wp_skip (tn (wp_seq (wp_block (wp_seq (wrl ?_)))))
 obtain ⟨x584, hx585, hm⟩ := bind_some hm
 obtain ⟨h586, h587, hi588⟩ := geto_some hx585
 refine wv (.pointer (some (eAddr r1_2 (z574.toNat * 1 + 0)))) z z (x_index z z underlying43 sizeOf37 (rd_sliceV f1_2) h586 h587) (wv (.float .f64 x584) z z (x_load z isAgg37 (rd_load f1_2 (HL.le.refl _) hst hi588 (by rintro _ rfl; rfl))) (wv (.float .f64 x584) z z z (wl_nil (tn (wp_seq (wrl (wv (.agg #[U6 a0.ID.Session, U6 a0.ID.Seq, U6 a0.Epoch, r0_0, r0_1, r0_2, r0_3]) z z (x_loadN (cs := [U6 a0.ID.Session, U6 a0.ID.Seq, U6 a0.Epoch, r0_0, r0_1, r0_2, r0_3]) z isAgg46 sizeOf46 (hst.bcs0 0 z)) (wv (.float .f64 x584) z z z ?_))))))))
 obtain ⟨t589, ht590, hm⟩ := bind_some hm
 refine wc call195 [.agg #[U6 a0.ID.Session, U6 a0.ID.Seq, U6 a0.Epoch, r0_0, r0_1, r0_2, r0_3], F6 x584] z z z ?_
 refine (locks_reads_ref (f0_0.mono (rd_weak _)) (f0_1.mono (rd_weak _)) (f0_2.mono (rd_weak _)) (f0_3.mono (rd_weak _)) hst.to0 ht590).mono ?_
 rintro _ w591 ⟨rfl, hst⟩
 refine ⟨_, z, ?_⟩
 replace hst := hst.of0
 refine wl_nil (tn ?_)
 refine bsplit t589 (fun hc594 => ?_) (fun hc594 => ?_)
 {
 replace hm := bif_t hc594 hm
 refine wp_ift (cvb hc594) ?_
 refine wp_seq (wrl (wv (.bool true) z z z (wl_nil (tn (wp_ret (blk_r (then_r (then_r ?_))))))))
 replace hm := inr_up hm hx581
 refine blk_r (then_r ?_)
 obtain rfl := some_inj hm
 refine post_ret (vs := [.bool true]) results140 (rvs_cons (rv_tmp z) rvs_nil) ?_
 exact ⟨z, hst.keep0⟩
}
 {
 replace hm := bif_f hc594 hm
 refine wp_iff (cvb hc594) ?_
 refine wp_skip (blk_n (tn (wrl ?_)))
 refine wv (.int .i64 (i64.wrap (z574 + (1:Int)))) z z z (wv (.int .i64 (i64.wrap (z574 + (1:Int)))) z z z (wl_nil (tn ?_)))
 replace hst := hst.keep1
 obtain rfl := some_inj hm
 exact ⟨_, Nat.lt_succ_self _, (i64.wrap (z574 + (1:Int))), _, hx581, (fu 2 (Pt b470 0) z (fu 27 r1_2 z (fu 28 (.int .i64 ((a1.Puts).length : Int)) z (fu 29 (.int .i64 (i64.wrap (z574 + (1:Int)))) z z)))), hst⟩
}
}
 {
 replace hm := bif_f hc583 hm
 refine wp_iff (cvb hc583) ?_
 refine wp_exit (then_x (then_x ?_))
 replace hm := inr_up hm hx581
 refine blk_x (tn (wp_seq (wrl ?_)))
 refine wv (.bool false) z z z (wl_nil (tn (wp_ret ?_)))
 obtain rfl := some_inj hm
 refine post_ret (vs := [.bool false]) results140 (rvs_cons (rv_tmp z) rvs_nil) ?_
 exact ⟨z, hst.keep0⟩
}
}
}

theorem slices_Clone_float64_float64_ref {w0 w : World} {I : HL} {R : SP} {a0 : (List Nat)} {r0_0 : Value} (f0_0 : Rd tyF64 R I r0_0 a0) (hst : St w0 w I [] R) {r : (List Nat)} (hm : slices_Clone_float64_float64 a0 = some r) :
  Calls prog 141 #[r0_0] w fun e w' => ∃ (q0_0 : Value), e = .returned (q0_0) ∧ St w0 w' I [ownS tyF64 q0_0 r] R := by {
 unfold slices_Clone_float64_float64 at hm
 obtain ⟨hg, hm⟩ := gd_some hm
 obtain rfl := some_inj hm
 have hsv := rd_sliceV f0_0
 refine calls_start (args := [r0_0]) func141 z ntmps141 (Nat.le_of_ble_eq_true z) ?_
 refine wp_seq (wrl (wv ((.slice none 0 0)) z z z (wl_nil (tn (wp_seq (wp_seq (wrl (wv (r0_0) z z z (wv (.bool (isNil r0_0)) z z (x_slnil z hsv z underlying43) (wl_nil (tn ?_)))))))))))
 refine bsplit (isNil r0_0) (fun hc428 => ?_) (fun hc428 => ?_)
 {
 refine wp_ift (cvb hc428) ?_
 refine wp_seq (wrl (wv ((.slice none 0 0)) z z z (wl_nil (tn (wp_ret (then_r ?_))))))
 refine post_ret (vs := [Zs]) results141 (rvs_cons (rv_tmp z) rvs_nil) ?_
 obtain rfl := List.eq_nil_of_length_eq_zero (isNil_len hsv hc428)
 exact ⟨_, z, (hst.own_nil tyF64).keep1⟩
}
 {
 refine wp_iff (cvb hc428) ?_
 refine wp_skip (tn (wp_seq (wrl ?_)))
 obtain ⟨b, w1, ew, eb, hst⟩ := hst.lits (E := tyF64) (xs := []) [] 37 0 z Reps.nil
 refine wl_run (v := (.slice (some ⟨b, 0, none⟩) 0 0)) (w' := w1) z z (x_als (by kernel_rfl) ew eb) ?_
 refine wv (r0_0) z z z ?_
 obtain ⟨v2, w2, hr, hst⟩ := run_append elem_43 underlying43 hst (Src.of_rd hst f0_0 flat_f64) (room_of hg z) 43
 refine wl_run (v := v2) (w' := w2) z z (x_append z z hr) ?_
 refine wv (v2) z z z (wl_nil (tn (wp_ret ?_)))
 refine post_ret (vs := [v2]) results141 (rvs_cons (rv_tmp z) rvs_nil) ?_
 rw [List.nil_append] at hst
 exact ⟨_, z, hst.keep1⟩
}
}

theorem slices_Clone_2_float64_2_float64_ref {w0 w : World} {I : HL} {R : SP} {a0 : (List (Nat × Nat))} {r0_0 : Value} (f0_0 : Rd tyF2 R I r0_0 a0) (hst : St w0 w I [] R) {r : (List (Nat × Nat))} (hm : slices_Clone_2_float64_2_float64 a0 = some r) :
  Calls prog 142 #[r0_0] w fun e w' => ∃ (q0_0 : Value), e = .returned (q0_0) ∧ St w0 w' I [ownS tyF2 q0_0 r] R := by {
 unfold slices_Clone_2_float64_2_float64 at hm
 obtain ⟨hg, hm⟩ := gd_some hm
 obtain rfl := some_inj hm
 have hsv := rd_sliceV f0_0
 refine calls_start (args := [r0_0]) func142 z ntmps142 (Nat.le_of_ble_eq_true z) ?_
 refine wp_seq (wrl (wv ((.slice none 0 0)) z z z (wl_nil (tn (wp_seq (wp_seq (wrl (wv (r0_0) z z z (wv (.bool (isNil r0_0)) z z (x_slnil z hsv z underlying44) (wl_nil (tn ?_)))))))))))
 refine bsplit (isNil r0_0) (fun hc428 => ?_) (fun hc428 => ?_)
 {
 refine wp_ift (cvb hc428) ?_
 refine wp_seq (wrl (wv ((.slice none 0 0)) z z z (wl_nil (tn (wp_ret (then_r ?_))))))
 refine post_ret (vs := [Zs]) results142 (rvs_cons (rv_tmp z) rvs_nil) ?_
 obtain rfl := List.eq_nil_of_length_eq_zero (isNil_len hsv hc428)
 exact ⟨_, z, (hst.own_nil tyF2).keep1⟩
}
 {
 refine wp_iff (cvb hc428) ?_
 refine wp_skip (tn (wp_seq (wrl ?_)))
 obtain ⟨b, w1, ew, eb, hst⟩ := hst.lits (E := tyF2) (xs := []) [] 80 0 z Reps.nil
 refine wl_run (v := (.slice (some ⟨b, 0, none⟩) 0 0)) (w' := w1) z z (x_als (by kernel_rfl) ew eb) ?_
 refine wv (r0_0) z z z ?_
 obtain ⟨v2, w2, hr, hst⟩ := run_append elem_44 underlying44 hst (Src.of_rd hst f0_0 flat_f2) (room_of hg z) 44
 refine wl_run (v := v2) (w' := w2) z z (x_append z z hr) ?_
 refine wv (v2) z z z (wl_nil (tn (wp_ret ?_)))
 refine post_ret (vs := [v2]) results142 (rvs_cons (rv_tmp z) rvs_nil) ?_
 rw [List.nil_append] at hst
 exact ⟨_, z, hst.keep1⟩
}
}

theorem slices_Clone_byte_byte_ref {w0 w : World} {I : HL} {R : SP} {a0 : (List Int)} {r0_0 : Value} (f0_0 : Rd (tyInt .u8) R I r0_0 a0) (hst : St w0 w I [] R) {r : (List Int)} (hm : slices_Clone_byte_byte a0 = some r) :
  Calls prog 143 #[r0_0] w fun e w' => ∃ (q0_0 : Value), e = .returned (q0_0) ∧ St w0 w' I [ownS (tyInt .u8) q0_0 r] R := by {
 unfold slices_Clone_byte_byte at hm
 obtain ⟨hg, hm⟩ := gd_some hm
 obtain rfl := some_inj hm
 have hsv := rd_sliceV f0_0
 refine calls_start (args := [r0_0]) func143 z ntmps143 (Nat.le_of_ble_eq_true z) ?_
 refine wp_seq (wrl (wv ((.slice none 0 0)) z z z (wl_nil (tn (wp_seq (wp_seq (wrl (wv (r0_0) z z z (wv (.bool (isNil r0_0)) z z (x_slnil z hsv z underlying22) (wl_nil (tn ?_)))))))))))
 refine bsplit (isNil r0_0) (fun hc428 => ?_) (fun hc428 => ?_)
 {
 refine wp_ift (cvb hc428) ?_
 refine wp_seq (wrl (wv ((.slice none 0 0)) z z z (wl_nil (tn (wp_ret (then_r ?_))))))
 refine post_ret (vs := [Zs]) results143 (rvs_cons (rv_tmp z) rvs_nil) ?_
 obtain rfl := List.eq_nil_of_length_eq_zero (isNil_len hsv hc428)
 exact ⟨_, z, (hst.own_nil (tyInt .u8)).keep1⟩
}
 {
 refine wp_iff (cvb hc428) ?_
 refine wp_skip (tn (wp_seq (wrl ?_)))
 obtain ⟨b, w1, ew, eb, hst⟩ := hst.lits (E := (tyInt .u8)) (xs := []) [] 5 0 z Reps.nil
 refine wl_run (v := (.slice (some ⟨b, 0, none⟩) 0 0)) (w' := w1) z z (x_als (by kernel_rfl) ew eb) ?_
 refine wv (r0_0) z z z ?_
 obtain ⟨v2, w2, hr, hst⟩ := run_append elem_22 underlying22 hst (Src.of_rd hst f0_0 flat_int) (room_of hg z) 22
 refine wl_run (v := v2) (w' := w2) z z (x_append z z hr) ?_
 refine wv (v2) z z z (wl_nil (tn (wp_ret ?_)))
 refine post_ret (vs := [v2]) results143 (rvs_cons (rv_tmp z) rvs_nil) ?_
 rw [List.nil_append] at hst
 exact ⟨_, z, hst.keep1⟩
}
}

theorem slices_Insert_api_Hold_api_Hold_ref {w0 w : World} {I : HL} {R : SP} {a0 : (List api_Hold)} {r0_0 : Value} {a1 : Int} {a2 : (List api_Hold)} {r2_0 : Value} (hst : St w0 w I [ownS ty_api_Hold r0_0 a0, ownS ty_api_Hold r2_0 a2] R) {r : (List api_Hold)} (hm : slices_Insert_api_Hold_api_Hold a0 a1 a2 = some r) :
  Calls prog 144 #[r0_0, I6 a1, r2_0] w fun e w' => ∃ (q0_0 : Value), e = .returned (q0_0) ∧ St w0 w' I [ownS ty_api_Hold q0_0 r] R := by {
 unfold slices_Insert_api_Hold_api_Hold at hm
 obtain ⟨hg, hm⟩ := gd_some hm
 obtain rfl := some_inj hm
 obtain ⟨hi0, hi1, hrm⟩ := insOK_of hg
 obtain ⟨k, rfl⟩ := Int.eq_ofNat_of_zero_le hi0
 have hsm := room_sum hrm
 have hk : k ≤ a0.length := by omega
 have hs : ∀ w : World, (sizeOf 46).run prog w = .ok ty_api_Hold.sz w := sizeOf46
 have hs0 : 0 < ty_api_Hold.sz := Nat.le_of_ble_eq_true rfl
 have hov : ∀ (args : Array Value) (w : World), (callFunc 196 args).run prog w = (Extern.SlicesOverlaps.overlaps #[125, 125] #[4] args >>= fun v => (pure (.value v) : Sem Next)).run prog w := by intro args w; kernel_rfl
 obtain ⟨css, hr, hst⟩ := hst.own_open
 replace hst := hst.pull1
 obtain ⟨dss, hq, hst⟩ := hst.own_open
 replace hst := hst.pull1
 obtain ⟨n, hn⟩ : ∃ n, css.length = n := ⟨_, rfl⟩
 obtain ⟨m, hm'⟩ : ∃ m, dss.length = m := ⟨_, rfl⟩
 have hln : a0.length = n := hr.1.trans hn
 have hlm : a2.length = m := hq.1.trans hm'
 rw [hln] at hsm hk
 rw [hlm] at hsm
 have hsv : SliceV r0_0 n := by have := hst.row_form.2; rwa [hn] at this
 have hsq : SliceV r2_0 m := by have := hst.pull1.row_form.2; rwa [hm'] at this
 have hoc := hr.ones
 have hoq := hq.ones
 have hw1 := wrap_add (a := n) (b := m) (by omega)
 have hw2 := wrap_add (a := k) (b := m) (by omega)
 have hw3 := wrap_sub (a := n + m) (b := k) (by omega) (by omega)
 have hrb := room_of (b := 120) hrm rfl
 rw [hln, hlm] at hrb
 refine calls_start (args := [r0_0, I6 (k : Int), r2_0]) func144 z ntmps144 (Nat.le_of_ble_eq_true z) ?_
 refine wp_seq (wrl (wv ((.slice none 0 0)) z z z (wl_nil (tn (wp_seq (wrl (wv (r0_0) z z z (wv (.int .i64 (k : Int)) z z z (wv ((slcV ty_api_Hold.sz r0_0 k n)) z z (x_slice (lo := (k : Nat)) (hi := (n : Nat)) underlying125 hs z hsv (by omega) (by omega) (by omega) .i64 .i64 (.inl z) (.inr ⟨z, z⟩)) (wl_nil (tn (wp_seq (wrl (wv (r2_0) z z z (wv (.int .i64 (m : Int)) z z (x_len z underlying125 hsq) (wv (.int .i64 (m : Int)) z z z (wl_nil (tn (wp_seq (wp_seq (wrl (wv (.int .i64 (m : Int)) z z z (wv (.bool ((m : Int) == (0:Int))) z z z ?_)))))))))))))))))))))))
 refine wl_nil (tn ?_)
 refine bsplit ((m : Int) == (0:Int)) (fun hc508 => ?_) (fun hc508 => ?_)
 {
 refine wp_ift (cvb hc508) ?_
 refine wp_seq (wrl (wv (r0_0) z z z (wv (r0_0) z z z (wl_nil (tn (wp_ret (then_r ?_)))))))
 refine post_ret (vs := [r0_0]) results144 (rvs_cons (rv_tmp z) rvs_nil) ?_
 rw [ins_nil (by rw [hlm]; exact hc508)]
 exact ⟨_, z, (hst.own_close hr).keep1⟩
}
 {
 refine wp_iff (cvb hc508) ?_
 have hm0 : m ≠ 0 := fun h => by rw [h] at hc508; cases hc508
 have hq0 : dss ≠ [] := fun h => hm0 (by rw [← hm', h]; rfl)
 refine wp_skip (tn (wp_seq (wrl ?_)))
 refine wv (r0_0) z z z (wv (.int .i64 (n : Int)) z z (x_len z underlying125 hsv) (wv (.int .i64 (n : Int)) z z z (wl_nil (tn (wp_seq (wp_seq (wrl (wv (.int .i64 (k : Int)) z z z (wv (.int .i64 (n : Int)) z z z (wv (.bool ((k : Int) == (n : Int))) z z z (wl_nil (tn ?_))))))))))))
 refine bsplit ((k : Int) == (n : Int)) (fun hc509 => ?_) (fun hc509 => ?_)
 {
 refine wp_ift (cvb hc509) ?_
 refine wp_seq (wrl (wv (r0_0) z z z (wv (r2_0) z z z ?_)))
 replace hst := (hst.own_close hr).pull1.own_close hq
 replace hst := hst.pull1
 obtain ⟨v2, w2, hra, hst⟩ := run_append elem_125 underlying125 hst hst.src1 (room_of hrm z) 125
 refine wl_run (v := v2) (w' := w2) z z (x_append z z hra) ?_
 refine wv (v2) z z z (wl_nil (tn (wp_ret (then_r ?_))))
 refine post_ret (vs := [v2]) results144 (rvs_cons (rv_tmp z) rvs_nil) ?_
 rw [ins_end (by rw [hln]; exact hc509)]
 exact ⟨_, z, hst.keep1⟩
}
 {
 refine wp_iff (cvb hc509) ?_
 have hkn : k ≠ n := fun h => by rw [h] at hc509; simp at hc509
 have hn0 : 0 < n := by omega
 have hc0 : css ≠ [] := fun h => by rw [h] at hn; simp at hn; omega
 refine wp_skip (tn (wp_seq (wp_seq (wrl ?_))))
 refine wv (.int .i64 (n : Int)) z z z (wv (.int .i64 (m : Int)) z z z (wv (.int .i64 ((n + m : Nat) : Int)) z z (ok_cast hw1 z) (wv (r0_0) z z z (wv (.int .i64 (sCap r0_0 : Int)) z z (x_cap z underlying125 hsv) (wv (.bool (decide (((n + m : Nat) : Int) > (sCap r0_0 : Int)))) z z z (wl_nil (tn ?_)))))))
 refine bsplit (decide (((n + m : Nat) : Int) > (sCap r0_0 : Int))) (fun hc510 => ?_) (fun hc510 => ?_)
 {
 refine wp_ift (cvb hc510) ?_
 refine wp_seq (wrl (wv (r0_0) z z z (wv (.int .i64 (k : Int)) z z z (wv ((slcV ty_api_Hold.sz r0_0 0 k)) z z (x_slice (lo := (0 : Nat)) (hi := (k : Nat)) underlying125 hs z hsv (by omega) (by omega) (by omega) .i64 .i64 (.inr ⟨z, z⟩) (.inl z)) (wv (.int .i64 (n : Int)) z z z (wv (.int .i64 (m : Int)) z z z (wv (.int .i64 ((n + m : Nat) : Int)) z z (ok_cast hw1 z) (wv (.int .i64 (k : Int)) z z z (wv (.int .i64 ((n + m - k : Nat) : Int)) z z (ok_cast hw3 z) ?_)))))))))
 obtain ⟨v2, w2, hra, hs2, zss, hzl, hst⟩ := run_app0 elem_125 underlying3 hst k (n + m - k) (by omega) (by have := of_decide_eq_true hc510; omega) (by rw [show k + (n + m - k) = n + m by omega]; exact hrb) hs0 125
 rw [show k + (n + m - k) = n + m by omega] at hs2
 refine wl_run (v := v2) (w' := w2) z z (x_append z z hra) ?_
 refine wv (v2) z z z (wl_nil (tn (wp_seq (wrl (wv (v2) z z z (wv (.int .i64 (k : Int)) z z z (wv ((slcV ty_api_Hold.sz v2 k (n + m))) z z (x_slice (lo := (k : Nat)) (hi := ((n + m) : Nat)) underlying125 hs z hs2 (by omega) (by omega) (by omega) .i64 .i64 (.inl z) (.inr ⟨z, z⟩)) (wv (r2_0) z z z ?_))))))))
 obtain ⟨w511, hr512, hst⟩ := run_copyRows (P := prog) (t2 := 125) (ty := 3) underlying125 hs hst hst.pull2 k m (N := n + m) (by first | omega | (simp only [List.length_append, List.length_take, List.length_drop]; omega)) (by first | omega | (simp only [List.length_append, List.length_take, List.length_drop]; omega)) (by omega) (by first | omega | (simp only [List.length_append, List.length_take, List.length_drop]; omega)) (ones_take hoq _)
 refine wl_run (v := .int .i64 (m : Nat)) (w' := w511) z z (x_copy z z hr512) ?_
 refine wl_nil (tn (wp_seq ?_))
 refine wp_region_St hst 9 [0, 1, 2, 3, 4, 5, 6, 7, 8] [0, 0, 0, 6, 15, 0, 0, 96, 255] [] z (by kernel_rfl) (by kernel_rfl) Tryz.mixed (by kernel_rfl) ?_
 refine wsr (v2) 0 z z z (by kernel_rfl) (fun w hst => z) (wsr (.int .i64 (k : Int)) 1 z z z (by kernel_rfl) (fun w hst => z) (wsr (.int .i64 (m : Int)) 2 z z z (by kernel_rfl) (fun w hst => z) (wsr (.int .i64 ((k + m : Nat) : Int)) 3 z z z (by kernel_rfl) (fun w hst => ok_cast hw2 z) (wsr ((slcV ty_api_Hold.sz v2 (k + m) (n + m))) 4 z z z (by kernel_rfl) (fun w hst => x_slice (lo := ((k + m) : Nat)) (hi := ((n + m) : Nat)) underlying125 hs z hs2 (by omega) (by omega) (by omega) .i64 .i64 (.inl z) (.inr ⟨z, z⟩)) (wsr (r0_0) 5 z z z (by kernel_rfl) (fun w hst => z) (wsr (.int .i64 (k : Int)) 6 z z z (by kernel_rfl) (fun w hst => z) (wsr ((slcV ty_api_Hold.sz r0_0 k n)) 7 z z z (by kernel_rfl) (fun w hst => x_slice (lo := (k : Nat)) (hi := (n : Nat)) underlying125 hs z hsv (by omega) (by omega) (by omega) .i64 .i64 (.inl z) (.inr ⟨z, z⟩)) ?_)))))))
 refine ws_e1 8 (by kernel_rfl) ?_
 refine nxe [] (by kernel_rfl) z z ?_
 clear hst
 intro w hst
 obtain ⟨w513, hr514, hst⟩ := run_copyRows (P := prog) (t2 := 125) (ty := 3) underlying125 hs hst (hst.pull1.row_part (l := k) (h := n) hk (by omega)) (k + m) (n - k) (N := n + m) (by first | omega | (simp only [List.length_append, List.length_take, List.length_drop]; omega)) (by first | omega | (simp only [List.length_append, List.length_take, List.length_drop]; omega)) (by omega) (by first | omega | (simp only [List.length_append, List.length_take, List.length_drop]; omega)) (ones_take (ones_drop (ones_take hoc _) _) _)
 refine we_run (v := .int .i64 ((n - k) : Nat)) (w' := w513) z (x_copy z z hr514) ?_
 refine ws_next (pend' := []) hst (by kernel_rfl) pk_nil ?_
 refine ws_nil ?_
 intro w hst
 refine tn (wp_seq (wrl (wv (v2) z z z (wv (v2) z z z (wl_nil (tn (wp_ret (then_r ?_))))))))
 refine post_ret (vs := [v2]) results144 (rvs_cons (rv_tmp z) rvs_nil) ?_
 rw [grow_rows hn hm' hk hzl] at hst
 exact ⟨_, z, (hst.own_close ((hr.take k).app (hq.app (hr.drop k)))).keep1⟩
}
 {
 refine wp_iff (cvb hc510) ?_
 have hup : n + m ≤ sCap r0_0 := by have := of_decide_eq_false hc510; omega
 obtain ⟨ess, hel, hem, hst'⟩ := hst.row_up (n + m) (by omega) hup hc0
 rw [show n + m - css.length = m by omega] at hel
 have hs2 : SliceV (upV r0_0 (n + m)) (n + m) := by have := hst'.row_form.2; rwa [List.length_append, hn, hel] at this
 clear hst
 have hst := hst'
 clear hst'
 refine wp_skip (tn (wp_seq (wrl ?_)))
 refine wv (r0_0) z z z (wv (.int .i64 (n : Int)) z z z (wv (.int .i64 (m : Int)) z z z (wv (.int .i64 ((n + m : Nat) : Int)) z z (ok_cast hw1 z) (wv ((upV r0_0 (n + m))) z z (x_sliceUp underlying125 hs z hsv z hup hn0) (wv ((upV r0_0 (n + m))) z z z (wl_nil (tn (wp_seq (wp_seq (wrl (wv (r2_0) z z z (wv ((upV r0_0 (n + m))) z z z (wv (.int .i64 (k : Int)) z z z (wv (.int .i64 (m : Int)) z z z (wv (.int .i64 ((k + m : Nat) : Int)) z z (ok_cast hw2 z) (wv ((slcV ty_api_Hold.sz (upV r0_0 (n + m)) (k + m) (n + m))) z z (x_slice (lo := ((k + m) : Nat)) (hi := ((n + m) : Nat)) underlying125 hs z hs2 (by omega) (by omega) (by omega) .i64 .i64 (.inl z) (.inr ⟨z, z⟩)) ?_))))))))))))))))
 refine wv (.bool false) z z (x_ext z z z (hov _) (run_overlaps z underlying125 hs hst.pull1 (k + m) (N := n + m) (by rw [List.length_append]; omega) (by omega) hq0 hs0)) (wv (.bool true) z z z (wl_nil (tn ?_)))
 refine wp_ift z ?_
 refine wp_seq ?_
 refine wp_region_St hst 9 [0, 1, 2, 3, 4, 5, 6, 7, 8] [0, 0, 0, 6, 15, 0, 0, 96, 255] [] z (by kernel_rfl) (by kernel_rfl) Tryz.mixed (by kernel_rfl) ?_
 refine wsr ((upV r0_0 (n + m))) 0 z z z (by kernel_rfl) (fun w hst => z) (wsr (.int .i64 (k : Int)) 1 z z z (by kernel_rfl) (fun w hst => z) (wsr (.int .i64 (m : Int)) 2 z z z (by kernel_rfl) (fun w hst => z) (wsr (.int .i64 ((k + m : Nat) : Int)) 3 z z z (by kernel_rfl) (fun w hst => ok_cast hw2 z) (wsr ((slcV ty_api_Hold.sz (upV r0_0 (n + m)) (k + m) (n + m))) 4 z z z (by kernel_rfl) (fun w hst => x_slice (lo := ((k + m) : Nat)) (hi := ((n + m) : Nat)) underlying125 hs z hs2 (by omega) (by omega) (by omega) .i64 .i64 (.inl z) (.inr ⟨z, z⟩)) (wsr ((upV r0_0 (n + m))) 5 z z z (by kernel_rfl) (fun w hst => z) (wsr (.int .i64 (k : Int)) 6 z z z (by kernel_rfl) (fun w hst => z) (wsr ((slcV ty_api_Hold.sz (upV r0_0 (n + m)) k (n + m))) 7 z z z (by kernel_rfl) (fun w hst => x_slice (lo := (k : Nat)) (hi := ((n + m) : Nat)) underlying125 hs z hs2 (by omega) (by omega) (by omega) .i64 .i64 (.inl z) (.inr ⟨z, z⟩)) ?_)))))))
 refine ws_e1 8 (by kernel_rfl) ?_
 refine nxe [] (by kernel_rfl) z z ?_
 clear hst
 intro w hst
 obtain ⟨w515, hr516, hst⟩ := run_copyRows (P := prog) (t2 := 125) (ty := 3) underlying125 hs hst (hst.row_part (l := k) (h := n + m) (by omega) (by rw [List.length_append]; omega)) (k + m) (n - k) (N := n + m) (by first | omega | (simp only [List.length_append, List.length_take, List.length_drop]; omega)) (by first | omega | (simp only [List.length_append, List.length_take, List.length_drop]; omega)) (by omega) (by first | omega | (simp only [List.length_append, List.length_take, List.length_drop]; omega)) (by rw [stay_src hn hm' hk hel]; exact ones_drop hoc _)
 refine we_run (v := .int .i64 ((n - k) : Nat)) (w' := w515) z (x_copy z z hr516) ?_
 refine ws_next (pend' := []) hst (by kernel_rfl) pk_nil ?_
 refine ws_nil ?_
 intro w hst
 refine tn (wp_seq (wrl (wv ((upV r0_0 (n + m))) z z z (wv (.int .i64 (k : Int)) z z z (wv ((slcV ty_api_Hold.sz (upV r0_0 (n + m)) k (n + m))) z z (x_slice (lo := (k : Nat)) (hi := ((n + m) : Nat)) underlying125 hs z hs2 (by omega) (by omega) (by omega) .i64 .i64 (.inl z) (.inr ⟨z, z⟩)) (wv (r2_0) z z z ?_))))))
 obtain ⟨w517, hr518, hst⟩ := run_copyRows (P := prog) (t2 := 125) (ty := 3) underlying125 hs hst hst.pull1 k m (N := n + m) (by first | omega | (simp only [List.length_append, List.length_take, List.length_drop]; omega)) (by first | omega | (simp only [List.length_append, List.length_take, List.length_drop]; omega)) (by omega) (by first | omega | (simp only [List.length_append, List.length_take, List.length_drop]; omega)) (ones_take hoq _)
 refine wl_run (v := .int .i64 (m : Nat)) (w' := w517) z z (x_copy z z hr518) ?_
 refine wl_nil (tn (wp_seq (wrl (wv ((upV r0_0 (n + m))) z z z (wv ((upV r0_0 (n + m))) z z z (wl_nil (tn (wp_ret (then_r ?_)))))))))
 refine post_ret (vs := [(upV r0_0 (n + m))]) results144 (rvs_cons (rv_tmp z) rvs_nil) ?_
 rw [stay_rows hn hm' hk hel] at hst
 exact ⟨_, z, (hst.own_close ((hr.take k).app (hq.app (hr.drop k)))).keep1⟩
}
}
}
}

theorem locks_Table_Take_ref {w0 w : World} {I : HL} {R : SP} {a0 : (Option locks_Table)} {p0 : Value} {a1 : api_Hold} {r1_0 : Value} {r1_1 : Value} {r1_2 : Value} {r1_3 : Value} (f1_0 : Rd tyF64 R I r1_0 a1.Gets) (f1_1 : Rd tyF2 R I r1_1 a1.Scans) (f1_2 : Rd tyF64 R I r1_2 a1.Puts) (f1_3 : Rd (tyInt .u8) R I r1_3 a1.Data) (hst : St w0 w I [objO at_locks_Table p0 a0] R) {r : (Int × (Option locks_Table))} (hm : locks_Table_Take a0 a1 = some r) :
  Calls prog 58 #[p0, .agg #[U6 a1.ID.Session, U6 a1.ID.Seq, U6 a1.Epoch, r1_0, r1_1, r1_2, r1_3]] w fun e w' => ∃ (I' : HL), e = .returned (.int .i64 r.1) ∧ I.le I' ∧ St w0 w' I' [objO at_locks_Table p0 r.2] R := by {
 rcases a0 with _ | o0
 {
 obtain ⟨rfl, hst'⟩ := objO_none hst
 clear hst
 have hst := hst'
 clear hst'
 dsimp only [locks_Table_Take] at hm
 refine calls_start (args := [.pointer none, .agg #[U6 a1.ID.Session, U6 a1.ID.Seq, U6 a1.Epoch, r1_0, r1_1, r1_2, r1_3]]) func58 z ntmps58 (Nat.le_of_ble_eq_true z) ?_
 have hI0 := HL.le.refl I
 refine wp_seq (wrl ?_)
 obtain ⟨b547, w548, ew549, eb550, hst⟩ := hst.box [U6 a1.ID.Session, U6 a1.ID.Seq, U6 a1.Epoch, r1_0, r1_1, r1_2, r1_3] 46
 refine wl_run (v := Pt b547 0) (w' := w548) z z (x_al (by kernel_rfl) ew549 eb550) ?_
 refine wv (.int .i64 (0:Int)) z z z (wl_nil (tn (wp_seq (wp_seq (wrl (wv (.pointer none) z z z (wv (.bool true) z z (by kernel_rfl) (wl_nil (tn ?_)))))))))
 refine wp_ift z ?_
 refine wp_seq (wrl (wv (.int .i64 (2:Int)) z z z (wl_nil (tn (wp_ret (then_r ?_))))))
 replace hst := hst.objO_nil at_locks_Table
 obtain rfl := some_inj hm
 refine post_ret (vs := [I6 (2:Int)]) results58 (rvs_cons (rv_tmp z) rvs_nil) ?_
 exact ⟨_, z, hI0, hst.keep1⟩
}
 {
 replace hst := objO_get hst
 dsimp only [locks_Table_Take] at hm
 refine calls_start (args := [p0, .agg #[U6 a1.ID.Session, U6 a1.ID.Seq, U6 a1.Epoch, r1_0, r1_1, r1_2, r1_3]]) func58 z ntmps58 (Nat.le_of_ble_eq_true z) ?_
 have hI0 := HL.le.refl I
 refine wp_seq (wrl ?_)
 obtain ⟨b552, w553, ew554, eb555, hst⟩ := hst.box [U6 a1.ID.Session, U6 a1.ID.Seq, U6 a1.Epoch, r1_0, r1_1, r1_2, r1_3] 46
 refine wl_run (v := Pt b552 0) (w' := w553) z z (x_al (by kernel_rfl) ew554 eb555) ?_
 refine wv (.int .i64 (0:Int)) z z z (wl_nil (tn (wp_seq (wp_seq (wrl (wv (p0) z z z ?_))))))
 replace hst := hst.pull1
 obtain ⟨b557, v558, rfl, hst'⟩ := at_locks_Table_open hst
 clear hst
 have hst := hst'
 clear hst'
 refine wv (.bool false) z z (by kernel_rfl) (wl_nil (tn ?_))
 refine wp_iff z ?_
 refine wp_skip (tn ?_)
 obtain ⟨y689, hm, hx690⟩ := joinO_some hm
 refine wp_cut (fun a w => ∃ (σ687 : Nat → Value), (locks_Table_Take_j0 a1 o0) () = some r ∧ a = Fr 74 (upd (upd σ687 0 (Pt b557 0)) 3 (Pt b552 0)) ∧ St w0 w I [at_locks_Table (Pt b557 0) o0, cells b552 [U6 a1.ID.Session, U6 a1.ID.Seq, U6 a1.Epoch, r1_0, r1_1, r1_2, r1_3]] R) ?_ ?_
 {
 refine wp_seq (wrl (wv (Pt b557 0) z z z (wv (Pt b557 0) z z z (wv (Pt b557 0) z z (x_field z underlying203 z sizeOf125 z) (wv (v558) z z (x_load z isAgg125 (hst.bc0 z)) (wv (.int .i64 ((o0.l).length : Int)) z z (x_len z underlying125 hst.sv1) (wv (.int .i64 (0:Int)) z z z (wl_nil (tn (wp_block ?_))))))))))
 obtain ⟨n641, hm⟩ := loopO_some hm
 refine wp_loop_n (fun n a w => ∃ (z639 : Int) (σ640 : Nat → Value), loopN (locks_Table_Take_l1 o0 a1) n z639 = some y689 ∧ a = Fr 74 (upd (upd (upd (upd (upd σ640 0 (Pt b557 0)) 3 (Pt b552 0)) 14 (v558)) 15 (.int .i64 ((o0.l).length : Int))) 16 (.int .i64 z639)) ∧ St w0 w I [cells b557 [v558], ownS ty_api_Hold v558 o0.l, cells b552 [U6 a1.ID.Session, U6 a1.ID.Seq, U6 a1.Epoch, r1_0, r1_1, r1_2, r1_3]] R) n641 ⟨(0:Int), _, hm, (fu 0 (Pt b557 0) z (fu 3 (Pt b552 0) z (fu 14 v558 z (fu 15 (.int .i64 ((o0.l).length : Int)) z (fu 16 (.int .i64 (0:Int)) z z))))), hst⟩ ?_
 rintro n647 _ w642 ⟨z639, σ640, hm, rfl, hst⟩
 obtain ⟨n644, y645, rfl, hm, hx646⟩ := loopN_some hm
 dsimp only [locks_Table_Take_l1] at hm
 refine wp_seq (wrl (wv (.bool (decide (z639 < ((o0.l).length : Int)))) z z z (wl_nil (tn (wp_seq ?_)))))
 refine bsplit (decide (z639 < ((o0.l).length : Int))) (fun hc648 => ?_) (fun hc648 => ?_)
 {
 replace hm := bif_t hc648 hm
 refine wp_ift (cvb hc648) ?_
 refine wp_skip (tn (wp_seq (wp_block (wp_seq (wrl ?_)))))
 obtain ⟨x649, hx650, hm⟩ := bind_some hm
 obtain ⟨h651, h652, hi653⟩ := geto_some hx650
 refine wv (.pointer (some (eAddr v558 (z639.toNat * 7 + 0)))) z z (x_index z z underlying125 sizeOf46 hst.sv1 h651 h652) ?_
 obtain ⟨cs654, hr655, hc656⟩ := hst.og1 hi653
 obtain ⟨v657, v660, v663, v666, rfl, f658, f661, f664, f667, -⟩ := hr655
 refine wv (.agg #[U6 x649.ID.Session, U6 x649.ID.Seq, U6 x649.Epoch, v657, v660, v663, v666]) z z (x_loadN (cs := [U6 x649.ID.Session, U6 x649.ID.Seq, U6 x649.Epoch, v657, v660, v663, v666]) z isAgg46 sizeOf46 (eCells (o := 0) hc656 z)) ?_
 obtain ⟨b673, w674, ew675, eb676, hst⟩ := hst.box [Zu, Zu, Zu, Zs, Zs, Zs, Zs] 46
 refine wl_run (v := Pt b673 0) (w' := w674) z z (x_al (by kernel_rfl) ew675 eb676) ?_
 obtain ⟨w678, hr679, hst⟩ := hst.bx [U6 x649.ID.Session, U6 x649.ID.Seq, U6 x649.Epoch, v657, v660, v663, v666] sizeOf46 z (oC z (oC z (oC z (oC (one_of_sliceV (ro_sliceV f658)) (oC (one_of_sliceV (ro_sliceV f661)) (oC (one_of_sliceV (ro_sliceV f664)) (oC (one_of_sliceV (ro_sliceV f667)) oN))))))) (by kernel_rfl)
 refine wl_unit z z (x_unit hr679) ?_
 refine wl_nil (tn (wp_seq (wrl (wv (Pt b673 0) z z (x_field z underlying46 z sizeOf28 z) (wv (.agg #[U6 x649.ID.Session, U6 x649.ID.Seq]) z z (x_loadN (cs := [U6 x649.ID.Session, U6 x649.ID.Seq]) z isAgg28 sizeOf28 (hst.bcs0 0 z)) (wv (Pt b552 0) z z (x_field z underlying46 z sizeOf28 z) (wv (.agg #[U6 a1.ID.Session, U6 a1.ID.Seq]) z z (x_loadN (cs := [U6 a1.ID.Session, U6 a1.ID.Seq]) z isAgg28 sizeOf28 (hst.bcs3 0 z)) (wv (.bool (!((x649.ID.Session == a1.ID.Session) && (x649.ID.Seq == a1.ID.Seq)))) z z (x_aggne2 z z (by kernel_rfl) underlying28 (by kernel_rfl) (by kernel_rfl) (by kernel_rfl) underlying26 underlying26 (fun _ _ _ => by kernel_rfl) (fun _ _ _ => by kernel_rfl)) (wv (.bool (!((x649.ID.Session == a1.ID.Session) && (x649.ID.Seq == a1.ID.Seq)))) z z z ?_)))))))))
 refine bsplit (!((x649.ID.Session == a1.ID.Session) && (x649.ID.Seq == a1.ID.Seq))) (fun hc680 => ?_) (fun hc680 => ?_)
 {
 replace hm := bif_t hc680 hm
 refine wv (.agg #[U6 x649.ID.Session, U6 x649.ID.Seq, U6 x649.Epoch, v657, v660, v663, v666]) ((wanted_eq z z z (cvb hc680)).trans z) z (x_loadN (cs := [U6 x649.ID.Session, U6 x649.ID.Seq, U6 x649.Epoch, v657, v660, v663, v666]) z isAgg46 sizeOf46 (hst.bcs0 0 z)) (wv (.agg #[U6 a1.ID.Session, U6 a1.ID.Seq, U6 a1.Epoch, r1_0, r1_1, r1_2, r1_3]) ((wanted_eq z z z (cvb hc680)).trans z) z (x_loadN (cs := [U6 a1.ID.Session, U6 a1.ID.Seq, U6 a1.Epoch, r1_0, r1_1, r1_2, r1_3]) z isAgg46 sizeOf46 (hst.bcs3 0 z)) ?_)
 obtain ⟨t681, ht682, hm⟩ := bind_some hm
 refine wl_call ((wanted_eq z z z (cvb hc680)).trans z) z (x_call call140 z (vs := [.agg #[U6 x649.ID.Session, U6 x649.ID.Seq, U6 x649.Epoch, v657, v660, v663, v666], .agg #[U6 a1.ID.Session, U6 a1.ID.Seq, U6 a1.Epoch, r1_0, r1_1, r1_2, r1_3]]) z) ?_
 refine (locks_Meet_ref (f658.mono ro_rd) (f661.mono ro_rd) (f664.mono ro_rd) (f667.mono ro_rd) (f1_0.mono (rd_weak _)) (f1_1.mono (rd_weak _)) (f1_2.mono (rd_weak _)) (f1_3.mono (rd_weak _)) hst.to0 ht682).mono ?_
 rintro _ w683 ⟨rfl, hst⟩
 refine ⟨_, z, ?_⟩
 replace hst := hst.of0
 refine wv (.bool t681) z z (x_pick_t hc680 z z) (wl_nil (tn ?_))
 refine bsplit t681 (fun hc686 => ?_) (fun hc686 => ?_)
 {
 replace hm := bif_t hc686 hm
 refine wp_ift (cvb hc686) ?_
 refine wp_seq (wrl (wv (.int .i64 (8:Int)) z z z (wl_nil (tn (wp_ret (blk_r (then_r (then_r ?_))))))))
 replace hm := inr_up hm hx646
 refine blk_r (then_r ?_)
 replace hm := inr_up hm hx690
 replace hst := hst.pull2.pull2
 replace hst := at_locks_Table_close (pv := Pt b557 0) (x := o0) hst z
 replace hst := objO_some hst
 obtain rfl := some_inj hm
 refine post_ret (vs := [I6 (8:Int)]) results58 (rvs_cons (rv_tmp z) rvs_nil) ?_
 exact ⟨_, z, hI0, hst.keep1⟩
}
 {
 replace hm := bif_f hc686 hm
 refine wp_iff (cvb hc686) ?_
 refine wp_skip (blk_n (tn (wrl ?_)))
 refine wv (.int .i64 (i64.wrap (z639 + (1:Int)))) z z z (wv (.int .i64 (i64.wrap (z639 + (1:Int)))) z z z (wl_nil (tn ?_)))
 replace hst := hst.pull3.pull3.pull3.keep3
 obtain rfl := some_inj hm
 exact ⟨_, Nat.lt_succ_self _, (i64.wrap (z639 + (1:Int))), _, hx646, (fu 0 (Pt b557 0) z (fu 3 (Pt b552 0) z (fu 14 v558 z (fu 15 (.int .i64 ((o0.l).length : Int)) z (fu 16 (.int .i64 (i64.wrap (z639 + (1:Int)))) z z))))), hst⟩
}
}
 {
 replace hm := bif_f hc680 hm
 refine wo hc680 z z z z z z (wo hc680 z z z z z z (wo hc680 z z z z z z (wv (.bool false) z z (x_pick_f hc680 z z) (wl_nil (tn ?_)))))
 refine wp_iff z ?_
 refine wp_skip (blk_n (tn (wrl ?_)))
 refine wv (.int .i64 (i64.wrap (z639 + (1:Int)))) z z z (wv (.int .i64 (i64.wrap (z639 + (1:Int)))) z z z (wl_nil (tn ?_)))
 replace hst := hst.pull3.pull3.pull3.keep3
 obtain rfl := some_inj hm
 exact ⟨_, Nat.lt_succ_self _, (i64.wrap (z639 + (1:Int))), _, hx646, (fu 0 (Pt b557 0) z (fu 3 (Pt b552 0) z (fu 14 v558 z (fu 15 (.int .i64 ((o0.l).length : Int)) z (fu 16 (.int .i64 (i64.wrap (z639 + (1:Int)))) z z))))), hst⟩
}
}
 {
 replace hm := bif_f hc648 hm
 refine wp_iff (cvb hc648) ?_
 refine wp_exit (then_x (then_x ?_))
 replace hm := inr_up hm hx646
 refine blk_x (tn ?_)
 replace hst := hst.pull1.pull1
 replace hst := at_locks_Table_close (pv := Pt b557 0) (x := o0) hst z
 replace hst := hst.pull1.pull1.keep2
 obtain rfl := some_inj hm
 exact ⟨_, hx690, (fu 0 (Pt b557 0) z (fu 3 (Pt b552 0) z z)), hst⟩
}
}
 {
 clear hst
 rintro _ w691 ⟨σ687, hm, rfl, hst⟩
 dsimp only [locks_Table_Take_j0] at hm
 refine wp_seq ?_
 refine wp_region_St hst 18 [0, 1, 2, 3, 4, 5, 6, 7, 8, 9, 10, 11, 12, 13, 14, 15, 16, 17] [0, 1, 0, 4, 0, 16, 48, 0, 128, 496, 0, 1024, 4080, 0, 8192, 32752, 65535, 131071] [] z (by kernel_rfl) (by kernel_rfl) Tryz.mixed (by kernel_rfl) ?_
 refine wsr (Pt b552 0) 0 z z z (by kernel_rfl) (fun w hst => x_field z underlying46 z sizeOf28 z) (wsr (.agg #[U6 a1.ID.Session, U6 a1.ID.Seq]) 1 z z z (by kernel_rfl) (fun w hst => x_loadN (cs := [U6 a1.ID.Session, U6 a1.ID.Seq]) z isAgg28 sizeOf28 (hst.bcs1 0 z)) (wsr (Pt b552 2) 2 z z z (by kernel_rfl) (fun w hst => x_field z underlying46 z sizeOf26 z) (wsr (.int .u64 a1.Epoch) 3 z z z (by kernel_rfl) (fun w hst => x_load z isAgg26 (hst.bc1 z)) (wsr (Pt b552 3) 4 z z z (by kernel_rfl) (fun w hst => x_field z underlying46 z sizeOf43 z) (wsr (r1_0) 5 z z z (by kernel_rfl) (fun w hst => x_load z isAgg43 (hst.bc1 z)) (wsr (Pt b552 4) 7 z z z (by kernel_rfl) (fun w hst => x_field z underlying46 z sizeOf44 z) (wsr (r1_1) 8 z z z (by kernel_rfl) (fun w hst => x_load z isAgg44 (hst.bc1 z)) (wsr (Pt b552 5) 10 z z z (by kernel_rfl) (fun w hst => x_field z underlying46 z sizeOf43 z) (wsr (r1_2) 11 z z z (by kernel_rfl) (fun w hst => x_load z isAgg43 (hst.bc1 z)) (wsr (Pt b552 6) 13 z z z (by kernel_rfl) (fun w hst => x_field z underlying46 z sizeOf22 z) (wsr (r1_3) 14 z z z (by kernel_rfl) (fun w hst => x_load z isAgg22 (hst.bc1 z)) ?_)))))))))))
 refine ws_e1 6 (by kernel_rfl) ?_
 refine nxe [9, 12, 15, 16, 17] (by kernel_rfl) z z ?_
 clear hst
 intro w hst
 obtain ⟨t692, ht693, hm⟩ := bind_some hm
 refine wec call141 [r1_0] z z ?_
 refine (slices_Clone_float64_float64_ref (f1_0.mono (rd_weak _)) hst.to0 ht693).mono ?_
 rintro _ w694 ⟨v697, rfl, hst⟩
 refine ⟨_, z, ?_⟩
 replace hst := hst.of1
 refine ws_next (pend' := [(14, r1_3), (13, Pt b552 6), (11, r1_2), (10, Pt b552 5), (8, r1_1), (7, Pt b552 4), (3, U6 a1.Epoch), (2, Pt b552 2), (1, .agg #[U6 a1.ID.Session, U6 a1.ID.Seq]), (0, Pt b552 0)]) hst (by kernel_rfl) (pkr z z (fun w hst => x_load z isAgg22 (hst.bc2 z)) (pkr z z (fun w hst => x_field z underlying46 z sizeOf22 z) (pkr z z (fun w hst => x_load z isAgg43 (hst.bc2 z)) (pkr z z (fun w hst => x_field z underlying46 z sizeOf43 z) (pkr z z (fun w hst => x_load z isAgg44 (hst.bc2 z)) (pkr z z (fun w hst => x_field z underlying46 z sizeOf44 z) (pkr z z (fun w hst => x_load z isAgg26 (hst.bc2 z)) (pkr z z (fun w hst => x_field z underlying46 z sizeOf26 z) (pkr z z (fun w hst => x_loadN (cs := [U6 a1.ID.Session, U6 a1.ID.Seq]) z isAgg28 sizeOf28 (hst.bcs2 0 z)) (pkr z z (fun w hst => x_field z underlying46 z sizeOf28 z) pk_nil)))))))))) ?_
 refine ws_e1 9 (by kernel_rfl) ?_
 refine nxe [12, 15, 16, 17] (by kernel_rfl) z z ?_
 clear hst
 intro w hst
 obtain ⟨t699, ht700, hm⟩ := bind_some hm
 refine wec call142 [r1_1] z z ?_
 refine (slices_Clone_2_float64_2_float64_ref (f1_1.mono (rd_weak _)) hst.to0 ht700).mono ?_
 rintro _ w701 ⟨v704, rfl, hst⟩
 refine ⟨_, z, ?_⟩
 replace hst := hst.of1
 refine ws_next (pend' := [(14, r1_3), (13, Pt b552 6), (11, r1_2), (10, Pt b552 5), (3, U6 a1.Epoch), (2, Pt b552 2), (1, .agg #[U6 a1.ID.Session, U6 a1.ID.Seq]), (0, Pt b552 0)]) hst (by kernel_rfl) (pkr z z (fun w hst => x_load z isAgg22 (hst.bc3 z)) (pkr z z (fun w hst => x_field z underlying46 z sizeOf22 z) (pkr z z (fun w hst => x_load z isAgg43 (hst.bc3 z)) (pkr z z (fun w hst => x_field z underlying46 z sizeOf43 z) (pkr z z (fun w hst => x_load z isAgg26 (hst.bc3 z)) (pkr z z (fun w hst => x_field z underlying46 z sizeOf26 z) (pkr z z (fun w hst => x_loadN (cs := [U6 a1.ID.Session, U6 a1.ID.Seq]) z isAgg28 sizeOf28 (hst.bcs3 0 z)) (pkr z z (fun w hst => x_field z underlying46 z sizeOf28 z) pk_nil)))))))) ?_
 refine ws_e1 12 (by kernel_rfl) ?_
 refine nxe [15, 16, 17] (by kernel_rfl) z z ?_
 clear hst
 intro w hst
 obtain ⟨t706, ht707, hm⟩ := bind_some hm
 refine wec call141 [r1_2] z z ?_
 refine (slices_Clone_float64_float64_ref (f1_2.mono (rd_weak _)) hst.to0 ht707).mono ?_
 rintro _ w708 ⟨v711, rfl, hst⟩
 refine ⟨_, z, ?_⟩
 replace hst := hst.of1
 refine ws_next (pend' := [(14, r1_3), (13, Pt b552 6), (3, U6 a1.Epoch), (2, Pt b552 2), (1, .agg #[U6 a1.ID.Session, U6 a1.ID.Seq]), (0, Pt b552 0)]) hst (by kernel_rfl) (pkr z z (fun w hst => x_load z isAgg22 (hst.bc4 z)) (pkr z z (fun w hst => x_field z underlying46 z sizeOf22 z) (pkr z z (fun w hst => x_load z isAgg26 (hst.bc4 z)) (pkr z z (fun w hst => x_field z underlying46 z sizeOf26 z) (pkr z z (fun w hst => x_loadN (cs := [U6 a1.ID.Session, U6 a1.ID.Seq]) z isAgg28 sizeOf28 (hst.bcs4 0 z)) (pkr z z (fun w hst => x_field z underlying46 z sizeOf28 z) pk_nil)))))) ?_
 refine ws_e1 15 (by kernel_rfl) ?_
 refine nxe [16, 17] (by kernel_rfl) z z ?_
 clear hst
 intro w hst
 obtain ⟨t713, ht714, hm⟩ := bind_some hm
 refine wec call143 [r1_3] z z ?_
 refine (slices_Clone_byte_byte_ref (f1_3.mono (rd_weak _)) hst.to0 ht714).mono ?_
 rintro _ w715 ⟨v718, rfl, hst⟩
 refine ⟨_, z, ?_⟩
 replace hst := hst.of1
 refine ws_next (pend' := [(3, U6 a1.Epoch), (2, Pt b552 2), (1, .agg #[U6 a1.ID.Session, U6 a1.ID.Seq]), (0, Pt b552 0)]) hst (by kernel_rfl) (pkr z z (fun w hst => x_load z isAgg26 (hst.bc5 z)) (pkr z z (fun w hst => x_field z underlying46 z sizeOf26 z) (pkr z z (fun w hst => x_loadN (cs := [U6 a1.ID.Session, U6 a1.ID.Seq]) z isAgg28 sizeOf28 (hst.bcs5 0 z)) (pkr z z (fun w hst => x_field z underlying46 z sizeOf28 z) pk_nil)))) ?_
 refine wsr (.agg #[U6 a1.ID.Session, U6 a1.ID.Seq, U6 a1.Epoch, v697, v704, v711, v718]) 16 rfl rfl rfl (by kernel_rfl) (fun w hst => by obtain ⟨_, _, hv_, _⟩ := hst.sv0; rw [hv_]; obtain ⟨_, _, hv_, _⟩ := hst.sv1; rw [hv_]; obtain ⟨_, _, hv_, _⟩ := hst.sv2; rw [hv_]; obtain ⟨_, _, hv_, _⟩ := hst.sv3; rw [hv_]; kernel_rfl) ?_
 refine ws_e1 17 (by kernel_rfl) ?_
 refine nxe [] (by kernel_rfl) z z ?_
 clear hst
 intro w hst
 replace hst := hst.pull5
 obtain ⟨w724, hr725, hst⟩ := hst.bx [U6 a1.ID.Session, U6 a1.ID.Seq, U6 a1.Epoch, v697, v704, v711, v718] sizeOf46 z (oC z (oC z (oC z (oC (one_of_sliceV hst.sv4) (oC (one_of_sliceV hst.sv3) (oC (one_of_sliceV hst.sv2) (oC (one_of_sliceV hst.sv1) oN))))))) (by kernel_rfl)
 refine we_unit z (x_unit hr725) ?_
 refine ws_next (pend' := []) hst (by kernel_rfl) pk_nil ?_
 refine ws_nil ?_
 intro w hst
 refine tn (wp_seq (wrl (wv (Pt b557 0) z z z (wv (Pt b552 0) z z (x_field z underlying46 z sizeOf28 z) (wv (.agg #[U6 a1.ID.Session, U6 a1.ID.Seq]) z z (x_loadN (cs := [U6 a1.ID.Session, U6 a1.ID.Seq]) z isAgg28 sizeOf28 (hst.bcs0 0 z)) ?_)))))
 replace hst := hst.pull5
 replace hst := objO_some hst
 obtain ⟨t726, ht727, hm⟩ := bind_some hm
 refine wc call135 [Pt b557 0, .agg #[U6 a1.ID.Session, U6 a1.ID.Seq]] z z z ?_
 refine (locks_Table_find_ref hst.to1 ht727).mono ?_
 rintro _ w728 ⟨rfl, hst⟩
 refine ⟨_, z, ?_⟩
 replace hst := hst.of1
 replace hst := objO_get hst
 refine wv (.tuple #[I6 t726.1, .bool t726.2]) z z z (wv (.int .i64 t726.1) z z z (wv (.bool t726.2) z z z (wv (.int .i64 t726.1) z z z (wv (.bool t726.2) z z z (wl_nil (tn (wp_seq (wp_seq (wrl (wv (.bool t726.2) z z z (wl_nil (tn ?_))))))))))))
 refine bsplit t726.2 (fun hc731 => ?_) (fun hc731 => ?_)
 {
 replace hm := bif_t hc731 hm
 refine wp_ift (cvb hc731) ?_
 obtain ⟨b732, v733, e735, hst'⟩ := at_locks_Table_open hst
 clear hst
 have e735 := ptr_inj e735
 subst e735
 have hst := hst'
 clear hst'
 refine wp_region_St hst 8 [0, 1, 2, 3, 4, 5, 6, 7] [0, 1, 3, 7, 0, 0, 63, 127] [] z (by kernel_rfl) (by kernel_rfl) Tryz.mixed (by kernel_rfl) ?_
 refine wsr (Pt b557 0) 0 z z z (by kernel_rfl) (fun w hst => z) (wsr (Pt b557 0) 1 z z z (by kernel_rfl) (fun w hst => z) (wsr (Pt b557 0) 2 z z z (by kernel_rfl) (fun w hst => x_field z underlying203 z sizeOf125 z) (wsr (v733) 3 z z z (by kernel_rfl) (fun w hst => x_load z isAgg125 (hst.bc0 z)) (wsr (.int .i64 t726.1) 4 z z z (by kernel_rfl) (fun w hst => z) (wsr (.agg #[U6 a1.ID.Session, U6 a1.ID.Seq, U6 a1.Epoch, v697, v704, v711, v718]) 5 z z z (by kernel_rfl) (fun w hst => x_loadN (cs := [U6 a1.ID.Session, U6 a1.ID.Seq, U6 a1.Epoch, v697, v704, v711, v718]) z isAgg46 sizeOf46 (hst.bcs2 0 z)) ?_)))))
 obtain ⟨x736, hx737, hm⟩ := bind_some hm
 obtain ⟨h738, h739, hi740⟩ := geto_some hx737
 refine wsr (.pointer (some (eAddr v733 (t726.1.toNat * 7 + 0)))) 6 z z z (by kernel_rfl) (fun w hst => x_index z z underlying125 sizeOf46 hst.sv1 h738 h739) ?_
 refine ws_e1 7 (by kernel_rfl) ?_
 refine nxe [] (by kernel_rfl) z z ?_
 clear hst
 intro w hst
 obtain ⟨cs741, hr742, hc743⟩ := hst.og1 hi740
 obtain ⟨v744, v747, v750, v753, rfl, f745, f748, f751, f754, -⟩ := hr742
 replace hst := hst.pull6
 obtain ⟨I756, hI757, f758, hst⟩ := hst.own_fix
 replace f1_0 := f1_0.mono (rd_le hI757)
 replace f1_1 := f1_1.mono (rd_le hI757)
 replace f1_2 := f1_2.mono (rd_le hI757)
 replace f1_3 := f1_3.mono (rd_le hI757)
 replace f745 := f745.mono (ro_le hI757)
 replace f748 := f748.mono (ro_le hI757)
 replace f751 := f751.mono (ro_le hI757)
 replace f754 := f754.mono (ro_le hI757)
 replace hI0 := hI0.trans hI757
 replace hst := hst.pull5
 obtain ⟨I759, hI760, f761, hst⟩ := hst.own_fix
 replace f1_0 := f1_0.mono (rd_le hI760)
 replace f1_1 := f1_1.mono (rd_le hI760)
 replace f1_2 := f1_2.mono (rd_le hI760)
 replace f1_3 := f1_3.mono (rd_le hI760)
 replace f745 := f745.mono (ro_le hI760)
 replace f748 := f748.mono (ro_le hI760)
 replace f751 := f751.mono (ro_le hI760)
 replace f754 := f754.mono (ro_le hI760)
 replace f758 := f758.mono (ro_le hI760)
 replace hI0 := hI0.trans hI760
 replace hst := hst.pull4
 obtain ⟨I762, hI763, f764, hst⟩ := hst.own_fix
 replace f1_0 := f1_0.mono (rd_le hI763)
 replace f1_1 := f1_1.mono (rd_le hI763)
 replace f1_2 := f1_2.mono (rd_le hI763)
 replace f1_3 := f1_3.mono (rd_le hI763)
 replace f745 := f745.mono (ro_le hI763)
 replace f748 := f748.mono (ro_le hI763)
 replace f751 := f751.mono (ro_le hI763)
 replace f754 := f754.mono (ro_le hI763)
 replace f758 := f758.mono (ro_le hI763)
 replace f761 := f761.mono (ro_le hI763)
 replace hI0 := hI0.trans hI763
 replace hst := hst.pull3
 obtain ⟨I765, hI766, f767, hst⟩ := hst.own_fix
 replace f1_0 := f1_0.mono (rd_le hI766)
 replace f1_1 := f1_1.mono (rd_le hI766)
 replace f1_2 := f1_2.mono (rd_le hI766)
 replace f1_3 := f1_3.mono (rd_le hI766)
 replace f745 := f745.mono (ro_le hI766)
 replace f748 := f748.mono (ro_le hI766)
 replace f751 := f751.mono (ro_le hI766)
 replace f754 := f754.mono (ro_le hI766)
 replace f758 := f758.mono (ro_le hI766)
 replace f761 := f761.mono (ro_le hI766)
 replace f764 := f764.mono (ro_le hI766)
 replace hI0 := hI0.trans hI766
 replace hst := hst.pull1
 obtain ⟨w768, hr769, hst⟩ := hst.own_store (P := prog) (t := 46) (y := ({ ID := a1.ID, Epoch := a1.Epoch, Gets := t692, Scans := t699, Puts := t706, Data := t713 } : api_Hold)) hi740 0 (.agg #[U6 a1.ID.Session, U6 a1.ID.Seq, U6 a1.Epoch, v697, v704, v711, v718]) sizeOf46 (Nat.le_of_ble_eq_true z) (oC z (oC z (oC z (oC (one_of_sliceV (ro_sliceV f758)) (oC (one_of_sliceV (ro_sliceV f761)) (oC (one_of_sliceV (ro_sliceV f764)) (oC (one_of_sliceV (ro_sliceV f767)) oN))))))) (fun cs h => ⟨_, _, _, _, setMany_all (ty_api_Hold.len h) z, f758, f761, f764, f767, one_of_sliceV (ro_sliceV f758), one_of_sliceV (ro_sliceV f761), one_of_sliceV (ro_sliceV f764), one_of_sliceV (ro_sliceV f767)⟩)
 have hi770 := set_get hi740 ({ ID := a1.ID, Epoch := a1.Epoch, Gets := t692, Scans := t699, Puts := t706, Data := t713 } : api_Hold)
 have h771 := set_lt h739 t726.1.toNat ({ ID := a1.ID, Epoch := a1.Epoch, Gets := t692, Scans := t699, Puts := t706, Data := t713 } : api_Hold)
 refine we_unit z (x_unit hr769) ?_
 refine ws_next (pend' := []) hst (by kernel_rfl) pk_nil ?_
 refine ws_nil ?_
 intro w hst
 refine tn (wp_seq (wrl (wv (.int .i64 (0:Int)) z z z (wl_nil (tn (wp_ret ?_))))))
 replace hst := hst.pull1
 replace hst := at_locks_Table_close (pv := Pt b557 0) (x := ({ l := (o0.l.set t726.1.toNat ({ ID := a1.ID, Epoch := a1.Epoch, Gets := t692, Scans := t699, Puts := t706, Data := t713 } : api_Hold)) } : locks_Table)) hst z
 replace hst := objO_some hst
 obtain rfl := some_inj hm
 refine post_ret (vs := [Zi]) results58 (rvs_cons (rv_tmp z) rvs_nil) ?_
 exact ⟨_, z, hI0, hst.keep1⟩
}
 {
 replace hm := bif_f hc731 hm
 refine wp_iff (cvb hc731) ?_
 obtain ⟨b772, v773, e775, hst'⟩ := at_locks_Table_open hst
 clear hst
 have e775 := ptr_inj e775
 subst e775
 have hst := hst'
 clear hst'
 refine wp_region_St hst 12 [0, 1, 2, 3, 4, 5, 6, 7, 8, 9, 10, 11] [0, 0, 2, 6, 14, 0, 0, 64, 254, 511, 1023, 2047] [] z (by kernel_rfl) (by kernel_rfl) Tryz.mixed (by kernel_rfl) ?_
 refine wsr (Pt b557 0) 0 z z z (by kernel_rfl) (fun w hst => z) (wsr (Pt b557 0) 1 z z z (by kernel_rfl) (fun w hst => z) (wsr (Pt b557 0) 2 z z z (by kernel_rfl) (fun w hst => z) (wsr (Pt b557 0) 3 z z z (by kernel_rfl) (fun w hst => x_field z underlying203 z sizeOf125 z) (wsr (v773) 4 z z z (by kernel_rfl) (fun w hst => x_load z isAgg125 (hst.bc0 z)) (wsr (.int .i64 t726.1) 5 z z z (by kernel_rfl) (fun w hst => z) (wsr (.agg #[U6 a1.ID.Session, U6 a1.ID.Seq, U6 a1.Epoch, v697, v704, v711, v718]) 6 z z z (by kernel_rfl) (fun w hst => x_loadN (cs := [U6 a1.ID.Session, U6 a1.ID.Seq, U6 a1.Epoch, v697, v704, v711, v718]) z isAgg46 sizeOf46 (hst.bcs2 0 z)) ?_))))))
 refine ws_e1 7 (by kernel_rfl) ?_
 refine nxe [8, 9, 10, 11] (by kernel_rfl) z z ?_
 clear hst
 intro w hst
 replace hst := hst.pull6
 obtain ⟨I780, hI781, f782, hst⟩ := hst.own_fix
 replace f1_0 := f1_0.mono (rd_le hI781)
 replace f1_1 := f1_1.mono (rd_le hI781)
 replace f1_2 := f1_2.mono (rd_le hI781)
 replace f1_3 := f1_3.mono (rd_le hI781)
 replace hI0 := hI0.trans hI781
 replace hst := hst.pull5
 obtain ⟨I783, hI784, f785, hst⟩ := hst.own_fix
 replace f1_0 := f1_0.mono (rd_le hI784)
 replace f1_1 := f1_1.mono (rd_le hI784)
 replace f1_2 := f1_2.mono (rd_le hI784)
 replace f1_3 := f1_3.mono (rd_le hI784)
 replace f782 := f782.mono (ro_le hI784)
 replace hI0 := hI0.trans hI784
 replace hst := hst.pull4
 obtain ⟨I786, hI787, f788, hst⟩ := hst.own_fix
 replace f1_0 := f1_0.mono (rd_le hI787)
 replace f1_1 := f1_1.mono (rd_le hI787)
 replace f1_2 := f1_2.mono (rd_le hI787)
 replace f1_3 := f1_3.mono (rd_le hI787)
 replace f782 := f782.mono (ro_le hI787)
 replace f785 := f785.mono (ro_le hI787)
 replace hI0 := hI0.trans hI787
 replace hst := hst.pull3
 obtain ⟨I789, hI790, f791, hst⟩ := hst.own_fix
 replace f1_0 := f1_0.mono (rd_le hI790)
 replace f1_1 := f1_1.mono (rd_le hI790)
 replace f1_2 := f1_2.mono (rd_le hI790)
 replace f1_3 := f1_3.mono (rd_le hI790)
 replace f782 := f782.mono (ro_le hI790)
 replace f785 := f785.mono (ro_le hI790)
 replace f788 := f788.mono (ro_le hI790)
 replace hI0 := hI0.trans hI790
 obtain ⟨b792, w793, ew794, eb795, hst⟩ := hst.lits (E := ty_api_Hold) (xs := [({ ID := a1.ID, Epoch := a1.Epoch, Gets := t692, Scans := t699, Puts := t706, Data := t713 } : api_Hold)]) [[U6 a1.ID.Session, U6 a1.ID.Seq, U6 a1.Epoch, v697, v704, v711, v718]] 46 1 z (Reps.cons ⟨_, _, _, _, z, f782, f785, f788, f791, one_of_sliceV (ro_sliceV f782), one_of_sliceV (ro_sliceV f785), one_of_sliceV (ro_sliceV f788), one_of_sliceV (ro_sliceV f791)⟩ Reps.nil)
 refine we_run (v := (.slice (some ⟨b792, 0, none⟩) 1 1)) (w' := w793) z (x_als (by kernel_rfl) ew794 eb795) ?_
 refine ws_next (pend' := [(5, I6 t726.1), (4, v773), (3, Pt b557 0), (2, Pt b557 0), (1, Pt b557 0), (0, Pt b557 0)]) hst (by kernel_rfl) (pkr z z (fun w hst => z) (pkr z z (fun w hst => x_load z isAgg125 (hst.bc1 z)) (pkr z z (fun w hst => x_field z underlying203 z sizeOf125 z) (pkr z z (fun w hst => z) (pkr z z (fun w hst => z) (pkr z z (fun w hst => z) pk_nil)))))) ?_
 refine ws_e1 8 (by kernel_rfl) ?_
 refine nxe [9, 10, 11] (by kernel_rfl) z z ?_
 clear hst
 intro w hst
 replace hst := hst.pull2
 obtain ⟨t797, ht798, hm⟩ := bind_some hm
 refine wec call144 [v773, I6 t726.1, (.slice (some ⟨b792, 0, none⟩) 1 1)] z z ?_
 refine (slices_Insert_api_Hold_api_Hold_ref hst.to2 ht798).mono ?_
 rintro _ w799 ⟨v802, rfl, hst⟩
 refine ⟨_, z, ?_⟩
 replace hst := hst.of1
 refine ws_next (pend' := [(0, Pt b557 0)]) hst (by kernel_rfl) (pkr z z (fun w hst => z) pk_nil) ?_
 refine wsr (Pt b557 0) 9 z z z (by kernel_rfl) (fun w hst => z) (wsr (Pt b557 0) 10 z z z (by kernel_rfl) (fun w hst => x_field z underlying203 z sizeOf125 z) ?_)
 refine ws_e1 11 (by kernel_rfl) ?_
 refine nxe [] (by kernel_rfl) z z ?_
 clear hst
 intro w hst
 replace hst := hst.pull1
 obtain ⟨w804, hr805, hst⟩ := hst.boxStore1 (P := prog) (t := 125) (cs' := [v802]) 0 v802 (one_of_sliceV hst.sv1) sizeOf125 z z
 refine we_unit z (x_unit hr805) ?_
 refine ws_next (pend' := []) hst (by kernel_rfl) pk_nil ?_
 refine ws_nil ?_
 intro w hst
 refine tn (wp_seq (wrl (wv (.int .i64 (0:Int)) z z z (wl_nil (tn (wp_ret ?_))))))
 replace hst := hst.pull1.pull1
 replace hst := at_locks_Table_close (pv := Pt b557 0) (x := ({ l := t797 } : locks_Table)) hst z
 replace hst := objO_some hst
 obtain rfl := some_inj hm
 refine post_ret (vs := [Zi]) results58 (rvs_cons (rv_tmp z) rvs_nil) ?_
 exact ⟨_, z, hI0, hst.keep1⟩
}
}
}
}

theorem lane_State_Hold_ref {w0 w : World} {I : HL} {R : SP} {a0 : (Option lane_State)} {p0 : Value} {a1 : api_Hold} {r1_0 : Value} {r1_1 : Value} {r1_2 : Value} {r1_3 : Value} (f1_0 : Rd tyF64 R I r1_0 a1.Gets) (f1_1 : Rd tyF2 R I r1_1 a1.Scans) (f1_2 : Rd tyF64 R I r1_2 a1.Puts) (f1_3 : Rd (tyInt .u8) R I r1_3 a1.Data) (hst : St w0 w I [objO at_lane_State p0 a0] R) {r : (Int × (Option lane_State))} (hm : lane_State_Hold a0 a1 = some r) :
  Calls prog 19 #[p0, .agg #[U6 a1.ID.Session, U6 a1.ID.Seq, U6 a1.Epoch, r1_0, r1_1, r1_2, r1_3]] w fun e w' => ∃ (I' : HL), e = .returned (.int .i64 r.1) ∧ I.le I' ∧ St w0 w' I' [objO at_lane_State p0 r.2] R := by {
 rcases a0 with _ | o0
 {
 obtain ⟨rfl, hst'⟩ := objO_none hst
 clear hst
 have hst := hst'
 clear hst'
 dsimp only [lane_State_Hold] at hm
 refine calls_start (args := [.pointer none, .agg #[U6 a1.ID.Session, U6 a1.ID.Seq, U6 a1.Epoch, r1_0, r1_1, r1_2, r1_3]]) func19 z ntmps19 (Nat.le_of_ble_eq_true z) ?_
 have hI0 := HL.le.refl I
 refine wp_seq (wrl ?_)
 obtain ⟨b304, w305, ew306, eb307, hst⟩ := hst.box [U6 a1.ID.Session, U6 a1.ID.Seq, U6 a1.Epoch, r1_0, r1_1, r1_2, r1_3] 46
 refine wl_run (v := Pt b304 0) (w' := w305) z z (x_al (by kernel_rfl) ew306 eb307) ?_
 refine wv (.int .i64 (0:Int)) z z z (wl_nil (tn (wp_seq (wp_seq (wrl (wv (.pointer none) z z z (wv (.bool true) z z (by kernel_rfl) (wl_nil (tn ?_)))))))))
 refine wp_ift z ?_
 refine wp_seq (wrl (wv (.int .i64 (2:Int)) z z z (wl_nil (tn (wp_ret (then_r ?_))))))
 replace hst := hst.objO_nil at_lane_State
 obtain rfl := some_inj hm
 refine post_ret (vs := [I6 (2:Int)]) results19 (rvs_cons (rv_tmp z) rvs_nil) ?_
 exact ⟨_, z, hI0, hst.keep1⟩
}
 {
 replace hst := objO_get hst
 dsimp only [lane_State_Hold] at hm
 refine calls_start (args := [p0, .agg #[U6 a1.ID.Session, U6 a1.ID.Seq, U6 a1.Epoch, r1_0, r1_1, r1_2, r1_3]]) func19 z ntmps19 (Nat.le_of_ble_eq_true z) ?_
 have hI0 := HL.le.refl I
 refine wp_seq (wrl ?_)
 obtain ⟨b309, w310, ew311, eb312, hst⟩ := hst.box [U6 a1.ID.Session, U6 a1.ID.Seq, U6 a1.Epoch, r1_0, r1_1, r1_2, r1_3] 46
 refine wl_run (v := Pt b309 0) (w' := w310) z z (x_al (by kernel_rfl) ew311 eb312) ?_
 refine wv (.int .i64 (0:Int)) z z z (wl_nil (tn (wp_seq (wp_seq (wrl (wv (p0) z z z ?_))))))
 replace hst := hst.pull1
 obtain ⟨b314, v315, v317, v319, v321, v323, v325, v327, rfl, hst'⟩ := at_lane_State_open hst
 clear hst
 have hst := hst'
 clear hst'
 refine wv (.bool false) z z (by kernel_rfl) (wl_nil (tn ?_))
 refine wp_iff z ?_
 refine wp_skip (tn (wp_seq ?_))
 obtain ⟨y410, hm, hx411⟩ := bind_some hm
 refine wp_mid (fun a w => ∃ (I407 : HL) (z387 : Int) (z388 : Int) (z389 : Int) (z392 : (List Nat)) (z396 : (List (Nat × Nat))) (z400 : (List Nat)) (z404 : (List Int)) (z406 : Bool) (b386 : Nat) (v391 : Value) (v395 : Value) (v399 : Value) (v403 : Value) (σ408 : Nat → Value), (lane_State_Hold_j0 a1 o0) (z387, z388, z389, z392, z396, z400, z404, z406) = some r ∧ a = Fr 59 (upd (upd (upd (upd σ408 0 (Pt b314 0)) 3 (Pt b309 0)) 5 (Pt b386 0)) 6 (.bool z406)) ∧ I.le I407 ∧ Ro tyF64 I407 v391 z392 ∧ Ro tyF2 I407 v395 z396 ∧ Ro tyF64 I407 v399 z400 ∧ Ro (tyInt .u8) I407 v403 z404 ∧ St w0 w I407 [at_lane_State (Pt b314 0) o0, cells b309 [U6 a1.ID.Session, U6 a1.ID.Seq, U6 a1.Epoch, r1_0, r1_1, r1_2, r1_3], cells b386 [U6 z387, U6 z388, U6 z389, v391, v395, v399, v403]] R) ?_ ?_
 {
 have hL412 := HL.le.refl I
 refine wp_region_St hst 13 [0, 1, 2, 3, 4, 5, 6, 7, 8, 9, 10, 11, 12] [0, 1, 3, 7, 0, 16, 63, 127, 255, 255, 0, 1535, 4095] [] z (by kernel_rfl) (by kernel_rfl) Tryz.mixed (by kernel_rfl) ?_
 refine wsr (Pt b314 0) 0 z z z (by kernel_rfl) (fun w hst => z) (wsr (Pt b314 0) 1 z z z (by kernel_rfl) (fun w hst => z) (wsr (Pt b314 3) 2 z z z (by kernel_rfl) (fun w hst => x_field z underlying111 z sizeOf103 z) (wsr (v317) 3 z z z (by kernel_rfl) (fun w hst => x_load z isAgg103 (hst.bc0 z)) (wsr (Pt b309 0) 4 z z z (by kernel_rfl) (fun w hst => x_field z underlying46 z sizeOf28 z) (wsr (.agg #[U6 a1.ID.Session, U6 a1.ID.Seq]) 5 z z z (by kernel_rfl) (fun w hst => x_loadN (cs := [U6 a1.ID.Session, U6 a1.ID.Seq]) z isAgg28 sizeOf28 (hst.bcs8 0 z)) ?_)))))
 refine ws_e2 6 10 (by kernel_rfl) ?_ ?_
 {
 refine nxe [7, 8, 9, 10, 11, 12] (by kernel_rfl) z z ?_
 clear hst
 intro w hst
 replace hst := hst.pull2
 obtain ⟨t329, ht330, hm⟩ := bind_some hm
 refine wec call56 [v317, .agg #[U6 a1.ID.Session, U6 a1.ID.Seq]] z z ?_
 refine (locks_Table_Get_ref hst.to1 ht330).mono ?_
 rintro _ w331 ⟨I332, v334, v337, v340, v343, rfl, hI333, f336, f339, f342, f345, hst⟩
 refine ⟨_, z, ?_⟩
 replace hst := hst.of1
 replace f1_0 := f1_0.mono (rd_le hI333)
 replace f1_1 := f1_1.mono (rd_le hI333)
 replace f1_2 := f1_2.mono (rd_le hI333)
 replace f1_3 := f1_3.mono (rd_le hI333)
 replace hI0 := hI0.trans hI333
 replace hL412 := hL412.trans hI333
 refine ws_next (pend' := []) hst (by kernel_rfl) pk_nil ?_
 refine wsr (.tuple #[.agg #[U6 t329.1.ID.Session, U6 t329.1.ID.Seq, U6 t329.1.Epoch, v334, v337, v340, v343], .bool t329.2]) 7 z z z (by kernel_rfl) (fun w hst => z) (wsr (.agg #[U6 t329.1.ID.Session, U6 t329.1.ID.Seq, U6 t329.1.Epoch, v334, v337, v340, v343]) 8 z z z (by kernel_rfl) (fun w hst => z) (wsr (.bool t329.2) 9 z z z (by kernel_rfl) (fun w hst => z) ?_))
 refine ws_e1 10 (by kernel_rfl) ?_
 refine nxe [11, 12] (by kernel_rfl) z z ?_
 clear hst
 intro w hst
 obtain ⟨b350, w351, ew352, eb353, hst⟩ := hst.box [Zu, Zu, Zu, Zs, Zs, Zs, Zs] 46
 refine we_run (v := Pt b350 0) (w' := w351) z (x_al (by kernel_rfl) ew352 eb353) ?_
 refine ws_next (pend' := [(9, .bool t329.2), (8, .agg #[U6 t329.1.ID.Session, U6 t329.1.ID.Seq, U6 t329.1.Epoch, v334, v337, v340, v343]), (7, .tuple #[.agg #[U6 t329.1.ID.Session, U6 t329.1.ID.Seq, U6 t329.1.Epoch, v334, v337, v340, v343], .bool t329.2])]) hst (by kernel_rfl) (pkr z z (fun w hst => z) (pkr z z (fun w hst => z) (pkr z z (fun w hst => z) pk_nil))) ?_
 refine ws_e1 11 (by kernel_rfl) ?_
 refine nxe [12] (by kernel_rfl) z z ?_
 clear hst
 intro w hst
 obtain ⟨w355, hr356, hst⟩ := hst.bx [U6 t329.1.ID.Session, U6 t329.1.ID.Seq, U6 t329.1.Epoch, v334, v337, v340, v343] sizeOf46 z (oC z (oC z (oC z (oC (one_of_sliceV (ro_sliceV f336)) (oC (one_of_sliceV (ro_sliceV f339)) (oC (one_of_sliceV (ro_sliceV f342)) (oC (one_of_sliceV (ro_sliceV f345)) oN))))))) (by kernel_rfl)
 refine we_unit z (x_unit hr356) ?_
 refine ws_next (pend' := [(9, .bool t329.2)]) hst (by kernel_rfl) (pkr z z (fun w hst => z) pk_nil) ?_
 refine wsr (.bool t329.2) 12 z z z (by kernel_rfl) (fun w hst => z) ?_
 refine ws_nil ?_
 intro w hst
 refine ⟨z, ?_⟩
 replace hst := hst.pull8.pull8.pull8.pull8.pull8.pull6.pull8.pull8
 replace hst := at_lane_State_close (pv := Pt b314 0) (x := o0) hst z
 replace hst := hst.pull1.pull2.pull2.keep3
 obtain rfl := some_inj hm
 exact ⟨_, t329.1.ID.Session, t329.1.ID.Seq, t329.1.Epoch, t329.1.Gets, t329.1.Scans, t329.1.Puts, t329.1.Data, t329.2, b350, v334, v337, v340, v343, _, hx411, (fu 0 (Pt b314 0) z (fu 3 (Pt b309 0) z (fu 5 (Pt b350 0) z (fu 6 (.bool t329.2) z z)))), hL412, f336, f339, f342, f345, hst⟩
}
 {
 refine nxe [6, 7, 8, 9, 11, 12] (by kernel_rfl) z z ?_
 clear hst
 intro w hst
 obtain ⟨b361, w362, ew363, eb364, hst⟩ := hst.box [Zu, Zu, Zu, Zs, Zs, Zs, Zs] 46
 refine we_run (v := Pt b361 0) (w' := w362) z (x_al (by kernel_rfl) ew363 eb364) ?_
 refine ws_next (pend' := [(5, .agg #[U6 a1.ID.Session, U6 a1.ID.Seq]), (4, Pt b309 0), (3, v317), (2, Pt b314 3), (1, Pt b314 0), (0, Pt b314 0)]) hst (by kernel_rfl) (pkr z z (fun w hst => x_loadN (cs := [U6 a1.ID.Session, U6 a1.ID.Seq]) z isAgg28 sizeOf28 (hst.bcs9 0 z)) (pkr z z (fun w hst => x_field z underlying46 z sizeOf28 z) (pkr z z (fun w hst => x_load z isAgg103 (hst.bc1 z)) (pkr z z (fun w hst => x_field z underlying111 z sizeOf103 z) (pkr z z (fun w hst => z) (pkr z z (fun w hst => z) pk_nil)))))) ?_
 refine ws_e1 6 (by kernel_rfl) ?_
 refine nxe [7, 8, 9, 11, 12] (by kernel_rfl) z z ?_
 clear hst
 intro w hst
 replace hst := hst.pull3
 obtain ⟨t366, ht367, hm⟩ := bind_some hm
 refine wec call56 [v317, .agg #[U6 a1.ID.Session, U6 a1.ID.Seq]] z z ?_
 refine (locks_Table_Get_ref hst.to1 ht367).mono ?_
 rintro _ w368 ⟨I369, v371, v374, v377, v380, rfl, hI370, f373, f376, f379, f382, hst⟩
 refine ⟨_, z, ?_⟩
 replace hst := hst.of1
 replace f1_0 := f1_0.mono (rd_le hI370)
 replace f1_1 := f1_1.mono (rd_le hI370)
 replace f1_2 := f1_2.mono (rd_le hI370)
 replace f1_3 := f1_3.mono (rd_le hI370)
 replace hI0 := hI0.trans hI370
 replace hL412 := hL412.trans hI370
 refine ws_next (pend' := []) hst (by kernel_rfl) pk_nil ?_
 refine wsr (.tuple #[.agg #[U6 t366.1.ID.Session, U6 t366.1.ID.Seq, U6 t366.1.Epoch, v371, v374, v377, v380], .bool t366.2]) 7 z z z (by kernel_rfl) (fun w hst => z) (wsr (.agg #[U6 t366.1.ID.Session, U6 t366.1.ID.Seq, U6 t366.1.Epoch, v371, v374, v377, v380]) 8 z z z (by kernel_rfl) (fun w hst => z) (wsr (.bool t366.2) 9 z z z (by kernel_rfl) (fun w hst => z) ?_))
 refine ws_e1 11 (by kernel_rfl) ?_
 refine nxe [12] (by kernel_rfl) z z ?_
 clear hst
 intro w hst
 replace hst := hst.pull1
 obtain ⟨w383, hr384, hst⟩ := hst.bx [U6 t366.1.ID.Session, U6 t366.1.ID.Seq, U6 t366.1.Epoch, v371, v374, v377, v380] sizeOf46 z (oC z (oC z (oC z (oC (one_of_sliceV (ro_sliceV f373)) (oC (one_of_sliceV (ro_sliceV f376)) (oC (one_of_sliceV (ro_sliceV f379)) (oC (one_of_sliceV (ro_sliceV f382)) oN))))))) (by kernel_rfl)
 refine we_unit z (x_unit hr384) ?_
 refine ws_next (pend' := [(9, .bool t366.2)]) hst (by kernel_rfl) (pkr z z (fun w hst => z) pk_nil) ?_
 refine wsr (.bool t366.2) 12 z z z (by kernel_rfl) (fun w hst => z) ?_
 refine ws_nil ?_
 intro w hst
 refine ⟨z, ?_⟩
 replace hst := hst.pull8.pull8.pull8.pull8.pull8.pull6.pull8.pull8
 replace hst := at_lane_State_close (pv := Pt b314 0) (x := o0) hst z
 replace hst := hst.pull1.pull2.pull2.keep3
 obtain rfl := some_inj hm
 exact ⟨_, t366.1.ID.Session, t366.1.ID.Seq, t366.1.Epoch, t366.1.Gets, t366.1.Scans, t366.1.Puts, t366.1.Data, t366.2, b361, v371, v374, v377, v380, _, hx411, (fu 0 (Pt b314 0) z (fu 3 (Pt b309 0) z (fu 5 (Pt b361 0) z (fu 6 (.bool t366.2) z z)))), hL412, f373, f376, f379, f382, hst⟩
}
}
 {
 clear hst
 rintro _ w413 ⟨I407, z387, z388, z389, z392, z396, z400, z404, z406, b386, v391, v395, v399, v403, σ408, hm, rfl, hL409, f393, f397, f401, f405, hst⟩
 dsimp only [lane_State_Hold_j0] at hm
 replace f1_0 := f1_0.mono (rd_le hL409)
 replace f1_1 := f1_1.mono (rd_le hL409)
 replace f1_2 := f1_2.mono (rd_le hL409)
 replace f1_3 := f1_3.mono (rd_le hL409)
 replace hI0 := hI0.trans hL409
 refine tn ?_
 obtain ⟨y458, hm, hx459⟩ := joinO_some hm
 refine wp_cut (fun a w => ∃ (σ456 : Nat → Value), (lane_State_Hold_j1 o0 a1) () = some r ∧ a = Fr 59 (upd (upd σ456 0 (Pt b314 0)) 3 (Pt b309 0)) ∧ St w0 w I407 [at_lane_State (Pt b314 0) o0, cells b309 [U6 a1.ID.Session, U6 a1.ID.Seq, U6 a1.Epoch, r1_0, r1_1, r1_2, r1_3]] R) ?_ ?_
 {
 refine wp_block (wp_seq (wrl (wv (.bool z406) z z z (wv (.bool z406) z z z ?_))))
 refine bsplit z406 (fun hc414 => ?_) (fun hc414 => ?_)
 {
 replace hm := bif_t hc414 hm
 refine wv (.agg #[U6 z387, U6 z388, U6 z389, v391, v395, v399, v403]) ((wanted_eq z z z (cvb hc414)).trans z) z (x_loadN (cs := [U6 z387, U6 z388, U6 z389, v391, v395, v399, v403]) z isAgg46 sizeOf46 (hst.bcs2 0 z)) (wv (.agg #[U6 a1.ID.Session, U6 a1.ID.Seq, U6 a1.Epoch, r1_0, r1_1, r1_2, r1_3]) ((wanted_eq z z z (cvb hc414)).trans z) z (x_loadN (cs := [U6 a1.ID.Session, U6 a1.ID.Seq, U6 a1.Epoch, r1_0, r1_1, r1_2, r1_3]) z isAgg46 sizeOf46 (hst.bcs1 0 z)) ?_)
 obtain ⟨t415, ht416, hm⟩ := bind_some hm
 refine wl_call ((wanted_eq z z z (cvb hc414)).trans z) z (x_call call57 z (vs := [.agg #[U6 z387, U6 z388, U6 z389, v391, v395, v399, v403], .agg #[U6 a1.ID.Session, U6 a1.ID.Seq, U6 a1.Epoch, r1_0, r1_1, r1_2, r1_3]]) z) ?_
 refine (locks_Same_ref (a0 := ({ ID := ({ Session := z387, Seq := z388 } : api_ID), Epoch := z389, Gets := z392, Scans := z396, Puts := z400, Data := z404 } : api_Hold)) (f393.mono ro_rd) (f397.mono ro_rd) (f401.mono ro_rd) (f405.mono ro_rd) (f1_0.mono (rd_weak _)) (f1_1.mono (rd_weak _)) (f1_2.mono (rd_weak _)) (f1_3.mono (rd_weak _)) hst.to0 ht416).mono ?_
 rintro _ w417 ⟨rfl, hst⟩
 refine ⟨_, z, ?_⟩
 replace hst := hst.of0
 refine wv (.bool t415) z z (x_pick_t hc414 z z) (wv (.bool t415) z z z (wl_nil (tn ?_)))
 refine bsplit t415 (fun hc420 => ?_) (fun hc420 => ?_)
 {
 replace hm := bif_t hc420 hm
 refine wp_ift (cvb hc420) ?_
 refine wp_seq (wrl (wv (.int .i64 (0:Int)) z z z (wl_nil (tn (wp_ret (blk_r (then_r ?_)))))))
 replace hm := inr_up hm hx459
 replace hst := objO_some hst
 obtain rfl := some_inj hm
 refine post_ret (vs := [Zi]) results19 (rvs_cons (rv_tmp z) rvs_nil) ?_
 exact ⟨_, z, hI0, hst.keep1⟩
}
 {
 replace hm := bif_f hc420 hm
 refine wp_iff (cvb hc420) ?_
 refine wp_seq (wrl (wv (.bool z406) z z z (wv (.bool z406) z z z (wv (Pt b309 0) ((wanted_eq z z z (cvb hc414)).trans z) z (x_field z underlying46 z sizeOf28 z) (wv (Pt b309 0) ((wanted_eq z z z (cvb hc414)).trans z) z (x_field z underlying28 z sizeOf26 z) (wv (.int .u64 a1.ID.Session) ((wanted_eq z z z (cvb hc414)).trans z) z (x_load z isAgg26 (hst.bc1 z)) (wv (.bool (decide (a1.ID.Session < (9223372036854775808:Int)))) ((wanted_eq z z z (cvb hc414)).trans z) z z (wv (.bool (decide (a1.ID.Session < (9223372036854775808:Int)))) ((wanted_eq z z z (cvb hc414)).trans z) z z ?_))))))))
 refine bsplit (decide (a1.ID.Session < (9223372036854775808:Int))) (fun hc421 => ?_) (fun hc421 => ?_)
 {
 replace hm := bif_t hc421 hm
 refine wo hc421 z z z z z z (wo hc421 z z z z z z (wo hc421 z z z z z z (wo hc421 z z z z z z (wo hc421 z z z z z z (wv (.bool true) ((wanted_eq z z z (cvb hc414)).trans z) z (x_pick_t hc421 z z) (wv (.bool true) z z (x_pick_t hc414 z z) (wv (.bool true) z z z (wl_nil (tn ?_)))))))))
 refine wp_ift z ?_
 refine wp_seq (wrl (wv (.int .i64 (8:Int)) z z z (wl_nil (tn (wp_ret (blk_r (then_r ?_)))))))
 replace hm := inr_up hm hx459
 replace hst := objO_some hst
 obtain rfl := some_inj hm
 refine post_ret (vs := [I6 (8:Int)]) results19 (rvs_cons (rv_tmp z) rvs_nil) ?_
 exact ⟨_, z, hI0, hst.keep1⟩
}
 {
 replace hm := bif_f hc421 hm
 refine wv (Pt b309 2) ((wanted_eq z z z (cvb hc421)).trans z) z (x_field z underlying46 z sizeOf26 z) (wv (.int .u64 a1.Epoch) ((wanted_eq z z z (cvb hc421)).trans z) z (x_load z isAgg26 (hst.bc1 z)) (wv (Pt b386 2) ((wanted_eq z z z (cvb hc421)).trans z) z (x_field z underlying46 z sizeOf26 z) (wv (.int .u64 z389) ((wanted_eq z z z (cvb hc421)).trans z) z (x_load z isAgg26 (hst.bc2 z)) (wv (.bool (decide (a1.Epoch ≤ z389))) ((wanted_eq z z z (cvb hc421)).trans z) z z (wv (.bool (decide (a1.Epoch ≤ z389))) ((wanted_eq z z z (cvb hc414)).trans z) z (x_pick_f hc421 z z) (wv (.bool (decide (a1.Epoch ≤ z389))) z z (x_pick_t hc414 z z) (wv (.bool (decide (a1.Epoch ≤ z389))) z z z (wl_nil (tn ?_)))))))))
 refine bsplit (decide (a1.Epoch ≤ z389)) (fun hc422 => ?_) (fun hc422 => ?_)
 {
 replace hm := bif_t hc422 hm
 refine wp_ift (cvb hc422) ?_
 refine wp_seq (wrl (wv (.int .i64 (8:Int)) z z z (wl_nil (tn (wp_ret (blk_r (then_r ?_)))))))
 replace hm := inr_up hm hx459
 replace hst := objO_some hst
 obtain rfl := some_inj hm
 refine post_ret (vs := [I6 (8:Int)]) results19 (rvs_cons (rv_tmp z) rvs_nil) ?_
 exact ⟨_, z, hI0, hst.keep1⟩
}
 {
 replace hm := bif_f hc422 hm
 refine wp_iff (cvb hc422) ?_
 refine wp_seq ?_
 obtain ⟨b423, v424, v426, v428, v430, v432, v434, v436, e438, hst'⟩ := at_lane_State_open hst
 clear hst
 have e438 := ptr_inj e438
 subst e438
 have hst := hst'
 clear hst'
 refine wq_regionS hst Tryz.mixed (by kernel_rfl) ?_
 refine wq_run (v := .bool z406) z z (fun w hst => z) ?_
 refine wq_run (v := .bool (!z406)) z z (fun w hst => z) ?_
 refine wq_run (v := .bool (!z406)) z z (fun w hst => z) ?_
 refine wq_off ((wanted_eq z z z (cvb (not_f hc414))).trans z) z ?_
 refine wq_off ((wanted_eq z z z (cvb (not_f hc414))).trans z) z ?_
 refine wq_off ((wanted_eq z z z (cvb (not_f hc414))).trans z) z ?_
 refine wq_off ((wanted_eq z z z (cvb (not_f hc414))).trans z) z ?_
 refine wq_off ((wanted_eq z z z (cvb (not_f hc414))).trans z) z ?_
 refine wq_off ((wanted_eq z z z (cvb (not_f hc414))).trans z) z ?_
 refine wq_off ((wanted_eq z z z (cvb (not_f hc414))).trans z) z ?_
 refine wq_run (v := .bool false) z z (fun w hst => x_pick_f (not_f hc414) z z) ?_
 refine wq_run (v := .bool false) z z (fun w hst => z) ?_
 refine wq_nil ?_
 intro w hst
 refine tn ?_
 refine wp_iff z ?_
 refine wp_skip (blk_n (tn ?_))
 replace hst := hst.pull7.pull7.pull7.pull7.pull7.pull7.pull7.pull7
 replace hst := at_lane_State_close (pv := Pt b314 0) (x := o0) hst z
 replace hst := hst.pull1.pull1.keep2
 obtain rfl := some_inj hm
 exact ⟨_, hx459, (fu 0 (Pt b314 0) z (fu 3 (Pt b309 0) z z)), hst⟩
}
}
}
}
 {
 replace hm := bif_f hc414 hm
 refine wo hc414 z z z z z z (wo hc414 z z z z z z (wo hc414 z z z z z z (wv (.bool false) z z (x_pick_f hc414 z z) (wv (.bool false) z z z (wl_nil (tn ?_))))))
 refine wp_iff z ?_
 refine wp_seq (wrl (wv (.bool z406) z z z (wv (.bool z406) z z z (wo hc414 z z z z z z (wo hc414 z z z z z z (wo hc414 z z z z z z (wo hc414 z z z z z z (wo hc414 z z z z z z (wl_off (wanted_undef z z z z) z (wl_off (wanted_undef z z z z) z (wl_off (wanted_undef z z z z) z (wl_off (wanted_undef z z z z) z (wl_off (wanted_undef z z z z) z ?_)))))))))))))
 refine wo hc414 z z z z z z (wv (.bool false) z z (x_pick_f hc414 z z) (wv (.bool false) z z z (wl_nil (tn ?_))))
 refine wp_iff z ?_
 refine wp_seq ?_
 obtain ⟨b439, v440, v442, v444, v446, v448, v450, v452, e454, hst'⟩ := at_lane_State_open hst
 clear hst
 have e454 := ptr_inj e454
 subst e454
 have hst := hst'
 clear hst'
 refine wq_regionS hst Tryz.mixed (by kernel_rfl) ?_
 refine wq_run (v := .bool z406) z z (fun w hst => z) ?_
 refine wq_run (v := .bool (!z406)) z z (fun w hst => z) ?_
 refine wq_run (v := .bool (!z406)) z z (fun w hst => z) ?_
 refine wq_run (v := Pt b309 2) ((wanted_eq z z z (cvb (not_tt hc414))).trans z) z (fun w hst => x_field z underlying46 z sizeOf26 z) ?_
 refine wq_run (v := .int .u64 a1.Epoch) ((wanted_eq z z z (cvb (not_tt hc414))).trans z) z (fun w hst => x_load z isAgg26 (hst.bc8 z)) ?_
 refine wq_run (v := Pt b314 0) ((wanted_eq z z z (cvb (not_tt hc414))).trans z) z (fun w hst => z) ?_
 refine wq_run (v := Pt b314 0) ((wanted_eq z z z (cvb (not_tt hc414))).trans z) z (fun w hst => z) ?_
 refine wq_run (v := Pt b314 1) ((wanted_eq z z z (cvb (not_tt hc414))).trans z) z (fun w hst => x_field z underlying111 z sizeOf26 z) ?_
 refine wq_run (v := .int .u64 o0.epoch) ((wanted_eq z z z (cvb (not_tt hc414))).trans z) z (fun w hst => x_load z isAgg26 (hst.bc0 z)) ?_
 refine wq_run (v := .bool (a1.Epoch != o0.epoch)) ((wanted_eq z z z (cvb (not_tt hc414))).trans z) z (fun w hst => z) ?_
 refine wq_run (v := .bool (a1.Epoch != o0.epoch)) z z (fun w hst => x_pick_t (not_tt hc414) z z) ?_
 refine wq_run (v := .bool (a1.Epoch != o0.epoch)) z z (fun w hst => z) ?_
 refine wq_nil ?_
 intro w hst
 refine tn ?_
 refine bsplit (a1.Epoch != o0.epoch) (fun hc455 => ?_) (fun hc455 => ?_)
 {
 replace hm := bif_t hc455 hm
 refine wp_ift (cvb hc455) ?_
 refine wp_seq (wrl (wv (.int .i64 (9:Int)) z z z (wl_nil (tn (wp_ret (blk_r (then_r ?_)))))))
 replace hm := inr_up hm hx459
 replace hst := hst.pull7.pull7.pull7.pull7.pull7.pull7.pull7.pull7
 replace hst := at_lane_State_close (pv := Pt b314 0) (x := o0) hst z
 replace hst := objO_some hst
 obtain rfl := some_inj hm
 refine post_ret (vs := [I6 (9:Int)]) results19 (rvs_cons (rv_tmp z) rvs_nil) ?_
 exact ⟨_, z, hI0, hst.keep1⟩
}
 {
 replace hm := bif_f hc455 hm
 refine wp_iff (cvb hc455) ?_
 refine wp_skip (blk_n (tn ?_))
 replace hst := hst.pull7.pull7.pull7.pull7.pull7.pull7.pull7.pull7
 replace hst := at_lane_State_close (pv := Pt b314 0) (x := o0) hst z
 replace hst := hst.pull1.pull1.keep2
 obtain rfl := some_inj hm
 exact ⟨_, hx459, (fu 0 (Pt b314 0) z (fu 3 (Pt b309 0) z z)), hst⟩
}
}
}
 {
 clear hst
 rintro _ w460 ⟨σ456, hm, rfl, hst⟩
 dsimp only [lane_State_Hold_j1] at hm
 refine wp_seq ?_
 obtain ⟨b461, v462, v464, v466, v468, v470, v472, v474, e476, hst'⟩ := at_lane_State_open hst
 clear hst
 have e476 := ptr_inj e476
 subst e476
 have hst := hst'
 clear hst'
 refine wp_region_St hst 7 [0, 1, 2, 3, 4, 5, 6] [0, 1, 3, 7, 0, 31, 63] [] z (by kernel_rfl) (by kernel_rfl) Tryz.mixed (by kernel_rfl) ?_
 refine wsr (Pt b314 0) 0 z z z (by kernel_rfl) (fun w hst => z) (wsr (Pt b314 0) 1 z z z (by kernel_rfl) (fun w hst => z) (wsr (Pt b314 3) 2 z z z (by kernel_rfl) (fun w hst => x_field z underlying111 z sizeOf103 z) (wsr (v464) 3 z z z (by kernel_rfl) (fun w hst => x_load z isAgg103 (hst.bc0 z)) (wsr (.agg #[U6 a1.ID.Session, U6 a1.ID.Seq, U6 a1.Epoch, r1_0, r1_1, r1_2, r1_3]) 4 z z z (by kernel_rfl) (fun w hst => x_loadN (cs := [U6 a1.ID.Session, U6 a1.ID.Seq, U6 a1.Epoch, r1_0, r1_1, r1_2, r1_3]) z isAgg46 sizeOf46 (hst.bcs8 0 z)) ?_))))
 refine ws_e1 5 (by kernel_rfl) ?_
 refine nxe [6] (by kernel_rfl) z z ?_
 clear hst
 intro w hst
 replace hst := hst.pull2
 obtain ⟨t477, ht478, hm⟩ := bind_some hm
 refine wec call58 [v464, .agg #[U6 a1.ID.Session, U6 a1.ID.Seq, U6 a1.Epoch, r1_0, r1_1, r1_2, r1_3]] z z ?_
 refine (locks_Table_Take_ref (f1_0.mono (rd_weak _)) (f1_1.mono (rd_weak _)) (f1_2.mono (rd_weak _)) (f1_3.mono (rd_weak _)) hst.to1 ht478).mono ?_
 rintro _ w479 ⟨I480, rfl, hI481, hst⟩
 refine ⟨_, z, ?_⟩
 replace hst := hst.of1
 replace f1_0 := f1_0.mono (rd_le hI481)
 replace f1_1 := f1_1.mono (rd_le hI481)
 replace f1_2 := f1_2.mono (rd_le hI481)
 replace f1_3 := f1_3.mono (rd_le hI481)
 replace f393 := f393.mono (ro_le hI481)
 replace f397 := f397.mono (ro_le hI481)
 replace f401 := f401.mono (ro_le hI481)
 replace f405 := f405.mono (ro_le hI481)
 replace hI0 := hI0.trans hI481
 refine ws_next (pend' := []) hst (by kernel_rfl) pk_nil ?_
 refine wsr (.int .i64 t477.1) 6 z z z (by kernel_rfl) (fun w hst => z) ?_
 refine ws_nil ?_
 intro w hst
 refine tn (wp_ret ?_)
 replace hst := hst.pull7.pull7.pull7.pull7.pull7.pull5.pull7.pull7
 replace hst := at_lane_State_close (pv := Pt b314 0) (x := ({ wide := o0.wide, epoch := o0.epoch, store := o0.store, locks := t477.2, last := o0.last, book := o0.book, open_ := o0.open_, out := o0.out, used := o0.used } : lane_State)) hst z
 replace hst := objO_some hst
 obtain rfl := some_inj hm
 refine post_ret (vs := [I6 t477.1]) results19 (rvs_cons (rv_tmp z) rvs_nil) ?_
 exact ⟨_, z, hI0, hst.keep1⟩
}
}
}
}

theorem mvcc_Store_find_ref {w0 w : World} {I : HL} {R : SP} {a0 : (Option mvcc_Store)} {p0 : Value} {a1 : Int}  (hst : St w0 w I [objO at_mvcc_Store p0 a0] R) {r : (Int × Bool)} (hm : mvcc_Store_find a0 a1 = some r) :
  Calls prog 146 #[p0, U6 a1] w fun e w' => e = .returned (.tuple #[I6 r.1, .bool r.2]) ∧ St w0 w' I [objO at_mvcc_Store p0 a0] R := by {
 rcases a0 with _ | o0
 {
 obtain ⟨rfl, hst'⟩ := objO_none hst
 clear hst
 have hst := hst'
 clear hst'
 dsimp only [mvcc_Store_find] at hm
 refine calls_start (args := [.pointer none, U6 a1]) func146 z ntmps146 (Nat.le_of_ble_eq_true z) ?_
 refine wp_seq (wrl ?_)
 obtain ⟨b286, w287, ew288, eb289, hst⟩ := hst.box [.pointer none] 101
 refine wl_run (v := Pt b286 0) (w' := w287) z z (x_al (by kernel_rfl) ew288 eb289) ?_
 obtain ⟨b291, w292, ew293, eb294, hst⟩ := hst.box [U6 a1] 26
 refine wl_run (v := Pt b291 0) (w' := w292) z z (x_al (by kernel_rfl) ew293 eb294) ?_
 refine wv (.int .i64 (0:Int)) z z z (wv (.bool false) z z z (wl_nil (tn (wp_seq (wp_seq (wrl (wv (.pointer none) z z (x_load z isAgg101 (hst.bc1 z)) (wv (.bool true) z z (by kernel_rfl) (wl_nil (tn ?_))))))))))
 refine wp_ift z ?_
 refine wp_seq (wrl (wv (.int .i64 (0:Int)) z z z (wv (.bool false) z z z (wl_nil (tn (wp_ret (then_r ?_)))))))
 replace hst := hst.objO_nil at_mvcc_Store
 obtain rfl := some_inj hm
 refine post_ret (vs := [Zi, .bool false]) results146 (rvs_cons (rv_tmp z) (rvs_cons (rv_tmp z) rvs_nil)) ?_
 exact ⟨z, hst.keep1⟩
}
 {
 replace hst := objO_get hst
 dsimp only [mvcc_Store_find] at hm
 refine calls_start (args := [p0, U6 a1]) func146 z ntmps146 (Nat.le_of_ble_eq_true z) ?_
 refine wp_seq (wrl ?_)
 obtain ⟨b296, v297, rfl, hst'⟩ := at_mvcc_Store_open hst
 clear hst
 have hst := hst'
 clear hst'
 obtain ⟨b299, w300, ew301, eb302, hst⟩ := hst.box [Pt b296 0] 101
 refine wl_run (v := Pt b299 0) (w' := w300) z z (x_al (by kernel_rfl) ew301 eb302) ?_
 obtain ⟨b304, w305, ew306, eb307, hst⟩ := hst.box [U6 a1] 26
 refine wl_run (v := Pt b304 0) (w' := w305) z z (x_al (by kernel_rfl) ew306 eb307) ?_
 refine wv (.int .i64 (0:Int)) z z z (wv (.bool false) z z z (wl_nil (tn (wp_seq (wp_seq (wrl (wv (Pt b296 0) z z (x_load z isAgg101 (hst.bc1 z)) (wv (.bool false) z z (by kernel_rfl) (wl_nil (tn ?_))))))))))
 refine wp_iff z ?_
 refine wp_skip (tn (wp_seq (wrl ?_)))
 refine wv (Pt b296 0) z z (x_load z isAgg101 (hst.bc1 z)) (wv (Pt b296 0) z z z (wv (Pt b296 0) z z (x_field z underlying201 z sizeOf199 z) (wv (v297) z z (x_load z isAgg199 (hst.bc2 z)) (wv (.int .i64 ((o0.rows).length : Int)) z z (x_len z underlying199 (hst.nestsv 3 z)) (wv (.func (.func 198) #[] #[Pt b299 0, Pt b304 0]) z z (by kernel_rfl) ?_)))))
 obtain ⟨y359, hq360, hm⟩ := bind_some hm
 refine wl_call z z (x_callv call179 (caps := []) z (vs := [I6 ((o0.rows).length : Int), .func (.func 198) #[] #[Pt b299 0, Pt b304 0]]) z) ?_
 refine Calls.mono (show Calls prog 179 #[I6 ((o0.rows).length : Int), .func (.func 198) #[] #[Pt b299 0, Pt b304 0]] _ (fun e w' => ∃ (z357 : Int), z357 = y359 ∧ e = .returned (.int .i64 z357) ∧ St w0 w' I [cells b296 [v297], ownN nest_mvcc_row v297 o0.rows, cells b299 [Pt b296 0], cells b304 [U6 a1]] R) from ?_) ?_
 {
 clear hm; have hm := hq360
 refine calls_start (args := [I6 ((o0.rows).length : Int), .func (.func 198) #[] #[Pt b299 0, Pt b304 0]]) func179 z ntmps179 (Nat.le_of_ble_eq_true z) ?_
 refine wp_seq (wrl (wv (.int .i64 (0:Int)) z z z (wl_nil (tn (wp_seq (wrl (wv (.int .i64 ((o0.rows).length : Int)) z z z (wv (.int .i64 (0:Int)) z z z (wv (.int .i64 ((o0.rows).length : Int)) z z z (wl_nil (tn (wp_seq (wp_block ?_)))))))))))))
 obtain ⟨n338, hm⟩ := loopO_some hm
 refine wp_loop_n (fun n a w => ∃ (z335 : Int) (z336 : Int) (σ337 : Nat → Value), loopN (mvcc_Store_find_l0 o0 a1) n (z335, z336) = some y359 ∧ a = Fr 26 (upd (upd (upd σ337 1 (.func (.func 198) #[] #[Pt b299 0, Pt b304 0])) 5 (.int .i64 z335)) 6 (.int .i64 z336)) ∧ St w0 w I [cells b304 [U6 a1], cells b299 [Pt b296 0], cells b296 [v297], ownN nest_mvcc_row v297 o0.rows] R) n338 ⟨(0:Int), ((o0.rows).length : Int), _, hm, (fu 1 (.func (.func 198) #[] #[Pt b299 0, Pt b304 0]) z (fu 5 (.int .i64 (0:Int)) z (fu 6 (.int .i64 ((o0.rows).length : Int)) z z))), hst⟩ ?_
 rintro n344 _ w339 ⟨z335, z336, σ337, hm, rfl, hst⟩
 obtain ⟨n341, y342, rfl, hm, hx343⟩ := loopN_some hm
 dsimp only [mvcc_Store_find_l0] at hm
 refine wp_seq (wp_seq (wrl (wv (.int .i64 z335) z z z (wv (.int .i64 z336) z z z (wv (.bool (decide (z335 < z336))) z z z (wl_nil (tn ?_)))))))
 refine bsplit (decide (z335 < z336)) (fun hc345 => ?_) (fun hc345 => ?_)
 {
 replace hm := bif_t hc345 hm
 refine wp_ift (cvb hc345) ?_
 refine wp_skip (tn (wp_block (wp_seq (wrl ?_))))
 refine wv (.int .i64 z335) z z z (wv (.int .i64 z336) z z z (wv (.int .i64 (i64.wrap (z335 + z336))) z z z (wv (.int .u64 (u64.wrap (i64.wrap (z335 + z336)))) z z (by kernel_rfl) (wv (.int .u64 (iShr .u64 (u64.wrap (i64.wrap (z335 + z336))) (1:Int))) z z (x_shr (by decide) z z) (wv (.int .i64 (i64.wrap (iShr .u64 (u64.wrap (i64.wrap (z335 + z336))) (1:Int)))) z z (by kernel_rfl) (wv (.int .i64 (i64.wrap (iShr .u64 (u64.wrap (i64.wrap (z335 + z336))) (1:Int)))) z z z (wl_nil (tn (wp_seq (wrl (wv (.func (.func 198) #[] #[Pt b299 0, Pt b304 0]) z z z (wv (.int .i64 (i64.wrap (iShr .u64 (u64.wrap (i64.wrap (z335 + z336))) (1:Int)))) z z z ?_))))))))))))
 obtain ⟨y353, hq354, hm⟩ := bind_some hm
 refine wl_call z z (x_callv call198 (caps := [Pt b299 0, Pt b304 0]) z (vs := [I6 (i64.wrap (iShr .u64 (u64.wrap (i64.wrap (z335 + z336))) (1:Int)))]) z) ?_
 refine Calls.mono (show Calls prog 198 #[I6 (i64.wrap (iShr .u64 (u64.wrap (i64.wrap (z335 + z336))) (1:Int))), Pt b299 0, Pt b304 0] _ (fun e w' => ∃ (z351 : Bool), z351 = y353 ∧ e = .returned (.bool z351) ∧ St w0 w' I [cells b296 [v297], ownN nest_mvcc_row v297 o0.rows, cells b299 [Pt b296 0], cells b304 [U6 a1]] R) from ?_) ?_
 {
 clear hm; have hm := hq354
 refine calls_start (args := [I6 (i64.wrap (iShr .u64 (u64.wrap (i64.wrap (z335 + z336))) (1:Int))), Pt b299 0, Pt b304 0]) func198 z ntmps198 (Nat.le_of_ble_eq_true z) ?_
 refine wp_seq (wrl (wv (.bool false) z z z (wl_nil (tn (wp_seq ?_)))))
 refine wq_regionS hst Tryz.mixed (by kernel_rfl) ?_
 refine wq_run (v := Pt b296 0) z z (fun w hst => x_load z isAgg101 (hst.bc1 z)) ?_
 refine wq_run (v := Pt b296 0) z z (fun w hst => z) ?_
 refine wq_run (v := Pt b296 0) z z (fun w hst => x_field z underlying201 z sizeOf199 z) ?_
 refine wq_run (v := v297) z z (fun w hst => x_load z isAgg199 (hst.bc2 z)) ?_
 refine wq_run (v := .int .i64 (i64.wrap (iShr .u64 (u64.wrap (i64.wrap (z335 + z336))) (1:Int)))) z z (fun w hst => z) ?_
 obtain ⟨x346, hx347, hm⟩ := bind_some hm
 obtain ⟨h348, h349, hi350⟩ := geto_some hx347
 refine wq_run (v := .pointer (some (eAddr v297 ((i64.wrap (iShr .u64 (u64.wrap (i64.wrap (z335 + z336))) (1:Int))).toNat * 2 + 0)))) z z (fun w hst => x_index z z underlying199 sizeOf240 (hst.nestsv 3 z) h348 h349) ?_
 refine wq_run (v := .pointer (some (eAddr v297 ((i64.wrap (iShr .u64 (u64.wrap (i64.wrap (z335 + z336))) (1:Int))).toNat * 2 + 0)))) z z (fun w hst => x_field_e z underlying240 z sizeOf26 z) ?_
 refine wq_run (v := .int .u64 x346.rank) z z (fun w hst => x_load z isAgg26 (hst.nestc (N := nest_mvcc_row) (i := (i64.wrap (iShr .u64 (u64.wrap (i64.wrap (z335 + z336))) (1:Int))).toNat) (o := 0) 3 z hi350 (fun _ => z))) ?_
 refine wq_run (v := .int .u64 a1) z z (fun w hst => x_load z isAgg26 (hst.bc0 z)) ?_
 refine wq_run (v := .bool (decide (x346.rank ≥ a1))) z z (fun w hst => z) ?_
 refine wq_run (v := .bool (decide (x346.rank ≥ a1))) z z (fun w hst => z) ?_
 refine wq_nil ?_
 intro w hst
 refine tn (wp_ret ?_)
 refine post_ret (vs := [.bool (decide (x346.rank ≥ a1))]) results198 (rvs_cons (rv_tmp z) rvs_nil) ?_
 replace hst := hst.pull1.pull3.pull3.keep4
 obtain rfl := some_inj hm
 exact ⟨(decide (x346.rank ≥ a1)), z, z, hst⟩
}
 clear hst
 rintro _ w355 ⟨z351, rfl, rfl, hst⟩
 refine ⟨_, z, ?_⟩
 try dsimp only at hm
 refine wv (.bool (!z351)) z z z (wl_nil (tn ?_))
 refine bsplit (!z351) (fun hc356 => ?_) (fun hc356 => ?_)
 {
 replace hm := bif_t hc356 hm
 refine wp_ift (cvb hc356) ?_
 refine wrl (wv (.int .i64 (i64.wrap (iShr .u64 (u64.wrap (i64.wrap (z335 + z336))) (1:Int)))) z z z (wv (.int .i64 (i64.wrap ((i64.wrap (iShr .u64 (u64.wrap (i64.wrap (z335 + z336))) (1:Int))) + (1:Int)))) z z z (wv (.int .i64 (i64.wrap ((i64.wrap (iShr .u64 (u64.wrap (i64.wrap (z335 + z336))) (1:Int))) + (1:Int)))) z z z (wl_nil (blk_n (tn ?_))))))
 replace hst := hst.pull1.pull1.pull2.pull3.keep4
 obtain rfl := some_inj hm
 exact ⟨_, Nat.lt_succ_self _, (i64.wrap ((i64.wrap (iShr .u64 (u64.wrap (i64.wrap (z335 + z336))) (1:Int))) + (1:Int))), z336, _, hx343, (fu 1 (.func (.func 198) #[] #[Pt b299 0, Pt b304 0]) z (fu 5 (.int .i64 (i64.wrap ((i64.wrap (iShr .u64 (u64.wrap (i64.wrap (z335 + z336))) (1:Int))) + (1:Int)))) z (fu 6 (.int .i64 z336) z z))), hst⟩
}
 {
 replace hm := bif_f hc356 hm
 refine wp_iff (cvb hc356) ?_
 refine wrl (wv (.int .i64 (i64.wrap (iShr .u64 (u64.wrap (i64.wrap (z335 + z336))) (1:Int)))) z z z (wv (.int .i64 (i64.wrap (iShr .u64 (u64.wrap (i64.wrap (z335 + z336))) (1:Int)))) z z z (wl_nil (blk_n (tn ?_)))))
 replace hst := hst.pull1.pull1.pull2.pull3.keep4
 obtain rfl := some_inj hm
 exact ⟨_, Nat.lt_succ_self _, z335, (i64.wrap (iShr .u64 (u64.wrap (i64.wrap (z335 + z336))) (1:Int))), _, hx343, (fu 1 (.func (.func 198) #[] #[Pt b299 0, Pt b304 0]) z (fu 5 (.int .i64 z335) z (fu 6 (.int .i64 (i64.wrap (iShr .u64 (u64.wrap (i64.wrap (z335 + z336))) (1:Int)))) z z))), hst⟩
}
}
 {
 replace hm := bif_f hc345 hm
 refine wp_iff (cvb hc345) ?_
 refine wp_exit (then_x (then_x ?_))
 replace hm := inr_up hm hx343
 refine blk_x (tn (wp_seq (wrl ?_)))
 refine wv (.int .i64 z335) z z z (wv (.int .i64 z335) z z z (wl_nil (tn (wp_ret ?_))))
 refine post_ret (vs := [I6 z335]) results179 (rvs_cons (rv_tmp z) rvs_nil) ?_
 replace hst := hst.pull1.pull3.pull3.keep4
 obtain rfl := some_inj hm
 exact ⟨z335, z, z, hst⟩
}
}
 clear hst
 rintro _ w361 ⟨z357, rfl, rfl, hst⟩
 refine ⟨_, z, ?_⟩
 try dsimp only at hm
 refine wv (.int .i64 z357) z z z (wl_nil (tn (wp_seq ?_)))
 refine wq_regionS hst Tryz.mixed (by kernel_rfl) ?_
 refine wq_run (v := .int .i64 z357) z z (fun w hst => z) ?_
 refine wq_run (v := .int .i64 z357) z z (fun w hst => z) ?_
 refine wq_run (v := Pt b296 0) z z (fun w hst => x_load z isAgg101 (hst.bc2 z)) ?_
 refine wq_run (v := Pt b296 0) z z (fun w hst => z) ?_
 refine wq_run (v := Pt b296 0) z z (fun w hst => x_field z underlying201 z sizeOf199 z) ?_
 refine wq_run (v := v297) z z (fun w hst => x_load z isAgg199 (hst.bc0 z)) ?_
 refine wq_run (v := .int .i64 ((o0.rows).length : Int)) z z (fun w hst => x_len z underlying199 (hst.nestsv 1 z)) ?_
 refine wq_run (v := .bool (decide (z357 < ((o0.rows).length : Int)))) z z (fun w hst => z) ?_
 refine wq_run (v := .bool (decide (z357 < ((o0.rows).length : Int)))) z z (fun w hst => z) ?_
 refine bsplit (decide (z357 < ((o0.rows).length : Int))) (fun hc362 => ?_) (fun hc362 => ?_)
 {
 replace hm := bif_t hc362 hm
 refine wq_run (v := Pt b296 0) ((wanted_eq z z z (cvb hc362)).trans z) z (fun w hst => x_load z isAgg101 (hst.bc2 z)) ?_
 refine wq_run (v := Pt b296 0) ((wanted_eq z z z (cvb hc362)).trans z) z (fun w hst => z) ?_
 refine wq_run (v := Pt b296 0) ((wanted_eq z z z (cvb hc362)).trans z) z (fun w hst => x_field z underlying201 z sizeOf199 z) ?_
 refine wq_run (v := v297) ((wanted_eq z z z (cvb hc362)).trans z) z (fun w hst => x_load z isAgg199 (hst.bc0 z)) ?_
 refine wq_run (v := .int .i64 z357) ((wanted_eq z z z (cvb hc362)).trans z) z (fun w hst => z) ?_
 obtain ⟨x363, hx364, hm⟩ := bind_some hm
 obtain ⟨h365, h366, hi367⟩ := geto_some hx364
 refine wq_run (v := .pointer (some (eAddr v297 (z357.toNat * 2 + 0)))) ((wanted_eq z z z (cvb hc362)).trans z) z (fun w hst => x_index z z underlying199 sizeOf240 (hst.nestsv 1 z) h365 h366) ?_
 refine wq_run (v := .pointer (some (eAddr v297 (z357.toNat * 2 + 0)))) ((wanted_eq z z z (cvb hc362)).trans z) z (fun w hst => x_field_e z underlying240 z sizeOf26 z) ?_
 refine wq_run (v := .int .u64 x363.rank) ((wanted_eq z z z (cvb hc362)).trans z) z (fun w hst => x_load z isAgg26 (hst.nestc (N := nest_mvcc_row) (i := z357.toNat) (o := 0) 1 z hi367 (fun _ => z))) ?_
 refine wq_run (v := .int .u64 a1) ((wanted_eq z z z (cvb hc362)).trans z) z (fun w hst => x_load z isAgg26 (hst.bc3 z)) ?_
 refine wq_run (v := .bool (x363.rank == a1)) ((wanted_eq z z z (cvb hc362)).trans z) z (fun w hst => z) ?_
 refine wq_run (v := .bool (x363.rank == a1)) z z (fun w hst => x_pick_t hc362 z z) ?_
 refine wq_run (v := .int .i64 z357) z z (fun w hst => z) ?_
 refine wq_run (v := .bool (x363.rank == a1)) z z (fun w hst => z) ?_
 refine wq_nil ?_
 intro w hst
 refine tn (wp_ret ?_)
 replace hst := hst.pull1.pull1
 replace hst := at_mvcc_Store_close (pv := Pt b296 0) (x := o0) hst z
 replace hst := objO_some hst
 obtain rfl := some_inj hm
 refine post_ret (vs := [I6 z357, .bool (x363.rank == a1)]) results146 (rvs_cons (rv_tmp z) (rvs_cons (rv_tmp z) rvs_nil)) ?_
 exact ⟨z, hst.keep1⟩
}
 {
 replace hm := bif_f hc362 hm
 refine wq_off ((wanted_eq z z z (cvb hc362)).trans z) z ?_
 refine wq_off ((wanted_eq z z z (cvb hc362)).trans z) z ?_
 refine wq_off ((wanted_eq z z z (cvb hc362)).trans z) z ?_
 refine wq_off ((wanted_eq z z z (cvb hc362)).trans z) z ?_
 refine wq_off ((wanted_eq z z z (cvb hc362)).trans z) z ?_
 refine wq_off ((wanted_eq z z z (cvb hc362)).trans z) z ?_
 refine wq_off ((wanted_eq z z z (cvb hc362)).trans z) z ?_
 refine wq_off ((wanted_eq z z z (cvb hc362)).trans z) z ?_
 refine wq_off ((wanted_eq z z z (cvb hc362)).trans z) z ?_
 refine wq_off ((wanted_eq z z z (cvb hc362)).trans z) z ?_
 refine wq_run (v := .bool false) z z (fun w hst => x_pick_f hc362 z z) ?_
 refine wq_run (v := .int .i64 z357) z z (fun w hst => z) ?_
 refine wq_run (v := .bool false) z z (fun w hst => z) ?_
 refine wq_nil ?_
 intro w hst
 refine tn (wp_ret ?_)
 replace hst := hst.pull1.pull1
 replace hst := at_mvcc_Store_close (pv := Pt b296 0) (x := o0) hst z
 replace hst := objO_some hst
 obtain rfl := some_inj hm
 refine post_ret (vs := [I6 z357, .bool false]) results146 (rvs_cons (rv_tmp z) (rvs_cons (rv_tmp z) rvs_nil)) ?_
 exact ⟨z, hst.keep1⟩
}
}
}

theorem mvcc_read_ref {w0 w : World} {I : HL} {R : SP} {a0 : (List mvcc_Version)} {r0_0 : Value} {a1 : Int} (f0_0 : Rd ty_mvcc_Version R I r0_0 a0) (hst : St w0 w I [] R) {r : (api_Got)} (hm : mvcc_read a0 a1 = some r) :
  Calls prog 147 #[r0_0, U6 a1] w fun e w' => ∃ (q0_0 : Value), e = .returned (.agg #[.bool r.Has, q0_0]) ∧ St w0 w' I [ownS (tyInt .u8) q0_0 r.Val] R := by {
 unfold mvcc_read at hm
 refine calls_start (args := [r0_0, U6 a1]) func147 z ntmps147 (Nat.le_of_ble_eq_true z) ?_
 refine wp_seq (wrl ?_)
 have hv368 := (rd_sliceV f0_0)
 obtain ⟨b362, w363, ew364, eb365, hst⟩ := hst.box [r0_0] 238
 refine wl_run (v := Pt b362 0) (w' := w363) z z (x_al (by obtain ⟨_, _, hv_, _⟩ := hv368; rw [hv_]; kernel_rfl) ew364 eb365) ?_
 obtain ⟨b369, w370, ew371, eb372, hst⟩ := hst.box [U6 a1] 26
 refine wl_run (v := Pt b369 0) (w' := w370) z z (x_al (by kernel_rfl) ew371 eb372) ?_
 obtain ⟨b375, w376, ew377, eb378, hst⟩ := hst.box [.bool false, Zs] 61
 refine wl_run (v := Pt b375 0) (w' := w376) z z (x_al (by kernel_rfl) ew377 eb378) ?_
 refine wl_nil (tn (wp_seq (wrl (wv (r0_0) z z (x_load z isAgg238 (hst.bc2 z)) (wv (.int .i64 ((a0).length : Int)) z z (x_len z underlying238 (rd_sliceV f0_0)) (wv (.func (.func 199) #[] #[Pt b362 0, Pt b369 0]) z z (by kernel_rfl) ?_))))))
 obtain ⟨y448, hq449, hm⟩ := bind_some hm
 refine wl_call z z (x_callv call179 (caps := []) z (vs := [I6 ((a0).length : Int), .func (.func 199) #[] #[Pt b362 0, Pt b369 0]]) z) ?_
 refine Calls.mono (show Calls prog 179 #[I6 ((a0).length : Int), .func (.func 199) #[] #[Pt b362 0, Pt b369 0]] _ (fun e w' => ∃ (z446 : Int), z446 = y448 ∧ e = .returned (.int .i64 z446) ∧ St w0 w' I [cells b362 [r0_0], cells b369 [U6 a1], cells b375 [.bool false, Zs]] R) from ?_) ?_
 {
 clear hm; have hm := hq449
 refine calls_start (args := [I6 ((a0).length : Int), .func (.func 199) #[] #[Pt b362 0, Pt b369 0]]) func179 z ntmps179 (Nat.le_of_ble_eq_true z) ?_
 refine wp_seq (wrl (wv (.int .i64 (0:Int)) z z z (wl_nil (tn (wp_seq (wrl (wv (.int .i64 ((a0).length : Int)) z z z (wv (.int .i64 (0:Int)) z z z (wv (.int .i64 ((a0).length : Int)) z z z (wl_nil (tn (wp_seq (wp_block ?_)))))))))))))
 obtain ⟨n421, hm⟩ := loopO_some hm
 refine wp_loop_n (fun n a w => ∃ (z418 : Int) (z419 : Int) (σ420 : Nat → Value), loopN (mvcc_read_l0 a0 a1) n (z418, z419) = some y448 ∧ a = Fr 26 (upd (upd (upd σ420 1 (.func (.func 199) #[] #[Pt b362 0, Pt b369 0])) 5 (.int .i64 z418)) 6 (.int .i64 z419)) ∧ St w0 w I [cells b375 [.bool false, Zs], cells b369 [U6 a1], cells b362 [r0_0]] R) n421 ⟨(0:Int), ((a0).length : Int), _, hm, (fu 1 (.func (.func 199) #[] #[Pt b362 0, Pt b369 0]) z (fu 5 (.int .i64 (0:Int)) z (fu 6 (.int .i64 ((a0).length : Int)) z z))), hst⟩ ?_
 rintro n427 _ w422 ⟨z418, z419, σ420, hm, rfl, hst⟩
 obtain ⟨n424, y425, rfl, hm, hx426⟩ := loopN_some hm
 dsimp only [mvcc_read_l0] at hm
 refine wp_seq (wp_seq (wrl (wv (.int .i64 z418) z z z (wv (.int .i64 z419) z z z (wv (.bool (decide (z418 < z419))) z z z (wl_nil (tn ?_)))))))
 refine bsplit (decide (z418 < z419)) (fun hc428 => ?_) (fun hc428 => ?_)
 {
 replace hm := bif_t hc428 hm
 refine wp_ift (cvb hc428) ?_
 refine wp_skip (tn (wp_block (wp_seq (wrl ?_))))
 refine wv (.int .i64 z418) z z z (wv (.int .i64 z419) z z z (wv (.int .i64 (i64.wrap (z418 + z419))) z z z (wv (.int .u64 (u64.wrap (i64.wrap (z418 + z419)))) z z (by kernel_rfl) (wv (.int .u64 (iShr .u64 (u64.wrap (i64.wrap (z418 + z419))) (1:Int))) z z (x_shr (by decide) z z) (wv (.int .i64 (i64.wrap (iShr .u64 (u64.wrap (i64.wrap (z418 + z419))) (1:Int)))) z z (by kernel_rfl) (wv (.int .i64 (i64.wrap (iShr .u64 (u64.wrap (i64.wrap (z418 + z419))) (1:Int)))) z z z (wl_nil (tn (wp_seq (wrl (wv (.func (.func 199) #[] #[Pt b362 0, Pt b369 0]) z z z (wv (.int .i64 (i64.wrap (iShr .u64 (u64.wrap (i64.wrap (z418 + z419))) (1:Int)))) z z z ?_))))))))))))
 obtain ⟨y442, hq443, hm⟩ := bind_some hm
 refine wl_call z z (x_callv call199 (caps := [Pt b362 0, Pt b369 0]) z (vs := [I6 (i64.wrap (iShr .u64 (u64.wrap (i64.wrap (z418 + z419))) (1:Int)))]) z) ?_
 refine Calls.mono (show Calls prog 199 #[I6 (i64.wrap (iShr .u64 (u64.wrap (i64.wrap (z418 + z419))) (1:Int))), Pt b362 0, Pt b369 0] _ (fun e w' => ∃ (z440 : Bool), z440 = y442 ∧ e = .returned (.bool z440) ∧ St w0 w' I [cells b362 [r0_0], cells b369 [U6 a1], cells b375 [.bool false, Zs]] R) from ?_) ?_
 {
 clear hm; have hm := hq443
 refine calls_start (args := [I6 (i64.wrap (iShr .u64 (u64.wrap (i64.wrap (z418 + z419))) (1:Int))), Pt b362 0, Pt b369 0]) func199 z ntmps199 (Nat.le_of_ble_eq_true z) ?_
 refine wp_seq (wrl (wv (.bool false) z z z (wl_nil (tn (wp_seq ?_)))))
 refine wq_regionS hst Tryz.mixed (by kernel_rfl) ?_
 refine wq_run (v := r0_0) z z (fun w hst => x_load z isAgg238 (hst.bc2 z)) ?_
 refine wq_run (v := .int .i64 (i64.wrap (iShr .u64 (u64.wrap (i64.wrap (z418 + z419))) (1:Int)))) z z (fun w hst => z) ?_
 obtain ⟨x429, hx430, hm⟩ := bind_some hm
 obtain ⟨h431, h432, hi433⟩ := geto_some hx430
 refine wq_run (v := .pointer (some (eAddr r0_0 ((i64.wrap (iShr .u64 (u64.wrap (i64.wrap (z418 + z419))) (1:Int))).toNat * 4 + 0)))) z z (fun w hst => x_index z z underlying238 sizeOf214 (rd_sliceV f0_0) h431 h432) ?_
 refine wq_run (v := .pointer (some (eAddr r0_0 ((i64.wrap (iShr .u64 (u64.wrap (i64.wrap (z418 + z419))) (1:Int))).toNat * 4 + 0)))) z z (fun w hst => x_field_e z underlying214 z sizeOf26 z) ?_
 obtain ⟨cs434, hr435, hc436⟩ := Rd.getF f0_0 hi433
 obtain ⟨v437, rfl, f438, -⟩ := hr435
 refine wq_run (v := .int .u64 x429.Epoch) z z (fun w hst => x_load z isAgg26 ((hc436 (HL.le.refl _) hst) 0 _ z)) ?_
 refine wq_run (v := .int .u64 a1) z z (fun w hst => x_load z isAgg26 (hst.bc1 z)) ?_
 refine wq_run (v := .bool (decide (x429.Epoch > a1))) z z (fun w hst => z) ?_
 refine wq_run (v := .bool (decide (x429.Epoch > a1))) z z (fun w hst => z) ?_
 refine wq_nil ?_
 intro w hst
 refine tn (wp_ret ?_)
 refine post_ret (vs := [.bool (decide (x429.Epoch > a1))]) results199 (rvs_cons (rv_tmp z) rvs_nil) ?_
 replace hst := hst.pull1.pull2.keep3
 obtain rfl := some_inj hm
 exact ⟨(decide (x429.Epoch > a1)), z, z, hst⟩
}
 clear hst
 rintro _ w444 ⟨z440, rfl, rfl, hst⟩
 refine ⟨_, z, ?_⟩
 try dsimp only at hm
 refine wv (.bool (!z440)) z z z (wl_nil (tn ?_))
 refine bsplit (!z440) (fun hc445 => ?_) (fun hc445 => ?_)
 {
 replace hm := bif_t hc445 hm
 refine wp_ift (cvb hc445) ?_
 refine wrl (wv (.int .i64 (i64.wrap (iShr .u64 (u64.wrap (i64.wrap (z418 + z419))) (1:Int)))) z z z (wv (.int .i64 (i64.wrap ((i64.wrap (iShr .u64 (u64.wrap (i64.wrap (z418 + z419))) (1:Int))) + (1:Int)))) z z z (wv (.int .i64 (i64.wrap ((i64.wrap (iShr .u64 (u64.wrap (i64.wrap (z418 + z419))) (1:Int))) + (1:Int)))) z z z (wl_nil (blk_n (tn ?_))))))
 replace hst := hst.pull1.pull2.keep3
 obtain rfl := some_inj hm
 exact ⟨_, Nat.lt_succ_self _, (i64.wrap ((i64.wrap (iShr .u64 (u64.wrap (i64.wrap (z418 + z419))) (1:Int))) + (1:Int))), z419, _, hx426, (fu 1 (.func (.func 199) #[] #[Pt b362 0, Pt b369 0]) z (fu 5 (.int .i64 (i64.wrap ((i64.wrap (iShr .u64 (u64.wrap (i64.wrap (z418 + z419))) (1:Int))) + (1:Int)))) z (fu 6 (.int .i64 z419) z z))), hst⟩
}
 {
 replace hm := bif_f hc445 hm
 refine wp_iff (cvb hc445) ?_
 refine wrl (wv (.int .i64 (i64.wrap (iShr .u64 (u64.wrap (i64.wrap (z418 + z419))) (1:Int)))) z z z (wv (.int .i64 (i64.wrap (iShr .u64 (u64.wrap (i64.wrap (z418 + z419))) (1:Int)))) z z z (wl_nil (blk_n (tn ?_)))))
 replace hst := hst.pull1.pull2.keep3
 obtain rfl := some_inj hm
 exact ⟨_, Nat.lt_succ_self _, z418, (i64.wrap (iShr .u64 (u64.wrap (i64.wrap (z418 + z419))) (1:Int))), _, hx426, (fu 1 (.func (.func 199) #[] #[Pt b362 0, Pt b369 0]) z (fu 5 (.int .i64 z418) z (fu 6 (.int .i64 (i64.wrap (iShr .u64 (u64.wrap (i64.wrap (z418 + z419))) (1:Int)))) z z))), hst⟩
}
}
 {
 replace hm := bif_f hc428 hm
 refine wp_iff (cvb hc428) ?_
 refine wp_exit (then_x (then_x ?_))
 replace hm := inr_up hm hx426
 refine blk_x (tn (wp_seq (wrl ?_)))
 refine wv (.int .i64 z418) z z z (wv (.int .i64 z418) z z z (wl_nil (tn (wp_ret ?_))))
 refine post_ret (vs := [I6 z418]) results179 (rvs_cons (rv_tmp z) rvs_nil) ?_
 replace hst := hst.pull1.pull2.keep3
 obtain rfl := some_inj hm
 exact ⟨z418, z, z, hst⟩
}
}
 clear hst
 rintro _ w450 ⟨z446, rfl, rfl, hst⟩
 refine ⟨_, z, ?_⟩
 try dsimp only at hm
 refine wv (.int .i64 z446) z z z (wl_nil (tn (wp_seq (wp_seq (wrl (wv (.int .i64 z446) z z z (wv (.bool (z446 == (0:Int))) z z z (wv (.bool (z446 == (0:Int))) z z z ?_))))))))
 refine bsplit (z446 == (0:Int)) (fun hc451 => ?_) (fun hc451 => ?_)
 {
 replace hm := bif_t hc451 hm
 refine wo hc451 z z z z z z (wo hc451 z z z z z z (wo hc451 z z z z z z (wo hc451 z z z z z z (wo hc451 z z z z z z (wo hc451 z z z z z z (wv (.bool true) z z (x_pick_t hc451 z z) (wl_nil (tn ?_))))))))
 refine wp_ift z ?_
 refine wp_seq (wrl (wv (.agg #[.bool false, Zs]) z z (by kernel_rfl) ?_))
 replace hst := hst.pull2
 obtain ⟨w453, hr454, hst⟩ := hst.bx [.bool false, Zs] sizeOf61 z (oC z (oC z oN)) (by kernel_rfl)
 refine wl_unit z z (x_unit hr454) ?_
 refine wl_nil (tn (wp_ret (then_r ?_)))
 replace hst := hst.own_nil (tyInt .u8)
 obtain rfl := some_inj hm
 refine post_ret (vs := [.agg #[.bool false, Zs]]) results147 (rvs_cons (rv_cell (cs := [.bool false, Zs]) z isAgg61 sizeOf61 (hst.bcs1 0 z)) rvs_nil) ?_
 exact ⟨(.slice none 0 0), z, hst.keep1⟩
}
 {
 replace hm := bif_f hc451 hm
 refine wv (r0_0) ((wanted_eq z z z (cvb hc451)).trans z) z (x_load z isAgg238 (hst.bc0 z)) (wv (.int .i64 z446) ((wanted_eq z z z (cvb hc451)).trans z) z z (wv (.int .i64 (i64.wrap (z446 - (1:Int)))) ((wanted_eq z z z (cvb hc451)).trans z) z z ?_))
 obtain ⟨x455, hx456, hm⟩ := bind_some hm
 obtain ⟨h457, h458, hi459⟩ := geto_some hx456
 refine wv (.pointer (some (eAddr r0_0 ((i64.wrap (z446 - (1:Int))).toNat * 4 + 0)))) ((wanted_eq z z z (cvb hc451)).trans z) z (x_index z z underlying238 sizeOf214 (rd_sliceV f0_0) h457 h458) (wv (.pointer (some (eAddr r0_0 ((i64.wrap (z446 - (1:Int))).toNat * 4 + 2)))) ((wanted_eq z z z (cvb hc451)).trans z) z (x_field_e z underlying214 z sizeOf4 z) ?_)
 obtain ⟨cs460, hr461, hc462⟩ := Rd.getF f0_0 hi459
 obtain ⟨v463, rfl, f464, -⟩ := hr461
 refine wv (.bool x455.Del) ((wanted_eq z z z (cvb hc451)).trans z) z (x_load z isAgg4 ((hc462 (HL.le.refl _) hst) 2 _ z)) (wv (.bool x455.Del) z z (x_pick_f hc451 z z) (wl_nil (tn ?_)))
 refine bsplit x455.Del (fun hc466 => ?_) (fun hc466 => ?_)
 {
 replace hm := bif_t hc466 hm
 refine wp_ift (cvb hc466) ?_
 refine wp_seq (wrl (wv (.agg #[.bool false, Zs]) z z (by kernel_rfl) ?_))
 replace hst := hst.pull2
 obtain ⟨w468, hr469, hst⟩ := hst.bx [.bool false, Zs] sizeOf61 z (oC z (oC z oN)) (by kernel_rfl)
 refine wl_unit z z (x_unit hr469) ?_
 refine wl_nil (tn (wp_ret (then_r ?_)))
 replace hst := hst.own_nil (tyInt .u8)
 obtain rfl := some_inj hm
 refine post_ret (vs := [.agg #[.bool false, Zs]]) results147 (rvs_cons (rv_cell (cs := [.bool false, Zs]) z isAgg61 sizeOf61 (hst.bcs1 0 z)) rvs_nil) ?_
 exact ⟨(.slice none 0 0), z, hst.keep1⟩
}
 {
 replace hm := bif_f hc466 hm
 refine wp_iff (cvb hc466) ?_
 refine wp_skip (tn (wp_seq (wrl ?_)))
 refine wv (r0_0) z z (x_load z isAgg238 (hst.bc0 z)) (wv (.int .i64 z446) z z z (wv (.int .i64 (i64.wrap (z446 - (1:Int)))) z z z (wv (.pointer (some (eAddr r0_0 ((i64.wrap (z446 - (1:Int))).toNat * 4 + 0)))) z z (x_index z z underlying238 sizeOf214 (rd_sliceV f0_0) h457 h458) (wv (.pointer (some (eAddr r0_0 ((i64.wrap (z446 - (1:Int))).toNat * 4 + 3)))) z z (x_field_e z underlying214 z sizeOf22 z) (wv (v463) z z (x_load z isAgg22 ((hc462 (HL.le.refl _) hst) 3 _ z)) ?_)))))
 obtain ⟨t470, ht471, hm⟩ := bind_some hm
 refine wc call143 [v463] z z z ?_
 refine (slices_Clone_byte_byte_ref (f464.mono (rd_weak _)) hst.to0 ht471).mono ?_
 rintro _ w472 ⟨v475, rfl, hst⟩
 refine ⟨_, z, ?_⟩
 replace hst := hst.of1
 refine wv (.agg #[.bool true, v475]) z z (by obtain ⟨_, _, hv_, _⟩ := hst.sv0; rw [hv_]; kernel_rfl) ?_
 replace hst := hst.pull3
 obtain ⟨w478, hr479, hst⟩ := hst.bx [.bool true, v475] sizeOf61 z (oC z (oC (one_of_sliceV hst.sv1) oN)) (by kernel_rfl)
 refine wl_unit z z (x_unit hr479) ?_
 refine wl_nil (tn (wp_ret ?_))
 obtain rfl := some_inj hm
 refine post_ret (vs := [.agg #[.bool true, v475]]) results147 (rvs_cons (rv_cell (cs := [.bool true, v475]) z isAgg61 sizeOf61 (hst.bcs0 0 z)) rvs_nil) ?_
 replace hst := hst.pull1
 exact ⟨v475, z, hst.keep1⟩
}
}
}

theorem mvcc_Store_Get_ref {w0 w : World} {I : HL} {R : SP} {a0 : (Option mvcc_Store)} {p0 : Value} {a1 : Nat} {a2 : Int}  (hst : St w0 w I [objO at_mvcc_Store p0 a0] R) {r : (api_Got)} (hm : mvcc_Store_Get a0 a1 a2 = some r) :
  Calls prog 60 #[p0, F6 a1, U6 a2] w fun e w' => ∃ (q0_0 : Value), e = .returned (.agg #[.bool r.Has, q0_0]) ∧ St w0 w' I [ownS (tyInt .u8) q0_0 r.Val, objO at_mvcc_Store p0 a0] R := by {
 rcases a0 with _ | o0
 {
 obtain ⟨rfl, hst'⟩ := objO_none hst
 clear hst
 have hst := hst'
 clear hst'
 dsimp only [mvcc_Store_Get] at hm
 refine calls_start (args := [.pointer none, F6 a1, U6 a2]) func60 z ntmps60 (Nat.le_of_ble_eq_true z) ?_
 refine wp_seq (wrl ?_)
 obtain ⟨b255, w256, ew257, eb258, hst⟩ := hst.box [.bool false, Zs] 61
 refine wl_run (v := Pt b255 0) (w' := w256) z z (x_al (by kernel_rfl) ew257 eb258) ?_
 refine wl_nil (tn (wp_seq (wrl (wv (.pointer none) z z z (wv (.float .f64 a1) z z z ?_)))))
 obtain ⟨t260, ht261, hm⟩ := bind_some hm
 refine wc call118 [F6 a1] z z z ?_
 refine (number_Rank_ref hst.to0 ht261).mono ?_
 rintro _ w262 ⟨rfl, hst⟩
 refine ⟨_, z, ?_⟩
 replace hst := hst.of0.objO_nil at_mvcc_Store
 obtain ⟨t266, ht267, hm⟩ := bind_some hm
 refine wc call146 [.pointer none, U6 t260] z z z ?_
 refine (mvcc_Store_find_ref hst.to1 ht267).mono ?_
 rintro _ w268 ⟨rfl, hst⟩
 refine ⟨_, z, ?_⟩
 replace hst := hst.of1
 refine wv (.tuple #[I6 t266.1, .bool t266.2]) z z z (wv (.int .i64 t266.1) z z z (wv (.bool t266.2) z z z (wv (.int .i64 t266.1) z z z (wv (.bool t266.2) z z z (wl_nil (tn (wp_seq (wp_seq (wrl (wv (.bool t266.2) z z z (wv (.bool (!t266.2)) z z z (wl_nil (tn ?_)))))))))))))
 refine bsplit (!t266.2) (fun hc271 => ?_) (fun hc271 => ?_)
 {
 replace hm := bif_t hc271 hm
 refine wp_ift (cvb hc271) ?_
 refine wp_seq (wrl (wv (.agg #[.bool false, Zs]) z z (by kernel_rfl) ?_))
 replace hst := hst.pull1
 obtain ⟨w273, hr274, hst⟩ := hst.bx [.bool false, Zs] sizeOf61 z (oC z (oC z oN)) (by kernel_rfl)
 refine wl_unit z z (x_unit hr274) ?_
 refine wl_nil (tn (wp_ret (then_r ?_)))
 replace hst := hst.own_nil (tyInt .u8)
 replace hst := hst.objO_nil at_mvcc_Store
 obtain rfl := some_inj hm
 refine post_ret (vs := [.agg #[.bool false, Zs]]) results60 (rvs_cons (rv_cell (cs := [.bool false, Zs]) z isAgg61 sizeOf61 (hst.bcs2 0 z)) rvs_nil) ?_
 replace hst := hst.pull1
 exact ⟨(.slice none 0 0), z, hst.keep2⟩
}
 {
 replace hm := bif_f hc271 hm
 refine wp_iff (cvb hc271) ?_
 refine wp_skip (tn (wp_seq (wrl ?_)))
 refine wv (.pointer none) z z z ?_
 cases hm
}
}
 {
 replace hst := objO_get hst
 dsimp only [mvcc_Store_Get] at hm
 refine calls_start (args := [p0, F6 a1, U6 a2]) func60 z ntmps60 (Nat.le_of_ble_eq_true z) ?_
 refine wp_seq (wrl ?_)
 obtain ⟨b276, w277, ew278, eb279, hst⟩ := hst.box [.bool false, Zs] 61
 refine wl_run (v := Pt b276 0) (w' := w277) z z (x_al (by kernel_rfl) ew278 eb279) ?_
 refine wl_nil (tn (wp_seq (wrl (wv (p0) z z z (wv (.float .f64 a1) z z z ?_)))))
 obtain ⟨t281, ht282, hm⟩ := bind_some hm
 refine wc call118 [F6 a1] z z z ?_
 refine (number_Rank_ref hst.to0 ht282).mono ?_
 rintro _ w283 ⟨rfl, hst⟩
 refine ⟨_, z, ?_⟩
 replace hst := hst.of0.pull1
 replace hst := objO_some hst
 obtain ⟨t286, ht287, hm⟩ := bind_some hm
 refine wc call146 [p0, U6 t281] z z z ?_
 refine (mvcc_Store_find_ref hst.to1 ht287).mono ?_
 rintro _ w288 ⟨rfl, hst⟩
 refine ⟨_, z, ?_⟩
 replace hst := hst.of1
 replace hst := objO_get hst
 refine wv (.tuple #[I6 t286.1, .bool t286.2]) z z z (wv (.int .i64 t286.1) z z z (wv (.bool t286.2) z z z (wv (.int .i64 t286.1) z z z (wv (.bool t286.2) z z z (wl_nil (tn (wp_seq (wp_seq (wrl (wv (.bool t286.2) z z z (wv (.bool (!t286.2)) z z z (wl_nil (tn ?_)))))))))))))
 refine bsplit (!t286.2) (fun hc291 => ?_) (fun hc291 => ?_)
 {
 replace hm := bif_t hc291 hm
 refine wp_ift (cvb hc291) ?_
 refine wp_seq (wrl (wv (.agg #[.bool false, Zs]) z z (by kernel_rfl) ?_))
 replace hst := hst.pull1
 obtain ⟨w293, hr294, hst⟩ := hst.bx [.bool false, Zs] sizeOf61 z (oC z (oC z oN)) (by kernel_rfl)
 refine wl_unit z z (x_unit hr294) ?_
 refine wl_nil (tn (wp_ret (then_r ?_)))
 replace hst := hst.own_nil (tyInt .u8)
 replace hst := hst.pull2
 replace hst := objO_some hst
 obtain rfl := some_inj hm
 refine post_ret (vs := [.agg #[.bool false, Zs]]) results60 (rvs_cons (rv_cell (cs := [.bool false, Zs]) z isAgg61 sizeOf61 (hst.bcs2 0 z)) rvs_nil) ?_
 replace hst := hst.pull1
 exact ⟨(.slice none 0 0), z, hst.keep2⟩
}
 {
 replace hm := bif_f hc291 hm
 refine wp_iff (cvb hc291) ?_
 refine wp_skip (tn (wp_seq (wrl ?_)))
 refine wv (p0) z z z ?_
 obtain ⟨b295, v296, rfl, hst'⟩ := at_mvcc_Store_open hst
 clear hst
 have hst := hst'
 clear hst'
 refine wv (Pt b295 0) z z z (wv (Pt b295 0) z z (x_field z underlying201 z sizeOf199 z) (wv (v296) z z (x_load z isAgg199 (hst.bc0 z)) (wv (.int .i64 t286.1) z z z ?_)))
 obtain ⟨x298, hx299, hm⟩ := bind_some hm
 obtain ⟨h300, h301, hi302⟩ := geto_some hx299
 refine wv (.pointer (some (eAddr v296 (t286.1.toNat * 2 + 0)))) z z (x_index z z underlying199 sizeOf240 (hst.nestsv 1 z) h300 h301) (wv (.pointer (some (eAddr v296 (t286.1.toNat * 2 + 1)))) z z (x_field_e z underlying240 z sizeOf238 z) ?_)
 replace hst := hst.pull1
 obtain ⟨v303, hst⟩ := hst.nest_focus hi302
 refine wv (v303) z z (x_load z isAgg238 ((hst.holeall (N := nest_mvcc_row) (i := t286.1.toNat) 1 z hi302) 1 _ z)) (wv (.int .u64 a2) z z z ?_)
 obtain ⟨css305, hq306, hst⟩ := hst.own_open
 obtain ⟨t307, ht308, hm⟩ := bind_some hm
 refine wc call147 [v303, U6 a2] z z z ?_
 refine (mvcc_read_ref (hst.rdrow0 hq306) hst.to0 ht308).mono ?_
 rintro _ w309 ⟨v312, rfl, hst⟩
 refine ⟨_, z, ?_⟩
 replace hst := hst.of1.pull1.own_close hq306
 replace hst := hst.pull4
 obtain ⟨w314, hr315, hst⟩ := hst.bx [.bool t307.Has, v312] sizeOf61 z (oC z (oC (one_of_sliceV hst.sv2) oN)) (by kernel_rfl)
 refine wl_unit z z (x_unit hr315) ?_
 refine wl_nil (tn (wp_ret ?_))
 replace hst := hst.pull3.pull2
 replace hst := St.nest_close0 (N := nest_mvcc_row) hst hi302
 replace hst := hst.pull3
 replace hst := at_mvcc_Store_close (pv := Pt b295 0) (x := o0) hst z
 replace hst := objO_some hst
 obtain rfl := some_inj hm
 refine post_ret (vs := [.agg #[.bool t307.Has, v312]]) results60 (rvs_cons (rv_cell (cs := [.bool t307.Has, v312]) z isAgg61 sizeOf61 (hst.bcs1 0 z)) rvs_nil) ?_
 replace hst := hst.pull2
 exact ⟨v312, z, hst.keep2⟩
}
}
}

theorem number_Back_ref {w0 w : World} {I : HL} {R : SP} {a0 : Int}  (hst : St w0 w I [] R) {r : (Nat)} (hm : number_Back a0 = some r) :
  Calls prog 107 #[U6 a0] w fun e w' => e = .returned (.float .f64 r) ∧ St w0 w' I [] R := by {
 unfold number_Back at hm
 refine calls_start (args := [U6 a0]) func107 z ntmps107 (Nat.le_of_ble_eq_true z) ?_
 refine wp_seq (wrl (wv (.float .f64 (0:Nat)) z z z (wl_nil (tn (wp_seq (wp_seq (wrl (wv (.int .u64 a0) z z z (wv (.int .u64 (iShr .u64 a0 (63:Int))) z z (x_shr (by decide) z z) (wv (.bool ((iShr .u64 a0 (63:Int)) == (1:Int))) z z z (wl_nil (tn ?_))))))))))))
 refine bsplit ((iShr .u64 a0 (63:Int)) == (1:Int)) (fun hc460 => ?_) (fun hc460 => ?_)
 {
 replace hm := bif_t hc460 hm
 refine wp_ift (cvb hc460) ?_
 refine wp_seq (wrl (wv (.int .u64 a0) z z z (wv (.int .u64 (bAndNot .u64 a0 (9223372036854775808:Int))) z z z (wv (.float .f64 (Int.toNat (bAndNot .u64 a0 (9223372036854775808:Int)))) z z (by kernel_rfl) (wv (.float .f64 (Int.toNat (bAndNot .u64 a0 (9223372036854775808:Int)))) z z z (wl_nil (tn (wp_ret (then_r ?_)))))))))
 obtain rfl := some_inj hm
 refine post_ret (vs := [F6 (Int.toNat (bAndNot .u64 a0 (9223372036854775808:Int)))]) results107 (rvs_cons (rv_tmp z) rvs_nil) ?_
 exact ⟨z, hst.keep0⟩
}
 {
 replace hm := bif_f hc460 hm
 refine wp_iff (cvb hc460) ?_
 refine wp_skip (tn (wp_seq (wrl ?_)))
 refine wv (.int .u64 a0) z z z (wv (.int .u64 (bXor .u64 ((18446744073709551615):Int) a0)) z z (by kernel_rfl) (wv (.float .f64 (Int.toNat (bXor .u64 ((18446744073709551615):Int) a0))) z z (by kernel_rfl) (wv (.float .f64 (Int.toNat (bXor .u64 ((18446744073709551615):Int) a0))) z z z (wl_nil (tn (wp_ret ?_))))))
 obtain rfl := some_inj hm
 refine post_ret (vs := [F6 (Int.toNat (bXor .u64 ((18446744073709551615):Int) a0))]) results107 (rvs_cons (rv_tmp z) rvs_nil) ?_
 exact ⟨z, hst.keep0⟩
}
}

theorem mvcc_Store_Scan_ref {w0 w : World} {I : HL} {R : SP} {a0 : (Option mvcc_Store)} {p0 : Value} {a1 : Nat} {a2 : Nat} {a3 : Int} {a4 : Int}  (hst : St w0 w I [objO at_mvcc_Store p0 a0] R) {r : ((List api_Pair))} (hm : mvcc_Store_Scan a0 a1 a2 a3 a4 = some r) :
  Calls prog 77 #[p0, F6 a1, F6 a2, U6 a3, I6 a4] w fun e w' => ∃ (I' : HL) (q0_0 : Value), e = .returned (q0_0) ∧ I.le I' ∧ St w0 w' I' [ownS ty_api_Pair q0_0 r, objO at_mvcc_Store p0 a0] R := by {
 rcases a0 with _ | o0
 {
 obtain ⟨rfl, hst'⟩ := objO_none hst
 clear hst
 have hst := hst'
 clear hst'
 dsimp only [mvcc_Store_Scan] at hm
 refine calls_start (args := [.pointer none, F6 a1, F6 a2, U6 a3, I6 a4]) func77 z ntmps77 (Nat.le_of_ble_eq_true z) ?_
 have hI0 := HL.le.refl I
 refine wp_seq (wrl (wv ((.slice none 0 0)) z z z (wl_nil (tn (wp_seq (wp_seq (wrl (wv (.pointer none) z z z (wv (.bool true) z z (by kernel_rfl) (wl_nil (tn ?_)))))))))))
 refine wp_ift z ?_
 refine wp_seq (wrl (wv ((.slice none 0 0)) z z z (wl_nil (tn (wp_ret (then_r ?_))))))
 replace hst := hst.own_nil ty_api_Pair
 replace hst := hst.objO_nil at_mvcc_Store
 obtain rfl := some_inj hm
 refine post_ret (vs := [Zs]) results77 (rvs_cons (rv_tmp z) rvs_nil) ?_
 replace hst := hst.pull1
 exact ⟨_, Zs, z, hI0, hst.keep2⟩
}
 {
 replace hst := objO_get hst
 dsimp only [mvcc_Store_Scan] at hm
 refine calls_start (args := [p0, F6 a1, F6 a2, U6 a3, I6 a4]) func77 z ntmps77 (Nat.le_of_ble_eq_true z) ?_
 have hI0 := HL.le.refl I
 refine wp_seq (wrl (wv ((.slice none 0 0)) z z z (wl_nil (tn (wp_seq (wp_seq (wrl (wv (p0) z z z ?_))))))))
 obtain ⟨b671, v672, rfl, hst'⟩ := at_mvcc_Store_open hst
 clear hst
 have hst := hst'
 clear hst'
 refine wv (.bool false) z z (by kernel_rfl) (wl_nil (tn ?_))
 refine wp_iff z ?_
 refine wp_skip (tn (wp_seq (wrl ?_)))
 refine wv ((.slice none 0 0)) z z z (wl_nil (tn (wp_seq (wp_seq (wrl (wv (Pt b671 0) z z z (wv (.float .f64 a1) z z z ?_)))))))
 obtain ⟨t675, ht676, hm⟩ := bind_some hm
 refine wc call118 [F6 a1] z z z ?_
 refine (number_Rank_ref hst.to0 ht676).mono ?_
 rintro _ w677 ⟨rfl, hst⟩
 refine ⟨_, z, ?_⟩
 replace hst := hst.of0.pull1.pull1
 replace hst := at_mvcc_Store_close (pv := Pt b671 0) (x := o0) hst z
 replace hst := objO_some hst
 obtain ⟨t680, ht681, hm⟩ := bind_some hm
 refine wc call146 [Pt b671 0, U6 t675] z z z ?_
 refine (mvcc_Store_find_ref hst.to1 ht681).mono ?_
 rintro _ w682 ⟨rfl, hst⟩
 refine ⟨_, z, ?_⟩
 replace hst := hst.of1
 replace hst := objO_get hst
 refine wv (.tuple #[I6 t680.1, .bool t680.2]) z z z (wv (.int .i64 t680.1) z z z (wv (.bool t680.2) z z z (wv (.int .i64 t680.1) z z z (wv (.bool t680.2) z z z (wl_nil (tn (wp_block ?_)))))))
 replace hst := hst.own_nil ty_api_Pair
 obtain ⟨n866, hm⟩ := loopO_some hm
 refine wp_loop_n (fun n a w => ∃ (I864 : HL) (z860 : (List api_Pair)) (z863 : Int) (v861 : Value) (σ865 : Nat → Value), loopN (mvcc_Store_Scan_l0 o0 a2 a4 a3) n (z860, z863) = some r ∧ a = Fr 80 (upd (upd (upd (upd (upd (upd σ865 0 (Pt b671 0)) 2 (.float .f64 a2)) 3 (.int .u64 a3)) 4 (.int .i64 a4)) 11 (v861)) 12 (.int .i64 z863)) ∧ I.le I864 ∧ St w0 w I864 [ownS ty_api_Pair v861 z860, at_mvcc_Store (Pt b671 0) o0] R) n866 ⟨_, [], t680.1, Zs, _, hm, (fu 0 (Pt b671 0) z (fu 2 (.float .f64 a2) z (fu 3 (.int .u64 a3) z (fu 4 (.int .i64 a4) z (fu 11 (.slice none 0 0) z (fu 12 (.int .i64 t680.1) z z)))))), (HL.le.refl _), hst⟩ ?_
 rintro n872 _ w867 ⟨I864, z860, z863, v861, σ865, hm, rfl, hL868, hst⟩
 obtain ⟨n869, y870, rfl, hm, hx871⟩ := loopN_some hm
 dsimp only [mvcc_Store_Scan_l0] at hm
 replace hI0 := hI0.trans hL868
 refine wp_seq (wp_seq ?_)
 replace hst := hst.pull1
 obtain ⟨b873, v874, e876, hst'⟩ := at_mvcc_Store_open hst
 clear hst
 have e876 := ptr_inj e876
 subst e876
 have hst := hst'
 clear hst'
 refine wp_region_St hst 26 [0, 1, 2, 3, 4, 5, 6, 7, 8, 9, 10, 11, 12, 13, 14, 15, 16, 17, 18, 19, 20, 21, 22, 23, 24, 25] [0, 0, 2, 6, 14, 30, 63, 127, 255, 511, 1023, 2047, 255, 8191, 16383, 32767, 255, 65791, 262143, 524287, 1048575, 2097151, 4194303, 2097151, 16777215, 33554431] [] z (by kernel_rfl) (by kernel_rfl) Tryz.mixed (by kernel_rfl) ?_
 refine wsr (.int .i64 z863) 0 z z z (by kernel_rfl) (fun w hst => z) (wsr (Pt b671 0) 1 z z z (by kernel_rfl) (fun w hst => z) (wsr (Pt b671 0) 2 z z z (by kernel_rfl) (fun w hst => z) (wsr (Pt b671 0) 3 z z z (by kernel_rfl) (fun w hst => x_field z underlying201 z sizeOf199 z) (wsr (v874) 4 z z z (by kernel_rfl) (fun w hst => x_load z isAgg199 (hst.bc0 z)) (wsr (.int .i64 ((o0.rows).length : Int)) 5 z z z (by kernel_rfl) (fun w hst => x_len z underlying199 (hst.nestsv 1 z)) (wsr (.bool (decide (z863 < ((o0.rows).length : Int)))) 6 z z z (by kernel_rfl) (fun w hst => z) (wsr (.bool (decide (z863 < ((o0.rows).length : Int)))) 7 z z z (by kernel_rfl) (fun w hst => z) ?_)))))))
 refine bsplit (decide (z863 < ((o0.rows).length : Int))) (fun hc877 => ?_) (fun hc877 => ?_)
 {
 replace hm := bif_t hc877 hm
 refine ws_q (v := Pt b671 0) 8 [9, 10, 11, 12, 13, 14, 15, 16, 17, 18, 19, 20, 21, 22, 23, 24, 25] (by kernel_rfl) z z (yi_run ((wanted_eq z z z (cvb hc877)).trans z) (fun w hst => z)) (ws_q (v := Pt b671 0) 9 [10, 11, 12, 13, 14, 15, 16, 17, 18, 19, 20, 21, 22, 23, 24, 25] (by kernel_rfl) z z (yi_run ((wanted_eq z z z (cvb hc877)).trans z) (fun w hst => z)) (ws_q (v := Pt b671 0) 10 [11, 12, 13, 14, 15, 16, 17, 18, 19, 20, 21, 22, 23, 24, 25] (by kernel_rfl) z z (yi_run ((wanted_eq z z z (cvb hc877)).trans z) (fun w hst => x_field z underlying201 z sizeOf199 z)) (ws_q (v := v874) 11 [12, 13, 14, 15, 16, 17, 18, 19, 20, 21, 22, 23, 24, 25] (by kernel_rfl) z z (yi_run ((wanted_eq z z z (cvb hc877)).trans z) (fun w hst => x_load z isAgg199 (hst.bc0 z))) (ws_q (v := .int .i64 z863) 12 [13, 14, 15, 16, 17, 18, 19, 20, 21, 22, 23, 24, 25] (by kernel_rfl) z z (yi_run ((wanted_eq z z z (cvb hc877)).trans z) (fun w hst => z)) ?_))))
 obtain ⟨x878, hx879, hm⟩ := bind_some hm
 obtain ⟨h880, h881, hi882⟩ := geto_some hx879
 refine ws_q (v := .pointer (some (eAddr v874 (z863.toNat * 2 + 0)))) 13 [14, 15, 16, 17, 18, 19, 20, 21, 22, 23, 24, 25] (by kernel_rfl) z z (yi_run ((wanted_eq z z z (cvb hc877)).trans z) (fun w hst => x_index z z underlying199 sizeOf240 (hst.nestsv 1 z) h880 h881)) (ws_q (v := .pointer (some (eAddr v874 (z863.toNat * 2 + 0)))) 14 [15, 16, 17, 18, 19, 20, 21, 22, 23, 24, 25] (by kernel_rfl) z z (yi_run ((wanted_eq z z z (cvb hc877)).trans z) (fun w hst => x_field_e z underlying240 z sizeOf26 z)) (ws_q (v := .int .u64 x878.rank) 15 [16, 17, 18, 19, 20, 21, 22, 23, 24, 25] (by kernel_rfl) z z (yi_run ((wanted_eq z z z (cvb hc877)).trans z) (fun w hst => x_load z isAgg26 (hst.nestc (N := nest_mvcc_row) (i := z863.toNat) (o := 0) 1 z hi882 (fun _ => z)))) (ws_q (v := .float .f64 a2) 16 [17, 18, 19, 20, 21, 22, 23, 24, 25] (by kernel_rfl) z z (yi_run ((wanted_eq z z z (cvb hc877)).trans z) (fun w hst => z)) ?_)))
 refine ws_e1 17 (by kernel_rfl) ?_
 refine nxe [18, 19, 20, 21, 22, 23, 24, 25] (by kernel_rfl) z ((wanted_eq z z z (cvb hc877)).trans z) ?_
 clear hst
 intro w hst
 obtain ⟨t883, ht884, hm⟩ := bind_some hm
 refine wec call118 [F6 a2] z z ?_
 refine (number_Rank_ref hst.to0 ht884).mono ?_
 rintro _ w885 ⟨rfl, hst⟩
 refine ⟨_, z, ?_⟩
 replace hst := hst.of0
 refine ws_next (pend' := [(15, U6 x878.rank), (14, .pointer (some (eAddr v874 (z863.toNat * 2 + 0)))), (13, .pointer (some (eAddr v874 (z863.toNat * 2 + 0)))), (12, I6 z863), (11, v874), (10, Pt b671 0), (9, Pt b671 0), (8, Pt b671 0)]) hst (by kernel_rfl) (pk_cons z (yi_run ((wanted_eq z z z (cvb hc877)).trans z) (fun w hst => x_load z isAgg26 (hst.nestc (N := nest_mvcc_row) (i := z863.toNat) (o := 0) 1 z hi882 (fun _ => z)))) (pk_cons z (yi_run ((wanted_eq z z z (cvb hc877)).trans z) (fun w hst => x_field_e z underlying240 z sizeOf26 z)) (pk_cons z (yi_run ((wanted_eq z z z (cvb hc877)).trans z) (fun w hst => x_index z z underlying199 sizeOf240 (hst.nestsv 1 z) h880 h881)) (pk_cons z (yi_run ((wanted_eq z z z (cvb hc877)).trans z) (fun w hst => z)) (pk_cons z (yi_run ((wanted_eq z z z (cvb hc877)).trans z) (fun w hst => x_load z isAgg199 (hst.bc0 z))) (pk_cons z (yi_run ((wanted_eq z z z (cvb hc877)).trans z) (fun w hst => x_field z underlying201 z sizeOf199 z)) (pk_cons z (yi_run ((wanted_eq z z z (cvb hc877)).trans z) (fun w hst => z)) (pk_cons z (yi_run ((wanted_eq z z z (cvb hc877)).trans z) (fun w hst => z)) pk_nil)))))))) ?_
 refine ws_q (v := .bool (decide (x878.rank ≤ t883))) 18 [19, 20, 21, 22, 23, 24, 25] (by kernel_rfl) z z (yi_run ((wanted_eq z z z (cvb hc877)).trans z) (fun w hst => z)) (wsr (.bool (decide (x878.rank ≤ t883))) 19 z z z (by kernel_rfl) (fun w hst => x_pick_t hc877 z z) (wsr (.bool (decide (x878.rank ≤ t883))) 20 z z z (by kernel_rfl) (fun w hst => z) ?_))
 refine bsplit (decide (x878.rank ≤ t883)) (fun hc888 => ?_) (fun hc888 => ?_)
 {
 replace hm := bif_t hc888 hm
 refine ws_q (v := v861) 21 [22, 23, 24, 25] (by kernel_rfl) z z (yi_run ((wanted_eq z z z (cvb hc888)).trans z) (fun w hst => z)) (ws_q (v := .int .i64 ((z860).length : Int)) 22 [23, 24, 25] (by kernel_rfl) z z (yi_run ((wanted_eq z z z (cvb hc888)).trans z) (fun w hst => x_len z underlying81 hst.sv2)) (ws_q (v := .int .i64 a4) 23 [24, 25] (by kernel_rfl) z z (yi_run ((wanted_eq z z z (cvb hc888)).trans z) (fun w hst => z)) (ws_q (v := .bool (decide (((z860).length : Int) < a4))) 24 [25] (by kernel_rfl) z z (yi_run ((wanted_eq z z z (cvb hc888)).trans z) (fun w hst => z)) (wsr (.bool (decide (((z860).length : Int) < a4))) 25 z z z (by kernel_rfl) (fun w hst => x_pick_t hc888 z z) ?_))))
 refine ws_nil ?_
 intro w hst
 refine tn ?_
 refine bsplit (decide (((z860).length : Int) < a4)) (fun hc889 => ?_) (fun hc889 => ?_)
 {
 replace hm := bif_t hc889 hm
 refine wp_ift (cvb hc889) ?_
 refine wp_skip (tn (wp_seq (wp_block (wp_seq (wrl ?_)))))
 refine wv (Pt b671 0) z z z (wv (Pt b671 0) z z z (wv (Pt b671 0) z z (x_field z underlying201 z sizeOf199 z) (wv (v874) z z (x_load z isAgg199 (hst.bc0 z)) (wv (.int .i64 z863) z z z (wv (.pointer (some (eAddr v874 (z863.toNat * 2 + 0)))) z z (x_index z z underlying199 sizeOf240 (hst.nestsv 1 z) h880 h881) (wv (.pointer (some (eAddr v874 (z863.toNat * 2 + 1)))) z z (x_field_e z underlying240 z sizeOf238 z) ?_))))))
 replace hst := hst.pull1
 obtain ⟨v890, hst⟩ := hst.nest_focus hi882
 refine wv (v890) z z (x_load z isAgg238 ((hst.holeall (N := nest_mvcc_row) (i := z863.toNat) 1 z hi882) 1 _ z)) (wv (.int .u64 a3) z z z ?_)
 obtain ⟨css892, hq893, hst⟩ := hst.own_open
 obtain ⟨t894, ht895, hm⟩ := bind_some hm
 refine wc call147 [v890, U6 a3] z z z ?_
 refine (mvcc_read_ref (hst.rdrow0 hq893) hst.to0 ht895).mono ?_
 rintro _ w896 ⟨v899, rfl, hst⟩
 refine ⟨_, z, ?_⟩
 replace hst := hst.of1.pull1.own_close hq893
 obtain ⟨b902, w903, ew904, eb905, hst⟩ := hst.box [.bool false, Zs] 61
 refine wl_run (v := Pt b902 0) (w' := w903) z z (x_al (by kernel_rfl) ew904 eb905) ?_
 obtain ⟨w907, hr908, hst⟩ := hst.bx [.bool t894.Has, v899] sizeOf61 z (oC z (oC (one_of_sliceV hst.sv2) oN)) (by kernel_rfl)
 refine wl_unit z z (x_unit hr908) ?_
 refine wl_nil (tn (wp_seq (wrl (wv (Pt b902 0) z z (x_field z underlying61 z sizeOf4 z) (wv (.bool t894.Has) z z (x_load z isAgg4 (hst.bc0 z)) (wl_nil (tn ?_)))))))
 refine bsplit t894.Has (fun hc909 => ?_) (fun hc909 => ?_)
 {
 replace hm := bif_t hc909 hm
 refine wp_ift (cvb hc909) ?_
 refine wp_region_St hst 16 [0, 1, 2, 3, 4, 5, 6, 7, 8, 9, 10, 11, 12, 13, 14, 15] [0, 0, 2, 6, 14, 0, 62, 126, 254, 510, 0, 1024, 4094, 8190, 16383, 32767] [15] z (by kernel_rfl) (by kernel_rfl) Tryz.mixed (by kernel_rfl) ?_
 refine wsr (v861) 0 z z z (by kernel_rfl) (fun w hst => z) (wsr (Pt b671 0) 1 z z z (by kernel_rfl) (fun w hst => z) (wsr (Pt b671 0) 2 z z z (by kernel_rfl) (fun w hst => z) (wsr (Pt b671 0) 3 z z z (by kernel_rfl) (fun w hst => x_field z underlying201 z sizeOf199 z) (wsr (v874) 4 z z z (by kernel_rfl) (fun w hst => x_load z isAgg199 (hst.bc4 z)) (wsr (.int .i64 z863) 5 z z z (by kernel_rfl) (fun w hst => z) (wsr (.pointer (some (eAddr v874 (z863.toNat * 2 + 0)))) 6 z z z (by kernel_rfl) (fun w hst => x_index z z underlying199 sizeOf240 (hst.holesv 3 z) h880 h881) (wsr (.pointer (some (eAddr v874 (z863.toNat * 2 + 0)))) 7 z z z (by kernel_rfl) (fun w hst => x_field_e z underlying240 z sizeOf26 z) (wsr (.int .u64 x878.rank) 8 z z z (by kernel_rfl) (fun w hst => x_load z isAgg26 (hst.holec (N := nest_mvcc_row) (i := z863.toNat) (o := 0) 3 z hi882 (fun _ => z))) (wsr (Pt b902 1) 10 z z z (by kernel_rfl) (fun w hst => x_field z underlying61 z sizeOf22 z) (wsr (v899) 11 z z z (by kernel_rfl) (fun w hst => x_load z isAgg22 (hst.bc0 z)) ?_))))))))))
 refine ws_e1 9 (by kernel_rfl) ?_
 refine nxe [12, 13, 14, 15] (by kernel_rfl) z z ?_
 clear hst
 intro w hst
 obtain ⟨t910, ht911, hm⟩ := bind_some hm
 refine wec call107 [U6 x878.rank] z z ?_
 refine (number_Back_ref hst.to0 ht911).mono ?_
 rintro _ w912 ⟨rfl, hst⟩
 refine ⟨_, z, ?_⟩
 replace hst := hst.of0
 refine ws_next (pend' := [(11, v899), (10, Pt b902 1), (0, v861)]) hst (by kernel_rfl) (pkr z z (fun w hst => x_load z isAgg22 (hst.bc0 z)) (pkr z z (fun w hst => x_field z underlying61 z sizeOf22 z) (pkr z z (fun w hst => z) pk_nil))) ?_
 refine wsr (.agg #[F6 t910, v899]) 12 rfl rfl rfl (by kernel_rfl) (fun w hst => by obtain ⟨_, _, hv_, _⟩ := hst.sv2; rw [hv_]; kernel_rfl) ?_
 refine ws_e1 13 (by kernel_rfl) ?_
 refine nxe [14, 15] (by kernel_rfl) z z ?_
 clear hst
 intro w hst
 replace hst := hst.pull2
 obtain ⟨I917, hI918, f919, hst⟩ := hst.own_fix
 replace hI0 := hI0.trans hI918
 replace hL868 := hL868.trans hI918
 obtain ⟨b920, w921, ew922, eb923, hst⟩ := hst.lits (E := ty_api_Pair) (xs := [({ At := t910, Val := t894.Val } : api_Pair)]) [[F6 t910, v899]] 152 1 z (Reps.cons ⟨_, z, f919, one_of_sliceV (ro_sliceV f919)⟩ Reps.nil)
 refine we_run (v := (.slice (some ⟨b920, 0, none⟩) 1 1)) (w' := w921) z (x_als (by kernel_rfl) ew922 eb923) ?_
 refine ws_next (pend' := [(0, v861)]) hst (by kernel_rfl) (pkr z z (fun w hst => z) pk_nil) ?_
 refine ws_e1 14 (by kernel_rfl) ?_
 refine nxe [15] (by kernel_rfl) z z ?_
 clear hst
 intro w hst
 obtain ⟨hg925, hm⟩ := gd_some hm
 replace hst := hst.pull5
 obtain ⟨v926, w927, hr928, hst⟩ := run_append elem_81 underlying81 hst hst.src1 (room_of hg925 z) 81
 refine we_run (v := v926) (w' := w927) z (x_append z z hr928) ?_
 refine ws_next (pend' := []) hst (by kernel_rfl) pk_nil ?_
 refine ws_e1 15 (by kernel_rfl) ?_
 refine nxe [] (by kernel_rfl) z z ?_
 clear hst
 intro w hst
 refine we_run (v := v926) (w' := w) z z ?_
 refine ws_next (pend' := []) hst (by kernel_rfl) pk_nil ?_
 refine ws_nil ?_
 intro w hst
 refine blk_n (tn (wrl ?_))
 refine wv (.int .i64 z863) z z z (wv (.int .i64 (i64.wrap (z863 + (1:Int)))) z z z (wv (.int .i64 (i64.wrap (z863 + (1:Int)))) z z z (wl_nil (tn ?_))))
 replace hst := hst.pull4.pull4
 replace hst := St.nest_close0 (N := nest_mvcc_row) hst hi882
 replace hst := hst.pull4
 replace hst := at_mvcc_Store_close (pv := Pt b671 0) (x := o0) hst z
 replace hst := hst.pull1.keep2
 obtain rfl := some_inj hm
 exact ⟨_, Nat.lt_succ_self _, _, (z860 ++ ([({ At := t910, Val := t894.Val } : api_Pair)])), (i64.wrap (z863 + (1:Int))), v926, _, hx871, (fu 0 (Pt b671 0) z (fu 2 (.float .f64 a2) z (fu 3 (.int .u64 a3) z (fu 4 (.int .i64 a4) z (fu 11 v926 z (fu 12 (.int .i64 (i64.wrap (z863 + (1:Int)))) z z)))))), hL868, hst⟩
}
 {
 replace hm := bif_f hc909 hm
 refine wp_iff (cvb hc909) ?_
 refine wp_skip (blk_n (tn (wrl ?_)))
 refine wv (.int .i64 z863) z z z (wv (.int .i64 (i64.wrap (z863 + (1:Int)))) z z z (wv (.int .i64 (i64.wrap (z863 + (1:Int)))) z z z (wl_nil (tn ?_))))
 replace hst := hst.pull3.pull2
 replace hst := St.nest_close0 (N := nest_mvcc_row) hst hi882
 replace hst := hst.pull3
 replace hst := at_mvcc_Store_close (pv := Pt b671 0) (x := o0) hst z
 replace hst := hst.pull3.keep2
 obtain rfl := some_inj hm
 exact ⟨_, Nat.lt_succ_self _, _, z860, (i64.wrap (z863 + (1:Int))), v861, _, hx871, (fu 0 (Pt b671 0) z (fu 2 (.float .f64 a2) z (fu 3 (.int .u64 a3) z (fu 4 (.int .i64 a4) z (fu 11 v861 z (fu 12 (.int .i64 (i64.wrap (z863 + (1:Int)))) z z)))))), hL868, hst⟩
}
}
 {
 replace hm := bif_f hc889 hm
 refine wp_iff (cvb hc889) ?_
 refine wp_exit (then_x (then_x ?_))
 replace hm := inr_up hm hx871
 refine blk_x (tn (wp_seq (wrl ?_)))
 refine wv (v861) z z z (wv (v861) z z z (wl_nil (tn (wp_ret ?_))))
 replace hst := hst.pull1.pull1
 replace hst := at_mvcc_Store_close (pv := Pt b671 0) (x := o0) hst z
 replace hst := objO_some hst
 obtain rfl := some_inj hm
 refine post_ret (vs := [v861]) results77 (rvs_cons (rv_tmp z) rvs_nil) ?_
 replace hst := hst.pull1
 exact ⟨_, v861, z, hI0, hst.keep2⟩
}
}
 {
 replace hm := bif_f hc888 hm
 refine ws_q (v := undef) 21 [22, 23, 24, 25] (by kernel_rfl) z z (yi_off ((wanted_eq z z z (cvb hc888)).trans z)) (ws_q (v := undef) 22 [23, 24, 25] (by kernel_rfl) z z (yi_off ((wanted_eq z z z (cvb hc888)).trans z)) (ws_q (v := undef) 23 [24, 25] (by kernel_rfl) z z (yi_off ((wanted_eq z z z (cvb hc888)).trans z)) (ws_q (v := undef) 24 [25] (by kernel_rfl) z z (yi_off ((wanted_eq z z z (cvb hc888)).trans z)) (wsr (.bool false) 25 z z z (by kernel_rfl) (fun w hst => x_pick_f hc888 z z) ?_))))
 refine ws_nil ?_
 intro w hst
 refine tn ?_
 refine wp_iff z ?_
 refine wp_exit (then_x (then_x ?_))
 replace hm := inr_up hm hx871
 refine blk_x (tn (wp_seq (wrl ?_)))
 refine wv (v861) z z z (wv (v861) z z z (wl_nil (tn (wp_ret ?_))))
 replace hst := hst.pull1.pull1
 replace hst := at_mvcc_Store_close (pv := Pt b671 0) (x := o0) hst z
 replace hst := objO_some hst
 obtain rfl := some_inj hm
 refine post_ret (vs := [v861]) results77 (rvs_cons (rv_tmp z) rvs_nil) ?_
 replace hst := hst.pull1
 exact ⟨_, v861, z, hI0, hst.keep2⟩
}
}
 {
 replace hm := bif_f hc877 hm
 refine ws_q (v := undef) 8 [9, 10, 11, 12, 13, 14, 15, 16, 17, 18, 19, 20, 21, 22, 23, 24, 25] (by kernel_rfl) z z (yi_off ((wanted_eq z z z (cvb hc877)).trans z)) (ws_q (v := undef) 9 [10, 11, 12, 13, 14, 15, 16, 17, 18, 19, 20, 21, 22, 23, 24, 25] (by kernel_rfl) z z (yi_off ((wanted_eq z z z (cvb hc877)).trans z)) (ws_q (v := undef) 10 [11, 12, 13, 14, 15, 16, 17, 18, 19, 20, 21, 22, 23, 24, 25] (by kernel_rfl) z z (yi_off ((wanted_eq z z z (cvb hc877)).trans z)) (ws_q (v := undef) 11 [12, 13, 14, 15, 16, 17, 18, 19, 20, 21, 22, 23, 24, 25] (by kernel_rfl) z z (yi_off ((wanted_eq z z z (cvb hc877)).trans z)) (ws_q (v := undef) 12 [13, 14, 15, 16, 17, 18, 19, 20, 21, 22, 23, 24, 25] (by kernel_rfl) z z (yi_off ((wanted_eq z z z (cvb hc877)).trans z)) (ws_q (v := undef) 13 [14, 15, 16, 17, 18, 19, 20, 21, 22, 23, 24, 25] (by kernel_rfl) z z (yi_off ((wanted_eq z z z (cvb hc877)).trans z)) (ws_q (v := undef) 14 [15, 16, 17, 18, 19, 20, 21, 22, 23, 24, 25] (by kernel_rfl) z z (yi_off ((wanted_eq z z z (cvb hc877)).trans z)) (ws_q (v := undef) 15 [16, 17, 18, 19, 20, 21, 22, 23, 24, 25] (by kernel_rfl) z z (yi_off ((wanted_eq z z z (cvb hc877)).trans z)) (ws_q (v := undef) 16 [17, 18, 19, 20, 21, 22, 23, 24, 25] (by kernel_rfl) z z (yi_off ((wanted_eq z z z (cvb hc877)).trans z)) (ws_q (v := undef) 17 [18, 19, 20, 21, 22, 23, 24, 25] (by kernel_rfl) z z (yi_off ((wanted_eq z z z (cvb hc877)).trans z)) (ws_q (v := undef) 18 [19, 20, 21, 22, 23, 24, 25] (by kernel_rfl) z z (yi_off ((wanted_eq z z z (cvb hc877)).trans z)) (wsr (.bool false) 19 z z z (by kernel_rfl) (fun w hst => x_pick_f hc877 z z) (wsr (.bool false) 20 z z z (by kernel_rfl) (fun w hst => z) ?_))))))))))))
 refine ws_q (v := undef) 21 [22, 23, 24, 25] (by kernel_rfl) z z (yi_off ((wanted_eq z z z z).trans z)) (ws_q (v := undef) 22 [23, 24, 25] (by kernel_rfl) z z (yi_off ((wanted_eq z z z z).trans z)) (ws_q (v := undef) 23 [24, 25] (by kernel_rfl) z z (yi_off ((wanted_eq z z z z).trans z)) (ws_q (v := undef) 24 [25] (by kernel_rfl) z z (yi_off ((wanted_eq z z z z).trans z)) (wsr (.bool false) 25 z z z (by kernel_rfl) (fun w hst => x_pick_f z z z) ?_))))
 refine ws_nil ?_
 intro w hst
 refine tn ?_
 refine wp_iff z ?_
 refine wp_exit (then_x (then_x ?_))
 replace hm := inr_up hm hx871
 refine blk_x (tn (wp_seq (wrl ?_)))
 refine wv (v861) z z z (wv (v861) z z z (wl_nil (tn (wp_ret ?_))))
 replace hst := hst.pull1.pull1
 replace hst := at_mvcc_Store_close (pv := Pt b671 0) (x := o0) hst z
 replace hst := objO_some hst
 obtain rfl := some_inj hm
 refine post_ret (vs := [v861]) results77 (rvs_cons (rv_tmp z) rvs_nil) ?_
 replace hst := hst.pull1
 exact ⟨_, v861, z, hI0, hst.keep2⟩
}
}
}

theorem lane_State_Told_ref {w0 w : World} {I : HL} {R : SP} {a0 : (Option lane_State)} {p0 : Value} {a1 : api_Hold} {r1_0 : Value} {r1_1 : Value} {r1_2 : Value} {r1_3 : Value} (f1_0 : Rd tyF64 R I r1_0 a1.Gets) (f1_1 : Rd tyF2 R I r1_1 a1.Scans) (f1_2 : Rd tyF64 R I r1_2 a1.Puts) (f1_3 : Rd (tyInt .u8) R I r1_3 a1.Data) (hst : St w0 w I [objO at_lane_State p0 a0] R) {r : (api_Reply)} (hm : lane_State_Told a0 a1 = some r) :
  Calls prog 33 #[p0, .agg #[U6 a1.ID.Session, U6 a1.ID.Seq, U6 a1.Epoch, r1_0, r1_1, r1_2, r1_3]] w fun e w' => ∃ (I' : HL) (q0_0 : Value) (q0_1 : Value), e = .returned (.agg #[I6 r.E, U6 r.Epoch, U6 r.Index, q0_0, q0_1]) ∧ I.le I' ∧ St w0 w' I' [ownS ty_api_Got q0_0 r.Gots, ownS (tySl ty_api_Pair) q0_1 r.Scans, objO at_lane_State p0 a0] R := by {
 rcases a0 with _ | o0
 {
 obtain ⟨rfl, hst'⟩ := objO_none hst
 clear hst
 have hst := hst'
 clear hst'
 dsimp only [lane_State_Told] at hm
 refine calls_start (args := [.pointer none, .agg #[U6 a1.ID.Session, U6 a1.ID.Seq, U6 a1.Epoch, r1_0, r1_1, r1_2, r1_3]]) func33 z ntmps33 (Nat.le_of_ble_eq_true z) ?_
 have hI0 := HL.le.refl I
 refine wp_seq (wrl ?_)
 obtain ⟨b623, w624, ew625, eb626, hst⟩ := hst.box [U6 a1.ID.Session, U6 a1.ID.Seq, U6 a1.Epoch, r1_0, r1_1, r1_2, r1_3] 46
 refine wl_run (v := Pt b623 0) (w' := w624) z z (x_al (by kernel_rfl) ew625 eb626) ?_
 obtain ⟨b630, w631, ew632, eb633, hst⟩ := hst.box [Zi, Zu, Zu, Zs, Zs] 33
 refine wl_run (v := Pt b630 0) (w' := w631) z z (x_al (by kernel_rfl) ew632 eb633) ?_
 refine wl_nil (tn (wp_seq (wrl ?_)))
 obtain ⟨b637, w638, ew639, eb640, hst⟩ := hst.box [Zi, Zu, Zu, Zs, Zs] 33
 refine wl_run (v := Pt b637 0) (w' := w638) z z (x_al (by kernel_rfl) ew639 eb640) ?_
 refine wl_nil (tn (wp_seq (wp_seq (wrl (wv (.pointer none) z z z (wv (.bool true) z z (by kernel_rfl) (wl_nil (tn ?_))))))))
 refine wp_ift z ?_
 refine wp_seq (wrl (wv (.agg #[Zi, Zu, Zu, Zs, Zs]) z z (x_loadN (cs := [Zi, Zu, Zu, Zs, Zs]) z isAgg33 sizeOf33 (hst.bcs0 0 z)) ?_))
 replace hst := hst.pull1
 obtain ⟨w642, hr643, hst⟩ := hst.bx [Zi, Zu, Zu, Zs, Zs] sizeOf33 z (oC z (oC z (oC z (oC z (oC z oN))))) (by kernel_rfl)
 refine wl_unit z z (x_unit hr643) ?_
 refine wl_nil (tn (wp_ret (then_r ?_)))
 replace hst := hst.own_nil ty_api_Got
 replace hst := hst.own_nil (tySl ty_api_Pair)
 replace hst := hst.objO_nil at_lane_State
 obtain rfl := some_inj hm
 refine post_ret (vs := [.agg #[Zi, Zu, Zu, Zs, Zs]]) results33 (rvs_cons (rv_cell (cs := [Zi, Zu, Zu, Zs, Zs]) z isAgg33 sizeOf33 (hst.bcs3 0 z)) rvs_nil) ?_
 replace hst := hst.pull1.pull2
 exact ⟨_, Zs, Zs, z, hI0, hst.keep3⟩
}
 {
 replace hst := objO_get hst
 dsimp only [lane_State_Told] at hm
 refine calls_start (args := [p0, .agg #[U6 a1.ID.Session, U6 a1.ID.Seq, U6 a1.Epoch, r1_0, r1_1, r1_2, r1_3]]) func33 z ntmps33 (Nat.le_of_ble_eq_true z) ?_
 have hI0 := HL.le.refl I
 refine wp_seq (wrl ?_)
 obtain ⟨b644, w645, ew646, eb647, hst⟩ := hst.box [U6 a1.ID.Session, U6 a1.ID.Seq, U6 a1.Epoch, r1_0, r1_1, r1_2, r1_3] 46
 refine wl_run (v := Pt b644 0) (w' := w645) z z (x_al (by kernel_rfl) ew646 eb647) ?_
 obtain ⟨b651, w652, ew653, eb654, hst⟩ := hst.box [Zi, Zu, Zu, Zs, Zs] 33
 refine wl_run (v := Pt b651 0) (w' := w652) z z (x_al (by kernel_rfl) ew653 eb654) ?_
 refine wl_nil (tn (wp_seq (wrl ?_)))
 obtain ⟨b658, w659, ew660, eb661, hst⟩ := hst.box [Zi, Zu, Zu, Zs, Zs] 33
 refine wl_run (v := Pt b658 0) (w' := w659) z z (x_al (by kernel_rfl) ew660 eb661) ?_
 refine wl_nil (tn (wp_seq (wp_seq (wrl (wv (p0) z z z ?_)))))
 replace hst := hst.pull3
 obtain ⟨b663, v664, v666, v668, v670, v672, v674, v676, rfl, hst'⟩ := at_lane_State_open hst
 clear hst
 have hst := hst'
 clear hst'
 refine wv (.bool false) z z (by kernel_rfl) (wl_nil (tn ?_))
 refine wp_iff z ?_
 refine wp_skip (tn ?_)
 obtain ⟨y881, hm, hx882⟩ := bind_some hm
 refine wp_cut (fun a w => ∃ (I878 : HL) (z877 : (List api_Got)) (v876 : Value) (σ879 : Nat → Value), (lane_State_Told_j0 a1 o0) z877 = some r ∧ a = Fr 55 (upd (upd (upd (upd σ879 0 (Pt b663 0)) 3 (Pt b644 0)) 4 (Pt b651 0)) 5 (Pt b658 0)) ∧ I.le I878 ∧ St w0 w I878 [at_lane_State (Pt b663 0) o0, cells b644 [U6 a1.ID.Session, U6 a1.ID.Seq, U6 a1.Epoch, r1_0, r1_1, r1_2, r1_3], cells b651 [Zi, Zu, Zu, Zs, Zs], cells b658 [Zi, Zu, Zu, v876, Zs], ownS ty_api_Got v876 z877] R) ?_ ?_
 {
 have hL883 := HL.le.refl I
 refine wp_seq (wrl (wv (Pt b644 3) z z (x_field z underlying46 z sizeOf43 z) (wv (r1_0) z z (x_load z isAgg43 (hst.bc10 z)) (wv (.int .i64 ((a1.Gets).length : Int)) z z (x_len z underlying43 (rd_sliceV f1_0)) (wv (.int .i64 (0:Int)) z z z (wl_nil (tn (wp_block ?_))))))))
 replace hst := hst.pull7.pull7.pull7.pull7.pull7.pull7.pull7.pull7
 replace hst := at_lane_State_close (pv := Pt b663 0) (x := o0) hst z
 replace hst := hst.own_nil ty_api_Got
 obtain ⟨n823, hm⟩ := loopO_some hm
 refine wp_loop_n (fun n a w => ∃ (I821 : HL) (z817 : (List api_Got)) (z820 : Int) (v818 : Value) (σ822 : Nat → Value), loopN (lane_State_Told_l1 a1 o0) n (z817, z820) = some y881 ∧ a = Fr 55 (upd (upd (upd (upd (upd (upd (upd σ822 0 (Pt b663 0)) 3 (Pt b644 0)) 4 (Pt b651 0)) 5 (Pt b658 0)) 14 (r1_0)) 15 (.int .i64 ((a1.Gets).length : Int))) 16 (.int .i64 z820)) ∧ I.le I821 ∧ St w0 w I821 [ownS ty_api_Got v818 z817, at_lane_State (Pt b663 0) o0, cells b658 [Zi, Zu, Zu, v818, Zs], cells b651 [Zi, Zu, Zu, Zs, Zs], cells b644 [U6 a1.ID.Session, U6 a1.ID.Seq, U6 a1.Epoch, r1_0, r1_1, r1_2, r1_3]] R) n823 ⟨_, [], (0:Int), Zs, _, hm, (fu 0 (Pt b663 0) z (fu 3 (Pt b644 0) z (fu 4 (Pt b651 0) z (fu 5 (Pt b658 0) z (fu 14 r1_0 z (fu 15 (.int .i64 ((a1.Gets).length : Int)) z (fu 16 (.int .i64 (0:Int)) z z))))))), (HL.le.refl _), hst⟩ ?_
 rintro n829 _ w824 ⟨I821, z817, z820, v818, σ822, hm, rfl, hL825, hst⟩
 obtain ⟨n826, y827, rfl, hm, hx828⟩ := loopN_some hm
 dsimp only [lane_State_Told_l1] at hm
 replace f1_0 := f1_0.mono (rd_le hL825)
 replace f1_1 := f1_1.mono (rd_le hL825)
 replace f1_2 := f1_2.mono (rd_le hL825)
 replace f1_3 := f1_3.mono (rd_le hL825)
 replace hI0 := hI0.trans hL825
 replace hL883 := hL883.trans hL825
 refine wp_seq (wrl (wv (.bool (decide (z820 < ((a1.Gets).length : Int)))) z z z (wl_nil (tn (wp_seq ?_)))))
 refine bsplit (decide (z820 < ((a1.Gets).length : Int))) (fun hc830 => ?_) (fun hc830 => ?_)
 {
 replace hm := bif_t hc830 hm
 refine wp_ift (cvb hc830) ?_
 refine wp_skip (tn (wp_seq (wp_block (wp_seq (wrl ?_)))))
 obtain ⟨x831, hx832, hm⟩ := bind_some hm
 obtain ⟨h833, h834, hi835⟩ := geto_some hx832
 refine wv (.pointer (some (eAddr r1_0 (z820.toNat * 1 + 0)))) z z (x_index z z underlying43 sizeOf37 (rd_sliceV f1_0) h833 h834) (wv (.float .f64 x831) z z (x_load z isAgg37 (rd_load f1_0 (HL.le.refl _) hst hi835 (by rintro _ rfl; rfl))) (wv (.float .f64 x831) z z z (wl_nil (tn ?_))))
 replace hst := hst.pull1
 obtain ⟨b836, v837, v839, v841, v843, v845, v847, v849, e851, hst'⟩ := at_lane_State_open hst
 clear hst
 have e851 := ptr_inj e851
 subst e851
 have hst := hst'
 clear hst'
 refine wp_region_St hst 12 [0, 1, 2, 3, 4, 5, 6, 7, 8, 9, 10, 11] [0, 1, 0, 4, 12, 28, 0, 124, 252, 511, 1023, 2047] [] z (by kernel_rfl) (by kernel_rfl) Tryz.mixed (by kernel_rfl) ?_
 refine wsr (Pt b658 3) 0 z z z (by kernel_rfl) (fun w hst => x_field z underlying33 z sizeOf30 z) (wsr (v818) 1 z z z (by kernel_rfl) (fun w hst => x_load z isAgg30 (hst.bc9 z)) (wsr (Pt b663 0) 2 z z z (by kernel_rfl) (fun w hst => z) (wsr (Pt b663 0) 3 z z z (by kernel_rfl) (fun w hst => z) (wsr (Pt b663 2) 4 z z z (by kernel_rfl) (fun w hst => x_field z underlying111 z sizeOf101 z) (wsr (v837) 5 z z z (by kernel_rfl) (fun w hst => x_load z isAgg101 (hst.bc0 z)) (wsr (.float .f64 x831) 6 z z z (by kernel_rfl) (fun w hst => z) ?_))))))
 refine ws_e1 7 (by kernel_rfl) ?_
 refine nxe [8, 9, 10, 11] (by kernel_rfl) z z ?_
 clear hst
 intro w hst
 replace hst := hst.pull1
 obtain ⟨t852, ht853, hm⟩ := bind_some hm
 refine wec call60 [v837, F6 x831, U6 (18446744073709551615:Int)] z z ?_
 refine (mvcc_Store_Get_ref hst.to1 ht853).mono ?_
 rintro _ w854 ⟨v857, rfl, hst⟩
 refine ⟨_, z, ?_⟩
 replace hst := hst.of2
 refine ws_next (pend' := [(1, v818), (0, Pt b658 3)]) hst (by kernel_rfl) (pkr z z (fun w hst => x_load z isAgg30 (hst.bc10 z)) (pkr z z (fun w hst => x_field z underlying33 z sizeOf30 z) pk_nil)) ?_
 refine ws_e1 8 (by kernel_rfl) ?_
 refine nxe [9, 10, 11] (by kernel_rfl) z z ?_
 clear hst
 intro w hst
 obtain ⟨I860, hI861, f862, hst⟩ := hst.own_fix
 replace f1_0 := f1_0.mono (rd_le hI861)
 replace f1_1 := f1_1.mono (rd_le hI861)
 replace f1_2 := f1_2.mono (rd_le hI861)
 replace f1_3 := f1_3.mono (rd_le hI861)
 replace hI0 := hI0.trans hI861
 replace hL883 := hL883.trans hI861
 replace hL825 := hL825.trans hI861
 obtain ⟨b863, w864, ew865, eb866, hst⟩ := hst.lits (E := ty_api_Got) (xs := [t852]) [[.bool t852.Has, v857]] 61 1 z (Reps.cons ⟨_, z, f862, one_of_sliceV (ro_sliceV f862)⟩ Reps.nil)
 refine we_run (v := (.slice (some ⟨b863, 0, none⟩) 1 1)) (w' := w864) z (x_als (by kernel_rfl) ew865 eb866) ?_
 refine ws_next (pend' := [(1, v818), (0, Pt b658 3)]) hst (by kernel_rfl) (pkr z z (fun w hst => x_load z isAgg30 (hst.bc10 z)) (pkr z z (fun w hst => x_field z underlying33 z sizeOf30 z) pk_nil)) ?_
 refine ws_e1 9 (by kernel_rfl) ?_
 refine nxe [10, 11] (by kernel_rfl) z z ?_
 clear hst
 intro w hst
 obtain ⟨hg868, hm⟩ := gd_some hm
 replace hst := hst.pull9
 obtain ⟨v869, w870, hr871, hst⟩ := run_append elem_30 underlying30 hst hst.src1 (room_of hg868 z) 30
 refine we_run (v := v869) (w' := w870) z (x_append z z hr871) ?_
 refine ws_next (pend' := []) hst (by kernel_rfl) pk_nil ?_
 refine wsr (Pt b658 3) 10 z z z (by kernel_rfl) (fun w hst => x_field z underlying33 z sizeOf30 z) ?_
 refine ws_e1 11 (by kernel_rfl) ?_
 refine nxe [] (by kernel_rfl) z z ?_
 clear hst
 intro w hst
 replace hst := hst.pull10
 obtain ⟨w873, hr874, hst⟩ := hst.boxStore1 (P := prog) (t := 30) (cs' := [Zi, Zu, Zu, v869, Zs]) 3 v869 (one_of_sliceV hst.sv1) sizeOf30 z z
 refine we_unit z (x_unit hr874) ?_
 refine ws_next (pend' := []) hst (by kernel_rfl) pk_nil ?_
 refine ws_nil ?_
 intro w hst
 refine blk_n (tn (wrl ?_))
 refine wv (.int .i64 (i64.wrap (z820 + (1:Int)))) z z z (wv (.int .i64 (i64.wrap (z820 + (1:Int)))) z z z (wl_nil (tn ?_)))
 replace hst := hst.pull10.pull10.pull10.pull10.pull10.pull10.pull9.pull10
 replace hst := at_lane_State_close (pv := Pt b663 0) (x := o0) hst z
 replace hst := hst.pull5.pull5.pull3.pull3.pull4.keep5
 obtain rfl := some_inj hm
 exact ⟨_, Nat.lt_succ_self _, _, (z817 ++ ([t852])), (i64.wrap (z820 + (1:Int))), v869, _, hx828, (fu 0 (Pt b663 0) z (fu 3 (Pt b644 0) z (fu 4 (Pt b651 0) z (fu 5 (Pt b658 0) z (fu 14 r1_0 z (fu 15 (.int .i64 ((a1.Gets).length : Int)) z (fu 16 (.int .i64 (i64.wrap (z820 + (1:Int)))) z z))))))), hL825, hst⟩
}
 {
 replace hm := bif_f hc830 hm
 refine wp_iff (cvb hc830) ?_
 refine wp_exit (then_x (then_x ?_))
 replace hm := inr_up hm hx828
 refine blk_x (tn ?_)
 replace hst := hst.pull2.pull3.pull4.pull4.keep5
 obtain rfl := some_inj hm
 exact ⟨_, z817, v818, _, hx882, (fu 0 (Pt b663 0) z (fu 3 (Pt b644 0) z (fu 4 (Pt b651 0) z (fu 5 (Pt b658 0) z z)))), hL883, hst⟩
}
}
 {
 clear hst
 rintro _ w884 ⟨I878, z877, v876, σ879, hm, rfl, hL880, hst⟩
 dsimp only [lane_State_Told_j0] at hm
 replace f1_0 := f1_0.mono (rd_le hL880)
 replace f1_1 := f1_1.mono (rd_le hL880)
 replace f1_2 := f1_2.mono (rd_le hL880)
 replace f1_3 := f1_3.mono (rd_le hL880)
 replace hI0 := hI0.trans hL880
 refine wp_seq (wp_seq (wrl (wv (Pt b644 4) z z (x_field z underlying46 z sizeOf44 z) (wv (r1_1) z z (x_load z isAgg44 (hst.bc1 z)) (wv (.int .i64 ((a1.Scans).length : Int)) z z (x_len z underlying44 (rd_sliceV f1_1)) (wv (.int .i64 (0:Int)) z z z (wl_nil (tn (wp_block ?_)))))))))
 replace hst := hst.pull1.sub.own_nil (tySl ty_api_Pair)
 obtain ⟨n1051, hm⟩ := loopO_some hm
 refine wp_loop_n (fun n a w => ∃ (I1049 : HL) (z1045 : (List (List api_Pair))) (z1048 : Int) (v1046 : Value) (σ1050 : Nat → Value), loopN (lane_State_Told_l2 a1 o0 z877) n (z1045, z1048) = some r ∧ a = Fr 55 (upd (upd (upd (upd (upd (upd σ1050 0 (Pt b663 0)) 4 (Pt b651 0)) 5 (Pt b658 0)) 33 (r1_1)) 34 (.int .i64 ((a1.Scans).length : Int))) 35 (.int .i64 z1048)) ∧ I878.le I1049 ∧ St w0 w I1049 [ownS (tySl ty_api_Pair) v1046 z1045, at_lane_State (Pt b663 0) o0, cells b651 [Zi, Zu, Zu, Zs, Zs], cells b658 [Zi, Zu, Zu, v876, v1046], ownS ty_api_Got v876 z877] R) n1051 ⟨_, [], (0:Int), Zs, _, hm, (fu 0 (Pt b663 0) z (fu 4 (Pt b651 0) z (fu 5 (Pt b658 0) z (fu 33 r1_1 z (fu 34 (.int .i64 ((a1.Scans).length : Int)) z (fu 35 (.int .i64 (0:Int)) z z)))))), (HL.le.refl _), hst⟩ ?_
 rintro n1057 _ w1052 ⟨I1049, z1045, z1048, v1046, σ1050, hm, rfl, hL1053, hst⟩
 obtain ⟨n1054, y1055, rfl, hm, hx1056⟩ := loopN_some hm
 dsimp only [lane_State_Told_l2] at hm
 replace f1_0 := f1_0.mono (rd_le hL1053)
 replace f1_1 := f1_1.mono (rd_le hL1053)
 replace f1_2 := f1_2.mono (rd_le hL1053)
 replace f1_3 := f1_3.mono (rd_le hL1053)
 replace hI0 := hI0.trans hL1053
 refine wp_seq (wrl (wv (.bool (decide (z1048 < ((a1.Scans).length : Int)))) z z z (wl_nil (tn (wp_seq ?_)))))
 refine bsplit (decide (z1048 < ((a1.Scans).length : Int))) (fun hc1058 => ?_) (fun hc1058 => ?_)
 {
 replace hm := bif_t hc1058 hm
 refine wp_ift (cvb hc1058) ?_
 refine wp_skip (tn (wp_seq (wp_block (wp_seq (wrl ?_)))))
 obtain ⟨x1059, hx1060, hm⟩ := bind_some hm
 obtain ⟨h1061, h1062, hi1063⟩ := geto_some hx1060
 refine wv (.pointer (some (eAddr r1_1 (z1048.toNat * 2 + 0)))) z z (x_index z z underlying44 sizeOf80 (rd_sliceV f1_1) h1061 h1062) (wv (.agg #[F6 x1059.1, F6 x1059.2]) z z (x_loadN (cs := [F6 x1059.1, F6 x1059.2]) z isAgg80 sizeOf80 (rd_loadN f1_1 (HL.le.refl _) hst hi1063 0 (by rintro _ rfl; rfl))) ?_)
 obtain ⟨b1064, w1065, ew1066, eb1067, hst⟩ := hst.box [Zf, Zf] 80
 refine wl_run (v := Pt b1064 0) (w' := w1065) z z (x_al (by kernel_rfl) ew1066 eb1067) ?_
 obtain ⟨w1069, hr1070, hst⟩ := hst.bx [F6 x1059.1, F6 x1059.2] sizeOf80 z (oC z (oC z oN)) (by kernel_rfl)
 refine wl_unit z z (x_unit hr1070) ?_
 refine wl_nil (tn ?_)
 replace hst := hst.pull2
 obtain ⟨b1071, v1072, v1074, v1076, v1078, v1080, v1082, v1084, e1086, hst'⟩ := at_lane_State_open hst
 clear hst
 have e1086 := ptr_inj e1086
 subst e1086
 have hst := hst'
 clear hst'
 refine wp_region_St hst 15 [0, 1, 2, 3, 4, 5, 6, 7, 8, 9, 10, 11, 12, 13, 14] [0, 1, 0, 4, 12, 28, 0, 64, 0, 256, 1020, 2044, 4095, 8191, 16383] [] z (by kernel_rfl) (by kernel_rfl) Tryz.mixed (by kernel_rfl) ?_
 refine wsr (Pt b658 4) 0 z z z (by kernel_rfl) (fun w hst => x_field z underlying33 z sizeOf31 z) (wsr (v1046) 1 z z z (by kernel_rfl) (fun w hst => x_load z isAgg31 (hst.bc11 z)) (wsr (Pt b663 0) 2 z z z (by kernel_rfl) (fun w hst => z) (wsr (Pt b663 0) 3 z z z (by kernel_rfl) (fun w hst => z) (wsr (Pt b663 2) 4 z z z (by kernel_rfl) (fun w hst => x_field z underlying111 z sizeOf101 z) (wsr (v1072) 5 z z z (by kernel_rfl) (fun w hst => x_load z isAgg101 (hst.bc0 z)) (wsr (Pt b1064 0) 6 z z z (by kernel_rfl) (fun w hst => x_index_arr (i := (0:Int)) z z underlying80 sizeOf37 (by decide) (by decide)) (wsr (.float .f64 x1059.1) 7 z z z (by kernel_rfl) (fun w hst => x_load z isAgg37 (hst.bc8 z)) (wsr (Pt b1064 1) 8 z z z (by kernel_rfl) (fun w hst => x_index_arr (i := (1:Int)) z z underlying80 sizeOf37 (by decide) (by decide)) (wsr (.float .f64 x1059.2) 9 z z z (by kernel_rfl) (fun w hst => x_load z isAgg37 (hst.bc8 z)) ?_)))))))))
 refine ws_e1 10 (by kernel_rfl) ?_
 refine nxe [11, 12, 13, 14] (by kernel_rfl) z z ?_
 clear hst
 intro w hst
 replace hst := hst.pull1
 obtain ⟨t1087, ht1088, hm⟩ := bind_some hm
 refine wec call77 [v1072, F6 x1059.1, F6 x1059.2, U6 (18446744073709551615:Int), I6 (64:Int)] z z ?_
 refine (mvcc_Store_Scan_ref hst.to1 ht1088).mono ?_
 rintro _ w1089 ⟨I1090, v1092, rfl, hI1091, hst⟩
 refine ⟨_, z, ?_⟩
 replace hst := hst.of2
 replace f1_0 := f1_0.mono (rd_le hI1091)
 replace f1_1 := f1_1.mono (rd_le hI1091)
 replace f1_2 := f1_2.mono (rd_le hI1091)
 replace f1_3 := f1_3.mono (rd_le hI1091)
 replace hI0 := hI0.trans hI1091
 replace hL1053 := hL1053.trans hI1091
 refine ws_next (pend' := [(1, v1046), (0, Pt b658 4)]) hst (by kernel_rfl) (pkr z z (fun w hst => x_load z isAgg31 (hst.bc12 z)) (pkr z z (fun w hst => x_field z underlying33 z sizeOf31 z) pk_nil)) ?_
 refine ws_e1 11 (by kernel_rfl) ?_
 refine nxe [12, 13, 14] (by kernel_rfl) z z ?_
 clear hst
 intro w hst
 obtain ⟨I1095, hI1096, f1097, hst⟩ := hst.own_fix
 replace f1_0 := f1_0.mono (rd_le hI1096)
 replace f1_1 := f1_1.mono (rd_le hI1096)
 replace f1_2 := f1_2.mono (rd_le hI1096)
 replace f1_3 := f1_3.mono (rd_le hI1096)
 replace hI0 := hI0.trans hI1096
 replace hL1053 := hL1053.trans hI1096
 obtain ⟨b1098, w1099, ew1100, eb1101, hst⟩ := hst.lits (E := (tySl ty_api_Pair)) (xs := [t1087]) [[v1092]] 81 1 z (Reps.cons ⟨_, z, f1097, one_of_sliceV (ro_sliceV f1097)⟩ Reps.nil)
 refine we_run (v := (.slice (some ⟨b1098, 0, none⟩) 1 1)) (w' := w1099) z (x_als (by obtain ⟨_, _, hv_, _⟩ := (ro_sliceV f1097); rw [hv_]; kernel_rfl) ew1100 eb1101) ?_
 refine ws_next (pend' := [(1, v1046), (0, Pt b658 4)]) hst (by kernel_rfl) (pkr z z (fun w hst => x_load z isAgg31 (hst.bc12 z)) (pkr z z (fun w hst => x_field z underlying33 z sizeOf31 z) pk_nil)) ?_
 refine ws_e1 12 (by kernel_rfl) ?_
 refine nxe [13, 14] (by kernel_rfl) z z ?_
 clear hst
 intro w hst
 obtain ⟨hg1103, hm⟩ := gd_some hm
 replace hst := hst.pull10
 obtain ⟨v1104, w1105, hr1106, hst⟩ := run_append elem_31 underlying31 hst hst.src1 (room_of hg1103 z) 31
 refine we_run (v := v1104) (w' := w1105) z (x_append z z hr1106) ?_
 refine ws_next (pend' := []) hst (by kernel_rfl) pk_nil ?_
 refine wsr (Pt b658 4) 13 z z z (by kernel_rfl) (fun w hst => x_field z underlying33 z sizeOf31 z) ?_
 refine ws_e1 14 (by kernel_rfl) ?_
 refine nxe [] (by kernel_rfl) z z ?_
 clear hst
 intro w hst
 replace hst := hst.pull12
 obtain ⟨w1108, hr1109, hst⟩ := hst.boxStore1 (P := prog) (t := 31) (cs' := [Zi, Zu, Zu, v876, v1104]) 4 v1104 (one_of_sliceV hst.sv1) sizeOf31 z z
 refine we_unit z (x_unit hr1109) ?_
 refine ws_next (pend' := []) hst (by kernel_rfl) pk_nil ?_
 refine ws_nil ?_
 intro w hst
 refine blk_n (tn (wrl ?_))
 refine wv (.int .i64 (i64.wrap (z1048 + (1:Int)))) z z z (wv (.int .i64 (i64.wrap (z1048 + (1:Int)))) z z z (wl_nil (tn ?_)))
 replace hst := hst.pull10.pull10.pull10.pull10.pull10.pull10.pull9.pull10
 replace hst := at_lane_State_close (pv := Pt b663 0) (x := o0) hst z
 replace hst := hst.pull6.pull2.pull6.pull3.pull4.keep5
 obtain rfl := some_inj hm
 exact ⟨_, Nat.lt_succ_self _, _, (z1045 ++ ([t1087])), (i64.wrap (z1048 + (1:Int))), v1104, _, hx1056, (fu 0 (Pt b663 0) z (fu 4 (Pt b651 0) z (fu 5 (Pt b658 0) z (fu 33 r1_1 z (fu 34 (.int .i64 ((a1.Scans).length : Int)) z (fu 35 (.int .i64 (i64.wrap (z1048 + (1:Int)))) z z)))))), hL1053, hst⟩
}
 {
 replace hm := bif_f hc1058 hm
 refine wp_iff (cvb hc1058) ?_
 refine wp_exit (then_x (then_x ?_))
 replace hm := inr_up hm hx1056
 refine blk_x (tn (wp_seq (wrl ?_)))
 refine wv (.agg #[Zi, Zu, Zu, v876, v1046]) z z (x_loadN (cs := [Zi, Zu, Zu, v876, v1046]) z isAgg33 sizeOf33 (hst.bcs3 0 z)) ?_
 replace hst := hst.pull2
 obtain ⟨w1110, hr1111, hst⟩ := hst.bx [Zi, Zu, Zu, v876, v1046] sizeOf33 z (oC z (oC z (oC z (oC (one_of_sliceV hst.sv4) (oC (one_of_sliceV hst.sv1) oN))))) (by kernel_rfl)
 refine wl_unit z z (x_unit hr1111) ?_
 refine wl_nil (tn (wp_ret ?_))
 replace hst := hst.pull2
 replace hst := objO_some hst
 obtain rfl := some_inj hm
 refine post_ret (vs := [.agg #[Zi, Zu, Zu, v876, v1046]]) results33 (rvs_cons (rv_cell (cs := [Zi, Zu, Zu, v876, v1046]) z isAgg33 sizeOf33 (hst.bcs1 0 z)) rvs_nil) ?_
 replace hst := hst.pull2.pull4
 exact ⟨_, v876, v1046, z, hI0, hst.keep3⟩
}
}
}
}

theorem lane_State_prepare_ref {w0 w : World} {I : HL} {R : SP} {a0 : (Option lane_State)} {p0 : Value} {a1 : api_Command} {r1_0 : Value} {r1_1 : Value} {r1_2 : Value} {r1_3 : Value} {r1_4 : Value} {r1_5 : Value} {r1_6 : Value} {r1_7 : Value} (f1_0 : Rd tyF64 R I r1_0 a1.Hold.Gets) (f1_1 : Rd tyF2 R I r1_1 a1.Hold.Scans) (f1_2 : Rd tyF64 R I r1_2 a1.Hold.Puts) (f1_3 : Rd (tyInt .u8) R I r1_3 a1.Hold.Data) (f1_4 : Rd ty_api_Write R I r1_4 a1.Writes) (f1_5 : Rd ty_api_Got R I r1_5 a1.R.Gots) (f1_6 : Rd (tySl ty_api_Pair) R I r1_6 a1.R.Scans) (f1_7 : Rd ty_api_Part R I r1_7 a1.Parts) (hst : St w0 w I [objO at_lane_State p0 a0] R) {r : (api_Effect × (Option lane_State))} (hm : lane_State_prepare a0 a1 = some r) :
  Calls prog 48 #[p0, .agg #[U1 a1.Kind, U6 a1.ID.Session, U6 a1.ID.Seq, U6 a1.Epoch, U6 a1.Index, I6 a1.E, U6 a1.Hold.ID.Session, U6 a1.Hold.ID.Seq, U6 a1.Hold.Epoch, r1_0, r1_1, r1_2, r1_3, r1_4, I6 a1.R.E, U6 a1.R.Epoch, U6 a1.R.Index, r1_5, r1_6, U6 a1.Shards, r1_7, U6 a1.Rule.ID, I6 a1.Rule.From, I6 a1.Rule.To, F6 a1.Rule.Lo, F6 a1.Rule.Hi, U6 a1.Rule.Authority, I6 a1.Rule.Quota, .bool a1.On]] w fun e w' => ∃ (I' : HL) (q0_0 : Value) (q0_1 : Value), e = .returned (.agg #[U1 r.1.Kind, U6 r.1.ID.Session, U6 r.1.ID.Seq, I6 r.1.R.E, U6 r.1.R.Epoch, U6 r.1.R.Index, q0_0, q0_1]) ∧ I.le I' ∧ St w0 w' I' [ownS ty_api_Got q0_0 r.1.R.Gots, ownS (tySl ty_api_Pair) q0_1 r.1.R.Scans, objO at_lane_State p0 r.2] R := by {
 unfold lane_State_prepare at hm
 refine calls_start (args := [p0, .agg #[U1 a1.Kind, U6 a1.ID.Session, U6 a1.ID.Seq, U6 a1.Epoch, U6 a1.Index, I6 a1.E, U6 a1.Hold.ID.Session, U6 a1.Hold.ID.Seq, U6 a1.Hold.Epoch, r1_0, r1_1, r1_2, r1_3, r1_4, I6 a1.R.E, U6 a1.R.Epoch, U6 a1.R.Index, r1_5, r1_6, U6 a1.Shards, r1_7, U6 a1.Rule.ID, I6 a1.Rule.From, I6 a1.Rule.To, F6 a1.Rule.Lo, F6 a1.Rule.Hi, U6 a1.Rule.Authority, I6 a1.Rule.Quota, .bool a1.On]]) func48 z ntmps48 (Nat.le_of_ble_eq_true z) ?_
 have hI0 := HL.le.refl I
 refine wp_seq (wrl ?_)
 obtain ⟨b148, w149, ew150, eb151, hst⟩ := hst.box [U1 a1.Kind, U6 a1.ID.Session, U6 a1.ID.Seq, U6 a1.Epoch, U6 a1.Index, I6 a1.E, U6 a1.Hold.ID.Session, U6 a1.Hold.ID.Seq, U6 a1.Hold.Epoch, r1_0, r1_1, r1_2, r1_3, r1_4, I6 a1.R.E, U6 a1.R.Epoch, U6 a1.R.Index, r1_5, r1_6, U6 a1.Shards, r1_7, U6 a1.Rule.ID, I6 a1.Rule.From, I6 a1.Rule.To, F6 a1.Rule.Lo, F6 a1.Rule.Hi, U6 a1.Rule.Authority, I6 a1.Rule.Quota, .bool a1.On] 49
 refine wl_run (v := Pt b148 0) (w' := w149) z z (x_al (by kernel_rfl) ew150 eb151) ?_
 obtain ⟨b155, w156, ew157, eb158, hst⟩ := hst.box [Zb, Zu, Zu, Zi, Zu, Zu, Zs, Zs] 35
 refine wl_run (v := Pt b155 0) (w' := w156) z z (x_al (by kernel_rfl) ew157 eb158) ?_
 refine wl_nil (tn (wp_seq (wrl (wv (Pt b148 6) z z (x_field z underlying49 z sizeOf46 z) (wv (Pt b148 6) z z (x_field z underlying46 z sizeOf28 z) (wv (.agg #[U6 a1.Hold.ID.Session, U6 a1.Hold.ID.Seq]) z z (x_loadN (cs := [U6 a1.Hold.ID.Session, U6 a1.Hold.ID.Seq]) z isAgg28 sizeOf28 (hst.bcs1 6 z)) (wv (.agg #[U1 (2:Int), U6 a1.Hold.ID.Session, U6 a1.Hold.ID.Seq, Zi, Zu, Zu, Zs, Zs]) z z (by kernel_rfl) ?_)))))))
 obtain ⟨b164, w165, ew166, eb167, hst⟩ := hst.box [Zb, Zu, Zu, Zi, Zu, Zu, Zs, Zs] 35
 refine wl_run (v := Pt b164 0) (w' := w165) z z (x_al (by kernel_rfl) ew166 eb167) ?_
 obtain ⟨w169, hr170, hst⟩ := hst.bx [U1 (2:Int), U6 a1.Hold.ID.Session, U6 a1.Hold.ID.Seq, Zi, Zu, Zu, Zs, Zs] sizeOf35 z (oC z (oC z (oC z (oC z (oC z (oC z (oC z (oC z oN)))))))) (by kernel_rfl)
 refine wl_unit z z (x_unit hr170) ?_
 refine wl_nil (tn (wp_seq (wp_seq (wrl (wv (p0) z z z (wv (Pt b148 6) z z (x_field z underlying49 z sizeOf46 z) (wv (.agg #[U6 a1.Hold.ID.Session, U6 a1.Hold.ID.Seq, U6 a1.Hold.Epoch, r1_0, r1_1, r1_2, r1_3]) z z (x_loadN (cs := [U6 a1.Hold.ID.Session, U6 a1.Hold.ID.Seq, U6 a1.Hold.Epoch, r1_0, r1_1, r1_2, r1_3]) z isAgg46 sizeOf46 (hst.bcs2 6 z)) ?_)))))))
 replace hst := hst.pull3
 obtain ⟨t171, ht172, hm⟩ := bind_some hm
 refine wc call19 [p0, .agg #[U6 a1.Hold.ID.Session, U6 a1.Hold.ID.Seq, U6 a1.Hold.Epoch, r1_0, r1_1, r1_2, r1_3]] z z z ?_
 refine (lane_State_Hold_ref (f1_0.mono (rd_weak _)) (f1_1.mono (rd_weak _)) (f1_2.mono (rd_weak _)) (f1_3.mono (rd_weak _)) hst.to1 ht172).mono ?_
 rintro _ w173 ⟨I174, rfl, hI175, hst⟩
 refine ⟨_, z, ?_⟩
 replace hst := hst.of1
 replace f1_0 := f1_0.mono (rd_le hI175)
 replace f1_1 := f1_1.mono (rd_le hI175)
 replace f1_2 := f1_2.mono (rd_le hI175)
 replace f1_3 := f1_3.mono (rd_le hI175)
 replace f1_4 := f1_4.mono (rd_le hI175)
 replace f1_5 := f1_5.mono (rd_le hI175)
 replace f1_6 := f1_6.mono (rd_le hI175)
 replace f1_7 := f1_7.mono (rd_le hI175)
 replace hI0 := hI0.trans hI175
 refine wv (Pt b164 3) z z (x_field z underlying35 z sizeOf33 z) (wv (Pt b164 3) z z (x_field z underlying33 z sizeOf29 z) ?_)
 replace hst := hst.pull1
 obtain ⟨w176, hr177, hst⟩ := hst.by_ [U1 (2:Int), U6 a1.Hold.ID.Session, U6 a1.Hold.ID.Seq, I6 t171.1, Zu, Zu, Zs, Zs] 3 (.int .i64 t171.1) sizeOf29 z (oC z oN) (by kernel_rfl)
 refine wl_unit z z (x_unit hr177) ?_
 refine wl_nil (tn (wp_seq (wrl (wv (Pt b164 3) z z (x_field z underlying35 z sizeOf33 z) (wv (Pt b164 3) z z (x_field z underlying33 z sizeOf29 z) (wv (.int .i64 t171.1) z z (x_load z isAgg29 (hst.bc0 z)) (wv (.bool (t171.1 == (0:Int))) z z z (wl_nil (tn ?_)))))))))
 refine bsplit (t171.1 == (0:Int)) (fun hc178 => ?_) (fun hc178 => ?_)
 {
 replace hm := bif_t hc178 hm
 refine wp_ift (cvb hc178) ?_
 refine wrl (wv (p0) z z z (wv (Pt b148 6) z z (x_field z underlying49 z sizeOf46 z) (wv (.agg #[U6 a1.Hold.ID.Session, U6 a1.Hold.ID.Seq, U6 a1.Hold.Epoch, r1_0, r1_1, r1_2, r1_3]) z z (x_loadN (cs := [U6 a1.Hold.ID.Session, U6 a1.Hold.ID.Seq, U6 a1.Hold.Epoch, r1_0, r1_1, r1_2, r1_3]) z isAgg46 sizeOf46 (hst.bcs3 6 z)) ?_)))
 replace hst := hst.pull1
 obtain ⟨t179, ht180, hm⟩ := bind_some hm
 refine wc call33 [p0, .agg #[U6 a1.Hold.ID.Session, U6 a1.Hold.ID.Seq, U6 a1.Hold.Epoch, r1_0, r1_1, r1_2, r1_3]] z z z ?_
 refine (lane_State_Told_ref (f1_0.mono (rd_weak _)) (f1_1.mono (rd_weak _)) (f1_2.mono (rd_weak _)) (f1_3.mono (rd_weak _)) hst.to1 ht180).mono ?_
 rintro _ w181 ⟨I182, v184, v186, rfl, hI183, hst⟩
 refine ⟨_, z, ?_⟩
 replace hst := hst.of3
 replace f1_0 := f1_0.mono (rd_le hI183)
 replace f1_1 := f1_1.mono (rd_le hI183)
 replace f1_2 := f1_2.mono (rd_le hI183)
 replace f1_3 := f1_3.mono (rd_le hI183)
 replace f1_4 := f1_4.mono (rd_le hI183)
 replace f1_5 := f1_5.mono (rd_le hI183)
 replace f1_6 := f1_6.mono (rd_le hI183)
 replace f1_7 := f1_7.mono (rd_le hI183)
 replace hI0 := hI0.trans hI183
 refine wv (Pt b164 3) z z (x_field z underlying35 z sizeOf33 z) ?_
 replace hst := hst.pull3
 obtain ⟨w188, hr189, hst⟩ := hst.by_ [U1 (2:Int), U6 a1.Hold.ID.Session, U6 a1.Hold.ID.Seq, I6 t179.E, U6 t179.Epoch, U6 t179.Index, v184, v186] 3 (.agg #[I6 t179.E, U6 t179.Epoch, U6 t179.Index, v184, v186]) sizeOf33 z (oC z (oC z (oC z (oC (one_of_sliceV hst.sv1) (oC (one_of_sliceV hst.sv2) oN))))) (by kernel_rfl)
 refine wl_unit z z (x_unit hr189) ?_
 refine wl_nil (tn (wp_seq (wrl (wv (.agg #[U1 (2:Int), U6 a1.Hold.ID.Session, U6 a1.Hold.ID.Seq, I6 t179.E, U6 t179.Epoch, U6 t179.Index, v184, v186]) z z (x_loadN (cs := [U1 (2:Int), U6 a1.Hold.ID.Session, U6 a1.Hold.ID.Seq, I6 t179.E, U6 t179.Epoch, U6 t179.Index, v184, v186]) z isAgg35 sizeOf35 (hst.bcs0 0 z)) ?_))))
 replace hst := hst.pull4
 obtain ⟨w190, hr191, hst⟩ := hst.bx [U1 (2:Int), U6 a1.Hold.ID.Session, U6 a1.Hold.ID.Seq, I6 t179.E, U6 t179.Epoch, U6 t179.Index, v184, v186] sizeOf35 z (oC z (oC z (oC z (oC z (oC z (oC z (oC (one_of_sliceV hst.sv2) (oC (one_of_sliceV hst.sv3) oN)))))))) (by kernel_rfl)
 refine wl_unit z z (x_unit hr191) ?_
 refine wl_nil (tn (wp_ret ?_))
 obtain rfl := some_inj hm
 refine post_ret (vs := [.agg #[U1 (2:Int), U6 a1.Hold.ID.Session, U6 a1.Hold.ID.Seq, I6 t179.E, U6 t179.Epoch, U6 t179.Index, v184, v186]]) results48 (rvs_cons (rv_cell (cs := [U1 (2:Int), U6 a1.Hold.ID.Session, U6 a1.Hold.ID.Seq, I6 t179.E, U6 t179.Epoch, U6 t179.Index, v184, v186]) z isAgg35 sizeOf35 (hst.bcs0 0 z)) rvs_nil) ?_
 replace hst := hst.pull4.pull4.pull4
 exact ⟨_, v184, v186, z, hI0, hst.keep3⟩
}
 {
 replace hm := bif_f hc178 hm
 refine wp_iff (cvb hc178) ?_
 refine wp_skip (tn (wp_seq (wrl ?_)))
 refine wv (.agg #[U1 (2:Int), U6 a1.Hold.ID.Session, U6 a1.Hold.ID.Seq, I6 t171.1, Zu, Zu, Zs, Zs]) z z (x_loadN (cs := [U1 (2:Int), U6 a1.Hold.ID.Session, U6 a1.Hold.ID.Seq, I6 t171.1, Zu, Zu, Zs, Zs]) z isAgg35 sizeOf35 (hst.bcs0 0 z)) ?_
 replace hst := hst.pull2
 obtain ⟨w192, hr193, hst⟩ := hst.bx [U1 (2:Int), U6 a1.Hold.ID.Session, U6 a1.Hold.ID.Seq, I6 t171.1, Zu, Zu, Zs, Zs] sizeOf35 z (oC z (oC z (oC z (oC z (oC z (oC z (oC z (oC z oN)))))))) (by kernel_rfl)
 refine wl_unit z z (x_unit hr193) ?_
 refine wl_nil (tn (wp_ret ?_))
 replace hst := hst.own_nil ty_api_Got
 replace hst := hst.own_nil (tySl ty_api_Pair)
 obtain rfl := some_inj hm
 refine post_ret (vs := [.agg #[U1 (2:Int), U6 a1.Hold.ID.Session, U6 a1.Hold.ID.Seq, I6 t171.1, Zu, Zu, Zs, Zs]]) results48 (rvs_cons (rv_cell (cs := [U1 (2:Int), U6 a1.Hold.ID.Session, U6 a1.Hold.ID.Seq, I6 t171.1, Zu, Zu, Zs, Zs]) z isAgg35 sizeOf35 (hst.bcs2 0 z)) rvs_nil) ?_
 replace hst := hst.pull4.pull1.pull2
 exact ⟨_, Zs, Zs, z, hI0, hst.keep3⟩
}
}

end Go.Proofs.YtgnkkopjkgdieaaGreat
