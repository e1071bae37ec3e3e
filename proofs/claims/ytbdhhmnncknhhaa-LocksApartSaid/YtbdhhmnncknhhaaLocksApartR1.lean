/- The Go functions refine their models, part 1. -/
import Derived.Test.YtbdhhmnncknhhaaLocksApartR0
set_option linter.unusedVariables false
set_option linter.unusedSimpArgs false
set_option maxRecDepth 100000
set_option maxHeartbeats 4000000
namespace Go.Proofs.Ytbdhhmnncknhhaa
open Go Go.V
open _root_.Go.Proofs.Try IntKind
attribute [local irreducible] wpList Code.wp wpQuiet Calls bodyPost Oper.wp wpS Nx PendOK YieldsIn
theorem ref11_reads_ref {w0 w : World} {I : HL} {R : SP} {a0 : api_Hold} {r0_0 : Value} {r0_1 : Value} {r0_2 : Value} {r0_3 : Value} {a1 : Nat} (f0_0 : Rd tyF64 R I r0_0 a0.Gets) (f0_1 : Rd tyF2 R I r0_1 a0.Scans) (f0_2 : Rd tyF64 R I r0_2 a0.Puts) (f0_3 : Rd (tyInt .u8) R I r0_3 a0.Data) (hst : St w0 w I [] R) {r : (Bool)} (hm : ref11_reads a0 a1 = some r) :
  Calls prog 43 #[.agg #[U6 a0.ID.Session, U6 a0.ID.Seq, U6 a0.Epoch, r0_0, r0_1, r0_2, r0_3], F6 a1] w fun e w' => e = .returned (.bool r) ∧ St w0 w' I [] R := by {
 unfold ref11_reads at hm
 refine calls_start (args := [.agg #[U6 a0.ID.Session, U6 a0.ID.Seq, U6 a0.Epoch, r0_0, r0_1, r0_2, r0_3], F6 a1]) func43 z ntmps43 (Nat.le_of_ble_eq_true z) ?_
 refine wp_seq (wrl ?_)
 obtain ⟨b358, w359, ew360, eb361, hst⟩ := hst.box [U6 a0.ID.Session, U6 a0.ID.Seq, U6 a0.Epoch, r0_0, r0_1, r0_2, r0_3] 34
 refine wl_run (v := Pt b358 0) (w' := w359) z z (x_al (by kernel_rfl) ew360 eb361) ?_
 refine wv (.bool false) z z z (wl_nil (tn ?_))
 obtain ⟨y411, hm, hx412⟩ := joinO_some hm
 refine wp_cut (fun a w => ∃ (σ409 : Nat → Value), (ref11_reads_j0 a0 a1) () = some r ∧ a = Fr 31 (upd (upd σ409 1 (.float .f64 a1)) 2 (Pt b358 0)) ∧ St w0 w I [cells b358 [U6 a0.ID.Session, U6 a0.ID.Seq, U6 a0.Epoch, r0_0, r0_1, r0_2, r0_3]] R) ?_ ?_
 {
 refine wp_seq (wrl (wv (.int .i64 (0:Int)) z z z (wl_nil (tn (wp_block ?_)))))
 obtain ⟨n390, hm⟩ := loopO_some hm
 refine wp_loop_n (fun n a w => ∃ (z388 : Int) (σ389 : Nat → Value), loopN (ref11_reads_l1 a0 a1) n z388 = some y411 ∧ a = Fr 31 (upd (upd (upd σ389 1 (.float .f64 a1)) 2 (Pt b358 0)) 5 (.int .i64 z388)) ∧ St w0 w I [cells b358 [U6 a0.ID.Session, U6 a0.ID.Seq, U6 a0.Epoch, r0_0, r0_1, r0_2, r0_3]] R) n390 ⟨(0:Int), _, hm, (fu 1 (.float .f64 a1) z (fu 2 (Pt b358 0) z (fu 5 (.int .i64 (0:Int)) z z))), hst⟩ ?_
 rintro n396 _ w391 ⟨z388, σ389, hm, rfl, hst⟩
 obtain ⟨n393, y394, rfl, hm, hx395⟩ := loopN_some hm
 dsimp only [ref11_reads_l1] at hm
 refine wp_seq (wp_seq (wrl (wv (.int .i64 z388) z z z (wv (Pt b358 4) z z (x_field z underlying34 z sizeOf31 z) (wv (r0_1) z z (x_load z isAgg31 (hst.bc0 z)) (wv (.int .i64 ((a0.Scans).length : Int)) z z (x_len z underlying31 (rd_sliceV f0_1)) (wv (.bool (decide (z388 < ((a0.Scans).length : Int)))) z z z (wl_nil (tn ?_)))))))))
 refine bsplit (decide (z388 < ((a0.Scans).length : Int))) (fun hc397 => ?_) (fun hc397 => ?_)
 {
 replace hm := bif_t hc397 hm
 refine wp_ift (cvb hc397) ?_
 refine wp_skip (tn (wp_seq (wp_block (wp_seq ?_))))
 refine wp_region_St hst 14 [0, 1, 2, 3, 4, 5, 6, 7, 8, 9, 10, 11, 12, 13] [0, 0, 2, 0, 14, 30, 62, 0, 128, 0, 896, 1920, 3968, 8191] [] z (by kernel_rfl) (by kernel_rfl) Try.mixed (by kernel_rfl) ?_
 refine wsr (.float .f64 a1) 0 z z z (by kernel_rfl) (fun w hst => z) (wsr (Pt b358 4) 1 z z z (by kernel_rfl) (fun w hst => x_field z underlying34 z sizeOf31 z) (wsr (r0_1) 2 z z z (by kernel_rfl) (fun w hst => x_load z isAgg31 (hst.bc0 z)) (wsr (.int .i64 z388) 3 z z z (by kernel_rfl) (fun w hst => z) ?_)))
 obtain ⟨x398, hx399, hm⟩ := bind_some hm
 obtain ⟨h400, h401, hi402⟩ := geto_some hx399
 refine wsr (.pointer (some (eAddr r0_1 (z388.toNat * 2 + 0)))) 4 z z z (by kernel_rfl) (fun w hst => x_index z z underlying31 sizeOf75 (rd_sliceV f0_1) h400 h401) (wsr (.pointer (some (eAddr r0_1 (z388.toNat * 2 + 0)))) 5 z z z (by kernel_rfl) (fun w hst => x_index_arr_e (i := (0:Int)) z z underlying75 sizeOf57 (by decide) (by decide) z) (wsr (.float .f64 x398.1) 6 z z z (by kernel_rfl) (fun w hst => x_load z isAgg57 (rd_load f0_1 (HL.le.refl _) hst hi402 (by rintro _ rfl; rfl))) (wsr (Pt b358 4) 7 z z z (by kernel_rfl) (fun w hst => x_field z underlying34 z sizeOf31 z) (wsr (r0_1) 8 z z z (by kernel_rfl) (fun w hst => x_load z isAgg31 (hst.bc0 z)) (wsr (.int .i64 z388) 9 z z z (by kernel_rfl) (fun w hst => z) (wsr (.pointer (some (eAddr r0_1 (z388.toNat * 2 + 0)))) 10 z z z (by kernel_rfl) (fun w hst => x_index z z underlying31 sizeOf75 (rd_sliceV f0_1) h400 h401) (wsr (.pointer (some (eAddr r0_1 (z388.toNat * 2 + 1)))) 11 z z z (by kernel_rfl) (fun w hst => x_index_arr_e (i := (1:Int)) z z underlying75 sizeOf57 (by decide) (by decide) z) (wsr (.float .f64 x398.2) 12 z z z (by kernel_rfl) (fun w hst => x_load z isAgg57 (rd_load f0_1 (HL.le.refl _) hst hi402 (by rintro _ rfl; rfl))) ?_))))))))
 refine ws_e1 13 (by kernel_rfl) ?_
 refine nxe [] (by kernel_rfl) z z ?_
 clear hst
 intro w hst
 obtain ⟨t403, ht404, hm⟩ := bind_some hm
 refine wec call74 [F6 a1, F6 x398.1, F6 x398.2] z z ?_
 refine (ref01_Within_ref hst.to0 ht404).mono ?_
 rintro _ w405 ⟨rfl, hst⟩
 refine ⟨_, z, ?_⟩
 replace hst := hst.of0
 refine ws_next (pend' := []) hst (by kernel_rfl) pk_nil ?_
 refine ws_nil ?_
 intro w hst
 refine tn ?_
 refine bsplit t403 (fun hc408 => ?_) (fun hc408 => ?_)
 {
 replace hm := bif_t hc408 hm
 refine wp_ift (cvb hc408) ?_
 refine wp_seq (wrl (wv (.bool true) z z z (wl_nil (tn (wp_ret (blk_r (then_r (then_r ?_))))))))
 replace hm := inr_up hm hx395
 refine blk_r (then_r ?_)
 replace hm := inr_up hm hx412
 obtain rfl := some_inj hm
 refine post_ret (vs := [.bool true]) results43 (rvs_cons (rv_tmp z) rvs_nil) ?_
 exact ⟨z, hst.keep0⟩
}
 {
 replace hm := bif_f hc408 hm
 refine wp_iff (cvb hc408) ?_
 refine wp_skip (blk_n (tn (wrl ?_)))
 refine wv (.int .i64 z388) z z z (wv (.int .i64 (i64.wrap (z388 + (1:Int)))) z z z (wv (.int .i64 (i64.wrap (z388 + (1:Int)))) z z z (wl_nil (tn ?_))))
 replace hst := hst.keep1
 obtain rfl := some_inj hm
 exact ⟨_, Nat.lt_succ_self _, (i64.wrap (z388 + (1:Int))), _, hx395, (fu 1 (.float .f64 a1) z (fu 2 (Pt b358 0) z (fu 5 (.int .i64 (i64.wrap (z388 + (1:Int)))) z z))), hst⟩
}
}
 {
 replace hm := bif_f hc397 hm
 refine wp_iff (cvb hc397) ?_
 refine wp_exit (then_x (then_x ?_))
 replace hm := inr_up hm hx395
 refine blk_x (tn ?_)
 replace hst := hst.keep1
 obtain rfl := some_inj hm
 exact ⟨_, hx412, (fu 1 (.float .f64 a1) z (fu 2 (Pt b358 0) z z)), hst⟩
}
}
 {
 clear hst
 rintro _ w413 ⟨σ409, hm, rfl, hst⟩
 dsimp only [ref11_reads_j0] at hm
 refine wp_seq (wrl (wv (Pt b358 3) z z (x_field z underlying34 z sizeOf30 z) (wv (r0_0) z z (x_load z isAgg30 (hst.bc0 z)) (wv (.float .f64 a1) z z z ?_))))
 obtain ⟨t414, ht415, hm⟩ := bind_some hm
 refine wc call42 [r0_0, F6 a1] z z z ?_
 refine (ref11_has_ref (f0_0.mono (rd_weak _)) hst.to0 ht415).mono ?_
 rintro _ w416 ⟨rfl, hst⟩
 refine ⟨_, z, ?_⟩
 replace hst := hst.of0
 refine wv (.bool t414) z z z (wl_nil (tn (wp_ret ?_)))
 obtain rfl := some_inj hm
 refine post_ret (vs := [.bool t414]) results43 (rvs_cons (rv_tmp z) rvs_nil) ?_
 exact ⟨z, hst.keep0⟩
}
}

theorem ref11_Meet_ref {w0 w : World} {I : HL} {R : SP} {a0 : api_Hold} {r0_0 : Value} {r0_1 : Value} {r0_2 : Value} {r0_3 : Value} {a1 : api_Hold} {r1_0 : Value} {r1_1 : Value} {r1_2 : Value} {r1_3 : Value} (f0_0 : Rd tyF64 R I r0_0 a0.Gets) (f0_1 : Rd tyF2 R I r0_1 a0.Scans) (f0_2 : Rd tyF64 R I r0_2 a0.Puts) (f0_3 : Rd (tyInt .u8) R I r0_3 a0.Data) (f1_0 : Rd tyF64 R I r1_0 a1.Gets) (f1_1 : Rd tyF2 R I r1_1 a1.Scans) (f1_2 : Rd tyF64 R I r1_2 a1.Puts) (f1_3 : Rd (tyInt .u8) R I r1_3 a1.Data) (hst : St w0 w I [] R) {r : (Bool)} (hm : ref11_Meet a0 a1 = some r) :
  Calls prog 15 #[.agg #[U6 a0.ID.Session, U6 a0.ID.Seq, U6 a0.Epoch, r0_0, r0_1, r0_2, r0_3], .agg #[U6 a1.ID.Session, U6 a1.ID.Seq, U6 a1.Epoch, r1_0, r1_1, r1_2, r1_3]] w fun e w' => e = .returned (.bool r) ∧ St w0 w' I [] R := by {
 unfold ref11_Meet at hm
 refine calls_start (args := [.agg #[U6 a0.ID.Session, U6 a0.ID.Seq, U6 a0.Epoch, r0_0, r0_1, r0_2, r0_3], .agg #[U6 a1.ID.Session, U6 a1.ID.Seq, U6 a1.Epoch, r1_0, r1_1, r1_2, r1_3]]) func15 z ntmps15 (Nat.le_of_ble_eq_true z) ?_
 refine wp_seq (wrl ?_)
 obtain ⟨b411, w412, ew413, eb414, hst⟩ := hst.box [U6 a0.ID.Session, U6 a0.ID.Seq, U6 a0.Epoch, r0_0, r0_1, r0_2, r0_3] 34
 refine wl_run (v := Pt b411 0) (w' := w412) z z (x_al (by kernel_rfl) ew413 eb414) ?_
 obtain ⟨b416, w417, ew418, eb419, hst⟩ := hst.box [U6 a1.ID.Session, U6 a1.ID.Seq, U6 a1.Epoch, r1_0, r1_1, r1_2, r1_3] 34
 refine wl_run (v := Pt b416 0) (w' := w417) z z (x_al (by kernel_rfl) ew418 eb419) ?_
 refine wv (.bool false) z z z (wl_nil (tn ?_))
 obtain ⟨y487, hm, hx488⟩ := joinO_some hm
 refine wp_cut (fun a w => ∃ (σ485 : Nat → Value), (ref11_Meet_j0 a1 a0) () = some r ∧ a = Fr 45 (upd (upd σ485 2 (Pt b411 0)) 3 (Pt b416 0)) ∧ St w0 w I [cells b411 [U6 a0.ID.Session, U6 a0.ID.Seq, U6 a0.Epoch, r0_0, r0_1, r0_2, r0_3], cells b416 [U6 a1.ID.Session, U6 a1.ID.Seq, U6 a1.Epoch, r1_0, r1_1, r1_2, r1_3]] R) ?_ ?_
 {
 refine wp_seq (wrl (wv (.int .i64 (0:Int)) z z z (wl_nil (tn (wp_block ?_)))))
 obtain ⟨n460, hm⟩ := loopO_some hm
 refine wp_loop_n (fun n a w => ∃ (z458 : Int) (σ459 : Nat → Value), loopN (ref11_Meet_l1 a0 a1) n z458 = some y487 ∧ a = Fr 45 (upd (upd (upd σ459 2 (Pt b411 0)) 3 (Pt b416 0)) 5 (.int .i64 z458)) ∧ St w0 w I [cells b416 [U6 a1.ID.Session, U6 a1.ID.Seq, U6 a1.Epoch, r1_0, r1_1, r1_2, r1_3], cells b411 [U6 a0.ID.Session, U6 a0.ID.Seq, U6 a0.Epoch, r0_0, r0_1, r0_2, r0_3]] R) n460 ⟨(0:Int), _, hm, (fu 2 (Pt b411 0) z (fu 3 (Pt b416 0) z (fu 5 (.int .i64 (0:Int)) z z))), hst⟩ ?_
 rintro n466 _ w461 ⟨z458, σ459, hm, rfl, hst⟩
 obtain ⟨n463, y464, rfl, hm, hx465⟩ := loopN_some hm
 dsimp only [ref11_Meet_l1] at hm
 refine wp_seq (wp_seq (wrl (wv (.int .i64 z458) z z z (wv (Pt b411 5) z z (x_field z underlying34 z sizeOf30 z) (wv (r0_2) z z (x_load z isAgg30 (hst.bc1 z)) (wv (.int .i64 ((a0.Puts).length : Int)) z z (x_len z underlying30 (rd_sliceV f0_2)) (wv (.bool (decide (z458 < ((a0.Puts).length : Int)))) z z z (wl_nil (tn ?_)))))))))
 refine bsplit (decide (z458 < ((a0.Puts).length : Int))) (fun hc467 => ?_) (fun hc467 => ?_)
 {
 replace hm := bif_t hc467 hm
 refine wp_ift (cvb hc467) ?_
 refine wp_skip (tn (wp_seq (wp_block (wp_seq ?_))))
 refine wp_region_St hst 17 [0, 1, 2, 3, 4, 5, 6, 7, 8, 9, 10, 11, 12, 13, 14, 15, 16] [0, 1, 0, 4, 0, 28, 60, 127, 255, 511, 511, 1535, 511, 7679, 15871, 32767, 65535] [] z (by kernel_rfl) (by kernel_rfl) Try.mixed (by kernel_rfl) ?_
 refine wsr (Pt b416 5) 0 z z z (by kernel_rfl) (fun w hst => x_field z underlying34 z sizeOf30 z) (wsr (r1_2) 1 z z z (by kernel_rfl) (fun w hst => x_load z isAgg30 (hst.bc0 z)) (wsr (Pt b411 5) 2 z z z (by kernel_rfl) (fun w hst => x_field z underlying34 z sizeOf30 z) (wsr (r0_2) 3 z z z (by kernel_rfl) (fun w hst => x_load z isAgg30 (hst.bc1 z)) (wsr (.int .i64 z458) 4 z z z (by kernel_rfl) (fun w hst => z) ?_))))
 obtain ⟨x468, hx469, hm⟩ := bind_some hm
 obtain ⟨h470, h471, hi472⟩ := geto_some hx469
 refine wsr (.pointer (some (eAddr r0_2 (z458.toNat * 1 + 0)))) 5 z z z (by kernel_rfl) (fun w hst => x_index z z underlying30 sizeOf57 (rd_sliceV f0_2) h470 h471) (wsr (.float .f64 x468) 6 z z z (by kernel_rfl) (fun w hst => x_load z isAgg57 (rd_load f0_2 (HL.le.refl _) hst hi472 (by rintro _ rfl; rfl))) ?_)
 refine ws_e1 7 (by kernel_rfl) ?_
 refine nxe [8, 9, 10, 11, 12, 13, 14, 15, 16] (by kernel_rfl) z z ?_
 clear hst
 intro w hst
 obtain ⟨t473, ht474, hm⟩ := bind_some hm
 refine wec call42 [r1_2, F6 x468] z z ?_
 refine (ref11_has_ref (f1_2.mono (rd_weak _)) hst.to0 ht474).mono ?_
 rintro _ w475 ⟨rfl, hst⟩
 refine ⟨_, z, ?_⟩
 replace hst := hst.of0
 refine ws_next (pend' := []) hst (by kernel_rfl) pk_nil ?_
 refine wsr (.bool t473) 8 z z z (by kernel_rfl) (fun w hst => z) ?_
 refine bsplit t473 (fun hc478 => ?_) (fun hc478 => ?_)
 {
 replace hm := bif_t hc478 hm
 refine ws_q (v := undef) 9 [10, 11, 12, 13, 14, 15, 16] (by kernel_rfl) z z (yi_off ((wanted_eq z z z (cvb hc478)).trans z)) (ws_q (v := undef) 10 [11, 12, 13, 14, 15, 16] (by kernel_rfl) z z (yi_off ((wanted_eq z z z (cvb hc478)).trans z)) (ws_q (v := undef) 11 [12, 13, 14, 15, 16] (by kernel_rfl) z z (yi_off ((wanted_eq z z z (cvb hc478)).trans z)) (ws_q (v := undef) 12 [13, 14, 15, 16] (by kernel_rfl) z z (yi_off ((wanted_eq z z z (cvb hc478)).trans z)) (ws_q (v := undef) 13 [14, 15, 16] (by kernel_rfl) z z (yi_off ((wanted_eq z z z (cvb hc478)).trans z)) (ws_q (v := undef) 14 [15, 16] (by kernel_rfl) z z (yi_off ((wanted_eq z z z (cvb hc478)).trans z)) (ws_q (v := undef) 15 [16] (by kernel_rfl) z z (yi_off ((wanted_eq z z z (cvb hc478)).trans z)) (wsr (.bool true) 16 z z z (by kernel_rfl) (fun w hst => x_pick_t hc478 z z) ?_)))))))
 refine ws_nil ?_
 intro w hst
 refine tn ?_
 refine wp_ift z ?_
 refine wp_seq (wrl (wv (.bool true) z z z (wl_nil (tn (wp_ret (blk_r (then_r (then_r ?_))))))))
 replace hm := inr_up hm hx465
 refine blk_r (then_r ?_)
 replace hm := inr_up hm hx488
 obtain rfl := some_inj hm
 refine post_ret (vs := [.bool true]) results15 (rvs_cons (rv_tmp z) rvs_nil) ?_
 exact ⟨z, hst.keep0⟩
}
 {
 replace hm := bif_f hc478 hm
 refine ws_q (v := .agg #[U6 a1.ID.Session, U6 a1.ID.Seq, U6 a1.Epoch, r1_0, r1_1, r1_2, r1_3]) 9 [10, 11, 12, 13, 14, 15, 16] (by kernel_rfl) z z (yi_run ((wanted_eq z z z (cvb hc478)).trans z) (fun w hst => x_loadN (cs := [U6 a1.ID.Session, U6 a1.ID.Seq, U6 a1.Epoch, r1_0, r1_1, r1_2, r1_3]) z isAgg34 sizeOf34 (hst.bcs0 0 z))) (ws_q (v := Pt b411 5) 10 [11, 12, 13, 14, 15, 16] (by kernel_rfl) z z (yi_run ((wanted_eq z z z (cvb hc478)).trans z) (fun w hst => x_field z underlying34 z sizeOf30 z)) (ws_q (v := r0_2) 11 [12, 13, 14, 15, 16] (by kernel_rfl) z z (yi_run ((wanted_eq z z z (cvb hc478)).trans z) (fun w hst => x_load z isAgg30 (hst.bc1 z))) (ws_q (v := .int .i64 z458) 12 [13, 14, 15, 16] (by kernel_rfl) z z (yi_run ((wanted_eq z z z (cvb hc478)).trans z) (fun w hst => z)) (ws_q (v := .pointer (some (eAddr r0_2 (z458.toNat * 1 + 0)))) 13 [14, 15, 16] (by kernel_rfl) z z (yi_run ((wanted_eq z z z (cvb hc478)).trans z) (fun w hst => x_index z z underlying30 sizeOf57 (rd_sliceV f0_2) h470 h471)) (ws_q (v := .float .f64 x468) 14 [15, 16] (by kernel_rfl) z z (yi_run ((wanted_eq z z z (cvb hc478)).trans z) (fun w hst => x_load z isAgg57 (rd_load f0_2 (HL.le.refl _) hst hi472 (by rintro _ rfl; rfl)))) ?_)))))
 refine ws_e1 15 (by kernel_rfl) ?_
 refine nxe [16] (by kernel_rfl) z ((wanted_eq z z z (cvb hc478)).trans z) ?_
 clear hst
 intro w hst
 obtain ⟨t479, ht480, hm⟩ := bind_some hm
 refine wec call43 [.agg #[U6 a1.ID.Session, U6 a1.ID.Seq, U6 a1.Epoch, r1_0, r1_1, r1_2, r1_3], F6 x468] z z ?_
 refine (ref11_reads_ref (f1_0.mono (rd_weak _)) (f1_1.mono (rd_weak _)) (f1_2.mono (rd_weak _)) (f1_3.mono (rd_weak _)) hst.to0 ht480).mono ?_
 rintro _ w481 ⟨rfl, hst⟩
 refine ⟨_, z, ?_⟩
 replace hst := hst.of0
 refine ws_next (pend' := []) hst (by kernel_rfl) pk_nil ?_
 refine wsr (.bool t479) 16 z z z (by kernel_rfl) (fun w hst => x_pick_f hc478 z z) ?_
 refine ws_nil ?_
 intro w hst
 refine tn ?_
 refine bsplit t479 (fun hc484 => ?_) (fun hc484 => ?_)
 {
 replace hm := bif_t hc484 hm
 refine wp_ift (cvb hc484) ?_
 refine wp_seq (wrl (wv (.bool true) z z z (wl_nil (tn (wp_ret (blk_r (then_r (then_r ?_))))))))
 replace hm := inr_up hm hx465
 refine blk_r (then_r ?_)
 replace hm := inr_up hm hx488
 obtain rfl := some_inj hm
 refine post_ret (vs := [.bool true]) results15 (rvs_cons (rv_tmp z) rvs_nil) ?_
 exact ⟨z, hst.keep0⟩
}
 {
 replace hm := bif_f hc484 hm
 refine wp_iff (cvb hc484) ?_
 refine wp_skip (blk_n (tn (wrl ?_)))
 refine wv (.int .i64 z458) z z z (wv (.int .i64 (i64.wrap (z458 + (1:Int)))) z z z (wv (.int .i64 (i64.wrap (z458 + (1:Int)))) z z z (wl_nil (tn ?_))))
 replace hst := hst.pull1.pull1.keep2
 obtain rfl := some_inj hm
 exact ⟨_, Nat.lt_succ_self _, (i64.wrap (z458 + (1:Int))), _, hx465, (fu 2 (Pt b411 0) z (fu 3 (Pt b416 0) z (fu 5 (.int .i64 (i64.wrap (z458 + (1:Int)))) z z))), hst⟩
}
}
}
 {
 replace hm := bif_f hc467 hm
 refine wp_iff (cvb hc467) ?_
 refine wp_exit (then_x (then_x ?_))
 replace hm := inr_up hm hx465
 refine blk_x (tn ?_)
 replace hst := hst.pull1.keep2
 obtain rfl := some_inj hm
 exact ⟨_, hx488, (fu 2 (Pt b411 0) z (fu 3 (Pt b416 0) z z)), hst⟩
}
}
 {
 clear hst
 rintro _ w489 ⟨σ485, hm, rfl, hst⟩
 dsimp only [ref11_Meet_j0] at hm
 refine wp_seq (wp_seq (wrl (wv (.int .i64 (0:Int)) z z z (wl_nil (tn (wp_block ?_))))))
 obtain ⟨n517, hm⟩ := loopO_some hm
 refine wp_loop_n (fun n a w => ∃ (z515 : Int) (σ516 : Nat → Value), loopN (ref11_Meet_l2 a1 a0) n z515 = some r ∧ a = Fr 45 (upd (upd (upd σ516 2 (Pt b411 0)) 3 (Pt b416 0)) 6 (.int .i64 z515)) ∧ St w0 w I [cells b411 [U6 a0.ID.Session, U6 a0.ID.Seq, U6 a0.Epoch, r0_0, r0_1, r0_2, r0_3], cells b416 [U6 a1.ID.Session, U6 a1.ID.Seq, U6 a1.Epoch, r1_0, r1_1, r1_2, r1_3]] R) n517 ⟨(0:Int), _, hm, (fu 2 (Pt b411 0) z (fu 3 (Pt b416 0) z (fu 6 (.int .i64 (0:Int)) z z))), hst⟩ ?_
 rintro n523 _ w518 ⟨z515, σ516, hm, rfl, hst⟩
 obtain ⟨n520, y521, rfl, hm, hx522⟩ := loopN_some hm
 dsimp only [ref11_Meet_l2] at hm
 refine wp_seq (wp_seq (wrl (wv (.int .i64 z515) z z z (wv (Pt b416 5) z z (x_field z underlying34 z sizeOf30 z) (wv (r1_2) z z (x_load z isAgg30 (hst.bc1 z)) (wv (.int .i64 ((a1.Puts).length : Int)) z z (x_len z underlying30 (rd_sliceV f1_2)) (wv (.bool (decide (z515 < ((a1.Puts).length : Int)))) z z z (wl_nil (tn ?_)))))))))
 refine bsplit (decide (z515 < ((a1.Puts).length : Int))) (fun hc524 => ?_) (fun hc524 => ?_)
 {
 replace hm := bif_t hc524 hm
 refine wp_ift (cvb hc524) ?_
 refine wp_skip (tn (wp_seq (wp_block (wp_seq ?_))))
 refine wp_region_St hst 7 [0, 1, 2, 3, 4, 5, 6] [0, 0, 2, 0, 14, 30, 63] [] z (by kernel_rfl) (by kernel_rfl) Try.mixed (by kernel_rfl) ?_
 refine wsr (.agg #[U6 a0.ID.Session, U6 a0.ID.Seq, U6 a0.Epoch, r0_0, r0_1, r0_2, r0_3]) 0 z z z (by kernel_rfl) (fun w hst => x_loadN (cs := [U6 a0.ID.Session, U6 a0.ID.Seq, U6 a0.Epoch, r0_0, r0_1, r0_2, r0_3]) z isAgg34 sizeOf34 (hst.bcs0 0 z)) (wsr (Pt b416 5) 1 z z z (by kernel_rfl) (fun w hst => x_field z underlying34 z sizeOf30 z) (wsr (r1_2) 2 z z z (by kernel_rfl) (fun w hst => x_load z isAgg30 (hst.bc1 z)) (wsr (.int .i64 z515) 3 z z z (by kernel_rfl) (fun w hst => z) ?_)))
 obtain ⟨x525, hx526, hm⟩ := bind_some hm
 obtain ⟨h527, h528, hi529⟩ := geto_some hx526
 refine wsr (.pointer (some (eAddr r1_2 (z515.toNat * 1 + 0)))) 4 z z z (by kernel_rfl) (fun w hst => x_index z z underlying30 sizeOf57 (rd_sliceV f1_2) h527 h528) (wsr (.float .f64 x525) 5 z z z (by kernel_rfl) (fun w hst => x_load z isAgg57 (rd_load f1_2 (HL.le.refl _) hst hi529 (by rintro _ rfl; rfl))) ?_)
 refine ws_e1 6 (by kernel_rfl) ?_
 refine nxe [] (by kernel_rfl) z z ?_
 clear hst
 intro w hst
 obtain ⟨t530, ht531, hm⟩ := bind_some hm
 refine wec call43 [.agg #[U6 a0.ID.Session, U6 a0.ID.Seq, U6 a0.Epoch, r0_0, r0_1, r0_2, r0_3], F6 x525] z z ?_
 refine (ref11_reads_ref (f0_0.mono (rd_weak _)) (f0_1.mono (rd_weak _)) (f0_2.mono (rd_weak _)) (f0_3.mono (rd_weak _)) hst.to0 ht531).mono ?_
 rintro _ w532 ⟨rfl, hst⟩
 refine ⟨_, z, ?_⟩
 replace hst := hst.of0
 refine ws_next (pend' := []) hst (by kernel_rfl) pk_nil ?_
 refine ws_nil ?_
 intro w hst
 refine tn ?_
 refine bsplit t530 (fun hc535 => ?_) (fun hc535 => ?_)
 {
 replace hm := bif_t hc535 hm
 refine wp_ift (cvb hc535) ?_
 refine wp_seq (wrl (wv (.bool true) z z z (wl_nil (tn (wp_ret (blk_r (then_r (then_r ?_))))))))
 replace hm := inr_up hm hx522
 refine blk_r (then_r ?_)
 obtain rfl := some_inj hm
 refine post_ret (vs := [.bool true]) results15 (rvs_cons (rv_tmp z) rvs_nil) ?_
 exact ⟨z, hst.keep0⟩
}
 {
 replace hm := bif_f hc535 hm
 refine wp_iff (cvb hc535) ?_
 refine wp_skip (blk_n (tn (wrl ?_)))
 refine wv (.int .i64 z515) z z z (wv (.int .i64 (i64.wrap (z515 + (1:Int)))) z z z (wv (.int .i64 (i64.wrap (z515 + (1:Int)))) z z z (wl_nil (tn ?_))))
 replace hst := hst.pull1.pull1.keep2
 obtain rfl := some_inj hm
 exact ⟨_, Nat.lt_succ_self _, (i64.wrap (z515 + (1:Int))), _, hx522, (fu 2 (Pt b411 0) z (fu 3 (Pt b416 0) z (fu 6 (.int .i64 (i64.wrap (z515 + (1:Int)))) z z))), hst⟩
}
}
 {
 replace hm := bif_f hc524 hm
 refine wp_iff (cvb hc524) ?_
 refine wp_exit (then_x (then_x ?_))
 replace hm := inr_up hm hx522
 refine blk_x (tn (wp_seq (wrl ?_)))
 refine wv (.bool false) z z z (wl_nil (tn (wp_ret ?_)))
 obtain rfl := some_inj hm
 refine post_ret (vs := [.bool false]) results15 (rvs_cons (rv_tmp z) rvs_nil) ?_
 exact ⟨z, hst.keep0⟩
}
}
}

theorem law12_LocksApart_ref {w0 w : World} {I : HL} {R : SP} {a0 : (List api_Hold)} {r0_0 : Value} (f0_0 : Rd ty_api_Hold R I r0_0 a0) (hst : St w0 w I [] R) {r : (Bool)} (hm : law12_LocksApart a0 = some r) :
  Calls prog 3 #[r0_0] w fun e w' => ∃ (I' : HL), e = .returned (.bool r) ∧ I.le I' ∧ St w0 w' I' [] R := by {
 unfold law12_LocksApart at hm
 refine calls_start (args := [r0_0]) func3 z ntmps3 (Nat.le_of_ble_eq_true z) ?_
 have hI0 := HL.le.refl I
 refine wp_seq (wrl (wv (.bool false) z z z (wl_nil (tn (wp_seq (wp_seq (wrl ?_)))))))
 obtain ⟨t709, ht710, hm⟩ := bind_some hm
 refine wc call9 [] z z z ?_
 refine (law12_awake_ref hst.to0 ht710).mono ?_
 rintro _ w711 ⟨I712, rfl, hI713, hst⟩
 refine ⟨_, z, ?_⟩
 replace hst := hst.of0
 replace f0_0 := f0_0.mono (rd_le hI713)
 replace hI0 := hI0.trans hI713
 refine wv (.bool (!t709)) z z z (wv (.bool (!t709)) z z z ?_)
 refine bsplit (!t709) (fun hc714 => ?_) (fun hc714 => ?_)
 {
 replace hm := bif_t hc714 hm
 refine wo hc714 z z z z z z (wo hc714 z z z z z z (wo hc714 z z z z z z (wv (.bool true) z z (x_pick_t hc714 z z) (wl_nil (tn ?_)))))
 refine wp_ift z ?_
 refine wp_seq (wrl ?_)
 obtain ⟨t715, ht716, hm⟩ := bind_some hm
 refine wc call9 [] z z z ?_
 refine (law12_awake_ref hst.to0 ht716).mono ?_
 rintro _ w717 ⟨I718, rfl, hI719, hst⟩
 refine ⟨_, z, ?_⟩
 replace hst := hst.of0
 replace f0_0 := f0_0.mono (rd_le hI719)
 replace hI0 := hI0.trans hI719
 refine wv (.bool t715) z z z (wl_nil (tn (wp_ret (then_r ?_))))
 obtain rfl := some_inj hm
 refine post_ret (vs := [.bool t715]) results3 (rvs_cons (rv_tmp z) rvs_nil) ?_
 exact ⟨_, z, hI0, hst.keep0⟩
}
 {
 replace hm := bif_f hc714 hm
 refine wv (r0_0) ((wanted_eq z z z (cvb hc714)).trans z) z z (wv (.int .i64 ((a0).length : Int)) ((wanted_eq z z z (cvb hc714)).trans z) z (x_len z underlying22 (rd_sliceV f0_0)) (wv (.bool (decide (((a0).length : Int) > (30:Int)))) ((wanted_eq z z z (cvb hc714)).trans z) z z (wv (.bool (decide (((a0).length : Int) > (30:Int)))) z z (x_pick_f hc714 z z) (wl_nil (tn ?_)))))
 refine bsplit (decide (((a0).length : Int) > (30:Int))) (fun hc720 => ?_) (fun hc720 => ?_)
 {
 replace hm := bif_t hc720 hm
 refine wp_ift (cvb hc720) ?_
 refine wp_seq (wrl ?_)
 obtain ⟨t721, ht722, hm⟩ := bind_some hm
 refine wc call9 [] z z z ?_
 refine (law12_awake_ref hst.to0 ht722).mono ?_
 rintro _ w723 ⟨I724, rfl, hI725, hst⟩
 refine ⟨_, z, ?_⟩
 replace hst := hst.of0
 replace f0_0 := f0_0.mono (rd_le hI725)
 replace hI0 := hI0.trans hI725
 refine wv (.bool t721) z z z (wl_nil (tn (wp_ret (then_r ?_))))
 obtain rfl := some_inj hm
 refine post_ret (vs := [.bool t721]) results3 (rvs_cons (rv_tmp z) rvs_nil) ?_
 exact ⟨_, z, hI0, hst.keep0⟩
}
 {
 replace hm := bif_f hc720 hm
 refine wp_iff (cvb hc720) ?_
 refine wp_skip (tn (wp_seq (wrl ?_)))
 obtain ⟨t726, ht727, hm⟩ := bind_some hm
 refine wc call10 [] z z z ?_
 refine (locks_New_ref hst.to0 ht727).mono ?_
 rintro _ w728 ⟨v731, rfl, hst⟩
 refine ⟨_, z, ?_⟩
 replace hst := hst.of1
 refine wv (v731) z z z (wl_nil (tn ?_))
 obtain ⟨y903, hm, hx904⟩ := joinO_some hm
 refine wp_cut (fun a w => ∃ (I900 : HL) (z899 : locks_Table) (σ901 : Nat → Value), (law12_LocksApart_j0) z899 = some r ∧ a = Fr 80 (upd σ901 3 (v731)) ∧ I712.le I900 ∧ St w0 w I900 [at_locks_Table v731 z899] R) ?_ ?_
 {
 have hL905 := HL.le.refl I712
 refine wp_seq (wrl (wv (.int .i64 (0:Int)) z z z (wl_nil (tn (wp_block ?_)))))
 obtain ⟨n841, hm⟩ := loopO_some hm
 refine wp_loop_n (fun n a w => ∃ (I839 : HL) (z837 : locks_Table) (z838 : Int) (σ840 : Nat → Value), loopN (law12_LocksApart_l1 a0) n (z837, z838) = some y903 ∧ a = Fr 80 (upd (upd (upd σ840 0 (r0_0)) 3 (v731)) 4 (.int .i64 z838)) ∧ I712.le I839 ∧ St w0 w I839 [at_locks_Table v731 z837] R) n841 ⟨_, t726, (0:Int), _, hm, (fu 0 r0_0 z (fu 3 v731 z (fu 4 (.int .i64 (0:Int)) z z))), (HL.le.refl _), hst⟩ ?_
 rintro n847 _ w842 ⟨I839, z837, z838, σ840, hm, rfl, hL843, hst⟩
 obtain ⟨n844, y845, rfl, hm, hx846⟩ := loopN_some hm
 dsimp only [law12_LocksApart_l1] at hm
 replace f0_0 := f0_0.mono (rd_le hL843)
 replace hI0 := hI0.trans hL843
 replace hL905 := hL905.trans hL843
 refine wp_seq (wp_seq (wrl (wv (.int .i64 z838) z z z (wv (r0_0) z z z (wv (.int .i64 ((a0).length : Int)) z z (x_len z underlying22 (rd_sliceV f0_0)) (wv (.bool (decide (z838 < ((a0).length : Int)))) z z z (wl_nil (tn ?_))))))))
 refine bsplit (decide (z838 < ((a0).length : Int))) (fun hc848 => ?_) (fun hc848 => ?_)
 {
 replace hm := bif_t hc848 hm
 refine wp_ift (cvb hc848) ?_
 refine wp_skip (tn (wp_seq (wp_block (wp_seq (wp_seq (wrl ?_))))))
 refine wv (r0_0) z z z (wv (.int .i64 z838) z z z ?_)
 obtain ⟨x849, hx850, hm⟩ := bind_some hm
 obtain ⟨h851, h852, hi853⟩ := geto_some hx850
 refine wv (.pointer (some (eAddr r0_0 (z838.toNat * 7 + 0)))) z z (x_index z z underlying22 sizeOf34 (rd_sliceV f0_0) h851 h852) ?_
 obtain ⟨cs854, hr855, hc856⟩ := Rd.getF f0_0 hi853
 obtain ⟨v857, v860, v863, v866, rfl, f858, f861, f864, f867, -⟩ := hr855
 refine wv (.agg #[U6 x849.ID.Session, U6 x849.ID.Seq, U6 x849.Epoch, v857, v860, v863, v866]) z z (x_loadN (cs := [U6 x849.ID.Session, U6 x849.ID.Seq, U6 x849.Epoch, v857, v860, v863, v866]) z isAgg34 sizeOf34 (eCells (o := 0) (hc856 (HL.le.refl _) hst) z)) ?_
 obtain ⟨t869, ht870, hm⟩ := bind_some hm
 refine wc call11 [.agg #[U6 x849.ID.Session, U6 x849.ID.Seq, U6 x849.Epoch, v857, v860, v863, v866]] z z z ?_
 refine (law12_short_ref (f858.mono (rd_weak _)) (f861.mono (rd_weak _)) (f864.mono (rd_weak _)) (f867.mono (rd_weak _)) hst.to0 ht870).mono ?_
 rintro _ w871 ⟨rfl, hst⟩
 refine ⟨_, z, ?_⟩
 replace hst := hst.of0
 refine wv (.bool (!t869)) z z z (wl_nil (tn ?_))
 refine bsplit (!t869) (fun hc874 => ?_) (fun hc874 => ?_)
 {
 replace hm := bif_t hc874 hm
 refine wp_ift (cvb hc874) ?_
 refine wp_seq (wrl (wv (.bool true) z z z (wl_nil (tn (wp_ret (then_r (blk_r (then_r (then_r ?_)))))))))
 replace hm := inr_up hm hx846
 refine blk_r (then_r ?_)
 replace hm := inr_up hm hx904
 obtain rfl := some_inj hm
 refine post_ret (vs := [.bool true]) results3 (rvs_cons (rv_tmp z) rvs_nil) ?_
 exact ⟨_, z, hI0, hst.keep0⟩
}
 {
 replace hm := bif_f hc874 hm
 refine wp_iff (cvb hc874) ?_
 refine wp_skip (tn (wp_seq (wrl ?_)))
 refine wv (v731) z z z (wv (r0_0) z z z (wv (.int .i64 z838) z z z (wv (.pointer (some (eAddr r0_0 (z838.toNat * 7 + 0)))) z z (x_index z z underlying22 sizeOf34 (rd_sliceV f0_0) h851 h852) ?_)))
 obtain ⟨cs875, hr876, hc877⟩ := Rd.getF f0_0 hi853
 obtain ⟨v878, v881, v884, v887, rfl, f879, f882, f885, f888, -⟩ := hr876
 refine wv (.agg #[U6 x849.ID.Session, U6 x849.ID.Seq, U6 x849.Epoch, v878, v881, v884, v887]) z z (x_loadN (cs := [U6 x849.ID.Session, U6 x849.ID.Seq, U6 x849.Epoch, v878, v881, v884, v887]) z isAgg34 sizeOf34 (eCells (o := 0) (hc877 (HL.le.refl _) hst) z)) ?_
 replace hst := objO_some hst
 obtain ⟨t890, ht891, hm⟩ := bind_some hm
 refine wc call12 [v731, .agg #[U6 x849.ID.Session, U6 x849.ID.Seq, U6 x849.Epoch, v878, v881, v884, v887]] z z z ?_
 refine (locks_Table_Take_ref (f879.mono (rd_weak _)) (f882.mono (rd_weak _)) (f885.mono (rd_weak _)) (f888.mono (rd_weak _)) hst.to1 ht891).mono ?_
 rintro _ w892 ⟨I893, rfl, hI894, hst⟩
 refine ⟨_, z, ?_⟩
 replace hst := hst.of1
 replace f0_0 := f0_0.mono (rd_le hI894)
 replace f858 := f858.mono (rd_le hI894)
 replace f861 := f861.mono (rd_le hI894)
 replace f864 := f864.mono (rd_le hI894)
 replace f867 := f867.mono (rd_le hI894)
 replace f879 := f879.mono (rd_le hI894)
 replace f882 := f882.mono (rd_le hI894)
 replace f885 := f885.mono (rd_le hI894)
 replace f888 := f888.mono (rd_le hI894)
 replace hI0 := hI0.trans hI894
 replace hL905 := hL905.trans hI894
 replace hL843 := hL843.trans hI894
 rcases he896 : t890.2 with _ | y895
 · rw [he896] at hm; cases hm
 rw [he896] at hm hst; dsimp only at hm; replace hst := objO_get hst
 refine wv (.int .i64 t890.1) z z z (wl_nil (tn (wp_seq (wrl (wv (.int .i64 t890.1) z z z (wv (.bool (t890.1 != (0:Int))) z z z (wv (.bool (t890.1 != (0:Int))) z z z ?_)))))))
 refine bsplit (t890.1 != (0:Int)) (fun hc897 => ?_) (fun hc897 => ?_)
 {
 replace hm := bif_t hc897 hm
 refine wv (.int .i64 t890.1) ((wanted_eq z z z (cvb hc897)).trans z) z z (wv (.bool (t890.1 != (8:Int))) ((wanted_eq z z z (cvb hc897)).trans z) z z (wv (.bool (t890.1 != (8:Int))) z z (x_pick_t hc897 z z) (wl_nil (tn ?_))))
 refine bsplit (t890.1 != (8:Int)) (fun hc898 => ?_) (fun hc898 => ?_)
 {
 replace hm := bif_t hc898 hm
 refine wp_ift (cvb hc898) ?_
 refine wp_seq (wrl (wv (.bool false) z z z (wl_nil (tn (wp_ret (blk_r (then_r (then_r ?_))))))))
 replace hm := inr_up hm hx846
 refine blk_r (then_r ?_)
 replace hm := inr_up hm hx904
 obtain rfl := some_inj hm
 refine post_ret (vs := [.bool false]) results3 (rvs_cons (rv_tmp z) rvs_nil) ?_
 exact ⟨_, z, hI0, hst.keep0⟩
}
 {
 replace hm := bif_f hc898 hm
 refine wp_iff (cvb hc898) ?_
 refine wp_skip (blk_n (tn (wrl ?_)))
 refine wv (.int .i64 z838) z z z (wv (.int .i64 (i64.wrap (z838 + (1:Int)))) z z z (wv (.int .i64 (i64.wrap (z838 + (1:Int)))) z z z (wl_nil (tn ?_))))
 replace hst := hst.keep1
 obtain rfl := some_inj hm
 exact ⟨_, Nat.lt_succ_self _, _, y895, (i64.wrap (z838 + (1:Int))), _, hx846, (fu 0 r0_0 z (fu 3 v731 z (fu 4 (.int .i64 (i64.wrap (z838 + (1:Int)))) z z))), hL843, hst⟩
}
}
 {
 replace hm := bif_f hc897 hm
 refine wo hc897 z z z z z z (wo hc897 z z z z z z (wv (.bool false) z z (x_pick_f hc897 z z) (wl_nil (tn ?_))))
 refine wp_iff z ?_
 refine wp_skip (blk_n (tn (wrl ?_)))
 refine wv (.int .i64 z838) z z z (wv (.int .i64 (i64.wrap (z838 + (1:Int)))) z z z (wv (.int .i64 (i64.wrap (z838 + (1:Int)))) z z z (wl_nil (tn ?_))))
 replace hst := hst.keep1
 obtain rfl := some_inj hm
 exact ⟨_, Nat.lt_succ_self _, _, y895, (i64.wrap (z838 + (1:Int))), _, hx846, (fu 0 r0_0 z (fu 3 v731 z (fu 4 (.int .i64 (i64.wrap (z838 + (1:Int)))) z z))), hL843, hst⟩
}
}
}
 {
 replace hm := bif_f hc848 hm
 refine wp_iff (cvb hc848) ?_
 refine wp_exit (then_x (then_x ?_))
 replace hm := inr_up hm hx846
 refine blk_x (tn ?_)
 replace hst := hst.keep1
 obtain rfl := some_inj hm
 exact ⟨_, z837, _, hx904, (fu 3 v731 z z), hL905, hst⟩
}
}
 {
 clear hst
 rintro _ w906 ⟨I900, z899, σ901, hm, rfl, hL902, hst⟩
 dsimp only [law12_LocksApart_j0] at hm
 replace f0_0 := f0_0.mono (rd_le hL902)
 replace hI0 := hI0.trans hL902
 refine wp_seq (wrl (wv (v731) z z z ?_))
 replace hst := objO_some hst
 obtain ⟨t907, ht908, hm⟩ := bind_some hm
 refine wc call13 [v731] z z z ?_
 refine (locks_Table_All_ref hst.to1 ht908).mono ?_
 rintro _ w909 ⟨v912, rfl, hst⟩
 refine ⟨_, z, ?_⟩
 replace hst := hst.of2.pull1
 replace hst := objO_get hst
 refine wv (v912) z z z (wl_nil (tn (wp_seq (wp_seq (wrl (wv (.int .i64 (0:Int)) z z z (wl_nil (tn (wp_block ?_)))))))))
 obtain ⟨n1243, hm⟩ := loopO_some hm
 refine wp_loop_n (fun n a w => ∃ (I1241 : HL) (z1240 : Int) (σ1242 : Nat → Value), loopN (law12_LocksApart_l2 t907 z899) n z1240 = some r ∧ a = Fr 80 (upd (upd (upd σ1242 3 (v731)) 6 (v912)) 7 (.int .i64 z1240)) ∧ I900.le I1241 ∧ St w0 w I1241 [at_locks_Table v731 z899, ownS ty_api_ID v912 t907] R) n1243 ⟨_, (0:Int), _, hm, (fu 3 v731 z (fu 6 v912 z (fu 7 (.int .i64 (0:Int)) z z))), (HL.le.refl _), hst⟩ ?_
 rintro n1249 _ w1244 ⟨I1241, z1240, σ1242, hm, rfl, hL1245, hst⟩
 obtain ⟨n1246, y1247, rfl, hm, hx1248⟩ := loopN_some hm
 dsimp only [law12_LocksApart_l2] at hm
 replace f0_0 := f0_0.mono (rd_le hL1245)
 replace hI0 := hI0.trans hL1245
 refine wp_seq (wp_seq (wrl (wv (.int .i64 z1240) z z z (wv (v912) z z z (wv (.int .i64 ((t907).length : Int)) z z (x_len z underlying37 hst.sv1) (wv (.bool (decide (z1240 < ((t907).length : Int)))) z z z (wl_nil (tn ?_))))))))
 refine bsplit (decide (z1240 < ((t907).length : Int))) (fun hc1250 => ?_) (fun hc1250 => ?_)
 {
 replace hm := bif_t hc1250 hm
 refine wp_ift (cvb hc1250) ?_
 refine wp_skip (tn (wp_seq (wp_block (wp_seq (wrl ?_)))))
 refine wv (v731) z z z (wv (v912) z z z (wv (.int .i64 z1240) z z z ?_))
 obtain ⟨x1251, hx1252, hm⟩ := bind_some hm
 obtain ⟨h1253, h1254, hi1255⟩ := geto_some hx1252
 refine wv (.pointer (some (eAddr v912 (z1240.toNat * 2 + 0)))) z z (x_index z z underlying37 sizeOf29 hst.sv1 h1253 h1254) (wv (.agg #[U6 x1251.Session, U6 x1251.Seq]) z z (x_loadN (cs := [U6 x1251.Session, U6 x1251.Seq]) z isAgg29 sizeOf29 (hst.olN1 hi1255 0 (by rintro _ rfl; rfl))) ?_)
 replace hst := objO_some hst
 obtain ⟨t1256, ht1257, hm⟩ := bind_some hm
 refine wc call14 [v731, .agg #[U6 x1251.Session, U6 x1251.Seq]] z z z ?_
 refine (locks_Table_Get_ref hst.to1 ht1257).mono ?_
 rintro _ w1258 ⟨I1259, v1261, v1264, v1267, v1270, rfl, hI1260, f1263, f1266, f1269, f1272, hst⟩
 refine ⟨_, z, ?_⟩
 replace hst := hst.of1
 replace f0_0 := f0_0.mono (rd_le hI1260)
 replace hI0 := hI0.trans hI1260
 replace hL1245 := hL1245.trans hI1260
 replace hst := objO_get hst
 refine wv (.tuple #[.agg #[U6 t1256.1.ID.Session, U6 t1256.1.ID.Seq, U6 t1256.1.Epoch, v1261, v1264, v1267, v1270], .bool t1256.2]) z z z (wv (.agg #[U6 t1256.1.ID.Session, U6 t1256.1.ID.Seq, U6 t1256.1.Epoch, v1261, v1264, v1267, v1270]) z z z (wv (.bool t1256.2) z z z ?_))
 obtain ⟨b1277, w1278, ew1279, eb1280, hst⟩ := hst.box [Zu, Zu, Zu, Zs, Zs, Zs, Zs] 34
 refine wl_run (v := Pt b1277 0) (w' := w1278) z z (x_al (by kernel_rfl) ew1279 eb1280) ?_
 obtain ⟨w1282, hr1283, hst⟩ := hst.bx [U6 t1256.1.ID.Session, U6 t1256.1.ID.Seq, U6 t1256.1.Epoch, v1261, v1264, v1267, v1270] sizeOf34 z (oC z (oC z (oC z (oC (one_of_sliceV (ro_sliceV f1263)) (oC (one_of_sliceV (ro_sliceV f1266)) (oC (one_of_sliceV (ro_sliceV f1269)) (oC (one_of_sliceV (ro_sliceV f1272)) oN))))))) (by kernel_rfl)
 refine wl_unit z z (x_unit hr1283) ?_
 refine wv (.bool t1256.2) z z z (wl_nil (tn (wp_seq (wrl (wv (.int .i64 (0:Int)) z z z (wl_nil (tn (wp_block ?_))))))))
 obtain ⟨n1368, hm⟩ := loopO_some hm
 refine wp_loop_n (fun n a w => ∃ (I1366 : HL) (z1365 : Int) (σ1367 : Nat → Value), loopN (law12_LocksApart_l3 z1240 t907 z899 t1256) n z1365 = some y1247 ∧ a = Fr 80 (upd (upd (upd (upd (upd σ1367 3 (v731)) 6 (v912)) 7 (.int .i64 z1240)) 8 (Pt b1277 0)) 10 (.int .i64 z1365)) ∧ I1259.le I1366 ∧ St w0 w I1366 [cells b1277 [U6 t1256.1.ID.Session, U6 t1256.1.ID.Seq, U6 t1256.1.Epoch, v1261, v1264, v1267, v1270], at_locks_Table v731 z899, ownS ty_api_ID v912 t907] R) n1368 ⟨_, (0:Int), _, hm, (fu 3 v731 z (fu 6 v912 z (fu 7 (.int .i64 z1240) z (fu 8 (Pt b1277 0) z (fu 10 (.int .i64 (0:Int)) z z))))), (HL.le.refl _), hst⟩ ?_
 rintro n1374 _ w1369 ⟨I1366, z1365, σ1367, hm, rfl, hL1370, hst⟩
 obtain ⟨n1371, y1372, rfl, hm, hx1373⟩ := loopN_some hm
 dsimp only [law12_LocksApart_l3] at hm
 replace f0_0 := f0_0.mono (rd_le hL1370)
 replace f1263 := f1263.mono (ro_le hL1370)
 replace f1266 := f1266.mono (ro_le hL1370)
 replace f1269 := f1269.mono (ro_le hL1370)
 replace f1272 := f1272.mono (ro_le hL1370)
 replace hI0 := hI0.trans hL1370
 replace hL1245 := hL1245.trans hL1370
 refine wp_seq (wp_seq (wrl (wv (.int .i64 z1365) z z z (wv (.int .i64 z1240) z z z (wv (.bool (decide (z1365 < z1240))) z z z (wl_nil (tn ?_)))))))
 refine bsplit (decide (z1365 < z1240)) (fun hc1375 => ?_) (fun hc1375 => ?_)
 {
 replace hm := bif_t hc1375 hm
 refine wp_ift (cvb hc1375) ?_
 refine wp_skip (tn (wp_seq (wp_block (wp_seq (wrl ?_)))))
 refine wv (v731) z z z (wv (v912) z z z (wv (.int .i64 z1365) z z z ?_))
 obtain ⟨x1376, hx1377, hm⟩ := bind_some hm
 obtain ⟨h1378, h1379, hi1380⟩ := geto_some hx1377
 refine wv (.pointer (some (eAddr v912 (z1365.toNat * 2 + 0)))) z z (x_index z z underlying37 sizeOf29 hst.sv2 h1378 h1379) (wv (.agg #[U6 x1376.Session, U6 x1376.Seq]) z z (x_loadN (cs := [U6 x1376.Session, U6 x1376.Seq]) z isAgg29 sizeOf29 (hst.olN2 hi1380 0 (by rintro _ rfl; rfl))) ?_)
 replace hst := hst.pull1
 replace hst := objO_some hst
 obtain ⟨t1381, ht1382, hm⟩ := bind_some hm
 refine wc call14 [v731, .agg #[U6 x1376.Session, U6 x1376.Seq]] z z z ?_
 refine (locks_Table_Get_ref hst.to1 ht1382).mono ?_
 rintro _ w1383 ⟨I1384, v1386, v1389, v1392, v1395, rfl, hI1385, f1388, f1391, f1394, f1397, hst⟩
 refine ⟨_, z, ?_⟩
 replace hst := hst.of1
 replace f0_0 := f0_0.mono (rd_le hI1385)
 replace f1263 := f1263.mono (ro_le hI1385)
 replace f1266 := f1266.mono (ro_le hI1385)
 replace f1269 := f1269.mono (ro_le hI1385)
 replace f1272 := f1272.mono (ro_le hI1385)
 replace hI0 := hI0.trans hI1385
 replace hL1245 := hL1245.trans hI1385
 replace hL1370 := hL1370.trans hI1385
 replace hst := objO_get hst
 refine wv (.tuple #[.agg #[U6 t1381.1.ID.Session, U6 t1381.1.ID.Seq, U6 t1381.1.Epoch, v1386, v1389, v1392, v1395], .bool t1381.2]) z z z (wv (.agg #[U6 t1381.1.ID.Session, U6 t1381.1.ID.Seq, U6 t1381.1.Epoch, v1386, v1389, v1392, v1395]) z z z (wv (.bool t1381.2) z z z ?_))
 obtain ⟨b1402, w1403, ew1404, eb1405, hst⟩ := hst.box [Zu, Zu, Zu, Zs, Zs, Zs, Zs] 34
 refine wl_run (v := Pt b1402 0) (w' := w1403) z z (x_al (by kernel_rfl) ew1404 eb1405) ?_
 obtain ⟨w1407, hr1408, hst⟩ := hst.bx [U6 t1381.1.ID.Session, U6 t1381.1.ID.Seq, U6 t1381.1.Epoch, v1386, v1389, v1392, v1395] sizeOf34 z (oC z (oC z (oC z (oC (one_of_sliceV (ro_sliceV f1388)) (oC (one_of_sliceV (ro_sliceV f1391)) (oC (one_of_sliceV (ro_sliceV f1394)) (oC (one_of_sliceV (ro_sliceV f1397)) oN))))))) (by kernel_rfl)
 refine wl_unit z z (x_unit hr1408) ?_
 refine wv (.bool t1381.2) z z z (wl_nil (tn (wp_seq (wrl (wv (.agg #[U6 t1256.1.ID.Session, U6 t1256.1.ID.Seq, U6 t1256.1.Epoch, v1261, v1264, v1267, v1270]) z z (x_loadN (cs := [U6 t1256.1.ID.Session, U6 t1256.1.ID.Seq, U6 t1256.1.Epoch, v1261, v1264, v1267, v1270]) z isAgg34 sizeOf34 (hst.bcs2 0 z)) (wv (.agg #[U6 t1381.1.ID.Session, U6 t1381.1.ID.Seq, U6 t1381.1.Epoch, v1386, v1389, v1392, v1395]) z z (x_loadN (cs := [U6 t1381.1.ID.Session, U6 t1381.1.ID.Seq, U6 t1381.1.Epoch, v1386, v1389, v1392, v1395]) z isAgg34 sizeOf34 (hst.bcs0 0 z)) ?_))))))
 obtain ⟨t1409, ht1410, hm⟩ := bind_some hm
 refine wc call15 [.agg #[U6 t1256.1.ID.Session, U6 t1256.1.ID.Seq, U6 t1256.1.Epoch, v1261, v1264, v1267, v1270], .agg #[U6 t1381.1.ID.Session, U6 t1381.1.ID.Seq, U6 t1381.1.Epoch, v1386, v1389, v1392, v1395]] z z z ?_
 refine (ref11_Meet_ref (f1263.mono ro_rd) (f1266.mono ro_rd) (f1269.mono ro_rd) (f1272.mono ro_rd) (f1388.mono ro_rd) (f1391.mono ro_rd) (f1394.mono ro_rd) (f1397.mono ro_rd) hst.to0 ht1410).mono ?_
 rintro _ w1411 ⟨rfl, hst⟩
 refine ⟨_, z, ?_⟩
 replace hst := hst.of0
 refine wl_nil (tn ?_)
 refine bsplit t1409 (fun hc1414 => ?_) (fun hc1414 => ?_)
 {
 replace hm := bif_t hc1414 hm
 refine wp_ift (cvb hc1414) ?_
 refine wp_seq (wrl (wv (.bool false) z z z (wl_nil (tn (wp_ret (blk_r (then_r (then_r ?_))))))))
 replace hm := inr_up hm hx1373
 refine blk_r (blk_r (then_r (then_r ?_)))
 replace hm := inr_up hm hx1248
 refine blk_r (then_r ?_)
 obtain rfl := some_inj hm
 refine post_ret (vs := [.bool false]) results3 (rvs_cons (rv_tmp z) rvs_nil) ?_
 exact ⟨_, z, hI0, hst.keep0⟩
}
 {
 replace hm := bif_f hc1414 hm
 refine wp_iff (cvb hc1414) ?_
 refine wp_skip (blk_n (tn (wrl ?_)))
 refine wv (.int .i64 z1365) z z z (wv (.int .i64 (i64.wrap (z1365 + (1:Int)))) z z z (wv (.int .i64 (i64.wrap (z1365 + (1:Int)))) z z z (wl_nil (tn ?_))))
 replace hst := hst.pull3.pull2.pull3.keep3
 obtain rfl := some_inj hm
 exact ⟨_, Nat.lt_succ_self _, _, (i64.wrap (z1365 + (1:Int))), _, hx1373, (fu 3 v731 z (fu 6 v912 z (fu 7 (.int .i64 z1240) z (fu 8 (Pt b1277 0) z (fu 10 (.int .i64 (i64.wrap (z1365 + (1:Int)))) z z))))), hL1370, hst⟩
}
}
 {
 replace hm := bif_f hc1375 hm
 refine wp_iff (cvb hc1375) ?_
 refine wp_exit (then_x (then_x ?_))
 replace hm := inr_up hm hx1373
 refine blk_x (blk_n (tn (wrl ?_)))
 refine wv (.int .i64 z1240) z z z (wv (.int .i64 (i64.wrap (z1240 + (1:Int)))) z z z (wv (.int .i64 (i64.wrap (z1240 + (1:Int)))) z z z (wl_nil (tn ?_))))
 replace hst := hst.pull2.pull2.keep2
 obtain rfl := some_inj hm
 exact ⟨_, Nat.lt_succ_self _, _, (i64.wrap (z1240 + (1:Int))), _, hx1248, (fu 3 v731 z (fu 6 v912 z (fu 7 (.int .i64 (i64.wrap (z1240 + (1:Int)))) z z))), hL1245, hst⟩
}
}
 {
 replace hm := bif_f hc1250 hm
 refine wp_iff (cvb hc1250) ?_
 refine wp_exit (then_x (then_x ?_))
 replace hm := inr_up hm hx1248
 refine blk_x (tn (wp_seq (wrl ?_)))
 refine wv (.bool true) z z z (wl_nil (tn (wp_ret ?_)))
 obtain rfl := some_inj hm
 refine post_ret (vs := [.bool true]) results3 (rvs_cons (rv_tmp z) rvs_nil) ?_
 exact ⟨_, z, hI0, hst.keep0⟩
}
}
}
}
}

end Go.Proofs.Ytbdhhmnncknhhaa
