/- The Go functions refine their models, part 3. -/
import Derived.Test.YtddhkbholbcebaaLabelChecksR2
set_option linter.unusedVariables false
set_option linter.unusedSimpArgs false
set_option maxRecDepth 100000
set_option maxHeartbeats 4000000
namespace Go.Proofs.Ytddhkbholbcebaa
open Go Go.V
open _root_.Go.Proofs.Try IntKind
attribute [local irreducible] wpList Code.wp wpQuiet Calls bodyPost Oper.wp wpS Nx PendOK YieldsIn
theorem law03_told_ref {w0 w : World} {I : HL} {R : SP} {a0 : (Option label_Lattice)} {p0 : Value} {a1 : (List Int)} {r1_0 : Value} (f1_0 : Rd (tyInt .u64) R I r1_0 a1) (hst : St w0 w I [objO at_label_Lattice p0 a0] R) {r : (Bool)} (hm : law03_told a0 a1 = some r) :
  Calls prog 20 #[p0, r1_0] w fun e w' => e = .returned (.bool r) ∧ St w0 w' I [objO at_label_Lattice p0 a0] R := by {
 unfold law03_told at hm
 refine calls_start (args := [p0, r1_0]) func20 z ntmps20 (Nat.le_of_ble_eq_true z) ?_
 refine wp_seq (wrl (wv (.bool false) z z z (wl_nil (tn (wp_seq (wrl (wv (r1_0) z z z (wv (.int .i64 ((a1).length : Int)) z z (x_len z underlying28 (rd_sliceV f1_0)) (wv (.int .i64 ((a1).length : Int)) z z z (wl_nil (tn (wp_seq (wp_seq (wrl (wv (p0) z z z ?_)))))))))))))))
 obtain ⟨t1426, ht1427, hm⟩ := bind_some hm
 refine wc call12 [p0] z z z ?_
 refine (label_Lattice_Len_ref hst.to1 ht1427).mono ?_
 rintro _ w1428 ⟨rfl, hst⟩
 refine ⟨_, z, ?_⟩
 replace hst := hst.of1
 refine wv (.int .i64 ((a1).length : Int)) z z z (wv (.bool (t1426 != ((a1).length : Int))) z z z (wl_nil (tn ?_)))
 refine bsplit (t1426 != ((a1).length : Int)) (fun hc1431 => ?_) (fun hc1431 => ?_)
 {
 replace hm := bif_t hc1431 hm
 refine wp_ift (cvb hc1431) ?_
 refine wp_seq (wrl (wv (.bool false) z z z (wl_nil (tn (wp_ret (then_r ?_))))))
 obtain rfl := some_inj hm
 refine post_ret (vs := [.bool false]) results20 (rvs_cons (rv_tmp z) rvs_nil) ?_
 exact ⟨z, hst.keep1⟩
}
 {
 replace hm := bif_f hc1431 hm
 refine wp_iff (cvb hc1431) ?_
 refine wp_skip (tn (wp_seq (wrl ?_)))
 refine wv (r1_0) z z z ?_
 obtain ⟨t1432, ht1433, hm⟩ := bind_some hm
 refine wc call35 [r1_0] z z z ?_
 refine (ref03_Order_ref (f1_0.mono (rd_weak _)) hst.to0 ht1433).mono ?_
 rintro _ w1434 ⟨v1437, rfl, hst⟩
 refine ⟨_, z, ?_⟩
 replace hst := hst.of1
 refine wv (v1437) z z z (wl_nil (tn (wp_seq (wrl (wv (p0) z z z ?_)))))
 replace hst := hst.pull1
 obtain ⟨t1439, ht1440, hm⟩ := bind_some hm
 refine wc call22 [p0] z z z ?_
 refine (label_Lattice_Order_ref hst.to1 ht1440).mono ?_
 rintro _ w1441 ⟨v1444, rfl, hst⟩
 refine ⟨_, z, ?_⟩
 replace hst := hst.of2
 refine wv (v1444) z z z (wl_nil (tn (wp_seq (wp_seq ?_))))
 refine wp_region_St hst 22 [0, 1, 2, 3, 4, 5, 6, 7, 8, 9, 10, 11, 12, 13, 14, 15, 16, 17, 18, 19, 20, 21] [0, 1, 0, 7, 15, 31, 63, 31, 159, 415, 1023, 2047, 4095, 8191, 16383, 8191, 8191, 73727, 237567, 499711, 1048575, 2097151] [] z (by kernel_rfl) (by kernel_rfl) Try.mixed (by kernel_rfl) ?_
 refine wsr (v1444) 0 z z z (by kernel_rfl) (fun w hst => z) (wsr (.int .i64 ((t1439).length : Int)) 1 z z z (by kernel_rfl) (fun w hst => x_len z underlying41 hst.sv0) (wsr (.int .i64 ((a1).length : Int)) 2 z z z (by kernel_rfl) (fun w hst => z) (wsr (.bool (((t1439).length : Int) != ((a1).length : Int))) 3 z z z (by kernel_rfl) (fun w hst => z) (wsr (.bool (((t1439).length : Int) != ((a1).length : Int))) 4 z z z (by kernel_rfl) (fun w hst => z) ?_))))
 refine bsplit (((t1439).length : Int) != ((a1).length : Int)) (fun hc1446 => ?_) (fun hc1446 => ?_)
 {
 replace hm := bif_t hc1446 hm
 refine ws_q (v := undef) 5 [6, 7, 8, 9, 10, 11, 12, 13, 14, 15, 16, 17, 18, 19, 20, 21] (by kernel_rfl) z z (yi_off ((wanted_eq z z z (cvb hc1446)).trans z)) (ws_q (v := undef) 6 [7, 8, 9, 10, 11, 12, 13, 14, 15, 16, 17, 18, 19, 20, 21] (by kernel_rfl) z z (yi_off ((wanted_eq z z z (cvb hc1446)).trans z)) (ws_q (v := undef) 7 [8, 9, 10, 11, 12, 13, 14, 15, 16, 17, 18, 19, 20, 21] (by kernel_rfl) z z (yi_off ((wanted_eq z z z (cvb hc1446)).trans z)) (ws_q (v := undef) 8 [9, 10, 11, 12, 13, 14, 15, 16, 17, 18, 19, 20, 21] (by kernel_rfl) z z (yi_off ((wanted_eq z z z (cvb hc1446)).trans z)) (ws_q (v := undef) 9 [10, 11, 12, 13, 14, 15, 16, 17, 18, 19, 20, 21] (by kernel_rfl) z z (yi_off ((wanted_eq z z z (cvb hc1446)).trans z)) (ws_q (v := undef) 10 [11, 12, 13, 14, 15, 16, 17, 18, 19, 20, 21] (by kernel_rfl) z z (yi_off ((wanted_eq z z z (cvb hc1446)).trans z)) (wsr (.bool true) 11 z z z (by kernel_rfl) (fun w hst => x_pick_t hc1446 z z) (wsr (.bool true) 12 z z z (by kernel_rfl) (fun w hst => z) (ws_q (v := undef) 13 [14, 15, 16, 17, 18, 19, 20, 21] (by kernel_rfl) z z (yi_off ((wanted_eq z z z z).trans z)) (ws_q (v := undef) 14 [15, 16, 17, 18, 19, 20, 21] (by kernel_rfl) z z (yi_off ((wanted_eq z z z z).trans z)) (ws_q (v := undef) 15 [16, 17, 18, 19, 20, 21] (by kernel_rfl) z z (yi_off ((wanted_eq z z z z).trans z)) (ws_q (v := undef) 16 [17, 18, 19, 20, 21] (by kernel_rfl) z z (yi_off ((wanted_eq z z z z).trans z)) (ws_q (v := undef) 17 [18, 19, 20, 21] (by kernel_rfl) z z (yi_off ((wanted_eq z z z z).trans z)) ?_))))))))))))
 refine ws_q (v := undef) 18 [19, 20, 21] (by kernel_rfl) z z (yi_off ((wanted_eq z z z z).trans z)) (ws_q (v := undef) 19 [20, 21] (by kernel_rfl) z z (yi_off ((wanted_eq z z z z).trans z)) (ws_q (v := undef) 20 [21] (by kernel_rfl) z z (yi_off ((wanted_eq z z z z).trans z)) (wsr (.bool true) 21 z z z (by kernel_rfl) (fun w hst => x_pick_t z z z) ?_)))
 refine ws_nil ?_
 intro w hst
 refine tn ?_
 refine wp_ift z ?_
 refine wp_seq (wrl (wv (.bool false) z z z (wl_nil (tn (wp_ret (then_r ?_))))))
 obtain rfl := some_inj hm
 refine post_ret (vs := [.bool false]) results20 (rvs_cons (rv_tmp z) rvs_nil) ?_
 replace hst := hst.pull1
 exact ⟨z, hst.keep1⟩
}
 {
 replace hm := bif_f hc1446 hm
 refine ws_q (v := p0) 5 [6, 7, 8, 9, 10, 11, 12, 13, 14, 15, 16, 17, 18, 19, 20, 21] (by kernel_rfl) z z (yi_run ((wanted_eq z z z (cvb hc1446)).trans z) (fun w hst => z)) (ws_q (v := v1437) 7 [6, 8, 9, 10, 11, 12, 13, 14, 15, 16, 17, 18, 19, 20, 21] (by kernel_rfl) z z (yi_run ((wanted_eq z z z (cvb hc1446)).trans z) (fun w hst => z)) ?_)
 obtain ⟨x1447, hx1448, hm⟩ := bind_some hm
 obtain ⟨h1449, h1450, hi1451⟩ := geto_some hx1448
 refine ws_q (v := .pointer (some (eAddr v1437 ((0:Int).toNat * 1 + 0)))) 8 [6, 9, 10, 11, 12, 13, 14, 15, 16, 17, 18, 19, 20, 21] (by kernel_rfl) z z (yi_run ((wanted_eq z z z (cvb hc1446)).trans z) (fun w hst => x_index z z underlying41 sizeOf3 hst.sv2 h1449 h1450)) (ws_q (v := .int .i64 x1447) 9 [6, 10, 11, 12, 13, 14, 15, 16, 17, 18, 19, 20, 21] (by kernel_rfl) z z (yi_run ((wanted_eq z z z (cvb hc1446)).trans z) (fun w hst => x_load z isAgg3 (hst.ol2 hi1451 (by rintro _ rfl; rfl)))) ?_)
 refine ws_e1 6 (by kernel_rfl) ?_
 refine nxe [10, 11, 12, 13, 14, 15, 16, 17, 18, 19, 20, 21] (by kernel_rfl) z ((wanted_eq z z z (cvb hc1446)).trans z) ?_
 clear hst
 intro w hst
 replace hst := hst.pull1
 obtain ⟨t1452, ht1453, hm⟩ := bind_some hm
 refine wec call16 [p0] z z ?_
 refine (label_Lattice_Bottom_ref hst.to1 ht1453).mono ?_
 rintro _ w1454 ⟨rfl, hst⟩
 refine ⟨_, z, ?_⟩
 replace hst := hst.of1
 refine ws_next (pend' := [(9, I6 x1447), (8, .pointer (some (eAddr v1437 ((0:Int).toNat * 1 + 0)))), (7, v1437)]) hst (by kernel_rfl) (pk_cons z (yi_run ((wanted_eq z z z (cvb hc1446)).trans z) (fun w hst => x_load z isAgg3 (hst.ol2 hi1451 (by rintro _ rfl; rfl)))) (pk_cons z (yi_run ((wanted_eq z z z (cvb hc1446)).trans z) (fun w hst => x_index z z underlying41 sizeOf3 hst.sv2 h1449 h1450)) (pk_cons z (yi_run ((wanted_eq z z z (cvb hc1446)).trans z) (fun w hst => z)) pk_nil))) ?_
 refine ws_q (v := .bool (t1452 != x1447)) 10 [11, 12, 13, 14, 15, 16, 17, 18, 19, 20, 21] (by kernel_rfl) z z (yi_run ((wanted_eq z z z (cvb hc1446)).trans z) (fun w hst => z)) (wsr (.bool (t1452 != x1447)) 11 z z z (by kernel_rfl) (fun w hst => x_pick_f hc1446 z z) (wsr (.bool (t1452 != x1447)) 12 z z z (by kernel_rfl) (fun w hst => z) ?_))
 refine bsplit (t1452 != x1447) (fun hc1457 => ?_) (fun hc1457 => ?_)
 {
 replace hm := bif_t hc1457 hm
 refine ws_q (v := undef) 13 [14, 15, 16, 17, 18, 19, 20, 21] (by kernel_rfl) z z (yi_off ((wanted_eq z z z (cvb hc1457)).trans z)) (ws_q (v := undef) 14 [15, 16, 17, 18, 19, 20, 21] (by kernel_rfl) z z (yi_off ((wanted_eq z z z (cvb hc1457)).trans z)) (ws_q (v := undef) 15 [16, 17, 18, 19, 20, 21] (by kernel_rfl) z z (yi_off ((wanted_eq z z z (cvb hc1457)).trans z)) (ws_q (v := undef) 16 [17, 18, 19, 20, 21] (by kernel_rfl) z z (yi_off ((wanted_eq z z z (cvb hc1457)).trans z)) (ws_q (v := undef) 17 [18, 19, 20, 21] (by kernel_rfl) z z (yi_off ((wanted_eq z z z (cvb hc1457)).trans z)) (ws_q (v := undef) 18 [19, 20, 21] (by kernel_rfl) z z (yi_off ((wanted_eq z z z (cvb hc1457)).trans z)) (ws_q (v := undef) 19 [20, 21] (by kernel_rfl) z z (yi_off ((wanted_eq z z z (cvb hc1457)).trans z)) (ws_q (v := undef) 20 [21] (by kernel_rfl) z z (yi_off ((wanted_eq z z z (cvb hc1457)).trans z)) (wsr (.bool true) 21 z z z (by kernel_rfl) (fun w hst => x_pick_t hc1457 z z) ?_))))))))
 refine ws_nil ?_
 intro w hst
 refine tn ?_
 refine wp_ift z ?_
 refine wp_seq (wrl (wv (.bool false) z z z (wl_nil (tn (wp_ret (then_r ?_))))))
 obtain rfl := some_inj hm
 refine post_ret (vs := [.bool false]) results20 (rvs_cons (rv_tmp z) rvs_nil) ?_
 exact ⟨z, hst.keep1⟩
}
 {
 replace hm := bif_f hc1457 hm
 refine ws_q (v := p0) 13 [14, 15, 16, 17, 18, 19, 20, 21] (by kernel_rfl) z z (yi_run ((wanted_eq z z z (cvb hc1457)).trans z) (fun w hst => z)) (ws_q (v := v1437) 15 [14, 16, 17, 18, 19, 20, 21] (by kernel_rfl) z z (yi_run ((wanted_eq z z z (cvb hc1457)).trans z) (fun w hst => z)) (ws_q (v := .int .i64 ((a1).length : Int)) 16 [14, 17, 18, 19, 20, 21] (by kernel_rfl) z z (yi_run ((wanted_eq z z z (cvb hc1457)).trans z) (fun w hst => z)) (ws_q (v := .int .i64 (i64.wrap (((a1).length : Int) - (1:Int)))) 17 [14, 18, 19, 20, 21] (by kernel_rfl) z z (yi_run ((wanted_eq z z z (cvb hc1457)).trans z) (fun w hst => z)) ?_)))
 obtain ⟨x1458, hx1459, hm⟩ := bind_some hm
 obtain ⟨h1460, h1461, hi1462⟩ := geto_some hx1459
 refine ws_q (v := .pointer (some (eAddr v1437 ((i64.wrap (((a1).length : Int) - (1:Int))).toNat * 1 + 0)))) 18 [14, 19, 20, 21] (by kernel_rfl) z z (yi_run ((wanted_eq z z z (cvb hc1457)).trans z) (fun w hst => x_index z z underlying41 sizeOf3 hst.sv2 h1460 h1461)) (ws_q (v := .int .i64 x1458) 19 [14, 20, 21] (by kernel_rfl) z z (yi_run ((wanted_eq z z z (cvb hc1457)).trans z) (fun w hst => x_load z isAgg3 (hst.ol2 hi1462 (by rintro _ rfl; rfl)))) ?_)
 refine ws_e1 14 (by kernel_rfl) ?_
 refine nxe [20, 21] (by kernel_rfl) z ((wanted_eq z z z (cvb hc1457)).trans z) ?_
 clear hst
 intro w hst
 obtain ⟨t1463, ht1464, hm⟩ := bind_some hm
 refine wec call17 [p0] z z ?_
 refine (label_Lattice_Top_ref hst.to1 ht1464).mono ?_
 rintro _ w1465 ⟨rfl, hst⟩
 refine ⟨_, z, ?_⟩
 replace hst := hst.of1
 refine ws_next (pend' := [(19, I6 x1458), (18, .pointer (some (eAddr v1437 ((i64.wrap (((a1).length : Int) - (1:Int))).toNat * 1 + 0)))), (17, I6 (i64.wrap (((a1).length : Int) - (1:Int)))), (16, I6 ((a1).length : Int)), (15, v1437)]) hst (by kernel_rfl) (pk_cons z (yi_run ((wanted_eq z z z (cvb hc1457)).trans z) (fun w hst => x_load z isAgg3 (hst.ol2 hi1462 (by rintro _ rfl; rfl)))) (pk_cons z (yi_run ((wanted_eq z z z (cvb hc1457)).trans z) (fun w hst => x_index z z underlying41 sizeOf3 hst.sv2 h1460 h1461)) (pk_cons z (yi_run ((wanted_eq z z z (cvb hc1457)).trans z) (fun w hst => z)) (pk_cons z (yi_run ((wanted_eq z z z (cvb hc1457)).trans z) (fun w hst => z)) (pk_cons z (yi_run ((wanted_eq z z z (cvb hc1457)).trans z) (fun w hst => z)) pk_nil))))) ?_
 refine ws_q (v := .bool (t1463 != x1458)) 20 [21] (by kernel_rfl) z z (yi_run ((wanted_eq z z z (cvb hc1457)).trans z) (fun w hst => z)) (wsr (.bool (t1463 != x1458)) 21 z z z (by kernel_rfl) (fun w hst => x_pick_f hc1457 z z) ?_)
 refine ws_nil ?_
 intro w hst
 refine tn ?_
 refine bsplit (t1463 != x1458) (fun hc1468 => ?_) (fun hc1468 => ?_)
 {
 replace hm := bif_t hc1468 hm
 refine wp_ift (cvb hc1468) ?_
 refine wp_seq (wrl (wv (.bool false) z z z (wl_nil (tn (wp_ret (then_r ?_))))))
 obtain rfl := some_inj hm
 refine post_ret (vs := [.bool false]) results20 (rvs_cons (rv_tmp z) rvs_nil) ?_
 exact ⟨z, hst.keep1⟩
}
 {
 replace hm := bif_f hc1468 hm
 refine wp_iff (cvb hc1468) ?_
 refine wp_skip (tn ?_)
 obtain ⟨y1530, hm, hx1531⟩ := joinO_some hm
 refine wp_cut (fun a w => ∃ (σ1528 : Nat → Value), (law03_told_j0 a1 a0) () = some r ∧ a = Fr 205 (upd (upd (upd σ1528 0 (p0)) 1 (r1_0)) 5 (.int .i64 ((a1).length : Int))) ∧ St w0 w I [objO at_label_Lattice p0 a0] R) ?_ ?_
 {
 refine wp_seq (wrl (wv (.int .i64 (0:Int)) z z z (wl_nil (tn (wp_block ?_)))))
 obtain ⟨n1503, hm⟩ := loopO_some hm
 refine wp_loop_n (fun n a w => ∃ (z1501 : Int) (σ1502 : Nat → Value), loopN (law03_told_l1 a1 t1439 t1432 a0) n z1501 = some y1530 ∧ a = Fr 205 (upd (upd (upd (upd (upd (upd σ1502 0 (p0)) 1 (r1_0)) 5 (.int .i64 ((a1).length : Int))) 6 (v1437)) 7 (v1444)) 8 (.int .i64 z1501)) ∧ St w0 w I [objO at_label_Lattice p0 a0, ownS (tyInt .i64) v1444 t1439, ownS (tyInt .i64) v1437 t1432] R) n1503 ⟨(0:Int), _, hm, (fu 0 p0 z (fu 1 r1_0 z (fu 5 (.int .i64 ((a1).length : Int)) z (fu 6 v1437 z (fu 7 v1444 z (fu 8 (.int .i64 (0:Int)) z z)))))), hst⟩ ?_
 rintro n1509 _ w1504 ⟨z1501, σ1502, hm, rfl, hst⟩
 obtain ⟨n1506, y1507, rfl, hm, hx1508⟩ := loopN_some hm
 dsimp only [law03_told_l1] at hm
 refine wp_seq (wp_seq (wrl (wv (.int .i64 z1501) z z z (wv (.int .i64 ((a1).length : Int)) z z z (wv (.bool (decide (z1501 < ((a1).length : Int)))) z z z (wl_nil (tn ?_)))))))
 refine bsplit (decide (z1501 < ((a1).length : Int))) (fun hc1510 => ?_) (fun hc1510 => ?_)
 {
 replace hm := bif_t hc1510 hm
 refine wp_ift (cvb hc1510) ?_
 refine wp_skip (tn (wp_seq (wp_block (wp_seq ?_))))
 refine wp_region_St hst 19 [0, 1, 2, 3, 4, 5, 6, 7, 8, 9, 10, 11, 12, 13, 14, 15, 16, 17, 18] [0, 0, 3, 7, 0, 0, 48, 112, 255, 511, 1023, 1023, 1023, 7167, 15359, 32767, 1023, 131071, 262143] [] z (by kernel_rfl) (by kernel_rfl) Try.mixed (by kernel_rfl) ?_
 refine wsr (v1444) 0 z z z (by kernel_rfl) (fun w hst => z) (wsr (.int .i64 z1501) 1 z z z (by kernel_rfl) (fun w hst => z) ?_)
 obtain ⟨x1511, hx1512, hm⟩ := bind_some hm
 obtain ⟨h1513, h1514, hi1515⟩ := geto_some hx1512
 refine wsr (.pointer (some (eAddr v1444 (z1501.toNat * 1 + 0)))) 2 z z z (by kernel_rfl) (fun w hst => x_index z z underlying41 sizeOf3 hst.sv1 h1513 h1514) (wsr (.int .i64 x1511) 3 z z z (by kernel_rfl) (fun w hst => x_load z isAgg3 (hst.ol1 hi1515 (by rintro _ rfl; rfl))) (wsr (v1437) 4 z z z (by kernel_rfl) (fun w hst => z) (wsr (.int .i64 z1501) 5 z z z (by kernel_rfl) (fun w hst => z) ?_)))
 obtain ⟨x1516, hx1517, hm⟩ := bind_some hm
 obtain ⟨h1518, h1519, hi1520⟩ := geto_some hx1517
 refine wsr (.pointer (some (eAddr v1437 (z1501.toNat * 1 + 0)))) 6 z z z (by kernel_rfl) (fun w hst => x_index z z underlying41 sizeOf3 hst.sv2 h1518 h1519) (wsr (.int .i64 x1516) 7 z z z (by kernel_rfl) (fun w hst => x_load z isAgg3 (hst.ol2 hi1520 (by rintro _ rfl; rfl))) (wsr (.bool (x1511 != x1516)) 8 z z z (by kernel_rfl) (fun w hst => z) (wsr (.bool (x1511 != x1516)) 9 z z z (by kernel_rfl) (fun w hst => z) ?_)))
 refine bsplit (x1511 != x1516) (fun hc1521 => ?_) (fun hc1521 => ?_)
 {
 replace hm := bif_t hc1521 hm
 refine ws_q (v := undef) 10 [11, 12, 13, 14, 15, 16, 17, 18] (by kernel_rfl) z z (yi_off ((wanted_eq z z z (cvb hc1521)).trans z)) (ws_q (v := undef) 11 [12, 13, 14, 15, 16, 17, 18] (by kernel_rfl) z z (yi_off ((wanted_eq z z z (cvb hc1521)).trans z)) (ws_q (v := undef) 12 [13, 14, 15, 16, 17, 18] (by kernel_rfl) z z (yi_off ((wanted_eq z z z (cvb hc1521)).trans z)) (ws_q (v := undef) 13 [14, 15, 16, 17, 18] (by kernel_rfl) z z (yi_off ((wanted_eq z z z (cvb hc1521)).trans z)) (ws_q (v := undef) 14 [15, 16, 17, 18] (by kernel_rfl) z z (yi_off ((wanted_eq z z z (cvb hc1521)).trans z)) (ws_q (v := undef) 15 [16, 17, 18] (by kernel_rfl) z z (yi_off ((wanted_eq z z z (cvb hc1521)).trans z)) (ws_q (v := undef) 16 [17, 18] (by kernel_rfl) z z (yi_off ((wanted_eq z z z (cvb hc1521)).trans z)) (ws_q (v := undef) 17 [18] (by kernel_rfl) z z (yi_off ((wanted_eq z z z (cvb hc1521)).trans z)) (wsr (.bool true) 18 z z z (by kernel_rfl) (fun w hst => x_pick_t hc1521 z z) ?_))))))))
 refine ws_nil ?_
 intro w hst
 refine tn ?_
 refine wp_ift z ?_
 refine wp_seq (wrl (wv (.bool false) z z z (wl_nil (tn (wp_ret (blk_r (then_r (then_r ?_))))))))
 replace hm := inr_up hm hx1508
 refine blk_r (then_r ?_)
 replace hm := inr_up hm hx1531
 obtain rfl := some_inj hm
 refine post_ret (vs := [.bool false]) results20 (rvs_cons (rv_tmp z) rvs_nil) ?_
 exact ⟨z, hst.keep1⟩
}
 {
 replace hm := bif_f hc1521 hm
 refine ws_q (v := p0) 10 [11, 12, 13, 14, 15, 16, 17, 18] (by kernel_rfl) z z (yi_run ((wanted_eq z z z (cvb hc1521)).trans z) (fun w hst => z)) (ws_q (v := v1437) 11 [12, 13, 14, 15, 16, 17, 18] (by kernel_rfl) z z (yi_run ((wanted_eq z z z (cvb hc1521)).trans z) (fun w hst => z)) (ws_q (v := .int .i64 z1501) 12 [13, 14, 15, 16, 17, 18] (by kernel_rfl) z z (yi_run ((wanted_eq z z z (cvb hc1521)).trans z) (fun w hst => z)) (ws_q (v := .pointer (some (eAddr v1437 (z1501.toNat * 1 + 0)))) 13 [14, 15, 16, 17, 18] (by kernel_rfl) z z (yi_run ((wanted_eq z z z (cvb hc1521)).trans z) (fun w hst => x_index z z underlying41 sizeOf3 hst.sv2 h1518 h1519)) (ws_q (v := .int .i64 x1516) 14 [15, 16, 17, 18] (by kernel_rfl) z z (yi_run ((wanted_eq z z z (cvb hc1521)).trans z) (fun w hst => x_load z isAgg3 (hst.ol2 hi1520 (by rintro _ rfl; rfl)))) (ws_q (v := .int .i64 z1501) 16 [15, 17, 18] (by kernel_rfl) z z (yi_run ((wanted_eq z z z (cvb hc1521)).trans z) (fun w hst => z)) ?_)))))
 refine ws_e1 15 (by kernel_rfl) ?_
 refine nxe [17, 18] (by kernel_rfl) z ((wanted_eq z z z (cvb hc1521)).trans z) ?_
 clear hst
 intro w hst
 obtain ⟨t1522, ht1523, hm⟩ := bind_some hm
 refine wec call18 [p0, I6 x1516] z z ?_
 refine (label_Lattice_Rank_ref hst.to1 ht1523).mono ?_
 rintro _ w1524 ⟨rfl, hst⟩
 refine ⟨_, z, ?_⟩
 replace hst := hst.of1
 refine ws_next (pend' := [(16, I6 z1501)]) hst (by kernel_rfl) (pk_cons z (yi_run ((wanted_eq z z z (cvb hc1521)).trans z) (fun w hst => z)) pk_nil) ?_
 refine ws_q (v := .bool (t1522 != z1501)) 17 [18] (by kernel_rfl) z z (yi_run ((wanted_eq z z z (cvb hc1521)).trans z) (fun w hst => z)) (wsr (.bool (t1522 != z1501)) 18 z z z (by kernel_rfl) (fun w hst => x_pick_f hc1521 z z) ?_)
 refine ws_nil ?_
 intro w hst
 refine tn ?_
 refine bsplit (t1522 != z1501) (fun hc1527 => ?_) (fun hc1527 => ?_)
 {
 replace hm := bif_t hc1527 hm
 refine wp_ift (cvb hc1527) ?_
 refine wp_seq (wrl (wv (.bool false) z z z (wl_nil (tn (wp_ret (blk_r (then_r (then_r ?_))))))))
 replace hm := inr_up hm hx1508
 refine blk_r (then_r ?_)
 replace hm := inr_up hm hx1531
 obtain rfl := some_inj hm
 refine post_ret (vs := [.bool false]) results20 (rvs_cons (rv_tmp z) rvs_nil) ?_
 exact ⟨z, hst.keep1⟩
}
 {
 replace hm := bif_f hc1527 hm
 refine wp_iff (cvb hc1527) ?_
 refine wp_skip (blk_n (tn (wrl ?_)))
 refine wv (.int .i64 z1501) z z z (wv (.int .i64 (i64.wrap (z1501 + (1:Int)))) z z z (wv (.int .i64 (i64.wrap (z1501 + (1:Int)))) z z z (wl_nil (tn ?_))))
 replace hst := hst.pull2.pull2.pull2.keep3
 obtain rfl := some_inj hm
 exact ⟨_, Nat.lt_succ_self _, (i64.wrap (z1501 + (1:Int))), _, hx1508, (fu 0 p0 z (fu 1 r1_0 z (fu 5 (.int .i64 ((a1).length : Int)) z (fu 6 v1437 z (fu 7 v1444 z (fu 8 (.int .i64 (i64.wrap (z1501 + (1:Int)))) z z)))))), hst⟩
}
}
}
 {
 replace hm := bif_f hc1510 hm
 refine wp_iff (cvb hc1510) ?_
 refine wp_exit (then_x (then_x ?_))
 replace hm := inr_up hm hx1508
 refine blk_x (tn ?_)
 replace hst := hst.keep1
 obtain rfl := some_inj hm
 exact ⟨_, hx1531, (fu 0 p0 z (fu 1 r1_0 z (fu 5 (.int .i64 ((a1).length : Int)) z z))), hst⟩
}
}
 {
 clear hst
 rintro _ w1532 ⟨σ1528, hm, rfl, hst⟩
 dsimp only [law03_told_j0] at hm
 refine wp_seq (wp_seq (wrl (wv (.int .i64 ((-1):Int)) z z z (wl_nil (tn (wp_block ?_))))))
 obtain ⟨n2382, hm⟩ := loopO_some hm
 refine wp_loop_n (fun n a w => ∃ (z2380 : Int) (σ2381 : Nat → Value), loopN (law03_told_l2 a1 a0) n z2380 = some r ∧ a = Fr 205 (upd (upd (upd (upd σ2381 0 (p0)) 1 (r1_0)) 5 (.int .i64 ((a1).length : Int))) 9 (.int .i64 z2380)) ∧ St w0 w I [objO at_label_Lattice p0 a0] R) n2382 ⟨((-1):Int), _, hm, (fu 0 p0 z (fu 1 r1_0 z (fu 5 (.int .i64 ((a1).length : Int)) z (fu 9 (.int .i64 ((-1):Int)) z z)))), hst⟩ ?_
 rintro n2388 _ w2383 ⟨z2380, σ2381, hm, rfl, hst⟩
 obtain ⟨n2385, y2386, rfl, hm, hx2387⟩ := loopN_some hm
 dsimp only [law03_told_l2] at hm
 refine wp_seq (wp_seq (wrl (wv (.int .i64 z2380) z z z (wv (.int .i64 ((a1).length : Int)) z z z (wv (.bool (decide (z2380 ≤ ((a1).length : Int)))) z z z (wl_nil (tn ?_)))))))
 refine bsplit (decide (z2380 ≤ ((a1).length : Int))) (fun hc2389 => ?_) (fun hc2389 => ?_)
 {
 replace hm := bif_t hc2389 hm
 refine wp_ift (cvb hc2389) ?_
 refine wp_skip (tn (wp_seq (wp_block (wp_seq (wrl ?_)))))
 refine wv ((.slice none 0 0)) z z z (wl_nil (tn ?_))
 obtain ⟨y2720, hm, hx2721⟩ := joinO_some hm
 refine wp_cut (fun a w => ∃ (z2717 : (List Int)) (v2716 : Value) (σ2718 : Nat → Value), (law03_told_j3 a0 z2380 a1) z2717 = some y2386 ∧ a = Fr 205 (upd (upd (upd (upd (upd σ2718 0 (p0)) 1 (r1_0)) 5 (.int .i64 ((a1).length : Int))) 9 (.int .i64 z2380)) 10 (v2716)) ∧ St w0 w I [objO at_label_Lattice p0 a0, ownS (tyInt .i64) v2716 z2717] R) ?_ ?_
 {
 refine wp_seq (wrl (wv (.int .i64 ((-1):Int)) z z z (wl_nil (tn (wp_block ?_)))))
 replace hst := hst.own_nil (tyInt .i64)
 obtain ⟨n2631, hm⟩ := loopO_some hm
 refine wp_loop_n (fun n a w => ∃ (z2626 : (List Int)) (z2629 : Int) (v2627 : Value) (σ2630 : Nat → Value), loopN (law03_told_l4 a1 z2380 a0) n (z2626, z2629) = some y2720 ∧ a = Fr 205 (upd (upd (upd (upd (upd (upd σ2630 0 (p0)) 1 (r1_0)) 5 (.int .i64 ((a1).length : Int))) 9 (.int .i64 z2380)) 10 (v2627)) 11 (.int .i64 z2629)) ∧ St w0 w I [ownS (tyInt .i64) v2627 z2626, objO at_label_Lattice p0 a0] R) n2631 ⟨[], ((-1):Int), Zs, _, hm, (fu 0 p0 z (fu 1 r1_0 z (fu 5 (.int .i64 ((a1).length : Int)) z (fu 9 (.int .i64 z2380) z (fu 10 (.slice none 0 0) z (fu 11 (.int .i64 ((-1):Int)) z z)))))), hst⟩ ?_
 rintro n2637 _ w2632 ⟨z2626, z2629, v2627, σ2630, hm, rfl, hst⟩
 obtain ⟨n2634, y2635, rfl, hm, hx2636⟩ := loopN_some hm
 dsimp only [law03_told_l4] at hm
 refine wp_seq (wp_seq (wrl (wv (.int .i64 z2629) z z z (wv (.int .i64 ((a1).length : Int)) z z z (wv (.bool (decide (z2629 ≤ ((a1).length : Int)))) z z z (wl_nil (tn ?_)))))))
 refine bsplit (decide (z2629 ≤ ((a1).length : Int))) (fun hc2638 => ?_) (fun hc2638 => ?_)
 {
 replace hm := bif_t hc2638 hm
 refine wp_ift (cvb hc2638) ?_
 refine wp_skip (tn (wp_seq (wp_block ?_)))
 obtain ⟨y2645, hm, hx2646⟩ := bind_some hm
 refine wp_cut (fun a w => ∃ (z2642 : Bool) (σ2643 : Nat → Value), (law03_told_j5 a0 z2380 z2629 a1 z2626) z2642 = some y2635 ∧ a = Fr 205 (upd (upd (upd (upd (upd (upd (upd σ2643 0 (p0)) 1 (r1_0)) 5 (.int .i64 ((a1).length : Int))) 9 (.int .i64 z2380)) 10 (v2627)) 11 (.int .i64 z2629)) 12 (.bool z2642)) ∧ St w0 w I [objO at_label_Lattice p0 a0, ownS (tyInt .i64) v2627 z2626] R) ?_ ?_
 {
 refine wrl (wv (.int .i64 z2380) z z z (wv (.bool (decide (z2380 ≥ (0:Int)))) z z z (wv (.bool (decide (z2380 ≥ (0:Int)))) z z z ?_)))
 refine bsplit (decide (z2380 ≥ (0:Int))) (fun hc2639 => ?_) (fun hc2639 => ?_)
 {
 replace hm := bif_t hc2639 hm
 refine wv (.int .i64 z2380) ((wanted_eq z z z (cvb hc2639)).trans z) z z (wv (.int .i64 ((a1).length : Int)) ((wanted_eq z z z (cvb hc2639)).trans z) z z (wv (.bool (decide (z2380 < ((a1).length : Int)))) ((wanted_eq z z z (cvb hc2639)).trans z) z z (wv (.bool (decide (z2380 < ((a1).length : Int)))) z z (x_pick_t hc2639 z z) (wv (.bool (decide (z2380 < ((a1).length : Int)))) z z z ?_))))
 refine bsplit (decide (z2380 < ((a1).length : Int))) (fun hc2640 => ?_) (fun hc2640 => ?_)
 {
 replace hm := bif_t hc2640 hm
 refine wv (.int .i64 z2629) ((wanted_eq z z z (cvb hc2640)).trans z) z z (wv (.bool (decide (z2629 ≥ (0:Int)))) ((wanted_eq z z z (cvb hc2640)).trans z) z z (wv (.bool (decide (z2629 ≥ (0:Int)))) z z (x_pick_t hc2640 z z) (wv (.bool (decide (z2629 ≥ (0:Int)))) z z z ?_)))
 refine bsplit (decide (z2629 ≥ (0:Int))) (fun hc2641 => ?_) (fun hc2641 => ?_)
 {
 replace hm := bif_t hc2641 hm
 refine wv (.int .i64 z2629) ((wanted_eq z z z (cvb hc2641)).trans z) z z (wv (.int .i64 ((a1).length : Int)) ((wanted_eq z z z (cvb hc2641)).trans z) z z (wv (.bool (decide (z2629 < ((a1).length : Int)))) ((wanted_eq z z z (cvb hc2641)).trans z) z z (wv (.bool (decide (z2629 < ((a1).length : Int)))) z z (x_pick_t hc2641 z z) (wv (.bool (decide (z2629 < ((a1).length : Int)))) z z z (wl_nil (tn ?_))))))
 replace hst := hst.pull1.keep2
 obtain rfl := some_inj hm
 exact ⟨(decide (z2629 < ((a1).length : Int))), _, hx2646, (fu 0 p0 z (fu 1 r1_0 z (fu 5 (.int .i64 ((a1).length : Int)) z (fu 9 (.int .i64 z2380) z (fu 10 v2627 z (fu 11 (.int .i64 z2629) z (fu 12 (.bool (decide (z2629 < ((a1).length : Int)))) z z))))))), hst⟩
}
 {
 replace hm := bif_f hc2641 hm
 refine wo hc2641 z z z z z z (wo hc2641 z z z z z z (wo hc2641 z z z z z z (wv (.bool false) z z (x_pick_f hc2641 z z) (wv (.bool false) z z z (wl_nil (tn ?_))))))
 replace hst := hst.pull1.keep2
 obtain rfl := some_inj hm
 exact ⟨false, _, hx2646, (fu 0 p0 z (fu 1 r1_0 z (fu 5 (.int .i64 ((a1).length : Int)) z (fu 9 (.int .i64 z2380) z (fu 10 v2627 z (fu 11 (.int .i64 z2629) z (fu 12 (.bool false) z z))))))), hst⟩
}
}
 {
 replace hm := bif_f hc2640 hm
 refine wo hc2640 z z z z z z (wo hc2640 z z z z z z (wv (.bool false) z z (x_pick_f hc2640 z z) (wv (.bool false) z z z (wz z z z z z z (wz z z z z z z (wz z z z z z z (wv (.bool false) z z (x_pick_f z z z) (wv (.bool false) z z z (wl_nil (tn ?_))))))))))
 replace hst := hst.pull1.keep2
 obtain rfl := some_inj hm
 exact ⟨false, _, hx2646, (fu 0 p0 z (fu 1 r1_0 z (fu 5 (.int .i64 ((a1).length : Int)) z (fu 9 (.int .i64 z2380) z (fu 10 v2627 z (fu 11 (.int .i64 z2629) z (fu 12 (.bool false) z z))))))), hst⟩
}
}
 {
 replace hm := bif_f hc2639 hm
 refine wo hc2639 z z z z z z (wo hc2639 z z z z z z (wo hc2639 z z z z z z (wv (.bool false) z z (x_pick_f hc2639 z z) (wv (.bool false) z z z (wz z z z z z z (wz z z z z z z (wv (.bool false) z z (x_pick_f z z z) (wv (.bool false) z z z (wz z z z z z z (wz z z z z z z (wz z z z z z z (wv (.bool false) z z (x_pick_f z z z) ?_))))))))))))
 refine wv (.bool false) z z z (wl_nil (tn ?_))
 replace hst := hst.pull1.keep2
 obtain rfl := some_inj hm
 exact ⟨false, _, hx2646, (fu 0 p0 z (fu 1 r1_0 z (fu 5 (.int .i64 ((a1).length : Int)) z (fu 9 (.int .i64 z2380) z (fu 10 v2627 z (fu 11 (.int .i64 z2629) z (fu 12 (.bool false) z z))))))), hst⟩
}
}
 {
 clear hst
 rintro _ w2647 ⟨z2642, σ2643, hm, rfl, hst⟩
 dsimp only [law03_told_j5] at hm
 obtain ⟨y2696, hm, hx2697⟩ := joinO_some hm
 refine wp_cut (fun a w => ∃ (σ2694 : Nat → Value), (law03_told_j6 a1 z2629 z2380 z2626) () = some y2635 ∧ a = Fr 205 (upd (upd (upd (upd (upd (upd σ2694 0 (p0)) 1 (r1_0)) 5 (.int .i64 ((a1).length : Int))) 9 (.int .i64 z2380)) 10 (v2627)) 11 (.int .i64 z2629)) ∧ St w0 w I [objO at_label_Lattice p0 a0, ownS (tyInt .i64) v2627 z2626] R) ?_ ?_
 {
 refine wp_seq (wrl (wv (p0) z z z (wv (.int .i64 z2380) z z z (wv (.int .i64 z2629) z z z ?_))))
 obtain ⟨t2648, ht2649, hm⟩ := bind_some hm
 refine wc call15 [p0, I6 z2380, I6 z2629] z z z ?_
 refine (label_Lattice_Leq_ref hst.to1 ht2649).mono ?_
 rintro _ w2650 ⟨rfl, hst⟩
 refine ⟨_, z, ?_⟩
 replace hst := hst.of1
 refine wv (r1_0) z z z (wv (.int .i64 z2380) z z z (wv (.int .i64 z2629) z z z ?_))
 obtain ⟨t2653, ht2654, hm⟩ := bind_some hm
 refine wc call32 [r1_0, I6 z2380, I6 z2629] z z z ?_
 refine (ref03_Leq_ref (f1_0.mono (rd_weak _)) hst.to0 ht2654).mono ?_
 rintro _ w2655 ⟨rfl, hst⟩
 refine ⟨_, z, ?_⟩
 replace hst := hst.of0
 refine wv (.bool (!(t2648 == t2653))) z z (by kernel_rfl) (wv (.bool (!(t2648 == t2653))) z z z ?_)
 refine bsplit (!(t2648 == t2653)) (fun hc2658 => ?_) (fun hc2658 => ?_)
 {
 replace hm := bif_t hc2658 hm
 refine wo hc2658 z z z z z z (wo hc2658 z z z z z z (wl_off (wanted_undef z z z z) z (wl_off (wanted_undef z z z z) z (wl_off (wanted_undef z z z z) z (wl_off (wanted_undef z z z z) z (wl_off (wanted_undef z z z z) z (wl_off (wanted_undef z z z z) z (wl_off (wanted_undef z z z z) z (wl_off (wanted_undef z z z z) z (wl_off (wanted_undef z z z z) z (wl_off (wanted_undef z z z z) z (wl_off (wanted_undef z z z z) z ?_))))))))))))
 refine wl_off (wanted_undef z z z z) z (wl_off (wanted_undef z z z z) z (wl_off (wanted_undef z z z z) z (wl_off (wanted_undef z z z z) z (wl_off (wanted_undef z z z z) z (wl_off (wanted_undef z z z z) z (wl_off (wanted_undef z z z z) z (wl_off (wanted_undef z z z z) z (wl_off (wanted_undef z z z z) z (wo hc2658 z z z z z z (wv (.bool true) z z (x_pick_t hc2658 z z) (wv (.bool true) z z z (wz z z z z z z ?_))))))))))))
 refine wz z z z z z z (wz z z z z z z (wl_off (wanted_undef z z z z) z (wl_off (wanted_undef z z z z) z (wl_off (wanted_undef z z z z) z (wl_off (wanted_undef z z z z) z (wl_off (wanted_undef z z z z) z (wl_off (wanted_undef z z z z) z (wl_off (wanted_undef z z z z) z (wl_off (wanted_undef z z z z) z (wl_off (wanted_undef z z z z) z (wl_off (wanted_undef z z z z) z (wl_off (wanted_undef z z z z) z ?_))))))))))))
 refine wl_off (wanted_undef z z z z) z (wz z z z z z z (wv (.bool true) z z (x_pick_t z z z) (wl_nil (tn ?_))))
 refine wp_ift z ?_
 refine wp_seq (wrl (wv (.bool false) z z z (wl_nil (tn (wp_ret (then_r ?_))))))
 replace hm := inr_up hm hx2697
 refine blk_r (then_r (then_r ?_))
 replace hm := inr_up hm hx2636
 refine blk_r (then_r ?_)
 replace hm := inr_up hm hx2721
 refine blk_r (then_r (then_r ?_))
 replace hm := inr_up hm hx2387
 refine blk_r (then_r ?_)
 obtain rfl := some_inj hm
 refine post_ret (vs := [.bool false]) results20 (rvs_cons (rv_tmp z) rvs_nil) ?_
 exact ⟨z, hst.keep1⟩
}
 {
 replace hm := bif_f hc2658 hm
 refine wv (.bool z2642) ((wanted_eq z z z (cvb hc2658)).trans z) z z (wv (.bool z2642) ((wanted_eq z z z (cvb hc2658)).trans z) z z ?_)
 refine bsplit z2642 (fun hc2659 => ?_) (fun hc2659 => ?_)
 {
 replace hm := bif_t hc2659 hm
 refine wv (p0) ((wanted_eq z z z (cvb hc2659)).trans z) z z (wv (.int .i64 z2380) ((wanted_eq z z z (cvb hc2659)).trans z) z z (wv (.int .i64 z2629) ((wanted_eq z z z (cvb hc2659)).trans z) z z ?_))
 obtain ⟨t2660, ht2661, hm⟩ := bind_some hm
 refine wl_call ((wanted_eq z z z (cvb hc2659)).trans z) z (x_call call13 z (vs := [p0, I6 z2380, I6 z2629]) z) ?_
 refine (label_Lattice_Join_ref hst.to1 ht2661).mono ?_
 rintro _ w2662 ⟨rfl, hst⟩
 refine ⟨_, z, ?_⟩
 replace hst := hst.of1
 refine wv (r1_0) ((wanted_eq z z z (cvb hc2659)).trans z) z z (wv (.int .i64 z2380) ((wanted_eq z z z (cvb hc2659)).trans z) z z (wv (.int .i64 z2629) ((wanted_eq z z z (cvb hc2659)).trans z) z z ?_))
 obtain ⟨t2665, ht2666, hm⟩ := bind_some hm
 refine wl_call ((wanted_eq z z z (cvb hc2659)).trans z) z (x_call call33 z (vs := [r1_0, I6 z2380, I6 z2629]) z) ?_
 refine (ref03_Join_ref (f1_0.mono (rd_weak _)) hst.to0 ht2666).mono ?_
 rintro _ w2667 ⟨rfl, hst⟩
 refine ⟨_, z, ?_⟩
 replace hst := hst.of0
 refine wv (.bool (t2660 != t2665)) ((wanted_eq z z z (cvb hc2659)).trans z) z z (wv (.bool (t2660 != t2665)) ((wanted_eq z z z (cvb hc2659)).trans z) z z ?_)
 refine bsplit (t2660 != t2665) (fun hc2670 => ?_) (fun hc2670 => ?_)
 {
 replace hm := bif_t hc2670 hm
 refine wo hc2670 z z z z z z (wo hc2670 z z z z z z (wo hc2670 z z z z z z (wo hc2670 z z z z z z (wo hc2670 z z z z z z (wo hc2670 z z z z z z (wo hc2670 z z z z z z (wo hc2670 z z z z z z (wo hc2670 z z z z z z (wv (.bool true) ((wanted_eq z z z (cvb hc2659)).trans z) z (x_pick_t hc2670 z z) (wv (.bool true) ((wanted_eq z z z (cvb hc2658)).trans z) z (x_pick_t hc2659 z z) (wv (.bool true) z z (x_pick_f hc2658 z z) (wv (.bool true) z z z ?_))))))))))))
 refine wz z z z z z z (wz z z z z z z (wz z z z z z z (wl_off (wanted_undef z z z z) z (wl_off (wanted_undef z z z z) z (wl_off (wanted_undef z z z z) z (wl_off (wanted_undef z z z z) z (wl_off (wanted_undef z z z z) z (wl_off (wanted_undef z z z z) z (wl_off (wanted_undef z z z z) z (wl_off (wanted_undef z z z z) z (wl_off (wanted_undef z z z z) z (wl_off (wanted_undef z z z z) z ?_))))))))))))
 refine wl_off (wanted_undef z z z z) z (wl_off (wanted_undef z z z z) z (wz z z z z z z (wv (.bool true) z z (x_pick_t z z z) (wl_nil (tn ?_)))))
 refine wp_ift z ?_
 refine wp_seq (wrl (wv (.bool false) z z z (wl_nil (tn (wp_ret (then_r ?_))))))
 replace hm := inr_up hm hx2697
 refine blk_r (then_r (then_r ?_))
 replace hm := inr_up hm hx2636
 refine blk_r (then_r ?_)
 replace hm := inr_up hm hx2721
 refine blk_r (then_r (then_r ?_))
 replace hm := inr_up hm hx2387
 refine blk_r (then_r ?_)
 obtain rfl := some_inj hm
 refine post_ret (vs := [.bool false]) results20 (rvs_cons (rv_tmp z) rvs_nil) ?_
 exact ⟨z, hst.keep1⟩
}
 {
 replace hm := bif_f hc2670 hm
 refine wv (p0) ((wanted_eq z z z (cvb hc2670)).trans z) z z (wv (.int .i64 z2380) ((wanted_eq z z z (cvb hc2670)).trans z) z z (wv (.int .i64 z2629) ((wanted_eq z z z (cvb hc2670)).trans z) z z ?_))
 obtain ⟨t2671, ht2672, hm⟩ := bind_some hm
 refine wl_call ((wanted_eq z z z (cvb hc2670)).trans z) z (x_call call14 z (vs := [p0, I6 z2380, I6 z2629]) z) ?_
 refine (label_Lattice_Meet_ref hst.to1 ht2672).mono ?_
 rintro _ w2673 ⟨rfl, hst⟩
 refine ⟨_, z, ?_⟩
 replace hst := hst.of1
 refine wv (r1_0) ((wanted_eq z z z (cvb hc2670)).trans z) z z (wv (.int .i64 z2380) ((wanted_eq z z z (cvb hc2670)).trans z) z z (wv (.int .i64 z2629) ((wanted_eq z z z (cvb hc2670)).trans z) z z ?_))
 obtain ⟨t2676, ht2677, hm⟩ := bind_some hm
 refine wl_call ((wanted_eq z z z (cvb hc2670)).trans z) z (x_call call34 z (vs := [r1_0, I6 z2380, I6 z2629]) z) ?_
 refine (ref03_Meet_ref (f1_0.mono (rd_weak _)) hst.to0 ht2677).mono ?_
 rintro _ w2678 ⟨rfl, hst⟩
 refine ⟨_, z, ?_⟩
 replace hst := hst.of0
 refine wv (.bool (t2671 != t2676)) ((wanted_eq z z z (cvb hc2670)).trans z) z z (wv (.bool (t2671 != t2676)) ((wanted_eq z z z (cvb hc2659)).trans z) z (x_pick_f hc2670 z z) (wv (.bool (t2671 != t2676)) ((wanted_eq z z z (cvb hc2658)).trans z) z (x_pick_t hc2659 z z) (wv (.bool (t2671 != t2676)) z z (x_pick_f hc2658 z z) (wv (.bool (t2671 != t2676)) z z z ?_))))
 refine bsplit (t2671 != t2676) (fun hc2681 => ?_) (fun hc2681 => ?_)
 {
 replace hm := bif_t hc2681 hm
 refine wo hc2681 z z z z z z (wo hc2681 z z z z z z (wo hc2681 z z z z z z (wl_off (wanted_undef z z z z) z (wl_off (wanted_undef z z z z) z (wl_off (wanted_undef z z z z) z (wl_off (wanted_undef z z z z) z (wl_off (wanted_undef z z z z) z (wl_off (wanted_undef z z z z) z (wl_off (wanted_undef z z z z) z (wl_off (wanted_undef z z z z) z (wl_off (wanted_undef z z z z) z (wl_off (wanted_undef z z z z) z ?_))))))))))))
 refine wl_off (wanted_undef z z z z) z (wl_off (wanted_undef z z z z) z (wo hc2681 z z z z z z (wv (.bool true) z z (x_pick_t hc2681 z z) (wl_nil (tn ?_)))))
 refine wp_ift z ?_
 refine wp_seq (wrl (wv (.bool false) z z z (wl_nil (tn (wp_ret (then_r ?_))))))
 replace hm := inr_up hm hx2697
 refine blk_r (then_r (then_r ?_))
 replace hm := inr_up hm hx2636
 refine blk_r (then_r ?_)
 replace hm := inr_up hm hx2721
 refine blk_r (then_r (then_r ?_))
 replace hm := inr_up hm hx2387
 refine blk_r (then_r ?_)
 obtain rfl := some_inj hm
 refine post_ret (vs := [.bool false]) results20 (rvs_cons (rv_tmp z) rvs_nil) ?_
 exact ⟨z, hst.keep1⟩
}
 {
 replace hm := bif_f hc2681 hm
 refine wv (.bool z2642) ((wanted_eq z z z (cvb hc2681)).trans z) z z (wv (.bool (!z2642)) ((wanted_eq z z z (cvb hc2681)).trans z) z z (wv (.bool (!z2642)) ((wanted_eq z z z (cvb hc2681)).trans z) z z (wl_off ((wanted_eq z z z (cvb (not_f hc2659))).trans z) z (wl_off ((wanted_eq z z z (cvb (not_f hc2659))).trans z) z (wl_off ((wanted_eq z z z (cvb (not_f hc2659))).trans z) z (wl_off ((wanted_eq z z z (cvb (not_f hc2659))).trans z) z (wl_off ((wanted_eq z z z (cvb (not_f hc2659))).trans z) z (wl_off ((wanted_eq z z z (cvb (not_f hc2659))).trans z) z (wl_off (wanted_undef z z z z) z (wl_off (wanted_undef z z z z) z (wl_off (wanted_undef z z z z) z (wl_off (wanted_undef z z z z) z ?_))))))))))))
 refine wl_off (wanted_undef z z z z) z (wl_off ((wanted_eq z z z (cvb (not_f hc2659))).trans z) z (wv (.bool false) ((wanted_eq z z z (cvb hc2681)).trans z) z (x_pick_f (not_f hc2659) z z) (wv (.bool false) z z (x_pick_f hc2681 z z) (wl_nil (tn ?_)))))
 refine wp_iff z ?_
 refine wp_skip (tn ?_)
 replace hst := hst.pull1.pull1.keep2
 obtain rfl := some_inj hm
 exact ⟨_, hx2697, (fu 0 p0 z (fu 1 r1_0 z (fu 5 (.int .i64 ((a1).length : Int)) z (fu 9 (.int .i64 z2380) z (fu 10 v2627 z (fu 11 (.int .i64 z2629) z z)))))), hst⟩
}
}
}
 {
 replace hm := bif_f hc2659 hm
 refine wo hc2659 z z z z z z (wo hc2659 z z z z z z (wo hc2659 z z z z z z (wo hc2659 z z z z z z (wo hc2659 z z z z z z (wo hc2659 z z z z z z (wo hc2659 z z z z z z (wo hc2659 z z z z z z (wo hc2659 z z z z z z (wo hc2659 z z z z z z (wl_off (wanted_undef z z z z) z (wl_off (wanted_undef z z z z) z (wl_off (wanted_undef z z z z) z ?_))))))))))))
 refine wl_off (wanted_undef z z z z) z (wl_off (wanted_undef z z z z) z (wl_off (wanted_undef z z z z) z (wl_off (wanted_undef z z z z) z (wl_off (wanted_undef z z z z) z (wl_off (wanted_undef z z z z) z (wo hc2659 z z z z z z (wv (.bool false) ((wanted_eq z z z (cvb hc2658)).trans z) z (x_pick_f hc2659 z z) (wv (.bool false) z z (x_pick_f hc2658 z z) (wv (.bool false) z z z (wv (.bool z2642) ((wanted_eq z z z z).trans z) z z (wv (.bool (!z2642)) ((wanted_eq z z z z).trans z) z z (wv (.bool (!z2642)) ((wanted_eq z z z z).trans z) z z ?_))))))))))))
 refine wv (p0) ((wanted_eq z z z (cvb (not_tt hc2659))).trans z) z z (wv (.int .i64 z2380) ((wanted_eq z z z (cvb (not_tt hc2659))).trans z) z z (wv (.int .i64 z2629) ((wanted_eq z z z (cvb (not_tt hc2659))).trans z) z z ?_))
 obtain ⟨t2682, ht2683, hm⟩ := bind_some hm
 refine wl_call ((wanted_eq z z z (cvb (not_tt hc2659))).trans z) z (x_call call13 z (vs := [p0, I6 z2380, I6 z2629]) z) ?_
 refine (label_Lattice_Join_ref hst.to1 ht2683).mono ?_
 rintro _ w2684 ⟨rfl, hst⟩
 refine ⟨_, z, ?_⟩
 replace hst := hst.of1
 refine wv (.bool (t2682 != ((-1):Int))) ((wanted_eq z z z (cvb (not_tt hc2659))).trans z) z z (wv (.bool (t2682 != ((-1):Int))) ((wanted_eq z z z (cvb (not_tt hc2659))).trans z) z z ?_)
 refine bsplit (t2682 != ((-1):Int)) (fun hc2687 => ?_) (fun hc2687 => ?_)
 {
 replace hm := bif_t hc2687 hm
 refine wo hc2687 z z z z z z (wo hc2687 z z z z z z (wo hc2687 z z z z z z (wo hc2687 z z z z z z (wo hc2687 z z z z z z (wv (.bool true) ((wanted_eq z z z (cvb (not_tt hc2659))).trans z) z (x_pick_t hc2687 z z) (wv (.bool true) ((wanted_eq z z z z).trans z) z (x_pick_t (not_tt hc2659) z z) (wv (.bool true) z z (x_pick_f z z z) (wl_nil (tn ?_)))))))))
 refine wp_ift z ?_
 refine wp_seq (wrl (wv (.bool false) z z z (wl_nil (tn (wp_ret (then_r ?_))))))
 replace hm := inr_up hm hx2697
 refine blk_r (then_r (then_r ?_))
 replace hm := inr_up hm hx2636
 refine blk_r (then_r ?_)
 replace hm := inr_up hm hx2721
 refine blk_r (then_r (then_r ?_))
 replace hm := inr_up hm hx2387
 refine blk_r (then_r ?_)
 obtain rfl := some_inj hm
 refine post_ret (vs := [.bool false]) results20 (rvs_cons (rv_tmp z) rvs_nil) ?_
 exact ⟨z, hst.keep1⟩
}
 {
 replace hm := bif_f hc2687 hm
 refine wv (p0) ((wanted_eq z z z (cvb hc2687)).trans z) z z (wv (.int .i64 z2380) ((wanted_eq z z z (cvb hc2687)).trans z) z z (wv (.int .i64 z2629) ((wanted_eq z z z (cvb hc2687)).trans z) z z ?_))
 obtain ⟨t2688, ht2689, hm⟩ := bind_some hm
 refine wl_call ((wanted_eq z z z (cvb hc2687)).trans z) z (x_call call14 z (vs := [p0, I6 z2380, I6 z2629]) z) ?_
 refine (label_Lattice_Meet_ref hst.to1 ht2689).mono ?_
 rintro _ w2690 ⟨rfl, hst⟩
 refine ⟨_, z, ?_⟩
 replace hst := hst.of1
 refine wv (.bool (t2688 != ((-1):Int))) ((wanted_eq z z z (cvb hc2687)).trans z) z z (wv (.bool (t2688 != ((-1):Int))) ((wanted_eq z z z (cvb (not_tt hc2659))).trans z) z (x_pick_f hc2687 z z) (wv (.bool (t2688 != ((-1):Int))) ((wanted_eq z z z z).trans z) z (x_pick_t (not_tt hc2659) z z) (wv (.bool (t2688 != ((-1):Int))) z z (x_pick_f z z z) (wl_nil (tn ?_)))))
 refine bsplit (t2688 != ((-1):Int)) (fun hc2693 => ?_) (fun hc2693 => ?_)
 {
 replace hm := bif_t hc2693 hm
 refine wp_ift (cvb hc2693) ?_
 refine wp_seq (wrl (wv (.bool false) z z z (wl_nil (tn (wp_ret (then_r ?_))))))
 replace hm := inr_up hm hx2697
 refine blk_r (then_r (then_r ?_))
 replace hm := inr_up hm hx2636
 refine blk_r (then_r ?_)
 replace hm := inr_up hm hx2721
 refine blk_r (then_r (then_r ?_))
 replace hm := inr_up hm hx2387
 refine blk_r (then_r ?_)
 obtain rfl := some_inj hm
 refine post_ret (vs := [.bool false]) results20 (rvs_cons (rv_tmp z) rvs_nil) ?_
 exact ⟨z, hst.keep1⟩
}
 {
 replace hm := bif_f hc2693 hm
 refine wp_iff (cvb hc2693) ?_
 refine wp_skip (tn ?_)
 replace hst := hst.pull1.pull1.keep2
 obtain rfl := some_inj hm
 exact ⟨_, hx2697, (fu 0 p0 z (fu 1 r1_0 z (fu 5 (.int .i64 ((a1).length : Int)) z (fu 9 (.int .i64 z2380) z (fu 10 v2627 z (fu 11 (.int .i64 z2629) z z)))))), hst⟩
}
}
}
}
}
 {
 clear hst
 rintro _ w2698 ⟨σ2694, hm, rfl, hst⟩
 dsimp only [law03_told_j6] at hm
 refine wp_seq (wrl (wv (r1_0) z z z (wv (.int .i64 z2629) z z z (wv (.int .i64 z2380) z z z ?_))))
 obtain ⟨t2699, ht2700, hm⟩ := bind_some hm
 refine wc call32 [r1_0, I6 z2629, I6 z2380] z z z ?_
 refine (ref03_Leq_ref (f1_0.mono (rd_weak _)) hst.to0 ht2700).mono ?_
 rintro _ w2701 ⟨rfl, hst⟩
 refine ⟨_, z, ?_⟩
 replace hst := hst.of0
 refine wl_nil (tn ?_)
 refine bsplit t2699 (fun hc2704 => ?_) (fun hc2704 => ?_)
 {
 replace hm := bif_t hc2704 hm
 refine wp_ift (cvb hc2704) ?_
 refine wrl (wv (v2627) z z z (wv (.int .i64 z2629) z z z ?_))
 obtain ⟨b2705, w2706, ew2707, eb2708, hst⟩ := hst.lits (E := (tyInt .i64)) (xs := [z2629]) [[I6 z2629]] 3 1 z (Reps.cons z Reps.nil)
 refine wl_run (v := (.slice (some ⟨b2705, 0, none⟩) 1 1)) (w' := w2706) z z (x_als (by kernel_rfl) ew2707 eb2708) ?_
 obtain ⟨hg2710, hm⟩ := gd_some hm
 replace hst := hst.pull2
 obtain ⟨v2711, w2712, hr2713, hst⟩ := run_append elem_41 underlying41 hst hst.src1 (room_of hg2710 z) 41
 refine wl_run (v := v2711) (w' := w2712) z z (x_append z z hr2713) ?_
 refine wv (v2711) z z z (wl_nil (blk_n (tn (wrl (wv (.int .i64 z2629) z z z (wv (.int .i64 (i64.wrap (z2629 + (1:Int)))) z z z (wv (.int .i64 (i64.wrap (z2629 + (1:Int)))) z z z (wl_nil (tn ?_)))))))))
 replace hst := hst.pull2.pull1.keep2
 obtain rfl := some_inj hm
 exact ⟨_, Nat.lt_succ_self _, (z2626 ++ ([z2629])), (i64.wrap (z2629 + (1:Int))), v2711, _, hx2636, (fu 0 p0 z (fu 1 r1_0 z (fu 5 (.int .i64 ((a1).length : Int)) z (fu 9 (.int .i64 z2380) z (fu 10 v2711 z (fu 11 (.int .i64 (i64.wrap (z2629 + (1:Int)))) z z)))))), hst⟩
}
 {
 replace hm := bif_f hc2704 hm
 refine wp_iff (cvb hc2704) ?_
 refine wp_skip (blk_n (tn (wrl ?_)))
 refine wv (.int .i64 z2629) z z z (wv (.int .i64 (i64.wrap (z2629 + (1:Int)))) z z z (wv (.int .i64 (i64.wrap (z2629 + (1:Int)))) z z z (wl_nil (tn ?_))))
 replace hst := hst.pull1.keep2
 obtain rfl := some_inj hm
 exact ⟨_, Nat.lt_succ_self _, z2626, (i64.wrap (z2629 + (1:Int))), v2627, _, hx2636, (fu 0 p0 z (fu 1 r1_0 z (fu 5 (.int .i64 ((a1).length : Int)) z (fu 9 (.int .i64 z2380) z (fu 10 v2627 z (fu 11 (.int .i64 (i64.wrap (z2629 + (1:Int)))) z z)))))), hst⟩
}
}
}
}
 {
 replace hm := bif_f hc2638 hm
 refine wp_iff (cvb hc2638) ?_
 refine wp_exit (then_x (then_x ?_))
 replace hm := inr_up hm hx2636
 refine blk_x (tn ?_)
 replace hst := hst.pull1.keep2
 obtain rfl := some_inj hm
 exact ⟨z2626, v2627, _, hx2721, (fu 0 p0 z (fu 1 r1_0 z (fu 5 (.int .i64 ((a1).length : Int)) z (fu 9 (.int .i64 z2380) z (fu 10 v2627 z z))))), hst⟩
}
}
 {
 clear hst
 rintro _ w2722 ⟨z2717, v2716, σ2718, hm, rfl, hst⟩
 dsimp only [law03_told_j3] at hm
 refine wp_seq (wrl (wv (p0) z z z (wv (.int .i64 z2380) z z z ?_)))
 obtain ⟨t2723, ht2724, hm⟩ := bind_some hm
 refine wc call24 [p0, I6 z2380] z z z ?_
 refine (label_Lattice_Below_ref hst.to1 ht2724).mono ?_
 rintro _ w2725 ⟨v2728, rfl, hst⟩
 refine ⟨_, z, ?_⟩
 replace hst := hst.of2
 refine wv (v2728) z z z (wl_nil (tn ?_))
 obtain ⟨y2765, hm, hx2766⟩ := joinO_some hm
 refine wp_cut (fun a w => ∃ (σ2763 : Nat → Value), (law03_told_j7 t2723 z2717 z2380) () = some y2386 ∧ a = Fr 205 (upd (upd (upd (upd (upd (upd σ2763 0 (p0)) 1 (r1_0)) 5 (.int .i64 ((a1).length : Int))) 9 (.int .i64 z2380)) 10 (v2716)) 13 (v2728)) ∧ St w0 w I [objO at_label_Lattice p0 a0, ownS (tyInt .i64) v2716 z2717, ownS (tyInt .i64) v2728 t2723] R) ?_ ?_
 {
 refine wp_seq (wrl (wv (v2728) z z z (wv (.int .i64 ((t2723).length : Int)) z z (x_len z underlying41 hst.sv0) (wv (v2716) z z z (wv (.int .i64 ((z2717).length : Int)) z z (x_len z underlying41 hst.sv2) (wv (.bool (((t2723).length : Int) != ((z2717).length : Int))) z z z (wv (.bool (((t2723).length : Int) != ((z2717).length : Int))) z z z ?_)))))))
 refine bsplit (((t2723).length : Int) != ((z2717).length : Int)) (fun hc2730 => ?_) (fun hc2730 => ?_)
 {
 replace hm := bif_t hc2730 hm
 refine wo hc2730 z z z z z z (wo hc2730 z z z z z z (wo hc2730 z z z z z z (wo hc2730 z z z z z z (wo hc2730 z z z z z z (wo hc2730 z z z z z z (wl_off (wanted_undef z z z z) z (wl_off (wanted_undef z z z z) z (wl_off (wanted_undef z z z z) z (wo hc2730 z z z z z z (wo hc2730 z z z z z z (wv (.bool true) z z (x_pick_t hc2730 z z) (wv (.bool true) z z z ?_))))))))))))
 refine wz z z z z z z (wz z z z z z z (wz z z z z z z (wz z z z z z z (wz z z z z z z (wl_off (wanted_undef z z z z) z (wl_off (wanted_undef z z z z) z (wl_off (wanted_undef z z z z) z (wl_off (wanted_undef z z z z) z (wz z z z z z z (wv (.bool true) z z (x_pick_t z z z) (wl_nil (tn ?_))))))))))))
 refine wp_ift z ?_
 refine wp_seq (wrl (wv (.bool false) z z z (wl_nil (tn (wp_ret (then_r ?_))))))
 replace hm := inr_up hm hx2766
 refine blk_r (then_r (then_r ?_))
 replace hm := inr_up hm hx2387
 refine blk_r (then_r ?_)
 obtain rfl := some_inj hm
 refine post_ret (vs := [.bool false]) results20 (rvs_cons (rv_tmp z) rvs_nil) ?_
 replace hst := hst.pull1
 exact ⟨z, hst.keep1⟩
}
 {
 replace hm := bif_f hc2730 hm
 refine wv (p0) ((wanted_eq z z z (cvb hc2730)).trans z) z z (wv (.int .i64 z2380) ((wanted_eq z z z (cvb hc2730)).trans z) z z ?_)
 replace hst := hst.pull1
 obtain ⟨t2731, ht2732, hm⟩ := bind_some hm
 refine wl_call ((wanted_eq z z z (cvb hc2730)).trans z) z (x_call call23 z (vs := [p0, I6 z2380]) z) ?_
 refine (label_Lattice_Is_ref hst.to1 ht2732).mono ?_
 rintro _ w2733 ⟨rfl, hst⟩
 refine ⟨_, z, ?_⟩
 replace hst := hst.of1
 refine wv (.int .i64 z2380) ((wanted_eq z z z (cvb hc2730)).trans z) z z (wv (.bool (decide (z2380 ≥ (0:Int)))) ((wanted_eq z z z (cvb hc2730)).trans z) z z (wv (.bool (decide (z2380 ≥ (0:Int)))) ((wanted_eq z z z (cvb hc2730)).trans z) z z ?_))
 refine bsplit (decide (z2380 ≥ (0:Int))) (fun hc2736 => ?_) (fun hc2736 => ?_)
 {
 replace hm := bif_t hc2736 hm
 refine wv (.int .i64 z2380) ((wanted_eq z z z (cvb hc2736)).trans z) z z (wv (.int .i64 ((a1).length : Int)) ((wanted_eq z z z (cvb hc2736)).trans z) z z (wv (.bool (decide (z2380 < ((a1).length : Int)))) ((wanted_eq z z z (cvb hc2736)).trans z) z z (wv (.bool (decide (z2380 < ((a1).length : Int)))) ((wanted_eq z z z (cvb hc2730)).trans z) z (x_pick_t hc2736 z z) (wv (.bool (!(t2731 == (decide (z2380 < ((a1).length : Int)))))) ((wanted_eq z z z (cvb hc2730)).trans z) z (by kernel_rfl) (wv (.bool (!(t2731 == (decide (z2380 < ((a1).length : Int)))))) z z (x_pick_f hc2730 z z) (wv (.bool (!(t2731 == (decide (z2380 < ((a1).length : Int)))))) z z z ?_))))))
 refine bsplit (!(t2731 == (decide (z2380 < ((a1).length : Int))))) (fun hc2737 => ?_) (fun hc2737 => ?_)
 {
 replace hm := bif_t hc2737 hm
 refine wo hc2737 z z z z z z (wo hc2737 z z z z z z (wo hc2737 z z z z z z (wo hc2737 z z z z z z (wo hc2737 z z z z z z (wl_off (wanted_undef z z z z) z (wl_off (wanted_undef z z z z) z (wl_off (wanted_undef z z z z) z (wl_off (wanted_undef z z z z) z (wo hc2737 z z z z z z (wv (.bool true) z z (x_pick_t hc2737 z z) (wl_nil (tn ?_))))))))))))
 refine wp_ift z ?_
 refine wp_seq (wrl (wv (.bool false) z z z (wl_nil (tn (wp_ret (then_r ?_))))))
 replace hm := inr_up hm hx2766
 refine blk_r (then_r (then_r ?_))
 replace hm := inr_up hm hx2387
 refine blk_r (then_r ?_)
 obtain rfl := some_inj hm
 refine post_ret (vs := [.bool false]) results20 (rvs_cons (rv_tmp z) rvs_nil) ?_
 exact ⟨z, hst.keep1⟩
}
 {
 replace hm := bif_f hc2737 hm
 refine wv (p0) ((wanted_eq z z z (cvb hc2737)).trans z) z z (wv (.int .i64 z2380) ((wanted_eq z z z (cvb hc2737)).trans z) z z ?_)
 obtain ⟨t2738, ht2739, hm⟩ := bind_some hm
 refine wl_call ((wanted_eq z z z (cvb hc2737)).trans z) z (x_call call23 z (vs := [p0, I6 z2380]) z) ?_
 refine (label_Lattice_Is_ref hst.to1 ht2739).mono ?_
 rintro _ w2740 ⟨rfl, hst⟩
 refine ⟨_, z, ?_⟩
 replace hst := hst.of1
 refine wv (.bool (!t2738)) ((wanted_eq z z z (cvb hc2737)).trans z) z z (wv (.bool (!t2738)) ((wanted_eq z z z (cvb hc2737)).trans z) z z ?_)
 refine bsplit (!t2738) (fun hc2743 => ?_) (fun hc2743 => ?_)
 {
 replace hm := bif_t hc2743 hm
 refine wv (p0) ((wanted_eq z z z (cvb hc2743)).trans z) z z (wv (.int .i64 z2380) ((wanted_eq z z z (cvb hc2743)).trans z) z z ?_)
 obtain ⟨t2744, ht2745, hm⟩ := bind_some hm
 refine wl_call ((wanted_eq z z z (cvb hc2743)).trans z) z (x_call call18 z (vs := [p0, I6 z2380]) z) ?_
 refine (label_Lattice_Rank_ref hst.to1 ht2745).mono ?_
 rintro _ w2746 ⟨rfl, hst⟩
 refine ⟨_, z, ?_⟩
 replace hst := hst.of1
 refine wv (.bool (t2744 != ((-1):Int))) ((wanted_eq z z z (cvb hc2743)).trans z) z z (wv (.bool (t2744 != ((-1):Int))) ((wanted_eq z z z (cvb hc2737)).trans z) z (x_pick_t hc2743 z z) (wv (.bool (t2744 != ((-1):Int))) z z (x_pick_f hc2737 z z) (wl_nil (tn ?_))))
 refine bsplit (t2744 != ((-1):Int)) (fun hc2749 => ?_) (fun hc2749 => ?_)
 {
 replace hm := bif_t hc2749 hm
 refine wp_ift (cvb hc2749) ?_
 refine wp_seq (wrl (wv (.bool false) z z z (wl_nil (tn (wp_ret (then_r ?_))))))
 replace hm := inr_up hm hx2766
 refine blk_r (then_r (then_r ?_))
 replace hm := inr_up hm hx2387
 refine blk_r (then_r ?_)
 obtain rfl := some_inj hm
 refine post_ret (vs := [.bool false]) results20 (rvs_cons (rv_tmp z) rvs_nil) ?_
 exact ⟨z, hst.keep1⟩
}
 {
 replace hm := bif_f hc2749 hm
 refine wp_iff (cvb hc2749) ?_
 refine wp_skip (tn ?_)
 replace hst := hst.pull1.pull2.pull2.keep3
 obtain rfl := some_inj hm
 exact ⟨_, hx2766, (fu 0 p0 z (fu 1 r1_0 z (fu 5 (.int .i64 ((a1).length : Int)) z (fu 9 (.int .i64 z2380) z (fu 10 v2716 z (fu 13 v2728 z z)))))), hst⟩
}
}
 {
 replace hm := bif_f hc2743 hm
 refine wo hc2743 z z z z z z (wo hc2743 z z z z z z (wo hc2743 z z z z z z (wo hc2743 z z z z z z (wv (.bool false) ((wanted_eq z z z (cvb hc2737)).trans z) z (x_pick_f hc2743 z z) (wv (.bool false) z z (x_pick_f hc2737 z z) (wl_nil (tn ?_)))))))
 refine wp_iff z ?_
 refine wp_skip (tn ?_)
 replace hst := hst.pull1.pull2.pull2.keep3
 obtain rfl := some_inj hm
 exact ⟨_, hx2766, (fu 0 p0 z (fu 1 r1_0 z (fu 5 (.int .i64 ((a1).length : Int)) z (fu 9 (.int .i64 z2380) z (fu 10 v2716 z (fu 13 v2728 z z)))))), hst⟩
}
}
}
 {
 replace hm := bif_f hc2736 hm
 refine wo hc2736 z z z z z z (wo hc2736 z z z z z z (wo hc2736 z z z z z z (wv (.bool false) ((wanted_eq z z z (cvb hc2730)).trans z) z (x_pick_f hc2736 z z) (wv (.bool (!(t2731 == false))) ((wanted_eq z z z (cvb hc2730)).trans z) z (by kernel_rfl) (wv (.bool (!(t2731 == false))) z z (x_pick_f hc2730 z z) (wv (.bool (!(t2731 == false))) z z z ?_))))))
 refine bsplit (!(t2731 == false)) (fun hc2750 => ?_) (fun hc2750 => ?_)
 {
 replace hm := bif_t hc2750 hm
 refine wo hc2750 z z z z z z (wo hc2750 z z z z z z (wo hc2750 z z z z z z (wo hc2750 z z z z z z (wo hc2750 z z z z z z (wl_off (wanted_undef z z z z) z (wl_off (wanted_undef z z z z) z (wl_off (wanted_undef z z z z) z (wl_off (wanted_undef z z z z) z (wo hc2750 z z z z z z (wv (.bool true) z z (x_pick_t hc2750 z z) (wl_nil (tn ?_))))))))))))
 refine wp_ift z ?_
 refine wp_seq (wrl (wv (.bool false) z z z (wl_nil (tn (wp_ret (then_r ?_))))))
 replace hm := inr_up hm hx2766
 refine blk_r (then_r (then_r ?_))
 replace hm := inr_up hm hx2387
 refine blk_r (then_r ?_)
 obtain rfl := some_inj hm
 refine post_ret (vs := [.bool false]) results20 (rvs_cons (rv_tmp z) rvs_nil) ?_
 exact ⟨z, hst.keep1⟩
}
 {
 replace hm := bif_f hc2750 hm
 refine wv (p0) ((wanted_eq z z z (cvb hc2750)).trans z) z z (wv (.int .i64 z2380) ((wanted_eq z z z (cvb hc2750)).trans z) z z ?_)
 obtain ⟨t2751, ht2752, hm⟩ := bind_some hm
 refine wl_call ((wanted_eq z z z (cvb hc2750)).trans z) z (x_call call23 z (vs := [p0, I6 z2380]) z) ?_
 refine (label_Lattice_Is_ref hst.to1 ht2752).mono ?_
 rintro _ w2753 ⟨rfl, hst⟩
 refine ⟨_, z, ?_⟩
 replace hst := hst.of1
 refine wv (.bool (!t2751)) ((wanted_eq z z z (cvb hc2750)).trans z) z z (wv (.bool (!t2751)) ((wanted_eq z z z (cvb hc2750)).trans z) z z ?_)
 refine bsplit (!t2751) (fun hc2756 => ?_) (fun hc2756 => ?_)
 {
 replace hm := bif_t hc2756 hm
 refine wv (p0) ((wanted_eq z z z (cvb hc2756)).trans z) z z (wv (.int .i64 z2380) ((wanted_eq z z z (cvb hc2756)).trans z) z z ?_)
 obtain ⟨t2757, ht2758, hm⟩ := bind_some hm
 refine wl_call ((wanted_eq z z z (cvb hc2756)).trans z) z (x_call call18 z (vs := [p0, I6 z2380]) z) ?_
 refine (label_Lattice_Rank_ref hst.to1 ht2758).mono ?_
 rintro _ w2759 ⟨rfl, hst⟩
 refine ⟨_, z, ?_⟩
 replace hst := hst.of1
 refine wv (.bool (t2757 != ((-1):Int))) ((wanted_eq z z z (cvb hc2756)).trans z) z z (wv (.bool (t2757 != ((-1):Int))) ((wanted_eq z z z (cvb hc2750)).trans z) z (x_pick_t hc2756 z z) (wv (.bool (t2757 != ((-1):Int))) z z (x_pick_f hc2750 z z) (wl_nil (tn ?_))))
 refine bsplit (t2757 != ((-1):Int)) (fun hc2762 => ?_) (fun hc2762 => ?_)
 {
 replace hm := bif_t hc2762 hm
 refine wp_ift (cvb hc2762) ?_
 refine wp_seq (wrl (wv (.bool false) z z z (wl_nil (tn (wp_ret (then_r ?_))))))
 replace hm := inr_up hm hx2766
 refine blk_r (then_r (then_r ?_))
 replace hm := inr_up hm hx2387
 refine blk_r (then_r ?_)
 obtain rfl := some_inj hm
 refine post_ret (vs := [.bool false]) results20 (rvs_cons (rv_tmp z) rvs_nil) ?_
 exact ⟨z, hst.keep1⟩
}
 {
 replace hm := bif_f hc2762 hm
 refine wp_iff (cvb hc2762) ?_
 refine wp_skip (tn ?_)
 replace hst := hst.pull1.pull2.pull2.keep3
 obtain rfl := some_inj hm
 exact ⟨_, hx2766, (fu 0 p0 z (fu 1 r1_0 z (fu 5 (.int .i64 ((a1).length : Int)) z (fu 9 (.int .i64 z2380) z (fu 10 v2716 z (fu 13 v2728 z z)))))), hst⟩
}
}
 {
 replace hm := bif_f hc2756 hm
 refine wo hc2756 z z z z z z (wo hc2756 z z z z z z (wo hc2756 z z z z z z (wo hc2756 z z z z z z (wv (.bool false) ((wanted_eq z z z (cvb hc2750)).trans z) z (x_pick_f hc2756 z z) (wv (.bool false) z z (x_pick_f hc2750 z z) (wl_nil (tn ?_)))))))
 refine wp_iff z ?_
 refine wp_skip (tn ?_)
 replace hst := hst.pull1.pull2.pull2.keep3
 obtain rfl := some_inj hm
 exact ⟨_, hx2766, (fu 0 p0 z (fu 1 r1_0 z (fu 5 (.int .i64 ((a1).length : Int)) z (fu 9 (.int .i64 z2380) z (fu 10 v2716 z (fu 13 v2728 z z)))))), hst⟩
}
}
}
}
}
 {
 clear hst
 rintro _ w2767 ⟨σ2763, hm, rfl, hst⟩
 dsimp only [law03_told_j7] at hm
 refine wp_seq (wrl (wv (.int .i64 (0:Int)) z z z (wl_nil (tn (wp_block ?_)))))
 obtain ⟨n2795, hm⟩ := loopO_some hm
 refine wp_loop_n (fun n a w => ∃ (z2793 : Int) (σ2794 : Nat → Value), loopN (law03_told_l8 t2723 z2717 z2380) n z2793 = some y2386 ∧ a = Fr 205 (upd (upd (upd (upd (upd (upd (upd σ2794 0 (p0)) 1 (r1_0)) 5 (.int .i64 ((a1).length : Int))) 9 (.int .i64 z2380)) 10 (v2716)) 13 (v2728)) 14 (.int .i64 z2793)) ∧ St w0 w I [objO at_label_Lattice p0 a0, ownS (tyInt .i64) v2716 z2717, ownS (tyInt .i64) v2728 t2723] R) n2795 ⟨(0:Int), _, hm, (fu 0 p0 z (fu 1 r1_0 z (fu 5 (.int .i64 ((a1).length : Int)) z (fu 9 (.int .i64 z2380) z (fu 10 v2716 z (fu 13 v2728 z (fu 14 (.int .i64 (0:Int)) z z))))))), hst⟩ ?_
 rintro n2801 _ w2796 ⟨z2793, σ2794, hm, rfl, hst⟩
 obtain ⟨n2798, y2799, rfl, hm, hx2800⟩ := loopN_some hm
 dsimp only [law03_told_l8] at hm
 refine wp_seq (wp_seq (wrl (wv (.int .i64 z2793) z z z (wv (v2728) z z z (wv (.int .i64 ((t2723).length : Int)) z z (x_len z underlying41 hst.sv2) (wv (.bool (decide (z2793 < ((t2723).length : Int)))) z z z (wl_nil (tn ?_))))))))
 refine bsplit (decide (z2793 < ((t2723).length : Int))) (fun hc2802 => ?_) (fun hc2802 => ?_)
 {
 replace hm := bif_t hc2802 hm
 refine wp_ift (cvb hc2802) ?_
 refine wp_skip (tn (wp_seq (wp_block (wp_seq ?_))))
 refine wq_regionS hst Try.mixed (by kernel_rfl) ?_
 refine wq_run (v := v2728) z z (fun w hst => z) ?_
 refine wq_run (v := .int .i64 z2793) z z (fun w hst => z) ?_
 obtain ⟨x2803, hx2804, hm⟩ := bind_some hm
 obtain ⟨h2805, h2806, hi2807⟩ := geto_some hx2804
 refine wq_run (v := .pointer (some (eAddr v2728 (z2793.toNat * 1 + 0)))) z z (fun w hst => x_index z z underlying41 sizeOf3 hst.sv2 h2805 h2806) ?_
 refine wq_run (v := .int .i64 x2803) z z (fun w hst => x_load z isAgg3 (hst.ol2 hi2807 (by rintro _ rfl; rfl))) ?_
 refine wq_run (v := v2716) z z (fun w hst => z) ?_
 refine wq_run (v := .int .i64 z2793) z z (fun w hst => z) ?_
 obtain ⟨x2808, hx2809, hm⟩ := bind_some hm
 obtain ⟨h2810, h2811, hi2812⟩ := geto_some hx2809
 refine wq_run (v := .pointer (some (eAddr v2716 (z2793.toNat * 1 + 0)))) z z (fun w hst => x_index z z underlying41 sizeOf3 hst.sv1 h2810 h2811) ?_
 refine wq_run (v := .int .i64 x2808) z z (fun w hst => x_load z isAgg3 (hst.ol1 hi2812 (by rintro _ rfl; rfl))) ?_
 refine wq_run (v := .bool (x2803 != x2808)) z z (fun w hst => z) ?_
 refine wq_nil ?_
 intro w hst
 refine tn ?_
 refine bsplit (x2803 != x2808) (fun hc2813 => ?_) (fun hc2813 => ?_)
 {
 replace hm := bif_t hc2813 hm
 refine wp_ift (cvb hc2813) ?_
 refine wp_seq (wrl (wv (.bool false) z z z (wl_nil (tn (wp_ret (blk_r (then_r (then_r ?_))))))))
 replace hm := inr_up hm hx2800
 refine blk_r (blk_r (then_r (then_r ?_)))
 replace hm := inr_up hm hx2387
 refine blk_r (then_r ?_)
 obtain rfl := some_inj hm
 refine post_ret (vs := [.bool false]) results20 (rvs_cons (rv_tmp z) rvs_nil) ?_
 exact ⟨z, hst.keep1⟩
}
 {
 replace hm := bif_f hc2813 hm
 refine wp_iff (cvb hc2813) ?_
 refine wp_skip (blk_n (tn (wrl ?_)))
 refine wv (.int .i64 z2793) z z z (wv (.int .i64 (i64.wrap (z2793 + (1:Int)))) z z z (wv (.int .i64 (i64.wrap (z2793 + (1:Int)))) z z z (wl_nil (tn ?_))))
 replace hst := hst.pull2.pull2.pull2.keep3
 obtain rfl := some_inj hm
 exact ⟨_, Nat.lt_succ_self _, (i64.wrap (z2793 + (1:Int))), _, hx2800, (fu 0 p0 z (fu 1 r1_0 z (fu 5 (.int .i64 ((a1).length : Int)) z (fu 9 (.int .i64 z2380) z (fu 10 v2716 z (fu 13 v2728 z (fu 14 (.int .i64 (i64.wrap (z2793 + (1:Int)))) z z))))))), hst⟩
}
}
 {
 replace hm := bif_f hc2802 hm
 refine wp_iff (cvb hc2802) ?_
 refine wp_exit (then_x (then_x ?_))
 replace hm := inr_up hm hx2800
 refine blk_x (blk_n (tn (wrl ?_)))
 refine wv (.int .i64 z2380) z z z (wv (.int .i64 (i64.wrap (z2380 + (1:Int)))) z z z (wv (.int .i64 (i64.wrap (z2380 + (1:Int)))) z z z (wl_nil (tn ?_))))
 replace hst := hst.keep1
 obtain rfl := some_inj hm
 exact ⟨_, Nat.lt_succ_self _, (i64.wrap (z2380 + (1:Int))), _, hx2387, (fu 0 p0 z (fu 1 r1_0 z (fu 5 (.int .i64 ((a1).length : Int)) z (fu 9 (.int .i64 (i64.wrap (z2380 + (1:Int)))) z z)))), hst⟩
}
}
}
}
 {
 replace hm := bif_f hc2389 hm
 refine wp_iff (cvb hc2389) ?_
 refine wp_exit (then_x (then_x ?_))
 replace hm := inr_up hm hx2387
 refine blk_x (tn (wp_seq (wrl ?_)))
 refine wv (.bool true) z z z (wl_nil (tn (wp_ret ?_)))
 obtain rfl := some_inj hm
 refine post_ret (vs := [.bool true]) results20 (rvs_cons (rv_tmp z) rvs_nil) ?_
 exact ⟨z, hst.keep1⟩
}
}
}
}
}
}
}

theorem law03_LabelChecks_ref {w0 w : World} {I : HL} {R : SP} {a0 : (List Int)} {r0_0 : Value} (f0_0 : Rd (tyInt .u64) R I r0_0 a0) (hst : St w0 w I [] R) {r : (Bool)} (hm : law03_LabelChecks a0 = some r) :
  Calls prog 4 #[r0_0] w fun e w' => ∃ (I' : HL), e = .returned (.bool r) ∧ I.le I' ∧ St w0 w' I' [] R := by {
 unfold law03_LabelChecks at hm
 refine calls_start (args := [r0_0]) func4 z ntmps4 (Nat.le_of_ble_eq_true z) ?_
 have hI0 := HL.le.refl I
 refine wp_seq (wrl (wv (.bool false) z z z (wl_nil (tn (wp_seq (wp_seq (wrl ?_)))))))
 obtain ⟨t40, ht41, hm⟩ := bind_some hm
 refine wc call9 [] z z z ?_
 refine (law03_awake_ref hst.to0 ht41).mono ?_
 rintro _ w42 ⟨I43, rfl, hI44, hst⟩
 refine ⟨_, z, ?_⟩
 replace hst := hst.of0
 replace f0_0 := f0_0.mono (rd_le hI44)
 replace hI0 := hI0.trans hI44
 refine wv (.bool (!t40)) z z z (wv (.bool (!t40)) z z z ?_)
 refine bsplit (!t40) (fun hc45 => ?_) (fun hc45 => ?_)
 {
 replace hm := bif_t hc45 hm
 refine wo hc45 z z z z z z (wo hc45 z z z z z z (wo hc45 z z z z z z (wv (.bool true) z z (x_pick_t hc45 z z) (wl_nil (tn ?_)))))
 refine wp_ift z ?_
 refine wp_seq (wrl ?_)
 obtain ⟨t46, ht47, hm⟩ := bind_some hm
 refine wc call9 [] z z z ?_
 refine (law03_awake_ref hst.to0 ht47).mono ?_
 rintro _ w48 ⟨I49, rfl, hI50, hst⟩
 refine ⟨_, z, ?_⟩
 replace hst := hst.of0
 replace f0_0 := f0_0.mono (rd_le hI50)
 replace hI0 := hI0.trans hI50
 refine wv (.bool t46) z z z (wl_nil (tn (wp_ret (then_r ?_))))
 obtain rfl := some_inj hm
 refine post_ret (vs := [.bool t46]) results4 (rvs_cons (rv_tmp z) rvs_nil) ?_
 exact ⟨_, z, hI0, hst.keep0⟩
}
 {
 replace hm := bif_f hc45 hm
 refine wv (r0_0) ((wanted_eq z z z (cvb hc45)).trans z) z z (wv (.int .i64 ((a0).length : Int)) ((wanted_eq z z z (cvb hc45)).trans z) z (x_len z underlying28 (rd_sliceV f0_0)) (wv (.bool (decide (((a0).length : Int) > (20:Int)))) ((wanted_eq z z z (cvb hc45)).trans z) z z (wv (.bool (decide (((a0).length : Int) > (20:Int)))) z z (x_pick_f hc45 z z) (wl_nil (tn ?_)))))
 refine bsplit (decide (((a0).length : Int) > (20:Int))) (fun hc51 => ?_) (fun hc51 => ?_)
 {
 replace hm := bif_t hc51 hm
 refine wp_ift (cvb hc51) ?_
 refine wp_seq (wrl ?_)
 obtain ⟨t52, ht53, hm⟩ := bind_some hm
 refine wc call9 [] z z z ?_
 refine (law03_awake_ref hst.to0 ht53).mono ?_
 rintro _ w54 ⟨I55, rfl, hI56, hst⟩
 refine ⟨_, z, ?_⟩
 replace hst := hst.of0
 replace f0_0 := f0_0.mono (rd_le hI56)
 replace hI0 := hI0.trans hI56
 refine wv (.bool t52) z z z (wl_nil (tn (wp_ret (then_r ?_))))
 obtain rfl := some_inj hm
 refine post_ret (vs := [.bool t52]) results4 (rvs_cons (rv_tmp z) rvs_nil) ?_
 exact ⟨_, z, hI0, hst.keep0⟩
}
 {
 replace hm := bif_f hc51 hm
 refine wp_iff (cvb hc51) ?_
 refine wp_skip (tn (wp_seq (wrl ?_)))
 refine wv (r0_0) z z z ?_
 obtain ⟨t57, ht58, hm⟩ := bind_some hm
 refine wc call10 [r0_0] z z z ?_
 refine (label_New_ref (f0_0.mono (rd_weak _)) hst.to0 ht58).mono ?_
 rintro _ w59 ⟨I60, v62, rfl, hI61, hst⟩
 refine ⟨_, z, ?_⟩
 replace hst := hst.of1
 replace f0_0 := f0_0.mono (rd_le hI61)
 replace hI0 := hI0.trans hI61
 refine wv (.tuple #[v62, I6 t57.2]) z z z (wv (v62) z z z (wv (.int .i64 t57.2) z z z (wv (v62) z z z (wv (.int .i64 t57.2) z z z (wl_nil (tn (wp_seq (wrl (wv (r0_0) z z z ?_)))))))))
 obtain ⟨t64, ht65, hm⟩ := bind_some hm
 refine wc call19 [r0_0] z z z ?_
 refine (ref03_Check_ref (f0_0.mono (rd_weak _)) hst.to0 ht65).mono ?_
 rintro _ w66 ⟨rfl, hst⟩
 refine ⟨_, z, ?_⟩
 replace hst := hst.of0
 refine wv (.int .i64 t64) z z z (wl_nil (tn (wp_seq (wrl (wv (.int .i64 t57.2) z z z (wv (.int .i64 t64) z z z (wv (.bool (t57.2 == t64)) z z z (wv (.bool (t57.2 == t64)) z z z ?_))))))))
 refine bsplit (t57.2 == t64) (fun hc69 => ?_) (fun hc69 => ?_)
 {
 replace hm := bif_t hc69 hm
 refine wv (v62) ((wanted_eq z z z (cvb hc69)).trans z) z z (wv (.bool (!(t57.1.isNone))) ((wanted_eq z z z (cvb hc69)).trans z) z (by obtain ⟨a_, ha_, hb_⟩ := at_label_Lattice_isnil hst; subst ha_; rw [← hb_]; cases a_ <;> kernel_rfl) (wv (.int .i64 t64) ((wanted_eq z z z (cvb hc69)).trans z) z z (wv (.bool (t64 == (0:Int))) ((wanted_eq z z z (cvb hc69)).trans z) z z (wv (.bool ((!(t57.1.isNone)) == (t64 == (0:Int)))) ((wanted_eq z z z (cvb hc69)).trans z) z (by kernel_rfl) (wv (.bool ((!(t57.1.isNone)) == (t64 == (0:Int)))) z z (x_pick_t hc69 z z) (wv (.bool ((!(t57.1.isNone)) == (t64 == (0:Int)))) z z z ?_))))))
 refine bsplit ((!(t57.1.isNone)) == (t64 == (0:Int))) (fun hc70 => ?_) (fun hc70 => ?_)
 {
 replace hm := bif_t hc70 hm
 refine wv (.int .i64 t64) ((wanted_eq z z z (cvb hc70)).trans z) z z (wv (.bool (t64 != (0:Int))) ((wanted_eq z z z (cvb hc70)).trans z) z z (wv (.bool (t64 != (0:Int))) ((wanted_eq z z z (cvb hc70)).trans z) z z ?_))
 refine bsplit (t64 != (0:Int)) (fun hc71 => ?_) (fun hc71 => ?_)
 {
 replace hm := bif_t hc71 hm
 refine wo hc71 z z z z z z (wo hc71 z z z z z z (wo hc71 z z z z z z (wv (.bool true) ((wanted_eq z z z (cvb hc70)).trans z) z (x_pick_t hc71 z z) (wv (.bool true) z z (x_pick_t hc70 z z) (wv (.bool true) z z z (wl_nil (tn (wp_ret ?_))))))))
 obtain rfl := some_inj hm
 refine post_ret (vs := [.bool true]) results4 (rvs_cons (rv_tmp z) rvs_nil) ?_
 exact ⟨_, z, hI0, hst.keep0⟩
}
 {
 replace hm := bif_f hc71 hm
 refine wv (v62) ((wanted_eq z z z (cvb hc71)).trans z) z z (wv (r0_0) ((wanted_eq z z z (cvb hc71)).trans z) z z ?_)
 obtain ⟨t72, ht73, hm⟩ := bind_some hm
 refine wl_call ((wanted_eq z z z (cvb hc71)).trans z) z (x_call call20 z (vs := [v62, r0_0]) z) ?_
 refine (law03_told_ref (f0_0.mono (rd_weak _)) hst.to1 ht73).mono ?_
 rintro _ w74 ⟨rfl, hst⟩
 refine ⟨_, z, ?_⟩
 replace hst := hst.of1
 refine wv (.bool t72) ((wanted_eq z z z (cvb hc70)).trans z) z (x_pick_f hc71 z z) (wv (.bool t72) z z (x_pick_t hc70 z z) (wv (.bool t72) z z z (wl_nil (tn (wp_ret ?_)))))
 obtain rfl := some_inj hm
 refine post_ret (vs := [.bool t72]) results4 (rvs_cons (rv_tmp z) rvs_nil) ?_
 exact ⟨_, z, hI0, hst.keep0⟩
}
}
 {
 replace hm := bif_f hc70 hm
 refine wo hc70 z z z z z z (wo hc70 z z z z z z (wo hc70 z z z z z z (wl_off (wanted_undef z z z z) z (wl_off (wanted_undef z z z z) z (wl_off (wanted_undef z z z z) z (wo hc70 z z z z z z (wv (.bool false) z z (x_pick_f hc70 z z) (wv (.bool false) z z z (wl_nil (tn (wp_ret ?_)))))))))))
 obtain rfl := some_inj hm
 refine post_ret (vs := [.bool false]) results4 (rvs_cons (rv_tmp z) rvs_nil) ?_
 exact ⟨_, z, hI0, hst.keep0⟩
}
}
 {
 replace hm := bif_f hc69 hm
 refine wo hc69 z z z z z z (wo hc69 z z z z z z (wo hc69 z z z z z z (wo hc69 z z z z z z (wo hc69 z z z z z z (wv (.bool false) z z (x_pick_f hc69 z z) (wv (.bool false) z z z (wz z z z z z z (wz z z z z z z (wz z z z z z z (wl_off (wanted_undef z z z z) z (wl_off (wanted_undef z z z z) z (wl_off (wanted_undef z z z z) z ?_))))))))))))
 refine wz z z z z z z (wv (.bool false) z z (x_pick_f z z z) (wv (.bool false) z z z (wl_nil (tn (wp_ret ?_)))))
 obtain rfl := some_inj hm
 refine post_ret (vs := [.bool false]) results4 (rvs_cons (rv_tmp z) rvs_nil) ?_
 exact ⟨_, z, hI0, hst.keep0⟩
}
}
}
}

end Go.Proofs.Ytddhkbholbcebaa
