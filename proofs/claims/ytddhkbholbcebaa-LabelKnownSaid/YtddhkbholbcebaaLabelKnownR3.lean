/- The Go functions refine their models, part 3. -/
import Derived.Test.YtddhkbholbcebaaLabelKnownR2
set_option linter.unusedVariables false
set_option linter.unusedSimpArgs false
set_option maxRecDepth 100000
set_option maxHeartbeats 4000000
namespace Go.Proofs.Ytddhkbholbcebaa
open Go Go.V
open _root_.Go.Proofs.Try IntKind
attribute [local irreducible] wpList Code.wp wpQuiet Calls bodyPost Oper.wp wpS Nx PendOK YieldsIn
theorem law03_told_ref {w0 w : World} {I : HL} {R : SP} {a0 : (Option label_Lattice)} {p0 : Value} {a1 : (List Int)} {r1_0 : Value} (f1_0 : Rd (tyInt .u64) R I r1_0 a1) (hst : St w0 w I [objO at_label_Lattice p0 a0] R) {r : (Bool)} (hm : law03_told a0 a1 = some r) :
  Calls prog 20 #[p0, r1_0] w fun e w' => e = .returned (.bool r) ∧ St w0 w' I [objO at_label_Lattice p0 a0] R := by {
 unfold law03_told at hm
 refine calls_start (args := [p0, r1_0]) func20 z ntmps20 (Nat.le_of_ble_eq_true z) ?_
 refine wp_seq (wrl (wv (.bool false) z z z (wl_nil (tn (wp_seq (wrl (wv (r1_0) z z z (wv (.int .i64 ((a1).length : Int)) z z (x_len z underlying28 (rd_sliceV f1_0)) (wv (.int .i64 ((a1).length : Int)) z z z (wl_nil (tn (wp_seq (wp_seq (wrl (wv (p0) z z z ?_)))))))))))))))
 obtain ⟨t1416, ht1417, hm⟩ := bind_some hm
 refine wc call12 [p0] z z z ?_
 refine (label_Lattice_Len_ref hst.to1 ht1417).mono ?_
 rintro _ w1418 ⟨rfl, hst⟩
 refine ⟨_, z, ?_⟩
 replace hst := hst.of1
 refine wv (.int .i64 ((a1).length : Int)) z z z (wv (.bool (t1416 != ((a1).length : Int))) z z z (wl_nil (tn ?_)))
 refine bsplit (t1416 != ((a1).length : Int)) (fun hc1421 => ?_) (fun hc1421 => ?_)
 {
 replace hm := bif_t hc1421 hm
 refine wp_ift (cvb hc1421) ?_
 refine wp_seq (wrl (wv (.bool false) z z z (wl_nil (tn (wp_ret (then_r ?_))))))
 obtain rfl := some_inj hm
 refine post_ret (vs := [.bool false]) results20 (rvs_cons (rv_tmp z) rvs_nil) ?_
 exact ⟨z, hst.keep1⟩
}
 {
 replace hm := bif_f hc1421 hm
 refine wp_iff (cvb hc1421) ?_
 refine wp_skip (tn (wp_seq (wrl ?_)))
 refine wv (r1_0) z z z ?_
 obtain ⟨t1422, ht1423, hm⟩ := bind_some hm
 refine wc call35 [r1_0] z z z ?_
 refine (ref03_Order_ref (f1_0.mono (rd_weak _)) hst.to0 ht1423).mono ?_
 rintro _ w1424 ⟨v1427, rfl, hst⟩
 refine ⟨_, z, ?_⟩
 replace hst := hst.of1
 refine wv (v1427) z z z (wl_nil (tn (wp_seq (wrl (wv (p0) z z z ?_)))))
 replace hst := hst.pull1
 obtain ⟨t1429, ht1430, hm⟩ := bind_some hm
 refine wc call22 [p0] z z z ?_
 refine (label_Lattice_Order_ref hst.to1 ht1430).mono ?_
 rintro _ w1431 ⟨v1434, rfl, hst⟩
 refine ⟨_, z, ?_⟩
 replace hst := hst.of2
 refine wv (v1434) z z z (wl_nil (tn (wp_seq (wp_seq ?_))))
 refine wp_region_St hst 22 [0, 1, 2, 3, 4, 5, 6, 7, 8, 9, 10, 11, 12, 13, 14, 15, 16, 17, 18, 19, 20, 21] [0, 1, 0, 7, 15, 31, 63, 31, 159, 415, 1023, 2047, 4095, 8191, 16383, 8191, 8191, 73727, 237567, 499711, 1048575, 2097151] [] z (by kernel_rfl) (by kernel_rfl) Try.mixed (by kernel_rfl) ?_
 refine wsr (v1434) 0 z z z (by kernel_rfl) (fun w hst => z) (wsr (.int .i64 ((t1429).length : Int)) 1 z z z (by kernel_rfl) (fun w hst => x_len z underlying41 hst.sv0) (wsr (.int .i64 ((a1).length : Int)) 2 z z z (by kernel_rfl) (fun w hst => z) (wsr (.bool (((t1429).length : Int) != ((a1).length : Int))) 3 z z z (by kernel_rfl) (fun w hst => z) (wsr (.bool (((t1429).length : Int) != ((a1).length : Int))) 4 z z z (by kernel_rfl) (fun w hst => z) ?_))))
 refine bsplit (((t1429).length : Int) != ((a1).length : Int)) (fun hc1436 => ?_) (fun hc1436 => ?_)
 {
 replace hm := bif_t hc1436 hm
 refine ws_q (v := undef) 5 [6, 7, 8, 9, 10, 11, 12, 13, 14, 15, 16, 17, 18, 19, 20, 21] (by kernel_rfl) z z (yi_off ((wanted_eq z z z (cvb hc1436)).trans z)) (ws_q (v := undef) 6 [7, 8, 9, 10, 11, 12, 13, 14, 15, 16, 17, 18, 19, 20, 21] (by kernel_rfl) z z (yi_off ((wanted_eq z z z (cvb hc1436)).trans z)) (ws_q (v := undef) 7 [8, 9, 10, 11, 12, 13, 14, 15, 16, 17, 18, 19, 20, 21] (by kernel_rfl) z z (yi_off ((wanted_eq z z z (cvb hc1436)).trans z)) (ws_q (v := undef) 8 [9, 10, 11, 12, 13, 14, 15, 16, 17, 18, 19, 20, 21] (by kernel_rfl) z z (yi_off ((wanted_eq z z z (cvb hc1436)).trans z)) (ws_q (v := undef) 9 [10, 11, 12, 13, 14, 15, 16, 17, 18, 19, 20, 21] (by kernel_rfl) z z (yi_off ((wanted_eq z z z (cvb hc1436)).trans z)) (ws_q (v := undef) 10 [11, 12, 13, 14, 15, 16, 17, 18, 19, 20, 21] (by kernel_rfl) z z (yi_off ((wanted_eq z z z (cvb hc1436)).trans z)) (wsr (.bool true) 11 z z z (by kernel_rfl) (fun w hst => x_pick_t hc1436 z z) (wsr (.bool true) 12 z z z (by kernel_rfl) (fun w hst => z) (ws_q (v := undef) 13 [14, 15, 16, 17, 18, 19, 20, 21] (by kernel_rfl) z z (yi_off ((wanted_eq z z z z).trans z)) (ws_q (v := undef) 14 [15, 16, 17, 18, 19, 20, 21] (by kernel_rfl) z z (yi_off ((wanted_eq z z z z).trans z)) (ws_q (v := undef) 15 [16, 17, 18, 19, 20, 21] (by kernel_rfl) z z (yi_off ((wanted_eq z z z z).trans z)) (ws_q (v := undef) 16 [17, 18, 19, 20, 21] (by kernel_rfl) z z (yi_off ((wanted_eq z z z z).trans z)) (ws_q (v := undef) 17 [18, 19, 20, 21] (by kernel_rfl) z z (yi_off ((wanted_eq z z z z).trans z)) ?_))))))))))))
 refine ws_q (v := undef) 18 [19, 20, 21] (by kernel_rfl) z z (yi_off ((wanted_eq z z z z).trans z)) (ws_q (v := undef) 19 [20, 21] (by kernel_rfl) z z (yi_off ((wanted_eq z z z z).trans z)) (ws_q (v := undef) 20 [21] (by kernel_rfl) z z (yi_off ((wanted_eq z z z z).trans z)) (wsr (.bool true) 21 z z z (by kernel_rfl) (fun w hst => x_pick_t z z z) ?_)))
 refine ws_nil ?_
 intro w hst
 refine tn ?_
 refine wp_ift z ?_
 refine wp_seq (wrl (wv (.bool false) z z z (wl_nil (tn (wp_ret (then_r ?_))))))
 obtain rfl := some_inj hm
 refine post_ret (vs := [.bool false]) results20 (rvs_cons (rv_tmp z) rvs_nil) ?_
 replace hst := hst.pull1
 exact ⟨z, hst.keep1⟩
}
 {
 replace hm := bif_f hc1436 hm
 refine ws_q (v := p0) 5 [6, 7, 8, 9, 10, 11, 12, 13, 14, 15, 16, 17, 18, 19, 20, 21] (by kernel_rfl) z z (yi_run ((wanted_eq z z z (cvb hc1436)).trans z) (fun w hst => z)) (ws_q (v := v1427) 7 [6, 8, 9, 10, 11, 12, 13, 14, 15, 16, 17, 18, 19, 20, 21] (by kernel_rfl) z z (yi_run ((wanted_eq z z z (cvb hc1436)).trans z) (fun w hst => z)) ?_)
 obtain ⟨x1437, hx1438, hm⟩ := bind_some hm
 obtain ⟨h1439, h1440, hi1441⟩ := geto_some hx1438
 refine ws_q (v := .pointer (some (eAddr v1427 ((0:Int).toNat * 1 + 0)))) 8 [6, 9, 10, 11, 12, 13, 14, 15, 16, 17, 18, 19, 20, 21] (by kernel_rfl) z z (yi_run ((wanted_eq z z z (cvb hc1436)).trans z) (fun w hst => x_index z z underlying41 sizeOf3 hst.sv2 h1439 h1440)) (ws_q (v := .int .i64 x1437) 9 [6, 10, 11, 12, 13, 14, 15, 16, 17, 18, 19, 20, 21] (by kernel_rfl) z z (yi_run ((wanted_eq z z z (cvb hc1436)).trans z) (fun w hst => x_load z isAgg3 (hst.ol2 hi1441 (by rintro _ rfl; rfl)))) ?_)
 refine ws_e1 6 (by kernel_rfl) ?_
 refine nxe [10, 11, 12, 13, 14, 15, 16, 17, 18, 19, 20, 21] (by kernel_rfl) z ((wanted_eq z z z (cvb hc1436)).trans z) ?_
 clear hst
 intro w hst
 replace hst := hst.pull1
 obtain ⟨t1442, ht1443, hm⟩ := bind_some hm
 refine wec call16 [p0] z z ?_
 refine (label_Lattice_Bottom_ref hst.to1 ht1443).mono ?_
 rintro _ w1444 ⟨rfl, hst⟩
 refine ⟨_, z, ?_⟩
 replace hst := hst.of1
 refine ws_next (pend' := [(9, I6 x1437), (8, .pointer (some (eAddr v1427 ((0:Int).toNat * 1 + 0)))), (7, v1427)]) hst (by kernel_rfl) (pk_cons z (yi_run ((wanted_eq z z z (cvb hc1436)).trans z) (fun w hst => x_load z isAgg3 (hst.ol2 hi1441 (by rintro _ rfl; rfl)))) (pk_cons z (yi_run ((wanted_eq z z z (cvb hc1436)).trans z) (fun w hst => x_index z z underlying41 sizeOf3 hst.sv2 h1439 h1440)) (pk_cons z (yi_run ((wanted_eq z z z (cvb hc1436)).trans z) (fun w hst => z)) pk_nil))) ?_
 refine ws_q (v := .bool (t1442 != x1437)) 10 [11, 12, 13, 14, 15, 16, 17, 18, 19, 20, 21] (by kernel_rfl) z z (yi_run ((wanted_eq z z z (cvb hc1436)).trans z) (fun w hst => z)) (wsr (.bool (t1442 != x1437)) 11 z z z (by kernel_rfl) (fun w hst => x_pick_f hc1436 z z) (wsr (.bool (t1442 != x1437)) 12 z z z (by kernel_rfl) (fun w hst => z) ?_))
 refine bsplit (t1442 != x1437) (fun hc1447 => ?_) (fun hc1447 => ?_)
 {
 replace hm := bif_t hc1447 hm
 refine ws_q (v := undef) 13 [14, 15, 16, 17, 18, 19, 20, 21] (by kernel_rfl) z z (yi_off ((wanted_eq z z z (cvb hc1447)).trans z)) (ws_q (v := undef) 14 [15, 16, 17, 18, 19, 20, 21] (by kernel_rfl) z z (yi_off ((wanted_eq z z z (cvb hc1447)).trans z)) (ws_q (v := undef) 15 [16, 17, 18, 19, 20, 21] (by kernel_rfl) z z (yi_off ((wanted_eq z z z (cvb hc1447)).trans z)) (ws_q (v := undef) 16 [17, 18, 19, 20, 21] (by kernel_rfl) z z (yi_off ((wanted_eq z z z (cvb hc1447)).trans z)) (ws_q (v := undef) 17 [18, 19, 20, 21] (by kernel_rfl) z z (yi_off ((wanted_eq z z z (cvb hc1447)).trans z)) (ws_q (v := undef) 18 [19, 20, 21] (by kernel_rfl) z z (yi_off ((wanted_eq z z z (cvb hc1447)).trans z)) (ws_q (v := undef) 19 [20, 21] (by kernel_rfl) z z (yi_off ((wanted_eq z z z (cvb hc1447)).trans z)) (ws_q (v := undef) 20 [21] (by kernel_rfl) z z (yi_off ((wanted_eq z z z (cvb hc1447)).trans z)) (wsr (.bool true) 21 z z z (by kernel_rfl) (fun w hst => x_pick_t hc1447 z z) ?_))))))))
 refine ws_nil ?_
 intro w hst
 refine tn ?_
 refine wp_ift z ?_
 refine wp_seq (wrl (wv (.bool false) z z z (wl_nil (tn (wp_ret (then_r ?_))))))
 obtain rfl := some_inj hm
 refine post_ret (vs := [.bool false]) results20 (rvs_cons (rv_tmp z) rvs_nil) ?_
 exact ⟨z, hst.keep1⟩
}
 {
 replace hm := bif_f hc1447 hm
 refine ws_q (v := p0) 13 [14, 15, 16, 17, 18, 19, 20, 21] (by kernel_rfl) z z (yi_run ((wanted_eq z z z (cvb hc1447)).trans z) (fun w hst => z)) (ws_q (v := v1427) 15 [14, 16, 17, 18, 19, 20, 21] (by kernel_rfl) z z (yi_run ((wanted_eq z z z (cvb hc1447)).trans z) (fun w hst => z)) (ws_q (v := .int .i64 ((a1).length : Int)) 16 [14, 17, 18, 19, 20, 21] (by kernel_rfl) z z (yi_run ((wanted_eq z z z (cvb hc1447)).trans z) (fun w hst => z)) (ws_q (v := .int .i64 (i64.wrap (((a1).length : Int) - (1:Int)))) 17 [14, 18, 19, 20, 21] (by kernel_rfl) z z (yi_run ((wanted_eq z z z (cvb hc1447)).trans z) (fun w hst => z)) ?_)))
 obtain ⟨x1448, hx1449, hm⟩ := bind_some hm
 obtain ⟨h1450, h1451, hi1452⟩ := geto_some hx1449
 refine ws_q (v := .pointer (some (eAddr v1427 ((i64.wrap (((a1).length : Int) - (1:Int))).toNat * 1 + 0)))) 18 [14, 19, 20, 21] (by kernel_rfl) z z (yi_run ((wanted_eq z z z (cvb hc1447)).trans z) (fun w hst => x_index z z underlying41 sizeOf3 hst.sv2 h1450 h1451)) (ws_q (v := .int .i64 x1448) 19 [14, 20, 21] (by kernel_rfl) z z (yi_run ((wanted_eq z z z (cvb hc1447)).trans z) (fun w hst => x_load z isAgg3 (hst.ol2 hi1452 (by rintro _ rfl; rfl)))) ?_)
 refine ws_e1 14 (by kernel_rfl) ?_
 refine nxe [20, 21] (by kernel_rfl) z ((wanted_eq z z z (cvb hc1447)).trans z) ?_
 clear hst
 intro w hst
 obtain ⟨t1453, ht1454, hm⟩ := bind_some hm
 refine wec call17 [p0] z z ?_
 refine (label_Lattice_Top_ref hst.to1 ht1454).mono ?_
 rintro _ w1455 ⟨rfl, hst⟩
 refine ⟨_, z, ?_⟩
 replace hst := hst.of1
 refine ws_next (pend' := [(19, I6 x1448), (18, .pointer (some (eAddr v1427 ((i64.wrap (((a1).length : Int) - (1:Int))).toNat * 1 + 0)))), (17, I6 (i64.wrap (((a1).length : Int) - (1:Int)))), (16, I6 ((a1).length : Int)), (15, v1427)]) hst (by kernel_rfl) (pk_cons z (yi_run ((wanted_eq z z z (cvb hc1447)).trans z) (fun w hst => x_load z isAgg3 (hst.ol2 hi1452 (by rintro _ rfl; rfl)))) (pk_cons z (yi_run ((wanted_eq z z z (cvb hc1447)).trans z) (fun w hst => x_index z z underlying41 sizeOf3 hst.sv2 h1450 h1451)) (pk_cons z (yi_run ((wanted_eq z z z (cvb hc1447)).trans z) (fun w hst => z)) (pk_cons z (yi_run ((wanted_eq z z z (cvb hc1447)).trans z) (fun w hst => z)) (pk_cons z (yi_run ((wanted_eq z z z (cvb hc1447)).trans z) (fun w hst => z)) pk_nil))))) ?_
 refine ws_q (v := .bool (t1453 != x1448)) 20 [21] (by kernel_rfl) z z (yi_run ((wanted_eq z z z (cvb hc1447)).trans z) (fun w hst => z)) (wsr (.bool (t1453 != x1448)) 21 z z z (by kernel_rfl) (fun w hst => x_pick_f hc1447 z z) ?_)
 refine ws_nil ?_
 intro w hst
 refine tn ?_
 refine bsplit (t1453 != x1448) (fun hc1458 => ?_) (fun hc1458 => ?_)
 {
 replace hm := bif_t hc1458 hm
 refine wp_ift (cvb hc1458) ?_
 refine wp_seq (wrl (wv (.bool false) z z z (wl_nil (tn (wp_ret (then_r ?_))))))
 obtain rfl := some_inj hm
 refine post_ret (vs := [.bool false]) results20 (rvs_cons (rv_tmp z) rvs_nil) ?_
 exact ⟨z, hst.keep1⟩
}
 {
 replace hm := bif_f hc1458 hm
 refine wp_iff (cvb hc1458) ?_
 refine wp_skip (tn ?_)
 obtain ⟨y1520, hm, hx1521⟩ := joinO_some hm
 refine wp_cut (fun a w => ∃ (σ1518 : Nat → Value), (law03_told_j0 a1 a0) () = some r ∧ a = Fr 205 (upd (upd (upd σ1518 0 (p0)) 1 (r1_0)) 5 (.int .i64 ((a1).length : Int))) ∧ St w0 w I [objO at_label_Lattice p0 a0] R) ?_ ?_
 {
 refine wp_seq (wrl (wv (.int .i64 (0:Int)) z z z (wl_nil (tn (wp_block ?_)))))
 obtain ⟨n1493, hm⟩ := loopO_some hm
 refine wp_loop_n (fun n a w => ∃ (z1491 : Int) (σ1492 : Nat → Value), loopN (law03_told_l1 a1 t1429 t1422 a0) n z1491 = some y1520 ∧ a = Fr 205 (upd (upd (upd (upd (upd (upd σ1492 0 (p0)) 1 (r1_0)) 5 (.int .i64 ((a1).length : Int))) 6 (v1427)) 7 (v1434)) 8 (.int .i64 z1491)) ∧ St w0 w I [objO at_label_Lattice p0 a0, ownS (tyInt .i64) v1434 t1429, ownS (tyInt .i64) v1427 t1422] R) n1493 ⟨(0:Int), _, hm, (fu 0 p0 z (fu 1 r1_0 z (fu 5 (.int .i64 ((a1).length : Int)) z (fu 6 v1427 z (fu 7 v1434 z (fu 8 (.int .i64 (0:Int)) z z)))))), hst⟩ ?_
 rintro n1499 _ w1494 ⟨z1491, σ1492, hm, rfl, hst⟩
 obtain ⟨n1496, y1497, rfl, hm, hx1498⟩ := loopN_some hm
 dsimp only [law03_told_l1] at hm
 refine wp_seq (wp_seq (wrl (wv (.int .i64 z1491) z z z (wv (.int .i64 ((a1).length : Int)) z z z (wv (.bool (decide (z1491 < ((a1).length : Int)))) z z z (wl_nil (tn ?_)))))))
 refine bsplit (decide (z1491 < ((a1).length : Int))) (fun hc1500 => ?_) (fun hc1500 => ?_)
 {
 replace hm := bif_t hc1500 hm
 refine wp_ift (cvb hc1500) ?_
 refine wp_skip (tn (wp_seq (wp_block (wp_seq ?_))))
 refine wp_region_St hst 19 [0, 1, 2, 3, 4, 5, 6, 7, 8, 9, 10, 11, 12, 13, 14, 15, 16, 17, 18] [0, 0, 3, 7, 0, 0, 48, 112, 255, 511, 1023, 1023, 1023, 7167, 15359, 32767, 1023, 131071, 262143] [] z (by kernel_rfl) (by kernel_rfl) Try.mixed (by kernel_rfl) ?_
 refine wsr (v1434) 0 z z z (by kernel_rfl) (fun w hst => z) (wsr (.int .i64 z1491) 1 z z z (by kernel_rfl) (fun w hst => z) ?_)
 obtain ⟨x1501, hx1502, hm⟩ := bind_some hm
 obtain ⟨h1503, h1504, hi1505⟩ := geto_some hx1502
 refine wsr (.pointer (some (eAddr v1434 (z1491.toNat * 1 + 0)))) 2 z z z (by kernel_rfl) (fun w hst => x_index z z underlying41 sizeOf3 hst.sv1 h1503 h1504) (wsr (.int .i64 x1501) 3 z z z (by kernel_rfl) (fun w hst => x_load z isAgg3 (hst.ol1 hi1505 (by rintro _ rfl; rfl))) (wsr (v1427) 4 z z z (by kernel_rfl) (fun w hst => z) (wsr (.int .i64 z1491) 5 z z z (by kernel_rfl) (fun w hst => z) ?_)))
 obtain ⟨x1506, hx1507, hm⟩ := bind_some hm
 obtain ⟨h1508, h1509, hi1510⟩ := geto_some hx1507
 refine wsr (.pointer (some (eAddr v1427 (z1491.toNat * 1 + 0)))) 6 z z z (by kernel_rfl) (fun w hst => x_index z z underlying41 sizeOf3 hst.sv2 h1508 h1509) (wsr (.int .i64 x1506) 7 z z z (by kernel_rfl) (fun w hst => x_load z isAgg3 (hst.ol2 hi1510 (by rintro _ rfl; rfl))) (wsr (.bool (x1501 != x1506)) 8 z z z (by kernel_rfl) (fun w hst => z) (wsr (.bool (x1501 != x1506)) 9 z z z (by kernel_rfl) (fun w hst => z) ?_)))
 refine bsplit (x1501 != x1506) (fun hc1511 => ?_) (fun hc1511 => ?_)
 {
 replace hm := bif_t hc1511 hm
 refine ws_q (v := undef) 10 [11, 12, 13, 14, 15, 16, 17, 18] (by kernel_rfl) z z (yi_off ((wanted_eq z z z (cvb hc1511)).trans z)) (ws_q (v := undef) 11 [12, 13, 14, 15, 16, 17, 18] (by kernel_rfl) z z (yi_off ((wanted_eq z z z (cvb hc1511)).trans z)) (ws_q (v := undef) 12 [13, 14, 15, 16, 17, 18] (by kernel_rfl) z z (yi_off ((wanted_eq z z z (cvb hc1511)).trans z)) (ws_q (v := undef) 13 [14, 15, 16, 17, 18] (by kernel_rfl) z z (yi_off ((wanted_eq z z z (cvb hc1511)).trans z)) (ws_q (v := undef) 14 [15, 16, 17, 18] (by kernel_rfl) z z (yi_off ((wanted_eq z z z (cvb hc1511)).trans z)) (ws_q (v := undef) 15 [16, 17, 18] (by kernel_rfl) z z (yi_off ((wanted_eq z z z (cvb hc1511)).trans z)) (ws_q (v := undef) 16 [17, 18] (by kernel_rfl) z z (yi_off ((wanted_eq z z z (cvb hc1511)).trans z)) (ws_q (v := undef) 17 [18] (by kernel_rfl) z z (yi_off ((wanted_eq z z z (cvb hc1511)).trans z)) (wsr (.bool true) 18 z z z (by kernel_rfl) (fun w hst => x_pick_t hc1511 z z) ?_))))))))
 refine ws_nil ?_
 intro w hst
 refine tn ?_
 refine wp_ift z ?_
 refine wp_seq (wrl (wv (.bool false) z z z (wl_nil (tn (wp_ret (blk_r (then_r (then_r ?_))))))))
 replace hm := inr_up hm hx1498
 refine blk_r (then_r ?_)
 replace hm := inr_up hm hx1521
 obtain rfl := some_inj hm
 refine post_ret (vs := [.bool false]) results20 (rvs_cons (rv_tmp z) rvs_nil) ?_
 exact ⟨z, hst.keep1⟩
}
 {
 replace hm := bif_f hc1511 hm
 refine ws_q (v := p0) 10 [11, 12, 13, 14, 15, 16, 17, 18] (by kernel_rfl) z z (yi_run ((wanted_eq z z z (cvb hc1511)).trans z) (fun w hst => z)) (ws_q (v := v1427) 11 [12, 13, 14, 15, 16, 17, 18] (by kernel_rfl) z z (yi_run ((wanted_eq z z z (cvb hc1511)).trans z) (fun w hst => z)) (ws_q (v := .int .i64 z1491) 12 [13, 14, 15, 16, 17, 18] (by kernel_rfl) z z (yi_run ((wanted_eq z z z (cvb hc1511)).trans z) (fun w hst => z)) (ws_q (v := .pointer (some (eAddr v1427 (z1491.toNat * 1 + 0)))) 13 [14, 15, 16, 17, 18] (by kernel_rfl) z z (yi_run ((wanted_eq z z z (cvb hc1511)).trans z) (fun w hst => x_index z z underlying41 sizeOf3 hst.sv2 h1508 h1509)) (ws_q (v := .int .i64 x1506) 14 [15, 16, 17, 18] (by kernel_rfl) z z (yi_run ((wanted_eq z z z (cvb hc1511)).trans z) (fun w hst => x_load z isAgg3 (hst.ol2 hi1510 (by rintro _ rfl; rfl)))) (ws_q (v := .int .i64 z1491) 16 [15, 17, 18] (by kernel_rfl) z z (yi_run ((wanted_eq z z z (cvb hc1511)).trans z) (fun w hst => z)) ?_)))))
 refine ws_e1 15 (by kernel_rfl) ?_
 refine nxe [17, 18] (by kernel_rfl) z ((wanted_eq z z z (cvb hc1511)).trans z) ?_
 clear hst
 intro w hst
 obtain ⟨t1512, ht1513, hm⟩ := bind_some hm
 refine wec call18 [p0, I6 x1506] z z ?_
 refine (label_Lattice_Rank_ref hst.to1 ht1513).mono ?_
 rintro _ w1514 ⟨rfl, hst⟩
 refine ⟨_, z, ?_⟩
 replace hst := hst.of1
 refine ws_next (pend' := [(16, I6 z1491)]) hst (by kernel_rfl) (pk_cons z (yi_run ((wanted_eq z z z (cvb hc1511)).trans z) (fun w hst => z)) pk_nil) ?_
 refine ws_q (v := .bool (t1512 != z1491)) 17 [18] (by kernel_rfl) z z (yi_run ((wanted_eq z z z (cvb hc1511)).trans z) (fun w hst => z)) (wsr (.bool (t1512 != z1491)) 18 z z z (by kernel_rfl) (fun w hst => x_pick_f hc1511 z z) ?_)
 refine ws_nil ?_
 intro w hst
 refine tn ?_
 refine bsplit (t1512 != z1491) (fun hc1517 => ?_) (fun hc1517 => ?_)
 {
 replace hm := bif_t hc1517 hm
 refine wp_ift (cvb hc1517) ?_
 refine wp_seq (wrl (wv (.bool false) z z z (wl_nil (tn (wp_ret (blk_r (then_r (then_r ?_))))))))
 replace hm := inr_up hm hx1498
 refine blk_r (then_r ?_)
 replace hm := inr_up hm hx1521
 obtain rfl := some_inj hm
 refine post_ret (vs := [.bool false]) results20 (rvs_cons (rv_tmp z) rvs_nil) ?_
 exact ⟨z, hst.keep1⟩
}
 {
 replace hm := bif_f hc1517 hm
 refine wp_iff (cvb hc1517) ?_
 refine wp_skip (blk_n (tn (wrl ?_)))
 refine wv (.int .i64 z1491) z z z (wv (.int .i64 (i64.wrap (z1491 + (1:Int)))) z z z (wv (.int .i64 (i64.wrap (z1491 + (1:Int)))) z z z (wl_nil (tn ?_))))
 replace hst := hst.pull2.pull2.pull2.keep3
 obtain rfl := some_inj hm
 exact ⟨_, Nat.lt_succ_self _, (i64.wrap (z1491 + (1:Int))), _, hx1498, (fu 0 p0 z (fu 1 r1_0 z (fu 5 (.int .i64 ((a1).length : Int)) z (fu 6 v1427 z (fu 7 v1434 z (fu 8 (.int .i64 (i64.wrap (z1491 + (1:Int)))) z z)))))), hst⟩
}
}
}
 {
 replace hm := bif_f hc1500 hm
 refine wp_iff (cvb hc1500) ?_
 refine wp_exit (then_x (then_x ?_))
 replace hm := inr_up hm hx1498
 refine blk_x (tn ?_)
 replace hst := hst.keep1
 obtain rfl := some_inj hm
 exact ⟨_, hx1521, (fu 0 p0 z (fu 1 r1_0 z (fu 5 (.int .i64 ((a1).length : Int)) z z))), hst⟩
}
}
 {
 clear hst
 rintro _ w1522 ⟨σ1518, hm, rfl, hst⟩
 dsimp only [law03_told_j0] at hm
 refine wp_seq (wp_seq (wrl (wv (.int .i64 ((-1):Int)) z z z (wl_nil (tn (wp_block ?_))))))
 obtain ⟨n2372, hm⟩ := loopO_some hm
 refine wp_loop_n (fun n a w => ∃ (z2370 : Int) (σ2371 : Nat → Value), loopN (law03_told_l2 a1 a0) n z2370 = some r ∧ a = Fr 205 (upd (upd (upd (upd σ2371 0 (p0)) 1 (r1_0)) 5 (.int .i64 ((a1).length : Int))) 9 (.int .i64 z2370)) ∧ St w0 w I [objO at_label_Lattice p0 a0] R) n2372 ⟨((-1):Int), _, hm, (fu 0 p0 z (fu 1 r1_0 z (fu 5 (.int .i64 ((a1).length : Int)) z (fu 9 (.int .i64 ((-1):Int)) z z)))), hst⟩ ?_
 rintro n2378 _ w2373 ⟨z2370, σ2371, hm, rfl, hst⟩
 obtain ⟨n2375, y2376, rfl, hm, hx2377⟩ := loopN_some hm
 dsimp only [law03_told_l2] at hm
 refine wp_seq (wp_seq (wrl (wv (.int .i64 z2370) z z z (wv (.int .i64 ((a1).length : Int)) z z z (wv (.bool (decide (z2370 ≤ ((a1).length : Int)))) z z z (wl_nil (tn ?_)))))))
 refine bsplit (decide (z2370 ≤ ((a1).length : Int))) (fun hc2379 => ?_) (fun hc2379 => ?_)
 {
 replace hm := bif_t hc2379 hm
 refine wp_ift (cvb hc2379) ?_
 refine wp_skip (tn (wp_seq (wp_block (wp_seq (wrl ?_)))))
 refine wv ((.slice none 0 0)) z z z (wl_nil (tn ?_))
 obtain ⟨y2710, hm, hx2711⟩ := joinO_some hm
 refine wp_cut (fun a w => ∃ (z2707 : (List Int)) (v2706 : Value) (σ2708 : Nat → Value), (law03_told_j3 a0 z2370 a1) z2707 = some y2376 ∧ a = Fr 205 (upd (upd (upd (upd (upd σ2708 0 (p0)) 1 (r1_0)) 5 (.int .i64 ((a1).length : Int))) 9 (.int .i64 z2370)) 10 (v2706)) ∧ St w0 w I [objO at_label_Lattice p0 a0, ownS (tyInt .i64) v2706 z2707] R) ?_ ?_
 {
 refine wp_seq (wrl (wv (.int .i64 ((-1):Int)) z z z (wl_nil (tn (wp_block ?_)))))
 replace hst := hst.own_nil (tyInt .i64)
 obtain ⟨n2621, hm⟩ := loopO_some hm
 refine wp_loop_n (fun n a w => ∃ (z2616 : (List Int)) (z2619 : Int) (v2617 : Value) (σ2620 : Nat → Value), loopN (law03_told_l4 a1 z2370 a0) n (z2616, z2619) = some y2710 ∧ a = Fr 205 (upd (upd (upd (upd (upd (upd σ2620 0 (p0)) 1 (r1_0)) 5 (.int .i64 ((a1).length : Int))) 9 (.int .i64 z2370)) 10 (v2617)) 11 (.int .i64 z2619)) ∧ St w0 w I [ownS (tyInt .i64) v2617 z2616, objO at_label_Lattice p0 a0] R) n2621 ⟨[], ((-1):Int), Zs, _, hm, (fu 0 p0 z (fu 1 r1_0 z (fu 5 (.int .i64 ((a1).length : Int)) z (fu 9 (.int .i64 z2370) z (fu 10 (.slice none 0 0) z (fu 11 (.int .i64 ((-1):Int)) z z)))))), hst⟩ ?_
 rintro n2627 _ w2622 ⟨z2616, z2619, v2617, σ2620, hm, rfl, hst⟩
 obtain ⟨n2624, y2625, rfl, hm, hx2626⟩ := loopN_some hm
 dsimp only [law03_told_l4] at hm
 refine wp_seq (wp_seq (wrl (wv (.int .i64 z2619) z z z (wv (.int .i64 ((a1).length : Int)) z z z (wv (.bool (decide (z2619 ≤ ((a1).length : Int)))) z z z (wl_nil (tn ?_)))))))
 refine bsplit (decide (z2619 ≤ ((a1).length : Int))) (fun hc2628 => ?_) (fun hc2628 => ?_)
 {
 replace hm := bif_t hc2628 hm
 refine wp_ift (cvb hc2628) ?_
 refine wp_skip (tn (wp_seq (wp_block ?_)))
 obtain ⟨y2635, hm, hx2636⟩ := bind_some hm
 refine wp_cut (fun a w => ∃ (z2632 : Bool) (σ2633 : Nat → Value), (law03_told_j5 a0 z2370 z2619 a1 z2616) z2632 = some y2625 ∧ a = Fr 205 (upd (upd (upd (upd (upd (upd (upd σ2633 0 (p0)) 1 (r1_0)) 5 (.int .i64 ((a1).length : Int))) 9 (.int .i64 z2370)) 10 (v2617)) 11 (.int .i64 z2619)) 12 (.bool z2632)) ∧ St w0 w I [objO at_label_Lattice p0 a0, ownS (tyInt .i64) v2617 z2616] R) ?_ ?_
 {
 refine wrl (wv (.int .i64 z2370) z z z (wv (.bool (decide (z2370 ≥ (0:Int)))) z z z (wv (.bool (decide (z2370 ≥ (0:Int)))) z z z ?_)))
 refine bsplit (decide (z2370 ≥ (0:Int))) (fun hc2629 => ?_) (fun hc2629 => ?_)
 {
 replace hm := bif_t hc2629 hm
 refine wv (.int .i64 z2370) ((wanted_eq z z z (cvb hc2629)).trans z) z z (wv (.int .i64 ((a1).length : Int)) ((wanted_eq z z z (cvb hc2629)).trans z) z z (wv (.bool (decide (z2370 < ((a1).length : Int)))) ((wanted_eq z z z (cvb hc2629)).trans z) z z (wv (.bool (decide (z2370 < ((a1).length : Int)))) z z (x_pick_t hc2629 z z) (wv (.bool (decide (z2370 < ((a1).length : Int)))) z z z ?_))))
 refine bsplit (decide (z2370 < ((a1).length : Int))) (fun hc2630 => ?_) (fun hc2630 => ?_)
 {
 replace hm := bif_t hc2630 hm
 refine wv (.int .i64 z2619) ((wanted_eq z z z (cvb hc2630)).trans z) z z (wv (.bool (decide (z2619 ≥ (0:Int)))) ((wanted_eq z z z (cvb hc2630)).trans z) z z (wv (.bool (decide (z2619 ≥ (0:Int)))) z z (x_pick_t hc2630 z z) (wv (.bool (decide (z2619 ≥ (0:Int)))) z z z ?_)))
 refine bsplit (decide (z2619 ≥ (0:Int))) (fun hc2631 => ?_) (fun hc2631 => ?_)
 {
 replace hm := bif_t hc2631 hm
 refine wv (.int .i64 z2619) ((wanted_eq z z z (cvb hc2631)).trans z) z z (wv (.int .i64 ((a1).length : Int)) ((wanted_eq z z z (cvb hc2631)).trans z) z z (wv (.bool (decide (z2619 < ((a1).length : Int)))) ((wanted_eq z z z (cvb hc2631)).trans z) z z (wv (.bool (decide (z2619 < ((a1).length : Int)))) z z (x_pick_t hc2631 z z) (wv (.bool (decide (z2619 < ((a1).length : Int)))) z z z (wl_nil (tn ?_))))))
 replace hst := hst.pull1.keep2
 obtain rfl := some_inj hm
 exact ⟨(decide (z2619 < ((a1).length : Int))), _, hx2636, (fu 0 p0 z (fu 1 r1_0 z (fu 5 (.int .i64 ((a1).length : Int)) z (fu 9 (.int .i64 z2370) z (fu 10 v2617 z (fu 11 (.int .i64 z2619) z (fu 12 (.bool (decide (z2619 < ((a1).length : Int)))) z z))))))), hst⟩
}
 {
 replace hm := bif_f hc2631 hm
 refine wo hc2631 z z z z z z (wo hc2631 z z z z z z (wo hc2631 z z z z z z (wv (.bool false) z z (x_pick_f hc2631 z z) (wv (.bool false) z z z (wl_nil (tn ?_))))))
 replace hst := hst.pull1.keep2
 obtain rfl := some_inj hm
 exact ⟨false, _, hx2636, (fu 0 p0 z (fu 1 r1_0 z (fu 5 (.int .i64 ((a1).length : Int)) z (fu 9 (.int .i64 z2370) z (fu 10 v2617 z (fu 11 (.int .i64 z2619) z (fu 12 (.bool false) z z))))))), hst⟩
}
}
 {
 replace hm := bif_f hc2630 hm
 refine wo hc2630 z z z z z z (wo hc2630 z z z z z z (wv (.bool false) z z (x_pick_f hc2630 z z) (wv (.bool false) z z z (wz z z z z z z (wz z z z z z z (wz z z z z z z (wv (.bool false) z z (x_pick_f z z z) (wv (.bool false) z z z (wl_nil (tn ?_))))))))))
 replace hst := hst.pull1.keep2
 obtain rfl := some_inj hm
 exact ⟨false, _, hx2636, (fu 0 p0 z (fu 1 r1_0 z (fu 5 (.int .i64 ((a1).length : Int)) z (fu 9 (.int .i64 z2370) z (fu 10 v2617 z (fu 11 (.int .i64 z2619) z (fu 12 (.bool false) z z))))))), hst⟩
}
}
 {
 replace hm := bif_f hc2629 hm
 refine wo hc2629 z z z z z z (wo hc2629 z z z z z z (wo hc2629 z z z z z z (wv (.bool false) z z (x_pick_f hc2629 z z) (wv (.bool false) z z z (wz z z z z z z (wz z z z z z z (wv (.bool false) z z (x_pick_f z z z) (wv (.bool false) z z z (wz z z z z z z (wz z z z z z z (wz z z z z z z (wv (.bool false) z z (x_pick_f z z z) ?_))))))))))))
 refine wv (.bool false) z z z (wl_nil (tn ?_))
 replace hst := hst.pull1.keep2
 obtain rfl := some_inj hm
 exact ⟨false, _, hx2636, (fu 0 p0 z (fu 1 r1_0 z (fu 5 (.int .i64 ((a1).length : Int)) z (fu 9 (.int .i64 z2370) z (fu 10 v2617 z (fu 11 (.int .i64 z2619) z (fu 12 (.bool false) z z))))))), hst⟩
}
}
 {
 clear hst
 rintro _ w2637 ⟨z2632, σ2633, hm, rfl, hst⟩
 dsimp only [law03_told_j5] at hm
 obtain ⟨y2686, hm, hx2687⟩ := joinO_some hm
 refine wp_cut (fun a w => ∃ (σ2684 : Nat → Value), (law03_told_j6 a1 z2619 z2370 z2616) () = some y2625 ∧ a = Fr 205 (upd (upd (upd (upd (upd (upd σ2684 0 (p0)) 1 (r1_0)) 5 (.int .i64 ((a1).length : Int))) 9 (.int .i64 z2370)) 10 (v2617)) 11 (.int .i64 z2619)) ∧ St w0 w I [objO at_label_Lattice p0 a0, ownS (tyInt .i64) v2617 z2616] R) ?_ ?_
 {
 refine wp_seq (wrl (wv (p0) z z z (wv (.int .i64 z2370) z z z (wv (.int .i64 z2619) z z z ?_))))
 obtain ⟨t2638, ht2639, hm⟩ := bind_some hm
 refine wc call15 [p0, I6 z2370, I6 z2619] z z z ?_
 refine (label_Lattice_Leq_ref hst.to1 ht2639).mono ?_
 rintro _ w2640 ⟨rfl, hst⟩
 refine ⟨_, z, ?_⟩
 replace hst := hst.of1
 refine wv (r1_0) z z z (wv (.int .i64 z2370) z z z (wv (.int .i64 z2619) z z z ?_))
 obtain ⟨t2643, ht2644, hm⟩ := bind_some hm
 refine wc call32 [r1_0, I6 z2370, I6 z2619] z z z ?_
 refine (ref03_Leq_ref (f1_0.mono (rd_weak _)) hst.to0 ht2644).mono ?_
 rintro _ w2645 ⟨rfl, hst⟩
 refine ⟨_, z, ?_⟩
 replace hst := hst.of0
 refine wv (.bool (!(t2638 == t2643))) z z (by kernel_rfl) (wv (.bool (!(t2638 == t2643))) z z z ?_)
 refine bsplit (!(t2638 == t2643)) (fun hc2648 => ?_) (fun hc2648 => ?_)
 {
 replace hm := bif_t hc2648 hm
 refine wo hc2648 z z z z z z (wo hc2648 z z z z z z (wl_off (wanted_undef z z z z) z (wl_off (wanted_undef z z z z) z (wl_off (wanted_undef z z z z) z (wl_off (wanted_undef z z z z) z (wl_off (wanted_undef z z z z) z (wl_off (wanted_undef z z z z) z (wl_off (wanted_undef z z z z) z (wl_off (wanted_undef z z z z) z (wl_off (wanted_undef z z z z) z (wl_off (wanted_undef z z z z) z (wl_off (wanted_undef z z z z) z ?_))))))))))))
 refine wl_off (wanted_undef z z z z) z (wl_off (wanted_undef z z z z) z (wl_off (wanted_undef z z z z) z (wl_off (wanted_undef z z z z) z (wl_off (wanted_undef z z z z) z (wl_off (wanted_undef z z z z) z (wl_off (wanted_undef z z z z) z (wl_off (wanted_undef z z z z) z (wl_off (wanted_undef z z z z) z (wo hc2648 z z z z z z (wv (.bool true) z z (x_pick_t hc2648 z z) (wv (.bool true) z z z (wz z z z z z z ?_))))))))))))
 refine wz z z z z z z (wz z z z z z z (wl_off (wanted_undef z z z z) z (wl_off (wanted_undef z z z z) z (wl_off (wanted_undef z z z z) z (wl_off (wanted_undef z z z z) z (wl_off (wanted_undef z z z z) z (wl_off (wanted_undef z z z z) z (wl_off (wanted_undef z z z z) z (wl_off (wanted_undef z z z z) z (wl_off (wanted_undef z z z z) z (wl_off (wanted_undef z z z z) z (wl_off (wanted_undef z z z z) z ?_))))))))))))
 refine wl_off (wanted_undef z z z z) z (wz z z z z z z (wv (.bool true) z z (x_pick_t z z z) (wl_nil (tn ?_))))
 refine wp_ift z ?_
 refine wp_seq (wrl (wv (.bool false) z z z (wl_nil (tn (wp_ret (then_r ?_))))))
 replace hm := inr_up hm hx2687
 refine blk_r (then_r (then_r ?_))
 replace hm := inr_up hm hx2626
 refine blk_r (then_r ?_)
 replace hm := inr_up hm hx2711
 refine blk_r (then_r (then_r ?_))
 replace hm := inr_up hm hx2377
 refine blk_r (then_r ?_)
 obtain rfl := some_inj hm
 refine post_ret (vs := [.bool false]) results20 (rvs_cons (rv_tmp z) rvs_nil) ?_
 exact ⟨z, hst.keep1⟩
}
 {
 replace hm := bif_f hc2648 hm
 refine wv (.bool z2632) ((wanted_eq z z z (cvb hc2648)).trans z) z z (wv (.bool z2632) ((wanted_eq z z z (cvb hc2648)).trans z) z z ?_)
 refine bsplit z2632 (fun hc2649 => ?_) (fun hc2649 => ?_)
 {
 replace hm := bif_t hc2649 hm
 refine wv (p0) ((wanted_eq z z z (cvb hc2649)).trans z) z z (wv (.int .i64 z2370) ((wanted_eq z z z (cvb hc2649)).trans z) z z (wv (.int .i64 z2619) ((wanted_eq z z z (cvb hc2649)).trans z) z z ?_))
 obtain ⟨t2650, ht2651, hm⟩ := bind_some hm
 refine wl_call ((wanted_eq z z z (cvb hc2649)).trans z) z (x_call call13 z (vs := [p0, I6 z2370, I6 z2619]) z) ?_
 refine (label_Lattice_Join_ref hst.to1 ht2651).mono ?_
 rintro _ w2652 ⟨rfl, hst⟩
 refine ⟨_, z, ?_⟩
 replace hst := hst.of1
 refine wv (r1_0) ((wanted_eq z z z (cvb hc2649)).trans z) z z (wv (.int .i64 z2370) ((wanted_eq z z z (cvb hc2649)).trans z) z z (wv (.int .i64 z2619) ((wanted_eq z z z (cvb hc2649)).trans z) z z ?_))
 obtain ⟨t2655, ht2656, hm⟩ := bind_some hm
 refine wl_call ((wanted_eq z z z (cvb hc2649)).trans z) z (x_call call33 z (vs := [r1_0, I6 z2370, I6 z2619]) z) ?_
 refine (ref03_Join_ref (f1_0.mono (rd_weak _)) hst.to0 ht2656).mono ?_
 rintro _ w2657 ⟨rfl, hst⟩
 refine ⟨_, z, ?_⟩
 replace hst := hst.of0
 refine wv (.bool (t2650 != t2655)) ((wanted_eq z z z (cvb hc2649)).trans z) z z (wv (.bool (t2650 != t2655)) ((wanted_eq z z z (cvb hc2649)).trans z) z z ?_)
 refine bsplit (t2650 != t2655) (fun hc2660 => ?_) (fun hc2660 => ?_)
 {
 replace hm := bif_t hc2660 hm
 refine wo hc2660 z z z z z z (wo hc2660 z z z z z z (wo hc2660 z z z z z z (wo hc2660 z z z z z z (wo hc2660 z z z z z z (wo hc2660 z z z z z z (wo hc2660 z z z z z z (wo hc2660 z z z z z z (wo hc2660 z z z z z z (wv (.bool true) ((wanted_eq z z z (cvb hc2649)).trans z) z (x_pick_t hc2660 z z) (wv (.bool true) ((wanted_eq z z z (cvb hc2648)).trans z) z (x_pick_t hc2649 z z) (wv (.bool true) z z (x_pick_f hc2648 z z) (wv (.bool true) z z z ?_))))))))))))
 refine wz z z z z z z (wz z z z z z z (wz z z z z z z (wl_off (wanted_undef z z z z) z (wl_off (wanted_undef z z z z) z (wl_off (wanted_undef z z z z) z (wl_off (wanted_undef z z z z) z (wl_off (wanted_undef z z z z) z (wl_off (wanted_undef z z z z) z (wl_off (wanted_undef z z z z) z (wl_off (wanted_undef z z z z) z (wl_off (wanted_undef z z z z) z (wl_off (wanted_undef z z z z) z ?_))))))))))))
 refine wl_off (wanted_undef z z z z) z (wl_off (wanted_undef z z z z) z (wz z z z z z z (wv (.bool true) z z (x_pick_t z z z) (wl_nil (tn ?_)))))
 refine wp_ift z ?_
 refine wp_seq (wrl (wv (.bool false) z z z (wl_nil (tn (wp_ret (then_r ?_))))))
 replace hm := inr_up hm hx2687
 refine blk_r (then_r (then_r ?_))
 replace hm := inr_up hm hx2626
 refine blk_r (then_r ?_)
 replace hm := inr_up hm hx2711
 refine blk_r (then_r (then_r ?_))
 replace hm := inr_up hm hx2377
 refine blk_r (then_r ?_)
 obtain rfl := some_inj hm
 refine post_ret (vs := [.bool false]) results20 (rvs_cons (rv_tmp z) rvs_nil) ?_
 exact ⟨z, hst.keep1⟩
}
 {
 replace hm := bif_f hc2660 hm
 refine wv (p0) ((wanted_eq z z z (cvb hc2660)).trans z) z z (wv (.int .i64 z2370) ((wanted_eq z z z (cvb hc2660)).trans z) z z (wv (.int .i64 z2619) ((wanted_eq z z z (cvb hc2660)).trans z) z z ?_))
 obtain ⟨t2661, ht2662, hm⟩ := bind_some hm
 refine wl_call ((wanted_eq z z z (cvb hc2660)).trans z) z (x_call call14 z (vs := [p0, I6 z2370, I6 z2619]) z) ?_
 refine (label_Lattice_Meet_ref hst.to1 ht2662).mono ?_
 rintro _ w2663 ⟨rfl, hst⟩
 refine ⟨_, z, ?_⟩
 replace hst := hst.of1
 refine wv (r1_0) ((wanted_eq z z z (cvb hc2660)).trans z) z z (wv (.int .i64 z2370) ((wanted_eq z z z (cvb hc2660)).trans z) z z (wv (.int .i64 z2619) ((wanted_eq z z z (cvb hc2660)).trans z) z z ?_))
 obtain ⟨t2666, ht2667, hm⟩ := bind_some hm
 refine wl_call ((wanted_eq z z z (cvb hc2660)).trans z) z (x_call call34 z (vs := [r1_0, I6 z2370, I6 z2619]) z) ?_
 refine (ref03_Meet_ref (f1_0.mono (rd_weak _)) hst.to0 ht2667).mono ?_
 rintro _ w2668 ⟨rfl, hst⟩
 refine ⟨_, z, ?_⟩
 replace hst := hst.of0
 refine wv (.bool (t2661 != t2666)) ((wanted_eq z z z (cvb hc2660)).trans z) z z (wv (.bool (t2661 != t2666)) ((wanted_eq z z z (cvb hc2649)).trans z) z (x_pick_f hc2660 z z) (wv (.bool (t2661 != t2666)) ((wanted_eq z z z (cvb hc2648)).trans z) z (x_pick_t hc2649 z z) (wv (.bool (t2661 != t2666)) z z (x_pick_f hc2648 z z) (wv (.bool (t2661 != t2666)) z z z ?_))))
 refine bsplit (t2661 != t2666) (fun hc2671 => ?_) (fun hc2671 => ?_)
 {
 replace hm := bif_t hc2671 hm
 refine wo hc2671 z z z z z z (wo hc2671 z z z z z z (wo hc2671 z z z z z z (wl_off (wanted_undef z z z z) z (wl_off (wanted_undef z z z z) z (wl_off (wanted_undef z z z z) z (wl_off (wanted_undef z z z z) z (wl_off (wanted_undef z z z z) z (wl_off (wanted_undef z z z z) z (wl_off (wanted_undef z z z z) z (wl_off (wanted_undef z z z z) z (wl_off (wanted_undef z z z z) z (wl_off (wanted_undef z z z z) z ?_))))))))))))
 refine wl_off (wanted_undef z z z z) z (wl_off (wanted_undef z z z z) z (wo hc2671 z z z z z z (wv (.bool true) z z (x_pick_t hc2671 z z) (wl_nil (tn ?_)))))
 refine wp_ift z ?_
 refine wp_seq (wrl (wv (.bool false) z z z (wl_nil (tn (wp_ret (then_r ?_))))))
 replace hm := inr_up hm hx2687
 refine blk_r (then_r (then_r ?_))
 replace hm := inr_up hm hx2626
 refine blk_r (then_r ?_)
 replace hm := inr_up hm hx2711
 refine blk_r (then_r (then_r ?_))
 replace hm := inr_up hm hx2377
 refine blk_r (then_r ?_)
 obtain rfl := some_inj hm
 refine post_ret (vs := [.bool false]) results20 (rvs_cons (rv_tmp z) rvs_nil) ?_
 exact ⟨z, hst.keep1⟩
}
 {
 replace hm := bif_f hc2671 hm
 refine wv (.bool z2632) ((wanted_eq z z z (cvb hc2671)).trans z) z z (wv (.bool (!z2632)) ((wanted_eq z z z (cvb hc2671)).trans z) z z (wv (.bool (!z2632)) ((wanted_eq z z z (cvb hc2671)).trans z) z z (wl_off ((wanted_eq z z z (cvb (not_f hc2649))).trans z) z (wl_off ((wanted_eq z z z (cvb (not_f hc2649))).trans z) z (wl_off ((wanted_eq z z z (cvb (not_f hc2649))).trans z) z (wl_off ((wanted_eq z z z (cvb (not_f hc2649))).trans z) z (wl_off ((wanted_eq z z z (cvb (not_f hc2649))).trans z) z (wl_off ((wanted_eq z z z (cvb (not_f hc2649))).trans z) z (wl_off (wanted_undef z z z z) z (wl_off (wanted_undef z z z z) z (wl_off (wanted_undef z z z z) z (wl_off (wanted_undef z z z z) z ?_))))))))))))
 refine wl_off (wanted_undef z z z z) z (wl_off ((wanted_eq z z z (cvb (not_f hc2649))).trans z) z (wv (.bool false) ((wanted_eq z z z (cvb hc2671)).trans z) z (x_pick_f (not_f hc2649) z z) (wv (.bool false) z z (x_pick_f hc2671 z z) (wl_nil (tn ?_)))))
 refine wp_iff z ?_
 refine wp_skip (tn ?_)
 replace hst := hst.pull1.pull1.keep2
 obtain rfl := some_inj hm
 exact ⟨_, hx2687, (fu 0 p0 z (fu 1 r1_0 z (fu 5 (.int .i64 ((a1).length : Int)) z (fu 9 (.int .i64 z2370) z (fu 10 v2617 z (fu 11 (.int .i64 z2619) z z)))))), hst⟩
}
}
}
 {
 replace hm := bif_f hc2649 hm
 refine wo hc2649 z z z z z z (wo hc2649 z z z z z z (wo hc2649 z z z z z z (wo hc2649 z z z z z z (wo hc2649 z z z z z z (wo hc2649 z z z z z z (wo hc2649 z z z z z z (wo hc2649 z z z z z z (wo hc2649 z z z z z z (wo hc2649 z z z z z z (wl_off (wanted_undef z z z z) z (wl_off (wanted_undef z z z z) z (wl_off (wanted_undef z z z z) z ?_))))))))))))
 refine wl_off (wanted_undef z z z z) z (wl_off (wanted_undef z z z z) z (wl_off (wanted_undef z z z z) z (wl_off (wanted_undef z z z z) z (wl_off (wanted_undef z z z z) z (wl_off (wanted_undef z z z z) z (wo hc2649 z z z z z z (wv (.bool false) ((wanted_eq z z z (cvb hc2648)).trans z) z (x_pick_f hc2649 z z) (wv (.bool false) z z (x_pick_f hc2648 z z) (wv (.bool false) z z z (wv (.bool z2632) ((wanted_eq z z z z).trans z) z z (wv (.bool (!z2632)) ((wanted_eq z z z z).trans z) z z (wv (.bool (!z2632)) ((wanted_eq z z z z).trans z) z z ?_))))))))))))
 refine wv (p0) ((wanted_eq z z z (cvb (not_tt hc2649))).trans z) z z (wv (.int .i64 z2370) ((wanted_eq z z z (cvb (not_tt hc2649))).trans z) z z (wv (.int .i64 z2619) ((wanted_eq z z z (cvb (not_tt hc2649))).trans z) z z ?_))
 obtain ⟨t2672, ht2673, hm⟩ := bind_some hm
 refine wl_call ((wanted_eq z z z (cvb (not_tt hc2649))).trans z) z (x_call call13 z (vs := [p0, I6 z2370, I6 z2619]) z) ?_
 refine (label_Lattice_Join_ref hst.to1 ht2673).mono ?_
 rintro _ w2674 ⟨rfl, hst⟩
 refine ⟨_, z, ?_⟩
 replace hst := hst.of1
 refine wv (.bool (t2672 != ((-1):Int))) ((wanted_eq z z z (cvb (not_tt hc2649))).trans z) z z (wv (.bool (t2672 != ((-1):Int))) ((wanted_eq z z z (cvb (not_tt hc2649))).trans z) z z ?_)
 refine bsplit (t2672 != ((-1):Int)) (fun hc2677 => ?_) (fun hc2677 => ?_)
 {
 replace hm := bif_t hc2677 hm
 refine wo hc2677 z z z z z z (wo hc2677 z z z z z z (wo hc2677 z z z z z z (wo hc2677 z z z z z z (wo hc2677 z z z z z z (wv (.bool true) ((wanted_eq z z z (cvb (not_tt hc2649))).trans z) z (x_pick_t hc2677 z z) (wv (.bool true) ((wanted_eq z z z z).trans z) z (x_pick_t (not_tt hc2649) z z) (wv (.bool true) z z (x_pick_f z z z) (wl_nil (tn ?_)))))))))
 refine wp_ift z ?_
 refine wp_seq (wrl (wv (.bool false) z z z (wl_nil (tn (wp_ret (then_r ?_))))))
 replace hm := inr_up hm hx2687
 refine blk_r (then_r (then_r ?_))
 replace hm := inr_up hm hx2626
 refine blk_r (then_r ?_)
 replace hm := inr_up hm hx2711
 refine blk_r (then_r (then_r ?_))
 replace hm := inr_up hm hx2377
 refine blk_r (then_r ?_)
 obtain rfl := some_inj hm
 refine post_ret (vs := [.bool false]) results20 (rvs_cons (rv_tmp z) rvs_nil) ?_
 exact ⟨z, hst.keep1⟩
}
 {
 replace hm := bif_f hc2677 hm
 refine wv (p0) ((wanted_eq z z z (cvb hc2677)).trans z) z z (wv (.int .i64 z2370) ((wanted_eq z z z (cvb hc2677)).trans z) z z (wv (.int .i64 z2619) ((wanted_eq z z z (cvb hc2677)).trans z) z z ?_))
 obtain ⟨t2678, ht2679, hm⟩ := bind_some hm
 refine wl_call ((wanted_eq z z z (cvb hc2677)).trans z) z (x_call call14 z (vs := [p0, I6 z2370, I6 z2619]) z) ?_
 refine (label_Lattice_Meet_ref hst.to1 ht2679).mono ?_
 rintro _ w2680 ⟨rfl, hst⟩
 refine ⟨_, z, ?_⟩
 replace hst := hst.of1
 refine wv (.bool (t2678 != ((-1):Int))) ((wanted_eq z z z (cvb hc2677)).trans z) z z (wv (.bool (t2678 != ((-1):Int))) ((wanted_eq z z z (cvb (not_tt hc2649))).trans z) z (x_pick_f hc2677 z z) (wv (.bool (t2678 != ((-1):Int))) ((wanted_eq z z z z).trans z) z (x_pick_t (not_tt hc2649) z z) (wv (.bool (t2678 != ((-1):Int))) z z (x_pick_f z z z) (wl_nil (tn ?_)))))
 refine bsplit (t2678 != ((-1):Int)) (fun hc2683 => ?_) (fun hc2683 => ?_)
 {
 replace hm := bif_t hc2683 hm
 refine wp_ift (cvb hc2683) ?_
 refine wp_seq (wrl (wv (.bool false) z z z (wl_nil (tn (wp_ret (then_r ?_))))))
 replace hm := inr_up hm hx2687
 refine blk_r (then_r (then_r ?_))
 replace hm := inr_up hm hx2626
 refine blk_r (then_r ?_)
 replace hm := inr_up hm hx2711
 refine blk_r (then_r (then_r ?_))
 replace hm := inr_up hm hx2377
 refine blk_r (then_r ?_)
 obtain rfl := some_inj hm
 refine post_ret (vs := [.bool false]) results20 (rvs_cons (rv_tmp z) rvs_nil) ?_
 exact ⟨z, hst.keep1⟩
}
 {
 replace hm := bif_f hc2683 hm
 refine wp_iff (cvb hc2683) ?_
 refine wp_skip (tn ?_)
 replace hst := hst.pull1.pull1.keep2
 obtain rfl := some_inj hm
 exact ⟨_, hx2687, (fu 0 p0 z (fu 1 r1_0 z (fu 5 (.int .i64 ((a1).length : Int)) z (fu 9 (.int .i64 z2370) z (fu 10 v2617 z (fu 11 (.int .i64 z2619) z z)))))), hst⟩
}
}
}
}
}
 {
 clear hst
 rintro _ w2688 ⟨σ2684, hm, rfl, hst⟩
 dsimp only [law03_told_j6] at hm
 refine wp_seq (wrl (wv (r1_0) z z z (wv (.int .i64 z2619) z z z (wv (.int .i64 z2370) z z z ?_))))
 obtain ⟨t2689, ht2690, hm⟩ := bind_some hm
 refine wc call32 [r1_0, I6 z2619, I6 z2370] z z z ?_
 refine (ref03_Leq_ref (f1_0.mono (rd_weak _)) hst.to0 ht2690).mono ?_
 rintro _ w2691 ⟨rfl, hst⟩
 refine ⟨_, z, ?_⟩
 replace hst := hst.of0
 refine wl_nil (tn ?_)
 refine bsplit t2689 (fun hc2694 => ?_) (fun hc2694 => ?_)
 {
 replace hm := bif_t hc2694 hm
 refine wp_ift (cvb hc2694) ?_
 refine wrl (wv (v2617) z z z (wv (.int .i64 z2619) z z z ?_))
 obtain ⟨b2695, w2696, ew2697, eb2698, hst⟩ := hst.lits (E := (tyInt .i64)) (xs := [z2619]) [[I6 z2619]] 3 1 z (Reps.cons z Reps.nil)
 refine wl_run (v := (.slice (some ⟨b2695, 0, none⟩) 1 1)) (w' := w2696) z z (x_als (by kernel_rfl) ew2697 eb2698) ?_
 obtain ⟨hg2700, hm⟩ := gd_some hm
 replace hst := hst.pull2
 obtain ⟨v2701, w2702, hr2703, hst⟩ := run_append elem_41 underlying41 hst hst.src1 (room_of hg2700 z) 41
 refine wl_run (v := v2701) (w' := w2702) z z (x_append z z hr2703) ?_
 refine wv (v2701) z z z (wl_nil (blk_n (tn (wrl (wv (.int .i64 z2619) z z z (wv (.int .i64 (i64.wrap (z2619 + (1:Int)))) z z z (wv (.int .i64 (i64.wrap (z2619 + (1:Int)))) z z z (wl_nil (tn ?_)))))))))
 replace hst := hst.pull2.pull1.keep2
 obtain rfl := some_inj hm
 exact ⟨_, Nat.lt_succ_self _, (z2616 ++ ([z2619])), (i64.wrap (z2619 + (1:Int))), v2701, _, hx2626, (fu 0 p0 z (fu 1 r1_0 z (fu 5 (.int .i64 ((a1).length : Int)) z (fu 9 (.int .i64 z2370) z (fu 10 v2701 z (fu 11 (.int .i64 (i64.wrap (z2619 + (1:Int)))) z z)))))), hst⟩
}
 {
 replace hm := bif_f hc2694 hm
 refine wp_iff (cvb hc2694) ?_
 refine wp_skip (blk_n (tn (wrl ?_)))
 refine wv (.int .i64 z2619) z z z (wv (.int .i64 (i64.wrap (z2619 + (1:Int)))) z z z (wv (.int .i64 (i64.wrap (z2619 + (1:Int)))) z z z (wl_nil (tn ?_))))
 replace hst := hst.pull1.keep2
 obtain rfl := some_inj hm
 exact ⟨_, Nat.lt_succ_self _, z2616, (i64.wrap (z2619 + (1:Int))), v2617, _, hx2626, (fu 0 p0 z (fu 1 r1_0 z (fu 5 (.int .i64 ((a1).length : Int)) z (fu 9 (.int .i64 z2370) z (fu 10 v2617 z (fu 11 (.int .i64 (i64.wrap (z2619 + (1:Int)))) z z)))))), hst⟩
}
}
}
}
 {
 replace hm := bif_f hc2628 hm
 refine wp_iff (cvb hc2628) ?_
 refine wp_exit (then_x (then_x ?_))
 replace hm := inr_up hm hx2626
 refine blk_x (tn ?_)
 replace hst := hst.pull1.keep2
 obtain rfl := some_inj hm
 exact ⟨z2616, v2617, _, hx2711, (fu 0 p0 z (fu 1 r1_0 z (fu 5 (.int .i64 ((a1).length : Int)) z (fu 9 (.int .i64 z2370) z (fu 10 v2617 z z))))), hst⟩
}
}
 {
 clear hst
 rintro _ w2712 ⟨z2707, v2706, σ2708, hm, rfl, hst⟩
 dsimp only [law03_told_j3] at hm
 refine wp_seq (wrl (wv (p0) z z z (wv (.int .i64 z2370) z z z ?_)))
 obtain ⟨t2713, ht2714, hm⟩ := bind_some hm
 refine wc call24 [p0, I6 z2370] z z z ?_
 refine (label_Lattice_Below_ref hst.to1 ht2714).mono ?_
 rintro _ w2715 ⟨v2718, rfl, hst⟩
 refine ⟨_, z, ?_⟩
 replace hst := hst.of2
 refine wv (v2718) z z z (wl_nil (tn ?_))
 obtain ⟨y2755, hm, hx2756⟩ := joinO_some hm
 refine wp_cut (fun a w => ∃ (σ2753 : Nat → Value), (law03_told_j7 t2713 z2707 z2370) () = some y2376 ∧ a = Fr 205 (upd (upd (upd (upd (upd (upd σ2753 0 (p0)) 1 (r1_0)) 5 (.int .i64 ((a1).length : Int))) 9 (.int .i64 z2370)) 10 (v2706)) 13 (v2718)) ∧ St w0 w I [objO at_label_Lattice p0 a0, ownS (tyInt .i64) v2706 z2707, ownS (tyInt .i64) v2718 t2713] R) ?_ ?_
 {
 refine wp_seq (wrl (wv (v2718) z z z (wv (.int .i64 ((t2713).length : Int)) z z (x_len z underlying41 hst.sv0) (wv (v2706) z z z (wv (.int .i64 ((z2707).length : Int)) z z (x_len z underlying41 hst.sv2) (wv (.bool (((t2713).length : Int) != ((z2707).length : Int))) z z z (wv (.bool (((t2713).length : Int) != ((z2707).length : Int))) z z z ?_)))))))
 refine bsplit (((t2713).length : Int) != ((z2707).length : Int)) (fun hc2720 => ?_) (fun hc2720 => ?_)
 {
 replace hm := bif_t hc2720 hm
 refine wo hc2720 z z z z z z (wo hc2720 z z z z z z (wo hc2720 z z z z z z (wo hc2720 z z z z z z (wo hc2720 z z z z z z (wo hc2720 z z z z z z (wl_off (wanted_undef z z z z) z (wl_off (wanted_undef z z z z) z (wl_off (wanted_undef z z z z) z (wo hc2720 z z z z z z (wo hc2720 z z z z z z (wv (.bool true) z z (x_pick_t hc2720 z z) (wv (.bool true) z z z ?_))))))))))))
 refine wz z z z z z z (wz z z z z z z (wz z z z z z z (wz z z z z z z (wz z z z z z z (wl_off (wanted_undef z z z z) z (wl_off (wanted_undef z z z z) z (wl_off (wanted_undef z z z z) z (wl_off (wanted_undef z z z z) z (wz z z z z z z (wv (.bool true) z z (x_pick_t z z z) (wl_nil (tn ?_))))))))))))
 refine wp_ift z ?_
 refine wp_seq (wrl (wv (.bool false) z z z (wl_nil (tn (wp_ret (then_r ?_))))))
 replace hm := inr_up hm hx2756
 refine blk_r (then_r (then_r ?_))
 replace hm := inr_up hm hx2377
 refine blk_r (then_r ?_)
 obtain rfl := some_inj hm
 refine post_ret (vs := [.bool false]) results20 (rvs_cons (rv_tmp z) rvs_nil) ?_
 replace hst := hst.pull1
 exact ⟨z, hst.keep1⟩
}
 {
 replace hm := bif_f hc2720 hm
 refine wv (p0) ((wanted_eq z z z (cvb hc2720)).trans z) z z (wv (.int .i64 z2370) ((wanted_eq z z z (cvb hc2720)).trans z) z z ?_)
 replace hst := hst.pull1
 obtain ⟨t2721, ht2722, hm⟩ := bind_some hm
 refine wl_call ((wanted_eq z z z (cvb hc2720)).trans z) z (x_call call23 z (vs := [p0, I6 z2370]) z) ?_
 refine (label_Lattice_Is_ref hst.to1 ht2722).mono ?_
 rintro _ w2723 ⟨rfl, hst⟩
 refine ⟨_, z, ?_⟩
 replace hst := hst.of1
 refine wv (.int .i64 z2370) ((wanted_eq z z z (cvb hc2720)).trans z) z z (wv (.bool (decide (z2370 ≥ (0:Int)))) ((wanted_eq z z z (cvb hc2720)).trans z) z z (wv (.bool (decide (z2370 ≥ (0:Int)))) ((wanted_eq z z z (cvb hc2720)).trans z) z z ?_))
 refine bsplit (decide (z2370 ≥ (0:Int))) (fun hc2726 => ?_) (fun hc2726 => ?_)
 {
 replace hm := bif_t hc2726 hm
 refine wv (.int .i64 z2370) ((wanted_eq z z z (cvb hc2726)).trans z) z z (wv (.int .i64 ((a1).length : Int)) ((wanted_eq z z z (cvb hc2726)).trans z) z z (wv (.bool (decide (z2370 < ((a1).length : Int)))) ((wanted_eq z z z (cvb hc2726)).trans z) z z (wv (.bool (decide (z2370 < ((a1).length : Int)))) ((wanted_eq z z z (cvb hc2720)).trans z) z (x_pick_t hc2726 z z) (wv (.bool (!(t2721 == (decide (z2370 < ((a1).length : Int)))))) ((wanted_eq z z z (cvb hc2720)).trans z) z (by kernel_rfl) (wv (.bool (!(t2721 == (decide (z2370 < ((a1).length : Int)))))) z z (x_pick_f hc2720 z z) (wv (.bool (!(t2721 == (decide (z2370 < ((a1).length : Int)))))) z z z ?_))))))
 refine bsplit (!(t2721 == (decide (z2370 < ((a1).length : Int))))) (fun hc2727 => ?_) (fun hc2727 => ?_)
 {
 replace hm := bif_t hc2727 hm
 refine wo hc2727 z z z z z z (wo hc2727 z z z z z z (wo hc2727 z z z z z z (wo hc2727 z z z z z z (wo hc2727 z z z z z z (wl_off (wanted_undef z z z z) z (wl_off (wanted_undef z z z z) z (wl_off (wanted_undef z z z z) z (wl_off (wanted_undef z z z z) z (wo hc2727 z z z z z z (wv (.bool true) z z (x_pick_t hc2727 z z) (wl_nil (tn ?_))))))))))))
 refine wp_ift z ?_
 refine wp_seq (wrl (wv (.bool false) z z z (wl_nil (tn (wp_ret (then_r ?_))))))
 replace hm := inr_up hm hx2756
 refine blk_r (then_r (then_r ?_))
 replace hm := inr_up hm hx2377
 refine blk_r (then_r ?_)
 obtain rfl := some_inj hm
 refine post_ret (vs := [.bool false]) results20 (rvs_cons (rv_tmp z) rvs_nil) ?_
 exact ⟨z, hst.keep1⟩
}
 {
 replace hm := bif_f hc2727 hm
 refine wv (p0) ((wanted_eq z z z (cvb hc2727)).trans z) z z (wv (.int .i64 z2370) ((wanted_eq z z z (cvb hc2727)).trans z) z z ?_)
 obtain ⟨t2728, ht2729, hm⟩ := bind_some hm
 refine wl_call ((wanted_eq z z z (cvb hc2727)).trans z) z (x_call call23 z (vs := [p0, I6 z2370]) z) ?_
 refine (label_Lattice_Is_ref hst.to1 ht2729).mono ?_
 rintro _ w2730 ⟨rfl, hst⟩
 refine ⟨_, z, ?_⟩
 replace hst := hst.of1
 refine wv (.bool (!t2728)) ((wanted_eq z z z (cvb hc2727)).trans z) z z (wv (.bool (!t2728)) ((wanted_eq z z z (cvb hc2727)).trans z) z z ?_)
 refine bsplit (!t2728) (fun hc2733 => ?_) (fun hc2733 => ?_)
 {
 replace hm := bif_t hc2733 hm
 refine wv (p0) ((wanted_eq z z z (cvb hc2733)).trans z) z z (wv (.int .i64 z2370) ((wanted_eq z z z (cvb hc2733)).trans z) z z ?_)
 obtain ⟨t2734, ht2735, hm⟩ := bind_some hm
 refine wl_call ((wanted_eq z z z (cvb hc2733)).trans z) z (x_call call18 z (vs := [p0, I6 z2370]) z) ?_
 refine (label_Lattice_Rank_ref hst.to1 ht2735).mono ?_
 rintro _ w2736 ⟨rfl, hst⟩
 refine ⟨_, z, ?_⟩
 replace hst := hst.of1
 refine wv (.bool (t2734 != ((-1):Int))) ((wanted_eq z z z (cvb hc2733)).trans z) z z (wv (.bool (t2734 != ((-1):Int))) ((wanted_eq z z z (cvb hc2727)).trans z) z (x_pick_t hc2733 z z) (wv (.bool (t2734 != ((-1):Int))) z z (x_pick_f hc2727 z z) (wl_nil (tn ?_))))
 refine bsplit (t2734 != ((-1):Int)) (fun hc2739 => ?_) (fun hc2739 => ?_)
 {
 replace hm := bif_t hc2739 hm
 refine wp_ift (cvb hc2739) ?_
 refine wp_seq (wrl (wv (.bool false) z z z (wl_nil (tn (wp_ret (then_r ?_))))))
 replace hm := inr_up hm hx2756
 refine blk_r (then_r (then_r ?_))
 replace hm := inr_up hm hx2377
 refine blk_r (then_r ?_)
 obtain rfl := some_inj hm
 refine post_ret (vs := [.bool false]) results20 (rvs_cons (rv_tmp z) rvs_nil) ?_
 exact ⟨z, hst.keep1⟩
}
 {
 replace hm := bif_f hc2739 hm
 refine wp_iff (cvb hc2739) ?_
 refine wp_skip (tn ?_)
 replace hst := hst.pull1.pull2.pull2.keep3
 obtain rfl := some_inj hm
 exact ⟨_, hx2756, (fu 0 p0 z (fu 1 r1_0 z (fu 5 (.int .i64 ((a1).length : Int)) z (fu 9 (.int .i64 z2370) z (fu 10 v2706 z (fu 13 v2718 z z)))))), hst⟩
}
}
 {
 replace hm := bif_f hc2733 hm
 refine wo hc2733 z z z z z z (wo hc2733 z z z z z z (wo hc2733 z z z z z z (wo hc2733 z z z z z z (wv (.bool false) ((wanted_eq z z z (cvb hc2727)).trans z) z (x_pick_f hc2733 z z) (wv (.bool false) z z (x_pick_f hc2727 z z) (wl_nil (tn ?_)))))))
 refine wp_iff z ?_
 refine wp_skip (tn ?_)
 replace hst := hst.pull1.pull2.pull2.keep3
 obtain rfl := some_inj hm
 exact ⟨_, hx2756, (fu 0 p0 z (fu 1 r1_0 z (fu 5 (.int .i64 ((a1).length : Int)) z (fu 9 (.int .i64 z2370) z (fu 10 v2706 z (fu 13 v2718 z z)))))), hst⟩
}
}
}
 {
 replace hm := bif_f hc2726 hm
 refine wo hc2726 z z z z z z (wo hc2726 z z z z z z (wo hc2726 z z z z z z (wv (.bool false) ((wanted_eq z z z (cvb hc2720)).trans z) z (x_pick_f hc2726 z z) (wv (.bool (!(t2721 == false))) ((wanted_eq z z z (cvb hc2720)).trans z) z (by kernel_rfl) (wv (.bool (!(t2721 == false))) z z (x_pick_f hc2720 z z) (wv (.bool (!(t2721 == false))) z z z ?_))))))
 refine bsplit (!(t2721 == false)) (fun hc2740 => ?_) (fun hc2740 => ?_)
 {
 replace hm := bif_t hc2740 hm
 refine wo hc2740 z z z z z z (wo hc2740 z z z z z z (wo hc2740 z z z z z z (wo hc2740 z z z z z z (wo hc2740 z z z z z z (wl_off (wanted_undef z z z z) z (wl_off (wanted_undef z z z z) z (wl_off (wanted_undef z z z z) z (wl_off (wanted_undef z z z z) z (wo hc2740 z z z z z z (wv (.bool true) z z (x_pick_t hc2740 z z) (wl_nil (tn ?_))))))))))))
 refine wp_ift z ?_
 refine wp_seq (wrl (wv (.bool false) z z z (wl_nil (tn (wp_ret (then_r ?_))))))
 replace hm := inr_up hm hx2756
 refine blk_r (then_r (then_r ?_))
 replace hm := inr_up hm hx2377
 refine blk_r (then_r ?_)
 obtain rfl := some_inj hm
 refine post_ret (vs := [.bool false]) results20 (rvs_cons (rv_tmp z) rvs_nil) ?_
 exact ⟨z, hst.keep1⟩
}
 {
 replace hm := bif_f hc2740 hm
 refine wv (p0) ((wanted_eq z z z (cvb hc2740)).trans z) z z (wv (.int .i64 z2370) ((wanted_eq z z z (cvb hc2740)).trans z) z z ?_)
 obtain ⟨t2741, ht2742, hm⟩ := bind_some hm
 refine wl_call ((wanted_eq z z z (cvb hc2740)).trans z) z (x_call call23 z (vs := [p0, I6 z2370]) z) ?_
 refine (label_Lattice_Is_ref hst.to1 ht2742).mono ?_
 rintro _ w2743 ⟨rfl, hst⟩
 refine ⟨_, z, ?_⟩
 replace hst := hst.of1
 refine wv (.bool (!t2741)) ((wanted_eq z z z (cvb hc2740)).trans z) z z (wv (.bool (!t2741)) ((wanted_eq z z z (cvb hc2740)).trans z) z z ?_)
 refine bsplit (!t2741) (fun hc2746 => ?_) (fun hc2746 => ?_)
 {
 replace hm := bif_t hc2746 hm
 refine wv (p0) ((wanted_eq z z z (cvb hc2746)).trans z) z z (wv (.int .i64 z2370) ((wanted_eq z z z (cvb hc2746)).trans z) z z ?_)
 obtain ⟨t2747, ht2748, hm⟩ := bind_some hm
 refine wl_call ((wanted_eq z z z (cvb hc2746)).trans z) z (x_call call18 z (vs := [p0, I6 z2370]) z) ?_
 refine (label_Lattice_Rank_ref hst.to1 ht2748).mono ?_
 rintro _ w2749 ⟨rfl, hst⟩
 refine ⟨_, z, ?_⟩
 replace hst := hst.of1
 refine wv (.bool (t2747 != ((-1):Int))) ((wanted_eq z z z (cvb hc2746)).trans z) z z (wv (.bool (t2747 != ((-1):Int))) ((wanted_eq z z z (cvb hc2740)).trans z) z (x_pick_t hc2746 z z) (wv (.bool (t2747 != ((-1):Int))) z z (x_pick_f hc2740 z z) (wl_nil (tn ?_))))
 refine bsplit (t2747 != ((-1):Int)) (fun hc2752 => ?_) (fun hc2752 => ?_)
 {
 replace hm := bif_t hc2752 hm
 refine wp_ift (cvb hc2752) ?_
 refine wp_seq (wrl (wv (.bool false) z z z (wl_nil (tn (wp_ret (then_r ?_))))))
 replace hm := inr_up hm hx2756
 refine blk_r (then_r (then_r ?_))
 replace hm := inr_up hm hx2377
 refine blk_r (then_r ?_)
 obtain rfl := some_inj hm
 refine post_ret (vs := [.bool false]) results20 (rvs_cons (rv_tmp z) rvs_nil) ?_
 exact ⟨z, hst.keep1⟩
}
 {
 replace hm := bif_f hc2752 hm
 refine wp_iff (cvb hc2752) ?_
 refine wp_skip (tn ?_)
 replace hst := hst.pull1.pull2.pull2.keep3
 obtain rfl := some_inj hm
 exact ⟨_, hx2756, (fu 0 p0 z (fu 1 r1_0 z (fu 5 (.int .i64 ((a1).length : Int)) z (fu 9 (.int .i64 z2370) z (fu 10 v2706 z (fu 13 v2718 z z)))))), hst⟩
}
}
 {
 replace hm := bif_f hc2746 hm
 refine wo hc2746 z z z z z z (wo hc2746 z z z z z z (wo hc2746 z z z z z z (wo hc2746 z z z z z z (wv (.bool false) ((wanted_eq z z z (cvb hc2740)).trans z) z (x_pick_f hc2746 z z) (wv (.bool false) z z (x_pick_f hc2740 z z) (wl_nil (tn ?_)))))))
 refine wp_iff z ?_
 refine wp_skip (tn ?_)
 replace hst := hst.pull1.pull2.pull2.keep3
 obtain rfl := some_inj hm
 exact ⟨_, hx2756, (fu 0 p0 z (fu 1 r1_0 z (fu 5 (.int .i64 ((a1).length : Int)) z (fu 9 (.int .i64 z2370) z (fu 10 v2706 z (fu 13 v2718 z z)))))), hst⟩
}
}
}
}
}
 {
 clear hst
 rintro _ w2757 ⟨σ2753, hm, rfl, hst⟩
 dsimp only [law03_told_j7] at hm
 refine wp_seq (wrl (wv (.int .i64 (0:Int)) z z z (wl_nil (tn (wp_block ?_)))))
 obtain ⟨n2785, hm⟩ := loopO_some hm
 refine wp_loop_n (fun n a w => ∃ (z2783 : Int) (σ2784 : Nat → Value), loopN (law03_told_l8 t2713 z2707 z2370) n z2783 = some y2376 ∧ a = Fr 205 (upd (upd (upd (upd (upd (upd (upd σ2784 0 (p0)) 1 (r1_0)) 5 (.int .i64 ((a1).length : Int))) 9 (.int .i64 z2370)) 10 (v2706)) 13 (v2718)) 14 (.int .i64 z2783)) ∧ St w0 w I [objO at_label_Lattice p0 a0, ownS (tyInt .i64) v2706 z2707, ownS (tyInt .i64) v2718 t2713] R) n2785 ⟨(0:Int), _, hm, (fu 0 p0 z (fu 1 r1_0 z (fu 5 (.int .i64 ((a1).length : Int)) z (fu 9 (.int .i64 z2370) z (fu 10 v2706 z (fu 13 v2718 z (fu 14 (.int .i64 (0:Int)) z z))))))), hst⟩ ?_
 rintro n2791 _ w2786 ⟨z2783, σ2784, hm, rfl, hst⟩
 obtain ⟨n2788, y2789, rfl, hm, hx2790⟩ := loopN_some hm
 dsimp only [law03_told_l8] at hm
 refine wp_seq (wp_seq (wrl (wv (.int .i64 z2783) z z z (wv (v2718) z z z (wv (.int .i64 ((t2713).length : Int)) z z (x_len z underlying41 hst.sv2) (wv (.bool (decide (z2783 < ((t2713).length : Int)))) z z z (wl_nil (tn ?_))))))))
 refine bsplit (decide (z2783 < ((t2713).length : Int))) (fun hc2792 => ?_) (fun hc2792 => ?_)
 {
 replace hm := bif_t hc2792 hm
 refine wp_ift (cvb hc2792) ?_
 refine wp_skip (tn (wp_seq (wp_block (wp_seq ?_))))
 refine wq_regionS hst Try.mixed (by kernel_rfl) ?_
 refine wq_run (v := v2718) z z (fun w hst => z) ?_
 refine wq_run (v := .int .i64 z2783) z z (fun w hst => z) ?_
 obtain ⟨x2793, hx2794, hm⟩ := bind_some hm
 obtain ⟨h2795, h2796, hi2797⟩ := geto_some hx2794
 refine wq_run (v := .pointer (some (eAddr v2718 (z2783.toNat * 1 + 0)))) z z (fun w hst => x_index z z underlying41 sizeOf3 hst.sv2 h2795 h2796) ?_
 refine wq_run (v := .int .i64 x2793) z z (fun w hst => x_load z isAgg3 (hst.ol2 hi2797 (by rintro _ rfl; rfl))) ?_
 refine wq_run (v := v2706) z z (fun w hst => z) ?_
 refine wq_run (v := .int .i64 z2783) z z (fun w hst => z) ?_
 obtain ⟨x2798, hx2799, hm⟩ := bind_some hm
 obtain ⟨h2800, h2801, hi2802⟩ := geto_some hx2799
 refine wq_run (v := .pointer (some (eAddr v2706 (z2783.toNat * 1 + 0)))) z z (fun w hst => x_index z z underlying41 sizeOf3 hst.sv1 h2800 h2801) ?_
 refine wq_run (v := .int .i64 x2798) z z (fun w hst => x_load z isAgg3 (hst.ol1 hi2802 (by rintro _ rfl; rfl))) ?_
 refine wq_run (v := .bool (x2793 != x2798)) z z (fun w hst => z) ?_
 refine wq_nil ?_
 intro w hst
 refine tn ?_
 refine bsplit (x2793 != x2798) (fun hc2803 => ?_) (fun hc2803 => ?_)
 {
 replace hm := bif_t hc2803 hm
 refine wp_ift (cvb hc2803) ?_
 refine wp_seq (wrl (wv (.bool false) z z z (wl_nil (tn (wp_ret (blk_r (then_r (then_r ?_))))))))
 replace hm := inr_up hm hx2790
 refine blk_r (blk_r (then_r (then_r ?_)))
 replace hm := inr_up hm hx2377
 refine blk_r (then_r ?_)
 obtain rfl := some_inj hm
 refine post_ret (vs := [.bool false]) results20 (rvs_cons (rv_tmp z) rvs_nil) ?_
 exact ⟨z, hst.keep1⟩
}
 {
 replace hm := bif_f hc2803 hm
 refine wp_iff (cvb hc2803) ?_
 refine wp_skip (blk_n (tn (wrl ?_)))
 refine wv (.int .i64 z2783) z z z (wv (.int .i64 (i64.wrap (z2783 + (1:Int)))) z z z (wv (.int .i64 (i64.wrap (z2783 + (1:Int)))) z z z (wl_nil (tn ?_))))
 replace hst := hst.pull2.pull2.pull2.keep3
 obtain rfl := some_inj hm
 exact ⟨_, Nat.lt_succ_self _, (i64.wrap (z2783 + (1:Int))), _, hx2790, (fu 0 p0 z (fu 1 r1_0 z (fu 5 (.int .i64 ((a1).length : Int)) z (fu 9 (.int .i64 z2370) z (fu 10 v2706 z (fu 13 v2718 z (fu 14 (.int .i64 (i64.wrap (z2783 + (1:Int)))) z z))))))), hst⟩
}
}
 {
 replace hm := bif_f hc2792 hm
 refine wp_iff (cvb hc2792) ?_
 refine wp_exit (then_x (then_x ?_))
 replace hm := inr_up hm hx2790
 refine blk_x (blk_n (tn (wrl ?_)))
 refine wv (.int .i64 z2370) z z z (wv (.int .i64 (i64.wrap (z2370 + (1:Int)))) z z z (wv (.int .i64 (i64.wrap (z2370 + (1:Int)))) z z z (wl_nil (tn ?_))))
 replace hst := hst.keep1
 obtain rfl := some_inj hm
 exact ⟨_, Nat.lt_succ_self _, (i64.wrap (z2370 + (1:Int))), _, hx2377, (fu 0 p0 z (fu 1 r1_0 z (fu 5 (.int .i64 ((a1).length : Int)) z (fu 9 (.int .i64 (i64.wrap (z2370 + (1:Int)))) z z)))), hst⟩
}
}
}
}
 {
 replace hm := bif_f hc2379 hm
 refine wp_iff (cvb hc2379) ?_
 refine wp_exit (then_x (then_x ?_))
 replace hm := inr_up hm hx2377
 refine blk_x (tn (wp_seq (wrl ?_)))
 refine wv (.bool true) z z z (wl_nil (tn (wp_ret ?_)))
 obtain rfl := some_inj hm
 refine post_ret (vs := [.bool true]) results20 (rvs_cons (rv_tmp z) rvs_nil) ?_
 exact ⟨z, hst.keep1⟩
}
}
}
}
}
}
}

theorem law03_LabelKnown_ref {w0 w : World} {I : HL} {R : SP} {a0 : Int}  (hst : St w0 w I [] R) {r : (Bool)} (hm : law03_LabelKnown a0 = some r) :
  Calls prog 6 #[U1 a0] w fun e w' => ∃ (I' : HL), e = .returned (.bool r) ∧ I.le I' ∧ St w0 w' I' [] R := by {
 unfold law03_LabelKnown at hm
 refine calls_start (args := [U1 a0]) func6 z ntmps6 (Nat.le_of_ble_eq_true z) ?_
 have hI0 := HL.le.refl I
 refine wp_seq (wrl (wv (.bool false) z z z (wl_nil (tn (wp_seq (wrl (wv (.int .u8 a0) z z z ?_)))))))
 obtain ⟨t31, ht32, hm⟩ := bind_some hm
 refine wc call21 [U1 a0] z z z ?_
 refine (ref03_Lattices_ref hst.to0 ht32).mono ?_
 rintro _ w33 ⟨v36, rfl, hst⟩
 refine ⟨_, z, ?_⟩
 replace hst := hst.of1
 refine wv (v36) z z z (wl_nil (tn (wp_seq (wrl (wv (v36) z z z ?_)))))
 obtain ⟨css38, hq39, hst⟩ := hst.own_open
 obtain ⟨t40, ht41, hm⟩ := bind_some hm
 refine wc call10 [v36] z z z ?_
 refine (label_New_ref (hst.rdrow0 hq39) hst.to0 ht41).mono ?_
 rintro _ w42 ⟨I43, v45, rfl, hI44, hst⟩
 refine ⟨_, z, ?_⟩
 replace hst := hst.of1
 replace hI0 := hI0.trans hI44
 replace hst := hst.pull1.own_close (hq39.imp fun _ _ => Ty.mono _ (ro_le hI44))
 refine wv (.tuple #[v45, I6 t40.2]) z z z (wv (v45) z z z (wv (.int .i64 t40.2) z z z (wv (v45) z z z (wv (.int .i64 t40.2) z z z (wl_nil (tn (wp_seq (wrl ?_))))))))
 obtain ⟨t47, ht48, hm⟩ := bind_some hm
 refine wc call9 [] z z z ?_
 refine (law03_awake_ref hst.to0 ht48).mono ?_
 rintro _ w49 ⟨I50, rfl, hI51, hst⟩
 refine ⟨_, z, ?_⟩
 replace hst := hst.of0
 replace hI0 := hI0.trans hI51
 refine wv (.bool t47) z z z ?_
 refine bsplit t47 (fun hc52 => ?_) (fun hc52 => ?_)
 {
 replace hm := bif_t hc52 hm
 refine wv (.int .i64 t40.2) ((wanted_eq z z z (cvb hc52)).trans z) z z (wv (.bool (t40.2 == (0:Int))) ((wanted_eq z z z (cvb hc52)).trans z) z z (wv (.bool (t40.2 == (0:Int))) z z (x_pick_t hc52 z z) (wv (.bool (t40.2 == (0:Int))) z z z ?_)))
 refine bsplit (t40.2 == (0:Int)) (fun hc53 => ?_) (fun hc53 => ?_)
 {
 replace hm := bif_t hc53 hm
 refine wv (v45) ((wanted_eq z z z (cvb hc53)).trans z) z z (wv (v36) ((wanted_eq z z z (cvb hc53)).trans z) z z ?_)
 obtain ⟨css54, hq55, hst⟩ := hst.own_open
 replace hst := hst.pull1
 obtain ⟨t56, ht57, hm⟩ := bind_some hm
 refine wl_call ((wanted_eq z z z (cvb hc53)).trans z) z (x_call call20 z (vs := [v45, v36]) z) ?_
 refine (law03_told_ref (hst.sub.rdrow0 hq55) hst.to1 ht57).mono ?_
 rintro _ w58 ⟨rfl, hst⟩
 refine ⟨_, z, ?_⟩
 replace hst := hst.of1.pull1.own_close hq55
 refine wv (.bool t56) z z (x_pick_t hc53 z z) (wv (.bool t56) z z z (wl_nil (tn (wp_ret ?_))))
 obtain rfl := some_inj hm
 refine post_ret (vs := [.bool t56]) results6 (rvs_cons (rv_tmp z) rvs_nil) ?_
 exact ⟨_, z, hI0, hst.keep0⟩
}
 {
 replace hm := bif_f hc53 hm
 refine wo hc53 z z z z z z (wo hc53 z z z z z z (wo hc53 z z z z z z (wv (.bool false) z z (x_pick_f hc53 z z) (wv (.bool false) z z z (wl_nil (tn (wp_ret ?_)))))))
 obtain rfl := some_inj hm
 refine post_ret (vs := [.bool false]) results6 (rvs_cons (rv_tmp z) rvs_nil) ?_
 exact ⟨_, z, hI0, hst.keep0⟩
}
}
 {
 replace hm := bif_f hc52 hm
 refine wo hc52 z z z z z z (wo hc52 z z z z z z (wv (.bool false) z z (x_pick_f hc52 z z) (wv (.bool false) z z z (wz z z z z z z (wz z z z z z z (wz z z z z z z (wv (.bool false) z z (x_pick_f z z z) (wv (.bool false) z z z (wl_nil (tn (wp_ret ?_)))))))))))
 obtain rfl := some_inj hm
 refine post_ret (vs := [.bool false]) results6 (rvs_cons (rv_tmp z) rvs_nil) ?_
 exact ⟨_, z, hI0, hst.keep0⟩
}
}

end Go.Proofs.Ytddhkbholbcebaa
