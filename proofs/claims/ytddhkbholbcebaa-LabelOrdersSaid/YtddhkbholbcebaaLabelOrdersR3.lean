/- The Go functions refine their models, part 3. -/
import Derived.Test.YtddhkbholbcebaaLabelOrdersR2
set_option linter.unusedVariables false
set_option linter.unusedSimpArgs false
set_option maxRecDepth 100000
set_option maxHeartbeats 4000000
namespace Go.Proofs.Ytddhkbholbcebaa
open Go Go.V
open _root_.Go.Proofs.Try IntKind
attribute [local irreducible] wpList Code.wp wpQuiet Calls bodyPost Oper.wp wpS Nx PendOK YieldsIn
theorem law03_told_ref {w0 w : World} {I : HL} {R : SP} {a0 : (Option label_Lattice)} {p0 : Value} {a1 : (List Int)} {r1_0 : Value} (f1_0 : Rd (tyInt .u64) R I r1_0 a1) (hst : St w0 w I [objO at_label_Lattice p0 a0] R) {r : (Bool)} (hm : law03_told a0 a1 = some r) :
  Calls prog 20 #[p0, r1_0] w fun e w' => e = .returned (.bool r) ∧ St w0 w' I [objO at_label_Lattice p0 a0] R := by {
 unfold law03_told at hm
 refine calls_start (args := [p0, r1_0]) func20 z ntmps20 (Nat.le_of_ble_eq_true z) ?_
 refine wp_seq (wrl (wv (.bool false) z z z (wl_nil (tn (wp_seq (wrl (wv (r1_0) z z z (wv (.int .i64 ((a1).length : Int)) z z (x_len z underlying28 (rd_sliceV f1_0)) (wv (.int .i64 ((a1).length : Int)) z z z (wl_nil (tn (wp_seq (wp_seq (wrl (wv (p0) z z z ?_)))))))))))))))
 obtain ⟨t1425, ht1426, hm⟩ := bind_some hm
 refine wc call12 [p0] z z z ?_
 refine (label_Lattice_Len_ref hst.to1 ht1426).mono ?_
 rintro _ w1427 ⟨rfl, hst⟩
 refine ⟨_, z, ?_⟩
 replace hst := hst.of1
 refine wv (.int .i64 ((a1).length : Int)) z z z (wv (.bool (t1425 != ((a1).length : Int))) z z z (wl_nil (tn ?_)))
 refine bsplit (t1425 != ((a1).length : Int)) (fun hc1430 => ?_) (fun hc1430 => ?_)
 {
 replace hm := bif_t hc1430 hm
 refine wp_ift (cvb hc1430) ?_
 refine wp_seq (wrl (wv (.bool false) z z z (wl_nil (tn (wp_ret (then_r ?_))))))
 obtain rfl := some_inj hm
 refine post_ret (vs := [.bool false]) results20 (rvs_cons (rv_tmp z) rvs_nil) ?_
 exact ⟨z, hst.keep1⟩
}
 {
 replace hm := bif_f hc1430 hm
 refine wp_iff (cvb hc1430) ?_
 refine wp_skip (tn (wp_seq (wrl ?_)))
 refine wv (r1_0) z z z ?_
 obtain ⟨t1431, ht1432, hm⟩ := bind_some hm
 refine wc call35 [r1_0] z z z ?_
 refine (ref03_Order_ref (f1_0.mono (rd_weak _)) hst.to0 ht1432).mono ?_
 rintro _ w1433 ⟨v1436, rfl, hst⟩
 refine ⟨_, z, ?_⟩
 replace hst := hst.of1
 refine wv (v1436) z z z (wl_nil (tn (wp_seq (wrl (wv (p0) z z z ?_)))))
 replace hst := hst.pull1
 obtain ⟨t1438, ht1439, hm⟩ := bind_some hm
 refine wc call22 [p0] z z z ?_
 refine (label_Lattice_Order_ref hst.to1 ht1439).mono ?_
 rintro _ w1440 ⟨v1443, rfl, hst⟩
 refine ⟨_, z, ?_⟩
 replace hst := hst.of2
 refine wv (v1443) z z z (wl_nil (tn (wp_seq (wp_seq ?_))))
 refine wp_region_St hst 22 [0, 1, 2, 3, 4, 5, 6, 7, 8, 9, 10, 11, 12, 13, 14, 15, 16, 17, 18, 19, 20, 21] [0, 1, 0, 7, 15, 31, 63, 31, 159, 415, 1023, 2047, 4095, 8191, 16383, 8191, 8191, 73727, 237567, 499711, 1048575, 2097151] [] z (by kernel_rfl) (by kernel_rfl) Try.mixed (by kernel_rfl) ?_
 refine wsr (v1443) 0 z z z (by kernel_rfl) (fun w hst => z) (wsr (.int .i64 ((t1438).length : Int)) 1 z z z (by kernel_rfl) (fun w hst => x_len z underlying41 hst.sv0) (wsr (.int .i64 ((a1).length : Int)) 2 z z z (by kernel_rfl) (fun w hst => z) (wsr (.bool (((t1438).length : Int) != ((a1).length : Int))) 3 z z z (by kernel_rfl) (fun w hst => z) (wsr (.bool (((t1438).length : Int) != ((a1).length : Int))) 4 z z z (by kernel_rfl) (fun w hst => z) ?_))))
 refine bsplit (((t1438).length : Int) != ((a1).length : Int)) (fun hc1445 => ?_) (fun hc1445 => ?_)
 {
 replace hm := bif_t hc1445 hm
 refine ws_q (v := undef) 5 [6, 7, 8, 9, 10, 11, 12, 13, 14, 15, 16, 17, 18, 19, 20, 21] (by kernel_rfl) z z (yi_off ((wanted_eq z z z (cvb hc1445)).trans z)) (ws_q (v := undef) 6 [7, 8, 9, 10, 11, 12, 13, 14, 15, 16, 17, 18, 19, 20, 21] (by kernel_rfl) z z (yi_off ((wanted_eq z z z (cvb hc1445)).trans z)) (ws_q (v := undef) 7 [8, 9, 10, 11, 12, 13, 14, 15, 16, 17, 18, 19, 20, 21] (by kernel_rfl) z z (yi_off ((wanted_eq z z z (cvb hc1445)).trans z)) (ws_q (v := undef) 8 [9, 10, 11, 12, 13, 14, 15, 16, 17, 18, 19, 20, 21] (by kernel_rfl) z z (yi_off ((wanted_eq z z z (cvb hc1445)).trans z)) (ws_q (v := undef) 9 [10, 11, 12, 13, 14, 15, 16, 17, 18, 19, 20, 21] (by kernel_rfl) z z (yi_off ((wanted_eq z z z (cvb hc1445)).trans z)) (ws_q (v := undef) 10 [11, 12, 13, 14, 15, 16, 17, 18, 19, 20, 21] (by kernel_rfl) z z (yi_off ((wanted_eq z z z (cvb hc1445)).trans z)) (wsr (.bool true) 11 z z z (by kernel_rfl) (fun w hst => x_pick_t hc1445 z z) (wsr (.bool true) 12 z z z (by kernel_rfl) (fun w hst => z) (ws_q (v := undef) 13 [14, 15, 16, 17, 18, 19, 20, 21] (by kernel_rfl) z z (yi_off ((wanted_eq z z z z).trans z)) (ws_q (v := undef) 14 [15, 16, 17, 18, 19, 20, 21] (by kernel_rfl) z z (yi_off ((wanted_eq z z z z).trans z)) (ws_q (v := undef) 15 [16, 17, 18, 19, 20, 21] (by kernel_rfl) z z (yi_off ((wanted_eq z z z z).trans z)) (ws_q (v := undef) 16 [17, 18, 19, 20, 21] (by kernel_rfl) z z (yi_off ((wanted_eq z z z z).trans z)) (ws_q (v := undef) 17 [18, 19, 20, 21] (by kernel_rfl) z z (yi_off ((wanted_eq z z z z).trans z)) ?_))))))))))))
 refine ws_q (v := undef) 18 [19, 20, 21] (by kernel_rfl) z z (yi_off ((wanted_eq z z z z).trans z)) (ws_q (v := undef) 19 [20, 21] (by kernel_rfl) z z (yi_off ((wanted_eq z z z z).trans z)) (ws_q (v := undef) 20 [21] (by kernel_rfl) z z (yi_off ((wanted_eq z z z z).trans z)) (wsr (.bool true) 21 z z z (by kernel_rfl) (fun w hst => x_pick_t z z z) ?_)))
 refine ws_nil ?_
 intro w hst
 refine tn ?_
 refine wp_ift z ?_
 refine wp_seq (wrl (wv (.bool false) z z z (wl_nil (tn (wp_ret (then_r ?_))))))
 obtain rfl := some_inj hm
 refine post_ret (vs := [.bool false]) results20 (rvs_cons (rv_tmp z) rvs_nil) ?_
 replace hst := hst.pull1
 exact ⟨z, hst.keep1⟩
}
 {
 replace hm := bif_f hc1445 hm
 refine ws_q (v := p0) 5 [6, 7, 8, 9, 10, 11, 12, 13, 14, 15, 16, 17, 18, 19, 20, 21] (by kernel_rfl) z z (yi_run ((wanted_eq z z z (cvb hc1445)).trans z) (fun w hst => z)) (ws_q (v := v1436) 7 [6, 8, 9, 10, 11, 12, 13, 14, 15, 16, 17, 18, 19, 20, 21] (by kernel_rfl) z z (yi_run ((wanted_eq z z z (cvb hc1445)).trans z) (fun w hst => z)) ?_)
 obtain ⟨x1446, hx1447, hm⟩ := bind_some hm
 obtain ⟨h1448, h1449, hi1450⟩ := geto_some hx1447
 refine ws_q (v := .pointer (some (eAddr v1436 ((0:Int).toNat * 1 + 0)))) 8 [6, 9, 10, 11, 12, 13, 14, 15, 16, 17, 18, 19, 20, 21] (by kernel_rfl) z z (yi_run ((wanted_eq z z z (cvb hc1445)).trans z) (fun w hst => x_index z z underlying41 sizeOf3 hst.sv2 h1448 h1449)) (ws_q (v := .int .i64 x1446) 9 [6, 10, 11, 12, 13, 14, 15, 16, 17, 18, 19, 20, 21] (by kernel_rfl) z z (yi_run ((wanted_eq z z z (cvb hc1445)).trans z) (fun w hst => x_load z isAgg3 (hst.ol2 hi1450 (by rintro _ rfl; rfl)))) ?_)
 refine ws_e1 6 (by kernel_rfl) ?_
 refine nxe [10, 11, 12, 13, 14, 15, 16, 17, 18, 19, 20, 21] (by kernel_rfl) z ((wanted_eq z z z (cvb hc1445)).trans z) ?_
 clear hst
 intro w hst
 replace hst := hst.pull1
 obtain ⟨t1451, ht1452, hm⟩ := bind_some hm
 refine wec call16 [p0] z z ?_
 refine (label_Lattice_Bottom_ref hst.to1 ht1452).mono ?_
 rintro _ w1453 ⟨rfl, hst⟩
 refine ⟨_, z, ?_⟩
 replace hst := hst.of1
 refine ws_next (pend' := [(9, I6 x1446), (8, .pointer (some (eAddr v1436 ((0:Int).toNat * 1 + 0)))), (7, v1436)]) hst (by kernel_rfl) (pk_cons z (yi_run ((wanted_eq z z z (cvb hc1445)).trans z) (fun w hst => x_load z isAgg3 (hst.ol2 hi1450 (by rintro _ rfl; rfl)))) (pk_cons z (yi_run ((wanted_eq z z z (cvb hc1445)).trans z) (fun w hst => x_index z z underlying41 sizeOf3 hst.sv2 h1448 h1449)) (pk_cons z (yi_run ((wanted_eq z z z (cvb hc1445)).trans z) (fun w hst => z)) pk_nil))) ?_
 refine ws_q (v := .bool (t1451 != x1446)) 10 [11, 12, 13, 14, 15, 16, 17, 18, 19, 20, 21] (by kernel_rfl) z z (yi_run ((wanted_eq z z z (cvb hc1445)).trans z) (fun w hst => z)) (wsr (.bool (t1451 != x1446)) 11 z z z (by kernel_rfl) (fun w hst => x_pick_f hc1445 z z) (wsr (.bool (t1451 != x1446)) 12 z z z (by kernel_rfl) (fun w hst => z) ?_))
 refine bsplit (t1451 != x1446) (fun hc1456 => ?_) (fun hc1456 => ?_)
 {
 replace hm := bif_t hc1456 hm
 refine ws_q (v := undef) 13 [14, 15, 16, 17, 18, 19, 20, 21] (by kernel_rfl) z z (yi_off ((wanted_eq z z z (cvb hc1456)).trans z)) (ws_q (v := undef) 14 [15, 16, 17, 18, 19, 20, 21] (by kernel_rfl) z z (yi_off ((wanted_eq z z z (cvb hc1456)).trans z)) (ws_q (v := undef) 15 [16, 17, 18, 19, 20, 21] (by kernel_rfl) z z (yi_off ((wanted_eq z z z (cvb hc1456)).trans z)) (ws_q (v := undef) 16 [17, 18, 19, 20, 21] (by kernel_rfl) z z (yi_off ((wanted_eq z z z (cvb hc1456)).trans z)) (ws_q (v := undef) 17 [18, 19, 20, 21] (by kernel_rfl) z z (yi_off ((wanted_eq z z z (cvb hc1456)).trans z)) (ws_q (v := undef) 18 [19, 20, 21] (by kernel_rfl) z z (yi_off ((wanted_eq z z z (cvb hc1456)).trans z)) (ws_q (v := undef) 19 [20, 21] (by kernel_rfl) z z (yi_off ((wanted_eq z z z (cvb hc1456)).trans z)) (ws_q (v := undef) 20 [21] (by kernel_rfl) z z (yi_off ((wanted_eq z z z (cvb hc1456)).trans z)) (wsr (.bool true) 21 z z z (by kernel_rfl) (fun w hst => x_pick_t hc1456 z z) ?_))))))))
 refine ws_nil ?_
 intro w hst
 refine tn ?_
 refine wp_ift z ?_
 refine wp_seq (wrl (wv (.bool false) z z z (wl_nil (tn (wp_ret (then_r ?_))))))
 obtain rfl := some_inj hm
 refine post_ret (vs := [.bool false]) results20 (rvs_cons (rv_tmp z) rvs_nil) ?_
 exact ⟨z, hst.keep1⟩
}
 {
 replace hm := bif_f hc1456 hm
 refine ws_q (v := p0) 13 [14, 15, 16, 17, 18, 19, 20, 21] (by kernel_rfl) z z (yi_run ((wanted_eq z z z (cvb hc1456)).trans z) (fun w hst => z)) (ws_q (v := v1436) 15 [14, 16, 17, 18, 19, 20, 21] (by kernel_rfl) z z (yi_run ((wanted_eq z z z (cvb hc1456)).trans z) (fun w hst => z)) (ws_q (v := .int .i64 ((a1).length : Int)) 16 [14, 17, 18, 19, 20, 21] (by kernel_rfl) z z (yi_run ((wanted_eq z z z (cvb hc1456)).trans z) (fun w hst => z)) (ws_q (v := .int .i64 (i64.wrap (((a1).length : Int) - (1:Int)))) 17 [14, 18, 19, 20, 21] (by kernel_rfl) z z (yi_run ((wanted_eq z z z (cvb hc1456)).trans z) (fun w hst => z)) ?_)))
 obtain ⟨x1457, hx1458, hm⟩ := bind_some hm
 obtain ⟨h1459, h1460, hi1461⟩ := geto_some hx1458
 refine ws_q (v := .pointer (some (eAddr v1436 ((i64.wrap (((a1).length : Int) - (1:Int))).toNat * 1 + 0)))) 18 [14, 19, 20, 21] (by kernel_rfl) z z (yi_run ((wanted_eq z z z (cvb hc1456)).trans z) (fun w hst => x_index z z underlying41 sizeOf3 hst.sv2 h1459 h1460)) (ws_q (v := .int .i64 x1457) 19 [14, 20, 21] (by kernel_rfl) z z (yi_run ((wanted_eq z z z (cvb hc1456)).trans z) (fun w hst => x_load z isAgg3 (hst.ol2 hi1461 (by rintro _ rfl; rfl)))) ?_)
 refine ws_e1 14 (by kernel_rfl) ?_
 refine nxe [20, 21] (by kernel_rfl) z ((wanted_eq z z z (cvb hc1456)).trans z) ?_
 clear hst
 intro w hst
 obtain ⟨t1462, ht1463, hm⟩ := bind_some hm
 refine wec call17 [p0] z z ?_
 refine (label_Lattice_Top_ref hst.to1 ht1463).mono ?_
 rintro _ w1464 ⟨rfl, hst⟩
 refine ⟨_, z, ?_⟩
 replace hst := hst.of1
 refine ws_next (pend' := [(19, I6 x1457), (18, .pointer (some (eAddr v1436 ((i64.wrap (((a1).length : Int) - (1:Int))).toNat * 1 + 0)))), (17, I6 (i64.wrap (((a1).length : Int) - (1:Int)))), (16, I6 ((a1).length : Int)), (15, v1436)]) hst (by kernel_rfl) (pk_cons z (yi_run ((wanted_eq z z z (cvb hc1456)).trans z) (fun w hst => x_load z isAgg3 (hst.ol2 hi1461 (by rintro _ rfl; rfl)))) (pk_cons z (yi_run ((wanted_eq z z z (cvb hc1456)).trans z) (fun w hst => x_index z z underlying41 sizeOf3 hst.sv2 h1459 h1460)) (pk_cons z (yi_run ((wanted_eq z z z (cvb hc1456)).trans z) (fun w hst => z)) (pk_cons z (yi_run ((wanted_eq z z z (cvb hc1456)).trans z) (fun w hst => z)) (pk_cons z (yi_run ((wanted_eq z z z (cvb hc1456)).trans z) (fun w hst => z)) pk_nil))))) ?_
 refine ws_q (v := .bool (t1462 != x1457)) 20 [21] (by kernel_rfl) z z (yi_run ((wanted_eq z z z (cvb hc1456)).trans z) (fun w hst => z)) (wsr (.bool (t1462 != x1457)) 21 z z z (by kernel_rfl) (fun w hst => x_pick_f hc1456 z z) ?_)
 refine ws_nil ?_
 intro w hst
 refine tn ?_
 refine bsplit (t1462 != x1457) (fun hc1467 => ?_) (fun hc1467 => ?_)
 {
 replace hm := bif_t hc1467 hm
 refine wp_ift (cvb hc1467) ?_
 refine wp_seq (wrl (wv (.bool false) z z z (wl_nil (tn (wp_ret (then_r ?_))))))
 obtain rfl := some_inj hm
 refine post_ret (vs := [.bool false]) results20 (rvs_cons (rv_tmp z) rvs_nil) ?_
 exact ⟨z, hst.keep1⟩
}
 {
 replace hm := bif_f hc1467 hm
 refine wp_iff (cvb hc1467) ?_
 refine wp_skip (tn ?_)
 obtain ⟨y1529, hm, hx1530⟩ := joinO_some hm
 refine wp_cut (fun a w => ∃ (σ1527 : Nat → Value), (law03_told_j0 a1 a0) () = some r ∧ a = Fr 205 (upd (upd (upd σ1527 0 (p0)) 1 (r1_0)) 5 (.int .i64 ((a1).length : Int))) ∧ St w0 w I [objO at_label_Lattice p0 a0] R) ?_ ?_
 {
 refine wp_seq (wrl (wv (.int .i64 (0:Int)) z z z (wl_nil (tn (wp_block ?_)))))
 obtain ⟨n1502, hm⟩ := loopO_some hm
 refine wp_loop_n (fun n a w => ∃ (z1500 : Int) (σ1501 : Nat → Value), loopN (law03_told_l1 a1 t1438 t1431 a0) n z1500 = some y1529 ∧ a = Fr 205 (upd (upd (upd (upd (upd (upd σ1501 0 (p0)) 1 (r1_0)) 5 (.int .i64 ((a1).length : Int))) 6 (v1436)) 7 (v1443)) 8 (.int .i64 z1500)) ∧ St w0 w I [objO at_label_Lattice p0 a0, ownS (tyInt .i64) v1443 t1438, ownS (tyInt .i64) v1436 t1431] R) n1502 ⟨(0:Int), _, hm, (fu 0 p0 z (fu 1 r1_0 z (fu 5 (.int .i64 ((a1).length : Int)) z (fu 6 v1436 z (fu 7 v1443 z (fu 8 (.int .i64 (0:Int)) z z)))))), hst⟩ ?_
 rintro n1508 _ w1503 ⟨z1500, σ1501, hm, rfl, hst⟩
 obtain ⟨n1505, y1506, rfl, hm, hx1507⟩ := loopN_some hm
 dsimp only [law03_told_l1] at hm
 refine wp_seq (wp_seq (wrl (wv (.int .i64 z1500) z z z (wv (.int .i64 ((a1).length : Int)) z z z (wv (.bool (decide (z1500 < ((a1).length : Int)))) z z z (wl_nil (tn ?_)))))))
 refine bsplit (decide (z1500 < ((a1).length : Int))) (fun hc1509 => ?_) (fun hc1509 => ?_)
 {
 replace hm := bif_t hc1509 hm
 refine wp_ift (cvb hc1509) ?_
 refine wp_skip (tn (wp_seq (wp_block (wp_seq ?_))))
 refine wp_region_St hst 19 [0, 1, 2, 3, 4, 5, 6, 7, 8, 9, 10, 11, 12, 13, 14, 15, 16, 17, 18] [0, 0, 3, 7, 0, 0, 48, 112, 255, 511, 1023, 1023, 1023, 7167, 15359, 32767, 1023, 131071, 262143] [] z (by kernel_rfl) (by kernel_rfl) Try.mixed (by kernel_rfl) ?_
 refine wsr (v1443) 0 z z z (by kernel_rfl) (fun w hst => z) (wsr (.int .i64 z1500) 1 z z z (by kernel_rfl) (fun w hst => z) ?_)
 obtain ⟨x1510, hx1511, hm⟩ := bind_some hm
 obtain ⟨h1512, h1513, hi1514⟩ := geto_some hx1511
 refine wsr (.pointer (some (eAddr v1443 (z1500.toNat * 1 + 0)))) 2 z z z (by kernel_rfl) (fun w hst => x_index z z underlying41 sizeOf3 hst.sv1 h1512 h1513) (wsr (.int .i64 x1510) 3 z z z (by kernel_rfl) (fun w hst => x_load z isAgg3 (hst.ol1 hi1514 (by rintro _ rfl; rfl))) (wsr (v1436) 4 z z z (by kernel_rfl) (fun w hst => z) (wsr (.int .i64 z1500) 5 z z z (by kernel_rfl) (fun w hst => z) ?_)))
 obtain ⟨x1515, hx1516, hm⟩ := bind_some hm
 obtain ⟨h1517, h1518, hi1519⟩ := geto_some hx1516
 refine wsr (.pointer (some (eAddr v1436 (z1500.toNat * 1 + 0)))) 6 z z z (by kernel_rfl) (fun w hst => x_index z z underlying41 sizeOf3 hst.sv2 h1517 h1518) (wsr (.int .i64 x1515) 7 z z z (by kernel_rfl) (fun w hst => x_load z isAgg3 (hst.ol2 hi1519 (by rintro _ rfl; rfl))) (wsr (.bool (x1510 != x1515)) 8 z z z (by kernel_rfl) (fun w hst => z) (wsr (.bool (x1510 != x1515)) 9 z z z (by kernel_rfl) (fun w hst => z) ?_)))
 refine bsplit (x1510 != x1515) (fun hc1520 => ?_) (fun hc1520 => ?_)
 {
 replace hm := bif_t hc1520 hm
 refine ws_q (v := undef) 10 [11, 12, 13, 14, 15, 16, 17, 18] (by kernel_rfl) z z (yi_off ((wanted_eq z z z (cvb hc1520)).trans z)) (ws_q (v := undef) 11 [12, 13, 14, 15, 16, 17, 18] (by kernel_rfl) z z (yi_off ((wanted_eq z z z (cvb hc1520)).trans z)) (ws_q (v := undef) 12 [13, 14, 15, 16, 17, 18] (by kernel_rfl) z z (yi_off ((wanted_eq z z z (cvb hc1520)).trans z)) (ws_q (v := undef) 13 [14, 15, 16, 17, 18] (by kernel_rfl) z z (yi_off ((wanted_eq z z z (cvb hc1520)).trans z)) (ws_q (v := undef) 14 [15, 16, 17, 18] (by kernel_rfl) z z (yi_off ((wanted_eq z z z (cvb hc1520)).trans z)) (ws_q (v := undef) 15 [16, 17, 18] (by kernel_rfl) z z (yi_off ((wanted_eq z z z (cvb hc1520)).trans z)) (ws_q (v := undef) 16 [17, 18] (by kernel_rfl) z z (yi_off ((wanted_eq z z z (cvb hc1520)).trans z)) (ws_q (v := undef) 17 [18] (by kernel_rfl) z z (yi_off ((wanted_eq z z z (cvb hc1520)).trans z)) (wsr (.bool true) 18 z z z (by kernel_rfl) (fun w hst => x_pick_t hc1520 z z) ?_))))))))
 refine ws_nil ?_
 intro w hst
 refine tn ?_
 refine wp_ift z ?_
 refine wp_seq (wrl (wv (.bool false) z z z (wl_nil (tn (wp_ret (blk_r (then_r (then_r ?_))))))))
 replace hm := inr_up hm hx1507
 refine blk_r (then_r ?_)
 replace hm := inr_up hm hx1530
 obtain rfl := some_inj hm
 refine post_ret (vs := [.bool false]) results20 (rvs_cons (rv_tmp z) rvs_nil) ?_
 exact ⟨z, hst.keep1⟩
}
 {
 replace hm := bif_f hc1520 hm
 refine ws_q (v := p0) 10 [11, 12, 13, 14, 15, 16, 17, 18] (by kernel_rfl) z z (yi_run ((wanted_eq z z z (cvb hc1520)).trans z) (fun w hst => z)) (ws_q (v := v1436) 11 [12, 13, 14, 15, 16, 17, 18] (by kernel_rfl) z z (yi_run ((wanted_eq z z z (cvb hc1520)).trans z) (fun w hst => z)) (ws_q (v := .int .i64 z1500) 12 [13, 14, 15, 16, 17, 18] (by kernel_rfl) z z (yi_run ((wanted_eq z z z (cvb hc1520)).trans z) (fun w hst => z)) (ws_q (v := .pointer (some (eAddr v1436 (z1500.toNat * 1 + 0)))) 13 [14, 15, 16, 17, 18] (by kernel_rfl) z z (yi_run ((wanted_eq z z z (cvb hc1520)).trans z) (fun w hst => x_index z z underlying41 sizeOf3 hst.sv2 h1517 h1518)) (ws_q (v := .int .i64 x1515) 14 [15, 16, 17, 18] (by kernel_rfl) z z (yi_run ((wanted_eq z z z (cvb hc1520)).trans z) (fun w hst => x_load z isAgg3 (hst.ol2 hi1519 (by rintro _ rfl; rfl)))) (ws_q (v := .int .i64 z1500) 16 [15, 17, 18] (by kernel_rfl) z z (yi_run ((wanted_eq z z z (cvb hc1520)).trans z) (fun w hst => z)) ?_)))))
 refine ws_e1 15 (by kernel_rfl) ?_
 refine nxe [17, 18] (by kernel_rfl) z ((wanted_eq z z z (cvb hc1520)).trans z) ?_
 clear hst
 intro w hst
 obtain ⟨t1521, ht1522, hm⟩ := bind_some hm
 refine wec call18 [p0, I6 x1515] z z ?_
 refine (label_Lattice_Rank_ref hst.to1 ht1522).mono ?_
 rintro _ w1523 ⟨rfl, hst⟩
 refine ⟨_, z, ?_⟩
 replace hst := hst.of1
 refine ws_next (pend' := [(16, I6 z1500)]) hst (by kernel_rfl) (pk_cons z (yi_run ((wanted_eq z z z (cvb hc1520)).trans z) (fun w hst => z)) pk_nil) ?_
 refine ws_q (v := .bool (t1521 != z1500)) 17 [18] (by kernel_rfl) z z (yi_run ((wanted_eq z z z (cvb hc1520)).trans z) (fun w hst => z)) (wsr (.bool (t1521 != z1500)) 18 z z z (by kernel_rfl) (fun w hst => x_pick_f hc1520 z z) ?_)
 refine ws_nil ?_
 intro w hst
 refine tn ?_
 refine bsplit (t1521 != z1500) (fun hc1526 => ?_) (fun hc1526 => ?_)
 {
 replace hm := bif_t hc1526 hm
 refine wp_ift (cvb hc1526) ?_
 refine wp_seq (wrl (wv (.bool false) z z z (wl_nil (tn (wp_ret (blk_r (then_r (then_r ?_))))))))
 replace hm := inr_up hm hx1507
 refine blk_r (then_r ?_)
 replace hm := inr_up hm hx1530
 obtain rfl := some_inj hm
 refine post_ret (vs := [.bool false]) results20 (rvs_cons (rv_tmp z) rvs_nil) ?_
 exact ⟨z, hst.keep1⟩
}
 {
 replace hm := bif_f hc1526 hm
 refine wp_iff (cvb hc1526) ?_
 refine wp_skip (blk_n (tn (wrl ?_)))
 refine wv (.int .i64 z1500) z z z (wv (.int .i64 (i64.wrap (z1500 + (1:Int)))) z z z (wv (.int .i64 (i64.wrap (z1500 + (1:Int)))) z z z (wl_nil (tn ?_))))
 replace hst := hst.pull2.pull2.pull2.keep3
 obtain rfl := some_inj hm
 exact ⟨_, Nat.lt_succ_self _, (i64.wrap (z1500 + (1:Int))), _, hx1507, (fu 0 p0 z (fu 1 r1_0 z (fu 5 (.int .i64 ((a1).length : Int)) z (fu 6 v1436 z (fu 7 v1443 z (fu 8 (.int .i64 (i64.wrap (z1500 + (1:Int)))) z z)))))), hst⟩
}
}
}
 {
 replace hm := bif_f hc1509 hm
 refine wp_iff (cvb hc1509) ?_
 refine wp_exit (then_x (then_x ?_))
 replace hm := inr_up hm hx1507
 refine blk_x (tn ?_)
 replace hst := hst.keep1
 obtain rfl := some_inj hm
 exact ⟨_, hx1530, (fu 0 p0 z (fu 1 r1_0 z (fu 5 (.int .i64 ((a1).length : Int)) z z))), hst⟩
}
}
 {
 clear hst
 rintro _ w1531 ⟨σ1527, hm, rfl, hst⟩
 dsimp only [law03_told_j0] at hm
 refine wp_seq (wp_seq (wrl (wv (.int .i64 ((-1):Int)) z z z (wl_nil (tn (wp_block ?_))))))
 obtain ⟨n2381, hm⟩ := loopO_some hm
 refine wp_loop_n (fun n a w => ∃ (z2379 : Int) (σ2380 : Nat → Value), loopN (law03_told_l2 a1 a0) n z2379 = some r ∧ a = Fr 205 (upd (upd (upd (upd σ2380 0 (p0)) 1 (r1_0)) 5 (.int .i64 ((a1).length : Int))) 9 (.int .i64 z2379)) ∧ St w0 w I [objO at_label_Lattice p0 a0] R) n2381 ⟨((-1):Int), _, hm, (fu 0 p0 z (fu 1 r1_0 z (fu 5 (.int .i64 ((a1).length : Int)) z (fu 9 (.int .i64 ((-1):Int)) z z)))), hst⟩ ?_
 rintro n2387 _ w2382 ⟨z2379, σ2380, hm, rfl, hst⟩
 obtain ⟨n2384, y2385, rfl, hm, hx2386⟩ := loopN_some hm
 dsimp only [law03_told_l2] at hm
 refine wp_seq (wp_seq (wrl (wv (.int .i64 z2379) z z z (wv (.int .i64 ((a1).length : Int)) z z z (wv (.bool (decide (z2379 ≤ ((a1).length : Int)))) z z z (wl_nil (tn ?_)))))))
 refine bsplit (decide (z2379 ≤ ((a1).length : Int))) (fun hc2388 => ?_) (fun hc2388 => ?_)
 {
 replace hm := bif_t hc2388 hm
 refine wp_ift (cvb hc2388) ?_
 refine wp_skip (tn (wp_seq (wp_block (wp_seq (wrl ?_)))))
 refine wv ((.slice none 0 0)) z z z (wl_nil (tn ?_))
 obtain ⟨y2719, hm, hx2720⟩ := joinO_some hm
 refine wp_cut (fun a w => ∃ (z2716 : (List Int)) (v2715 : Value) (σ2717 : Nat → Value), (law03_told_j3 a0 z2379 a1) z2716 = some y2385 ∧ a = Fr 205 (upd (upd (upd (upd (upd σ2717 0 (p0)) 1 (r1_0)) 5 (.int .i64 ((a1).length : Int))) 9 (.int .i64 z2379)) 10 (v2715)) ∧ St w0 w I [objO at_label_Lattice p0 a0, ownS (tyInt .i64) v2715 z2716] R) ?_ ?_
 {
 refine wp_seq (wrl (wv (.int .i64 ((-1):Int)) z z z (wl_nil (tn (wp_block ?_)))))
 replace hst := hst.own_nil (tyInt .i64)
 obtain ⟨n2630, hm⟩ := loopO_some hm
 refine wp_loop_n (fun n a w => ∃ (z2625 : (List Int)) (z2628 : Int) (v2626 : Value) (σ2629 : Nat → Value), loopN (law03_told_l4 a1 z2379 a0) n (z2625, z2628) = some y2719 ∧ a = Fr 205 (upd (upd (upd (upd (upd (upd σ2629 0 (p0)) 1 (r1_0)) 5 (.int .i64 ((a1).length : Int))) 9 (.int .i64 z2379)) 10 (v2626)) 11 (.int .i64 z2628)) ∧ St w0 w I [ownS (tyInt .i64) v2626 z2625, objO at_label_Lattice p0 a0] R) n2630 ⟨[], ((-1):Int), Zs, _, hm, (fu 0 p0 z (fu 1 r1_0 z (fu 5 (.int .i64 ((a1).length : Int)) z (fu 9 (.int .i64 z2379) z (fu 10 (.slice none 0 0) z (fu 11 (.int .i64 ((-1):Int)) z z)))))), hst⟩ ?_
 rintro n2636 _ w2631 ⟨z2625, z2628, v2626, σ2629, hm, rfl, hst⟩
 obtain ⟨n2633, y2634, rfl, hm, hx2635⟩ := loopN_some hm
 dsimp only [law03_told_l4] at hm
 refine wp_seq (wp_seq (wrl (wv (.int .i64 z2628) z z z (wv (.int .i64 ((a1).length : Int)) z z z (wv (.bool (decide (z2628 ≤ ((a1).length : Int)))) z z z (wl_nil (tn ?_)))))))
 refine bsplit (decide (z2628 ≤ ((a1).length : Int))) (fun hc2637 => ?_) (fun hc2637 => ?_)
 {
 replace hm := bif_t hc2637 hm
 refine wp_ift (cvb hc2637) ?_
 refine wp_skip (tn (wp_seq (wp_block ?_)))
 obtain ⟨y2644, hm, hx2645⟩ := bind_some hm
 refine wp_cut (fun a w => ∃ (z2641 : Bool) (σ2642 : Nat → Value), (law03_told_j5 a0 z2379 z2628 a1 z2625) z2641 = some y2634 ∧ a = Fr 205 (upd (upd (upd (upd (upd (upd (upd σ2642 0 (p0)) 1 (r1_0)) 5 (.int .i64 ((a1).length : Int))) 9 (.int .i64 z2379)) 10 (v2626)) 11 (.int .i64 z2628)) 12 (.bool z2641)) ∧ St w0 w I [objO at_label_Lattice p0 a0, ownS (tyInt .i64) v2626 z2625] R) ?_ ?_
 {
 refine wrl (wv (.int .i64 z2379) z z z (wv (.bool (decide (z2379 ≥ (0:Int)))) z z z (wv (.bool (decide (z2379 ≥ (0:Int)))) z z z ?_)))
 refine bsplit (decide (z2379 ≥ (0:Int))) (fun hc2638 => ?_) (fun hc2638 => ?_)
 {
 replace hm := bif_t hc2638 hm
 refine wv (.int .i64 z2379) ((wanted_eq z z z (cvb hc2638)).trans z) z z (wv (.int .i64 ((a1).length : Int)) ((wanted_eq z z z (cvb hc2638)).trans z) z z (wv (.bool (decide (z2379 < ((a1).length : Int)))) ((wanted_eq z z z (cvb hc2638)).trans z) z z (wv (.bool (decide (z2379 < ((a1).length : Int)))) z z (x_pick_t hc2638 z z) (wv (.bool (decide (z2379 < ((a1).length : Int)))) z z z ?_))))
 refine bsplit (decide (z2379 < ((a1).length : Int))) (fun hc2639 => ?_) (fun hc2639 => ?_)
 {
 replace hm := bif_t hc2639 hm
 refine wv (.int .i64 z2628) ((wanted_eq z z z (cvb hc2639)).trans z) z z (wv (.bool (decide (z2628 ≥ (0:Int)))) ((wanted_eq z z z (cvb hc2639)).trans z) z z (wv (.bool (decide (z2628 ≥ (0:Int)))) z z (x_pick_t hc2639 z z) (wv (.bool (decide (z2628 ≥ (0:Int)))) z z z ?_)))
 refine bsplit (decide (z2628 ≥ (0:Int))) (fun hc2640 => ?_) (fun hc2640 => ?_)
 {
 replace hm := bif_t hc2640 hm
 refine wv (.int .i64 z2628) ((wanted_eq z z z (cvb hc2640)).trans z) z z (wv (.int .i64 ((a1).length : Int)) ((wanted_eq z z z (cvb hc2640)).trans z) z z (wv (.bool (decide (z2628 < ((a1).length : Int)))) ((wanted_eq z z z (cvb hc2640)).trans z) z z (wv (.bool (decide (z2628 < ((a1).length : Int)))) z z (x_pick_t hc2640 z z) (wv (.bool (decide (z2628 < ((a1).length : Int)))) z z z (wl_nil (tn ?_))))))
 replace hst := hst.pull1.keep2
 obtain rfl := some_inj hm
 exact ⟨(decide (z2628 < ((a1).length : Int))), _, hx2645, (fu 0 p0 z (fu 1 r1_0 z (fu 5 (.int .i64 ((a1).length : Int)) z (fu 9 (.int .i64 z2379) z (fu 10 v2626 z (fu 11 (.int .i64 z2628) z (fu 12 (.bool (decide (z2628 < ((a1).length : Int)))) z z))))))), hst⟩
}
 {
 replace hm := bif_f hc2640 hm
 refine wo hc2640 z z z z z z (wo hc2640 z z z z z z (wo hc2640 z z z z z z (wv (.bool false) z z (x_pick_f hc2640 z z) (wv (.bool false) z z z (wl_nil (tn ?_))))))
 replace hst := hst.pull1.keep2
 obtain rfl := some_inj hm
 exact ⟨false, _, hx2645, (fu 0 p0 z (fu 1 r1_0 z (fu 5 (.int .i64 ((a1).length : Int)) z (fu 9 (.int .i64 z2379) z (fu 10 v2626 z (fu 11 (.int .i64 z2628) z (fu 12 (.bool false) z z))))))), hst⟩
}
}
 {
 replace hm := bif_f hc2639 hm
 refine wo hc2639 z z z z z z (wo hc2639 z z z z z z (wv (.bool false) z z (x_pick_f hc2639 z z) (wv (.bool false) z z z (wz z z z z z z (wz z z z z z z (wz z z z z z z (wv (.bool false) z z (x_pick_f z z z) (wv (.bool false) z z z (wl_nil (tn ?_))))))))))
 replace hst := hst.pull1.keep2
 obtain rfl := some_inj hm
 exact ⟨false, _, hx2645, (fu 0 p0 z (fu 1 r1_0 z (fu 5 (.int .i64 ((a1).length : Int)) z (fu 9 (.int .i64 z2379) z (fu 10 v2626 z (fu 11 (.int .i64 z2628) z (fu 12 (.bool false) z z))))))), hst⟩
}
}
 {
 replace hm := bif_f hc2638 hm
 refine wo hc2638 z z z z z z (wo hc2638 z z z z z z (wo hc2638 z z z z z z (wv (.bool false) z z (x_pick_f hc2638 z z) (wv (.bool false) z z z (wz z z z z z z (wz z z z z z z (wv (.bool false) z z (x_pick_f z z z) (wv (.bool false) z z z (wz z z z z z z (wz z z z z z z (wz z z z z z z (wv (.bool false) z z (x_pick_f z z z) ?_))))))))))))
 refine wv (.bool false) z z z (wl_nil (tn ?_))
 replace hst := hst.pull1.keep2
 obtain rfl := some_inj hm
 exact ⟨false, _, hx2645, (fu 0 p0 z (fu 1 r1_0 z (fu 5 (.int .i64 ((a1).length : Int)) z (fu 9 (.int .i64 z2379) z (fu 10 v2626 z (fu 11 (.int .i64 z2628) z (fu 12 (.bool false) z z))))))), hst⟩
}
}
 {
 clear hst
 rintro _ w2646 ⟨z2641, σ2642, hm, rfl, hst⟩
 dsimp only [law03_told_j5] at hm
 obtain ⟨y2695, hm, hx2696⟩ := joinO_some hm
 refine wp_cut (fun a w => ∃ (σ2693 : Nat → Value), (law03_told_j6 a1 z2628 z2379 z2625) () = some y2634 ∧ a = Fr 205 (upd (upd (upd (upd (upd (upd σ2693 0 (p0)) 1 (r1_0)) 5 (.int .i64 ((a1).length : Int))) 9 (.int .i64 z2379)) 10 (v2626)) 11 (.int .i64 z2628)) ∧ St w0 w I [objO at_label_Lattice p0 a0, ownS (tyInt .i64) v2626 z2625] R) ?_ ?_
 {
 refine wp_seq (wrl (wv (p0) z z z (wv (.int .i64 z2379) z z z (wv (.int .i64 z2628) z z z ?_))))
 obtain ⟨t2647, ht2648, hm⟩ := bind_some hm
 refine wc call15 [p0, I6 z2379, I6 z2628] z z z ?_
 refine (label_Lattice_Leq_ref hst.to1 ht2648).mono ?_
 rintro _ w2649 ⟨rfl, hst⟩
 refine ⟨_, z, ?_⟩
 replace hst := hst.of1
 refine wv (r1_0) z z z (wv (.int .i64 z2379) z z z (wv (.int .i64 z2628) z z z ?_))
 obtain ⟨t2652, ht2653, hm⟩ := bind_some hm
 refine wc call32 [r1_0, I6 z2379, I6 z2628] z z z ?_
 refine (ref03_Leq_ref (f1_0.mono (rd_weak _)) hst.to0 ht2653).mono ?_
 rintro _ w2654 ⟨rfl, hst⟩
 refine ⟨_, z, ?_⟩
 replace hst := hst.of0
 refine wv (.bool (!(t2647 == t2652))) z z (by kernel_rfl) (wv (.bool (!(t2647 == t2652))) z z z ?_)
 refine bsplit (!(t2647 == t2652)) (fun hc2657 => ?_) (fun hc2657 => ?_)
 {
 replace hm := bif_t hc2657 hm
 refine wo hc2657 z z z z z z (wo hc2657 z z z z z z (wl_off (wanted_undef z z z z) z (wl_off (wanted_undef z z z z) z (wl_off (wanted_undef z z z z) z (wl_off (wanted_undef z z z z) z (wl_off (wanted_undef z z z z) z (wl_off (wanted_undef z z z z) z (wl_off (wanted_undef z z z z) z (wl_off (wanted_undef z z z z) z (wl_off (wanted_undef z z z z) z (wl_off (wanted_undef z z z z) z (wl_off (wanted_undef z z z z) z ?_))))))))))))
 refine wl_off (wanted_undef z z z z) z (wl_off (wanted_undef z z z z) z (wl_off (wanted_undef z z z z) z (wl_off (wanted_undef z z z z) z (wl_off (wanted_undef z z z z) z (wl_off (wanted_undef z z z z) z (wl_off (wanted_undef z z z z) z (wl_off (wanted_undef z z z z) z (wl_off (wanted_undef z z z z) z (wo hc2657 z z z z z z (wv (.bool true) z z (x_pick_t hc2657 z z) (wv (.bool true) z z z (wz z z z z z z ?_))))))))))))
 refine wz z z z z z z (wz z z z z z z (wl_off (wanted_undef z z z z) z (wl_off (wanted_undef z z z z) z (wl_off (wanted_undef z z z z) z (wl_off (wanted_undef z z z z) z (wl_off (wanted_undef z z z z) z (wl_off (wanted_undef z z z z) z (wl_off (wanted_undef z z z z) z (wl_off (wanted_undef z z z z) z (wl_off (wanted_undef z z z z) z (wl_off (wanted_undef z z z z) z (wl_off (wanted_undef z z z z) z ?_))))))))))))
 refine wl_off (wanted_undef z z z z) z (wz z z z z z z (wv (.bool true) z z (x_pick_t z z z) (wl_nil (tn ?_))))
 refine wp_ift z ?_
 refine wp_seq (wrl (wv (.bool false) z z z (wl_nil (tn (wp_ret (then_r ?_))))))
 replace hm := inr_up hm hx2696
 refine blk_r (then_r (then_r ?_))
 replace hm := inr_up hm hx2635
 refine blk_r (then_r ?_)
 replace hm := inr_up hm hx2720
 refine blk_r (then_r (then_r ?_))
 replace hm := inr_up hm hx2386
 refine blk_r (then_r ?_)
 obtain rfl := some_inj hm
 refine post_ret (vs := [.bool false]) results20 (rvs_cons (rv_tmp z) rvs_nil) ?_
 exact ⟨z, hst.keep1⟩
}
 {
 replace hm := bif_f hc2657 hm
 refine wv (.bool z2641) ((wanted_eq z z z (cvb hc2657)).trans z) z z (wv (.bool z2641) ((wanted_eq z z z (cvb hc2657)).trans z) z z ?_)
 refine bsplit z2641 (fun hc2658 => ?_) (fun hc2658 => ?_)
 {
 replace hm := bif_t hc2658 hm
 refine wv (p0) ((wanted_eq z z z (cvb hc2658)).trans z) z z (wv (.int .i64 z2379) ((wanted_eq z z z (cvb hc2658)).trans z) z z (wv (.int .i64 z2628) ((wanted_eq z z z (cvb hc2658)).trans z) z z ?_))
 obtain ⟨t2659, ht2660, hm⟩ := bind_some hm
 refine wl_call ((wanted_eq z z z (cvb hc2658)).trans z) z (x_call call13 z (vs := [p0, I6 z2379, I6 z2628]) z) ?_
 refine (label_Lattice_Join_ref hst.to1 ht2660).mono ?_
 rintro _ w2661 ⟨rfl, hst⟩
 refine ⟨_, z, ?_⟩
 replace hst := hst.of1
 refine wv (r1_0) ((wanted_eq z z z (cvb hc2658)).trans z) z z (wv (.int .i64 z2379) ((wanted_eq z z z (cvb hc2658)).trans z) z z (wv (.int .i64 z2628) ((wanted_eq z z z (cvb hc2658)).trans z) z z ?_))
 obtain ⟨t2664, ht2665, hm⟩ := bind_some hm
 refine wl_call ((wanted_eq z z z (cvb hc2658)).trans z) z (x_call call33 z (vs := [r1_0, I6 z2379, I6 z2628]) z) ?_
 refine (ref03_Join_ref (f1_0.mono (rd_weak _)) hst.to0 ht2665).mono ?_
 rintro _ w2666 ⟨rfl, hst⟩
 refine ⟨_, z, ?_⟩
 replace hst := hst.of0
 refine wv (.bool (t2659 != t2664)) ((wanted_eq z z z (cvb hc2658)).trans z) z z (wv (.bool (t2659 != t2664)) ((wanted_eq z z z (cvb hc2658)).trans z) z z ?_)
 refine bsplit (t2659 != t2664) (fun hc2669 => ?_) (fun hc2669 => ?_)
 {
 replace hm := bif_t hc2669 hm
 refine wo hc2669 z z z z z z (wo hc2669 z z z z z z (wo hc2669 z z z z z z (wo hc2669 z z z z z z (wo hc2669 z z z z z z (wo hc2669 z z z z z z (wo hc2669 z z z z z z (wo hc2669 z z z z z z (wo hc2669 z z z z z z (wv (.bool true) ((wanted_eq z z z (cvb hc2658)).trans z) z (x_pick_t hc2669 z z) (wv (.bool true) ((wanted_eq z z z (cvb hc2657)).trans z) z (x_pick_t hc2658 z z) (wv (.bool true) z z (x_pick_f hc2657 z z) (wv (.bool true) z z z ?_))))))))))))
 refine wz z z z z z z (wz z z z z z z (wz z z z z z z (wl_off (wanted_undef z z z z) z (wl_off (wanted_undef z z z z) z (wl_off (wanted_undef z z z z) z (wl_off (wanted_undef z z z z) z (wl_off (wanted_undef z z z z) z (wl_off (wanted_undef z z z z) z (wl_off (wanted_undef z z z z) z (wl_off (wanted_undef z z z z) z (wl_off (wanted_undef z z z z) z (wl_off (wanted_undef z z z z) z ?_))))))))))))
 refine wl_off (wanted_undef z z z z) z (wl_off (wanted_undef z z z z) z (wz z z z z z z (wv (.bool true) z z (x_pick_t z z z) (wl_nil (tn ?_)))))
 refine wp_ift z ?_
 refine wp_seq (wrl (wv (.bool false) z z z (wl_nil (tn (wp_ret (then_r ?_))))))
 replace hm := inr_up hm hx2696
 refine blk_r (then_r (then_r ?_))
 replace hm := inr_up hm hx2635
 refine blk_r (then_r ?_)
 replace hm := inr_up hm hx2720
 refine blk_r (then_r (then_r ?_))
 replace hm := inr_up hm hx2386
 refine blk_r (then_r ?_)
 obtain rfl := some_inj hm
 refine post_ret (vs := [.bool false]) results20 (rvs_cons (rv_tmp z) rvs_nil) ?_
 exact ⟨z, hst.keep1⟩
}
 {
 replace hm := bif_f hc2669 hm
 refine wv (p0) ((wanted_eq z z z (cvb hc2669)).trans z) z z (wv (.int .i64 z2379) ((wanted_eq z z z (cvb hc2669)).trans z) z z (wv (.int .i64 z2628) ((wanted_eq z z z (cvb hc2669)).trans z) z z ?_))
 obtain ⟨t2670, ht2671, hm⟩ := bind_some hm
 refine wl_call ((wanted_eq z z z (cvb hc2669)).trans z) z (x_call call14 z (vs := [p0, I6 z2379, I6 z2628]) z) ?_
 refine (label_Lattice_Meet_ref hst.to1 ht2671).mono ?_
 rintro _ w2672 ⟨rfl, hst⟩
 refine ⟨_, z, ?_⟩
 replace hst := hst.of1
 refine wv (r1_0) ((wanted_eq z z z (cvb hc2669)).trans z) z z (wv (.int .i64 z2379) ((wanted_eq z z z (cvb hc2669)).trans z) z z (wv (.int .i64 z2628) ((wanted_eq z z z (cvb hc2669)).trans z) z z ?_))
 obtain ⟨t2675, ht2676, hm⟩ := bind_some hm
 refine wl_call ((wanted_eq z z z (cvb hc2669)).trans z) z (x_call call34 z (vs := [r1_0, I6 z2379, I6 z2628]) z) ?_
 refine (ref03_Meet_ref (f1_0.mono (rd_weak _)) hst.to0 ht2676).mono ?_
 rintro _ w2677 ⟨rfl, hst⟩
 refine ⟨_, z, ?_⟩
 replace hst := hst.of0
 refine wv (.bool (t2670 != t2675)) ((wanted_eq z z z (cvb hc2669)).trans z) z z (wv (.bool (t2670 != t2675)) ((wanted_eq z z z (cvb hc2658)).trans z) z (x_pick_f hc2669 z z) (wv (.bool (t2670 != t2675)) ((wanted_eq z z z (cvb hc2657)).trans z) z (x_pick_t hc2658 z z) (wv (.bool (t2670 != t2675)) z z (x_pick_f hc2657 z z) (wv (.bool (t2670 != t2675)) z z z ?_))))
 refine bsplit (t2670 != t2675) (fun hc2680 => ?_) (fun hc2680 => ?_)
 {
 replace hm := bif_t hc2680 hm
 refine wo hc2680 z z z z z z (wo hc2680 z z z z z z (wo hc2680 z z z z z z (wl_off (wanted_undef z z z z) z (wl_off (wanted_undef z z z z) z (wl_off (wanted_undef z z z z) z (wl_off (wanted_undef z z z z) z (wl_off (wanted_undef z z z z) z (wl_off (wanted_undef z z z z) z (wl_off (wanted_undef z z z z) z (wl_off (wanted_undef z z z z) z (wl_off (wanted_undef z z z z) z (wl_off (wanted_undef z z z z) z ?_))))))))))))
 refine wl_off (wanted_undef z z z z) z (wl_off (wanted_undef z z z z) z (wo hc2680 z z z z z z (wv (.bool true) z z (x_pick_t hc2680 z z) (wl_nil (tn ?_)))))
 refine wp_ift z ?_
 refine wp_seq (wrl (wv (.bool false) z z z (wl_nil (tn (wp_ret (then_r ?_))))))
 replace hm := inr_up hm hx2696
 refine blk_r (then_r (then_r ?_))
 replace hm := inr_up hm hx2635
 refine blk_r (then_r ?_)
 replace hm := inr_up hm hx2720
 refine blk_r (then_r (then_r ?_))
 replace hm := inr_up hm hx2386
 refine blk_r (then_r ?_)
 obtain rfl := some_inj hm
 refine post_ret (vs := [.bool false]) results20 (rvs_cons (rv_tmp z) rvs_nil) ?_
 exact ⟨z, hst.keep1⟩
}
 {
 replace hm := bif_f hc2680 hm
 refine wv (.bool z2641) ((wanted_eq z z z (cvb hc2680)).trans z) z z (wv (.bool (!z2641)) ((wanted_eq z z z (cvb hc2680)).trans z) z z (wv (.bool (!z2641)) ((wanted_eq z z z (cvb hc2680)).trans z) z z (wl_off ((wanted_eq z z z (cvb (not_f hc2658))).trans z) z (wl_off ((wanted_eq z z z (cvb (not_f hc2658))).trans z) z (wl_off ((wanted_eq z z z (cvb (not_f hc2658))).trans z) z (wl_off ((wanted_eq z z z (cvb (not_f hc2658))).trans z) z (wl_off ((wanted_eq z z z (cvb (not_f hc2658))).trans z) z (wl_off ((wanted_eq z z z (cvb (not_f hc2658))).trans z) z (wl_off (wanted_undef z z z z) z (wl_off (wanted_undef z z z z) z (wl_off (wanted_undef z z z z) z (wl_off (wanted_undef z z z z) z ?_))))))))))))
 refine wl_off (wanted_undef z z z z) z (wl_off ((wanted_eq z z z (cvb (not_f hc2658))).trans z) z (wv (.bool false) ((wanted_eq z z z (cvb hc2680)).trans z) z (x_pick_f (not_f hc2658) z z) (wv (.bool false) z z (x_pick_f hc2680 z z) (wl_nil (tn ?_)))))
 refine wp_iff z ?_
 refine wp_skip (tn ?_)
 replace hst := hst.pull1.pull1.keep2
 obtain rfl := some_inj hm
 exact ⟨_, hx2696, (fu 0 p0 z (fu 1 r1_0 z (fu 5 (.int .i64 ((a1).length : Int)) z (fu 9 (.int .i64 z2379) z (fu 10 v2626 z (fu 11 (.int .i64 z2628) z z)))))), hst⟩
}
}
}
 {
 replace hm := bif_f hc2658 hm
 refine wo hc2658 z z z z z z (wo hc2658 z z z z z z (wo hc2658 z z z z z z (wo hc2658 z z z z z z (wo hc2658 z z z z z z (wo hc2658 z z z z z z (wo hc2658 z z z z z z (wo hc2658 z z z z z z (wo hc2658 z z z z z z (wo hc2658 z z z z z z (wl_off (wanted_undef z z z z) z (wl_off (wanted_undef z z z z) z (wl_off (wanted_undef z z z z) z ?_))))))))))))
 refine wl_off (wanted_undef z z z z) z (wl_off (wanted_undef z z z z) z (wl_off (wanted_undef z z z z) z (wl_off (wanted_undef z z z z) z (wl_off (wanted_undef z z z z) z (wl_off (wanted_undef z z z z) z (wo hc2658 z z z z z z (wv (.bool false) ((wanted_eq z z z (cvb hc2657)).trans z) z (x_pick_f hc2658 z z) (wv (.bool false) z z (x_pick_f hc2657 z z) (wv (.bool false) z z z (wv (.bool z2641) ((wanted_eq z z z z).trans z) z z (wv (.bool (!z2641)) ((wanted_eq z z z z).trans z) z z (wv (.bool (!z2641)) ((wanted_eq z z z z).trans z) z z ?_))))))))))))
 refine wv (p0) ((wanted_eq z z z (cvb (not_tt hc2658))).trans z) z z (wv (.int .i64 z2379) ((wanted_eq z z z (cvb (not_tt hc2658))).trans z) z z (wv (.int .i64 z2628) ((wanted_eq z z z (cvb (not_tt hc2658))).trans z) z z ?_))
 obtain ⟨t2681, ht2682, hm⟩ := bind_some hm
 refine wl_call ((wanted_eq z z z (cvb (not_tt hc2658))).trans z) z (x_call call13 z (vs := [p0, I6 z2379, I6 z2628]) z) ?_
 refine (label_Lattice_Join_ref hst.to1 ht2682).mono ?_
 rintro _ w2683 ⟨rfl, hst⟩
 refine ⟨_, z, ?_⟩
 replace hst := hst.of1
 refine wv (.bool (t2681 != ((-1):Int))) ((wanted_eq z z z (cvb (not_tt hc2658))).trans z) z z (wv (.bool (t2681 != ((-1):Int))) ((wanted_eq z z z (cvb (not_tt hc2658))).trans z) z z ?_)
 refine bsplit (t2681 != ((-1):Int)) (fun hc2686 => ?_) (fun hc2686 => ?_)
 {
 replace hm := bif_t hc2686 hm
 refine wo hc2686 z z z z z z (wo hc2686 z z z z z z (wo hc2686 z z z z z z (wo hc2686 z z z z z z (wo hc2686 z z z z z z (wv (.bool true) ((wanted_eq z z z (cvb (not_tt hc2658))).trans z) z (x_pick_t hc2686 z z) (wv (.bool true) ((wanted_eq z z z z).trans z) z (x_pick_t (not_tt hc2658) z z) (wv (.bool true) z z (x_pick_f z z z) (wl_nil (tn ?_)))))))))
 refine wp_ift z ?_
 refine wp_seq (wrl (wv (.bool false) z z z (wl_nil (tn (wp_ret (then_r ?_))))))
 replace hm := inr_up hm hx2696
 refine blk_r (then_r (then_r ?_))
 replace hm := inr_up hm hx2635
 refine blk_r (then_r ?_)
 replace hm := inr_up hm hx2720
 refine blk_r (then_r (then_r ?_))
 replace hm := inr_up hm hx2386
 refine blk_r (then_r ?_)
 obtain rfl := some_inj hm
 refine post_ret (vs := [.bool false]) results20 (rvs_cons (rv_tmp z) rvs_nil) ?_
 exact ⟨z, hst.keep1⟩
}
 {
 replace hm := bif_f hc2686 hm
 refine wv (p0) ((wanted_eq z z z (cvb hc2686)).trans z) z z (wv (.int .i64 z2379) ((wanted_eq z z z (cvb hc2686)).trans z) z z (wv (.int .i64 z2628) ((wanted_eq z z z (cvb hc2686)).trans z) z z ?_))
 obtain ⟨t2687, ht2688, hm⟩ := bind_some hm
 refine wl_call ((wanted_eq z z z (cvb hc2686)).trans z) z (x_call call14 z (vs := [p0, I6 z2379, I6 z2628]) z) ?_
 refine (label_Lattice_Meet_ref hst.to1 ht2688).mono ?_
 rintro _ w2689 ⟨rfl, hst⟩
 refine ⟨_, z, ?_⟩
 replace hst := hst.of1
 refine wv (.bool (t2687 != ((-1):Int))) ((wanted_eq z z z (cvb hc2686)).trans z) z z (wv (.bool (t2687 != ((-1):Int))) ((wanted_eq z z z (cvb (not_tt hc2658))).trans z) z (x_pick_f hc2686 z z) (wv (.bool (t2687 != ((-1):Int))) ((wanted_eq z z z z).trans z) z (x_pick_t (not_tt hc2658) z z) (wv (.bool (t2687 != ((-1):Int))) z z (x_pick_f z z z) (wl_nil (tn ?_)))))
 refine bsplit (t2687 != ((-1):Int)) (fun hc2692 => ?_) (fun hc2692 => ?_)
 {
 replace hm := bif_t hc2692 hm
 refine wp_ift (cvb hc2692) ?_
 refine wp_seq (wrl (wv (.bool false) z z z (wl_nil (tn (wp_ret (then_r ?_))))))
 replace hm := inr_up hm hx2696
 refine blk_r (then_r (then_r ?_))
 replace hm := inr_up hm hx2635
 refine blk_r (then_r ?_)
 replace hm := inr_up hm hx2720
 refine blk_r (then_r (then_r ?_))
 replace hm := inr_up hm hx2386
 refine blk_r (then_r ?_)
 obtain rfl := some_inj hm
 refine post_ret (vs := [.bool false]) results20 (rvs_cons (rv_tmp z) rvs_nil) ?_
 exact ⟨z, hst.keep1⟩
}
 {
 replace hm := bif_f hc2692 hm
 refine wp_iff (cvb hc2692) ?_
 refine wp_skip (tn ?_)
 replace hst := hst.pull1.pull1.keep2
 obtain rfl := some_inj hm
 exact ⟨_, hx2696, (fu 0 p0 z (fu 1 r1_0 z (fu 5 (.int .i64 ((a1).length : Int)) z (fu 9 (.int .i64 z2379) z (fu 10 v2626 z (fu 11 (.int .i64 z2628) z z)))))), hst⟩
}
}
}
}
}
 {
 clear hst
 rintro _ w2697 ⟨σ2693, hm, rfl, hst⟩
 dsimp only [law03_told_j6] at hm
 refine wp_seq (wrl (wv (r1_0) z z z (wv (.int .i64 z2628) z z z (wv (.int .i64 z2379) z z z ?_))))
 obtain ⟨t2698, ht2699, hm⟩ := bind_some hm
 refine wc call32 [r1_0, I6 z2628, I6 z2379] z z z ?_
 refine (ref03_Leq_ref (f1_0.mono (rd_weak _)) hst.to0 ht2699).mono ?_
 rintro _ w2700 ⟨rfl, hst⟩
 refine ⟨_, z, ?_⟩
 replace hst := hst.of0
 refine wl_nil (tn ?_)
 refine bsplit t2698 (fun hc2703 => ?_) (fun hc2703 => ?_)
 {
 replace hm := bif_t hc2703 hm
 refine wp_ift (cvb hc2703) ?_
 refine wrl (wv (v2626) z z z (wv (.int .i64 z2628) z z z ?_))
 obtain ⟨b2704, w2705, ew2706, eb2707, hst⟩ := hst.lits (E := (tyInt .i64)) (xs := [z2628]) [[I6 z2628]] 3 1 z (Reps.cons z Reps.nil)
 refine wl_run (v := (.slice (some ⟨b2704, 0, none⟩) 1 1)) (w' := w2705) z z (x_als (by kernel_rfl) ew2706 eb2707) ?_
 obtain ⟨hg2709, hm⟩ := gd_some hm
 replace hst := hst.pull2
 obtain ⟨v2710, w2711, hr2712, hst⟩ := run_append elem_41 underlying41 hst hst.src1 (room_of hg2709 z) 41
 refine wl_run (v := v2710) (w' := w2711) z z (x_append z z hr2712) ?_
 refine wv (v2710) z z z (wl_nil (blk_n (tn (wrl (wv (.int .i64 z2628) z z z (wv (.int .i64 (i64.wrap (z2628 + (1:Int)))) z z z (wv (.int .i64 (i64.wrap (z2628 + (1:Int)))) z z z (wl_nil (tn ?_)))))))))
 replace hst := hst.pull2.pull1.keep2
 obtain rfl := some_inj hm
 exact ⟨_, Nat.lt_succ_self _, (z2625 ++ ([z2628])), (i64.wrap (z2628 + (1:Int))), v2710, _, hx2635, (fu 0 p0 z (fu 1 r1_0 z (fu 5 (.int .i64 ((a1).length : Int)) z (fu 9 (.int .i64 z2379) z (fu 10 v2710 z (fu 11 (.int .i64 (i64.wrap (z2628 + (1:Int)))) z z)))))), hst⟩
}
 {
 replace hm := bif_f hc2703 hm
 refine wp_iff (cvb hc2703) ?_
 refine wp_skip (blk_n (tn (wrl ?_)))
 refine wv (.int .i64 z2628) z z z (wv (.int .i64 (i64.wrap (z2628 + (1:Int)))) z z z (wv (.int .i64 (i64.wrap (z2628 + (1:Int)))) z z z (wl_nil (tn ?_))))
 replace hst := hst.pull1.keep2
 obtain rfl := some_inj hm
 exact ⟨_, Nat.lt_succ_self _, z2625, (i64.wrap (z2628 + (1:Int))), v2626, _, hx2635, (fu 0 p0 z (fu 1 r1_0 z (fu 5 (.int .i64 ((a1).length : Int)) z (fu 9 (.int .i64 z2379) z (fu 10 v2626 z (fu 11 (.int .i64 (i64.wrap (z2628 + (1:Int)))) z z)))))), hst⟩
}
}
}
}
 {
 replace hm := bif_f hc2637 hm
 refine wp_iff (cvb hc2637) ?_
 refine wp_exit (then_x (then_x ?_))
 replace hm := inr_up hm hx2635
 refine blk_x (tn ?_)
 replace hst := hst.pull1.keep2
 obtain rfl := some_inj hm
 exact ⟨z2625, v2626, _, hx2720, (fu 0 p0 z (fu 1 r1_0 z (fu 5 (.int .i64 ((a1).length : Int)) z (fu 9 (.int .i64 z2379) z (fu 10 v2626 z z))))), hst⟩
}
}
 {
 clear hst
 rintro _ w2721 ⟨z2716, v2715, σ2717, hm, rfl, hst⟩
 dsimp only [law03_told_j3] at hm
 refine wp_seq (wrl (wv (p0) z z z (wv (.int .i64 z2379) z z z ?_)))
 obtain ⟨t2722, ht2723, hm⟩ := bind_some hm
 refine wc call24 [p0, I6 z2379] z z z ?_
 refine (label_Lattice_Below_ref hst.to1 ht2723).mono ?_
 rintro _ w2724 ⟨v2727, rfl, hst⟩
 refine ⟨_, z, ?_⟩
 replace hst := hst.of2
 refine wv (v2727) z z z (wl_nil (tn ?_))
 obtain ⟨y2764, hm, hx2765⟩ := joinO_some hm
 refine wp_cut (fun a w => ∃ (σ2762 : Nat → Value), (law03_told_j7 t2722 z2716 z2379) () = some y2385 ∧ a = Fr 205 (upd (upd (upd (upd (upd (upd σ2762 0 (p0)) 1 (r1_0)) 5 (.int .i64 ((a1).length : Int))) 9 (.int .i64 z2379)) 10 (v2715)) 13 (v2727)) ∧ St w0 w I [objO at_label_Lattice p0 a0, ownS (tyInt .i64) v2715 z2716, ownS (tyInt .i64) v2727 t2722] R) ?_ ?_
 {
 refine wp_seq (wrl (wv (v2727) z z z (wv (.int .i64 ((t2722).length : Int)) z z (x_len z underlying41 hst.sv0) (wv (v2715) z z z (wv (.int .i64 ((z2716).length : Int)) z z (x_len z underlying41 hst.sv2) (wv (.bool (((t2722).length : Int) != ((z2716).length : Int))) z z z (wv (.bool (((t2722).length : Int) != ((z2716).length : Int))) z z z ?_)))))))
 refine bsplit (((t2722).length : Int) != ((z2716).length : Int)) (fun hc2729 => ?_) (fun hc2729 => ?_)
 {
 replace hm := bif_t hc2729 hm
 refine wo hc2729 z z z z z z (wo hc2729 z z z z z z (wo hc2729 z z z z z z (wo hc2729 z z z z z z (wo hc2729 z z z z z z (wo hc2729 z z z z z z (wl_off (wanted_undef z z z z) z (wl_off (wanted_undef z z z z) z (wl_off (wanted_undef z z z z) z (wo hc2729 z z z z z z (wo hc2729 z z z z z z (wv (.bool true) z z (x_pick_t hc2729 z z) (wv (.bool true) z z z ?_))))))))))))
 refine wz z z z z z z (wz z z z z z z (wz z z z z z z (wz z z z z z z (wz z z z z z z (wl_off (wanted_undef z z z z) z (wl_off (wanted_undef z z z z) z (wl_off (wanted_undef z z z z) z (wl_off (wanted_undef z z z z) z (wz z z z z z z (wv (.bool true) z z (x_pick_t z z z) (wl_nil (tn ?_))))))))))))
 refine wp_ift z ?_
 refine wp_seq (wrl (wv (.bool false) z z z (wl_nil (tn (wp_ret (then_r ?_))))))
 replace hm := inr_up hm hx2765
 refine blk_r (then_r (then_r ?_))
 replace hm := inr_up hm hx2386
 refine blk_r (then_r ?_)
 obtain rfl := some_inj hm
 refine post_ret (vs := [.bool false]) results20 (rvs_cons (rv_tmp z) rvs_nil) ?_
 replace hst := hst.pull1
 exact ⟨z, hst.keep1⟩
}
 {
 replace hm := bif_f hc2729 hm
 refine wv (p0) ((wanted_eq z z z (cvb hc2729)).trans z) z z (wv (.int .i64 z2379) ((wanted_eq z z z (cvb hc2729)).trans z) z z ?_)
 replace hst := hst.pull1
 obtain ⟨t2730, ht2731, hm⟩ := bind_some hm
 refine wl_call ((wanted_eq z z z (cvb hc2729)).trans z) z (x_call call23 z (vs := [p0, I6 z2379]) z) ?_
 refine (label_Lattice_Is_ref hst.to1 ht2731).mono ?_
 rintro _ w2732 ⟨rfl, hst⟩
 refine ⟨_, z, ?_⟩
 replace hst := hst.of1
 refine wv (.int .i64 z2379) ((wanted_eq z z z (cvb hc2729)).trans z) z z (wv (.bool (decide (z2379 ≥ (0:Int)))) ((wanted_eq z z z (cvb hc2729)).trans z) z z (wv (.bool (decide (z2379 ≥ (0:Int)))) ((wanted_eq z z z (cvb hc2729)).trans z) z z ?_))
 refine bsplit (decide (z2379 ≥ (0:Int))) (fun hc2735 => ?_) (fun hc2735 => ?_)
 {
 replace hm := bif_t hc2735 hm
 refine wv (.int .i64 z2379) ((wanted_eq z z z (cvb hc2735)).trans z) z z (wv (.int .i64 ((a1).length : Int)) ((wanted_eq z z z (cvb hc2735)).trans z) z z (wv (.bool (decide (z2379 < ((a1).length : Int)))) ((wanted_eq z z z (cvb hc2735)).trans z) z z (wv (.bool (decide (z2379 < ((a1).length : Int)))) ((wanted_eq z z z (cvb hc2729)).trans z) z (x_pick_t hc2735 z z) (wv (.bool (!(t2730 == (decide (z2379 < ((a1).length : Int)))))) ((wanted_eq z z z (cvb hc2729)).trans z) z (by kernel_rfl) (wv (.bool (!(t2730 == (decide (z2379 < ((a1).length : Int)))))) z z (x_pick_f hc2729 z z) (wv (.bool (!(t2730 == (decide (z2379 < ((a1).length : Int)))))) z z z ?_))))))
 refine bsplit (!(t2730 == (decide (z2379 < ((a1).length : Int))))) (fun hc2736 => ?_) (fun hc2736 => ?_)
 {
 replace hm := bif_t hc2736 hm
 refine wo hc2736 z z z z z z (wo hc2736 z z z z z z (wo hc2736 z z z z z z (wo hc2736 z z z z z z (wo hc2736 z z z z z z (wl_off (wanted_undef z z z z) z (wl_off (wanted_undef z z z z) z (wl_off (wanted_undef z z z z) z (wl_off (wanted_undef z z z z) z (wo hc2736 z z z z z z (wv (.bool true) z z (x_pick_t hc2736 z z) (wl_nil (tn ?_))))))))))))
 refine wp_ift z ?_
 refine wp_seq (wrl (wv (.bool false) z z z (wl_nil (tn (wp_ret (then_r ?_))))))
 replace hm := inr_up hm hx2765
 refine blk_r (then_r (then_r ?_))
 replace hm := inr_up hm hx2386
 refine blk_r (then_r ?_)
 obtain rfl := some_inj hm
 refine post_ret (vs := [.bool false]) results20 (rvs_cons (rv_tmp z) rvs_nil) ?_
 exact ⟨z, hst.keep1⟩
}
 {
 replace hm := bif_f hc2736 hm
 refine wv (p0) ((wanted_eq z z z (cvb hc2736)).trans z) z z (wv (.int .i64 z2379) ((wanted_eq z z z (cvb hc2736)).trans z) z z ?_)
 obtain ⟨t2737, ht2738, hm⟩ := bind_some hm
 refine wl_call ((wanted_eq z z z (cvb hc2736)).trans z) z (x_call call23 z (vs := [p0, I6 z2379]) z) ?_
 refine (label_Lattice_Is_ref hst.to1 ht2738).mono ?_
 rintro _ w2739 ⟨rfl, hst⟩
 refine ⟨_, z, ?_⟩
 replace hst := hst.of1
 refine wv (.bool (!t2737)) ((wanted_eq z z z (cvb hc2736)).trans z) z z (wv (.bool (!t2737)) ((wanted_eq z z z (cvb hc2736)).trans z) z z ?_)
 refine bsplit (!t2737) (fun hc2742 => ?_) (fun hc2742 => ?_)
 {
 replace hm := bif_t hc2742 hm
 refine wv (p0) ((wanted_eq z z z (cvb hc2742)).trans z) z z (wv (.int .i64 z2379) ((wanted_eq z z z (cvb hc2742)).trans z) z z ?_)
 obtain ⟨t2743, ht2744, hm⟩ := bind_some hm
 refine wl_call ((wanted_eq z z z (cvb hc2742)).trans z) z (x_call call18 z (vs := [p0, I6 z2379]) z) ?_
 refine (label_Lattice_Rank_ref hst.to1 ht2744).mono ?_
 rintro _ w2745 ⟨rfl, hst⟩
 refine ⟨_, z, ?_⟩
 replace hst := hst.of1
 refine wv (.bool (t2743 != ((-1):Int))) ((wanted_eq z z z (cvb hc2742)).trans z) z z (wv (.bool (t2743 != ((-1):Int))) ((wanted_eq z z z (cvb hc2736)).trans z) z (x_pick_t hc2742 z z) (wv (.bool (t2743 != ((-1):Int))) z z (x_pick_f hc2736 z z) (wl_nil (tn ?_))))
 refine bsplit (t2743 != ((-1):Int)) (fun hc2748 => ?_) (fun hc2748 => ?_)
 {
 replace hm := bif_t hc2748 hm
 refine wp_ift (cvb hc2748) ?_
 refine wp_seq (wrl (wv (.bool false) z z z (wl_nil (tn (wp_ret (then_r ?_))))))
 replace hm := inr_up hm hx2765
 refine blk_r (then_r (then_r ?_))
 replace hm := inr_up hm hx2386
 refine blk_r (then_r ?_)
 obtain rfl := some_inj hm
 refine post_ret (vs := [.bool false]) results20 (rvs_cons (rv_tmp z) rvs_nil) ?_
 exact ⟨z, hst.keep1⟩
}
 {
 replace hm := bif_f hc2748 hm
 refine wp_iff (cvb hc2748) ?_
 refine wp_skip (tn ?_)
 replace hst := hst.pull1.pull2.pull2.keep3
 obtain rfl := some_inj hm
 exact ⟨_, hx2765, (fu 0 p0 z (fu 1 r1_0 z (fu 5 (.int .i64 ((a1).length : Int)) z (fu 9 (.int .i64 z2379) z (fu 10 v2715 z (fu 13 v2727 z z)))))), hst⟩
}
}
 {
 replace hm := bif_f hc2742 hm
 refine wo hc2742 z z z z z z (wo hc2742 z z z z z z (wo hc2742 z z z z z z (wo hc2742 z z z z z z (wv (.bool false) ((wanted_eq z z z (cvb hc2736)).trans z) z (x_pick_f hc2742 z z) (wv (.bool false) z z (x_pick_f hc2736 z z) (wl_nil (tn ?_)))))))
 refine wp_iff z ?_
 refine wp_skip (tn ?_)
 replace hst := hst.pull1.pull2.pull2.keep3
 obtain rfl := some_inj hm
 exact ⟨_, hx2765, (fu 0 p0 z (fu 1 r1_0 z (fu 5 (.int .i64 ((a1).length : Int)) z (fu 9 (.int .i64 z2379) z (fu 10 v2715 z (fu 13 v2727 z z)))))), hst⟩
}
}
}
 {
 replace hm := bif_f hc2735 hm
 refine wo hc2735 z z z z z z (wo hc2735 z z z z z z (wo hc2735 z z z z z z (wv (.bool false) ((wanted_eq z z z (cvb hc2729)).trans z) z (x_pick_f hc2735 z z) (wv (.bool (!(t2730 == false))) ((wanted_eq z z z (cvb hc2729)).trans z) z (by kernel_rfl) (wv (.bool (!(t2730 == false))) z z (x_pick_f hc2729 z z) (wv (.bool (!(t2730 == false))) z z z ?_))))))
 refine bsplit (!(t2730 == false)) (fun hc2749 => ?_) (fun hc2749 => ?_)
 {
 replace hm := bif_t hc2749 hm
 refine wo hc2749 z z z z z z (wo hc2749 z z z z z z (wo hc2749 z z z z z z (wo hc2749 z z z z z z (wo hc2749 z z z z z z (wl_off (wanted_undef z z z z) z (wl_off (wanted_undef z z z z) z (wl_off (wanted_undef z z z z) z (wl_off (wanted_undef z z z z) z (wo hc2749 z z z z z z (wv (.bool true) z z (x_pick_t hc2749 z z) (wl_nil (tn ?_))))))))))))
 refine wp_ift z ?_
 refine wp_seq (wrl (wv (.bool false) z z z (wl_nil (tn (wp_ret (then_r ?_))))))
 replace hm := inr_up hm hx2765
 refine blk_r (then_r (then_r ?_))
 replace hm := inr_up hm hx2386
 refine blk_r (then_r ?_)
 obtain rfl := some_inj hm
 refine post_ret (vs := [.bool false]) results20 (rvs_cons (rv_tmp z) rvs_nil) ?_
 exact ⟨z, hst.keep1⟩
}
 {
 replace hm := bif_f hc2749 hm
 refine wv (p0) ((wanted_eq z z z (cvb hc2749)).trans z) z z (wv (.int .i64 z2379) ((wanted_eq z z z (cvb hc2749)).trans z) z z ?_)
 obtain ⟨t2750, ht2751, hm⟩ := bind_some hm
 refine wl_call ((wanted_eq z z z (cvb hc2749)).trans z) z (x_call call23 z (vs := [p0, I6 z2379]) z) ?_
 refine (label_Lattice_Is_ref hst.to1 ht2751).mono ?_
 rintro _ w2752 ⟨rfl, hst⟩
 refine ⟨_, z, ?_⟩
 replace hst := hst.of1
 refine wv (.bool (!t2750)) ((wanted_eq z z z (cvb hc2749)).trans z) z z (wv (.bool (!t2750)) ((wanted_eq z z z (cvb hc2749)).trans z) z z ?_)
 refine bsplit (!t2750) (fun hc2755 => ?_) (fun hc2755 => ?_)
 {
 replace hm := bif_t hc2755 hm
 refine wv (p0) ((wanted_eq z z z (cvb hc2755)).trans z) z z (wv (.int .i64 z2379) ((wanted_eq z z z (cvb hc2755)).trans z) z z ?_)
 obtain ⟨t2756, ht2757, hm⟩ := bind_some hm
 refine wl_call ((wanted_eq z z z (cvb hc2755)).trans z) z (x_call call18 z (vs := [p0, I6 z2379]) z) ?_
 refine (label_Lattice_Rank_ref hst.to1 ht2757).mono ?_
 rintro _ w2758 ⟨rfl, hst⟩
 refine ⟨_, z, ?_⟩
 replace hst := hst.of1
 refine wv (.bool (t2756 != ((-1):Int))) ((wanted_eq z z z (cvb hc2755)).trans z) z z (wv (.bool (t2756 != ((-1):Int))) ((wanted_eq z z z (cvb hc2749)).trans z) z (x_pick_t hc2755 z z) (wv (.bool (t2756 != ((-1):Int))) z z (x_pick_f hc2749 z z) (wl_nil (tn ?_))))
 refine bsplit (t2756 != ((-1):Int)) (fun hc2761 => ?_) (fun hc2761 => ?_)
 {
 replace hm := bif_t hc2761 hm
 refine wp_ift (cvb hc2761) ?_
 refine wp_seq (wrl (wv (.bool false) z z z (wl_nil (tn (wp_ret (then_r ?_))))))
 replace hm := inr_up hm hx2765
 refine blk_r (then_r (then_r ?_))
 replace hm := inr_up hm hx2386
 refine blk_r (then_r ?_)
 obtain rfl := some_inj hm
 refine post_ret (vs := [.bool false]) results20 (rvs_cons (rv_tmp z) rvs_nil) ?_
 exact ⟨z, hst.keep1⟩
}
 {
 replace hm := bif_f hc2761 hm
 refine wp_iff (cvb hc2761) ?_
 refine wp_skip (tn ?_)
 replace hst := hst.pull1.pull2.pull2.keep3
 obtain rfl := some_inj hm
 exact ⟨_, hx2765, (fu 0 p0 z (fu 1 r1_0 z (fu 5 (.int .i64 ((a1).length : Int)) z (fu 9 (.int .i64 z2379) z (fu 10 v2715 z (fu 13 v2727 z z)))))), hst⟩
}
}
 {
 replace hm := bif_f hc2755 hm
 refine wo hc2755 z z z z z z (wo hc2755 z z z z z z (wo hc2755 z z z z z z (wo hc2755 z z z z z z (wv (.bool false) ((wanted_eq z z z (cvb hc2749)).trans z) z (x_pick_f hc2755 z z) (wv (.bool false) z z (x_pick_f hc2749 z z) (wl_nil (tn ?_)))))))
 refine wp_iff z ?_
 refine wp_skip (tn ?_)
 replace hst := hst.pull1.pull2.pull2.keep3
 obtain rfl := some_inj hm
 exact ⟨_, hx2765, (fu 0 p0 z (fu 1 r1_0 z (fu 5 (.int .i64 ((a1).length : Int)) z (fu 9 (.int .i64 z2379) z (fu 10 v2715 z (fu 13 v2727 z z)))))), hst⟩
}
}
}
}
}
 {
 clear hst
 rintro _ w2766 ⟨σ2762, hm, rfl, hst⟩
 dsimp only [law03_told_j7] at hm
 refine wp_seq (wrl (wv (.int .i64 (0:Int)) z z z (wl_nil (tn (wp_block ?_)))))
 obtain ⟨n2794, hm⟩ := loopO_some hm
 refine wp_loop_n (fun n a w => ∃ (z2792 : Int) (σ2793 : Nat → Value), loopN (law03_told_l8 t2722 z2716 z2379) n z2792 = some y2385 ∧ a = Fr 205 (upd (upd (upd (upd (upd (upd (upd σ2793 0 (p0)) 1 (r1_0)) 5 (.int .i64 ((a1).length : Int))) 9 (.int .i64 z2379)) 10 (v2715)) 13 (v2727)) 14 (.int .i64 z2792)) ∧ St w0 w I [objO at_label_Lattice p0 a0, ownS (tyInt .i64) v2715 z2716, ownS (tyInt .i64) v2727 t2722] R) n2794 ⟨(0:Int), _, hm, (fu 0 p0 z (fu 1 r1_0 z (fu 5 (.int .i64 ((a1).length : Int)) z (fu 9 (.int .i64 z2379) z (fu 10 v2715 z (fu 13 v2727 z (fu 14 (.int .i64 (0:Int)) z z))))))), hst⟩ ?_
 rintro n2800 _ w2795 ⟨z2792, σ2793, hm, rfl, hst⟩
 obtain ⟨n2797, y2798, rfl, hm, hx2799⟩ := loopN_some hm
 dsimp only [law03_told_l8] at hm
 refine wp_seq (wp_seq (wrl (wv (.int .i64 z2792) z z z (wv (v2727) z z z (wv (.int .i64 ((t2722).length : Int)) z z (x_len z underlying41 hst.sv2) (wv (.bool (decide (z2792 < ((t2722).length : Int)))) z z z (wl_nil (tn ?_))))))))
 refine bsplit (decide (z2792 < ((t2722).length : Int))) (fun hc2801 => ?_) (fun hc2801 => ?_)
 {
 replace hm := bif_t hc2801 hm
 refine wp_ift (cvb hc2801) ?_
 refine wp_skip (tn (wp_seq (wp_block (wp_seq ?_))))
 refine wq_regionS hst Try.mixed (by kernel_rfl) ?_
 refine wq_run (v := v2727) z z (fun w hst => z) ?_
 refine wq_run (v := .int .i64 z2792) z z (fun w hst => z) ?_
 obtain ⟨x2802, hx2803, hm⟩ := bind_some hm
 obtain ⟨h2804, h2805, hi2806⟩ := geto_some hx2803
 refine wq_run (v := .pointer (some (eAddr v2727 (z2792.toNat * 1 + 0)))) z z (fun w hst => x_index z z underlying41 sizeOf3 hst.sv2 h2804 h2805) ?_
 refine wq_run (v := .int .i64 x2802) z z (fun w hst => x_load z isAgg3 (hst.ol2 hi2806 (by rintro _ rfl; rfl))) ?_
 refine wq_run (v := v2715) z z (fun w hst => z) ?_
 refine wq_run (v := .int .i64 z2792) z z (fun w hst => z) ?_
 obtain ⟨x2807, hx2808, hm⟩ := bind_some hm
 obtain ⟨h2809, h2810, hi2811⟩ := geto_some hx2808
 refine wq_run (v := .pointer (some (eAddr v2715 (z2792.toNat * 1 + 0)))) z z (fun w hst => x_index z z underlying41 sizeOf3 hst.sv1 h2809 h2810) ?_
 refine wq_run (v := .int .i64 x2807) z z (fun w hst => x_load z isAgg3 (hst.ol1 hi2811 (by rintro _ rfl; rfl))) ?_
 refine wq_run (v := .bool (x2802 != x2807)) z z (fun w hst => z) ?_
 refine wq_nil ?_
 intro w hst
 refine tn ?_
 refine bsplit (x2802 != x2807) (fun hc2812 => ?_) (fun hc2812 => ?_)
 {
 replace hm := bif_t hc2812 hm
 refine wp_ift (cvb hc2812) ?_
 refine wp_seq (wrl (wv (.bool false) z z z (wl_nil (tn (wp_ret (blk_r (then_r (then_r ?_))))))))
 replace hm := inr_up hm hx2799
 refine blk_r (blk_r (then_r (then_r ?_)))
 replace hm := inr_up hm hx2386
 refine blk_r (then_r ?_)
 obtain rfl := some_inj hm
 refine post_ret (vs := [.bool false]) results20 (rvs_cons (rv_tmp z) rvs_nil) ?_
 exact ⟨z, hst.keep1⟩
}
 {
 replace hm := bif_f hc2812 hm
 refine wp_iff (cvb hc2812) ?_
 refine wp_skip (blk_n (tn (wrl ?_)))
 refine wv (.int .i64 z2792) z z z (wv (.int .i64 (i64.wrap (z2792 + (1:Int)))) z z z (wv (.int .i64 (i64.wrap (z2792 + (1:Int)))) z z z (wl_nil (tn ?_))))
 replace hst := hst.pull2.pull2.pull2.keep3
 obtain rfl := some_inj hm
 exact ⟨_, Nat.lt_succ_self _, (i64.wrap (z2792 + (1:Int))), _, hx2799, (fu 0 p0 z (fu 1 r1_0 z (fu 5 (.int .i64 ((a1).length : Int)) z (fu 9 (.int .i64 z2379) z (fu 10 v2715 z (fu 13 v2727 z (fu 14 (.int .i64 (i64.wrap (z2792 + (1:Int)))) z z))))))), hst⟩
}
}
 {
 replace hm := bif_f hc2801 hm
 refine wp_iff (cvb hc2801) ?_
 refine wp_exit (then_x (then_x ?_))
 replace hm := inr_up hm hx2799
 refine blk_x (blk_n (tn (wrl ?_)))
 refine wv (.int .i64 z2379) z z z (wv (.int .i64 (i64.wrap (z2379 + (1:Int)))) z z z (wv (.int .i64 (i64.wrap (z2379 + (1:Int)))) z z z (wl_nil (tn ?_))))
 replace hst := hst.keep1
 obtain rfl := some_inj hm
 exact ⟨_, Nat.lt_succ_self _, (i64.wrap (z2379 + (1:Int))), _, hx2386, (fu 0 p0 z (fu 1 r1_0 z (fu 5 (.int .i64 ((a1).length : Int)) z (fu 9 (.int .i64 (i64.wrap (z2379 + (1:Int)))) z z)))), hst⟩
}
}
}
}
 {
 replace hm := bif_f hc2388 hm
 refine wp_iff (cvb hc2388) ?_
 refine wp_exit (then_x (then_x ?_))
 replace hm := inr_up hm hx2386
 refine blk_x (tn (wp_seq (wrl ?_)))
 refine wv (.bool true) z z z (wl_nil (tn (wp_ret ?_)))
 obtain rfl := some_inj hm
 refine post_ret (vs := [.bool true]) results20 (rvs_cons (rv_tmp z) rvs_nil) ?_
 exact ⟨z, hst.keep1⟩
}
}
}
}
}
}
}

theorem law03_LabelOrders_ref {w0 w : World} {I : HL} {R : SP} {a0 : Int} {a1 : (List Int)} {r1_0 : Value} (f1_0 : Rd (tyInt .u8) R I r1_0 a1) (hst : St w0 w I [] R) {r : (Bool)} (hm : law03_LabelOrders a0 a1 = some r) :
  Calls prog 5 #[U1 a0, r1_0] w fun e w' => ∃ (I' : HL), e = .returned (.bool r) ∧ I.le I' ∧ St w0 w' I' [] R := by {
 unfold law03_LabelOrders at hm
 refine calls_start (args := [U1 a0, r1_0]) func5 z ntmps5 (Nat.le_of_ble_eq_true z) ?_
 have hI0 := HL.le.refl I
 refine wp_seq (wrl (wv (.bool false) z z z (wl_nil (tn (wp_seq (wp_seq (wrl ?_)))))))
 obtain ⟨t41, ht42, hm⟩ := bind_some hm
 refine wc call9 [] z z z ?_
 refine (law03_awake_ref hst.to0 ht42).mono ?_
 rintro _ w43 ⟨I44, rfl, hI45, hst⟩
 refine ⟨_, z, ?_⟩
 replace hst := hst.of0
 replace f1_0 := f1_0.mono (rd_le hI45)
 replace hI0 := hI0.trans hI45
 refine wv (.bool (!t41)) z z z (wl_nil (tn ?_))
 refine bsplit (!t41) (fun hc46 => ?_) (fun hc46 => ?_)
 {
 replace hm := bif_t hc46 hm
 refine wp_ift (cvb hc46) ?_
 refine wp_seq (wrl (wv (.bool false) z z z (wl_nil (tn (wp_ret (then_r ?_))))))
 obtain rfl := some_inj hm
 refine post_ret (vs := [.bool false]) results5 (rvs_cons (rv_tmp z) rvs_nil) ?_
 exact ⟨_, z, hI0, hst.keep0⟩
}
 {
 replace hm := bif_f hc46 hm
 refine wp_iff (cvb hc46) ?_
 refine wp_skip (tn (wp_seq (wrl ?_)))
 refine wv (.int .u8 a0) z z z (wv (r1_0) z z z ?_)
 obtain ⟨t47, ht48, hm⟩ := bind_some hm
 refine wc call11 [U1 a0, r1_0] z z z ?_
 refine (law03_order_ref (f1_0.mono (rd_weak _)) hst.to0 ht48).mono ?_
 rintro _ w49 ⟨v52, rfl, hst⟩
 refine ⟨_, z, ?_⟩
 replace hst := hst.of1
 refine wv (v52) z z z (wl_nil (tn (wp_seq (wrl (wv (v52) z z z ?_)))))
 obtain ⟨css54, hq55, hst⟩ := hst.own_open
 obtain ⟨t56, ht57, hm⟩ := bind_some hm
 refine wc call10 [v52] z z z ?_
 refine (label_New_ref (hst.rdrow0 hq55) hst.to0 ht57).mono ?_
 rintro _ w58 ⟨I59, v61, rfl, hI60, hst⟩
 refine ⟨_, z, ?_⟩
 replace hst := hst.of1
 replace f1_0 := f1_0.mono (rd_le hI60)
 replace hI0 := hI0.trans hI60
 replace hst := hst.pull1.own_close (hq55.imp fun _ _ => Ty.mono _ (ro_le hI60))
 refine wv (.tuple #[v61, I6 t56.2]) z z z (wv (v61) z z z (wv (.int .i64 t56.2) z z z (wv (v61) z z z (wv (.int .i64 t56.2) z z z (wl_nil (tn (wp_seq (wrl (wv (v52) z z z ?_)))))))))
 obtain ⟨css63, hq64, hst⟩ := hst.own_open
 obtain ⟨t65, ht66, hm⟩ := bind_some hm
 refine wc call19 [v52] z z z ?_
 refine (ref03_Check_ref (hst.rdrow0 hq64) hst.to0 ht66).mono ?_
 rintro _ w67 ⟨rfl, hst⟩
 refine ⟨_, z, ?_⟩
 replace hst := hst.of0.own_close hq64
 refine wv (.int .i64 t65) z z z (wl_nil (tn (wp_seq (wrl (wv (.int .i64 t56.2) z z z (wv (.int .i64 t65) z z z (wv (.bool (t56.2 == t65)) z z z (wv (.bool (t56.2 == t65)) z z z ?_))))))))
 refine bsplit (t56.2 == t65) (fun hc70 => ?_) (fun hc70 => ?_)
 {
 replace hm := bif_t hc70 hm
 refine wv (.int .i64 t65) ((wanted_eq z z z (cvb hc70)).trans z) z z (wv (.bool (t65 != (0:Int))) ((wanted_eq z z z (cvb hc70)).trans z) z z (wv (.bool (t65 != (0:Int))) ((wanted_eq z z z (cvb hc70)).trans z) z z ?_))
 refine bsplit (t65 != (0:Int)) (fun hc71 => ?_) (fun hc71 => ?_)
 {
 replace hm := bif_t hc71 hm
 refine wo hc71 z z z z z z (wo hc71 z z z z z z (wo hc71 z z z z z z (wv (.bool true) ((wanted_eq z z z (cvb hc70)).trans z) z (x_pick_t hc71 z z) (wv (.bool true) z z (x_pick_t hc70 z z) (wv (.bool true) z z z (wl_nil (tn (wp_ret ?_))))))))
 obtain rfl := some_inj hm
 refine post_ret (vs := [.bool true]) results5 (rvs_cons (rv_tmp z) rvs_nil) ?_
 exact ⟨_, z, hI0, hst.keep0⟩
}
 {
 replace hm := bif_f hc71 hm
 refine wv (v61) ((wanted_eq z z z (cvb hc71)).trans z) z z (wv (v52) ((wanted_eq z z z (cvb hc71)).trans z) z z ?_)
 obtain ⟨css72, hq73, hst⟩ := hst.own_open
 replace hst := hst.pull1
 obtain ⟨t74, ht75, hm⟩ := bind_some hm
 refine wl_call ((wanted_eq z z z (cvb hc71)).trans z) z (x_call call20 z (vs := [v61, v52]) z) ?_
 refine (law03_told_ref (hst.sub.rdrow0 hq73) hst.to1 ht75).mono ?_
 rintro _ w76 ⟨rfl, hst⟩
 refine ⟨_, z, ?_⟩
 replace hst := hst.of1.pull1.own_close hq73
 refine wv (.bool t74) ((wanted_eq z z z (cvb hc70)).trans z) z (x_pick_f hc71 z z) (wv (.bool t74) z z (x_pick_t hc70 z z) (wv (.bool t74) z z z (wl_nil (tn (wp_ret ?_)))))
 obtain rfl := some_inj hm
 refine post_ret (vs := [.bool t74]) results5 (rvs_cons (rv_tmp z) rvs_nil) ?_
 exact ⟨_, z, hI0, hst.keep0⟩
}
}
 {
 replace hm := bif_f hc70 hm
 refine wo hc70 z z z z z z (wo hc70 z z z z z z (wo hc70 z z z z z z (wl_off (wanted_undef z z z z) z (wl_off (wanted_undef z z z z) z (wl_off (wanted_undef z z z z) z (wo hc70 z z z z z z (wv (.bool false) z z (x_pick_f hc70 z z) (wv (.bool false) z z z (wl_nil (tn (wp_ret ?_)))))))))))
 obtain rfl := some_inj hm
 refine post_ret (vs := [.bool false]) results5 (rvs_cons (rv_tmp z) rvs_nil) ?_
 exact ⟨_, z, hI0, hst.keep0⟩
}
}
}

end Go.Proofs.Ytddhkbholbcebaa
