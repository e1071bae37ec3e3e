/- The Go functions refine their models, part 3. -/
import Derived.Test.YtddhkbholbcebaaLabelKeepsR2
set_option linter.unusedVariables false
set_option linter.unusedSimpArgs false
set_option maxRecDepth 100000
set_option maxHeartbeats 4000000
namespace Go.Proofs.Ytddhkbholbcebaa
open Go Go.V
open _root_.Go.Proofs.Try IntKind
attribute [local irreducible] wpList Code.wp wpQuiet Calls bodyPost Oper.wp wpS Nx PendOK YieldsIn
theorem law03_told_ref {w0 w : World} {I : HL} {R : SP} {a0 : (Option label_Lattice)} {p0 : Value} {a1 : (List Int)} {r1_0 : Value} (f1_0 : Rd (tyInt .u64) R I r1_0 a1) (hst : St w0 w I [objO at_label_Lattice p0 a0] R) {r : (Bool)} (hm : law03_told a0 a1 = some r) :
  Calls prog 20 #[p0, r1_0] w fun e w' => e = .returned (.bool r) ∧ St w0 w' I [objO at_label_Lattice p0 a0] R := by {
 unfold law03_told at hm
 refine calls_start (args := [p0, r1_0]) func20 z ntmps20 (Nat.le_of_ble_eq_true z) ?_
 refine wp_seq (wrl (wv (.bool false) z z z (wl_nil (tn (wp_seq (wrl (wv (r1_0) z z z (wv (.int .i64 ((a1).length : Int)) z z (x_len z underlying28 (rd_sliceV f1_0)) (wv (.int .i64 ((a1).length : Int)) z z z (wl_nil (tn (wp_seq (wp_seq (wrl (wv (p0) z z z ?_)))))))))))))))
 obtain ⟨t1506, ht1507, hm⟩ := bind_some hm
 refine wc call12 [p0] z z z ?_
 refine (label_Lattice_Len_ref hst.to1 ht1507).mono ?_
 rintro _ w1508 ⟨rfl, hst⟩
 refine ⟨_, z, ?_⟩
 replace hst := hst.of1
 refine wv (.int .i64 ((a1).length : Int)) z z z (wv (.bool (t1506 != ((a1).length : Int))) z z z (wl_nil (tn ?_)))
 refine bsplit (t1506 != ((a1).length : Int)) (fun hc1511 => ?_) (fun hc1511 => ?_)
 {
 replace hm := bif_t hc1511 hm
 refine wp_ift (cvb hc1511) ?_
 refine wp_seq (wrl (wv (.bool false) z z z (wl_nil (tn (wp_ret (then_r ?_))))))
 obtain rfl := some_inj hm
 refine post_ret (vs := [.bool false]) results20 (rvs_cons (rv_tmp z) rvs_nil) ?_
 exact ⟨z, hst.keep1⟩
}
 {
 replace hm := bif_f hc1511 hm
 refine wp_iff (cvb hc1511) ?_
 refine wp_skip (tn (wp_seq (wrl ?_)))
 refine wv (r1_0) z z z ?_
 obtain ⟨t1512, ht1513, hm⟩ := bind_some hm
 refine wc call35 [r1_0] z z z ?_
 refine (ref03_Order_ref (f1_0.mono (rd_weak _)) hst.to0 ht1513).mono ?_
 rintro _ w1514 ⟨v1517, rfl, hst⟩
 refine ⟨_, z, ?_⟩
 replace hst := hst.of1
 refine wv (v1517) z z z (wl_nil (tn (wp_seq (wrl (wv (p0) z z z ?_)))))
 replace hst := hst.pull1
 obtain ⟨t1519, ht1520, hm⟩ := bind_some hm
 refine wc call22 [p0] z z z ?_
 refine (label_Lattice_Order_ref hst.to1 ht1520).mono ?_
 rintro _ w1521 ⟨v1524, rfl, hst⟩
 refine ⟨_, z, ?_⟩
 replace hst := hst.of2
 refine wv (v1524) z z z (wl_nil (tn (wp_seq (wp_seq ?_))))
 refine wp_region_St hst 22 [0, 1, 2, 3, 4, 5, 6, 7, 8, 9, 10, 11, 12, 13, 14, 15, 16, 17, 18, 19, 20, 21] [0, 1, 0, 7, 15, 31, 63, 31, 159, 415, 1023, 2047, 4095, 8191, 16383, 8191, 8191, 73727, 237567, 499711, 1048575, 2097151] [] z (by kernel_rfl) (by kernel_rfl) Try.mixed (by kernel_rfl) ?_
 refine wsr (v1524) 0 z z z (by kernel_rfl) (fun w hst => z) (wsr (.int .i64 ((t1519).length : Int)) 1 z z z (by kernel_rfl) (fun w hst => x_len z underlying41 hst.sv0) (wsr (.int .i64 ((a1).length : Int)) 2 z z z (by kernel_rfl) (fun w hst => z) (wsr (.bool (((t1519).length : Int) != ((a1).length : Int))) 3 z z z (by kernel_rfl) (fun w hst => z) (wsr (.bool (((t1519).length : Int) != ((a1).length : Int))) 4 z z z (by kernel_rfl) (fun w hst => z) ?_))))
 refine bsplit (((t1519).length : Int) != ((a1).length : Int)) (fun hc1526 => ?_) (fun hc1526 => ?_)
 {
 replace hm := bif_t hc1526 hm
 refine ws_q (v := undef) 5 [6, 7, 8, 9, 10, 11, 12, 13, 14, 15, 16, 17, 18, 19, 20, 21] (by kernel_rfl) z z (yi_off ((wanted_eq z z z (cvb hc1526)).trans z)) (ws_q (v := undef) 6 [7, 8, 9, 10, 11, 12, 13, 14, 15, 16, 17, 18, 19, 20, 21] (by kernel_rfl) z z (yi_off ((wanted_eq z z z (cvb hc1526)).trans z)) (ws_q (v := undef) 7 [8, 9, 10, 11, 12, 13, 14, 15, 16, 17, 18, 19, 20, 21] (by kernel_rfl) z z (yi_off ((wanted_eq z z z (cvb hc1526)).trans z)) (ws_q (v := undef) 8 [9, 10, 11, 12, 13, 14, 15, 16, 17, 18, 19, 20, 21] (by kernel_rfl) z z (yi_off ((wanted_eq z z z (cvb hc1526)).trans z)) (ws_q (v := undef) 9 [10, 11, 12, 13, 14, 15, 16, 17, 18, 19, 20, 21] (by kernel_rfl) z z (yi_off ((wanted_eq z z z (cvb hc1526)).trans z)) (ws_q (v := undef) 10 [11, 12, 13, 14, 15, 16, 17, 18, 19, 20, 21] (by kernel_rfl) z z (yi_off ((wanted_eq z z z (cvb hc1526)).trans z)) (wsr (.bool true) 11 z z z (by kernel_rfl) (fun w hst => x_pick_t hc1526 z z) (wsr (.bool true) 12 z z z (by kernel_rfl) (fun w hst => z) (ws_q (v := undef) 13 [14, 15, 16, 17, 18, 19, 20, 21] (by kernel_rfl) z z (yi_off ((wanted_eq z z z z).trans z)) (ws_q (v := undef) 14 [15, 16, 17, 18, 19, 20, 21] (by kernel_rfl) z z (yi_off ((wanted_eq z z z z).trans z)) (ws_q (v := undef) 15 [16, 17, 18, 19, 20, 21] (by kernel_rfl) z z (yi_off ((wanted_eq z z z z).trans z)) (ws_q (v := undef) 16 [17, 18, 19, 20, 21] (by kernel_rfl) z z (yi_off ((wanted_eq z z z z).trans z)) (ws_q (v := undef) 17 [18, 19, 20, 21] (by kernel_rfl) z z (yi_off ((wanted_eq z z z z).trans z)) ?_))))))))))))
 refine ws_q (v := undef) 18 [19, 20, 21] (by kernel_rfl) z z (yi_off ((wanted_eq z z z z).trans z)) (ws_q (v := undef) 19 [20, 21] (by kernel_rfl) z z (yi_off ((wanted_eq z z z z).trans z)) (ws_q (v := undef) 20 [21] (by kernel_rfl) z z (yi_off ((wanted_eq z z z z).trans z)) (wsr (.bool true) 21 z z z (by kernel_rfl) (fun w hst => x_pick_t z z z) ?_)))
 refine ws_nil ?_
 intro w hst
 refine tn ?_
 refine wp_ift z ?_
 refine wp_seq (wrl (wv (.bool false) z z z (wl_nil (tn (wp_ret (then_r ?_))))))
 obtain rfl := some_inj hm
 refine post_ret (vs := [.bool false]) results20 (rvs_cons (rv_tmp z) rvs_nil) ?_
 replace hst := hst.pull1
 exact ⟨z, hst.keep1⟩
}
 {
 replace hm := bif_f hc1526 hm
 refine ws_q (v := p0) 5 [6, 7, 8, 9, 10, 11, 12, 13, 14, 15, 16, 17, 18, 19, 20, 21] (by kernel_rfl) z z (yi_run ((wanted_eq z z z (cvb hc1526)).trans z) (fun w hst => z)) (ws_q (v := v1517) 7 [6, 8, 9, 10, 11, 12, 13, 14, 15, 16, 17, 18, 19, 20, 21] (by kernel_rfl) z z (yi_run ((wanted_eq z z z (cvb hc1526)).trans z) (fun w hst => z)) ?_)
 obtain ⟨x1527, hx1528, hm⟩ := bind_some hm
 obtain ⟨h1529, h1530, hi1531⟩ := geto_some hx1528
 refine ws_q (v := .pointer (some (eAddr v1517 ((0:Int).toNat * 1 + 0)))) 8 [6, 9, 10, 11, 12, 13, 14, 15, 16, 17, 18, 19, 20, 21] (by kernel_rfl) z z (yi_run ((wanted_eq z z z (cvb hc1526)).trans z) (fun w hst => x_index z z underlying41 sizeOf3 hst.sv2 h1529 h1530)) (ws_q (v := .int .i64 x1527) 9 [6, 10, 11, 12, 13, 14, 15, 16, 17, 18, 19, 20, 21] (by kernel_rfl) z z (yi_run ((wanted_eq z z z (cvb hc1526)).trans z) (fun w hst => x_load z isAgg3 (hst.ol2 hi1531 (by rintro _ rfl; rfl)))) ?_)
 refine ws_e1 6 (by kernel_rfl) ?_
 refine nxe [10, 11, 12, 13, 14, 15, 16, 17, 18, 19, 20, 21] (by kernel_rfl) z ((wanted_eq z z z (cvb hc1526)).trans z) ?_
 clear hst
 intro w hst
 replace hst := hst.pull1
 obtain ⟨t1532, ht1533, hm⟩ := bind_some hm
 refine wec call16 [p0] z z ?_
 refine (label_Lattice_Bottom_ref hst.to1 ht1533).mono ?_
 rintro _ w1534 ⟨rfl, hst⟩
 refine ⟨_, z, ?_⟩
 replace hst := hst.of1
 refine ws_next (pend' := [(9, I6 x1527), (8, .pointer (some (eAddr v1517 ((0:Int).toNat * 1 + 0)))), (7, v1517)]) hst (by kernel_rfl) (pk_cons z (yi_run ((wanted_eq z z z (cvb hc1526)).trans z) (fun w hst => x_load z isAgg3 (hst.ol2 hi1531 (by rintro _ rfl; rfl)))) (pk_cons z (yi_run ((wanted_eq z z z (cvb hc1526)).trans z) (fun w hst => x_index z z underlying41 sizeOf3 hst.sv2 h1529 h1530)) (pk_cons z (yi_run ((wanted_eq z z z (cvb hc1526)).trans z) (fun w hst => z)) pk_nil))) ?_
 refine ws_q (v := .bool (t1532 != x1527)) 10 [11, 12, 13, 14, 15, 16, 17, 18, 19, 20, 21] (by kernel_rfl) z z (yi_run ((wanted_eq z z z (cvb hc1526)).trans z) (fun w hst => z)) (wsr (.bool (t1532 != x1527)) 11 z z z (by kernel_rfl) (fun w hst => x_pick_f hc1526 z z) (wsr (.bool (t1532 != x1527)) 12 z z z (by kernel_rfl) (fun w hst => z) ?_))
 refine bsplit (t1532 != x1527) (fun hc1537 => ?_) (fun hc1537 => ?_)
 {
 replace hm := bif_t hc1537 hm
 refine ws_q (v := undef) 13 [14, 15, 16, 17, 18, 19, 20, 21] (by kernel_rfl) z z (yi_off ((wanted_eq z z z (cvb hc1537)).trans z)) (ws_q (v := undef) 14 [15, 16, 17, 18, 19, 20, 21] (by kernel_rfl) z z (yi_off ((wanted_eq z z z (cvb hc1537)).trans z)) (ws_q (v := undef) 15 [16, 17, 18, 19, 20, 21] (by kernel_rfl) z z (yi_off ((wanted_eq z z z (cvb hc1537)).trans z)) (ws_q (v := undef) 16 [17, 18, 19, 20, 21] (by kernel_rfl) z z (yi_off ((wanted_eq z z z (cvb hc1537)).trans z)) (ws_q (v := undef) 17 [18, 19, 20, 21] (by kernel_rfl) z z (yi_off ((wanted_eq z z z (cvb hc1537)).trans z)) (ws_q (v := undef) 18 [19, 20, 21] (by kernel_rfl) z z (yi_off ((wanted_eq z z z (cvb hc1537)).trans z)) (ws_q (v := undef) 19 [20, 21] (by kernel_rfl) z z (yi_off ((wanted_eq z z z (cvb hc1537)).trans z)) (ws_q (v := undef) 20 [21] (by kernel_rfl) z z (yi_off ((wanted_eq z z z (cvb hc1537)).trans z)) (wsr (.bool true) 21 z z z (by kernel_rfl) (fun w hst => x_pick_t hc1537 z z) ?_))))))))
 refine ws_nil ?_
 intro w hst
 refine tn ?_
 refine wp_ift z ?_
 refine wp_seq (wrl (wv (.bool false) z z z (wl_nil (tn (wp_ret (then_r ?_))))))
 obtain rfl := some_inj hm
 refine post_ret (vs := [.bool false]) results20 (rvs_cons (rv_tmp z) rvs_nil) ?_
 exact ⟨z, hst.keep1⟩
}
 {
 replace hm := bif_f hc1537 hm
 refine ws_q (v := p0) 13 [14, 15, 16, 17, 18, 19, 20, 21] (by kernel_rfl) z z (yi_run ((wanted_eq z z z (cvb hc1537)).trans z) (fun w hst => z)) (ws_q (v := v1517) 15 [14, 16, 17, 18, 19, 20, 21] (by kernel_rfl) z z (yi_run ((wanted_eq z z z (cvb hc1537)).trans z) (fun w hst => z)) (ws_q (v := .int .i64 ((a1).length : Int)) 16 [14, 17, 18, 19, 20, 21] (by kernel_rfl) z z (yi_run ((wanted_eq z z z (cvb hc1537)).trans z) (fun w hst => z)) (ws_q (v := .int .i64 (i64.wrap (((a1).length : Int) - (1:Int)))) 17 [14, 18, 19, 20, 21] (by kernel_rfl) z z (yi_run ((wanted_eq z z z (cvb hc1537)).trans z) (fun w hst => z)) ?_)))
 obtain ⟨x1538, hx1539, hm⟩ := bind_some hm
 obtain ⟨h1540, h1541, hi1542⟩ := geto_some hx1539
 refine ws_q (v := .pointer (some (eAddr v1517 ((i64.wrap (((a1).length : Int) - (1:Int))).toNat * 1 + 0)))) 18 [14, 19, 20, 21] (by kernel_rfl) z z (yi_run ((wanted_eq z z z (cvb hc1537)).trans z) (fun w hst => x_index z z underlying41 sizeOf3 hst.sv2 h1540 h1541)) (ws_q (v := .int .i64 x1538) 19 [14, 20, 21] (by kernel_rfl) z z (yi_run ((wanted_eq z z z (cvb hc1537)).trans z) (fun w hst => x_load z isAgg3 (hst.ol2 hi1542 (by rintro _ rfl; rfl)))) ?_)
 refine ws_e1 14 (by kernel_rfl) ?_
 refine nxe [20, 21] (by kernel_rfl) z ((wanted_eq z z z (cvb hc1537)).trans z) ?_
 clear hst
 intro w hst
 obtain ⟨t1543, ht1544, hm⟩ := bind_some hm
 refine wec call17 [p0] z z ?_
 refine (label_Lattice_Top_ref hst.to1 ht1544).mono ?_
 rintro _ w1545 ⟨rfl, hst⟩
 refine ⟨_, z, ?_⟩
 replace hst := hst.of1
 refine ws_next (pend' := [(19, I6 x1538), (18, .pointer (some (eAddr v1517 ((i64.wrap (((a1).length : Int) - (1:Int))).toNat * 1 + 0)))), (17, I6 (i64.wrap (((a1).length : Int) - (1:Int)))), (16, I6 ((a1).length : Int)), (15, v1517)]) hst (by kernel_rfl) (pk_cons z (yi_run ((wanted_eq z z z (cvb hc1537)).trans z) (fun w hst => x_load z isAgg3 (hst.ol2 hi1542 (by rintro _ rfl; rfl)))) (pk_cons z (yi_run ((wanted_eq z z z (cvb hc1537)).trans z) (fun w hst => x_index z z underlying41 sizeOf3 hst.sv2 h1540 h1541)) (pk_cons z (yi_run ((wanted_eq z z z (cvb hc1537)).trans z) (fun w hst => z)) (pk_cons z (yi_run ((wanted_eq z z z (cvb hc1537)).trans z) (fun w hst => z)) (pk_cons z (yi_run ((wanted_eq z z z (cvb hc1537)).trans z) (fun w hst => z)) pk_nil))))) ?_
 refine ws_q (v := .bool (t1543 != x1538)) 20 [21] (by kernel_rfl) z z (yi_run ((wanted_eq z z z (cvb hc1537)).trans z) (fun w hst => z)) (wsr (.bool (t1543 != x1538)) 21 z z z (by kernel_rfl) (fun w hst => x_pick_f hc1537 z z) ?_)
 refine ws_nil ?_
 intro w hst
 refine tn ?_
 refine bsplit (t1543 != x1538) (fun hc1548 => ?_) (fun hc1548 => ?_)
 {
 replace hm := bif_t hc1548 hm
 refine wp_ift (cvb hc1548) ?_
 refine wp_seq (wrl (wv (.bool false) z z z (wl_nil (tn (wp_ret (then_r ?_))))))
 obtain rfl := some_inj hm
 refine post_ret (vs := [.bool false]) results20 (rvs_cons (rv_tmp z) rvs_nil) ?_
 exact ⟨z, hst.keep1⟩
}
 {
 replace hm := bif_f hc1548 hm
 refine wp_iff (cvb hc1548) ?_
 refine wp_skip (tn ?_)
 obtain ⟨y1610, hm, hx1611⟩ := joinO_some hm
 refine wp_cut (fun a w => ∃ (σ1608 : Nat → Value), (law03_told_j0 a1 a0) () = some r ∧ a = Fr 205 (upd (upd (upd σ1608 0 (p0)) 1 (r1_0)) 5 (.int .i64 ((a1).length : Int))) ∧ St w0 w I [objO at_label_Lattice p0 a0] R) ?_ ?_
 {
 refine wp_seq (wrl (wv (.int .i64 (0:Int)) z z z (wl_nil (tn (wp_block ?_)))))
 obtain ⟨n1583, hm⟩ := loopO_some hm
 refine wp_loop_n (fun n a w => ∃ (z1581 : Int) (σ1582 : Nat → Value), loopN (law03_told_l1 a1 t1519 t1512 a0) n z1581 = some y1610 ∧ a = Fr 205 (upd (upd (upd (upd (upd (upd σ1582 0 (p0)) 1 (r1_0)) 5 (.int .i64 ((a1).length : Int))) 6 (v1517)) 7 (v1524)) 8 (.int .i64 z1581)) ∧ St w0 w I [objO at_label_Lattice p0 a0, ownS (tyInt .i64) v1524 t1519, ownS (tyInt .i64) v1517 t1512] R) n1583 ⟨(0:Int), _, hm, (fu 0 p0 z (fu 1 r1_0 z (fu 5 (.int .i64 ((a1).length : Int)) z (fu 6 v1517 z (fu 7 v1524 z (fu 8 (.int .i64 (0:Int)) z z)))))), hst⟩ ?_
 rintro n1589 _ w1584 ⟨z1581, σ1582, hm, rfl, hst⟩
 obtain ⟨n1586, y1587, rfl, hm, hx1588⟩ := loopN_some hm
 dsimp only [law03_told_l1] at hm
 refine wp_seq (wp_seq (wrl (wv (.int .i64 z1581) z z z (wv (.int .i64 ((a1).length : Int)) z z z (wv (.bool (decide (z1581 < ((a1).length : Int)))) z z z (wl_nil (tn ?_)))))))
 refine bsplit (decide (z1581 < ((a1).length : Int))) (fun hc1590 => ?_) (fun hc1590 => ?_)
 {
 replace hm := bif_t hc1590 hm
 refine wp_ift (cvb hc1590) ?_
 refine wp_skip (tn (wp_seq (wp_block (wp_seq ?_))))
 refine wp_region_St hst 19 [0, 1, 2, 3, 4, 5, 6, 7, 8, 9, 10, 11, 12, 13, 14, 15, 16, 17, 18] [0, 0, 3, 7, 0, 0, 48, 112, 255, 511, 1023, 1023, 1023, 7167, 15359, 32767, 1023, 131071, 262143] [] z (by kernel_rfl) (by kernel_rfl) Try.mixed (by kernel_rfl) ?_
 refine wsr (v1524) 0 z z z (by kernel_rfl) (fun w hst => z) (wsr (.int .i64 z1581) 1 z z z (by kernel_rfl) (fun w hst => z) ?_)
 obtain ⟨x1591, hx1592, hm⟩ := bind_some hm
 obtain ⟨h1593, h1594, hi1595⟩ := geto_some hx1592
 refine wsr (.pointer (some (eAddr v1524 (z1581.toNat * 1 + 0)))) 2 z z z (by kernel_rfl) (fun w hst => x_index z z underlying41 sizeOf3 hst.sv1 h1593 h1594) (wsr (.int .i64 x1591) 3 z z z (by kernel_rfl) (fun w hst => x_load z isAgg3 (hst.ol1 hi1595 (by rintro _ rfl; rfl))) (wsr (v1517) 4 z z z (by kernel_rfl) (fun w hst => z) (wsr (.int .i64 z1581) 5 z z z (by kernel_rfl) (fun w hst => z) ?_)))
 obtain ⟨x1596, hx1597, hm⟩ := bind_some hm
 obtain ⟨h1598, h1599, hi1600⟩ := geto_some hx1597
 refine wsr (.pointer (some (eAddr v1517 (z1581.toNat * 1 + 0)))) 6 z z z (by kernel_rfl) (fun w hst => x_index z z underlying41 sizeOf3 hst.sv2 h1598 h1599) (wsr (.int .i64 x1596) 7 z z z (by kernel_rfl) (fun w hst => x_load z isAgg3 (hst.ol2 hi1600 (by rintro _ rfl; rfl))) (wsr (.bool (x1591 != x1596)) 8 z z z (by kernel_rfl) (fun w hst => z) (wsr (.bool (x1591 != x1596)) 9 z z z (by kernel_rfl) (fun w hst => z) ?_)))
 refine bsplit (x1591 != x1596) (fun hc1601 => ?_) (fun hc1601 => ?_)
 {
 replace hm := bif_t hc1601 hm
 refine ws_q (v := undef) 10 [11, 12, 13, 14, 15, 16, 17, 18] (by kernel_rfl) z z (yi_off ((wanted_eq z z z (cvb hc1601)).trans z)) (ws_q (v := undef) 11 [12, 13, 14, 15, 16, 17, 18] (by kernel_rfl) z z (yi_off ((wanted_eq z z z (cvb hc1601)).trans z)) (ws_q (v := undef) 12 [13, 14, 15, 16, 17, 18] (by kernel_rfl) z z (yi_off ((wanted_eq z z z (cvb hc1601)).trans z)) (ws_q (v := undef) 13 [14, 15, 16, 17, 18] (by kernel_rfl) z z (yi_off ((wanted_eq z z z (cvb hc1601)).trans z)) (ws_q (v := undef) 14 [15, 16, 17, 18] (by kernel_rfl) z z (yi_off ((wanted_eq z z z (cvb hc1601)).trans z)) (ws_q (v := undef) 15 [16, 17, 18] (by kernel_rfl) z z (yi_off ((wanted_eq z z z (cvb hc1601)).trans z)) (ws_q (v := undef) 16 [17, 18] (by kernel_rfl) z z (yi_off ((wanted_eq z z z (cvb hc1601)).trans z)) (ws_q (v := undef) 17 [18] (by kernel_rfl) z z (yi_off ((wanted_eq z z z (cvb hc1601)).trans z)) (wsr (.bool true) 18 z z z (by kernel_rfl) (fun w hst => x_pick_t hc1601 z z) ?_))))))))
 refine ws_nil ?_
 intro w hst
 refine tn ?_
 refine wp_ift z ?_
 refine wp_seq (wrl (wv (.bool false) z z z (wl_nil (tn (wp_ret (blk_r (then_r (then_r ?_))))))))
 replace hm := inr_up hm hx1588
 refine blk_r (then_r ?_)
 replace hm := inr_up hm hx1611
 obtain rfl := some_inj hm
 refine post_ret (vs := [.bool false]) results20 (rvs_cons (rv_tmp z) rvs_nil) ?_
 exact ⟨z, hst.keep1⟩
}
 {
 replace hm := bif_f hc1601 hm
 refine ws_q (v := p0) 10 [11, 12, 13, 14, 15, 16, 17, 18] (by kernel_rfl) z z (yi_run ((wanted_eq z z z (cvb hc1601)).trans z) (fun w hst => z)) (ws_q (v := v1517) 11 [12, 13, 14, 15, 16, 17, 18] (by kernel_rfl) z z (yi_run ((wanted_eq z z z (cvb hc1601)).trans z) (fun w hst => z)) (ws_q (v := .int .i64 z1581) 12 [13, 14, 15, 16, 17, 18] (by kernel_rfl) z z (yi_run ((wanted_eq z z z (cvb hc1601)).trans z) (fun w hst => z)) (ws_q (v := .pointer (some (eAddr v1517 (z1581.toNat * 1 + 0)))) 13 [14, 15, 16, 17, 18] (by kernel_rfl) z z (yi_run ((wanted_eq z z z (cvb hc1601)).trans z) (fun w hst => x_index z z underlying41 sizeOf3 hst.sv2 h1598 h1599)) (ws_q (v := .int .i64 x1596) 14 [15, 16, 17, 18] (by kernel_rfl) z z (yi_run ((wanted_eq z z z (cvb hc1601)).trans z) (fun w hst => x_load z isAgg3 (hst.ol2 hi1600 (by rintro _ rfl; rfl)))) (ws_q (v := .int .i64 z1581) 16 [15, 17, 18] (by kernel_rfl) z z (yi_run ((wanted_eq z z z (cvb hc1601)).trans z) (fun w hst => z)) ?_)))))
 refine ws_e1 15 (by kernel_rfl) ?_
 refine nxe [17, 18] (by kernel_rfl) z ((wanted_eq z z z (cvb hc1601)).trans z) ?_
 clear hst
 intro w hst
 obtain ⟨t1602, ht1603, hm⟩ := bind_some hm
 refine wec call18 [p0, I6 x1596] z z ?_
 refine (label_Lattice_Rank_ref hst.to1 ht1603).mono ?_
 rintro _ w1604 ⟨rfl, hst⟩
 refine ⟨_, z, ?_⟩
 replace hst := hst.of1
 refine ws_next (pend' := [(16, I6 z1581)]) hst (by kernel_rfl) (pk_cons z (yi_run ((wanted_eq z z z (cvb hc1601)).trans z) (fun w hst => z)) pk_nil) ?_
 refine ws_q (v := .bool (t1602 != z1581)) 17 [18] (by kernel_rfl) z z (yi_run ((wanted_eq z z z (cvb hc1601)).trans z) (fun w hst => z)) (wsr (.bool (t1602 != z1581)) 18 z z z (by kernel_rfl) (fun w hst => x_pick_f hc1601 z z) ?_)
 refine ws_nil ?_
 intro w hst
 refine tn ?_
 refine bsplit (t1602 != z1581) (fun hc1607 => ?_) (fun hc1607 => ?_)
 {
 replace hm := bif_t hc1607 hm
 refine wp_ift (cvb hc1607) ?_
 refine wp_seq (wrl (wv (.bool false) z z z (wl_nil (tn (wp_ret (blk_r (then_r (then_r ?_))))))))
 replace hm := inr_up hm hx1588
 refine blk_r (then_r ?_)
 replace hm := inr_up hm hx1611
 obtain rfl := some_inj hm
 refine post_ret (vs := [.bool false]) results20 (rvs_cons (rv_tmp z) rvs_nil) ?_
 exact ⟨z, hst.keep1⟩
}
 {
 replace hm := bif_f hc1607 hm
 refine wp_iff (cvb hc1607) ?_
 refine wp_skip (blk_n (tn (wrl ?_)))
 refine wv (.int .i64 z1581) z z z (wv (.int .i64 (i64.wrap (z1581 + (1:Int)))) z z z (wv (.int .i64 (i64.wrap (z1581 + (1:Int)))) z z z (wl_nil (tn ?_))))
 replace hst := hst.pull2.pull2.pull2.keep3
 obtain rfl := some_inj hm
 exact ⟨_, Nat.lt_succ_self _, (i64.wrap (z1581 + (1:Int))), _, hx1588, (fu 0 p0 z (fu 1 r1_0 z (fu 5 (.int .i64 ((a1).length : Int)) z (fu 6 v1517 z (fu 7 v1524 z (fu 8 (.int .i64 (i64.wrap (z1581 + (1:Int)))) z z)))))), hst⟩
}
}
}
 {
 replace hm := bif_f hc1590 hm
 refine wp_iff (cvb hc1590) ?_
 refine wp_exit (then_x (then_x ?_))
 replace hm := inr_up hm hx1588
 refine blk_x (tn ?_)
 replace hst := hst.keep1
 obtain rfl := some_inj hm
 exact ⟨_, hx1611, (fu 0 p0 z (fu 1 r1_0 z (fu 5 (.int .i64 ((a1).length : Int)) z z))), hst⟩
}
}
 {
 clear hst
 rintro _ w1612 ⟨σ1608, hm, rfl, hst⟩
 dsimp only [law03_told_j0] at hm
 refine wp_seq (wp_seq (wrl (wv (.int .i64 ((-1):Int)) z z z (wl_nil (tn (wp_block ?_))))))
 obtain ⟨n2462, hm⟩ := loopO_some hm
 refine wp_loop_n (fun n a w => ∃ (z2460 : Int) (σ2461 : Nat → Value), loopN (law03_told_l2 a1 a0) n z2460 = some r ∧ a = Fr 205 (upd (upd (upd (upd σ2461 0 (p0)) 1 (r1_0)) 5 (.int .i64 ((a1).length : Int))) 9 (.int .i64 z2460)) ∧ St w0 w I [objO at_label_Lattice p0 a0] R) n2462 ⟨((-1):Int), _, hm, (fu 0 p0 z (fu 1 r1_0 z (fu 5 (.int .i64 ((a1).length : Int)) z (fu 9 (.int .i64 ((-1):Int)) z z)))), hst⟩ ?_
 rintro n2468 _ w2463 ⟨z2460, σ2461, hm, rfl, hst⟩
 obtain ⟨n2465, y2466, rfl, hm, hx2467⟩ := loopN_some hm
 dsimp only [law03_told_l2] at hm
 refine wp_seq (wp_seq (wrl (wv (.int .i64 z2460) z z z (wv (.int .i64 ((a1).length : Int)) z z z (wv (.bool (decide (z2460 ≤ ((a1).length : Int)))) z z z (wl_nil (tn ?_)))))))
 refine bsplit (decide (z2460 ≤ ((a1).length : Int))) (fun hc2469 => ?_) (fun hc2469 => ?_)
 {
 replace hm := bif_t hc2469 hm
 refine wp_ift (cvb hc2469) ?_
 refine wp_skip (tn (wp_seq (wp_block (wp_seq (wrl ?_)))))
 refine wv ((.slice none 0 0)) z z z (wl_nil (tn ?_))
 obtain ⟨y2800, hm, hx2801⟩ := joinO_some hm
 refine wp_cut (fun a w => ∃ (z2797 : (List Int)) (v2796 : Value) (σ2798 : Nat → Value), (law03_told_j3 a0 z2460 a1) z2797 = some y2466 ∧ a = Fr 205 (upd (upd (upd (upd (upd σ2798 0 (p0)) 1 (r1_0)) 5 (.int .i64 ((a1).length : Int))) 9 (.int .i64 z2460)) 10 (v2796)) ∧ St w0 w I [objO at_label_Lattice p0 a0, ownS (tyInt .i64) v2796 z2797] R) ?_ ?_
 {
 refine wp_seq (wrl (wv (.int .i64 ((-1):Int)) z z z (wl_nil (tn (wp_block ?_)))))
 replace hst := hst.own_nil (tyInt .i64)
 obtain ⟨n2711, hm⟩ := loopO_some hm
 refine wp_loop_n (fun n a w => ∃ (z2706 : (List Int)) (z2709 : Int) (v2707 : Value) (σ2710 : Nat → Value), loopN (law03_told_l4 a1 z2460 a0) n (z2706, z2709) = some y2800 ∧ a = Fr 205 (upd (upd (upd (upd (upd (upd σ2710 0 (p0)) 1 (r1_0)) 5 (.int .i64 ((a1).length : Int))) 9 (.int .i64 z2460)) 10 (v2707)) 11 (.int .i64 z2709)) ∧ St w0 w I [ownS (tyInt .i64) v2707 z2706, objO at_label_Lattice p0 a0] R) n2711 ⟨[], ((-1):Int), Zs, _, hm, (fu 0 p0 z (fu 1 r1_0 z (fu 5 (.int .i64 ((a1).length : Int)) z (fu 9 (.int .i64 z2460) z (fu 10 (.slice none 0 0) z (fu 11 (.int .i64 ((-1):Int)) z z)))))), hst⟩ ?_
 rintro n2717 _ w2712 ⟨z2706, z2709, v2707, σ2710, hm, rfl, hst⟩
 obtain ⟨n2714, y2715, rfl, hm, hx2716⟩ := loopN_some hm
 dsimp only [law03_told_l4] at hm
 refine wp_seq (wp_seq (wrl (wv (.int .i64 z2709) z z z (wv (.int .i64 ((a1).length : Int)) z z z (wv (.bool (decide (z2709 ≤ ((a1).length : Int)))) z z z (wl_nil (tn ?_)))))))
 refine bsplit (decide (z2709 ≤ ((a1).length : Int))) (fun hc2718 => ?_) (fun hc2718 => ?_)
 {
 replace hm := bif_t hc2718 hm
 refine wp_ift (cvb hc2718) ?_
 refine wp_skip (tn (wp_seq (wp_block ?_)))
 obtain ⟨y2725, hm, hx2726⟩ := bind_some hm
 refine wp_cut (fun a w => ∃ (z2722 : Bool) (σ2723 : Nat → Value), (law03_told_j5 a0 z2460 z2709 a1 z2706) z2722 = some y2715 ∧ a = Fr 205 (upd (upd (upd (upd (upd (upd (upd σ2723 0 (p0)) 1 (r1_0)) 5 (.int .i64 ((a1).length : Int))) 9 (.int .i64 z2460)) 10 (v2707)) 11 (.int .i64 z2709)) 12 (.bool z2722)) ∧ St w0 w I [objO at_label_Lattice p0 a0, ownS (tyInt .i64) v2707 z2706] R) ?_ ?_
 {
 refine wrl (wv (.int .i64 z2460) z z z (wv (.bool (decide (z2460 ≥ (0:Int)))) z z z (wv (.bool (decide (z2460 ≥ (0:Int)))) z z z ?_)))
 refine bsplit (decide (z2460 ≥ (0:Int))) (fun hc2719 => ?_) (fun hc2719 => ?_)
 {
 replace hm := bif_t hc2719 hm
 refine wv (.int .i64 z2460) ((wanted_eq z z z (cvb hc2719)).trans z) z z (wv (.int .i64 ((a1).length : Int)) ((wanted_eq z z z (cvb hc2719)).trans z) z z (wv (.bool (decide (z2460 < ((a1).length : Int)))) ((wanted_eq z z z (cvb hc2719)).trans z) z z (wv (.bool (decide (z2460 < ((a1).length : Int)))) z z (x_pick_t hc2719 z z) (wv (.bool (decide (z2460 < ((a1).length : Int)))) z z z ?_))))
 refine bsplit (decide (z2460 < ((a1).length : Int))) (fun hc2720 => ?_) (fun hc2720 => ?_)
 {
 replace hm := bif_t hc2720 hm
 refine wv (.int .i64 z2709) ((wanted_eq z z z (cvb hc2720)).trans z) z z (wv (.bool (decide (z2709 ≥ (0:Int)))) ((wanted_eq z z z (cvb hc2720)).trans z) z z (wv (.bool (decide (z2709 ≥ (0:Int)))) z z (x_pick_t hc2720 z z) (wv (.bool (decide (z2709 ≥ (0:Int)))) z z z ?_)))
 refine bsplit (decide (z2709 ≥ (0:Int))) (fun hc2721 => ?_) (fun hc2721 => ?_)
 {
 replace hm := bif_t hc2721 hm
 refine wv (.int .i64 z2709) ((wanted_eq z z z (cvb hc2721)).trans z) z z (wv (.int .i64 ((a1).length : Int)) ((wanted_eq z z z (cvb hc2721)).trans z) z z (wv (.bool (decide (z2709 < ((a1).length : Int)))) ((wanted_eq z z z (cvb hc2721)).trans z) z z (wv (.bool (decide (z2709 < ((a1).length : Int)))) z z (x_pick_t hc2721 z z) (wv (.bool (decide (z2709 < ((a1).length : Int)))) z z z (wl_nil (tn ?_))))))
 replace hst := hst.pull1.keep2
 obtain rfl := some_inj hm
 exact ⟨(decide (z2709 < ((a1).length : Int))), _, hx2726, (fu 0 p0 z (fu 1 r1_0 z (fu 5 (.int .i64 ((a1).length : Int)) z (fu 9 (.int .i64 z2460) z (fu 10 v2707 z (fu 11 (.int .i64 z2709) z (fu 12 (.bool (decide (z2709 < ((a1).length : Int)))) z z))))))), hst⟩
}
 {
 replace hm := bif_f hc2721 hm
 refine wo hc2721 z z z z z z (wo hc2721 z z z z z z (wo hc2721 z z z z z z (wv (.bool false) z z (x_pick_f hc2721 z z) (wv (.bool false) z z z (wl_nil (tn ?_))))))
 replace hst := hst.pull1.keep2
 obtain rfl := some_inj hm
 exact ⟨false, _, hx2726, (fu 0 p0 z (fu 1 r1_0 z (fu 5 (.int .i64 ((a1).length : Int)) z (fu 9 (.int .i64 z2460) z (fu 10 v2707 z (fu 11 (.int .i64 z2709) z (fu 12 (.bool false) z z))))))), hst⟩
}
}
 {
 replace hm := bif_f hc2720 hm
 refine wo hc2720 z z z z z z (wo hc2720 z z z z z z (wv (.bool false) z z (x_pick_f hc2720 z z) (wv (.bool false) z z z (wz z z z z z z (wz z z z z z z (wz z z z z z z (wv (.bool false) z z (x_pick_f z z z) (wv (.bool false) z z z (wl_nil (tn ?_))))))))))
 replace hst := hst.pull1.keep2
 obtain rfl := some_inj hm
 exact ⟨false, _, hx2726, (fu 0 p0 z (fu 1 r1_0 z (fu 5 (.int .i64 ((a1).length : Int)) z (fu 9 (.int .i64 z2460) z (fu 10 v2707 z (fu 11 (.int .i64 z2709) z (fu 12 (.bool false) z z))))))), hst⟩
}
}
 {
 replace hm := bif_f hc2719 hm
 refine wo hc2719 z z z z z z (wo hc2719 z z z z z z (wo hc2719 z z z z z z (wv (.bool false) z z (x_pick_f hc2719 z z) (wv (.bool false) z z z (wz z z z z z z (wz z z z z z z (wv (.bool false) z z (x_pick_f z z z) (wv (.bool false) z z z (wz z z z z z z (wz z z z z z z (wz z z z z z z (wv (.bool false) z z (x_pick_f z z z) ?_))))))))))))
 refine wv (.bool false) z z z (wl_nil (tn ?_))
 replace hst := hst.pull1.keep2
 obtain rfl := some_inj hm
 exact ⟨false, _, hx2726, (fu 0 p0 z (fu 1 r1_0 z (fu 5 (.int .i64 ((a1).length : Int)) z (fu 9 (.int .i64 z2460) z (fu 10 v2707 z (fu 11 (.int .i64 z2709) z (fu 12 (.bool false) z z))))))), hst⟩
}
}
 {
 clear hst
 rintro _ w2727 ⟨z2722, σ2723, hm, rfl, hst⟩
 dsimp only [law03_told_j5] at hm
 obtain ⟨y2776, hm, hx2777⟩ := joinO_some hm
 refine wp_cut (fun a w => ∃ (σ2774 : Nat → Value), (law03_told_j6 a1 z2709 z2460 z2706) () = some y2715 ∧ a = Fr 205 (upd (upd (upd (upd (upd (upd σ2774 0 (p0)) 1 (r1_0)) 5 (.int .i64 ((a1).length : Int))) 9 (.int .i64 z2460)) 10 (v2707)) 11 (.int .i64 z2709)) ∧ St w0 w I [objO at_label_Lattice p0 a0, ownS (tyInt .i64) v2707 z2706] R) ?_ ?_
 {
 refine wp_seq (wrl (wv (p0) z z z (wv (.int .i64 z2460) z z z (wv (.int .i64 z2709) z z z ?_))))
 obtain ⟨t2728, ht2729, hm⟩ := bind_some hm
 refine wc call15 [p0, I6 z2460, I6 z2709] z z z ?_
 refine (label_Lattice_Leq_ref hst.to1 ht2729).mono ?_
 rintro _ w2730 ⟨rfl, hst⟩
 refine ⟨_, z, ?_⟩
 replace hst := hst.of1
 refine wv (r1_0) z z z (wv (.int .i64 z2460) z z z (wv (.int .i64 z2709) z z z ?_))
 obtain ⟨t2733, ht2734, hm⟩ := bind_some hm
 refine wc call32 [r1_0, I6 z2460, I6 z2709] z z z ?_
 refine (ref03_Leq_ref (f1_0.mono (rd_weak _)) hst.to0 ht2734).mono ?_
 rintro _ w2735 ⟨rfl, hst⟩
 refine ⟨_, z, ?_⟩
 replace hst := hst.of0
 refine wv (.bool (!(t2728 == t2733))) z z (by kernel_rfl) (wv (.bool (!(t2728 == t2733))) z z z ?_)
 refine bsplit (!(t2728 == t2733)) (fun hc2738 => ?_) (fun hc2738 => ?_)
 {
 replace hm := bif_t hc2738 hm
 refine wo hc2738 z z z z z z (wo hc2738 z z z z z z (wl_off (wanted_undef z z z z) z (wl_off (wanted_undef z z z z) z (wl_off (wanted_undef z z z z) z (wl_off (wanted_undef z z z z) z (wl_off (wanted_undef z z z z) z (wl_off (wanted_undef z z z z) z (wl_off (wanted_undef z z z z) z (wl_off (wanted_undef z z z z) z (wl_off (wanted_undef z z z z) z (wl_off (wanted_undef z z z z) z (wl_off (wanted_undef z z z z) z ?_))))))))))))
 refine wl_off (wanted_undef z z z z) z (wl_off (wanted_undef z z z z) z (wl_off (wanted_undef z z z z) z (wl_off (wanted_undef z z z z) z (wl_off (wanted_undef z z z z) z (wl_off (wanted_undef z z z z) z (wl_off (wanted_undef z z z z) z (wl_off (wanted_undef z z z z) z (wl_off (wanted_undef z z z z) z (wo hc2738 z z z z z z (wv (.bool true) z z (x_pick_t hc2738 z z) (wv (.bool true) z z z (wz z z z z z z ?_))))))))))))
 refine wz z z z z z z (wz z z z z z z (wl_off (wanted_undef z z z z) z (wl_off (wanted_undef z z z z) z (wl_off (wanted_undef z z z z) z (wl_off (wanted_undef z z z z) z (wl_off (wanted_undef z z z z) z (wl_off (wanted_undef z z z z) z (wl_off (wanted_undef z z z z) z (wl_off (wanted_undef z z z z) z (wl_off (wanted_undef z z z z) z (wl_off (wanted_undef z z z z) z (wl_off (wanted_undef z z z z) z ?_))))))))))))
 refine wl_off (wanted_undef z z z z) z (wz z z z z z z (wv (.bool true) z z (x_pick_t z z z) (wl_nil (tn ?_))))
 refine wp_ift z ?_
 refine wp_seq (wrl (wv (.bool false) z z z (wl_nil (tn (wp_ret (then_r ?_))))))
 replace hm := inr_up hm hx2777
 refine blk_r (then_r (then_r ?_))
 replace hm := inr_up hm hx2716
 refine blk_r (then_r ?_)
 replace hm := inr_up hm hx2801
 refine blk_r (then_r (then_r ?_))
 replace hm := inr_up hm hx2467
 refine blk_r (then_r ?_)
 obtain rfl := some_inj hm
 refine post_ret (vs := [.bool false]) results20 (rvs_cons (rv_tmp z) rvs_nil) ?_
 exact ⟨z, hst.keep1⟩
}
 {
 replace hm := bif_f hc2738 hm
 refine wv (.bool z2722) ((wanted_eq z z z (cvb hc2738)).trans z) z z (wv (.bool z2722) ((wanted_eq z z z (cvb hc2738)).trans z) z z ?_)
 refine bsplit z2722 (fun hc2739 => ?_) (fun hc2739 => ?_)
 {
 replace hm := bif_t hc2739 hm
 refine wv (p0) ((wanted_eq z z z (cvb hc2739)).trans z) z z (wv (.int .i64 z2460) ((wanted_eq z z z (cvb hc2739)).trans z) z z (wv (.int .i64 z2709) ((wanted_eq z z z (cvb hc2739)).trans z) z z ?_))
 obtain ⟨t2740, ht2741, hm⟩ := bind_some hm
 refine wl_call ((wanted_eq z z z (cvb hc2739)).trans z) z (x_call call13 z (vs := [p0, I6 z2460, I6 z2709]) z) ?_
 refine (label_Lattice_Join_ref hst.to1 ht2741).mono ?_
 rintro _ w2742 ⟨rfl, hst⟩
 refine ⟨_, z, ?_⟩
 replace hst := hst.of1
 refine wv (r1_0) ((wanted_eq z z z (cvb hc2739)).trans z) z z (wv (.int .i64 z2460) ((wanted_eq z z z (cvb hc2739)).trans z) z z (wv (.int .i64 z2709) ((wanted_eq z z z (cvb hc2739)).trans z) z z ?_))
 obtain ⟨t2745, ht2746, hm⟩ := bind_some hm
 refine wl_call ((wanted_eq z z z (cvb hc2739)).trans z) z (x_call call33 z (vs := [r1_0, I6 z2460, I6 z2709]) z) ?_
 refine (ref03_Join_ref (f1_0.mono (rd_weak _)) hst.to0 ht2746).mono ?_
 rintro _ w2747 ⟨rfl, hst⟩
 refine ⟨_, z, ?_⟩
 replace hst := hst.of0
 refine wv (.bool (t2740 != t2745)) ((wanted_eq z z z (cvb hc2739)).trans z) z z (wv (.bool (t2740 != t2745)) ((wanted_eq z z z (cvb hc2739)).trans z) z z ?_)
 refine bsplit (t2740 != t2745) (fun hc2750 => ?_) (fun hc2750 => ?_)
 {
 replace hm := bif_t hc2750 hm
 refine wo hc2750 z z z z z z (wo hc2750 z z z z z z (wo hc2750 z z z z z z (wo hc2750 z z z z z z (wo hc2750 z z z z z z (wo hc2750 z z z z z z (wo hc2750 z z z z z z (wo hc2750 z z z z z z (wo hc2750 z z z z z z (wv (.bool true) ((wanted_eq z z z (cvb hc2739)).trans z) z (x_pick_t hc2750 z z) (wv (.bool true) ((wanted_eq z z z (cvb hc2738)).trans z) z (x_pick_t hc2739 z z) (wv (.bool true) z z (x_pick_f hc2738 z z) (wv (.bool true) z z z ?_))))))))))))
 refine wz z z z z z z (wz z z z z z z (wz z z z z z z (wl_off (wanted_undef z z z z) z (wl_off (wanted_undef z z z z) z (wl_off (wanted_undef z z z z) z (wl_off (wanted_undef z z z z) z (wl_off (wanted_undef z z z z) z (wl_off (wanted_undef z z z z) z (wl_off (wanted_undef z z z z) z (wl_off (wanted_undef z z z z) z (wl_off (wanted_undef z z z z) z (wl_off (wanted_undef z z z z) z ?_))))))))))))
 refine wl_off (wanted_undef z z z z) z (wl_off (wanted_undef z z z z) z (wz z z z z z z (wv (.bool true) z z (x_pick_t z z z) (wl_nil (tn ?_)))))
 refine wp_ift z ?_
 refine wp_seq (wrl (wv (.bool false) z z z (wl_nil (tn (wp_ret (then_r ?_))))))
 replace hm := inr_up hm hx2777
 refine blk_r (then_r (then_r ?_))
 replace hm := inr_up hm hx2716
 refine blk_r (then_r ?_)
 replace hm := inr_up hm hx2801
 refine blk_r (then_r (then_r ?_))
 replace hm := inr_up hm hx2467
 refine blk_r (then_r ?_)
 obtain rfl := some_inj hm
 refine post_ret (vs := [.bool false]) results20 (rvs_cons (rv_tmp z) rvs_nil) ?_
 exact ⟨z, hst.keep1⟩
}
 {
 replace hm := bif_f hc2750 hm
 refine wv (p0) ((wanted_eq z z z (cvb hc2750)).trans z) z z (wv (.int .i64 z2460) ((wanted_eq z z z (cvb hc2750)).trans z) z z (wv (.int .i64 z2709) ((wanted_eq z z z (cvb hc2750)).trans z) z z ?_))
 obtain ⟨t2751, ht2752, hm⟩ := bind_some hm
 refine wl_call ((wanted_eq z z z (cvb hc2750)).trans z) z (x_call call14 z (vs := [p0, I6 z2460, I6 z2709]) z) ?_
 refine (label_Lattice_Meet_ref hst.to1 ht2752).mono ?_
 rintro _ w2753 ⟨rfl, hst⟩
 refine ⟨_, z, ?_⟩
 replace hst := hst.of1
 refine wv (r1_0) ((wanted_eq z z z (cvb hc2750)).trans z) z z (wv (.int .i64 z2460) ((wanted_eq z z z (cvb hc2750)).trans z) z z (wv (.int .i64 z2709) ((wanted_eq z z z (cvb hc2750)).trans z) z z ?_))
 obtain ⟨t2756, ht2757, hm⟩ := bind_some hm
 refine wl_call ((wanted_eq z z z (cvb hc2750)).trans z) z (x_call call34 z (vs := [r1_0, I6 z2460, I6 z2709]) z) ?_
 refine (ref03_Meet_ref (f1_0.mono (rd_weak _)) hst.to0 ht2757).mono ?_
 rintro _ w2758 ⟨rfl, hst⟩
 refine ⟨_, z, ?_⟩
 replace hst := hst.of0
 refine wv (.bool (t2751 != t2756)) ((wanted_eq z z z (cvb hc2750)).trans z) z z (wv (.bool (t2751 != t2756)) ((wanted_eq z z z (cvb hc2739)).trans z) z (x_pick_f hc2750 z z) (wv (.bool (t2751 != t2756)) ((wanted_eq z z z (cvb hc2738)).trans z) z (x_pick_t hc2739 z z) (wv (.bool (t2751 != t2756)) z z (x_pick_f hc2738 z z) (wv (.bool (t2751 != t2756)) z z z ?_))))
 refine bsplit (t2751 != t2756) (fun hc2761 => ?_) (fun hc2761 => ?_)
 {
 replace hm := bif_t hc2761 hm
 refine wo hc2761 z z z z z z (wo hc2761 z z z z z z (wo hc2761 z z z z z z (wl_off (wanted_undef z z z z) z (wl_off (wanted_undef z z z z) z (wl_off (wanted_undef z z z z) z (wl_off (wanted_undef z z z z) z (wl_off (wanted_undef z z z z) z (wl_off (wanted_undef z z z z) z (wl_off (wanted_undef z z z z) z (wl_off (wanted_undef z z z z) z (wl_off (wanted_undef z z z z) z (wl_off (wanted_undef z z z z) z ?_))))))))))))
 refine wl_off (wanted_undef z z z z) z (wl_off (wanted_undef z z z z) z (wo hc2761 z z z z z z (wv (.bool true) z z (x_pick_t hc2761 z z) (wl_nil (tn ?_)))))
 refine wp_ift z ?_
 refine wp_seq (wrl (wv (.bool false) z z z (wl_nil (tn (wp_ret (then_r ?_))))))
 replace hm := inr_up hm hx2777
 refine blk_r (then_r (then_r ?_))
 replace hm := inr_up hm hx2716
 refine blk_r (then_r ?_)
 replace hm := inr_up hm hx2801
 refine blk_r (then_r (then_r ?_))
 replace hm := inr_up hm hx2467
 refine blk_r (then_r ?_)
 obtain rfl := some_inj hm
 refine post_ret (vs := [.bool false]) results20 (rvs_cons (rv_tmp z) rvs_nil) ?_
 exact ⟨z, hst.keep1⟩
}
 {
 replace hm := bif_f hc2761 hm
 refine wv (.bool z2722) ((wanted_eq z z z (cvb hc2761)).trans z) z z (wv (.bool (!z2722)) ((wanted_eq z z z (cvb hc2761)).trans z) z z (wv (.bool (!z2722)) ((wanted_eq z z z (cvb hc2761)).trans z) z z (wl_off ((wanted_eq z z z (cvb (not_f hc2739))).trans z) z (wl_off ((wanted_eq z z z (cvb (not_f hc2739))).trans z) z (wl_off ((wanted_eq z z z (cvb (not_f hc2739))).trans z) z (wl_off ((wanted_eq z z z (cvb (not_f hc2739))).trans z) z (wl_off ((wanted_eq z z z (cvb (not_f hc2739))).trans z) z (wl_off ((wanted_eq z z z (cvb (not_f hc2739))).trans z) z (wl_off (wanted_undef z z z z) z (wl_off (wanted_undef z z z z) z (wl_off (wanted_undef z z z z) z (wl_off (wanted_undef z z z z) z ?_))))))))))))
 refine wl_off (wanted_undef z z z z) z (wl_off ((wanted_eq z z z (cvb (not_f hc2739))).trans z) z (wv (.bool false) ((wanted_eq z z z (cvb hc2761)).trans z) z (x_pick_f (not_f hc2739) z z) (wv (.bool false) z z (x_pick_f hc2761 z z) (wl_nil (tn ?_)))))
 refine wp_iff z ?_
 refine wp_skip (tn ?_)
 replace hst := hst.pull1.pull1.keep2
 obtain rfl := some_inj hm
 exact ⟨_, hx2777, (fu 0 p0 z (fu 1 r1_0 z (fu 5 (.int .i64 ((a1).length : Int)) z (fu 9 (.int .i64 z2460) z (fu 10 v2707 z (fu 11 (.int .i64 z2709) z z)))))), hst⟩
}
}
}
 {
 replace hm := bif_f hc2739 hm
 refine wo hc2739 z z z z z z (wo hc2739 z z z z z z (wo hc2739 z z z z z z (wo hc2739 z z z z z z (wo hc2739 z z z z z z (wo hc2739 z z z z z z (wo hc2739 z z z z z z (wo hc2739 z z z z z z (wo hc2739 z z z z z z (wo hc2739 z z z z z z (wl_off (wanted_undef z z z z) z (wl_off (wanted_undef z z z z) z (wl_off (wanted_undef z z z z) z ?_))))))))))))
 refine wl_off (wanted_undef z z z z) z (wl_off (wanted_undef z z z z) z (wl_off (wanted_undef z z z z) z (wl_off (wanted_undef z z z z) z (wl_off (wanted_undef z z z z) z (wl_off (wanted_undef z z z z) z (wo hc2739 z z z z z z (wv (.bool false) ((wanted_eq z z z (cvb hc2738)).trans z) z (x_pick_f hc2739 z z) (wv (.bool false) z z (x_pick_f hc2738 z z) (wv (.bool false) z z z (wv (.bool z2722) ((wanted_eq z z z z).trans z) z z (wv (.bool (!z2722)) ((wanted_eq z z z z).trans z) z z (wv (.bool (!z2722)) ((wanted_eq z z z z).trans z) z z ?_))))))))))))
 refine wv (p0) ((wanted_eq z z z (cvb (not_tt hc2739))).trans z) z z (wv (.int .i64 z2460) ((wanted_eq z z z (cvb (not_tt hc2739))).trans z) z z (wv (.int .i64 z2709) ((wanted_eq z z z (cvb (not_tt hc2739))).trans z) z z ?_))
 obtain ⟨t2762, ht2763, hm⟩ := bind_some hm
 refine wl_call ((wanted_eq z z z (cvb (not_tt hc2739))).trans z) z (x_call call13 z (vs := [p0, I6 z2460, I6 z2709]) z) ?_
 refine (label_Lattice_Join_ref hst.to1 ht2763).mono ?_
 rintro _ w2764 ⟨rfl, hst⟩
 refine ⟨_, z, ?_⟩
 replace hst := hst.of1
 refine wv (.bool (t2762 != ((-1):Int))) ((wanted_eq z z z (cvb (not_tt hc2739))).trans z) z z (wv (.bool (t2762 != ((-1):Int))) ((wanted_eq z z z (cvb (not_tt hc2739))).trans z) z z ?_)
 refine bsplit (t2762 != ((-1):Int)) (fun hc2767 => ?_) (fun hc2767 => ?_)
 {
 replace hm := bif_t hc2767 hm
 refine wo hc2767 z z z z z z (wo hc2767 z z z z z z (wo hc2767 z z z z z z (wo hc2767 z z z z z z (wo hc2767 z z z z z z (wv (.bool true) ((wanted_eq z z z (cvb (not_tt hc2739))).trans z) z (x_pick_t hc2767 z z) (wv (.bool true) ((wanted_eq z z z z).trans z) z (x_pick_t (not_tt hc2739) z z) (wv (.bool true) z z (x_pick_f z z z) (wl_nil (tn ?_)))))))))
 refine wp_ift z ?_
 refine wp_seq (wrl (wv (.bool false) z z z (wl_nil (tn (wp_ret (then_r ?_))))))
 replace hm := inr_up hm hx2777
 refine blk_r (then_r (then_r ?_))
 replace hm := inr_up hm hx2716
 refine blk_r (then_r ?_)
 replace hm := inr_up hm hx2801
 refine blk_r (then_r (then_r ?_))
 replace hm := inr_up hm hx2467
 refine blk_r (then_r ?_)
 obtain rfl := some_inj hm
 refine post_ret (vs := [.bool false]) results20 (rvs_cons (rv_tmp z) rvs_nil) ?_
 exact ⟨z, hst.keep1⟩
}
 {
 replace hm := bif_f hc2767 hm
 refine wv (p0) ((wanted_eq z z z (cvb hc2767)).trans z) z z (wv (.int .i64 z2460) ((wanted_eq z z z (cvb hc2767)).trans z) z z (wv (.int .i64 z2709) ((wanted_eq z z z (cvb hc2767)).trans z) z z ?_))
 obtain ⟨t2768, ht2769, hm⟩ := bind_some hm
 refine wl_call ((wanted_eq z z z (cvb hc2767)).trans z) z (x_call call14 z (vs := [p0, I6 z2460, I6 z2709]) z) ?_
 refine (label_Lattice_Meet_ref hst.to1 ht2769).mono ?_
 rintro _ w2770 ⟨rfl, hst⟩
 refine ⟨_, z, ?_⟩
 replace hst := hst.of1
 refine wv (.bool (t2768 != ((-1):Int))) ((wanted_eq z z z (cvb hc2767)).trans z) z z (wv (.bool (t2768 != ((-1):Int))) ((wanted_eq z z z (cvb (not_tt hc2739))).trans z) z (x_pick_f hc2767 z z) (wv (.bool (t2768 != ((-1):Int))) ((wanted_eq z z z z).trans z) z (x_pick_t (not_tt hc2739) z z) (wv (.bool (t2768 != ((-1):Int))) z z (x_pick_f z z z) (wl_nil (tn ?_)))))
 refine bsplit (t2768 != ((-1):Int)) (fun hc2773 => ?_) (fun hc2773 => ?_)
 {
 replace hm := bif_t hc2773 hm
 refine wp_ift (cvb hc2773) ?_
 refine wp_seq (wrl (wv (.bool false) z z z (wl_nil (tn (wp_ret (then_r ?_))))))
 replace hm := inr_up hm hx2777
 refine blk_r (then_r (then_r ?_))
 replace hm := inr_up hm hx2716
 refine blk_r (then_r ?_)
 replace hm := inr_up hm hx2801
 refine blk_r (then_r (then_r ?_))
 replace hm := inr_up hm hx2467
 refine blk_r (then_r ?_)
 obtain rfl := some_inj hm
 refine post_ret (vs := [.bool false]) results20 (rvs_cons (rv_tmp z) rvs_nil) ?_
 exact ⟨z, hst.keep1⟩
}
 {
 replace hm := bif_f hc2773 hm
 refine wp_iff (cvb hc2773) ?_
 refine wp_skip (tn ?_)
 replace hst := hst.pull1.pull1.keep2
 obtain rfl := some_inj hm
 exact ⟨_, hx2777, (fu 0 p0 z (fu 1 r1_0 z (fu 5 (.int .i64 ((a1).length : Int)) z (fu 9 (.int .i64 z2460) z (fu 10 v2707 z (fu 11 (.int .i64 z2709) z z)))))), hst⟩
}
}
}
}
}
 {
 clear hst
 rintro _ w2778 ⟨σ2774, hm, rfl, hst⟩
 dsimp only [law03_told_j6] at hm
 refine wp_seq (wrl (wv (r1_0) z z z (wv (.int .i64 z2709) z z z (wv (.int .i64 z2460) z z z ?_))))
 obtain ⟨t2779, ht2780, hm⟩ := bind_some hm
 refine wc call32 [r1_0, I6 z2709, I6 z2460] z z z ?_
 refine (ref03_Leq_ref (f1_0.mono (rd_weak _)) hst.to0 ht2780).mono ?_
 rintro _ w2781 ⟨rfl, hst⟩
 refine ⟨_, z, ?_⟩
 replace hst := hst.of0
 refine wl_nil (tn ?_)
 refine bsplit t2779 (fun hc2784 => ?_) (fun hc2784 => ?_)
 {
 replace hm := bif_t hc2784 hm
 refine wp_ift (cvb hc2784) ?_
 refine wrl (wv (v2707) z z z (wv (.int .i64 z2709) z z z ?_))
 obtain ⟨b2785, w2786, ew2787, eb2788, hst⟩ := hst.lits (E := (tyInt .i64)) (xs := [z2709]) [[I6 z2709]] 3 1 z (Reps.cons z Reps.nil)
 refine wl_run (v := (.slice (some ⟨b2785, 0, none⟩) 1 1)) (w' := w2786) z z (x_als (by kernel_rfl) ew2787 eb2788) ?_
 obtain ⟨hg2790, hm⟩ := gd_some hm
 replace hst := hst.pull2
 obtain ⟨v2791, w2792, hr2793, hst⟩ := run_append elem_41 underlying41 hst hst.src1 (room_of hg2790 z) 41
 refine wl_run (v := v2791) (w' := w2792) z z (x_append z z hr2793) ?_
 refine wv (v2791) z z z (wl_nil (blk_n (tn (wrl (wv (.int .i64 z2709) z z z (wv (.int .i64 (i64.wrap (z2709 + (1:Int)))) z z z (wv (.int .i64 (i64.wrap (z2709 + (1:Int)))) z z z (wl_nil (tn ?_)))))))))
 replace hst := hst.pull2.pull1.keep2
 obtain rfl := some_inj hm
 exact ⟨_, Nat.lt_succ_self _, (z2706 ++ ([z2709])), (i64.wrap (z2709 + (1:Int))), v2791, _, hx2716, (fu 0 p0 z (fu 1 r1_0 z (fu 5 (.int .i64 ((a1).length : Int)) z (fu 9 (.int .i64 z2460) z (fu 10 v2791 z (fu 11 (.int .i64 (i64.wrap (z2709 + (1:Int)))) z z)))))), hst⟩
}
 {
 replace hm := bif_f hc2784 hm
 refine wp_iff (cvb hc2784) ?_
 refine wp_skip (blk_n (tn (wrl ?_)))
 refine wv (.int .i64 z2709) z z z (wv (.int .i64 (i64.wrap (z2709 + (1:Int)))) z z z (wv (.int .i64 (i64.wrap (z2709 + (1:Int)))) z z z (wl_nil (tn ?_))))
 replace hst := hst.pull1.keep2
 obtain rfl := some_inj hm
 exact ⟨_, Nat.lt_succ_self _, z2706, (i64.wrap (z2709 + (1:Int))), v2707, _, hx2716, (fu 0 p0 z (fu 1 r1_0 z (fu 5 (.int .i64 ((a1).length : Int)) z (fu 9 (.int .i64 z2460) z (fu 10 v2707 z (fu 11 (.int .i64 (i64.wrap (z2709 + (1:Int)))) z z)))))), hst⟩
}
}
}
}
 {
 replace hm := bif_f hc2718 hm
 refine wp_iff (cvb hc2718) ?_
 refine wp_exit (then_x (then_x ?_))
 replace hm := inr_up hm hx2716
 refine blk_x (tn ?_)
 replace hst := hst.pull1.keep2
 obtain rfl := some_inj hm
 exact ⟨z2706, v2707, _, hx2801, (fu 0 p0 z (fu 1 r1_0 z (fu 5 (.int .i64 ((a1).length : Int)) z (fu 9 (.int .i64 z2460) z (fu 10 v2707 z z))))), hst⟩
}
}
 {
 clear hst
 rintro _ w2802 ⟨z2797, v2796, σ2798, hm, rfl, hst⟩
 dsimp only [law03_told_j3] at hm
 refine wp_seq (wrl (wv (p0) z z z (wv (.int .i64 z2460) z z z ?_)))
 obtain ⟨t2803, ht2804, hm⟩ := bind_some hm
 refine wc call24 [p0, I6 z2460] z z z ?_
 refine (label_Lattice_Below_ref hst.to1 ht2804).mono ?_
 rintro _ w2805 ⟨v2808, rfl, hst⟩
 refine ⟨_, z, ?_⟩
 replace hst := hst.of2
 refine wv (v2808) z z z (wl_nil (tn ?_))
 obtain ⟨y2845, hm, hx2846⟩ := joinO_some hm
 refine wp_cut (fun a w => ∃ (σ2843 : Nat → Value), (law03_told_j7 t2803 z2797 z2460) () = some y2466 ∧ a = Fr 205 (upd (upd (upd (upd (upd (upd σ2843 0 (p0)) 1 (r1_0)) 5 (.int .i64 ((a1).length : Int))) 9 (.int .i64 z2460)) 10 (v2796)) 13 (v2808)) ∧ St w0 w I [objO at_label_Lattice p0 a0, ownS (tyInt .i64) v2796 z2797, ownS (tyInt .i64) v2808 t2803] R) ?_ ?_
 {
 refine wp_seq (wrl (wv (v2808) z z z (wv (.int .i64 ((t2803).length : Int)) z z (x_len z underlying41 hst.sv0) (wv (v2796) z z z (wv (.int .i64 ((z2797).length : Int)) z z (x_len z underlying41 hst.sv2) (wv (.bool (((t2803).length : Int) != ((z2797).length : Int))) z z z (wv (.bool (((t2803).length : Int) != ((z2797).length : Int))) z z z ?_)))))))
 refine bsplit (((t2803).length : Int) != ((z2797).length : Int)) (fun hc2810 => ?_) (fun hc2810 => ?_)
 {
 replace hm := bif_t hc2810 hm
 refine wo hc2810 z z z z z z (wo hc2810 z z z z z z (wo hc2810 z z z z z z (wo hc2810 z z z z z z (wo hc2810 z z z z z z (wo hc2810 z z z z z z (wl_off (wanted_undef z z z z) z (wl_off (wanted_undef z z z z) z (wl_off (wanted_undef z z z z) z (wo hc2810 z z z z z z (wo hc2810 z z z z z z (wv (.bool true) z z (x_pick_t hc2810 z z) (wv (.bool true) z z z ?_))))))))))))
 refine wz z z z z z z (wz z z z z z z (wz z z z z z z (wz z z z z z z (wz z z z z z z (wl_off (wanted_undef z z z z) z (wl_off (wanted_undef z z z z) z (wl_off (wanted_undef z z z z) z (wl_off (wanted_undef z z z z) z (wz z z z z z z (wv (.bool true) z z (x_pick_t z z z) (wl_nil (tn ?_))))))))))))
 refine wp_ift z ?_
 refine wp_seq (wrl (wv (.bool false) z z z (wl_nil (tn (wp_ret (then_r ?_))))))
 replace hm := inr_up hm hx2846
 refine blk_r (then_r (then_r ?_))
 replace hm := inr_up hm hx2467
 refine blk_r (then_r ?_)
 obtain rfl := some_inj hm
 refine post_ret (vs := [.bool false]) results20 (rvs_cons (rv_tmp z) rvs_nil) ?_
 replace hst := hst.pull1
 exact ⟨z, hst.keep1⟩
}
 {
 replace hm := bif_f hc2810 hm
 refine wv (p0) ((wanted_eq z z z (cvb hc2810)).trans z) z z (wv (.int .i64 z2460) ((wanted_eq z z z (cvb hc2810)).trans z) z z ?_)
 replace hst := hst.pull1
 obtain ⟨t2811, ht2812, hm⟩ := bind_some hm
 refine wl_call ((wanted_eq z z z (cvb hc2810)).trans z) z (x_call call23 z (vs := [p0, I6 z2460]) z) ?_
 refine (label_Lattice_Is_ref hst.to1 ht2812).mono ?_
 rintro _ w2813 ⟨rfl, hst⟩
 refine ⟨_, z, ?_⟩
 replace hst := hst.of1
 refine wv (.int .i64 z2460) ((wanted_eq z z z (cvb hc2810)).trans z) z z (wv (.bool (decide (z2460 ≥ (0:Int)))) ((wanted_eq z z z (cvb hc2810)).trans z) z z (wv (.bool (decide (z2460 ≥ (0:Int)))) ((wanted_eq z z z (cvb hc2810)).trans z) z z ?_))
 refine bsplit (decide (z2460 ≥ (0:Int))) (fun hc2816 => ?_) (fun hc2816 => ?_)
 {
 replace hm := bif_t hc2816 hm
 refine wv (.int .i64 z2460) ((wanted_eq z z z (cvb hc2816)).trans z) z z (wv (.int .i64 ((a1).length : Int)) ((wanted_eq z z z (cvb hc2816)).trans z) z z (wv (.bool (decide (z2460 < ((a1).length : Int)))) ((wanted_eq z z z (cvb hc2816)).trans z) z z (wv (.bool (decide (z2460 < ((a1).length : Int)))) ((wanted_eq z z z (cvb hc2810)).trans z) z (x_pick_t hc2816 z z) (wv (.bool (!(t2811 == (decide (z2460 < ((a1).length : Int)))))) ((wanted_eq z z z (cvb hc2810)).trans z) z (by kernel_rfl) (wv (.bool (!(t2811 == (decide (z2460 < ((a1).length : Int)))))) z z (x_pick_f hc2810 z z) (wv (.bool (!(t2811 == (decide (z2460 < ((a1).length : Int)))))) z z z ?_))))))
 refine bsplit (!(t2811 == (decide (z2460 < ((a1).length : Int))))) (fun hc2817 => ?_) (fun hc2817 => ?_)
 {
 replace hm := bif_t hc2817 hm
 refine wo hc2817 z z z z z z (wo hc2817 z z z z z z (wo hc2817 z z z z z z (wo hc2817 z z z z z z (wo hc2817 z z z z z z (wl_off (wanted_undef z z z z) z (wl_off (wanted_undef z z z z) z (wl_off (wanted_undef z z z z) z (wl_off (wanted_undef z z z z) z (wo hc2817 z z z z z z (wv (.bool true) z z (x_pick_t hc2817 z z) (wl_nil (tn ?_))))))))))))
 refine wp_ift z ?_
 refine wp_seq (wrl (wv (.bool false) z z z (wl_nil (tn (wp_ret (then_r ?_))))))
 replace hm := inr_up hm hx2846
 refine blk_r (then_r (then_r ?_))
 replace hm := inr_up hm hx2467
 refine blk_r (then_r ?_)
 obtain rfl := some_inj hm
 refine post_ret (vs := [.bool false]) results20 (rvs_cons (rv_tmp z) rvs_nil) ?_
 exact ⟨z, hst.keep1⟩
}
 {
 replace hm := bif_f hc2817 hm
 refine wv (p0) ((wanted_eq z z z (cvb hc2817)).trans z) z z (wv (.int .i64 z2460) ((wanted_eq z z z (cvb hc2817)).trans z) z z ?_)
 obtain ⟨t2818, ht2819, hm⟩ := bind_some hm
 refine wl_call ((wanted_eq z z z (cvb hc2817)).trans z) z (x_call call23 z (vs := [p0, I6 z2460]) z) ?_
 refine (label_Lattice_Is_ref hst.to1 ht2819).mono ?_
 rintro _ w2820 ⟨rfl, hst⟩
 refine ⟨_, z, ?_⟩
 replace hst := hst.of1
 refine wv (.bool (!t2818)) ((wanted_eq z z z (cvb hc2817)).trans z) z z (wv (.bool (!t2818)) ((wanted_eq z z z (cvb hc2817)).trans z) z z ?_)
 refine bsplit (!t2818) (fun hc2823 => ?_) (fun hc2823 => ?_)
 {
 replace hm := bif_t hc2823 hm
 refine wv (p0) ((wanted_eq z z z (cvb hc2823)).trans z) z z (wv (.int .i64 z2460) ((wanted_eq z z z (cvb hc2823)).trans z) z z ?_)
 obtain ⟨t2824, ht2825, hm⟩ := bind_some hm
 refine wl_call ((wanted_eq z z z (cvb hc2823)).trans z) z (x_call call18 z (vs := [p0, I6 z2460]) z) ?_
 refine (label_Lattice_Rank_ref hst.to1 ht2825).mono ?_
 rintro _ w2826 ⟨rfl, hst⟩
 refine ⟨_, z, ?_⟩
 replace hst := hst.of1
 refine wv (.bool (t2824 != ((-1):Int))) ((wanted_eq z z z (cvb hc2823)).trans z) z z (wv (.bool (t2824 != ((-1):Int))) ((wanted_eq z z z (cvb hc2817)).trans z) z (x_pick_t hc2823 z z) (wv (.bool (t2824 != ((-1):Int))) z z (x_pick_f hc2817 z z) (wl_nil (tn ?_))))
 refine bsplit (t2824 != ((-1):Int)) (fun hc2829 => ?_) (fun hc2829 => ?_)
 {
 replace hm := bif_t hc2829 hm
 refine wp_ift (cvb hc2829) ?_
 refine wp_seq (wrl (wv (.bool false) z z z (wl_nil (tn (wp_ret (then_r ?_))))))
 replace hm := inr_up hm hx2846
 refine blk_r (then_r (then_r ?_))
 replace hm := inr_up hm hx2467
 refine blk_r (then_r ?_)
 obtain rfl := some_inj hm
 refine post_ret (vs := [.bool false]) results20 (rvs_cons (rv_tmp z) rvs_nil) ?_
 exact ⟨z, hst.keep1⟩
}
 {
 replace hm := bif_f hc2829 hm
 refine wp_iff (cvb hc2829) ?_
 refine wp_skip (tn ?_)
 replace hst := hst.pull1.pull2.pull2.keep3
 obtain rfl := some_inj hm
 exact ⟨_, hx2846, (fu 0 p0 z (fu 1 r1_0 z (fu 5 (.int .i64 ((a1).length : Int)) z (fu 9 (.int .i64 z2460) z (fu 10 v2796 z (fu 13 v2808 z z)))))), hst⟩
}
}
 {
 replace hm := bif_f hc2823 hm
 refine wo hc2823 z z z z z z (wo hc2823 z z z z z z (wo hc2823 z z z z z z (wo hc2823 z z z z z z (wv (.bool false) ((wanted_eq z z z (cvb hc2817)).trans z) z (x_pick_f hc2823 z z) (wv (.bool false) z z (x_pick_f hc2817 z z) (wl_nil (tn ?_)))))))
 refine wp_iff z ?_
 refine wp_skip (tn ?_)
 replace hst := hst.pull1.pull2.pull2.keep3
 obtain rfl := some_inj hm
 exact ⟨_, hx2846, (fu 0 p0 z (fu 1 r1_0 z (fu 5 (.int .i64 ((a1).length : Int)) z (fu 9 (.int .i64 z2460) z (fu 10 v2796 z (fu 13 v2808 z z)))))), hst⟩
}
}
}
 {
 replace hm := bif_f hc2816 hm
 refine wo hc2816 z z z z z z (wo hc2816 z z z z z z (wo hc2816 z z z z z z (wv (.bool false) ((wanted_eq z z z (cvb hc2810)).trans z) z (x_pick_f hc2816 z z) (wv (.bool (!(t2811 == false))) ((wanted_eq z z z (cvb hc2810)).trans z) z (by kernel_rfl) (wv (.bool (!(t2811 == false))) z z (x_pick_f hc2810 z z) (wv (.bool (!(t2811 == false))) z z z ?_))))))
 refine bsplit (!(t2811 == false)) (fun hc2830 => ?_) (fun hc2830 => ?_)
 {
 replace hm := bif_t hc2830 hm
 refine wo hc2830 z z z z z z (wo hc2830 z z z z z z (wo hc2830 z z z z z z (wo hc2830 z z z z z z (wo hc2830 z z z z z z (wl_off (wanted_undef z z z z) z (wl_off (wanted_undef z z z z) z (wl_off (wanted_undef z z z z) z (wl_off (wanted_undef z z z z) z (wo hc2830 z z z z z z (wv (.bool true) z z (x_pick_t hc2830 z z) (wl_nil (tn ?_))))))))))))
 refine wp_ift z ?_
 refine wp_seq (wrl (wv (.bool false) z z z (wl_nil (tn (wp_ret (then_r ?_))))))
 replace hm := inr_up hm hx2846
 refine blk_r (then_r (then_r ?_))
 replace hm := inr_up hm hx2467
 refine blk_r (then_r ?_)
 obtain rfl := some_inj hm
 refine post_ret (vs := [.bool false]) results20 (rvs_cons (rv_tmp z) rvs_nil) ?_
 exact ⟨z, hst.keep1⟩
}
 {
 replace hm := bif_f hc2830 hm
 refine wv (p0) ((wanted_eq z z z (cvb hc2830)).trans z) z z (wv (.int .i64 z2460) ((wanted_eq z z z (cvb hc2830)).trans z) z z ?_)
 obtain ⟨t2831, ht2832, hm⟩ := bind_some hm
 refine wl_call ((wanted_eq z z z (cvb hc2830)).trans z) z (x_call call23 z (vs := [p0, I6 z2460]) z) ?_
 refine (label_Lattice_Is_ref hst.to1 ht2832).mono ?_
 rintro _ w2833 ⟨rfl, hst⟩
 refine ⟨_, z, ?_⟩
 replace hst := hst.of1
 refine wv (.bool (!t2831)) ((wanted_eq z z z (cvb hc2830)).trans z) z z (wv (.bool (!t2831)) ((wanted_eq z z z (cvb hc2830)).trans z) z z ?_)
 refine bsplit (!t2831) (fun hc2836 => ?_) (fun hc2836 => ?_)
 {
 replace hm := bif_t hc2836 hm
 refine wv (p0) ((wanted_eq z z z (cvb hc2836)).trans z) z z (wv (.int .i64 z2460) ((wanted_eq z z z (cvb hc2836)).trans z) z z ?_)
 obtain ⟨t2837, ht2838, hm⟩ := bind_some hm
 refine wl_call ((wanted_eq z z z (cvb hc2836)).trans z) z (x_call call18 z (vs := [p0, I6 z2460]) z) ?_
 refine (label_Lattice_Rank_ref hst.to1 ht2838).mono ?_
 rintro _ w2839 ⟨rfl, hst⟩
 refine ⟨_, z, ?_⟩
 replace hst := hst.of1
 refine wv (.bool (t2837 != ((-1):Int))) ((wanted_eq z z z (cvb hc2836)).trans z) z z (wv (.bool (t2837 != ((-1):Int))) ((wanted_eq z z z (cvb hc2830)).trans z) z (x_pick_t hc2836 z z) (wv (.bool (t2837 != ((-1):Int))) z z (x_pick_f hc2830 z z) (wl_nil (tn ?_))))
 refine bsplit (t2837 != ((-1):Int)) (fun hc2842 => ?_) (fun hc2842 => ?_)
 {
 replace hm := bif_t hc2842 hm
 refine wp_ift (cvb hc2842) ?_
 refine wp_seq (wrl (wv (.bool false) z z z (wl_nil (tn (wp_ret (then_r ?_))))))
 replace hm := inr_up hm hx2846
 refine blk_r (then_r (then_r ?_))
 replace hm := inr_up hm hx2467
 refine blk_r (then_r ?_)
 obtain rfl := some_inj hm
 refine post_ret (vs := [.bool false]) results20 (rvs_cons (rv_tmp z) rvs_nil) ?_
 exact ⟨z, hst.keep1⟩
}
 {
 replace hm := bif_f hc2842 hm
 refine wp_iff (cvb hc2842) ?_
 refine wp_skip (tn ?_)
 replace hst := hst.pull1.pull2.pull2.keep3
 obtain rfl := some_inj hm
 exact ⟨_, hx2846, (fu 0 p0 z (fu 1 r1_0 z (fu 5 (.int .i64 ((a1).length : Int)) z (fu 9 (.int .i64 z2460) z (fu 10 v2796 z (fu 13 v2808 z z)))))), hst⟩
}
}
 {
 replace hm := bif_f hc2836 hm
 refine wo hc2836 z z z z z z (wo hc2836 z z z z z z (wo hc2836 z z z z z z (wo hc2836 z z z z z z (wv (.bool false) ((wanted_eq z z z (cvb hc2830)).trans z) z (x_pick_f hc2836 z z) (wv (.bool false) z z (x_pick_f hc2830 z z) (wl_nil (tn ?_)))))))
 refine wp_iff z ?_
 refine wp_skip (tn ?_)
 replace hst := hst.pull1.pull2.pull2.keep3
 obtain rfl := some_inj hm
 exact ⟨_, hx2846, (fu 0 p0 z (fu 1 r1_0 z (fu 5 (.int .i64 ((a1).length : Int)) z (fu 9 (.int .i64 z2460) z (fu 10 v2796 z (fu 13 v2808 z z)))))), hst⟩
}
}
}
}
}
 {
 clear hst
 rintro _ w2847 ⟨σ2843, hm, rfl, hst⟩
 dsimp only [law03_told_j7] at hm
 refine wp_seq (wrl (wv (.int .i64 (0:Int)) z z z (wl_nil (tn (wp_block ?_)))))
 obtain ⟨n2875, hm⟩ := loopO_some hm
 refine wp_loop_n (fun n a w => ∃ (z2873 : Int) (σ2874 : Nat → Value), loopN (law03_told_l8 t2803 z2797 z2460) n z2873 = some y2466 ∧ a = Fr 205 (upd (upd (upd (upd (upd (upd (upd σ2874 0 (p0)) 1 (r1_0)) 5 (.int .i64 ((a1).length : Int))) 9 (.int .i64 z2460)) 10 (v2796)) 13 (v2808)) 14 (.int .i64 z2873)) ∧ St w0 w I [objO at_label_Lattice p0 a0, ownS (tyInt .i64) v2796 z2797, ownS (tyInt .i64) v2808 t2803] R) n2875 ⟨(0:Int), _, hm, (fu 0 p0 z (fu 1 r1_0 z (fu 5 (.int .i64 ((a1).length : Int)) z (fu 9 (.int .i64 z2460) z (fu 10 v2796 z (fu 13 v2808 z (fu 14 (.int .i64 (0:Int)) z z))))))), hst⟩ ?_
 rintro n2881 _ w2876 ⟨z2873, σ2874, hm, rfl, hst⟩
 obtain ⟨n2878, y2879, rfl, hm, hx2880⟩ := loopN_some hm
 dsimp only [law03_told_l8] at hm
 refine wp_seq (wp_seq (wrl (wv (.int .i64 z2873) z z z (wv (v2808) z z z (wv (.int .i64 ((t2803).length : Int)) z z (x_len z underlying41 hst.sv2) (wv (.bool (decide (z2873 < ((t2803).length : Int)))) z z z (wl_nil (tn ?_))))))))
 refine bsplit (decide (z2873 < ((t2803).length : Int))) (fun hc2882 => ?_) (fun hc2882 => ?_)
 {
 replace hm := bif_t hc2882 hm
 refine wp_ift (cvb hc2882) ?_
 refine wp_skip (tn (wp_seq (wp_block (wp_seq ?_))))
 refine wq_regionS hst Try.mixed (by kernel_rfl) ?_
 refine wq_run (v := v2808) z z (fun w hst => z) ?_
 refine wq_run (v := .int .i64 z2873) z z (fun w hst => z) ?_
 obtain ⟨x2883, hx2884, hm⟩ := bind_some hm
 obtain ⟨h2885, h2886, hi2887⟩ := geto_some hx2884
 refine wq_run (v := .pointer (some (eAddr v2808 (z2873.toNat * 1 + 0)))) z z (fun w hst => x_index z z underlying41 sizeOf3 hst.sv2 h2885 h2886) ?_
 refine wq_run (v := .int .i64 x2883) z z (fun w hst => x_load z isAgg3 (hst.ol2 hi2887 (by rintro _ rfl; rfl))) ?_
 refine wq_run (v := v2796) z z (fun w hst => z) ?_
 refine wq_run (v := .int .i64 z2873) z z (fun w hst => z) ?_
 obtain ⟨x2888, hx2889, hm⟩ := bind_some hm
 obtain ⟨h2890, h2891, hi2892⟩ := geto_some hx2889
 refine wq_run (v := .pointer (some (eAddr v2796 (z2873.toNat * 1 + 0)))) z z (fun w hst => x_index z z underlying41 sizeOf3 hst.sv1 h2890 h2891) ?_
 refine wq_run (v := .int .i64 x2888) z z (fun w hst => x_load z isAgg3 (hst.ol1 hi2892 (by rintro _ rfl; rfl))) ?_
 refine wq_run (v := .bool (x2883 != x2888)) z z (fun w hst => z) ?_
 refine wq_nil ?_
 intro w hst
 refine tn ?_
 refine bsplit (x2883 != x2888) (fun hc2893 => ?_) (fun hc2893 => ?_)
 {
 replace hm := bif_t hc2893 hm
 refine wp_ift (cvb hc2893) ?_
 refine wp_seq (wrl (wv (.bool false) z z z (wl_nil (tn (wp_ret (blk_r (then_r (then_r ?_))))))))
 replace hm := inr_up hm hx2880
 refine blk_r (blk_r (then_r (then_r ?_)))
 replace hm := inr_up hm hx2467
 refine blk_r (then_r ?_)
 obtain rfl := some_inj hm
 refine post_ret (vs := [.bool false]) results20 (rvs_cons (rv_tmp z) rvs_nil) ?_
 exact ⟨z, hst.keep1⟩
}
 {
 replace hm := bif_f hc2893 hm
 refine wp_iff (cvb hc2893) ?_
 refine wp_skip (blk_n (tn (wrl ?_)))
 refine wv (.int .i64 z2873) z z z (wv (.int .i64 (i64.wrap (z2873 + (1:Int)))) z z z (wv (.int .i64 (i64.wrap (z2873 + (1:Int)))) z z z (wl_nil (tn ?_))))
 replace hst := hst.pull2.pull2.pull2.keep3
 obtain rfl := some_inj hm
 exact ⟨_, Nat.lt_succ_self _, (i64.wrap (z2873 + (1:Int))), _, hx2880, (fu 0 p0 z (fu 1 r1_0 z (fu 5 (.int .i64 ((a1).length : Int)) z (fu 9 (.int .i64 z2460) z (fu 10 v2796 z (fu 13 v2808 z (fu 14 (.int .i64 (i64.wrap (z2873 + (1:Int)))) z z))))))), hst⟩
}
}
 {
 replace hm := bif_f hc2882 hm
 refine wp_iff (cvb hc2882) ?_
 refine wp_exit (then_x (then_x ?_))
 replace hm := inr_up hm hx2880
 refine blk_x (blk_n (tn (wrl ?_)))
 refine wv (.int .i64 z2460) z z z (wv (.int .i64 (i64.wrap (z2460 + (1:Int)))) z z z (wv (.int .i64 (i64.wrap (z2460 + (1:Int)))) z z z (wl_nil (tn ?_))))
 replace hst := hst.keep1
 obtain rfl := some_inj hm
 exact ⟨_, Nat.lt_succ_self _, (i64.wrap (z2460 + (1:Int))), _, hx2467, (fu 0 p0 z (fu 1 r1_0 z (fu 5 (.int .i64 ((a1).length : Int)) z (fu 9 (.int .i64 (i64.wrap (z2460 + (1:Int)))) z z)))), hst⟩
}
}
}
}
 {
 replace hm := bif_f hc2469 hm
 refine wp_iff (cvb hc2469) ?_
 refine wp_exit (then_x (then_x ?_))
 replace hm := inr_up hm hx2467
 refine blk_x (tn (wp_seq (wrl ?_)))
 refine wv (.bool true) z z z (wl_nil (tn (wp_ret ?_)))
 obtain rfl := some_inj hm
 refine post_ret (vs := [.bool true]) results20 (rvs_cons (rv_tmp z) rvs_nil) ?_
 exact ⟨z, hst.keep1⟩
}
}
}
}
}
}
}

theorem law03_LabelKeeps_ref {w0 w : World} {I : HL} {R : SP} {a0 : Int}  (hst : St w0 w I [] R) {r : (Bool)} (hm : law03_LabelKeeps a0 = some r) :
  Calls prog 7 #[U1 a0] w fun e w' => ∃ (I' : HL), e = .returned (.bool r) ∧ I.le I' ∧ St w0 w' I' [] R := by {
 unfold law03_LabelKeeps at hm
 refine calls_start (args := [U1 a0]) func7 z ntmps7 (Nat.le_of_ble_eq_true z) ?_
 have hI0 := HL.le.refl I
 refine wp_seq (wrl (wv (.bool false) z z z (wl_nil (tn (wp_seq (wrl (wv (.int .u8 a0) z z z ?_)))))))
 obtain ⟨t121, ht122, hm⟩ := bind_some hm
 refine wc call21 [U1 a0] z z z ?_
 refine (ref03_Lattices_ref hst.to0 ht122).mono ?_
 rintro _ w123 ⟨v126, rfl, hst⟩
 refine ⟨_, z, ?_⟩
 replace hst := hst.of1
 refine wv (v126) z z z (wl_nil (tn (wp_seq (wrl (wv (v126) z z z ?_)))))
 obtain ⟨css128, hq129, hst⟩ := hst.own_open
 obtain ⟨t130, ht131, hm⟩ := bind_some hm
 refine wc call10 [v126] z z z ?_
 refine (label_New_ref (hst.rdrow0 hq129) hst.to0 ht131).mono ?_
 rintro _ w132 ⟨I133, v135, rfl, hI134, hst⟩
 refine ⟨_, z, ?_⟩
 replace hst := hst.of1
 replace hI0 := hI0.trans hI134
 replace hst := hst.pull1.own_close (hq129.imp fun _ _ => Ty.mono _ (ro_le hI134))
 refine wv (.tuple #[v135, I6 t130.2]) z z z (wv (v135) z z z (wv (.int .i64 t130.2) z z z (wv (v135) z z z (wv (.int .i64 t130.2) z z z (wl_nil (tn (wp_seq (wrl (wv (v135) z z z ?_)))))))))
 replace hst := hst.pull1
 obtain ⟨t137, ht138, hm⟩ := bind_some hm
 refine wc call22 [v135] z z z ?_
 refine (label_Lattice_Order_ref hst.to1 ht138).mono ?_
 rintro _ w139 ⟨v142, rfl, hst⟩
 refine ⟨_, z, ?_⟩
 replace hst := hst.of2
 refine wv (v142) z z z (wl_nil (tn (wp_seq (wp_seq (wrl (wv (v142) z z z (wv (.int .i64 ((t137).length : Int)) z z (x_len z underlying41 hst.sv0) (wv (v126) z z z (wv (.int .i64 ((t121).length : Int)) z z (x_len z underlying28 hst.sv2) (wv (.bool (((t137).length : Int) != ((t121).length : Int))) z z z (wl_nil (tn ?_))))))))))))
 refine bsplit (((t137).length : Int) != ((t121).length : Int)) (fun hc144 => ?_) (fun hc144 => ?_)
 {
 replace hm := bif_t hc144 hm
 refine wp_ift (cvb hc144) ?_
 refine wp_seq (wrl (wv (.bool false) z z z (wl_nil (tn (wp_ret (then_r ?_))))))
 obtain rfl := some_inj hm
 refine post_ret (vs := [.bool false]) results7 (rvs_cons (rv_tmp z) rvs_nil) ?_
 exact ⟨_, z, hI0, hst.keep0⟩
}
 {
 replace hm := bif_f hc144 hm
 refine wp_iff (cvb hc144) ?_
 refine wp_skip (tn ?_)
 obtain ⟨y218, hm, hx219⟩ := bind_some hm
 refine wp_cut (fun a w => ∃ (σ216 : Nat → Value), (law03_LabelKeeps_j0 a0 t130) () = some r ∧ a = Fr 41 (upd (upd σ216 0 (.int .u8 a0)) 4 (v135)) ∧ St w0 w I133 [objO at_label_Lattice v135 t130.1] R) ?_ ?_
 {
 refine wp_seq (wrl (wv (.int .i64 (0:Int)) z z z (wl_nil (tn (wp_block ?_)))))
 obtain ⟨n190, hm⟩ := loopO_some hm
 refine wp_loop_n (fun n a w => ∃ (z186 : Int) (z187 : (List Int)) (z188 : (List Int)) (σ189 : Nat → Value), loopN (law03_LabelKeeps_l1) n (z186, z187, z188) = some y218 ∧ a = Fr 41 (upd (upd (upd (upd (upd σ189 0 (.int .u8 a0)) 3 (v126)) 4 (v135)) 6 (v142)) 7 (.int .i64 z186)) ∧ St w0 w I133 [ownS (tyInt .i64) v142 z188, objO at_label_Lattice v135 t130.1, ownS (tyInt .u64) v126 z187] R) n190 ⟨(0:Int), t121, t137, _, hm, (fu 0 (.int .u8 a0) z (fu 3 v126 z (fu 4 v135 z (fu 6 v142 z (fu 7 (.int .i64 (0:Int)) z z))))), hst⟩ ?_
 rintro n196 _ w191 ⟨z186, z187, z188, σ189, hm, rfl, hst⟩
 obtain ⟨n193, y194, rfl, hm, hx195⟩ := loopN_some hm
 dsimp only [law03_LabelKeeps_l1] at hm
 refine wp_seq (wp_seq (wrl (wv (.int .i64 z186) z z z (wv (v126) z z z (wv (.int .i64 ((z187).length : Int)) z z (x_len z underlying28 hst.sv2) (wv (.bool (decide (z186 < ((z187).length : Int)))) z z z (wl_nil (tn ?_))))))))
 refine bsplit (decide (z186 < ((z187).length : Int))) (fun hc197 => ?_) (fun hc197 => ?_)
 {
 replace hm := bif_t hc197 hm
 refine wp_ift (cvb hc197) ?_
 refine wp_skip (tn (wp_seq (wp_block (wp_seq (wrl ?_)))))
 refine wv (v126) z z z (wv (.int .i64 z186) z z z ?_)
 obtain ⟨x198, hx199, hm⟩ := bind_some hm
 obtain ⟨h200, h201, hi202⟩ := geto_some hx199
 refine wv (.pointer (some (eAddr v126 (z186.toNat * 1 + 0)))) z z (x_index z z underlying28 sizeOf43 hst.sv2 h200 h201) ?_
 replace hst := hst.pull2
 obtain ⟨w203, hr204, hst⟩ := hst.own_store (P := prog) (t := 43) (y := (0:Int)) hi202 0 (.int .u64 (0:Int)) sizeOf43 (Nat.le_of_ble_eq_true z) (oC z oN) (by rintro _ rfl; rfl)
 have hi205 := set_get hi202 (0:Int)
 have h206 := set_lt h201 z186.toNat (0:Int)
 refine wl_unit z z (x_unit hr204) ?_
 refine wl_nil (tn (wrl (wv (v142) z z z (wv (.int .i64 z186) z z z ?_))))
 obtain ⟨x207, hx208, hm⟩ := bind_some hm
 obtain ⟨h209, h210, hi211⟩ := geto_some hx208
 refine wv (.pointer (some (eAddr v142 (z186.toNat * 1 + 0)))) z z (x_index z z underlying41 sizeOf3 hst.sv1 h209 h210) ?_
 replace hst := hst.pull1
 obtain ⟨w212, hr213, hst⟩ := hst.own_store (P := prog) (t := 3) (y := (99:Int)) hi211 0 (.int .i64 (99:Int)) sizeOf3 (Nat.le_of_ble_eq_true z) (oC z oN) (by rintro _ rfl; rfl)
 have hi214 := set_get hi211 (99:Int)
 have h215 := set_lt h210 z186.toNat (99:Int)
 refine wl_unit z z (x_unit hr213) ?_
 refine wl_nil (blk_n (tn (wrl (wv (.int .i64 z186) z z z (wv (.int .i64 (i64.wrap (z186 + (1:Int)))) z z z (wv (.int .i64 (i64.wrap (z186 + (1:Int)))) z z z (wl_nil (tn ?_))))))))
 replace hst := hst.pull1.pull2.pull2.keep3
 obtain rfl := some_inj hm
 exact ⟨_, Nat.lt_succ_self _, (i64.wrap (z186 + (1:Int))), (z187.set z186.toNat (0:Int)), (z188.set z186.toNat (99:Int)), _, hx195, (fu 0 (.int .u8 a0) z (fu 3 v126 z (fu 4 v135 z (fu 6 v142 z (fu 7 (.int .i64 (i64.wrap (z186 + (1:Int)))) z z))))), hst⟩
}
 {
 replace hm := bif_f hc197 hm
 refine wp_iff (cvb hc197) ?_
 refine wp_exit (then_x (then_x ?_))
 replace hm := inr_up hm hx195
 refine blk_x (tn ?_)
 replace hst := hst.pull1.keep1
 obtain rfl := some_inj hm
 exact ⟨_, hx219, (fu 0 (.int .u8 a0) z (fu 4 v135 z z)), hst⟩
}
}
 {
 clear hst
 rintro _ w220 ⟨σ216, hm, rfl, hst⟩
 dsimp only [law03_LabelKeeps_j0] at hm
 refine wp_seq (wrl ?_)
 obtain ⟨t221, ht222, hm⟩ := bind_some hm
 refine wc call9 [] z z z ?_
 refine (law03_awake_ref hst.to0 ht222).mono ?_
 rintro _ w223 ⟨I224, rfl, hI225, hst⟩
 refine ⟨_, z, ?_⟩
 replace hst := hst.of0
 replace hI0 := hI0.trans hI225
 refine wv (.bool t221) z z z ?_
 refine bsplit t221 (fun hc226 => ?_) (fun hc226 => ?_)
 {
 replace hm := bif_t hc226 hm
 refine wv (v135) ((wanted_eq z z z (cvb hc226)).trans z) z z (wv (.int .u8 a0) ((wanted_eq z z z (cvb hc226)).trans z) z z ?_)
 obtain ⟨t227, ht228, hm⟩ := bind_some hm
 refine wl_call ((wanted_eq z z z (cvb hc226)).trans z) z (x_call call21 z (vs := [U1 a0]) z) ?_
 refine (ref03_Lattices_ref hst.to0 ht228).mono ?_
 rintro _ w229 ⟨v232, rfl, hst⟩
 refine ⟨_, z, ?_⟩
 replace hst := hst.of1
 obtain ⟨css234, hq235, hst⟩ := hst.own_open
 replace hst := hst.pull1
 obtain ⟨t236, ht237, hm⟩ := bind_some hm
 refine wl_call ((wanted_eq z z z (cvb hc226)).trans z) z (x_call call20 z (vs := [v135, v232]) z) ?_
 refine (law03_told_ref (hst.sub.rdrow0 hq235) hst.to1 ht237).mono ?_
 rintro _ w238 ⟨rfl, hst⟩
 refine ⟨_, z, ?_⟩
 replace hst := hst.of1.pull1.own_close hq235
 refine wv (.bool t236) z z (x_pick_t hc226 z z) (wv (.bool t236) z z z (wl_nil (tn (wp_ret ?_))))
 obtain rfl := some_inj hm
 refine post_ret (vs := [.bool t236]) results7 (rvs_cons (rv_tmp z) rvs_nil) ?_
 exact ⟨_, z, hI0, hst.keep0⟩
}
 {
 replace hm := bif_f hc226 hm
 refine wo hc226 z z z z z z (wo hc226 z z z z z z (wo hc226 z z z z z z (wo hc226 z z z z z z (wv (.bool false) z z (x_pick_f hc226 z z) (wv (.bool false) z z z (wl_nil (tn (wp_ret ?_))))))))
 obtain rfl := some_inj hm
 refine post_ret (vs := [.bool false]) results7 (rvs_cons (rv_tmp z) rvs_nil) ?_
 exact ⟨_, z, hI0, hst.keep0⟩
}
}
}
}

end Go.Proofs.Ytddhkbholbcebaa
