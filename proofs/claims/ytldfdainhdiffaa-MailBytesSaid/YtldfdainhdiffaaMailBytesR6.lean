/- The Go functions refine their models, part 6. -/
import Derived.Test.YtldfdainhdiffaaMailBytesR5
set_option linter.unusedVariables false
set_option linter.unusedSimpArgs false
set_option maxRecDepth 100000
set_option maxHeartbeats 4000000
namespace Go.Proofs.Ytldfdainhdiffaa
open Go Go.V
open _root_.Go.Proofs.Try IntKind
attribute [local irreducible] wpList Code.wp wpQuiet Calls bodyPost Oper.wp wpS Nx PendOK YieldsIn
theorem law17_MailBytes_ref {w0 w : World} {I : HL} {R : SP} {a0 : (List Int)} {r0_0 : Value} (f0_0 : Ro (tyInt .u8) I r0_0 a0) (hst : St w0 w I [] R) {r : (Bool)} (hm : law17_MailBytes a0 = some r) :
  Calls prog 4 #[r0_0] w fun e w' => ∃ (I' : HL), e = .returned (.bool r) ∧ I.le I' ∧ St w0 w' I' [] R := by {
 unfold law17_MailBytes at hm
 refine calls_start (args := [r0_0]) func4 z ntmps4 (Nat.le_of_ble_eq_true z) ?_
 have hI0 := HL.le.refl I
 refine wp_seq (wrl (wv (.bool false) z z z (wl_nil (tn (wp_seq (wp_seq (wrl ?_)))))))
 obtain ⟨t861, ht862, hm⟩ := bind_some hm
 refine wc call6 [] z z z ?_
 refine (law17_awake_ref hst.to0 ht862).mono ?_
 rintro _ w863 ⟨rfl, hst⟩
 refine ⟨_, z, ?_⟩
 replace hst := hst.of0
 refine wv (.bool (!t861)) z z z (wv (.bool (!t861)) z z z ?_)
 refine bsplit (!t861) (fun hc866 => ?_) (fun hc866 => ?_)
 {
 replace hm := bif_t hc866 hm
 refine wo hc866 z z z z z z (wo hc866 z z z z z z (wo hc866 z z z z z z (wv (.bool true) z z (x_pick_t hc866 z z) (wl_nil (tn ?_)))))
 refine wp_ift z ?_
 refine wp_seq (wrl ?_)
 obtain ⟨t867, ht868, hm⟩ := bind_some hm
 refine wc call6 [] z z z ?_
 refine (law17_awake_ref hst.to0 ht868).mono ?_
 rintro _ w869 ⟨rfl, hst⟩
 refine ⟨_, z, ?_⟩
 replace hst := hst.of0
 refine wv (.bool t867) z z z (wl_nil (tn (wp_ret (then_r ?_))))
 obtain rfl := some_inj hm
 refine post_ret (vs := [.bool t867]) results4 (rvs_cons (rv_tmp z) rvs_nil) ?_
 exact ⟨_, z, hI0, hst.keep0⟩
}
 {
 replace hm := bif_f hc866 hm
 refine wv (r0_0) ((wanted_eq z z z (cvb hc866)).trans z) z z (wv (.int .i64 ((a0).length : Int)) ((wanted_eq z z z (cvb hc866)).trans z) z (x_len z underlying22 (ro_sliceV f0_0)) (wv (.bool (decide (((a0).length : Int) > (300:Int)))) ((wanted_eq z z z (cvb hc866)).trans z) z z (wv (.bool (decide (((a0).length : Int) > (300:Int)))) z z (x_pick_f hc866 z z) (wl_nil (tn ?_)))))
 refine bsplit (decide (((a0).length : Int) > (300:Int))) (fun hc872 => ?_) (fun hc872 => ?_)
 {
 replace hm := bif_t hc872 hm
 refine wp_ift (cvb hc872) ?_
 refine wp_seq (wrl ?_)
 obtain ⟨t873, ht874, hm⟩ := bind_some hm
 refine wc call6 [] z z z ?_
 refine (law17_awake_ref hst.to0 ht874).mono ?_
 rintro _ w875 ⟨rfl, hst⟩
 refine ⟨_, z, ?_⟩
 replace hst := hst.of0
 refine wv (.bool t873) z z z (wl_nil (tn (wp_ret (then_r ?_))))
 obtain rfl := some_inj hm
 refine post_ret (vs := [.bool t873]) results4 (rvs_cons (rv_tmp z) rvs_nil) ?_
 exact ⟨_, z, hI0, hst.keep0⟩
}
 {
 replace hm := bif_f hc872 hm
 refine wp_iff (cvb hc872) ?_
 refine wp_skip (tn (wp_seq (wrl ?_)))
 refine wv (r0_0) z z z (wv (.agg #[r0_0, Zi]) z z (by obtain ⟨_, _, hv_, _⟩ := (ro_sliceV f0_0); rw [hv_]; kernel_rfl) ?_)
 obtain ⟨b879, w880, ew881, eb882, hst⟩ := hst.box [r0_0, Zi] 57
 refine wl_run (v := Pt b879 0) (w' := w880) z z (x_al (by kernel_rfl) ew881 eb882) ?_
 refine wv (Pt b879 0) z z z (wl_nil (tn (wp_seq (wp_seq (wrl (wv (.int .i64 (0:Int)) z z z (wl_nil (tn (wp_block ?_)))))))))
 replace hst := at_ref12_Tape_close (pv := Pt b879 0) (x := ({ L := a0, I := (0:Int) } : ref12_Tape)) hst ⟨z, f0_0⟩
 obtain ⟨n1438, hm⟩ := loopO_some hm
 refine wp_loop_n (fun n a w => ∃ (I1436 : HL) (z1434 : ref12_Tape) (z1435 : Int) (σ1437 : Nat → Value), loopN (law17_MailBytes_l0) n (z1434, z1435) = some r ∧ a = Fr 49 (upd (upd σ1437 3 (Pt b879 0)) 4 (.int .i64 z1435)) ∧ I.le I1436 ∧ St w0 w I1436 [at_ref12_Tape (Pt b879 0) z1434] R) n1438 ⟨_, ({ L := a0, I := (0:Int) } : ref12_Tape), (0:Int), _, hm, (fu 3 (Pt b879 0) z (fu 4 (.int .i64 (0:Int)) z z)), (HL.le.refl _), hst⟩ ?_
 rintro n1444 _ w1439 ⟨I1436, z1434, z1435, σ1437, hm, rfl, hL1440, hst⟩
 obtain ⟨n1441, y1442, rfl, hm, hx1443⟩ := loopN_some hm
 dsimp only [law17_MailBytes_l0] at hm
 replace f0_0 := f0_0.mono (ro_le hL1440)
 replace hI0 := hI0.trans hL1440
 refine wp_seq (wp_seq (wrl (wv (.int .i64 z1435) z z z (wv (.bool (decide (z1435 < (5:Int)))) z z z (wl_nil (tn ?_))))))
 refine bsplit (decide (z1435 < (5:Int))) (fun hc1445 => ?_) (fun hc1445 => ?_)
 {
 replace hm := bif_t hc1445 hm
 refine wp_ift (cvb hc1445) ?_
 refine wp_skip (tn (wp_seq (wp_block (wp_seq (wrl ?_)))))
 refine wv (Pt b879 0) z z z ?_
 obtain ⟨t1446, ht1447, hm⟩ := bind_some hm
 refine wc call9 [Pt b879 0] z z z ?_
 refine (law17_make1_ref hst.to1 ht1447).mono ?_
 rintro _ w1448 ⟨I1449, v1451, v1453, v1455, v1457, v1459, v1461, v1463, v1465, v1467, v1469, v1471, v1473, v1475, v1477, v1479, v1481, rfl, hI1450, hst⟩
 refine ⟨_, z, ?_⟩
 replace hst := hst.of17
 replace f0_0 := f0_0.mono (ro_le hI1450)
 replace hI0 := hI0.trans hI1450
 replace hL1440 := hL1440.trans hI1450
 obtain ⟨b1499, w1500, ew1501, eb1502, hst⟩ := hst.box [Zb, Zb, Zi, Zi, Zu, Zu, Zu, Zu, .bool false, Zs, Zu, Zu, Zu, Zs, Zu, Zu, Zu, Zs, Zs, Zs, Zs, Zu, Zu, Zi, Zu, Zu, Zs, Zs, Zb, Zu, Zu, Zu, Zu, Zi, Zu, Zu, Zu, Zs, Zs, Zs, Zs, Zs, Zi, Zu, Zu, Zs, Zs, Zu, Zs, Zu, Zi, Zi, Zf, Zf, Zu, Zi, .bool false] 50
 refine wl_run (v := Pt b1499 0) (w' := w1500) z z (x_al (by kernel_rfl) ew1501 eb1502) ?_
 obtain ⟨w1504, hr1505, hst⟩ := hst.bx [U1 t1446.1.Kind, U1 t1446.1.M.Kind, I6 t1446.1.M.From, I6 t1446.1.M.To, U6 t1446.1.M.Term, U6 t1446.1.M.Index, U6 t1446.1.M.LogTerm, U6 t1446.1.M.Commit, .bool t1446.1.M.OK, v1451, U6 t1446.1.M.S.Index, U6 t1446.1.M.S.Term, U6 t1446.1.M.S.Voters, v1453, U6 t1446.1.H.ID.Session, U6 t1446.1.H.ID.Seq, U6 t1446.1.H.Epoch, v1455, v1457, v1459, v1461, U6 t1446.1.ID.Session, U6 t1446.1.ID.Seq, I6 t1446.1.R.E, U6 t1446.1.R.Epoch, U6 t1446.1.R.Index, v1463, v1465, U1 t1446.1.C.Kind, U6 t1446.1.C.ID.Session, U6 t1446.1.C.ID.Seq, U6 t1446.1.C.Epoch, U6 t1446.1.C.Index, I6 t1446.1.C.E, U6 t1446.1.C.Hold.ID.Session, U6 t1446.1.C.Hold.ID.Seq, U6 t1446.1.C.Hold.Epoch, v1467, v1469, v1471, v1473, v1475, I6 t1446.1.C.R.E, U6 t1446.1.C.R.Epoch, U6 t1446.1.C.R.Index, v1477, v1479, U6 t1446.1.C.Shards, v1481, U6 t1446.1.C.Rule.ID, I6 t1446.1.C.Rule.From, I6 t1446.1.C.Rule.To, F6 t1446.1.C.Rule.Lo, F6 t1446.1.C.Rule.Hi, U6 t1446.1.C.Rule.Authority, I6 t1446.1.C.Rule.Quota, .bool t1446.1.C.On] sizeOf50 z (oC z (oC z (oC z (oC z (oC z (oC z (oC z (oC z (oC z (oC (one_of_sliceV hst.sv1) (oC z (oC z (oC z (oC (one_of_sliceV hst.sv2) (oC z (oC z (oC z (oC (one_of_sliceV hst.sv3) (oC (one_of_sliceV hst.sv4) (oC (one_of_sliceV hst.sv5) (oC (one_of_sliceV hst.sv6) (oC z (oC z (oC z (oC z (oC z (oC (one_of_sliceV hst.sv7) (oC (one_of_sliceV hst.sv8) (oC z (oC z (oC z (oC z (oC z (oC z (oC z (oC z (oC z (oC (one_of_sliceV hst.sv9) (oC (one_of_sliceV hst.sv10) (oC (one_of_sliceV hst.sv11) (oC (one_of_sliceV hst.sv12) (oC (one_of_sliceV hst.sv13) (oC z (oC z (oC z (oC (one_of_sliceV hst.sv14) (oC (one_of_sliceV hst.sv15) (oC z (oC (one_of_sliceV hst.sv16) (oC z (oC z (oC z (oC z (oC z (oC z (oC z (oC z oN))))))))))))))))))))))))))))))))))))))))))))))))))))))))) (by kernel_rfl)
 refine wl_unit z z (x_unit hr1505) ?_
 refine wl_nil (tn (wp_seq (wrl (wv (.agg #[U1 t1446.1.Kind, U1 t1446.1.M.Kind, I6 t1446.1.M.From, I6 t1446.1.M.To, U6 t1446.1.M.Term, U6 t1446.1.M.Index, U6 t1446.1.M.LogTerm, U6 t1446.1.M.Commit, .bool t1446.1.M.OK, v1451, U6 t1446.1.M.S.Index, U6 t1446.1.M.S.Term, U6 t1446.1.M.S.Voters, v1453, U6 t1446.1.H.ID.Session, U6 t1446.1.H.ID.Seq, U6 t1446.1.H.Epoch, v1455, v1457, v1459, v1461, U6 t1446.1.ID.Session, U6 t1446.1.ID.Seq, I6 t1446.1.R.E, U6 t1446.1.R.Epoch, U6 t1446.1.R.Index, v1463, v1465, U1 t1446.1.C.Kind, U6 t1446.1.C.ID.Session, U6 t1446.1.C.ID.Seq, U6 t1446.1.C.Epoch, U6 t1446.1.C.Index, I6 t1446.1.C.E, U6 t1446.1.C.Hold.ID.Session, U6 t1446.1.C.Hold.ID.Seq, U6 t1446.1.C.Hold.Epoch, v1467, v1469, v1471, v1473, v1475, I6 t1446.1.C.R.E, U6 t1446.1.C.R.Epoch, U6 t1446.1.C.R.Index, v1477, v1479, U6 t1446.1.C.Shards, v1481, U6 t1446.1.C.Rule.ID, I6 t1446.1.C.Rule.From, I6 t1446.1.C.Rule.To, F6 t1446.1.C.Rule.Lo, F6 t1446.1.C.Rule.Hi, U6 t1446.1.C.Rule.Authority, I6 t1446.1.C.Rule.Quota, .bool t1446.1.C.On]) z z (x_loadN (cs := [U1 t1446.1.Kind, U1 t1446.1.M.Kind, I6 t1446.1.M.From, I6 t1446.1.M.To, U6 t1446.1.M.Term, U6 t1446.1.M.Index, U6 t1446.1.M.LogTerm, U6 t1446.1.M.Commit, .bool t1446.1.M.OK, v1451, U6 t1446.1.M.S.Index, U6 t1446.1.M.S.Term, U6 t1446.1.M.S.Voters, v1453, U6 t1446.1.H.ID.Session, U6 t1446.1.H.ID.Seq, U6 t1446.1.H.Epoch, v1455, v1457, v1459, v1461, U6 t1446.1.ID.Session, U6 t1446.1.ID.Seq, I6 t1446.1.R.E, U6 t1446.1.R.Epoch, U6 t1446.1.R.Index, v1463, v1465, U1 t1446.1.C.Kind, U6 t1446.1.C.ID.Session, U6 t1446.1.C.ID.Seq, U6 t1446.1.C.Epoch, U6 t1446.1.C.Index, I6 t1446.1.C.E, U6 t1446.1.C.Hold.ID.Session, U6 t1446.1.C.Hold.ID.Seq, U6 t1446.1.C.Hold.Epoch, v1467, v1469, v1471, v1473, v1475, I6 t1446.1.C.R.E, U6 t1446.1.C.R.Epoch, U6 t1446.1.C.R.Index, v1477, v1479, U6 t1446.1.C.Shards, v1481, U6 t1446.1.C.Rule.ID, I6 t1446.1.C.Rule.From, I6 t1446.1.C.Rule.To, F6 t1446.1.C.Rule.Lo, F6 t1446.1.C.Rule.Hi, U6 t1446.1.C.Rule.Authority, I6 t1446.1.C.Rule.Quota, .bool t1446.1.C.On]) z isAgg50 sizeOf50 (hst.bcs0 0 z)) ?_))))
 replace hst := hst.pull1
 obtain ⟨css1506, hq1507, hst⟩ := hst.own_open
 replace hst := hst.pull2
 obtain ⟨css1508, hq1509, hst⟩ := hst.own_open
 replace hst := hst.pull3
 obtain ⟨css1510, hq1511, hst⟩ := hst.own_open
 replace hst := hst.pull4
 obtain ⟨css1512, hq1513, hst⟩ := hst.own_open
 replace hst := hst.pull5
 obtain ⟨css1514, hq1515, hst⟩ := hst.own_open
 replace hst := hst.pull6
 obtain ⟨css1516, hq1517, hst⟩ := hst.own_open
 replace hst := hst.pull7
 obtain ⟨css1518, hq1519, hst⟩ := hst.own_open
 replace hst := hst.pull8
 obtain ⟨css1520, hq1521, hst⟩ := hst.own_open
 replace hst := hst.pull9
 obtain ⟨css1522, hq1523, hst⟩ := hst.own_open
 replace hst := hst.pull10
 obtain ⟨css1524, hq1525, hst⟩ := hst.own_open
 replace hst := hst.pull11
 obtain ⟨css1526, hq1527, hst⟩ := hst.own_open
 replace hst := hst.pull12
 obtain ⟨css1528, hq1529, hst⟩ := hst.own_open
 replace hst := hst.pull13
 obtain ⟨css1530, hq1531, hst⟩ := hst.own_open
 replace hst := hst.pull14
 obtain ⟨css1532, hq1533, hst⟩ := hst.own_open
 replace hst := hst.pull15
 obtain ⟨css1534, hq1535, hst⟩ := hst.own_open
 replace hst := hst.pull16
 obtain ⟨css1536, hq1537, hst⟩ := hst.own_open
 obtain ⟨t1538, ht1539, hm⟩ := bind_some hm
 refine wc call8 [.agg #[U1 t1446.1.Kind, U1 t1446.1.M.Kind, I6 t1446.1.M.From, I6 t1446.1.M.To, U6 t1446.1.M.Term, U6 t1446.1.M.Index, U6 t1446.1.M.LogTerm, U6 t1446.1.M.Commit, .bool t1446.1.M.OK, v1451, U6 t1446.1.M.S.Index, U6 t1446.1.M.S.Term, U6 t1446.1.M.S.Voters, v1453, U6 t1446.1.H.ID.Session, U6 t1446.1.H.ID.Seq, U6 t1446.1.H.Epoch, v1455, v1457, v1459, v1461, U6 t1446.1.ID.Session, U6 t1446.1.ID.Seq, I6 t1446.1.R.E, U6 t1446.1.R.Epoch, U6 t1446.1.R.Index, v1463, v1465, U1 t1446.1.C.Kind, U6 t1446.1.C.ID.Session, U6 t1446.1.C.ID.Seq, U6 t1446.1.C.Epoch, U6 t1446.1.C.Index, I6 t1446.1.C.E, U6 t1446.1.C.Hold.ID.Session, U6 t1446.1.C.Hold.ID.Seq, U6 t1446.1.C.Hold.Epoch, v1467, v1469, v1471, v1473, v1475, I6 t1446.1.C.R.E, U6 t1446.1.C.R.Epoch, U6 t1446.1.C.R.Index, v1477, v1479, U6 t1446.1.C.Shards, v1481, U6 t1446.1.C.Rule.ID, I6 t1446.1.C.Rule.From, I6 t1446.1.C.Rule.To, F6 t1446.1.C.Rule.Lo, F6 t1446.1.C.Rule.Hi, U6 t1446.1.C.Rule.Authority, I6 t1446.1.C.Rule.Quota, .bool t1446.1.C.On]] z z z ?_
 refine (mail_Encode_ref (hst.rdrow15 hq1507) (hst.rdrow14 hq1509) (hst.rdrow13 hq1511) (hst.rdrow12 hq1513) (hst.rdrow11 hq1515) (hst.rdrow10 hq1517) (hst.rdrow9 hq1519) (hst.rdrow8 hq1521) (hst.rdrow7 hq1523) (hst.rdrow6 hq1525) (hst.rdrow5 hq1527) (hst.rdrow4 hq1529) (hst.rdrow3 hq1531) (hst.rdrow2 hq1533) (hst.rdrow1 hq1535) (hst.rdrow0 hq1537) hst.to0 ht1539).mono ?_
 rintro _ w1540 ⟨v1543, rfl, hst⟩
 refine ⟨_, z, ?_⟩
 replace hst := hst.of1.pull16.own_close hq1507
 replace hst := hst.pull16.own_close hq1509
 replace hst := hst.pull16.own_close hq1511
 replace hst := hst.pull16.own_close hq1513
 replace hst := hst.pull16.own_close hq1515
 replace hst := hst.pull16.own_close hq1517
 replace hst := hst.pull16.own_close hq1519
 replace hst := hst.pull16.own_close hq1521
 replace hst := hst.pull16.own_close hq1523
 replace hst := hst.pull16.own_close hq1525
 replace hst := hst.pull16.own_close hq1527
 replace hst := hst.pull16.own_close hq1529
 replace hst := hst.pull16.own_close hq1531
 replace hst := hst.pull16.own_close hq1533
 replace hst := hst.pull16.own_close hq1535
 replace hst := hst.pull16.own_close hq1537
 refine wv (v1543) z z z (wl_nil (tn (wp_seq (wrl (wv (v1543) z z z ?_)))))
 replace hst := hst.pull16
 obtain ⟨I1545, hI1546, f1547, hst⟩ := hst.own_fix
 replace f0_0 := f0_0.mono (ro_le hI1546)
 replace hI0 := hI0.trans hI1546
 replace hL1440 := hL1440.trans hI1546
 obtain ⟨t1548, ht1549, hm⟩ := bind_some hm
 refine wc call7 [v1543] z z z ?_
 refine (mail_Decode_ref f1547 hst.to0 ht1549).mono ?_
 rintro _ w1550 ⟨I1551, v1553, v1555, v1557, v1559, v1561, v1563, v1565, v1567, v1569, v1571, v1573, v1575, v1577, v1579, v1581, v1583, rfl, hI1552, hst⟩
 refine ⟨_, z, ?_⟩
 replace hst := hst.of16
 replace f0_0 := f0_0.mono (ro_le hI1552)
 replace f1547 := f1547.mono (ro_le hI1552)
 replace hI0 := hI0.trans hI1552
 replace hL1440 := hL1440.trans hI1552
 refine wv (.tuple #[.agg #[U1 t1548.1.Kind, U1 t1548.1.M.Kind, I6 t1548.1.M.From, I6 t1548.1.M.To, U6 t1548.1.M.Term, U6 t1548.1.M.Index, U6 t1548.1.M.LogTerm, U6 t1548.1.M.Commit, .bool t1548.1.M.OK, v1553, U6 t1548.1.M.S.Index, U6 t1548.1.M.S.Term, U6 t1548.1.M.S.Voters, v1555, U6 t1548.1.H.ID.Session, U6 t1548.1.H.ID.Seq, U6 t1548.1.H.Epoch, v1557, v1559, v1561, v1563, U6 t1548.1.ID.Session, U6 t1548.1.ID.Seq, I6 t1548.1.R.E, U6 t1548.1.R.Epoch, U6 t1548.1.R.Index, v1565, v1567, U1 t1548.1.C.Kind, U6 t1548.1.C.ID.Session, U6 t1548.1.C.ID.Seq, U6 t1548.1.C.Epoch, U6 t1548.1.C.Index, I6 t1548.1.C.E, U6 t1548.1.C.Hold.ID.Session, U6 t1548.1.C.Hold.ID.Seq, U6 t1548.1.C.Hold.Epoch, v1569, v1571, v1573, v1575, v1577, I6 t1548.1.C.R.E, U6 t1548.1.C.R.Epoch, U6 t1548.1.C.R.Index, v1579, v1581, U6 t1548.1.C.Shards, v1583, U6 t1548.1.C.Rule.ID, I6 t1548.1.C.Rule.From, I6 t1548.1.C.Rule.To, F6 t1548.1.C.Rule.Lo, F6 t1548.1.C.Rule.Hi, U6 t1548.1.C.Rule.Authority, I6 t1548.1.C.Rule.Quota, .bool t1548.1.C.On], I6 t1548.2]) z z z (wv (.agg #[U1 t1548.1.Kind, U1 t1548.1.M.Kind, I6 t1548.1.M.From, I6 t1548.1.M.To, U6 t1548.1.M.Term, U6 t1548.1.M.Index, U6 t1548.1.M.LogTerm, U6 t1548.1.M.Commit, .bool t1548.1.M.OK, v1553, U6 t1548.1.M.S.Index, U6 t1548.1.M.S.Term, U6 t1548.1.M.S.Voters, v1555, U6 t1548.1.H.ID.Session, U6 t1548.1.H.ID.Seq, U6 t1548.1.H.Epoch, v1557, v1559, v1561, v1563, U6 t1548.1.ID.Session, U6 t1548.1.ID.Seq, I6 t1548.1.R.E, U6 t1548.1.R.Epoch, U6 t1548.1.R.Index, v1565, v1567, U1 t1548.1.C.Kind, U6 t1548.1.C.ID.Session, U6 t1548.1.C.ID.Seq, U6 t1548.1.C.Epoch, U6 t1548.1.C.Index, I6 t1548.1.C.E, U6 t1548.1.C.Hold.ID.Session, U6 t1548.1.C.Hold.ID.Seq, U6 t1548.1.C.Hold.Epoch, v1569, v1571, v1573, v1575, v1577, I6 t1548.1.C.R.E, U6 t1548.1.C.R.Epoch, U6 t1548.1.C.R.Index, v1579, v1581, U6 t1548.1.C.Shards, v1583, U6 t1548.1.C.Rule.ID, I6 t1548.1.C.Rule.From, I6 t1548.1.C.Rule.To, F6 t1548.1.C.Rule.Lo, F6 t1548.1.C.Rule.Hi, U6 t1548.1.C.Rule.Authority, I6 t1548.1.C.Rule.Quota, .bool t1548.1.C.On]) z z z (wv (.int .i64 t1548.2) z z z ?_))
 obtain ⟨b1601, w1602, ew1603, eb1604, hst⟩ := hst.box [Zb, Zb, Zi, Zi, Zu, Zu, Zu, Zu, .bool false, Zs, Zu, Zu, Zu, Zs, Zu, Zu, Zu, Zs, Zs, Zs, Zs, Zu, Zu, Zi, Zu, Zu, Zs, Zs, Zb, Zu, Zu, Zu, Zu, Zi, Zu, Zu, Zu, Zs, Zs, Zs, Zs, Zs, Zi, Zu, Zu, Zs, Zs, Zu, Zs, Zu, Zi, Zi, Zf, Zf, Zu, Zi, .bool false] 50
 refine wl_run (v := Pt b1601 0) (w' := w1602) z z (x_al (by kernel_rfl) ew1603 eb1604) ?_
 obtain ⟨w1606, hr1607, hst⟩ := hst.bx [U1 t1548.1.Kind, U1 t1548.1.M.Kind, I6 t1548.1.M.From, I6 t1548.1.M.To, U6 t1548.1.M.Term, U6 t1548.1.M.Index, U6 t1548.1.M.LogTerm, U6 t1548.1.M.Commit, .bool t1548.1.M.OK, v1553, U6 t1548.1.M.S.Index, U6 t1548.1.M.S.Term, U6 t1548.1.M.S.Voters, v1555, U6 t1548.1.H.ID.Session, U6 t1548.1.H.ID.Seq, U6 t1548.1.H.Epoch, v1557, v1559, v1561, v1563, U6 t1548.1.ID.Session, U6 t1548.1.ID.Seq, I6 t1548.1.R.E, U6 t1548.1.R.Epoch, U6 t1548.1.R.Index, v1565, v1567, U1 t1548.1.C.Kind, U6 t1548.1.C.ID.Session, U6 t1548.1.C.ID.Seq, U6 t1548.1.C.Epoch, U6 t1548.1.C.Index, I6 t1548.1.C.E, U6 t1548.1.C.Hold.ID.Session, U6 t1548.1.C.Hold.ID.Seq, U6 t1548.1.C.Hold.Epoch, v1569, v1571, v1573, v1575, v1577, I6 t1548.1.C.R.E, U6 t1548.1.C.R.Epoch, U6 t1548.1.C.R.Index, v1579, v1581, U6 t1548.1.C.Shards, v1583, U6 t1548.1.C.Rule.ID, I6 t1548.1.C.Rule.From, I6 t1548.1.C.Rule.To, F6 t1548.1.C.Rule.Lo, F6 t1548.1.C.Rule.Hi, U6 t1548.1.C.Rule.Authority, I6 t1548.1.C.Rule.Quota, .bool t1548.1.C.On] sizeOf50 z (oC z (oC z (oC z (oC z (oC z (oC z (oC z (oC z (oC z (oC (one_of_sliceV hst.sv1) (oC z (oC z (oC z (oC (one_of_sliceV hst.sv2) (oC z (oC z (oC z (oC (one_of_sliceV hst.sv3) (oC (one_of_sliceV hst.sv4) (oC (one_of_sliceV hst.sv5) (oC (one_of_sliceV hst.sv6) (oC z (oC z (oC z (oC z (oC z (oC (one_of_sliceV hst.sv7) (oC (one_of_sliceV hst.sv8) (oC z (oC z (oC z (oC z (oC z (oC z (oC z (oC z (oC z (oC (one_of_sliceV hst.sv9) (oC (one_of_sliceV hst.sv10) (oC (one_of_sliceV hst.sv11) (oC (one_of_sliceV hst.sv12) (oC (one_of_sliceV hst.sv13) (oC z (oC z (oC z (oC (one_of_sliceV hst.sv14) (oC (one_of_sliceV hst.sv15) (oC z (oC (one_of_sliceV hst.sv16) (oC z (oC z (oC z (oC z (oC z (oC z (oC z (oC z oN))))))))))))))))))))))))))))))))))))))))))))))))))))))))) (by kernel_rfl)
 refine wl_unit z z (x_unit hr1607) ?_
 refine wv (.int .i64 t1548.2) z z z (wl_nil (tn (wp_seq ?_)))
 refine wp_region_St hst 16 [0, 1, 2, 3, 4, 5, 6, 7, 8, 9, 10, 11, 12, 13, 14, 15] [0, 1, 0, 4, 12, 31, 63, 127, 255, 511, 1023, 2047, 2047, 8191, 16383, 32767] [] z (by kernel_rfl) (by kernel_rfl) Try.mixed (by kernel_rfl) ?_
 refine wsr (v1543) 0 z z z (by kernel_rfl) (fun w hst => z) (wsr (.string (toStr t1538)) 1 z z z (by kernel_rfl) (fun w hst => x_tostr underlying22 underlying9 underlying5 z (Src.of_ro hst f1547)) (wsr (.agg #[U1 t1446.1.Kind, U1 t1446.1.M.Kind, I6 t1446.1.M.From, I6 t1446.1.M.To, U6 t1446.1.M.Term, U6 t1446.1.M.Index, U6 t1446.1.M.LogTerm, U6 t1446.1.M.Commit, .bool t1446.1.M.OK, v1451, U6 t1446.1.M.S.Index, U6 t1446.1.M.S.Term, U6 t1446.1.M.S.Voters, v1453, U6 t1446.1.H.ID.Session, U6 t1446.1.H.ID.Seq, U6 t1446.1.H.Epoch, v1455, v1457, v1459, v1461, U6 t1446.1.ID.Session, U6 t1446.1.ID.Seq, I6 t1446.1.R.E, U6 t1446.1.R.Epoch, U6 t1446.1.R.Index, v1463, v1465, U1 t1446.1.C.Kind, U6 t1446.1.C.ID.Session, U6 t1446.1.C.ID.Seq, U6 t1446.1.C.Epoch, U6 t1446.1.C.Index, I6 t1446.1.C.E, U6 t1446.1.C.Hold.ID.Session, U6 t1446.1.C.Hold.ID.Seq, U6 t1446.1.C.Hold.Epoch, v1467, v1469, v1471, v1473, v1475, I6 t1446.1.C.R.E, U6 t1446.1.C.R.Epoch, U6 t1446.1.C.R.Index, v1477, v1479, U6 t1446.1.C.Shards, v1481, U6 t1446.1.C.Rule.ID, I6 t1446.1.C.Rule.From, I6 t1446.1.C.Rule.To, F6 t1446.1.C.Rule.Lo, F6 t1446.1.C.Rule.Hi, U6 t1446.1.C.Rule.Authority, I6 t1446.1.C.Rule.Quota, .bool t1446.1.C.On]) 2 z z z (by kernel_rfl) (fun w hst => x_loadN (cs := [U1 t1446.1.Kind, U1 t1446.1.M.Kind, I6 t1446.1.M.From, I6 t1446.1.M.To, U6 t1446.1.M.Term, U6 t1446.1.M.Index, U6 t1446.1.M.LogTerm, U6 t1446.1.M.Commit, .bool t1446.1.M.OK, v1451, U6 t1446.1.M.S.Index, U6 t1446.1.M.S.Term, U6 t1446.1.M.S.Voters, v1453, U6 t1446.1.H.ID.Session, U6 t1446.1.H.ID.Seq, U6 t1446.1.H.Epoch, v1455, v1457, v1459, v1461, U6 t1446.1.ID.Session, U6 t1446.1.ID.Seq, I6 t1446.1.R.E, U6 t1446.1.R.Epoch, U6 t1446.1.R.Index, v1463, v1465, U1 t1446.1.C.Kind, U6 t1446.1.C.ID.Session, U6 t1446.1.C.ID.Seq, U6 t1446.1.C.Epoch, U6 t1446.1.C.Index, I6 t1446.1.C.E, U6 t1446.1.C.Hold.ID.Session, U6 t1446.1.C.Hold.ID.Seq, U6 t1446.1.C.Hold.Epoch, v1467, v1469, v1471, v1473, v1475, I6 t1446.1.C.R.E, U6 t1446.1.C.R.Epoch, U6 t1446.1.C.R.Index, v1477, v1479, U6 t1446.1.C.Shards, v1481, U6 t1446.1.C.Rule.ID, I6 t1446.1.C.Rule.From, I6 t1446.1.C.Rule.To, F6 t1446.1.C.Rule.Lo, F6 t1446.1.C.Rule.Hi, U6 t1446.1.C.Rule.Authority, I6 t1446.1.C.Rule.Quota, .bool t1446.1.C.On]) z isAgg50 sizeOf50 (hst.bcs33 0 z)) ?_))
 refine ws_e1 3 (by kernel_rfl) ?_
 refine nxe [4, 5, 6, 7, 8, 9, 10, 11, 12, 13, 14, 15] (by kernel_rfl) z z ?_
 clear hst
 intro w hst
 replace hst := hst.pull32
 obtain ⟨css1608, hq1609, hst⟩ := hst.own_open
 replace hst := hst.pull32
 obtain ⟨css1610, hq1611, hst⟩ := hst.own_open
 replace hst := hst.pull32
 obtain ⟨css1612, hq1613, hst⟩ := hst.own_open
 replace hst := hst.pull32
 obtain ⟨css1614, hq1615, hst⟩ := hst.own_open
 replace hst := hst.pull32
 obtain ⟨css1616, hq1617, hst⟩ := hst.own_open
 replace hst := hst.pull32
 obtain ⟨css1618, hq1619, hst⟩ := hst.own_open
 replace hst := hst.pull32
 obtain ⟨css1620, hq1621, hst⟩ := hst.own_open
 replace hst := hst.pull32
 obtain ⟨css1622, hq1623, hst⟩ := hst.own_open
 replace hst := hst.pull32
 obtain ⟨css1624, hq1625, hst⟩ := hst.own_open
 replace hst := hst.pull32
 obtain ⟨css1626, hq1627, hst⟩ := hst.own_open
 replace hst := hst.pull32
 obtain ⟨css1628, hq1629, hst⟩ := hst.own_open
 replace hst := hst.pull32
 obtain ⟨css1630, hq1631, hst⟩ := hst.own_open
 replace hst := hst.pull32
 obtain ⟨css1632, hq1633, hst⟩ := hst.own_open
 replace hst := hst.pull32
 obtain ⟨css1634, hq1635, hst⟩ := hst.own_open
 replace hst := hst.pull32
 obtain ⟨css1636, hq1637, hst⟩ := hst.own_open
 replace hst := hst.pull32
 obtain ⟨css1638, hq1639, hst⟩ := hst.own_open
 obtain ⟨t1640, ht1641, hm⟩ := bind_some hm
 refine wec call10 [.agg #[U1 t1446.1.Kind, U1 t1446.1.M.Kind, I6 t1446.1.M.From, I6 t1446.1.M.To, U6 t1446.1.M.Term, U6 t1446.1.M.Index, U6 t1446.1.M.LogTerm, U6 t1446.1.M.Commit, .bool t1446.1.M.OK, v1451, U6 t1446.1.M.S.Index, U6 t1446.1.M.S.Term, U6 t1446.1.M.S.Voters, v1453, U6 t1446.1.H.ID.Session, U6 t1446.1.H.ID.Seq, U6 t1446.1.H.Epoch, v1455, v1457, v1459, v1461, U6 t1446.1.ID.Session, U6 t1446.1.ID.Seq, I6 t1446.1.R.E, U6 t1446.1.R.Epoch, U6 t1446.1.R.Index, v1463, v1465, U1 t1446.1.C.Kind, U6 t1446.1.C.ID.Session, U6 t1446.1.C.ID.Seq, U6 t1446.1.C.Epoch, U6 t1446.1.C.Index, I6 t1446.1.C.E, U6 t1446.1.C.Hold.ID.Session, U6 t1446.1.C.Hold.ID.Seq, U6 t1446.1.C.Hold.Epoch, v1467, v1469, v1471, v1473, v1475, I6 t1446.1.C.R.E, U6 t1446.1.C.R.Epoch, U6 t1446.1.C.R.Index, v1477, v1479, U6 t1446.1.C.Shards, v1481, U6 t1446.1.C.Rule.ID, I6 t1446.1.C.Rule.From, I6 t1446.1.C.Rule.To, F6 t1446.1.C.Rule.Lo, F6 t1446.1.C.Rule.Hi, U6 t1446.1.C.Rule.Authority, I6 t1446.1.C.Rule.Quota, .bool t1446.1.C.On]] z z ?_
 refine (ref13_Mail_ref (hst.rdrow15 hq1609) (hst.rdrow14 hq1611) (hst.rdrow13 hq1613) (hst.rdrow12 hq1615) (hst.rdrow11 hq1617) (hst.rdrow10 hq1619) (hst.rdrow9 hq1621) (hst.rdrow8 hq1623) (hst.rdrow7 hq1625) (hst.rdrow6 hq1627) (hst.rdrow5 hq1629) (hst.rdrow4 hq1631) (hst.rdrow3 hq1633) (hst.rdrow2 hq1635) (hst.rdrow1 hq1637) (hst.rdrow0 hq1639) hst.to0 ht1641).mono ?_
 rintro _ w1642 ⟨v1645, rfl, hst⟩
 refine ⟨_, z, ?_⟩
 replace hst := hst.of1.pull16.own_close hq1609
 replace hst := hst.pull16.own_close hq1611
 replace hst := hst.pull16.own_close hq1613
 replace hst := hst.pull16.own_close hq1615
 replace hst := hst.pull16.own_close hq1617
 replace hst := hst.pull16.own_close hq1619
 replace hst := hst.pull16.own_close hq1621
 replace hst := hst.pull16.own_close hq1623
 replace hst := hst.pull16.own_close hq1625
 replace hst := hst.pull16.own_close hq1627
 replace hst := hst.pull16.own_close hq1629
 replace hst := hst.pull16.own_close hq1631
 replace hst := hst.pull16.own_close hq1633
 replace hst := hst.pull16.own_close hq1635
 replace hst := hst.pull16.own_close hq1637
 replace hst := hst.pull16.own_close hq1639
 refine ws_next (pend' := [(1, .string (toStr t1538)), (0, v1543)]) hst (by kernel_rfl) (pkr z z (fun w hst => x_tostr underlying22 underlying9 underlying5 z (Src.of_ro hst f1547)) (pkr z z (fun w hst => z) pk_nil)) ?_
 refine wsr (.string (toStr t1640)) 4 z z z (by kernel_rfl) (fun w hst => x_tostr underlying22 underlying9 underlying5 z hst.src16) (wsr (.bool (!(sEq (toStr t1538) (toStr t1640)))) 5 z z z (by kernel_rfl) (fun w hst => by kernel_rfl) (wsr (.bool (!(sEq (toStr t1538) (toStr t1640)))) 6 z z z (by kernel_rfl) (fun w hst => z) ?_))
 refine bsplit (!(sEq (toStr t1538) (toStr t1640))) (fun hc1647 => ?_) (fun hc1647 => ?_)
 {
 replace hm := bif_t hc1647 hm
 refine ws_q (v := undef) 7 [8, 9, 10, 11, 12, 13, 14, 15] (by kernel_rfl) z z (yi_off ((wanted_eq z z z (cvb hc1647)).trans z)) (ws_q (v := undef) 8 [9, 10, 11, 12, 13, 14, 15] (by kernel_rfl) z z (yi_off ((wanted_eq z z z (cvb hc1647)).trans z)) (wsr (.bool true) 9 z z z (by kernel_rfl) (fun w hst => x_pick_t hc1647 z z) (wsr (.bool true) 10 z z z (by kernel_rfl) (fun w hst => z) (ws_q (v := undef) 11 [12, 13, 14, 15] (by kernel_rfl) z z (yi_off ((wanted_eq z z z z).trans z)) (ws_q (v := undef) 12 [13, 14, 15] (by kernel_rfl) z z (yi_off ((wanted_eq z z z z).trans z)) (ws_q (v := undef) 13 [14, 15] (by kernel_rfl) z z (yi_off ((wanted_eq z z z z).trans z)) (ws_q (v := undef) 14 [15] (by kernel_rfl) z z (yi_off ((wanted_eq z z z z).trans z)) (wsr (.bool true) 15 z z z (by kernel_rfl) (fun w hst => x_pick_t z z z) ?_))))))))
 refine ws_nil ?_
 intro w hst
 refine tn ?_
 refine wp_ift z ?_
 refine wp_seq (wrl (wv (.bool false) z z z (wl_nil (tn (wp_ret (blk_r (then_r (then_r ?_))))))))
 replace hm := inr_up hm hx1443
 refine blk_r (then_r ?_)
 obtain rfl := some_inj hm
 refine post_ret (vs := [.bool false]) results4 (rvs_cons (rv_tmp z) rvs_nil) ?_
 exact ⟨_, z, hI0, hst.keep0⟩
}
 {
 replace hm := bif_f hc1647 hm
 refine ws_q (v := .int .i64 t1548.2) 7 [8, 9, 10, 11, 12, 13, 14, 15] (by kernel_rfl) z z (yi_run ((wanted_eq z z z (cvb hc1647)).trans z) (fun w hst => z)) (ws_q (v := .bool (t1548.2 != (0:Int))) 8 [9, 10, 11, 12, 13, 14, 15] (by kernel_rfl) z z (yi_run ((wanted_eq z z z (cvb hc1647)).trans z) (fun w hst => z)) (wsr (.bool (t1548.2 != (0:Int))) 9 z z z (by kernel_rfl) (fun w hst => x_pick_f hc1647 z z) (wsr (.bool (t1548.2 != (0:Int))) 10 z z z (by kernel_rfl) (fun w hst => z) ?_)))
 refine bsplit (t1548.2 != (0:Int)) (fun hc1648 => ?_) (fun hc1648 => ?_)
 {
 replace hm := bif_t hc1648 hm
 refine ws_q (v := undef) 11 [12, 13, 14, 15] (by kernel_rfl) z z (yi_off ((wanted_eq z z z (cvb hc1648)).trans z)) (ws_q (v := undef) 12 [13, 14, 15] (by kernel_rfl) z z (yi_off ((wanted_eq z z z (cvb hc1648)).trans z)) (ws_q (v := undef) 13 [14, 15] (by kernel_rfl) z z (yi_off ((wanted_eq z z z (cvb hc1648)).trans z)) (ws_q (v := undef) 14 [15] (by kernel_rfl) z z (yi_off ((wanted_eq z z z (cvb hc1648)).trans z)) (wsr (.bool true) 15 z z z (by kernel_rfl) (fun w hst => x_pick_t hc1648 z z) ?_))))
 refine ws_nil ?_
 intro w hst
 refine tn ?_
 refine wp_ift z ?_
 refine wp_seq (wrl (wv (.bool false) z z z (wl_nil (tn (wp_ret (blk_r (then_r (then_r ?_))))))))
 replace hm := inr_up hm hx1443
 refine blk_r (then_r ?_)
 obtain rfl := some_inj hm
 refine post_ret (vs := [.bool false]) results4 (rvs_cons (rv_tmp z) rvs_nil) ?_
 exact ⟨_, z, hI0, hst.keep0⟩
}
 {
 replace hm := bif_f hc1648 hm
 refine ws_q (v := .agg #[U1 t1446.1.Kind, U1 t1446.1.M.Kind, I6 t1446.1.M.From, I6 t1446.1.M.To, U6 t1446.1.M.Term, U6 t1446.1.M.Index, U6 t1446.1.M.LogTerm, U6 t1446.1.M.Commit, .bool t1446.1.M.OK, v1451, U6 t1446.1.M.S.Index, U6 t1446.1.M.S.Term, U6 t1446.1.M.S.Voters, v1453, U6 t1446.1.H.ID.Session, U6 t1446.1.H.ID.Seq, U6 t1446.1.H.Epoch, v1455, v1457, v1459, v1461, U6 t1446.1.ID.Session, U6 t1446.1.ID.Seq, I6 t1446.1.R.E, U6 t1446.1.R.Epoch, U6 t1446.1.R.Index, v1463, v1465, U1 t1446.1.C.Kind, U6 t1446.1.C.ID.Session, U6 t1446.1.C.ID.Seq, U6 t1446.1.C.Epoch, U6 t1446.1.C.Index, I6 t1446.1.C.E, U6 t1446.1.C.Hold.ID.Session, U6 t1446.1.C.Hold.ID.Seq, U6 t1446.1.C.Hold.Epoch, v1467, v1469, v1471, v1473, v1475, I6 t1446.1.C.R.E, U6 t1446.1.C.R.Epoch, U6 t1446.1.C.R.Index, v1477, v1479, U6 t1446.1.C.Shards, v1481, U6 t1446.1.C.Rule.ID, I6 t1446.1.C.Rule.From, I6 t1446.1.C.Rule.To, F6 t1446.1.C.Rule.Lo, F6 t1446.1.C.Rule.Hi, U6 t1446.1.C.Rule.Authority, I6 t1446.1.C.Rule.Quota, .bool t1446.1.C.On]) 11 [12, 13, 14, 15] (by kernel_rfl) z z (yi_run ((wanted_eq z z z (cvb hc1648)).trans z) (fun w hst => x_loadN (cs := [U1 t1446.1.Kind, U1 t1446.1.M.Kind, I6 t1446.1.M.From, I6 t1446.1.M.To, U6 t1446.1.M.Term, U6 t1446.1.M.Index, U6 t1446.1.M.LogTerm, U6 t1446.1.M.Commit, .bool t1446.1.M.OK, v1451, U6 t1446.1.M.S.Index, U6 t1446.1.M.S.Term, U6 t1446.1.M.S.Voters, v1453, U6 t1446.1.H.ID.Session, U6 t1446.1.H.ID.Seq, U6 t1446.1.H.Epoch, v1455, v1457, v1459, v1461, U6 t1446.1.ID.Session, U6 t1446.1.ID.Seq, I6 t1446.1.R.E, U6 t1446.1.R.Epoch, U6 t1446.1.R.Index, v1463, v1465, U1 t1446.1.C.Kind, U6 t1446.1.C.ID.Session, U6 t1446.1.C.ID.Seq, U6 t1446.1.C.Epoch, U6 t1446.1.C.Index, I6 t1446.1.C.E, U6 t1446.1.C.Hold.ID.Session, U6 t1446.1.C.Hold.ID.Seq, U6 t1446.1.C.Hold.Epoch, v1467, v1469, v1471, v1473, v1475, I6 t1446.1.C.R.E, U6 t1446.1.C.R.Epoch, U6 t1446.1.C.R.Index, v1477, v1479, U6 t1446.1.C.Shards, v1481, U6 t1446.1.C.Rule.ID, I6 t1446.1.C.Rule.From, I6 t1446.1.C.Rule.To, F6 t1446.1.C.Rule.Lo, F6 t1446.1.C.Rule.Hi, U6 t1446.1.C.Rule.Authority, I6 t1446.1.C.Rule.Quota, .bool t1446.1.C.On]) z isAgg50 sizeOf50 (hst.bcs34 0 z))) (ws_q (v := .agg #[U1 t1548.1.Kind, U1 t1548.1.M.Kind, I6 t1548.1.M.From, I6 t1548.1.M.To, U6 t1548.1.M.Term, U6 t1548.1.M.Index, U6 t1548.1.M.LogTerm, U6 t1548.1.M.Commit, .bool t1548.1.M.OK, v1553, U6 t1548.1.M.S.Index, U6 t1548.1.M.S.Term, U6 t1548.1.M.S.Voters, v1555, U6 t1548.1.H.ID.Session, U6 t1548.1.H.ID.Seq, U6 t1548.1.H.Epoch, v1557, v1559, v1561, v1563, U6 t1548.1.ID.Session, U6 t1548.1.ID.Seq, I6 t1548.1.R.E, U6 t1548.1.R.Epoch, U6 t1548.1.R.Index, v1565, v1567, U1 t1548.1.C.Kind, U6 t1548.1.C.ID.Session, U6 t1548.1.C.ID.Seq, U6 t1548.1.C.Epoch, U6 t1548.1.C.Index, I6 t1548.1.C.E, U6 t1548.1.C.Hold.ID.Session, U6 t1548.1.C.Hold.ID.Seq, U6 t1548.1.C.Hold.Epoch, v1569, v1571, v1573, v1575, v1577, I6 t1548.1.C.R.E, U6 t1548.1.C.R.Epoch, U6 t1548.1.C.R.Index, v1579, v1581, U6 t1548.1.C.Shards, v1583, U6 t1548.1.C.Rule.ID, I6 t1548.1.C.Rule.From, I6 t1548.1.C.Rule.To, F6 t1548.1.C.Rule.Lo, F6 t1548.1.C.Rule.Hi, U6 t1548.1.C.Rule.Authority, I6 t1548.1.C.Rule.Quota, .bool t1548.1.C.On]) 12 [13, 14, 15] (by kernel_rfl) z z (yi_run ((wanted_eq z z z (cvb hc1648)).trans z) (fun w hst => x_loadN (cs := [U1 t1548.1.Kind, U1 t1548.1.M.Kind, I6 t1548.1.M.From, I6 t1548.1.M.To, U6 t1548.1.M.Term, U6 t1548.1.M.Index, U6 t1548.1.M.LogTerm, U6 t1548.1.M.Commit, .bool t1548.1.M.OK, v1553, U6 t1548.1.M.S.Index, U6 t1548.1.M.S.Term, U6 t1548.1.M.S.Voters, v1555, U6 t1548.1.H.ID.Session, U6 t1548.1.H.ID.Seq, U6 t1548.1.H.Epoch, v1557, v1559, v1561, v1563, U6 t1548.1.ID.Session, U6 t1548.1.ID.Seq, I6 t1548.1.R.E, U6 t1548.1.R.Epoch, U6 t1548.1.R.Index, v1565, v1567, U1 t1548.1.C.Kind, U6 t1548.1.C.ID.Session, U6 t1548.1.C.ID.Seq, U6 t1548.1.C.Epoch, U6 t1548.1.C.Index, I6 t1548.1.C.E, U6 t1548.1.C.Hold.ID.Session, U6 t1548.1.C.Hold.ID.Seq, U6 t1548.1.C.Hold.Epoch, v1569, v1571, v1573, v1575, v1577, I6 t1548.1.C.R.E, U6 t1548.1.C.R.Epoch, U6 t1548.1.C.R.Index, v1579, v1581, U6 t1548.1.C.Shards, v1583, U6 t1548.1.C.Rule.ID, I6 t1548.1.C.Rule.From, I6 t1548.1.C.Rule.To, F6 t1548.1.C.Rule.Lo, F6 t1548.1.C.Rule.Hi, U6 t1548.1.C.Rule.Authority, I6 t1548.1.C.Rule.Quota, .bool t1548.1.C.On]) z isAgg50 sizeOf50 (hst.bcs17 0 z))) ?_)
 refine ws_e1 13 (by kernel_rfl) ?_
 refine nxe [14, 15] (by kernel_rfl) z ((wanted_eq z z z (cvb hc1648)).trans z) ?_
 clear hst
 intro w hst
 replace hst := hst.pull15
 obtain ⟨css1649, hq1650, hst⟩ := hst.own_open
 replace hst := hst.pull15
 obtain ⟨css1651, hq1652, hst⟩ := hst.own_open
 replace hst := hst.pull15
 obtain ⟨css1653, hq1654, hst⟩ := hst.own_open
 replace hst := hst.pull15
 obtain ⟨css1655, hq1656, hst⟩ := hst.own_open
 replace hst := hst.pull15
 obtain ⟨css1657, hq1658, hst⟩ := hst.own_open
 replace hst := hst.pull15
 obtain ⟨css1659, hq1660, hst⟩ := hst.own_open
 replace hst := hst.pull15
 obtain ⟨css1661, hq1662, hst⟩ := hst.own_open
 replace hst := hst.pull15
 obtain ⟨css1663, hq1664, hst⟩ := hst.own_open
 replace hst := hst.pull15
 obtain ⟨css1665, hq1666, hst⟩ := hst.own_open
 replace hst := hst.pull15
 obtain ⟨css1667, hq1668, hst⟩ := hst.own_open
 replace hst := hst.pull15
 obtain ⟨css1669, hq1670, hst⟩ := hst.own_open
 replace hst := hst.pull15
 obtain ⟨css1671, hq1672, hst⟩ := hst.own_open
 replace hst := hst.pull15
 obtain ⟨css1673, hq1674, hst⟩ := hst.own_open
 replace hst := hst.pull15
 obtain ⟨css1675, hq1676, hst⟩ := hst.own_open
 replace hst := hst.pull15
 obtain ⟨css1677, hq1678, hst⟩ := hst.own_open
 replace hst := hst.pull15
 obtain ⟨css1679, hq1680, hst⟩ := hst.own_open
 replace hst := hst.pull18
 obtain ⟨css1681, hq1682, hst⟩ := hst.own_open
 replace hst := hst.pull19
 obtain ⟨css1683, hq1684, hst⟩ := hst.own_open
 replace hst := hst.pull20
 obtain ⟨css1685, hq1686, hst⟩ := hst.own_open
 replace hst := hst.pull21
 obtain ⟨css1687, hq1688, hst⟩ := hst.own_open
 replace hst := hst.pull22
 obtain ⟨css1689, hq1690, hst⟩ := hst.own_open
 replace hst := hst.pull23
 obtain ⟨css1691, hq1692, hst⟩ := hst.own_open
 replace hst := hst.pull24
 obtain ⟨css1693, hq1694, hst⟩ := hst.own_open
 replace hst := hst.pull25
 obtain ⟨css1695, hq1696, hst⟩ := hst.own_open
 replace hst := hst.pull26
 obtain ⟨css1697, hq1698, hst⟩ := hst.own_open
 replace hst := hst.pull27
 obtain ⟨css1699, hq1700, hst⟩ := hst.own_open
 replace hst := hst.pull28
 obtain ⟨css1701, hq1702, hst⟩ := hst.own_open
 replace hst := hst.pull29
 obtain ⟨css1703, hq1704, hst⟩ := hst.own_open
 replace hst := hst.pull30
 obtain ⟨css1705, hq1706, hst⟩ := hst.own_open
 replace hst := hst.pull31
 obtain ⟨css1707, hq1708, hst⟩ := hst.own_open
 replace hst := hst.pull32
 obtain ⟨css1709, hq1710, hst⟩ := hst.own_open
 replace hst := hst.pull33
 obtain ⟨css1711, hq1712, hst⟩ := hst.own_open
 obtain ⟨t1713, ht1714, hm⟩ := bind_some hm
 refine wec call11 [.agg #[U1 t1446.1.Kind, U1 t1446.1.M.Kind, I6 t1446.1.M.From, I6 t1446.1.M.To, U6 t1446.1.M.Term, U6 t1446.1.M.Index, U6 t1446.1.M.LogTerm, U6 t1446.1.M.Commit, .bool t1446.1.M.OK, v1451, U6 t1446.1.M.S.Index, U6 t1446.1.M.S.Term, U6 t1446.1.M.S.Voters, v1453, U6 t1446.1.H.ID.Session, U6 t1446.1.H.ID.Seq, U6 t1446.1.H.Epoch, v1455, v1457, v1459, v1461, U6 t1446.1.ID.Session, U6 t1446.1.ID.Seq, I6 t1446.1.R.E, U6 t1446.1.R.Epoch, U6 t1446.1.R.Index, v1463, v1465, U1 t1446.1.C.Kind, U6 t1446.1.C.ID.Session, U6 t1446.1.C.ID.Seq, U6 t1446.1.C.Epoch, U6 t1446.1.C.Index, I6 t1446.1.C.E, U6 t1446.1.C.Hold.ID.Session, U6 t1446.1.C.Hold.ID.Seq, U6 t1446.1.C.Hold.Epoch, v1467, v1469, v1471, v1473, v1475, I6 t1446.1.C.R.E, U6 t1446.1.C.R.Epoch, U6 t1446.1.C.R.Index, v1477, v1479, U6 t1446.1.C.Shards, v1481, U6 t1446.1.C.Rule.ID, I6 t1446.1.C.Rule.From, I6 t1446.1.C.Rule.To, F6 t1446.1.C.Rule.Lo, F6 t1446.1.C.Rule.Hi, U6 t1446.1.C.Rule.Authority, I6 t1446.1.C.Rule.Quota, .bool t1446.1.C.On], .agg #[U1 t1548.1.Kind, U1 t1548.1.M.Kind, I6 t1548.1.M.From, I6 t1548.1.M.To, U6 t1548.1.M.Term, U6 t1548.1.M.Index, U6 t1548.1.M.LogTerm, U6 t1548.1.M.Commit, .bool t1548.1.M.OK, v1553, U6 t1548.1.M.S.Index, U6 t1548.1.M.S.Term, U6 t1548.1.M.S.Voters, v1555, U6 t1548.1.H.ID.Session, U6 t1548.1.H.ID.Seq, U6 t1548.1.H.Epoch, v1557, v1559, v1561, v1563, U6 t1548.1.ID.Session, U6 t1548.1.ID.Seq, I6 t1548.1.R.E, U6 t1548.1.R.Epoch, U6 t1548.1.R.Index, v1565, v1567, U1 t1548.1.C.Kind, U6 t1548.1.C.ID.Session, U6 t1548.1.C.ID.Seq, U6 t1548.1.C.Epoch, U6 t1548.1.C.Index, I6 t1548.1.C.E, U6 t1548.1.C.Hold.ID.Session, U6 t1548.1.C.Hold.ID.Seq, U6 t1548.1.C.Hold.Epoch, v1569, v1571, v1573, v1575, v1577, I6 t1548.1.C.R.E, U6 t1548.1.C.R.Epoch, U6 t1548.1.C.R.Index, v1579, v1581, U6 t1548.1.C.Shards, v1583, U6 t1548.1.C.Rule.ID, I6 t1548.1.C.Rule.From, I6 t1548.1.C.Rule.To, F6 t1548.1.C.Rule.Lo, F6 t1548.1.C.Rule.Hi, U6 t1548.1.C.Rule.Authority, I6 t1548.1.C.Rule.Quota, .bool t1548.1.C.On]] z z ?_
 refine (law17_same_ref (hst.rdrow31 hq1650) (hst.rdrow30 hq1652) (hst.rdrow29 hq1654) (hst.rdrow28 hq1656) (hst.rdrow27 hq1658) (hst.rdrow26 hq1660) (hst.rdrow25 hq1662) (hst.rdrow24 hq1664) (hst.rdrow23 hq1666) (hst.rdrow22 hq1668) (hst.rdrow21 hq1670) (hst.rdrow20 hq1672) (hst.rdrow19 hq1674) (hst.rdrow18 hq1676) (hst.rdrow17 hq1678) (hst.rdrow16 hq1680) (hst.rdrow15 hq1682) (hst.rdrow14 hq1684) (hst.rdrow13 hq1686) (hst.rdrow12 hq1688) (hst.rdrow11 hq1690) (hst.rdrow10 hq1692) (hst.rdrow9 hq1694) (hst.rdrow8 hq1696) (hst.rdrow7 hq1698) (hst.rdrow6 hq1700) (hst.rdrow5 hq1702) (hst.rdrow4 hq1704) (hst.rdrow3 hq1706) (hst.rdrow2 hq1708) (hst.rdrow1 hq1710) (hst.rdrow0 hq1712) hst.to0 ht1714).mono ?_
 rintro _ w1715 ⟨rfl, hst⟩
 refine ⟨_, z, ?_⟩
 replace hst := hst.of0.pull31.own_close hq1650
 replace hst := hst.pull31.own_close hq1652
 replace hst := hst.pull31.own_close hq1654
 replace hst := hst.pull31.own_close hq1656
 replace hst := hst.pull31.own_close hq1658
 replace hst := hst.pull31.own_close hq1660
 replace hst := hst.pull31.own_close hq1662
 replace hst := hst.pull31.own_close hq1664
 replace hst := hst.pull31.own_close hq1666
 replace hst := hst.pull31.own_close hq1668
 replace hst := hst.pull31.own_close hq1670
 replace hst := hst.pull31.own_close hq1672
 replace hst := hst.pull31.own_close hq1674
 replace hst := hst.pull31.own_close hq1676
 replace hst := hst.pull31.own_close hq1678
 replace hst := hst.pull31.own_close hq1680
 replace hst := hst.pull31.own_close hq1682
 replace hst := hst.pull31.own_close hq1684
 replace hst := hst.pull31.own_close hq1686
 replace hst := hst.pull31.own_close hq1688
 replace hst := hst.pull31.own_close hq1690
 replace hst := hst.pull31.own_close hq1692
 replace hst := hst.pull31.own_close hq1694
 replace hst := hst.pull31.own_close hq1696
 replace hst := hst.pull31.own_close hq1698
 replace hst := hst.pull31.own_close hq1700
 replace hst := hst.pull31.own_close hq1702
 replace hst := hst.pull31.own_close hq1704
 replace hst := hst.pull31.own_close hq1706
 replace hst := hst.pull31.own_close hq1708
 replace hst := hst.pull31.own_close hq1710
 replace hst := hst.pull31.own_close hq1712
 refine ws_next (pend' := []) hst (by kernel_rfl) pk_nil ?_
 refine ws_q (v := .bool (!t1713)) 14 [15] (by kernel_rfl) z z (yi_run ((wanted_eq z z z (cvb hc1648)).trans z) (fun w hst => z)) (wsr (.bool (!t1713)) 15 z z z (by kernel_rfl) (fun w hst => x_pick_f hc1648 z z) ?_)
 refine ws_nil ?_
 intro w hst
 refine tn ?_
 refine bsplit (!t1713) (fun hc1718 => ?_) (fun hc1718 => ?_)
 {
 replace hm := bif_t hc1718 hm
 refine wp_ift (cvb hc1718) ?_
 refine wp_seq (wrl (wv (.bool false) z z z (wl_nil (tn (wp_ret (blk_r (then_r (then_r ?_))))))))
 replace hm := inr_up hm hx1443
 refine blk_r (then_r ?_)
 obtain rfl := some_inj hm
 refine post_ret (vs := [.bool false]) results4 (rvs_cons (rv_tmp z) rvs_nil) ?_
 exact ⟨_, z, hI0, hst.keep0⟩
}
 {
 replace hm := bif_f hc1718 hm
 refine wp_iff (cvb hc1718) ?_
 refine wp_skip (blk_n (tn (wrl ?_)))
 refine wv (.int .i64 z1435) z z z (wv (.int .i64 (i64.wrap (z1435 + (1:Int)))) z z z (wv (.int .i64 (i64.wrap (z1435 + (1:Int)))) z z z (wl_nil (tn ?_))))
 replace hst := hst.pull35.keep1
 obtain rfl := some_inj hm
 exact ⟨_, Nat.lt_succ_self _, _, t1446.2, (i64.wrap (z1435 + (1:Int))), _, hx1443, (fu 3 (Pt b879 0) z (fu 4 (.int .i64 (i64.wrap (z1435 + (1:Int)))) z z)), hL1440, hst⟩
}
}
}
}
 {
 replace hm := bif_f hc1445 hm
 refine wp_iff (cvb hc1445) ?_
 refine wp_exit (then_x (then_x ?_))
 replace hm := inr_up hm hx1443
 refine blk_x (tn (wp_seq (wrl ?_)))
 refine wv (.bool true) z z z (wl_nil (tn (wp_ret ?_)))
 obtain rfl := some_inj hm
 refine post_ret (vs := [.bool true]) results4 (rvs_cons (rv_tmp z) rvs_nil) ?_
 exact ⟨_, z, hI0, hst.keep0⟩
}
}
}
}

end Go.Proofs.Ytldfdainhdiffaa
